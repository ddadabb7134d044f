/- Parts of a proof: LE0 LEb AM ArgI. -/
import Derived.Test.YtjekapjbigfkbaaGreatDoorJ36
import Derived.Test.YtjekapjbigfkbaaGreatDoorJ15
import Derived.Deep.Slices
import Derived.SliceStrings
import Derived.ChangeSlices
import Derived.Test.YtjekapjbigfkbaaGreatDoorJ17
import Derived.Lib.SmallJoins
import Derived.Deep.SlicePairs
import Derived.SizedLaws
namespace Go.Proofs.YtjekapjbigfkbaaGreatDoor
open Go Go.RowKit Go.Deep
set_option maxRecDepth 100000
set_option linter.unusedSimpArgs false
def cosR (M : EM) (na : Nat) (x : Nat → Int) (nb : Nat) (y : Nat → Int) (W : ByteArray) (E : Int) : Prop := (VE M ∧ isWord na x = true ∧ isWord nb y = true ∧ W = (costC ⟨M, na, x, nb, y⟩).1 ∧ E = ((costC ⟨M, na, x, nb, y⟩).2 : Int)) ∨ (¬ (VE M ∧ isWord na x = true ∧ isWord nb y = true) ∧ W = ⟨#[]⟩ ∧ E = 1)
theorem CosE.val {M : EM} {na nb : Nat} {x y : Nat → Int} {w w' : World} {rr : Ending} (h : CosE M na x nb y w rr w') : ∃ W E, rr = .returned (.tuple #[.string W, .int .i64 E]) ∧ cosR M na x nb y W E ∧ Below w.heap.size w w' := by
  obtain ⟨hb, ⟨h1, h2, h3, h4⟩ | ⟨h1, h2⟩⟩ := h
  · exact ⟨_, _, h4, .inl ⟨h1, h2, h3, rfl, rfl⟩, hb⟩
  · exact ⟨_, _, h2, .inr ⟨h1, rfl, rfl⟩, hb⟩
theorem cosR.eq {M : EM} {na nb : Nat} {x y : Nat → Int} {W W' : ByteArray} {E E' : Int} (h : cosR M na x nb y W E) (h' : cosR M na x nb y W' E') : W = W' ∧ E = E' := by
  rcases h with ⟨a1, a2, a3, a4, a5⟩ | ⟨a1, a2, a3⟩ <;> rcases h' with ⟨b1, b2, b3, b4, b5⟩ | ⟨b1, b2, b3⟩
  · exact ⟨a4.trans b4.symm, a5.trans b5.symm⟩
  · exact absurd ⟨a1, a2, a3⟩ b1
  · exact absurd ⟨b1, b2, b3⟩ a1
  · exact ⟨a2.trans b2.symm, a3.trans b3.symm⟩
theorem row_eds {w : World} {B : Nat} {sv : Value} {M : EM} {F T : Nat → Value} (h : w.ownsRow B 50 3 sv M.n (cat (ed3 M F T) M.n)) (hf : ∀ i, i < M.n → Si none w (F i) (M.e i).nf (M.e i).f) (ht : ∀ i, i < M.n → Si none w (T i) (M.e i).nt (M.e i).t) : EdS none w sv M := by
  rcases h.2 with ⟨hv, h0⟩ | ⟨g, cap, cur, hv, hB, hg, h1, h2, h3, h4⟩
  · exact .inl ⟨h0, none, 0, by rw [hv], Nat.zero_le _⟩
  · refine .inr ⟨g, 0, cap, F, T, hv, ⟨(Array.getElem?_eq_some_iff.1 hg).1, by simp⟩, h1, h2, fun i hi => ?_⟩
    rw [hv] at h
    have hc : ∀ j, j < 3 → ∀ u, (ed3 M F T i)[j]? = some u → w.cell? ⟨g, i * 3 + j, none⟩ = some u := fun j hj u hu => row_cell h ((cat_get (ed3_len M F T) hj hi).trans hu)
    rw [Nat.zero_add]
    exact ⟨hc 0 (by omega) _ rfl, hc 1 (by omega) _ rfl, hc 2 (by omega) _ rfl, hf i hi, ht i hi⟩
theorem cosR.ok {M : EM} {na nb : Nat} {x y : Nat → Int} {W : ByteArray} {E : Int} (h : cosR M na x nb y W E) (h0 : E = 0) : VE M ∧ isWord na x = true ∧ isWord nb y = true ∧ ∃ o, IsCost ⟨M, na, x, nb, y⟩ o ∧ fitO o ∧ W = costT o := by
  rcases h with ⟨a1, a2, a3, a4, a5⟩ | ⟨_, _, a3⟩
  · rcases costC_spec (P := ⟨M, na, x, nb, y⟩) a1.m0 a1.ok with ⟨o, h1, h2, h3⟩ | ⟨_, h3⟩
    · rw [h3] at a4; exact ⟨a1, a2, a3, o, h1, h2, a4⟩
    · rw [h3] at a5; subst a5; cases h0
  · subst a3; cases h0
theorem cosR.val {M : EM} {na nb : Nat} {x y : Nat → Int} {W : ByteArray} {E : Int} (h : cosR M na x nb y W E) (hv : VE M) (hx : isWord na x = true) (hy : isWord nb y = true) : E = 0 ∨ (E = 2 ∧ TooL ⟨M, na, x, nb, y⟩) := by
  rcases h with ⟨a1, a2, a3, a4, a5⟩ | ⟨h, _⟩
  · rcases costC_spec (P := ⟨M, na, x, nb, y⟩) a1.m0 a1.ok with ⟨o, h1, h2, h3⟩ | ⟨h1, h3⟩
    · rw [h3] at a5; exact .inl a5
    · rw [h3] at a5; exact .inr ⟨a5, h1⟩
  · exact absurd ⟨hv, hx, hy⟩ h
end Go.Proofs.YtjekapjbigfkbaaGreatDoor

namespace Go.Proofs.YtjekapjbigfkbaaGreatDoor
open Go Go.RowKit Go.Deep
set_option maxRecDepth 100000
set_option linter.unusedSimpArgs false
theorem cosR.back {M : EM} {na nb : Nat} {x y : Nat → Int} {W W' : ByteArray} {E E' : Int} (h : cosR M na x nb y W E) (h' : cosR (backM M) nb y na x W' E') (hE : E ≠ 2) (hE' : E' ≠ 2) : W = W' ∧ E = E' := by
  rcases h with ⟨a1, a2, a3, a4, a5⟩ | ⟨a1, a2, a3⟩
  · rcases h' with ⟨b1, b2, b3, b4, b5⟩ | ⟨b1, _, _⟩
    · rcases costC_spec (P := ⟨M, na, x, nb, y⟩) a1.m0 a1.ok with ⟨o, h1, h2, h3⟩ | ⟨_, h3⟩
      · rcases costC_spec (P := ⟨backM M, nb, y, na, x⟩) b1.m0 b1.ok with ⟨o', h1', h2', h3'⟩ | ⟨_, h3'⟩
        · obtain rfl := IsCost.only (P := ⟨backM M, nb, y, na, x⟩) (IsCost.back h1) h1'
          rw [h3] at a4 a5; rw [h3'] at b4 b5
          exact ⟨a4.trans b4.symm, a5.trans b5.symm⟩
        · rw [h3'] at b5; exact absurd b5 hE'
      · rw [h3] at a5; exact absurd a5 hE
    · exact absurd ⟨VE.back.1 a1, a3, a2⟩ b1
  · rcases h' with ⟨b1, b2, b3, _, _⟩ | ⟨b1, b2, b3⟩
    · exact absurd ⟨VE.back.2 b1, b3, b2⟩ a1
    · exact ⟨a2.trans b2.symm, a3.trans b3.symm⟩
structure BkI (w0 w : World) (mb nb : Nat) (M : EM) (mv sv : Value) (q : Nat) (F T : Nat → Value) : Prop where
  km : BoxE w mb M mv
  kn : BxE w nb sv M.most
  top : w.ownsRow w0.heap.size 50 3 sv q (cat (ed3 (backM M) T F) q)
  be : Below w0.heap.size w0 w
  lm : w0.heap.size ≤ mb
  ln : w0.heap.size ≤ nb
  ne : mb ≠ nb
theorem BkI.add {w0 w we : World} {mb nb : Nat} {M : EM} {mv sv : Value} {q : Nat} {F T : Nat → Value} (h : BkI w0 w mb nb M mv sv q F T) {o : Obj} {go cp : Nat}
    (hown : we.ownsRow w0.heap.size 50 3 (.slice (some ⟨go, 0, none⟩) (q + 1) cp) (q + 1) (cat (ed3 (backM M) T F) q ++ [T q, F q, .string (M.e q).w])) (hgrow : (w.alloc o).grownBy we sv.ownBlock) :
    BkI w0 (we.setCell ⟨nb, 0, none⟩ (.slice (some ⟨go, 0, none⟩) (q + 1) cp)) mb nb M mv (.slice (some ⟨go, 0, none⟩) (q + 1) cp) (q + 1) F T := by
  have hfa : Fr (fun _ => False) w (w.alloc o) := Fr.alloc _ _
  have hsv : ∀ b c t f, w.heap[b]? = some (.cells c t f) → t ≠ 50 → sv.ownBlock ≠ some b := fun b c t f hb ht => own_blk h.top hb ht
  have hfg : Fr (fun q => sv.ownBlock = some q) (w.alloc o) we := Fr.of_gb hgrow (fun _ e => e)
  have hfw : Fr (fun q => sv.ownBlock = some q) w we := (hfa.mono (fun _ _ e => e.elim)).trans hfg
  have hkn : BxE we nb sv M.most := (hfw.block nb (lt_of_block h.kn) (fun e => hsv _ _ _ _ h.kn (by decide) e)).trans h.kn
  have hkm : BoxE we mb M mv := (hfw.block mb h.km.lt (fun e => hsv _ _ _ _ h.km (by decide) e)).trans h.km
  have hfs : Fr (fun q => q = nb) we (we.setCell ⟨nb, 0, none⟩ (.slice (some ⟨go, 0, none⟩) (q + 1) cp)) := (Fr.refl (fun q => q = nb) we).set (p := ⟨nb, 0, none⟩) (.inl rfl) _
  have hsn : (Value.slice (some ⟨go, 0, none⟩) (q + 1) cp).ownBlock ≠ some nb := own_blk hown hkn (by decide)
  refine ⟨?_, ?_, ?_, ?_, h.lm, h.ln, h.ne⟩
  · exact (hfs.block mb hkm.lt (fun e => h.ne e)).trans hkm
  · unfold BxE; unfold BxE at hkn; simp [World.setCell, Array.getElem?_modify, hkn]
  · have h4 := row_kept hown (z := some nb) (Fr.gb (hfs.mono (fun q _ e => by rw [e]))) (fun b hb e => hsn (by rw [hb, e]))
    rw [cat_succ]; exact h4
  · refine h.be.trans (((hfw.mono (C' := fun c => sv.ownBlock = some c ∨ c = nb) (fun _ _ e => .inl e)).trans (hfs.mono (fun _ _ e => .inr e))).below h.be.size (fun c e => ?_))
    rcases e with e | e
    · exact (World.ownsRow.lt h.top c e).1
    · rw [e]; exact h.ln
set_option maxHeartbeats 16000000 in
theorem editsBack_any {M : EM} {v xv yv : Value} {na nb : Nat} {x y : Nat → Int} (w : World) (hM : Em none w v M) (hs : ESz M) (hx : Si none w xv na x) (hy : Si none w yv nb y) (ht : Tab w) : Calls Tryz.prog 7 #[v, xv, yv] w (TrueB w) := by
  obtain ⟨sv, rfl, hS⟩ := hM
  have hna := le_of_len hx
  have hnb := le_of_len hy
  obtain ⟨a, cap, b, off, A, A', C, C', rfl, ha, hcp, hcm, hbb, hrow⟩ := hS.open
  obtain ⟨ax, cx, rfl⟩ := hx.shape
  obtain ⟨ay, cy, rfl⟩ := hy.shape
  obtain ⟨i0, hi0, hy0, hy1, hy2⟩ := info_parts2 info_edit
  have HI0 := Lib.hid hi0; clear hi0
  have HY0 := Lib.hid hy0; clear hy0
  have HY1 := Lib.hid hy1; clear hy1
  have HY2 := Lib.hid hy2; clear hy2
  obtain ⟨w1, hw1⟩ : ∃ w1, w1 = w.alloc (.cells #[.slice a M.n cap, .int .i64 M.most] 24) := ⟨_, rfl⟩
  obtain ⟨mb, hmb⟩ : ∃ mb, mb = w.heap.size := ⟨_, rfl⟩
  have hf1 : Fr (fun _ => False) w w1 := by rw [hw1]; exact Fr.alloc _ _
  have hbx : BoxE w1 mb M (.slice a M.n cap) := by rw [hw1, hmb]; exact BoxE.new w M _
  have hb1 : Below w.heap.size w w1 := hf1.below (Nat.le_refl _) (fun _ e => e.elim)
  have hex : ∀ W, Below w.heap.size w W → Calls Tryz.prog 12 #[] W (TrueB W) := fun W h => example37_any W (ht.below h (Nat.le_refl _))
  have hed : ∀ W, Below w.heap.size w W → EdS none W (.slice a M.n cap) M := fun W h => hS.kept (gb_below h none)
  have hco := fun W (h : Below w.heap.size w W) => ecost_any W (⟨_, rfl, hed W h⟩ : Em none W (.agg #[.slice a M.n cap, .int .i64 M.most]) M) hs (ht.below h (Nat.le_refl _)) (hx.kept (gb_below h none)) (hy.kept (gb_below h none))
  have hcb := fun W (h : Below w.heap.size w W) (v : Value) (hv : EdS none W v (backM M)) => ecost_any W (⟨_, rfl, hv⟩ : Em none W (.agg #[v, .int .i64 M.most]) (backM M)) ⟨hs.n, hs.t, hs.f, hs.w, hs.m0, hs.m1⟩ (ht.below h (Nat.le_refl _)) (hy.kept (gb_below h none)) (hx.kept (gb_below h none))
  have hla := fun W (h : Below w.heap.size w W) => large37_any W (hed W h)
  have hfa := fun W (h : Below w.heap.size w W) => far37_any (n := 2) (b := W.heap.size) (V := fun i => if i = 0 then .slice ax na cx else .slice ay nb cy) (L := fun i => if i = 0 then na else nb) (W.alloc (.cells #[.slice ax na cx, .slice ay nb cy] 27)) (by omega)
    (fun i hi => by
      have h2 : Below w.heap.size w (W.alloc (.cells #[.slice ax na cx, .slice ay nb cy] 27)) := h.alloc h.size _
      have hn := heap_alloc_new W (.cells #[.slice ax na cx, .slice ay nb cy] 27)
      generalize W.alloc (.cells #[.slice ax na cx, .slice ay nb cy] 27) = WW at hn h2
      rcases (show i = 0 ∨ i = 1 by omega) with rfl | rfl
      · exact ⟨by simp [World.cell?, hn], x, hx.kept (gb_below h2 none)⟩
      · exact ⟨by simp [World.cell?, hn], y, hy.kept (gb_below h2 none)⟩)
    (fun i _ => by show ((if i = 0 then na else nb : Nat) : Int) ≤ _; split <;> omega)
  have m0 := hbx.c0
  have m1 := hbx.c1
  have HEX := Lib.hid hex; clear hex
  have HCO := Lib.hid hco; clear hco
  have HCB := Lib.hid hcb; clear hcb
  have HLA := Lib.hid hla; clear hla
  have HFA := Lib.hid hfa; clear hfa
  have HB1 := Lib.hid hb1; clear hb1
  have HBX := Lib.hid hbx; clear hbx
  have HMB := Lib.hid (show w.heap.size ≤ mb by omega)
  have HA := Lib.hid ha; clear ha
  have HBB := Lib.hid hbb; clear hbb
  have HROW := Lib.hid hrow; clear hrow
  clear hS hs ht hf1 hed hx hy hcp hcm
  go_enter Tryz.func7, Tryz.ntmps7
  go_wp2_with fail
  rw [← hw1, ← hmb]
  clear hw1 hmb
  refine (HLA.out w1 HB1.out).mono ?_
  rintro rr w2 ⟨rfl, hb2⟩
  have HB2 := Lib.hid (HB1.out.trans (hb2.mono HB1.out.size))
  have HBX2 := Lib.hid (show BoxE w2 mb M (.slice a M.n cap) from (hb2.block mb HBX.out.lt).trans HBX.out)
  clear hb2 m0 m1 HB1 HBX HLA
  by_cases h6 : (60 : Int) < (M.n : Int)
  · have h6' : decide ((60 : Int) < (M.n : Int)) = true := by simp; omega
    go_wp2_with fail
    refine (HEX.out w2 HB2.out).mono ?_
    rintro rr w3 ⟨rfl, hb3⟩
    have HB3 := Lib.hid (HB2.out.trans (hb3.mono HB2.out.size))
    clear hb3
    go_wp2_with fail
    go_ret
    exact ⟨rfl, HB3.out⟩
  have h6' : decide ((60 : Int) < (M.n : Int)) = false := by simp; omega
  have hb3 : Below w.heap.size w (w2.alloc (.cells #[.slice ax na cx, .slice ay nb cy] 27)) := HB2.out.alloc HB2.out.size _
  have hbx3 : BoxE (w2.alloc (.cells #[.slice ax na cx, .slice ay nb cy] 27)) mb M (.slice a M.n cap) := ((Fr.alloc (C := fun _ => False) w2 _).block mb HBX2.out.lt (fun e => e)).trans HBX2.out
  have HB3 := Lib.hid hb3; clear hb3
  have HBX3 := Lib.hid hbx3; clear hbx3
  go_wp2_with fail
  refine (HFA.out w2 HB2.out).mono ?_
  rintro rr w4 ⟨fb, rfl, hfb, hb4⟩
  have HB4 := Lib.hid (HB3.out.trans (hb4.mono HB3.out.size))
  have HBX4 := Lib.hid (show BoxE w4 mb M (.slice a M.n cap) from (hb4.block mb HBX3.out.lt).trans HBX3.out)
  have m0 := HBX4.out.c0
  have m1 := HBX4.out.c1
  clear hb4 hfb HB3 HBX3 HB2 HBX2 HFA
  cases fb
  rotate_left
  · go_wp2_with fail
    refine (HEX.out w4 HB4.out).mono ?_
    rintro rr w5 ⟨rfl, hb5⟩
    have HB5 := Lib.hid (HB4.out.trans (hb5.mono HB4.out.size))
    clear hb5
    go_wp2_with fail
    go_ret
    exact ⟨rfl, HB5.out⟩
  obtain ⟨w5, hw5⟩ : ∃ w5, w5 = w4.alloc (.cells #[.slice none 0 0, .int .i64 M.most] 24) := ⟨_, rfl⟩
  obtain ⟨eb, heb⟩ : ∃ eb, eb = w4.heap.size := ⟨_, rfl⟩
  have hf5 : Fr (fun _ => False) w4 w5 := by rw [hw5]; exact Fr.alloc _ _
  have hbk : BkI w w5 mb eb M (.slice a M.n cap) (.slice none 0 0) 0 (fun i => .slice (A i) (M.e i).nf (C i)) (fun i => .slice (A' i) (M.e i).nt (C' i)) := by
    refine ⟨(hf5.block mb HBX4.out.lt (fun e => e)).trans HBX4.out, ?_, World.ownsRow_nil _ _ _ _, HB4.out.trans (hf5.below HB4.out.size (fun _ e => e.elim)), HMB.out, by have := HB4.out.size; omega, by have := HBX4.out.lt; omega⟩
    rw [hw5, heb]; exact heap_alloc_new w4 _
  have HBK := Lib.hid hbk; clear hbk hf5
  have hlt0 : M.n ≤ 60 := by omega
  clear h6 h6' HBX4
  go_wp2_with fail
  rw [← hw5, ← heb]
  clear hw5 heb m0 m1
  go_loopw [8] (fun v8 wr => ∃ q : Nat, q ≤ M.n ∧ v8 = .int .i64 (q : Int) ∧ ∃ sv, BkI w wr mb eb M (.slice a M.n cap) sv q (fun i => .slice (A i) (M.e i).nf (C i)) (fun i => .slice (A' i) (M.e i).nt (C' i))) (fun v8 _ => M.n - (intOf v8).toNat)
  case atStart => exact ⟨0, Nat.zero_le _, rfl, _, HBK.out⟩
  case round =>
    obtain ⟨q, hq, rfl, sv, hbk⟩ := hrel
    clear HBK HB4
    have HBK := Lib.hid hbk; clear hbk
    have m0 := HBK.out.km.c0
    have m1 := HBK.out.km.c1
    by_cases hqt : q < M.n
    · have hqz : (q : Int) < (M.n : Int) := by omega
      have hqz0 : (0 : Int) ≤ (q : Int) := by omega
      obtain rfl := HA.out (by omega)
      have hbl := (HBB.out (by omega)).1
      obtain ⟨k1, k2, k3, _, _⟩ := HROW.out q hqt
      have c0 := (HBK.out.be.cell (p := ⟨b, off + q * 3, none⟩) hbl).trans k1
      have c1 := (HBK.out.be.cell (p := ⟨b, off + q * 3 + 1, none⟩) hbl).trans k2
      have c2 := (HBK.out.be.cell (p := ⟨b, off + q * 3 + 2, none⟩) hbl).trans k3
      clear k1 k2 k3
      obtain ⟨sa, sc, hsv, _, _⟩ := row_any HBK.out.top
      subst hsv
      have n0 := cell_of HBK.out.kn 0 rfl
      obtain ⟨ds, hds⟩ : ∃ ds, ds = (M.e q).w := ⟨_, rfl⟩
      obtain ⟨nf, hnf⟩ : ∃ nf, nf = (M.e q).nf := ⟨_, rfl⟩
      obtain ⟨nt, hnt⟩ : ∃ nt, nt = (M.e q).nt := ⟨_, rfl⟩
      obtain ⟨wd, hwd⟩ : ∃ wd, wd = wr.drew := ⟨_, rfl⟩
      have hbkd : BkI w wd mb eb M (.slice (some ⟨b, off, none⟩) M.n cap) (.slice sa q sc) q (fun i => .slice (A i) (M.e i).nf (C i)) (fun i => .slice (A' i) (M.e i).nt (C' i)) := by
        rw [hwd]
        exact ⟨HBK.out.km, HBK.out.kn, HBK.out.top, HBK.out.be.drew, HBK.out.lm, HBK.out.ln, HBK.out.ne⟩
      have hadd : ∀ (o : Obj) (we : World) (go cp : Nat), we.ownsRow w.heap.size 50 3 (.slice (some ⟨go, 0, none⟩) (q + 1) cp) (q + 1) (cat (ed3 (backM M) (fun i => .slice (A' i) (M.e i).nt (C' i)) (fun i => .slice (A i) (M.e i).nf (C i))) q ++ [.slice (A' q) nt (C' q), .slice (A q) nf (C q), .string ds]) → (wd.alloc o).grownBy we (Value.slice sa q sc).ownBlock →
          BkI w (we.setCell ⟨eb, 0, none⟩ (.slice (some ⟨go, 0, none⟩) (q + 1) cp)) mb eb M (.slice (some ⟨b, off, none⟩) M.n cap) (.slice (some ⟨go, 0, none⟩) (q + 1) cp) (q + 1) (fun i => .slice (A i) (M.e i).nf (C i)) (fun i => .slice (A' i) (M.e i).nt (C' i)) := fun o we go cp h1 h2 => by
        rw [hnf, hnt, hds] at h1
        exact hbkd.add h1 h2
      have HADD := Lib.hid hadd; clear hadd
      have hfar : ∀ (o : Obj) (we : World), (wd.alloc o).grownBy we (Value.slice sa q sc).ownBlock → (we.cell? ⟨mb, 0, none⟩ = some (.slice (some ⟨b, off, none⟩) M.n cap) ∧ we.cell? ⟨eb, 0, none⟩ = some (.slice sa q sc) ∧ we.cell? ⟨b, off + q * 3, none⟩ = some (.slice (A q) nf (C q)) ∧ we.cell? ⟨b, off + q * 3 + 1, none⟩ = some (.slice (A' q) nt (C' q)) ∧ we.cell? ⟨b, off + q * 3 + 2, none⟩ = some (.string ds)) ∧ we.frozen? ⟨eb, 0, none⟩ = false := fun o we hg => by
        have hfa : Fr (fun _ => False) wd (wd.alloc o) := Fr.alloc _ _
        have hfw : Fr (fun c => (Value.slice sa q sc).ownBlock = some c) wd we := (hfa.mono (fun _ _ e => e.elim)).trans (Fr.of_gb hg (fun _ e => e))
        have hkn : BxE we eb (.slice sa q sc) M.most := (hfw.block eb (lt_of_block hbkd.kn) (fun e => own_blk hbkd.top hbkd.kn (by decide) e)).trans hbkd.kn
        have hkm : BoxE we mb M (.slice (some ⟨b, off, none⟩) M.n cap) := (hfw.block mb hbkd.km.lt (fun e => own_blk hbkd.top hbkd.km (by decide) e)).trans hbkd.km
        have hbo : (Value.slice sa q sc).ownBlock ≠ some b := fun e => by have := (World.ownsRow.lt hbkd.top b e).1; omega
        rw [hnf, hnt, hds]
        exact ⟨⟨hkm.c0, cell_of hkn 0 rfl, hfw.cell (by rw [hwd]; exact c0) (fun e => hbo e), hfw.cell (by rw [hwd]; exact c1) (fun e => hbo e), hfw.cell (by rw [hwd]; exact c2) (fun e => hbo e)⟩, by unfold BxE at hkn; simp [World.frozen?, hkn]⟩
      have HFAR := Lib.hid hfar; clear hfar
      rw [← hnf] at c0
      rw [← hnt] at c1
      rw [← hds] at c2
      have hown := hbkd.top
      have hsz := hbkd.be.size
      clear hds hnf hnt hbkd
      have HOWN := Lib.hid hown; clear hown
      go_wp2_with fail
      have hS0 : (fun wk => wk.cell? ⟨mb, 0, none⟩ = some (.slice (some ⟨b, off, none⟩) M.n cap) ∧ wk.cell? ⟨eb, 0, none⟩ = some (.slice sa q sc) ∧ wk.cell? ⟨b, off + q * 3, none⟩ = some (.slice (A q) nf (C q)) ∧ wk.cell? ⟨b, off + q * 3 + 1, none⟩ = some (.slice (A' q) nt (C' q)) ∧ wk.cell? ⟨b, off + q * 3 + 2, none⟩ = some (.string ds)) wd := by rw [hwd]; exact ⟨m0, n0, c0, c1, c2⟩
      refine region_heldK (fun wk => wk.cell? ⟨mb, 0, none⟩ = some (.slice (some ⟨b, off, none⟩) M.n cap) ∧ wk.cell? ⟨eb, 0, none⟩ = some (.slice sa q sc) ∧ wk.cell? ⟨b, off + q * 3, none⟩ = some (.slice (A q) nf (C q)) ∧ wk.cell? ⟨b, off + q * 3 + 1, none⟩ = some (.slice (A' q) nt (C' q)) ∧ wk.cell? ⟨b, off + q * 3 + 2, none⟩ = some (.string ds)) 24 (by kernel_rfl) ?_
      rw [← hwd]
      clear hwd
      refine AnyK.tk (i := 0) (v := ?va0) rfl (by kernel_rfl) hS0 (Or.inl ⟨by kernel_rfl, ?hya0⟩) ?resta0
      case hya0 => rintro wk ⟨s1, s2, s3, s4, s5⟩; go_simp; try with_reducible rfl
      refine AnyK.tk (i := 1) (v := ?va1) rfl (by kernel_rfl) hS0 (Or.inl ⟨by kernel_rfl, ?hya1⟩) ?resta1
      case hya1 => rintro wk ⟨s1, s2, s3, s4, s5⟩; go_simp; try with_reducible rfl
      refine AnyK.tk (i := 2) (v := ?va2) rfl (by kernel_rfl) hS0 (Or.inl ⟨by kernel_rfl, ?hya2⟩) ?resta2
      case hya2 => rintro wk ⟨s1, s2, s3, s4, s5⟩; go_simp; try with_reducible rfl
      refine AnyK.tk (i := 3) (v := ?va3) rfl (by kernel_rfl) hS0 (Or.inl ⟨by kernel_rfl, ?hya3⟩) ?resta3
      case hya3 => rintro wk ⟨s1, s2, s3, s4, s5⟩; go_simp; try with_reducible rfl
      refine AnyK.tk (i := 4) (v := ?va4) rfl (by kernel_rfl) hS0 (Or.inl ⟨by kernel_rfl, ?hya4⟩) ?resta4
      case hya4 => rintro wk ⟨s1, s2, s3, s4, s5⟩; go_simp; try with_reducible rfl
      refine AnyK.tk (i := 5) (v := ?va5) rfl (by kernel_rfl) hS0 (Or.inl ⟨by kernel_rfl, ?hya5⟩) ?resta5
      case hya5 => rintro wk ⟨s1, s2, s3, s4, s5⟩; go_simp; try with_reducible rfl
      refine AnyK.tk (i := 6) (v := ?va6) rfl (by kernel_rfl) hS0 (Or.inl ⟨by kernel_rfl, ?hya6⟩) ?resta6
      case hya6 => rintro wk ⟨s1, s2, s3, s4, s5⟩; go_simp; try with_reducible rfl
      refine AnyK.tk (i := 7) (v := ?va7) rfl (by kernel_rfl) hS0 (Or.inl ⟨by kernel_rfl, ?hya7⟩) ?resta7
      case hya7 => rintro wk ⟨s1, s2, s3, s4, s5⟩; go_simp; try with_reducible rfl
      refine AnyK.tk (i := 8) (v := ?va8) rfl (by kernel_rfl) hS0 (Or.inl ⟨by kernel_rfl, ?hya8⟩) ?resta8
      case hya8 => rintro wk ⟨s1, s2, s3, s4, s5⟩; go_simp; try with_reducible rfl
      refine AnyK.tk (i := 9) (v := ?va9) rfl (by kernel_rfl) hS0 (Or.inl ⟨by kernel_rfl, ?hya9⟩) ?resta9
      case hya9 => rintro wk ⟨s1, s2, s3, s4, s5⟩; go_simp; try with_reducible rfl
      refine AnyK.tk (i := 10) (v := ?va10) rfl (by kernel_rfl) hS0 (Or.inl ⟨by kernel_rfl, ?hya10⟩) ?resta10
      case hya10 => rintro wk ⟨s1, s2, s3, s4, s5⟩; go_simp; try with_reducible rfl
      refine AnyK.tk (i := 11) (v := ?va11) rfl (by kernel_rfl) hS0 (Or.inl ⟨by kernel_rfl, ?hya11⟩) ?resta11
      case hya11 => rintro wk ⟨s1, s2, s3, s4, s5⟩; go_simp; try with_reducible rfl
      refine AnyK.tk (i := 12) (v := ?va12) rfl (by kernel_rfl) hS0 (Or.inl ⟨by kernel_rfl, ?hya12⟩) ?resta12
      case hya12 => rintro wk ⟨s1, s2, s3, s4, s5⟩; go_simp; try with_reducible rfl
      refine AnyK.tk (i := 13) (v := ?va13) rfl (by kernel_rfl) hS0 (Or.inl ⟨by kernel_rfl, ?hya13⟩) ?resta13
      case hya13 => rintro wk ⟨s1, s2, s3, s4, s5⟩; go_simp; try with_reducible rfl
      refine AnyK.tk (i := 14) (v := ?va14) rfl (by kernel_rfl) hS0 (Or.inl ⟨by kernel_rfl, ?hya14⟩) ?resta14
      case hya14 => rintro wk ⟨s1, s2, s3, s4, s5⟩; go_simp; try with_reducible rfl
      refine AnyK.tk (i := 15) (v := ?va15) rfl (by kernel_rfl) hS0 (Or.inl ⟨by kernel_rfl, ?hya15⟩) ?resta15
      case hya15 => rintro wk ⟨s1, s2, s3, s4, s5⟩; go_simp; try with_reducible rfl
      refine AnyK.tk (i := 16) (v := ?va16) rfl (by kernel_rfl) hS0 (Or.inl ⟨by kernel_rfl, ?hya16⟩) ?resta16
      case hya16 => rintro wk ⟨s1, s2, s3, s4, s5⟩; go_simp; try with_reducible rfl
      refine AnyK.tk (i := 17) (v := ?va17) rfl (by kernel_rfl) hS0 (Or.inl ⟨by kernel_rfl, ?hya17⟩) ?resta17
      case hya17 => rintro wk ⟨s1, s2, s3, s4, s5⟩; go_simp; try with_reducible rfl
      refine AnyK.tk (i := 18) (v := ?va18) rfl (by kernel_rfl) hS0 (Or.inl ⟨by kernel_rfl, ?hya18⟩) ?resta18
      case hya18 => rintro wk ⟨s1, s2, s3, s4, s5⟩; go_simp; try with_reducible rfl
      refine AnyK.tk (i := 19) (v := ?va19) rfl (by kernel_rfl) hS0 (Or.inl ⟨by kernel_rfl, ?hya19⟩) ?resta19
      case hya19 => rintro wk ⟨s1, s2, s3, s4, s5⟩; go_simp; try with_reducible rfl
      refine AnyK.tk (i := 20) (v := ?va20) rfl (by kernel_rfl) hS0 (Or.inl ⟨by kernel_rfl, ?hya20⟩) ?resta20
      case hya20 => rintro wk ⟨s1, s2, s3, s4, s5⟩; go_simp; try with_reducible rfl
      try simp only [Act.put, List.setIfInBounds_toArray, List.set_cons_zero, List.set_cons_succ, List.getElem_toArray, List.getElem_cons_succ, List.getElem_cons_zero]
      clear m0 m1 n0 c0 c1 c2
      refine AnyK.one (i := 21) rfl (by kernel_rfl) (by rfl) (fun K hK => ?_)
      go_simp
      obtain ⟨o, ho⟩ : ∃ o, o = Obj.cells #[.slice (A' q) nt (C' q), .slice (A q) nf (C q), .string ds] 50 := ⟨_, rfl⟩
      have hny : (wd.alloc o).heap[wd.heap.size]? = some (.cells #[.slice (A' q) nt (C' q), .slice (A q) nf (C q), .string ds] 50 (0, 0)) := by rw [ho]; exact heap_alloc_new wd _
      have hS1 := (HFAR.out o _ (World.grownBy.refl (wd.alloc o) _)).1
      have hrw : (wd.alloc o).ownsRow w.heap.size 50 3 (.slice sa q sc) q (cat (ed3 (backM M) (fun i => .slice (A' i) (M.e i).nt (C' i)) (fun i => .slice (A i) (M.e i).nf (C i))) q) := World.ownsRow.alloc HOWN.out _
      have hBy : w.heap.size ≤ (wd.alloc o).heap.size := by simp; omega
      rw [← ho]
      clear ho
      obtain ⟨wy, hwy⟩ : ∃ wy, wy = wd.alloc o := ⟨_, rfl⟩
      rw [← hwy] at hny hS1 hrw hBy
      rw [← hwy]
      have HWY := Lib.hid hwy; clear hwy
      have HNY := Lib.hid hny; clear hny
      have HRW := Lib.hid hrw; clear hrw
      refine hK.out _ _ (.inr hS1) ?_
      clear hK K
      try simp only [Act.put, List.setIfInBounds_toArray, List.set_cons_zero, List.set_cons_succ, List.getElem_toArray, List.getElem_cons_succ, List.getElem_cons_zero]
      refine AnyK.one (i := 22) rfl (by kernel_rfl) (by rfl) (fun K hK => ?_)
      refine wp_append_lies _ (.tmp 33) (.tmp 53) 22 rfl w.heap.size 50 i0 (.agg #[.slice none 0 0, .slice none 0 0, .string ⟨#[]⟩]) 3 64 Tryz.underlying22 HI0.out HY0.out HY1.out HY2.out rfl (by omega) (.slice sa q sc) q _ (by simp [Act.eval]) HRW.out ⟨wd.heap.size, 0, none⟩ 1 1 [.slice (A' q) nt (C' q), .slice (A q) nf (C q), .string ds] (by simp [Act.eval]) rfl (news_st (cs := #[.slice (A' q) nt (C' q), .slice (A q) nf (C q), .string ds]) HNY.out) three_one (by omega) (by unfold maxLen; omega) (by omega) hBy _ rfl ?_
      intro go cp we hown2 hgrow hat hlt
      rw [HWY.out] at hgrow
      obtain ⟨hS2, f0⟩ := HFAR.out o we hgrow
      have hB2 := HADD.out o we go cp hown2 hgrow
      have HB2 := Lib.hid hB2; clear hB2 hown2 hgrow hat hlt
      refine hK.out _ _ (.inr hS2) ?_
      clear hK K
      try simp only [Act.put, List.setIfInBounds_toArray, List.set_cons_zero, List.set_cons_succ, List.getElem_toArray, List.getElem_cons_succ, List.getElem_cons_zero]
      refine AnyK.tk (i := 23) (v := ?vb23) rfl (by kernel_rfl) hS2 (Or.inl ⟨by kernel_rfl, ?hyb23⟩) ?restb23
      case hyb23 => rintro wk ⟨s1, s2, s3, s4, s5⟩; go_simp; try with_reducible rfl
      try simp only [Act.put, List.setIfInBounds_toArray, List.set_cons_zero, List.set_cons_succ, List.getElem_toArray, List.getElem_cons_succ, List.getElem_cons_zero]
      have n0 := hS2.2.1
      refine AnyK.one (i := 24) rfl (by kernel_rfl) (by rfl) (fun K hK => ?_)
      go_simp
      refine hK.out _ _ (.inl rfl) (AnyK.done (by kernel_rfl) ?_ _)
      clear hK K
      go_wp2_with fail
      go_roundw
      case rel => exact ⟨q + 1, by omega, by go_num, _, HB2.out⟩
      case measure => simp [intOf]; omega
    · obtain rfl : q = M.n := by omega
      have hgt : ¬ ((M.n : Int) < (M.n : Int)) := by omega
      obtain ⟨sa, sc, hsv, _, _⟩ := row_any HBK.out.top
      subst hsv
      have HED := Lib.hid (show ∀ W, Below wr.heap.size wr W → EdS none W (.slice sa M.n sc) (backM M) from fun W h => by
        have h1 : EdS none wr (.slice sa M.n sc) (backM M) := row_eds (M := backM M) HBK.out.top (fun i hi => (HROW.out i hi).2.2.2.2.kept (gb_below HBK.out.be none)) (fun i hi => (HROW.out i hi).2.2.2.1.kept (gb_below HBK.out.be none))
        exact h1.kept (gb_below h none))
      have HBW := Lib.hid HBK.out.be
      have HKN := Lib.hid HBK.out.kn
      clear HBK
      go_wp2_with fail
      refine (HCO.out wr HBW.out).mono ?_
      rintro rr w6 hr
      obtain ⟨W1, E1, rfl, hr1, hb6⟩ := hr.val
      have HR1 := Lib.hid hr1
      have HB6 := Lib.hid (HBW.out.trans (hb6.mono HBW.out.size))
      have HED6 := Lib.hid (HED.out w6 hb6)
      have HKN6 := Lib.hid (show BxE w6 eb (.slice sa M.n sc) M.most from (hb6.block eb (lt_of_block HKN.out)).trans HKN.out)
      clear hr hr1 hb6 HBW HED HKN HCO m0 m1
      have n0 := cell_of HKN6.out 0 rfl
      have n1 := cell_of HKN6.out 1 rfl
      go_wp2_with fail
      refine (HCB.out w6 HB6.out _ HED6.out).mono ?_
      rintro rr w7 hr
      obtain ⟨W2, E2, rfl, hr2, hb7⟩ := hr.val
      have HR2 := Lib.hid hr2
      have HB7 := Lib.hid (HB6.out.trans (hb7.mono HB6.out.size))
      clear hr hr2 hb7 HB6 HED6 HKN6 HCB n0 n1
      by_cases hE : E1 = 2
      · subst hE
        clear HR1 HR2
        go_wp2_with fail
        refine (HEX.out w7 HB7.out).mono ?_
        rintro rr w8 ⟨rfl, hb8⟩
        have HB8 := Lib.hid (HB7.out.trans (hb8.mono HB7.out.size))
        clear hb8
        go_wp2_with fail
        go_ret
        exact ⟨rfl, HB8.out⟩
      · have hE' : (E1 == 2) = false := by simp [hE]
        have hE2 : decide (E1 = 2) = false := by simp [hE]
        by_cases hF : E2 = 2
        · subst hF
          clear HR1 HR2
          go_wp2_with fail
          refine (HEX.out w7 HB7.out).mono ?_
          rintro rr w8 ⟨rfl, hb8⟩
          have HB8 := Lib.hid (HB7.out.trans (hb8.mono HB7.out.size))
          clear hb8
          go_wp2_with fail
          go_ret
          exact ⟨rfl, HB8.out⟩
        · have hF' : (E2 == 2) = false := by simp [hF]
          have hF2 : decide (E2 = 2) = false := by simp [hF]
          obtain ⟨rfl, rfl⟩ := HR1.out.back HR2.out hE hF
          clear HR1 HR2
          go_wp2_with fail
          refine (HEX.out w7 HB7.out).mono ?_
          rintro rr w8 ⟨rfl, hb8⟩
          have HB8 := Lib.hid (HB7.out.trans (hb8.mono HB7.out.size))
          clear hb8
          go_wp2_with fail
          go_ret
          exact ⟨rfl, HB8.out⟩
end Go.Proofs.YtjekapjbigfkbaaGreatDoor

namespace Go.Proofs.YtjekapjbigfkbaaGreatDoor
open Go Go.RowKit Go.Deep Go.ChangeShapes Go.WideShapes
set_option maxRecDepth 100000
end Go.Proofs.YtjekapjbigfkbaaGreatDoor
namespace Go.Proofs.YtjekapjbigfkbaaGreatDoor
open Go Go.RowKit Go.Deep Go.ChangeShapes Go.WideShapes Go.Joins
set_option maxRecDepth 100000
theorem weightsAll_mem {H : Type} {P : Program} {e : TypeId} {d : DataW H} {n : Nat} : ∀ {ds : List (DataW H)}, d ∈ ds → n ∈ d.weights P e → n ∈ DataW.weightsAll P e ds
  | d0 :: r, h, hn => by
    simp only [DataW.weightsAll, List.mem_append]
    rcases List.mem_cons.1 h with rfl | h
    · exact .inl hn
    · exact .inr (weightsAll_mem h hn)
theorem slice_weight {H : Type} {t e : TypeId} {el sp : List (DataW H)} (hu : Tryz.prog.underlying t = some (.slice e)) (hB : 1 ≤ Tryz.prog.bytesOf e) {b : Nat} (hb : ∀ m ∈ (DataW.slice el sp).weights Tryz.prog t, m ≤ b) : el.length ≤ b := by
  have h := hb ((el.length + sp.length) * Tryz.prog.bytesOf e) (by simp [DataW.weights, hu])
  have := Nat.le_mul_of_pos_right (el.length + sp.length) hB
  omega
theorem weights_part {H : Type} {t e : TypeId} {el sp : List (DataW H)} {d : DataW H} {m : Nat} (hu : Tryz.prog.underlying t = some (.slice e)) (hd : d ∈ el) (hm : m ∈ d.weights Tryz.prog e) : m ∈ (DataW.slice el sp).weights Tryz.prog t := by
  simp only [DataW.weights, hu, List.mem_cons, List.mem_append]
  exact .inr (.inl (weightsAll_mem hd hm))
end Go.Proofs.YtjekapjbigfkbaaGreatDoor

namespace Go.Proofs.YtjekapjbigfkbaaGreatDoor
open Go Go.RowKit Go.Deep Go.ChangeShapes Go.WideShapes
set_option maxRecDepth 100000
theorem arg_ints {H : Type} {enc : TypeId × Value → H} {W : World} {held : Bool} {fuel : Nat} {v : Value} {x : DataW H × List MemPlace} (h : DataW.trod enc Tryz.prog W 0 (fun _ => true) held fuel 27 [v] = some x) :
    ∃ (n : Nat) (wk : Nat → Int), Rd none W v n fun i => .int .i64 (wk i) := by
  rcases open_slice1 Tryz.underlying27 (by kernel_rfl) h with ⟨hc, _⟩ | ⟨a, len, cap, m, n', V, D, Pl, hc, _, hl, hm, hmm, _, hx⟩
  · simp only [List.cons.injEq, and_true] at hc
    exact ⟨0, fun _ => 0, .inl ⟨rfl, none, 0, hc, Nat.zero_le _⟩⟩
  · simp only [List.cons.injEq, and_true] at hc
    simp only [if_true] at hmm
    subst hmm
    classical
    have hall : ∀ i, ∃ z : Int, i < m → V i = .int .i64 z := fun i => by
      by_cases hi : i < m
      · obtain ⟨z, hz, _⟩ := DataW.trod_int Tryz.underlying3 (hx i hi).2
        exact ⟨z, fun _ => by simpa using hz⟩
      · exact ⟨0, fun h => absurd h hi⟩
    refine ⟨len, fun i => Classical.choose (hall i), ?_⟩
    by_cases h0 : len = 0
    · subst h0; exact .inl ⟨rfl, some a, m, hc, hm⟩
    · have c0 := (hx 0 (by omega)).1
      have hs : a.spot = none := by simpa [Addr.add] using World.cell?_spot c0
      obtain ⟨b, off, sp⟩ := a
      simp only at hs; subst hs
      refine .inr ⟨b, off, m, hc, ⟨?_, by simp⟩, hl, hm, fun j hj => ?_⟩
      · have := World.block_lt_of_cell? _ _ c0
        rw [Addr.add_lit] at this; exact this
      · have := (hx j (by omega)).1
        rw [Addr.add_lit, Classical.choose_spec (hall j) (by omega)] at this; exact this
end Go.Proofs.YtjekapjbigfkbaaGreatDoor
