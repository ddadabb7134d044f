/- Parts of a proof: EdD. -/
import Derived.Test.YtjekapjbigfkbaaGreatDoorS21
import Derived.Test.YtjekapjbigfkbaaGreatDoorS20
import Derived.Deep.AppendLies
namespace Go.Proofs.YtjekapjbigfkbaaGreatDoor
open Go Go.RowKit Go.Deep
set_option maxRecDepth 100000
set_option linter.unusedSimpArgs false
theorem info_state : (Tryz.prog.info? 87).map (fun i => (i.zero, i.size, i.bytes)) = some (some (.agg #[.string ⟨#[]⟩, .slice none 0 0]), 2, 40) := by kernel_rfl
theorem info_arc : (Tryz.prog.info? 83).map (fun i => (i.zero, i.size, i.bytes)) = some (some (.agg #[.int .i64 0, .int .i64 0, .string ⟨#[]⟩, .int .i64 0]), 4, 40) := by kernel_rfl
theorem info_parts2 {o : Option TypeInfo} {z : Value} {s b : Nat} (h : o.map (fun i => (i.zero, i.size, i.bytes)) = some (some z, s, b)) : ∃ i, o = some i ∧ i.zero = some z ∧ i.size = s ∧ i.bytes = b := by
  cases o with
  | none => cases h
  | some i => simp at h; exact ⟨i, rfl, h.1, h.2.1, h.2.2⟩
def RowB (w : World) (q : Nat) : Prop := ∃ cs t fr, w.heap[q]? = some (.cells cs t fr) ∧ (t = 87 ∨ t = 83)
structure Kt (db : Nat) (w w' : World) : Prop where
  os : w'.os = w.os
  tape : w'.tape = w.tape
  output : w'.output = w.output
  size : w.heap.size ≤ w'.heap.size
  block : ∀ q, q < w.heap.size → q ≠ db → ¬ RowB w q → w'.heap[q]? = w.heap[q]?
theorem Kt.refl (db : Nat) (w : World) : Kt db w w := ⟨rfl, rfl, rfl, Nat.le_refl _, fun _ _ _ _ => rfl⟩
theorem Kt.trans {db : Nat} {w w' w2 : World} (h : Kt db w w') (k : Kt db w' w2) : Kt db w w2 :=
  ⟨k.os.trans h.os, k.tape.trans h.tape, k.output.trans h.output, Nat.le_trans h.size k.size, fun q hq hd hr => (k.block q (by have := h.size; omega) hd (fun ⟨cs, t, fr, h1, h2⟩ => hr ⟨cs, t, fr, by rw [← h.block q hq hd hr]; exact h1, h2⟩)).trans (h.block q hq hd hr)⟩
theorem Kt.of_fr {db : Nat} {w w' : World} (h : Fr (fun q => q = db) w w') : Kt db w w' := ⟨h.os, h.tape, h.output, h.size, fun q hq hd _ => h.block q hq hd⟩
theorem Kt.of_own {db B : Nat} {w w' : World} {e : TypeId} {s n : Nat} {v : Value} {xs : List Value} (h : w.ownsRow B e s v n xs) (he : e = 87 ∨ e = 83) (hg : w.grownBy w' v.ownBlock) : Kt db w w' :=
  ⟨hg.os, hg.tape, hg.output, hg.size, fun q hq _ hr => hg.block q hq (fun e2 => by
    rcases h.2 with ⟨rfl, _⟩ | ⟨g, cap, cur, rfl, _, hgg, _⟩
    · cases e2
    · have e3 : q = g := by simpa [Value.ownBlock] using e2
      subst e3; exact hr ⟨cur, e, _, hgg, he⟩)⟩
theorem own_blk {w : World} {B : Nat} {e t : TypeId} {s n b : Nat} {v : Value} {xs : List Value} {cs : Array Value} {fr : Nat × Nat} (h : w.ownsRow B e s v n xs) (hb : w.heap[b]? = some (.cells cs t fr)) (ht : t ≠ e) : v.ownBlock ≠ some b := by
  rcases h.2 with ⟨rfl, _⟩ | ⟨g, cap, cur, rfl, _, hg, _⟩
  · simp [Value.ownBlock]
  · intro e1; simp [Value.ownBlock] at e1; subst e1; rw [hg] at hb; simp at hb; exact ht hb.2.1.symm
structure Drw (w : World) (B db : Nat) (D : MD) (R : Nat → Value) (sv : Value) : Prop where
  blk : w.heap[db]? = some (.cells #[.int .i64 (D.n : Int), .int .i64 D.kind, .int .i64 D.start, .string D.lead, sv] 79 (0, 0))
  own : OwM w B sv D R
  low : B ≤ db
theorem Drw.lt {w : World} {B db : Nat} {D : MD} {R : Nat → Value} {sv : Value} (h : Drw w B db D R sv) : db < w.heap.size := (Array.getElem?_eq_some_iff.1 h.blk).1
theorem BlkD.c0 {w : World} {db : Nat} {v0 v1 v2 v3 v4 : Value} {t : TypeId} (h : w.heap[db]? = some (.cells #[v0, v1, v2, v3, v4] t (0, 0))) : w.cell? ⟨db, 0, none⟩ = some v0 := by simp [World.cell?, h]
theorem BlkD.c4 {w : World} {db : Nat} {v0 v1 v2 v3 v4 : Value} {t : TypeId} (h : w.heap[db]? = some (.cells #[v0, v1, v2, v3, v4] t (0, 0))) : w.cell? ⟨db, 4, none⟩ = some v4 := by simp [World.cell?, h]
theorem BlkD.fz {w : World} {db : Nat} {v0 v1 v2 v3 v4 : Value} {t : TypeId} (h : w.heap[db]? = some (.cells #[v0, v1, v2, v3, v4] t (0, 0))) (j : Nat) : w.frozen? ⟨db, j, none⟩ = false := by simp [World.frozen?, h]
def DrE (B db : Nat) (D' : MD) (w w' : World) : Prop := (∃ R' sv', Drw w' B db D' R' sv') ∧ Below B w w' ∧ Kt db w w'
theorem fresh_any {db : Nat} {n : Nat} (w : World) (h0 : w.cell? ⟨db, 0, none⟩ = some (.int .i64 (n : Int))) (hf : w.frozen? ⟨db, 0, none⟩ = false) (hn : n ≤ 100000) :
    Calls Tryz.prog 103 #[.pointer (some ⟨db, 0, none⟩)] w (fun r w' => r = .returned (.int .i64 (n : Int)) ∧ w' = w.setCell ⟨db, 0, none⟩ (.int .i64 ((n + 1 : Nat) : Int))) := by
  have h1 : (w.setCell ⟨db, 0, none⟩ (.int .i64 ((n : Int) + 1))).cell? ⟨db, 0, none⟩ = some (.int .i64 ((n : Int) + 1)) := World.cell?_setCell_same' _ _ _ (by rw [h0]; rfl)
  go_enter Tryz.func103, Tryz.ntmps103
  go_wp2_with fail
  go_ret
  exact ⟨rfl, rfl⟩
theorem news_st {w : World} {b : Nat} {cs : Array Value} {t : TypeId} {fr : Nat × Nat} (h : w.heap[b]? = some (.cells cs t fr)) : ∀ j u, cs.toList[j]? = some u → w.cell? ((⟨b, 0, none⟩ : Addr).add j) = some u := by
  intro j u hu
  rw [Addr.add_lit, Nat.zero_add]
  simp [World.cell?, h]
  simpa using hu
theorem two_one {f : ByteArray} : ∀ u ∈ [Value.string f, Value.slice none 0 0], u.oneCell' = true := by intro u hu; simp at hu; rcases hu with rfl | rfl <;> rfl
set_option maxHeartbeats 4000000 in
theorem dstate_any {B db : Nat} {D : MD} {R : Nat → Value} {sv : Value} (f : ByteArray) (w : World) (h : Drw w B db D R sv) (hB : B ≤ w.heap.size) (hn : D.n ≤ 100000) :
    Calls Tryz.prog 50 #[.pointer (some ⟨db, 0, none⟩), .string f] w (fun r w' => r = .returned (.int .i64 (D.n : Int)) ∧ DrE B db (D.state f) w w') := by
  obtain ⟨i0, hi, hz0, hz1, hz2⟩ := info_parts2 info_state
  obtain ⟨wn, hwn⟩ : ∃ wn, wn = w.alloc (.cells #[.string f, .slice none 0 0] 87) := ⟨_, rfl⟩
  obtain ⟨H, hH⟩ : ∃ H, H = w.heap.size := ⟨_, rfl⟩
  have hgn : w.grownBy wn none := by rw [hwn]; exact World.grownBy_alloc _ _ _
  have hown : wn.ownsRow B 87 2 sv D.n (cat (st2 D R) D.n) := by rw [hwn]; exact World.ownsRow.alloc h.own.top _
  have hnb : wn.heap[H]? = some (.cells #[.string f, .slice none 0 0] 87 (0, 0)) := by rw [hwn, hH]; exact heap_alloc_new w _
  have hdb : wn.heap[db]? = some (.cells #[.int .i64 (D.n : Int), .int .i64 D.kind, .int .i64 D.start, .string D.lead, sv] 79 (0, 0)) := by rw [hwn, blk_alloc_lt _ _ _ h.lt]; exact h.blk
  have c4 : wn.cell? ⟨db, 4, none⟩ = some sv := by simp [World.cell?, hdb]
  have c4w : w.cell? ⟨db, 4, none⟩ = some sv := by simp [World.cell?, h.blk]
  have hsz : wn.heap.size = H + 1 := by rw [hwn, hH]; simp
  obtain ⟨sa, sc, hsv, _, _⟩ := row_any h.own.top
  subst hsv
  have hdbe : ∀ we, (w.alloc (.cells #[.string f, .slice none 0 0] 87)).grownBy we (Value.slice sa D.n sc).ownBlock → we.heap[db]? = some (.cells #[.int .i64 (D.n : Int), .int .i64 D.kind, .int .i64 D.start, .string D.lead, .slice sa D.n sc] 79 (0, 0)) := fun we hg => by
    rw [← hwn] at hg
    exact (hg.block db (lt_of_block hdb) (fun e => own_blk hown hdb (by decide) e.symm)).trans hdb
  have HDBE := Lib.hid hdbe; clear hdbe
  have HH := Lib.hid h; clear h
  have HOWN := Lib.hid hown; clear hown
  have HNB := Lib.hid hnb; clear hnb
  have HDB := Lib.hid hdb; clear hdb
  have HGN := Lib.hid hgn; clear hgn
  have HI := Lib.hid hi; have HZ0 := Lib.hid hz0; have HZ1 := Lib.hid hz1; have HZ2 := Lib.hid hz2
  clear hi hz0 hz1 hz2
  have HHE := Lib.hid hH; clear hH
  have HWN := Lib.hid hwn
  go_enter Tryz.func50, Tryz.ntmps50
  go_wp2_with (at_builtin; refine wpList_append_lies _ rfl (.tmp 10) (.tmp 13) 34 rfl B 87 i0 (.agg #[.string ⟨#[]⟩, .slice none 0 0]) 2 40 Tryz.underlying34 HI.out HZ0.out HZ1.out HZ2.out rfl (by omega) (.slice sa D.n sc) D.n _ (by first | rfl | simp [Act.eval, Act.put]) (World.ownsRow.alloc HH.out.own.top _) ⟨w.heap.size, 0, none⟩ 1 1 [.string f, .slice none 0 0] (by first | rfl | simp [Act.eval, Act.put]) rfl (news_st (cs := #[.string f, .slice none 0 0]) (heap_alloc_new w _)) two_one (by omega) (by unfold maxLen; omega) (by omega) (by simp; omega) _ rfl ?_; intro go cp we hown2 hgrow hat hlt; have hde := HDBE.out we hgrow; have e4 := BlkD.c4 hde; have f4 := BlkD.fz hde 4)
  have hown3 : we.ownsRow B 87 2 (.slice (some ⟨go, 0, none⟩) (D.n + 1) cp) (D.n + 1) (cat (st2 D R) D.n ++ [.string f, .slice none 0 0]) := hown2
  have hst := HH.out.own.state hown3 hgrow
  have hsn : (Value.slice (some ⟨go, 0, none⟩) (D.n + 1) cp).ownBlock ≠ some db := own_blk hown3 hde (by decide)
  have hrn : ∀ i, i < (D.state f).n → ((fun i => if i = D.n then Value.slice none 0 0 else R i) i).ownBlock ≠ some db := fun i hi => own_blk (hst.row i hi) hde (by decide)
  obtain ⟨wf, hwf⟩ : ∃ wf, wf = we.setCell ⟨db, 4, none⟩ (.slice (some ⟨go, 0, none⟩) (D.n + 1) cp) := ⟨_, rfl⟩
  have hst2 : OwM wf B (.slice (some ⟨go, 0, none⟩) (D.n + 1) cp) (D.state f) (fun i => if i = D.n then .slice none 0 0 else R i) := by rw [hwf]; exact hst.other (p := ⟨db, 4, none⟩) hsn hrn _
  have hdf : wf.heap[db]? = some (.cells #[.int .i64 (D.n : Int), .int .i64 D.kind, .int .i64 D.start, .string D.lead, .slice (some ⟨go, 0, none⟩) (D.n + 1) cp] 79 (0, 0)) := by rw [hwf]; simp [World.setCell, Array.getElem?_modify, hde]
  have hkt : Kt db w wf := by
    have h1 : Kt db w (w.alloc (.cells #[.string f, .slice none 0 0] 87)) := Kt.of_fr (Fr.alloc _ _)
    have h2 := Kt.of_own (db := db) (World.ownsRow.alloc HH.out.own.top (.cells #[.string f, .slice none 0 0] 87)) (.inl rfl) hgrow
    rw [hwf]
    exact (h1.trans h2).trans (Kt.of_fr ((Fr.refl (fun q => q = db) we).set (p := ⟨db, 4, none⟩) (.inl rfl) _))
  have hbl : Below B w wf := by
    rw [hwf]
    exact ((((Below.refl B w).alloc hB (.cells #[.string f, .slice none 0 0] 87)).grown hgrow (by simp; omega) (fun k hk => (World.ownsRow.lt (World.ownsRow.alloc HH.out.own.top (.cells #[.string f, .slice none 0 0] 87)) k hk).1)).setCell (p := ⟨db, 4, none⟩) HH.out.low _)
  have HFR := Lib.hid (fresh_any wf (BlkD.c0 hdf) (BlkD.fz hdf 0) hn)
  have HST := Lib.hid hst2; clear hst2 hst
  have HDF := Lib.hid hdf; clear hdf hde
  have HKT := Lib.hid hkt; clear hkt
  have HBL := Lib.hid hbl; clear hbl hown3 hown2 hgrow hat hlt hsn hrn
  rw [← hwf]
  have HWF := Lib.hid hwf; clear hwf
  refine HFR.out.mono ?_
  rintro r wx ⟨rfl, rfl⟩
  go_wp2_with fail
  go_ret
  refine ⟨rfl, ⟨(fun i => if i = D.n then .slice none 0 0 else R i), .slice (some ⟨go, 0, none⟩) (D.n + 1) cp, ⟨?_, ?_, HH.out.low⟩⟩, HBL.out.setCell (p := ⟨db, 0, none⟩) HH.out.low _, HKT.out.trans (Kt.of_fr ((Fr.refl (fun q => q = db) wf).set (p := ⟨db, 0, none⟩) (.inl rfl) _))⟩
  · simp [World.setCell, Array.getElem?_modify, HDF.out]; exact ⟨rfl, rfl, rfl, rfl⟩
  · exact HST.out.other (p := ⟨db, 0, none⟩) (own_blk HST.out.top HDF.out (by decide)) (fun i hi => own_blk (HST.out.row i hi) HDF.out (by decide)) _
theorem four_one {a b t : Int} {x : ByteArray} : ∀ u ∈ [Value.int .i64 a, Value.int .i64 b, Value.string x, Value.int .i64 t], u.oneCell' = true := by intro u hu; simp at hu; rcases hu with rfl | rfl | rfl | rfl <;> rfl
set_option maxHeartbeats 4000000 in
theorem darc_any {B db q : Nat} {D : MD} {R : Nat → Value} {sv : Value} (a b t : Int) (x : ByteArray) (w : World) (h : Drw w B db D R sv) (hB : B ≤ w.heap.size) (hq : q < D.n) (hn : D.n ≤ 100000) (hna : D.na q ≤ 100000) :
    Calls Tryz.prog 51 #[.pointer (some ⟨db, 0, none⟩), .int .i64 (q : Int), .agg #[.int .i64 a, .int .i64 b, .string x, .int .i64 t]] w (fun r w' => r = .returned (.tuple #[]) ∧ DrE B db (D.arc q a b x t) w w') := by
  obtain ⟨i0, hi, hz0, hz1, hz2⟩ := info_parts2 info_arc
  have hqz : (q : Int) < (D.n : Int) := by omega
  have hqz0 : (0 : Int) ≤ (q : Int) := by omega
  obtain ⟨g, cp, rfl, _, _, _, _⟩ := row_shape h.own.top (by omega)
  obtain ⟨ra, rc, hrq, _, _⟩ := row_any (h.own.row q hq)
  obtain ⟨w1, hw1⟩ : ∃ w1, w1 = w.alloc (.cells #[.int .i64 a, .int .i64 b, .string x, .int .i64 t] 83) := ⟨_, rfl⟩
  obtain ⟨w1d, hw1d⟩ : ∃ w1d, w1d = w1.drew := ⟨_, rfl⟩
  obtain ⟨H, hH⟩ : ∃ H, H = w.heap.size := ⟨_, rfl⟩
  have hsz1 : w1d.heap.size = H + 1 := by rw [hw1d, hw1, hH]; simp
  have hf1 : Fr (fun _ => False) w w1d := by rw [hw1d, hw1]; exact (Fr.alloc _ _).drew
  have hnb : w1d.heap[H]? = some (.cells #[.int .i64 a, .int .i64 b, .string x, .int .i64 t] 83 (0, 0)) := by rw [hw1d, hw1, hH]; exact heap_alloc_new w _
  have hdb : w1d.heap[db]? = some (.cells #[.int .i64 (D.n : Int), .int .i64 D.kind, .int .i64 D.start, .string D.lead, .slice (some ⟨g, 0, none⟩) D.n cp] 79 (0, 0)) := (hf1.block db h.lt (fun e => e)).trans h.blk
  have hom : OwM w1d B (.slice (some ⟨g, 0, none⟩) D.n cp) D R := h.own.kept (z := none) (Fr.gb (hf1.mono (fun _ _ e => e.elim))) (by simp)
  have hS0 : w1d.cell? ⟨db, 4, none⟩ = some (.slice (some ⟨g, 0, none⟩) D.n cp) ∧ w1d.cell? ⟨g, q * 2 + 1, none⟩ = some (.slice ra (D.na q) rc) ∧ w1d.cell? ⟨H, 0, none⟩ = some (.int .i64 a) ∧ w1d.cell? ⟨H, 1, none⟩ = some (.int .i64 b) ∧ w1d.cell? ⟨H, 2, none⟩ = some (.string x) ∧ w1d.cell? ⟨H, 3, none⟩ = some (.int .i64 t) :=
    ⟨BlkD.c4 hdb, by rw [hom.arcs_cell hq, hrq], by simp [World.cell?, hnb], by simp [World.cell?, hnb], by simp [World.cell?, hnb], by simp [World.cell?, hnb]⟩
  have hdne : ∀ i, i < D.n → (R i).ownBlock ≠ some db := fun i hi => own_blk (hom.row i hi) hdb (by decide)
  have hgne : (R q).ownBlock ≠ some g := fun e => hom.tne hq e rfl
  have HI := Lib.hid hi; have HZ0 := Lib.hid hz0; have HZ1 := Lib.hid hz1; have HZ2 := Lib.hid hz2
  clear hi hz0 hz1 hz2
  have HH := Lib.hid h; clear h
  have HOM := Lib.hid hom; clear hom
  have HDB := Lib.hid hdb; clear hdb
  have HNB := Lib.hid hnb; clear hnb
  have HF1 := Lib.hid hf1; clear hf1
  have HRQ := Lib.hid hrq; clear hrq
  have HDNE := Lib.hid hdne; clear hdne
  have HGNE := Lib.hid hgne; clear hgne
  go_enter Tryz.func51, Tryz.ntmps51
  go_wp2_with fail
  refine region_heldK (fun wk' => wk'.cell? ⟨db, 4, none⟩ = some (.slice (some ⟨g, 0, none⟩) D.n cp) ∧ wk'.cell? ⟨g, q * 2 + 1, none⟩ = some (.slice ra (D.na q) rc) ∧ wk'.cell? ⟨H, 0, none⟩ = some (.int .i64 a) ∧ wk'.cell? ⟨H, 1, none⟩ = some (.int .i64 b) ∧ wk'.cell? ⟨H, 2, none⟩ = some (.string x) ∧ wk'.cell? ⟨H, 3, none⟩ = some (.int .i64 t)) 20 (by kernel_rfl) ?_
  rw [← hw1, ← hw1d, ← hH]
  have HW1 := Lib.hid hw1; clear hw1
  have HW1D := Lib.hid hw1d; clear hw1d
  have HHE := Lib.hid hH; clear hH
  refine AnyK.tk (i := 0) (v := ?va0) rfl (by kernel_rfl) hS0 (Or.inl ⟨by kernel_rfl, ?hya0⟩) ?resta0
  case hya0 => rintro wk ⟨s1, s2, s3, s4, s5, s6⟩; go_simp; try with_reducible rfl
  refine AnyK.tk (i := 1) (v := ?va1) rfl (by kernel_rfl) hS0 (Or.inl ⟨by kernel_rfl, ?hya1⟩) ?resta1
  case hya1 => rintro wk ⟨s1, s2, s3, s4, s5, s6⟩; go_simp; try with_reducible rfl
  refine AnyK.tk (i := 2) (v := ?va2) rfl (by kernel_rfl) hS0 (Or.inl ⟨by kernel_rfl, ?hya2⟩) ?resta2
  case hya2 => rintro wk ⟨s1, s2, s3, s4, s5, s6⟩; go_simp; try with_reducible rfl
  refine AnyK.tk (i := 3) (v := ?va3) rfl (by kernel_rfl) hS0 (Or.inl ⟨by kernel_rfl, ?hya3⟩) ?resta3
  case hya3 => rintro wk ⟨s1, s2, s3, s4, s5, s6⟩; go_simp; try with_reducible rfl
  refine AnyK.tk (i := 4) (v := ?va4) rfl (by kernel_rfl) hS0 (Or.inl ⟨by kernel_rfl, ?hya4⟩) ?resta4
  case hya4 => rintro wk ⟨s1, s2, s3, s4, s5, s6⟩; go_simp; try with_reducible rfl
  refine AnyK.tk (i := 5) (v := ?va5) rfl (by kernel_rfl) hS0 (Or.inl ⟨by kernel_rfl, ?hya5⟩) ?resta5
  case hya5 => rintro wk ⟨s1, s2, s3, s4, s5, s6⟩; go_simp; try with_reducible rfl
  refine AnyK.tk (i := 6) (v := ?va6) rfl (by kernel_rfl) hS0 (Or.inl ⟨by kernel_rfl, ?hya6⟩) ?resta6
  case hya6 => rintro wk ⟨s1, s2, s3, s4, s5, s6⟩; go_simp; try with_reducible rfl
  refine AnyK.tk (i := 7) (v := ?va7) rfl (by kernel_rfl) hS0 (Or.inl ⟨by kernel_rfl, ?hya7⟩) ?resta7
  case hya7 => rintro wk ⟨s1, s2, s3, s4, s5, s6⟩; go_simp; try with_reducible rfl
  refine AnyK.tk (i := 8) (v := ?va8) rfl (by kernel_rfl) hS0 (Or.inl ⟨by kernel_rfl, ?hya8⟩) ?resta8
  case hya8 => rintro wk ⟨s1, s2, s3, s4, s5, s6⟩; go_simp; try with_reducible rfl
  refine AnyK.tk (i := 9) (v := ?va9) rfl (by kernel_rfl) hS0 (Or.inl ⟨by kernel_rfl, ?hya9⟩) ?resta9
  case hya9 => rintro wk ⟨s1, s2, s3, s4, s5, s6⟩; go_simp; try with_reducible rfl
  refine AnyK.tk (i := 10) (v := ?va10) rfl (by kernel_rfl) hS0 (Or.inl ⟨by kernel_rfl, ?hya10⟩) ?resta10
  case hya10 => rintro wk ⟨s1, s2, s3, s4, s5, s6⟩; go_simp; try with_reducible rfl
  refine AnyK.tk (i := 11) (v := ?va11) rfl (by kernel_rfl) hS0 (Or.inl ⟨by kernel_rfl, ?hya11⟩) ?resta11
  case hya11 => rintro wk ⟨s1, s2, s3, s4, s5, s6⟩; go_simp; try with_reducible rfl
  refine AnyK.tk (i := 12) (v := ?va12) rfl (by kernel_rfl) hS0 (Or.inl ⟨by kernel_rfl, ?hya12⟩) ?resta12
  case hya12 => rintro wk ⟨s1, s2, s3, s4, s5, s6⟩; go_simp; try with_reducible rfl
  refine AnyK.tk (i := 13) (v := ?va13) rfl (by kernel_rfl) hS0 (Or.inl ⟨by kernel_rfl, ?hya13⟩) ?resta13
  case hya13 => rintro wk ⟨s1, s2, s3, s4, s5, s6⟩; go_simp; try with_reducible rfl
  refine AnyK.tk (i := 14) (v := ?va14) rfl (by kernel_rfl) hS0 (Or.inl ⟨by kernel_rfl, ?hya14⟩) ?resta14
  case hya14 => rintro wk ⟨s1, s2, s3, s4, s5, s6⟩; go_simp; try with_reducible rfl
  refine AnyK.tk (i := 15) (v := ?va15) rfl (by kernel_rfl) hS0 (Or.inl ⟨by kernel_rfl, ?hya15⟩) ?resta15
  case hya15 => rintro wk ⟨s1, s2, s3, s4, s5, s6⟩; go_simp; try with_reducible rfl
  try simp only [Act.put, List.setIfInBounds_toArray, List.set_cons_zero, List.set_cons_succ, List.getElem_toArray, List.getElem_cons_succ, List.getElem_cons_zero]
  refine AnyK.one (i := 16) rfl (by kernel_rfl) (by rfl) (fun K hK => ?_)
  go_simp
  obtain ⟨wy, hwy⟩ : ∃ wy, wy = w1d.alloc (.cells #[.int .i64 a, .int .i64 b, .string x, .int .i64 t] 83) := ⟨_, rfl⟩
  have hgy : w1d.grownBy wy none := by rw [hwy]; exact World.grownBy_alloc _ _ _
  have hny : wy.heap[H + 1]? = some (.cells #[.int .i64 a, .int .i64 b, .string x, .int .i64 t] 83 (0, 0)) := by rw [hwy, ← hsz1]; exact heap_alloc_new w1d _
  have hzy : wy.heap.size = H + 1 + 1 := by rw [hwy]; simp [hsz1]
  have hS1 : wy.cell? ⟨db, 4, none⟩ = some (.slice (some ⟨g, 0, none⟩) D.n cp) ∧ wy.cell? ⟨g, q * 2 + 1, none⟩ = some (.slice ra (D.na q) rc) ∧ wy.cell? ⟨H, 0, none⟩ = some (.int .i64 a) ∧ wy.cell? ⟨H, 1, none⟩ = some (.int .i64 b) ∧ wy.cell? ⟨H, 2, none⟩ = some (.string x) ∧ wy.cell? ⟨H, 3, none⟩ = some (.int .i64 t) :=
    ⟨hgy.cell hS0.1 (by simp), hgy.cell hS0.2.1 (by simp), hgy.cell hS0.2.2.1 (by simp), hgy.cell hS0.2.2.2.1 (by simp), hgy.cell hS0.2.2.2.2.1 (by simp), hgy.cell hS0.2.2.2.2.2 (by simp)⟩
  have hrow : wy.ownsRow B 83 4 (.slice ra (D.na q) rc) (D.na q) (cat (arc4 D q) (D.na q)) := by rw [hwy, ← HRQ.out]; exact World.ownsRow.alloc (HOM.out.row q hq) _
  have hBy : B ≤ wy.heap.size := by have := HHE.out; omega
  rw [← hwy]
  have HWY := Lib.hid hwy; clear hwy
  have HNY := Lib.hid hny; clear hny
  refine hK.out _ _ (.inr hS1) ?_
  clear hK K
  try simp only [Act.put, List.setIfInBounds_toArray, List.set_cons_zero, List.set_cons_succ, List.getElem_toArray, List.getElem_cons_succ, List.getElem_cons_zero]
  refine AnyK.one (i := 17) rfl (by kernel_rfl) (by rfl) (fun K hK => ?_)
  refine wp_append_lies _ (.tmp 20) (.tmp 22) 85 rfl B 83 i0 (.agg #[.int .i64 0, .int .i64 0, .string ⟨#[]⟩, .int .i64 0]) 4 40 Tryz.underlying85 HI.out HZ0.out HZ1.out HZ2.out rfl (by omega) (.slice ra (D.na q) rc) (D.na q) _ (by simp [Act.eval]) hrow ⟨H + 1, 0, none⟩ 1 1 [.int .i64 a, .int .i64 b, .string x, .int .i64 t] (by simp [Act.eval]) rfl (news_st (cs := #[.int .i64 a, .int .i64 b, .string x, .int .i64 t]) HNY.out) four_one (by omega) (by unfold maxLen; omega) (by omega) hBy _ rfl ?_
  intro go cq we hown2 hgrow hat hlt
  have hgrow' : wy.grownBy we (R q).ownBlock := by rw [HRQ.out]; exact hgrow
  have hdb2 : we.heap[db]? = some (.cells #[.int .i64 (D.n : Int), .int .i64 D.kind, .int .i64 D.start, .string D.lead, .slice (some ⟨g, 0, none⟩) D.n cp] 79 (0, 0)) :=
    (hgrow'.block db (by have := lt_of_block HDB.out; have := hgy.size; omega) (fun e => HDNE.out q hq e.symm)).trans ((hgy.block db (lt_of_block HDB.out) (by simp)).trans HDB.out)
  have hgl : g < w1d.heap.size := (World.ownsRow.lt HOM.out.top g rfl).2
  have hg2 : we.cell? ⟨g, q * 2 + 1, none⟩ = some (.slice ra (D.na q) rc) := hgrow'.cell hS1.2.1 (fun e => HGNE.out e.symm)
  have hgo : ∀ c, (Value.slice (some ⟨go, 0, none⟩) (D.na q + 1) cq).ownBlock = some c → (R q).ownBlock = some c ∨ w1d.heap.size ≤ c := fun c hc => by
    have e : go = c := by simpa [Value.ownBlock] using hc
    subst e
    rcases hat with h1 | h1
    · exact .inl (by rw [HRQ.out]; exact h1)
    · right; omega
  have harc := HOM.out.arc (a := a) (b := b) (x := x) (t := t) (v' := .slice (some ⟨go, 0, none⟩) (D.na q + 1) cq) hq hown2 (o := .cells #[.int .i64 a, .int .i64 b, .string x, .int .i64 t] 83) (by rw [← HWY.out]; exact hgrow') hgo
  have hfz : we.frozen? ⟨g, q * 2 + 1, none⟩ = false := by
    have h1 : we.ownsRow B 87 2 (.slice (some ⟨g, 0, none⟩) D.n cp) D.n (cat (st2 D R) D.n) := row_kept (by rw [HWY.out]; exact World.ownsRow.alloc HOM.out.top _) hgrow' (fun c hc e => by
      have e2 : g = c := by simpa [Value.ownBlock] using hc
      subst e2; exact HGNE.out e)
    exact row_free h1 _
  have hS2 : we.cell? ⟨db, 4, none⟩ = some (.slice (some ⟨g, 0, none⟩) D.n cp) ∧ we.cell? ⟨g, q * 2 + 1, none⟩ = some (.slice ra (D.na q) rc) ∧ we.cell? ⟨H, 0, none⟩ = some (.int .i64 a) ∧ we.cell? ⟨H, 1, none⟩ = some (.int .i64 b) ∧ we.cell? ⟨H, 2, none⟩ = some (.string x) ∧ we.cell? ⟨H, 3, none⟩ = some (.int .i64 t) := by
    have hne : some H ≠ (R q).ownBlock := fun e => by have := (World.ownsRow.lt (HH.out.own.row q hq) H e.symm).2; rw [← HHE.out] at this; omega
    exact ⟨BlkD.c4 hdb2, hg2, hgrow'.cell hS1.2.2.1 hne, hgrow'.cell hS1.2.2.2.1 hne, hgrow'.cell hS1.2.2.2.2.1 hne, hgrow'.cell hS1.2.2.2.2.2 hne⟩
  have hkt : Kt db w we := by
    have h2 := Kt.of_own (db := db) (hrow) (.inr rfl) hgrow
    exact ((Kt.of_fr (HF1.out.mono (fun _ _ e => e.elim))).trans (Kt.of_fr (Fr.of_gb hgy (by simp)))).trans h2
  have hbl : Below B w we := ((HF1.out.below hB (fun _ e => e.elim)).trans (((Below.refl B w1d).alloc (by have := HHE.out; omega) _))).grown (by rw [← HWY.out]; exact hgrow) (by rw [← HWY.out]; exact hBy) (fun k hk => (World.ownsRow.lt hrow k hk).1)
  have HARC := Lib.hid harc; clear harc
  have HDB2 := Lib.hid hdb2; clear hdb2
  have HKT := Lib.hid hkt; clear hkt
  have HBL := Lib.hid hbl; clear hbl
  have hgs : ∃ cs fr, we.heap[g]? = some (.cells cs 87 fr) := by
    have h1 : we.ownsRow B 87 2 (.slice (some ⟨g, 0, none⟩) D.n cp) D.n (cat (st2 D R) D.n) := row_kept (by rw [HWY.out]; exact World.ownsRow.alloc HOM.out.top _) hgrow' (fun c hc e => by
      have e2 : g = c := by simpa [Value.ownBlock] using hc
      subst e2; exact HGNE.out e)
    rcases h1.2 with ⟨hv, _⟩ | ⟨g', cap', cur, hv, _, hgg, _⟩
    · cases hv
    · cases hv; exact ⟨cur, _, hgg⟩
  have HGS := Lib.hid hgs; clear hgs
  clear hown2 hgrow hgrow' hat hlt hgo hrow hgy
  refine hK.out _ _ (.inr hS2) ?_
  clear hK K
  try simp only [Act.put, List.setIfInBounds_toArray, List.set_cons_zero, List.set_cons_succ, List.getElem_toArray, List.getElem_cons_succ, List.getElem_cons_zero]
  refine AnyK.tk (i := 18) (v := ?vb18) rfl (by kernel_rfl) hS2 (Or.inl ⟨by kernel_rfl, ?hyb18⟩) ?restb18
  case hyb18 => rintro wk ⟨s1, s2, s3, s4, s5, s6⟩; go_simp; try with_reducible rfl
  refine AnyK.tk (i := 19) (v := ?vb19) rfl (by kernel_rfl) hS2 (Or.inl ⟨by kernel_rfl, ?hyb19⟩) ?restb19
  case hyb19 => rintro wk ⟨s1, s2, s3, s4, s5, s6⟩; go_simp; try with_reducible rfl
  try simp only [Act.put, List.setIfInBounds_toArray, List.set_cons_zero, List.set_cons_succ, List.getElem_toArray, List.getElem_cons_succ, List.getElem_cons_zero]
  refine AnyK.one (i := 20) rfl (by kernel_rfl) (by rfl) (fun K hK => ?_)
  go_simp
  refine hK.out _ _ (.inl rfl) (AnyK.done (by kernel_rfl) ?_ _)
  clear hK K
  go_wp2_with fail
  go_end0
  have hlg : B ≤ g := (World.ownsRow.lt HOM.out.top g rfl).1
  refine ⟨rfl, ⟨_, _, ⟨?_, HARC.out, HH.out.low⟩⟩, HBL.out.setCell (p := ⟨g, q * 2 + 1, none⟩) hlg _, HKT.out.trans ⟨rfl, rfl, rfl, by rw [nblk_setCell]; exact Nat.le_refl _, fun k hk hd hr => blk_setCell_other _ _ _ _ (fun e => ?_)⟩⟩
  · have hne : db ≠ g := fun e => by
      obtain ⟨cs, fr, h1⟩ := HGS.out
      rw [← e, HDB2.out] at h1; simp at h1
    rw [blk_setne (show db ≠ g from hne)]; exact HDB2.out
  · subst e
    obtain ⟨cs, fr, h1⟩ := HGS.out
    exact hr ⟨cs, _, fr, h1, .inl rfl⟩
end Go.Proofs.YtjekapjbigfkbaaGreatDoor
