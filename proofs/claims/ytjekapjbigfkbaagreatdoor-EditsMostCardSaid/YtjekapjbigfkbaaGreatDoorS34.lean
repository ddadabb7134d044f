/- Parts of a proof: EdF. -/
import Derived.Test.YtjekapjbigfkbaaGreatDoorS33
import Derived.Test.YtjekapjbigfkbaaGreatDoorS15
namespace Go.Proofs.YtjekapjbigfkbaaGreatDoor
open Go Go.RowKit Go.Deep
set_option maxRecDepth 100000
set_option linter.unusedSimpArgs false
theorem AnyK.two {P : Program} {ops : Array Oper} {Q : Exit → Act → World → Prop} {S : World → Prop} {s i j : Nat} {fuel : Nat} {listed : Array Bool} {a : Act} {w : World} (hr : Region.ready .any ops listed = [i, j])
    (h1 : wpOp P ops Q i (fun a' w' => (i = s ∨ S w') ∧ AnyK P ops Q S s fuel (listed.setIfInBounds i true) a' w') a w)
    (h2 : wpOp P ops Q j (fun a' w' => (j = s ∨ S w') ∧ AnyK P ops Q S s fuel (listed.setIfInBounds j true) a' w') a w) : AnyK P ops Q S s (fuel + 1) listed a w := by
  refine ⟨fun h0 => (by rw [hr] at h0; cases h0), fun k hk => ?_⟩
  rw [hr] at hk
  rcases List.mem_cons.1 hk with rfl | hk
  · exact h1
  · obtain rfl : k = j := by simpa using hk
    exact h2
theorem eqB_self (n : Nat) (x : Nat → Int) : eqB n n x x = true := eqB_iff.2 ⟨rfl, fun _ _ => rfl⟩
set_option maxHeartbeats 8000000 in
theorem rsame_any {M : EM} {v v' : Value} (w : World) (h : EdS none w v M) (h' : EdS none w v' M) (hs : ESz M) :
    Calls Tryz.prog 30 #[.agg #[v, .int .i64 M.most], .agg #[v', .int .i64 M.most]] w (fun r w' => r = .returned (.bool true) ∧ Below w.heap.size w w') := by
  obtain ⟨a, cap, b, off, A, A', C, C', rfl, ha, hc, hm, hb, hrow⟩ := h.open
  obtain ⟨a2, cap2, b2, off2, A2, A2', C2, C2', rfl, ha2, hc2, hm2, hb2, hrow2⟩ := h'.open
  clear h h'
  obtain ⟨w1, hw1⟩ : ∃ w1, w1 = w.alloc (.cells #[.slice a M.n cap, .int .i64 M.most] 24) := ⟨_, rfl⟩
  obtain ⟨w2, hw2⟩ : ∃ w2, w2 = w1.alloc (.cells #[.slice a2 M.n cap2, .int .i64 M.most] 24) := ⟨_, rfl⟩
  have hz1 : w1.heap.size = w.heap.size + 1 := by rw [hw1]; simp
  obtain ⟨mb, hmb⟩ : ∃ mb, mb = w.heap.size := ⟨_, rfl⟩
  obtain ⟨nb, hnb⟩ : ∃ nb, nb = w.heap.size + 1 := ⟨_, rfl⟩
  have hf1 : Fr (fun _ => False) w w1 := by rw [hw1]; exact Fr.alloc _ _
  have hf2 : Fr (fun _ => False) w1 w2 := by rw [hw2]; exact Fr.alloc _ _
  have hbx1 : BoxE w1 mb M (.slice a M.n cap) := by rw [hw1, hmb]; exact BoxE.new w M _
  have hbx2 : BoxE w2 nb M (.slice a2 M.n cap2) := by rw [hw2, hnb, ← hz1]; exact BoxE.new w1 M _
  have hbx : BoxE w2 mb M (.slice a M.n cap) := (hf2.block mb hbx1.lt (fun e => e)).trans hbx1
  have hbel : Below w.heap.size w w2 := (hf1.trans hf2).below (Nat.le_refl _) (fun _ e => e.elim)
  have m0 := hbx.c0
  have m1 := hbx.c1
  have n0 := hbx2.c0
  have n1 := hbx2.c1
  have HBX := Lib.hid hbx; clear hbx hbx1
  have HBX2 := Lib.hid hbx2; clear hbx2 hf1 hf2
  have HBE := Lib.hid hbel; clear hbel
  have HA := Lib.hid ha; clear ha
  have HB := Lib.hid hb; clear hb
  have HR := Lib.hid hrow; clear hrow
  have HA2 := Lib.hid ha2; clear ha2
  have HB2 := Lib.hid hb2; clear hb2
  have HR2 := Lib.hid hrow2; clear hrow2
  have hnn := hs.n
  have HSZ := Lib.hid hs; clear hs
  clear hc hm hc2 hm2
  go_enter Tryz.func30, Tryz.ntmps30
  go_wp2_with fail
  rw [← hw1, ← hw2, ← hnb, ← hmb]
  clear hw1 hw2 hz1 hnb hmb m0 m1 n0 n1
  go_loopw [5] (fun v5 wr => ∃ q : Nat, q ≤ M.n ∧ v5 = .int .i64 (q : Int) ∧ Below w.heap.size w wr ∧ BoxE wr mb M (.slice a M.n cap) ∧ BoxE wr nb M (.slice a2 M.n cap2)) (fun v5 _ => M.n - (intOf v5).toNat)
  case atStart => exact ⟨0, Nat.zero_le _, rfl, HBE.out, HBX.out, HBX2.out⟩
  case round =>
    obtain ⟨q, hq, rfl, hbe, hbx, hbx2⟩ := hrel
    clear HBE HBX HBX2
    have HBE := Lib.hid hbe; clear hbe
    have HBX := Lib.hid hbx; clear hbx
    have HBX2 := Lib.hid hbx2; clear hbx2
    have m0 := HBX.out.c0
    have n0 := HBX2.out.c0
    by_cases hqt : q < M.n
    · have hqz : (q : Int) < (M.n : Int) := by omega
      have hqz0 : (0 : Int) ≤ (q : Int) := by omega
      obtain rfl := HA.out (by omega)
      obtain rfl := HA2.out (by omega)
      have hbb := (HB.out (by omega)).1
      have hbb2 := (HB2.out (by omega)).1
      obtain ⟨k1, k2, k3, k4, k5⟩ := HR.out q hqt
      obtain ⟨l1, l2, l3, l4, l5⟩ := HR2.out q hqt
      have c0 := (HBE.out.cell (p := ⟨b, off + q * 3, none⟩) hbb).trans k1
      have c1 := (HBE.out.cell (p := ⟨b, off + q * 3 + 1, none⟩) hbb).trans k2
      have c2 := (HBE.out.cell (p := ⟨b, off + q * 3 + 2, none⟩) hbb).trans k3
      have d0 := (HBE.out.cell (p := ⟨b2, off2 + q * 3, none⟩) hbb2).trans l1
      have d1 := (HBE.out.cell (p := ⟨b2, off2 + q * 3 + 1, none⟩) hbb2).trans l2
      have d2 := (HBE.out.cell (p := ⟨b2, off2 + q * 3 + 2, none⟩) hbb2).trans l3
      clear k1 k2 k3 l1 l2 l3
      obtain ⟨d, hd⟩ : ∃ d, d = M.e q := ⟨_, rfl⟩
      have hnf : (d.nf : Int) ≤ 4611686018427387903 := by rw [hd]; exact HSZ.out.f q
      have hnt : (d.nt : Int) ≤ 4611686018427387903 := by rw [hd]; exact HSZ.out.t q
      rw [← hd] at c0 c1 c2 d0 d1 d2 k4 k5 l4 l5
      clear hd
      obtain ⟨nf, hnfe⟩ : ∃ nf, nf = d.nf := ⟨_, rfl⟩
      obtain ⟨nt, hnte⟩ : ∃ nt, nt = d.nt := ⟨_, rfl⟩
      obtain ⟨ds, hds⟩ : ∃ ds, ds = d.w := ⟨_, rfl⟩
      rw [← hnfe] at c0 d0 k4 l4 hnf
      rw [← hnte] at c1 d1 k5 l5 hnt
      rw [← hds] at c2 d2
      obtain ⟨df, hdf⟩ : ∃ df, df = d.f := ⟨_, rfl⟩
      obtain ⟨dt, hdt⟩ : ∃ dt, dt = d.t := ⟨_, rfl⟩
      rw [← hdf] at k4 l4
      rw [← hdt] at k5 l5
      clear hnfe hnte hds hdf hdt
      have HK4 := Lib.hid k4; clear k4
      have HK5 := Lib.hid k5; clear k5
      have HL4 := Lib.hid l4; clear l4
      have HL5 := Lib.hid l5; clear l5
      go_wp2_with fail
      obtain ⟨ox, hox⟩ : ∃ ox, ox = Obj.cells #[.slice (A q) nf (C q), .slice (A' q) nt (C' q), .string ds] 50 := ⟨_, rfl⟩
      obtain ⟨oy, hoy⟩ : ∃ oy, oy = Obj.cells #[.slice (A2 q) nf (C2 q), .slice (A2' q) nt (C2' q), .string ds] 50 := ⟨_, rfl⟩
      have hS0 : (fun wk => wk.cell? ⟨mb, 0, none⟩ = some (.slice (some ⟨b, off, none⟩) M.n cap) ∧ wk.cell? ⟨nb, 0, none⟩ = some (.slice (some ⟨b2, off2, none⟩) M.n cap2) ∧ (wk.cell? ⟨b, off + q * 3, none⟩ = some (.slice (A q) nf (C q)) ∧ wk.cell? ⟨b, off + q * 3 + 1, none⟩ = some (.slice (A' q) nt (C' q)) ∧ wk.cell? ⟨b, off + q * 3 + 2, none⟩ = some (.string ds)) ∧ wk.cell? ⟨b2, off2 + q * 3, none⟩ = some (.slice (A2 q) nf (C2 q)) ∧ wk.cell? ⟨b2, off2 + q * 3 + 1, none⟩ = some (.slice (A2' q) nt (C2' q)) ∧ wk.cell? ⟨b2, off2 + q * 3 + 2, none⟩ = some (.string ds)) wr.drew := ⟨m0, n0, ⟨c0, c1, c2⟩, d0, d1, d2⟩
      have HKS : Hid (∀ o : Obj, (fun wk => wk.cell? ⟨mb, 0, none⟩ = some (.slice (some ⟨b, off, none⟩) M.n cap) ∧ wk.cell? ⟨nb, 0, none⟩ = some (.slice (some ⟨b2, off2, none⟩) M.n cap2) ∧ (wk.cell? ⟨b, off + q * 3, none⟩ = some (.slice (A q) nf (C q)) ∧ wk.cell? ⟨b, off + q * 3 + 1, none⟩ = some (.slice (A' q) nt (C' q)) ∧ wk.cell? ⟨b, off + q * 3 + 2, none⟩ = some (.string ds)) ∧ wk.cell? ⟨b2, off2 + q * 3, none⟩ = some (.slice (A2 q) nf (C2 q)) ∧ wk.cell? ⟨b2, off2 + q * 3 + 1, none⟩ = some (.slice (A2' q) nt (C2' q)) ∧ wk.cell? ⟨b2, off2 + q * 3 + 2, none⟩ = some (.string ds)) (wr.drew.alloc o) ∧ ∀ o', (fun wk => wk.cell? ⟨mb, 0, none⟩ = some (.slice (some ⟨b, off, none⟩) M.n cap) ∧ wk.cell? ⟨nb, 0, none⟩ = some (.slice (some ⟨b2, off2, none⟩) M.n cap2) ∧ (wk.cell? ⟨b, off + q * 3, none⟩ = some (.slice (A q) nf (C q)) ∧ wk.cell? ⟨b, off + q * 3 + 1, none⟩ = some (.slice (A' q) nt (C' q)) ∧ wk.cell? ⟨b, off + q * 3 + 2, none⟩ = some (.string ds)) ∧ wk.cell? ⟨b2, off2 + q * 3, none⟩ = some (.slice (A2 q) nf (C2 q)) ∧ wk.cell? ⟨b2, off2 + q * 3 + 1, none⟩ = some (.slice (A2' q) nt (C2' q)) ∧ wk.cell? ⟨b2, off2 + q * 3 + 2, none⟩ = some (.string ds)) ((wr.drew.alloc o).alloc o')) := Lib.hid fun o => by
        have h1 : Fr (fun _ => False) wr.drew (wr.drew.alloc o) := Fr.alloc _ _
        have k : ∀ {p : Addr} {v : Value}, wr.drew.cell? p = some v → (wr.drew.alloc o).cell? p = some v := fun hp => h1.cell hp (fun e => e)
        refine ⟨⟨k m0, k n0, ⟨k c0, k c1, k c2⟩, k d0, k d1, k d2⟩, fun o' => ?_⟩
        have h2 : Fr (fun _ => False) (wr.drew.alloc o) ((wr.drew.alloc o).alloc o') := Fr.alloc _ _
        have k2 : ∀ {p : Addr} {v : Value}, wr.drew.cell? p = some v → ((wr.drew.alloc o).alloc o').cell? p = some v := fun hp => h2.cell (k hp) (fun e => e)
        exact ⟨k2 m0, k2 n0, ⟨k2 c0, k2 c1, k2 c2⟩, k2 d0, k2 d1, k2 d2⟩
      refine region_heldK (fun wk => wk.cell? ⟨mb, 0, none⟩ = some (.slice (some ⟨b, off, none⟩) M.n cap) ∧ wk.cell? ⟨nb, 0, none⟩ = some (.slice (some ⟨b2, off2, none⟩) M.n cap2) ∧ (wk.cell? ⟨b, off + q * 3, none⟩ = some (.slice (A q) nf (C q)) ∧ wk.cell? ⟨b, off + q * 3 + 1, none⟩ = some (.slice (A' q) nt (C' q)) ∧ wk.cell? ⟨b, off + q * 3 + 2, none⟩ = some (.string ds)) ∧ wk.cell? ⟨b2, off2 + q * 3, none⟩ = some (.slice (A2 q) nf (C2 q)) ∧ wk.cell? ⟨b2, off2 + q * 3 + 1, none⟩ = some (.slice (A2' q) nt (C2' q)) ∧ wk.cell? ⟨b2, off2 + q * 3 + 2, none⟩ = some (.string ds)) 13 (by kernel_rfl) ?_
      refine AnyK.tk (i := 0) (v := ?va0) rfl (by kernel_rfl) hS0 (Or.inl ⟨by kernel_rfl, ?hya0⟩) ?resta0
      case hya0 => rintro wk ⟨s1, s2, ⟨s3, s4, s5⟩, s6, s7, s8⟩; go_simp; try with_reducible rfl
      refine AnyK.tk (i := 1) (v := ?va1) rfl (by kernel_rfl) hS0 (Or.inl ⟨by kernel_rfl, ?hya1⟩) ?resta1
      case hya1 => rintro wk ⟨s1, s2, ⟨s3, s4, s5⟩, s6, s7, s8⟩; go_simp; try with_reducible rfl
      refine AnyK.tk (i := 2) (v := ?va2) rfl (by kernel_rfl) hS0 (Or.inl ⟨by kernel_rfl, ?hya2⟩) ?resta2
      case hya2 => rintro wk ⟨s1, s2, ⟨s3, s4, s5⟩, s6, s7, s8⟩; go_simp; try with_reducible rfl
      refine AnyK.tk (i := 3) (v := ?va3) rfl (by kernel_rfl) hS0 (Or.inl ⟨by kernel_rfl, ?hya3⟩) ?resta3
      case hya3 => rintro wk ⟨s1, s2, ⟨s3, s4, s5⟩, s6, s7, s8⟩; go_simp; try with_reducible rfl
      refine AnyK.tk (i := 4) (v := ?va4) rfl (by kernel_rfl) hS0 (Or.inl ⟨by kernel_rfl, ?hya4⟩) ?resta4
      case hya4 => rintro wk ⟨s1, s2, ⟨s3, s4, s5⟩, s6, s7, s8⟩; go_simp; try with_reducible rfl
      refine AnyK.tk (i := 5) (v := ?va5) rfl (by kernel_rfl) hS0 (Or.inl ⟨by kernel_rfl, ?hya5⟩) ?resta5
      case hya5 => rintro wk ⟨s1, s2, ⟨s3, s4, s5⟩, s6, s7, s8⟩; go_simp; try with_reducible rfl
      refine AnyK.tk (i := 6) (v := ?va6) rfl (by kernel_rfl) hS0 (Or.inl ⟨by kernel_rfl, ?hya6⟩) ?resta6
      case hya6 => rintro wk ⟨s1, s2, ⟨s3, s4, s5⟩, s6, s7, s8⟩; go_simp; try with_reducible rfl
      refine AnyK.tk (i := 7) (v := ?va7) rfl (by kernel_rfl) hS0 (Or.inl ⟨by kernel_rfl, ?hya7⟩) ?resta7
      case hya7 => rintro wk ⟨s1, s2, ⟨s3, s4, s5⟩, s6, s7, s8⟩; go_simp; try with_reducible rfl
      refine AnyK.tk (i := 8) (v := ?va8) rfl (by kernel_rfl) hS0 (Or.inl ⟨by kernel_rfl, ?hya8⟩) ?resta8
      case hya8 => rintro wk ⟨s1, s2, ⟨s3, s4, s5⟩, s6, s7, s8⟩; go_simp; try with_reducible rfl
      refine AnyK.tk (i := 9) (v := ?va9) rfl (by kernel_rfl) hS0 (Or.inl ⟨by kernel_rfl, ?hya9⟩) ?resta9
      case hya9 => rintro wk ⟨s1, s2, ⟨s3, s4, s5⟩, s6, s7, s8⟩; go_simp; try with_reducible rfl
      try simp only [Act.put, List.setIfInBounds_toArray, List.set_cons_zero, List.set_cons_succ, List.getElem_toArray, List.getElem_cons_succ, List.getElem_cons_zero]
      clear m0 n0 c0 c1 c2 d0 d1 d2 hS0
      refine AnyK.two (i := 10) (j := 11) (by kernel_rfl) (wpOp_go rfl rfl fun K hK => ?_) (wpOp_go rfl rfl fun K hK => ?_)
      · go_simp
        refine hK _ _ ⟨.inr (HKS.out _).1, ?_⟩
        clear hK K
        try simp only [Act.put, List.setIfInBounds_toArray, List.set_cons_zero, List.set_cons_succ, List.getElem_toArray, List.getElem_cons_succ, List.getElem_cons_zero]
        refine AnyK.one (i := 11) rfl (by kernel_rfl) (by rfl) (fun K hK => ?_)
        go_simp
        refine hK.out _ _ (.inr ((HKS.out _).2 _)) ?_
        clear hK K
        try simp only [Act.put, List.setIfInBounds_toArray, List.set_cons_zero, List.set_cons_succ, List.getElem_toArray, List.getElem_cons_succ, List.getElem_cons_zero]
        refine AnyK.one (i := 12) rfl (by kernel_rfl) (by rfl) (fun K hK => ?_)
        go_simp
        refine hK.out _ _ (.inr ((HKS.out _).2 _)) ?_
        clear hK K
        try simp only [Act.put, List.setIfInBounds_toArray, List.set_cons_zero, List.set_cons_succ, List.getElem_toArray, List.getElem_cons_succ, List.getElem_cons_zero]
        refine AnyK.one (i := 13) rfl (by kernel_rfl) (by rfl) (fun K hK => ?_)
        go_simp
        refine hK.out _ _ (.inl rfl) (AnyK.done (by kernel_rfl) ?_ _)
        clear hK K
        rw [← hox, ← hoy]
        obtain ⟨W, hW⟩ : ∃ W, W = ((wr.alloc ox).alloc oy).drew := ⟨_, rfl⟩
        obtain ⟨xb, hxb⟩ : ∃ xb, xb = wr.heap.size := ⟨_, rfl⟩
        obtain ⟨yb, hyb⟩ : ∃ yb, yb = wr.heap.size + 1 := ⟨_, rfl⟩
        have hfW : Fr (fun _ => False) wr W := by rw [hW]; exact ((Fr.alloc _ _).trans (Fr.alloc _ _)).drew
        have hb1 : W.heap[wr.heap.size]? = some ox := by rw [hW]; exact (blk_alloc_lt (wr.alloc ox) _ _ (by simp)).trans (heap_alloc_new wr ox)
        have hb2 : W.heap[wr.heap.size + 1]? = some oy := by rw [hW, show wr.heap.size + 1 = (wr.alloc ox).heap.size by simp]; exact heap_alloc_new (wr.alloc ox) oy
        have hX : W.heap[xb]? = some ox := by rw [hxb]; exact hb1
        have hY : W.heap[yb]? = some oy := by rw [hyb]; exact hb2
        first | rw [← hW, ← hyb, ← hxb] | (trace_state; fail)
        clear hW hxb hyb hb1 hb2
        subst hox hoy
        have x0 := cell_of hX 0 rfl
        have x1 := cell_of hX 1 rfl
        have x2 := cell_of hX 2 rfl
        have y0 := cell_of hY 0 rfl
        have y1 := cell_of hY 1 rfl
        have y2 := cell_of hY 2 rfl
        have hbW := HBE.out.trans (hfW.below HBE.out.size (fun _ e => e.elim))
        have HXW := Lib.hid (show BoxE W mb M (.slice (some ⟨b, off, none⟩) M.n cap) from (hfW.block mb HBX.out.lt (fun e => e)).trans HBX.out)
        have HYW := Lib.hid (show BoxE W nb M (.slice (some ⟨b2, off2, none⟩) M.n cap2) from (hfW.block nb HBX2.out.lt (fun e => e)).trans HBX2.out)
        have HC1 := Lib.hid (wcmp_any W (HK4.out.kept (gb_below hbW none)) (HL4.out.kept (gb_below hbW none)) (by omega) (by omega))
        have HC2 : Hid (∀ W', Below W.heap.size W W' → _) := Lib.hid fun W' h => wcmp_any W' (HK5.out.kept (gb_below (hbW.trans (h.mono hbW.size)) none)) (HL5.out.kept (gb_below (hbW.trans (h.mono hbW.size)) none)) (by omega) (by omega)
        have HBW := Lib.hid hbW; clear hbW
        have HX := Lib.hid hX; clear hX
        have HY := Lib.hid hY; clear hY hfW
        go_wp2_with fail
        refine HC1.out.mono ?_
        rintro rr w5 ⟨⟨c, rfl, hc⟩, hb5⟩
        obtain rfl : c = 0 := hc.2 (eqB_self _ _)
        have hf5 : Fr (fun _ => False) W w5 := Fr.of_below hb5
        have x1' : w5.cell? ⟨xb, 1, none⟩ = some (.slice (A' q) nt (C' q)) := cell_of ((hf5.block xb (lt_of_block HX.out) (fun e => e)).trans HX.out) 1 rfl
        have y1' : w5.cell? ⟨yb, 1, none⟩ = some (.slice (A2' q) nt (C2' q)) := cell_of ((hf5.block yb (lt_of_block HY.out) (fun e => e)).trans HY.out) 1 rfl
        have HC3 := Lib.hid (HC2.out w5 hb5)
        have HB5 := Lib.hid (HBW.out.trans (hb5.mono HBW.out.size))
        have HX5 := Lib.hid (show BoxE w5 mb M (.slice (some ⟨b, off, none⟩) M.n cap) from (hf5.block mb HXW.out.lt (fun e => e)).trans HXW.out)
        have HY5 := Lib.hid (show BoxE w5 nb M (.slice (some ⟨b2, off2, none⟩) M.n cap2) from (hf5.block nb HYW.out.lt (fun e => e)).trans HYW.out)
        clear hc hb5 hf5 x0 x1 x2 y0 y1 y2 HC1 HC2
        go_wp2_with fail
        refine HC3.out.mono ?_
        rintro rr w6 ⟨⟨c, rfl, hc⟩, hb6⟩
        obtain rfl : c = 0 := hc.2 (eqB_self _ _)
        have hf6 : Fr (fun _ => False) w5 w6 := Fr.of_below hb6
        have HB6 := Lib.hid (HB5.out.trans (hb6.mono HB5.out.size))
        have HX6 := Lib.hid (show BoxE w6 mb M (.slice (some ⟨b, off, none⟩) M.n cap) from (hf6.block mb HX5.out.lt (fun e => e)).trans HX5.out)
        have HY6 := Lib.hid (show BoxE w6 nb M (.slice (some ⟨b2, off2, none⟩) M.n cap2) from (hf6.block nb HY5.out.lt (fun e => e)).trans HY5.out)
        clear hc hb6 hf6 x1' y1' HC3
        go_wp2_with fail
        go_roundw
        case rel => exact ⟨q + 1, by omega, by go_num, HB6.out, HX6.out, HY6.out⟩
        case measure => simp [intOf]; omega
      · go_simp
        refine hK _ _ ⟨.inr (HKS.out _).1, ?_⟩
        clear hK K
        try simp only [Act.put, List.setIfInBounds_toArray, List.set_cons_zero, List.set_cons_succ, List.getElem_toArray, List.getElem_cons_succ, List.getElem_cons_zero]
        refine AnyK.one (i := 10) rfl (by kernel_rfl) (by rfl) (fun K hK => ?_)
        go_simp
        refine hK.out _ _ (.inr ((HKS.out _).2 _)) ?_
        clear hK K
        try simp only [Act.put, List.setIfInBounds_toArray, List.set_cons_zero, List.set_cons_succ, List.getElem_toArray, List.getElem_cons_succ, List.getElem_cons_zero]
        refine AnyK.one (i := 12) rfl (by kernel_rfl) (by rfl) (fun K hK => ?_)
        go_simp
        refine hK.out _ _ (.inr ((HKS.out _).2 _)) ?_
        clear hK K
        try simp only [Act.put, List.setIfInBounds_toArray, List.set_cons_zero, List.set_cons_succ, List.getElem_toArray, List.getElem_cons_succ, List.getElem_cons_zero]
        refine AnyK.one (i := 13) rfl (by kernel_rfl) (by rfl) (fun K hK => ?_)
        go_simp
        refine hK.out _ _ (.inl rfl) (AnyK.done (by kernel_rfl) ?_ _)
        clear hK K
        rw [← hox, ← hoy]
        obtain ⟨W, hW⟩ : ∃ W, W = ((wr.alloc oy).alloc ox).drew := ⟨_, rfl⟩
        obtain ⟨xb, hxb⟩ : ∃ xb, xb = wr.heap.size + 1 := ⟨_, rfl⟩
        obtain ⟨yb, hyb⟩ : ∃ yb, yb = wr.heap.size := ⟨_, rfl⟩
        have hfW : Fr (fun _ => False) wr W := by rw [hW]; exact ((Fr.alloc _ _).trans (Fr.alloc _ _)).drew
        have hb1 : W.heap[wr.heap.size]? = some oy := by rw [hW]; exact (blk_alloc_lt (wr.alloc oy) _ _ (by simp)).trans (heap_alloc_new wr oy)
        have hb2 : W.heap[wr.heap.size + 1]? = some ox := by rw [hW, show wr.heap.size + 1 = (wr.alloc oy).heap.size by simp]; exact heap_alloc_new (wr.alloc oy) ox
        have hX : W.heap[xb]? = some ox := by rw [hxb]; exact hb2
        have hY : W.heap[yb]? = some oy := by rw [hyb]; exact hb1
        first | rw [← hW, ← hxb, ← hyb] | (trace_state; fail)
        clear hW hxb hyb hb1 hb2
        subst hox hoy
        have x0 := cell_of hX 0 rfl
        have x1 := cell_of hX 1 rfl
        have x2 := cell_of hX 2 rfl
        have y0 := cell_of hY 0 rfl
        have y1 := cell_of hY 1 rfl
        have y2 := cell_of hY 2 rfl
        have hbW := HBE.out.trans (hfW.below HBE.out.size (fun _ e => e.elim))
        have HXW := Lib.hid (show BoxE W mb M (.slice (some ⟨b, off, none⟩) M.n cap) from (hfW.block mb HBX.out.lt (fun e => e)).trans HBX.out)
        have HYW := Lib.hid (show BoxE W nb M (.slice (some ⟨b2, off2, none⟩) M.n cap2) from (hfW.block nb HBX2.out.lt (fun e => e)).trans HBX2.out)
        have HC1 := Lib.hid (wcmp_any W (HK4.out.kept (gb_below hbW none)) (HL4.out.kept (gb_below hbW none)) (by omega) (by omega))
        have HC2 : Hid (∀ W', Below W.heap.size W W' → _) := Lib.hid fun W' h => wcmp_any W' (HK5.out.kept (gb_below (hbW.trans (h.mono hbW.size)) none)) (HL5.out.kept (gb_below (hbW.trans (h.mono hbW.size)) none)) (by omega) (by omega)
        have HBW := Lib.hid hbW; clear hbW
        have HX := Lib.hid hX; clear hX
        have HY := Lib.hid hY; clear hY hfW
        go_wp2_with fail
        refine HC1.out.mono ?_
        rintro rr w5 ⟨⟨c, rfl, hc⟩, hb5⟩
        obtain rfl : c = 0 := hc.2 (eqB_self _ _)
        have hf5 : Fr (fun _ => False) W w5 := Fr.of_below hb5
        have x1' : w5.cell? ⟨xb, 1, none⟩ = some (.slice (A' q) nt (C' q)) := cell_of ((hf5.block xb (lt_of_block HX.out) (fun e => e)).trans HX.out) 1 rfl
        have y1' : w5.cell? ⟨yb, 1, none⟩ = some (.slice (A2' q) nt (C2' q)) := cell_of ((hf5.block yb (lt_of_block HY.out) (fun e => e)).trans HY.out) 1 rfl
        have HC3 := Lib.hid (HC2.out w5 hb5)
        have HB5 := Lib.hid (HBW.out.trans (hb5.mono HBW.out.size))
        have HX5 := Lib.hid (show BoxE w5 mb M (.slice (some ⟨b, off, none⟩) M.n cap) from (hf5.block mb HXW.out.lt (fun e => e)).trans HXW.out)
        have HY5 := Lib.hid (show BoxE w5 nb M (.slice (some ⟨b2, off2, none⟩) M.n cap2) from (hf5.block nb HYW.out.lt (fun e => e)).trans HYW.out)
        clear hc hb5 hf5 x0 x1 x2 y0 y1 y2 HC1 HC2
        go_wp2_with fail
        refine HC3.out.mono ?_
        rintro rr w6 ⟨⟨c, rfl, hc⟩, hb6⟩
        obtain rfl : c = 0 := hc.2 (eqB_self _ _)
        have hf6 : Fr (fun _ => False) w5 w6 := Fr.of_below hb6
        have HB6 := Lib.hid (HB5.out.trans (hb6.mono HB5.out.size))
        have HX6 := Lib.hid (show BoxE w6 mb M (.slice (some ⟨b, off, none⟩) M.n cap) from (hf6.block mb HX5.out.lt (fun e => e)).trans HX5.out)
        have HY6 := Lib.hid (show BoxE w6 nb M (.slice (some ⟨b2, off2, none⟩) M.n cap2) from (hf6.block nb HY5.out.lt (fun e => e)).trans HY5.out)
        clear hc hb6 hf6 x1' y1' HC3
        go_wp2_with fail
        go_roundw
        case rel => exact ⟨q + 1, by omega, by go_num, HB6.out, HX6.out, HY6.out⟩
        case measure => simp [intOf]; omega
    · have hqn : q = M.n := by omega
      have hgt : ¬ ((q : Int) < (M.n : Int)) := by omega
      go_wp2_with fail
      go_ret
      exact ⟨rfl, HBE.out⟩
end Go.Proofs.YtjekapjbigfkbaaGreatDoor
