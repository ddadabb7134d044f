/- The walk of abugidalaw07.ClosureTotals. -/
import Derived.Test.YtlmfppjphblemaaGreatDoorLawW
namespace Go.Proofs.YtlmfppjphblemaaGreatDoor
open Go Go.RowKit Go.Deep
set_option maxRecDepth 100000
set_option linter.unusedSimpArgs false

/-- The sum over the final states of what comes from the start. -/
def fromV {k : KK} (D : MD) (L : RK k) (S : Nat → Nat → RK k) (V : Nat → RK k) (i : Nat) : Nat → RK k
  | 0 => CSR.zero
  | p + 1 => if D.fin p = ⟨#[]⟩ then fromV D L S V i p else fromV D L S V i p + L * S i p * V p
theorem total_both {k : KK} (D : MD) (L : RK k) (S : Nat → Nat → RK k) (V : Nat → RK k) (i : Nat) : ∀ p, L * toV D S V i p = fromV D L S V i p
  | 0 => CSR.m0 _
  | p + 1 => by
    unfold toV fromV
    split
    · exact total_both D L S V i p
    · rw [CSR.mD, total_both D L S V i p, ← CSR.mA]
theorem lim_fit {k : KK} {x : RK k} (h : (limV x.1).2 = 0) : Is k 0 (limV x.1).1 x := by
  rcases limV_cases x.1 with ⟨h1, h2⟩ | ⟨_, h2⟩
  · rw [h2]; exact ⟨by have := limV_size x.1; rw [h2] at this; exact Nat.le_trans this (by omega), fun _ => ⟨rfl, h1⟩⟩
  · omega

theorem ToE.good {D : MD} {w w' : World} {r : Ending} (h : ToE D w r w') (hv : VM D) (hn : D.n ≤ 60) {k : KK} (hk : k.1 = D.kind) : Below w.heap.size w w' ∧ ∃ tv te, r = .returned (.tuple #[tv, .int .i64 te]) ∧ ((te = 0 ∧ ∃ Z, Ss none w' tv D.n Z ∧ ∀ i, i < D.n → Is k 0 (Z i) (toV D (CSR.starM (arcM D fun i d => wval k (D.aw i d)) D.n) (fun p => wval k (D.fin p)) i D.n)) ∨ te = 2) := by
  refine ⟨h.1, ?_⟩
  rcases h.2 with ⟨h1, _⟩ | ⟨_, h1, _⟩ | ⟨_, _, k', W, V, hk', hW, hV, hr⟩
  · exact absurd hv h1
  · omega
  · obtain rfl : k' = k := Subtype.ext (hk'.trans hk.symm)
    obtain rfl := hW.1
    obtain rfl := hV.1
    rcases hr with ⟨v, Z, rfl, hs, hz⟩ | ⟨rfl, _⟩
    · exact ⟨v, 0, rfl, .inl ⟨rfl, Z, hs, hz⟩⟩
    · exact ⟨_, 2, rfl, .inr rfl⟩
theorem FromE.good {D : MD} {w w' : World} {r : Ending} (h : FromE D w r w') (hv : VM D) (hn : D.n ≤ 60) {k : KK} (hk : k.1 = D.kind) {st : Nat} (hst : D.start = (st : Int)) : Below w.heap.size w w' ∧ ∃ tv te, r = .returned (.tuple #[tv, .int .i64 te]) ∧ ((te = 0 ∧ ∃ Z, Ss none w' tv D.n Z ∧ ∀ i, i < D.n → Is k 0 (Z i) (wval k D.lead * CSR.starM (arcM D fun i d => wval k (D.aw i d)) D.n st i)) ∨ te = 2) := by
  refine ⟨h.1, ?_⟩
  rcases h.2 with ⟨h1, _⟩ | ⟨_, h1, _⟩ | ⟨_, _, k', W, L, st', hk', hW, hL, hs', _, hr⟩
  · exact absurd hv h1
  · omega
  · obtain rfl : k' = k := Subtype.ext (hk'.trans hk.symm)
    obtain rfl := hW.1
    obtain rfl := hL.val
    obtain rfl : st' = st := by omega
    rcases hr with ⟨v, Z, rfl, hs, hz⟩ | ⟨rfl, _⟩
    · exact ⟨v, 0, rfl, .inl ⟨rfl, Z, hs, hz⟩⟩
    · exact ⟨_, 2, rfl, .inr rfl⟩
theorem TotE.good {D : MD} {w w' : World} {r : Ending} (h : TotE D w r w') (hv : VM D) (hn : D.n ≤ 60) {k : KK} (hk : k.1 = D.kind) {st : Nat} (hst : D.start = (st : Int)) : Below w.heap.size w w' ∧ ∃ s te, r = .returned (.tuple #[.string s, .int .i64 te]) ∧ ((te = 0 ∧ Is k 0 s (wval k D.lead * toV D (CSR.starM (arcM D fun i d => wval k (D.aw i d)) D.n) (fun p => wval k (D.fin p)) st D.n)) ∨ te = 2) := by
  refine ⟨h.1, ?_⟩
  rcases h.2 with ⟨h1, _⟩ | ⟨_, h1, _⟩ | ⟨_, _, k', W, V, L, st', hk', hW, hV, hL, hs', _, hr⟩
  · exact absurd hv h1
  · omega
  · obtain rfl : k' = k := Subtype.ext (hk'.trans hk.symm)
    obtain rfl := hW.1
    obtain rfl := hV.1
    obtain rfl := hL.val
    obtain rfl : st' = st := by omega
    rcases hr with ⟨q, rfl, rfl⟩ | ⟨rfl, _⟩
    · rcases limV_cases (wval k' D.lead * toV D (CSR.starM (arcM D fun i d => wval k' (D.aw i d)) D.n) (fun p => wval k' (D.fin p)) st' D.n).1 with ⟨_, h2⟩ | ⟨_, h2⟩
      · exact ⟨_, _, rfl, .inl ⟨by rw [h2]; rfl, lim_fit (by rw [h2])⟩⟩
      · exact ⟨_, _, rfl, .inr (by rw [h2]; rfl)⟩
    · exact ⟨_, 2, rfl, .inr rfl⟩

set_option maxHeartbeats 8000000 in
theorem closureTotals_any {D : MD} {v : Value} (w : World) (hM : Ma none w v D) (hs : MSz D) (ht : Tab w) : Calls Tryz.prog 8 #[v] w (TrueE w) := by
  obtain ⟨sv, rfl, hS⟩ := hM
  have hSk := hS
  obtain ⟨a, cap, b, off, A, C, BB, O, rfl, ha, hc, hm, hb, hrow⟩ := hS.open
  unfold maxLen at hm
  clear hS
  have hbox := BoxM.new w D (.slice a D.n cap)
  have hbel : Below w.heap.size w (w.alloc (.cells #[.int .i64 D.kind, .int .i64 D.start, .string D.lead, .slice a D.n cap] 31)) := (Below.refl _ _).alloc (Nat.le_refl _) _
  have hMA : Ma none (w.alloc (.cells #[.int .i64 D.kind, .int .i64 D.start, .string D.lead, .slice a D.n cap] 31)) (.agg #[.int .i64 D.kind, .int .i64 D.start, .string D.lead, .slice a D.n cap]) D := ⟨_, rfl, hSk.kept (World.grownBy_alloc _ _ _)⟩
  have hnn := hs.n
  obtain ⟨wb, hwb⟩ : ∃ wb, wb = w.alloc (.cells #[.int .i64 D.kind, .int .i64 D.start, .string D.lead, .slice a D.n cap] 31) := ⟨_, rfl⟩
  obtain ⟨mb, hmb⟩ : ∃ mb, mb = w.heap.size := ⟨_, rfl⟩
  rw [← hwb] at hbox hbel hMA
  rw [← hmb] at hbox
  have HMA := Lib.hid hMA; clear hMA hSk
  have HSZ := Lib.hid hs; clear hs
  have HT := Lib.hid ht; clear ht
  have HA := Lib.hid ha; clear ha
  have HB := Lib.hid hb; clear hb
  have HR := Lib.hid hrow; clear hrow
  have HBX := Lib.hid hbox; clear hbox
  have HBE := Lib.hid hbel; clear hbel
  have hex : ∀ wk', Below w.heap.size w wk' → Calls Tryz.prog 11 #[] wk' (TrueE wk') := fun wk' hb => example_any wk' (HT.out.below hb (Nat.le_refl _))
  have HEX := Lib.hid hex; clear hex
  by_cases hn9 : D.n ≤ 9
  · have hnz : decide ((9 : Int) < (D.n : Int)) = false := by simp; omega
    go_enter Tryz.func8, Tryz.ntmps8
    go_wp2_with fail
    rw [← hwb, ← hmb]
    clear hwb
    refine (mvalid_any _ HMA.out HSZ.out (HT.out.below HBE.out (Nat.le_refl _))).mono ?_
    rintro r w1 ⟨hb1, hv⟩
    have hkeep : ∀ w', Below wb.heap.size wb w' → BoxM w' mb D (.slice a D.n cap) ∧ Ma none w' (.agg #[.int .i64 D.kind, .int .i64 D.start, .string D.lead, .slice a D.n cap]) D ∧ Below w.heap.size w w' ∧ Tab w' := fun w' hb =>
      ⟨HBX.out.kept (gb_below hb none) (by simp), (by obtain ⟨sv, e, hs⟩ := HMA.out; exact ⟨sv, e, hs.kept (gb_below hb none)⟩), HBE.out.trans (hb.mono HBE.out.size), HT.out.below (HBE.out.trans (hb.mono HBE.out.size)) (Nat.le_refl _)⟩
    have HK := Lib.hid hkeep; clear hkeep
    subst hmb
    have HB1 := Lib.hid hb1; clear hb1
    rcases hv with ⟨hvm, rfl⟩ | ⟨hvm, rfl⟩
    · have m0 := (HK.out _ HB1.out).1.c0
      have m1 := (HK.out _ HB1.out).1.c1
      have m2 := (HK.out _ HB1.out).1.c2
      have m3 := (HK.out _ HB1.out).1.c3
      obtain ⟨k, hk⟩ := hvm.kk
      have hs0 := hvm.s0
      have hs1 := hvm.s1
      obtain ⟨st, hst⟩ : ∃ st : Nat, D.start = (st : Int) := ⟨D.start.toNat, by omega⟩
      have hstn : st < D.n := by omega
      clear hs0 hs1
      have HVM := Lib.hid hvm; clear hvm
      have HKK := Lib.hid hk; clear hk
      have HST := Lib.hid hst; clear hst
      go_wp2_with fail
      refine (to_any _ (HK.out _ HB1.out).2.1 HSZ.out (HK.out _ HB1.out).2.2.2).mono ?_
      intro r w2 hr
      obtain ⟨hb2, tv, te, rfl, hte⟩ := hr.good HVM.out (by omega) HKK.out
      have HB2 := Lib.hid (HB1.out.trans (hb2.mono HB1.out.size)); clear hb2 hr
      have HTE := Lib.hid hte; clear hte
      clear m0 m1 m2 m3
      have m0 := (HK.out _ HB2.out).1.c0
      have m1 := (HK.out _ HB2.out).1.c1
      have m2 := (HK.out _ HB2.out).1.c2
      have m3 := (HK.out _ HB2.out).1.c3
      go_wp2_with fail
      refine (from_any _ (HK.out _ HB2.out).2.1 HSZ.out (HK.out _ HB2.out).2.2.2).mono ?_
      intro r w3 hr
      obtain ⟨hb3, fv, fe, rfl, hfe⟩ := hr.good HVM.out (by omega) HKK.out HST.out
      have HB23 := Lib.hid hb3
      have HB3 := Lib.hid (HB2.out.trans (hb3.mono HB2.out.size)); clear hb3 hr
      have HFE := Lib.hid hfe; clear hfe
      clear m0 m1 m2 m3
      have m0 := (HK.out _ HB3.out).1.c0
      have m1 := (HK.out _ HB3.out).1.c1
      have m2 := (HK.out _ HB3.out).1.c2
      have m3 := (HK.out _ HB3.out).1.c3
      go_wp2_with fail
      refine (total_any _ (HK.out _ HB3.out).2.1 HSZ.out (HK.out _ HB3.out).2.2.2).mono ?_
      intro r w4 hr
      obtain ⟨hb4, ws, ge, rfl, hge⟩ := hr.good HVM.out (by omega) HKK.out HST.out
      have HB34 := Lib.hid hb4
      have HB4 := Lib.hid (HB3.out.trans (hb4.mono HB3.out.size)); clear hb4 hr
      have HGE := Lib.hid hge; clear hge
      clear m0 m1 m2 m3
      have hexx : ∀ wk', Below w4.heap.size w4 wk' → Calls Tryz.prog 11 #[] wk' (TrueE wk') := fun wk' hb => HEX.out _ ((HK.out _ (HB4.out.trans (hb.mono HB4.out.size))).2.2.1)
      have HEX4 := Lib.hid hexx; clear hexx
      rcases HTE.out with ⟨rfl, Z, hZ, hZi⟩ | rfl
      · rcases HFE.out with ⟨rfl, Y, hY, hYi⟩ | rfl
        · rcases HGE.out with ⟨rfl, hW⟩ | rfl
          · obtain ⟨a1, cap1, b1, o1, rfl, ha1, hc1, hm1, hb1', hcell1⟩ := Rd.open hZ
            obtain ⟨a2, cap2, b2, o2, rfl, ha2, hc2, hm2, hb2', hcell2⟩ := Rd.open hY
            unfold maxLen at hm1 hm2
            clear hZ hY
            have m0 := (HK.out _ HB4.out).1.c0
            have m3 := (HK.out _ HB4.out).1.c3
            have HA1 := Lib.hid ha1; clear ha1
            have HA2 := Lib.hid ha2; clear ha2
            have HBB1 := Lib.hid hb1'; clear hb1'
            have HBB2 := Lib.hid hb2'; clear hb2'
            have HC1 := Lib.hid hcell1; clear hcell1
            have HC2 := Lib.hid hcell2; clear hcell2
            have HZI := Lib.hid hZi; clear hZi
            have HYI := Lib.hid hYi; clear hYi
            have HW := Lib.hid hW; clear hW
            have hnn' : ((D.n : Int) == (D.n : Int)) = true := by simp
            have hnew := SumL.new w4 D.kind
            have hbn : Below w4.heap.size w4 (w4.alloc (.cells #[.int .i64 D.kind, .bool false] 45)) := (Below.refl _ _).alloc (Nat.le_refl _) _
            have m0' := (HK.out _ (HB4.out.trans (hbn.mono HB4.out.size))).1.c0
            have HNEW := Lib.hid hnew; clear hnew
            have HBN := Lib.hid hbn; clear hbn
            go_wp2_with fail
            refine (semizero_any D.kind _).mono ?_
            rintro r w5 ⟨rfl, hb5⟩
            have hs5 := HNEW.out.kept hb5
            have hb45 := HBN.out.trans (hb5.mono HBN.out.size)
            clear m0 m3 m0' HNEW HBN hb5
            obtain ⟨sb, hsb⟩ : ∃ sb, sb = w4.heap.size := ⟨_, rfl⟩
            rw [← hsb] at hs5
            rw [← hsb]
            have HS5 := Lib.hid hs5; clear hs5
            have HB45 := Lib.hid hb45; clear hb45
            have HSB := Lib.hid hsb; clear hsb
            have hkk : zeroF D.kind = zeroF k.1 := by rw [HKK.out]
            have HKZ := Lib.hid hkk; clear hkk
            go_wp2_with fail
            go_loopw [10, 11] (fun uv i wr => ∃ (q e : Nat) (us : ByteArray), q ≤ D.n ∧ uv = .string us ∧ i = .int .i64 (q : Int) ∧ Is k e us (fromV D (wval k D.lead) (CSR.starM (arcM D fun i d => wval k (D.aw i d)) D.n) (fun p => wval k (D.fin p)) st q) ∧ Er False e ∧ SumL wr sb k.1 e ∧ Below w4.heap.size w4 wr) (fun _ i _ => D.n - (intOf i).toNat)
            case atStart => exact ⟨0, 0, _, Nat.zero_le _, rfl, rfl, (by rw [HKZ.out]; exact Is.zero k 0), ⟨.inl rfl, fun _ => rfl⟩, (by rw [HKK.out]; exact HS5.out), HB45.out⟩
            case round =>
              obtain ⟨q, e, us, hq, rfl, rfl, hx, hE, hS, hB⟩ := hrel
              clear HS5 HB45
              have HXX := Lib.hid hx; clear hx
              have HE := Lib.hid hE; clear hE
              have HS := Lib.hid hS; clear hS
              have HBW := Lib.hid hB; clear hB
              have HB4W := Lib.hid (HB4.out.trans (HBW.out.mono HB4.out.size))
              have bx3 := (HK.out _ HB4W.out).1.c3
              have HGA := Lib.hid (gb_below (HK.out _ HB4W.out).2.2.1 none)
              have hw4 : w.heap.size < sb := by have h1 := HB4.out.size; have h2 := HBX.out.lt; rw [HSB.out]; omega
              have HW4 := Lib.hid hw4; clear hw4
              by_cases hlt : q < D.n
              · have hqz : (q : Int) < (D.n : Int) := by omega
                have hqz0 : (0 : Int) ≤ (q : Int) := by omega
                obtain rfl := HA.out (by omega)
                obtain rfl := HA2.out (by omega)
                obtain ⟨f, hf⟩ : ∃ f, f = D.fin q := ⟨_, rfl⟩
                have c0 := HGA.out.cell (a := ⟨b, off + q * 2, none⟩) (HR.out q hlt).1 (by simp)
                rw [← hf] at c0
                have HF := Lib.hid hf; clear hf
                cases hfz : (f.toList == [])
                · have hfne : D.fin q ≠ ⟨#[]⟩ := fun h => by rw [HF.out, h] at hfz; exact absurd hfz (by simp)
                  obtain ⟨y, hy⟩ : ∃ y, y = Y q := ⟨_, rfl⟩
                  have hg3 : w3.grownBy wr none := gb_below (HB34.out.trans (HBW.out.mono HB34.out.size)) none
                  have c1 := hg3.cell (a := ⟨b2, o2 + q, none⟩) (HC2.out q hlt) (by simp)
                  rw [← hy] at c1
                  have hyi := HYI.out q hlt
                  rw [← hy] at hyi
                  have n0 : some b ≠ some sb := by have h1 := (HB.out (by omega)).1; have h2 := HW4.out; simp; omega
                  have n1 : some b2 ≠ some sb := by have h1 := (HBB2.out (by omega)).1; have h2 := HB34.out.size; rw [HSB.out]; simp; omega
                  have n2 : some w.heap.size ≠ some sb := by have h2 := HW4.out; simp; omega
                  have HKC := Lib.hid (fun wk' (hg : wr.grownBy wk' (some sb)) => (⟨hg.cell c0 n0, hg.cell c1 n1, hg.cell bx3 n2⟩ :
                    wk'.cell? ⟨b, off + q * 2, none⟩ = some (.string f) ∧ wk'.cell? ⟨b2, o2 + q, none⟩ = some (.string y) ∧ wk'.cell? ⟨w.heap.size, 3, none⟩ = some (.slice (some ⟨b, off, none⟩) D.n cap)))
                  obtain ⟨V, hV⟩ := HVM.out.fins HKK.out
                  have hfv : Is k 0 f (wval k (D.fin q)) := by
                    have h1 := hV.2 q hlt hfne
                    rw [hV.1] at h1
                    rw [HF.out]; exact h1
                  have htab := (HK.out _ HB4W.out).2.2.2
                  have hti := ltimes_is (hyi.mono (e' := e) (fun _ => rfl)) (hfv.mono (e' := e) (fun _ => rfl)) HE.out (fun h => h.elim) (htab.below (Below.drew (Below.refl _ _)) (Nat.le_refl _)) HS.out.drew
                  have hpl : ∀ (w5 : World) (u5 : ByteArray) (e5 : Nat), Is k e5 u5 (wval k D.lead * CSR.starM (arcM D fun i d => wval k (D.aw i d)) D.n st q * wval k (D.fin q)) → Er False e5 → (e5 = 0 → e = 0) → SumL w5 sb k.1 e5 → wr.grownBy w5 (some sb) → Calls Tryz.prog 35 #[.pointer (some ⟨sb, 0, none⟩), .string us, .string u5] w5 (OpL False e5 sb (fromV D (wval k D.lead) (CSR.starM (arcM D fun i d => wval k (D.aw i d)) D.n) (fun p => wval k (D.fin p)) st q + wval k D.lead * CSR.starM (arcM D fun i d => wval k (D.aw i d)) D.n st q * wval k (D.fin q)) w5) := fun w5 u5 e5 h1 h2 h3 h4 h5 =>
                    lplus_is (HXX.out.mono h3) h1 h2 (fun h => h.elim) (HT.out.below (below_more (HK.out _ HB4W.out).2.2.1 h5 (by have h6 := HW4.out; have h7 := (HK.out _ HB4W.out).2.2.1.size; omega)) (Nat.le_refl _)) h4
                  have HTI := Lib.hid hti; clear hti hfv hyi htab
                  have HPL := Lib.hid hpl; clear hpl
                  have HY := Lib.hid hy; clear hy
                  clear n0 n1 n2 hg3 hV
                  have hd1 := drew_gb wr (some sb)
                  have HFN := Lib.hid hfne; clear hfne
                  go_wp2_with fail
                  go_region_held2 (fun wk' => wk'.cell? ⟨b, off + q * 2, none⟩ = some (.string f) ∧ wk'.cell? ⟨b2, o2 + q, none⟩ = some (.string y) ∧ wk'.cell? ⟨w.heap.size, 3, none⟩ = some (.slice (some ⟨b, off, none⟩) D.n cap))
                    (first | exact HKC.out _ (by assumption))
                    (first
                    | (go_at_call 36; refine HTI.out.mono ?_; rintro r w5 ⟨u5, e5, rfl, hu5, he5, hm5, hs5, hg5⟩; have hn5 := gb_trans hd1 hg5)
                    | (go_at_call 35; refine (HPL.out w5 u5 e5 hu5 he5 hm5 hs5 hn5).mono ?_; rintro r w6 ⟨u6, e6, rfl, hu6, he6, hm6, hs6, hg6⟩; have hn6 := gb_trans hn5 hg6))
                  rename_i hH
                  clear hH
                  go_wp2_with fail
                  go_roundw
                  case rel =>
                    refine ⟨q + 1, e6, u6, by omega, rfl, by go_num, ?_, he6, hs6, ?_⟩
                    · unfold fromV; rw [if_neg HFN.out]; exact hu6
                    · exact below_more HBW.out hn6 (by rw [HSB.out]; exact ⟨Nat.le_refl _, Nat.le_refl _⟩)
                  case measure => simp [intOf]; omega
                · have hfe : D.fin q = ⟨#[]⟩ := by rw [← HF.out]; exact toList_eq (by simpa using hfz)
                  have HFE2 := Lib.hid hfe; clear hfe
                  go_wp2_with fail
                  go_roundw
                  case rel =>
                    refine ⟨q + 1, e, us, by omega, rfl, by go_num, ?_, HE.out, HS.out, HBW.out⟩
                    unfold fromV; rw [if_pos HFE2.out]; exact HXX.out
                  case measure => simp [intOf]; omega
              · have hqn : q = D.n := by omega
                have hgt : ¬ ((q : Int) < (D.n : Int)) := by omega
                have bx1 := (HK.out _ HB4W.out).1.c1
                rw [HST.out] at bx1
                have bx2 := (HK.out _ HB4W.out).1.c2
                obtain rfl := HA1.out (by omega)
                obtain ⟨y, hy⟩ : ∃ y, y = Z st := ⟨_, rfl⟩
                have hg2 : w2.grownBy wr none := gb_below ((HB23.out.trans (HB34.out.mono HB23.out.size)).trans (HBW.out.mono (Nat.le_trans HB23.out.size HB34.out.size))) none
                have c1 := hg2.cell (a := ⟨b1, o1 + st, none⟩) (HC1.out st hstn) (by simp)
                rw [← hy] at c1
                have hyi := HZI.out st hstn
                rw [← hy] at hyi
                have hsz : (st : Int) < (D.n : Int) := by omega
                have hsz0 : (0 : Int) ≤ (st : Int) := by omega
                have n1 : some b1 ≠ some sb := by have h1 := (HBB1.out (by omega)).1; have h2 := HB34.out.size; have h3 := HB23.out.size; rw [HSB.out]; simp; omega
                have n2 : some w.heap.size ≠ some sb := by have h2 := HW4.out; simp; omega
                have HKC := Lib.hid (fun wk' (hg : wr.grownBy wk' (some sb)) => (⟨hg.cell c1 n1, hg.cell bx1 n2, hg.cell bx2 n2⟩ :
                  wk'.cell? ⟨b1, o1 + st, none⟩ = some (.string y) ∧ wk'.cell? ⟨w.heap.size, 1, none⟩ = some (.int .i64 (st : Int)) ∧ wk'.cell? ⟨w.heap.size, 2, none⟩ = some (.string D.lead)))
                have hlv : Is k 0 D.lead (wval k D.lead) := wval_is (by rw [HKK.out]; exact wt_valid HVM.out.lead)
                have htab := (HK.out _ HB4W.out).2.2.2
                have hti := ltimes_is (hlv.mono (e' := e) (fun _ => rfl)) (hyi.mono (e' := e) (fun _ => rfl)) HE.out (fun h => h.elim) (htab.below (Below.drew (Below.refl _ _)) (Nat.le_refl _)) HS.out.drew
                have HTI := Lib.hid hti; clear hti hlv hyi htab
                have HQN := Lib.hid hqn; clear hqn
                have HY := Lib.hid hy; clear hy
                clear n1 n2 hg2
                have hd1 := drew_gb wr (some sb)
                go_wp2_with fail
                go_region_held2 (fun wk' => wk'.cell? ⟨b1, o1 + st, none⟩ = some (.string y) ∧ wk'.cell? ⟨w.heap.size, 1, none⟩ = some (.int .i64 (st : Int)) ∧ wk'.cell? ⟨w.heap.size, 2, none⟩ = some (.string D.lead))
                  (first | exact HKC.out _ (by assumption))
                  (first
                  | (go_at_call 36; refine HTI.out.mono ?_; rintro r w5 ⟨u5, e5, rfl, hu5, he5, hm5, hs5, hg5⟩; have hn5 := gb_trans hd1 hg5))
                rename_i hH
                clear hH c1 bx1 bx2 bx3 HKC hgt
                have hb5 := below_more HBW.out hn5 (by rw [HSB.out]; exact ⟨Nat.le_refl _, Nat.le_refl _⟩)
                have hbf := HB4.out.trans (hb5.mono HB4.out.size)
                have HBF := Lib.hid hbf; clear hbf hb5 hn5 hg5 hd1
                have hex : ∀ wk', Below w5.heap.size w5 wk' → Calls Tryz.prog 11 #[] wk' (TrueE wk') := fun wk' hb => HEX.out _ (HK.out _ (HBF.out.trans (hb.mono HBF.out.size))).2.2.1
                have HEX5 := Lib.hid hex; clear hex
                have HU5 := Lib.hid hu5; clear hu5
                have HS5 := Lib.hid hs5; clear hs5
                clear he5
                have hd1 := (Below.refl w5.heap.size w5).drew
                by_cases he0 : e5 = 0
                · subst he0
                  have hee : e = 0 := hm5 rfl
                  subst hee
                  have hx := HXX.out
                  rw [HQN.out, ← total_both] at hx
                  obtain rfl : us = ws := hx.eq HW.out rfl
                  obtain rfl : u5 = us := HU5.out.eq hx rfl
                  clear hx hm5
                  have c1 := HS5.out.c1 (b := false) (by simp)
                  go_wp2_with fail
                  refine (HEX5.out _ (Below.refl _ _)).mono ?_
                  rintro r w6 ⟨rfl, hb6⟩
                  have hfin := (HK.out _ (HBF.out.trans (hb6.mono HBF.out.size))).2.2.1
                  have HF := Lib.hid hfin; clear hfin hb6
                  go_wp2_with fail
                  go_ret
                  exact ⟨rfl, HF.out⟩
                · have c1 := HS5.out.c1 (b := true) (by simp; exact he0)
                  have HE0 := Lib.hid he0; clear he0 hm5
                  go_wp2_with fail
                  refine (HEX5.out _ (Below.refl _ _)).mono ?_
                  rintro r w6 ⟨rfl, hb6⟩
                  have hfin := (HK.out _ (HBF.out.trans (hb6.mono HBF.out.size))).2.2.1
                  have HF := Lib.hid hfin; clear hfin hb6
                  go_wp2_with fail
                  go_ret
                  exact ⟨rfl, HF.out⟩
          · go_wp2_with fail
            refine (HEX4.out _ (Below.refl _ _)).mono ?_
            rintro r w5 ⟨rfl, hb5⟩
            have hfin := (HK.out _ (HB4.out.trans (hb5.mono HB4.out.size))).2.2.1
            have HF := Lib.hid hfin; clear hfin hb5
            go_wp2_with fail
            go_ret
            exact ⟨rfl, HF.out⟩
        · go_wp2_with fail
          refine (HEX4.out _ (Below.refl _ _)).mono ?_
          rintro r w5 ⟨rfl, hb5⟩
          have hfin := (HK.out _ (HB4.out.trans (hb5.mono HB4.out.size))).2.2.1
          have HF := Lib.hid hfin; clear hfin hb5
          go_wp2_with fail
          go_ret
          exact ⟨rfl, HF.out⟩
      · go_wp2_with fail
        refine (HEX4.out _ (Below.refl _ _)).mono ?_
        rintro r w5 ⟨rfl, hb5⟩
        have hfin := (HK.out _ (HB4.out.trans (hb5.mono HB4.out.size))).2.2.1
        have HF := Lib.hid hfin; clear hfin hb5
        go_wp2_with fail
        go_ret
        exact ⟨rfl, HF.out⟩
    · go_wp2_with fail
      refine (HEX.out _ (HK.out _ HB1.out).2.2.1).mono ?_
      rintro r w5 ⟨rfl, hb5⟩
      have hfin := (HK.out _ (HB1.out.trans (hb5.mono HB1.out.size))).2.2.1
      have HF := Lib.hid hfin; clear hfin hb5
      go_wp2_with fail
      go_ret
      exact ⟨rfl, HF.out⟩
  · have hnz : decide ((9 : Int) < (D.n : Int)) = true := by simp; omega
    go_enter Tryz.func8, Tryz.ntmps8
    go_wp2_with fail
    rw [← hwb, ← hmb]
    clear hwb
    refine (HEX.out _ HBE.out).mono ?_
    rintro r w5 ⟨rfl, hb5⟩
    have hfin := HBE.out.trans (hb5.mono HBE.out.size)
    have HF := Lib.hid hfin; clear hfin hb5
    go_wp2_with fail
    go_ret
    exact ⟨rfl, HF.out⟩
end Go.Proofs.YtlmfppjphblemaaGreatDoor
