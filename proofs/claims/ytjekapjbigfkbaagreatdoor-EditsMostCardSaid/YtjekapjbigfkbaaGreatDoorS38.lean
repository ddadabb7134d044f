/- Parts of a proof: LEmB LEm AM. -/
import Derived.Test.YtjekapjbigfkbaaGreatDoorS37
import Derived.Test.YtjekapjbigfkbaaGreatDoorS15
import Derived.Deep.Slices
import Derived.SliceStrings
import Derived.ChangeSlices
import Derived.Test.YtjekapjbigfkbaaGreatDoorS16
import Derived.Lib.SmallJoins
import Derived.Deep.SlicePairs
import Derived.SizedLaws
namespace Go.Proofs.YtjekapjbigfkbaaGreatDoor
open Go Go.RowKit Go.Deep
set_option maxRecDepth 100000
set_option linter.unusedSimpArgs false
set_option linter.unusedVariables false
theorem apE_esz {M : EM} {d : ED} (hs : ESz M) (hn : M.n ≤ 60) (hd : (d.nf : Int) ≤ 4611686018427387903 ∧ (d.nt : Int) ≤ 4611686018427387903 ∧ (d.w.size : Int) ≤ 9223372036854775807) : ESz (apE M d) := by
  refine ⟨by show ((M.n + 1 : Nat) : Int) ≤ _; omega, fun i => ?_, fun i => ?_, fun i => ?_, hs.m0, hs.m1⟩
  · show ((if i = M.n then d else M.e i).nf : Int) ≤ _
    split
    · exact hd.1
    · exact hs.f i
  · show ((if i = M.n then d else M.e i).nt : Int) ≤ _
    split
    · exact hd.2.1
    · exact hs.t i
  · show ((if i = M.n then d else M.e i).w.size : Int) ≤ _
    split
    · exact hd.2.2
    · exact hs.w i
set_option maxRecDepth 1000000 in
set_option maxHeartbeats 16000000 in
theorem most3 {M : EM} {d : ED} {a fa ta ax ay : Option Addr} {cap b off fc tc cx cy na nb mb fb : Nat} {A A' : Nat → Option Addr} {C C' : Nat → Nat} {x y : Nat → Int} {Wb : ByteArray} {Eb : Int} {w wr : World} {u0 u1 u6 u7 u8 u9 u10 u11 u14 u15 u16 u17 u18 u19 u20 u21 u22 u23 u24 u25 u26 u27 u28 u29 u30 u31 u32 u33 u34 u35 u36 u37 u38 u39 u40 u41 u42 u43 u44 u45 u46 u47 u48 u49 u50 u51 u52 u53 u54 u55 u56 u57 u58 u59 u60 u61 u62 u63 u64 u65 u66 u67 u68 u69 u70 u71 u72 u73 u74 u75 u76 u77 u78 u79 u80 u81 u82 u83 u84 u85 u86 u87 u88 u89 u90 u91 u92 u93 u94 u95 u96 u97 u98 u99 u100 u101 u102 u103 u104 u105 u106 u107 u108 u109 u110 u111 u112 u113 u114 u115 u116 u117 u118 u119 u120 u121 u122 u123 u124 u125 u126 u127 u128 u129 u130 u131 u132 u133 u134 u135 u136 u137 u138 u139 u140 u141 u142 u143 u144 u145 u146 u147 u148 u149 u150 u151 u152 u153 u154 u155 u156 : Value}
    (HEX : Hid (∀ W, Below w.heap.size w W → Calls Tryz.prog 12 #[] W (TrueB W)))
    (HVA : Hid (∀ W, Below w.heap.size w W → ∀ (v : Value) (M' : EM), EdS none W v M' → ESz M' → Calls Tryz.prog 13 #[.agg #[v, .int .i64 M'.most]] W (EvE M' W)))
    (HCO : Hid (∀ W, Below w.heap.size w W → ∀ (v : Value) (M' : EM), EdS none W v M' → ESz M' → Calls Tryz.prog 17 #[.agg #[v, .int .i64 M'.most], .slice ax na cx, .slice ay nb cy] W (CosE M' na x nb y W)))
    (HBE : Hid (∀ W, Below w.heap.size w W → ∀ s t : ByteArray, s.size ≤ 9223372036854775807 → t.size ≤ 9223372036854775807 → Calls Tryz.prog 35 #[.int .i64 1, .string s, .string t] W (IntEnd (betterF 1 s t) W)))
    (HSZ : Hid (ESz M)) (HDZ : Hid ((d.nf : Int) ≤ 4611686018427387903 ∧ (d.nt : Int) ≤ 4611686018427387903 ∧ (d.w.size : Int) ≤ 9223372036854775807)) (HV : Hid (VE M)) (HRB : Hid (cosR M na x nb y Wb Eb)) (hn : M.n ≤ 60)
    (HA : Hid (0 < M.n → a = some ⟨b, off, none⟩)) (HBB : Hid (0 < M.n → b < w.heap.size ∧ some b ≠ none))
    (HROW : Hid (∀ i, i < M.n → w.cell? ⟨b, off + i * 3, none⟩ = some (.slice (A i) (M.e i).nf (C i)) ∧ w.cell? ⟨b, off + i * 3 + 1, none⟩ = some (.slice (A' i) (M.e i).nt (C' i)) ∧ w.cell? ⟨b, off + i * 3 + 2, none⟩ = some (.string (M.e i).w) ∧ Si none w (.slice (A i) (M.e i).nf (C i)) (M.e i).nf (M.e i).f ∧ Si none w (.slice (A' i) (M.e i).nt (C' i)) (M.e i).nt (M.e i).t))
    (HFS : Hid (Si none w (.slice fa d.nf fc) d.nf d.f ∧ Si none w (.slice ta d.nt tc) d.nt d.t)) (HED : Hid (EdS none w (.slice a M.n cap) M))
    (HB : Hid (Below w.heap.size w wr)) (HM : Hid (BoxE wr mb M (.slice a M.n cap))) (HF : Hid (wr.heap[fb]? = some (.cells #[.slice fa d.nf fc, .slice ta d.nt tc, .string d.w] 50 (0, 0)))) :
    Code.wp Tryz.prog (seqR 9 mBody) (bodyPost Tryz.prog Tryz.f10 (TrueB w)) ⟨List.toArray (u0 :: u1 :: .slice ax na cx :: .slice ay nb cy :: .pointer (some ⟨mb, 0, none⟩) :: .pointer (some ⟨fb, 0, none⟩) :: u6 :: u7 :: u8 :: u9 :: u10 :: u11 :: .string Wb :: .int .i64 Eb :: u14 :: u15 :: u16 :: u17 :: u18 :: u19 :: u20 :: u21 :: u22 :: u23 :: u24 :: u25 :: u26 :: u27 :: u28 :: u29 :: u30 :: u31 :: u32 :: u33 :: u34 :: u35 :: u36 :: u37 :: u38 :: u39 :: u40 :: u41 :: u42 :: u43 :: u44 :: u45 :: u46 :: u47 :: u48 :: u49 :: u50 :: u51 :: u52 :: u53 :: u54 :: u55 :: u56 :: u57 :: u58 :: u59 :: u60 :: u61 :: u62 :: u63 :: u64 :: u65 :: u66 :: u67 :: u68 :: u69 :: u70 :: u71 :: u72 :: u73 :: u74 :: u75 :: u76 :: u77 :: u78 :: u79 :: u80 :: u81 :: u82 :: u83 :: u84 :: u85 :: u86 :: u87 :: u88 :: u89 :: u90 :: u91 :: u92 :: u93 :: u94 :: u95 :: u96 :: u97 :: u98 :: u99 :: u100 :: u101 :: u102 :: u103 :: u104 :: u105 :: u106 :: u107 :: u108 :: u109 :: u110 :: u111 :: u112 :: u113 :: u114 :: u115 :: u116 :: u117 :: u118 :: u119 :: u120 :: u121 :: u122 :: u123 :: u124 :: u125 :: u126 :: u127 :: u128 :: u129 :: u130 :: u131 :: u132 :: u133 :: u134 :: u135 :: u136 :: u137 :: u138 :: u139 :: u140 :: u141 :: u142 :: u143 :: u144 :: u145 :: u146 :: u147 :: u148 :: u149 :: u150 :: u151 :: u152 :: u153 :: u154 :: u155 :: u156 :: []), []⟩ wr := by
  have hnew : ∀ W, Below wr.heap.size wr W → 0 < M.n → ∃ ad, a = some ad ∧ ∀ j u, (cat (ed3 M (fun i => .slice (A i) (M.e i).nf (C i)) (fun i => .slice (A' i) (M.e i).nt (C' i))) M.n)[j]? = some u → W.cell? (ad.add j) = some u := fun W h =>
    eds_news HA.out fun i hi => by
      have hb := HB.out.trans (h.mono HB.out.size)
      have hl := (HBB.out (by omega)).1
      obtain ⟨k1, k2, k3, _, _⟩ := HROW.out i hi
      exact ⟨(hb.cell (p := ⟨b, off + i * 3, none⟩) hl).trans k1, (hb.cell (p := ⟨b, off + i * 3 + 1, none⟩) hl).trans k2, (hb.cell (p := ⟨b, off + i * 3 + 2, none⟩) hl).trans k3⟩
  have HNEW := Lib.hid hnew; clear hnew
  have HONE := Lib.hid (ed3_one (M := M) (F := fun i => .slice (A i) (M.e i).nf (C i)) (T := fun i => .slice (A' i) (M.e i).nt (C' i)) (n := M.n) (fun _ => rfl) (fun _ => rfl))
  obtain ⟨mo, hmo⟩ : ∃ mo, mo = M.most := ⟨_, rfl⟩
  have hks : ∀ W, Below wr.heap.size wr W → (fun wk : World => wk.cell? ⟨mb, 0, none⟩ = some (.slice a M.n cap) ∧ wk.cell? ⟨mb, 1, none⟩ = some (.int .i64 mo) ∧ wk.cell? ⟨fb, 0, none⟩ = some (.slice fa d.nf fc) ∧ wk.cell? ⟨fb, 1, none⟩ = some (.slice ta d.nt tc) ∧ wk.cell? ⟨fb, 2, none⟩ = some (.string d.w)) W := fun W h => by
    have h1 : BoxE W mb M (.slice a M.n cap) := (h.block mb HM.out.lt).trans HM.out
    have h2 := (h.block fb (lt_of_block HF.out)).trans HF.out
    exact ⟨h1.c0, by rw [hmo]; exact h1.c1, cell_of h2 0 rfl, cell_of h2 1 rfl, cell_of h2 2 rfl⟩
  have HKS := Lib.hid hks; clear hks
  have HMO := Lib.hid hmo; clear hmo
  conv => arg 2; whnf
  go_wp2_with fail
  refine mreg (mo := mo) hn HNEW HONE HKS (Lib.hid ?pan) (Lib.hid ?fin)
  case pan => exact fun _ _ d _ _ h => by cases d <;> exact h
  case fin =>
    intro v125 v126 v127 v128 v129 v130 v131 v132 v133 v134 W g cp kb hb hk hrow _
    have hbw := HB.out.trans (hb.mono HB.out.size)
    have hwide : EdS none W (.slice g (M.n + 1) cp) (apE M d) := wide_eds hrow (fun i hi => ⟨(HROW.out i hi).2.2.2.1.kept (gb_below hbw none), (HROW.out i hi).2.2.2.2.kept (gb_below hbw none)⟩) (HFS.out.1.kept (gb_below hbw none)) (HFS.out.2.kept (gb_below hbw none))
    have hws := apE_esz (d := d) HSZ.out hn HDZ.out
    have hva := HVA.out W hbw _ _ hwide hws
    have HBW := Lib.hid hbw; clear hbw
    have hco := fun W' (h : Below W.heap.size W W') => HCO.out W' (HBW.out.trans (h.mono HBW.out.size)) _ _ (hwide.kept (gb_below h none)) hws
    rw [show (apE M d).most = mo from HMO.out.symm] at hva hco
    have HVW := Lib.hid hva; clear hva
    have HCW := Lib.hid hco; clear hco hwide hws hrow hb
    have HK := Lib.hid hk; clear hk
    clear HNEW HONE HKS
    by_cases hE : Eb = 0
    · have HE := Lib.hid hE
      have k0 := cell_of HK.out 0 rfl
      have k1 := cell_of HK.out 1 rfl
      subst hE
      go_wp2_with fail
      refine HVW.out.mono ?_
      rintro rr w2 ⟨hb2, hr2⟩
      obtain ⟨bv, rfl⟩ : ∃ bv : Bool, rr = .returned (.bool bv) := by
        rcases hr2 with ⟨_, rfl⟩ | ⟨_, rfl⟩
        · exact ⟨true, rfl⟩
        · exact ⟨false, rfl⟩
      have HB2 := Lib.hid (HBW.out.trans (hb2.mono HBW.out.size))
      have HK2 := Lib.hid (show BxE w2 kb (.slice g (M.n + 1) cp) mo from (hb2.block kb (lt_of_block HK.out)).trans HK.out)
      have HC2 := Lib.hid (HCW.out w2 hb2)
      clear hb2 hr2 HVW HCW HK k0 k1
      cases bv
      · go_wp2_with fail
        refine (HEX.out w2 HB2.out).mono ?_
        rintro rr w3 ⟨rfl, hb3⟩
        have HB3 := Lib.hid ((HB2.out).trans (hb3.mono (HB2.out).size))
        clear hb3
        go_wp2_with fail
        go_ret
        exact ⟨rfl, HB3.out⟩
      have k0 := cell_of HK2.out 0 rfl
      have k1 := cell_of HK2.out 1 rfl
      go_wp2_with fail
      refine HC2.out.mono ?_
      rintro rr w3 hr
      obtain ⟨W3, E3, rfl, hr3, hb3⟩ := hr.val
      have HR3 := Lib.hid hr3
      have HB3 := Lib.hid (HB2.out.trans (hb3.mono HB2.out.size))
      clear hr hr3 hb3 HC2 HK2 k0 k1
      by_cases hF : E3 = 0
      · have hge := sub_better HRB.out HR3.out rfl hF ⟨by show M.n ≤ M.n + 1; omega, fun i hi => by show (if i = M.n then d else M.e i) = M.e i; rw [if_neg (by have : i < M.n := hi; omega)], Int.le_refl _, rfl, rfl, fun _ _ => rfl, fun _ _ => rfl⟩
        have hbc := HBE.out w3 HB3.out Wb W3 (HRB.out.size rfl) (HR3.out.size hF)
        obtain ⟨bt, hbte⟩ : ∃ bt, bt = betterF 1 Wb W3 := ⟨_, rfl⟩
        rw [← hbte] at hge hbc
        have HBC := Lib.hid hbc; clear hbc
        have hge' : decide (bt < 0) = false := by simp; omega
        subst hF
        clear hbte
        go_wp2_with fail
        refine HBC.out.mono ?_
        rintro rr w4 ⟨rfl, hb4⟩
        have HB4 := Lib.hid (HB3.out.trans (hb4.mono HB3.out.size))
        clear hb4 HBC
        go_wp2_with fail
        refine (HEX.out w4 HB4.out).mono ?_
        rintro rr w5 ⟨rfl, hb5⟩
        have HB5 := Lib.hid ((HB4.out).trans (hb5.mono (HB4.out).size))
        clear hb5
        go_wp2_with fail
        go_ret
        exact ⟨rfl, HB5.out⟩
      · have hF1 : (E3 == 0) = false := by simp [hF]
        have hF2 : decide (E3 = 0) = false := by simp [hF]
        go_wp2_with fail
        refine (HEX.out w3 HB3.out).mono ?_
        rintro rr w4 ⟨rfl, hb4⟩
        have HB4 := Lib.hid ((HB3.out).trans (hb4.mono (HB3.out).size))
        clear hb4
        go_wp2_with fail
        go_ret
        exact ⟨rfl, HB4.out⟩
    · have hE1 : (Eb == 0) = false := by simp [hE]
      have hE2 : decide (Eb = 0) = false := by simp [hE]
      go_wp2_with fail
      refine (HEX.out W HBW.out).mono ?_
      rintro rr w2 ⟨rfl, hb2⟩
      have HB2 := Lib.hid ((HBW.out).trans (hb2.mono (HBW.out).size))
      clear hb2
      go_wp2_with fail
      go_ret
      exact ⟨rfl, HB2.out⟩
set_option maxRecDepth 1000000 in
set_option maxHeartbeats 16000000 in
theorem most2 {M : EM} {d : ED} {a fa ta ax ay : Option Addr} {cap b off fc tc cx cy na nb mb fb : Nat} {A A' : Nat → Option Addr} {C C' : Nat → Nat} {x y : Nat → Int} {Wb : ByteArray} {Eb : Int} {w wr : World} {u0 u1 u6 u7 u8 u9 u10 u11 u14 u15 u16 u17 u18 u19 u20 u21 u22 u23 u24 u25 u26 u27 u28 u29 u30 u31 u32 u33 u34 u35 u36 u37 u38 u39 u40 u41 u42 u43 u44 u45 u46 u47 u48 u49 u50 u51 u52 u53 u54 u55 u56 u57 u58 u59 u60 u61 u62 u63 u64 u65 u66 u67 u68 u69 u70 u71 u72 u73 u74 u75 u76 u77 u78 u79 u80 u81 u82 u83 u84 u85 u86 u87 u88 u89 u90 u91 u92 u93 u94 u95 u96 u97 u98 u99 u100 u101 u102 u103 u104 u105 u106 u107 u108 u109 u110 u111 u112 u113 u114 u115 u116 u117 u118 u119 u120 u121 u122 u123 u124 u125 u126 u127 u128 u129 u130 u131 u132 u133 u134 u135 u136 u137 u138 u139 u140 u141 u142 u143 u144 u145 u146 u147 u148 u149 u150 u151 u152 u153 u154 u155 u156 : Value}
    (HEX : Hid (∀ W, Below w.heap.size w W → Calls Tryz.prog 12 #[] W (TrueB W)))
    (HVA : Hid (∀ W, Below w.heap.size w W → ∀ (v : Value) (M' : EM), EdS none W v M' → ESz M' → Calls Tryz.prog 13 #[.agg #[v, .int .i64 M'.most]] W (EvE M' W)))
    (HCO : Hid (∀ W, Below w.heap.size w W → ∀ (v : Value) (M' : EM), EdS none W v M' → ESz M' → Calls Tryz.prog 17 #[.agg #[v, .int .i64 M'.most], .slice ax na cx, .slice ay nb cy] W (CosE M' na x nb y W)))
    (HBE : Hid (∀ W, Below w.heap.size w W → ∀ s t : ByteArray, s.size ≤ 9223372036854775807 → t.size ≤ 9223372036854775807 → Calls Tryz.prog 35 #[.int .i64 1, .string s, .string t] W (IntEnd (betterF 1 s t) W)))
    (HSZ : Hid (ESz M)) (HDZ : Hid ((d.nf : Int) ≤ 4611686018427387903 ∧ (d.nt : Int) ≤ 4611686018427387903 ∧ (d.w.size : Int) ≤ 9223372036854775807)) (HV : Hid (VE M)) (HRB : Hid (cosR M na x nb y Wb Eb)) (hn : M.n ≤ 60)
    (HA : Hid (0 < M.n → a = some ⟨b, off, none⟩)) (HBB : Hid (0 < M.n → b < w.heap.size ∧ some b ≠ none))
    (HROW : Hid (∀ i, i < M.n → w.cell? ⟨b, off + i * 3, none⟩ = some (.slice (A i) (M.e i).nf (C i)) ∧ w.cell? ⟨b, off + i * 3 + 1, none⟩ = some (.slice (A' i) (M.e i).nt (C' i)) ∧ w.cell? ⟨b, off + i * 3 + 2, none⟩ = some (.string (M.e i).w) ∧ Si none w (.slice (A i) (M.e i).nf (C i)) (M.e i).nf (M.e i).f ∧ Si none w (.slice (A' i) (M.e i).nt (C' i)) (M.e i).nt (M.e i).t))
    (HFS : Hid (Si none w (.slice fa d.nf fc) d.nf d.f ∧ Si none w (.slice ta d.nt tc) d.nt d.t)) (HED : Hid (EdS none w (.slice a M.n cap) M))
    (HB : Hid (Below w.heap.size w wr)) (HM : Hid (BoxE wr mb M (.slice a M.n cap))) (HF : Hid (wr.heap[fb]? = some (.cells #[.slice fa d.nf fc, .slice ta d.nt tc, .string d.w] 50 (0, 0)))) :
    Code.wp Tryz.prog (seqR 7 mBody) (bodyPost Tryz.prog Tryz.f10 (TrueB w)) ⟨List.toArray (u0 :: u1 :: .slice ax na cx :: .slice ay nb cy :: .pointer (some ⟨mb, 0, none⟩) :: .pointer (some ⟨fb, 0, none⟩) :: u6 :: u7 :: u8 :: u9 :: u10 :: u11 :: .string Wb :: .int .i64 Eb :: u14 :: u15 :: u16 :: u17 :: u18 :: u19 :: u20 :: u21 :: u22 :: u23 :: u24 :: u25 :: u26 :: u27 :: u28 :: u29 :: u30 :: u31 :: u32 :: u33 :: u34 :: u35 :: u36 :: u37 :: u38 :: u39 :: u40 :: u41 :: u42 :: u43 :: u44 :: u45 :: u46 :: u47 :: u48 :: u49 :: u50 :: u51 :: u52 :: u53 :: u54 :: u55 :: u56 :: u57 :: u58 :: u59 :: u60 :: u61 :: u62 :: u63 :: u64 :: u65 :: u66 :: u67 :: u68 :: u69 :: u70 :: u71 :: u72 :: u73 :: u74 :: u75 :: u76 :: u77 :: u78 :: u79 :: u80 :: u81 :: u82 :: u83 :: u84 :: u85 :: u86 :: u87 :: u88 :: u89 :: u90 :: u91 :: u92 :: u93 :: u94 :: u95 :: u96 :: u97 :: u98 :: u99 :: u100 :: u101 :: u102 :: u103 :: u104 :: u105 :: u106 :: u107 :: u108 :: u109 :: u110 :: u111 :: u112 :: u113 :: u114 :: u115 :: u116 :: u117 :: u118 :: u119 :: u120 :: u121 :: u122 :: u123 :: u124 :: u125 :: u126 :: u127 :: u128 :: u129 :: u130 :: u131 :: u132 :: u133 :: u134 :: u135 :: u136 :: u137 :: u138 :: u139 :: u140 :: u141 :: u142 :: u143 :: u144 :: u145 :: u146 :: u147 :: u148 :: u149 :: u150 :: u151 :: u152 :: u153 :: u154 :: u155 :: u156 :: []), []⟩ wr := by
  rw [← plug2]
  obtain ⟨X, hX⟩ : ∃ X, X = seqR 9 mBody := ⟨_, rfl⟩
  rw [← hX]
  have HX := Lib.hid hX; clear hX
  conv => arg 2; whnf
  conv => arg 2; arg 2; whnf
  conv => arg 2; arg 2; arg 2; whnf
  have m0 := HM.out.c0
  have m1 := HM.out.c1
  have h6 := HV.out.m6
  have h0 := HV.out.m0
  have hwr : IntKind.i64.wrap (M.most + 1) = M.most + 1 := by rw [IntKind.wrap_i64]; omega
  obtain ⟨w2, hw2⟩ : ∃ w2, w2 = wr.alloc (.cells #[.slice a M.n cap, .int .i64 (M.most + 1)] 24) := ⟨_, rfl⟩
  obtain ⟨eb, heb⟩ : ∃ eb, eb = wr.heap.size := ⟨_, rfl⟩
  have hf2 : Fr (fun _ => False) wr w2 := by rw [hw2]; exact Fr.alloc _ _
  have HE2 := Lib.hid (show BxE w2 eb (.slice a M.n cap) (M.most + 1) by rw [hw2, heb]; exact heap_alloc_new wr _)
  have HB2 := Lib.hid (show Below w.heap.size w w2 from HB.out.trans (hf2.below HB.out.size (fun _ e => e.elim)))
  have HM2 := Lib.hid (show BoxE w2 mb M (.slice a M.n cap) from (hf2.block mb HM.out.lt (fun e => e)).trans HM.out)
  have HF2 := Lib.hid ((hf2.block fb (lt_of_block HF.out) (fun e => e)).trans HF.out)
  have hms : ESz (moM M (M.most + 1)) := ⟨HSZ.out.n, HSZ.out.f, HSZ.out.t, HSZ.out.w, by show _ ≤ M.most + 1; omega, by show M.most + 1 ≤ _; omega⟩
  have hed : ∀ W, Below w.heap.size w W → EdS none W (.slice a M.n cap) (moM M (M.most + 1)) := fun W h => (show EdS none w (.slice a M.n cap) (moM M (M.most + 1)) from HED.out).kept (gb_below h none)
  have HVM := Lib.hid (HVA.out w2 HB2.out _ _ (hed w2 HB2.out) hms)
  have HCM := Lib.hid (fun W h => HCO.out W h _ _ (hed W h) hms)
  clear hf2 hms hed
  by_cases hE : Eb = 0
  · subst hE
    have k0 := cell_of HE2.out 0 rfl
    have k1 := cell_of HE2.out 1 rfl
    have l0 := k0
    have l1 := k1
    rw [hw2, heb] at l0 l1
    go_wp2_with fail
    rw [← hw2, ← heb]
    clear hw2 heb l0 l1 m0 m1
    refine HVM.out.mono ?_
    rintro rr w3 ⟨hb3, hr3⟩
    obtain ⟨bv, rfl⟩ : ∃ bv : Bool, rr = .returned (.bool bv) := by
      rcases hr3 with ⟨_, rfl⟩ | ⟨_, rfl⟩
      · exact ⟨true, rfl⟩
      · exact ⟨false, rfl⟩
    have HB3 := Lib.hid (HB2.out.trans (hb3.mono HB2.out.size))
    have HM3 := Lib.hid (show BoxE w3 mb M (.slice a M.n cap) from (hb3.block mb HM2.out.lt).trans HM2.out)
    have HF3 := Lib.hid ((hb3.block fb (lt_of_block HF2.out)).trans HF2.out)
    have HE3 := Lib.hid (show BxE w3 eb (.slice a M.n cap) (M.most + 1) from (hb3.block eb (lt_of_block HE2.out)).trans HE2.out)
    clear hb3 hr3 k0 k1 HB2 HM2 HF2 HE2 HVM
    cases bv
    · go_wp2_with fail
      rw [HX.out]
      exact most3 HEX HVA HCO HBE HSZ HDZ HV HRB hn HA HBB HROW HFS HED HB3 HM3 HF3
    have k0 := cell_of HE3.out 0 rfl
    have k1 := cell_of HE3.out 1 rfl
    go_wp2_with fail
    refine (HCM.out w3 HB3.out).mono ?_
    rintro rr w4 hr
    obtain ⟨W4, E4, rfl, hr4, hb4⟩ := hr.val
    have HR4 := Lib.hid hr4
    have HB4 := Lib.hid (HB3.out.trans (hb4.mono HB3.out.size))
    have HM4 := Lib.hid (show BoxE w4 mb M (.slice a M.n cap) from (hb4.block mb HM3.out.lt).trans HM3.out)
    have HF4 := Lib.hid ((hb4.block fb (lt_of_block HF3.out)).trans HF3.out)
    clear hr hr4 hb4 HCM HB3 HM3 HF3 HE3 k0 k1
    by_cases hF : E4 = 0
    · have hge := sub_better HRB.out HR4.out rfl hF ⟨Nat.le_refl _, fun _ _ => rfl, by show M.most ≤ M.most + 1; omega, rfl, rfl, fun _ _ => rfl, fun _ _ => rfl⟩
      have hbc := HBE.out w4 HB4.out Wb W4 (HRB.out.size rfl) (HR4.out.size hF)
      obtain ⟨bt, hbte⟩ : ∃ bt, bt = betterF 1 Wb W4 := ⟨_, rfl⟩
      rw [← hbte] at hge hbc
      have HBC := Lib.hid hbc; clear hbc
      have hge' : decide (bt < 0) = false := by simp; omega
      subst hF
      clear hbte
      go_wp2_with fail
      refine HBC.out.mono ?_
      rintro rr w5 ⟨rfl, hb5⟩
      have HB5 := Lib.hid (HB4.out.trans (hb5.mono HB4.out.size))
      have HM5 := Lib.hid (show BoxE w5 mb M (.slice a M.n cap) from (hb5.block mb HM4.out.lt).trans HM4.out)
      have HF5 := Lib.hid ((hb5.block fb (lt_of_block HF4.out)).trans HF4.out)
      clear hb5 HBC HB4 HM4 HF4
      go_wp2_with fail
      rw [HX.out]
      exact most3 HEX HVA HCO HBE HSZ HDZ HV HRB hn HA HBB HROW HFS HED HB5 HM5 HF5
    · have hF1 : (E4 == 0) = false := by simp [hF]
      have hF2 : decide (E4 = 0) = false := by simp [hF]
      go_wp2_with fail
      rw [HX.out]
      exact most3 HEX HVA HCO HBE HSZ HDZ HV HRB hn HA HBB HROW HFS HED HB4 HM4 HF4
  · have hE1 : (Eb == 0) = false := by simp [hE]
    have hE2 : decide (Eb = 0) = false := by simp [hE]
    go_wp2_with fail
    rw [← hw2, HX.out]
    exact most3 HEX HVA HCO HBE HSZ HDZ HV HRB hn HA HBB HROW HFS HED HB2 HM2 HF2
end Go.Proofs.YtjekapjbigfkbaaGreatDoor

namespace Go.Proofs.YtjekapjbigfkbaaGreatDoor
open Go Go.RowKit Go.Deep
set_option maxRecDepth 100000
set_option linter.unusedSimpArgs false
set_option linter.unusedVariables false
set_option maxRecDepth 1000000 in
set_option maxHeartbeats 16000000 in
theorem editsMost_any {M : EM} {d : ED} {v v1 xv yv : Value} {na nb : Nat} {x y : Nat → Int} (w : World) (hM : Em none w v M) (hs : ESz M) (hD : ∃ F T, v1 = .agg #[F, T, .string d.w] ∧ Si none w F d.nf d.f ∧ Si none w T d.nt d.t) (hdz : (d.nf : Int) ≤ 4611686018427387903 ∧ (d.nt : Int) ≤ 4611686018427387903 ∧ (d.w.size : Int) ≤ 9223372036854775807)
    (hx : Si none w xv na x) (hy : Si none w yv nb y) (ht : Tab w) : Calls Tryz.prog 10 #[v, v1, xv, yv] w (TrueB w) := by
  obtain ⟨sv, rfl, hS⟩ := hM
  have hna := le_of_len hx
  have hnb := le_of_len hy
  obtain ⟨a, cap, b, off, A, A', C, C', rfl, ha, hcp, hcm, hbb, hrow⟩ := hS.open
  obtain ⟨ax, cx, rfl⟩ := hx.shape
  obtain ⟨ay, cy, rfl⟩ := hy.shape
  obtain ⟨F, T, rfl, hF, hT⟩ := hD
  obtain ⟨fa, fc, rfl⟩ := hF.shape
  obtain ⟨ta, tc, rfl⟩ := hT.shape
  obtain ⟨w0, hw0⟩ : ∃ w0, w0 = w.alloc (.cells #[.slice a M.n cap, .int .i64 M.most] 24) := ⟨_, rfl⟩
  obtain ⟨w1, hw1⟩ : ∃ w1, w1 = w0.alloc (.cells #[.slice fa d.nf fc, .slice ta d.nt tc, .string d.w] 50) := ⟨_, rfl⟩
  have hz0 : w0.heap.size = w.heap.size + 1 := by rw [hw0]; simp
  obtain ⟨mb, hmb⟩ : ∃ mb, mb = w.heap.size := ⟨_, rfl⟩
  obtain ⟨fb, hfb⟩ : ∃ fb, fb = w.heap.size + 1 := ⟨_, rfl⟩
  have hf0 : Fr (fun _ => False) w w0 := by rw [hw0]; exact Fr.alloc _ _
  have hf1 : Fr (fun _ => False) w0 w1 := by rw [hw1]; exact Fr.alloc _ _
  have hbx0 : BoxE w0 mb M (.slice a M.n cap) := by rw [hw0, hmb]; exact BoxE.new w M _
  have hbx : BoxE w1 mb M (.slice a M.n cap) := (hf1.block mb hbx0.lt (fun e => e)).trans hbx0
  have hfx : w1.heap[fb]? = some (.cells #[.slice fa d.nf fc, .slice ta d.nt tc, .string d.w] 50 (0, 0)) := by rw [hw1, hfb, ← hz0]; exact heap_alloc_new w0 _
  have hb1 : Below w.heap.size w w1 := (hf0.trans hf1).below (Nat.le_refl _) (fun _ e => e.elim)
  have hex : ∀ W, Below w.heap.size w W → Calls Tryz.prog 12 #[] W (TrueB W) := fun W h => example37_any W (ht.below h (Nat.le_refl _))
  have hva : ∀ W, Below w.heap.size w W → ∀ (v : Value) (M' : EM), EdS none W v M' → ESz M' → Calls Tryz.prog 13 #[.agg #[v, .int .i64 M'.most]] W (EvE M' W) := fun W h v M' hv hs' => evalid_any W (⟨_, rfl, hv⟩ : Em none W (.agg #[v, .int .i64 M'.most]) M') hs' (ht.below h (Nat.le_refl _))
  have hco : ∀ W, Below w.heap.size w W → ∀ (v : Value) (M' : EM), EdS none W v M' → ESz M' → Calls Tryz.prog 17 #[.agg #[v, .int .i64 M'.most], .slice ax na cx, .slice ay nb cy] W (CosE M' na x nb y W) := fun W h v M' hv hs' => ecost_any W (⟨_, rfl, hv⟩ : Em none W (.agg #[v, .int .i64 M'.most]) M') hs' (ht.below h (Nat.le_refl _)) (hx.kept (gb_below h none)) (hy.kept (gb_below h none))
  have hcs : ∀ W, Below w.heap.size w W → Calls Tryz.prog 17 #[.agg #[.slice a M.n cap, .int .i64 M.most], .slice ax na cx, .slice ax na cx] W (CosE M na x na x W) := fun W h => ecost_any W (⟨_, rfl, hS.kept (gb_below h none)⟩ : Em none W (.agg #[.slice a M.n cap, .int .i64 M.most]) M) hs (ht.below h (Nat.le_refl _)) (hx.kept (gb_below h none)) (hx.kept (gb_below h none))
  have hc0 : ∀ W, Below w.heap.size w W → Calls Tryz.prog 17 #[.agg #[.slice a M.n cap, .int .i64 0], .slice ax na cx, .slice ay nb cy] W (CosE (moM M 0) na x nb y W) := fun W h => hco W h (.slice a M.n cap) (moM M 0) ((show EdS none w (.slice a M.n cap) (moM M 0) from hS).kept (gb_below h none)) ⟨hs.n, hs.f, hs.t, hs.w, by show _ ≤ (0 : Int); omega, by show (0 : Int) ≤ _; omega⟩
  have hbe : ∀ W, Below w.heap.size w W → ∀ s t : ByteArray, s.size ≤ 9223372036854775807 → t.size ≤ 9223372036854775807 → Calls Tryz.prog 35 #[.int .i64 1, .string s, .string t] W (IntEnd (betterF 1 s t) W) := fun W h s t hs1 ht1 => sbetter_1 s t W hs1 ht1 (ht.below h (Nat.le_refl _))
  have hla := fun W (h : Below w.heap.size w W) => large37_any W (hS.kept (gb_below h none))
  have hwx := fun W (h : Below w.heap.size w W) => rword_any W (hx.kept (gb_below h none)) hna
  have hwy := fun W (h : Below w.heap.size w W) => rword_any W (hy.kept (gb_below h none)) hnb
  have hcm := fun W (h : Below w.heap.size w W) (h1 : na ≤ 12) (h2 : nb ≤ 12) => wcmp_any W (hx.kept (gb_below h none)) (hy.kept (gb_below h none)) (by omega) (by omega)
  have hfa := fun W (h : Below w.heap.size w W) => far37_any (n := 2) (b := W.heap.size) (V := fun i => if i = 0 then .slice ax na cx else .slice ay nb cy) (L := fun i => if i = 0 then na else nb) (W.alloc (.cells #[.slice ax na cx, .slice ay nb cy] 27)) (by omega)
    (fun i hi => by
      have h2 : Below w.heap.size w (W.alloc (.cells #[.slice ax na cx, .slice ay nb cy] 27)) := h.alloc h.size _
      have hn := heap_alloc_new W (.cells #[.slice ax na cx, .slice ay nb cy] 27)
      generalize W.alloc (.cells #[.slice ax na cx, .slice ay nb cy] 27) = WW at hn h2
      rcases (show i = 0 ∨ i = 1 by omega) with rfl | rfl
      · exact ⟨by simp [World.cell?, hn], x, hx.kept (gb_below h2 none)⟩
      · exact ⟨by simp [World.cell?, hn], y, hy.kept (gb_below h2 none)⟩)
    (fun i _ => by show ((if i = 0 then na else nb : Nat) : Int) ≤ _; split <;> omega)
  have HEX := Lib.hid hex; clear hex
  have HVA := Lib.hid hva; clear hva
  have HCO := Lib.hid hco; clear hco
  have HCS := Lib.hid hcs; clear hcs
  have HC0 := Lib.hid hc0; clear hc0
  have HBE := Lib.hid hbe; clear hbe
  have HLA := Lib.hid hla; clear hla
  have HWX := Lib.hid hwx; clear hwx
  have HWY := Lib.hid hwy; clear hwy
  have HCM := Lib.hid hcm; clear hcm
  have HFA := Lib.hid hfa; clear hfa
  have HSZ := Lib.hid hs; clear hs
  have HDZ := Lib.hid hdz; clear hdz
  have HA := Lib.hid ha; clear ha
  have HBB := Lib.hid hbb; clear hbb
  have HROW := Lib.hid hrow; clear hrow
  have HFS := Lib.hid (And.intro hF hT); clear hF hT
  have HED := Lib.hid hS; clear hS
  have HB1 := Lib.hid hb1; clear hb1
  have HM1 := Lib.hid hbx
  have HF1 := Lib.hid hfx
  have m0 := hbx.c0
  have m1 := hbx.c1
  have HZ0 := Lib.hid hz0
  clear hbx0 hbx hfx hf0 hf1 ht hx hy hcp hcm hz0
  go_enter Tryz.func10, Tryz.ntmps10
  obtain ⟨X, hX⟩ : ∃ X, X = seqR 7 mBody := ⟨_, rfl⟩
  have hp := plug7
  rw [← hX] at hp
  change Code.wp Tryz.prog mBody _ _ _
  rw [← hp]
  have HX := Lib.hid hX; clear hX hp
  conv => arg 2; whnf
  conv => arg 2; arg 2; whnf
  conv => arg 2; arg 2; arg 2; whnf
  conv => arg 2; arg 2; arg 2; arg 2; whnf
  conv => arg 2; arg 2; arg 2; arg 2; arg 2; whnf
  conv => arg 2; arg 2; arg 2; arg 2; arg 2; arg 2; whnf
  conv => arg 2; arg 2; arg 2; arg 2; arg 2; arg 2; arg 2; whnf
  conv => arg 2; arg 2; arg 2; arg 2; arg 2; arg 2; arg 2; arg 2; whnf
  have l0 := m0
  have l1 := m1
  rw [hw1, hw0, hmb] at l0 l1
  go_wp2_with fail
  rw [← hw0, ← hw1, ← hfb, ← hmb]
  clear hw0 hw1 hfb hmb l0 l1
  refine (HLA.out w1 HB1.out).mono ?_
  rintro rr w2 ⟨rfl, hb2⟩
  have HB2 := Lib.hid (HB1.out.trans (hb2.mono HB1.out.size))
  have HM2 := Lib.hid (show BoxE w2 mb M (.slice a M.n cap) from (hb2.block mb HM1.out.lt).trans HM1.out)
  have HF2 := Lib.hid ((hb2.block fb (lt_of_block HF1.out)).trans HF1.out)
  clear hb2 m0 m1 HB1 HM1 HF1 HLA
  by_cases h6 : (60 : Int) < (M.n : Int)
  · have h6' : decide ((60 : Int) < (M.n : Int)) = true := by simp; omega
    go_wp2_with fail
    refine (HEX.out w2 HB2.out).mono ?_
    rintro rr w3 ⟨rfl, hb3⟩
    have HB3 := Lib.hid ((HB2.out).trans (hb3.mono (HB2.out).size))
    clear hb3
    go_wp2_with fail
    go_ret
    exact ⟨rfl, HB3.out⟩
  have h6' : decide ((60 : Int) < (M.n : Int)) = false := by simp; omega
  have hn : M.n ≤ 60 := by omega
  have hf3 : Fr (fun _ => False) w2 (w2.alloc (.cells #[.slice ax na cx, .slice ay nb cy] 27)) := Fr.alloc _ _
  have hb3 := hf3.below (Nat.le_refl _) (fun _ e => e.elim)
  obtain ⟨w3, hw3⟩ : ∃ w3, w3 = w2.alloc (.cells #[.slice ax na cx, .slice ay nb cy] 27) := ⟨_, rfl⟩
  have hfa := HFA.out w2 HB2.out
  rw [← hw3] at hfa hb3
  have HB3 := Lib.hid (HB2.out.trans (hb3.mono HB2.out.size))
  have HM3 := Lib.hid (show BoxE w3 mb M (.slice a M.n cap) from (hb3.block mb HM2.out.lt).trans HM2.out)
  have HF3 := Lib.hid ((hb3.block fb (lt_of_block HF2.out)).trans HF2.out)
  have HFC := Lib.hid hfa; clear hfa hf3 hb3
  go_wp2_with fail
  rw [← hw3]
  clear hw3
  refine HFC.out.mono ?_
  rintro rr w4 ⟨fb', rfl, hfar, hb4⟩
  have HB4 := Lib.hid (HB3.out.trans (hb4.mono HB3.out.size))
  have HM4 := Lib.hid (show BoxE w4 mb M (.slice a M.n cap) from (hb4.block mb HM3.out.lt).trans HM3.out)
  have HF4 := Lib.hid ((hb4.block fb (lt_of_block HF3.out)).trans HF3.out)
  clear hb4 HB3 HM3 HF3 HB2 HM2 HF2 HFA HFC
  have m0 := HM4.out.c0
  have m1 := HM4.out.c1
  cases fb'
  rotate_left
  · clear hfar
    go_wp2_with fail
    refine (HEX.out w4 HB4.out).mono ?_
    rintro rr w5 ⟨rfl, hb5⟩
    have HB5 := Lib.hid ((HB4.out).trans (hb5.mono (HB4.out).size))
    clear hb5
    go_wp2_with fail
    go_ret
    exact ⟨rfl, HB5.out⟩
  have hno : ∀ i, i < 2 → (fun i => if i = 0 then na else nb) i ≤ 12 := fun i hi => Nat.le_of_not_lt fun h => by
    have := hfar.2 ⟨i, hi, h⟩
    cases this
  have hk1 : na ≤ 12 := hno 0 (by omega)
  have hk2 : nb ≤ 12 := hno 1 (by omega)
  clear hfar hno
  have HVC := Lib.hid (HVA.out w4 HB4.out _ _ (HED.out.kept (gb_below HB4.out none)) HSZ.out)
  go_wp2_with fail
  refine HVC.out.mono ?_
  rintro rr w5 ⟨hb5, hr5⟩
  obtain ⟨bv, rfl, hbv⟩ : ∃ bv, rr = .returned (.bool bv) ∧ (bv = true → VE M) := by
    rcases hr5 with ⟨h, rfl⟩ | ⟨h, rfl⟩
    · exact ⟨true, rfl, fun _ => h⟩
    · exact ⟨false, rfl, fun e => by cases e⟩
  have HB5 := Lib.hid (HB4.out.trans (hb5.mono HB4.out.size))
  have HM5 := Lib.hid (show BoxE w5 mb M (.slice a M.n cap) from (hb5.block mb HM4.out.lt).trans HM4.out)
  have HF5 := Lib.hid ((hb5.block fb (lt_of_block HF4.out)).trans HF4.out)
  clear hb5 hr5 HB4 HM4 HF4 HVC m0 m1
  cases bv
  · clear hbv
    go_wp2_with fail
    refine (HEX.out w5 HB5.out).mono ?_
    rintro rr w6 ⟨rfl, hb6⟩
    have HB6 := Lib.hid ((HB5.out).trans (hb6.mono (HB5.out).size))
    clear hb6
    go_wp2_with fail
    go_ret
    exact ⟨rfl, HB6.out⟩
  have HV := Lib.hid (hbv rfl); clear hbv
  go_wp2_with fail
  refine (HWX.out w5 HB5.out).mono ?_
  rintro rr w6 ⟨rfl, rfl⟩
  clear HWX
  cases hix : isWord na x
  · go_wp2_with fail
    refine (HEX.out w6 HB5.out).mono ?_
    rintro rr w7 ⟨rfl, hb7⟩
    have HB7 := Lib.hid ((HB5.out).trans (hb7.mono (HB5.out).size))
    clear hb7
    go_wp2_with fail
    go_ret
    exact ⟨rfl, HB7.out⟩
  have HIX := Lib.hid hix; clear hix
  go_wp2_with fail
  refine (HWY.out w6 HB5.out).mono ?_
  rintro rr w7 ⟨rfl, rfl⟩
  clear HWY
  cases hiy : isWord nb y
  · go_wp2_with fail
    refine (HEX.out w7 HB5.out).mono ?_
    rintro rr w8 ⟨rfl, hb8⟩
    have HB8 := Lib.hid ((HB5.out).trans (hb8.mono (HB5.out).size))
    clear hb8
    go_wp2_with fail
    go_ret
    exact ⟨rfl, HB8.out⟩
  have HIY := Lib.hid hiy; clear hiy
  have m0 := HM5.out.c0
  have m1 := HM5.out.c1
  obtain ⟨w8, hw8⟩ : ∃ w8, w8 = w7.alloc (.cells #[.slice a M.n cap, .int .i64 0] 24) := ⟨_, rfl⟩
  obtain ⟨nb0, hnb0⟩ : ∃ k, k = w7.heap.size := ⟨_, rfl⟩
  have hf8 : Fr (fun _ => False) w7 w8 := by rw [hw8]; exact Fr.alloc _ _
  have hb8 := hf8.below (Nat.le_refl _) (fun _ e => e.elim)
  have hn8 : BxE w8 nb0 (.slice a M.n cap) 0 := by rw [hw8, hnb0]; exact heap_alloc_new w7 _
  have HB8 := Lib.hid (HB5.out.trans (hb8.mono HB5.out.size))
  have HM8 := Lib.hid (show BoxE w8 mb M (.slice a M.n cap) from (hb8.block mb HM5.out.lt).trans HM5.out)
  have HF8 := Lib.hid ((hb8.block fb (lt_of_block HF5.out)).trans HF5.out)
  have n0 := cell_of hn8 0 rfl
  have n1 := cell_of hn8 1 rfl
  have l0 := n0
  have l1 := n1
  rw [hw8, hnb0] at l0 l1
  have HC8 := Lib.hid (HC0.out w8 HB8.out)
  clear hf8 hb8 HC0 HB5 HF5 HM5 hn8
  go_wp2_with fail
  rw [← hw8, ← hnb0]
  clear hw8 hnb0 l0 l1 n0 n1 m0 m1
  refine HC8.out.mono ?_
  rintro rr w9 hr
  obtain ⟨Wa, Ea, rfl, hr9, hb9⟩ := hr.val
  have HB9 := Lib.hid (HB8.out.trans (hb9.mono HB8.out.size))
  have HM9 := Lib.hid (show BoxE w9 mb M (.slice a M.n cap) from (hb9.block mb HM8.out.lt).trans HM8.out)
  have HF9 := Lib.hid ((hb9.block fb (lt_of_block HF8.out)).trans HF8.out)
  obtain ⟨rfl, hWa⟩ := moM_cost hr9 HV.out HIX.out HIY.out
  clear hr hr9 hb9 HC8 HB8 HM8 HF8
  have hcc := fun W h => HCM.out W h hk1 hk2
  have HCC := Lib.hid hcc; clear hcc HCM
  cases hq : eqB na nb x y
  · skip
    have hWe : Wa = ⟨#[105, 110, 102]⟩ := by rw [hWa, hq]; rfl
    subst hWe
    clear hWa
    go_wp2_with fail
    refine (HCC.out w9 HB9.out).mono ?_
    rintro rr w10 ⟨⟨c1, rfl, hc1⟩, hb10⟩
    rw [hq] at hc1
    have hc0 : ¬ c1 = 0 := fun e => by have := hc1.1 e; cases this
    have hcb : (c1 == 0) = false := by simp [hc0]
    have hcd : decide (c1 = 0) = false := by simp [hc0]
    clear hc1
    have HB10 := Lib.hid (HB9.out.trans (hb10.mono HB9.out.size))
    have HM10 := Lib.hid (show BoxE w10 mb M (.slice a M.n cap) from (hb10.block mb HM9.out.lt).trans HM9.out)
    have HF10 := Lib.hid ((hb10.block fb (lt_of_block HF9.out)).trans HF9.out)
    clear hb10 HB9 HM9 HF9
    go_wp2_with fail
    refine (HCC.out w10 HB10.out).mono ?_
    rintro rr w11 ⟨⟨c2, rfl, hc2⟩, hb11⟩
    rw [hq] at hc2
    have hd0 : ¬ c2 = 0 := fun e => by have := hc2.1 e; cases this
    have hdb : (c2 == 0) = false := by simp [hd0]
    have hdd : decide (c2 = 0) = false := by simp [hd0]
    clear hc2
    have HB11 := Lib.hid (HB10.out.trans (hb11.mono HB10.out.size))
    have HM11 := Lib.hid (show BoxE w11 mb M (.slice a M.n cap) from (hb11.block mb HM10.out.lt).trans HM10.out)
    have HF11 := Lib.hid ((hb11.block fb (lt_of_block HF10.out)).trans HF10.out)
    clear hb11 HB10 HM10 HF10 hq
    have m0 := HM11.out.c0
    have m1 := HM11.out.c1
    have HCB := Lib.hid (HCO.out w11 HB11.out _ _ (HED.out.kept (gb_below HB11.out none)) HSZ.out)
    go_wp2_with fail
    refine HCB.out.mono ?_
    rintro rr w12 hr
    obtain ⟨Wb, Eb, rfl, hr12, hb12⟩ := hr.val
    have HRB := Lib.hid hr12
    have HB12 := Lib.hid (HB11.out.trans (hb12.mono HB11.out.size))
    have HM12 := Lib.hid (show BoxE w12 mb M (.slice a M.n cap) from (hb12.block mb HM11.out.lt).trans HM11.out)
    have HF12 := Lib.hid ((hb12.block fb (lt_of_block HF11.out)).trans HF11.out)
    clear hr hr12 hb12 HB11 HM11 HF11 HCB m0 m1
    have m0 := HM12.out.c0
    have m1 := HM12.out.c1
    go_wp2_with fail
    refine (HCS.out w12 HB12.out).mono ?_
    rintro rr w13 hr
    obtain ⟨Ws, Es, rfl, hr13, hb13⟩ := hr.val
    have HRS := Lib.hid hr13
    have HB13 := Lib.hid (HB12.out.trans (hb13.mono HB12.out.size))
    have HM13 := Lib.hid (show BoxE w13 mb M (.slice a M.n cap) from (hb13.block mb HM12.out.lt).trans HM12.out)
    have HF13 := Lib.hid ((hb13.block fb (lt_of_block HF12.out)).trans HF12.out)
    clear hr hr13 hb13 HB12 HM12 HF12 HCS m0 m1
    by_cases hI : Es = 0
    · have hWs := self_cost HRS.out hI
      subst hWs hI
      clear HRS
      go_wp2_with fail
      rw [HX.out]
      exact most2 HEX HVA HCO HBE HSZ HDZ HV HRB hn HA HBB HROW HFS HED HB13 HM13 HF13
    · have hI1 : (Es == 0) = false := by simp [hI]
      have hI2 : decide (Es = 0) = false := by simp [hI]
      clear HRS
      go_wp2_with fail
      rw [HX.out]
      exact most2 HEX HVA HCO HBE HSZ HDZ HV HRB hn HA HBB HROW HFS HED HB13 HM13 HF13
  · skip
    have hWe : Wa = ⟨#[48]⟩ := by rw [hWa, hq]; rfl
    subst hWe
    clear hWa
    go_wp2_with fail
    refine (HCC.out w9 HB9.out).mono ?_
    rintro rr w10 ⟨⟨c1, rfl, hc1⟩, hb10⟩
    rw [hq] at hc1
    obtain rfl : c1 = 0 := hc1.2 rfl
    clear hc1
    have HB10 := Lib.hid (HB9.out.trans (hb10.mono HB9.out.size))
    have HM10 := Lib.hid (show BoxE w10 mb M (.slice a M.n cap) from (hb10.block mb HM9.out.lt).trans HM9.out)
    have HF10 := Lib.hid ((hb10.block fb (lt_of_block HF9.out)).trans HF9.out)
    clear hb10 HB9 HM9 HF9
    go_wp2_with fail
    refine (HCC.out w10 HB10.out).mono ?_
    rintro rr w11 ⟨⟨c2, rfl, hc2⟩, hb11⟩
    rw [hq] at hc2
    obtain rfl : c2 = 0 := hc2.2 rfl
    clear hc2
    have HB11 := Lib.hid (HB10.out.trans (hb11.mono HB10.out.size))
    have HM11 := Lib.hid (show BoxE w11 mb M (.slice a M.n cap) from (hb11.block mb HM10.out.lt).trans HM10.out)
    have HF11 := Lib.hid ((hb11.block fb (lt_of_block HF10.out)).trans HF10.out)
    clear hb11 HB10 HM10 HF10 hq
    have m0 := HM11.out.c0
    have m1 := HM11.out.c1
    have HCB := Lib.hid (HCO.out w11 HB11.out _ _ (HED.out.kept (gb_below HB11.out none)) HSZ.out)
    go_wp2_with fail
    refine HCB.out.mono ?_
    rintro rr w12 hr
    obtain ⟨Wb, Eb, rfl, hr12, hb12⟩ := hr.val
    have HRB := Lib.hid hr12
    have HB12 := Lib.hid (HB11.out.trans (hb12.mono HB11.out.size))
    have HM12 := Lib.hid (show BoxE w12 mb M (.slice a M.n cap) from (hb12.block mb HM11.out.lt).trans HM11.out)
    have HF12 := Lib.hid ((hb12.block fb (lt_of_block HF11.out)).trans HF11.out)
    clear hr hr12 hb12 HB11 HM11 HF11 HCB m0 m1
    have m0 := HM12.out.c0
    have m1 := HM12.out.c1
    go_wp2_with fail
    refine (HCS.out w12 HB12.out).mono ?_
    rintro rr w13 hr
    obtain ⟨Ws, Es, rfl, hr13, hb13⟩ := hr.val
    have HRS := Lib.hid hr13
    have HB13 := Lib.hid (HB12.out.trans (hb13.mono HB12.out.size))
    have HM13 := Lib.hid (show BoxE w13 mb M (.slice a M.n cap) from (hb13.block mb HM12.out.lt).trans HM12.out)
    have HF13 := Lib.hid ((hb13.block fb (lt_of_block HF12.out)).trans HF12.out)
    clear hr hr13 hb13 HB12 HM12 HF12 HCS m0 m1
    by_cases hI : Es = 0
    · have hWs := self_cost HRS.out hI
      subst hWs hI
      clear HRS
      go_wp2_with fail
      rw [HX.out]
      exact most2 HEX HVA HCO HBE HSZ HDZ HV HRB hn HA HBB HROW HFS HED HB13 HM13 HF13
    · have hI1 : (Es == 0) = false := by simp [hI]
      have hI2 : decide (Es = 0) = false := by simp [hI]
      clear HRS
      go_wp2_with fail
      rw [HX.out]
      exact most2 HEX HVA HCO HBE HSZ HDZ HV HRB hn HA HBB HROW HFS HED HB13 HM13 HF13
end Go.Proofs.YtjekapjbigfkbaaGreatDoor

namespace Go.Proofs.YtjekapjbigfkbaaGreatDoor
open Go Go.RowKit Go.Deep Go.ChangeShapes Go.WideShapes
set_option maxRecDepth 100000
end Go.Proofs.YtjekapjbigfkbaaGreatDoor
namespace Go.Proofs.YtjekapjbigfkbaaGreatDoor
open Go Go.RowKit Go.Deep Go.ChangeShapes Go.WideShapes Go.Joins
set_option maxRecDepth 100000
theorem weightsAll_mem {H : Type} {P : Program} {e : TypeId} {d : DataW H} {n : Nat} : ∀ {ds : List (DataW H)}, d ∈ ds → n ∈ d.weights P e → n ∈ DataW.weightsAll P e ds
  | d0 :: r, h, hn => by
    simp only [DataW.weightsAll, List.mem_append]
    rcases List.mem_cons.1 h with rfl | h
    · exact .inl hn
    · exact .inr (weightsAll_mem h hn)
theorem slice_weight {H : Type} {t e : TypeId} {el sp : List (DataW H)} (hu : Tryz.prog.underlying t = some (.slice e)) (hB : 1 ≤ Tryz.prog.bytesOf e) {b : Nat} (hb : ∀ m ∈ (DataW.slice el sp).weights Tryz.prog t, m ≤ b) : el.length ≤ b := by
  have h := hb ((el.length + sp.length) * Tryz.prog.bytesOf e) (by simp [DataW.weights, hu])
  have := Nat.le_mul_of_pos_right (el.length + sp.length) hB
  omega
theorem weights_part {H : Type} {t e : TypeId} {el sp : List (DataW H)} {d : DataW H} {m : Nat} (hu : Tryz.prog.underlying t = some (.slice e)) (hd : d ∈ el) (hm : m ∈ d.weights Tryz.prog e) : m ∈ (DataW.slice el sp).weights Tryz.prog t := by
  simp only [DataW.weights, hu, List.mem_cons, List.mem_append]
  exact .inr (.inl (weightsAll_mem hd hm))
end Go.Proofs.YtjekapjbigfkbaaGreatDoor
