/- The walks of abugidaref02.digits, at and text. -/
import Derived.Test.YtndfbnffielfaaaDoorDigs
import Derived.Test.YtndfbnffielfaaaDoorRVal
import Derived.Test.YtndfbnffielfaaaDoorDivide
namespace Go.Proofs.YtndfbnffielfaaaDoor
open Go Go.RowKit

theorem info_int : (Tryd.prog.info? 3).map (fun i => (i.zero, i.size, i.bytes)) = some (some (.int .i64 0), 1, 8) := by kernel_rfl
theorem info_u8 : (Tryd.prog.info? 5).map (fun i => (i.zero, i.size, i.bytes)) = some (some (.int .u8 0), 1, 1) := by kernel_rfl

/-- Returned: a slice of one's own with these integers. -/
def ListEnd (xs : List Nat) (w : World) (e : Ending) (w' : World) : Prop := ∃ v, e = .returned v ∧ Own w' w.heap.size 3 .i64 v xs ∧ Below w.heap.size w w'

theorem rdigits_any (s : ByteArray) (w : World) (hs : s.size ≤ 100000) (hd : dgts (bts s) = true) :
    Calls Tryd.prog 33 #[.string s] w (ListEnd (digL (bts s)) w) := by
  obtain ⟨i0, hi, hz0, hz1, hz2⟩ := info_parts info_int
  have HD := Lib.hid hd; clear hd
  have hll := digL_len (bts s)
  rw [bts_len] at hll
  have HLL := Lib.hid hll; clear hll
  go_enter Tryd.func33, Tryd.ntmps33
  go_wp2_with fail
  go_loopw [3, 4] (fun v i wr => ∃ k : Nat, k ≤ s.size ∧ i = .int .i64 ((s.size : Int) - 1 - (k : Int)) ∧ Own wr w.heap.size 3 .i64 v ((digL (bts s)).take k) ∧ Below w.heap.size w wr) (fun _ i _ => (intOf i + 1).toNat)
  case atStart => exact ⟨0, Nat.zero_le _, by go_num, Own.nil _ _ _ _, Below.refl _ _⟩
  case round =>
    obtain ⟨k, hk, rfl, hown, hb⟩ := hrel
    have hlen : ((digL (bts s)).take k).length = k := by rw [List.length_take, HLL.out]; omega
    obtain ⟨ad, cap, rfl⟩ := hown.shape
    rw [hlen] at hown ⊢
    have HO := Lib.hid hown; clear hown
    have HB := Lib.hid hb; clear hb
    have hsz := HB.out.size
    have HLEN := Lib.hid hlen; clear hlen
    by_cases hlt : k < s.size
    · have hd := dgts_get HD.out (s.size - 1 - k) (by rw [bts_len]; omega)
      rw [bts_get s _ (by omega)] at hd
      have hd1 : (48 : Int) ≤ (s[s.size - 1 - k].toNat : Int) := by omega
      have hd2 : (s[s.size - 1 - k].toNat : Int) ≤ 57 := by omega
      have hnth := digL_nth s k hlt
      have hts : (digL (bts s)).take (k + 1) = (digL (bts s)).take k ++ [s[s.size - 1 - k].toNat - 48] := by rw [take_snocN _ _ (by rw [HLL.out]; exact hlt), hnth]
      have HTS := Lib.hid hts; clear hts hnth hd
      have hraw : wr.ownsRow w.heap.size 3 1 (.slice ad k cap) k (vals .i64 ((digL (bts s)).take k)) := by have := HO.out.raw; rwa [HLEN.out] at this
      have HRAW := Lib.hid hraw; clear hraw
      have hce : ((s[s.size - 1 - k].toNat : Int) - 48) = ((s[s.size - 1 - k].toNat - 48 : Nat) : Int) := by omega
      have HCE := Lib.hid hce; clear hce
      go_wp2_with (at_builtin; refine wpList_append_own _ rfl (.tmp 12) (.tmp 18) 41 rfl w.heap.size 3 i0 (.int .i64 0) 1 8 Tryd.underlying41 hi hz0 hz1 hz2 rfl (by decide) _ _ _ rfl (World.ownsRow.alloc HRAW.out _) ⟨wr.heap.size, 0, none⟩ 1 1 [.int .i64 ((s[s.size - 1 - k].toNat : Int) - 48)] rfl rfl (cell_one_new _ _ _) (one_cell _ _) (by unfold maxLen; omega) (by omega) (by simp; omega) ?_; intro v' w1 hown1 hgrow1 _)
      rw [HCE.out] at hown1
      obtain ⟨ho, hb⟩ := HO.out.appended HB.out hsz (by rw [HLEN.out]; exact hown1) hgrow1
      clear hown1 hgrow1
      rw [← HTS.out] at ho
      have HO1 := Lib.hid ho; clear ho
      have HB1 := Lib.hid hb; clear hb
      go_wp2_with fail
      go_roundw
      case rel => exact ⟨k + 1, by omega, by go_num, HO1.out, HB1.out⟩
      case measure => simp [intOf]; omega
    · go_wp2_with fail
      go_ret
      have hkk : k = s.size := by omega
      have ho := HO.out
      have e : (digL (bts s)).take k = digL (bts s) := List.take_of_length_le (by rw [HLL.out]; omega)
      rw [e] at ho
      exact ⟨_, rfl, ho, HB.out⟩

/-- 'at': digit i, 0 beyond the last one. -/
theorem rat_any (v : Value) (xs : List Nat) (i : Nat) (w : World) (h : Sl w .i64 v xs) (hi : i ≤ 1000000) :
    Calls Tryd.prog 34 #[v, .int .i64 (i : Int)] w fun e w' => e = .returned (.int .i64 ((nth xs i : Nat) : Int)) ∧ w = w' := by
  obtain ⟨ax, cx, bx, ox, rfl, hax, hcx1, hcx2, hbx, hcellx⟩ := h.open
  unfold maxLen at hcx2
  clear h
  by_cases hlt : i < xs.length
  · obtain rfl := hax (by omega)
    have hc := hcellx i hlt
    clear hcellx hbx
    go_enter Tryd.func34, Tryd.ntmps34
    go_wp2_with fail
    go_ret
    exact ⟨rfl, rfl⟩
  · have hz := nth_out xs i (by omega)
    have HZ := Lib.hid hz; clear hz hcellx hax hbx
    go_enter Tryd.func34, Tryd.ntmps34
    go_wp2_with fail
    go_ret
    exact ⟨ret_int (by rw [HZ.out]; rfl), rfl⟩

theorem bytes_step (xs : List Nat) {k m : Nat} (hk : k ≤ xs.length) (hm0 : 0 < m) (hm : m ≤ k) (h9 : nth xs (m - 1) < 10) :
    (bytesOf ((xs.take k).drop (m - 1))).map (·.toNat) = (bytesOf ((xs.take k).drop m)).map (·.toNat) ++ [48 + nth xs (m - 1)] := by
  rw [List.drop_eq_getElem_cons (by rw [List.length_take]; omega), show m - 1 + 1 = m by omega, bytesOf_cons, List.map_append]
  congr 1
  have e : (xs.take k)[m - 1]'(by rw [List.length_take]; omega) = nth xs (m - 1) := by
    rw [nth_get xs _ (by omega)]; simp
  rw [e]
  simp [byteOf_toNat h9]

theorem own_bytes {w : World} {B g cap n : Nat} {l : List UInt8} (h : Own w B 5 .u8 (.slice (some ⟨g, 0, none⟩) n cap) (l.map (·.toNat))) (hn : l.length = n) :
    ∀ (j : Nat) (hj : j < l.length), w.cell? ((⟨g, 0, none⟩ : Addr).add j) = some (.int .u8 ((l[j].toNat : Nat) : Int)) := fun j hj => by
  have hc := h.cell (by rw [List.length_map]; exact hn) j (by omega)
  have e : (⟨g, 0, none⟩ : Addr).add j = ⟨g, j, none⟩ := by unfold Addr.add; split <;> simp_all
  rw [e, hc, nth_get _ _ (by rw [List.length_map]; exact hj), List.getElem_map]

set_option maxHeartbeats 1000000 in
theorem rtext_any (v : Value) (xs : List Nat) (w : World) (h : Sl w .i64 v xs) (hd : Dig xs) (hl : xs.length ≤ 100000) :
    Calls Tryd.prog 36 #[v] w fun e w' => e = .returned (.string (str (dec (dval xs)))) ∧ Below w.heap.size w w' := by
  obtain ⟨i0, hi, hz0, hz1, hz2⟩ := info_parts info_u8
  obtain ⟨ax, cx, bx, ox, rfl, hax, hcx1, hcx2, hbx, hcellx⟩ := h.open
  unfold maxLen at hcx2
  have HDG := Lib.hid hd; clear hd h
  have HAX := Lib.hid hax; clear hax
  have HCX := Lib.hid hcellx; clear hcellx
  have HBX := Lib.hid hbx; clear hbx
  go_enter Tryd.func36, Tryd.ntmps36
  go_wp2_with fail
  go_loopw [3] (fun n wr => ∃ k : Nat, k ≤ xs.length ∧ n = .int .i64 (k : Int) ∧ (∀ j, k ≤ j → nth xs j = 0) ∧ (1 ≤ xs.length → 1 ≤ k) ∧ Below w.heap.size w wr) (fun n _ => (intOf n).toNat)
  case atStart => exact ⟨xs.length, Nat.le_refl _, rfl, fun j hj => nth_out xs j hj, fun h => h, Below.refl _ _⟩
  case round =>
    obtain ⟨k, hk, rfl, hz, hk1, hb⟩ := hrel
    have HZ := Lib.hid hz; clear hz
    have HK1 := Lib.hid hk1; clear hk1
    have HB := Lib.hid hb; clear hb
    by_cases hgt : 1 < k
    · obtain rfl := HAX.out (by omega)
      have hbx := HBX.out (by omega)
      have hc := (HB.out.cell (p := ⟨bx, ox + (k - 1), none⟩) hbx).trans (HCX.out (k - 1) (by omega))
      have hg : (1 : Int) < (k : Int) := by omega
      by_cases h0 : nth xs (k - 1) = 0
      · have hb0 : (((nth xs (k - 1) : Nat) : Int) == 0) = true := by rw [beq_iff_eq]; omega
        have HH := Lib.hid h0; clear h0
        go_wp2_with fail
        go_roundw
        case rel => exact ⟨k - 1, by omega, by go_num, fun j hj => by
          by_cases e : j = k - 1
          · rw [e]; exact HH.out
          · exact HZ.out j (by omega), fun _ => by omega, HB.out⟩
        case measure => simp [intOf]; omega
      · have hb0 : (((nth xs (k - 1) : Nat) : Int) == 0) = false := by rw [beq_eq_false_iff_ne]; omega
        have HH := Lib.hid h0; clear h0
        have htop : k = 0 ∨ k = 1 ∨ nth xs (k - 1) ≠ 0 := .inr (.inr HH.out)
        have HTOP := Lib.hid htop; clear htop
        obtain ⟨wo, rfl⟩ : ∃ wo : World, wo = wr := ⟨_, rfl⟩
        have HKK := Lib.hid hk
        go_wp2_with fail
        go_loopw [4, 5] (fun v i wr => ∃ m : Nat, m ≤ k ∧ i = .int .i64 ((m : Int) - 1) ∧ Own wr w.heap.size 5 .u8 v ((bytesOf ((xs.take k).drop m)).map (·.toNat)) ∧ Below w.heap.size w wr) (fun _ i _ => (intOf i + 1).toNat)
        case atStart => exact ⟨k, Nat.le_refl _, rfl, by rw [List.drop_of_length_le (by rw [List.length_take]; omega)]; exact Own.nil _ _ _ _, HB.out⟩
        case round =>
          obtain ⟨m, hm, rfl, hown, hb2⟩ := hrel
          have hblen : ((bytesOf ((xs.take k).drop m)).map (·.toNat)).length = k - m := by rw [List.length_map, bytesOf_len, List.length_drop, List.length_take]; omega
          obtain ⟨ad, cap, rfl⟩ := hown.shape
          rw [hblen] at hown ⊢
          have HO := Lib.hid hown; clear hown
          have HB2 := Lib.hid hb2; clear hb2
          have hsz := HB2.out.size
          have HLEN := Lib.hid hblen; clear hblen
          by_cases hm0 : 0 < m
          · skip
            have hbx2 := HBX.out (by omega)
            have hc2 := (HB2.out.cell (p := ⟨bx, ox + (m - 1), none⟩) hbx2).trans (HCX.out (m - 1) (by omega))
            have hd9 : ((nth xs (m - 1) : Nat) : Int) ≤ 9 := by have := HDG.out (m - 1); omega
            have hts := bytes_step xs hk hm0 hm (HDG.out (m - 1))
            have HTS := Lib.hid hts; clear hts
            have hraw : wr.ownsRow w.heap.size 5 1 (.slice ad (k - m) cap) (k - m) (vals .u8 ((bytesOf ((xs.take k).drop m)).map (·.toNat))) := by have := HO.out.raw; rwa [HLEN.out] at this
            have HRAW := Lib.hid hraw; clear hraw
            have hce : (48 + ((nth xs (m - 1) : Nat) : Int)) = ((48 + nth xs (m - 1) : Nat) : Int) := by omega
            have HCE := Lib.hid hce; clear hce
            go_wp2_with (at_builtin; refine wpList_append_own _ rfl (.tmp 26) (.tmp 33) 52 rfl w.heap.size 5 i0 (.int .u8 0) 1 1 Tryd.underlying52 hi hz0 hz1 hz2 rfl (by decide) _ _ _ rfl (World.ownsRow.alloc HRAW.out _) ⟨wr.heap.size, 0, none⟩ 1 1 [.int .u8 (48 + ((nth xs (m - 1) : Nat) : Int))] rfl rfl (cell_one_new _ _ _) (one_cell _ _) (by unfold maxLen; omega) (by omega) (by simp; omega) ?_; intro v' w1 hown1 hgrow1 _)
            rw [HCE.out] at hown1
            obtain ⟨ho, hb⟩ := HO.out.appended HB2.out hsz (by rw [HLEN.out]; exact hown1) hgrow1
            clear hown1 hgrow1
            rw [← HTS.out] at ho
            have HO1 := Lib.hid ho; clear ho
            have HB1 := Lib.hid hb; clear hb
            go_wp2_with fail
            go_roundw
            case rel => exact ⟨m - 1, by omega, by go_num, HO1.out, HB1.out⟩
            case measure => simp [intOf]; omega
          · obtain rfl : m = 0 := by omega
            rw [List.drop_zero] at HO
            rw [Nat.sub_zero, List.drop_zero] at HLEN
            rw [Nat.sub_zero]
            rcases Nat.eq_zero_or_pos k with hk0 | hk0
            · have hb0 : (((k : Nat) : Int) == 0) = true := by rw [beq_iff_eq]; omega
              have hres : str (dec (dval xs)) = ⟨#[48]⟩ := by
                have : xs = [] := List.length_eq_zero_iff.1 (by
                  rcases Nat.eq_zero_or_pos xs.length with h | h
                  · exact h
                  · have := HK1.out h; omega)
                rw [this]; show str (dec 0) = _; rw [dec_small (by omega)]; rfl
              have HR := Lib.hid hres; clear hres hk0
              go_wp2_with fail
              go_ret
              exact ⟨ret_str HR.out.symm, HB2.out⟩
            · have hb0 : (((k : Nat) : Int) == 0) = false := by rw [beq_eq_false_iff_ne]; omega
              have ho := HO.out
              rw [Nat.sub_zero] at ho
              obtain ⟨g, cap', hv, _⟩ := ho.some (by rw [HLEN.out]; exact hk0)
              rw [HLEN.out] at hv
              simp only [Value.slice.injEq, true_and] at hv
              obtain ⟨rfl, rfl⟩ := hv
              have hcv := run_convert_bytes_back (P := Tryd.prog) wr 52 9 5 ⟨g, 0, none⟩ cap (bytesOf (xs.take k)) Tryd.underlying52 Tryd.underlying5 Tryd.underlying9 (own_bytes ho (by rw [List.length_map] at HLEN; exact HLEN.out))
              have hbl : (bytesOf (xs.take k)).length = k := by have := HLEN.out; rwa [List.length_map] at this
              rw [hbl] at hcv
              have hres : (⟨(bytesOf (xs.take k)).toArray⟩ : ByteArray) = str (dec (dval xs)) := by
                have ht2 : k = 1 ∨ nth xs (k - 1) ≠ 0 := by
                  rcases HTOP.out with h | h | h
                  · omega
                  · exact .inl h
                  · exact .inr h
                rw [dec_bytesOf HDG.out hk0 HKK.out HZ.out ht2]; rfl
              rw [hres] at hcv
              clear hbl hres ho hk0
              go_wp2_with fail
              go_ret
              exact ⟨rfl, HB2.out⟩
    · have hg : decide ((1 : Int) < (k : Int)) = false := by simp; omega
      have htop : k = 0 ∨ k = 1 ∨ nth xs (k - 1) ≠ 0 := by omega
      have HTOP := Lib.hid htop; clear htop
      obtain ⟨wo, rfl⟩ : ∃ wo : World, wo = wr := ⟨_, rfl⟩
      have HKK := Lib.hid hk
      go_wp2_with fail
      go_loopw [4, 5] (fun v i wr => ∃ m : Nat, m ≤ k ∧ i = .int .i64 ((m : Int) - 1) ∧ Own wr w.heap.size 5 .u8 v ((bytesOf ((xs.take k).drop m)).map (·.toNat)) ∧ Below w.heap.size w wr) (fun _ i _ => (intOf i + 1).toNat)
      case atStart => exact ⟨k, Nat.le_refl _, rfl, by rw [List.drop_of_length_le (by rw [List.length_take]; omega)]; exact Own.nil _ _ _ _, HB.out⟩
      case round =>
        obtain ⟨m, hm, rfl, hown, hb2⟩ := hrel
        have hblen : ((bytesOf ((xs.take k).drop m)).map (·.toNat)).length = k - m := by rw [List.length_map, bytesOf_len, List.length_drop, List.length_take]; omega
        obtain ⟨ad, cap, rfl⟩ := hown.shape
        rw [hblen] at hown ⊢
        have HO := Lib.hid hown; clear hown
        have HB2 := Lib.hid hb2; clear hb2
        have hsz := HB2.out.size
        have HLEN := Lib.hid hblen; clear hblen
        by_cases hm0 : 0 < m
        · obtain rfl := HAX.out (by omega)
          have hbx2 := HBX.out (by omega)
          have hc2 := (HB2.out.cell (p := ⟨bx, ox + (m - 1), none⟩) hbx2).trans (HCX.out (m - 1) (by omega))
          have hd9 : ((nth xs (m - 1) : Nat) : Int) ≤ 9 := by have := HDG.out (m - 1); omega
          have hts := bytes_step xs hk hm0 hm (HDG.out (m - 1))
          have HTS := Lib.hid hts; clear hts
          have hraw : wr.ownsRow w.heap.size 5 1 (.slice ad (k - m) cap) (k - m) (vals .u8 ((bytesOf ((xs.take k).drop m)).map (·.toNat))) := by have := HO.out.raw; rwa [HLEN.out] at this
          have HRAW := Lib.hid hraw; clear hraw
          have hce : (48 + ((nth xs (m - 1) : Nat) : Int)) = ((48 + nth xs (m - 1) : Nat) : Int) := by omega
          have HCE := Lib.hid hce; clear hce
          go_wp2_with (at_builtin; refine wpList_append_own _ rfl (.tmp 26) (.tmp 33) 52 rfl w.heap.size 5 i0 (.int .u8 0) 1 1 Tryd.underlying52 hi hz0 hz1 hz2 rfl (by decide) _ _ _ rfl (World.ownsRow.alloc HRAW.out _) ⟨wr.heap.size, 0, none⟩ 1 1 [.int .u8 (48 + ((nth xs (m - 1) : Nat) : Int))] rfl rfl (cell_one_new _ _ _) (one_cell _ _) (by unfold maxLen; omega) (by omega) (by simp; omega) ?_; intro v' w1 hown1 hgrow1 _)
          rw [HCE.out] at hown1
          obtain ⟨ho, hb⟩ := HO.out.appended HB2.out hsz (by rw [HLEN.out]; exact hown1) hgrow1
          clear hown1 hgrow1
          rw [← HTS.out] at ho
          have HO1 := Lib.hid ho; clear ho
          have HB1 := Lib.hid hb; clear hb
          go_wp2_with fail
          go_roundw
          case rel => exact ⟨m - 1, by omega, by go_num, HO1.out, HB1.out⟩
          case measure => simp [intOf]; omega
        · obtain rfl : m = 0 := by omega
          rw [List.drop_zero] at HO
          rw [Nat.sub_zero, List.drop_zero] at HLEN
          rw [Nat.sub_zero]
          rcases Nat.eq_zero_or_pos k with hk0 | hk0
          · have hb0 : (((k : Nat) : Int) == 0) = true := by rw [beq_iff_eq]; omega
            have hres : str (dec (dval xs)) = ⟨#[48]⟩ := by
              have : xs = [] := List.length_eq_zero_iff.1 (by
                rcases Nat.eq_zero_or_pos xs.length with h | h
                · exact h
                · have := HK1.out h; omega)
              rw [this]; show str (dec 0) = _; rw [dec_small (by omega)]; rfl
            have HR := Lib.hid hres; clear hres hk0
            go_wp2_with fail
            go_ret
            exact ⟨ret_str HR.out.symm, HB2.out⟩
          · have hb0 : (((k : Nat) : Int) == 0) = false := by rw [beq_eq_false_iff_ne]; omega
            have ho := HO.out
            rw [Nat.sub_zero] at ho
            obtain ⟨g, cap', hv, _⟩ := ho.some (by rw [HLEN.out]; exact hk0)
            rw [HLEN.out] at hv
            simp only [Value.slice.injEq, true_and] at hv
            obtain ⟨rfl, rfl⟩ := hv
            have hcv := run_convert_bytes_back (P := Tryd.prog) wr 52 9 5 ⟨g, 0, none⟩ cap (bytesOf (xs.take k)) Tryd.underlying52 Tryd.underlying5 Tryd.underlying9 (own_bytes ho (by rw [List.length_map] at HLEN; exact HLEN.out))
            have hbl : (bytesOf (xs.take k)).length = k := by have := HLEN.out; rwa [List.length_map] at this
            rw [hbl] at hcv
            have hres : (⟨(bytesOf (xs.take k)).toArray⟩ : ByteArray) = str (dec (dval xs)) := by
              have ht2 : k = 1 ∨ nth xs (k - 1) ≠ 0 := by
                rcases HTOP.out with h | h | h
                · omega
                · exact .inl h
                · exact .inr h
              rw [dec_bytesOf HDG.out hk0 HKK.out HZ.out ht2]; rfl
            rw [hres] at hcv
            clear hbl hres ho hk0
            go_wp2_with fail
            go_ret
            exact ⟨rfl, HB2.out⟩
end Go.Proofs.YtndfbnffielfaaaDoor
