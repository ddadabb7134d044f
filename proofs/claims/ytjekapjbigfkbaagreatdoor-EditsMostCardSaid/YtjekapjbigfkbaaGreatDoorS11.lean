/- Parts of a proof: MP RatE. -/
import Derived.Test.YtjekapjbigfkbaaGreatDoorS10
namespace Go.Proofs.YtjekapjbigfkbaaGreatDoor
open Go Go.RowKit
set_option maxRecDepth 100000
theorem num_result2 {fn : Func} {p u : Tmp} (h : fn.results = #[.cell p 107, .tmp u]) (tmps : Array Value) (W : World) (n : Nat) (r : Bool) (x y : ByteArray) (o : Bool)
    (ht : tmps.getD p undef = .pointer (some ⟨n, 0, none⟩)) (hu : tmps.getD u undef = .bool o) (c0 : W.cell? ⟨n, 0, none⟩ = some (.bool r)) (c1 : W.cell? ⟨n, 1, none⟩ = some (.string x)) (c2 : W.cell? ⟨n, 2, none⟩ = some (.string y)) :
    (results fn tmps).run Tryz.prog W = .ok (.tuple #[.agg #[.bool r, .string x, .string y], .bool o]) W := by
  have ht' : tmps[p]?.getD undef = .pointer (some ⟨n, 0, none⟩) := by rw [← ht]; simp
  have hu' : tmps[u]?.getD undef = .bool o := by rw [← hu]; simp
  simp only [results, h]
  simp [ht', hu', go_sem, c0, c1, c2]
theorem size49 : (⟨#[49]⟩ : ByteArray).size = 1 := rfl
def NoNum : Value := nvS false ⟨#[]⟩ ⟨#[]⟩
def okB (neg frac vn vd : Bool) (n d g : ByteArray) : Bool := vn && vd && decide (n.size ≤ 400) && decide (d.size ≤ 400) && !(neg && (n.toList == [48])) && !(frac && (d.toList == [48] || d.toList == [49])) && (g.toList == [49])
def PairQ (neg : Bool) (n d : ByteArray) (ok : Bool) (w : World) (e : Ending) (w' : World) : Prop := e = .returned (.tuple #[if ok then nvS neg n d else NoNum, .bool ok]) ∧ Below w.heap.size w w'
set_option maxHeartbeats 8000000 in
theorem parse_raw (s r n d0 d g : ByteArray) (neg frac vn vd : Bool) (w : World)
    (hd : d = if frac then d0 else ⟨#[49]⟩) (hn : n.size ≤ 9223372036854775807) (hdd : d.size ≤ 9223372036854775807)
    (c1 : ∀ wx, Below w.heap.size w wx → Calls Tryz.prog 132 #[.string s, .string ⟨#[45]⟩] wx fun e w' => e = .returned (.tuple #[.string r, .bool neg]) ∧ wx = w')
    (c2 : ∀ wx, Below w.heap.size w wx → Calls Tryz.prog 133 #[.string r, .string ⟨#[47]⟩] wx fun e w' => e = .returned (.tuple #[.string n, .string d0, .bool frac]) ∧ Below wx.heap.size wx w')
    (c3 : ∀ wx, Calls Tryz.prog 114 #[.string n] wx fun e w' => e = .returned (.bool vn) ∧ wx = w')
    (c4 : ∀ wx, Calls Tryz.prog 114 #[.string d] wx fun e w' => e = .returned (.bool vd) ∧ wx = w')
    (c5 : vn = true → vd = true → ∀ wx, Below w.heap.size w wx → Calls Tryz.prog 118 #[.string n, .string d] wx (StrZ g wx)) :
    Calls Tryz.prog 97 #[.string s] w (PairQ neg n d (okB neg frac vn vd n d g) w) := by
  have C1 := Lib.hid c1; clear c1
  have C2 := Lib.hid c2; clear c2
  have C3 := Lib.hid c3; clear c3
  have C4 := Lib.hid c4; clear c4
  have C5 := Lib.hid c5; clear c5
  have hbl : Below w.heap.size w (w.alloc (.cells #[.bool false, .string ⟨#[]⟩, .string ⟨#[]⟩] 107)) := (Below.refl _ _).alloc (Nat.le_refl _) _
  have HB0 := Lib.hid hbl; clear hbl
  have HN := Lib.hid hn; clear hn
  have HDD := Lib.hid hdd; clear hdd
  have HD := Lib.hid hd; clear hd
  unfold PairQ NoNum nvS
  obtain ⟨OK, hok⟩ : ∃ b, b = okB neg frac vn vd n d g := ⟨_, rfl⟩
  rw [← hok]
  have HOK := Lib.hid hok; clear hok
  go_enter Tryz.func97, Tryz.ntmps97
  go_wp2_with fail
  refine (C1.out _ HB0.out).mono ?_
  rintro e w1 ⟨rfl, rfl⟩
  go_wp2_with fail
  refine (C2.out _ HB0.out).mono ?_
  rintro e w2 ⟨rfl, hb2⟩
  have HS2 := Lib.hid hb2
  have HB2 := Lib.hid (HB0.out.trans (hb2.mono HB0.out.size)); clear hb2
  cases frac
  · have hd := HD.out
    simp only [Bool.false_eq_true, if_false] at hd
    subst hd
    clear HDD HD
    go_wp2_with fail
    refine (C3.out _).mono ?_
    rintro e w' ⟨rfl, rfl⟩
    cases vn
    · -- no numerator
      have hf : OK = false := by rw [HOK.out]; first | (simp [okB, *]; done) | simp [okB, *, size49]
      subst hf
      obtain ⟨k0, k1, k2, f0, f1, f2, hlt⟩ := res3 HS2.out
      go_wp2_with fail
      obtain ⟨s0, s1, s2⟩ := set3 (a' := .bool false) (b' := .string ⟨#[]⟩) (c' := .string ⟨#[]⟩) k0 k1 k2
      exact bodyPost_ret (num_result2 rfl _ _ w.heap.size false ⟨#[]⟩ ⟨#[]⟩ false rfl rfl s0 s1 s2) rfl ⟨rfl, ((HB2.out.setCell (Nat.le_refl _) _).setCell (Nat.le_refl _) _).setCell (Nat.le_refl _) _⟩
    · go_wp2_with fail
      refine (C4.out _).mono ?_
      rintro e w' ⟨rfl, rfl⟩
      cases vd
      · -- no denominator
        have hf : OK = false := by rw [HOK.out]; first | (simp [okB, *]; done) | simp [okB, *, size49]
        subst hf
        obtain ⟨k0, k1, k2, f0, f1, f2, hlt⟩ := res3 HS2.out
        go_wp2_with fail
        obtain ⟨s0, s1, s2⟩ := set3 (a' := .bool false) (b' := .string ⟨#[]⟩) (c' := .string ⟨#[]⟩) k0 k1 k2
        exact bodyPost_ret (num_result2 rfl _ _ w.heap.size false ⟨#[]⟩ ⟨#[]⟩ false rfl rfl s0 s1 s2) rfl ⟨rfl, ((HB2.out.setCell (Nat.le_refl _) _).setCell (Nat.le_refl _) _).setCell (Nat.le_refl _) _⟩
      · by_cases h1 : n.size ≤ 400
        · have g1 : (n.size : Int) ≤ 400 := by omega
          cases neg
          · -- no sign
            go_wp2_with fail
            refine (C5.out (by trivial) (by trivial) _ HB2.out).mono ?_
            rintro e w3 ⟨rfl, hb3⟩
            have HS3 := Lib.hid (HS2.out.trans (hb3.mono HS2.out.size))
            have HB3 := Lib.hid (HB2.out.trans (hb3.mono HB2.out.size)); clear hb3
            cases hg : (g.toList == [49])
            · -- no
              have hf : OK = false := by rw [HOK.out]; first | (simp [okB, *]; done) | simp [okB, *, size49]
              subst hf
              obtain ⟨k0, k1, k2, f0, f1, f2, hlt⟩ := res3 HS3.out
              go_wp2_with fail
              obtain ⟨s0, s1, s2⟩ := set3 (a' := .bool false) (b' := .string ⟨#[]⟩) (c' := .string ⟨#[]⟩) k0 k1 k2
              exact bodyPost_ret (num_result2 rfl _ _ w.heap.size false ⟨#[]⟩ ⟨#[]⟩ false rfl rfl s0 s1 s2) rfl ⟨rfl, ((HB3.out.setCell (Nat.le_refl _) _).setCell (Nat.le_refl _) _).setCell (Nat.le_refl _) _⟩
            · -- lowest terms
              have hf : OK = true := by rw [HOK.out]; first | (simp [okB, *]; done) | simp [okB, *, size49]
              subst hf
              obtain ⟨k0, k1, k2, f0, f1, f2, hlt⟩ := res3 HS3.out
              go_wp2_with fail
              obtain ⟨s0, s1, s2⟩ := set3 (a' := .bool false) (b' := .string n) (c' := .string ⟨#[49]⟩) k0 k1 k2
              exact bodyPost_ret (num_result2 rfl _ _ w.heap.size false n ⟨#[49]⟩ true rfl rfl s0 s1 s2) rfl ⟨rfl, ((HB3.out.setCell (Nat.le_refl _) _).setCell (Nat.le_refl _) _).setCell (Nat.le_refl _) _⟩
          · cases hz : (n.toList == [48])
            · -- a sign
              go_wp2_with fail
              refine (C5.out (by trivial) (by trivial) _ HB2.out).mono ?_
              rintro e w3 ⟨rfl, hb3⟩
              have HS3 := Lib.hid (HS2.out.trans (hb3.mono HS2.out.size))
              have HB3 := Lib.hid (HB2.out.trans (hb3.mono HB2.out.size)); clear hb3
              cases hg : (g.toList == [49])
              · -- no
                have hf : OK = false := by rw [HOK.out]; first | (simp [okB, *]; done) | simp [okB, *, size49]
                subst hf
                obtain ⟨k0, k1, k2, f0, f1, f2, hlt⟩ := res3 HS3.out
                go_wp2_with fail
                obtain ⟨s0, s1, s2⟩ := set3 (a' := .bool false) (b' := .string ⟨#[]⟩) (c' := .string ⟨#[]⟩) k0 k1 k2
                exact bodyPost_ret (num_result2 rfl _ _ w.heap.size false ⟨#[]⟩ ⟨#[]⟩ false rfl rfl s0 s1 s2) rfl ⟨rfl, ((HB3.out.setCell (Nat.le_refl _) _).setCell (Nat.le_refl _) _).setCell (Nat.le_refl _) _⟩
              · -- lowest terms
                have hf : OK = true := by rw [HOK.out]; first | (simp [okB, *]; done) | simp [okB, *, size49]
                subst hf
                obtain ⟨k0, k1, k2, f0, f1, f2, hlt⟩ := res3 HS3.out
                go_wp2_with fail
                obtain ⟨s0, s1, s2⟩ := set3 (a' := .bool true) (b' := .string n) (c' := .string ⟨#[49]⟩) k0 k1 k2
                exact bodyPost_ret (num_result2 rfl _ _ w.heap.size true n ⟨#[49]⟩ true rfl rfl s0 s1 s2) rfl ⟨rfl, ((HB3.out.setCell (Nat.le_refl _) _).setCell (Nat.le_refl _) _).setCell (Nat.le_refl _) _⟩
            · -- minus 0
              have hf : OK = false := by rw [HOK.out]; first | (simp [okB, *]; done) | simp [okB, *, size49]
              subst hf
              obtain ⟨k0, k1, k2, f0, f1, f2, hlt⟩ := res3 HS2.out
              go_wp2_with fail
              obtain ⟨s0, s1, s2⟩ := set3 (a' := .bool false) (b' := .string ⟨#[]⟩) (c' := .string ⟨#[]⟩) k0 k1 k2
              exact bodyPost_ret (num_result2 rfl _ _ w.heap.size false ⟨#[]⟩ ⟨#[]⟩ false rfl rfl s0 s1 s2) rfl ⟨rfl, ((HB2.out.setCell (Nat.le_refl _) _).setCell (Nat.le_refl _) _).setCell (Nat.le_refl _) _⟩
        · have g1 : (400 : Int) < (n.size : Int) := by omega
          have hf : OK = false := by rw [HOK.out]; first | (simp [okB, *]; done) | simp [okB, *, size49]
          subst hf
          obtain ⟨k0, k1, k2, f0, f1, f2, hlt⟩ := res3 HS2.out
          go_wp2_with fail
          obtain ⟨s0, s1, s2⟩ := set3 (a' := .bool false) (b' := .string ⟨#[]⟩) (c' := .string ⟨#[]⟩) k0 k1 k2
          exact bodyPost_ret (num_result2 rfl _ _ w.heap.size false ⟨#[]⟩ ⟨#[]⟩ false rfl rfl s0 s1 s2) rfl ⟨rfl, ((HB2.out.setCell (Nat.le_refl _) _).setCell (Nat.le_refl _) _).setCell (Nat.le_refl _) _⟩
  · have hd := HD.out
    simp only [if_true] at hd
    subst hd
    clear HD
    go_wp2_with fail
    refine (C3.out _).mono ?_
    rintro e w' ⟨rfl, rfl⟩
    cases vn
    · -- no numerator
      have hf : OK = false := by rw [HOK.out]; first | (simp [okB, *]; done) | simp [okB, *, size49]
      subst hf
      obtain ⟨k0, k1, k2, f0, f1, f2, hlt⟩ := res3 HS2.out
      go_wp2_with fail
      obtain ⟨s0, s1, s2⟩ := set3 (a' := .bool false) (b' := .string ⟨#[]⟩) (c' := .string ⟨#[]⟩) k0 k1 k2
      exact bodyPost_ret (num_result2 rfl _ _ w.heap.size false ⟨#[]⟩ ⟨#[]⟩ false rfl rfl s0 s1 s2) rfl ⟨rfl, ((HB2.out.setCell (Nat.le_refl _) _).setCell (Nat.le_refl _) _).setCell (Nat.le_refl _) _⟩
    · go_wp2_with fail
      refine (C4.out _).mono ?_
      rintro e w' ⟨rfl, rfl⟩
      cases vd
      · -- no denominator
        have hf : OK = false := by rw [HOK.out]; first | (simp [okB, *]; done) | simp [okB, *, size49]
        subst hf
        obtain ⟨k0, k1, k2, f0, f1, f2, hlt⟩ := res3 HS2.out
        go_wp2_with fail
        obtain ⟨s0, s1, s2⟩ := set3 (a' := .bool false) (b' := .string ⟨#[]⟩) (c' := .string ⟨#[]⟩) k0 k1 k2
        exact bodyPost_ret (num_result2 rfl _ _ w.heap.size false ⟨#[]⟩ ⟨#[]⟩ false rfl rfl s0 s1 s2) rfl ⟨rfl, ((HB2.out.setCell (Nat.le_refl _) _).setCell (Nat.le_refl _) _).setCell (Nat.le_refl _) _⟩
      · by_cases h1 : n.size ≤ 400
        · have g1 : (n.size : Int) ≤ 400 := by omega
          by_cases h2 : d.size ≤ 400
          · have g2 : (d.size : Int) ≤ 400 := by omega
            cases neg
            · -- no sign
              cases hd0 : (d.toList == [48])
              · cases hd1 : (d.toList == [49])
                · -- a denominator of its own
                  go_wp2_with fail
                  refine (C5.out (by trivial) (by trivial) _ HB2.out).mono ?_
                  rintro e w3 ⟨rfl, hb3⟩
                  have HS3 := Lib.hid (HS2.out.trans (hb3.mono HS2.out.size))
                  have HB3 := Lib.hid (HB2.out.trans (hb3.mono HB2.out.size)); clear hb3
                  cases hg : (g.toList == [49])
                  · -- no
                    have hf : OK = false := by rw [HOK.out]; first | (simp [okB, *]; done) | simp [okB, *, size49]
                    subst hf
                    obtain ⟨k0, k1, k2, f0, f1, f2, hlt⟩ := res3 HS3.out
                    go_wp2_with fail
                    obtain ⟨s0, s1, s2⟩ := set3 (a' := .bool false) (b' := .string ⟨#[]⟩) (c' := .string ⟨#[]⟩) k0 k1 k2
                    exact bodyPost_ret (num_result2 rfl _ _ w.heap.size false ⟨#[]⟩ ⟨#[]⟩ false rfl rfl s0 s1 s2) rfl ⟨rfl, ((HB3.out.setCell (Nat.le_refl _) _).setCell (Nat.le_refl _) _).setCell (Nat.le_refl _) _⟩
                  · -- lowest terms
                    have hf : OK = true := by rw [HOK.out]; first | (simp [okB, *]; done) | simp [okB, *, size49]
                    subst hf
                    obtain ⟨k0, k1, k2, f0, f1, f2, hlt⟩ := res3 HS3.out
                    go_wp2_with fail
                    obtain ⟨s0, s1, s2⟩ := set3 (a' := .bool false) (b' := .string n) (c' := .string d) k0 k1 k2
                    exact bodyPost_ret (num_result2 rfl _ _ w.heap.size false n d true rfl rfl s0 s1 s2) rfl ⟨rfl, ((HB3.out.setCell (Nat.le_refl _) _).setCell (Nat.le_refl _) _).setCell (Nat.le_refl _) _⟩
                · -- 1
                  have hf : OK = false := by rw [HOK.out]; first | (simp [okB, *]; done) | simp [okB, *, size49]
                  subst hf
                  obtain ⟨k0, k1, k2, f0, f1, f2, hlt⟩ := res3 HS2.out
                  go_wp2_with fail
                  obtain ⟨s0, s1, s2⟩ := set3 (a' := .bool false) (b' := .string ⟨#[]⟩) (c' := .string ⟨#[]⟩) k0 k1 k2
                  exact bodyPost_ret (num_result2 rfl _ _ w.heap.size false ⟨#[]⟩ ⟨#[]⟩ false rfl rfl s0 s1 s2) rfl ⟨rfl, ((HB2.out.setCell (Nat.le_refl _) _).setCell (Nat.le_refl _) _).setCell (Nat.le_refl _) _⟩
              · -- 0
                have hf : OK = false := by rw [HOK.out]; first | (simp [okB, *]; done) | simp [okB, *, size49]
                subst hf
                obtain ⟨k0, k1, k2, f0, f1, f2, hlt⟩ := res3 HS2.out
                go_wp2_with fail
                obtain ⟨s0, s1, s2⟩ := set3 (a' := .bool false) (b' := .string ⟨#[]⟩) (c' := .string ⟨#[]⟩) k0 k1 k2
                exact bodyPost_ret (num_result2 rfl _ _ w.heap.size false ⟨#[]⟩ ⟨#[]⟩ false rfl rfl s0 s1 s2) rfl ⟨rfl, ((HB2.out.setCell (Nat.le_refl _) _).setCell (Nat.le_refl _) _).setCell (Nat.le_refl _) _⟩
            · cases hz : (n.toList == [48])
              · -- a sign
                cases hd0 : (d.toList == [48])
                · cases hd1 : (d.toList == [49])
                  · -- a denominator of its own
                    go_wp2_with fail
                    refine (C5.out (by trivial) (by trivial) _ HB2.out).mono ?_
                    rintro e w3 ⟨rfl, hb3⟩
                    have HS3 := Lib.hid (HS2.out.trans (hb3.mono HS2.out.size))
                    have HB3 := Lib.hid (HB2.out.trans (hb3.mono HB2.out.size)); clear hb3
                    cases hg : (g.toList == [49])
                    · -- no
                      have hf : OK = false := by rw [HOK.out]; first | (simp [okB, *]; done) | simp [okB, *, size49]
                      subst hf
                      obtain ⟨k0, k1, k2, f0, f1, f2, hlt⟩ := res3 HS3.out
                      go_wp2_with fail
                      obtain ⟨s0, s1, s2⟩ := set3 (a' := .bool false) (b' := .string ⟨#[]⟩) (c' := .string ⟨#[]⟩) k0 k1 k2
                      exact bodyPost_ret (num_result2 rfl _ _ w.heap.size false ⟨#[]⟩ ⟨#[]⟩ false rfl rfl s0 s1 s2) rfl ⟨rfl, ((HB3.out.setCell (Nat.le_refl _) _).setCell (Nat.le_refl _) _).setCell (Nat.le_refl _) _⟩
                    · -- lowest terms
                      have hf : OK = true := by rw [HOK.out]; first | (simp [okB, *]; done) | simp [okB, *, size49]
                      subst hf
                      obtain ⟨k0, k1, k2, f0, f1, f2, hlt⟩ := res3 HS3.out
                      go_wp2_with fail
                      obtain ⟨s0, s1, s2⟩ := set3 (a' := .bool true) (b' := .string n) (c' := .string d) k0 k1 k2
                      exact bodyPost_ret (num_result2 rfl _ _ w.heap.size true n d true rfl rfl s0 s1 s2) rfl ⟨rfl, ((HB3.out.setCell (Nat.le_refl _) _).setCell (Nat.le_refl _) _).setCell (Nat.le_refl _) _⟩
                  · -- 1
                    have hf : OK = false := by rw [HOK.out]; first | (simp [okB, *]; done) | simp [okB, *, size49]
                    subst hf
                    obtain ⟨k0, k1, k2, f0, f1, f2, hlt⟩ := res3 HS2.out
                    go_wp2_with fail
                    obtain ⟨s0, s1, s2⟩ := set3 (a' := .bool false) (b' := .string ⟨#[]⟩) (c' := .string ⟨#[]⟩) k0 k1 k2
                    exact bodyPost_ret (num_result2 rfl _ _ w.heap.size false ⟨#[]⟩ ⟨#[]⟩ false rfl rfl s0 s1 s2) rfl ⟨rfl, ((HB2.out.setCell (Nat.le_refl _) _).setCell (Nat.le_refl _) _).setCell (Nat.le_refl _) _⟩
                · -- 0
                  have hf : OK = false := by rw [HOK.out]; first | (simp [okB, *]; done) | simp [okB, *, size49]
                  subst hf
                  obtain ⟨k0, k1, k2, f0, f1, f2, hlt⟩ := res3 HS2.out
                  go_wp2_with fail
                  obtain ⟨s0, s1, s2⟩ := set3 (a' := .bool false) (b' := .string ⟨#[]⟩) (c' := .string ⟨#[]⟩) k0 k1 k2
                  exact bodyPost_ret (num_result2 rfl _ _ w.heap.size false ⟨#[]⟩ ⟨#[]⟩ false rfl rfl s0 s1 s2) rfl ⟨rfl, ((HB2.out.setCell (Nat.le_refl _) _).setCell (Nat.le_refl _) _).setCell (Nat.le_refl _) _⟩
              · -- minus 0
                have hf : OK = false := by rw [HOK.out]; first | (simp [okB, *]; done) | simp [okB, *, size49]
                subst hf
                obtain ⟨k0, k1, k2, f0, f1, f2, hlt⟩ := res3 HS2.out
                go_wp2_with fail
                obtain ⟨s0, s1, s2⟩ := set3 (a' := .bool false) (b' := .string ⟨#[]⟩) (c' := .string ⟨#[]⟩) k0 k1 k2
                exact bodyPost_ret (num_result2 rfl _ _ w.heap.size false ⟨#[]⟩ ⟨#[]⟩ false rfl rfl s0 s1 s2) rfl ⟨rfl, ((HB2.out.setCell (Nat.le_refl _) _).setCell (Nat.le_refl _) _).setCell (Nat.le_refl _) _⟩
          · have g2 : (400 : Int) < (d.size : Int) := by omega
            have hf : OK = false := by rw [HOK.out]; first | (simp [okB, *]; done) | simp [okB, *, size49]
            subst hf
            obtain ⟨k0, k1, k2, f0, f1, f2, hlt⟩ := res3 HS2.out
            go_wp2_with fail
            obtain ⟨s0, s1, s2⟩ := set3 (a' := .bool false) (b' := .string ⟨#[]⟩) (c' := .string ⟨#[]⟩) k0 k1 k2
            exact bodyPost_ret (num_result2 rfl _ _ w.heap.size false ⟨#[]⟩ ⟨#[]⟩ false rfl rfl s0 s1 s2) rfl ⟨rfl, ((HB2.out.setCell (Nat.le_refl _) _).setCell (Nat.le_refl _) _).setCell (Nat.le_refl _) _⟩
        · have g1 : (400 : Int) < (n.size : Int) := by omega
          have hf : OK = false := by rw [HOK.out]; first | (simp [okB, *]; done) | simp [okB, *, size49]
          subst hf
          obtain ⟨k0, k1, k2, f0, f1, f2, hlt⟩ := res3 HS2.out
          go_wp2_with fail
          obtain ⟨s0, s1, s2⟩ := set3 (a' := .bool false) (b' := .string ⟨#[]⟩) (c' := .string ⟨#[]⟩) k0 k1 k2
          exact bodyPost_ret (num_result2 rfl _ _ w.heap.size false ⟨#[]⟩ ⟨#[]⟩ false rfl rfl s0 s1 s2) rfl ⟨rfl, ((HB2.out.setCell (Nat.le_refl _) _).setCell (Nat.le_refl _) _).setCell (Nat.le_refl _) _⟩
end Go.Proofs.YtjekapjbigfkbaaGreatDoor
namespace Go.Proofs.YtjekapjbigfkbaaGreatDoor
open Go Go.RowKit
set_option maxRecDepth 100000
theorem str_eq {l r : List UInt8} : ((str l).toList == r) = decide (l = r) := by
  rw [Lib.toList_data]
  show (bts (str l) == r) = _
  rw [bts_str, Bool.eq_iff_iff]; simp
def prsV (o : Option Rat) : Value := match o with | some q => nv q | none => NoNum
theorem prsV_agg (o : Option Rat) : ∃ r x y, prsV o = .agg #[.bool r, .string x, .string y] := by cases o <;> exact ⟨_, _, _, rfl⟩
theorem parse_any (s : ByteArray) (w : World) (hs : s.size ≤ 9223372036854775807) (ht : Tab w) :
    Calls Tryz.prog 97 #[.string s] w fun e w' =>
      e = .returned (.tuple #[prsV (prs s), .bool (prs s).isSome]) ∧ Below w.heap.size w w' := by
  have hlr : (restL (bts s)).length ≤ s.size := by
    unfold restL; split
    · rw [List.length_tail, bts_len]; omega
    · rw [bts_len]; omega
  have hlu : (upTo (restL (bts s))).length ≤ s.size := Nat.le_trans (List.takeWhile_sublist _).length_le hlr
  have hlp : (pastL (restL (bts s))).length ≤ s.size := by
    unfold pastL; rw [List.length_tail]
    have := (List.dropWhile_sublist (· != 47) (l := restL (bts s))).length_le
    omega
  have hT : ∀ wx, Below w.heap.size w wx → Tab wx := fun wx h => ht.below h (Nat.le_refl _)
  have hdl : str (denL (restL (bts s))) = if hasS (restL (bts s)) then str (if hasS (restL (bts s)) then pastL (restL (bts s)) else []) else ⟨#[49]⟩ := by
    unfold denL; cases hasS (restL (bts s)) <;> rfl
  have hld : (str (denL (restL (bts s)))).size ≤ 9223372036854775807 := by
    rw [str_size]; unfold denL; split
    · omega
    · show 1 ≤ _; omega
  have hc := parse_raw s (str (restL (bts s))) (str (upTo (restL (bts s)))) (str (if hasS (restL (bts s)) then pastL (restL (bts s)) else [])) (str (denL (restL (bts s))))
    (str (dec (Nat.gcd (num (upTo (restL (bts s)))) (num (denL (restL (bts s))))))) (isNeg (bts s)) (hasS (restL (bts s))) (validL (upTo (restL (bts s)))) (validL (denL (restL (bts s)))) w
    hdl (by rw [str_size]; omega) hld (fun wx _ => cutp_any s wx)
    (fun wx _ => by
      have := cut_any (str (restL (bts s))) wx (by rw [str_size]; omega)
      rw [bts_str] at this; exact this)
    (fun wx => by
      have := vld_any (str (upTo (restL (bts s)))) wx (by rw [str_size]; unfold maxLen; omega)
      unfold vld at this; rw [bts_str] at this; exact this)
    (fun wx => by
      have := vld_any (str (denL (restL (bts s)))) wx (by unfold maxLen; omega)
      unfold vld at this; rw [bts_str] at this; exact this)
    (fun h1 h2 wx h => by
      have e1 := dec_num h1
      have e2 := dec_num h2
      have f1 : fits (num (upTo (restL (bts s)))) := by unfold fits; rw [e1]; exact (valid_parts h1).2.1
      have f2 : fits (num (denL (restL (bts s)))) := by unfold fits; rw [e2]; exact (valid_parts h2).2.1
      have := ngcd_sd _ _ wx f1 f2 (hT wx h)
      rw [e1, e2] at this; exact this)
  refine hc.mono ?_
  rintro e w' ⟨rfl, hb⟩
  refine ⟨?_, hb⟩
  have hok : okB (isNeg (bts s)) (hasS (restL (bts s))) (validL (upTo (restL (bts s)))) (validL (denL (restL (bts s)))) (str (upTo (restL (bts s)))) (str (denL (restL (bts s)))) (str (dec (Nat.gcd (num (upTo (restL (bts s)))) (num (denL (restL (bts s)))))))
      = okP (isNeg (bts s)) (upTo (restL (bts s))) (denL (restL (bts s))) (hasS (restL (bts s))) := by
    unfold okB okP
    rw [str_eq, str_eq, str_eq, str_eq, str_size, str_size]
    have hg : ∀ n, (decide (dec n = [49])) = decide (n = 1) := fun n => by
      rw [decide_eq_decide]; exact ⟨fun h => dec_inj (h.trans dec_one.symm), fun h => by rw [h, dec_one]⟩
    rw [hg]
    have hb : ∀ l r : List UInt8, (l == r) = decide (l = r) := fun l r => by rw [Bool.eq_iff_iff]; simp
    simp only [hb]
  rw [hok]
  cases hk : okP (isNeg (bts s)) (upTo (restL (bts s))) (denL (restL (bts s))) (hasS (restL (bts s)))
  · have hp : prs s = none := by unfold prs prsL; rw [hk]; rfl
    rw [hp]; rfl
  · have hp : prs s = some (mkRat (sg (isNeg (bts s)) (num (upTo (restL (bts s))))) (num (denL (restL (bts s))))) := by unfold prs prsL; rw [hk]; rfl
    have hq := (prsL_some hp).2
    rw [hp]
    simp only [prsV, nv, hq.sign, hq.top, hq.bot]; rfl
end Go.Proofs.YtjekapjbigfkbaaGreatDoor

namespace Go.Proofs.YtjekapjbigfkbaaGreatDoor
open Go Go.RowKit
set_option maxRecDepth 100000
set_option maxHeartbeats 4000000 in
theorem compc_raw (g : FuncId) (p q : Bool) (xn xd yn yd : ByteArray) (E : Ending) (b0 b1 b2 : Nat) (w : World) (hE : (∃ r x y, E = .returned (.agg #[.bool r, .string x, .string y])) ∨ E = PT)
    (he : ∀ args w, (callFunc g args).run Tryz.prog w = .ok (.enter g args) w) (l0 : b0 < w.heap.size) (l1 : b1 < w.heap.size) (l2 : b2 < w.heap.size)
    (c0 : w.cell? ⟨b0, 0, none⟩ = some (.func (.func g) #[] #[])) (d0 : w.cell? ⟨b1, 0, none⟩ = some (.bool p)) (d1 : w.cell? ⟨b1, 1, none⟩ = some (.string xn)) (d2 : w.cell? ⟨b1, 2, none⟩ = some (.string xd))
    (e0 : w.cell? ⟨b2, 0, none⟩ = some (.bool q)) (e1 : w.cell? ⟨b2, 1, none⟩ = some (.string yn)) (e2 : w.cell? ⟨b2, 2, none⟩ = some (.string yd))
    (hcl : ∀ wx, Below w.heap.size w wx → Calls Tryz.prog g #[nvS p xn xd, nvS q yn yd] wx fun e w' => e = E ∧ Below wx.heap.size wx w') :
    Calls Tryz.prog 110 #[.pointer (some ⟨b0, 0, none⟩), .pointer (some ⟨b1, 0, none⟩), .pointer (some ⟨b2, 0, none⟩)] w fun e w' => e = E ∧ Below w.heap.size w w' := by
  unfold nvS at hcl
  have HCL := Lib.hid hcl; clear hcl
  have hb0 : Below w.heap.size w (w.alloc (.cells #[.bool false, .string ⟨#[]⟩, .string ⟨#[]⟩] 107)) := (Below.refl _ _).alloc (Nat.le_refl _) _
  have HB0 := Lib.hid hb0; clear hb0
  rcases hE with ⟨r, x, y, rfl⟩ | rfl
  · go_enter Tryz.func110, Tryz.ntmps110
    go_wp2_with fail
    refine (HCL.out _ HB0.out).mono ?_
    rintro e w1 ⟨rfl, hb1⟩
    have HS1 := Lib.hid hb1; clear hb1
    obtain ⟨k0, k1, k2, f0, f1, f2, hlt⟩ := res3 HS1.out
    obtain ⟨s0, s1, s2⟩ := set3 (a' := .bool r) (b' := .string x) (c' := .string y) k0 k1 k2
    go_wp2_with fail
    exact bodyPost_ret (num_result rfl _ _ w.heap.size r x y rfl s0 s1 s2) rfl ⟨rfl, (((next_below HB0.out HS1.out).setCell (Nat.le_refl _) _).setCell (Nat.le_refl _) _).setCell (Nat.le_refl _) _⟩
  · unfold PT at HCL ⊢
    go_enter Tryz.func110, Tryz.ntmps110
    go_wp2_with fail
    refine (HCL.out _ HB0.out).mono ?_
    rintro e w1 ⟨rfl, hb1⟩
    have HS1 := Lib.hid hb1; clear hb1
    go_wp2_with fail
    exact ⟨rfl, rfl, next_below HB0.out HS1.out⟩
theorem qE (q : Rat) : (∃ r x y, (if fitQ q then .returned (nv q) else PT) = Ending.returned (.agg #[.bool r, .string x, .string y])) ∨ (if fitQ q then .returned (nv q) else PT) = PT := by
  by_cases h : fitQ q
  · rw [if_pos h]; exact .inl ⟨_, _, _, rfl⟩
  · rw [if_neg h]; exact .inr rfl
def okR (F : Rat → Rat → Rat) (a b : ByteArray) : ByteArray × Nat := match prs a, prs b with | some x, some y => limR (F x y) | _, _ => (str [], 1)
set_option maxHeartbeats 4000000 in
theorem compute_any (g : FuncId) (F : Rat → Rat → Rat) (a b : ByteArray) (w : World) (ha : a.size ≤ 9223372036854775807) (hb : b.size ≤ 9223372036854775807) (ht : Tab w)
    (he : ∀ args w, (callFunc g args).run Tryz.prog w = .ok (.enter g args) w)
    (hcl : ∀ x y, prs a = some x → prs b = some y → ∀ wx, Below w.heap.size w wx → Calls Tryz.prog g #[nv x, nv y] wx (QEnd (F x y) wx)) :
    Calls Tryz.prog 67 #[.string a, .string b, .func (.func g) #[] #[]] w (PairEnd (okR F a b) w) := by
  have hmf : ∀ (fn : Fn) (first cap : Array Value) (w : World), (Instr.makeFunc fn first cap).run Tryz.prog w = .ok (.func fn first cap) w := fun _ _ _ _ => rfl
  have hT : ∀ wx, Below w.heap.size w wx → Tab wx := fun wx h => ht.below h (Nat.le_refl _)
  have c1 := fun wx (h : Below w.heap.size w wx) => parse_any a wx ha (hT wx h)
  have c2 := fun wx (h : Below w.heap.size w wx) => parse_any b wx hb (hT wx h)
  have HHE := Lib.hid he; clear he
  have HCL := Lib.hid hcl; clear hcl
  clear hT ht ha hb
  have hb0 : Below w.heap.size w (w.alloc (.cells #[.func (.func g) #[] #[]] 112)) := (Below.refl _ _).alloc (Nat.le_refl _) _
  have HB0 := Lib.hid hb0; clear hb0
  cases h1 : prs a with
  | none =>
    have hr : okR F a b = (str [], 1) := by unfold okR; rw [h1]
    rw [hr]; simp only [h1, Option.isSome, prsV] at c1
    clear hr HCL h1
    have C1 := Lib.hid c1; clear c1
    generalize (prs b).isSome = o at c2
    obtain ⟨r, x, y, hz⟩ := prsV_agg (prs b)
    rw [hz] at c2
    clear hz
    have C2 := Lib.hid c2; clear c2
    unfold NoNum nvS at C1
    go_enter Tryz.func67, Tryz.ntmps67
    go_wp2_with fail
    refine (C1.out _ HB0.out).mono ?_
    rintro e w1 ⟨rfl, hb1⟩
    have HB1 := Lib.hid ((next_below HB0.out hb1).alloc (Nat.le_trans HB0.out.size hb1.size) (.cells #[.bool false, .string ⟨#[]⟩, .string ⟨#[]⟩] 107)); clear hb1
    go_wp2_with fail
    refine (C2.out _ HB1.out).mono ?_
    rintro e w2 ⟨rfl, hb2⟩
    have HB2 := Lib.hid (next_below HB1.out hb2); clear hb2
    go_wp2_with fail
    go_ret2
    exact ⟨rfl, HB2.out.alloc HB2.out.size _⟩
  | some x =>
    simp only [h1, Option.isSome, prsV] at c1
    have C1 := Lib.hid c1; clear c1
    cases h2 : prs b with
    | none =>
      have hr : okR F a b = (str [], 1) := by unfold okR; rw [h1, h2]
      rw [hr]; simp only [h2, Option.isSome, prsV] at c2
      clear hr HCL h1 h2
      have C2 := Lib.hid c2; clear c2
      unfold nv nvS at C1
      unfold NoNum nvS at C2
      go_enter Tryz.func67, Tryz.ntmps67
      go_wp2_with fail
      refine (C1.out _ HB0.out).mono ?_
      rintro e w1 ⟨rfl, hb1⟩
      have HB1 := Lib.hid ((next_below HB0.out hb1).alloc (Nat.le_trans HB0.out.size hb1.size) (.cells #[.bool (negQ x), .string (str (dec x.num.natAbs)), .string (str (dec x.den))] 107)); clear hb1
      go_wp2_with fail
      refine (C2.out _ HB1.out).mono ?_
      rintro e w2 ⟨rfl, hb2⟩
      have HB2 := Lib.hid (next_below HB1.out hb2); clear hb2
      go_wp2_with fail
      go_ret2
      exact ⟨rfl, HB2.out.alloc HB2.out.size _⟩
    | some y =>
      have hr : okR F a b = limR (F x y) := by unfold okR; rw [h1, h2]
      rw [hr]; simp only [h2, Option.isSome, prsV] at c2
      have hcl := fun wx h => HCL.out x y h1 h2 wx h
      clear hr HCL h1 h2
      have HCL := Lib.hid hcl; clear hcl
      have C2 := Lib.hid c2; clear c2
      unfold nv nvS at C1 C2
      go_enter Tryz.func67, Tryz.ntmps67
      go_wp2_with fail
      refine (C1.out _ HB0.out).mono ?_
      rintro e w1 ⟨rfl, hb1⟩
      have HA1 := Lib.hid hb1
      have HB1 := Lib.hid ((next_below HB0.out hb1).alloc (Nat.le_trans HB0.out.size hb1.size) (.cells #[.bool (negQ x), .string (str (dec x.num.natAbs)), .string (str (dec x.den))] 107)); clear hb1
      go_wp2_with fail
      refine (C2.out _ HB1.out).mono ?_
      rintro e w2 ⟨rfl, hb2⟩
      have HA2 := Lib.hid hb2
      have HB2 := Lib.hid ((next_below HB1.out hb2).alloc (Nat.le_trans HB1.out.size hb2.size) (.cells #[.bool (negQ y), .string (str (dec y.num.natAbs)), .string (str (dec y.den))] 107)); clear hb2
      go_wp2_with fail
      refine (written_any _ (F x y) _ (fun wx h => ?_)).mono ?_
      · have z0 := HA1.out.size
        have z1 := HA2.out.size
        have z2 := h.size
        rw [World.size_alloc] at z0 z1 z2
        have s0 : w.heap.size < (w.alloc (.cells #[.func (.func g) #[] #[]] 112)).heap.size := by rw [World.size_alloc]; omega
        have s1 : ∀ o, w1.heap.size < (w1.alloc o).heap.size := fun o => by rw [World.size_alloc]; omega
        have s2 : ∀ o, w2.heap.size < (w2.alloc o).heap.size := fun o => by rw [World.size_alloc]; omega
        have cell0 : wx.cell? ⟨w.heap.size, 0, none⟩ = some (.func (.func g) #[] #[]) := by
          refine (h.cell (p := ⟨w.heap.size, 0, none⟩) (by rw [World.size_alloc]; show w.heap.size < _; omega)).trans ?_
          rw [World.cell?_alloc_past (hn := by omega)]
          refine (HA2.out.cell (p := ⟨w.heap.size, 0, none⟩) (by rw [World.size_alloc]; show w.heap.size < _; omega)).trans ?_
          rw [World.cell?_alloc_past (hn := by omega)]
          refine (HA1.out.cell (p := ⟨w.heap.size, 0, none⟩) s0).trans ?_
          simp [go_sem]
        have cellx : ∀ (i : Nat) (v : Value), (w1.alloc (.cells #[.bool (negQ x), .string (str (dec x.num.natAbs)), .string (str (dec x.den))] 107)).cell? ⟨w1.heap.size, i, none⟩ = some v → wx.cell? ⟨w1.heap.size, i, none⟩ = some v := by
          intro i v hv
          refine (h.cell (p := ⟨w1.heap.size, i, none⟩) (by rw [World.size_alloc]; show w1.heap.size < _; omega)).trans ?_
          rw [World.cell?_alloc_past (hn := by omega)]
          exact (HA2.out.cell (p := ⟨w1.heap.size, i, none⟩) (s1 _)).trans hv
        have celly : ∀ (i : Nat) (v : Value), (w2.alloc (.cells #[.bool (negQ y), .string (str (dec y.num.natAbs)), .string (str (dec y.den))] 107)).cell? ⟨w2.heap.size, i, none⟩ = some v → wx.cell? ⟨w2.heap.size, i, none⟩ = some v := by
          intro i v hv
          exact (h.cell (p := ⟨w2.heap.size, i, none⟩) (s2 _)).trans hv
        exact compc_raw g _ _ _ _ _ _ _ w.heap.size w1.heap.size w2.heap.size wx (qE (F x y)) HHE.out (by omega) (by omega) (by omega) cell0
          (cellx 0 _ (by simp [go_sem])) (cellx 1 _ (by simp [go_sem])) (cellx 2 _ (by simp [go_sem])) (celly 0 _ (by simp [go_sem])) (celly 1 _ (by simp [go_sem])) (celly 2 _ (by simp [go_sem]))
          (fun wy hy => HCL.out wy ((next_below HB2.out h).trans (hy.mono (next_below HB2.out h).size)))
      rintro e w3 ⟨rfl, hb3⟩
      have HB3 := Lib.hid (next_below HB2.out hb3); clear hb3
      generalize limR (F x y) = lr at *
      obtain ⟨ls, ln⟩ := lr
      go_wp2_with fail
      go_ret2
      exact ⟨rfl, HB3.out⟩
end Go.Proofs.YtjekapjbigfkbaaGreatDoor
