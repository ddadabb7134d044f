/- The laws of the semirings, on strings: what the operations return for values of at most 100 bytes. No program in sight. -/
import Derived.Test.YtlcbdaconghcmaaGreatDoorSemL
namespace Go.Proofs.YtlcbdaconghcmaaGreatDoor
open Go
set_option maxRecDepth 100000

def szV (k : Nat) : V → Prop
  | .fin q => szQ k q
  | _ => True
theorem szV.mono {j k : Nat} {v : V} (h : szV j v) (hk : j ≤ k) : szV k v := by cases v <;> first | trivial | exact szQ.mono h hk
theorem szV.fit {k : Nat} {v : V} (h : szV k v) (hk : k ≤ 400) : fitV v := by
  cases v <;> first | trivial | exact fit_sz.2 (szQ.mono h hk)
theorem szQ_zero {k : Nat} (hk : 1 ≤ k) : szQ k 0 := by
  have : 1 < 10 ^ k := Nat.one_lt_pow (by omega) (by omega)
  exact ⟨by show (0 : Int).natAbs < _; simp; omega, by show 1 < _; exact this⟩
theorem szQ_one {k : Nat} (hk : 1 ≤ k) : szQ k 1 := by
  have : 1 < 10 ^ k := Nat.one_lt_pow (by omega) (by omega)
  exact ⟨by show (1 : Int).natAbs < _; simpa using this, by show 1 < _; exact this⟩
theorem szV_zero (kd : Int) {k : Nat} (hk : 1 ≤ k) : szV k (zeroV kd) := by unfold zeroV; split; trivial; exact szQ_zero hk
theorem szV_one (kd : Int) {k : Nat} (hk : 1 ≤ k) : szV k (oneV kd) := by unfold oneV; split; exact szQ_zero hk; exact szQ_one hk
theorem szV_plus (kd : Int) {j k : Nat} {v w : V} (hv : szV j v) (hw : szV k w) : szV (j + k + 1) (plusV kd v w) := by
  unfold plusV
  split
  · cases v <;> cases w <;> first | trivial | exact szQ.add hv hw
  · split <;> split <;> first | exact hv.mono (by omega) | exact hw.mono (by omega)
theorem szV_times (kd : Int) {j k : Nat} {v w : V} (hv : szV j v) (hw : szV k w) (hj : 1 ≤ j) : szV (j + k + 1) (timesV kd v w) := by
  unfold timesV
  split
  · exact szV_zero kd (by omega)
  · cases v <;> cases w <;> try trivial
    simp only
    split
    · exact szQ.add hv hw
    · exact szQ.mono (szQ.mul hv hw) (by omega)
theorem rdV_sz {s : ByteArray} {v : V} {k : Nat} (h : rdV s = some v) (hs : s.size ≤ k) (hk : 1 ≤ k) : szV k v := by
  unfold rdV at h
  split at h
  · have := Option.some.inj h; subst this; trivial
  · split at h
    · have := Option.some.inj h; subst this; trivial
    · cases hp : prs s with
      | none => rw [hp] at h; simp at h
      | some q => rw [hp] at h; simp at h; subst h; exact prs_sz hp hs hk

/-! ### Values stay values -/
theorem okV_zero {k : Int} (hk : k = 1 ∨ k = 2 ∨ k = 3) : okV k (zeroV k) := by
  unfold zeroV; split
  · rename_i h; subst h; exact ⟨by omega, by omega⟩
  · right; exact ⟨by omega, Rat.le_refl⟩
theorem okV_one {k : Int} (hk : k = 1 ∨ k = 2 ∨ k = 3) : okV k (oneV k) := by
  unfold oneV; split
  · rename_i h; exact .inl h
  · right; exact ⟨by omega, by decide⟩
theorem okV_inf {k : Int} (hk : k = 1 ∨ k = 2 ∨ k = 3) : okV k .inf := ⟨by omega, by omega⟩
theorem okV_plus {k : Int} {v w : V} (hv : okV k v) (hw : okV k w) : okV k (plusV k v w) := by
  have hk := okV_kind hv
  unfold plusV
  split
  · rename_i h2
    rcases okV23 hv (by omega) with rfl | ⟨x, rfl, hx⟩
    · exact okV_inf hk
    · rcases okV23 hw (by omega) with rfl | ⟨y, rfl, hy⟩
      · exact okV_inf hk
      · exact .inr ⟨by omega, Rat.add_nonneg hx hy⟩
  · split <;> split <;> assumption
theorem okV_times {k : Int} {v w : V} (hv : okV k v) (hw : okV k w) : okV k (timesV k v w) := by
  have hk := okV_kind hv
  by_cases h1 : k = 1
  · subst h1; rw [times1]; cases v <;> cases w <;> simp [okV]
  · rw [times23 h1 (okV_low hv h1) (okV_low hw h1)]
    unfold mulV
    split
    · exact .inr ⟨by omega, Rat.le_refl⟩
    · rcases okV23 hv h1 with rfl | ⟨x, rfl, hx⟩
      · exact okV_inf hk
      · rcases okV23 hw h1 with rfl | ⟨y, rfl, hy⟩
        · exact okV_inf hk
        · exact .inr ⟨by omega, Rat.mul_nonneg hx hy⟩

/-! ### The laws of the values -/
theorem plus_comm' {k : Int} {v w : V} (hv : okV k v) : plusV k v w = plusV k w v := by
  rcases okV_kind hv with rfl | rfl | rfl
  · rw [plusV1, plusV1, minV_comm]
  · rw [plusV2, plusV2, addV_comm]
  · rw [plusV3, plusV3, maxV_comm]
theorem plus_assoc' {k : Int} {u v w : V} (hv : okV k v) : plusV k (plusV k u v) w = plusV k u (plusV k v w) := by
  rcases okV_kind hv with rfl | rfl | rfl
  · simp only [plusV1]; rw [minV_assoc]
  · simp only [plusV2]; rw [addV_assoc]
  · simp only [plusV3]; rw [maxV_assoc]
theorem times_comm' {k : Int} {v w : V} (hv : okV k v) (hw : okV k w) : timesV k v w = timesV k w v := by
  by_cases h1 : k = 1
  · subst h1; exact times1_comm v w
  · rw [times23 h1 (okV_low hv h1) (okV_low hw h1), times23 h1 (okV_low hw h1) (okV_low hv h1), mulV_comm]
theorem times_assoc' {k : Int} {u v w : V} (hu : okV k u) (hv : okV k v) (hw : okV k w) : timesV k (timesV k u v) w = timesV k u (timesV k v w) := by
  by_cases h1 : k = 1
  · subst h1; exact times1_assoc u v w
  · rw [times23 h1 (okV_low (okV_times hu hv) h1) (okV_low hw h1), times23 h1 (okV_low hu h1) (okV_low (okV_times hv hw) h1), times23 h1 (okV_low hu h1) (okV_low hv h1), times23 h1 (okV_low hv h1) (okV_low hw h1)]
    exact mulV_assoc (okV_low hu h1) (okV_low hv h1) (okV_low hw h1)
theorem times_mono' {k : Int} {u v w : V} (hu : okV k u) (hv : okV k v) (hw : okV k w) (h : leV v w) : leV (timesV k u v) (timesV k u w) := by
  by_cases h1 : k = 1
  · subst h1; exact times1_mono u h
  · rw [times23 h1 (okV_low hu h1) (okV_low hv h1), times23 h1 (okV_low hu h1) (okV_low hw h1)]
    exact mulV_mono (okV23 hu h1) (okV23 hv h1) (okV23 hw h1) h
theorem times_plus' {k : Int} {u v w : V} (hu : okV k u) (hv : okV k v) (hw : okV k w) : timesV k u (plusV k v w) = plusV k (timesV k u v) (timesV k u w) := by
  have hm : ∀ x y, (x = v ∨ x = w) → (y = v ∨ y = w) → leV x y → leV (timesV k u x) (timesV k u y) := by
    intro x y hx hy h
    refine times_mono' hu ?_ ?_ h
    · rcases hx with rfl | rfl <;> assumption
    · rcases hy with rfl | rfl <;> assumption
  rcases okV_kind hu with rfl | rfl | rfl
  · rw [plusV1, plusV1]; exact mono_min (f := timesV 1 u) v w hm
  · have h1 : (2 : Int) ≠ 1 := by decide
    rw [times23 h1 (okV_low hu h1) (okV_low (okV_plus hv hw) h1), times23 h1 (okV_low hu h1) (okV_low hv h1), times23 h1 (okV_low hu h1) (okV_low hw h1), plusV2, plusV2]
    exact mulV_addV (okV23 hu h1) (okV23 hv h1) (okV23 hw h1)
  · rw [plusV3, plusV3]; exact mono_max (f := timesV 3 u) v w hm
theorem plus_zero' {k : Int} {v : V} (hv : okV k v) : plusV k v (zeroV k) = v := by
  rcases okV_kind hv with rfl | rfl | rfl
  · rw [plusV1]; exact minV_le (by cases v <;> trivial)
  · rw [plusV2]; show addV v (.fin 0) = v
    rcases okV23 hv (by decide) with rfl | ⟨x, rfl, hx⟩
    · rfl
    · simp [addV, Rat.add_zero]
  · rw [plusV3]; show maxV v (.fin 0) = v
    rcases okV23 hv (by decide) with rfl | ⟨x, rfl, hx⟩
    · exact maxV_ge trivial
    · exact maxV_ge hx
theorem times_one' {k : Int} {v : V} (hv : okV k v) : timesV k v (oneV k) = v := by
  by_cases h1 : k = 1
  · subst h1; rw [times1]; cases v <;> simp [oneV, Rat.add_zero]
  · rw [times23 h1 (okV_low hv h1) (by simp [oneV, h1])]
    have : oneV k = .fin 1 := by simp [oneV, h1]
    rw [this]
    rcases okV23 hv h1 with rfl | ⟨x, rfl, hx⟩
    · exact mulV_inf (by decide)
    · rw [mulV_fin, Rat.mul_one]
theorem times_zero' (k : Int) (v : V) : timesV k v (zeroV k) = zeroV k := by unfold timesV; rw [if_pos (.inr rfl)]

/-! ### The strings -/
theorem plusF_fit {k : Int} {a b : ByteArray} {v w : V} (ha : vprs k a = some v) (hb : vprs k b = some w) (h : fitV (plusV k v w)) : plusF k a b = (vtxt (plusV k v w), 0) := by
  unfold plusF; rw [ha, hb]; exact limV_fit h
theorem timesF_fit {k : Int} {a b : ByteArray} {v w : V} (ha : vprs k a = some v) (hb : vprs k b = some w) (h : fitV (timesV k v w)) : timesF k a b = (vtxt (timesV k v w), 0) := by
  unfold timesF; rw [ha, hb]; exact limV_fit h
theorem zeroF_eq {k : Int} (hk : k = 1 ∨ k = 2 ∨ k = 3) : zeroF k = vtxt (zeroV k) := by
  have : kindB k = true := by unfold kindB; rcases hk with rfl | rfl | rfl <;> rfl
  unfold zeroF; rw [this]; rfl
theorem oneF_eq {k : Int} (hk : k = 1 ∨ k = 2 ∨ k = 3) : oneF k = vtxt (oneV k) := by
  have : kindB k = true := by unfold kindB; rcases hk with rfl | rfl | rfl <;> rfl
  unfold oneF; rw [this]; rfl
theorem valid_some {k : Int} {a : ByteArray} (h : validF k a = true) : ∃ v, vprs k a = some v := by
  unfold validF at h; exact Option.isSome_iff_exists.1 h

structure Laws (k : Int) (a b c ab bc l m o r d x : ByteArray) : Prop where
  p1 : plusF k a b = (ab, 0)
  p2 : plusF k b a = (ab, 0)
  p3 : plusF k b c = (bc, 0)
  p4 : plusF k ab c = (l, 0)
  p5 : plusF k a bc = (l, 0)
  t1 : timesF k a b = (m, 0)
  t2 : timesF k b a = (m, 0)
  t3 : timesF k b c = (o, 0)
  t4 : timesF k m c = (r, 0)
  t5 : timesF k a o = (r, 0)
  q1 : timesF k a bc = (d, 0)
  q2 : timesF k a c = (x, 0)
  q3 : plusF k m x = (d, 0)
  q4 : plusF k a (zeroF k) = (a, 0)
  q5 : timesF k a (oneF k) = (a, 0)
  q6 : timesF k a (zeroF k) = (zeroF k, 0)
theorem laws_hold {k : Int} {a b c : ByteArray} (ha : validF k a = true) (hb : validF k b = true) (hc : validF k c = true) (sa : a.size ≤ 100) (sb : b.size ≤ 100) (sc : c.size ≤ 100) :
    ∃ ab bc l m o r d x, Laws k a b c ab bc l m o r d x := by
  obtain ⟨u, ha⟩ := valid_some ha
  obtain ⟨v, hb⟩ := valid_some hb
  obtain ⟨w, hc⟩ := valid_some hc
  obtain ⟨ra, ou⟩ := vprs_some.1 ha
  obtain ⟨rb, ov⟩ := vprs_some.1 hb
  obtain ⟨rc, ow⟩ := vprs_some.1 hc
  have zu := rdV_sz ra sa (by omega)
  have zv := rdV_sz rb sb (by omega)
  have zw := rdV_sz rc sc (by omega)
  have hk := okV_kind ou
  have zab := szV_plus k zu zv
  have zbc := szV_plus k zv zw
  have zl := szV_plus k zab zw
  have zm := szV_times k zu zv (by omega)
  have zo := szV_times k zv zw (by omega)
  have zx := szV_times k zu zw (by omega)
  have zr := szV_times k zm zw (by omega)
  have zd := szV_times k zu zbc (by omega)
  have pab := vprs_txt (zab.fit (by omega)) (okV_plus ou ov)
  have pbc := vprs_txt (zbc.fit (by omega)) (okV_plus ov ow)
  have pm := vprs_txt (zm.fit (by omega)) (okV_times ou ov)
  have po := vprs_txt (zo.fit (by omega)) (okV_times ov ow)
  have px := vprs_txt (zx.fit (by omega)) (okV_times ou ow)
  have pz : vprs k (zeroF k) = some (zeroV k) := by rw [zeroF_eq hk]; exact vprs_txt ((szV_zero k (k := 1) (by omega)).fit (by omega)) (okV_zero hk)
  have p1 : vprs k (oneF k) = some (oneV k) := by rw [oneF_eq hk]; exact vprs_txt ((szV_one k (k := 1) (by omega)).fit (by omega)) (okV_one hk)
  have ea : a = vtxt u := (rdV_some ra).1
  refine ⟨vtxt (plusV k u v), vtxt (plusV k v w), vtxt (plusV k (plusV k u v) w), vtxt (timesV k u v), vtxt (timesV k v w), vtxt (timesV k (timesV k u v) w), vtxt (timesV k u (plusV k v w)), vtxt (timesV k u w), ?_⟩
  constructor
  · exact plusF_fit ha hb (zab.fit (by omega))
  · rw [plus_comm' ou]; exact plusF_fit hb ha (by rw [← plus_comm' ou]; exact zab.fit (by omega))
  · exact plusF_fit hb hc (zbc.fit (by omega))
  · exact plusF_fit pab hc (zl.fit (by omega))
  · rw [plus_assoc' ov]; exact plusF_fit ha pbc (by rw [← plus_assoc' ov]; exact zl.fit (by omega))
  · exact timesF_fit ha hb (zm.fit (by omega))
  · rw [times_comm' ou ov]; exact timesF_fit hb ha (by rw [← times_comm' ou ov]; exact zm.fit (by omega))
  · exact timesF_fit hb hc (zo.fit (by omega))
  · exact timesF_fit pm hc (zr.fit (by omega))
  · rw [times_assoc' ou ov ow]; exact timesF_fit ha po (by rw [← times_assoc' ou ov ow]; exact zr.fit (by omega))
  · exact timesF_fit ha pbc (zd.fit (by omega))
  · exact timesF_fit ha hc (zx.fit (by omega))
  · rw [times_plus' ou ov ow]; exact plusF_fit pm px (by rw [← times_plus' ou ov ow]; exact zd.fit (by omega))
  · have := plusF_fit ha pz (by rw [plus_zero' ou]; exact zu.fit (by omega))
    rw [plus_zero' ou, ← ea] at this; exact this
  · have := timesF_fit ha p1 (by rw [times_one' ou]; exact zu.fit (by omega))
    rw [times_one' ou, ← ea] at this; exact this
  · have := timesF_fit ha pz (by rw [times_zero']; exact (szV_zero k (k := 1) (by omega)).fit (by omega))
    rw [times_zero', ← zeroF_eq hk] at this; exact this

/-! ### The star -/
theorem star_law {k : Int} {v : V} (hv : okV k v) : okV k (starV k v) ∧ plusV k (oneV k) (timesV k v (starV k v)) = starV k v := by
  rcases okV_kind hv with rfl | rfl | rfl
  · have e1 : oneV 1 = .fin 0 := rfl
    rw [e1, plusV1]
    have hs : starV 1 v = if 0 ≤ cmpV v (.fin 0) then .fin 0 else .low := rfl
    rw [hs]
    split
    · rename_i h
      refine ⟨.inl rfl, ?_⟩
      have e2 : timesV 1 v (.fin 0) = v := times_one' (k := 1) hv
      rw [e2]
      have := cmpV_swap v (.fin 0)
      exact minV_le ((cmpV_le _ _).1 (by omega))
    · rename_i h
      refine ⟨rfl, ?_⟩
      have : timesV 1 v .low = .low := by
        rw [times1]
        cases v with
        | inf => simp [cmpV] at h
        | low => rfl
        | fin q => rfl
      rw [this]; exact minV_ge trivial
  · have h1 : (2 : Int) ≠ 1 := by decide
    have e1 : oneV 2 = .fin 1 := rfl
    rw [e1, plusV2]
    rcases okV23 hv h1 with rfl | ⟨x, rfl, hx⟩
    · have hs : starV 2 .inf = .inf := rfl
      rw [hs, times23 h1 (by simp) (by simp), mulV_infs]; exact ⟨okV_inf (.inr (.inl rfl)), rfl⟩
    · have hs : starV 2 (.fin x) = if 0 ≤ cmpQ x 1 then .inf else .fin (1 / (1 - x)) := rfl
      rw [hs]
      split
      · rename_i h
        refine ⟨okV_inf (.inr (.inl rfl)), ?_⟩
        have hx0 : x ≠ 0 := by intro e; subst e; exact absurd h (by decide +kernel)
        rw [times23 h1 (by simp) (by simp), mulV_inf' hx0]; rfl
      · rename_i h
        have hlt : x < 1 := by rcases cmpQ_cases x 1 with ⟨h', e⟩ | ⟨h', e⟩ | ⟨h', e⟩ <;> first | exact h' | (rw [e] at h; exact absurd h (by decide))
        have hd : 0 < 1 - x := (Rat.lt_iff_sub_pos x 1).1 hlt
        have hd0 : 1 - x ≠ 0 := Rat.ne_of_gt hd
        refine ⟨.inr ⟨.inl rfl, ?_⟩, ?_⟩
        · rw [Rat.div_def, Rat.one_mul]; exact Rat.le_of_lt (Rat.inv_pos.2 hd)
        · rw [times23 h1 (by simp) (by simp), mulV_fin]
          show V.fin (1 + x * (1 / (1 - x))) = V.fin (1 / (1 - x))
          congr 1
          rw [Rat.div_def, Rat.one_mul]
          have hi := Rat.mul_inv_cancel (1 - x) hd0
          have h2 : (1 - x) * (1 - x)⁻¹ + x * (1 - x)⁻¹ = (1 - x)⁻¹ := by
            rw [← Rat.add_mul, Rat.sub_add_cancel, Rat.one_mul]
          rw [hi] at h2; exact h2
  · have h1 : (3 : Int) ≠ 1 := by decide
    have e1 : oneV 3 = .fin 1 := rfl
    rw [e1, plusV3]
    have hs : starV 3 v = if cmpV v (.fin 1) ≤ 0 then .fin 1 else .inf := rfl
    rw [hs]
    split
    · rename_i h
      refine ⟨.inr ⟨.inr rfl, by decide⟩, ?_⟩
      have e2 : timesV 3 v (.fin 1) = v := times_one' (k := 3) hv
      rw [e2]; exact maxV_ge ((cmpV_le _ _).1 h)
    · rename_i h
      refine ⟨okV_inf (.inr (.inr rfl)), ?_⟩
      rw [times23 h1 (okV_low hv h1) (by simp)]
      rcases okV23 hv h1 with rfl | ⟨x, rfl, hx⟩
      · rw [mulV_infs]; exact maxV_le trivial
      · have hx0 : x ≠ 0 := by intro e; subst e; exact absurd h (by decide +kernel)
        rw [mulV_inf' hx0]; exact maxV_le trivial
theorem szV_star (kd : Int) {k : Nat} {v : V} (hv : szV k v) (hk : 1 ≤ k) : szV (k + 5) (starV kd v) := by
  unfold starV
  split
  · split
    · exact szQ_zero (by omega)
    · trivial
  · split
    · split
      · exact szQ_one (by omega)
      · trivial
    · cases v <;> try trivial
      simp only
      split
      · trivial
      · exact szQ.mono (szQ.div (szQ_one (k := 1) (by omega)) (szQ.sub (szQ_one (k := 1) (by omega)) hv)) (by omega)
theorem stars_hold {k : Int} {a : ByteArray} (ha : validF k a = true) (sa : a.size ≤ 100) : ∃ s t, starF k a = (s, 0) ∧ timesF k a s = (t, 0) ∧ plusF k (oneF k) t = (s, 0) := by
  obtain ⟨u, ha⟩ := valid_some ha
  obtain ⟨ra, ou⟩ := vprs_some.1 ha
  have zu := rdV_sz ra sa (by omega)
  have hk := okV_kind ou
  obtain ⟨os, hs⟩ := star_law ou
  have zs := szV_star k zu (by omega)
  have zt := szV_times k zu zs (by omega)
  have ps := vprs_txt (zs.fit (by omega)) os
  have pt := vprs_txt (zt.fit (by omega)) (okV_times ou os)
  have p1 : vprs k (oneF k) = some (oneV k) := by rw [oneF_eq hk]; exact vprs_txt ((szV_one k (k := 1) (by omega)).fit (by omega)) (okV_one hk)
  refine ⟨vtxt (starV k u), vtxt (timesV k u (starV k u)), ?_, timesF_fit ha ps (zt.fit (by omega)), ?_⟩
  · unfold starF; rw [ha]; exact limV_fit (zs.fit (by omega))
  · have := plusF_fit p1 pt (by rw [hs]; exact zs.fit (by omega))
    rw [hs] at this; exact this

/-! ### The order -/
theorem better_le {k : Int} {v w : V} : betterV k v w ≤ 0 ↔ (if k = 1 then leV v w else leV w v) := by
  unfold betterV; split <;> exact cmpV_le _ _
theorem better_swap (k : Int) (v w : V) : betterV k v w = - betterV k w v := by
  unfold betterV; split
  · rw [cmpV_swap w v]
  · rw [cmpV_swap v w]
theorem better_zero {k : Int} {v w : V} : betterV k v w = 0 ↔ v = w := by
  unfold betterV; split
  · exact cmpV_zero v w
  · rw [cmpV_zero]; exact eq_comm
theorem better_range (k : Int) (v w : V) : betterV k v w = -1 ∨ betterV k v w = 0 ∨ betterV k v w = 1 := by
  unfold betterV; split <;> exact cmpV_range _ _
theorem better_trans {k : Int} {u v w : V} (h1 : betterV k u v ≤ 0) (h2 : betterV k v w ≤ 0) : betterV k u w ≤ 0 := by
  rw [better_le] at *
  split at h1 <;> rename_i hk
  · rw [if_pos hk] at h2 ⊢; exact leV_trans h1 h2
  · rw [if_neg hk] at h2 ⊢; exact leV_trans h2 h1
theorem better_plus {k : Int} {v w : V} (hk : k ≠ 2) : plusV k v w = if betterV k v w ≤ 0 then v else w := by
  unfold plusV betterV
  rw [if_neg hk]
  split
  · by_cases h : 0 < cmpV v w
    · rw [if_pos h, if_neg (by omega)]
    · rw [if_neg h, if_pos (by omega)]
  · have := cmpV_swap v w
    by_cases h : cmpV v w < 0
    · rw [if_pos h, if_neg (by omega)]
    · rw [if_neg h, if_pos (by omega)]
theorem better_times {k : Int} {u v w : V} (hu : okV k u) (hv : okV k v) (hw : okV k w) (h : betterV k v w ≤ 0) : betterV k (timesV k v u) (timesV k w u) ≤ 0 := by
  rw [times_comm' hv hu, times_comm' hw hu]
  rw [better_le] at *
  split at h <;> rename_i hk
  · rw [if_pos hk]; exact times_mono' hu hv hw h
  · rw [if_neg hk]; exact times_mono' hu hw hv h

structure Order (k : Int) (a b c s x y : ByteArray) (p : Int) : Prop where
  pe : betterF k a b = p
  lo : -1 ≤ p
  hi : p ≤ 1
  sw : betterF k b a = -p
  eq : p = 0 ↔ a = b
  tr : p ≤ 0 → betterF k b c ≤ 0 → betterF k a c ≤ 0
  se : plusF k a b = (s, 0)
  s1 : k ≠ 2 → p ≤ 0 → s = a
  s2 : k ≠ 2 → 0 < p → s = b
  xe : timesF k a c = (x, 0)
  ye : timesF k b c = (y, 0)
  xy : p ≤ 0 → betterF k x y ≤ 0
theorem betterF_eq {k : Int} {a b : ByteArray} {v w : V} (ha : vprs k a = some v) (hb : vprs k b = some w) : betterF k a b = betterV k v w := by unfold betterF; rw [ha, hb]
theorem order_holds {k : Int} {a b c : ByteArray} (ha : validF k a = true) (hb : validF k b = true) (hc : validF k c = true) (sa : a.size ≤ 100) (sb : b.size ≤ 100) (sc : c.size ≤ 100) :
    ∃ s x y p, Order k a b c s x y p := by
  obtain ⟨u, ha⟩ := valid_some ha
  obtain ⟨v, hb⟩ := valid_some hb
  obtain ⟨w, hc⟩ := valid_some hc
  obtain ⟨ra, ou⟩ := vprs_some.1 ha
  obtain ⟨rb, ov⟩ := vprs_some.1 hb
  obtain ⟨rc, ow⟩ := vprs_some.1 hc
  have zu := rdV_sz ra sa (by omega)
  have zv := rdV_sz rb sb (by omega)
  have zw := rdV_sz rc sc (by omega)
  have zab := szV_plus k zu zv
  have zx := szV_times k zu zw (by omega)
  have zy := szV_times k zv zw (by omega)
  have px := vprs_txt (zx.fit (by omega)) (okV_times ou ow)
  have py := vprs_txt (zy.fit (by omega)) (okV_times ov ow)
  have ea : a = vtxt u := (rdV_some ra).1
  have eb : b = vtxt v := (rdV_some rb).1
  have hr := better_range k u v
  refine ⟨vtxt (plusV k u v), vtxt (timesV k u w), vtxt (timesV k v w), betterV k u v, ?_⟩
  constructor
  · exact betterF_eq ha hb
  · omega
  · omega
  · rw [betterF_eq hb ha]; exact better_swap k v u
  · rw [better_zero, ea, eb]
    exact ⟨fun h => by rw [h], fun h => vtxt_inj (rdV_some ra).2 (rdV_some rb).2 h⟩
  · rw [betterF_eq hb hc, betterF_eq ha hc]; exact better_trans
  · exact plusF_fit ha hb (zab.fit (by omega))
  · intro hk h; rw [better_plus hk, if_pos h, ← ea]
  · intro hk h; rw [better_plus hk, if_neg (by omega), ← eb]
  · exact timesF_fit ha hc (zx.fit (by omega))
  · exact timesF_fit hb hc (zy.fit (by omega))
  · intro h; rw [betterF_eq px py]; exact better_times ow ou ov h

/-! ### Division -/
theorem wtV_kind {k : Int} {v : V} (h : wtV k v) : k = 1 ∨ k = 2 ∨ k = 3 := by cases v <;> simp only [wtV] at h <;> omega
theorem wtV_fin {k : Int} {v : V} (h : wtV k v) : ∃ q, v = .fin q ∧ (k = 1 ∨ ((k = 2 ∨ k = 3) ∧ 0 < q)) := by cases v <;> first | exact h.elim | exact ⟨_, rfl, h⟩
theorem wtV_ok {k : Int} {v : V} (h : wtV k v) : okV k v := by
  obtain ⟨q, rfl, h⟩ := wtV_fin h
  rcases h with h | ⟨h, h'⟩
  · exact .inl h
  · exact .inr ⟨h, Rat.le_of_lt h'⟩
theorem over_laws {k : Int} {v w : V} (hv : v = zeroV k ∨ wtV k v) (hw : wtV k w) :
    okV k (overV k v w) ∧ timesV k w (overV k v w) = v ∧ overOk k (timesV k w v) w ∧ overV k (timesV k w v) w = v := by
  have hk := wtV_kind hw
  by_cases hz : v = zeroV k
  · have e1 : overV k v w = v := by unfold overV; rw [if_pos hz]
    have e2 : timesV k w v = v := by rw [hz]; exact times_zero' k w
    rw [e1, e2]
    exact ⟨by rw [hz]; exact okV_zero hk, rfl, ⟨.inl hz, hw⟩, e1⟩
  · have hv := hv.resolve_left hz
    obtain ⟨x, rfl, hx⟩ := wtV_fin hv
    obtain ⟨y, rfl, hy⟩ := wtV_fin hw
    by_cases h1 : k = 1
    · subst h1
      have e1 : overV 1 (.fin x) (.fin y) = .fin (x - y) := by unfold overV; rw [if_neg hz]; rfl
      have e2 : timesV 1 (.fin y) (.fin x) = .fin (y + x) := by rw [times1]
      have e3 : timesV 1 (.fin y) (.fin (x - y)) = .fin (y + (x - y)) := by rw [times1]
      have e4 : overV 1 (.fin (y + x)) (.fin y) = .fin (y + x - y) := by unfold overV; rw [if_neg (by simp [zeroV])]; rfl
      rw [e1, e2, e3, e4]
      refine ⟨.inl rfl, ?_, ⟨.inr (.inl rfl), hw⟩, ?_⟩
      · rw [Rat.add_comm, Rat.sub_add_cancel]
      · rw [Rat.add_comm, Rat.add_sub_cancel]
    · have hx := (hx.resolve_left h1).2
      have hy := (hy.resolve_left h1).2
      have hy0 : y ≠ 0 := Rat.ne_of_gt hy
      have hx0 : x ≠ 0 := Rat.ne_of_gt hx
      have e1 : overV k (.fin x) (.fin y) = .fin (x / y) := by unfold overV; rw [if_neg hz]; simp [h1]
      have e2 : timesV k (.fin y) (.fin x) = .fin (y * x) := by rw [times23 h1 (by simp) (by simp), mulV_fin]
      have e3 : timesV k (.fin y) (.fin (x / y)) = .fin (y * (x / y)) := by rw [times23 h1 (by simp) (by simp), mulV_fin]
      have hyx : y * x ≠ 0 := by intro e; rcases Rat.mul_eq_zero.1 e with e | e <;> contradiction
      have e4 : overV k (.fin (y * x)) (.fin y) = .fin (y * x / y) := by
        unfold overV; rw [if_neg (by simp [zeroV, h1, hyx])]; simp [h1]
      rw [e1, e2, e3, e4]
      refine ⟨.inr ⟨hk.resolve_left h1, ?_⟩, ?_, ⟨.inr (.inr ⟨hk.resolve_left h1, Rat.mul_pos hy hx⟩), hw⟩, ?_⟩
      · rw [Rat.div_def]; exact Rat.mul_nonneg (Rat.le_of_lt hx) (Rat.le_of_lt (Rat.inv_pos.2 hy))
      · rw [Rat.mul_comm, Rat.div_mul_cancel hy0]
      · rw [Rat.mul_comm, Rat.mul_div_cancel hy0]
theorem szV_over (kd : Int) {j k : Nat} {v w : V} (hv : szV j v) (hw : szV k w) : szV (j + k + 1) (overV kd v w) := by
  unfold overV
  split
  · exact hv.mono (by omega)
  · cases v <;> cases w <;> try trivial
    simp only
    split
    · exact szQ.sub hv hw
    · exact szQ.div hv hw
theorem weight_some {k : Int} {a : ByteArray} (h : weightF k a = true) : ∃ v, rdV a = some v ∧ wtV k v := by
  unfold weightF at h
  cases hr : rdV a with
  | none => rw [hr] at h; simp at h
  | some v => rw [hr] at h; exact ⟨v, rfl, of_decide_eq_true h⟩
theorem zeroF_rd {k : Int} (hk : k = 1 ∨ k = 2 ∨ k = 3) : rdV (zeroF k) = some (zeroV k) := by
  rw [zeroF_eq hk]; exact rdV_txt ((szV_zero k (k := 1) (by omega)).fit (by omega))
theorem divides_hold {k : Int} {a b : ByteArray} (hb : weightF k b = true) (ha : a = zeroF k ∨ weightF k a = true) (sa : a.size ≤ 100) (sb : b.size ≤ 100) :
    ∃ c m, overF k a b = (c, 0) ∧ timesF k b c = (a, 0) ∧ timesF k b a = (m, 0) ∧ overF k m b = (a, 0) := by
  obtain ⟨w, rb, hw⟩ := weight_some hb
  have hk := wtV_kind hw
  obtain ⟨v, ra, hv⟩ : ∃ v, rdV a = some v ∧ (v = zeroV k ∨ wtV k v) := by
    rcases ha with rfl | ha
    · exact ⟨_, zeroF_rd hk, .inl rfl⟩
    · obtain ⟨v, h1, h2⟩ := weight_some ha; exact ⟨v, h1, .inr h2⟩
  have zv := rdV_sz ra sa (by omega)
  have zw := rdV_sz rb sb (by omega)
  have ov : okV k v := by rcases hv with rfl | hv; exact okV_zero hk; exact wtV_ok hv
  have pa : vprs k a = some v := vprs_some.2 ⟨ra, ov⟩
  have pb : vprs k b = some w := vprs_some.2 ⟨rb, wtV_ok hw⟩
  have ea : a = vtxt v := (rdV_some ra).1
  obtain ⟨l1, l2, l3, l4⟩ := over_laws hv hw
  have zc := szV_over k zv zw
  have zm := szV_times k zw zv (by omega)
  have pc := vprs_txt (zc.fit (by omega)) l1
  have rm := rdV_txt (zm.fit (by omega))
  refine ⟨vtxt (overV k v w), vtxt (timesV k w v), ?_, ?_, timesF_fit pb pa (zm.fit (by omega)), ?_⟩
  · unfold overF; rw [ra, rb]; simp only; rw [if_pos ⟨hv, hw⟩]; exact limV_fit (zc.fit (by omega))
  · have := timesF_fit pb pc (by rw [l2]; exact zv.fit (by omega))
    rw [l2, ← ea] at this; exact this
  · unfold overF; rw [rm, rb]; simp only; rw [if_pos l3, l4, ea]; exact limV_fit (zv.fit (by omega))
end Go.Proofs.YtlcbdaconghcmaaGreatDoor
