/- Parts of a proof: LE0 AppS. -/
import Derived.Test.YtjekapjbigfkbaaGreatDoorR35
import Derived.Deep.Upon
namespace Go.Proofs.YtjekapjbigfkbaaGreatDoor
open Go Go.RowKit Go.Deep
set_option maxRecDepth 100000
set_option linter.unusedSimpArgs false
def cosR (M : EM) (na : Nat) (x : Nat → Int) (nb : Nat) (y : Nat → Int) (W : ByteArray) (E : Int) : Prop := (VE M ∧ isWord na x = true ∧ isWord nb y = true ∧ W = (costC ⟨M, na, x, nb, y⟩).1 ∧ E = ((costC ⟨M, na, x, nb, y⟩).2 : Int)) ∨ (¬ (VE M ∧ isWord na x = true ∧ isWord nb y = true) ∧ W = ⟨#[]⟩ ∧ E = 1)
theorem CosE.val {M : EM} {na nb : Nat} {x y : Nat → Int} {w w' : World} {rr : Ending} (h : CosE M na x nb y w rr w') : ∃ W E, rr = .returned (.tuple #[.string W, .int .i64 E]) ∧ cosR M na x nb y W E ∧ Below w.heap.size w w' := by
  obtain ⟨hb, ⟨h1, h2, h3, h4⟩ | ⟨h1, h2⟩⟩ := h
  · exact ⟨_, _, h4, .inl ⟨h1, h2, h3, rfl, rfl⟩, hb⟩
  · exact ⟨_, _, h2, .inr ⟨h1, rfl, rfl⟩, hb⟩
theorem cosR.eq {M : EM} {na nb : Nat} {x y : Nat → Int} {W W' : ByteArray} {E E' : Int} (h : cosR M na x nb y W E) (h' : cosR M na x nb y W' E') : W = W' ∧ E = E' := by
  rcases h with ⟨a1, a2, a3, a4, a5⟩ | ⟨a1, a2, a3⟩ <;> rcases h' with ⟨b1, b2, b3, b4, b5⟩ | ⟨b1, b2, b3⟩
  · exact ⟨a4.trans b4.symm, a5.trans b5.symm⟩
  · exact absurd ⟨a1, a2, a3⟩ b1
  · exact absurd ⟨b1, b2, b3⟩ a1
  · exact ⟨a2.trans b2.symm, a3.trans b3.symm⟩
theorem cosR.ok {M : EM} {na nb : Nat} {x y : Nat → Int} {W : ByteArray} {E : Int} (h : cosR M na x nb y W E) (h0 : E = 0) : VE M ∧ isWord na x = true ∧ isWord nb y = true ∧ ∃ o, IsCost ⟨M, na, x, nb, y⟩ o ∧ fitO o ∧ W = costT o := by
  rcases h with ⟨a1, a2, a3, a4, a5⟩ | ⟨_, _, a3⟩
  · rcases costC_spec (P := ⟨M, na, x, nb, y⟩) a1.m0 a1.ok with ⟨o, h1, h2, h3⟩ | ⟨_, h3⟩
    · rw [h3] at a4; exact ⟨a1, a2, a3, o, h1, h2, a4⟩
    · rw [h3] at a5; subst a5; cases h0
  · subst a3; cases h0
theorem cosR.val {M : EM} {na nb : Nat} {x y : Nat → Int} {W : ByteArray} {E : Int} (h : cosR M na x nb y W E) (hv : VE M) (hx : isWord na x = true) (hy : isWord nb y = true) : E = 0 ∨ (E = 2 ∧ TooL ⟨M, na, x, nb, y⟩) := by
  rcases h with ⟨a1, a2, a3, a4, a5⟩ | ⟨h, _⟩
  · rcases costC_spec (P := ⟨M, na, x, nb, y⟩) a1.m0 a1.ok with ⟨o, h1, h2, h3⟩ | ⟨h1, h3⟩
    · rw [h3] at a5; exact .inl a5
    · rw [h3] at a5; exact .inr ⟨a5, h1⟩
  · exact absurd ⟨hv, hx, hy⟩ h
end Go.Proofs.YtjekapjbigfkbaaGreatDoor

namespace Go.Proofs.YtjekapjbigfkbaaGreatDoor
open Go Go.RowKit Go.Deep
set_option maxRecDepth 100000
set_option linter.unusedSimpArgs false
theorem wpList_append_any {P : Program} (w : World) {ops : Array Oper} {rest : List Oper} {o : Oper} {a : Act} {Q : Exit → Act → World → Prop} (hgd : o.guard = none) (s x : Operand) (t : TypeId)
    (ho : o.op = .call { callee := .builtin .append, args := #[s, x], argTypes := #[t, t] })
    (base : Nat) (e : TypeId) (i : TypeInfo) (z : Value) (size bytes : Nat) (ht : P.underlying t = some (.slice e)) (hi : P.info? e = some i) (hz : i.zero = some z)
    (hsize : i.size = size) (hby : i.bytes = bytes) (hzs : z.cells.size = size) (hsz : 0 < size)
    (sa : Option Addr) (n sc : Nat) (xs : List Value) (hs : a.eval s = .slice sa n sc) (hown : w.ownsRow base e size (.slice sa n sc) n xs)
    (xa : Option Addr) (m c : Nat) (news : List Value) (hx : a.eval x = .slice xa m c) (hl : news.length = m * size) (hnews : 0 < m → ∃ ad, xa = some ad ∧ ∀ j u, news[j]? = some u → w.cell? (ad.add j) = some u) (h1 : ∀ u ∈ news, u.oneCell' = true)
    (h63 : n + m ≤ maxLen) (hbytes : (n + m) * bytes ≤ 140737488355328) (hbase : base ≤ w.heap.size)
    (h : ∀ g cap w', w'.ownsRow base e size (.slice g (n + m) cap) (n + m) (xs ++ news) → w.grownBy w' (Value.slice sa n sc).ownBlock → wpList P ops Q rest (a.put o.dst (.slice g (n + m) cap)) w') : wpList P ops Q (o :: rest) a w := by
  by_cases hm : 0 < m
  · obtain ⟨ad, rfl, hn⟩ := hnews hm
    exact wpList_append_lies w hgd s x t ho base e i z size bytes ht hi hz hsize hby hzs hsz _ n xs hs hown ad m c news hx hl hn h1 hm h63 hbytes hbase _ rfl fun g cap w' a1 a2 _ _ => h _ cap w' a1 a2
  · obtain rfl : m = 0 := by omega
    obtain rfl : news = [] := List.eq_nil_of_length_eq_zero (by rw [hl, Nat.zero_mul])
    refine wpList_plain hgd fun K hK => ?_
    have hsc : n ≤ sc := by
      obtain ⟨a', c', hv, h2, _⟩ := row_any hown
      cases hv; exact h2
    have hsrc : Src P i.size t (.slice xa 0 c) 0 [] w := by
      cases xa with
      | none => exact Src.ofNil w ht c
      | some ad => exact Src.ofSlice w ht ad 0 c [] (by simp) (by simp) (by simp)
    have hr := run_append_nothing (P := P) w t t o.type e i ht hi sa n sc hsc _ hsrc
    unfold Oper.wp execOp
    simp only [ho, resolve, invoke, builtin, Sem.run_bind, Sem.run_pure, Result.andThen_ok, List.map_toArray, List.map_cons, List.map_nil, hs, hx, hr]
    exact hK _ _ (h sa sc w (by simpa using hown) (World.grownBy.refl _ _))
def ivs (n : Nat) (y : Nat → Int) : List Value := (List.range n).map fun i => Value.int .i64 (y i)
theorem ivs_len (n : Nat) (y : Nat → Int) : (ivs n y).length = n := by simp [ivs]
theorem ivs_get {n : Nat} {y : Nat → Int} {i : Nat} (h : i < n) : (ivs n y)[i]? = some (.int .i64 (y i)) := by simp [ivs, h]
theorem ivs_one (n : Nat) (y : Nat → Int) : ∀ u ∈ ivs n y, u.oneCell' = true := by
  intro u hu
  obtain ⟨i, _, rfl⟩ := List.mem_map.1 hu
  rfl
theorem ivs_app (n m : Nat) (y x : Nat → Int) : ivs n y ++ ivs m x = ivs (n + m) (fun j => if j < n then y j else x (j - n)) := by
  unfold ivs
  rw [List.range_add, List.map_append, List.map_map]
  congr 1
  · exact List.map_congr_left fun j hj => by show Value.int .i64 (y j) = Value.int .i64 (if j < n then y j else x (j - n)); rw [if_pos (List.mem_range.1 hj)]
  · exact List.map_congr_left fun j hj => by show _ = Value.int .i64 (if n + j < n then y (n + j) else x (n + j - n)); rw [if_neg (by omega), Nat.add_sub_cancel_left]
theorem ivs_si {w : World} {B n : Nat} {v : Value} {y : Nat → Int} (h : w.ownsRow B 3 1 v n (ivs n y)) : Si none w v n y := by
  rcases h.2 with ⟨hv, h0⟩ | ⟨g, cap, cur, hv, hB, hg, h1, h2, h3, h4⟩
  · exact .inl ⟨h0, none, 0, by rw [hv], Nat.zero_le _⟩
  · refine .inr ⟨g, 0, cap, hv, ⟨lt_of_block hg, by simp⟩, h1, h2, fun i hi => ?_⟩
    rw [hv] at h
    rw [Nat.zero_add]
    exact row_cell h (ivs_get hi)
theorem si_news {w : World} {xa : Option Addr} {m c : Nat} {x : Nat → Int} (h : Si none w (.slice xa m c) m x) : 0 < m → ∃ ad, xa = some ad ∧ ∀ j u, (ivs m x)[j]? = some u → w.cell? (ad.add j) = some u := by
  intro hm
  obtain ⟨a, cap, b, off, hv, ha, _, _, _, hcell⟩ := h.open
  cases hv
  refine ⟨_, ha hm, fun j u hu => ?_⟩
  have hj : j < m := by
    have := (List.getElem?_eq_some_iff.1 hu).1
    rwa [ivs_len] at this
  rw [ivs_get hj] at hu
  cases hu
  rw [Addr.add_lit]
  exact hcell j hj
theorem info_int1 : (Tryz.prog.info? 3).map (fun i => (i.zero, i.size, i.bytes)) = some (some (.int .i64 0), 1, 8) := by kernel_rfl
set_option maxHeartbeats 4000000 in
theorem lbegins_any {n m : Nat} {v v' : Value} {x u : Nat → Int} (w : World) (hx : Si none w v n x) (hu : Si none w v' m u) (hn : (n : Int) ≤ 9223372036854775807) (hm' : (m : Int) ≤ 9223372036854775807) :
    Calls Tryz.prog 33 #[v, v'] w (fun r w' => r = .returned (.bool (bgB n m x u)) ∧ Below w.heap.size w w') := by
  obtain ⟨aa, cap, b, off, rfl, hA, hc, hm, hb, hcell⟩ := hx.open
  obtain ⟨aa', cap', b', off', rfl, hA', hc', hm'', hb', hcell'⟩ := hu.open
  clear hx hu hc hm hc' hm''
  have HA := Lib.hid hA; clear hA
  have HA' := Lib.hid hA'; clear hA'
  have HB := Lib.hid hb; clear hb
  have HB' := Lib.hid hb'; clear hb'
  have HX := Lib.hid hcell; clear hcell
  have HU := Lib.hid hcell'; clear hcell'
  by_cases hl : (n : Int) < (m : Int)
  · have hno : bgB n m x u = false := by unfold bgB; rw [show decide (m ≤ n) = false by simp; omega]; rfl
    rw [hno]
    clear hno
    go_enter Tryz.func33, Tryz.ntmps33
    go_wp2_with fail
    go_ret
    exact ⟨rfl, Below.refl _ _⟩
  · have hl' : decide ((n : Int) < (m : Int)) = false := by simp; omega
    have hbg : bgB n m x u = (List.range m).all (fun k => x k == u k) := by unfold bgB; rw [show decide (m ≤ n) = true by simp; omega]; rfl
    rw [hbg]
    clear hbg
    obtain ⟨z, hz⟩ : ∃ z, z = (List.range m).all (fun k => x k == u k) := ⟨_, rfl⟩
    rw [← hz]
    have HZ := Lib.hid hz; clear hz
    go_enter Tryz.func33, Tryz.ntmps33
    go_wp2_with fail
    go_loopw [5] (fun v5 wr => ∃ q : Nat, q ≤ m ∧ v5 = .int .i64 (q : Int) ∧ (∀ j, j < q → x j = u j) ∧ Below w.heap.size w wr) (fun v5 _ => m - (intOf v5).toNat)
    case atStart => exact ⟨0, Nat.zero_le _, rfl, fun j hj => absurd hj (Nat.not_lt_zero _), Below.refl _ _⟩
    case round =>
      obtain ⟨q, hq, rfl, hok, hbe⟩ := hrel
      have HOK := Lib.hid hok; clear hok
      have HBE := Lib.hid hbe; clear hbe
      by_cases hqt : q < m
      · have hqz : (q : Int) < (m : Int) := by omega
        have hqn : (q : Int) < (n : Int) := by omega
        have hqz0 : (0 : Int) ≤ (q : Int) := by omega
        obtain rfl := HA.out (by omega)
        obtain rfl := HA'.out (by omega)
        have c0 := (HBE.out.cell (p := ⟨b, off + q, none⟩) (HB.out (by omega)).1).trans (HX.out q (by omega))
        have c1 := (HBE.out.cell (p := ⟨b', off' + q, none⟩) (HB'.out (by omega)).1).trans (HU.out q hqt)
        obtain ⟨xq, hxq⟩ : ∃ xq, xq = x q := ⟨_, rfl⟩
        obtain ⟨uq, huq⟩ : ∃ uq, uq = u q := ⟨_, rfl⟩
        rw [← hxq] at c0
        rw [← huq] at c1
        have HXQ := Lib.hid hxq; clear hxq
        have HUQ := Lib.hid huq; clear huq
        cases hne : (xq == uq)
        · have hzf : z = false := by
            rw [HZ.out]
            cases hall : (List.range m).all (fun k => x k == u k)
            · rfl
            · have := List.all_eq_true.1 hall q (List.mem_range.2 hqt)
              rw [← HXQ.out, ← HUQ.out, hne] at this; cases this
          have HZF := Lib.hid hzf; clear hzf
          go_wp2_with fail
          go_quiet (fail)
          go_wp2_with fail
          go_ret
          exact ⟨ret_bool HZF.out.symm, below_drewN HBE.out _⟩
        · have HE := Lib.hid (eq_of_beq hne)
          go_wp2_with fail
          go_quiet (fail)
          go_wp2_with fail
          go_roundw
          case rel =>
            refine ⟨q + 1, by omega, by go_num, fun j hj => ?_, below_drewN HBE.out _⟩
            by_cases e : j = q
            · rw [e, ← HXQ.out, ← HUQ.out]; exact HE.out
            · exact HOK.out j (by omega)
          case measure => simp [intOf]; omega
      · obtain rfl : q = m := by omega
        have hgt : ¬ ((q : Int) < (q : Int)) := by omega
        have hzt : z = true := by
          rw [HZ.out]
          exact List.all_eq_true.2 fun j hj => by rw [HOK.out j (List.mem_range.1 hj)]; simp
        have HZT := Lib.hid hzt; clear hzt
        go_wp2_with fail
        go_ret
        exact ⟨ret_bool HZT.out.symm, HBE.out⟩
end Go.Proofs.YtjekapjbigfkbaaGreatDoor
