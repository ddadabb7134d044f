/- Parts of a proof: LEmA. -/
import Derived.Test.YtjekapjbigfkbaaGreatDoorS36
import Derived.Test.YtjekapjbigfkbaaGreatDoorS34
namespace Go.Proofs.YtjekapjbigfkbaaGreatDoor
open Go Go.RowKit Go.Deep
set_option maxRecDepth 100000
set_option linter.unusedSimpArgs false
theorem AnyK.three {P : Program} {ops : Array Oper} {Q : Exit → Act → World → Prop} {S : World → Prop} {s i j k : Nat} {fuel : Nat} {listed : Array Bool} {a : Act} {w : World} (hr : Region.ready .any ops listed = [i, j, k])
    (h1 : wpOp P ops Q i (fun a' w' => (i = s ∨ S w') ∧ AnyK P ops Q S s fuel (listed.setIfInBounds i true) a' w') a w)
    (h2 : wpOp P ops Q j (fun a' w' => (j = s ∨ S w') ∧ AnyK P ops Q S s fuel (listed.setIfInBounds j true) a' w') a w)
    (h3 : wpOp P ops Q k (fun a' w' => (k = s ∨ S w') ∧ AnyK P ops Q S s fuel (listed.setIfInBounds k true) a' w') a w) : AnyK P ops Q S s (fuel + 1) listed a w := by
  refine ⟨fun h0 => (by rw [hr] at h0; cases h0), fun l hl => ?_⟩
  rw [hr] at hl
  rcases List.mem_cons.1 hl with rfl | hl
  · exact h1
  · rcases List.mem_cons.1 hl with rfl | hl
    · exact h2
    · obtain rfl : l = k := by simpa using hl
      exact h3
theorem wp_append_0 {P : Program} (w : World) {o : Oper} {a : Act} {K : Act → World → Prop} {Q : Exit → Act → World → Prop} (s x : Operand) (t : TypeId)
    (ho : o.op = .call { callee := .builtin .append, args := #[s, x], argTypes := #[t, t] })
    (base : Nat) (e : TypeId) (i : TypeInfo) (z : Value) (size bytes : Nat) (ht : P.underlying t = some (.slice e)) (hi : P.info? e = some i) (hz : i.zero = some z)
    (hsize : i.size = size) (hby : i.bytes = bytes) (hzs : z.cells.size = size) (hsz : 0 < size)
    (sa : Option Addr) (sc : Nat) (hs : a.eval s = .slice sa 0 sc) (hown : w.ownsRow base e size (.slice sa 0 sc) 0 [])
    (xa : Option Addr) (m c : Nat) (news : List Value) (hx : a.eval x = .slice xa m c) (hl : news.length = m * size) (hnews : 0 < m → ∃ ad, xa = some ad ∧ ∀ j u, news[j]? = some u → w.cell? (ad.add j) = some u) (h1 : ∀ u ∈ news, u.oneCell' = true)
    (h63 : m ≤ maxLen) (hbytes : m * bytes ≤ 140737488355328) (hbase : base ≤ w.heap.size)
    (h : ∀ g cap w', w'.ownsRow base e size (.slice g m cap) m news → w.grownBy w' (Value.slice sa 0 sc).ownBlock → (∀ b, (Value.slice g m cap).ownBlock = some b → (Value.slice sa 0 sc).ownBlock = some b ∨ b = w.heap.size) → K (a.put o.dst (.slice g m cap)) w') : o.wp P a w K Q := by
  by_cases hm : 0 < m
  · obtain ⟨ad, rfl, hn⟩ := hnews hm
    refine wp_append_lies w s x t ho base e i z size bytes ht hi hz hsize hby hzs hsz _ 0 [] hs hown ad m c news hx hl hn h1 hm (by omega) (by rw [Nat.zero_add]; exact hbytes) hbase _ rfl fun g cap w' a1 a2 a3 _ => ?_
    rw [Nat.zero_add] at a1 ⊢
    exact h _ cap w' (by simpa using a1) a2 (fun b hb => by
      have e : g = b := by simpa [Value.ownBlock] using hb
      subst e
      exact a3)
  · obtain rfl : m = 0 := by omega
    obtain rfl : news = [] := List.eq_nil_of_length_eq_zero (by rw [hl, Nat.zero_mul])
    have hsrc : Src P i.size t (.slice xa 0 c) 0 [] w := by
      cases xa with
      | none => exact Src.ofNil w ht c
      | some ad => exact Src.ofSlice w ht ad 0 c [] (by simp) (by simp) (by simp)
    have hr := run_append_nothing (P := P) w t t o.type e i ht hi sa 0 sc (Nat.zero_le _) _ hsrc
    unfold Oper.wp execOp
    simp only [ho, resolve, invoke, builtin, Sem.run_bind, Sem.run_pure, Result.andThen_ok, List.map_toArray, List.map_cons, List.map_nil, hs, hx, hr]
    exact h sa sc w hown (World.grownBy.refl _ _) (fun b hb => .inl hb)
def seqR : Nat → Code → Code
  | n + 1, .seq _ b => seqR n b
  | _, c => c
def plugR : Nat → Code → Code → Code
  | 0, _, x => x
  | n + 1, .seq a b, x => .seq a (plugR n b x)
  | _, c, _ => c
def regM (n : Nat) : Code → Option Code
  | .region m o d => if m == n then some (.region m o d) else none
  | .seq a b => (regM n a).or (regM n b)
  | .cond _ a b => (regM n a).or (regM n b)
  | .block _ c => regM n c
  | .loop c => regM n c
  | .scope c => regM n c
  | _ => none
noncomputable def mBody : Code := ((Tryz.f10).body).getD .skip
noncomputable def mReg : Code := (regM 16 mBody).getD .skip
set_option maxRecDepth 1000000 in
theorem plug7 : plugR 7 mBody (seqR 7 mBody) = mBody := by kernel_rfl
set_option maxRecDepth 1000000 in
theorem plug2 : plugR 2 (seqR 7 mBody) (seqR 9 mBody) = seqR 7 mBody := by kernel_rfl
def moM (M : EM) (p : Int) : EM := ⟨M.n, M.e, p⟩
theorem costT_sz {o : Option Rat} (h : fitO o) : (costT o).size ≤ 9223372036854775807 := by
  cases o with
  | none => decide
  | some q => have := txt_size (q := q) h; show (txt q).size ≤ _; omega
theorem cosR.size {M : EM} {na nb : Nat} {x y : Nat → Int} {W : ByteArray} {E : Int} (h : cosR M na x nb y W E) (h0 : E = 0) : W.size ≤ 9223372036854775807 := by
  obtain ⟨_, _, _, o, _, hf, rfl⟩ := h.ok h0
  exact costT_sz hf
theorem sub_better {M M' : EM} {na nb : Nat} {x y : Nat → Int} {W W' : ByteArray} {E E' : Int} (h : cosR M na x nb y W E) (h' : cosR M' na x nb y W' E') (h0 : E = 0) (h0' : E' = 0) (hs : Sub ⟨M, na, x, nb, y⟩ ⟨M', na, x, nb, y⟩) : 0 ≤ betterF 1 W W' := by
  obtain ⟨_, _, _, o, ho, hf, rfl⟩ := h.ok h0
  obtain ⟨_, _, _, o', ho', hf', rfl⟩ := h'.ok h0'
  rw [better_cost hf hf']
  cases o with
  | none =>
    cases o' with
    | none => exact Int.le_refl 0
    | some q => show (0 : Int) ≤ 1; omega
  | some u =>
    obtain ⟨u', rfl, hu⟩ := IsCost.sub hs ho ho'
    show 0 ≤ cmpQ u u'
    rcases cmpQ_cases u u' with ⟨h1, _⟩ | ⟨_, h1⟩ | ⟨_, h1⟩
    · exact absurd hu (Rat.not_le.2 h1)
    · rw [h1]; omega
    · rw [h1]; omega
theorem moM_cost {M : EM} {na nb : Nat} {x y : Nat → Int} {W : ByteArray} {E : Int} (h : cosR (moM M 0) na x nb y W E) (hV : VE M) (hx : isWord na x = true) (hy : isWord nb y = true) : E = 0 ∧ W = if eqB na nb x y = true then ⟨#[48]⟩ else ⟨#[105, 110, 102]⟩ := by
  have hV0 : VE (moM M 0) := ⟨hV.n4, Int.le_refl 0, by show (0 : Int) ≤ 6; omega, hV.ok⟩
  rcases h.val hV0 hx hy with h0 | ⟨_, h2⟩
  · obtain ⟨_, _, _, o, ho, _, rfl⟩ := h.ok h0
    refine ⟨h0, ?_⟩
    rcases ho.none_most rfl with ⟨rfl, h3⟩ | ⟨rfl, h3⟩
    · rw [if_pos (eqB_iff.2 h3)]; exact txt_zero
    · rw [if_neg (fun e => h3 (eqB_iff.1 e))]; rfl
  · exact absurd h2 (none_fits rfl)
theorem self_cost {M : EM} {na : Nat} {x : Nat → Int} {W : ByteArray} {E : Int} (h : cosR M na x na x W E) (h0 : E = 0) : W = ⟨#[48]⟩ := by
  obtain ⟨hV, _, _, o, ho, _, rfl⟩ := h.ok h0
  obtain rfl := IsCost.self (P := ⟨M, na, x, na, x⟩) hV.ok rfl (fun _ _ => rfl) ho
  exact txt_zero
theorem ed3_one {M : EM} {F T : Nat → Value} {n : Nat} (hF : ∀ i, (F i).oneCell' = true) (hT : ∀ i, (T i).oneCell' = true) : ∀ u ∈ cat (ed3 M F T) n, u.oneCell' = true := by
  induction n with
  | zero => intro u hu; cases hu
  | succ n ih =>
    intro u hu
    rw [cat_succ] at hu
    rcases List.mem_append.1 hu with hu | hu
    · exact ih u hu
    · simp [ed3] at hu
      rcases hu with rfl | rfl | rfl
      · exact hF n
      · exact hT n
      · rfl
theorem eds_news {w : World} {a : Option Addr} {b off : Nat} {M : EM} {F T : Nat → Value} (ha : 0 < M.n → a = some ⟨b, off, none⟩) (hc : ∀ i, i < M.n → w.cell? ⟨b, off + i * 3, none⟩ = some (F i) ∧ w.cell? ⟨b, off + i * 3 + 1, none⟩ = some (T i) ∧ w.cell? ⟨b, off + i * 3 + 2, none⟩ = some (.string (M.e i).w)) :
    0 < M.n → ∃ ad, a = some ad ∧ ∀ j u, (cat (ed3 M F T) M.n)[j]? = some u → w.cell? (ad.add j) = some u := by
  intro hn
  refine ⟨_, ha hn, fun j u hu => ?_⟩
  have hlen : (cat (ed3 M F T) M.n).length = M.n * 3 := cat_len (ed3_len M F T) M.n
  have hj : j < M.n * 3 := by
    have := (List.getElem?_eq_some_iff.1 hu).1
    omega
  obtain ⟨i, r, rfl, hr⟩ : ∃ i r, j = i * 3 + r ∧ r < 3 := ⟨j / 3, j % 3, by omega, by omega⟩
  have hi : i < M.n := by omega
  rw [cat_get (ed3_len M F T) hr hi] at hu
  rw [Addr.add_lit]
  obtain ⟨c0, c1, c2⟩ := hc i hi
  rcases (show r = 0 ∨ r = 1 ∨ r = 2 by omega) with rfl | rfl | rfl
  · cases hu; exact c0
  · cases hu; rw [← Nat.add_assoc]; exact c1
  · cases hu; rw [← Nat.add_assoc]; exact c2
theorem apE_cat {M : EM} {d : ED} {F T : Nat → Value} {Fd Td : Value} : cat (ed3 (apE M d) (fun i => if i = M.n then Fd else F i) (fun i => if i = M.n then Td else T i)) (M.n + 1) = cat (ed3 M F T) M.n ++ [Fd, Td, .string d.w] := by
  rw [cat_succ]
  congr 1
  · refine cat_congr fun i hi => ?_
    unfold ed3 apE; simp [show i ≠ M.n by omega]
  · unfold ed3 apE; simp
theorem wide_eds {w : World} {B : Nat} {v : Value} {M : EM} {d : ED} {F T : Nat → Value} {Fd Td : Value} (h : w.ownsRow B 50 3 v (M.n + 1) (cat (ed3 M F T) M.n ++ [Fd, Td, .string d.w]))
    (hf : ∀ i, i < M.n → Si none w (F i) (M.e i).nf (M.e i).f ∧ Si none w (T i) (M.e i).nt (M.e i).t) (hF : Si none w Fd d.nf d.f) (hT : Si none w Td d.nt d.t) : EdS none w v (apE M d) := by
  rw [← apE_cat] at h
  refine row_eds (M := apE M d) h (fun i hi => ?_) (fun i hi => ?_)
  · show Si none w (if i = M.n then Fd else F i) (if i = M.n then d else M.e i).nf (if i = M.n then d else M.e i).f
    by_cases e : i = M.n
    · rw [if_pos e, if_pos e]; exact hF
    · rw [if_neg e, if_neg e]; exact (hf i (by have : i < M.n + 1 := hi; omega)).1
  · show Si none w (if i = M.n then Td else T i) (if i = M.n then d else M.e i).nt (if i = M.n then d else M.e i).t
    by_cases e : i = M.n
    · rw [if_pos e, if_pos e]; exact hT
    · rw [if_neg e, if_neg e]; exact (hf i (by have : i < M.n + 1 := hi; omega)).2
set_option maxRecDepth 1000000 in
set_option maxHeartbeats 32000000 in
theorem mreg {M : EM} {mo : Int} {a : Option Addr} {cap : Nat} {F T : Nat → Value} {fa ta : Option Addr} {fl fc tl tc : Nat} {s : ByteArray} {wr : World} {mb fb : Nat} {Q0 : Exit → Act → World → Prop} {u0 u1 u2 u3 u6 u7 u8 u9 u10 u11 u12 u13 u14 u15 u16 u17 u18 u19 u20 u21 u22 u23 u24 u25 u26 u27 u28 u29 u30 u31 u32 u33 u34 u35 u36 u37 u38 u39 u40 u41 u42 u43 u44 u45 u46 u47 u48 u49 u50 u51 u52 u53 u54 u55 u56 u57 u58 u59 u60 u61 u62 u63 u64 u65 u66 u67 u68 u69 u70 u71 u72 u73 u74 u75 u76 u77 u78 u79 u80 u81 u82 u83 u84 u85 u86 u87 u88 u89 u90 u91 u92 u93 u94 u95 u96 u97 u98 u99 u100 u101 u102 u103 u104 u105 u106 u107 u108 u109 u110 u111 u112 u113 u114 u115 u116 u117 u118 u119 u120 u121 u122 u123 u124 u125 u126 u127 u128 u129 u130 u131 u132 u133 u134 u135 u136 u137 u138 u139 u140 u141 u142 u143 u144 u145 u146 u147 u148 u149 u150 u151 u152 u153 u154 u155 u156 : Value}
    (hn : M.n ≤ 60) (HNEW : Hid (∀ W, Below wr.heap.size wr W → 0 < M.n → ∃ ad, a = some ad ∧ ∀ j u, (cat (ed3 M F T) M.n)[j]? = some u → W.cell? (ad.add j) = some u)) (HONE : Hid (∀ u ∈ cat (ed3 M F T) M.n, u.oneCell' = true))
    (HKS : Hid (∀ W, Below wr.heap.size wr W → (fun wk : World => wk.cell? ⟨mb, 0, none⟩ = some (.slice a M.n cap) ∧ wk.cell? ⟨mb, 1, none⟩ = some (.int .i64 mo) ∧ wk.cell? ⟨fb, 0, none⟩ = some (.slice fa fl fc) ∧ wk.cell? ⟨fb, 1, none⟩ = some (.slice ta tl tc) ∧ wk.cell? ⟨fb, 2, none⟩ = some (.string s)) W))
    (HPAN : Hid (∀ (e : List PanicEntry) (a : Act) (d : Option Tmp) (v : Value) (w' : World), Q0 (.panic e) (a.put d v) w' → Q0 (.panic e) a w'))
    (HEND : Hid (∀ (v125 v126 v127 v128 v129 v130 v131 v132 v133 v134 : Value) (W : World) (g : Option Addr) (cp kb : Nat), Below wr.heap.size wr W → BxE W kb (.slice g (M.n + 1) cp) mo → W.ownsRow wr.heap.size 50 3 (.slice g (M.n + 1) cp) (M.n + 1) (cat (ed3 M F T) M.n ++ [.slice fa fl fc, .slice ta tl tc, .string s]) → wr.heap.size ≤ kb →
      Q0 .normal ⟨List.toArray (u0 :: u1 :: u2 :: u3 :: .pointer (some ⟨mb, 0, none⟩) :: .pointer (some ⟨fb, 0, none⟩) :: u6 :: u7 :: u8 :: u9 :: u10 :: u11 :: u12 :: u13 :: u14 :: u15 :: u16 :: u17 :: u18 :: .pointer (some ⟨kb, 0, none⟩) :: u20 :: u21 :: u22 :: u23 :: u24 :: u25 :: u26 :: u27 :: u28 :: u29 :: u30 :: u31 :: u32 :: u33 :: u34 :: u35 :: u36 :: u37 :: u38 :: u39 :: u40 :: u41 :: u42 :: u43 :: u44 :: u45 :: u46 :: u47 :: u48 :: u49 :: u50 :: u51 :: u52 :: u53 :: u54 :: u55 :: u56 :: u57 :: u58 :: u59 :: u60 :: u61 :: u62 :: u63 :: u64 :: u65 :: u66 :: u67 :: u68 :: u69 :: u70 :: u71 :: u72 :: u73 :: u74 :: u75 :: u76 :: u77 :: u78 :: u79 :: u80 :: u81 :: u82 :: u83 :: u84 :: u85 :: u86 :: u87 :: u88 :: u89 :: u90 :: u91 :: u92 :: u93 :: u94 :: u95 :: u96 :: u97 :: u98 :: u99 :: u100 :: u101 :: u102 :: u103 :: u104 :: u105 :: u106 :: u107 :: u108 :: u109 :: u110 :: u111 :: u112 :: u113 :: u114 :: u115 :: u116 :: u117 :: u118 :: u119 :: u120 :: u121 :: u122 :: u123 :: u124 :: v125 :: v126 :: v127 :: v128 :: v129 :: v130 :: v131 :: v132 :: v133 :: v134 :: u135 :: u136 :: u137 :: u138 :: u139 :: u140 :: u141 :: u142 :: u143 :: u144 :: u145 :: u146 :: u147 :: u148 :: u149 :: u150 :: u151 :: u152 :: u153 :: u154 :: u155 :: u156 :: []), []⟩ W)) :
    Code.wp Tryz.prog mReg Q0 ⟨List.toArray (u0 :: u1 :: u2 :: u3 :: .pointer (some ⟨mb, 0, none⟩) :: .pointer (some ⟨fb, 0, none⟩) :: u6 :: u7 :: u8 :: u9 :: u10 :: u11 :: u12 :: u13 :: u14 :: u15 :: u16 :: u17 :: u18 :: u19 :: u20 :: u21 :: u22 :: u23 :: u24 :: u25 :: u26 :: u27 :: u28 :: u29 :: u30 :: u31 :: u32 :: u33 :: u34 :: u35 :: u36 :: u37 :: u38 :: u39 :: u40 :: u41 :: u42 :: u43 :: u44 :: u45 :: u46 :: u47 :: u48 :: u49 :: u50 :: u51 :: u52 :: u53 :: u54 :: u55 :: u56 :: u57 :: u58 :: u59 :: u60 :: u61 :: u62 :: u63 :: u64 :: u65 :: u66 :: u67 :: u68 :: u69 :: u70 :: u71 :: u72 :: u73 :: u74 :: u75 :: u76 :: u77 :: u78 :: u79 :: u80 :: u81 :: u82 :: u83 :: u84 :: u85 :: u86 :: u87 :: u88 :: u89 :: u90 :: u91 :: u92 :: u93 :: u94 :: u95 :: u96 :: u97 :: u98 :: u99 :: u100 :: u101 :: u102 :: u103 :: u104 :: u105 :: u106 :: u107 :: u108 :: u109 :: u110 :: u111 :: u112 :: u113 :: u114 :: u115 :: u116 :: u117 :: u118 :: u119 :: u120 :: u121 :: u122 :: u123 :: u124 :: u125 :: u126 :: u127 :: u128 :: u129 :: u130 :: u131 :: u132 :: u133 :: u134 :: u135 :: u136 :: u137 :: u138 :: u139 :: u140 :: u141 :: u142 :: u143 :: u144 :: u145 :: u146 :: u147 :: u148 :: u149 :: u150 :: u151 :: u152 :: u153 :: u154 :: u155 :: u156 :: []), []⟩ wr := by
  obtain ⟨i0, hi0, hy0, hy1, hy2⟩ := info_parts2 info_edit
  have HI0 := Lib.hid hi0; clear hi0
  have HY0 := Lib.hid hy0; clear hy0
  have HY1 := Lib.hid hy1; clear hy1
  have HY2 := Lib.hid hy2; clear hy2
  have HLEN := Lib.hid (show (cat (ed3 M F T) M.n).length = M.n * 3 from cat_len (ed3_len M F T) M.n)
  conv => arg 2; whnf
  obtain ⟨w0, hw0⟩ : ∃ w0, w0 = wr.drew := ⟨_, rfl⟩
  have HB0 := Lib.hid (show Below wr.heap.size wr w0 by rw [hw0]; exact (Below.refl _ wr).drew)
  have hS0 := HKS.out w0 HB0.out
  refine region_heldK (fun wk : World => wk.cell? ⟨mb, 0, none⟩ = some (.slice a M.n cap) ∧ wk.cell? ⟨mb, 1, none⟩ = some (.int .i64 mo) ∧ wk.cell? ⟨fb, 0, none⟩ = some (.slice fa fl fc) ∧ wk.cell? ⟨fb, 1, none⟩ = some (.slice ta tl tc) ∧ wk.cell? ⟨fb, 2, none⟩ = some (.string s)) 11 (by kernel_rfl) ?_
  rw [← hw0]
  clear hw0
  refine AnyK.tk (i := 1) (v := ?va1) rfl (by kernel_rfl) hS0 (Or.inl ⟨by kernel_rfl, ?hya1⟩) ?resta1 (hQ := fun _ _ _ h => HPAN.out _ _ _ _ _ h)
  case hya1 => rintro wk ⟨s1, s2, s3, s4, s5⟩; go_simp; try with_reducible rfl
  refine AnyK.tk (i := 2) (v := ?va2) rfl (by kernel_rfl) hS0 (Or.inl ⟨by kernel_rfl, ?hya2⟩) ?resta2 (hQ := fun _ _ _ h => HPAN.out _ _ _ _ _ h)
  case hya2 => rintro wk ⟨s1, s2, s3, s4, s5⟩; go_simp; try with_reducible rfl
  try simp only [Act.put, List.setIfInBounds_toArray, List.set_cons_zero, List.set_cons_succ, List.getElem_toArray, List.getElem_cons_succ, List.getElem_cons_zero]
  refine AnyK.tk (i := 4) (v := ?vb4) rfl (by kernel_rfl) hS0 (Or.inl ⟨by kernel_rfl, ?hyb4⟩) ?restb4 (hQ := fun _ _ _ h => HPAN.out _ _ _ _ _ h)
  case hyb4 => rintro wk ⟨s1, s2, s3, s4, s5⟩; go_simp; try with_reducible rfl
  try simp only [Act.put, List.setIfInBounds_toArray, List.set_cons_zero, List.set_cons_succ, List.getElem_toArray, List.getElem_cons_succ, List.getElem_cons_zero]
  refine AnyK.tk (i := 7) (v := ?vc7) rfl (by kernel_rfl) hS0 (Or.inl ⟨by kernel_rfl, ?hyc7⟩) ?restc7 (hQ := fun _ _ _ h => HPAN.out _ _ _ _ _ h)
  case hyc7 => rintro wk ⟨s1, s2, s3, s4, s5⟩; go_simp; try with_reducible rfl
  refine AnyK.tk (i := 8) (v := ?vc8) rfl (by kernel_rfl) hS0 (Or.inl ⟨by kernel_rfl, ?hyc8⟩) ?restc8 (hQ := fun _ _ _ h => HPAN.out _ _ _ _ _ h)
  case hyc8 => rintro wk ⟨s1, s2, s3, s4, s5⟩; go_simp; try with_reducible rfl
  try simp only [Act.put, List.setIfInBounds_toArray, List.set_cons_zero, List.set_cons_succ, List.getElem_toArray, List.getElem_cons_succ, List.getElem_cons_zero]
  refine AnyK.three (i := 0) (j := 5) (k := 10) (by kernel_rfl) (wpOp_go rfl rfl fun K hK => ?_) (wpOp_go rfl rfl fun K hK => ?_) (wpOp_go rfl rfl fun K hK => ?_)
  · skip
    go_simp
    have HB1 := Lib.hid (HB0.out.alloc HB0.out.size (.cells #[] 50))
    have HE1 := Lib.hid (row_new w0 HB0.out.size 50 3)
    obtain ⟨w1, hw1⟩ : ∃ W, W = w0.alloc (.cells #[] 50) := ⟨_, rfl⟩
    rw [← hw1] at HB1 HE1 ⊢
    clear hw1
    have hS1 := HKS.out w1 HB1.out
    refine hK _ _ ⟨.inr hS1, ?_⟩
    clear hK K
    try simp only [Act.put, List.setIfInBounds_toArray, List.set_cons_zero, List.set_cons_succ, List.getElem_toArray, List.getElem_cons_succ, List.getElem_cons_zero]
    refine AnyK.three (i := 3) (j := 5) (k := 10) (by kernel_rfl) (wpOp_go rfl rfl fun K hK => ?_) (wpOp_go rfl rfl fun K hK => ?_) (wpOp_go rfl rfl fun K hK => ?_)
    · skip
      refine wp_append_0 _ (.tmp 125) (.tmp 127) 22 rfl wr.heap.size 50 i0 (.agg #[.slice none 0 0, .slice none 0 0, .string ⟨#[]⟩]) 3 64 Tryz.underlying22 HI0.out HY0.out HY1.out HY2.out rfl (by omega) (some ⟨w0.heap.size, 0, none⟩) 0 (by simp [Act.eval]) HE1.out a M.n cap (cat (ed3 M F T) M.n) (by simp [Act.eval]) HLEN.out (HNEW.out _ HB1.out) HONE.out (by unfold maxLen; omega) (by omega) HB1.out.size ?_
      intro ga2 ca2 w2 hown hgrow hat
      have hfr : Fr (fun c => (Value.slice (some ⟨w0.heap.size, 0, none⟩) 0 0).ownBlock = some c) w1 w2 := Fr.of_gb hgrow (fun _ e => e)
      have HB2 := Lib.hid (HB1.out.trans (hfr.below HB1.out.size (fun c e => (World.ownsRow.lt HE1.out c e).1)))
      have HR2 := Lib.hid hown
      clear hown hgrow hat hfr
      have hS2 := HKS.out w2 HB2.out
      refine hK _ _ ⟨.inr hS2, ?_⟩
      clear hK K
      try simp only [Act.put, List.setIfInBounds_toArray, List.set_cons_zero, List.set_cons_succ, List.getElem_toArray, List.getElem_cons_succ, List.getElem_cons_zero]
      refine AnyK.two (i := 5) (j := 10) (by kernel_rfl) (wpOp_go rfl rfl fun K hK => ?_) (wpOp_go rfl rfl fun K hK => ?_)
      · skip
        go_simp
        have HR3 := Lib.hid (World.ownsRow.alloc HR2.out (.cells #[.slice fa fl fc, .slice ta tl tc, .string s] 50))
        have HB3 := Lib.hid (HB2.out.alloc HB2.out.size (.cells #[.slice fa fl fc, .slice ta tl tc, .string s] 50))
        have HN3 := Lib.hid (heap_alloc_new w2 (.cells #[.slice fa fl fc, .slice ta tl tc, .string s] 50))
        have HD3 := Lib.hid (show ∀ c, (Value.slice ga2 M.n ca2).ownBlock = some c → c ≠ w2.heap.size from fun c hc e => by have := (World.ownsRow.lt HR2.out c hc).2; omega)
        obtain ⟨w3, hw3⟩ : ∃ W, W = w2.alloc (.cells #[.slice fa fl fc, .slice ta tl tc, .string s] 50) := ⟨_, rfl⟩
        rw [← hw3] at HB3 HR3 HN3 ⊢
        clear hw3
        have hS3 := HKS.out w3 HB3.out
        refine hK _ _ ⟨.inr hS3, ?_⟩
        clear hK K
        try simp only [Act.put, List.setIfInBounds_toArray, List.set_cons_zero, List.set_cons_succ, List.getElem_toArray, List.getElem_cons_succ, List.getElem_cons_zero]
        refine AnyK.two (i := 6) (j := 10) (by kernel_rfl) (wpOp_go rfl rfl fun K hK => ?_) (wpOp_go rfl rfl fun K hK => ?_)
        · skip
          refine wp_append_lies _ (.tmp 128) (.tmp 130) 22 rfl wr.heap.size 50 i0 (.agg #[.slice none 0 0, .slice none 0 0, .string ⟨#[]⟩]) 3 64 Tryz.underlying22 HI0.out HY0.out HY1.out HY2.out rfl (by omega) (.slice ga2 M.n ca2) M.n _ (by simp [Act.eval]) HR3.out ⟨w2.heap.size, 0, none⟩ 1 1 [.slice fa fl fc, .slice ta tl tc, .string s] (by simp [Act.eval]) rfl (news_st (cs := #[.slice fa fl fc, .slice ta tl tc, .string s]) HN3.out) three_one (by omega) (by unfold maxLen; omega) (by omega) HB3.out.size _ rfl ?_
          intro gb4 cb4 w4 hown hgrow hat hlt
          have hfr : Fr (fun c => (Value.slice ga2 M.n ca2).ownBlock = some c) w3 w4 := Fr.of_gb hgrow (fun _ e => e)
          have HB4 := Lib.hid (HB3.out.trans (hfr.below HB3.out.size (fun c e => (World.ownsRow.lt HR3.out c e).1)))
          have HF4 := Lib.hid hown
          clear hown hgrow hat hlt hfr
          have hS4 := HKS.out w4 HB4.out
          refine hK _ _ ⟨.inr hS4, ?_⟩
          clear hK K
          try simp only [Act.put, List.setIfInBounds_toArray, List.set_cons_zero, List.set_cons_succ, List.getElem_toArray, List.getElem_cons_succ, List.getElem_cons_zero]
          refine AnyK.tk (i := 9) (v := ?vq49) rfl (by kernel_rfl) hS4 (Or.inl ⟨by kernel_rfl, ?hyq49⟩) ?restq49 (hQ := fun _ _ _ h => HPAN.out _ _ _ _ _ h)
          case hyq49 => rintro wk ⟨s1, s2, s3, s4, s5⟩; go_simp; try with_reducible rfl
          try simp only [Act.put, List.setIfInBounds_toArray, List.set_cons_zero, List.set_cons_succ, List.getElem_toArray, List.getElem_cons_succ, List.getElem_cons_zero]
          refine AnyK.one (i := 10) rfl (by kernel_rfl) (by rfl) (fun K hK => ?_)
          go_simp
          have HF5 := Lib.hid (World.ownsRow.alloc HF4.out (.cells #[.slice none 0 0, .int .i64 0] 24))
          have HB5 := Lib.hid (HB4.out.alloc HB4.out.size (.cells #[.slice none 0 0, .int .i64 0] 24))
          have HK5 := Lib.hid (heap_alloc_new w4 (.cells #[.slice none 0 0, .int .i64 0] 24))
          have HKB := Lib.hid HB4.out.size
          obtain ⟨w5, hw5⟩ : ∃ W, W = w4.alloc (.cells #[.slice none 0 0, .int .i64 0] 24) := ⟨_, rfl⟩
          obtain ⟨kb, hkb⟩ : ∃ k, k = w4.heap.size := ⟨_, rfl⟩
          rw [← hkb] at HK5 HKB ⊢
          rw [← hw5] at HB5 HK5 HF5 ⊢
          clear hw5 hkb
          have hS5 := HKS.out w5 HB5.out
          refine hK.out _ _ (.inr hS5) ?_
          clear hK K
          try simp only [Act.put, List.setIfInBounds_toArray, List.set_cons_zero, List.set_cons_succ, List.getElem_toArray, List.getElem_cons_succ, List.getElem_cons_zero]
          have k0 := cell_of HK5.out 0 rfl
          have k1 := cell_of HK5.out 1 rfl
          have g0 : w5.frozen? ⟨kb, 0, none⟩ = false := by have hk := HK5.out; simp [World.frozen?, hk]
          have g1 : w5.frozen? ⟨kb, 1, none⟩ = false := by have hk := HK5.out; simp [World.frozen?, hk]
          refine AnyK.one (i := 11) rfl (by kernel_rfl) (by rfl) (fun K hK => ?_)
          go_simp
          refine hK.out _ _ (.inl rfl) (AnyK.done (by kernel_rfl) ?_ _)
          clear hK K
          have hkb : BxE w5 kb (.slice none 0 0) 0 := HK5.out
          have hfk : Fr (fun c => c = kb) w5 ((w5.setCell ⟨kb, 0, none⟩ (.slice (some ⟨gb4, 0, none⟩) (M.n + 1) cb4)).setCell ⟨kb, 1, none⟩ (.int .i64 mo)) := ((Fr.refl (fun c => c = kb) w5).set (p := ⟨kb, 0, none⟩) (.inl rfl) _).set (p := ⟨kb, 1, none⟩) (.inl rfl) _
          exact HEND.out _ _ _ _ _ _ _ _ _ _ _ (some ⟨gb4, 0, none⟩) cb4 kb (HB5.out.trans (hfk.below HB5.out.size (fun c e => by rw [e]; exact HKB.out))) (bxe_set hkb) (row_kept HF5.out (z := some kb) (Fr.gb (hfk.mono (fun q _ e => by rw [e]))) (fun c hc e => own_blk HF5.out HK5.out (by decide) (by rw [hc]; exact e.symm))) HKB.out
        · skip
          go_simp
          have HR6 := Lib.hid (World.ownsRow.alloc HR3.out (.cells #[.slice none 0 0, .int .i64 0] 24))
          have HN6 := Lib.hid ((blk_alloc_lt w3 (.cells #[.slice none 0 0, .int .i64 0] 24) _ (lt_of_block HN3.out)).trans HN3.out)
          have HB6 := Lib.hid (HB3.out.alloc HB3.out.size (.cells #[.slice none 0 0, .int .i64 0] 24))
          have HK6 := Lib.hid (heap_alloc_new w3 (.cells #[.slice none 0 0, .int .i64 0] 24))
          have HKB := Lib.hid HB3.out.size
          have HD6 := HD3
          obtain ⟨w6, hw6⟩ : ∃ W, W = w3.alloc (.cells #[.slice none 0 0, .int .i64 0] 24) := ⟨_, rfl⟩
          obtain ⟨kb, hkb⟩ : ∃ k, k = w3.heap.size := ⟨_, rfl⟩
          rw [← hkb] at HK6 HKB ⊢
          rw [← hw6] at HB6 HR6 HN6 HK6 ⊢
          clear hw6 hkb
          have hS6 := HKS.out w6 HB6.out
          refine hK _ _ ⟨.inr hS6, ?_⟩
          clear hK K
          try simp only [Act.put, List.setIfInBounds_toArray, List.set_cons_zero, List.set_cons_succ, List.getElem_toArray, List.getElem_cons_succ, List.getElem_cons_zero]
          refine AnyK.one (i := 6) rfl (by kernel_rfl) (by rfl) (fun K hK => ?_)
          refine wp_append_lies _ (.tmp 128) (.tmp 130) 22 rfl wr.heap.size 50 i0 (.agg #[.slice none 0 0, .slice none 0 0, .string ⟨#[]⟩]) 3 64 Tryz.underlying22 HI0.out HY0.out HY1.out HY2.out rfl (by omega) (.slice ga2 M.n ca2) M.n _ (by simp [Act.eval]) HR6.out ⟨w2.heap.size, 0, none⟩ 1 1 [.slice fa fl fc, .slice ta tl tc, .string s] (by simp [Act.eval]) rfl (news_st (cs := #[.slice fa fl fc, .slice ta tl tc, .string s]) HN6.out) three_one (by omega) (by unfold maxLen; omega) (by omega) HB6.out.size _ rfl ?_
          intro gb7 cb7 w7 hown hgrow hat hlt
          have hfr : Fr (fun c => (Value.slice ga2 M.n ca2).ownBlock = some c) w6 w7 := Fr.of_gb hgrow (fun _ e => e)
          have HB7 := Lib.hid (HB6.out.trans (hfr.below HB6.out.size (fun c e => (World.ownsRow.lt HR6.out c e).1)))
          have HF7 := Lib.hid hown
          have HK7 := Lib.hid ((hfr.block kb (lt_of_block HK6.out) (fun e => own_blk HR6.out HK6.out (by decide) e)).trans HK6.out)
          clear hown hgrow hat hlt hfr
          have hS7 := HKS.out w7 HB7.out
          refine hK.out _ _ (.inr hS7) ?_
          clear hK K
          try simp only [Act.put, List.setIfInBounds_toArray, List.set_cons_zero, List.set_cons_succ, List.getElem_toArray, List.getElem_cons_succ, List.getElem_cons_zero]
          refine AnyK.tk (i := 9) (v := ?vq79) rfl (by kernel_rfl) hS7 (Or.inl ⟨by kernel_rfl, ?hyq79⟩) ?restq79 (hQ := fun _ _ _ h => HPAN.out _ _ _ _ _ h)
          case hyq79 => rintro wk ⟨s1, s2, s3, s4, s5⟩; go_simp; try with_reducible rfl
          try simp only [Act.put, List.setIfInBounds_toArray, List.set_cons_zero, List.set_cons_succ, List.getElem_toArray, List.getElem_cons_succ, List.getElem_cons_zero]
          have k0 := cell_of HK7.out 0 rfl
          have k1 := cell_of HK7.out 1 rfl
          have g0 : w7.frozen? ⟨kb, 0, none⟩ = false := by have hk := HK7.out; simp [World.frozen?, hk]
          have g1 : w7.frozen? ⟨kb, 1, none⟩ = false := by have hk := HK7.out; simp [World.frozen?, hk]
          refine AnyK.one (i := 11) rfl (by kernel_rfl) (by rfl) (fun K hK => ?_)
          go_simp
          refine hK.out _ _ (.inl rfl) (AnyK.done (by kernel_rfl) ?_ _)
          clear hK K
          have hkb : BxE w7 kb (.slice none 0 0) 0 := HK7.out
          have hfk : Fr (fun c => c = kb) w7 ((w7.setCell ⟨kb, 0, none⟩ (.slice (some ⟨gb7, 0, none⟩) (M.n + 1) cb7)).setCell ⟨kb, 1, none⟩ (.int .i64 mo)) := ((Fr.refl (fun c => c = kb) w7).set (p := ⟨kb, 0, none⟩) (.inl rfl) _).set (p := ⟨kb, 1, none⟩) (.inl rfl) _
          exact HEND.out _ _ _ _ _ _ _ _ _ _ _ (some ⟨gb7, 0, none⟩) cb7 kb (HB7.out.trans (hfk.below HB7.out.size (fun c e => by rw [e]; exact HKB.out))) (bxe_set hkb) (row_kept HF7.out (z := some kb) (Fr.gb (hfk.mono (fun q _ e => by rw [e]))) (fun c hc e => own_blk HF7.out HK7.out (by decide) (by rw [hc]; exact e.symm))) HKB.out
      · skip
        go_simp
        have HR8 := Lib.hid (World.ownsRow.alloc HR2.out (.cells #[.slice none 0 0, .int .i64 0] 24))
        have HB8 := Lib.hid (HB2.out.alloc HB2.out.size (.cells #[.slice none 0 0, .int .i64 0] 24))
        have HK8 := Lib.hid (heap_alloc_new w2 (.cells #[.slice none 0 0, .int .i64 0] 24))
        have HKB := Lib.hid HB2.out.size
        obtain ⟨w8, hw8⟩ : ∃ W, W = w2.alloc (.cells #[.slice none 0 0, .int .i64 0] 24) := ⟨_, rfl⟩
        obtain ⟨kb, hkb⟩ : ∃ k, k = w2.heap.size := ⟨_, rfl⟩
        rw [← hkb] at HK8 HKB ⊢
        rw [← hw8] at HB8 HR8 HK8 ⊢
        clear hw8 hkb
        have hS8 := HKS.out w8 HB8.out
        refine hK _ _ ⟨.inr hS8, ?_⟩
        clear hK K
        try simp only [Act.put, List.setIfInBounds_toArray, List.set_cons_zero, List.set_cons_succ, List.getElem_toArray, List.getElem_cons_succ, List.getElem_cons_zero]
        refine AnyK.one (i := 5) rfl (by kernel_rfl) (by rfl) (fun K hK => ?_)
        go_simp
        have HR9 := Lib.hid (World.ownsRow.alloc HR8.out (.cells #[.slice fa fl fc, .slice ta tl tc, .string s] 50))
        have HK9 := Lib.hid ((blk_alloc_lt w8 (.cells #[.slice fa fl fc, .slice ta tl tc, .string s] 50) _ (lt_of_block HK8.out)).trans HK8.out)
        have HB9 := Lib.hid (HB8.out.alloc HB8.out.size (.cells #[.slice fa fl fc, .slice ta tl tc, .string s] 50))
        have HN9 := Lib.hid (heap_alloc_new w8 (.cells #[.slice fa fl fc, .slice ta tl tc, .string s] 50))
        have HD9 := Lib.hid (show ∀ c, (Value.slice ga2 M.n ca2).ownBlock = some c → c ≠ w8.heap.size from fun c hc e => by have := (World.ownsRow.lt HR8.out c hc).2; omega)
        obtain ⟨w9, hw9⟩ : ∃ W, W = w8.alloc (.cells #[.slice fa fl fc, .slice ta tl tc, .string s] 50) := ⟨_, rfl⟩
        rw [← hw9] at HB9 HR9 HN9 HK9 ⊢
        clear hw9
        have hS9 := HKS.out w9 HB9.out
        refine hK.out _ _ (.inr hS9) ?_
        clear hK K
        try simp only [Act.put, List.setIfInBounds_toArray, List.set_cons_zero, List.set_cons_succ, List.getElem_toArray, List.getElem_cons_succ, List.getElem_cons_zero]
        refine AnyK.one (i := 6) rfl (by kernel_rfl) (by rfl) (fun K hK => ?_)
        refine wp_append_lies _ (.tmp 128) (.tmp 130) 22 rfl wr.heap.size 50 i0 (.agg #[.slice none 0 0, .slice none 0 0, .string ⟨#[]⟩]) 3 64 Tryz.underlying22 HI0.out HY0.out HY1.out HY2.out rfl (by omega) (.slice ga2 M.n ca2) M.n _ (by simp [Act.eval]) HR9.out ⟨w8.heap.size, 0, none⟩ 1 1 [.slice fa fl fc, .slice ta tl tc, .string s] (by simp [Act.eval]) rfl (news_st (cs := #[.slice fa fl fc, .slice ta tl tc, .string s]) HN9.out) three_one (by omega) (by unfold maxLen; omega) (by omega) HB9.out.size _ rfl ?_
        intro gb10 cb10 w10 hown hgrow hat hlt
        have hfr : Fr (fun c => (Value.slice ga2 M.n ca2).ownBlock = some c) w9 w10 := Fr.of_gb hgrow (fun _ e => e)
        have HB10 := Lib.hid (HB9.out.trans (hfr.below HB9.out.size (fun c e => (World.ownsRow.lt HR9.out c e).1)))
        have HF10 := Lib.hid hown
        have HK10 := Lib.hid ((hfr.block kb (lt_of_block HK9.out) (fun e => own_blk HR9.out HK9.out (by decide) e)).trans HK9.out)
        clear hown hgrow hat hlt hfr
        have hS10 := HKS.out w10 HB10.out
        refine hK.out _ _ (.inr hS10) ?_
        clear hK K
        try simp only [Act.put, List.setIfInBounds_toArray, List.set_cons_zero, List.set_cons_succ, List.getElem_toArray, List.getElem_cons_succ, List.getElem_cons_zero]
        refine AnyK.tk (i := 9) (v := ?vq109) rfl (by kernel_rfl) hS10 (Or.inl ⟨by kernel_rfl, ?hyq109⟩) ?restq109 (hQ := fun _ _ _ h => HPAN.out _ _ _ _ _ h)
        case hyq109 => rintro wk ⟨s1, s2, s3, s4, s5⟩; go_simp; try with_reducible rfl
        try simp only [Act.put, List.setIfInBounds_toArray, List.set_cons_zero, List.set_cons_succ, List.getElem_toArray, List.getElem_cons_succ, List.getElem_cons_zero]
        have k0 := cell_of HK10.out 0 rfl
        have k1 := cell_of HK10.out 1 rfl
        have g0 : w10.frozen? ⟨kb, 0, none⟩ = false := by have hk := HK10.out; simp [World.frozen?, hk]
        have g1 : w10.frozen? ⟨kb, 1, none⟩ = false := by have hk := HK10.out; simp [World.frozen?, hk]
        refine AnyK.one (i := 11) rfl (by kernel_rfl) (by rfl) (fun K hK => ?_)
        go_simp
        refine hK.out _ _ (.inl rfl) (AnyK.done (by kernel_rfl) ?_ _)
        clear hK K
        have hkb : BxE w10 kb (.slice none 0 0) 0 := HK10.out
        have hfk : Fr (fun c => c = kb) w10 ((w10.setCell ⟨kb, 0, none⟩ (.slice (some ⟨gb10, 0, none⟩) (M.n + 1) cb10)).setCell ⟨kb, 1, none⟩ (.int .i64 mo)) := ((Fr.refl (fun c => c = kb) w10).set (p := ⟨kb, 0, none⟩) (.inl rfl) _).set (p := ⟨kb, 1, none⟩) (.inl rfl) _
        exact HEND.out _ _ _ _ _ _ _ _ _ _ _ (some ⟨gb10, 0, none⟩) cb10 kb (HB10.out.trans (hfk.below HB10.out.size (fun c e => by rw [e]; exact HKB.out))) (bxe_set hkb) (row_kept HF10.out (z := some kb) (Fr.gb (hfk.mono (fun q _ e => by rw [e]))) (fun c hc e => own_blk HF10.out HK10.out (by decide) (by rw [hc]; exact e.symm))) HKB.out
    · skip
      go_simp
      have HE11 := Lib.hid (World.ownsRow.alloc HE1.out (.cells #[.slice fa fl fc, .slice ta tl tc, .string s] 50))
      have HB11 := Lib.hid (HB1.out.alloc HB1.out.size (.cells #[.slice fa fl fc, .slice ta tl tc, .string s] 50))
      have HN11 := Lib.hid (heap_alloc_new w1 (.cells #[.slice fa fl fc, .slice ta tl tc, .string s] 50))
      have HD11 := Lib.hid (show ∀ c, (Value.slice (some ⟨w0.heap.size, 0, none⟩) 0 0).ownBlock = some c → c ≠ w1.heap.size from fun c hc e => by have := (World.ownsRow.lt HE1.out c hc).2; omega)
      obtain ⟨w11, hw11⟩ : ∃ W, W = w1.alloc (.cells #[.slice fa fl fc, .slice ta tl tc, .string s] 50) := ⟨_, rfl⟩
      rw [← hw11] at HB11 HE11 HN11 ⊢
      clear hw11
      have hS11 := HKS.out w11 HB11.out
      refine hK _ _ ⟨.inr hS11, ?_⟩
      clear hK K
      try simp only [Act.put, List.setIfInBounds_toArray, List.set_cons_zero, List.set_cons_succ, List.getElem_toArray, List.getElem_cons_succ, List.getElem_cons_zero]
      refine AnyK.two (i := 3) (j := 10) (by kernel_rfl) (wpOp_go rfl rfl fun K hK => ?_) (wpOp_go rfl rfl fun K hK => ?_)
      · skip
        refine wp_append_0 _ (.tmp 125) (.tmp 127) 22 rfl wr.heap.size 50 i0 (.agg #[.slice none 0 0, .slice none 0 0, .string ⟨#[]⟩]) 3 64 Tryz.underlying22 HI0.out HY0.out HY1.out HY2.out rfl (by omega) (some ⟨w0.heap.size, 0, none⟩) 0 (by simp [Act.eval]) HE11.out a M.n cap (cat (ed3 M F T) M.n) (by simp [Act.eval]) HLEN.out (HNEW.out _ HB11.out) HONE.out (by unfold maxLen; omega) (by omega) HB11.out.size ?_
        intro ga12 ca12 w12 hown hgrow hat
        have hfr : Fr (fun c => (Value.slice (some ⟨w0.heap.size, 0, none⟩) 0 0).ownBlock = some c) w11 w12 := Fr.of_gb hgrow (fun _ e => e)
        have HB12 := Lib.hid (HB11.out.trans (hfr.below HB11.out.size (fun c e => (World.ownsRow.lt HE11.out c e).1)))
        have HR12 := Lib.hid hown
        have HN12 := Lib.hid ((hfr.block _ (lt_of_block HN11.out) (fun e => HD11.out _ e rfl)).trans HN11.out)
        have HD12 := Lib.hid (show ∀ c, (Value.slice ga12 M.n ca12).ownBlock = some c → c ≠ w1.heap.size from fun c hc e => by
          rcases hat c hc with h1 | h1
          · exact HD11.out c h1 e
          · have := lt_of_block HN11.out; omega)
        clear hown hgrow hat hfr
        have hS12 := HKS.out w12 HB12.out
        refine hK _ _ ⟨.inr hS12, ?_⟩
        clear hK K
        try simp only [Act.put, List.setIfInBounds_toArray, List.set_cons_zero, List.set_cons_succ, List.getElem_toArray, List.getElem_cons_succ, List.getElem_cons_zero]
        refine AnyK.two (i := 6) (j := 10) (by kernel_rfl) (wpOp_go rfl rfl fun K hK => ?_) (wpOp_go rfl rfl fun K hK => ?_)
        · skip
          refine wp_append_lies _ (.tmp 128) (.tmp 130) 22 rfl wr.heap.size 50 i0 (.agg #[.slice none 0 0, .slice none 0 0, .string ⟨#[]⟩]) 3 64 Tryz.underlying22 HI0.out HY0.out HY1.out HY2.out rfl (by omega) (.slice ga12 M.n ca12) M.n _ (by simp [Act.eval]) HR12.out ⟨w1.heap.size, 0, none⟩ 1 1 [.slice fa fl fc, .slice ta tl tc, .string s] (by simp [Act.eval]) rfl (news_st (cs := #[.slice fa fl fc, .slice ta tl tc, .string s]) HN12.out) three_one (by omega) (by unfold maxLen; omega) (by omega) HB12.out.size _ rfl ?_
          intro gb13 cb13 w13 hown hgrow hat hlt
          have hfr : Fr (fun c => (Value.slice ga12 M.n ca12).ownBlock = some c) w12 w13 := Fr.of_gb hgrow (fun _ e => e)
          have HB13 := Lib.hid (HB12.out.trans (hfr.below HB12.out.size (fun c e => (World.ownsRow.lt HR12.out c e).1)))
          have HF13 := Lib.hid hown
          clear hown hgrow hat hlt hfr
          have hS13 := HKS.out w13 HB13.out
          refine hK _ _ ⟨.inr hS13, ?_⟩
          clear hK K
          try simp only [Act.put, List.setIfInBounds_toArray, List.set_cons_zero, List.set_cons_succ, List.getElem_toArray, List.getElem_cons_succ, List.getElem_cons_zero]
          refine AnyK.tk (i := 9) (v := ?vq139) rfl (by kernel_rfl) hS13 (Or.inl ⟨by kernel_rfl, ?hyq139⟩) ?restq139 (hQ := fun _ _ _ h => HPAN.out _ _ _ _ _ h)
          case hyq139 => rintro wk ⟨s1, s2, s3, s4, s5⟩; go_simp; try with_reducible rfl
          try simp only [Act.put, List.setIfInBounds_toArray, List.set_cons_zero, List.set_cons_succ, List.getElem_toArray, List.getElem_cons_succ, List.getElem_cons_zero]
          refine AnyK.one (i := 10) rfl (by kernel_rfl) (by rfl) (fun K hK => ?_)
          go_simp
          have HF14 := Lib.hid (World.ownsRow.alloc HF13.out (.cells #[.slice none 0 0, .int .i64 0] 24))
          have HB14 := Lib.hid (HB13.out.alloc HB13.out.size (.cells #[.slice none 0 0, .int .i64 0] 24))
          have HK14 := Lib.hid (heap_alloc_new w13 (.cells #[.slice none 0 0, .int .i64 0] 24))
          have HKB := Lib.hid HB13.out.size
          obtain ⟨w14, hw14⟩ : ∃ W, W = w13.alloc (.cells #[.slice none 0 0, .int .i64 0] 24) := ⟨_, rfl⟩
          obtain ⟨kb, hkb⟩ : ∃ k, k = w13.heap.size := ⟨_, rfl⟩
          rw [← hkb] at HK14 HKB ⊢
          rw [← hw14] at HB14 HK14 HF14 ⊢
          clear hw14 hkb
          have hS14 := HKS.out w14 HB14.out
          refine hK.out _ _ (.inr hS14) ?_
          clear hK K
          try simp only [Act.put, List.setIfInBounds_toArray, List.set_cons_zero, List.set_cons_succ, List.getElem_toArray, List.getElem_cons_succ, List.getElem_cons_zero]
          have k0 := cell_of HK14.out 0 rfl
          have k1 := cell_of HK14.out 1 rfl
          have g0 : w14.frozen? ⟨kb, 0, none⟩ = false := by have hk := HK14.out; simp [World.frozen?, hk]
          have g1 : w14.frozen? ⟨kb, 1, none⟩ = false := by have hk := HK14.out; simp [World.frozen?, hk]
          refine AnyK.one (i := 11) rfl (by kernel_rfl) (by rfl) (fun K hK => ?_)
          go_simp
          refine hK.out _ _ (.inl rfl) (AnyK.done (by kernel_rfl) ?_ _)
          clear hK K
          have hkb : BxE w14 kb (.slice none 0 0) 0 := HK14.out
          have hfk : Fr (fun c => c = kb) w14 ((w14.setCell ⟨kb, 0, none⟩ (.slice (some ⟨gb13, 0, none⟩) (M.n + 1) cb13)).setCell ⟨kb, 1, none⟩ (.int .i64 mo)) := ((Fr.refl (fun c => c = kb) w14).set (p := ⟨kb, 0, none⟩) (.inl rfl) _).set (p := ⟨kb, 1, none⟩) (.inl rfl) _
          exact HEND.out _ _ _ _ _ _ _ _ _ _ _ (some ⟨gb13, 0, none⟩) cb13 kb (HB14.out.trans (hfk.below HB14.out.size (fun c e => by rw [e]; exact HKB.out))) (bxe_set hkb) (row_kept HF14.out (z := some kb) (Fr.gb (hfk.mono (fun q _ e => by rw [e]))) (fun c hc e => own_blk HF14.out HK14.out (by decide) (by rw [hc]; exact e.symm))) HKB.out
        · skip
          go_simp
          have HR15 := Lib.hid (World.ownsRow.alloc HR12.out (.cells #[.slice none 0 0, .int .i64 0] 24))
          have HN15 := Lib.hid ((blk_alloc_lt w12 (.cells #[.slice none 0 0, .int .i64 0] 24) _ (lt_of_block HN12.out)).trans HN12.out)
          have HB15 := Lib.hid (HB12.out.alloc HB12.out.size (.cells #[.slice none 0 0, .int .i64 0] 24))
          have HK15 := Lib.hid (heap_alloc_new w12 (.cells #[.slice none 0 0, .int .i64 0] 24))
          have HKB := Lib.hid HB12.out.size
          have HD15 := HD12
          obtain ⟨w15, hw15⟩ : ∃ W, W = w12.alloc (.cells #[.slice none 0 0, .int .i64 0] 24) := ⟨_, rfl⟩
          obtain ⟨kb, hkb⟩ : ∃ k, k = w12.heap.size := ⟨_, rfl⟩
          rw [← hkb] at HK15 HKB ⊢
          rw [← hw15] at HB15 HR15 HN15 HK15 ⊢
          clear hw15 hkb
          have hS15 := HKS.out w15 HB15.out
          refine hK _ _ ⟨.inr hS15, ?_⟩
          clear hK K
          try simp only [Act.put, List.setIfInBounds_toArray, List.set_cons_zero, List.set_cons_succ, List.getElem_toArray, List.getElem_cons_succ, List.getElem_cons_zero]
          refine AnyK.one (i := 6) rfl (by kernel_rfl) (by rfl) (fun K hK => ?_)
          refine wp_append_lies _ (.tmp 128) (.tmp 130) 22 rfl wr.heap.size 50 i0 (.agg #[.slice none 0 0, .slice none 0 0, .string ⟨#[]⟩]) 3 64 Tryz.underlying22 HI0.out HY0.out HY1.out HY2.out rfl (by omega) (.slice ga12 M.n ca12) M.n _ (by simp [Act.eval]) HR15.out ⟨w1.heap.size, 0, none⟩ 1 1 [.slice fa fl fc, .slice ta tl tc, .string s] (by simp [Act.eval]) rfl (news_st (cs := #[.slice fa fl fc, .slice ta tl tc, .string s]) HN15.out) three_one (by omega) (by unfold maxLen; omega) (by omega) HB15.out.size _ rfl ?_
          intro gb16 cb16 w16 hown hgrow hat hlt
          have hfr : Fr (fun c => (Value.slice ga12 M.n ca12).ownBlock = some c) w15 w16 := Fr.of_gb hgrow (fun _ e => e)
          have HB16 := Lib.hid (HB15.out.trans (hfr.below HB15.out.size (fun c e => (World.ownsRow.lt HR15.out c e).1)))
          have HF16 := Lib.hid hown
          have HK16 := Lib.hid ((hfr.block kb (lt_of_block HK15.out) (fun e => own_blk HR15.out HK15.out (by decide) e)).trans HK15.out)
          clear hown hgrow hat hlt hfr
          have hS16 := HKS.out w16 HB16.out
          refine hK.out _ _ (.inr hS16) ?_
          clear hK K
          try simp only [Act.put, List.setIfInBounds_toArray, List.set_cons_zero, List.set_cons_succ, List.getElem_toArray, List.getElem_cons_succ, List.getElem_cons_zero]
          refine AnyK.tk (i := 9) (v := ?vq169) rfl (by kernel_rfl) hS16 (Or.inl ⟨by kernel_rfl, ?hyq169⟩) ?restq169 (hQ := fun _ _ _ h => HPAN.out _ _ _ _ _ h)
          case hyq169 => rintro wk ⟨s1, s2, s3, s4, s5⟩; go_simp; try with_reducible rfl
          try simp only [Act.put, List.setIfInBounds_toArray, List.set_cons_zero, List.set_cons_succ, List.getElem_toArray, List.getElem_cons_succ, List.getElem_cons_zero]
          have k0 := cell_of HK16.out 0 rfl
          have k1 := cell_of HK16.out 1 rfl
          have g0 : w16.frozen? ⟨kb, 0, none⟩ = false := by have hk := HK16.out; simp [World.frozen?, hk]
          have g1 : w16.frozen? ⟨kb, 1, none⟩ = false := by have hk := HK16.out; simp [World.frozen?, hk]
          refine AnyK.one (i := 11) rfl (by kernel_rfl) (by rfl) (fun K hK => ?_)
          go_simp
          refine hK.out _ _ (.inl rfl) (AnyK.done (by kernel_rfl) ?_ _)
          clear hK K
          have hkb : BxE w16 kb (.slice none 0 0) 0 := HK16.out
          have hfk : Fr (fun c => c = kb) w16 ((w16.setCell ⟨kb, 0, none⟩ (.slice (some ⟨gb16, 0, none⟩) (M.n + 1) cb16)).setCell ⟨kb, 1, none⟩ (.int .i64 mo)) := ((Fr.refl (fun c => c = kb) w16).set (p := ⟨kb, 0, none⟩) (.inl rfl) _).set (p := ⟨kb, 1, none⟩) (.inl rfl) _
          exact HEND.out _ _ _ _ _ _ _ _ _ _ _ (some ⟨gb16, 0, none⟩) cb16 kb (HB16.out.trans (hfk.below HB16.out.size (fun c e => by rw [e]; exact HKB.out))) (bxe_set hkb) (row_kept HF16.out (z := some kb) (Fr.gb (hfk.mono (fun q _ e => by rw [e]))) (fun c hc e => own_blk HF16.out HK16.out (by decide) (by rw [hc]; exact e.symm))) HKB.out
      · skip
        go_simp
        have HE17 := Lib.hid (World.ownsRow.alloc HE11.out (.cells #[.slice none 0 0, .int .i64 0] 24))
        have HN17 := Lib.hid ((blk_alloc_lt w11 (.cells #[.slice none 0 0, .int .i64 0] 24) _ (lt_of_block HN11.out)).trans HN11.out)
        have HB17 := Lib.hid (HB11.out.alloc HB11.out.size (.cells #[.slice none 0 0, .int .i64 0] 24))
        have HK17 := Lib.hid (heap_alloc_new w11 (.cells #[.slice none 0 0, .int .i64 0] 24))
        have HKB := Lib.hid HB11.out.size
        have HD17 := HD11
        obtain ⟨w17, hw17⟩ : ∃ W, W = w11.alloc (.cells #[.slice none 0 0, .int .i64 0] 24) := ⟨_, rfl⟩
        obtain ⟨kb, hkb⟩ : ∃ k, k = w11.heap.size := ⟨_, rfl⟩
        rw [← hkb] at HK17 HKB ⊢
        rw [← hw17] at HB17 HE17 HN17 HK17 ⊢
        clear hw17 hkb
        have hS17 := HKS.out w17 HB17.out
        refine hK _ _ ⟨.inr hS17, ?_⟩
        clear hK K
        try simp only [Act.put, List.setIfInBounds_toArray, List.set_cons_zero, List.set_cons_succ, List.getElem_toArray, List.getElem_cons_succ, List.getElem_cons_zero]
        refine AnyK.one (i := 3) rfl (by kernel_rfl) (by rfl) (fun K hK => ?_)
        refine wp_append_0 _ (.tmp 125) (.tmp 127) 22 rfl wr.heap.size 50 i0 (.agg #[.slice none 0 0, .slice none 0 0, .string ⟨#[]⟩]) 3 64 Tryz.underlying22 HI0.out HY0.out HY1.out HY2.out rfl (by omega) (some ⟨w0.heap.size, 0, none⟩) 0 (by simp [Act.eval]) HE17.out a M.n cap (cat (ed3 M F T) M.n) (by simp [Act.eval]) HLEN.out (HNEW.out _ HB17.out) HONE.out (by unfold maxLen; omega) (by omega) HB17.out.size ?_
        intro ga18 ca18 w18 hown hgrow hat
        have hfr : Fr (fun c => (Value.slice (some ⟨w0.heap.size, 0, none⟩) 0 0).ownBlock = some c) w17 w18 := Fr.of_gb hgrow (fun _ e => e)
        have HB18 := Lib.hid (HB17.out.trans (hfr.below HB17.out.size (fun c e => (World.ownsRow.lt HE17.out c e).1)))
        have HR18 := Lib.hid hown
        have HN18 := Lib.hid ((hfr.block _ (lt_of_block HN17.out) (fun e => HD17.out _ e rfl)).trans HN17.out)
        have HD18 := Lib.hid (show ∀ c, (Value.slice ga18 M.n ca18).ownBlock = some c → c ≠ w1.heap.size from fun c hc e => by
          rcases hat c hc with h1 | h1
          · exact HD17.out c h1 e
          · have := lt_of_block HN17.out; omega)
        have HK18 := Lib.hid ((hfr.block kb (lt_of_block HK17.out) (fun e => own_blk HE17.out HK17.out (by decide) e)).trans HK17.out)
        clear hown hgrow hat hfr
        have hS18 := HKS.out w18 HB18.out
        refine hK.out _ _ (.inr hS18) ?_
        clear hK K
        try simp only [Act.put, List.setIfInBounds_toArray, List.set_cons_zero, List.set_cons_succ, List.getElem_toArray, List.getElem_cons_succ, List.getElem_cons_zero]
        refine AnyK.one (i := 6) rfl (by kernel_rfl) (by rfl) (fun K hK => ?_)
        refine wp_append_lies _ (.tmp 128) (.tmp 130) 22 rfl wr.heap.size 50 i0 (.agg #[.slice none 0 0, .slice none 0 0, .string ⟨#[]⟩]) 3 64 Tryz.underlying22 HI0.out HY0.out HY1.out HY2.out rfl (by omega) (.slice ga18 M.n ca18) M.n _ (by simp [Act.eval]) HR18.out ⟨w1.heap.size, 0, none⟩ 1 1 [.slice fa fl fc, .slice ta tl tc, .string s] (by simp [Act.eval]) rfl (news_st (cs := #[.slice fa fl fc, .slice ta tl tc, .string s]) HN18.out) three_one (by omega) (by unfold maxLen; omega) (by omega) HB18.out.size _ rfl ?_
        intro gb19 cb19 w19 hown hgrow hat hlt
        have hfr : Fr (fun c => (Value.slice ga18 M.n ca18).ownBlock = some c) w18 w19 := Fr.of_gb hgrow (fun _ e => e)
        have HB19 := Lib.hid (HB18.out.trans (hfr.below HB18.out.size (fun c e => (World.ownsRow.lt HR18.out c e).1)))
        have HF19 := Lib.hid hown
        have HK19 := Lib.hid ((hfr.block kb (lt_of_block HK18.out) (fun e => own_blk HR18.out HK18.out (by decide) e)).trans HK18.out)
        clear hown hgrow hat hlt hfr
        have hS19 := HKS.out w19 HB19.out
        refine hK.out _ _ (.inr hS19) ?_
        clear hK K
        try simp only [Act.put, List.setIfInBounds_toArray, List.set_cons_zero, List.set_cons_succ, List.getElem_toArray, List.getElem_cons_succ, List.getElem_cons_zero]
        refine AnyK.tk (i := 9) (v := ?vq199) rfl (by kernel_rfl) hS19 (Or.inl ⟨by kernel_rfl, ?hyq199⟩) ?restq199 (hQ := fun _ _ _ h => HPAN.out _ _ _ _ _ h)
        case hyq199 => rintro wk ⟨s1, s2, s3, s4, s5⟩; go_simp; try with_reducible rfl
        try simp only [Act.put, List.setIfInBounds_toArray, List.set_cons_zero, List.set_cons_succ, List.getElem_toArray, List.getElem_cons_succ, List.getElem_cons_zero]
        have k0 := cell_of HK19.out 0 rfl
        have k1 := cell_of HK19.out 1 rfl
        have g0 : w19.frozen? ⟨kb, 0, none⟩ = false := by have hk := HK19.out; simp [World.frozen?, hk]
        have g1 : w19.frozen? ⟨kb, 1, none⟩ = false := by have hk := HK19.out; simp [World.frozen?, hk]
        refine AnyK.one (i := 11) rfl (by kernel_rfl) (by rfl) (fun K hK => ?_)
        go_simp
        refine hK.out _ _ (.inl rfl) (AnyK.done (by kernel_rfl) ?_ _)
        clear hK K
        have hkb : BxE w19 kb (.slice none 0 0) 0 := HK19.out
        have hfk : Fr (fun c => c = kb) w19 ((w19.setCell ⟨kb, 0, none⟩ (.slice (some ⟨gb19, 0, none⟩) (M.n + 1) cb19)).setCell ⟨kb, 1, none⟩ (.int .i64 mo)) := ((Fr.refl (fun c => c = kb) w19).set (p := ⟨kb, 0, none⟩) (.inl rfl) _).set (p := ⟨kb, 1, none⟩) (.inl rfl) _
        exact HEND.out _ _ _ _ _ _ _ _ _ _ _ (some ⟨gb19, 0, none⟩) cb19 kb (HB19.out.trans (hfk.below HB19.out.size (fun c e => by rw [e]; exact HKB.out))) (bxe_set hkb) (row_kept HF19.out (z := some kb) (Fr.gb (hfk.mono (fun q _ e => by rw [e]))) (fun c hc e => own_blk HF19.out HK19.out (by decide) (by rw [hc]; exact e.symm))) HKB.out
    · skip
      go_simp
      have HE20 := Lib.hid (World.ownsRow.alloc HE1.out (.cells #[.slice none 0 0, .int .i64 0] 24))
      have HB20 := Lib.hid (HB1.out.alloc HB1.out.size (.cells #[.slice none 0 0, .int .i64 0] 24))
      have HK20 := Lib.hid (heap_alloc_new w1 (.cells #[.slice none 0 0, .int .i64 0] 24))
      have HKB := Lib.hid HB1.out.size
      obtain ⟨w20, hw20⟩ : ∃ W, W = w1.alloc (.cells #[.slice none 0 0, .int .i64 0] 24) := ⟨_, rfl⟩
      obtain ⟨kb, hkb⟩ : ∃ k, k = w1.heap.size := ⟨_, rfl⟩
      rw [← hkb] at HK20 HKB ⊢
      rw [← hw20] at HB20 HE20 HK20 ⊢
      clear hw20 hkb
      have hS20 := HKS.out w20 HB20.out
      refine hK _ _ ⟨.inr hS20, ?_⟩
      clear hK K
      try simp only [Act.put, List.setIfInBounds_toArray, List.set_cons_zero, List.set_cons_succ, List.getElem_toArray, List.getElem_cons_succ, List.getElem_cons_zero]
      refine AnyK.two (i := 3) (j := 5) (by kernel_rfl) (wpOp_go rfl rfl fun K hK => ?_) (wpOp_go rfl rfl fun K hK => ?_)
      · skip
        refine wp_append_0 _ (.tmp 125) (.tmp 127) 22 rfl wr.heap.size 50 i0 (.agg #[.slice none 0 0, .slice none 0 0, .string ⟨#[]⟩]) 3 64 Tryz.underlying22 HI0.out HY0.out HY1.out HY2.out rfl (by omega) (some ⟨w0.heap.size, 0, none⟩) 0 (by simp [Act.eval]) HE20.out a M.n cap (cat (ed3 M F T) M.n) (by simp [Act.eval]) HLEN.out (HNEW.out _ HB20.out) HONE.out (by unfold maxLen; omega) (by omega) HB20.out.size ?_
        intro ga21 ca21 w21 hown hgrow hat
        have hfr : Fr (fun c => (Value.slice (some ⟨w0.heap.size, 0, none⟩) 0 0).ownBlock = some c) w20 w21 := Fr.of_gb hgrow (fun _ e => e)
        have HB21 := Lib.hid (HB20.out.trans (hfr.below HB20.out.size (fun c e => (World.ownsRow.lt HE20.out c e).1)))
        have HR21 := Lib.hid hown
        have HK21 := Lib.hid ((hfr.block kb (lt_of_block HK20.out) (fun e => own_blk HE20.out HK20.out (by decide) e)).trans HK20.out)
        clear hown hgrow hat hfr
        have hS21 := HKS.out w21 HB21.out
        refine hK _ _ ⟨.inr hS21, ?_⟩
        clear hK K
        try simp only [Act.put, List.setIfInBounds_toArray, List.set_cons_zero, List.set_cons_succ, List.getElem_toArray, List.getElem_cons_succ, List.getElem_cons_zero]
        refine AnyK.one (i := 5) rfl (by kernel_rfl) (by rfl) (fun K hK => ?_)
        go_simp
        have HR22 := Lib.hid (World.ownsRow.alloc HR21.out (.cells #[.slice fa fl fc, .slice ta tl tc, .string s] 50))
        have HK22 := Lib.hid ((blk_alloc_lt w21 (.cells #[.slice fa fl fc, .slice ta tl tc, .string s] 50) _ (lt_of_block HK21.out)).trans HK21.out)
        have HB22 := Lib.hid (HB21.out.alloc HB21.out.size (.cells #[.slice fa fl fc, .slice ta tl tc, .string s] 50))
        have HN22 := Lib.hid (heap_alloc_new w21 (.cells #[.slice fa fl fc, .slice ta tl tc, .string s] 50))
        have HD22 := Lib.hid (show ∀ c, (Value.slice ga21 M.n ca21).ownBlock = some c → c ≠ w21.heap.size from fun c hc e => by have := (World.ownsRow.lt HR21.out c hc).2; omega)
        obtain ⟨w22, hw22⟩ : ∃ W, W = w21.alloc (.cells #[.slice fa fl fc, .slice ta tl tc, .string s] 50) := ⟨_, rfl⟩
        rw [← hw22] at HB22 HR22 HN22 HK22 ⊢
        clear hw22
        have hS22 := HKS.out w22 HB22.out
        refine hK.out _ _ (.inr hS22) ?_
        clear hK K
        try simp only [Act.put, List.setIfInBounds_toArray, List.set_cons_zero, List.set_cons_succ, List.getElem_toArray, List.getElem_cons_succ, List.getElem_cons_zero]
        refine AnyK.one (i := 6) rfl (by kernel_rfl) (by rfl) (fun K hK => ?_)
        refine wp_append_lies _ (.tmp 128) (.tmp 130) 22 rfl wr.heap.size 50 i0 (.agg #[.slice none 0 0, .slice none 0 0, .string ⟨#[]⟩]) 3 64 Tryz.underlying22 HI0.out HY0.out HY1.out HY2.out rfl (by omega) (.slice ga21 M.n ca21) M.n _ (by simp [Act.eval]) HR22.out ⟨w21.heap.size, 0, none⟩ 1 1 [.slice fa fl fc, .slice ta tl tc, .string s] (by simp [Act.eval]) rfl (news_st (cs := #[.slice fa fl fc, .slice ta tl tc, .string s]) HN22.out) three_one (by omega) (by unfold maxLen; omega) (by omega) HB22.out.size _ rfl ?_
        intro gb23 cb23 w23 hown hgrow hat hlt
        have hfr : Fr (fun c => (Value.slice ga21 M.n ca21).ownBlock = some c) w22 w23 := Fr.of_gb hgrow (fun _ e => e)
        have HB23 := Lib.hid (HB22.out.trans (hfr.below HB22.out.size (fun c e => (World.ownsRow.lt HR22.out c e).1)))
        have HF23 := Lib.hid hown
        have HK23 := Lib.hid ((hfr.block kb (lt_of_block HK22.out) (fun e => own_blk HR22.out HK22.out (by decide) e)).trans HK22.out)
        clear hown hgrow hat hlt hfr
        have hS23 := HKS.out w23 HB23.out
        refine hK.out _ _ (.inr hS23) ?_
        clear hK K
        try simp only [Act.put, List.setIfInBounds_toArray, List.set_cons_zero, List.set_cons_succ, List.getElem_toArray, List.getElem_cons_succ, List.getElem_cons_zero]
        refine AnyK.tk (i := 9) (v := ?vq239) rfl (by kernel_rfl) hS23 (Or.inl ⟨by kernel_rfl, ?hyq239⟩) ?restq239 (hQ := fun _ _ _ h => HPAN.out _ _ _ _ _ h)
        case hyq239 => rintro wk ⟨s1, s2, s3, s4, s5⟩; go_simp; try with_reducible rfl
        try simp only [Act.put, List.setIfInBounds_toArray, List.set_cons_zero, List.set_cons_succ, List.getElem_toArray, List.getElem_cons_succ, List.getElem_cons_zero]
        have k0 := cell_of HK23.out 0 rfl
        have k1 := cell_of HK23.out 1 rfl
        have g0 : w23.frozen? ⟨kb, 0, none⟩ = false := by have hk := HK23.out; simp [World.frozen?, hk]
        have g1 : w23.frozen? ⟨kb, 1, none⟩ = false := by have hk := HK23.out; simp [World.frozen?, hk]
        refine AnyK.one (i := 11) rfl (by kernel_rfl) (by rfl) (fun K hK => ?_)
        go_simp
        refine hK.out _ _ (.inl rfl) (AnyK.done (by kernel_rfl) ?_ _)
        clear hK K
        have hkb : BxE w23 kb (.slice none 0 0) 0 := HK23.out
        have hfk : Fr (fun c => c = kb) w23 ((w23.setCell ⟨kb, 0, none⟩ (.slice (some ⟨gb23, 0, none⟩) (M.n + 1) cb23)).setCell ⟨kb, 1, none⟩ (.int .i64 mo)) := ((Fr.refl (fun c => c = kb) w23).set (p := ⟨kb, 0, none⟩) (.inl rfl) _).set (p := ⟨kb, 1, none⟩) (.inl rfl) _
        exact HEND.out _ _ _ _ _ _ _ _ _ _ _ (some ⟨gb23, 0, none⟩) cb23 kb (HB23.out.trans (hfk.below HB23.out.size (fun c e => by rw [e]; exact HKB.out))) (bxe_set hkb) (row_kept HF23.out (z := some kb) (Fr.gb (hfk.mono (fun q _ e => by rw [e]))) (fun c hc e => own_blk HF23.out HK23.out (by decide) (by rw [hc]; exact e.symm))) HKB.out
      · skip
        go_simp
        have HE24 := Lib.hid (World.ownsRow.alloc HE20.out (.cells #[.slice fa fl fc, .slice ta tl tc, .string s] 50))
        have HK24 := Lib.hid ((blk_alloc_lt w20 (.cells #[.slice fa fl fc, .slice ta tl tc, .string s] 50) _ (lt_of_block HK20.out)).trans HK20.out)
        have HB24 := Lib.hid (HB20.out.alloc HB20.out.size (.cells #[.slice fa fl fc, .slice ta tl tc, .string s] 50))
        have HN24 := Lib.hid (heap_alloc_new w20 (.cells #[.slice fa fl fc, .slice ta tl tc, .string s] 50))
        have HD24 := Lib.hid (show ∀ c, (Value.slice (some ⟨w0.heap.size, 0, none⟩) 0 0).ownBlock = some c → c ≠ w20.heap.size from fun c hc e => by have := (World.ownsRow.lt HE20.out c hc).2; omega)
        obtain ⟨w24, hw24⟩ : ∃ W, W = w20.alloc (.cells #[.slice fa fl fc, .slice ta tl tc, .string s] 50) := ⟨_, rfl⟩
        rw [← hw24] at HB24 HE24 HN24 HK24 ⊢
        clear hw24
        have hS24 := HKS.out w24 HB24.out
        refine hK _ _ ⟨.inr hS24, ?_⟩
        clear hK K
        try simp only [Act.put, List.setIfInBounds_toArray, List.set_cons_zero, List.set_cons_succ, List.getElem_toArray, List.getElem_cons_succ, List.getElem_cons_zero]
        refine AnyK.one (i := 3) rfl (by kernel_rfl) (by rfl) (fun K hK => ?_)
        refine wp_append_0 _ (.tmp 125) (.tmp 127) 22 rfl wr.heap.size 50 i0 (.agg #[.slice none 0 0, .slice none 0 0, .string ⟨#[]⟩]) 3 64 Tryz.underlying22 HI0.out HY0.out HY1.out HY2.out rfl (by omega) (some ⟨w0.heap.size, 0, none⟩) 0 (by simp [Act.eval]) HE24.out a M.n cap (cat (ed3 M F T) M.n) (by simp [Act.eval]) HLEN.out (HNEW.out _ HB24.out) HONE.out (by unfold maxLen; omega) (by omega) HB24.out.size ?_
        intro ga25 ca25 w25 hown hgrow hat
        have hfr : Fr (fun c => (Value.slice (some ⟨w0.heap.size, 0, none⟩) 0 0).ownBlock = some c) w24 w25 := Fr.of_gb hgrow (fun _ e => e)
        have HB25 := Lib.hid (HB24.out.trans (hfr.below HB24.out.size (fun c e => (World.ownsRow.lt HE24.out c e).1)))
        have HR25 := Lib.hid hown
        have HN25 := Lib.hid ((hfr.block _ (lt_of_block HN24.out) (fun e => HD24.out _ e rfl)).trans HN24.out)
        have HD25 := Lib.hid (show ∀ c, (Value.slice ga25 M.n ca25).ownBlock = some c → c ≠ w20.heap.size from fun c hc e => by
          rcases hat c hc with h1 | h1
          · exact HD24.out c h1 e
          · have := lt_of_block HN24.out; omega)
        have HK25 := Lib.hid ((hfr.block kb (lt_of_block HK24.out) (fun e => own_blk HE24.out HK24.out (by decide) e)).trans HK24.out)
        clear hown hgrow hat hfr
        have hS25 := HKS.out w25 HB25.out
        refine hK.out _ _ (.inr hS25) ?_
        clear hK K
        try simp only [Act.put, List.setIfInBounds_toArray, List.set_cons_zero, List.set_cons_succ, List.getElem_toArray, List.getElem_cons_succ, List.getElem_cons_zero]
        refine AnyK.one (i := 6) rfl (by kernel_rfl) (by rfl) (fun K hK => ?_)
        refine wp_append_lies _ (.tmp 128) (.tmp 130) 22 rfl wr.heap.size 50 i0 (.agg #[.slice none 0 0, .slice none 0 0, .string ⟨#[]⟩]) 3 64 Tryz.underlying22 HI0.out HY0.out HY1.out HY2.out rfl (by omega) (.slice ga25 M.n ca25) M.n _ (by simp [Act.eval]) HR25.out ⟨w20.heap.size, 0, none⟩ 1 1 [.slice fa fl fc, .slice ta tl tc, .string s] (by simp [Act.eval]) rfl (news_st (cs := #[.slice fa fl fc, .slice ta tl tc, .string s]) HN25.out) three_one (by omega) (by unfold maxLen; omega) (by omega) HB25.out.size _ rfl ?_
        intro gb26 cb26 w26 hown hgrow hat hlt
        have hfr : Fr (fun c => (Value.slice ga25 M.n ca25).ownBlock = some c) w25 w26 := Fr.of_gb hgrow (fun _ e => e)
        have HB26 := Lib.hid (HB25.out.trans (hfr.below HB25.out.size (fun c e => (World.ownsRow.lt HR25.out c e).1)))
        have HF26 := Lib.hid hown
        have HK26 := Lib.hid ((hfr.block kb (lt_of_block HK25.out) (fun e => own_blk HR25.out HK25.out (by decide) e)).trans HK25.out)
        clear hown hgrow hat hlt hfr
        have hS26 := HKS.out w26 HB26.out
        refine hK.out _ _ (.inr hS26) ?_
        clear hK K
        try simp only [Act.put, List.setIfInBounds_toArray, List.set_cons_zero, List.set_cons_succ, List.getElem_toArray, List.getElem_cons_succ, List.getElem_cons_zero]
        refine AnyK.tk (i := 9) (v := ?vq269) rfl (by kernel_rfl) hS26 (Or.inl ⟨by kernel_rfl, ?hyq269⟩) ?restq269 (hQ := fun _ _ _ h => HPAN.out _ _ _ _ _ h)
        case hyq269 => rintro wk ⟨s1, s2, s3, s4, s5⟩; go_simp; try with_reducible rfl
        try simp only [Act.put, List.setIfInBounds_toArray, List.set_cons_zero, List.set_cons_succ, List.getElem_toArray, List.getElem_cons_succ, List.getElem_cons_zero]
        have k0 := cell_of HK26.out 0 rfl
        have k1 := cell_of HK26.out 1 rfl
        have g0 : w26.frozen? ⟨kb, 0, none⟩ = false := by have hk := HK26.out; simp [World.frozen?, hk]
        have g1 : w26.frozen? ⟨kb, 1, none⟩ = false := by have hk := HK26.out; simp [World.frozen?, hk]
        refine AnyK.one (i := 11) rfl (by kernel_rfl) (by rfl) (fun K hK => ?_)
        go_simp
        refine hK.out _ _ (.inl rfl) (AnyK.done (by kernel_rfl) ?_ _)
        clear hK K
        have hkb : BxE w26 kb (.slice none 0 0) 0 := HK26.out
        have hfk : Fr (fun c => c = kb) w26 ((w26.setCell ⟨kb, 0, none⟩ (.slice (some ⟨gb26, 0, none⟩) (M.n + 1) cb26)).setCell ⟨kb, 1, none⟩ (.int .i64 mo)) := ((Fr.refl (fun c => c = kb) w26).set (p := ⟨kb, 0, none⟩) (.inl rfl) _).set (p := ⟨kb, 1, none⟩) (.inl rfl) _
        exact HEND.out _ _ _ _ _ _ _ _ _ _ _ (some ⟨gb26, 0, none⟩) cb26 kb (HB26.out.trans (hfk.below HB26.out.size (fun c e => by rw [e]; exact HKB.out))) (bxe_set hkb) (row_kept HF26.out (z := some kb) (Fr.gb (hfk.mono (fun q _ e => by rw [e]))) (fun c hc e => own_blk HF26.out HK26.out (by decide) (by rw [hc]; exact e.symm))) HKB.out
  · skip
    go_simp
    have HB27 := Lib.hid (HB0.out.alloc HB0.out.size (.cells #[.slice fa fl fc, .slice ta tl tc, .string s] 50))
    have HN27 := Lib.hid (heap_alloc_new w0 (.cells #[.slice fa fl fc, .slice ta tl tc, .string s] 50))
    obtain ⟨w27, hw27⟩ : ∃ W, W = w0.alloc (.cells #[.slice fa fl fc, .slice ta tl tc, .string s] 50) := ⟨_, rfl⟩
    rw [← hw27] at HB27 HN27 ⊢
    clear hw27
    have hS27 := HKS.out w27 HB27.out
    refine hK _ _ ⟨.inr hS27, ?_⟩
    clear hK K
    try simp only [Act.put, List.setIfInBounds_toArray, List.set_cons_zero, List.set_cons_succ, List.getElem_toArray, List.getElem_cons_succ, List.getElem_cons_zero]
    refine AnyK.two (i := 0) (j := 10) (by kernel_rfl) (wpOp_go rfl rfl fun K hK => ?_) (wpOp_go rfl rfl fun K hK => ?_)
    · skip
      go_simp
      have HN28 := Lib.hid ((blk_alloc_lt w27 (.cells #[] 50) _ (lt_of_block HN27.out)).trans HN27.out)
      have HB28 := Lib.hid (HB27.out.alloc HB27.out.size (.cells #[] 50))
      have HE28 := Lib.hid (row_new w27 HB27.out.size 50 3)
      have HD28 := Lib.hid (show ∀ c, (Value.slice (some ⟨w27.heap.size, 0, none⟩) 0 0).ownBlock = some c → c ≠ w0.heap.size from fun c hc e => by have h1 := lt_of_block HN27.out; have h2 : w27.heap.size = c := (by simpa [Value.ownBlock] using hc); omega)
      obtain ⟨w28, hw28⟩ : ∃ W, W = w27.alloc (.cells #[] 50) := ⟨_, rfl⟩
      rw [← hw28] at HB28 HE28 HN28 ⊢
      clear hw28
      have hS28 := HKS.out w28 HB28.out
      refine hK _ _ ⟨.inr hS28, ?_⟩
      clear hK K
      try simp only [Act.put, List.setIfInBounds_toArray, List.set_cons_zero, List.set_cons_succ, List.getElem_toArray, List.getElem_cons_succ, List.getElem_cons_zero]
      refine AnyK.two (i := 3) (j := 10) (by kernel_rfl) (wpOp_go rfl rfl fun K hK => ?_) (wpOp_go rfl rfl fun K hK => ?_)
      · skip
        refine wp_append_0 _ (.tmp 125) (.tmp 127) 22 rfl wr.heap.size 50 i0 (.agg #[.slice none 0 0, .slice none 0 0, .string ⟨#[]⟩]) 3 64 Tryz.underlying22 HI0.out HY0.out HY1.out HY2.out rfl (by omega) (some ⟨w27.heap.size, 0, none⟩) 0 (by simp [Act.eval]) HE28.out a M.n cap (cat (ed3 M F T) M.n) (by simp [Act.eval]) HLEN.out (HNEW.out _ HB28.out) HONE.out (by unfold maxLen; omega) (by omega) HB28.out.size ?_
        intro ga29 ca29 w29 hown hgrow hat
        have hfr : Fr (fun c => (Value.slice (some ⟨w27.heap.size, 0, none⟩) 0 0).ownBlock = some c) w28 w29 := Fr.of_gb hgrow (fun _ e => e)
        have HB29 := Lib.hid (HB28.out.trans (hfr.below HB28.out.size (fun c e => (World.ownsRow.lt HE28.out c e).1)))
        have HR29 := Lib.hid hown
        have HN29 := Lib.hid ((hfr.block _ (lt_of_block HN28.out) (fun e => HD28.out _ e rfl)).trans HN28.out)
        have HD29 := Lib.hid (show ∀ c, (Value.slice ga29 M.n ca29).ownBlock = some c → c ≠ w0.heap.size from fun c hc e => by
          rcases hat c hc with h1 | h1
          · exact HD28.out c h1 e
          · have := lt_of_block HN28.out; omega)
        clear hown hgrow hat hfr
        have hS29 := HKS.out w29 HB29.out
        refine hK _ _ ⟨.inr hS29, ?_⟩
        clear hK K
        try simp only [Act.put, List.setIfInBounds_toArray, List.set_cons_zero, List.set_cons_succ, List.getElem_toArray, List.getElem_cons_succ, List.getElem_cons_zero]
        refine AnyK.two (i := 6) (j := 10) (by kernel_rfl) (wpOp_go rfl rfl fun K hK => ?_) (wpOp_go rfl rfl fun K hK => ?_)
        · skip
          refine wp_append_lies _ (.tmp 128) (.tmp 130) 22 rfl wr.heap.size 50 i0 (.agg #[.slice none 0 0, .slice none 0 0, .string ⟨#[]⟩]) 3 64 Tryz.underlying22 HI0.out HY0.out HY1.out HY2.out rfl (by omega) (.slice ga29 M.n ca29) M.n _ (by simp [Act.eval]) HR29.out ⟨w0.heap.size, 0, none⟩ 1 1 [.slice fa fl fc, .slice ta tl tc, .string s] (by simp [Act.eval]) rfl (news_st (cs := #[.slice fa fl fc, .slice ta tl tc, .string s]) HN29.out) three_one (by omega) (by unfold maxLen; omega) (by omega) HB29.out.size _ rfl ?_
          intro gb30 cb30 w30 hown hgrow hat hlt
          have hfr : Fr (fun c => (Value.slice ga29 M.n ca29).ownBlock = some c) w29 w30 := Fr.of_gb hgrow (fun _ e => e)
          have HB30 := Lib.hid (HB29.out.trans (hfr.below HB29.out.size (fun c e => (World.ownsRow.lt HR29.out c e).1)))
          have HF30 := Lib.hid hown
          clear hown hgrow hat hlt hfr
          have hS30 := HKS.out w30 HB30.out
          refine hK _ _ ⟨.inr hS30, ?_⟩
          clear hK K
          try simp only [Act.put, List.setIfInBounds_toArray, List.set_cons_zero, List.set_cons_succ, List.getElem_toArray, List.getElem_cons_succ, List.getElem_cons_zero]
          refine AnyK.tk (i := 9) (v := ?vq309) rfl (by kernel_rfl) hS30 (Or.inl ⟨by kernel_rfl, ?hyq309⟩) ?restq309 (hQ := fun _ _ _ h => HPAN.out _ _ _ _ _ h)
          case hyq309 => rintro wk ⟨s1, s2, s3, s4, s5⟩; go_simp; try with_reducible rfl
          try simp only [Act.put, List.setIfInBounds_toArray, List.set_cons_zero, List.set_cons_succ, List.getElem_toArray, List.getElem_cons_succ, List.getElem_cons_zero]
          refine AnyK.one (i := 10) rfl (by kernel_rfl) (by rfl) (fun K hK => ?_)
          go_simp
          have HF31 := Lib.hid (World.ownsRow.alloc HF30.out (.cells #[.slice none 0 0, .int .i64 0] 24))
          have HB31 := Lib.hid (HB30.out.alloc HB30.out.size (.cells #[.slice none 0 0, .int .i64 0] 24))
          have HK31 := Lib.hid (heap_alloc_new w30 (.cells #[.slice none 0 0, .int .i64 0] 24))
          have HKB := Lib.hid HB30.out.size
          obtain ⟨w31, hw31⟩ : ∃ W, W = w30.alloc (.cells #[.slice none 0 0, .int .i64 0] 24) := ⟨_, rfl⟩
          obtain ⟨kb, hkb⟩ : ∃ k, k = w30.heap.size := ⟨_, rfl⟩
          rw [← hkb] at HK31 HKB ⊢
          rw [← hw31] at HB31 HK31 HF31 ⊢
          clear hw31 hkb
          have hS31 := HKS.out w31 HB31.out
          refine hK.out _ _ (.inr hS31) ?_
          clear hK K
          try simp only [Act.put, List.setIfInBounds_toArray, List.set_cons_zero, List.set_cons_succ, List.getElem_toArray, List.getElem_cons_succ, List.getElem_cons_zero]
          have k0 := cell_of HK31.out 0 rfl
          have k1 := cell_of HK31.out 1 rfl
          have g0 : w31.frozen? ⟨kb, 0, none⟩ = false := by have hk := HK31.out; simp [World.frozen?, hk]
          have g1 : w31.frozen? ⟨kb, 1, none⟩ = false := by have hk := HK31.out; simp [World.frozen?, hk]
          refine AnyK.one (i := 11) rfl (by kernel_rfl) (by rfl) (fun K hK => ?_)
          go_simp
          refine hK.out _ _ (.inl rfl) (AnyK.done (by kernel_rfl) ?_ _)
          clear hK K
          have hkb : BxE w31 kb (.slice none 0 0) 0 := HK31.out
          have hfk : Fr (fun c => c = kb) w31 ((w31.setCell ⟨kb, 0, none⟩ (.slice (some ⟨gb30, 0, none⟩) (M.n + 1) cb30)).setCell ⟨kb, 1, none⟩ (.int .i64 mo)) := ((Fr.refl (fun c => c = kb) w31).set (p := ⟨kb, 0, none⟩) (.inl rfl) _).set (p := ⟨kb, 1, none⟩) (.inl rfl) _
          exact HEND.out _ _ _ _ _ _ _ _ _ _ _ (some ⟨gb30, 0, none⟩) cb30 kb (HB31.out.trans (hfk.below HB31.out.size (fun c e => by rw [e]; exact HKB.out))) (bxe_set hkb) (row_kept HF31.out (z := some kb) (Fr.gb (hfk.mono (fun q _ e => by rw [e]))) (fun c hc e => own_blk HF31.out HK31.out (by decide) (by rw [hc]; exact e.symm))) HKB.out
        · skip
          go_simp
          have HR32 := Lib.hid (World.ownsRow.alloc HR29.out (.cells #[.slice none 0 0, .int .i64 0] 24))
          have HN32 := Lib.hid ((blk_alloc_lt w29 (.cells #[.slice none 0 0, .int .i64 0] 24) _ (lt_of_block HN29.out)).trans HN29.out)
          have HB32 := Lib.hid (HB29.out.alloc HB29.out.size (.cells #[.slice none 0 0, .int .i64 0] 24))
          have HK32 := Lib.hid (heap_alloc_new w29 (.cells #[.slice none 0 0, .int .i64 0] 24))
          have HKB := Lib.hid HB29.out.size
          have HD32 := HD29
          obtain ⟨w32, hw32⟩ : ∃ W, W = w29.alloc (.cells #[.slice none 0 0, .int .i64 0] 24) := ⟨_, rfl⟩
          obtain ⟨kb, hkb⟩ : ∃ k, k = w29.heap.size := ⟨_, rfl⟩
          rw [← hkb] at HK32 HKB ⊢
          rw [← hw32] at HB32 HR32 HN32 HK32 ⊢
          clear hw32 hkb
          have hS32 := HKS.out w32 HB32.out
          refine hK _ _ ⟨.inr hS32, ?_⟩
          clear hK K
          try simp only [Act.put, List.setIfInBounds_toArray, List.set_cons_zero, List.set_cons_succ, List.getElem_toArray, List.getElem_cons_succ, List.getElem_cons_zero]
          refine AnyK.one (i := 6) rfl (by kernel_rfl) (by rfl) (fun K hK => ?_)
          refine wp_append_lies _ (.tmp 128) (.tmp 130) 22 rfl wr.heap.size 50 i0 (.agg #[.slice none 0 0, .slice none 0 0, .string ⟨#[]⟩]) 3 64 Tryz.underlying22 HI0.out HY0.out HY1.out HY2.out rfl (by omega) (.slice ga29 M.n ca29) M.n _ (by simp [Act.eval]) HR32.out ⟨w0.heap.size, 0, none⟩ 1 1 [.slice fa fl fc, .slice ta tl tc, .string s] (by simp [Act.eval]) rfl (news_st (cs := #[.slice fa fl fc, .slice ta tl tc, .string s]) HN32.out) three_one (by omega) (by unfold maxLen; omega) (by omega) HB32.out.size _ rfl ?_
          intro gb33 cb33 w33 hown hgrow hat hlt
          have hfr : Fr (fun c => (Value.slice ga29 M.n ca29).ownBlock = some c) w32 w33 := Fr.of_gb hgrow (fun _ e => e)
          have HB33 := Lib.hid (HB32.out.trans (hfr.below HB32.out.size (fun c e => (World.ownsRow.lt HR32.out c e).1)))
          have HF33 := Lib.hid hown
          have HK33 := Lib.hid ((hfr.block kb (lt_of_block HK32.out) (fun e => own_blk HR32.out HK32.out (by decide) e)).trans HK32.out)
          clear hown hgrow hat hlt hfr
          have hS33 := HKS.out w33 HB33.out
          refine hK.out _ _ (.inr hS33) ?_
          clear hK K
          try simp only [Act.put, List.setIfInBounds_toArray, List.set_cons_zero, List.set_cons_succ, List.getElem_toArray, List.getElem_cons_succ, List.getElem_cons_zero]
          refine AnyK.tk (i := 9) (v := ?vq339) rfl (by kernel_rfl) hS33 (Or.inl ⟨by kernel_rfl, ?hyq339⟩) ?restq339 (hQ := fun _ _ _ h => HPAN.out _ _ _ _ _ h)
          case hyq339 => rintro wk ⟨s1, s2, s3, s4, s5⟩; go_simp; try with_reducible rfl
          try simp only [Act.put, List.setIfInBounds_toArray, List.set_cons_zero, List.set_cons_succ, List.getElem_toArray, List.getElem_cons_succ, List.getElem_cons_zero]
          have k0 := cell_of HK33.out 0 rfl
          have k1 := cell_of HK33.out 1 rfl
          have g0 : w33.frozen? ⟨kb, 0, none⟩ = false := by have hk := HK33.out; simp [World.frozen?, hk]
          have g1 : w33.frozen? ⟨kb, 1, none⟩ = false := by have hk := HK33.out; simp [World.frozen?, hk]
          refine AnyK.one (i := 11) rfl (by kernel_rfl) (by rfl) (fun K hK => ?_)
          go_simp
          refine hK.out _ _ (.inl rfl) (AnyK.done (by kernel_rfl) ?_ _)
          clear hK K
          have hkb : BxE w33 kb (.slice none 0 0) 0 := HK33.out
          have hfk : Fr (fun c => c = kb) w33 ((w33.setCell ⟨kb, 0, none⟩ (.slice (some ⟨gb33, 0, none⟩) (M.n + 1) cb33)).setCell ⟨kb, 1, none⟩ (.int .i64 mo)) := ((Fr.refl (fun c => c = kb) w33).set (p := ⟨kb, 0, none⟩) (.inl rfl) _).set (p := ⟨kb, 1, none⟩) (.inl rfl) _
          exact HEND.out _ _ _ _ _ _ _ _ _ _ _ (some ⟨gb33, 0, none⟩) cb33 kb (HB33.out.trans (hfk.below HB33.out.size (fun c e => by rw [e]; exact HKB.out))) (bxe_set hkb) (row_kept HF33.out (z := some kb) (Fr.gb (hfk.mono (fun q _ e => by rw [e]))) (fun c hc e => own_blk HF33.out HK33.out (by decide) (by rw [hc]; exact e.symm))) HKB.out
      · skip
        go_simp
        have HE34 := Lib.hid (World.ownsRow.alloc HE28.out (.cells #[.slice none 0 0, .int .i64 0] 24))
        have HN34 := Lib.hid ((blk_alloc_lt w28 (.cells #[.slice none 0 0, .int .i64 0] 24) _ (lt_of_block HN28.out)).trans HN28.out)
        have HB34 := Lib.hid (HB28.out.alloc HB28.out.size (.cells #[.slice none 0 0, .int .i64 0] 24))
        have HK34 := Lib.hid (heap_alloc_new w28 (.cells #[.slice none 0 0, .int .i64 0] 24))
        have HKB := Lib.hid HB28.out.size
        have HD34 := HD28
        obtain ⟨w34, hw34⟩ : ∃ W, W = w28.alloc (.cells #[.slice none 0 0, .int .i64 0] 24) := ⟨_, rfl⟩
        obtain ⟨kb, hkb⟩ : ∃ k, k = w28.heap.size := ⟨_, rfl⟩
        rw [← hkb] at HK34 HKB ⊢
        rw [← hw34] at HB34 HE34 HN34 HK34 ⊢
        clear hw34 hkb
        have hS34 := HKS.out w34 HB34.out
        refine hK _ _ ⟨.inr hS34, ?_⟩
        clear hK K
        try simp only [Act.put, List.setIfInBounds_toArray, List.set_cons_zero, List.set_cons_succ, List.getElem_toArray, List.getElem_cons_succ, List.getElem_cons_zero]
        refine AnyK.one (i := 3) rfl (by kernel_rfl) (by rfl) (fun K hK => ?_)
        refine wp_append_0 _ (.tmp 125) (.tmp 127) 22 rfl wr.heap.size 50 i0 (.agg #[.slice none 0 0, .slice none 0 0, .string ⟨#[]⟩]) 3 64 Tryz.underlying22 HI0.out HY0.out HY1.out HY2.out rfl (by omega) (some ⟨w27.heap.size, 0, none⟩) 0 (by simp [Act.eval]) HE34.out a M.n cap (cat (ed3 M F T) M.n) (by simp [Act.eval]) HLEN.out (HNEW.out _ HB34.out) HONE.out (by unfold maxLen; omega) (by omega) HB34.out.size ?_
        intro ga35 ca35 w35 hown hgrow hat
        have hfr : Fr (fun c => (Value.slice (some ⟨w27.heap.size, 0, none⟩) 0 0).ownBlock = some c) w34 w35 := Fr.of_gb hgrow (fun _ e => e)
        have HB35 := Lib.hid (HB34.out.trans (hfr.below HB34.out.size (fun c e => (World.ownsRow.lt HE34.out c e).1)))
        have HR35 := Lib.hid hown
        have HN35 := Lib.hid ((hfr.block _ (lt_of_block HN34.out) (fun e => HD34.out _ e rfl)).trans HN34.out)
        have HD35 := Lib.hid (show ∀ c, (Value.slice ga35 M.n ca35).ownBlock = some c → c ≠ w0.heap.size from fun c hc e => by
          rcases hat c hc with h1 | h1
          · exact HD34.out c h1 e
          · have := lt_of_block HN34.out; omega)
        have HK35 := Lib.hid ((hfr.block kb (lt_of_block HK34.out) (fun e => own_blk HE34.out HK34.out (by decide) e)).trans HK34.out)
        clear hown hgrow hat hfr
        have hS35 := HKS.out w35 HB35.out
        refine hK.out _ _ (.inr hS35) ?_
        clear hK K
        try simp only [Act.put, List.setIfInBounds_toArray, List.set_cons_zero, List.set_cons_succ, List.getElem_toArray, List.getElem_cons_succ, List.getElem_cons_zero]
        refine AnyK.one (i := 6) rfl (by kernel_rfl) (by rfl) (fun K hK => ?_)
        refine wp_append_lies _ (.tmp 128) (.tmp 130) 22 rfl wr.heap.size 50 i0 (.agg #[.slice none 0 0, .slice none 0 0, .string ⟨#[]⟩]) 3 64 Tryz.underlying22 HI0.out HY0.out HY1.out HY2.out rfl (by omega) (.slice ga35 M.n ca35) M.n _ (by simp [Act.eval]) HR35.out ⟨w0.heap.size, 0, none⟩ 1 1 [.slice fa fl fc, .slice ta tl tc, .string s] (by simp [Act.eval]) rfl (news_st (cs := #[.slice fa fl fc, .slice ta tl tc, .string s]) HN35.out) three_one (by omega) (by unfold maxLen; omega) (by omega) HB35.out.size _ rfl ?_
        intro gb36 cb36 w36 hown hgrow hat hlt
        have hfr : Fr (fun c => (Value.slice ga35 M.n ca35).ownBlock = some c) w35 w36 := Fr.of_gb hgrow (fun _ e => e)
        have HB36 := Lib.hid (HB35.out.trans (hfr.below HB35.out.size (fun c e => (World.ownsRow.lt HR35.out c e).1)))
        have HF36 := Lib.hid hown
        have HK36 := Lib.hid ((hfr.block kb (lt_of_block HK35.out) (fun e => own_blk HR35.out HK35.out (by decide) e)).trans HK35.out)
        clear hown hgrow hat hlt hfr
        have hS36 := HKS.out w36 HB36.out
        refine hK.out _ _ (.inr hS36) ?_
        clear hK K
        try simp only [Act.put, List.setIfInBounds_toArray, List.set_cons_zero, List.set_cons_succ, List.getElem_toArray, List.getElem_cons_succ, List.getElem_cons_zero]
        refine AnyK.tk (i := 9) (v := ?vq369) rfl (by kernel_rfl) hS36 (Or.inl ⟨by kernel_rfl, ?hyq369⟩) ?restq369 (hQ := fun _ _ _ h => HPAN.out _ _ _ _ _ h)
        case hyq369 => rintro wk ⟨s1, s2, s3, s4, s5⟩; go_simp; try with_reducible rfl
        try simp only [Act.put, List.setIfInBounds_toArray, List.set_cons_zero, List.set_cons_succ, List.getElem_toArray, List.getElem_cons_succ, List.getElem_cons_zero]
        have k0 := cell_of HK36.out 0 rfl
        have k1 := cell_of HK36.out 1 rfl
        have g0 : w36.frozen? ⟨kb, 0, none⟩ = false := by have hk := HK36.out; simp [World.frozen?, hk]
        have g1 : w36.frozen? ⟨kb, 1, none⟩ = false := by have hk := HK36.out; simp [World.frozen?, hk]
        refine AnyK.one (i := 11) rfl (by kernel_rfl) (by rfl) (fun K hK => ?_)
        go_simp
        refine hK.out _ _ (.inl rfl) (AnyK.done (by kernel_rfl) ?_ _)
        clear hK K
        have hkb : BxE w36 kb (.slice none 0 0) 0 := HK36.out
        have hfk : Fr (fun c => c = kb) w36 ((w36.setCell ⟨kb, 0, none⟩ (.slice (some ⟨gb36, 0, none⟩) (M.n + 1) cb36)).setCell ⟨kb, 1, none⟩ (.int .i64 mo)) := ((Fr.refl (fun c => c = kb) w36).set (p := ⟨kb, 0, none⟩) (.inl rfl) _).set (p := ⟨kb, 1, none⟩) (.inl rfl) _
        exact HEND.out _ _ _ _ _ _ _ _ _ _ _ (some ⟨gb36, 0, none⟩) cb36 kb (HB36.out.trans (hfk.below HB36.out.size (fun c e => by rw [e]; exact HKB.out))) (bxe_set hkb) (row_kept HF36.out (z := some kb) (Fr.gb (hfk.mono (fun q _ e => by rw [e]))) (fun c hc e => own_blk HF36.out HK36.out (by decide) (by rw [hc]; exact e.symm))) HKB.out
    · skip
      go_simp
      have HN37 := Lib.hid ((blk_alloc_lt w27 (.cells #[.slice none 0 0, .int .i64 0] 24) _ (lt_of_block HN27.out)).trans HN27.out)
      have HB37 := Lib.hid (HB27.out.alloc HB27.out.size (.cells #[.slice none 0 0, .int .i64 0] 24))
      have HK37 := Lib.hid (heap_alloc_new w27 (.cells #[.slice none 0 0, .int .i64 0] 24))
      have HKB := Lib.hid HB27.out.size
      obtain ⟨w37, hw37⟩ : ∃ W, W = w27.alloc (.cells #[.slice none 0 0, .int .i64 0] 24) := ⟨_, rfl⟩
      obtain ⟨kb, hkb⟩ : ∃ k, k = w27.heap.size := ⟨_, rfl⟩
      rw [← hkb] at HK37 HKB ⊢
      rw [← hw37] at HB37 HN37 HK37 ⊢
      clear hw37 hkb
      have hS37 := HKS.out w37 HB37.out
      refine hK _ _ ⟨.inr hS37, ?_⟩
      clear hK K
      try simp only [Act.put, List.setIfInBounds_toArray, List.set_cons_zero, List.set_cons_succ, List.getElem_toArray, List.getElem_cons_succ, List.getElem_cons_zero]
      refine AnyK.one (i := 0) rfl (by kernel_rfl) (by rfl) (fun K hK => ?_)
      go_simp
      have HN38 := Lib.hid ((blk_alloc_lt w37 (.cells #[] 50) _ (lt_of_block HN37.out)).trans HN37.out)
      have HK38 := Lib.hid ((blk_alloc_lt w37 (.cells #[] 50) _ (lt_of_block HK37.out)).trans HK37.out)
      have HB38 := Lib.hid (HB37.out.alloc HB37.out.size (.cells #[] 50))
      have HE38 := Lib.hid (row_new w37 HB37.out.size 50 3)
      have HD38 := Lib.hid (show ∀ c, (Value.slice (some ⟨w37.heap.size, 0, none⟩) 0 0).ownBlock = some c → c ≠ w0.heap.size from fun c hc e => by have h1 := lt_of_block HN37.out; have h2 : w37.heap.size = c := (by simpa [Value.ownBlock] using hc); omega)
      obtain ⟨w38, hw38⟩ : ∃ W, W = w37.alloc (.cells #[] 50) := ⟨_, rfl⟩
      rw [← hw38] at HB38 HE38 HN38 HK38 ⊢
      clear hw38
      have hS38 := HKS.out w38 HB38.out
      refine hK.out _ _ (.inr hS38) ?_
      clear hK K
      try simp only [Act.put, List.setIfInBounds_toArray, List.set_cons_zero, List.set_cons_succ, List.getElem_toArray, List.getElem_cons_succ, List.getElem_cons_zero]
      refine AnyK.one (i := 3) rfl (by kernel_rfl) (by rfl) (fun K hK => ?_)
      refine wp_append_0 _ (.tmp 125) (.tmp 127) 22 rfl wr.heap.size 50 i0 (.agg #[.slice none 0 0, .slice none 0 0, .string ⟨#[]⟩]) 3 64 Tryz.underlying22 HI0.out HY0.out HY1.out HY2.out rfl (by omega) (some ⟨w37.heap.size, 0, none⟩) 0 (by simp [Act.eval]) HE38.out a M.n cap (cat (ed3 M F T) M.n) (by simp [Act.eval]) HLEN.out (HNEW.out _ HB38.out) HONE.out (by unfold maxLen; omega) (by omega) HB38.out.size ?_
      intro ga39 ca39 w39 hown hgrow hat
      have hfr : Fr (fun c => (Value.slice (some ⟨w37.heap.size, 0, none⟩) 0 0).ownBlock = some c) w38 w39 := Fr.of_gb hgrow (fun _ e => e)
      have HB39 := Lib.hid (HB38.out.trans (hfr.below HB38.out.size (fun c e => (World.ownsRow.lt HE38.out c e).1)))
      have HR39 := Lib.hid hown
      have HN39 := Lib.hid ((hfr.block _ (lt_of_block HN38.out) (fun e => HD38.out _ e rfl)).trans HN38.out)
      have HD39 := Lib.hid (show ∀ c, (Value.slice ga39 M.n ca39).ownBlock = some c → c ≠ w0.heap.size from fun c hc e => by
        rcases hat c hc with h1 | h1
        · exact HD38.out c h1 e
        · have := lt_of_block HN38.out; omega)
      have HK39 := Lib.hid ((hfr.block kb (lt_of_block HK38.out) (fun e => own_blk HE38.out HK38.out (by decide) e)).trans HK38.out)
      clear hown hgrow hat hfr
      have hS39 := HKS.out w39 HB39.out
      refine hK.out _ _ (.inr hS39) ?_
      clear hK K
      try simp only [Act.put, List.setIfInBounds_toArray, List.set_cons_zero, List.set_cons_succ, List.getElem_toArray, List.getElem_cons_succ, List.getElem_cons_zero]
      refine AnyK.one (i := 6) rfl (by kernel_rfl) (by rfl) (fun K hK => ?_)
      refine wp_append_lies _ (.tmp 128) (.tmp 130) 22 rfl wr.heap.size 50 i0 (.agg #[.slice none 0 0, .slice none 0 0, .string ⟨#[]⟩]) 3 64 Tryz.underlying22 HI0.out HY0.out HY1.out HY2.out rfl (by omega) (.slice ga39 M.n ca39) M.n _ (by simp [Act.eval]) HR39.out ⟨w0.heap.size, 0, none⟩ 1 1 [.slice fa fl fc, .slice ta tl tc, .string s] (by simp [Act.eval]) rfl (news_st (cs := #[.slice fa fl fc, .slice ta tl tc, .string s]) HN39.out) three_one (by omega) (by unfold maxLen; omega) (by omega) HB39.out.size _ rfl ?_
      intro gb40 cb40 w40 hown hgrow hat hlt
      have hfr : Fr (fun c => (Value.slice ga39 M.n ca39).ownBlock = some c) w39 w40 := Fr.of_gb hgrow (fun _ e => e)
      have HB40 := Lib.hid (HB39.out.trans (hfr.below HB39.out.size (fun c e => (World.ownsRow.lt HR39.out c e).1)))
      have HF40 := Lib.hid hown
      have HK40 := Lib.hid ((hfr.block kb (lt_of_block HK39.out) (fun e => own_blk HR39.out HK39.out (by decide) e)).trans HK39.out)
      clear hown hgrow hat hlt hfr
      have hS40 := HKS.out w40 HB40.out
      refine hK.out _ _ (.inr hS40) ?_
      clear hK K
      try simp only [Act.put, List.setIfInBounds_toArray, List.set_cons_zero, List.set_cons_succ, List.getElem_toArray, List.getElem_cons_succ, List.getElem_cons_zero]
      refine AnyK.tk (i := 9) (v := ?vq409) rfl (by kernel_rfl) hS40 (Or.inl ⟨by kernel_rfl, ?hyq409⟩) ?restq409 (hQ := fun _ _ _ h => HPAN.out _ _ _ _ _ h)
      case hyq409 => rintro wk ⟨s1, s2, s3, s4, s5⟩; go_simp; try with_reducible rfl
      try simp only [Act.put, List.setIfInBounds_toArray, List.set_cons_zero, List.set_cons_succ, List.getElem_toArray, List.getElem_cons_succ, List.getElem_cons_zero]
      have k0 := cell_of HK40.out 0 rfl
      have k1 := cell_of HK40.out 1 rfl
      have g0 : w40.frozen? ⟨kb, 0, none⟩ = false := by have hk := HK40.out; simp [World.frozen?, hk]
      have g1 : w40.frozen? ⟨kb, 1, none⟩ = false := by have hk := HK40.out; simp [World.frozen?, hk]
      refine AnyK.one (i := 11) rfl (by kernel_rfl) (by rfl) (fun K hK => ?_)
      go_simp
      refine hK.out _ _ (.inl rfl) (AnyK.done (by kernel_rfl) ?_ _)
      clear hK K
      have hkb : BxE w40 kb (.slice none 0 0) 0 := HK40.out
      have hfk : Fr (fun c => c = kb) w40 ((w40.setCell ⟨kb, 0, none⟩ (.slice (some ⟨gb40, 0, none⟩) (M.n + 1) cb40)).setCell ⟨kb, 1, none⟩ (.int .i64 mo)) := ((Fr.refl (fun c => c = kb) w40).set (p := ⟨kb, 0, none⟩) (.inl rfl) _).set (p := ⟨kb, 1, none⟩) (.inl rfl) _
      exact HEND.out _ _ _ _ _ _ _ _ _ _ _ (some ⟨gb40, 0, none⟩) cb40 kb (HB40.out.trans (hfk.below HB40.out.size (fun c e => by rw [e]; exact HKB.out))) (bxe_set hkb) (row_kept HF40.out (z := some kb) (Fr.gb (hfk.mono (fun q _ e => by rw [e]))) (fun c hc e => own_blk HF40.out HK40.out (by decide) (by rw [hc]; exact e.symm))) HKB.out
  · skip
    go_simp
    have HB41 := Lib.hid (HB0.out.alloc HB0.out.size (.cells #[.slice none 0 0, .int .i64 0] 24))
    have HK41 := Lib.hid (heap_alloc_new w0 (.cells #[.slice none 0 0, .int .i64 0] 24))
    have HKB := Lib.hid HB0.out.size
    obtain ⟨w41, hw41⟩ : ∃ W, W = w0.alloc (.cells #[.slice none 0 0, .int .i64 0] 24) := ⟨_, rfl⟩
    obtain ⟨kb, hkb⟩ : ∃ k, k = w0.heap.size := ⟨_, rfl⟩
    rw [← hkb] at HK41 HKB ⊢
    rw [← hw41] at HB41 HK41 ⊢
    clear hw41 hkb
    have hS41 := HKS.out w41 HB41.out
    refine hK _ _ ⟨.inr hS41, ?_⟩
    clear hK K
    try simp only [Act.put, List.setIfInBounds_toArray, List.set_cons_zero, List.set_cons_succ, List.getElem_toArray, List.getElem_cons_succ, List.getElem_cons_zero]
    refine AnyK.two (i := 0) (j := 5) (by kernel_rfl) (wpOp_go rfl rfl fun K hK => ?_) (wpOp_go rfl rfl fun K hK => ?_)
    · skip
      go_simp
      have HK42 := Lib.hid ((blk_alloc_lt w41 (.cells #[] 50) _ (lt_of_block HK41.out)).trans HK41.out)
      have HB42 := Lib.hid (HB41.out.alloc HB41.out.size (.cells #[] 50))
      have HE42 := Lib.hid (row_new w41 HB41.out.size 50 3)
      obtain ⟨w42, hw42⟩ : ∃ W, W = w41.alloc (.cells #[] 50) := ⟨_, rfl⟩
      rw [← hw42] at HB42 HE42 HK42 ⊢
      clear hw42
      have hS42 := HKS.out w42 HB42.out
      refine hK _ _ ⟨.inr hS42, ?_⟩
      clear hK K
      try simp only [Act.put, List.setIfInBounds_toArray, List.set_cons_zero, List.set_cons_succ, List.getElem_toArray, List.getElem_cons_succ, List.getElem_cons_zero]
      refine AnyK.two (i := 3) (j := 5) (by kernel_rfl) (wpOp_go rfl rfl fun K hK => ?_) (wpOp_go rfl rfl fun K hK => ?_)
      · skip
        refine wp_append_0 _ (.tmp 125) (.tmp 127) 22 rfl wr.heap.size 50 i0 (.agg #[.slice none 0 0, .slice none 0 0, .string ⟨#[]⟩]) 3 64 Tryz.underlying22 HI0.out HY0.out HY1.out HY2.out rfl (by omega) (some ⟨w41.heap.size, 0, none⟩) 0 (by simp [Act.eval]) HE42.out a M.n cap (cat (ed3 M F T) M.n) (by simp [Act.eval]) HLEN.out (HNEW.out _ HB42.out) HONE.out (by unfold maxLen; omega) (by omega) HB42.out.size ?_
        intro ga43 ca43 w43 hown hgrow hat
        have hfr : Fr (fun c => (Value.slice (some ⟨w41.heap.size, 0, none⟩) 0 0).ownBlock = some c) w42 w43 := Fr.of_gb hgrow (fun _ e => e)
        have HB43 := Lib.hid (HB42.out.trans (hfr.below HB42.out.size (fun c e => (World.ownsRow.lt HE42.out c e).1)))
        have HR43 := Lib.hid hown
        have HK43 := Lib.hid ((hfr.block kb (lt_of_block HK42.out) (fun e => own_blk HE42.out HK42.out (by decide) e)).trans HK42.out)
        clear hown hgrow hat hfr
        have hS43 := HKS.out w43 HB43.out
        refine hK _ _ ⟨.inr hS43, ?_⟩
        clear hK K
        try simp only [Act.put, List.setIfInBounds_toArray, List.set_cons_zero, List.set_cons_succ, List.getElem_toArray, List.getElem_cons_succ, List.getElem_cons_zero]
        refine AnyK.one (i := 5) rfl (by kernel_rfl) (by rfl) (fun K hK => ?_)
        go_simp
        have HR44 := Lib.hid (World.ownsRow.alloc HR43.out (.cells #[.slice fa fl fc, .slice ta tl tc, .string s] 50))
        have HK44 := Lib.hid ((blk_alloc_lt w43 (.cells #[.slice fa fl fc, .slice ta tl tc, .string s] 50) _ (lt_of_block HK43.out)).trans HK43.out)
        have HB44 := Lib.hid (HB43.out.alloc HB43.out.size (.cells #[.slice fa fl fc, .slice ta tl tc, .string s] 50))
        have HN44 := Lib.hid (heap_alloc_new w43 (.cells #[.slice fa fl fc, .slice ta tl tc, .string s] 50))
        have HD44 := Lib.hid (show ∀ c, (Value.slice ga43 M.n ca43).ownBlock = some c → c ≠ w43.heap.size from fun c hc e => by have := (World.ownsRow.lt HR43.out c hc).2; omega)
        obtain ⟨w44, hw44⟩ : ∃ W, W = w43.alloc (.cells #[.slice fa fl fc, .slice ta tl tc, .string s] 50) := ⟨_, rfl⟩
        rw [← hw44] at HB44 HR44 HN44 HK44 ⊢
        clear hw44
        have hS44 := HKS.out w44 HB44.out
        refine hK.out _ _ (.inr hS44) ?_
        clear hK K
        try simp only [Act.put, List.setIfInBounds_toArray, List.set_cons_zero, List.set_cons_succ, List.getElem_toArray, List.getElem_cons_succ, List.getElem_cons_zero]
        refine AnyK.one (i := 6) rfl (by kernel_rfl) (by rfl) (fun K hK => ?_)
        refine wp_append_lies _ (.tmp 128) (.tmp 130) 22 rfl wr.heap.size 50 i0 (.agg #[.slice none 0 0, .slice none 0 0, .string ⟨#[]⟩]) 3 64 Tryz.underlying22 HI0.out HY0.out HY1.out HY2.out rfl (by omega) (.slice ga43 M.n ca43) M.n _ (by simp [Act.eval]) HR44.out ⟨w43.heap.size, 0, none⟩ 1 1 [.slice fa fl fc, .slice ta tl tc, .string s] (by simp [Act.eval]) rfl (news_st (cs := #[.slice fa fl fc, .slice ta tl tc, .string s]) HN44.out) three_one (by omega) (by unfold maxLen; omega) (by omega) HB44.out.size _ rfl ?_
        intro gb45 cb45 w45 hown hgrow hat hlt
        have hfr : Fr (fun c => (Value.slice ga43 M.n ca43).ownBlock = some c) w44 w45 := Fr.of_gb hgrow (fun _ e => e)
        have HB45 := Lib.hid (HB44.out.trans (hfr.below HB44.out.size (fun c e => (World.ownsRow.lt HR44.out c e).1)))
        have HF45 := Lib.hid hown
        have HK45 := Lib.hid ((hfr.block kb (lt_of_block HK44.out) (fun e => own_blk HR44.out HK44.out (by decide) e)).trans HK44.out)
        clear hown hgrow hat hlt hfr
        have hS45 := HKS.out w45 HB45.out
        refine hK.out _ _ (.inr hS45) ?_
        clear hK K
        try simp only [Act.put, List.setIfInBounds_toArray, List.set_cons_zero, List.set_cons_succ, List.getElem_toArray, List.getElem_cons_succ, List.getElem_cons_zero]
        refine AnyK.tk (i := 9) (v := ?vq459) rfl (by kernel_rfl) hS45 (Or.inl ⟨by kernel_rfl, ?hyq459⟩) ?restq459 (hQ := fun _ _ _ h => HPAN.out _ _ _ _ _ h)
        case hyq459 => rintro wk ⟨s1, s2, s3, s4, s5⟩; go_simp; try with_reducible rfl
        try simp only [Act.put, List.setIfInBounds_toArray, List.set_cons_zero, List.set_cons_succ, List.getElem_toArray, List.getElem_cons_succ, List.getElem_cons_zero]
        have k0 := cell_of HK45.out 0 rfl
        have k1 := cell_of HK45.out 1 rfl
        have g0 : w45.frozen? ⟨kb, 0, none⟩ = false := by have hk := HK45.out; simp [World.frozen?, hk]
        have g1 : w45.frozen? ⟨kb, 1, none⟩ = false := by have hk := HK45.out; simp [World.frozen?, hk]
        refine AnyK.one (i := 11) rfl (by kernel_rfl) (by rfl) (fun K hK => ?_)
        go_simp
        refine hK.out _ _ (.inl rfl) (AnyK.done (by kernel_rfl) ?_ _)
        clear hK K
        have hkb : BxE w45 kb (.slice none 0 0) 0 := HK45.out
        have hfk : Fr (fun c => c = kb) w45 ((w45.setCell ⟨kb, 0, none⟩ (.slice (some ⟨gb45, 0, none⟩) (M.n + 1) cb45)).setCell ⟨kb, 1, none⟩ (.int .i64 mo)) := ((Fr.refl (fun c => c = kb) w45).set (p := ⟨kb, 0, none⟩) (.inl rfl) _).set (p := ⟨kb, 1, none⟩) (.inl rfl) _
        exact HEND.out _ _ _ _ _ _ _ _ _ _ _ (some ⟨gb45, 0, none⟩) cb45 kb (HB45.out.trans (hfk.below HB45.out.size (fun c e => by rw [e]; exact HKB.out))) (bxe_set hkb) (row_kept HF45.out (z := some kb) (Fr.gb (hfk.mono (fun q _ e => by rw [e]))) (fun c hc e => own_blk HF45.out HK45.out (by decide) (by rw [hc]; exact e.symm))) HKB.out
      · skip
        go_simp
        have HE46 := Lib.hid (World.ownsRow.alloc HE42.out (.cells #[.slice fa fl fc, .slice ta tl tc, .string s] 50))
        have HK46 := Lib.hid ((blk_alloc_lt w42 (.cells #[.slice fa fl fc, .slice ta tl tc, .string s] 50) _ (lt_of_block HK42.out)).trans HK42.out)
        have HB46 := Lib.hid (HB42.out.alloc HB42.out.size (.cells #[.slice fa fl fc, .slice ta tl tc, .string s] 50))
        have HN46 := Lib.hid (heap_alloc_new w42 (.cells #[.slice fa fl fc, .slice ta tl tc, .string s] 50))
        have HD46 := Lib.hid (show ∀ c, (Value.slice (some ⟨w41.heap.size, 0, none⟩) 0 0).ownBlock = some c → c ≠ w42.heap.size from fun c hc e => by have := (World.ownsRow.lt HE42.out c hc).2; omega)
        obtain ⟨w46, hw46⟩ : ∃ W, W = w42.alloc (.cells #[.slice fa fl fc, .slice ta tl tc, .string s] 50) := ⟨_, rfl⟩
        rw [← hw46] at HB46 HE46 HN46 HK46 ⊢
        clear hw46
        have hS46 := HKS.out w46 HB46.out
        refine hK _ _ ⟨.inr hS46, ?_⟩
        clear hK K
        try simp only [Act.put, List.setIfInBounds_toArray, List.set_cons_zero, List.set_cons_succ, List.getElem_toArray, List.getElem_cons_succ, List.getElem_cons_zero]
        refine AnyK.one (i := 3) rfl (by kernel_rfl) (by rfl) (fun K hK => ?_)
        refine wp_append_0 _ (.tmp 125) (.tmp 127) 22 rfl wr.heap.size 50 i0 (.agg #[.slice none 0 0, .slice none 0 0, .string ⟨#[]⟩]) 3 64 Tryz.underlying22 HI0.out HY0.out HY1.out HY2.out rfl (by omega) (some ⟨w41.heap.size, 0, none⟩) 0 (by simp [Act.eval]) HE46.out a M.n cap (cat (ed3 M F T) M.n) (by simp [Act.eval]) HLEN.out (HNEW.out _ HB46.out) HONE.out (by unfold maxLen; omega) (by omega) HB46.out.size ?_
        intro ga47 ca47 w47 hown hgrow hat
        have hfr : Fr (fun c => (Value.slice (some ⟨w41.heap.size, 0, none⟩) 0 0).ownBlock = some c) w46 w47 := Fr.of_gb hgrow (fun _ e => e)
        have HB47 := Lib.hid (HB46.out.trans (hfr.below HB46.out.size (fun c e => (World.ownsRow.lt HE46.out c e).1)))
        have HR47 := Lib.hid hown
        have HN47 := Lib.hid ((hfr.block _ (lt_of_block HN46.out) (fun e => HD46.out _ e rfl)).trans HN46.out)
        have HD47 := Lib.hid (show ∀ c, (Value.slice ga47 M.n ca47).ownBlock = some c → c ≠ w42.heap.size from fun c hc e => by
          rcases hat c hc with h1 | h1
          · exact HD46.out c h1 e
          · have := lt_of_block HN46.out; omega)
        have HK47 := Lib.hid ((hfr.block kb (lt_of_block HK46.out) (fun e => own_blk HE46.out HK46.out (by decide) e)).trans HK46.out)
        clear hown hgrow hat hfr
        have hS47 := HKS.out w47 HB47.out
        refine hK.out _ _ (.inr hS47) ?_
        clear hK K
        try simp only [Act.put, List.setIfInBounds_toArray, List.set_cons_zero, List.set_cons_succ, List.getElem_toArray, List.getElem_cons_succ, List.getElem_cons_zero]
        refine AnyK.one (i := 6) rfl (by kernel_rfl) (by rfl) (fun K hK => ?_)
        refine wp_append_lies _ (.tmp 128) (.tmp 130) 22 rfl wr.heap.size 50 i0 (.agg #[.slice none 0 0, .slice none 0 0, .string ⟨#[]⟩]) 3 64 Tryz.underlying22 HI0.out HY0.out HY1.out HY2.out rfl (by omega) (.slice ga47 M.n ca47) M.n _ (by simp [Act.eval]) HR47.out ⟨w42.heap.size, 0, none⟩ 1 1 [.slice fa fl fc, .slice ta tl tc, .string s] (by simp [Act.eval]) rfl (news_st (cs := #[.slice fa fl fc, .slice ta tl tc, .string s]) HN47.out) three_one (by omega) (by unfold maxLen; omega) (by omega) HB47.out.size _ rfl ?_
        intro gb48 cb48 w48 hown hgrow hat hlt
        have hfr : Fr (fun c => (Value.slice ga47 M.n ca47).ownBlock = some c) w47 w48 := Fr.of_gb hgrow (fun _ e => e)
        have HB48 := Lib.hid (HB47.out.trans (hfr.below HB47.out.size (fun c e => (World.ownsRow.lt HR47.out c e).1)))
        have HF48 := Lib.hid hown
        have HK48 := Lib.hid ((hfr.block kb (lt_of_block HK47.out) (fun e => own_blk HR47.out HK47.out (by decide) e)).trans HK47.out)
        clear hown hgrow hat hlt hfr
        have hS48 := HKS.out w48 HB48.out
        refine hK.out _ _ (.inr hS48) ?_
        clear hK K
        try simp only [Act.put, List.setIfInBounds_toArray, List.set_cons_zero, List.set_cons_succ, List.getElem_toArray, List.getElem_cons_succ, List.getElem_cons_zero]
        refine AnyK.tk (i := 9) (v := ?vq489) rfl (by kernel_rfl) hS48 (Or.inl ⟨by kernel_rfl, ?hyq489⟩) ?restq489 (hQ := fun _ _ _ h => HPAN.out _ _ _ _ _ h)
        case hyq489 => rintro wk ⟨s1, s2, s3, s4, s5⟩; go_simp; try with_reducible rfl
        try simp only [Act.put, List.setIfInBounds_toArray, List.set_cons_zero, List.set_cons_succ, List.getElem_toArray, List.getElem_cons_succ, List.getElem_cons_zero]
        have k0 := cell_of HK48.out 0 rfl
        have k1 := cell_of HK48.out 1 rfl
        have g0 : w48.frozen? ⟨kb, 0, none⟩ = false := by have hk := HK48.out; simp [World.frozen?, hk]
        have g1 : w48.frozen? ⟨kb, 1, none⟩ = false := by have hk := HK48.out; simp [World.frozen?, hk]
        refine AnyK.one (i := 11) rfl (by kernel_rfl) (by rfl) (fun K hK => ?_)
        go_simp
        refine hK.out _ _ (.inl rfl) (AnyK.done (by kernel_rfl) ?_ _)
        clear hK K
        have hkb : BxE w48 kb (.slice none 0 0) 0 := HK48.out
        have hfk : Fr (fun c => c = kb) w48 ((w48.setCell ⟨kb, 0, none⟩ (.slice (some ⟨gb48, 0, none⟩) (M.n + 1) cb48)).setCell ⟨kb, 1, none⟩ (.int .i64 mo)) := ((Fr.refl (fun c => c = kb) w48).set (p := ⟨kb, 0, none⟩) (.inl rfl) _).set (p := ⟨kb, 1, none⟩) (.inl rfl) _
        exact HEND.out _ _ _ _ _ _ _ _ _ _ _ (some ⟨gb48, 0, none⟩) cb48 kb (HB48.out.trans (hfk.below HB48.out.size (fun c e => by rw [e]; exact HKB.out))) (bxe_set hkb) (row_kept HF48.out (z := some kb) (Fr.gb (hfk.mono (fun q _ e => by rw [e]))) (fun c hc e => own_blk HF48.out HK48.out (by decide) (by rw [hc]; exact e.symm))) HKB.out
    · skip
      go_simp
      have HK49 := Lib.hid ((blk_alloc_lt w41 (.cells #[.slice fa fl fc, .slice ta tl tc, .string s] 50) _ (lt_of_block HK41.out)).trans HK41.out)
      have HB49 := Lib.hid (HB41.out.alloc HB41.out.size (.cells #[.slice fa fl fc, .slice ta tl tc, .string s] 50))
      have HN49 := Lib.hid (heap_alloc_new w41 (.cells #[.slice fa fl fc, .slice ta tl tc, .string s] 50))
      obtain ⟨w49, hw49⟩ : ∃ W, W = w41.alloc (.cells #[.slice fa fl fc, .slice ta tl tc, .string s] 50) := ⟨_, rfl⟩
      rw [← hw49] at HB49 HN49 HK49 ⊢
      clear hw49
      have hS49 := HKS.out w49 HB49.out
      refine hK _ _ ⟨.inr hS49, ?_⟩
      clear hK K
      try simp only [Act.put, List.setIfInBounds_toArray, List.set_cons_zero, List.set_cons_succ, List.getElem_toArray, List.getElem_cons_succ, List.getElem_cons_zero]
      refine AnyK.one (i := 0) rfl (by kernel_rfl) (by rfl) (fun K hK => ?_)
      go_simp
      have HN50 := Lib.hid ((blk_alloc_lt w49 (.cells #[] 50) _ (lt_of_block HN49.out)).trans HN49.out)
      have HK50 := Lib.hid ((blk_alloc_lt w49 (.cells #[] 50) _ (lt_of_block HK49.out)).trans HK49.out)
      have HB50 := Lib.hid (HB49.out.alloc HB49.out.size (.cells #[] 50))
      have HE50 := Lib.hid (row_new w49 HB49.out.size 50 3)
      have HD50 := Lib.hid (show ∀ c, (Value.slice (some ⟨w49.heap.size, 0, none⟩) 0 0).ownBlock = some c → c ≠ w41.heap.size from fun c hc e => by have h1 := lt_of_block HN49.out; have h2 : w49.heap.size = c := (by simpa [Value.ownBlock] using hc); omega)
      obtain ⟨w50, hw50⟩ : ∃ W, W = w49.alloc (.cells #[] 50) := ⟨_, rfl⟩
      rw [← hw50] at HB50 HE50 HN50 HK50 ⊢
      clear hw50
      have hS50 := HKS.out w50 HB50.out
      refine hK.out _ _ (.inr hS50) ?_
      clear hK K
      try simp only [Act.put, List.setIfInBounds_toArray, List.set_cons_zero, List.set_cons_succ, List.getElem_toArray, List.getElem_cons_succ, List.getElem_cons_zero]
      refine AnyK.one (i := 3) rfl (by kernel_rfl) (by rfl) (fun K hK => ?_)
      refine wp_append_0 _ (.tmp 125) (.tmp 127) 22 rfl wr.heap.size 50 i0 (.agg #[.slice none 0 0, .slice none 0 0, .string ⟨#[]⟩]) 3 64 Tryz.underlying22 HI0.out HY0.out HY1.out HY2.out rfl (by omega) (some ⟨w49.heap.size, 0, none⟩) 0 (by simp [Act.eval]) HE50.out a M.n cap (cat (ed3 M F T) M.n) (by simp [Act.eval]) HLEN.out (HNEW.out _ HB50.out) HONE.out (by unfold maxLen; omega) (by omega) HB50.out.size ?_
      intro ga51 ca51 w51 hown hgrow hat
      have hfr : Fr (fun c => (Value.slice (some ⟨w49.heap.size, 0, none⟩) 0 0).ownBlock = some c) w50 w51 := Fr.of_gb hgrow (fun _ e => e)
      have HB51 := Lib.hid (HB50.out.trans (hfr.below HB50.out.size (fun c e => (World.ownsRow.lt HE50.out c e).1)))
      have HR51 := Lib.hid hown
      have HN51 := Lib.hid ((hfr.block _ (lt_of_block HN50.out) (fun e => HD50.out _ e rfl)).trans HN50.out)
      have HD51 := Lib.hid (show ∀ c, (Value.slice ga51 M.n ca51).ownBlock = some c → c ≠ w41.heap.size from fun c hc e => by
        rcases hat c hc with h1 | h1
        · exact HD50.out c h1 e
        · have := lt_of_block HN50.out; omega)
      have HK51 := Lib.hid ((hfr.block kb (lt_of_block HK50.out) (fun e => own_blk HE50.out HK50.out (by decide) e)).trans HK50.out)
      clear hown hgrow hat hfr
      have hS51 := HKS.out w51 HB51.out
      refine hK.out _ _ (.inr hS51) ?_
      clear hK K
      try simp only [Act.put, List.setIfInBounds_toArray, List.set_cons_zero, List.set_cons_succ, List.getElem_toArray, List.getElem_cons_succ, List.getElem_cons_zero]
      refine AnyK.one (i := 6) rfl (by kernel_rfl) (by rfl) (fun K hK => ?_)
      refine wp_append_lies _ (.tmp 128) (.tmp 130) 22 rfl wr.heap.size 50 i0 (.agg #[.slice none 0 0, .slice none 0 0, .string ⟨#[]⟩]) 3 64 Tryz.underlying22 HI0.out HY0.out HY1.out HY2.out rfl (by omega) (.slice ga51 M.n ca51) M.n _ (by simp [Act.eval]) HR51.out ⟨w41.heap.size, 0, none⟩ 1 1 [.slice fa fl fc, .slice ta tl tc, .string s] (by simp [Act.eval]) rfl (news_st (cs := #[.slice fa fl fc, .slice ta tl tc, .string s]) HN51.out) three_one (by omega) (by unfold maxLen; omega) (by omega) HB51.out.size _ rfl ?_
      intro gb52 cb52 w52 hown hgrow hat hlt
      have hfr : Fr (fun c => (Value.slice ga51 M.n ca51).ownBlock = some c) w51 w52 := Fr.of_gb hgrow (fun _ e => e)
      have HB52 := Lib.hid (HB51.out.trans (hfr.below HB51.out.size (fun c e => (World.ownsRow.lt HR51.out c e).1)))
      have HF52 := Lib.hid hown
      have HK52 := Lib.hid ((hfr.block kb (lt_of_block HK51.out) (fun e => own_blk HR51.out HK51.out (by decide) e)).trans HK51.out)
      clear hown hgrow hat hlt hfr
      have hS52 := HKS.out w52 HB52.out
      refine hK.out _ _ (.inr hS52) ?_
      clear hK K
      try simp only [Act.put, List.setIfInBounds_toArray, List.set_cons_zero, List.set_cons_succ, List.getElem_toArray, List.getElem_cons_succ, List.getElem_cons_zero]
      refine AnyK.tk (i := 9) (v := ?vq529) rfl (by kernel_rfl) hS52 (Or.inl ⟨by kernel_rfl, ?hyq529⟩) ?restq529 (hQ := fun _ _ _ h => HPAN.out _ _ _ _ _ h)
      case hyq529 => rintro wk ⟨s1, s2, s3, s4, s5⟩; go_simp; try with_reducible rfl
      try simp only [Act.put, List.setIfInBounds_toArray, List.set_cons_zero, List.set_cons_succ, List.getElem_toArray, List.getElem_cons_succ, List.getElem_cons_zero]
      have k0 := cell_of HK52.out 0 rfl
      have k1 := cell_of HK52.out 1 rfl
      have g0 : w52.frozen? ⟨kb, 0, none⟩ = false := by have hk := HK52.out; simp [World.frozen?, hk]
      have g1 : w52.frozen? ⟨kb, 1, none⟩ = false := by have hk := HK52.out; simp [World.frozen?, hk]
      refine AnyK.one (i := 11) rfl (by kernel_rfl) (by rfl) (fun K hK => ?_)
      go_simp
      refine hK.out _ _ (.inl rfl) (AnyK.done (by kernel_rfl) ?_ _)
      clear hK K
      have hkb : BxE w52 kb (.slice none 0 0) 0 := HK52.out
      have hfk : Fr (fun c => c = kb) w52 ((w52.setCell ⟨kb, 0, none⟩ (.slice (some ⟨gb52, 0, none⟩) (M.n + 1) cb52)).setCell ⟨kb, 1, none⟩ (.int .i64 mo)) := ((Fr.refl (fun c => c = kb) w52).set (p := ⟨kb, 0, none⟩) (.inl rfl) _).set (p := ⟨kb, 1, none⟩) (.inl rfl) _
      exact HEND.out _ _ _ _ _ _ _ _ _ _ _ (some ⟨gb52, 0, none⟩) cb52 kb (HB52.out.trans (hfk.below HB52.out.size (fun c e => by rw [e]; exact HKB.out))) (bxe_set hkb) (row_kept HF52.out (z := some kb) (Fr.gb (hfk.mono (fun q _ e => by rw [e]))) (fun c hc e => own_blk HF52.out HK52.out (by decide) (by rw [hc]; exact e.symm))) HKB.out
end Go.Proofs.YtjekapjbigfkbaaGreatDoor
