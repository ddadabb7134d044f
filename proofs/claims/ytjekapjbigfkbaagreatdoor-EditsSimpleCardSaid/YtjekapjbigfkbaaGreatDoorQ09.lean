/- Parts of a proof: RatE RatC RatF RatG. -/
import Derived.Test.YtjekapjbigfkbaaGreatDoorQ08
namespace Go.Proofs.YtjekapjbigfkbaaGreatDoor
open Go Go.RowKit
set_option maxRecDepth 100000
set_option maxHeartbeats 4000000 in
theorem compc_raw (g:FuncId) (p q:Bool) (xn xd yn yd:ByteArray) (E:Ending) (b0 b1 b2:Nat) (w:World) (hE:(∃ r x y,E=.returned (.agg #[.bool r,.string x,.string y]))∨E=PT)
  (he:∀ args w,(callFunc g args).run Tryz.prog w=.ok (.enter g args) w) (l0:b0 < w.heap.size) (l1:b1 < w.heap.size) (l2:b2 < w.heap.size)
  (c0:w.cell? ⟨b0,0,none⟩=some (.func (.func g) #[] #[])) (d0:w.cell? ⟨b1,0,none⟩=some (.bool p)) (d1:w.cell? ⟨b1,1,none⟩=some (.string xn)) (d2:w.cell? ⟨b1,2,none⟩=some (.string xd))
  (e0:w.cell? ⟨b2,0,none⟩=some (.bool q)) (e1:w.cell? ⟨b2,1,none⟩=some (.string yn)) (e2:w.cell? ⟨b2,2,none⟩=some (.string yd))
  (hcl:∀ wx,Below w.heap.size w wx→Calls Tryz.prog g #[nvS p xn xd,nvS q yn yd] wx fun e w'=>e=E∧Below wx.heap.size wx w') :
  Calls Tryz.prog 110 #[.pointer (some ⟨b0,0,none⟩),.pointer (some ⟨b1,0,none⟩),.pointer (some ⟨b2,0,none⟩)] w fun e w'=>e=E∧Below w.heap.size w w':=by
 unfold nvS at hcl
 have HCL:=Lib.hid hcl;clear hcl
 have hb0:Below w.heap.size w (w.alloc (.cells #[.bool false,.string ⟨#[]⟩,.string ⟨#[]⟩] 107)):=(Below.refl _ _).alloc (Nat.le_refl _) _
 have HB0:=Lib.hid hb0;clear hb0
 rcases hE with ⟨r,x,y,rfl⟩ | rfl
 ·go_enter Tryz.func110,Tryz.ntmps110
  go_wp2_with fail
  refine (HCL.out _ HB0.out).mono ?_
  rintro e w1 ⟨rfl,hb1⟩
  have HS1:=Lib.hid hb1;clear hb1
  obtain ⟨k0,k1,k2,f0,f1,f2,hlt⟩:=res3 HS1.out
  obtain ⟨s0,s1,s2⟩:=set3 (a':=.bool r) (b':=.string x) (c':=.string y) k0 k1 k2
  go_wp2_with fail
  exact bodyPost_ret (num_result rfl _ _ w.heap.size r x y rfl s0 s1 s2) rfl ⟨rfl,(((next_below HB0.out HS1.out).setCell (Nat.le_refl _) _).setCell (Nat.le_refl _) _).setCell (Nat.le_refl _) _⟩
 ·unfold PT at HCL ⊢
  go_enter Tryz.func110,Tryz.ntmps110
  go_wp2_with fail
  refine (HCL.out _ HB0.out).mono ?_
  rintro e w1 ⟨rfl,hb1⟩
  have HS1:=Lib.hid hb1;clear hb1
  go_wp2_with fail
  exact ⟨rfl,rfl,next_below HB0.out HS1.out⟩
theorem qE (q:Rat):(∃ r x y,(if fitQ q then .returned (nv q) else PT)=Ending.returned (.agg #[.bool r,.string x,.string y]))∨(if fitQ q then .returned (nv q) else PT)=PT:=by
 by_cases h:fitQ q
 ·rw [if_pos h];exact .inl ⟨_,_,_,rfl⟩
 ·rw [if_neg h];exact .inr rfl
def okR (F:Rat→Rat→Rat) (a b:ByteArray):ByteArray × Nat:=match prs a,prs b with | some x,some y=>limR (F x y) | _,_=>(str [],1)
set_option maxHeartbeats 4000000 in
theorem compute_any (g:FuncId) (F:Rat→Rat→Rat) (a b:ByteArray) (w:World) (ha:a.size≤9223372036854775807) (hb:b.size≤9223372036854775807) (ht:Tab w)
  (he:∀ args w,(callFunc g args).run Tryz.prog w=.ok (.enter g args) w)
  (hcl:∀ x y,prs a=some x→prs b=some y→∀ wx,Below w.heap.size w wx→Calls Tryz.prog g #[nv x,nv y] wx (QEnd (F x y) wx)) :
  Calls Tryz.prog 67 #[.string a,.string b,.func (.func g) #[] #[]] w (PairEnd (okR F a b) w):=by
 have hmf:∀ (fn:Fn) (first cap:Array Value) (w:World),(Instr.makeFunc fn first cap).run Tryz.prog w=.ok (.func fn first cap) w:=fun _ _ _ _=>rfl
 have hT:∀ wx,Below w.heap.size w wx→Tab wx:=fun wx h=>ht.below h (Nat.le_refl _)
 have c1:=fun wx (h:Below w.heap.size w wx)=>parse_any a wx ha (hT wx h)
 have c2:=fun wx (h:Below w.heap.size w wx)=>parse_any b wx hb (hT wx h)
 have HHE:=Lib.hid he;clear he
 have HCL:=Lib.hid hcl;clear hcl
 clear hT ht ha hb
 have hb0:Below w.heap.size w (w.alloc (.cells #[.func (.func g) #[] #[]] 112)):=(Below.refl _ _).alloc (Nat.le_refl _) _
 have HB0:=Lib.hid hb0;clear hb0
 cases h1:prs a with
 | none =>
  have hr:okR F a b=(str [],1):=by unfold okR;rw [h1]
  rw [hr];simp only [h1,Option.isSome,prsV] at c1
  clear hr HCL h1
  have C1:=Lib.hid c1;clear c1
  generalize (prs b).isSome=o at c2
  obtain ⟨r,x,y,hz⟩:=prsV_agg (prs b)
  rw [hz] at c2
  clear hz
  have C2:=Lib.hid c2;clear c2
  unfold NoNum nvS at C1
  go_enter Tryz.func67,Tryz.ntmps67
  go_wp2_with fail
  refine (C1.out _ HB0.out).mono ?_
  rintro e w1 ⟨rfl,hb1⟩
  have HB1:=Lib.hid ((next_below HB0.out hb1).alloc (Nat.le_trans HB0.out.size hb1.size) (.cells #[.bool false,.string ⟨#[]⟩,.string ⟨#[]⟩] 107));clear hb1
  go_wp2_with fail
  refine (C2.out _ HB1.out).mono ?_
  rintro e w2 ⟨rfl,hb2⟩
  have HB2:=Lib.hid (next_below HB1.out hb2);clear hb2
  go_wp2_with fail
  go_ret2
  exact ⟨rfl,HB2.out.alloc HB2.out.size _⟩
 | some x =>
  simp only [h1,Option.isSome,prsV] at c1
  have C1:=Lib.hid c1;clear c1
  cases h2:prs b with
  | none =>
   have hr:okR F a b=(str [],1):=by unfold okR;rw [h1,h2]
   rw [hr];simp only [h2,Option.isSome,prsV] at c2
   clear hr HCL h1 h2
   have C2:=Lib.hid c2;clear c2
   unfold nv nvS at C1
   unfold NoNum nvS at C2
   go_enter Tryz.func67,Tryz.ntmps67
   go_wp2_with fail
   refine (C1.out _ HB0.out).mono ?_
   rintro e w1 ⟨rfl,hb1⟩
   have HB1:=Lib.hid ((next_below HB0.out hb1).alloc (Nat.le_trans HB0.out.size hb1.size) (.cells #[.bool (negQ x),.string (str (dec x.num.natAbs)),.string (str (dec x.den))] 107));clear hb1
   go_wp2_with fail
   refine (C2.out _ HB1.out).mono ?_
   rintro e w2 ⟨rfl,hb2⟩
   have HB2:=Lib.hid (next_below HB1.out hb2);clear hb2
   go_wp2_with fail
   go_ret2
   exact ⟨rfl,HB2.out.alloc HB2.out.size _⟩
  | some y =>
   have hr:okR F a b=limR (F x y):=by unfold okR;rw [h1,h2]
   rw [hr];simp only [h2,Option.isSome,prsV] at c2
   have hcl:=fun wx h=>HCL.out x y h1 h2 wx h
   clear hr HCL h1 h2
   have HCL:=Lib.hid hcl;clear hcl
   have C2:=Lib.hid c2;clear c2
   unfold nv nvS at C1 C2
   go_enter Tryz.func67,Tryz.ntmps67
   go_wp2_with fail
   refine (C1.out _ HB0.out).mono ?_
   rintro e w1 ⟨rfl,hb1⟩
   have HA1:=Lib.hid hb1
   have HB1:=Lib.hid ((next_below HB0.out hb1).alloc (Nat.le_trans HB0.out.size hb1.size) (.cells #[.bool (negQ x),.string (str (dec x.num.natAbs)),.string (str (dec x.den))] 107));clear hb1
   go_wp2_with fail
   refine (C2.out _ HB1.out).mono ?_
   rintro e w2 ⟨rfl,hb2⟩
   have HA2:=Lib.hid hb2
   have HB2:=Lib.hid ((next_below HB1.out hb2).alloc (Nat.le_trans HB1.out.size hb2.size) (.cells #[.bool (negQ y),.string (str (dec y.num.natAbs)),.string (str (dec y.den))] 107));clear hb2
   go_wp2_with fail
   refine (written_any _ (F x y) _ (fun wx h=>?_)).mono ?_
   ·have z0:=HA1.out.size
    have z1:=HA2.out.size
    have z2:=h.size
    rw [World.size_alloc] at z0 z1 z2
    have s0:w.heap.size < (w.alloc (.cells #[.func (.func g) #[] #[]] 112)).heap.size:=by rw [World.size_alloc];omega
    have s1:∀ o,w1.heap.size < (w1.alloc o).heap.size:=fun o=>by rw [World.size_alloc];omega
    have s2:∀ o,w2.heap.size < (w2.alloc o).heap.size:=fun o=>by rw [World.size_alloc];omega
    have cell0:wx.cell? ⟨w.heap.size,0,none⟩=some (.func (.func g) #[] #[]):=by
     refine (h.cell (p:=⟨w.heap.size,0,none⟩) (by rw [World.size_alloc];show w.heap.size < _;omega)).trans ?_
     rw [World.cell?_alloc_past (hn:=by omega)]
     refine (HA2.out.cell (p:=⟨w.heap.size,0,none⟩) (by rw [World.size_alloc];show w.heap.size < _;omega)).trans ?_
     rw [World.cell?_alloc_past (hn:=by omega)]
     refine (HA1.out.cell (p:=⟨w.heap.size,0,none⟩) s0).trans ?_
     simp [go_sem]
    have cellx:∀ (i:Nat) (v:Value),(w1.alloc (.cells #[.bool (negQ x),.string (str (dec x.num.natAbs)),.string (str (dec x.den))] 107)).cell? ⟨w1.heap.size,i,none⟩=some v→wx.cell? ⟨w1.heap.size,i,none⟩=some v:=by
     intro i v hv
     refine (h.cell (p:=⟨w1.heap.size,i,none⟩) (by rw [World.size_alloc];show w1.heap.size < _;omega)).trans ?_
     rw [World.cell?_alloc_past (hn:=by omega)]
     exact (HA2.out.cell (p:=⟨w1.heap.size,i,none⟩) (s1 _)).trans hv
    have celly:∀ (i:Nat) (v:Value),(w2.alloc (.cells #[.bool (negQ y),.string (str (dec y.num.natAbs)),.string (str (dec y.den))] 107)).cell? ⟨w2.heap.size,i,none⟩=some v→wx.cell? ⟨w2.heap.size,i,none⟩=some v:=by
     intro i v hv
     exact (h.cell (p:=⟨w2.heap.size,i,none⟩) (s2 _)).trans hv
    exact compc_raw g _ _ _ _ _ _ _ w.heap.size w1.heap.size w2.heap.size wx (qE (F x y)) HHE.out (by omega) (by omega) (by omega) cell0
     (cellx 0 _ (by simp [go_sem])) (cellx 1 _ (by simp [go_sem])) (cellx 2 _ (by simp [go_sem])) (celly 0 _ (by simp [go_sem])) (celly 1 _ (by simp [go_sem])) (celly 2 _ (by simp [go_sem]))
     (fun wy hy=>HCL.out wy ((next_below HB2.out h).trans (hy.mono (next_below HB2.out h).size)))
   rintro e w3 ⟨rfl,hb3⟩
   have HB3:=Lib.hid (next_below HB2.out hb3);clear hb3
   generalize limR (F x y)=lr at *
   obtain ⟨ls,ln⟩:=lr
   go_wp2_with fail
   go_ret2
   exact ⟨rfl,HB3.out⟩
end Go.Proofs.YtjekapjbigfkbaaGreatDoor

namespace Go.Proofs.YtjekapjbigfkbaaGreatDoor
open Go Go.RowKit
set_option maxRecDepth 100000
attribute [local go_sem ↓] Go.wp_at_zero Go.wp_at_succ
set_option maxHeartbeats 8000000 in
theorem addc_raw (p q:Bool) (xn xd yn yd a b c d:ByteArray) (s:Bool) (E:Ending) (w:World) (hE:(∃ r x y,E=.returned (.agg #[.bool r,.string x,.string y]))∨E=PT)
  (c1:∀ wx,Below w.heap.size w wx→Calls Tryz.prog 71 #[.string xn,.string yd] wx (StrZ a wx))
  (c2:∀ wx,Below w.heap.size w wx→Calls Tryz.prog 71 #[.string yn,.string xd] wx (StrZ b wx))
  (c3:∀ wx,Below w.heap.size w wx→Calls Tryz.prog 69 #[.bool p,.string a,.bool q,.string b] wx fun e w'=>e=.returned (.tuple #[.bool s,.string c])∧Below wx.heap.size wx w')
  (c4:∀ wx,Below w.heap.size w wx→Calls Tryz.prog 71 #[.string xd,.string yd] wx (StrZ d wx))
  (c5:∀ wx,Below w.heap.size w wx→Calls Tryz.prog 72 #[.bool s,.string c,.string d] wx fun e w'=>e=E∧Below wx.heap.size wx w') :
  Calls Tryz.prog 68 #[nvS p xn xd,nvS q yn yd] w fun e w'=>e=E∧Below w.heap.size w w':=by
 have C1:=Lib.hid c1;clear c1
 have C2:=Lib.hid c2;clear c2
 have C3:=Lib.hid c3;clear c3
 have C4:=Lib.hid c4;clear c4
 have C5:=Lib.hid c5;clear c5
 have HB0:=Lib.hid (WR_below p q xn xd yn yd w)
 have hb0:Below (WR p q xn xd yn yd w).heap.size (WR p q xn xd yn yd w) (WR p q xn xd yn yd w).drew:=(Below.refl _ _).drew
 unfold nvS
 rcases hE with ⟨r,x,y,rfl⟩ | rfl
 ·-- a number
  go_enter Tryz.func68,Tryz.ntmps68
  go_wp2_with fail
  change Code.wp _ _ _ _ (WR p q xn xd yn yd w)
  go_region_held2 (fun wk=>Below (WR p q xn xd yn yd w).heap.size (WR p q xn xd yn yd w) wk ∧
   wk.cell? ⟨w.heap.size,0,none⟩=some (.bool p)∧wk.cell? ⟨w.heap.size,1,none⟩=some (.string xn)∧wk.cell? ⟨w.heap.size,2,none⟩=some (.string xd) ∧
   wk.cell? ⟨w.heap.size+1,0,none⟩=some (.bool q)∧wk.cell? ⟨w.heap.size+1,1,none⟩=some (.string yn)∧wk.cell? ⟨w.heap.size+1,2,none⟩=some (.string yd))
   (first | exact WR_cells (by assumption) | exact WR_cells (Below.refl _ _).drew)
   (first
   | (go_at_call_of 71 (Value.string xn);refine (C1.out _ (next_below HB0.out (by assumption))).mono ?_;rintro e w1 ⟨rfl,hb1⟩;have hn1:=next_below (by assumption) hb1)
   | (go_at_call_of 71 (Value.string yn);refine (C2.out _ (next_below HB0.out (by assumption))).mono ?_;rintro e w2 ⟨rfl,hb2⟩;have hn2:=next_below (by assumption) hb2)
   | (go_at_call 70;refine (must_ok _ _).mono ?_;rintro e w' ⟨rfl,rfl⟩)
   | (go_at_call 69;refine (C3.out _ (next_below HB0.out (by assumption))).mono ?_;rintro e w3 ⟨rfl,hb3⟩;have hn3:=next_below (by assumption) hb3))
  rename_i hH
  obtain ⟨_,e0,e1,e2,e3,e4,e5⟩:=hH
  go_wp2_with fail
  refine (C4.out _ (next_below HB0.out hn3)).mono ?_
  rintro e w4 ⟨rfl,hb4⟩
  have hn4:=next_below hn3 hb4
  go_wp2_with fail
  refine (must_ok _ _).mono ?_
  rintro e w' ⟨rfl,rfl⟩
  go_wp2_with fail
  refine (C5.out _ (next_below HB0.out hn4)).mono ?_
  rintro e w5 ⟨rfl,hb5⟩
  have hn5:=next_below hn4 hb5
  obtain ⟨k0,k1,k2,f0,f1,f2⟩:=WR_res hn5
  obtain ⟨s0,s1,s2⟩:=set3 (a':=.bool r) (b':=.string x) (c':=.string y) k0 k1 k2
  go_wp2_with fail
  refine bodyPost_ret (num_result rfl _ _ (w.heap.size+1+1) r x y rfl s0 s1 s2) rfl ⟨rfl,(((next_below HB0.out hn5).setCell ?_ _).setCell ?_ _).setCell ?_ _⟩ <;> (show w.heap.size≤w.heap.size+1+1;omega)
 ·-- too long
  unfold PT at C5 ⊢
  go_enter Tryz.func68,Tryz.ntmps68
  go_wp2_with fail
  change Code.wp _ _ _ _ (WR p q xn xd yn yd w)
  go_region_held2 (fun wk=>Below (WR p q xn xd yn yd w).heap.size (WR p q xn xd yn yd w) wk ∧
   wk.cell? ⟨w.heap.size,0,none⟩=some (.bool p)∧wk.cell? ⟨w.heap.size,1,none⟩=some (.string xn)∧wk.cell? ⟨w.heap.size,2,none⟩=some (.string xd) ∧
   wk.cell? ⟨w.heap.size+1,0,none⟩=some (.bool q)∧wk.cell? ⟨w.heap.size+1,1,none⟩=some (.string yn)∧wk.cell? ⟨w.heap.size+1,2,none⟩=some (.string yd))
   (first | exact WR_cells (by assumption) | exact WR_cells (Below.refl _ _).drew)
   (first
   | (go_at_call_of 71 (Value.string xn);refine (C1.out _ (next_below HB0.out (by assumption))).mono ?_;rintro e w1 ⟨rfl,hb1⟩;have hn1:=next_below (by assumption) hb1)
   | (go_at_call_of 71 (Value.string yn);refine (C2.out _ (next_below HB0.out (by assumption))).mono ?_;rintro e w2 ⟨rfl,hb2⟩;have hn2:=next_below (by assumption) hb2)
   | (go_at_call 70;refine (must_ok _ _).mono ?_;rintro e w' ⟨rfl,rfl⟩)
   | (go_at_call 69;refine (C3.out _ (next_below HB0.out (by assumption))).mono ?_;rintro e w3 ⟨rfl,hb3⟩;have hn3:=next_below (by assumption) hb3))
  rename_i hH
  obtain ⟨_,e0,e1,e2,e3,e4,e5⟩:=hH
  go_wp2_with fail
  refine (C4.out _ (next_below HB0.out hn3)).mono ?_
  rintro e w4 ⟨rfl,hb4⟩
  have hn4:=next_below hn3 hb4
  go_wp2_with fail
  refine (must_ok _ _).mono ?_
  rintro e w' ⟨rfl,rfl⟩
  go_wp2_with fail
  refine (C5.out _ (next_below HB0.out hn4)).mono ?_
  rintro e w5 ⟨rfl,hb5⟩
  have hn5:=next_below hn4 hb5
  go_wp2_with fail
  exact ⟨rfl,rfl,next_below HB0.out hn5⟩
set_option maxHeartbeats 8000000 in
theorem mulc_raw (p q:Bool) (xn xd yn yd a b:ByteArray) (E:Ending) (w:World) (hE:(∃ r x y,E=.returned (.agg #[.bool r,.string x,.string y]))∨E=PT)
  (c1:∀ wx,Below w.heap.size w wx→Calls Tryz.prog 71 #[.string xn,.string yn] wx (StrZ a wx))
  (c2:∀ wx,Below w.heap.size w wx→Calls Tryz.prog 71 #[.string xd,.string yd] wx (StrZ b wx))
  (c5:∀ wx,Below w.heap.size w wx→Calls Tryz.prog 72 #[.bool (p != q),.string a,.string b] wx fun e w'=>e=E∧Below wx.heap.size wx w') :
  Calls Tryz.prog 193 #[nvS p xn xd,nvS q yn yd] w fun e w'=>e=E∧Below w.heap.size w w':=by
 have C1:=Lib.hid c1;clear c1
 have C2:=Lib.hid c2;clear c2
 have C5:=Lib.hid c5;clear c5
 have HB0:=Lib.hid (WR_below p q xn xd yn yd w)
 have hb0:Below (WR p q xn xd yn yd w).heap.size (WR p q xn xd yn yd w) (WR p q xn xd yn yd w).drew:=(Below.refl _ _).drew
 unfold nvS
 rcases hE with ⟨r,x,y,rfl⟩ | rfl
 ·-- a number
  go_enter Tryz.func193,Tryz.ntmps193
  go_wp2_with fail
  change Code.wp _ _ _ _ (WR p q xn xd yn yd w)
  go_region_held2 (fun wk=>Below (w.heap.size+1+1) (WR p q xn xd yn yd w) wk ∧
   wk.cell? ⟨w.heap.size,0,none⟩=some (.bool p)∧wk.cell? ⟨w.heap.size,1,none⟩=some (.string xn)∧wk.cell? ⟨w.heap.size,2,none⟩=some (.string xd) ∧
   wk.cell? ⟨w.heap.size+1,0,none⟩=some (.bool q)∧wk.cell? ⟨w.heap.size+1,1,none⟩=some (.string yn)∧wk.cell? ⟨w.heap.size+1,2,none⟩=some (.string yd))
   (first | exact WR_cells2 (WR_lo (by assumption)) | exact WR_cells2 (WR_lo (Below.refl _ _).drew) | exact WR_cells2 ((((WR_lo (by assumption)).setCell (Nat.le_refl _) _).setCell (Nat.le_refl _) _).setCell (Nat.le_refl _) _))
   (first
   | (go_at_call_of 71 (Value.string xn);refine (C1.out _ (next_below HB0.out (by assumption))).mono ?_;rintro e w1 ⟨rfl,hb1⟩;have hn1:=next_below (by assumption) hb1)
   | (go_at_call_of 71 (Value.string xd);refine (C2.out _ (next_below HB0.out (by assumption))).mono ?_;rintro e w2 ⟨rfl,hb2⟩;have hn2:=next_below (by assumption) hb2)
   | (go_at_call 70;refine (must_ok _ _).mono ?_;rintro e w' ⟨rfl,rfl⟩)
   | (go_at_call 72;refine (C5.out _ (next_below HB0.out (by assumption))).mono ?_;rintro e w3 ⟨rfl,hb3⟩;have hn3:=next_below (by assumption) hb3;obtain ⟨k0,k1,k2,f0,f1,f2⟩:=WR_res hn3;obtain ⟨s0,s1,s2⟩:=set3 (a':=.bool r) (b':=.string x) (c':=.string y) k0 k1 k2))
  go_wp2_with fail
  refine bodyPost_ret (num_result rfl _ _ (w.heap.size+1+1) r x y rfl s0 s1 s2) rfl ⟨rfl,(((next_below HB0.out hn3).setCell ?_ _).setCell ?_ _).setCell ?_ _⟩ <;> (show w.heap.size≤w.heap.size+1+1;omega)
 ·-- too long
  unfold PT at C5 ⊢
  go_enter Tryz.func193,Tryz.ntmps193
  go_wp2_with fail
  change Code.wp _ _ _ _ (WR p q xn xd yn yd w)
  go_region_held2 (fun wk=>Below (w.heap.size+1+1) (WR p q xn xd yn yd w) wk ∧
   wk.cell? ⟨w.heap.size,0,none⟩=some (.bool p)∧wk.cell? ⟨w.heap.size,1,none⟩=some (.string xn)∧wk.cell? ⟨w.heap.size,2,none⟩=some (.string xd) ∧
   wk.cell? ⟨w.heap.size+1,0,none⟩=some (.bool q)∧wk.cell? ⟨w.heap.size+1,1,none⟩=some (.string yn)∧wk.cell? ⟨w.heap.size+1,2,none⟩=some (.string yd))
   (first | exact WR_cells2 (WR_lo (by assumption)) | exact WR_cells2 (WR_lo (Below.refl _ _).drew) | exact WR_cells2 ((((WR_lo (by assumption)).setCell (Nat.le_refl _) _).setCell (Nat.le_refl _) _).setCell (Nat.le_refl _) _))
   (first
   | (go_at_call_of 71 (Value.string xn);refine (C1.out _ (next_below HB0.out (by assumption))).mono ?_;rintro e w1 ⟨rfl,hb1⟩;have hn1:=next_below (by assumption) hb1)
   | (go_at_call_of 71 (Value.string xd);refine (C2.out _ (next_below HB0.out (by assumption))).mono ?_;rintro e w2 ⟨rfl,hb2⟩;have hn2:=next_below (by assumption) hb2)
   | (go_at_call 70;refine (must_ok _ _).mono ?_;rintro e w' ⟨rfl,rfl⟩)
   | (go_at_call 72;refine (C5.out _ (next_below HB0.out (by assumption))).mono ?_;rintro e w3 ⟨rfl,hb3⟩;have hn3:=next_below (by assumption) hb3;obtain ⟨k0,k1,k2,f0,f1,f2⟩:=WR_res hn3;refine fakeK (by assumption) 26 (.agg #[.bool false,.string ⟨#[]⟩,.string ⟨#[]⟩]) ⟨rfl,rfl,next_below HB0.out hn3⟩ (fun hfalse=>?_)))
  exact hfalse.out.elim
end Go.Proofs.YtjekapjbigfkbaaGreatDoor

namespace Go.Proofs.YtjekapjbigfkbaaGreatDoor
open Go Go.RowKit
set_option maxRecDepth 100000
theorem addc_q (x y:Rat) (w:World) (hx:fitQ x) (hy:fitQ y) (ht:Tab w):Calls Tryz.prog 68 #[nv x,nv y] w (QEnd (x+y) w):=by
 have hT:∀ wx,Below w.heap.size w wx→Tab wx:=fun wx h=>ht.below h (Nat.le_refl _)
 have h1:fits (x.num.natAbs*y.den):=fits_mul hx.1 hy.2
 have h2:fits (y.num.natAbs*x.den):=fits_mul hy.1 hx.2
 have h3:fits (x.num.natAbs*y.den+y.num.natAbs*x.den):=fits_sum hx.1 hy.2 hy.1 hx.2
 have h4:fits (x.den*y.den):=fits_mul hx.2 hy.2
 unfold QEnd
 rw [add_mk x y]
 exact addc_raw (negQ x) (negQ y) _ _ _ _ (str (dec (x.num.natAbs*y.den))) (str (dec (y.num.natAbs*x.den))) _ (str (dec (x.den*y.den))) _ _ w (qE _)
  (fun wx h=>nmul_sd _ _ wx (fit_num hx) (fit_den hy) h1 (hT wx h)) (fun wx h=>nmul_sd _ _ wx (fit_num hy) (fit_den hx) h2 (hT wx h))
  (fun wx h=>ratplus_sd (negQ x) (negQ y) _ _ wx h3 (hT wx h)) (fun wx h=>nmul_sd _ _ wx (fit_den hx) (fit_den hy) h4 (hT wx h))
  (fun wx h=>reduce_sd _ _ _ wx (fits_le h3 (sumF_le _ _ _ _)) h4 (Nat.mul_ne_zero x.den_nz y.den_nz) (hT wx h))
theorem mulc_q (x y:Rat) (w:World) (hx:fitQ x) (hy:fitQ y) (ht:Tab w):Calls Tryz.prog 193 #[nv x,nv y] w (QEnd (x*y) w):=by
 have hT:∀ wx,Below w.heap.size w wx→Tab wx:=fun wx h=>ht.below h (Nat.le_refl _)
 have h1:fits (x.num.natAbs*y.num.natAbs):=fits_mul hx.1 hy.1
 have h2:fits (x.den*y.den):=fits_mul hx.2 hy.2
 unfold QEnd
 rw [mul_mk x y]
 exact mulc_raw (negQ x) (negQ y) _ _ _ _ (str (dec (x.num.natAbs*y.num.natAbs))) (str (dec (x.den*y.den))) _ w (qE _)
  (fun wx h=>nmul_sd _ _ wx (fit_num hx) (fit_num hy) h1 (hT wx h)) (fun wx h=>nmul_sd _ _ wx (fit_den hx) (fit_den hy) h2 (hT wx h))
  (fun wx h=>reduce_sd _ _ _ wx h1 h2 (Nat.mul_ne_zero x.den_nz y.den_nz) (hT wx h))
theorem enterAdd:∀ args w,(callFunc 68 args).run Tryz.prog w=.ok (.enter 68 args) w:=fun args w=>by kernel_rfl
theorem qadd_any (a b:ByteArray) (w:World) (ha:a.size≤9223372036854775807) (hb:b.size≤9223372036854775807) (ht:Tab w) :
  Calls Tryz.prog 34 #[.string a,.string b] w (PairEnd (qaddF a b) w):=by
 have hc:=compute_any 68 (fun x y=>x+y) a b w ha hb ht enterAdd (fun x y hx hy wx h=>addc_q x y wx (txt_prs hx).2 (txt_prs hy).2 (ht.below h (Nat.le_refl _)))
 have hr:okR (fun x y=>x+y) a b=qaddF a b:=rfl
 rw [hr] at hc
 generalize qaddF a b=r at *
 obtain ⟨rs,rn⟩:=r
 have HC:=Lib.hid hc;clear hc hr ht ha hb
 go_enter Tryz.func34,Tryz.ntmps34
 go_wp2_with fail
 refine HC.out.mono ?_
 rintro e w' ⟨rfl,hb⟩
 have HB:=Lib.hid hb;clear hb
 go_wp2_with fail
 go_ret2
 exact ⟨rfl,HB.out⟩
theorem enterMul:∀ args w,(callFunc 193 args).run Tryz.prog w=.ok (.enter 193 args) w:=fun args w=>by kernel_rfl
theorem qmul_any (a b:ByteArray) (w:World) (ha:a.size≤9223372036854775807) (hb:b.size≤9223372036854775807) (ht:Tab w) :
  Calls Tryz.prog 158 #[.string a,.string b] w (PairEnd (qmulF a b) w):=by
 have hc:=compute_any 193 (fun x y=>x*y) a b w ha hb ht enterMul (fun x y hx hy wx h=>mulc_q x y wx (txt_prs hx).2 (txt_prs hy).2 (ht.below h (Nat.le_refl _)))
 have hr:okR (fun x y=>x*y) a b=qmulF a b:=rfl
 rw [hr] at hc
 generalize qmulF a b=r at *
 obtain ⟨rs,rn⟩:=r
 have HC:=Lib.hid hc;clear hc hr ht ha hb
 go_enter Tryz.func158,Tryz.ntmps158
 go_wp2_with fail
 refine HC.out.mono ?_
 rintro e w' ⟨rfl,hb⟩
 have HB:=Lib.hid hb;clear hb
 go_wp2_with fail
 go_ret2
 exact ⟨rfl,HB.out⟩
theorem qvalid_any (a:ByteArray) (w:World) (ha:a.size≤9223372036854775807) (ht:Tab w) :
  Calls Tryz.prog 91 #[.string a] w fun e w'=>e=.returned (.bool (prs a).isSome)∧Below w.heap.size w w':=by
 have hc:=parse_any a w ha ht
 obtain ⟨r,x,y,hz⟩:=prsV_agg (prs a)
 rw [hz] at hc
 generalize (prs a).isSome=o at *
 have HC:=Lib.hid hc;clear hc hz ha ht
 go_enter Tryz.func91,Tryz.ntmps91
 go_wp2_with fail
 refine HC.out.mono ?_
 rintro e w' ⟨rfl,hb⟩
 have HB:=Lib.hid hb;clear hb
 go_wp2_with fail
 go_ret
 exact ⟨rfl,HB.out⟩
theorem prs_zero:prs ⟨#[48]⟩=some 0:=by
 have:txt 0=⟨#[48]⟩:=by unfold txt txtL;rw [show negQ 0=false from rfl,show (0:Rat).num.natAbs=0 from rfl,show (0:Rat).den=1 from rfl,dec_zero];rfl
 rw [← this];exact prs_txt (by unfold fitQ;rw [show (0:Rat).num.natAbs=0 from rfl,show (0:Rat).den=1 from rfl,dec_zero,dec_one];decide)
end Go.Proofs.YtjekapjbigfkbaaGreatDoor

namespace Go.Proofs.YtjekapjbigfkbaaGreatDoor
open Go Go.RowKit
set_option maxRecDepth 100000
attribute [local go_sem ↓] Go.wp_at_zero Go.wp_at_succ
set_option maxHeartbeats 8000000 in
theorem cmp_raw (p q:Bool) (xn xd yn yd a b c:ByteArray) (s:Bool) (v:Int) (s1 s2:ByteArray) (w:World)
  (hv:((c.toList == [48])=true∧v=0)∨((c.toList == [48])=false∧s=true∧v=-1)∨((c.toList == [48])=false∧s=false∧v=1))
  (c0:∀ wx,Below w.heap.size w wx→Calls Tryz.prog 97 #[.string s1] wx fun e w'=>e=.returned (.tuple #[.agg #[.bool p,.string xn,.string xd],.bool true])∧Below wx.heap.size wx w')
  (c0':∀ wx,Below w.heap.size w wx→Calls Tryz.prog 97 #[.string s2] wx fun e w'=>e=.returned (.tuple #[.agg #[.bool q,.string yn,.string yd],.bool true])∧Below wx.heap.size wx w')
  (c1:∀ wx,Below w.heap.size w wx→Calls Tryz.prog 71 #[.string xn,.string yd] wx (StrZ a wx))
  (c2:∀ wx,Below w.heap.size w wx→Calls Tryz.prog 71 #[.string yn,.string xd] wx (StrZ b wx))
  (c3:∀ wx,Below w.heap.size w wx→Calls Tryz.prog 69 #[.bool p,.string a,.bool (!q),.string b] wx fun e w'=>e=.returned (.tuple #[.bool s,.string c])∧Below wx.heap.size wx w') :
  Calls Tryz.prog 44 #[.string s1,.string s2] w (IntEnd v w):=by
 have C0:=Lib.hid c0;clear c0
 have C0':=Lib.hid c0';clear c0'
 have C1:=Lib.hid c1;clear c1
 have C2:=Lib.hid c2;clear c2
 have C3:=Lib.hid c3;clear c3
 have HV:=Lib.hid hv;clear hv
 go_enter Tryz.func44,Tryz.ntmps44
 go_wp2_with fail
 refine (C0.out _ (Below.refl _ _)).mono ?_
 rintro e w1 ⟨rfl,hb1⟩
 have HA1:=Lib.hid hb1
 have HB1:=Lib.hid (hb1.alloc hb1.size (.cells #[.bool p,.string xn,.string xd] 107));clear hb1
 go_wp2_with fail
 refine (C0'.out _ HB1.out).mono ?_
 rintro e w2 ⟨rfl,hb2⟩
 have HA2:=Lib.hid hb2
 have HB2:=Lib.hid ((next_below HB1.out hb2).alloc (Nat.le_trans HB1.out.size hb2.size) (.cells #[.bool q,.string yn,.string yd] 107));clear hb2
 go_wp2_with fail
 obtain ⟨W,hW⟩:∃ W,W=w2.alloc (.cells #[.bool q,.string yn,.string yd] 107):=⟨_,rfl⟩
 have hcells:∀ wk,Below W.heap.size W wk→(Below W.heap.size W wk ∧
  wk.cell? ⟨w1.heap.size,0,none⟩=some (.bool p)∧wk.cell? ⟨w1.heap.size,1,none⟩=some (.string xn)∧wk.cell? ⟨w1.heap.size,2,none⟩=some (.string xd) ∧
  wk.cell? ⟨w2.heap.size,0,none⟩=some (.bool q)∧wk.cell? ⟨w2.heap.size,1,none⟩=some (.string yn)∧wk.cell? ⟨w2.heap.size,2,none⟩=some (.string yd)):=by
  intro wk h
  subst hW
  have z1:=HA2.out.size
  rw [World.size_alloc] at z1
  have cx:∀ (i:Nat) (v:Value),(w1.alloc (.cells #[.bool p,.string xn,.string xd] 107)).cell? ⟨w1.heap.size,i,none⟩=some v→wk.cell? ⟨w1.heap.size,i,none⟩=some v:=by
   intro i v hv
   refine (h.cell (p:=⟨w1.heap.size,i,none⟩) (by rw [World.size_alloc];show w1.heap.size < _;omega)).trans ?_
   rw [World.cell?_alloc_past (hn:=by omega)]
   exact (HA2.out.cell (p:=⟨w1.heap.size,i,none⟩) (by rw [World.size_alloc];show w1.heap.size < _;omega)).trans hv
  have cy:∀ (i:Nat) (v:Value),(w2.alloc (.cells #[.bool q,.string yn,.string yd] 107)).cell? ⟨w2.heap.size,i,none⟩=some v→wk.cell? ⟨w2.heap.size,i,none⟩=some v:=by
   intro i v hv
   exact (h.cell (p:=⟨w2.heap.size,i,none⟩) (by rw [World.size_alloc];show w2.heap.size < _;omega)).trans hv
  exact ⟨h,cx 0 _ (by simp [go_sem]),cx 1 _ (by simp [go_sem]),cx 2 _ (by simp [go_sem]),cy 0 _ (by simp [go_sem]),cy 1 _ (by simp [go_sem]),cy 2 _ (by simp [go_sem])⟩
 rw [← hW]
 rw [← hW] at HB2
 have HC:=Lib.hid hcells;clear hcells
 have HWW:=Lib.hid hW;clear hW
 have hb0:Below W.heap.size W W.drew:=(Below.refl _ _).drew
 go_region_held2 (fun wk=>Below W.heap.size W wk ∧
  wk.cell? ⟨w1.heap.size,0,none⟩=some (.bool p)∧wk.cell? ⟨w1.heap.size,1,none⟩=some (.string xn)∧wk.cell? ⟨w1.heap.size,2,none⟩=some (.string xd) ∧
  wk.cell? ⟨w2.heap.size,0,none⟩=some (.bool q)∧wk.cell? ⟨w2.heap.size,1,none⟩=some (.string yn)∧wk.cell? ⟨w2.heap.size,2,none⟩=some (.string yd))
  (first | exact HC.out _ (by assumption) | exact HC.out _ (Below.refl _ _).drew)
  (first
   | (go_at_call_of 71 (Value.string xn);refine (C1.out _ (next_below HB2.out (by assumption))).mono ?_;rintro e w1 ⟨rfl,hb1⟩;have hn1:=next_below (by assumption) hb1)
   | (go_at_call_of 71 (Value.string yn);refine (C2.out _ (next_below HB2.out (by assumption))).mono ?_;rintro e w2 ⟨rfl,hb2⟩;have hn2:=next_below (by assumption) hb2)
   | (go_at_call 70;refine (must_ok _ _).mono ?_;rintro e w' ⟨rfl,rfl⟩)
   | (go_at_call 69;refine (C3.out _ (next_below HB2.out (by assumption))).mono ?_;rintro e w3 ⟨rfl,hb3⟩;have hn3:=next_below (by assumption) hb3))
 have HN3:=Lib.hid hn3
 rcases HV.out with ⟨h1,rfl⟩ | ⟨h1,rfl,rfl⟩ | ⟨h1,rfl,rfl⟩
 ·go_wp2_with fail
  go_ret
  exact ⟨rfl,next_below HB2.out HN3.out⟩
 ·go_wp2_with fail
  go_ret
  exact ⟨rfl,next_below HB2.out HN3.out⟩
 ·go_wp2_with fail
  go_ret
  exact ⟨rfl,next_below HB2.out HN3.out⟩
theorem sd_zero_iff (n:Nat):((str (dec n)).toList == [48])=decide (n=0):=by
 rw [str_eq,decide_eq_decide]
 exact ⟨fun h=>dec_inj (h.trans dec_zero.symm),fun h=>by rw [h,dec_zero]⟩
set_option maxHeartbeats 1000000 in
theorem qcmp_any (a b:ByteArray) (w:World) (ha:a.size≤9223372036854775807) (hb:b.size≤9223372036854775807) (ht:Tab w) :
  Calls Tryz.prog 44 #[.string a,.string b] w (IntEnd (qcmpF a b) w):=by
 have hT:∀ wx,Below w.heap.size w wx→Tab wx:=fun wx h=>ht.below h (Nat.le_refl _)
 have c1:=fun wx (h:Below w.heap.size w wx)=>parse_any a wx ha (hT wx h)
 have c2:=fun wx (h:Below w.heap.size w wx)=>parse_any b wx hb (hT wx h)
 cases h1:prs a with
 | none =>
  have hr:qcmpF a b=0:=by unfold qcmpF;rw [h1]
  rw [hr];simp only [h1,Option.isSome,prsV] at c1
  generalize (prs b).isSome=o at c2
  obtain ⟨r,x,y,hz⟩:=prsV_agg (prs b)
  rw [hz] at c2
  have C1:=Lib.hid c1;clear c1
  have C2:=Lib.hid c2;clear c2 hr h1 hz ht ha hb hT
  unfold NoNum nvS at C1
  go_enter Tryz.func44,Tryz.ntmps44
  go_wp2_with fail
  refine (C1.out _ (Below.refl _ _)).mono ?_
  rintro e w1 ⟨rfl,hb1⟩
  have HB1:=Lib.hid (hb1.alloc hb1.size (.cells #[.bool false,.string ⟨#[]⟩,.string ⟨#[]⟩] 107));clear hb1
  go_wp2_with fail
  refine (C2.out _ HB1.out).mono ?_
  rintro e w2 ⟨rfl,hb2⟩
  have HB2:=Lib.hid (next_below HB1.out hb2);clear hb2
  go_wp2_with fail
  go_ret
  exact ⟨rfl,HB2.out.alloc HB2.out.size _⟩
 | some x =>
  simp only [h1,Option.isSome,prsV] at c1
  cases h2:prs b with
  | none =>
   have hr:qcmpF a b=0:=by unfold qcmpF;rw [h1,h2]
   rw [hr];simp only [h2,Option.isSome,prsV] at c2
   have C1:=Lib.hid c1;clear c1
   have C2:=Lib.hid c2;clear c2 hr h1 h2 ht ha hb hT
   unfold NoNum nvS at C2
   unfold nv nvS at C1
   go_enter Tryz.func44,Tryz.ntmps44
   go_wp2_with fail
   refine (C1.out _ (Below.refl _ _)).mono ?_
   rintro e w1 ⟨rfl,hb1⟩
   have HB1:=Lib.hid (hb1.alloc hb1.size (.cells #[.bool (negQ x),.string (str (dec x.num.natAbs)),.string (str (dec x.den))] 107));clear hb1
   go_wp2_with fail
   refine (C2.out _ HB1.out).mono ?_
   rintro e w2 ⟨rfl,hb2⟩
   have HB2:=Lib.hid (next_below HB1.out hb2);clear hb2
   go_wp2_with fail
   go_ret
   exact ⟨rfl,HB2.out.alloc HB2.out.size _⟩
  | some y =>
   have hx:=(txt_prs h1).2
   have hy:=(txt_prs h2).2
   have hr:qcmpF a b=cmpQ x y:=by unfold qcmpF;rw [h1,h2]
   rw [hr];simp only [h2,Option.isSome,prsV] at c2
   have f1:fits (x.num.natAbs*y.den):=fits_mul hx.1 hy.2
   have f2:fits (y.num.natAbs*x.den):=fits_mul hy.1 hx.2
   have f3:fits (x.num.natAbs*y.den+y.num.natAbs*x.den):=fits_sum hx.1 hy.2 hy.1 hx.2
   refine cmp_raw (negQ x) (negQ y) _ _ _ _ (str (dec (x.num.natAbs*y.den))) (str (dec (y.num.natAbs*x.den))) (str (dec (sumF (negQ x) (x.num.natAbs*y.den) (!negQ y) (y.num.natAbs*x.den)).2)) (sumF (negQ x) (x.num.natAbs*y.den) (!negQ y) (y.num.natAbs*x.den)).1 (cmpQ x y) a b w ?_ c1 c2
    (fun wx h=>nmul_sd _ _ wx (fit_num hx) (fit_den hy) f1 (hT wx h)) (fun wx h=>nmul_sd _ _ wx (fit_num hy) (fit_den hx) f2 (hT wx h))
    (fun wx h=>ratplus_sd (negQ x) (!negQ y) _ _ wx f3 (hT wx h))
   rw [cmp_mk x y,sd_zero_iff]
   generalize sumF (negQ x) (x.num.natAbs*y.den) (!negQ y) (y.num.natAbs*x.den)=r
   obtain ⟨s,k⟩:=r
   by_cases hk:k=0
   ·left;simp [hk]
   ·right;cases s <;> simp [hk]
end Go.Proofs.YtjekapjbigfkbaaGreatDoor
