/- Parts of a proof: MR2. -/
import Derived.Test.YtjekapjbigfkbaaGreatDoorQ13
import Derived.Deep.QuietTactic
import Derived.BigQuiet
import Derived.Laws.Concat
namespace Go.Proofs.YtjekapjbigfkbaaGreatDoor
open Go Go.RowKit
set_option maxRecDepth 100000
theorem dig_set {L:List Nat} (h:Dig L) (j v:Nat) (hv:v < 10):Dig (L.set j v):=fun i=>by
 by_cases hj:j < L.length
 ·rw [nth_set L j v i hj];split
  ·exact hv
  ·exact h i
 ·rw [List.set_eq_of_length_le (by omega)];exact h i
theorem dval_set (L:List Nat):∀ (j v:Nat),j < L.length→dval (L.set j v)+10 ^ j*nth L j=dval L+10 ^ j*v:=by
 induction L with
 | nil=>intro j v h;simp at h
 | cons x L ih =>
  intro j v h
  cases j with
  | zero=>simp only [List.set_cons_zero,dval,nth_cons_zero,Nat.pow_zero];omega
  | succ j =>
   have:=ih j v (by simpa using h)
   simp only [List.set_cons_succ,dval,nth_cons_succ,Nat.pow_succ]
   have e:10*(dval (L.set j v)+10 ^ j*nth L j)=10*(dval L+10 ^ j*v):=by rw [this]
   rw [Nat.mul_add,Nat.mul_add,← Nat.mul_assoc,← Nat.mul_assoc,Nat.mul_comm 10 (10 ^ j)] at e
   omega
theorem nth_rep (k i:Nat):nth (List.replicate k 0) i=0:=by unfold nth;simp [List.getD_eq_getElem?_getD,List.getElem?_replicate];split <;> rfl
structure MulIR (xs ys L:List Nat) (i k c:Nat):Prop where
 dig:Dig L
 carry:c < 10
 len:L.length=xs.length+ys.length+1
 val:dval L+10 ^ (i+k)*c=dval (xs.take i)*dval ys+10 ^ i*(nth xs i*dval (ys.take k))
structure MulOR (xs ys L:List Nat) (i:Nat):Prop where
 dig:Dig L
 len:L.length=xs.length+ys.length+1
 val:dval L=dval (xs.take i)*dval ys
theorem MulOR.start (xs ys:List Nat):MulOR xs ys (List.replicate (xs.length+ys.length+1) 0) 0 :=
 ⟨fun i=>by rw [nth_rep];omega,by simp,by rw [dval_zero (nth_rep _)];simp [dval]⟩
theorem MulOR.inner {xs ys L:List Nat} {i:Nat} (h:MulOR xs ys L i):MulIR xs ys L i 0 0 :=
 ⟨h.dig,by omega,h.len,by rw [h.val];simp [dval]⟩
theorem mul_d_bound {l c x y:Nat} (h1:l < 10) (h2:c < 10) (h3:x < 10) (h4:y < 10):l+x*y+c < 100:=by
 have:x*y≤9*9:=Nat.mul_le_mul (by omega) (by omega)
 omega
theorem MulIR.step {xs ys L:List Nat} {i k c l x y:Nat} (h:MulIR xs ys L i k c) (hx:Dig xs) (hy:Dig ys) (hi:i < xs.length) (hk:k < ys.length+1) (el:l=nth L (i+k)) (ex:x=nth xs i) (ey:y=nth ys k) :
  MulIR xs ys (L.set (i+k) ((l+x*y+c) % 10)) i (k+1) ((l+x*y+c) / 10):=by
 have hb:=mul_d_bound (h.dig (i+k)) h.carry (hx i) (hy k)
 have hlt:i+k < L.length:=by rw [h.len];omega
 have hset:=dval_set L (i+k) ((l+x*y+c) % 10) hlt
 have hval:=h.val
 have htk:=dval_take_succ ys k
 rw [← el,← ex,← ey] at hb
 rw [← el] at hset
 rw [← ey] at htk
 rw [← ex] at hval
 generalize hp:l+x*y+c=p at *
 have hp2:10 ^ (i+k)*l+10 ^ (i+k)*(x*y)+10 ^ (i+k)*c=10 ^ (i+k)*p:=by rw [← hp,Nat.mul_add,Nat.mul_add]
 have hp3:10 ^ (i+k)*p=10 ^ (i+k)*(p % 10)+10 ^ (i+k)*10*(p / 10):=by
  rw [Nat.mul_assoc,← Nat.mul_add,Nat.mod_add_div]
 refine ⟨dig_set h.dig _ _ (by omega),by omega,by simp [h.len],?_⟩
 rw [htk,Nat.mul_add,Nat.mul_add,show i+(k+1)=i+k+1 by omega,Nat.pow_succ 10 (i+k),← ex]
 have e:10 ^ i*(x*(10 ^ k*y))=10 ^ (i+k)*(x*y):=by
  rw [Nat.pow_add,Nat.mul_left_comm x,Nat.mul_assoc]
 rw [e]
 omega
theorem MulIR.done {xs ys L:List Nat} {i c:Nat} (h:MulIR xs ys L i (ys.length+1) c) (hx:Dig xs) (hy:Dig ys) (hi:i < xs.length):MulOR xs ys L (i+1):=by
 refine ⟨h.dig,h.len,?_⟩
 have hval:=h.val
 rw [List.take_of_length_le (by omega:ys.length≤ys.length+1)] at hval
 have e:dval (xs.take i)*dval ys+10 ^ i*(nth xs i*dval ys)=dval (xs.take (i+1))*dval ys:=by
  rw [dval_take_succ,Nat.add_mul,Nat.mul_assoc]
 rw [e] at hval
 have h1:dval (xs.take (i+1)) < 10 ^ (i+1):=by
  have:=dval_lt (dig_take hx (i+1));rw [List.length_take,Nat.min_eq_left (by omega)] at this;exact this
 have h2:=dval_lt hy
 have h3:dval (xs.take (i+1))*dval ys < 10 ^ (i+1)*10 ^ ys.length:=by
  have h4:dval (xs.take (i+1))*dval ys≤dval (xs.take (i+1))*10 ^ ys.length:=Nat.mul_le_mul_left _ (by omega)
  have h5:dval (xs.take (i+1))*10 ^ ys.length < 10 ^ (i+1)*10 ^ ys.length:=Nat.mul_lt_mul_of_pos_right h1 (Nat.pow_pos (by omega))
  omega
 rw [← Nat.pow_add,show i+1+ys.length=i+(ys.length+1) by omega] at h3
 rcases Nat.eq_zero_or_pos c with h0 | h0
 ·subst h0;rw [Nat.mul_zero,Nat.add_zero] at hval;exact hval
 ·have:10 ^ (i+(ys.length+1))*1≤10 ^ (i+(ys.length+1))*c:=Nat.mul_le_mul_left _ h0
  omega
theorem MulOR.done {xs ys L:List Nat} (h:MulOR xs ys L xs.length):dval L=dval xs*dval ys:=by rw [h.val,List.take_length]
set_option maxRecDepth 100000 in
set_option maxHeartbeats 4000000 in
theorem rmul_any (s t:ByteArray) (w:World) (hs:s.size≤maxLen) (ht:t.size≤maxLen) :
  Calls Tryz.prog 141 #[.string s,.string t] w (PairEnd (mulF s t) w):=by
 have c1:=fun w=>rvalid_any s w hs
 have c2:=fun w=>rvalid_any t w ht
 clear hs ht
 cases h1:vld s with
 | false =>
  have hr:mulF s t=(str [],1):=by unfold mulF;rw [h1];rfl
  rw [hr];unfold vld at h1;rw [h1] at c1;clear hr h1 c2
  have C1:=Lib.hid c1;clear c1
  go_enter Tryz.func141,Tryz.ntmps141
  go_wp2_with fail
  refine (C1.out _).mono ?_
  rintro e w' ⟨rfl,rfl⟩
  go_wp2
  go_ret2
  exact ⟨rfl,Below.refl _ _⟩
 | true =>
  cases h2:vld t with
  | false =>
   have hr:mulF s t=(str [],1):=by unfold mulF;rw [h1,h2];rfl
   rw [hr];unfold vld at h1 h2;rw [h1] at c1;rw [h2] at c2;clear hr h1 h2
   have C1:=Lib.hid c1;clear c1
   have C2:=Lib.hid c2;clear c2
   go_enter Tryz.func141,Tryz.ntmps141
   go_wp2_with fail
   refine (C1.out _).mono ?_
   rintro e w' ⟨rfl,rfl⟩
   go_wp2_with fail
   refine (C2.out _).mono ?_
   rintro e w' ⟨rfl,rfl⟩
   go_wp2
   go_ret2
   exact ⟨rfl,Below.refl _ _⟩
  | true =>
   rw [show validL (bts s)=true from h1] at c1;rw [show validL (bts t)=true from h2] at c2
   have C1:=Lib.hid c1;clear c1
   have C2:=Lib.hid c2;clear c2
   have H1:=Lib.hid h1;clear h1
   have H2:=Lib.hid h2;clear h2
   have hr:mulF s t=limS (val s*val t):=by unfold mulF;rw [H1.out,H2.out];rfl
   rw [hr];clear hr
   have d1:=fun w=>rdigits_any s w (by have:=vld_size H1.out;omega) (valid_parts H1.out).2.2.2
   have D1:=Lib.hid d1;clear d1
   have d2:=fun w=>rdigits_any t w (by have:=vld_size H2.out;omega) (valid_parts H2.out).2.2.2
   have D2:=Lib.hid d2;clear d2
   have o1:=digL_ok (valid_parts H1.out).2.2.2
   have o2:=digL_ok (valid_parts H2.out).2.2.2
   have hx1:=(vld_size H1.out).2
   have hy1:=(vld_size H2.out).2
   have n1:=digL_len (bts s)
   have n2:=digL_len (bts t)
   rw [bts_len] at n1 n2
   obtain ⟨xs,hxs⟩:∃ xs,xs=digL (bts s):=⟨_,rfl⟩
   obtain ⟨ys,hys⟩:∃ ys,ys=digL (bts t):=⟨_,rfl⟩
   rw [← hxs] at o1 n1
   rw [← hys] at o2 n2
   have hlx:xs.length≤1000:=by omega
   have hly:ys.length≤1000:=by omega
   have O1:=Lib.hid o1;clear o1
   have O2:=Lib.hid o2;clear o2
   have XS:=Lib.hid hxs;clear hxs
   have YS:=Lib.hid hys;clear hys
   clear hx1 hy1 n1 n2
   go_enter Tryz.func141,Tryz.ntmps141
   go_wp2_with fail
   refine (C1.out _).mono ?_
   rintro e w' ⟨rfl,rfl⟩
   go_wp2_with fail
   refine (C2.out _).mono ?_
   rintro e w' ⟨rfl,rfl⟩
   go_wp2_with fail
   refine (D1.out w).mono ?_
   rintro e w1 ⟨v1,rfl,ho1,hb1⟩
   rw [← XS.out] at ho1
   obtain ⟨ax,cx,rfl⟩:=ho1.shape
   have HO1:=Lib.hid ho1;clear ho1
   have HB1:=Lib.hid hb1;clear hb1
   have hz1:=HB1.out.size
   go_wp2_with fail
   refine (D2.out w1).mono ?_
   rintro e w2 ⟨v2,rfl,ho2,hb2⟩
   rw [← YS.out] at ho2
   obtain ⟨ay,cy,rfl⟩:=ho2.shape
   have HO2:=Lib.hid ho2;clear ho2
   have hb12:=HB1.out.trans (hb2.mono hz1)
   have hx2:=HO1.out.sl.below hb2 (Nat.le_refl _)
   have HB2:=Lib.hid hb12;clear hb12 hb2
   have hz2:=HB2.out.size
   have HX:=Lib.hid hx2;clear hx2
   have hy2:=HO2.out.sl
   have HY:=Lib.hid hy2;clear hy2
   obtain ⟨i0,ih0,iz0,iz1,iz2⟩:=info_parts info_int
   obtain ⟨wm,hmk,hown,hgr⟩:=run_make_full w2 w.heap.size 27 3 i0 (.int .i64 0) 1 Tryz.underlying27 ih0 iz0 iz1 .i64 .i64 (xs.length+ys.length+1) (by rw [iz2];omega) (by unfold maxLen;omega) (by omega)
   rw [show ((xs.length+ys.length+1:Nat):Int)=(xs.length:Int)+(ys.length:Int)+1 by omega] at hmk
   have hbm2:Below w2.heap.size w2 wm:=(Below.refl _ _).grown hgr (Nat.le_refl _) (by simp)
   have hbm:Below w.heap.size w wm:=HB2.out.trans ((Below.refl _ _).grown hgr (by omega) (by simp))
   have hL0:Own wm w.heap.size 3 .i64 (.slice (some ⟨w2.heap.size,0,none⟩) (xs.length+ys.length+1) (xs.length+ys.length+1)) (List.replicate (xs.length+ys.length+1) 0):=by
    unfold Own
    rw [vals_replicate,List.length_replicate]
    have:=hown
    rw [Nat.mul_one,show (Value.int .i64 0).cells=#[Value.int .i64 0] from rfl,toList_madeCells_one] at this
    exact this
   have HM:=Lib.hid hbm;clear hbm
   have HM2:=Lib.hid hbm2;clear hbm2
   have HL0:=Lib.hid hL0;clear hL0 hown hgr
   obtain ⟨ax',cx',bx,ox,hsl,hax,hcx1,hcx2,hbx,hcellx⟩:=HX.out.open
   rw [Value.slice.injEq] at hsl
   obtain ⟨rfl,_,rfl⟩:=hsl
   unfold maxLen at hcx2
   have HCX:=Lib.hid hcellx;clear hcellx
   have HAX:=Lib.hid hax;clear hax
   have HBX:=Lib.hid hbx;clear hbx
   go_wp2_with fail
   clear hmk
   go_loopw [9] (fun i wr=>∃ (k:Nat) (L:List Nat),k≤xs.length∧i=.int .i64 (k:Int)∧MulOR xs ys L k∧Own wr w.heap.size 3 .i64 (.slice (some ⟨w2.heap.size,0,none⟩) (xs.length+ys.length+1) (xs.length+ys.length+1)) L∧Below w.heap.size w wr∧Below w2.heap.size w2 wr) (fun i _=>xs.length - (intOf i).toNat)
   case atStart=>exact ⟨0,_,Nat.zero_le _,rfl,MulOR.start xs ys,HL0.out,HM.out,HM2.out⟩
   case round =>
    obtain ⟨i,L,hi1,rfl,hmo,hown,hbw,hbw2⟩:=hrel
    have HMO:=Lib.hid hmo;clear hmo
    have HO:=Lib.hid hown;clear hown
    have HBW:=Lib.hid hbw;clear hbw
    have HBW2:=Lib.hid hbw2;clear hbw2
    obtain ⟨wo,rfl⟩:∃ wo:World,wo=wr:=⟨_,rfl⟩
    by_cases hlt:i < xs.length
    ·obtain rfl:=HAX.out (by omega)
     have hbx:=HBX.out (by omega)
     go_wp2_with fail
     go_loopw [10,11] (fun c q wr=>∃ (k cc:Nat) (L:List Nat),k≤ys.length+1∧q=.int .i64 (k:Int)∧c=.int .i64 (cc:Int)∧MulIR xs ys L i k cc∧Own wr w.heap.size 3 .i64 (.slice (some ⟨w2.heap.size,0,none⟩) (xs.length+ys.length+1) (xs.length+ys.length+1)) L∧Below w.heap.size w wr∧Below w2.heap.size w2 wr) (fun _ q _=>ys.length+1 - (intOf q).toNat)
     case atStart=>exact ⟨0,0,L,Nat.zero_le _,rfl,rfl,HMO.out.inner,HO.out,HBW.out,HBW2.out⟩
     case round =>
      obtain ⟨k,cc,L',hk1,rfl,rfl,hmi,hown,hbw,hbw2⟩:=hrel
      have HMI:=Lib.hid hmi;clear hmi
      have HO':=Lib.hid hown;clear hown
      have HBW':=Lib.hid hbw;clear hbw
      have HBW2':=Lib.hid hbw2;clear hbw2
      by_cases hlt2:k≤ys.length
      ·have hlen:=HMI.out.len
       have cl:=HO'.out.cell hlen (i+k) (by omega)
       have fl:=HO'.out.free hlen (i+k)
       have HLEN:=Lib.hid hlen;clear hlen
       have c1:=(HBW2'.out.cell (p:=⟨bx,ox+i,none⟩) hbx).trans (HCX.out i hlt)
       obtain ⟨x,hx⟩:∃ x,x=nth xs i:=⟨_,rfl⟩
       obtain ⟨y,hy⟩:∃ y,y=nth ys k:=⟨_,rfl⟩
       obtain ⟨l,hl⟩:∃ l,l=nth L' (i+k):=⟨_,rfl⟩
       rw [← hl] at cl
       rw [← hx] at c1
       have hstep:=HMI.out.step O1.out.1 O2.out.1 hlt (by omega) hl hx hy
       have HST:=Lib.hid hstep;clear hstep
       have hx9:(x:Int)≤9:=by have:=O1.out.1 i;rw [← hx] at this;omega
       have hy9:(y:Int)≤9:=by have:=O2.out.1 k;rw [← hy] at this;omega
       have hl9:(l:Int)≤9:=by have:=HMI.out.dig (i+k);rw [← hl] at this;omega
       have hc9:(cc:Int)≤9:=by have:=HMI.out.carry;omega
       have hmul:((x:Int)*(y:Int))=((x*y:Nat):Int):=by simp
       have hpn:x*y≤9*9:=Nat.mul_le_mul (by omega) (by omega)
       have hp1:(x:Int)*(y:Int)≤81:=by rw [hmul];omega
       have hp0:0≤(x:Int)*(y:Int):=by rw [hmul];omega
       have hce:(((l:Int)+(x:Int)*(y:Int)+(cc:Int)) % 10)=(((l+x*y+cc) % 10:Nat):Int):=by rw [hmul];omega
       have hcd:(((l:Int)+(x:Int)*(y:Int)+(cc:Int)) / 10)=(((l+x*y+cc) / 10:Nat):Int):=by rw [hmul];omega
       have HCE:=Lib.hid hce;clear hce
       have hwd:wrap64 (((l:Int)+(x:Int)*(y:Int)+(cc:Int)).tdiv 10)=(((l+x*y+cc) / 10:Nat):Int):=by
        rw [Int.tdiv_eq_ediv_of_nonneg (by omega),hcd,← IntWalk.i64_left,IntKind.wrap_i64];omega
       have HWD:=Lib.hid hwd;clear hwd
       clear hcd hmul hpn
       have HXX:=Lib.hid hx;clear hx
       have HYY:=Lib.hid hy;clear hy
       have HLX:=Lib.hid hl;clear hl
       have hyw:=HY.out.below HBW2'.out (Nat.le_refl _)
       have HYW:=Lib.hid hyw;clear hyw
       have hi1000:(i:Int)≤1000:=by omega
       have hk1000:(k:Int)≤1000:=by omega
       have hw1:IntKind.i64.wrap ((i:Int)+(k:Int))=(i:Int)+(k:Int):=by rw [IntKind.wrap_i64];omega
       have hw2:IntKind.i64.wrap ((x:Int)*(y:Int))=(x:Int)*(y:Int):=by rw [IntKind.wrap_i64];omega
       have hw3:IntKind.i64.wrap ((l:Int)+(x:Int)*(y:Int))=(l:Int)+(x:Int)*(y:Int):=by rw [IntKind.wrap_i64];omega
       have hw4:IntKind.i64.wrap ((l:Int)+(x:Int)*(y:Int)+(cc:Int))=(l:Int)+(x:Int)*(y:Int)+(cc:Int):=by rw [IntKind.wrap_i64];omega
       clear hx9 hy9 hl9 hc9
       have hix0:0≤(i:Int)+(k:Int):=by omega
       have hix1:(i:Int)+(k:Int) < (xs.length:Int)+(ys.length:Int)+1:=by omega
       have hix2:((i:Int)+(k:Int)).toNat=i+k:=by omega
       go_wp2_with fail
       go_quiet ((go_at_call 171;exact Calls.quiet_of_same ((rat_any _ ys k _ (HYW.out.below (below_drewN (Below.refl _ wr) _) (Nat.le_refl _)) (by omega)).mono fun e w' h=>⟨by rw [h.1,← HYY.out],h.2.symm⟩)))
       go_wp2
       go_roundw
       case rel =>
        have ho:=(HO'.out.kept (below_drewN (Below.refl _ wr) nq) (Nat.le_refl _)).set HLEN.out (i+k) ((l+x*y+cc) % 10)
        exact ⟨k+1,(l+x*y+cc) / 10,L'.set (i+k) ((l+x*y+cc) % 10),by omega,by go_num,by rw [HWD.out],HST.out,by rw [HCE.out];exact ho,(below_drewN HBW'.out nq).setCell HO'.out.base.1 _,(below_drewN HBW2'.out nq).setCell (Nat.le_refl _) _⟩
       case measure=>simp [intOf];omega
      ·have hkk:k=ys.length+1:=by omega
       have HKK:=Lib.hid hkk;clear hkk
       have hgt:ys.length < k:=by omega
       go_wp2_with fail
       go_roundw
       case rel =>
        have h1:=HMI.out
        rw [HKK.out] at h1
        exact ⟨i+1,L',by omega,by go_num,h1.done O1.out.1 O2.out.1 hlt,HO'.out,HBW'.out,HBW2'.out⟩
       case measure=>simp [intOf];omega
    ·have hii:i=xs.length:=by omega
     have hmo:=HMO.out
     rw [hii] at hmo
     clear hii
     have hsum:=hmo.done
     rw [O1.out.2,O2.out.2] at hsum
     have hsum':dval L=val s*val t:=hsum
     clear hsum
     have HSUM:=Lib.hid hsum';clear hsum'
     have hsz:=HBW.out.size
     have q3:=rtext_any (.slice (some ⟨w2.heap.size,0,none⟩) (xs.length+ys.length+1) (xs.length+ys.length+1)) L wo (by have:=HO.out.sl;exact this) hmo.dig (by rw [hmo.len];omega)
     rw [HSUM.out] at q3
     have Q3:=Lib.hid q3;clear q3 hmo
     go_wp2_with fail
     refine Q3.out.mono ?_
     rintro e w4 ⟨rfl,hb4⟩
     have hb5:=HBW.out.trans (hb4.mono hsz)
     have HB5:=Lib.hid hb5;clear hb5 hb4
     go_wp2_with fail
     refine (rlimited_any (val s*val t) w4).mono ?_
     rintro e w5 ⟨rfl,rfl⟩
     go_wp2_with fail
     go_ret2
     exact ⟨rfl,HB5.out⟩
end Go.Proofs.YtjekapjbigfkbaaGreatDoor
namespace Go.Proofs.YtjekapjbigfkbaaGreatDoor
open Go Go.RowKit
set_option maxRecDepth 100000
structure DivI (l:List UInt8) (n:Nat) (qb:List UInt8) (rn i:Nat):Prop where
 len:qb.length=i
 dig:dgts qb=true
 lt:rn < n
 val:num qb*n+rn=num (l.take i)
theorem DivI.start (l:List UInt8) {n:Nat} (h:n≠0):DivI l n [] 0 0:=⟨rfl,rfl,by omega,by simp [num]⟩
theorem dgt_byteOf {j:Nat} (h:j < 10):dgt (byteOf j)=true:=by simp only [dgt,byteOf_toNat h];simp;omega
theorem DivI.step {l:List UInt8} {n:Nat} {qb:List UInt8} {rn i j m:Nat} {c:UInt8} (h:DivI l n qb rn i) (ht:l.take (i+1)=l.take i++[c]) (hm:m < n) (hj:j < 10) (he:m+j*n=10*rn+(c.toNat - 48)) :
  DivI l n (qb++[byteOf j]) m (i+1):=by
 refine ⟨by rw [List.length_append,h.len];rfl,by rw [dgts_snoc,h.dig,dgt_byteOf hj];rfl,hm,?_⟩
 rw [num_snoc,ht,num_snoc,← h.val,byteOf_toNat hj,show 48+j - 48=j by omega,Nat.add_mul,Nat.mul_add,Nat.mul_assoc]
 omega
theorem DivI.j_lt {n rn m j d:Nat} (hr:rn < n) (hd:d < 10) (he:m+j*n=10*rn+d):j < 10:=by
 rcases Nat.lt_or_ge j 10 with h | h
 ·exact h
 ·have:10*n≤j*n:=Nat.mul_le_mul_right _ h
  omega
theorem ext_one (s:ByteArray) (i:Nat) (h:i < s.size):s.extract i (i+1)=str [s[i]]:=bts_inj (by
 rw [bts_str]
 simp only [bts,ByteArray.data_extract,Array.toList_extract,List.extract_eq_take_drop]
 rw [show i+1 - i=1 by omega,List.drop_eq_getElem_cons (by rw [show s.data.toList.length=s.size from bts_len s];exact h),List.take_succ_cons,List.take_zero];rfl)
theorem r_first {c:UInt8} (h:dgt c=true):str [c]=str (dec (10*0+(c.toNat - 48))):=by
 simp only [dgt,Bool.and_eq_true,decide_eq_true_eq] at h
 rw [dec_small (by omega),u8_eq (c:=c) (by omega)]
theorem r_next {c:UInt8} {rn:Nat} (h:dgt c=true) (h0:rn≠0):str (dec rn)++str [c]=str (dec (10*rn+(c.toNat - 48))):=by
 simp only [dgt,Bool.and_eq_true,decide_eq_true_eq] at h
 rw [dec_big (n:=10*rn+(c.toNat - 48)) (by omega),show (10*rn+(c.toNat - 48)) / 10=rn by omega,u8_eq (c:=c) (by omega)]
 exact bts_inj (by simp [bts,str])
theorem dec_len1 {m n d k:Nat} (hn:(dec n).length≤k) (hr:m < n) (hd:d < 10):(dec (10*m+d)).length≤k+1:=by
 have:=(dec_len_lt.1 hn).1
 exact dec_len_lt.2 ⟨by rw [Nat.pow_succ];omega,by omega⟩
theorem dec_len_mono {m n k:Nat} (h:m≤n) (hn:(dec n).length≤k):(dec m).length≤k:=by
 have:=dec_len_lt.1 hn
 exact dec_len_lt.2 ⟨by omega,this.2⟩
theorem dec_len_le {m n:Nat} (h:n≤m):(dec n).length≤(dec m).length:=dec_len_mono h (Nat.le_refl _)
def strN (v:Value):Nat:=match v with | .string s=>val s | _=>0
theorem strN_dec (n:Nat):strN (.string (str (dec n)))=n:=val_sd n
structure Strip (l:List UInt8) (k:Nat):Prop where
 lt:k+1≤l.length
 val:num (l.drop k)=num l
theorem Strip.step {l:List UInt8} {k:Nat} (h:Strip l k) (hk:k+1 < l.length) (hz:l[k].toNat=48):Strip l (k+1):=by
 refine ⟨by omega,?_⟩
 rw [← h.val,List.drop_eq_getElem_cons (i:=k) (by omega)]
 generalize l.drop (k+1)=x
 show num x=List.foldl (fun n c=>10*n+(c.toNat - 48)) (10*0+(l[k].toNat - 48)) x
 rw [hz];rfl
theorem strip_end {l:List UInt8} {k:Nat} (h:Strip l k) (hd:dgts l=true) (hl:l.length≤1000) (hz:k+1=l.length∨l[k]'(by have:=h.lt;omega)≠48):l.drop k=dec (num l):=by
 have hlt:=h.lt
 rw [← h.val]
 refine (dec_num (valid_mk (by rw [List.length_drop];omega) (by rw [List.length_drop];omega) ?_ ?_)).symm
 ·rcases hz with h | h
  ·left;rw [List.length_drop];omega
  ·right;rw [List.drop_eq_getElem_cons (i:=k) (by omega),List.headD_cons];exact h
 ·unfold dgts at *;rw [List.all_eq_true] at *;intro x hx;exact hd x (List.mem_of_mem_drop hx)
set_option maxRecDepth 100000 in
set_option maxHeartbeats 4000000 in
theorem rdiv_any (s t:ByteArray) (w:World) (hs:s.size≤maxLen) (ht:t.size≤maxLen) :
  Calls Tryz.prog 143 #[.string s,.string t] w (TripEnd (divF s t) w):=by
 have c1:=fun w=>rvalid_any s w hs
 have c2:=fun w=>rvalid_any t w ht
 clear hs ht
 cases h1:vld s with
 | false =>
  have hr:divF s t=(str [],str [],1):=by unfold divF;rw [h1];rfl
  rw [hr];unfold vld at h1;rw [h1] at c1;clear hr h1 c2
  have C1:=Lib.hid c1;clear c1
  go_enter Tryz.func143,Tryz.ntmps143
  go_wp2_with fail
  refine (C1.out _).mono ?_
  rintro e w' ⟨rfl,rfl⟩
  go_wp2
  go_ret3
  exact ⟨rfl,Below.refl _ _⟩
 | true =>
  cases h2:vld t with
  | false =>
   have hr:divF s t=(str [],str [],1):=by unfold divF;rw [h1,h2];rfl
   rw [hr];unfold vld at h1 h2;rw [h1] at c1;rw [h2] at c2;clear hr h1 h2
   have C1:=Lib.hid c1;clear c1
   have C2:=Lib.hid c2;clear c2
   go_enter Tryz.func143,Tryz.ntmps143
   go_wp2_with fail
   refine (C1.out _).mono ?_
   rintro e w' ⟨rfl,rfl⟩
   go_wp2_with fail
   refine (C2.out _).mono ?_
   rintro e w' ⟨rfl,rfl⟩
   go_wp2
   go_ret3
   exact ⟨rfl,Below.refl _ _⟩
  | true =>
   rw [show validL (bts s)=true from h1] at c1;rw [show validL (bts t)=true from h2] at c2
   have C1:=Lib.hid c1;clear c1
   have C2:=Lib.hid c2;clear c2
   have H1:=Lib.hid h1;clear h1
   have H2:=Lib.hid h2;clear h2
   have d2:=fun w=>rdigits_any t w (by have:=vld_size H2.out;omega) (valid_parts H2.out).2.2.2
   have D2:=Lib.hid d2;clear d2
   have hts:=(sd_val H2.out)
   have HTS:=Lib.hid hts;clear hts
   have hdn:(dec (val t)).length≤1000:=fits_val H2.out
   have HDN:=Lib.hid hdn;clear hdn
   have hsz1000:(s.size:Int)≤1000:=by have:=(vld_size H1.out).2;omega
   have hsz1:(1:Int)≤(s.size:Int):=by have:=(vld_size H1.out).1;omega
   by_cases hz:val t=0
   ·have hr:divF s t=(str [],str [],4):=by unfold divF;rw [H1.out,H2.out,if_pos hz];rfl
    rw [hr];clear hr
    have ht0:=is_zero H2.out hz
    clear hz
    go_enter Tryz.func143,Tryz.ntmps143
    go_wp2_with fail
    refine (C1.out _).mono ?_
    rintro e w' ⟨rfl,rfl⟩
    go_wp2_with fail
    refine (C2.out _).mono ?_
    rintro e w' ⟨rfl,rfl⟩
    go_wp2_with fail
    go_ret3
    exact ⟨rfl,Below.refl _ _⟩
   ·have hr:divF s t=(str (dec (val s / val t)),str (dec (val s % val t)),0):=by unfold divF;rw [H1.out,H2.out,if_neg hz];rfl
    rw [hr];clear hr
    have ht0:(t.toList == [48])=false:=beq_eq_false_iff_ne.2 (not_zero hz)
    have HZ:=Lib.hid hz;clear hz
    obtain ⟨i0,hi,hz0,hz1',hz2'⟩:=info_parts info_u8
    go_enter Tryz.func143,Tryz.ntmps143
    go_wp2_with fail
    refine (C1.out _).mono ?_
    rintro e w' ⟨rfl,rfl⟩
    go_wp2_with fail
    refine (C2.out _).mono ?_
    rintro e w' ⟨rfl,rfl⟩
    go_wp2_with fail
    clear ht0
    go_loopw [7,8,9] (fun v r i wr=>∃ (k rn:Nat) (qb:List UInt8),k≤s.size∧i=.int .i64 (k:Int)∧r=.string (str (dec rn))∧DivI (bts s) (val t) qb rn k∧Own wr w.heap.size 5 .u8 v (qb.map (·.toNat))∧Below w.heap.size w wr) (fun _ _ i _=>s.size - (intOf i).toNat)
    case atStart=>exact ⟨0,0,[],Nat.zero_le _,rfl,by rw [dec_small (by omega)];rfl,DivI.start _ HZ.out,Own.nil _ _ _ _,Below.refl _ _⟩
    case round =>
     obtain ⟨k,rn,qb,hk,rfl,rfl,hinv,hown,hb⟩:=hrel
     have hlk:(qb.map (·.toNat)).length=k:=by rw [List.length_map];exact hinv.len
     have HINV:=Lib.hid hinv;clear hinv
     obtain ⟨ad,cap,rfl⟩:=hown.shape
     rw [hlk] at hown ⊢
     have HO:=Lib.hid hown;clear hown
     have HB:=Lib.hid hb;clear hb
     have hsz:=HB.out.size
     have HLK:=Lib.hid hlk;clear hlk
     obtain ⟨wo,rfl⟩:∃ wo:World,wo=wr:=⟨_,rfl⟩
     by_cases hlt:k < s.size
     ·have hdc:dgt s[k]=true:=by
       have:=dgts_get (valid_parts H1.out).2.2.2 k (by rw [bts_len];exact hlt)
       rw [bts_get s k hlt] at this
       simp only [dgt];simp;exact this
      have hex:=ext_one s k hlt
      have htk:=take_snoc s k hlt
      obtain ⟨c,hc⟩:∃ c,c=s[k]:=⟨_,rfl⟩
      rw [← hc] at hdc hex htk
      have HDC:=Lib.hid hdc;clear hdc
      have HEX:=Lib.hid hex;clear hex
      have HTK:=Lib.hid htk;clear htk
      clear hc
      obtain ⟨m0,hm0⟩:∃ m0,m0=10*rn+(c.toNat - 48):=⟨_,rfl⟩
      have hml:(dec m0).length≤1001:=by
       have:=HDC.out
       simp only [dgt,Bool.and_eq_true,decide_eq_true_eq] at this
       rw [hm0];exact dec_len1 HDN.out HINV.out.lt (by omega)
      have HML:=Lib.hid hml;clear hml
      have HM0:=Lib.hid hm0;clear hm0
      by_cases hrn:rn=0
      ·have hr0:(str (dec rn)).toList=[48]:=by rw [hrn,Lib.toList_data,dec_small (by omega)];rfl
       have hstr:s.extract k (k+1)=str (dec m0):=by rw [HEX.out,HM0.out,hrn];exact r_first HDC.out
       have HSTR:=Lib.hid hstr;clear hstr hrn
       go_wp2_with fail
       rw [HSTR.out]
       clear hr0
       go_loopw [8,10] (fun r d wq=>∃ (m j:Nat),r=.string (str (dec m))∧d=.int .u8 (48+(j:Int))∧m+j*val t=m0∧Below w.heap.size w wq∧Below wo.heap.size wo wq) (fun r _ _=>strN r)
       case atStart=>exact ⟨m0,0,rfl,by go_num,by omega,HB.out,Below.refl _ _⟩
       case round =>
        obtain ⟨m,j,rfl,rfl,hmj,hbq,hbq2⟩:=hrel
        have HMJ:=Lib.hid hmj;clear hmj
        have HQ:=Lib.hid hbq;clear hbq
        have HQ2:=Lib.hid hbq2;clear hbq2
        have hszq:=HQ.out.size
        have hszq2:=HQ2.out.size
        have hmm:(dec m).length≤1001:=dec_len_mono (by have:=HMJ.out;omega) HML.out
        have hcd:c.toNat - 48 < 10:=by have:=HDC.out;simp only [dgt,Bool.and_eq_true,decide_eq_true_eq] at this;omega
        have hj10:=DivI.j_lt HINV.out.lt hcd (HMJ.out.trans HM0.out)
        clear hcd
        have hj9:(j:Int)≤9:=by omega
        have HJ:=Lib.hid hj10;clear hj10
        have hc:=rcompare_any m (val t) wr (by omega)
        rw [HTS.out] at hc
        unfold CmpEnd at hc
        by_cases hlow:m < val t
        ·rw [cmpN_lt hlow] at hc
         have HC:=Lib.hid hc;clear hc
         have HLOW:=Lib.hid hlow;clear hlow
         go_wp2_with fail
         refine HC.out.mono ?_
         rintro e w3 ⟨rfl,hb3⟩
         have hb31:=HQ.out.trans (hb3.mono hszq)
         have hb32:=HQ2.out.trans (hb3.mono hszq2)
         have hok:=HO.out.kept hb32 (Nat.le_refl _)
         have hraw:w3.ownsRow w.heap.size 5 1 (.slice ad k cap) k (vals .u8 (qb.map (·.toNat))):=by have:=hok.raw;rwa [HLK.out] at this
         have HRAW:=Lib.hid hraw;clear hraw
         have HOK:=Lib.hid hok;clear hok
         have HB3:=Lib.hid hb31;clear hb31 hb32 hb3
         have hsz3:=HB3.out.size
         have hce:(48+(j:Int))=((48+j:Nat):Int):=by omega
         have HCE:=Lib.hid hce;clear hce
         have hqe:(qb++[byteOf j]).map (·.toNat)=qb.map (·.toNat)++[48+j]:=by rw [List.map_append];simp [byteOf_toNat HJ.out]
         have HQE:=Lib.hid hqe;clear hqe
         go_wp2_with (at_builtin;refine wpList_append_own _ rfl (.tmp 54) (.tmp 56) 191 rfl w.heap.size 5 i0 (.int .u8 0) 1 1 Tryz.underlying191 hi hz0 hz1' hz2' rfl (by decide) _ _ _ rfl (World.ownsRow.alloc HRAW.out _) ⟨w3.heap.size,0,none⟩ 1 1 [.int .u8 (48+(j:Int))] rfl rfl (cell_one_new _ _ _) (one_cell _ _) (by unfold maxLen;omega) (by omega) (by simp;omega) ?_;intro v' w1 hown1 hgrow1 _)
         rw [HCE.out] at hown1
         obtain ⟨ho,hb⟩:=HOK.out.appended HB3.out hsz3 (by rw [HLK.out];exact hown1) hgrow1
         clear hown1 hgrow1
         rw [← HQE.out] at ho
         have HO1:=Lib.hid ho;clear ho
         have HB1:=Lib.hid hb;clear hb
         try go_wp2_with fail
         go_roundw
         case rel=>exact ⟨k+1,m,qb++[byteOf j],by omega,by go_num,rfl,HINV.out.step HTK.out HLOW.out HJ.out (HMJ.out.trans HM0.out),HO1.out,HB1.out⟩
         case measure=>simp [intOf];omega
        ·have hcn:(0:Int)≤cmpN m (val t):=by unfold cmpN;rw [if_neg hlow];split <;> decide
         obtain ⟨cc,hcc⟩:∃ cc,cc=cmpN m (val t):=⟨_,rfl⟩
         rw [← hcc] at hcn hc
         clear hcc
         have HC:=Lib.hid hc;clear hc
         have hle:val t≤m:=Nat.le_of_not_lt hlow
         have HLE:=Lib.hid hle;clear hle hlow
         have hdl:(digL (bts t)).length≤(digL (dec m)).length:=by
          rw [digL_len,digL_len,bts_len,← HTS.out,str_size];exact dec_len_le HLE.out
         have hdv1:dval (digL (dec m))=m:=by rw [(digL_ok (dgts_dec m)).2,num_dec]
         have hdv2:dval (digL (bts t))=val t:=(digL_ok (valid_parts H2.out).2.2.2).2
         have hdd1:=(digL_ok (dgts_dec m)).1
         have hdd2:=(digL_ok (valid_parts H2.out).2.2.2).1
         have hxl:(digL (dec m)).length≤1001:=by rw [digL_len];exact hmm
         have D1:=Lib.hid (rdigits_any (str (dec m)))
         obtain ⟨xs,hxs⟩:∃ xs,xs=digL (dec m):=⟨_,rfl⟩
         obtain ⟨ys,hys⟩:∃ ys,ys=digL (bts t):=⟨_,rfl⟩
         rw [← hxs] at hdl hdv1 hdd1 hxl
         rw [← hys] at hdl hdv2 hdd2
         have XS:=Lib.hid hxs;clear hxs
         have YS:=Lib.hid hys;clear hys
         have HDL:=Lib.hid hdl;clear hdl
         have HV1:=Lib.hid hdv1;clear hdv1
         have HV2:=Lib.hid hdv2;clear hdv2
         have HD1:=Lib.hid hdd1;clear hdd1
         have HD2:=Lib.hid hdd2;clear hdd2
         go_wp2_with fail
         refine HC.out.mono ?_
         rintro e w3 ⟨rfl,hb3⟩
         have hb31:=HQ.out.trans (hb3.mono hszq)
         have hb32:=HQ2.out.trans (hb3.mono hszq2)
         have HB3:=Lib.hid hb31
         have HW3:=Lib.hid hb32
         clear hb31 hb32 hb3
         have hz3:=HB3.out.size
         have hy3:=HW3.out.size
         go_wp2_with fail
         have q4:=D1.out w3 (by rw [str_size];omega) (by rw [bts_str];exact dgts_dec m)
         rw [bts_str,← XS.out] at q4
         refine q4.mono ?_
         clear q4
         rintro e w4 ⟨v4,rfl,ho4,hb4⟩
         obtain ⟨a4,c4,rfl⟩:=ho4.shape
         have HO4:=Lib.hid ho4;clear ho4
         have hb41:=HB3.out.trans (hb4.mono hz3)
         have hb42:=HW3.out.trans (hb4.mono hy3)
         have HB4:=Lib.hid hb41
         have HW4:=Lib.hid hb42
         clear hb41 hb42 hb4
         have hz4:=HB4.out.size
         have hy4:=HW4.out.size
         go_wp2_with fail
         have q5:=D2.out w4
         rw [← YS.out] at q5
         refine q5.mono ?_
         clear q5
         rintro e w5 ⟨v5,rfl,ho5,hb5⟩
         obtain ⟨a5,c5,rfl⟩:=ho5.shape
         have HO5:=Lib.hid ho5;clear ho5
         have hs5:=HO4.out.sl.below hb5 (Nat.le_refl _)
         have HS5:=Lib.hid hs5;clear hs5
         have hb51:=HB4.out.trans (hb5.mono hz4)
         have hb52:=HW4.out.trans (hb5.mono hy4)
         have HB5:=Lib.hid hb51
         have HW5:=Lib.hid hb52
         clear hb51 hb52 hb5
         have hz5:=HB5.out.size
         have hy5:=HW5.out.size
         go_wp2_with fail
         refine (rless_any _ _ xs ys w5 HS5.out HO5.out.sl HD1.out HD2.out HDL.out (by rw [HV1.out,HV2.out];exact HLE.out) (by omega)).mono ?_
         rintro e w6 ⟨ls,hls1,hls2,hls3,v6,rfl,ho6,hb6⟩
         obtain ⟨a6,c6,rfl⟩:=ho6.shape
         rw [HV1.out,HV2.out] at hls1
         have HL1:=Lib.hid hls1;clear hls1
         have HL2:=Lib.hid hls2;clear hls2
         have hls4:ls.length≤1001:=by omega
         clear hls3
         have HO6:=Lib.hid ho6;clear ho6
         have hb61:=HB5.out.trans (hb6.mono hz5)
         have hb62:=HW5.out.trans (hb6.mono hy5)
         have HB6:=Lib.hid hb61
         have HW6:=Lib.hid hb62
         clear hb61 hb62 hb6
         have hz6:=HB6.out.size
         have hy6:=HW6.out.size
         go_wp2_with fail
         have q7:=rtext_any _ ls w6 HO6.out.sl HL2.out (by omega)
         rw [HL1.out] at q7
         refine q7.mono ?_
         clear q7
         rintro e w7 ⟨rfl,hb7⟩
         have hb71:=HB6.out.trans (hb7.mono hz6)
         have hb72:=HW6.out.trans (hb7.mono hy6)
         have HB7:=Lib.hid hb71
         have HW7:=Lib.hid hb72
         clear hb71 hb72 hb7
         go_wp2_with fail
         go_roundw
         case rel=>exact ⟨m - val t,j+1,rfl,by go_num,by rw [Nat.add_mul,Nat.one_mul];have:=HMJ.out;have:=HLE.out;omega,HB7.out,HW7.out⟩
         case measure=>rw [strN_dec,strN_dec];have:=HLE.out;have:=HZ.out;omega
      ·have hr0:((str (dec rn)).toList == [48])=false:=beq_eq_false_iff_ne.2 (not_zero (by rw [val_sd];exact hrn))
       have hstr:str (dec rn)++s.extract k (k+1)=str (dec m0):=by rw [HEX.out,HM0.out];exact r_next HDC.out hrn
       have HSTR:=Lib.hid hstr;clear hstr hrn
       have hsr:((str (dec rn)).size:Int)≤8388608:=by rw [str_size];have:=dec_len_mono (Nat.le_of_lt HINV.out.lt) HDN.out;omega
       have hse:((s.extract k (k+1)).size:Int)≤8388608:=by rw [HEX.out,str_size];simp
       go_wp2_with fail
       rw [HSTR.out]
       clear hr0
       go_loopw [8,10] (fun r d wq=>∃ (m j:Nat),r=.string (str (dec m))∧d=.int .u8 (48+(j:Int))∧m+j*val t=m0∧Below w.heap.size w wq∧Below wo.heap.size wo wq) (fun r _ _=>strN r)
       case atStart=>exact ⟨m0,0,rfl,by go_num,by omega,HB.out,Below.refl _ _⟩
       case round =>
        obtain ⟨m,j,rfl,rfl,hmj,hbq,hbq2⟩:=hrel
        have HMJ:=Lib.hid hmj;clear hmj
        have HQ:=Lib.hid hbq;clear hbq
        have HQ2:=Lib.hid hbq2;clear hbq2
        have hszq:=HQ.out.size
        have hszq2:=HQ2.out.size
        have hmm:(dec m).length≤1001:=dec_len_mono (by have:=HMJ.out;omega) HML.out
        have hcd:c.toNat - 48 < 10:=by have:=HDC.out;simp only [dgt,Bool.and_eq_true,decide_eq_true_eq] at this;omega
        have hj10:=DivI.j_lt HINV.out.lt hcd (HMJ.out.trans HM0.out)
        clear hcd
        have hj9:(j:Int)≤9:=by omega
        have HJ:=Lib.hid hj10;clear hj10
        have hc:=rcompare_any m (val t) wr (by omega)
        rw [HTS.out] at hc
        unfold CmpEnd at hc
        by_cases hlow:m < val t
        ·rw [cmpN_lt hlow] at hc
         have HC:=Lib.hid hc;clear hc
         have HLOW:=Lib.hid hlow;clear hlow
         go_wp2_with fail
         refine HC.out.mono ?_
         rintro e w3 ⟨rfl,hb3⟩
         have hb31:=HQ.out.trans (hb3.mono hszq)
         have hb32:=HQ2.out.trans (hb3.mono hszq2)
         have hok:=HO.out.kept hb32 (Nat.le_refl _)
         have hraw:w3.ownsRow w.heap.size 5 1 (.slice ad k cap) k (vals .u8 (qb.map (·.toNat))):=by have:=hok.raw;rwa [HLK.out] at this
         have HRAW:=Lib.hid hraw;clear hraw
         have HOK:=Lib.hid hok;clear hok
         have HB3:=Lib.hid hb31;clear hb31 hb32 hb3
         have hsz3:=HB3.out.size
         have hce:(48+(j:Int))=((48+j:Nat):Int):=by omega
         have HCE:=Lib.hid hce;clear hce
         have hqe:(qb++[byteOf j]).map (·.toNat)=qb.map (·.toNat)++[48+j]:=by rw [List.map_append];simp [byteOf_toNat HJ.out]
         have HQE:=Lib.hid hqe;clear hqe
         go_wp2_with (at_builtin;refine wpList_append_own _ rfl (.tmp 54) (.tmp 56) 191 rfl w.heap.size 5 i0 (.int .u8 0) 1 1 Tryz.underlying191 hi hz0 hz1' hz2' rfl (by decide) _ _ _ rfl (World.ownsRow.alloc HRAW.out _) ⟨w3.heap.size,0,none⟩ 1 1 [.int .u8 (48+(j:Int))] rfl rfl (cell_one_new _ _ _) (one_cell _ _) (by unfold maxLen;omega) (by omega) (by simp;omega) ?_;intro v' w1 hown1 hgrow1 _)
         rw [HCE.out] at hown1
         obtain ⟨ho,hb⟩:=HOK.out.appended HB3.out hsz3 (by rw [HLK.out];exact hown1) hgrow1
         clear hown1 hgrow1
         rw [← HQE.out] at ho
         have HO1:=Lib.hid ho;clear ho
         have HB1:=Lib.hid hb;clear hb
         try go_wp2_with fail
         go_roundw
         case rel=>exact ⟨k+1,m,qb++[byteOf j],by omega,by go_num,rfl,HINV.out.step HTK.out HLOW.out HJ.out (HMJ.out.trans HM0.out),HO1.out,HB1.out⟩
         case measure=>simp [intOf];omega
        ·have hcn:(0:Int)≤cmpN m (val t):=by unfold cmpN;rw [if_neg hlow];split <;> decide
         obtain ⟨cc,hcc⟩:∃ cc,cc=cmpN m (val t):=⟨_,rfl⟩
         rw [← hcc] at hcn hc
         clear hcc
         have HC:=Lib.hid hc;clear hc
         have hle:val t≤m:=Nat.le_of_not_lt hlow
         have HLE:=Lib.hid hle;clear hle hlow
         have hdl:(digL (bts t)).length≤(digL (dec m)).length:=by
          rw [digL_len,digL_len,bts_len,← HTS.out,str_size];exact dec_len_le HLE.out
         have hdv1:dval (digL (dec m))=m:=by rw [(digL_ok (dgts_dec m)).2,num_dec]
         have hdv2:dval (digL (bts t))=val t:=(digL_ok (valid_parts H2.out).2.2.2).2
         have hdd1:=(digL_ok (dgts_dec m)).1
         have hdd2:=(digL_ok (valid_parts H2.out).2.2.2).1
         have hxl:(digL (dec m)).length≤1001:=by rw [digL_len];exact hmm
         have D1:=Lib.hid (rdigits_any (str (dec m)))
         obtain ⟨xs,hxs⟩:∃ xs,xs=digL (dec m):=⟨_,rfl⟩
         obtain ⟨ys,hys⟩:∃ ys,ys=digL (bts t):=⟨_,rfl⟩
         rw [← hxs] at hdl hdv1 hdd1 hxl
         rw [← hys] at hdl hdv2 hdd2
         have XS:=Lib.hid hxs;clear hxs
         have YS:=Lib.hid hys;clear hys
         have HDL:=Lib.hid hdl;clear hdl
         have HV1:=Lib.hid hdv1;clear hdv1
         have HV2:=Lib.hid hdv2;clear hdv2
         have HD1:=Lib.hid hdd1;clear hdd1
         have HD2:=Lib.hid hdd2;clear hdd2
         go_wp2_with fail
         refine HC.out.mono ?_
         rintro e w3 ⟨rfl,hb3⟩
         have hb31:=HQ.out.trans (hb3.mono hszq)
         have hb32:=HQ2.out.trans (hb3.mono hszq2)
         have HB3:=Lib.hid hb31
         have HW3:=Lib.hid hb32
         clear hb31 hb32 hb3
         have hz3:=HB3.out.size
         have hy3:=HW3.out.size
         go_wp2_with fail
         have q4:=D1.out w3 (by rw [str_size];omega) (by rw [bts_str];exact dgts_dec m)
         rw [bts_str,← XS.out] at q4
         refine q4.mono ?_
         clear q4
         rintro e w4 ⟨v4,rfl,ho4,hb4⟩
         obtain ⟨a4,c4,rfl⟩:=ho4.shape
         have HO4:=Lib.hid ho4;clear ho4
         have hb41:=HB3.out.trans (hb4.mono hz3)
         have hb42:=HW3.out.trans (hb4.mono hy3)
         have HB4:=Lib.hid hb41
         have HW4:=Lib.hid hb42
         clear hb41 hb42 hb4
         have hz4:=HB4.out.size
         have hy4:=HW4.out.size
         go_wp2_with fail
         have q5:=D2.out w4
         rw [← YS.out] at q5
         refine q5.mono ?_
         clear q5
         rintro e w5 ⟨v5,rfl,ho5,hb5⟩
         obtain ⟨a5,c5,rfl⟩:=ho5.shape
         have HO5:=Lib.hid ho5;clear ho5
         have hs5:=HO4.out.sl.below hb5 (Nat.le_refl _)
         have HS5:=Lib.hid hs5;clear hs5
         have hb51:=HB4.out.trans (hb5.mono hz4)
         have hb52:=HW4.out.trans (hb5.mono hy4)
         have HB5:=Lib.hid hb51
         have HW5:=Lib.hid hb52
         clear hb51 hb52 hb5
         have hz5:=HB5.out.size
         have hy5:=HW5.out.size
         go_wp2_with fail
         refine (rless_any _ _ xs ys w5 HS5.out HO5.out.sl HD1.out HD2.out HDL.out (by rw [HV1.out,HV2.out];exact HLE.out) (by omega)).mono ?_
         rintro e w6 ⟨ls,hls1,hls2,hls3,v6,rfl,ho6,hb6⟩
         obtain ⟨a6,c6,rfl⟩:=ho6.shape
         rw [HV1.out,HV2.out] at hls1
         have HL1:=Lib.hid hls1;clear hls1
         have HL2:=Lib.hid hls2;clear hls2
         have hls4:ls.length≤1001:=by omega
         clear hls3
         have HO6:=Lib.hid ho6;clear ho6
         have hb61:=HB5.out.trans (hb6.mono hz5)
         have hb62:=HW5.out.trans (hb6.mono hy5)
         have HB6:=Lib.hid hb61
         have HW6:=Lib.hid hb62
         clear hb61 hb62 hb6
         have hz6:=HB6.out.size
         have hy6:=HW6.out.size
         go_wp2_with fail
         have q7:=rtext_any _ ls w6 HO6.out.sl HL2.out (by omega)
         rw [HL1.out] at q7
         refine q7.mono ?_
         clear q7
         rintro e w7 ⟨rfl,hb7⟩
         have hb71:=HB6.out.trans (hb7.mono hz6)
         have hb72:=HW6.out.trans (hb7.mono hy6)
         have HB7:=Lib.hid hb71
         have HW7:=Lib.hid hb72
         clear hb71 hb72 hb7
         go_wp2_with fail
         go_roundw
         case rel=>exact ⟨m - val t,j+1,rfl,by go_num,by rw [Nat.add_mul,Nat.one_mul];have:=HMJ.out;have:=HLE.out;omega,HB7.out,HW7.out⟩
         case measure=>rw [strN_dec,strN_dec];have:=HLE.out;have:=HZ.out;omega
     ·have hkk:k=s.size:=by omega
      obtain ⟨g,cap',hv,_,_,hkc,_⟩:=HO.out.some (by rw [HLK.out];omega)
      rw [HLK.out] at hv hkc
      simp only [Value.slice.injEq,true_and] at hv
      obtain ⟨rfl,rfl⟩:=hv
      have hql:=HINV.out.len
      have QL:=Lib.hid hql;clear hql
      have hval:num qb*val t+rn=val s:=by
       have:=HINV.out.val
       rw [hkk,List.take_of_length_le (by rw [bts_len];omega)] at this;exact this
      have hrem:rn=val s % val t:=by
       rw [← hval,Nat.mul_comm,Nat.mul_add_mod,Nat.mod_eq_of_lt HINV.out.lt]
      have hquo:num qb=val s / val t:=by
       rw [← hval,Nat.mul_comm,Nat.mul_add_div (Nat.pos_of_ne_zero HZ.out),Nat.div_eq_of_lt HINV.out.lt,Nat.add_zero]
      have HREM:=Lib.hid hrem;clear hrem
      have HQUO:=Lib.hid hquo;clear hquo hval
      have hk1:1≤k:=by omega
      have hk1000:k≤1000:=by omega
      have HK1000:=Lib.hid hk1000
      clear hkk
      go_wp2_with fail
      go_loop [11] (fun i=>∃ j:Nat,i=.int .i64 (j:Int)∧Strip qb j) (fun i=>k - (intOf i).toNat)
      case atStart=>exact ⟨0,rfl,⟨by rw [QL.out];omega,by rw [List.drop_zero]⟩⟩
      case round =>
       obtain ⟨j,rfl,hst⟩:=hrel
       have hjk:=hst.lt
       rw [QL.out] at hjk
       have hjk':j < k:=by omega
       have hjc:j < cap:=by omega
       have hjc2:¬ cap=j:=by omega
       have HST:=Lib.hid hst;clear hst
       have hcl:=HO.out.cell HLK.out j (by omega)
       have hnd:nth (qb.map (·.toNat)) j=(qb[j]'(by rw [QL.out];omega)).toNat:=by rw [nth_get _ _ (by rw [HLK.out];omega),List.getElem_map]
       obtain ⟨d,hd⟩:∃ d,d=nth (qb.map (·.toNat)) j:=⟨_,rfl⟩
       rw [← hd] at hcl hnd
       have HND:=Lib.hid hnd;clear hnd hd
       by_cases hlt2:j+1 < k
       ·have hgj:decide ((j:Int) < (k:Int) - 1)=true:=decide_eq_true (by omega)
        have HLT2:=Lib.hid hlt2;clear hlt2 hjk
        by_cases h48:d=48
        ·have hg:((d:Int) == 48)=true:=by rw [beq_iff_eq];omega
         have H48:=Lib.hid h48;clear h48
         have hstep:=HST.out.step (by rw [QL.out];exact HLT2.out) (by rw [← HND.out];exact H48.out)
         have HSTEP:=Lib.hid hstep;clear hstep
         go_wp2_with fail
         go_round
         case rel=>exact ⟨j+1,by go_num,HSTEP.out⟩
         case measure=>simp [intOf];omega
        ·have hg:((d:Int) == 48)=false:=by rw [beq_eq_false_iff_ne];omega
         have hend:=strip_end HST.out HINV.out.dig (by rw [QL.out];exact HK1000.out) (.inr (by intro e;apply h48;rw [HND.out,e];rfl))
         clear h48
         rw [HQUO.out] at hend
         have hcells:∀ (i:Nat) (hi:i < (qb.drop j).length),wo.cell? ((⟨g,j,none⟩:Addr).add i)=some (.int .u8 (((qb.drop j)[i].toNat:Nat):Int)):=fun i hi=>by
          have hi':j+i < k:=by rw [List.length_drop,QL.out] at hi;omega
          have hc:=HO.out.cell HLK.out (j+i) hi'
          have e:(⟨g,j,none⟩:Addr).add i=⟨g,j+i,none⟩:=by unfold Addr.add;split <;> simp_all
          rw [e,hc,nth_get _ _ (by rw [HLK.out];exact hi'),List.getElem_map,List.getElem_drop]
         have hcv:=run_convert_bytes_back (P:=Tryz.prog) wo 191 9 5 ⟨g,j,none⟩ (cap - j) (qb.drop j) Tryz.underlying191 Tryz.underlying5 Tryz.underlying9 hcells
         have hres:(⟨(qb.drop j).toArray⟩:ByteArray)=str (dec (val s / val t)):=by rw [hend];rfl
         rw [hres,List.length_drop,QL.out] at hcv
         clear hcells hres hend
         go_wp2_with fail
         all_goals (rw [← HREM.out];go_ret3;exact ⟨rfl,HB.out⟩)
       ·have hgj:decide ((j:Int) < (k:Int) - 1)=false:=decide_eq_false (by omega)
        have hend:=strip_end HST.out HINV.out.dig (by rw [QL.out];exact HK1000.out) (.inl (by rw [QL.out];omega))
        clear hlt2 hjk
        rw [HQUO.out] at hend
        have hcells:∀ (i:Nat) (hi:i < (qb.drop j).length),wo.cell? ((⟨g,j,none⟩:Addr).add i)=some (.int .u8 (((qb.drop j)[i].toNat:Nat):Int)):=fun i hi=>by
         have hi':j+i < k:=by rw [List.length_drop,QL.out] at hi;omega
         have hc:=HO.out.cell HLK.out (j+i) hi'
         have e:(⟨g,j,none⟩:Addr).add i=⟨g,j+i,none⟩:=by unfold Addr.add;split <;> simp_all
         rw [e,hc,nth_get _ _ (by rw [HLK.out];exact hi'),List.getElem_map,List.getElem_drop]
        have hcv:=run_convert_bytes_back (P:=Tryz.prog) wo 191 9 5 ⟨g,j,none⟩ (cap - j) (qb.drop j) Tryz.underlying191 Tryz.underlying5 Tryz.underlying9 hcells
        have hres:(⟨(qb.drop j).toArray⟩:ByteArray)=str (dec (val s / val t)):=by rw [hend];rfl
        rw [hres,List.length_drop,QL.out] at hcv
        clear hcells hres hend
        go_wp2_with fail
        all_goals (rw [← HREM.out];go_ret3;exact ⟨rfl,HB.out⟩)
end Go.Proofs.YtjekapjbigfkbaaGreatDoor
namespace Go.Proofs.YtjekapjbigfkbaaGreatDoor
open Go Go.RowKit
set_option maxRecDepth 100000
set_option maxRecDepth 100000 in
set_option maxHeartbeats 4000000 in
theorem rgcd_any (s t:ByteArray) (w:World) (hs:s.size≤maxLen) (ht:t.size≤maxLen) :
  Calls Tryz.prog 137 #[.string s,.string t] w (PairEnd (gcdF s t) w):=by
 have c1:=fun w=>rvalid_any s w hs
 have c2:=fun w=>rvalid_any t w ht
 clear hs ht
 cases h1:vld s with
 | false =>
  have hr:gcdF s t=(str [],1):=by unfold gcdF;rw [h1];rfl
  rw [hr];unfold vld at h1;rw [h1] at c1;clear hr h1 c2
  have C1:=Lib.hid c1;clear c1
  go_enter Tryz.func137,Tryz.ntmps137
  go_wp2_with fail
  refine (C1.out _).mono ?_
  rintro e w' ⟨rfl,rfl⟩
  go_wp2
  go_ret2
  exact ⟨rfl,Below.refl _ _⟩
 | true =>
  cases h2:vld t with
  | false =>
   have hr:gcdF s t=(str [],1):=by unfold gcdF;rw [h1,h2];rfl
   rw [hr];unfold vld at h1 h2;rw [h1] at c1;rw [h2] at c2;clear hr h1 h2
   have C1:=Lib.hid c1;clear c1
   have C2:=Lib.hid c2;clear c2
   go_enter Tryz.func137,Tryz.ntmps137
   go_wp2_with fail
   refine (C1.out _).mono ?_
   rintro e w' ⟨rfl,rfl⟩
   go_wp2_with fail
   refine (C2.out _).mono ?_
   rintro e w' ⟨rfl,rfl⟩
   go_wp2
   go_ret2
   exact ⟨rfl,Below.refl _ _⟩
  | true =>
   rw [show validL (bts s)=true from h1] at c1;rw [show validL (bts t)=true from h2] at c2
   have C1:=Lib.hid c1;clear c1
   have C2:=Lib.hid c2;clear c2
   have H1:=Lib.hid h1;clear h1
   have H2:=Lib.hid h2;clear h2
   have hr:gcdF s t=(str (dec (Nat.gcd (val s) (val t))),0):=by unfold gcdF;rw [H1.out,H2.out];rfl
   rw [hr];clear hr
   go_enter Tryz.func137,Tryz.ntmps137
   go_wp2_with fail
   refine (C1.out _).mono ?_
   rintro e w' ⟨rfl,rfl⟩
   go_wp2_with fail
   refine (C2.out _).mono ?_
   rintro e w' ⟨rfl,rfl⟩
   go_wp2_with fail
   go_loopg [0,1] (val t) (fun g va vb wr=>∃ p:Nat,va=.string (str (dec p))∧vb=.string (str (dec g))∧Nat.gcd p g=Nat.gcd (val s) (val t)∧fits p∧fits g∧Below w.heap.size w wr)
   case atStart=>exact ⟨val s,by rw [sd_val H1.out],by rw [sd_val H2.out],rfl,fits_val H1.out,fits_val H2.out,Below.refl _ _⟩
   case round =>
    obtain ⟨p,rfl,rfl,hg,hl1,hl2,hb⟩:=hrel
    have HG:=Lib.hid hg;clear hg
    have HF1:=Lib.hid hl1;clear hl1
    have HF2:=Lib.hid hl2;clear hl2
    have HBW:=Lib.hid hb;clear hb
    have hzw:=HBW.out.size
    by_cases h0:gk=0
    ·have e0:((str (dec gk)).toList == [48])=true:=by rw [beq_iff_eq,h0,Lib.toList_data,dec_small (by omega)];rfl
     have e1:((str (dec gk)).toList != [48])=false:=by unfold bne;rw [e0];rfl
     have e2:(str (dec gk)).toList=[48]:=by rw [h0,Lib.toList_data,dec_small (by omega)];rfl
     have hgp:p=Nat.gcd (val s) (val t):=by rw [← HG.out,h0,Nat.gcd_zero_right]
     have HGP:=Lib.hid hgp;clear hgp h0
     go_wp2_with fail
     go_ret2
     exact ⟨ret_si (by rw [HGP.out]) rfl,HBW.out⟩
    ·have e0:((str (dec gk)).toList == [48])=false:=beq_eq_false_iff_ne.2 (not_zero (by rw [val_sd];exact h0))
     have e1:((str (dec gk)).toList != [48])=true:=by unfold bne;rw [e0];rfl
     have hdv:=rdiv_any (str (dec p)) (str (dec gk)) wr (fits_size HF1.out) (fits_size HF2.out)
     unfold TripEnd at hdv
     rw [divF_ok (vld_sd HF1.out) (vld_sd HF2.out) (by rw [val_sd];exact h0),val_sd,val_sd] at hdv
     have HDV:=Lib.hid hdv;clear hdv
     have HH0:=Lib.hid h0;clear h0
     go_wp2_with fail
     refine HDV.out.mono ?_
     rintro e w3 ⟨rfl,hb3⟩
     have hb4:=HBW.out.trans (hb3.mono hzw)
     have HB4:=Lib.hid hb4;clear hb4 hb3
     go_wp2_with fail
     go_roundg (p % gk)
     case measure=>exact Nat.mod_lt _ (Nat.pos_of_ne_zero HH0.out)
     case rel=>exact ⟨gk,rfl,rfl,by rw [← HG.out,Nat.gcd_comm gk,← Nat.gcd_rec,Nat.gcd_comm],HF2.out,fits_le HF1.out (Nat.mod_le _ _),HB4.out⟩
end Go.Proofs.YtjekapjbigfkbaaGreatDoor
