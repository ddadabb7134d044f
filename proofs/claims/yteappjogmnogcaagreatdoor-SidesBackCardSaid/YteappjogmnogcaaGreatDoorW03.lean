/- Parts of a proof: ME DivOps NumL RatA RatN RatR RatH RatW CutW. -/
import Derived.Test.YteappjogmnogcaaGreatDoorW02
import Derived.RegionTactic
import Derived.BigRegion
import Derived.Deep.LoopGhost
import Derived.Deep.Cut
import Derived.Deep.DeepCutAuto
import Derived.Test.YteappjogmnogcaaGreatDoorW00
import Derived.WalkLawsBesides
import Derived.Laws.Concat
import Derived.Handy
import Derived.Deep.RegionHeld2
import Derived.Deep.DrawnRows
import Derived.Recover
import Derived.Defers
import Derived.Lib.Bytealg
import Derived.Deep.QuietTactic
import Derived.BigQuiet
namespace Go.Proofs.YteappjogmnogcaaGreatDoor
set_option maxRecDepth 100000
set_option linter.unusedSimpArgs false
set_option linter.unusedVariables false
set_option linter.unusedSectionVars false
set_option maxHeartbeats 16000000
open Go Tryz
section
open Go.RowKit
theorem z9z (xs:List Nat) (a:Nat) (h:a<xs.length):bval (xs.drop a)=nth xs a+BB*bval (xs.drop (a+1)):=by
 rw[List.drop_eq_getElem_cons h];simp only[bval];rw[y1k xs a h]
theorem y5x {xs:List Nat} (h:Small xs) (k:Nat):Small (xs.drop k):=fun i=>by rw[y2m];exact h _
theorem y4f {L L0:List Nat} {k a:Nat} (h:L.take k=L0.take k) (c:a<k):nth L a=nth L0 a:=by
 rw[<- z8u L k a c,h,z8u _ _ _ c]
structure DvInv (L0 vs L qs:List Nat) (n a:Nat):Prop where
 len:L.length=L0.length
 ql:qs.length+n=L0.length
 ale:a<=qs.length
 small:Small L
 sq:Small qs
 low:L.take a=L0.take a
 rem:bval (L.drop a)<bval vs
 val:bval (L0.drop a)=bval (qs.drop a)*bval vs+bval (L.drop a)
structure Div0 (L0 vs:List Nat) (n:Nat):Prop where
 s0:Small L0
 sv:Small vs
 n1:1<=n
 lv:vs.length=n
 v1:1<=nth vs (n-1)
theorem DvInv.start {L0 c:List Nat} {n:Nat} (h:Div0 L0 c n) (hn:n<=L0.length) (d:bval (L0.drop (L0.length-n))<bval c) :
  DvInv L0 c L0 (List.replicate (L0.length-n) 0) n (L0.length-n):=by
 refine⟨rfl,by simp;omega,by simp,h.s0,z7m _,rfl,d,?_⟩;have e:(List.replicate (L0.length-n) 0).drop (L0.length-n)=[]:=List.drop_of_length_le (by simp);rw[e];simp[bval]
theorem DvInv.cut (L:List Nat) (n a:Nat):L=L.take a++(L.drop a).take (n+1)++L.drop (a+(n+1)):=by
 rw[List.append_assoc,show L.drop (a+(n+1))=(L.drop a).drop (n+1) by rw[List.drop_drop],List.take_append_drop,List.take_append_drop]
theorem DvInv.seg_len {L0 c L d:List Nat} {n a:Nat} (h:DvInv L0 c L d n (a+1)):((L.drop a).take (n+1)).length=n+1/\(L.take a).length=a:=by
 have:=h.len;have:=h.ql;have:=h.ale;rw[List.length_take,List.length_drop,List.length_take];omega
theorem DvInv.top {L0 c L d:List Nat} {n a:Nat} (h:DvInv L0 c L d n (a+1)):bval (L.drop a)<bval c*BB:=by
 have:=h.len;have:=h.ql;have:=h.ale;rw[z9z L a (by omega)];have i:=h.small a;have g:BB*(bval (L.drop (a+1))+1)<=BB*bval c:=Nat.mul_le_mul_left _ h.rem;rw[Nat.mul_add,Nat.mul_comm BB (bval c)] at g;omega
theorem DvInv.high {L0 d L k:List Nat} {n a:Nat} (i:Div0 L0 d n) (h:DvInv L0 d L k n (a+1)):bval (L.drop a)=bval ((L.drop a).take (n+1))/\bval (L.drop (a+(n+1)))=0:=by
 have g:=z4g ((L.drop a).take (n+1)) ((L.drop a).drop (n+1));rw[List.take_append_drop,List.drop_drop,h.seg_len.1] at g;have l:=h.top;have j:=z3s i.sv;rw[i.lv] at j;have m:bval d*BB<BB ^ (n+1):=by rw[Nat.pow_succ];exact Nat.mul_lt_mul_of_pos_right j z1w
 rcases Nat.eq_zero_or_pos (bval (L.drop (a+(n+1)))) with c|c
 ·rw[c,Nat.mul_zero,Nat.add_zero] at g;exact⟨g,c⟩
 have:BB ^ (n+1)*1<=BB ^ (n+1)*bval (L.drop (a+(n+1))):=Nat.mul_le_mul_left _ c;omega
theorem DvInv.divIn {L0 d L g:List Nat} {n a:Nat} (c:Div0 L0 d n) (h:DvInv L0 d L g n (a+1)):DivIn ((L.drop a).take (n+1)) d n :=
 ⟨z4j (y5x h.small a) _,c.sv,c.n1,h.seg_len.1,c.lv,c.v1,by rw[<- (h.high c).1];exact h.top⟩
theorem DvInv.step {L0 d L k c:List Nat} {n a:Nat} (z:Div0 L0 d n) (h:DvInv L0 d L k n (a+1)) (C:c.length=n+1) (E:Small c)
  (u:bval c=bval ((L.drop a).take (n+1)) % bval d) :
  DvInv L0 d (L.take a++c++L.drop (a+(n+1))) (k.set a (bval ((L.drop a).take (n+1)) / bval d)) n a:=by
 have p:=h.divIn z;have A:=h.high z;have j:=h.seg_len;have G:=h.len;have F:=h.ql;have H:=h.ale;have g:(L.take a++c++L.drop (a+(n+1))).drop a=c++L.drop (a+(n+1)):=by
  rw[List.append_assoc];have:=List.drop_left (l₁:=L.take a) (l₂:=c++L.drop (a+(n+1)))
  rwa [j.2] at this
 have B:bval ((L.take a++c++L.drop (a+(n+1))).drop a)=bval c:=by rw[g,z4g,A.2];simp
 have D:(k.set a (bval ((L.drop a).take (n+1)) / bval d)).drop a=(bval ((L.drop a).take (n+1)) / bval d)::k.drop (a+1):=by
  rw[List.drop_eq_getElem_cons (by simp;omega),List.drop_set,if_pos (by omega)];simp
 refine⟨by simp[C];omega,by simp;omega,by simp;omega,?_,z7u h.sq _ _ p.qlt,?_,?_,?_⟩
 ·intro i;by_cases s:i<a
  ·rw[List.append_assoc,z4b _ _ _ (by omega)];exact z4j h.small a i
  rw[List.append_assoc,z3d _ _ _ (by omega)];by_cases o:i-(L.take a).length<c.length
  ·rw[z4b _ _ _ o];exact E _
  rw[z3d _ _ _ (by omega)];exact y5x h.small _ _
 ·have e:(L.take a++c++L.drop (a+(n+1))).take a=L.take a:=by
   rw[List.append_assoc];have:=List.take_left (l₁:=L.take a) (l₂:=c++L.drop (a+(n+1)))
   rwa [j.2] at this
  rw[e];have:=congrArg (List.take a) h.low;rw[List.take_take,List.take_take,Nat.min_eq_left (by omega)] at this;exact this
 ·rw[B,u];exact Nat.mod_lt _ p.vpos'
 rw[B,D,z9z L0 a (by omega),h.val];simp only[bval];have s:=z9z L a (by omega);rw[A.1] at s;have o:nth L a=nth L0 a:=y4f h.low (by omega);have m:=Nat.div_add_mod (bval ((L.drop a).take (n+1))) (bval d);rw[<- u] at m;generalize bval ((L.drop a).take (n+1)) / bval d=qd at *;generalize bval ((L.drop a).take (n+1))=U at *;rw[Nat.mul_comm (bval d) qd] at m;rw[Nat.add_mul,Nat.mul_add,<- Nat.mul_assoc];omega
theorem DvInv.done {L0 c L g:List Nat} {n:Nat} (h:DvInv L0 c L g n 0):bval g=bval L0 / bval c/\bval L=bval L0 % bval c:=by
 have i:=h.val;have d:=h.rem;simp only[List.drop_zero] at i d;rw[i,Nat.add_comm,Nat.mul_comm];exact⟨by rw[Nat.add_mul_div_left _ _ (by omega),Nat.div_eq_of_lt d,Nat.zero_add],by rw[Nat.add_mul_mod_self_left,Nat.mod_eq_of_lt d]⟩
structure DnInv (r0 L:List Nat) (k a lf:Nat):Prop where
 len:L.length=r0.length
 ale:a<=r0.length
 small:Small L
 left:lf<k
 low:L.take a=r0.take a
 val:bval (r0.drop a)=k*bval (L.drop a)+lf
theorem DnInv.start {c:List Nat} {k:Nat} (d:1<=k) (g:Small c):DnInv c c k c.length 0 :=
 ⟨rfl,nlr,g,d,rfl,by rw[List.drop_length];simp[bval]⟩
theorem DnInv.bound {c L:List Nat} {k a d:Nat} (h:DnInv c L k (a+1) d) (i:Small c):d*1000000000+nth c a<k*1000000000:=by
 have g:=i a;have j:=h.left;rw[z0r] at g;have:(d+1)*1000000000<=k*1000000000:=Nat.mul_le_mul_right _ j;omega
theorem DnInv.step {c L:List Nat} {k a d:Nat} (h:DnInv c L k (a+1) d) (g:1<=k) (j:Small c) :
  DnInv c (L.set a ((d*1000000000+nth c a) / k)) k a ((d*1000000000+nth c a) % k):=by
 have hb:=h.bound j;have m:=h.len;have o:=h.ale;have i:(d*1000000000+nth c a) / k<BB:=by
  rw[z0r];exact Nat.div_lt_of_lt_mul hb
 refine⟨by simp;exact m,by omega,z7u h.small _ _ i,Nat.mod_lt _ g,?_,?_⟩
 ·rw[take_set];have:=congrArg (List.take a) h.low;rw[List.take_take,List.take_take,Nat.min_eq_left (by omega)] at this;exact this
 have l:(L.set a ((d*1000000000+nth c a) / k)).drop a=((d*1000000000+nth c a) / k)::L.drop (a+1):=by
  rw[List.drop_eq_getElem_cons (by simp;omega),List.drop_set,if_pos (by omega)];simp
 rw[l,z9z c a (by omega),h.val];simp only[bval];have p:=Nat.div_add_mod (d*1000000000+nth c a) k;generalize (d*1000000000+nth c a) / k=qd at *;rw[Nat.mul_add,Nat.mul_add,Nat.mul_left_comm BB k];have:BB*d=d*1000000000:=by rw[z0r,Nat.mul_comm]
 omega
theorem DnInv.done {c L:List Nat} {k g:Nat} (h:DnInv c L k 0 g):bval L=bval c / k:=by
 have d:=h.val;simp only[List.drop_zero] at d;rw[d,Nat.add_comm,Nat.add_mul_div_left _ _ (Nat.lt_of_le_of_lt (Nat.zero_le _) h.left),Nat.div_eq_of_lt h.left,Nat.zero_add]
theorem x1b {d:Nat} (i:d≠0) {k:Nat} (l:k=1000000000 / (nth (toB d) ((toB d).length-1)+1)) :
  1<=k/\k<BB/\(toB (d*k)).length=(toB d).length:=by
 have j:=y2f i;have m:=z0x d ((toB d).length-1);have p:=y6t i;have o:=y0e (xs:=toB d) rfl j;rw[z1a] at o;have A:=y3w (z0x d) ((toB d).length-1) (by omega);generalize hx:nth (toB d) ((toB d).length-1)=x at *;have c:1<=k:=by rw[l,Nat.le_div_iff_mul_le (by omega)];rw[z0r] at m;omega
 have h:k*(x+1)<=BB:=by rw[l,z0r];exact Nat.div_mul_le_self _ _
 have g:k<BB:=by
  have:k*2<=k*(x+1):=Nat.mul_le_mul_left _ (by omega);omega
 refine⟨c,g,?_⟩
 apply Nat.le_antisymm
 ·apply z6j
  have u:d<BB ^ ((toB d).length-1)*(x+1):=by rw[Nat.mul_add];omega
  have z:d*k<BB ^ ((toB d).length-1)*(x+1)*k:=Nat.mul_lt_mul_of_pos_right u c;have s:BB ^ ((toB d).length-1)*((x+1)*k)<=BB ^ ((toB d).length-1)*BB:=Nat.mul_le_mul_left _ (by rw[Nat.mul_comm];exact h);rw[<- Nat.mul_assoc,<- x5j j] at s;omega
 exact z2h (by
             have:d*1<=d*k:=Nat.mul_le_mul_left _ c;omega)
theorem u1f {m k:Nat} (g:k<BB) (c:1<=k):(toB m).length<=(toB (m*k)).length/\(toB (m*k)).length<=(toB m).length+1:=by
 refine⟨z2h (by
              have:m*1<=m*k:=Nat.mul_le_mul_left _ c;omega),z6j ?_⟩
 have d:=z3s (z0x m);rw[z1a] at d;rw[Nat.pow_succ];exact Nat.mul_lt_mul_of_lt_of_le d (by omega) z1w
theorem z8w (xs:List Nat):bval (xs++[0])=bval xs:=by rw[z6g];simp
theorem x0h (xs:List Nat) (j:Nat) (h:Small xs):bval (xs.drop j)=bval xs / BB ^ j:=by
 by_cases c:j<=xs.length
 ·have:=z4g (xs.take j) (xs.drop j);rw[List.take_append_drop,List.length_take,Nat.min_eq_left c] at this;rw[this,Nat.add_mul_div_left _ _ (Nat.pow_pos z1w),Nat.div_eq_of_lt (y3w h j c),Nat.zero_add]
 rw[List.drop_of_length_le (by omega),Nat.div_eq_of_lt]
 ·rfl
 exact Nat.lt_of_lt_of_le (z3s h) (Nat.pow_le_pow_right z1w (by omega))
theorem v1d {m d k:Nat} (g:d≠0) (c:1<=k) (s:(toB d).length<=(toB m).length) {L0:List Nat} (o:Small L0) (l:bval L0=m*k) (j:L0.length=(toB m).length+1) :
  bval (L0.drop (L0.length-(toB d).length))<d*k:=by
 rw[x0h _ _ o,l,j,Nat.div_lt_iff_lt_mul (Nat.pow_pos z1w)];have i:=z3s (z0x m);rw[z1a] at i;have p:=x6e g;have u:=y2f g;have e:BB ^ (toB m).length=BB ^ ((toB d).length-1)*BB ^ ((toB m).length+1-(toB d).length):=by rw[<- Nat.pow_add];congr 1;omega
 have z:BB ^ ((toB d).length-1)*BB ^ ((toB m).length+1-(toB d).length)<=d*BB ^ ((toB m).length+1-(toB d).length):=Nat.mul_le_mul_right _ p;have h:m*k<d*BB ^ ((toB m).length+1-(toB d).length)*k:=Nat.mul_lt_mul_of_pos_right (by omega) c;rw[Nat.mul_right_comm] at h;exact h
end
section
open Go.RowKit
def DivEnd (m d:Nat) (w:World) (e:Ending) (w':World):Prop :=
 ∃ vq vr,e=.returned (.tuple #[vq,vr])/\Sl w' .u64 vq (toB (m / d))/\Sl w' .u64 vr (toB (m % d))/\Below w.heap.size w w'
theorem Own.keptBy {w d:World} {B:Nat} {e:TypeId} {k:IntKind} {g n cap:Nat} {L:List Nat} {row:Option Nat} (h:Own w B e k (.slice (some ⟨g,0,none⟩) n cap) L) (i:w.grownBy d row) (c:some g≠row):Own d B e k (.slice (some ⟨g,0,none⟩) n cap) L :=
 World.ownsRow.kept h i (.inr (by simpa [Value.ownBlock] using c))
theorem Own.some {w:World} {B:Nat} {e:TypeId} {k:IntKind} {v:Value} {L:List Nat} (h:Own w B e k v L) (hn:1<=L.length):∃ g cap,v=.slice (.some ⟨g,0,none⟩) L.length cap/\B<=g/\g<w.heap.size/\L.length<=cap/\cap<=maxLen:=by
 rcases h.2 with ⟨_,o⟩|⟨g,cap,d,j,c,m,l,i,_⟩
 ·omega
 exact⟨g,cap,j,c,(Array.getElem?_eq_some_iff.1 m).1,l,i⟩
theorem x2p (k j:Value) (m d:Nat) (w:World) (i:Sl w .u64 k (toB m)) (o:Sl w .u64 j (toB d)) (g:m<d) :
  Calls prog 223 #[k,j] w (DivEnd m d w):=by
 have c:=z5m k j m d w i o;unfold CmpEnd at c;rw[z7t g] at c;have l:=qh c;clear c;have s:=qh i;clear i o;have h:=qh g;clear g
 go_enter func223,ntmps223
 go_wp2_with fail
 refine nxa l.out fun u p=>?_;go_wp2;go_ret2;refine⟨_,_,rfl,?_,?_,p.out⟩
 ·rw[Nat.div_eq_of_lt h.out];exact Sl.nil _ _
 rw[Nat.mod_eq_of_lt h.out];exact s.out.below p.out nlr
set_option maxRecDepth 100000 in
theorem x9b (vx vy:Value) (m d:Nat) (w:World) (hx:Sl w .u64 vx (toB m)) (hy:Sl w .u64 vy (toB d)) (hd:d≠0) (t7:d<=m) (lx:(toB m).length<=50000) :
  Calls prog 223 #[vx,vy] w (DivEnd m d w):=by
 have d9:=z5m vx vy m d w hx hy;unfold CmpEnd at d9;have s6:∃ q:Int,cmpN m d=q/\0<=q:=by
  rcases Nat.lt_or_ge d m with h|h
  ·exact⟨1,z7x h,by omega⟩
  exact⟨0,y1p (by omega),by omega⟩
 obtain⟨q0,hq,x4⟩:=s6;rw[hq] at d9;clear hq;have f3:=x1b hd rfl;obtain⟨k,hk⟩:∃ k,k=1000000000 / (nth (toB d) ((toB d).length-1)+1):=⟨_,rfl⟩;rw[<- hk] at f3;obtain⟨a3,g9,k0⟩:=f3;have c9:=y2f hd;have g6:(toB d).length<=(toB m).length:=z2h t7;have b6:=u1f (m:=m) g9 a3;have g2:=z0x d ((toB d).length-1);rw[z0r] at g2;obtain⟨ax,cx,rfl⟩:=hx.shape;have HX:=qh hx;clear hx;have HY:=qh hy;obtain⟨ay,cy,p8,oy,rfl,r5,w4,j7,l9,W⟩:=hy.open;obtain rfl:=r5 c9;have j6:=l9 c9;have n7:=W ((toB d).length-1) (by omega);have f5:(((toB d).length:Int)-1)<((toB d).length:Int):=by omega
 have l7:0<=(((toB d).length:Int)-1):=by omega
 unfold maxLen at j7;have u0:=qh d9;clear d9;have HK:=qh hk;clear hk;have d3:=qh k0;clear k0;have d8:=qh g9;clear g9;have HD:=qh hd;clear hd;clear l9 W hy
 go_enter func223,ntmps223
 go_wp2_with fail
 refine u0.out.mono ?_;rintro e w1 ⟨rfl,h0⟩;have m7:=(h0.cell (p:=⟨p8,oy+((toB d).length-1),none⟩) j6).trans n7;have d6:=qh h0;clear h0;have l4:=d6.out.size;clear n7
 go_wp2_with fail
 have ek:(1000000000:Int) / (((nth (toB d) ((toB d).length-1):Nat):Int)+1)=(k:Int):=by rw[HK.out];simp
 rw[ek];clear ek;refine(y6c _ m k w1 d8.out (HX.out.below d6.out nlr) (by omega)).mono ?_;rintro e w2 ⟨vu,rfl,O,n3⟩;have HU:=qh O;clear O;have i5:=qh n3;clear n3;have x9:=i5.out.size
 go_wp2_with fail
 refine(y6c _ d k w2 d8.out ((HY.out.below d6.out nlr).below i5.out nlr) (by omega)).mono ?_;rintro e w3 ⟨vv,rfl,J,l8⟩;have i8:=qh l8;clear l8;have x6:=i8.out.size;have n9:=(HU.out.kept i8.out nlr).mono l4;obtain⟨gv,cv,rfl,w9,v2,e7,l3⟩:=J.some (by rw[d3.out];exact c9);have e9:=J.mono (show w.heap.size<=w2.heap.size by omega);rw[d3.out] at e7;rw[d3.out];obtain⟨gu,cu,r3,x0,u9,v3,k1⟩:=HU.out.some (by omega);obtain rfl:=r3;have p0:=qh e9;clear e9 J;have u3:=qh n9;clear n9;have s8:Hid (gu≠gv):=qh (by omega);have r4:=qh (d6.out.trans ((i5.out.mono l4).trans (i8.out.mono (by omega))));obtain⟨i0,i6,o4,g4,k6⟩:=info_parts y0g;obtain⟨S,i2⟩:=exq (toB (d*k));rw[<- i2] at p0;have a2:=qh i2;clear i2;obtain⟨n,hn⟩:∃ n,n=(toB d).length:=⟨_,rfl⟩;rw[<- hn] at c9 g6 g2 f5 l7 e7;have HN:=qh hn;have d4:Hid (S.length=n):=qh (by rw[a2.out,d3.out];exact hn.symm);rw[<- hn];clear hn m7 f5 l7;obtain⟨Y,e5⟩:∃ l,l=(toB m).length:=⟨_,rfl⟩;rw[<- e5] at lx g6 b6;rw[<- e5];have j3:=qh e5;clear e5;unfold maxLen at l3 k1
 go_wp2_with fail
 go_loopw [8] (fun v wr=>∃ (g o:Nat) (L:List Nat),v=.slice (some ⟨g,0,none⟩) L.length o/\Own wr w.heap.size 179 .u64 (.slice (some ⟨g,0,none⟩) L.length o) L/\g≠gv/\Small L/\bval L=m*k/\Y<=L.length/\L.length<=Y+1 /\
   Own wr w.heap.size 179 .u64 (.slice (some ⟨gv,0,none⟩) n cv) S/\Below w.heap.size w wr) (fun v _=>Y+1-lenV v)
 case atStart =>
  refine⟨gu,cu,toB (m*k),rfl,u3.out,s8.out,z0x _,z1a _,b6.1,b6.2,?_,r4.out⟩;have:=p0.out
  rwa [d4.out] at this
 obtain⟨g,o,L,rfl,O,j8,l1,j9,x1,x5,J,N⟩:=hrel;have HO:=qh O;clear O;have e3:=qh j8;clear j8;have e0:=qh l1;clear l1;have d0:=qh j9;clear j9;have b4:=qh J;clear J;have c7:=qh N;clear N;by_cases r9:L.length<=Y
 ·have b2:=c7.out.size;have i9:wr.ownsRow w.heap.size 179 1 (.slice (some ⟨g,0,none⟩) L.length o) L.length (vals .u64 L):=HO.out;have m8:=qh i9;clear i9
  rcases Nat.lt_or_ge o (L.length+1) with a6|a6
  ·go_wp2_with (at_builtin;refine wpList_append_grows _ rfl (.tmp 40) (.tmp 41) 199 rfl 179 i0 (.int .u64 0) 1 8 underlying199 i6 o4 g4 k6 rfl (by decide) (some ⟨g,0,none⟩) L.length o (vals .u64 L) rfl (by intro h;cases h) (by rw[x3v];omega) (fun b hb=>by cases hb;exact World.ownsRow.cells (World.ownsRow.alloc m8.out _) rfl) ⟨wr.heap.size,0,none⟩ 1 1 [.int .u64 0] rfl rfl (cell_one_new _ _ _) (one_cell _ _) a6 (by unfold maxLen;omega) (by omega) ?_;intro v5 w5 C u)
   have a1:Own w5 (wr.heap.size+1) 179 .u64 v5 (L++[0]):=by
    unfold Own;rw[<- y4n,List.length_append];have e:(wr.alloc (.cells #[.int .u64 0] 179)).heap.size=wr.heap.size+1:=by simp
    rw[e] at C;exact C
   obtain⟨g5,n6,rfl,u8,v0,_,_⟩:=a1.some (by simp);have a4:Below wr.heap.size wr w5:=((Below.refl _ wr).alloc nlr _).grown u (by simp) (by simp);have b7:=b4.out.kept a4 nlr;have x3:=b4.out.base.2;have H5:=qh (a1.mono (show w.heap.size<=wr.heap.size+1 by omega));clear a1 C u;have h4:=qh b7;clear b7;have h8:=qh a4;clear a4;have n5:Hid (g5≠gv):=qh (by omega);go_wp2;go_roundw
   case rel=>exact⟨g5,n6,L++[0],rfl,H5.out,n5.out,z8n e0.out z1w,by rw[z8w];exact d0.out,by simp;omega,by simp;omega,h4.out,c7.out.trans (h8.out.mono b2)⟩
   simp[y5w];omega
  go_wp2_with (at_builtin;refine wpList_append_fits _ rfl (.tmp 40) (.tmp 41) 199 rfl w.heap.size 179 i0 1 underlying199 i6 g4 g L.length o (vals .u64 L) rfl (World.ownsRow.alloc m8.out _) ⟨wr.heap.size,0,none⟩ 1 1 [.int .u64 0] rfl rfl (cell_one_new _ _ _) (one_cell _ _) a6 ?_;intro w5 C u)
  have a1:Own w5 w.heap.size 179 .u64 (.slice (some ⟨g,0,none⟩) (L.length+1) o) (L++[0]):=by
   unfold Own;rw[<- y4n,List.length_append];exact C
  have i3:=HO.out.base.1;have a4:Below w.heap.size w w5:=(c7.out.alloc b2 _).grown u (by simp;omega) (fun q hq=>by cases hq;exact i3);have b7:Own w5 w.heap.size 179 .u64 (.slice (some ⟨gv,0,none⟩) n cv) S :=
   Own.keptBy (b4.out.kept ((Below.refl wr.heap.size wr).alloc nlr (.cells #[.int .u64 0] 179)) nlr) u (by have:=e3.out;simp;omega)
  have H5:=qh a1;clear a1 C u;have h4:=qh b7;clear b7;have h8:=qh a4;clear a4;go_wp2;go_roundw
  case rel=>exact⟨g,o,L++[0],by simp,by rw[List.length_append];exact H5.out,e3.out,z8n e0.out z1w,by rw[z8w];exact d0.out,by simp;omega,by simp;omega,h4.out,h8.out⟩
  simp[y5w];omega
 have i4:L.length=Y+1:=by omega
 have b2:=c7.out.size;have o7:=HO.out.base;have o5:=b4.out.base;obtain⟨s,d5⟩:=exq (L.length-n);obtain⟨wm,h6,U,o8⟩:=run_make_full wr w.heap.size 199 179 i0 (.int .u64 0) 1 underlying199 i6 o4 g4 .i64 .i64 (L.length-n) (by rw[k6];omega) (by unfold maxLen;omega) b2;rw[show ((L.length-n:Nat):Int)=(L.length:Int)-(n:Int) by omega,<- d5] at h6;rw[<- d5] at U;obtain⟨gq,k2⟩:=exq (wr.heap.size);rw[<- k2] at h6 U;have e6:Below wr.heap.size wr wm:=blr.grown o8 nlr (by simp);have k3:Own wm w.heap.size 179 .u64 (.slice (some ⟨gq,0,none⟩) s s) (List.replicate s 0):=by
  unfold Own;rw[z8x,List.length_replicate];have:=U;rw[Nat.mul_one,show (Value.int .u64 0).cells=#[Value.int .u64 0] from rfl,toList_madeCells_one] at this;exact this
 have h7:Div0 L S n:=⟨e0.out,by rw[a2.out];exact z0x _,c9,d4.out,by
  have h:=y6t (n:=d*k) (by have:=HD.out;exact Nat.mul_ne_zero this (by omega));rw[<- a2.out,d4.out] at h;omega⟩
 have h5:bval (L.drop (L.length-n))<bval S:=by
  have h:=v1d (m:=m) HD.out a3 (L0:=L) (by rw[<- HN.out,<- j3.out];exact g6) e0.out d0.out (by rw[<- j3.out];exact i4);rw[<- HN.out] at h;rw[a2.out,z1a];exact h
 have m9:DvInv L S L (List.replicate s 0) n s:=by
  have h:=DvInv.start h7 (by omega) h5
  rwa [<- d5] at h
 have v6:s+n=Y+1:=by omega
 have s7:=qh m9;clear m9 h5;have m3:=qh h7;clear h7;have HQ:=qh k3;clear k3 U;have r7:=qh (HO.out.kept e6 nlr);have t9:=qh (b4.out.kept e6 nlr);have r2:=qh (c7.out.trans (e6.mono b2));have e2:Hid (gq≠g/\gq≠gv):=qh ⟨by omega,by omega⟩;have x8:=qh i4;have g8:L.length<=o/\o<=maxLen:=by
  obtain⟨g',v4,h1,_,_,h2,h3⟩:=HO.out.some (by omega);simp only[Value.slice.injEq,true_and] at h1;obtain⟨_,rfl⟩:=h1;exact⟨h2,h3⟩
 obtain⟨p6,e4⟩:=g8;unfold maxLen at e4;clear e6 o8 d5 k2 i4 o7 o5
 go_wp2_with fail
 clear h6
 go_loopw [50] (fun i wq=>∃ (j:Nat) (Lc qs:List Nat),j<=s/\i=.int .i64 (j:Int)/\DvInv L S Lc qs n (s-j)/\Own wq w.heap.size 179 .u64 (.slice (some ⟨g,0,none⟩) L.length o) Lc /\
   Own wq w.heap.size 179 .u64 (.slice (some ⟨gv,0,none⟩) n cv) S/\Own wq w.heap.size 179 .u64 (.slice (some ⟨gq,0,none⟩) s s) qs/\Below w.heap.size w wq) (fun i _=>s-(intOf i).toNat)
 case atStart=>exact⟨0,L,_,Nat.zero_le _,rfl,s7.out,r7.out,t9.out,HQ.out,r2.out⟩
 obtain⟨j,Lc,qs,hj,rfl,z,O,J,b5,N⟩:=hrel;have i7:=qh z;clear z;have e1:=qh O;clear O;have k7:=qh J;clear J;have g7:=qh b5;clear b5;have h9:=qh N;clear N;by_cases r9:j<s
 ·obtain⟨a,ha⟩:=exq (s-1-j);have z:=i7.out;rw[show s-j=a+1 by omega] at z;have g3:=z.seg_len;have G:=z.len;have u6:=z.ql;have hcut:=DvInv.cut Lc n a;have b3:=v0x w.heap.size g L.length o (o-a) gv 0 cv n (Lc.take a) ((Lc.drop a).take (n+1)) (Lc.drop (a+(n+1))) S wr (by rw[<- hcut];exact G) (by rw[<- hcut];exact e1.out) (z.divIn m3.out) (by omega) e3.out.symm
   (fun i hi=>by rw[Nat.zero_add];exact k7.out.cell d4.out i hi)
  rw[g3.2] at b3;have s9:=qh b3;clear b3 hcut;have E:=qh z;clear z g3 G u6;subst ha;have m4:s-1-j<s:=by omega
  go_wp2_with fail
  rw[show s-1-j+n+1-(s-1-j)=n+1 by omega];refine s9.out.mono ?_;rintro e w6 ⟨x2,rfl,j5,k5,j4,f0,R⟩;have b8:=E.out.step m3.out (by rw[j5];exact E.out.seg_len.1) k5 j4;have d7:=g7.out.keptBy R (by have:=e2.out.1;simp;omega);have k4:=k7.out.keptBy R (by have:=e3.out;simp;omega);have i3:=e1.out.base.1;have k9:=g7.out.base.1;have l5:Below w.heap.size w w6:=h9.out.grown R (h9.out.size) (fun q hq=>by cases hq;exact i3);have B:qs.length=s:=by have h1:=E.out.ql;omega
  have cq:=d7.cell B (s-1-j) m4;have fq:=d7.free B (s-1-j);have o9:=d7.set B (s-1-j) (bval ((Lc.drop (s-1-j)).take (n+1)) / bval S);have b9:w6.grownBy (w6.setCell ⟨gq,s-1-j,none⟩ (.int .u64 ((bval ((Lc.drop (s-1-j)).take (n+1)) / bval S:Nat):Int))) (some gq):=y1m (y7t _ _) _ _;have l2:=f0.keptBy b9 (by have:=e2.out.1;simp;omega);have j1:=k4.keptBy b9 (by have:=e2.out.2;simp;omega);have l6:=l5.setCell (p:=⟨gq,s-1-j,none⟩) k9 (.int .u64 ((bval ((Lc.drop (s-1-j)).take (n+1)) / bval S:Nat):Int));have r6:=qh b8;have p7:=qh l2;have t8:=qh j1;have u5:=qh o9;have s4:=qh l6;clear b8 l2 j1 o9 l6 b9 d7 k4 l5 f0 R j4 k5 j5 B;go_wp2;go_roundw
  case rel=>exact⟨j+1,_,_,by omega,by go_num,by rw[show s-(j+1)=s-1-j by omega];exact r6.out,p7.out,t8.out,u5.out,s4.out⟩
  simp[intOf];omega
 have a7:j=s:=by omega
 have z:=i7.out;rw[a7,Nat.sub_self] at z;have f8:=z.done;have G:=z.len;have a5:=z7d (some ⟨g,0,none⟩) o Lc wr (by rw[G];exact e1.out.sl);rw[G] at a5;have q9:=qh a5;clear a5;have E:=qh z;clear z;have e8:=qh f8;clear f8;have b1:=qh G;clear G i7 a7
 go_wp2_with fail
 refine q9.out.mono ?_;rintro e w6 ⟨D,o3,rfl,rfl⟩;have j0:=qh o3;clear o3;have u4:D<=L.length:=by have:=j0.out.1;rw[b1.out] at this;exact this
 obtain⟨P,a9⟩:=exq (Lc.take D);have d2:P.length=D:=by rw[a9,List.length_take,b1.out];omega
 have g0:bval P=(m % d)*k:=by
  rw[a9,y2a j0.out.2.1,e8.out.2,d0.out,a2.out,z1a,Nat.mul_mod_mul_right]
 have b0:Small P:=by rw[a9];exact z4j E.out.small _
 have d1:Own wr w.heap.size 179 .u64 (.slice (some ⟨g,0,none⟩) D o) P:=by
  rw[a9];exact e1.out.take (by rw[b1.out];exact u4)
 have K:=DnInv.start a3 b0;rw[d2] at K;have r8:=qh K;clear K;have f1:=qh d2;clear d2;have o2:=qh g0;clear g0;have g1:=qh b0;clear b0;have q8:=qh d1;clear d1 a9;have x7:(k:Int)<=999999999:=by have:=d8.out;rw[z0r] at this;omega
 obtain⟨wo,rfl⟩:∃ wo:World,wo=wr:=⟨_,rfl⟩
 go_wp2_with fail
 go_loopw [12,75] (fun lf i wq=>∃ (F H:Nat) (Lr:List Nat),F<=D/\i=.int .i64 (F:Int)/\lf=.int .u64 (H:Int)/\DnInv P Lr k (D-F) H/\Own wq w.heap.size 179 .u64 (.slice (some ⟨g,0,none⟩) D o) Lr /\
   Own wq w.heap.size 179 .u64 (.slice (some ⟨gq,0,none⟩) s s) qs/\Below w.heap.size w wq) (fun _ i _=>D-(intOf i).toNat)
 case atStart=>exact⟨0,0,P,Nat.zero_le _,rfl,rfl,r8.out,q8.out,g7.out,h9.out⟩
 obtain⟨F,H,Lr,y0,rfl,rfl,A,d1,b5,N⟩:=hrel;have f4:=qh A;clear A;have I:=qh d1;clear d1;have a8:=qh b5;clear b5;have f7:=qh N;clear N;by_cases v9:F<D
 ·have A:=f4.out;rw[show D-F=D-1-F+1 by omega] at A;have c:=A.len;rw[f1.out] at c;have w0:(H:Int)<=999999999:=by have h1:=A.left;have h2:=d8.out;rw[z0r] at h2;omega
  have v8:((nth P (D-1-F):Nat):Int)<=999999999:=by have:=g1.out (D-1-F);rw[z0r] at this;omega
  have u1:=I.out.cell c (D-1-F) (by omega);rw[y4f A.low (by omega)] at u1;have h5:=I.out.free c (D-1-F);have u7:(1:Int)<=(k:Int):=by omega
  have f9:=A.step a3 g1.out;have o6:=qh f9;clear f9 A;have f2:=qh c;clear c
  go_wp2_with fail
  go_region
  go_wp2;go_roundw
  case rel =>
   have p9:((H:Int)*1000000000+((nth P (D-1-F):Nat):Int)) / (k:Int)=(((H*1000000000+nth P (D-1-F)) / k:Nat):Int):=by simp
   have u2:((H:Int)*1000000000+((nth P (D-1-F):Nat):Int)) % (k:Int)=(((H*1000000000+nth P (D-1-F)) % k:Nat):Int):=by simp
   rw[p9,u2];have m5:=(I.out.set f2.out (D-1-F) ((H*1000000000+nth P (D-1-F)) / k)).kept (Below.drew blr) nlr;have q7:=(a8.out.keptBy (y1m (g:=g) (y7t wr _) (D-1-F) (.int .u64 (((H*1000000000+nth P (D-1-F)) / k:Nat):Int))) (by have:=e2.out.1;simp;omega)).kept (Below.drew blr) nlr;exact⟨F+1,_,_,by omega,by go_num,rfl,by rw[show D-(F+1)=D-1-F by omega];exact o6.out,m5,q7,(f7.out.setCell I.out.base.1 _).drew⟩
  simp[intOf];omega
 have a7:F=D:=by omega
 have A:=f4.out;rw[a7,Nat.sub_self] at A;have Q:=A.done;rw[o2.out,Nat.mul_div_cancel _ a3] at Q;have c:=A.len;rw[f1.out] at c;have B:qs.length=s:=by have h1:=E.out.ql;omega
 have Z:=z7d (some ⟨gq,0,none⟩) s qs wr (by rw[B];exact a8.out.sl);rw[B] at Z;have c8:=z7d (some ⟨g,0,none⟩) o Lr wr (by rw[c];exact I.out.sl);rw[c] at c8;have s5:=qh Z;clear Z;have l0:=qh c8;clear c8;have f2:=qh c;clear c;have v7:=qh B;clear B;have s3:=qh Q;clear Q;have m2:=qh A;clear A a7
 go_wp2_with fail
 refine s5.out.mono ?_;rintro e w7 ⟨tq,Z,rfl,rfl⟩;have X:=qh Z;clear Z
 go_wp2_with fail
 refine l0.out.mono ?_;rintro e w8 ⟨tr,a5,rfl,rfl⟩;have T:=qh a5;clear a5;go_wp2;go_ret2;refine⟨_,_,rfl,?_,?_,f7.out⟩
 ·have e:toB (m / d)=qs.take tq:=by
   rw[z4i E.out.sq X.out.1 X.out.2.1 X.out.2.2,e8.out.1,d0.out,a2.out,z1a,Nat.mul_div_mul_right _ _ a3]
  rw[e];exact a8.out.sl.take X.out.1
 have e:toB (m % d)=Lr.take tr:=by
  rw[z4i m2.out.small T.out.1 T.out.2.1 T.out.2.2,s3.out]
 rw[e];exact I.out.sl.take T.out.1
theorem y6i (g c:Value) (m d:Nat) (w:World) (j:Sl w .u64 g (toB m)) (i:Sl w .u64 c (toB d)) (k:d≠0) (l:(toB m).length<=50000) :
  Calls prog 223 #[g,c] w (DivEnd m d w):=by
 rcases Nat.lt_or_ge m d with h|h
 ·exact x2p g c m d w j i h
 exact x9b g c m d w j i k h l
end
section
open Go.RowKit
def TripEnd (r:ByteArray × ByteArray × Nat) (w:World) (e:Ending) (w':World):Prop:=e=.returned (.tuple #[.string r.1,.string r.2.1,.int .i64 (r.2.2:Int)])/\Below w.heap.size w w'
def divF (s t:ByteArray):ByteArray × ByteArray × Nat:=if vld s&&vld t then (if val t=0 then (str [],str [],4) else (str (dec (val s / val t)),str (dec (val s % val t)),0)) else (str [],str [],1)
def gcdF (s t:ByteArray):ByteArray × Nat:=if vld s&&vld t then (str (dec (Nat.gcd (val s) (val t))),0) else (str [],1)
theorem v9y {t:ByteArray} (h:vld t=true) (c:val t=0):t.toList=[48]:=by
 rw[Lib.toList_data];exact u0z h (show z1u [48]=true by decide) (by rw[show num [48]=0 from rfl];exact c)
theorem v3t {t:ByteArray} (c:¬ val t=0):¬ t.toList=[48]:=by
 rw[Lib.toList_data];intro e;apply c;unfold val bts;rw[e];rfl
theorem u1p (s t:ByteArray) (w:World) (hs:s.size<=maxLen) (Y:t.size<=maxLen) (h:Tab w) :
  Calls prog 224 #[.string s,.string t] w (TripEnd (divF s t) w):=by
 have N:=qh h;clear h;have c1:=z3v s w hs;have c2:=z3v t w Y;clear hs Y;cases d:vld s with
 | false =>
  have c:divF s t=(str [],str [],1):=by unfold divF;rw[d];rfl
  rw[c];rw[d] at c1;clear c d c2 N;have o:=qh c1;clear c1
  go_enter func224,ntmps224
  go_wp2_with fail
  refine o.out.mono ?_;rintro e m ⟨rfl,rfl⟩;go_wp2
  go_ret3
  exact⟨rfl,blr⟩
 | true =>
  cases i:vld t with
  | false =>
   have c:divF s t=(str [],str [],1):=by unfold divF;rw[d,i];rfl
   rw[c];rw[d] at c1;rw[i] at c2;clear c d i N;have o:=qh c1;clear c1;have L:=qh c2;clear c2
   go_enter func224,ntmps224
   go_wp2_with fail
   refine o.out.mono ?_;rintro e m ⟨rfl,rfl⟩
   go_wp2_with fail
   refine L.out.mono ?_;rintro e m ⟨rfl,rfl⟩;go_wp2
   go_ret3
   exact⟨rfl,blr⟩
  | true =>
   rw[d] at c1;rw[i] at c2;have o:=qh c1;clear c1;have L:=qh c2;clear c2;have lm:=z1s d;have ln:=z1s i;have b1:=z4v s w d;have Z:=qh b1;clear b1;have b2:=fun w=>z4v t w i;have B2:=qh b2;clear b2;have H1:=qh d;clear d;have T:=qh i;clear i;by_cases j:val t=0
   ·have c:divF s t=(str [],str [],4):=by unfold divF;rw[H1.out,T.out,if_pos j];rfl
    rw[c];clear c;have g:=v9y T.out j;have J:(t.toList==[48])=true:=by rw[g];rfl
    clear j Z B2 lm ln
    go_enter func224,ntmps224
    go_wp2_with fail
    refine o.out.mono ?_;rintro e m ⟨rfl,rfl⟩
    go_wp2_with fail
    refine L.out.mono ?_;rintro e m ⟨rfl,rfl⟩
    go_wp2_with fail
    go_ret3
    exact⟨rfl,blr⟩
   have c:divF s t=(str (dec (val s / val t)),str (dec (val s % val t)),0):=by unfold divF;rw[H1.out,T.out,if_neg j];rfl
   rw[c];clear c;have g:=v3t j;have J:(t.toList==[48])=false:=by rw[beq_eq_false_iff_ne];exact g
   have HZ:=qh j;clear j
   go_enter func224,ntmps224
   go_wp2_with fail
   refine o.out.mono ?_;rintro e m ⟨rfl,rfl⟩
   go_wp2_with fail
   refine L.out.mono ?_;rintro e m ⟨rfl,rfl⟩
   go_wp2_with fail
   clear g J;refine Z.out.mono ?_;rintro e w1 ⟨v1,rfl,E,z⟩;have W:=qh E;clear E;have C:=qh z;clear z;have S:=C.out.size
   go_wp2_with fail
   refine(B2.out w1).mono ?_;rintro e w2 ⟨v2,rfl,p,K⟩;have R:=qh p;clear p;have l:=qh K;clear K;have a5:=l.out.size;have U:=qh (W.out.sl.below l.out nlr);have F:=y6i v1 v2 (val s) (val t) w2 U.out R.out.sl HZ.out (by omega);have P:=qh F;clear F
   go_wp2_with fail
   refine P.out.mono ?_;rintro e w3 ⟨vq,vr,rfl,hq,c,u⟩;have HQ:=qh hq;clear hq;have HR:=qh c;clear c;have H:=qh u;clear u;have a2:=H.out.size;have HB:=qh (C.out.trans ((l.out.mono S).trans (H.out.mono (by omega))));have a1:=z2h (Nat.div_le_self (val s) (val t));have a4:=z2h (Nat.mod_le (val s) (val t));have D:=y0m vq (val s / val t) w3 HQ.out (by omega) (N.out.below HB.out nlr);have X:=qh D;clear D
   go_wp2_with fail
   refine X.out.mono ?_;rintro e w4 ⟨rfl,I⟩;have k:=qh I;clear I;have a3:=k.out.size;have A:=qh (HB.out.trans (k.out.mono (by omega)));have G:=y0m vr (val s % val t) w4 (HR.out.below k.out nlr) (by omega) (N.out.below A.out nlr);have Q:=qh G;clear G
   go_wp2_with fail
   refine Q.out.mono ?_;rintro e w5 ⟨rfl,B⟩;have O:=qh B;clear B
   go_wp2_with fail
   go_ret3
   exact⟨rfl,A.out.trans (O.out.mono (by omega))⟩
theorem v9n (s t:ByteArray) (w:World) (hs:s.size<=maxLen) (ht:t.size<=maxLen) (i:Tab w) :
  Calls prog 208 #[.string s,.string t] w (PairEnd (gcdF s t) w):=by
 have T:=qh i;clear i;have c1:=z3v s w hs;have c2:=z3v t w ht;clear hs ht;cases d:vld s with
 | false =>
  have c:gcdF s t=(str [],1):=by unfold gcdF;rw[d];rfl
  rw[c];rw[d] at c1;clear c d c2 T;have H:=qh c1;clear c1
  go_enter func208,ntmps208
  go_wp2_with fail
  refine H.out.mono ?_;rintro e L ⟨rfl,rfl⟩;go_wp2;go_ret2;exact⟨rfl,blr⟩
 | true =>
  cases j:vld t with
  | false =>
   have c:gcdF s t=(str [],1):=by unfold gcdF;rw[d,j];rfl
   rw[c];rw[d] at c1;rw[j] at c2;clear c d j T;have H:=qh c1;clear c1;have N:=qh c2;clear c2
   go_enter func208,ntmps208
   go_wp2_with fail
   refine H.out.mono ?_;rintro e L ⟨rfl,rfl⟩
   go_wp2_with fail
   refine N.out.mono ?_;rintro e L ⟨rfl,rfl⟩;go_wp2;go_ret2;exact⟨rfl,blr⟩
  | true =>
   rw[d] at c1;rw[j] at c2;have H:=qh c1;clear c1;have N:=qh c2;clear c2;have lm:=z1s d;have ln:=z1s j;have b1:=z4v s w d;have B1:=qh b1;clear b1;have b2:=fun w=>z4v t w j;have B2:=qh b2;clear b2;have H1:=qh d;clear d;have H2:=qh j;clear j;have c:gcdF s t=(str (dec (Nat.gcd (val s) (val t))),0):=by unfold gcdF;rw[H1.out,H2.out];rfl
   rw[c];clear c
   go_enter func208,ntmps208
   go_wp2_with fail
   refine H.out.mono ?_;rintro e L ⟨rfl,rfl⟩
   go_wp2_with fail
   refine N.out.mono ?_;rintro e L ⟨rfl,rfl⟩
   go_wp2_with fail
   refine B1.out.mono ?_;rintro e w1 ⟨v1,rfl,D,z⟩;have Z:=qh D;clear D;have C:=qh z;clear z;have W:=C.out.size
   go_wp2_with fail
   refine(B2.out w1).mono ?_;rintro e w2 ⟨v2,rfl,o,K⟩;have U:=qh o;clear o;have m:=qh K;clear K;have a6:=m.out.size;have Y:=qh (Z.out.sl.below m.out nlr)
   go_wp2_with fail
   go_loopg [6,7] (val t) (fun g vx vy wr=>∃ p:Nat,Sl wr .u64 vx (toB p)/\Sl wr .u64 vy (toB g)/\Nat.gcd p g=Nat.gcd (val s) (val t)/\(toB p).length<=112/\(toB g).length<=112/\Below w.heap.size w wr)
   case atStart=>exact⟨val s,Y.out,U.out.sl,rfl,lm,ln,C.out.trans (m.out.mono W)⟩
   obtain⟨p,Q,X,hg,a4,A,hb⟩:=hrel;obtain⟨a1,c1,rfl⟩:=Q.shape;obtain⟨a2,c2,rfl⟩:=X.shape;have HX:=qh Q;clear Q;have HY:=qh X;clear X;have HG:=qh hg;clear hg;have h:=qh hb;clear hb;have I:=h.out.size;by_cases k:gk=0
   ·have l:(toB gk).length=0:=by rw[k];rfl
    have E:p=Nat.gcd (val s) (val t):=by rw[<- HG.out,k,Nat.gcd_zero_right]
    rw[l];have a3:=qh E;clear E k l A;have F:=y0m _ p wr HX.out (by omega) (T.out.below h.out nlr);have P:=qh F;clear F
    go_wp2_with fail
    refine P.out.mono ?_;rintro e w5 ⟨rfl,B⟩;have O:=qh B;clear B;go_wp2;go_ret2;exact⟨u4n (by rw[a3.out]) rfl,h.out.trans (O.out.mono I)⟩
   have l:=y2f k;have G:=y6i _ _ p gk wr HX.out HY.out k (by omega);have S:=qh G;clear G;have a5:=z2h (Nat.le_of_lt (Nat.mod_lt p (Nat.pos_of_ne_zero k)));have R:=qh k;clear k
   go_wp2_with fail
   refine S.out.mono ?_;rintro e w3 ⟨vq,vr,rfl,hq,c,u⟩;have HQ:=qh hq;clear hq;have HR:=qh c;clear c;have J:=qh u;clear u
   go_wp2_with fail
   go_roundg (p % gk)
   case measure=>exact Nat.mod_lt _ (Nat.pos_of_ne_zero R.out)
   case rel=>exact⟨gk,HY.out.below J.out nlr,HR.out,by rw[<- HG.out,Nat.gcd_comm gk,<- Nat.gcd_rec,Nat.gcd_comm],A,by omega,h.out.trans (J.out.mono I)⟩
end
section
open Go.RowKit
def fits (n:Nat):Prop:=(dec n).length<=1000
theorem z3u (n:Nat):val (str (dec n))=n:=by unfold val;rw[z2u];exact z9h n
theorem z7f {n:Nat} (h:fits n):vld (str (dec n))=true:=by unfold vld;rw[z2u];exact y3u h
theorem z9i {m n:Nat} (h:fits n) (c:m<=n):fits m:=by
 unfold fits at *;exact z3n.2 ⟨Nat.lt_of_le_of_lt c (z3n.1 h).1,by omega⟩
theorem z2m {n:Nat} (h:fits n):(str (dec n)).size<=maxLen:=by rw[z1g];unfold fits at h;unfold maxLen;omega
theorem x3w {n:Nat} (h:fits n):limS n=(str (dec n),0):=if_pos h
theorem u4r {s t:ByteArray} (d:vld s=true) (c:vld t=true):addF s t=limS (val s+val t):=by unfold addF;rw[d,c];rfl
theorem u3n {s t:ByteArray} (d:vld s=true) (c:vld t=true):mulF s t=limS (val s*val t):=by unfold mulF;rw[d,c];rfl
theorem v5s {s t:ByteArray} (d:vld s=true) (c:vld t=true) (h:fits (val s+val t)):addF s t=(str (dec (val s+val t)),0):=by rw[u4r d c,x3w h]
theorem v7s {s t:ByteArray} (d:vld s=true) (c:vld t=true) (h:fits (val s*val t)):mulF s t=(str (dec (val s*val t)),0):=by rw[u3n d c,x3w h]
theorem u4i {s t:ByteArray} (d:vld s=true) (c:vld t=true):subF s t=if val s<val t then (⟨#[]⟩,4) else (str (dec (val s-val t)),0):=by unfold subF;rw[d,c];rfl
theorem u0y {s t:ByteArray} (d:vld s=true) (c:vld t=true) (h:val t<=val s):subF s t=(str (dec (val s-val t)),0):=by rw[u4i d c,if_neg (by omega)]
theorem u2y {s t:ByteArray} (d:vld s=true) (c:vld t=true):divF s t=if val t=0 then (⟨#[]⟩,⟨#[]⟩,4) else (str (dec (val s / val t)),str (dec (val s % val t)),0):=by unfold divF;rw[d,c];rfl
theorem u0e {s t:ByteArray} (d:vld s=true) (c:vld t=true) (h:val t≠0):divF s t=(str (dec (val s / val t)),str (dec (val s % val t)),0):=by rw[u2y d c,if_neg h]
theorem u2v {s t:ByteArray} (d:vld s=true) (c:vld t=true):gcdF s t=(str (dec (Nat.gcd (val s) (val t))),0):=by unfold gcdF;rw[d,c];rfl
end
section
open Go.RowKit
def nvS (b:Bool) (n d:ByteArray):Value:=.agg #[.bool b,.string n,.string d]
def nv (q:Rat):Value:=nvS (negQ q) (str (dec q.num.natAbs)) (str (dec q.den))
def txtS (b:Bool) (n d:ByteArray):ByteArray :=
 let s:=if b then (⟨#[45]⟩:ByteArray)++n else n
 if d=⟨#[49]⟩ then s else s++((⟨#[47]⟩:ByteArray)++d)
theorem x9d {s t:ByteArray} (h:s≠t):¬ s.toList=t.toList:=by
 rw[Lib.toList_data,Lib.toList_data];intro e;apply h;exact y7b e
theorem z4m {s:ByteArray} {l:List UInt8} (h:s≠str l):(s.toList==l)=false:=by
 rw[beq_eq_false_iff_ne,Lib.toList_data];intro e;apply h;rw[<- e];exact(y3t s).symm
theorem y1b (s t:ByteArray):bts (s++t)=bts s++bts t:=by
 show (s++t).data.toList=_;rw[ByteArray.data_append,Array.toList_append];rfl
theorem v7h (q:Rat):txtS (negQ q) (str (dec q.num.natAbs)) (str (dec q.den))=txt q:=by
 apply y7b
 have c:(str (dec q.den)=⟨#[49]⟩)↔q.den=1:=by
  constructor
  ·intro e;have:=congrArg bts e;rw[z2u] at this;exact z7j (this.trans z5j.symm)
  intro e;rw[e,z5j];rfl
 unfold txtS txt txtL;rw[z2u];by_cases h:q.den=1
 ·rw[if_pos (c.2 h),if_pos h];cases negQ q
  ·simp[z2u]
  simp only[if_true,y1b,z2u];simp[bts]
 rw[if_neg (fun e=>h (c.1 e)),if_neg h];cases negQ q
 ·simp only[Bool.false_eq_true,if_false,y1b,z2u];simp[bts]
 simp only[if_true,y1b,z2u];simp[bts]
theorem x2v (b:Bool) (n d:ByteArray) (w:World) (hn:n.size<=400) (i:d.size<=400) :
  Calls prog 218 #[nvS b n d] w fun e w'=>e=.returned (.string (txtS b n d))/\Below w.heap.size w w':=by
 have j:(n.size:Int)<=8388608:=by omega
 have m:(d.size:Int)<=8388608:=by omega
 clear hn i;have c:Below w.heap.size w (w.alloc (.cells #[.bool b,.string n,.string d] 189)):=blr.alloc nlr _;have g:=qh c;clear c;unfold nvS;by_cases h:d=⟨#[49]⟩
 ·subst h;cases b<;>simp only[txtS,if_true,if_false,Bool.false_eq_true]
  all_goals
   go_enter func218,ntmps218
   go_wp2;go_ret;exact⟨rfl,g.out⟩
 have k:(d.toList==[49])=false:=z4m h;cases b<;>simp only[txtS,if_true,if_false,Bool.false_eq_true]<;>rw[if_neg h]<;>clear h
 ·go_enter func218,ntmps218
  go_wp2;go_ret;exact⟨rfl,g.out⟩
 have l:(((⟨#[45]⟩:ByteArray)++n).size:Int)<=8388609:=by rw[ByteArray.size_append];show ((1+n.size:Nat):Int)<=_;omega
 go_enter func218,ntmps218
 go_wp2;go_ret;exact⟨rfl,g.out⟩
theorem x1v (q:Rat) (w:World) (h:fitQ q) :
  Calls prog 218 #[nv q] w fun e w'=>e=.returned (.string (txt q))/\Below w.heap.size w w':=by
 rw[<- v7h];exact x2v _ _ _ w (by rw[z1g];exact h.1) (by rw[z1g];exact h.2)
theorem z1n (c:ByteArray) (w:World):Calls prog 188 #[.string c,.int .i64 0] w fun e w'=>e=.returned (.string c)/\w=w':=by
 go_enter func188,ntmps188
 go_wp2;go_ret;exact⟨rfl,rfl⟩
end
section
open Go.RowKit
theorem x5d {n k:Nat} (h:n<10 ^ k) (d:k<=1000) (c:1<=k):fits n:=by
 unfold fits;have:=z3n.2 ⟨h,c⟩;omega
theorem z6c {q:Rat} (h:fitQ q):fits q.num.natAbs:=by unfold fits;have:=h.1;omega
theorem z4a {q:Rat} (h:fitQ q):fits q.den:=by unfold fits;have:=h.2;omega
theorem pow400 {n:Nat} (h:(dec n).length<=400):n<10 ^ 400:=(z3n.1 h).1
theorem y3z {m n k:Nat} (c:m<10 ^ k) (d:n<10 ^ k):m*n<10 ^ (k+k):=by rw[Nat.pow_add];exact y6f c d
theorem v2p {a b c d k:Nat} (h:a<10 ^ k) (hb:b<10 ^ k) (i:c<10 ^ k) (g:d<10 ^ k):a*b+c*d<10 ^ (k+k+1):=by
 have j:=y3z h hb;have l:=y3z i g;rw[Nat.pow_succ];omega
theorem z3e {m n:Nat} (c:(dec m).length<=400) (hn:(dec n).length<=400):fits (m*n) :=
 x5d (y3z (pow400 c) (pow400 hn)) (by omega) (by omega)
theorem y7p {a b c d:Nat} (h:(dec a).length<=400) (hb:(dec b).length<=400) (i:(dec c).length<=400) (g:(dec d).length<=400):fits (a*b+c*d) :=
 x5d (v2p (pow400 h) (pow400 hb) (pow400 i) (pow400 g)) (by omega) (by omega)
def StrE (s:ByteArray) (w:World) (e:Ending) (w':World):Prop:=e=.returned (.string s)/\Below w.heap.size w w'
def StrZ (s:ByteArray) (w:World) (e:Ending) (w':World):Prop:=e=.returned (.tuple #[.string s,.int .i64 0])/\Below w.heap.size w w'
theorem u1x (m n:Nat) (w:World) (c:fits m) (hn:fits n) (h:fits (m+n)) (d:Tab w) :
  Calls prog 201 #[.string (str (dec m)),.string (str (dec n))] w (StrZ (str (dec (m+n))) w):=by
 have:=u0i (str (dec m)) (str (dec n)) w (z2m c) (z2m hn) d;rw[v5s (z7f c) (z7f hn) (by rw[z3u,z3u];exact h),z3u,z3u] at this;exact this
theorem v1i (m n:Nat) (w:World) (c:fits m) (hn:fits n) (h:n<=m) (d:Tab w) :
  Calls prog 203 #[.string (str (dec m)),.string (str (dec n))] w (StrZ (str (dec (m-n))) w):=by
 have:=u1r (str (dec m)) (str (dec n)) w (z2m c) (z2m hn) d;rw[u0y (z7f c) (z7f hn) (by rw[z3u,z3u];exact h),z3u,z3u] at this;exact this
theorem z4u (m n:Nat) (w:World) (c:fits m) (hn:fits n) (h:fits (m*n)) (d:Tab w) :
  Calls prog 189 #[.string (str (dec m)),.string (str (dec n))] w (StrZ (str (dec (m*n))) w):=by
 have:=v9k (str (dec m)) (str (dec n)) w (z2m c) (z2m hn) d;rw[v7s (z7f c) (z7f hn) (by rw[z3u,z3u];exact h),z3u,z3u] at this;exact this
theorem x9s (m n:Nat) (w:World) (c:fits m) (hn:fits n) (d:Tab w) :
  Calls prog 208 #[.string (str (dec m)),.string (str (dec n))] w (StrZ (str (dec (Nat.gcd m n))) w):=by
 have:=v9n (str (dec m)) (str (dec n)) w (z2m c) (z2m hn) d;rw[u2v (z7f c) (z7f hn),z3u,z3u] at this;exact this
theorem u0p (m n:Nat) (w:World) (c:fits m) (hn:fits n) (h:n≠0) (d:Tab w) :
  Calls prog 224 #[.string (str (dec m)),.string (str (dec n))] w fun e w'=>e=.returned (.tuple #[.string (str (dec (m / n))),.string (str (dec (m % n))),.int .i64 0])/\Below w.heap.size w w':=by
 have:=u1p (str (dec m)) (str (dec n)) w (z2m c) (z2m hn) d;rw[u0e (z7f c) (z7f hn) (by rw[z3u];exact h),z3u,z3u] at this;exact this
theorem v2d (m n:Nat) (w:World) (c:fits m) (hn:fits n) :
  Calls prog 202 #[.string (str (dec m)),.string (str (dec n))] w (IntEnd (cmpN m n) w):=by
 have:=u0b (str (dec m)) (str (dec n)) w (z2m c) (z2m hn);unfold cmpF at this;rw[z7f c,z7f hn,z3u,z3u] at this;exact this
theorem x9q (m n:Nat) (w:World) (g:fits m) (hn:fits n) (h:n≠0) (c:Tab w) :
  Calls prog 209 #[.string (str (dec m)),.string (str (dec n))] w (StrE (str (dec (m / n))) w):=by
 have d:=u0p m n w g hn h c;have i:=qh d;clear d g hn h c
 go_enter func209,ntmps209
 go_wp2_with fail
 refine nxa i.out fun k j=>?_
 go_wp2_with fail
 refine(z1n _ _).mono ?_;rintro e l ⟨rfl,rfl⟩;go_wp2;go_ret;exact⟨rfl,j.out⟩
theorem y1d (p q:Bool) (m n:Nat) (w:World) (h:fits (m+n)) (k:Tab w) :
  Calls prog 187 #[.bool p,.string (str (dec m)),.bool q,.string (str (dec n))] w fun e w' =>
   e=.returned (.tuple #[.bool (sumF p m q n).1,.string (str (dec (sumF p m q n).2))])/\Below w.heap.size w w':=by
 have u:fits m:=z9i h (by omega);have o:fits n:=z9i h (by omega);by_cases g:p=q
 ·subst g;have A:sumF p m p n=(p,m+n):=by unfold sumF;rw[if_pos rfl]
  rw[A];have l:=u1x m n w u o h k;have D:=qh l;clear l u o h k A;have L:(p==p)=true:=by cases p<;>rfl
  go_enter func187,ntmps187
  go_wp2_with fail
  refine nxa D.out fun s K=>?_
  go_wp2_with fail
  refine(z1n _ _).mono ?_;rintro e I ⟨rfl,rfl⟩;go_wp2;go_ret2;exact⟨rfl,K.out⟩
 have hb:(p==q)=false:=by rw[beq_eq_false_iff_ne];exact g
 by_cases d:m<n
 ·have A:sumF p m q n=(q,n-m):=by unfold sumF;rw[if_neg g,if_pos d]
  rw[A];have l:=v2d m n w u o;rw[z7t d] at l;have C:=fun s k=>v1i n m s o u (Nat.le_of_lt d) k;have D:=qh l;clear l;have G:=qh C;clear C;have F:=qh k;clear u o h k A d g
  go_enter func187,ntmps187
  go_wp2_with fail
  refine D.out.mono ?_;rintro e s ⟨rfl,i⟩;have c:=qh i;clear i
  go_wp2_with fail
  refine(G.out s (F.out.below c.out nlr)).mono ?_;rintro e I ⟨rfl,j⟩;have B:=qh (c.out.trans (j.mono c.out.size));clear j
  go_wp2_with fail
  refine(z1n _ _).mono ?_;rintro e J ⟨rfl,rfl⟩;go_wp2;go_ret2;exact⟨rfl,B.out⟩
 have A:sumF p m q n=(p,m-n):=by unfold sumF;rw[if_neg g,if_neg d]
 rw[A];have l:=v2d m n w u o;have E:0<=cmpN m n:=by
  rcases Nat.lt_or_ge n m with H|H
  ·rw[z7x H];omega
  rw[y1p (by omega)];omega
 generalize cmpN m n=z at l E;have C:=fun s k=>v1i m n s u o (by omega) k;have D:=qh l;clear l;have G:=qh C;clear C;have F:=qh k;clear u o h k A d g
 go_enter func187,ntmps187
 go_wp2_with fail
 refine D.out.mono ?_;rintro e s ⟨rfl,i⟩;have c:=qh i;clear i
 go_wp2_with fail
 refine(G.out s (F.out.below c.out nlr)).mono ?_;rintro e I ⟨rfl,j⟩;have B:=qh (c.out.trans (j.mono c.out.size));clear j
 go_wp2_with fail
 refine(z1n _ _).mono ?_;rintro e J ⟨rfl,rfl⟩;go_wp2;go_ret2;exact⟨rfl,B.out⟩
end
section
open Go.RowKit
def PT:Ending:=.panicked [{ v:=.iface 198 (.agg #[]),recovered:=false }]
def QEnd (q:Rat) (w:World) (e:Ending) (w':World):Prop:=e=(if fitQ q then .returned (nv q) else PT)/\Below w.heap.size w w'
theorem res3 {w g:World} {a b c:Value} {t:TypeId} (h:Below (w.alloc (.cells #[a,b,c] t)).heap.size (w.alloc (.cells #[a,b,c] t)) g) :
  g.cell? ⟨w.heap.size,0,none⟩=some a/\g.cell? ⟨w.heap.size,1,none⟩=some b/\g.cell? ⟨w.heap.size,2,none⟩=some c/\g.frozen? ⟨w.heap.size,0,none⟩=false/\g.frozen? ⟨w.heap.size,1,none⟩=false/\g.frozen? ⟨w.heap.size,2,none⟩=false/\w.heap.size<g.heap.size:=by
 have i:=h.size;have d:w.heap.size<(w.alloc (.cells #[a,b,c] t)).heap.size:=by simp
 refine⟨?_,?_,?_,?_,?_,?_,by omega⟩
 ·exact(h.cell (p:=⟨w.heap.size,0,none⟩) d).trans (by simp)
 ·exact(h.cell (p:=⟨w.heap.size,1,none⟩) d).trans (by simp)
 ·exact(h.cell (p:=⟨w.heap.size,2,none⟩) d).trans (by simp)
 ·exact(h.frozen (p:=⟨w.heap.size,0,none⟩) d).trans (by simp)
 ·exact(h.frozen (p:=⟨w.heap.size,1,none⟩) d).trans (by simp)
 exact(h.frozen (p:=⟨w.heap.size,2,none⟩) d).trans (by simp)
theorem set3 {w:World} {n:Nat} {a b c a' b' c':Value} (k0:w.cell? ⟨n,0,none⟩=some a) (d:w.cell? ⟨n,1,none⟩=some b) (g:w.cell? ⟨n,2,none⟩=some c) :
  (((w.setCell ⟨n,0,none⟩ a').setCell ⟨n,1,none⟩ b').setCell ⟨n,2,none⟩ c').cell? ⟨n,0,none⟩=some a'/\(((w.setCell ⟨n,0,none⟩ a').setCell ⟨n,1,none⟩ b').setCell ⟨n,2,none⟩ c').cell? ⟨n,1,none⟩=some b'/\(((w.setCell ⟨n,0,none⟩ a').setCell ⟨n,1,none⟩ b').setCell ⟨n,2,none⟩ c').cell? ⟨n,2,none⟩=some c':=by
 refine⟨?_,?_,?_⟩<;>simp[go_sem,k0,d,g]
theorem z3m {fn:Func} {p:Tmp} (h:fn.results=#[.cell p 189]) (c:Array Value) (W:World) (n:Nat) (r:Bool) (x y:ByteArray)
  (g:c.getD p undef=.pointer (some ⟨n,0,none⟩)) (c0:W.cell? ⟨n,0,none⟩=some (.bool r)) (c1:W.cell? ⟨n,1,none⟩=some (.string x)) (c2:W.cell? ⟨n,2,none⟩=some (.string y)) :
  (results fn c).run prog W=.ok (.agg #[.bool r,.string x,.string y]) W:=by
 have d:c[p]?.getD undef=.pointer (some ⟨n,0,none⟩):=by rw[<- g];simp
 simp only[results,h];simp[d,go_sem,c0,c1,c2]
theorem x5t (s:Bool) (a b g x y:ByteArray) (r:Bool) (w:World) (Y:(s=false/\r=false)\/(s=true/\(a.toList==[48])=!r))
  (N:x.size<=1000) (K:y.size<=1000)
  (c1:∀ wx,Below w.heap.size w wx->Calls prog 208 #[.string a,.string b] wx (StrZ g wx))
  (c2:∀ wx,Below w.heap.size w wx->Calls prog 209 #[.string a,.string g] wx (StrE x wx))
  (c3:∀ wx,Below w.heap.size w wx->Calls prog 209 #[.string b,.string g] wx (StrE y wx)) :
  Calls prog 190 #[.bool s,.string a,.string b] w fun e w' =>
   e=(if x.size<=400/\y.size<=400 then .returned (nvS r x y) else PT)/\Below w.heap.size w w':=by
 have J:=qh c1;clear c1;have I:=qh c2;clear c2;have L:=qh c3;clear c3;have W:Below w.heap.size w (w.alloc (.cells #[.bool false,.string ⟨#[]⟩,.string ⟨#[]⟩] 189)):=blr.alloc nlr _;have l:=qh W;clear W;have D:(x.size<=400/\y.size<=400)\/(x.size<=400/\400<y.size)\/400<x.size:=by omega
 unfold PT nvS
 rcases Y with ⟨rfl,rfl⟩|⟨rfl,X⟩
 ·-- no sign
  rcases D with ⟨A,E⟩|⟨A,E⟩|A
  ·rw[if_pos ⟨A,E⟩];have O:(x.size:Int)<=400:=by omega
   have U:(y.size:Int)<=400:=by omega
   clear A E;clear N K
   go_enter func190,ntmps190
   go_wp2_with fail
   refine(J.out _ l.out).mono ?_;rintro e P ⟨rfl,d⟩;have m:=qh d;have j:=qh (l.out.trans (d.mono l.out.size));clear d
   go_wp2_with fail
   refine(z1n _ _).mono ?_;rintro e C ⟨rfl,rfl⟩
   go_wp2_with fail
   refine(I.out _ j.out).mono ?_;rintro e C ⟨rfl,k⟩;have p:=qh (m.out.trans (k.mono m.out.size));have i:=qh (j.out.trans (k.mono j.out.size));clear k
   go_wp2_with fail
   refine(L.out _ i.out).mono ?_;rintro e T ⟨rfl,c⟩;have z:=qh (p.out.trans (c.mono p.out.size));have o:=qh (i.out.trans (c.mono i.out.size));clear c;obtain⟨G,F,H,S,Q,R,u⟩:=res3 z.out;have B:=qh o.out.size
   go_wp2_with fail
   obtain⟨s0,s1,s2⟩:=set3 (a':=.bool false) (b':=.string x) (c':=.string y) G F H;refine bodyPost_ret (z3m rfl _ _ w.heap.size false x y rfl ?_ ?_ ?_) rfl ⟨rfl,?_⟩
   ·rw[World.cell?_alloc_past (hn:=by simpa using u)];exact s0
   ·rw[World.cell?_alloc_past (hn:=by simpa using u)];exact s1
   ·rw[World.cell?_alloc_past (hn:=by simpa using u)];exact s2
   exact(((o.out.setCell nlr _).setCell nlr _).setCell nlr _).alloc (by simpa using B.out) _
  ·rw[if_neg (fun h=>by omega)];have O:(x.size:Int)<=400:=by omega
   have U:(400:Int)<(y.size:Int):=by omega
   clear A E;clear N K
   go_enter func190,ntmps190
   go_wp2_with fail
   refine(J.out _ l.out).mono ?_;rintro e P ⟨rfl,d⟩;have m:=qh d;have j:=qh (l.out.trans (d.mono l.out.size));clear d
   go_wp2_with fail
   refine(z1n _ _).mono ?_;rintro e C ⟨rfl,rfl⟩
   go_wp2_with fail
   refine(I.out _ j.out).mono ?_;rintro e C ⟨rfl,k⟩;have p:=qh (m.out.trans (k.mono m.out.size));have i:=qh (j.out.trans (k.mono j.out.size));clear k
   go_wp2_with fail
   refine(L.out _ i.out).mono ?_;rintro e T ⟨rfl,c⟩;have z:=qh (p.out.trans (c.mono p.out.size));have o:=qh (i.out.trans (c.mono i.out.size));clear c;obtain⟨G,F,H,S,Q,R,u⟩:=res3 z.out;have B:=qh o.out.size
   go_wp2_with fail
   exact⟨rfl,rfl,o.out.alloc B.out _⟩
  rw[if_neg (fun h=>by omega)];have O:(400:Int)<(x.size:Int):=by omega
  clear A;clear N K
  go_enter func190,ntmps190
  go_wp2_with fail
  refine(J.out _ l.out).mono ?_;rintro e P ⟨rfl,d⟩;have m:=qh d;have j:=qh (l.out.trans (d.mono l.out.size));clear d
  go_wp2_with fail
  refine(z1n _ _).mono ?_;rintro e C ⟨rfl,rfl⟩
  go_wp2_with fail
  refine(I.out _ j.out).mono ?_;rintro e C ⟨rfl,k⟩;have p:=qh (m.out.trans (k.mono m.out.size));have i:=qh (j.out.trans (k.mono j.out.size));clear k
  go_wp2_with fail
  refine(L.out _ i.out).mono ?_;rintro e T ⟨rfl,c⟩;have z:=qh (p.out.trans (c.mono p.out.size));have o:=qh (i.out.trans (c.mono i.out.size));clear c;obtain⟨G,F,H,S,Q,R,u⟩:=res3 z.out;have B:=qh o.out.size
  go_wp2_with fail
  exact⟨rfl,rfl,o.out.alloc B.out _⟩
 cases r<;>simp only[Bool.not_true,Bool.not_false] at X
 ·-- zero
  rcases D with ⟨A,E⟩|⟨A,E⟩|A
  ·rw[if_pos ⟨A,E⟩];have O:(x.size:Int)<=400:=by omega
   have U:(y.size:Int)<=400:=by omega
   clear A E;clear N K
   go_enter func190,ntmps190
   go_wp2_with fail
   refine(J.out _ l.out).mono ?_;rintro e P ⟨rfl,d⟩;have m:=qh d;have j:=qh (l.out.trans (d.mono l.out.size));clear d
   go_wp2_with fail
   refine(z1n _ _).mono ?_;rintro e C ⟨rfl,rfl⟩
   go_wp2_with fail
   refine(I.out _ j.out).mono ?_;rintro e C ⟨rfl,k⟩;have p:=qh (m.out.trans (k.mono m.out.size));have i:=qh (j.out.trans (k.mono j.out.size));clear k
   go_wp2_with fail
   refine(L.out _ i.out).mono ?_;rintro e T ⟨rfl,c⟩;have z:=qh (p.out.trans (c.mono p.out.size));have o:=qh (i.out.trans (c.mono i.out.size));clear c;obtain⟨G,F,H,S,Q,R,u⟩:=res3 z.out;have B:=qh o.out.size
   go_wp2_with fail
   obtain⟨s0,s1,s2⟩:=set3 (a':=.bool false) (b':=.string x) (c':=.string y) G F H;refine bodyPost_ret (z3m rfl _ _ w.heap.size false x y rfl ?_ ?_ ?_) rfl ⟨rfl,?_⟩
   ·rw[World.cell?_alloc_past (hn:=by simpa using u)];exact s0
   ·rw[World.cell?_alloc_past (hn:=by simpa using u)];exact s1
   ·rw[World.cell?_alloc_past (hn:=by simpa using u)];exact s2
   exact(((o.out.setCell nlr _).setCell nlr _).setCell nlr _).alloc (by simpa using B.out) _
  ·rw[if_neg (fun h=>by omega)];have O:(x.size:Int)<=400:=by omega
   have U:(400:Int)<(y.size:Int):=by omega
   clear A E;clear N K
   go_enter func190,ntmps190
   go_wp2_with fail
   refine(J.out _ l.out).mono ?_;rintro e P ⟨rfl,d⟩;have m:=qh d;have j:=qh (l.out.trans (d.mono l.out.size));clear d
   go_wp2_with fail
   refine(z1n _ _).mono ?_;rintro e C ⟨rfl,rfl⟩
   go_wp2_with fail
   refine(I.out _ j.out).mono ?_;rintro e C ⟨rfl,k⟩;have p:=qh (m.out.trans (k.mono m.out.size));have i:=qh (j.out.trans (k.mono j.out.size));clear k
   go_wp2_with fail
   refine(L.out _ i.out).mono ?_;rintro e T ⟨rfl,c⟩;have z:=qh (p.out.trans (c.mono p.out.size));have o:=qh (i.out.trans (c.mono i.out.size));clear c;obtain⟨G,F,H,S,Q,R,u⟩:=res3 z.out;have B:=qh o.out.size
   go_wp2_with fail
   exact⟨rfl,rfl,o.out.alloc B.out _⟩
  rw[if_neg (fun h=>by omega)];have O:(400:Int)<(x.size:Int):=by omega
  clear A;clear N K
  go_enter func190,ntmps190
  go_wp2_with fail
  refine(J.out _ l.out).mono ?_;rintro e P ⟨rfl,d⟩;have m:=qh d;have j:=qh (l.out.trans (d.mono l.out.size));clear d
  go_wp2_with fail
  refine(z1n _ _).mono ?_;rintro e C ⟨rfl,rfl⟩
  go_wp2_with fail
  refine(I.out _ j.out).mono ?_;rintro e C ⟨rfl,k⟩;have p:=qh (m.out.trans (k.mono m.out.size));have i:=qh (j.out.trans (k.mono j.out.size));clear k
  go_wp2_with fail
  refine(L.out _ i.out).mono ?_;rintro e T ⟨rfl,c⟩;have z:=qh (p.out.trans (c.mono p.out.size));have o:=qh (i.out.trans (c.mono i.out.size));clear c;obtain⟨G,F,H,S,Q,R,u⟩:=res3 z.out;have B:=qh o.out.size
  go_wp2_with fail
  exact⟨rfl,rfl,o.out.alloc B.out _⟩
 rcases D with ⟨A,E⟩|⟨A,E⟩|A
 ·rw[if_pos ⟨A,E⟩];have O:(x.size:Int)<=400:=by omega
  have U:(y.size:Int)<=400:=by omega
  clear A E;clear N K
  go_enter func190,ntmps190
  go_wp2_with fail
  refine(J.out _ l.out).mono ?_;rintro e P ⟨rfl,d⟩;have m:=qh d;have j:=qh (l.out.trans (d.mono l.out.size));clear d
  go_wp2_with fail
  refine(z1n _ _).mono ?_;rintro e C ⟨rfl,rfl⟩
  go_wp2_with fail
  refine(I.out _ j.out).mono ?_;rintro e C ⟨rfl,k⟩;have p:=qh (m.out.trans (k.mono m.out.size));have i:=qh (j.out.trans (k.mono j.out.size));clear k
  go_wp2_with fail
  refine(L.out _ i.out).mono ?_;rintro e T ⟨rfl,c⟩;have z:=qh (p.out.trans (c.mono p.out.size));have o:=qh (i.out.trans (c.mono i.out.size));clear c;obtain⟨G,F,H,S,Q,R,u⟩:=res3 z.out;have B:=qh o.out.size
  go_wp2_with fail
  obtain⟨s0,s1,s2⟩:=set3 (a':=.bool true) (b':=.string x) (c':=.string y) G F H;refine bodyPost_ret (z3m rfl _ _ w.heap.size true x y rfl ?_ ?_ ?_) rfl ⟨rfl,?_⟩
  ·rw[World.cell?_alloc_past (hn:=by simpa using u)];exact s0
  ·rw[World.cell?_alloc_past (hn:=by simpa using u)];exact s1
  ·rw[World.cell?_alloc_past (hn:=by simpa using u)];exact s2
  exact(((o.out.setCell nlr _).setCell nlr _).setCell nlr _).alloc (by simpa using B.out) _
 ·rw[if_neg (fun h=>by omega)];have O:(x.size:Int)<=400:=by omega
  have U:(400:Int)<(y.size:Int):=by omega
  clear A E;clear N K
  go_enter func190,ntmps190
  go_wp2_with fail
  refine(J.out _ l.out).mono ?_;rintro e P ⟨rfl,d⟩;have m:=qh d;have j:=qh (l.out.trans (d.mono l.out.size));clear d
  go_wp2_with fail
  refine(z1n _ _).mono ?_;rintro e C ⟨rfl,rfl⟩
  go_wp2_with fail
  refine(I.out _ j.out).mono ?_;rintro e C ⟨rfl,k⟩;have p:=qh (m.out.trans (k.mono m.out.size));have i:=qh (j.out.trans (k.mono j.out.size));clear k
  go_wp2_with fail
  refine(L.out _ i.out).mono ?_;rintro e T ⟨rfl,c⟩;have z:=qh (p.out.trans (c.mono p.out.size));have o:=qh (i.out.trans (c.mono i.out.size));clear c;obtain⟨G,F,H,S,Q,R,u⟩:=res3 z.out;have B:=qh o.out.size
  go_wp2_with fail
  exact⟨rfl,rfl,o.out.alloc B.out _⟩
 rw[if_neg (fun h=>by omega)];have O:(400:Int)<(x.size:Int):=by omega
 clear A;clear N K
 go_enter func190,ntmps190
 go_wp2_with fail
 refine(J.out _ l.out).mono ?_;rintro e P ⟨rfl,d⟩;have m:=qh d;have j:=qh (l.out.trans (d.mono l.out.size));clear d
 go_wp2_with fail
 refine(z1n _ _).mono ?_;rintro e C ⟨rfl,rfl⟩
 go_wp2_with fail
 refine(I.out _ j.out).mono ?_;rintro e C ⟨rfl,k⟩;have p:=qh (m.out.trans (k.mono m.out.size));have i:=qh (j.out.trans (k.mono j.out.size));clear k
 go_wp2_with fail
 refine(L.out _ i.out).mono ?_;rintro e T ⟨rfl,c⟩;have z:=qh (p.out.trans (c.mono p.out.size));have o:=qh (i.out.trans (c.mono i.out.size));clear c;obtain⟨G,F,H,S,Q,R,u⟩:=res3 z.out;have B:=qh o.out.size
 go_wp2_with fail
 exact⟨rfl,rfl,o.out.alloc B.out _⟩
theorem z9v (s:Bool) (m d:Nat) (w:World) (p:fits m) (i:fits d) (u:d≠0) (E:Tab w) :
  Calls prog 190 #[.bool s,.string (str (dec m)),.string (str (dec d))] w (QEnd (mkRat (sg s m) d) w):=by
 obtain⟨o,k,G⟩:=x7z (sg s m) d u;rw[v1w] at o k;have A:fits (Nat.gcd m d):=z9i i (Nat.le_of_dvd (Nat.pos_of_ne_zero u) (Nat.gcd_dvd_right _ _));have g:Nat.gcd m d≠0:=by have:=Nat.gcd_pos_of_pos_right m (Nat.pos_of_ne_zero u);omega
 have z:∀ c,Below w.heap.size w c->Tab c:=fun c h=>E.below h nlr;have C:fits (m / Nat.gcd m d):=z9i p (Nat.div_le_self _ _);have D:fits (d / Nat.gcd m d):=z9i i (Nat.div_le_self _ _);have F:=x5t s (str (dec m)) (str (dec d)) (str (dec (Nat.gcd m d))) (str (dec (m / Nat.gcd m d))) (str (dec (d / Nat.gcd m d))) (negQ (mkRat (sg s m) d)) w ?_ ?_ ?_
  (fun c h=>x9s m d c p i (z c h)) (fun c h=>x9q m _ c p A g (z c h)) (fun c h=>x9q d _ c i A g (z c h))
 ·refine F.mono ?_;rintro e H ⟨rfl,hb⟩;refine⟨?_,hb⟩;have hf:fitQ (mkRat (sg s m) d)↔((str (dec (m / Nat.gcd m d))).size<=400/\(str (dec (d / Nat.gcd m d))).size<=400):=by
   unfold fitQ;rw[o,k,z1g,z1g]
  have B:nv (mkRat (sg s m) d)=nvS (negQ (mkRat (sg s m) d)) (str (dec (m / Nat.gcd m d))) (str (dec (d / Nat.gcd m d))):=by
   unfold nv;rw[o,k]
  rw[B];by_cases h:fitQ (mkRat (sg s m) d)
  ·rw[if_pos h,if_pos (hf.1 h)]
  rw[if_neg h,if_neg (fun e=>h (hf.2 e))]
 ·rw[G];cases s
  ·left;refine⟨rfl,?_⟩;rw[decide_eq_false_iff_not,v8c];simp
  right;refine⟨rfl,?_⟩
  by_cases j:m=0
  ·subst j;rw[z5b,Lib.toList_data];rfl
  have:(decide (sg true m<0))=true:=by rw[decide_eq_true_eq,v8c];exact⟨rfl,j⟩
  rw[this];exact z4m (l:=[48]) (fun e=>j (z7j ((by have:=congrArg bts e;rw[z2u,z2u] at this;exact this:dec m=[48]).trans z5b.symm)))
 ·rw[z1g];exact C
 rw[z1g];exact D
end
section
open Go.RowKit
theorem z0a {W a b:World} (h:Below W.heap.size W a) (hb:Below a.heap.size a b):Below W.heap.size W b:=h.trans (hb.mono h.size)
def WR (p q:Bool) (xn xd yn yd:ByteArray) (w:World):World :=
 ((w.alloc (.cells #[.bool p,.string xn,.string xd] 189)).alloc (.cells #[.bool q,.string yn,.string yd] 189)).alloc (.cells #[.bool false,.string ⟨#[]⟩,.string ⟨#[]⟩] 189)
theorem y2r (p q:Bool) (d c h g:ByteArray) (w:World):Below w.heap.size w (WR p q d c h g w):=by
 unfold WR;exact((blr.alloc nlr _).alloc (by simp) _).alloc (by simp;omega) _
theorem z5z {p q:Bool} {l g j i:ByteArray} {w d:World} (h:Below (WR p q l g j i w).heap.size (WR p q l g j i w) d) :
  Below (WR p q l g j i w).heap.size (WR p q l g j i w) d /\
  d.cell? ⟨w.heap.size,0,none⟩=some (.bool p)/\d.cell? ⟨w.heap.size,1,none⟩=some (.string l)/\d.cell? ⟨w.heap.size,2,none⟩=some (.string g) /\
  d.cell? ⟨w.heap.size+1,0,none⟩=some (.bool q)/\d.cell? ⟨w.heap.size+1,1,none⟩=some (.string j)/\d.cell? ⟨w.heap.size+1,2,none⟩=some (.string i):=by
 have c:∀ k,k<3->w.heap.size+k<(WR p q l g j i w).heap.size:=by intro k m;unfold WR;simp;omega
 refine⟨h,?_,?_,?_,?_,?_,?_⟩
 ·exact(h.cell (p:=⟨w.heap.size,0,none⟩) (c 0 (by omega))).trans (by simp[WR,go_sem])
 ·exact(h.cell (p:=⟨w.heap.size,1,none⟩) (c 0 (by omega))).trans (by simp[WR,go_sem])
 ·exact(h.cell (p:=⟨w.heap.size,2,none⟩) (c 0 (by omega))).trans (by simp[WR,go_sem])
 ·exact(h.cell (p:=⟨w.heap.size+1,0,none⟩) (c 1 (by omega))).trans (by simp[WR,go_sem])
 ·exact(h.cell (p:=⟨w.heap.size+1,1,none⟩) (c 1 (by omega))).trans (by simp[WR,go_sem])
 exact(h.cell (p:=⟨w.heap.size+1,2,none⟩) (c 1 (by omega))).trans (by simp[WR,go_sem])
theorem y5m {p q:Bool} {j d i g:ByteArray} {w c:World} (h:Below (WR p q j d i g w).heap.size (WR p q j d i g w) c) :
  c.cell? ⟨w.heap.size+1+1,0,none⟩=some (.bool false)/\c.cell? ⟨w.heap.size+1+1,1,none⟩=some (.string ⟨#[]⟩)/\c.cell? ⟨w.heap.size+1+1,2,none⟩=some (.string ⟨#[]⟩) /\
  c.frozen? ⟨w.heap.size+1+1,0,none⟩=false/\c.frozen? ⟨w.heap.size+1+1,1,none⟩=false/\c.frozen? ⟨w.heap.size+1+1,2,none⟩=false:=by
 have e:w.heap.size+1+1=((w.alloc (.cells #[.bool p,.string j,.string d] 189)).alloc (.cells #[.bool q,.string i,.string g] 189)).heap.size:=by simp
 rw[e];obtain⟨s,l,m,u,k,o,_⟩:=res3 h;exact⟨s,l,m,u,k,o⟩
theorem u3q {P:Program} {fn:Func} {R:Ending->World->Prop} {c:List PanicEntry} {a:Act} {w:World} {S:World->Prop} {G:Act->World->Prop} {g:Act->World->Prop}
  (_:Shut (∀ a w,S w->(S w->G a w)->g a w)) (d:Tmp) (v:Value) (h:bodyPost P fn R (.panic c) a w) (_:Hid False->g (a.put (some d) v) w):bodyPost P fn R (.panic c) a w:=h
theorem y2k {p q:Bool} {g c d i:ByteArray} {w j:World} (h:Below (WR p q g c d i w).heap.size (WR p q g c d i w) j):Below (w.heap.size+1+1) (WR p q g c d i w) j:=by
 refine h.mono ?_;unfold WR;simp
theorem z2k {p q:Bool} {j d i k:ByteArray} {w c:World} (h:Below (w.heap.size+1+1) (WR p q j d i k w) c) :
  Below (w.heap.size+1+1) (WR p q j d i k w) c /\
  c.cell? ⟨w.heap.size,0,none⟩=some (.bool p)/\c.cell? ⟨w.heap.size,1,none⟩=some (.string j)/\c.cell? ⟨w.heap.size,2,none⟩=some (.string d) /\
  c.cell? ⟨w.heap.size+1,0,none⟩=some (.bool q)/\c.cell? ⟨w.heap.size+1,1,none⟩=some (.string i)/\c.cell? ⟨w.heap.size+1,2,none⟩=some (.string k):=by
 have g:w.heap.size<w.heap.size+1+1:=by omega
 have l:w.heap.size+1<w.heap.size+1+1:=by omega
 refine⟨h,?_,?_,?_,?_,?_,?_⟩
 ·exact(h.cell (p:=⟨w.heap.size,0,none⟩) g).trans (by simp[WR,go_sem])
 ·exact(h.cell (p:=⟨w.heap.size,1,none⟩) g).trans (by simp[WR,go_sem])
 ·exact(h.cell (p:=⟨w.heap.size,2,none⟩) g).trans (by simp[WR,go_sem])
 ·exact(h.cell (p:=⟨w.heap.size+1,0,none⟩) l).trans (by simp[WR,go_sem])
 ·exact(h.cell (p:=⟨w.heap.size+1,1,none⟩) l).trans (by simp[WR,go_sem])
 exact(h.cell (p:=⟨w.heap.size+1,2,none⟩) l).trans (by simp[WR,go_sem])
end
section
open Go.RowKit
theorem x7i (w:World):(Instr.typeAssert .nilIface 20 198 true).run prog w=.ok (.tuple #[.agg #[],.bool false]) w:=by kernel_rfl
theorem x2c (w:World):(Instr.typeAssert (.iface 198 (.agg #[])) 20 198 true).run prog w=.ok (.tuple #[.agg #[],.bool true]) w:=by kernel_rfl
theorem x6h (p q:Addr) (w:World) :
  CallsD prog 217 #[.pointer (some p),.pointer (some q)] .returning w fun e u' w'=>e=.returned (.tuple #[])/\u'=.returning/\Below w.heap.size w w':=by
 have d:Below w.heap.size w (w.alloc (.cells #[] 198)):=blr.alloc nlr _;refine callsD_of_wpS func217 rfl fun i h g=>?_;simp only[ntmps217,List.size_toArray,List.length_cons,List.length_nil,Nat.reduceAdd,Nat.reduceSub,Array.replicate_succ,
   Array.replicate_zero,List.push_toArray,List.append_toArray,List.nil_append,List.cons_append]
 apply wpS_seq
 apply wpS_region
 simp[wpOpsS,go_sem,recoverD,g,Exit.thenS,x7i];refine wpS_of_wp ?_;go_wp2;refine⟨rfl,.returning,?_,.tuple #[],?_,rfl,rfl,d⟩
 ·rw[<- g]
 exact results_none rfl _ _ _
theorem x6p (b c:Nat) (w:World) (s:ByteArray) (n:Int) (i:w.cell? ⟨b,0,none⟩=some (.string s)) (m:w.cell? ⟨c,0,none⟩=some (.int .i64 n)) (E:w.frozen? ⟨b,0,none⟩=false) (G:w.frozen? ⟨c,0,none⟩=false) (hb:b<w.heap.size) (u:c<w.heap.size) (d:¬ b=c) :
  CallsD prog 217 #[.pointer (some ⟨b,0,none⟩),.pointer (some ⟨c,0,none⟩)] (.panicking ({ v:=.iface 198 (.agg #[]),recovered:=false }::[])) w fun e u' w' =>
   e=.returned (.tuple #[])/\u'=.panicking ({ v:=.iface 198 (.agg #[]),recovered:=true }::[])/\w'.cell? ⟨b,0,none⟩=some (.string ⟨#[]⟩)/\w'.cell? ⟨c,0,none⟩=some (.int .i64 2) /\
    ∀ B a,Below B a w->B<=b->B<=c->Below B a w':=by
 refine callsD_of_wpS func217 rfl fun D F p=>?_;simp only[ntmps217,List.size_toArray,List.length_cons,List.length_nil,Nat.reduceAdd,Nat.reduceSub,Array.replicate_succ,
   Array.replicate_zero,List.push_toArray,List.append_toArray,List.nil_append,List.cons_append]
 apply wpS_seq
 apply wpS_region
 simp[wpOpsS,go_sem,recoverD,p,Exit.thenS,x2c];refine wpS_of_wp ?_;go_wp2;have l:(w.setCell ⟨b,0,none⟩ (.string ⟨#[]⟩)).cell? ⟨b,0,none⟩=some (.string ⟨#[]⟩):=World.cell?_setCell_same _ _ _ i;have k:(w.setCell ⟨b,0,none⟩ (.string ⟨#[]⟩)).cell? ⟨c,0,none⟩=some (.int .i64 n):=(World.cell?_setCell_other _ ⟨b,0,none⟩ ⟨c,0,none⟩ _ (fun e=>d (by injection e))).trans m;have A:=World.cell?_setCell_same _ _ (.int .i64 2) k;have j:=(World.cell?_setCell_other _ ⟨c,0,none⟩ ⟨b,0,none⟩ (.int .i64 2) (fun e=>d (by injection e with e _;exact e.symm))).trans l;have g:∀ (x y:Value),((w.setCell ⟨b,0,none⟩ x).setCell ⟨c,0,none⟩ y).heap.size=w.heap.size:=fun x y=>by simp
 refine⟨rfl,.panicking [{ v:=.iface 198 (.agg #[]),recovered:=true }],rfl,.tuple #[],results_none rfl _ _ _,rfl,rfl,?_,?_,?_⟩
 ·rw[World.cell?_alloc_past (hn:=by rw[g];exact hb)];exact j
 ·rw[World.cell?_alloc_past (hn:=by rw[g];exact u)];exact A
 intro B a h o C;have z:B<=w.heap.size:=by omega
 exact((h.setCell o _).setCell C _).alloc (by rw[g];exact z) _
theorem x0p {w c:World} {a b:Value} {t u:TypeId} (h:Below ((w.alloc (.cells #[a] t)).alloc (.cells #[b] u)).heap.size ((w.alloc (.cells #[a] t)).alloc (.cells #[b] u)) c) :
  c.cell? ⟨w.heap.size,0,none⟩=some a/\c.cell? ⟨w.heap.size+1,0,none⟩=some b/\c.frozen? ⟨w.heap.size,0,none⟩=false/\c.frozen? ⟨w.heap.size+1,0,none⟩=false/\w.heap.size+1<c.heap.size:=by
 have i:=h.size;have e:((w.alloc (.cells #[a] t)).alloc (.cells #[b] u)).heap.size=w.heap.size+1+1:=by simp
 rw[e] at i;have g:w.heap.size<((w.alloc (.cells #[a] t)).alloc (.cells #[b] u)).heap.size:=by rw[e];omega
 have d:w.heap.size+1<((w.alloc (.cells #[a] t)).alloc (.cells #[b] u)).heap.size:=by rw[e];omega
 refine⟨?_,?_,?_,?_,by omega⟩
 ·exact(h.cell (p:=⟨w.heap.size,0,none⟩) g).trans (by simp[go_sem])
 ·exact(h.cell (p:=⟨w.heap.size+1,0,none⟩) d).trans (by simp[go_sem])
 ·exact(h.frozen (p:=⟨w.heap.size,0,none⟩) g).trans (by simp[go_sem])
 exact(h.frozen (p:=⟨w.heap.size+1,0,none⟩) d).trans (by simp[go_sem])
theorem u3f:∀ args w,(callFunc 200 args).run prog w=.ok (.enter 200 args) w:=fun args w=>by kernel_rfl
theorem y5b {fn:Func} {p u:Tmp} (h:fn.results=#[.cell p 9,.cell u 29]) (d:Array Value) (W:World) (b c:Nat) (s:ByteArray) (n:Int)
  (k:d.getD p undef=.pointer (some ⟨b,0,none⟩)) (j:d.getD u undef=.pointer (some ⟨c,0,none⟩)) (c0:W.cell? ⟨b,0,none⟩=some (.string s)) (c1:W.cell? ⟨c,0,none⟩=some (.int .i64 n)) :
  (results fn d).run prog W=.ok (.tuple #[.string s,.int .i64 n]) W:=by
 have g:d[p]?.getD undef=.pointer (some ⟨b,0,none⟩):=by rw[<- k];simp
 have i:d[u]?.getD undef=.pointer (some ⟨c,0,none⟩):=by rw[<- j];simp
 simp only[results,h];simp[g,i,go_sem,c0,c1]
theorem x3b (i:Array Value) (q:Rat) (w:World) (l:∀ wx,Below w.heap.size w wx->Calls prog 200 i wx (QEnd q wx)) :
  Calls prog 199 #[.func (.func 200) #[] i] w (PairEnd (limR q) w):=by
 have K:∀ (fn:Fn) (first cap:Array Value) (w:World),(Instr.makeFunc fn first cap).run prog w=.ok (.func fn first cap) w:=fun _ _ _ _=>rfl
 have N:=u3f;have k:Below w.heap.size w ((w.alloc (.cells #[.string ⟨#[]⟩] 9)).alloc (.cells #[.int .i64 0] 29)):=(blr.alloc nlr _).alloc (by simp) _;have g:=qh k;clear k;have m:=qh l;clear l;by_cases hf:fitQ q
 ·rw[z8c hf];have z:=qh hf;clear hf
  go_enter_defers func199,ntmps199
  go_wp2_with fail
  have d:=m.out _ g.out;unfold QEnd at d;rw[if_pos z.out] at d;refine d.mono ?_;clear d;rintro e H ⟨rfl,c⟩;have h:=qh c;clear c
  go_wp2_with fail
  refine(x1v q H z.out).mono ?_;rintro e s ⟨rfl,u⟩;have o:=qh (z0a h.out u);clear u;obtain⟨B,A,I,G,j⟩:=x0p o.out
  go_wp2_with fail
  have E:=World.cell?_setCell_same _ _ (.string (txt q)) B;have C:=(World.cell?_setCell_other s ⟨w.heap.size,0,none⟩ ⟨w.heap.size+1,0,none⟩ (.string (txt q)) (fun e=>by injection e;omega)).trans A;have P:=World.cell?_setCell_same _ _ (.int .i64 0) C;have J:=(World.cell?_setCell_other (s.setCell ⟨w.heap.size,0,none⟩ (.string (txt q))) ⟨w.heap.size+1,0,none⟩ ⟨w.heap.size,0,none⟩ (.int .i64 0) (fun e=>by injection e;omega)).trans E;have F:((s.setCell ⟨w.heap.size,0,none⟩ (.string (txt q))).setCell ⟨w.heap.size+1,0,none⟩ (.int .i64 0)).heap.size=s.heap.size:=by simp
  refine leaves_cons (f:=217) (args:=#[.pointer (some ⟨w.heap.size,0,none⟩),.pointer (some ⟨w.heap.size+1,0,none⟩)]) (by simp) (by simp[go_sem]) ?_;refine(x6h _ _ _).mono ?_;rintro e O D ⟨rfl,rfl,hb⟩;refine⟨_,y5b rfl _ _ w.heap.size (w.heap.size+1) (txt q) 0 rfl rfl ?_ ?_,rfl,?_⟩
  ·exact(hb.cell (p:=⟨w.heap.size,0,none⟩) (by rw[F];show w.heap.size<_;omega)).trans J
  ·exact(hb.cell (p:=⟨w.heap.size+1,0,none⟩) (by rw[F];exact j)).trans P
  have L:Below w.heap.size w s:=z0a g.out o.out;exact((L.setCell nlr _).setCell (Nat.le_succ _) _).trans (hb.mono (by rw[F];omega))
 rw[v1p hf];have z:=qh hf;clear hf
 go_enter_defers func199,ntmps199
 go_wp2_with fail
 have d:=m.out _ g.out;unfold QEnd at d;rw[if_neg z.out] at d;unfold PT at d;refine d.mono ?_;clear d;rintro e H ⟨rfl,c⟩;have h:=qh c;clear c;obtain⟨B,A,I,G,j⟩:=x0p h.out;refine leaves_cons (f:=217) (args:=#[.pointer (some ⟨w.heap.size,0,none⟩),.pointer (some ⟨w.heap.size+1,0,none⟩)]) (by simp) (by simp[go_sem]) ?_;refine(x6p _ _ _ _ _ B A I G (by omega) j (by omega)).mono ?_;rintro e O D ⟨rfl,rfl,E,C,hb⟩;exact⟨_,y5b rfl _ _ w.heap.size (w.heap.size+1) ⟨#[]⟩ 2 rfl rfl E C,rfl,hb _ _ (z0a g.out h.out) nlr (Nat.le_succ _)⟩
end
section
open Go.RowKit
theorem y9v (l:List UInt8):Lib.indexByte l 47=if hasS l then ((upTo l).length:Int) else -1:=by
 induction l with
 | nil=>rfl
 | cons a l ih =>
  by_cases c:a=47
  ·subst c;simp[Lib.indexByte,hasS,upTo]
  have g:hasS (a::l)=hasS l:=by simp[hasS,c]
  have d:upTo (a::l)=a::upTo l:=by simp[upTo,c]
  have h:(a==47)=false:=by rw[beq_eq_false_iff_ne];exact c
  rw[g,d,Lib.indexByte,h,ih];cases hasS l
  ·rfl
  simp only[if_true,List.length_cons,Bool.false_eq_true,if_false];rw[if_neg (by rw[beq_iff_eq];omega)];omega
theorem y4e (s:ByteArray) (a b:Nat):bts (s.extract a b)=((bts s).take b).drop a:=by
 show (s.extract a b).data.toList=_;rw[ByteArray.data_extract,Array.toList_extract,List.extract_eq_take_drop];exact List.drop_take.symm
theorem u1g {s c t d:ByteArray} {b:Bool} (h:s=c) (g:t=d):Ending.returned (.tuple #[.string s,.string t,.bool b])=.returned (.tuple #[.string c,.string d,.bool b]):=by rw[h,g]
theorem v8x (s:ByteArray) (w:World) :
  Calls prog 240 #[.string s,.string ⟨#[47]⟩] w fun e w'=>e=.returned (.int .i64 (Lib.indexByte (bts s) 47))/\w=w':=by
 by_cases h:s=⟨#[47]⟩
 ·subst h
  go_enter func240,ntmps240
  go_wp2;go_ret;exact⟨rfl,rfl⟩
 have g:(s.toList==[47])=false:=z4m h;have i:([47]==s.toList)=false:=by rw[Bool.beq_comm];exact g
 have c:=Tryz.stringslite_IndexByte s 47 w;have d:=qh c;clear c h
 go_enter func240,ntmps240
 go_wp2_with fail
 refine d.out.mono ?_;rintro e w' ⟨rfl,rfl⟩;go_wp2;go_ret;exact⟨rfl,rfl⟩
theorem v7u (s:ByteArray) (w:World) (p:s.size<=9223372036854775807) :
  Calls prog 226 #[.string s,.string ⟨#[47]⟩] w fun e w'=>e=.returned (.tuple #[.string (str (upTo (bts s))),.string (str (if hasS (bts s) then z6e (bts s) else [])),.bool (hasS (bts s))])/\Below w.heap.size w w':=by
 have d:=v8x s w;rw[y9v] at d;cases h:hasS (bts s)
 ·rw[h] at d;simp only[Bool.false_eq_true,if_false] at d;rw[y8f _ h,y3t];have m:=qh d;clear d h
  go_enter func226,ntmps226
  go_wp2_with fail
  refine m.out.mono ?_;rintro e w' ⟨rfl,rfl⟩;go_wp2
  go_ret3
  exact⟨rfl,blr⟩
 rw[h] at d;simp only[if_true] at d;have g:=y6a _ h;have c:=congrArg List.length g;rw[z1p,List.length_append,List.length_cons] at c;generalize hi:(upTo (bts s)).length=i at d c;have c1:(0:Int)<=(i:Int):=by omega
 have c2:(i:Int)<=(s.size:Int):=by omega
 have c3:(0:Int)<=(i:Int)+1:=by omega
 have c4:(i:Int)+1<=(s.size:Int):=by omega
 have c5:IntKind.i64.wrap ((i:Int)+1)=(i:Int)+1:=by rw[IntKind.wrap_i64];omega
 have j:s.extract 0 i=str (upTo (bts s)):=by
  apply y7b;rw[y4e,z2u];conv=>lhs;rw[g]
  rw[<- hi,List.take_left,List.drop_zero]
 have k:s.extract (i+1) s.size=str (z6e (bts s)):=by
  apply y7b;rw[y4e,z2u,List.take_of_length_le (by rw[z1p];omega)];conv=>lhs;rw[g]
  rw[<- hi,<- List.drop_drop,List.drop_left];rfl
 have m:=qh d;clear d h;have o:=qh j;clear j;have l:=qh k;clear k g hi c p
 go_enter func226,ntmps226
 go_wp2_with fail
 refine m.out.mono ?_;rintro e w' ⟨rfl,rfl⟩
 go_wp2_with fail
 go_quiet (fail)
 go_wp2
 go_ret3
 exact⟨u1g o.out l.out,below_drewN blr _⟩
theorem u1y (s:ByteArray) (w:World) (d:s.size<=9223372036854775807) :
  Calls prog 211 #[.string s,.string ⟨#[47]⟩] w fun e w'=>e=.returned (.tuple #[.string (str (upTo (bts s))),.string (str (if hasS (bts s) then z6e (bts s) else [])),.bool (hasS (bts s))])/\Below w.heap.size w w':=by
 have c:=v7u s w d;generalize str (upTo (bts s))=x at c ⊢;generalize str (if hasS (bts s) then z6e (bts s) else [])=y at c ⊢
 generalize hasS (bts s)=z at c ⊢;have g:=qh c;clear c d
 go_enter func211,ntmps211
 go_wp2_with fail
 refine g.out.mono ?_;rintro e w' ⟨rfl,hb⟩;have h:=qh hb;clear hb;go_wp2
 go_ret3
 exact⟨rfl,h.out⟩
theorem v4n (s:ByteArray) (w:World) :
  Calls prog 210 #[.string s,.string ⟨#[45]⟩] w fun e w'=>e=.returned (.tuple #[.string (str (z0z (bts s))),.bool (z6i (bts s))])/\w=w':=by
 refine(Tryz.strings_CutPrefix s ⟨#[45]⟩ w).mono ?_;rintro e w' ⟨rfl,rfl⟩;refine⟨?_,rfl⟩;have d:Lib.hasPrefix s.data.toList [45]=z6i (bts s):=by
  show Lib.hasPrefix (bts s) [45]=_;cases bts s with
  | nil=>rfl
  | cons a l =>
   show ((45:UInt8)==a&&true)=(a==45);rw[Bool.and_true];exact BEq.comm
 have g:Lib.trimPrefix s.data.toList [45]=z0z (bts s):=by
  show Lib.trimPrefix (bts s) [45]=_;unfold Lib.trimPrefix z0z;have c:Lib.hasPrefix (bts s) [45]=z6i (bts s):=d;rw[c];split
  ·cases bts s<;>rfl
  rfl
 show Ending.returned (.tuple #[.string ⟨(Lib.trimPrefix s.data.toList [45]).toArray⟩,.bool (Lib.hasPrefix s.data.toList [45])])=_;rw[d,g];rfl
end
end Go.Proofs.YteappjogmnogcaaGreatDoor
