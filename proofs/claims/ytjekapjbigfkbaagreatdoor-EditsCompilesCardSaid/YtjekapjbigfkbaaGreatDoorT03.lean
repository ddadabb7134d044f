/- Parts of a proof: ME DivOps NumL RatA RatN RatR RatH RatW CutW. -/
import Derived.Test.YtjekapjbigfkbaaGreatDoorT02
import Derived.RegionTactic
import Derived.BigRegion
import Derived.Deep.LoopGhost
import Derived.Deep.Cut
import Derived.Deep.DeepCutAuto
import Derived.Test.YtjekapjbigfkbaaGreatDoorT00
import Derived.WalkLawsBesides
import Derived.Laws.Concat
import Derived.Handy
import Derived.Deep.RegionHeld2
import Derived.Deep.DrawnRows
import Derived.Recover
import Derived.Defers
import Derived.Lib.Bytealg
import Derived.Deep.QuietTactic
import Derived.BigQuiet
namespace Go.Proofs.YtjekapjbigfkbaaGreatDoor
set_option maxRecDepth 100000
set_option linter.unusedSimpArgs false
set_option linter.unusedVariables false
set_option linter.unusedSectionVars false
set_option maxHeartbeats 16000000
open Go Tryz
section
open Go.RowKit
theorem y2c (xs:List Nat) (a:Nat) (h:a<xs.length):bval (xs.drop a)=nth xs a+BB*bval (xs.drop (a+1)):=by
 rw[List.drop_eq_getElem_cons h];simp only[bval];rw[z5u xs a h]
theorem y8b {xs:List Nat} (h:Small xs) (k:Nat):Small (xs.drop k):=fun i=>by rw[y1t];exact h _
theorem y6b {L L0:List Nat} {k a:Nat} (h:L.take k=L0.take k) (c:a<k):nth L a=nth L0 a:=by
 rw[<- z9i L k a c,h,z9i _ _ _ c]
structure DvInv (L0 vs L qs:List Nat) (n a:Nat):Prop where
 len:L.length=L0.length
 ql:qs.length+n=L0.length
 ale:a<=qs.length
 small:Small L
 sq:Small qs
 low:L.take a=L0.take a
 rem:bval (L.drop a)<bval vs
 val:bval (L0.drop a)=bval (qs.drop a)*bval vs+bval (L.drop a)
structure Div0 (L0 vs:List Nat) (n:Nat):Prop where
 s0:Small L0
 sv:Small vs
 n1:1<=n
 lv:vs.length=n
 v1:1<=nth vs (n-1)
theorem DvInv.start {L0 c:List Nat} {n:Nat} (h:Div0 L0 c n) (hn:n<=L0.length) (d:bval (L0.drop (L0.length-n))<bval c) :
  DvInv L0 c L0 (List.replicate (L0.length-n) 0) n (L0.length-n):=by
 refine⟨rfl,by simp;omega,by simp,h.s0,z8w _,rfl,d,?_⟩;have e:(List.replicate (L0.length-n) 0).drop (L0.length-n)=[]:=List.drop_of_length_le (by simp);rw[e];simp[bval]
theorem DvInv.cut (L:List Nat) (n a:Nat):L=L.take a++(L.drop a).take (n+1)++L.drop (a+(n+1)):=by
 rw[List.append_assoc,show L.drop (a+(n+1))=(L.drop a).drop (n+1) by rw[List.drop_drop],List.take_append_drop,List.take_append_drop]
theorem DvInv.seg_len {L0 d L c:List Nat} {n a:Nat} (h:DvInv L0 d L c n (a+1)):((L.drop a).take (n+1)).length=n+1/\(L.take a).length=a:=by
 have:=h.len;have:=h.ql;have:=h.ale;rw[List.length_take,List.length_drop,List.length_take];omega
theorem DvInv.top {L0 c L d:List Nat} {n a:Nat} (h:DvInv L0 c L d n (a+1)):bval (L.drop a)<bval c*BB:=by
 have:=h.len;have:=h.ql;have:=h.ale;rw[y2c L a (by omega)];have i:=h.small a;have g:BB*(bval (L.drop (a+1))+1)<=BB*bval c:=Nat.mul_le_mul_left _ h.rem;rw[Nat.mul_add,Nat.mul_comm BB (bval c)] at g;omega
theorem DvInv.high {L0 d L k:List Nat} {n a:Nat} (j:Div0 L0 d n) (h:DvInv L0 d L k n (a+1)):bval (L.drop a)=bval ((L.drop a).take (n+1))/\bval (L.drop (a+(n+1)))=0:=by
 have g:=z5f ((L.drop a).take (n+1)) ((L.drop a).drop (n+1));rw[List.take_append_drop,List.drop_drop,h.seg_len.1] at g;have l:=h.top;have i:=z4e j.sv;rw[j.lv] at i;have o:bval d*BB<BB ^ (n+1):=by rw[Nat.pow_succ];exact Nat.mul_lt_mul_of_pos_right i z2e
 rcases Nat.eq_zero_or_pos (bval (L.drop (a+(n+1)))) with c|c
 ·rw[c,Nat.mul_zero,Nat.add_zero] at g;exact⟨g,c⟩
 have:BB ^ (n+1)*1<=BB ^ (n+1)*bval (L.drop (a+(n+1))):=Nat.mul_le_mul_left _ c;omega
theorem DvInv.divIn {L0 d L g:List Nat} {n a:Nat} (c:Div0 L0 d n) (h:DvInv L0 d L g n (a+1)):DivIn ((L.drop a).take (n+1)) d n :=
 ⟨z5b (y8b h.small a) _,c.sv,c.n1,h.seg_len.1,c.lv,c.v1,by rw[<- (h.high c).1];exact h.top⟩
theorem DvInv.step {L0 d L k c:List Nat} {n a:Nat} (s:Div0 L0 d n) (h:DvInv L0 d L k n (a+1)) (D:c.length=n+1) (C:Small c)
  (u:bval c=bval ((L.drop a).take (n+1)) % bval d) :
  DvInv L0 d (L.take a++c++L.drop (a+(n+1))) (k.set a (bval ((L.drop a).take (n+1)) / bval d)) n a:=by
 have o:=h.divIn s;have z:=h.high s;have j:=h.seg_len;have E:=h.len;have e2:=h.ql;have F:=h.ale;have g:(L.take a++c++L.drop (a+(n+1))).drop a=c++L.drop (a+(n+1)):=by
  rw[List.append_assoc];have:=List.drop_left (l₁:=L.take a) (l₂:=c++L.drop (a+(n+1)))
  rwa [j.2] at this
 have v:bval ((L.take a++c++L.drop (a+(n+1))).drop a)=bval c:=by rw[g,z5f,z.2];simp
 have B:(k.set a (bval ((L.drop a).take (n+1)) / bval d)).drop a=(bval ((L.drop a).take (n+1)) / bval d)::k.drop (a+1):=by
  rw[List.drop_eq_getElem_cons (by simp;omega),List.drop_set,if_pos (by omega)];simp
 refine⟨by simp[D];omega,by simp;omega,by simp;omega,?_,z8r h.sq _ _ o.qlt,?_,?_,?_⟩
 ·intro i;by_cases A:i<a
  ·rw[List.append_assoc,z3e _ _ _ (by omega)];exact z5b h.small a i
  rw[List.append_assoc,z2x _ _ _ (by omega)];by_cases r:i-(L.take a).length<c.length
  ·rw[z3e _ _ _ r];exact C _
  rw[z2x _ _ _ (by omega)];exact y8b h.small _ _
 ·have e:(L.take a++c++L.drop (a+(n+1))).take a=L.take a:=by
   rw[List.append_assoc];have:=List.take_left (l₁:=L.take a) (l₂:=c++L.drop (a+(n+1)))
   rwa [j.2] at this
  rw[e];have:=congrArg (List.take a) h.low;rw[List.take_take,List.take_take,Nat.min_eq_left (by omega)] at this;exact this
 ·rw[v,u];exact Nat.mod_lt _ o.vpos'
 rw[v,B,y2c L0 a (by omega),h.val];simp only[bval];have A:=y2c L a (by omega);rw[z.1] at A;have r:nth L a=nth L0 a:=y6b h.low (by omega);have p:=Nat.div_add_mod (bval ((L.drop a).take (n+1))) (bval d);rw[<- u] at p;generalize bval ((L.drop a).take (n+1)) / bval d=qd at *;generalize bval ((L.drop a).take (n+1))=U at *;rw[Nat.mul_comm (bval d) qd] at p;rw[Nat.add_mul,Nat.mul_add,<- Nat.mul_assoc];omega
theorem DvInv.done {L0 d L i:List Nat} {n:Nat} (h:DvInv L0 d L i n 0):bval i=bval L0 / bval d/\bval L=bval L0 % bval d:=by
 have g:=h.val;have c:=h.rem;simp only[List.drop_zero] at g c;rw[g,Nat.add_comm,Nat.mul_comm];exact⟨by rw[Nat.add_mul_div_left _ _ (by omega),Nat.div_eq_of_lt c,Nat.zero_add],by rw[Nat.add_mul_mod_self_left,Nat.mod_eq_of_lt c]⟩
structure DnInv (r0 L:List Nat) (k a lf:Nat):Prop where
 len:L.length=r0.length
 ale:a<=r0.length
 small:Small L
 left:lf<k
 low:L.take a=r0.take a
 val:bval (r0.drop a)=k*bval (L.drop a)+lf
theorem DnInv.start {c:List Nat} {k:Nat} (d:1<=k) (g:Small c):DnInv c c k c.length 0 :=
 ⟨rfl,Nat.le_refl _,g,d,rfl,by rw[List.drop_length];simp[bval]⟩
theorem DnInv.bound {c L:List Nat} {k a d:Nat} (h:DnInv c L k (a+1) d) (j:Small c):d*1000000000+nth c a<k*1000000000:=by
 have g:=j a;have i:=h.left;rw[z0u] at g;have:(d+1)*1000000000<=k*1000000000:=Nat.mul_le_mul_right _ i;omega
theorem DnInv.step {c L:List Nat} {k a d:Nat} (h:DnInv c L k (a+1) d) (g:1<=k) (o:Small c) :
  DnInv c (L.set a ((d*1000000000+nth c a) / k)) k a ((d*1000000000+nth c a) % k):=by
 have hb:=h.bound o;have l:=h.len;have e2:=h.ale;have i:(d*1000000000+nth c a) / k<BB:=by
  rw[z0u];exact Nat.div_lt_of_lt_mul hb
 refine⟨by simp;exact l,by omega,z8r h.small _ _ i,Nat.mod_lt _ g,?_,?_⟩
 ·rw[take_set];have:=congrArg (List.take a) h.low;rw[List.take_take,List.take_take,Nat.min_eq_left (by omega)] at this;exact this
 have j:(L.set a ((d*1000000000+nth c a) / k)).drop a=((d*1000000000+nth c a) / k)::L.drop (a+1):=by
  rw[List.drop_eq_getElem_cons (by simp;omega),List.drop_set,if_pos (by omega)];simp
 rw[j,y2c c a (by omega),h.val];simp only[bval];have p:=Nat.div_add_mod (d*1000000000+nth c a) k;generalize (d*1000000000+nth c a) / k=qd at *;rw[Nat.mul_add,Nat.mul_add,Nat.mul_left_comm BB k];have:BB*d=d*1000000000:=by rw[z0u,Nat.mul_comm]
 omega
theorem DnInv.done {d L:List Nat} {k g:Nat} (h:DnInv d L k 0 g):bval L=bval d / k:=by
 have c:=h.val;simp only[List.drop_zero] at c;rw[c,Nat.add_comm,Nat.add_mul_div_left _ _ (Nat.lt_of_le_of_lt (Nat.zero_le _) h.left),Nat.div_eq_of_lt h.left,Nat.zero_add]
theorem x2p {d:Nat} (j:d≠0) {k:Nat} (i:k=1000000000 / (nth (toB d) ((toB d).length-1)+1)) :
  1<=k/\k<BB/\(toB (d*k)).length=(toB d).length:=by
 have l:=y3v j;have p:=z1b d ((toB d).length-1);have o:=y9v j;have s:=y1i (xs:=toB d) rfl l;rw[z1h] at s;have z:=y5f (z1b d) ((toB d).length-1) (by omega);generalize hx:nth (toB d) ((toB d).length-1)=x at *;have c:1<=k:=by rw[i,Nat.le_div_iff_mul_le (by omega)];rw[z0u] at p;omega
 have g:k*(x+1)<=BB:=by rw[i,z0u];exact Nat.div_mul_le_self _ _
 have h:k<BB:=by
  have:k*2<=k*(x+1):=Nat.mul_le_mul_left _ (by omega);omega
 refine⟨c,h,?_⟩
 apply Nat.le_antisymm
 ·apply z7d
  have r:d<BB ^ ((toB d).length-1)*(x+1):=by rw[Nat.mul_add];omega
  have v:d*k<BB ^ ((toB d).length-1)*(x+1)*k:=Nat.mul_lt_mul_of_pos_right r c;have u:BB ^ ((toB d).length-1)*((x+1)*k)<=BB ^ ((toB d).length-1)*BB:=Nat.mul_le_mul_left _ (by rw[Nat.mul_comm];exact g);rw[<- Nat.mul_assoc,<- x4y l] at u;omega
 exact z2t (by
             have:d*1<=d*k:=Nat.mul_le_mul_left _ c;omega)
theorem u1y {m k:Nat} (g:k<BB) (c:1<=k):(toB m).length<=(toB (m*k)).length/\(toB (m*k)).length<=(toB m).length+1:=by
 refine⟨z2t (by
              have:m*1<=m*k:=Nat.mul_le_mul_left _ c;omega),z7d ?_⟩
 have d:=z4e (z1b m);rw[z1h] at d;rw[Nat.pow_succ];exact Nat.mul_lt_mul_of_lt_of_le d (by omega) z2e
theorem y0i (xs:List Nat):bval (xs++[0])=bval xs:=by rw[z7e];simp
theorem x1s (xs:List Nat) (j:Nat) (h:Small xs):bval (xs.drop j)=bval xs / BB ^ j:=by
 by_cases c:j<=xs.length
 ·have:=z5f (xs.take j) (xs.drop j);rw[List.take_append_drop,List.length_take,Nat.min_eq_left c] at this;rw[this,Nat.add_mul_div_left _ _ (Nat.pow_pos z2e),Nat.div_eq_of_lt (y5f h j c),Nat.zero_add]
 rw[List.drop_of_length_le (by omega),Nat.div_eq_of_lt]
 ·rfl
 exact Nat.lt_of_lt_of_le (z4e h) (Nat.pow_le_pow_right z2e (by omega))
theorem v4i {m d k:Nat} (g:d≠0) (c:1<=k) (i:(toB d).length<=(toB m).length) {L0:List Nat} (r:Small L0) (l:bval L0=m*k) (j:L0.length=(toB m).length+1) :
  bval (L0.drop (L0.length-(toB d).length))<d*k:=by
 rw[x1s _ _ r,l,j,Nat.div_lt_iff_lt_mul (Nat.pow_pos z2e)];have o:=z4e (z1b m);rw[z1h] at o;have p:=x8m g;have s:=y3v g;have e:BB ^ (toB m).length=BB ^ ((toB d).length-1)*BB ^ ((toB m).length+1-(toB d).length):=by rw[<- Nat.pow_add];congr 1;omega
 have u:BB ^ ((toB d).length-1)*BB ^ ((toB m).length+1-(toB d).length)<=d*BB ^ ((toB m).length+1-(toB d).length):=Nat.mul_le_mul_right _ p;have h:m*k<d*BB ^ ((toB m).length+1-(toB d).length)*k:=Nat.mul_lt_mul_of_pos_right (by omega) c;rw[Nat.mul_right_comm] at h;exact h
end
section
open Go.RowKit
def DivEnd (m d:Nat) (w:World) (e:Ending) (w':World):Prop :=
 ∃ vq vr,e=.returned (.tuple #[vq,vr])/\Sl w' .u64 vq (toB (m / d))/\Sl w' .u64 vr (toB (m % d))/\Below w.heap.size w w'
theorem Own.keptBy {w d:World} {B:Nat} {e:TypeId} {k:IntKind} {g n cap:Nat} {L:List Nat} {row:Option Nat} (h:Own w B e k (.slice (some ⟨g,0,none⟩) n cap) L) (i:w.grownBy d row) (c:some g≠row):Own d B e k (.slice (some ⟨g,0,none⟩) n cap) L :=
 World.ownsRow.kept h i (.inr (by simpa [Value.ownBlock] using c))
theorem Own.some {w:World} {B:Nat} {e:TypeId} {k:IntKind} {v:Value} {L:List Nat} (h:Own w B e k v L) (hn:1<=L.length):∃ g cap,v=.slice (.some ⟨g,0,none⟩) L.length cap/\B<=g/\g<w.heap.size/\L.length<=cap/\cap<=maxLen:=by
 rcases h.2 with ⟨_,p⟩|⟨g,cap,i,d,l,c,o,j,_⟩
 ·omega
 exact⟨g,cap,d,l,(Array.getElem?_eq_some_iff.1 c).1,o,j⟩
theorem x3f (l i:Value) (m d:Nat) (w:World) (k:Sl w .u64 l (toB m)) (o:Sl w .u64 i (toB d)) (g:m<d) :
  Calls prog 153 #[l,i] w (DivEnd m d w):=by
 have c:=z6f l i m d w k o;unfold CmpEnd at c;rw[z4k g] at c;have j:=qh c;clear c;have r:=qh k;clear k o;have h:=qh g;clear g
 go_enter func153,ntmps153
 go_wp2_with fail
 refine j.out.mono ?_;rintro e s ⟨rfl,hb⟩;have p:=qh hb;clear hb
 go_wp2_with fail
 go_ret2;refine⟨_,_,rfl,?_,?_,p.out⟩
 ·rw[Nat.div_eq_of_lt h.out];exact Sl.nil _ _
 rw[Nat.mod_eq_of_lt h.out];exact r.out.below p.out (Nat.le_refl _)
set_option maxRecDepth 100000 in
theorem v3r (vx vy:Value) (m d:Nat) (w:World) (hx:Sl w .u64 vx (toB m)) (hy:Sl w .u64 vy (toB d)) (hd:d≠0) (r3:d<=m) (lx:(toB m).length<=50000) :
  Calls prog 153 #[vx,vy] w (DivEnd m d w):=by
 have d6:=z6f vx vy m d w hx hy;unfold CmpEnd at d6;have u6:∃ q:Int,cmpN m d=q/\0<=q:=by
  rcases Nat.lt_or_ge d m with h|h
  ·exact⟨1,z6k h,by omega⟩
  exact⟨0,z8k (by omega),by omega⟩
 obtain⟨q0,hq,x4⟩:=u6;rw[hq] at d6;clear hq;have f0:=x2p hd rfl;obtain⟨k,hk⟩:∃ k,k=1000000000 / (nth (toB d) ((toB d).length-1)+1):=⟨_,rfl⟩;rw[<- hk] at f0;obtain⟨Z,h5,l7⟩:=f0;have c6:=y3v hd;have g4:(toB d).length<=(toB m).length:=z2t r3;have b2:=u1y (m:=m) h5 Z;have f8:=z1b d ((toB d).length-1);rw[z0u] at f8;obtain⟨ax,cx,rfl⟩:=hx.shape;have HX:=qh hx;clear hx;have HY:=qh hy;obtain⟨ay,cy,r5,oy,rfl,s8,u9,k6,n7,R⟩:=hy.open;obtain rfl:=s8 c6;have o7:=n7 c6;have m3:=R ((toB d).length-1) (by omega);have g2:(((toB d).length:Int)-1)<((toB d).length:Int):=by omega
 have p8:0<=(((toB d).length:Int)-1):=by omega
 unfold maxLen at k6;have q8:=qh d6;clear d6;have HK:=qh hk;clear hk;have e1:=qh l7;clear l7;have d1:=qh h5;clear h5;have HD:=qh hd;clear hd;clear n7 R hy
 go_enter func153,ntmps153
 go_wp2_with fail
 refine q8.out.mono ?_;rintro e w1 ⟨rfl,i4⟩;have k7:=(i4.cell (p:=⟨r5,oy+((toB d).length-1),none⟩) o7).trans m3;have d3:=qh i4;clear i4;have j7:=d3.out.size;clear m3
 go_wp2_with fail
 have ek:(1000000000:Int) / (((nth (toB d) ((toB d).length-1):Nat):Int)+1)=(k:Int):=by rw[HK.out];simp
 rw[ek];clear ek;refine(y7h _ m k w1 d1.out (HX.out.below d3.out (Nat.le_refl _)) (by omega)).mono ?_;rintro e w2 ⟨vu,rfl,N,p0⟩;have HU:=qh N;clear N;have h8:=qh p0;clear p0;have x7:=h8.out.size
 go_wp2_with fail
 refine(y7h _ d k w2 d1.out ((HY.out.below d3.out (Nat.le_refl _)).below h8.out (Nat.le_refl _)) (by omega)).mono ?_;rintro e w3 ⟨vv,rfl,I,o2⟩;have h4:=qh o2;clear o2;have x6:=h4.out.size;have j6:=(HU.out.kept h4.out (Nat.le_refl _)).mono j7;obtain⟨gv,cv,rfl,v2,v7,f7,m7⟩:=I.some (by rw[e1.out];exact c6);have g0:=I.mono (show w.heap.size<=w2.heap.size by omega);rw[e1.out] at f7;rw[e1.out];obtain⟨gu,cu,u7,v3,w0,v8,i9⟩:=HU.out.some (by omega);obtain rfl:=u7;have n0:=qh g0;clear g0 I;have u8:=qh j6;clear j6;have s6:Hid (gu≠gv):=qh (by omega);have t7:=qh (d3.out.trans ((h8.out.mono j7).trans (h4.out.mono (by omega))));obtain⟨i0,i8,l6,i7,o9⟩:=info_parts y1x;obtain⟨U,i2⟩:=exq (toB (d*k));rw[<- i2] at n0;have a2:=qh i2;clear i2;obtain⟨n,hn⟩:∃ n,n=(toB d).length:=⟨_,rfl⟩;rw[<- hn] at c6 g4 f8 g2 p8 f7;have HN:=qh hn;have e5:Hid (U.length=n):=qh (by rw[a2.out,e1.out];exact hn.symm);rw[<- hn];clear hn k7 g2 p8;obtain⟨X,d2⟩:∃ l,l=(toB m).length:=⟨_,rfl⟩;rw[<- d2] at lx g4 b2;rw[<- d2];have l9:=qh d2;clear d2;unfold maxLen at m7 i9
 go_wp2_with fail
 go_loopw [8] (fun v wr=>∃ (g o:Nat) (L:List Nat),v=.slice (some ⟨g,0,none⟩) L.length o/\Own wr w.heap.size 153 .u64 (.slice (some ⟨g,0,none⟩) L.length o) L/\g≠gv/\Small L/\bval L=m*k/\X<=L.length/\L.length<=X+1 /\
   Own wr w.heap.size 153 .u64 (.slice (some ⟨gv,0,none⟩) n cv) U/\Below w.heap.size w wr) (fun v _=>X+1-lenV v)
 case atStart =>
  refine⟨gu,cu,toB (m*k),rfl,u8.out,s6.out,z1b _,z1h _,b2.1,b2.2,?_,t7.out⟩;have:=n0.out
  rwa [e5.out] at this
 obtain⟨g,o,L,rfl,N,k0,j3,p6,y1,y0,I,K⟩:=hrel;have HO:=qh N;clear N;have e0:=qh k0;clear k0;have e4:=qh j3;clear j3;have c9:=qh p6;clear p6;have b1:=qh I;clear I;have b5:=qh K;clear K;by_cases u0:L.length<=X
 ·have b3:=b5.out.size;have l5:wr.ownsRow w.heap.size 153 1 (.slice (some ⟨g,0,none⟩) L.length o) L.length (vals .u64 L):=HO.out;have o5:=qh l5;clear l5
  rcases Nat.lt_or_ge o (L.length+1) with b4|b4
  ·go_wp2_with (at_builtin;refine wpList_append_grows _ rfl (.tmp 40) (.tmp 41) 151 rfl 153 i0 (.int .u64 0) 1 8 underlying151 i8 l6 i7 o9 rfl (by decide) (some ⟨g,0,none⟩) L.length o (vals .u64 L) rfl (by intro h;cases h) (by rw[x5w];omega) (fun b hb=>by cases hb;exact World.ownsRow.cells (World.ownsRow.alloc o5.out _) rfl) ⟨wr.heap.size,0,none⟩ 1 1 [.int .u64 0] rfl rfl (cell_one_new _ _ _) (one_cell _ _) b4 (by unfold maxLen;omega) (by omega) ?_;intro v5 w5 B s)
   have a3:Own w5 (wr.heap.size+1) 153 .u64 v5 (L++[0]):=by
    unfold Own;rw[<- y5b,List.length_append];have e:(wr.alloc (.cells #[.int .u64 0] 153)).heap.size=wr.heap.size+1:=by simp
    rw[e] at B;exact B
   obtain⟨g5,n3,rfl,w9,x1,_,_⟩:=a3.some (by simp);have a1:Below wr.heap.size wr w5:=((Below.refl _ wr).alloc (Nat.le_refl _) _).grown s (by simp) (by simp);have a7:=b1.out.kept a1 (Nat.le_refl _);have x8:=b1.out.base.2;have H5:=qh (a3.mono (show w.heap.size<=wr.heap.size+1 by omega));clear a3 B s;have i3:=qh a7;clear a7;have h0:=qh a1;clear a1;have o8:Hid (g5≠gv):=qh (by omega)
   go_wp2_with fail
   go_roundw
   case rel=>exact⟨g5,n3,L++[0],rfl,H5.out,o8.out,z9m e4.out z2e,by rw[y0i];exact c9.out,by simp;omega,by simp;omega,i3.out,b5.out.trans (h0.out.mono b3)⟩
   simp[y7e];omega
  go_wp2_with (at_builtin;refine wpList_append_fits _ rfl (.tmp 40) (.tmp 41) 151 rfl w.heap.size 153 i0 1 underlying151 i8 i7 g L.length o (vals .u64 L) rfl (World.ownsRow.alloc o5.out _) ⟨wr.heap.size,0,none⟩ 1 1 [.int .u64 0] rfl rfl (cell_one_new _ _ _) (one_cell _ _) b4 ?_;intro w5 B s)
  have a3:Own w5 w.heap.size 153 .u64 (.slice (some ⟨g,0,none⟩) (L.length+1) o) (L++[0]):=by
   unfold Own;rw[<- y5b,List.length_append];exact B
  have h7:=HO.out.base.1;have a1:Below w.heap.size w w5:=(b5.out.alloc b3 _).grown s (by simp;omega) (fun q hq=>by cases hq;exact h7);have a7:Own w5 w.heap.size 153 .u64 (.slice (some ⟨gv,0,none⟩) n cv) U :=
   Own.keptBy (b1.out.kept ((Below.refl wr.heap.size wr).alloc (Nat.le_refl _) (.cells #[.int .u64 0] 153)) (Nat.le_refl _)) s (by have:=e0.out;simp;omega)
  have H5:=qh a3;clear a3 B s;have i3:=qh a7;clear a7;have h0:=qh a1;clear a1
  go_wp2_with fail
  go_roundw
  case rel=>exact⟨g,o,L++[0],by simp,by rw[List.length_append];exact H5.out,e0.out,z9m e4.out z2e,by rw[y0i];exact c9.out,by simp;omega,by simp;omega,i3.out,h0.out⟩
  simp[y7e];omega
 have i6:L.length=X+1:=by omega
 have b3:=b5.out.size;have k9:=HO.out.base;have n9:=b1.out.base;obtain⟨r,d7⟩:=exq (L.length-n);obtain⟨wm,h6,S,k4⟩:=run_make_full wr w.heap.size 151 153 i0 (.int .u64 0) 1 underlying151 i8 l6 i7 .i64 .i64 (L.length-n) (by rw[o9];omega) (by unfold maxLen;omega) b3;rw[show ((L.length-n:Nat):Int)=(L.length:Int)-(n:Int) by omega,<- d7] at h6;rw[<- d7] at S;obtain⟨gq,j4⟩:=exq (wr.heap.size);rw[<- j4] at h6 S;have d9:Below wr.heap.size wr wm:=(Below.refl _ _).grown k4 (Nat.le_refl _) (by simp);have m8:Own wm w.heap.size 153 .u64 (.slice (some ⟨gq,0,none⟩) r r) (List.replicate r 0):=by
  unfold Own;rw[z7c,List.length_replicate];have:=S;rw[Nat.mul_one,show (Value.int .u64 0).cells=#[Value.int .u64 0] from rfl,toList_madeCells_one] at this;exact this
 have g8:Div0 L U n:=⟨e4.out,by rw[a2.out];exact z1b _,c6,e5.out,by
  have h:=y9v (n:=d*k) (by have:=HD.out;exact Nat.mul_ne_zero this (by omega));rw[<- a2.out,e5.out] at h;omega⟩
 have g6:bval (L.drop (L.length-n))<bval U:=by
  have h:=v4i (m:=m) HD.out Z (L0:=L) (by rw[<- HN.out,<- l9.out];exact g4) e4.out c9.out (by rw[<- l9.out];exact i6);rw[<- HN.out] at h;rw[a2.out,z1h];exact h
 have l8:DvInv L U L (List.replicate r 0) n r:=by
  have h:=DvInv.start g8 (by omega) g6
  rwa [<- d7] at h
 have x0:r+n=X+1:=by omega
 have r7:=qh l8;clear l8 g6;have o3:=qh g8;clear g8;have HQ:=qh m8;clear m8 S;have r8:=qh (HO.out.kept d9 (Nat.le_refl _));have q9:=qh (b1.out.kept d9 (Nat.le_refl _));have t8:=qh (b5.out.trans (d9.mono b3));have d4:Hid (gq≠g/\gq≠gv):=qh ⟨by omega,by omega⟩;have y4:=qh i6;have i5:L.length<=o/\o<=maxLen:=by
  obtain⟨g',v6,h1,_,_,h2,h3⟩:=HO.out.some (by omega);simp only[Value.slice.injEq,true_and] at h1;obtain⟨_,rfl⟩:=h1;exact⟨h2,h3⟩
 obtain⟨p9,e3⟩:=i5;unfold maxLen at e3;clear d9 k4 d7 j4 i6 k9 n9
 go_wp2_with fail
 clear h6
 go_loopw [50] (fun i wq=>∃ (j:Nat) (Lc qs:List Nat),j<=r/\i=.int .i64 (j:Int)/\DvInv L U Lc qs n (r-j)/\Own wq w.heap.size 153 .u64 (.slice (some ⟨g,0,none⟩) L.length o) Lc /\
   Own wq w.heap.size 153 .u64 (.slice (some ⟨gv,0,none⟩) n cv) U/\Own wq w.heap.size 153 .u64 (.slice (some ⟨gq,0,none⟩) r r) qs/\Below w.heap.size w wq) (fun i _=>r-(intOf i).toNat)
 case atStart=>exact⟨0,L,_,Nat.zero_le _,rfl,r7.out,r8.out,q9.out,HQ.out,t8.out⟩
 obtain⟨j,Lc,qs,hj,rfl,u,N,I,b6,K⟩:=hrel;have h9:=qh u;clear u;have d5:=qh N;clear N;have n6:=qh I;clear I;have g9:=qh b6;clear b6;have g7:=qh K;clear K;by_cases u0:j<r
 ·obtain⟨a,ha⟩:=exq (r-1-j);have u:=h9.out;rw[show r-j=a+1 by omega] at u;have f2:=u.seg_len;have E:=u.len;have u4:=u.ql;have hcut:=DvInv.cut Lc n a;have b8:=x9p w.heap.size g L.length o (o-a) gv 0 cv n (Lc.take a) ((Lc.drop a).take (n+1)) (Lc.drop (a+(n+1))) U wr (by rw[<- hcut];exact E) (by rw[<- hcut];exact d5.out) (u.divIn o3.out) (by omega) e0.out.symm
   (fun i hi=>by rw[Nat.zero_add];exact n6.out.cell e5.out i hi)
  rw[f2.2] at b8;have u3:=qh b8;clear b8 hcut;have F:=qh u;clear u f2 E u4;subst ha;have o4:r-1-j<r:=by omega
  go_wp2_with fail
  rw[show r-1-j+n+1-(r-1-j)=n+1 by omega];refine u3.out.mono ?_;rintro e w6 ⟨y3,rfl,k3,m4,k2,f5,T⟩;have a9:=F.out.step o3.out (by rw[k3];exact F.out.seg_len.1) m4 k2;have d8:=g9.out.keptBy T (by have:=d4.out.1;simp;omega);have m9:=n6.out.keptBy T (by have:=e0.out;simp;omega);have h7:=d5.out.base.1;have j5:=g9.out.base.1;have p7:Below w.heap.size w w6:=g7.out.grown T (g7.out.size) (fun q hq=>by cases hq;exact h7);have A:qs.length=r:=by have h1:=F.out.ql;omega
  have cq:=d8.cell A (r-1-j) o4;have fq:=d8.free A (r-1-j);have k1:=d8.set A (r-1-j) (bval ((Lc.drop (r-1-j)).take (n+1)) / bval U);have b9:w6.grownBy (w6.setCell ⟨gq,r-1-j,none⟩ (.int .u64 ((bval ((Lc.drop (r-1-j)).take (n+1)) / bval U:Nat):Int))) (some gq):=y2y (y8r _ _) _ _;have m5:=f5.keptBy b9 (by have:=d4.out.1;simp;omega);have o6:=m9.keptBy b9 (by have:=d4.out.2;simp;omega);have n5:=p7.setCell (p:=⟨gq,r-1-j,none⟩) j5 (.int .u64 ((bval ((Lc.drop (r-1-j)).take (n+1)) / bval U:Nat):Int));have r9:=qh a9;have r2:=qh m5;have q7:=qh o6;have s9:=qh k1;have s4:=qh n5;clear a9 m5 o6 k1 n5 b9 d8 m9 p7 f5 T k2 m4 k3 A
  go_wp2_with fail
  go_roundw
  case rel=>exact⟨j+1,_,_,by omega,by go_num,by rw[show r-(j+1)=r-1-j by omega];exact r9.out,r2.out,q7.out,s9.out,s4.out⟩
  simp[intOf];omega
 have b0:j=r:=by omega
 have u:=h9.out;rw[b0,Nat.sub_self] at u;have g3:=u.done;have E:=u.len;have a4:=z8d (some ⟨g,0,none⟩) o Lc wr (by rw[E];exact d5.out.sl);rw[E] at a4;have r6:=qh a4;clear a4;have F:=qh u;clear u;have g1:=qh g3;clear g3;have a8:=qh E;clear E h9 b0
 go_wp2_with fail
 refine r6.out.mono ?_;rintro e w6 ⟨C,l0,rfl,rfl⟩;have j0:=qh l0;clear l0;have s7:C<=L.length:=by have:=j0.out.1;rw[a8.out] at this;exact this
 obtain⟨P,d0⟩:=exq (Lc.take C);have b7:P.length=C:=by rw[d0,List.length_take,a8.out];omega
 have f1:bval P=(m % d)*k:=by
  rw[d0,y3x j0.out.2.1,g1.out.2,c9.out,a2.out,z1h,Nat.mul_mod_mul_right]
 have a6:Small P:=by rw[d0];exact z5b F.out.small _
 have c8:Own wr w.heap.size 153 .u64 (.slice (some ⟨g,0,none⟩) C o) P:=by
  rw[d0];exact d5.out.take (by rw[a8.out];exact s7)
 have J:=DnInv.start Z a6;rw[b7] at J;have r1:=qh J;clear J;have e6:=qh b7;clear b7;have j8:=qh f1;clear f1;have e7:=qh a6;clear a6;have r4:=qh c8;clear c8 d0;have x9:(k:Int)<=999999999:=by have:=d1.out;rw[z0u] at this;omega
 obtain⟨wo,rfl⟩:∃ wo:World,wo=wr:=⟨_,rfl⟩
 go_wp2_with fail
 go_loopw [12,75] (fun lf i wq=>∃ (D G:Nat) (Lr:List Nat),D<=C/\i=.int .i64 (D:Int)/\lf=.int .u64 (G:Int)/\DnInv P Lr k (C-D) G/\Own wq w.heap.size 153 .u64 (.slice (some ⟨g,0,none⟩) C o) Lr /\
   Own wq w.heap.size 153 .u64 (.slice (some ⟨gq,0,none⟩) r r) qs/\Below w.heap.size w wq) (fun _ i _=>C-(intOf i).toNat)
 case atStart=>exact⟨0,0,P,Nat.zero_le _,rfl,rfl,r1.out,r4.out,g9.out,g7.out⟩
 obtain⟨D,G,Lr,x5,rfl,rfl,z,c8,b6,K⟩:=hrel;have e8:=qh z;clear z;have H:=qh c8;clear c8;have a5:=qh b6;clear b6;have f9:=qh K;clear K;by_cases v9:D<C
 ·have z:=e8.out;rw[show C-D=C-1-D+1 by omega] at z;have c:=z.len;rw[e6.out] at c;have w4:(G:Int)<=999999999:=by have h1:=z.left;have h2:=d1.out;rw[z0u] at h2;omega
  have x3:((nth P (C-1-D):Nat):Int)<=999999999:=by have:=e7.out (C-1-D);rw[z0u] at this;omega
  have t9:=H.out.cell c (C-1-D) (by omega);rw[y6b z.low (by omega)] at t9;have g6:=H.out.free c (C-1-D);have v0:(1:Int)<=(k:Int):=by omega
  have e9:=z.step Z e7.out;have k5:=qh e9;clear e9 z;have f4:=qh c;clear c
  go_wp2_with fail
  go_region
  go_wp2_with fail
  go_roundw
  case rel =>
   have s3:((G:Int)*1000000000+((nth P (C-1-D):Nat):Int)) / (k:Int)=(((G*1000000000+nth P (C-1-D)) / k:Nat):Int):=by simp
   have s5:((G:Int)*1000000000+((nth P (C-1-D):Nat):Int)) % (k:Int)=(((G*1000000000+nth P (C-1-D)) % k:Nat):Int):=by simp
   rw[s3,s5];have j9:=(H.out.set f4.out (C-1-D) ((G*1000000000+nth P (C-1-D)) / k)).kept (Below.drew (Below.refl _ _)) (Nat.le_refl _);have u5:=(a5.out.keptBy (y2y (g:=g) (y8r wr _) (C-1-D) (.int .u64 (((G*1000000000+nth P (C-1-D)) / k:Nat):Int))) (by have:=d4.out.1;simp;omega)).kept (Below.drew (Below.refl _ _)) (Nat.le_refl _);exact⟨D+1,_,_,by omega,by go_num,rfl,by rw[show C-(D+1)=C-1-D by omega];exact k5.out,j9,u5,(f9.out.setCell H.out.base.1 _).drew⟩
  simp[intOf];omega
 have b0:D=C:=by omega
 have z:=e8.out;rw[b0,Nat.sub_self] at z;have O:=z.done;rw[j8.out,Nat.mul_div_cancel _ Z] at O;have c:=z.len;rw[e6.out] at c;have A:qs.length=r:=by have h1:=F.out.ql;omega
 have Y:=z8d (some ⟨gq,0,none⟩) r qs wr (by rw[A];exact a5.out.sl);rw[A] at Y;have c7:=z8d (some ⟨g,0,none⟩) o Lr wr (by rw[c];exact H.out.sl);rw[c] at c7;have u1:=qh Y;clear Y;have l4:=qh c7;clear c7;have f4:=qh c;clear c;have v4:=qh A;clear A;have u2:=qh O;clear O;have j1:=qh z;clear z b0
 go_wp2_with fail
 refine u1.out.mono ?_;rintro e w7 ⟨tq,Y,rfl,rfl⟩;have Q:=qh Y;clear Y
 go_wp2_with fail
 refine l4.out.mono ?_;rintro e w8 ⟨tr,a4,rfl,rfl⟩;have W:=qh a4;clear a4
 go_wp2_with fail
 go_ret2;refine⟨_,_,rfl,?_,?_,f9.out⟩
 ·have e:toB (m / d)=qs.take tq:=by
   rw[z4z F.out.sq Q.out.1 Q.out.2.1 Q.out.2.2,g1.out.1,c9.out,a2.out,z1h,Nat.mul_div_mul_right _ _ Z]
  rw[e];exact a5.out.sl.take Q.out.1
 have e:toB (m % d)=Lr.take tr:=by
  rw[z4z j1.out.small W.out.1 W.out.2.1 W.out.2.2,u2.out]
 rw[e];exact H.out.sl.take W.out.1
theorem y8d (g c:Value) (m d:Nat) (w:World) (j:Sl w .u64 g (toB m)) (i:Sl w .u64 c (toB d)) (k:d≠0) (lx:(toB m).length<=50000) :
  Calls prog 153 #[g,c] w (DivEnd m d w):=by
 rcases Nat.lt_or_ge m d with h|h
 ·exact x3f g c m d w j i h
 exact v3r g c m d w j i k h lx
end
section
open Go.RowKit
def TripEnd (r:ByteArray × ByteArray × Nat) (w:World) (e:Ending) (w':World):Prop:=e=.returned (.tuple #[.string r.1,.string r.2.1,.int .i64 (r.2.2:Int)])/\Below w.heap.size w w'
def divF (s t:ByteArray):ByteArray × ByteArray × Nat:=if vld s&&vld t then (if val t=0 then (str [],str [],4) else (str (dec (val s / val t)),str (dec (val s % val t)),0)) else (str [],str [],1)
def gcdF (s t:ByteArray):ByteArray × Nat:=if vld s&&vld t then (str (dec (Nat.gcd (val s) (val t))),0) else (str [],1)
theorem v2e {t:ByteArray} (h:vld t=true) (c:val t=0):t.toList=[48]:=by
 rw[Lib.toList_data];exact u0q h (show z0w [48]=true by decide) (by rw[show num [48]=0 from rfl];exact c)
theorem y4p {t:ByteArray} (c:¬ val t=0):¬ t.toList=[48]:=by
 rw[Lib.toList_data];intro e;apply c;unfold val bts;rw[e];rfl
theorem u2z (s t:ByteArray) (w:World) (X:s.size<=maxLen) (Z:t.size<=maxLen) (h:Tab w) :
  Calls prog 154 #[.string s,.string t] w (TripEnd (divF s t) w):=by
 have K:=qh h;clear h;have c1:=z4g s w X;have c2:=z4g t w Z;clear X Z;cases d:vld s with
 | false =>
  have c:divF s t=(str [],str [],1):=by unfold divF;rw[d];rfl
  rw[c];rw[d] at c1;clear c d c2 K;have o:=qh c1;clear c1
  go_enter func154,ntmps154
  go_wp2_with fail
  refine o.out.mono ?_;rintro e p ⟨rfl,rfl⟩;go_wp2
  go_ret3
  exact⟨rfl,Below.refl _ _⟩
 | true =>
  cases i:vld t with
  | false =>
   have c:divF s t=(str [],str [],1):=by unfold divF;rw[d,i];rfl
   rw[c];rw[d] at c1;rw[i] at c2;clear c d i K;have o:=qh c1;clear c1;have L:=qh c2;clear c2
   go_enter func154,ntmps154
   go_wp2_with fail
   refine o.out.mono ?_;rintro e p ⟨rfl,rfl⟩
   go_wp2_with fail
   refine L.out.mono ?_;rintro e p ⟨rfl,rfl⟩;go_wp2
   go_ret3
   exact⟨rfl,Below.refl _ _⟩
  | true =>
   rw[d] at c1;rw[i] at c2;have o:=qh c1;clear c1;have L:=qh c2;clear c2;have lm:=z2a d;have ln:=z2a i;have b1:=z5s s w d;have B1:=qh b1;clear b1;have b2:=fun w=>z5s t w i;have Y:=qh b2;clear b2;have H1:=qh d;clear d;have U:=qh i;clear i;by_cases j:val t=0
   ·have c:divF s t=(str [],str [],4):=by unfold divF;rw[H1.out,U.out,if_pos j];rfl
    rw[c];clear c;have g:=v2e U.out j;have z:(t.toList==[48])=true:=by rw[g];rfl
    clear j B1 Y lm ln
    go_enter func154,ntmps154
    go_wp2_with fail
    refine o.out.mono ?_;rintro e p ⟨rfl,rfl⟩
    go_wp2_with fail
    refine L.out.mono ?_;rintro e p ⟨rfl,rfl⟩
    go_wp2_with fail
    go_ret3
    exact⟨rfl,Below.refl _ _⟩
   have c:divF s t=(str (dec (val s / val t)),str (dec (val s % val t)),0):=by unfold divF;rw[H1.out,U.out,if_neg j];rfl
   rw[c];clear c;have g:=y4p j;have z:(t.toList==[48])=false:=by rw[beq_eq_false_iff_ne];exact g
   have HZ:=qh j;clear j
   go_enter func154,ntmps154
   go_wp2_with fail
   refine o.out.mono ?_;rintro e p ⟨rfl,rfl⟩
   go_wp2_with fail
   refine L.out.mono ?_;rintro e p ⟨rfl,rfl⟩
   go_wp2_with fail
   clear g z;refine B1.out.mono ?_;rintro e w1 ⟨v1,rfl,G,A⟩;have S:=qh G;clear G;have u:=qh A;clear A;have R:=u.out.size
   go_wp2_with fail
   refine(Y.out w1).mono ?_;rintro e w2 ⟨v2,rfl,D,E⟩;have O:=qh D;clear D;have k:=qh E;clear E;have a3:=k.out.size;have W:=qh (S.out.sl.below k.out (Nat.le_refl _));have v:=y8d v1 v2 (val s) (val t) w2 W.out O.out.sl HZ.out (by omega);have P:=qh v;clear v
   go_wp2_with fail
   refine P.out.mono ?_;rintro e w3 ⟨vq,vr,rfl,hq,c,J⟩;have HQ:=qh hq;clear hq;have HR:=qh c;clear c;have C:=qh J;clear J;have a1:=C.out.size;have HB:=qh (u.out.trans ((k.out.mono R).trans (C.out.mono (by omega))));have a4:=z2t (Nat.div_le_self (val s) (val t));have a2:=z2t (Nat.mod_le (val s) (val t));have r:=y1s vq (val s / val t) w3 HQ.out (by omega) (K.out.below HB.out (Nat.le_refl _));have N:=qh r;clear r
   go_wp2_with fail
   refine N.out.mono ?_;rintro e w4 ⟨rfl,H⟩;have l:=qh H;clear H;have a5:=l.out.size;have F:=qh (HB.out.trans (l.out.mono (by omega)));have B:=y1s vr (val s % val t) w4 (HR.out.below l.out (Nat.le_refl _)) (by omega) (K.out.below F.out (Nat.le_refl _));have T:=qh B;clear B
   go_wp2_with fail
   refine T.out.mono ?_;rintro e w5 ⟨rfl,I⟩;have Q:=qh I;clear I
   go_wp2_with fail
   go_ret3
   exact⟨rfl,F.out.trans (Q.out.mono (by omega))⟩
theorem u1u (s t:ByteArray) (w:World) (hs:s.size<=maxLen) (ht:t.size<=maxLen) (j:Tab w) :
  Calls prog 118 #[.string s,.string t] w (PairEnd (gcdF s t) w):=by
 have N:=qh j;clear j;have c1:=z4g s w hs;have c2:=z4g t w ht;clear hs ht;cases c:vld s with
 | false =>
  have d:gcdF s t=(str [],1):=by unfold gcdF;rw[c];rfl
  rw[d];rw[c] at c1;clear d c c2 N;have r:=qh c1;clear c1
  go_enter func118,ntmps118
  go_wp2_with fail
  refine r.out.mono ?_;rintro e K ⟨rfl,rfl⟩;go_wp2;go_ret2;exact⟨rfl,Below.refl _ _⟩
 | true =>
  cases k:vld t with
  | false =>
   have d:gcdF s t=(str [],1):=by unfold gcdF;rw[c,k];rfl
   rw[d];rw[c] at c1;rw[k] at c2;clear d c k N;have r:=qh c1;clear c1;have W:=qh c2;clear c2
   go_enter func118,ntmps118
   go_wp2_with fail
   refine r.out.mono ?_;rintro e K ⟨rfl,rfl⟩
   go_wp2_with fail
   refine W.out.mono ?_;rintro e K ⟨rfl,rfl⟩;go_wp2;go_ret2;exact⟨rfl,Below.refl _ _⟩
  | true =>
   rw[c] at c1;rw[k] at c2;have r:=qh c1;clear c1;have W:=qh c2;clear c2;have lm:=z2a c;have ln:=z2a k;have b1:=z5s s w c;have B1:=qh b1;clear b1;have b2:=fun w=>z5s t w k;have B2:=qh b2;clear b2;have H1:=qh c;clear c;have H2:=qh k;clear k;have d:gcdF s t=(str (dec (Nat.gcd (val s) (val t))),0):=by unfold gcdF;rw[H1.out,H2.out];rfl
   rw[d];clear d
   go_enter func118,ntmps118
   go_wp2_with fail
   refine r.out.mono ?_;rintro e K ⟨rfl,rfl⟩
   go_wp2_with fail
   refine W.out.mono ?_;rintro e K ⟨rfl,rfl⟩
   go_wp2_with fail
   refine B1.out.mono ?_;rintro e w1 ⟨v1,rfl,G,B⟩;have T:=qh G;clear G;have v:=qh B;clear B;have S:=v.out.size
   go_wp2_with fail
   refine(B2.out w1).mono ?_;rintro e w2 ⟨v2,rfl,E,F⟩;have L:=qh E;clear E;have l:=qh F;clear F;have a5:=l.out.size;have Y:=qh (T.out.sl.below l.out (Nat.le_refl _))
   go_wp2_with fail
   go_loopg [6,7] (val t) (fun g vx vy wr=>∃ p:Nat,Sl wr .u64 vx (toB p)/\Sl wr .u64 vy (toB g)/\Nat.gcd p g=Nat.gcd (val s) (val t)/\(toB p).length<=112/\(toB g).length<=112/\Below w.heap.size w wr)
   case atStart=>exact⟨val s,Y.out,L.out.sl,rfl,lm,ln,v.out.trans (l.out.mono S)⟩
   obtain⟨p,X,Z,hg,a3,I,hb⟩:=hrel;obtain⟨a1,c1,rfl⟩:=X.shape;obtain⟨a2,c2,rfl⟩:=Z.shape;have HX:=qh X;clear X;have HY:=qh Z;clear Z;have HG:=qh hg;clear hg;have h:=qh hb;clear hb;have C:=h.out.size;by_cases i:gk=0
   ·have o:(toB gk).length=0:=by rw[i];rfl
    have z:p=Nat.gcd (val s) (val t):=by rw[<- HG.out,i,Nat.gcd_zero_right]
    rw[o];have P:=qh z;clear z i o I;have u:=y1s _ p wr HX.out (by omega) (N.out.below h.out (Nat.le_refl _));have R:=qh u;clear u
    go_wp2_with fail
    refine R.out.mono ?_;rintro e w5 ⟨rfl,H⟩;have Q:=qh H;clear H
    go_wp2_with fail
    go_ret2;exact⟨x4u (by rw[P.out]) rfl,h.out.trans (Q.out.mono C)⟩
   have o:=y3v i;have A:=y8d _ _ p gk wr HX.out HY.out i (by omega);have O:=qh A;clear A;have a4:=z2t (Nat.le_of_lt (Nat.mod_lt p (Nat.pos_of_ne_zero i)));have U:=qh i;clear i
   go_wp2_with fail
   refine O.out.mono ?_;rintro e w3 ⟨vq,vr,rfl,hq,d,J⟩;have HQ:=qh hq;clear hq;have HR:=qh d;clear d;have D:=qh J;clear J
   go_wp2_with fail
   go_roundg (p % gk)
   case measure=>exact Nat.mod_lt _ (Nat.pos_of_ne_zero U.out)
   case rel=>exact⟨gk,HY.out.below D.out (Nat.le_refl _),HR.out,by rw[<- HG.out,Nat.gcd_comm gk,<- Nat.gcd_rec,Nat.gcd_comm],I,by omega,h.out.trans (D.out.mono C)⟩
end
section
open Go.RowKit
def fits (n:Nat):Prop:=(dec n).length<=1000
theorem z1g (n:Nat):val (str (dec n))=n:=by unfold val;rw[z1f];exact z4r n
theorem z2r {n:Nat} (h:fits n):vld (str (dec n))=true:=by unfold vld;rw[z1f];exact y5s h
theorem y5u {s:ByteArray} (h:vld s=true):str (dec (val s))=s:=by unfold val;rw[z3x h,z8p]
theorem y2f {s:ByteArray} (h:vld s=true):fits (val s):=by unfold fits val;rw[z3x h,z0j];exact(z2d h).2
theorem z4t {m n:Nat} (h:fits n) (c:m<=n):fits m:=by
 unfold fits at *;exact z1p.2 ⟨Nat.lt_of_le_of_lt c (z1p.1 h).1,by omega⟩
theorem z0z {n:Nat} (h:fits n):(str (dec n)).size<=maxLen:=by rw[z0s];unfold fits at h;unfold maxLen;omega
theorem x4q {n:Nat} (h:fits n):limS n=(str (dec n),0):=if_pos h
theorem u4q {s t:ByteArray} (c:vld s=true) (d:vld t=true):addF s t=limS (val s+val t):=by unfold addF;rw[c,d];rfl
theorem u3r {s t:ByteArray} (c:vld s=true) (d:vld t=true):mulF s t=limS (val s*val t):=by unfold mulF;rw[c,d];rfl
theorem x6y {s t:ByteArray} (c:vld s=true) (d:vld t=true) (h:fits (val s+val t)):addF s t=(str (dec (val s+val t)),0):=by rw[u4q c d,x4q h]
theorem x6t {s t:ByteArray} (c:vld s=true) (d:vld t=true) (h:fits (val s*val t)):mulF s t=(str (dec (val s*val t)),0):=by rw[u3r c d,x4q h]
theorem u5b {s t:ByteArray} (c:vld s=true) (d:vld t=true):subF s t=if val s<val t then (⟨#[]⟩,4) else (str (dec (val s-val t)),0):=by unfold subF;rw[c,d];rfl
theorem v4x {s t:ByteArray} (c:vld s=true) (d:vld t=true) (h:val t<=val s):subF s t=(str (dec (val s-val t)),0):=by rw[u5b c d,if_neg (by omega)]
theorem u5h {s t:ByteArray} (c:vld s=true) (d:vld t=true):divF s t=if val t=0 then (⟨#[]⟩,⟨#[]⟩,4) else (str (dec (val s / val t)),str (dec (val s % val t)),0):=by unfold divF;rw[c,d];rfl
theorem x3n {s t:ByteArray} (c:vld s=true) (d:vld t=true) (h:val t≠0):divF s t=(str (dec (val s / val t)),str (dec (val s % val t)),0):=by rw[u5h c d,if_neg h]
theorem v9h {s t:ByteArray} (c:vld s=true) (d:vld t=true):gcdF s t=(str (dec (Nat.gcd (val s) (val t))),0):=by unfold gcdF;rw[c,d];rfl
end
section
open Go.RowKit
def nvS (b:Bool) (n d:ByteArray):Value:=.agg #[.bool b,.string n,.string d]
def nv (q:Rat):Value:=nvS (negQ q) (str (dec q.num.natAbs)) (str (dec q.den))
def txtS (b:Bool) (n d:ByteArray):ByteArray :=
 let s:=if b then (⟨#[45]⟩:ByteArray)++n else n
 if d=⟨#[49]⟩ then s else s++((⟨#[47]⟩:ByteArray)++d)
theorem x0j {s t:ByteArray} (h:s≠t):¬ s.toList=t.toList:=by
 rw[Lib.toList_data,Lib.toList_data];intro e;apply h;exact z6y e
theorem z2k {s:ByteArray} {l:List UInt8} (h:s≠str l):(s.toList==l)=false:=by
 rw[beq_eq_false_iff_ne,Lib.toList_data];intro e;apply h;rw[<- e];exact(z8p s).symm
theorem y2u (s t:ByteArray):bts (s++t)=bts s++bts t:=by
 show (s++t).data.toList=_;rw[ByteArray.data_append,Array.toList_append];rfl
theorem x6q (q:Rat):txtS (negQ q) (str (dec q.num.natAbs)) (str (dec q.den))=txt q:=by
 apply z6y
 have c:(str (dec q.den)=⟨#[49]⟩)↔q.den=1:=by
  constructor
  ·intro e;have:=congrArg bts e;rw[z1f] at this;exact z5v (this.trans z4i.symm)
  intro e;rw[e,z4i];rfl
 unfold txtS txt txtL;rw[z1f];by_cases h:q.den=1
 ·rw[if_pos (c.2 h),if_pos h];cases negQ q
  ·simp[z1f]
  simp only[if_true,y2u,z1f];simp[bts]
 rw[if_neg (fun e=>h (c.1 e)),if_neg h];cases negQ q
 ·simp only[Bool.false_eq_true,if_false,y2u,z1f];simp[bts]
 simp only[if_true,y2u,z1f];simp[bts]
theorem x2i (b:Bool) (n d:ByteArray) (w:World) (hn:n.size<=400) (i:d.size<=400) :
  Calls prog 148 #[nvS b n d] w fun e w'=>e=.returned (.string (txtS b n d))/\Below w.heap.size w w':=by
 have k:(n.size:Int)<=8388608:=by omega
 have o:(d.size:Int)<=8388608:=by omega
 clear hn i;have c:Below w.heap.size w (w.alloc (.cells #[.bool b,.string n,.string d] 107)):=(Below.refl _ _).alloc (Nat.le_refl _) _;have g:=qh c;clear c;unfold nvS;by_cases h:d=⟨#[49]⟩
 ·subst h;cases b<;>simp only[txtS,if_true,if_false,Bool.false_eq_true]
  all_goals
   go_enter func148,ntmps148
   go_wp2;go_ret;exact⟨rfl,g.out⟩
 have j:(d.toList==[49])=false:=z2k h;cases b<;>simp only[txtS,if_true,if_false,Bool.false_eq_true]<;>rw[if_neg h]<;>clear h
 ·go_enter func148,ntmps148
  go_wp2;go_ret;exact⟨rfl,g.out⟩
 have l:(((⟨#[45]⟩:ByteArray)++n).size:Int)<=8388609:=by rw[ByteArray.size_append];show ((1+n.size:Nat):Int)<=_;omega
 go_enter func148,ntmps148
 go_wp2;go_ret;exact⟨rfl,g.out⟩
theorem x3e (q:Rat) (w:World) (h:fitQ q) :
  Calls prog 148 #[nv q] w fun e w'=>e=.returned (.string (txt q))/\Below w.heap.size w w':=by
 rw[<- x6q];exact x2i _ _ _ w (by rw[z0s];exact h.1) (by rw[z0s];exact h.2)
theorem z2p (c:ByteArray) (w:World):Calls prog 70 #[.string c,.int .i64 0] w fun e w'=>e=.returned (.string c)/\w=w':=by
 go_enter func70,ntmps70
 go_wp2;go_ret;exact⟨rfl,rfl⟩
end
section
open Go.RowKit
theorem x4t {n k:Nat} (h:n<10 ^ k) (d:k<=1000) (c:1<=k):fits n:=by
 unfold fits;have:=z1p.2 ⟨h,c⟩;omega
theorem z5t {q:Rat} (h:fitQ q):fits q.num.natAbs:=by unfold fits;have:=h.1;omega
theorem z3p {q:Rat} (h:fitQ q):fits q.den:=by unfold fits;have:=h.2;omega
theorem pow400 {n:Nat} (h:(dec n).length<=400):n<10 ^ 400:=(z1p.1 h).1
theorem y6d {m n k:Nat} (d:m<10 ^ k) (c:n<10 ^ k):m*n<10 ^ (k+k):=by rw[Nat.pow_add];exact y7g d c
theorem v4u {a b c d k:Nat} (g:a<10 ^ k) (hb:b<10 ^ k) (i:c<10 ^ k) (h:d<10 ^ k):a*b+c*d<10 ^ (k+k+1):=by
 have j:=y6d g hb;have l:=y6d i h;rw[Nat.pow_succ];omega
theorem z3c {m n:Nat} (c:(dec m).length<=400) (hn:(dec n).length<=400):fits (m*n) :=
 x4t (y6d (pow400 c) (pow400 hn)) (by omega) (by omega)
theorem y4c {a b c d:Nat} (h:(dec a).length<=400) (hb:(dec b).length<=400) (g:(dec c).length<=400) (i:(dec d).length<=400):fits (a*b+c*d) :=
 x4t (v4u (pow400 h) (pow400 hb) (pow400 g) (pow400 i)) (by omega) (by omega)
def StrE (s:ByteArray) (w:World) (e:Ending) (w':World):Prop:=e=.returned (.string s)/\Below w.heap.size w w'
def StrZ (s:ByteArray) (w:World) (e:Ending) (w':World):Prop:=e=.returned (.tuple #[.string s,.int .i64 0])/\Below w.heap.size w w'
theorem u1t (m n:Nat) (w:World) (c:fits m) (hn:fits n) (h:fits (m+n)) (d:Tab w) :
  Calls prog 111 #[.string (str (dec m)),.string (str (dec n))] w (StrZ (str (dec (m+n))) w):=by
 have:=u0i (str (dec m)) (str (dec n)) w (z0z c) (z0z hn) d;rw[x6y (z2r c) (z2r hn) (by rw[z1g,z1g];exact h),z1g,z1g] at this;exact this
theorem v4s (m n:Nat) (w:World) (c:fits m) (hn:fits n) (h:n<=m) (d:Tab w) :
  Calls prog 113 #[.string (str (dec m)),.string (str (dec n))] w (StrZ (str (dec (m-n))) w):=by
 have:=u1d (str (dec m)) (str (dec n)) w (z0z c) (z0z hn) d;rw[v4x (z2r c) (z2r hn) (by rw[z1g,z1g];exact h),z1g,z1g] at this;exact this
theorem y1c (m n:Nat) (w:World) (c:fits m) (hn:fits n) (h:fits (m*n)) (d:Tab w) :
  Calls prog 71 #[.string (str (dec m)),.string (str (dec n))] w (StrZ (str (dec (m*n))) w):=by
 have:=u3i (str (dec m)) (str (dec n)) w (z0z c) (z0z hn) d;rw[x6t (z2r c) (z2r hn) (by rw[z1g,z1g];exact h),z1g,z1g] at this;exact this
theorem v5a (m n:Nat) (w:World) (c:fits m) (hn:fits n) (d:Tab w) :
  Calls prog 118 #[.string (str (dec m)),.string (str (dec n))] w (StrZ (str (dec (Nat.gcd m n))) w):=by
 have:=u1u (str (dec m)) (str (dec n)) w (z0z c) (z0z hn) d;rw[v9h (z2r c) (z2r hn),z1g,z1g] at this;exact this
theorem u2k (m n:Nat) (w:World) (c:fits m) (hn:fits n) (h:n≠0) (d:Tab w) :
  Calls prog 154 #[.string (str (dec m)),.string (str (dec n))] w fun e w'=>e=.returned (.tuple #[.string (str (dec (m / n))),.string (str (dec (m % n))),.int .i64 0])/\Below w.heap.size w w':=by
 have:=u2z (str (dec m)) (str (dec n)) w (z0z c) (z0z hn) d;rw[x3n (z2r c) (z2r hn) (by rw[z1g];exact h),z1g,z1g] at this;exact this
theorem v3y (m n:Nat) (w:World) (c:fits m) (hn:fits n) :
  Calls prog 112 #[.string (str (dec m)),.string (str (dec n))] w (IntEnd (cmpN m n) w):=by
 have:=u0n (str (dec m)) (str (dec n)) w (z0z c) (z0z hn);unfold cmpF at this;rw[z2r c,z2r hn,z1g,z1g] at this;exact this
theorem v4f (m n:Nat) (w:World) (g:fits m) (hn:fits n) (h:n≠0) (d:Tab w) :
  Calls prog 119 #[.string (str (dec m)),.string (str (dec n))] w (StrE (str (dec (m / n))) w):=by
 have c:=u2k m n w g hn h d;have i:=qh c;clear c g hn h d
 go_enter func119,ntmps119
 go_wp2_with fail
 refine i.out.mono ?_;rintro e l ⟨rfl,hb⟩;have j:=qh hb;clear hb
 go_wp2_with fail
 refine(z2p _ _).mono ?_;rintro e k ⟨rfl,rfl⟩;go_wp2;go_ret;exact⟨rfl,j.out⟩
theorem y7b (p q:Bool) (m n:Nat) (w:World) (h:fits (m+n)) (l:Tab w) :
  Calls prog 69 #[.bool p,.string (str (dec m)),.bool q,.string (str (dec n))] w fun e w' =>
   e=.returned (.tuple #[.bool (sumF p m q n).1,.string (str (dec (sumF p m q n).2))])/\Below w.heap.size w w':=by
 have s:fits m:=z4t h (by omega);have r:fits n:=z4t h (by omega);by_cases d:p=q
 ·subst d;have o:sumF p m p n=(p,m+n):=by unfold sumF;rw[if_pos rfl]
  rw[o];have k:=u1t m n w s r h l;have B:=qh k;clear k s r h l o;have J:(p==p)=true:=by cases p<;>rfl
  go_enter func69,ntmps69
  go_wp2_with fail
  refine B.out.mono ?_;rintro e u ⟨rfl,hb⟩;have I:=qh hb;clear hb
  go_wp2_with fail
  refine(z2p _ _).mono ?_;rintro e F ⟨rfl,rfl⟩;go_wp2;go_ret2;exact⟨rfl,I.out⟩
 have hb:(p==q)=false:=by rw[beq_eq_false_iff_ne];exact d
 by_cases g:m<n
 ·have o:sumF p m q n=(q,n-m):=by unfold sumF;rw[if_neg d,if_pos g]
  rw[o];have k:=v3y m n w s r;rw[z4k g] at k;have A:=fun u l=>v4s n m u r s (Nat.le_of_lt g) l;have B:=qh k;clear k;have E:=qh A;clear A;have D:=qh l;clear s r h l o g d
  go_enter func69,ntmps69
  go_wp2_with fail
  refine B.out.mono ?_;rintro e u ⟨rfl,j⟩;have c:=qh j;clear j
  go_wp2_with fail
  refine(E.out u (D.out.below c.out (Nat.le_refl _))).mono ?_;rintro e F ⟨rfl,i⟩;have v:=qh (c.out.trans (i.mono c.out.size));clear i
  go_wp2_with fail
  refine(z2p _ _).mono ?_;rintro e H ⟨rfl,rfl⟩;go_wp2;go_ret2;exact⟨rfl,v.out⟩
 have o:sumF p m q n=(p,m-n):=by unfold sumF;rw[if_neg d,if_neg g]
 rw[o];have k:=v3y m n w s r;have C:0<=cmpN m n:=by
  rcases Nat.lt_or_ge n m with G|G
  ·rw[z6k G];omega
  rw[z8k (by omega)];omega
 generalize cmpN m n=z at k C;have A:=fun u l=>v4s m n u s r (by omega) l;have B:=qh k;clear k;have E:=qh A;clear A;have D:=qh l;clear s r h l o g d
 go_enter func69,ntmps69
 go_wp2_with fail
 refine B.out.mono ?_;rintro e u ⟨rfl,j⟩;have c:=qh j;clear j
 go_wp2_with fail
 refine(E.out u (D.out.below c.out (Nat.le_refl _))).mono ?_;rintro e F ⟨rfl,i⟩;have v:=qh (c.out.trans (i.mono c.out.size));clear i
 go_wp2_with fail
 refine(z2p _ _).mono ?_;rintro e H ⟨rfl,rfl⟩;go_wp2;go_ret2;exact⟨rfl,v.out⟩
end
section
open Go.RowKit
def PT:Ending:=.panicked [{ v:=.iface 150 (.agg #[]),recovered:=false }]
def QEnd (q:Rat) (w:World) (e:Ending) (w':World):Prop:=e=(if fitQ q then .returned (nv q) else PT)/\Below w.heap.size w w'
theorem res3 {w g:World} {a b c:Value} {t:TypeId} (h:Below (w.alloc (.cells #[a,b,c] t)).heap.size (w.alloc (.cells #[a,b,c] t)) g) :
  g.cell? ⟨w.heap.size,0,none⟩=some a/\g.cell? ⟨w.heap.size,1,none⟩=some b/\g.cell? ⟨w.heap.size,2,none⟩=some c/\g.frozen? ⟨w.heap.size,0,none⟩=false/\g.frozen? ⟨w.heap.size,1,none⟩=false/\g.frozen? ⟨w.heap.size,2,none⟩=false/\w.heap.size<g.heap.size:=by
 have i:=h.size;have d:w.heap.size<(w.alloc (.cells #[a,b,c] t)).heap.size:=by simp
 refine⟨?_,?_,?_,?_,?_,?_,by omega⟩
 ·exact(h.cell (p:=⟨w.heap.size,0,none⟩) d).trans (by simp)
 ·exact(h.cell (p:=⟨w.heap.size,1,none⟩) d).trans (by simp)
 ·exact(h.cell (p:=⟨w.heap.size,2,none⟩) d).trans (by simp)
 ·exact(h.frozen (p:=⟨w.heap.size,0,none⟩) d).trans (by simp)
 ·exact(h.frozen (p:=⟨w.heap.size,1,none⟩) d).trans (by simp)
 exact(h.frozen (p:=⟨w.heap.size,2,none⟩) d).trans (by simp)
theorem set3 {w:World} {n:Nat} {a b c a' b' c':Value} (d:w.cell? ⟨n,0,none⟩=some a) (h:w.cell? ⟨n,1,none⟩=some b) (g:w.cell? ⟨n,2,none⟩=some c) :
  (((w.setCell ⟨n,0,none⟩ a').setCell ⟨n,1,none⟩ b').setCell ⟨n,2,none⟩ c').cell? ⟨n,0,none⟩=some a'/\(((w.setCell ⟨n,0,none⟩ a').setCell ⟨n,1,none⟩ b').setCell ⟨n,2,none⟩ c').cell? ⟨n,1,none⟩=some b'/\(((w.setCell ⟨n,0,none⟩ a').setCell ⟨n,1,none⟩ b').setCell ⟨n,2,none⟩ c').cell? ⟨n,2,none⟩=some c':=by
 refine⟨?_,?_,?_⟩<;>simp[go_sem,d,h,g]
theorem z6b {fn:Func} {p:Tmp} (h:fn.results=#[.cell p 107]) (c:Array Value) (W:World) (n:Nat) (r:Bool) (x y:ByteArray)
  (g:c.getD p undef=.pointer (some ⟨n,0,none⟩)) (c0:W.cell? ⟨n,0,none⟩=some (.bool r)) (c1:W.cell? ⟨n,1,none⟩=some (.string x)) (c2:W.cell? ⟨n,2,none⟩=some (.string y)) :
  (results fn c).run prog W=.ok (.agg #[.bool r,.string x,.string y]) W:=by
 have d:c[p]?.getD undef=.pointer (some ⟨n,0,none⟩):=by rw[<- g];simp
 simp only[results,h];simp[d,go_sem,c0,c1,c2]
theorem x8b (s:Bool) (a b g x y:ByteArray) (r:Bool) (w:World) (Y:(s=false/\r=false)\/(s=true/\(a.toList==[48])=!r))
  (K:x.size<=1000) (N:y.size<=1000)
  (c1:∀ wx,Below w.heap.size w wx->Calls prog 118 #[.string a,.string b] wx (StrZ g wx))
  (c2:∀ wx,Below w.heap.size w wx->Calls prog 119 #[.string a,.string g] wx (StrE x wx))
  (c3:∀ wx,Below w.heap.size w wx->Calls prog 119 #[.string b,.string g] wx (StrE y wx)) :
  Calls prog 72 #[.bool s,.string a,.string b] w fun e w' =>
   e=(if x.size<=400/\y.size<=400 then .returned (nvS r x y) else PT)/\Below w.heap.size w w':=by
 have I:=qh c1;clear c1;have J:=qh c2;clear c2;have L:=qh c3;clear c3;have W:Below w.heap.size w (w.alloc (.cells #[.bool false,.string ⟨#[]⟩,.string ⟨#[]⟩] 107)):=(Below.refl _ _).alloc (Nat.le_refl _) _;have l:=qh W;clear W;have D:(x.size<=400/\y.size<=400)\/(x.size<=400/\400<y.size)\/400<x.size:=by omega
 unfold PT nvS
 rcases Y with ⟨rfl,rfl⟩|⟨rfl,X⟩
 ·-- no sign
  rcases D with ⟨A,E⟩|⟨A,E⟩|A
  ·rw[if_pos ⟨A,E⟩];have R:(x.size:Int)<=400:=by omega
   have U:(y.size:Int)<=400:=by omega
   clear A E;clear K N
   go_enter func72,ntmps72
   go_wp2_with fail
   refine(I.out _ l.out).mono ?_;rintro e T ⟨rfl,j⟩;have p:=qh j;have d:=qh (l.out.trans (j.mono l.out.size));clear j
   go_wp2_with fail
   refine(z2p _ _).mono ?_;rintro e C ⟨rfl,rfl⟩
   go_wp2_with fail
   refine(J.out _ d.out).mono ?_;rintro e C ⟨rfl,c⟩;have u:=qh (p.out.trans (c.mono p.out.size));have i:=qh (d.out.trans (c.mono d.out.size));clear c
   go_wp2_with fail
   refine(L.out _ i.out).mono ?_;rintro e P ⟨rfl,k⟩;have v:=qh (u.out.trans (k.mono u.out.size));have o:=qh (i.out.trans (k.mono i.out.size));clear k;obtain⟨H,G,F,Q,O,S,z⟩:=res3 v.out;have B:=qh o.out.size
   go_wp2_with fail
   obtain⟨s0,s1,s2⟩:=set3 (a':=.bool false) (b':=.string x) (c':=.string y) H G F;refine bodyPost_ret (z6b rfl _ _ w.heap.size false x y rfl ?_ ?_ ?_) rfl ⟨rfl,?_⟩
   ·rw[World.cell?_alloc_past (hn:=by simpa using z)];exact s0
   ·rw[World.cell?_alloc_past (hn:=by simpa using z)];exact s1
   ·rw[World.cell?_alloc_past (hn:=by simpa using z)];exact s2
   exact(((o.out.setCell (Nat.le_refl _) _).setCell (Nat.le_refl _) _).setCell (Nat.le_refl _) _).alloc (by simpa using B.out) _
  ·rw[if_neg (fun h=>by omega)];have R:(x.size:Int)<=400:=by omega
   have U:(400:Int)<(y.size:Int):=by omega
   clear A E;clear K N
   go_enter func72,ntmps72
   go_wp2_with fail
   refine(I.out _ l.out).mono ?_;rintro e T ⟨rfl,j⟩;have p:=qh j;have d:=qh (l.out.trans (j.mono l.out.size));clear j
   go_wp2_with fail
   refine(z2p _ _).mono ?_;rintro e C ⟨rfl,rfl⟩
   go_wp2_with fail
   refine(J.out _ d.out).mono ?_;rintro e C ⟨rfl,c⟩;have u:=qh (p.out.trans (c.mono p.out.size));have i:=qh (d.out.trans (c.mono d.out.size));clear c
   go_wp2_with fail
   refine(L.out _ i.out).mono ?_;rintro e P ⟨rfl,k⟩;have v:=qh (u.out.trans (k.mono u.out.size));have o:=qh (i.out.trans (k.mono i.out.size));clear k;obtain⟨H,G,F,Q,O,S,z⟩:=res3 v.out;have B:=qh o.out.size
   go_wp2_with fail
   exact⟨rfl,rfl,o.out.alloc B.out _⟩
  rw[if_neg (fun h=>by omega)];have R:(400:Int)<(x.size:Int):=by omega
  clear A;clear K N
  go_enter func72,ntmps72
  go_wp2_with fail
  refine(I.out _ l.out).mono ?_;rintro e T ⟨rfl,j⟩;have p:=qh j;have d:=qh (l.out.trans (j.mono l.out.size));clear j
  go_wp2_with fail
  refine(z2p _ _).mono ?_;rintro e C ⟨rfl,rfl⟩
  go_wp2_with fail
  refine(J.out _ d.out).mono ?_;rintro e C ⟨rfl,c⟩;have u:=qh (p.out.trans (c.mono p.out.size));have i:=qh (d.out.trans (c.mono d.out.size));clear c
  go_wp2_with fail
  refine(L.out _ i.out).mono ?_;rintro e P ⟨rfl,k⟩;have v:=qh (u.out.trans (k.mono u.out.size));have o:=qh (i.out.trans (k.mono i.out.size));clear k;obtain⟨H,G,F,Q,O,S,z⟩:=res3 v.out;have B:=qh o.out.size
  go_wp2_with fail
  exact⟨rfl,rfl,o.out.alloc B.out _⟩
 cases r<;>simp only[Bool.not_true,Bool.not_false] at X
 ·-- zero
  rcases D with ⟨A,E⟩|⟨A,E⟩|A
  ·rw[if_pos ⟨A,E⟩];have R:(x.size:Int)<=400:=by omega
   have U:(y.size:Int)<=400:=by omega
   clear A E;clear K N
   go_enter func72,ntmps72
   go_wp2_with fail
   refine(I.out _ l.out).mono ?_;rintro e T ⟨rfl,j⟩;have p:=qh j;have d:=qh (l.out.trans (j.mono l.out.size));clear j
   go_wp2_with fail
   refine(z2p _ _).mono ?_;rintro e C ⟨rfl,rfl⟩
   go_wp2_with fail
   refine(J.out _ d.out).mono ?_;rintro e C ⟨rfl,c⟩;have u:=qh (p.out.trans (c.mono p.out.size));have i:=qh (d.out.trans (c.mono d.out.size));clear c
   go_wp2_with fail
   refine(L.out _ i.out).mono ?_;rintro e P ⟨rfl,k⟩;have v:=qh (u.out.trans (k.mono u.out.size));have o:=qh (i.out.trans (k.mono i.out.size));clear k;obtain⟨H,G,F,Q,O,S,z⟩:=res3 v.out;have B:=qh o.out.size
   go_wp2_with fail
   obtain⟨s0,s1,s2⟩:=set3 (a':=.bool false) (b':=.string x) (c':=.string y) H G F;refine bodyPost_ret (z6b rfl _ _ w.heap.size false x y rfl ?_ ?_ ?_) rfl ⟨rfl,?_⟩
   ·rw[World.cell?_alloc_past (hn:=by simpa using z)];exact s0
   ·rw[World.cell?_alloc_past (hn:=by simpa using z)];exact s1
   ·rw[World.cell?_alloc_past (hn:=by simpa using z)];exact s2
   exact(((o.out.setCell (Nat.le_refl _) _).setCell (Nat.le_refl _) _).setCell (Nat.le_refl _) _).alloc (by simpa using B.out) _
  ·rw[if_neg (fun h=>by omega)];have R:(x.size:Int)<=400:=by omega
   have U:(400:Int)<(y.size:Int):=by omega
   clear A E;clear K N
   go_enter func72,ntmps72
   go_wp2_with fail
   refine(I.out _ l.out).mono ?_;rintro e T ⟨rfl,j⟩;have p:=qh j;have d:=qh (l.out.trans (j.mono l.out.size));clear j
   go_wp2_with fail
   refine(z2p _ _).mono ?_;rintro e C ⟨rfl,rfl⟩
   go_wp2_with fail
   refine(J.out _ d.out).mono ?_;rintro e C ⟨rfl,c⟩;have u:=qh (p.out.trans (c.mono p.out.size));have i:=qh (d.out.trans (c.mono d.out.size));clear c
   go_wp2_with fail
   refine(L.out _ i.out).mono ?_;rintro e P ⟨rfl,k⟩;have v:=qh (u.out.trans (k.mono u.out.size));have o:=qh (i.out.trans (k.mono i.out.size));clear k;obtain⟨H,G,F,Q,O,S,z⟩:=res3 v.out;have B:=qh o.out.size
   go_wp2_with fail
   exact⟨rfl,rfl,o.out.alloc B.out _⟩
  rw[if_neg (fun h=>by omega)];have R:(400:Int)<(x.size:Int):=by omega
  clear A;clear K N
  go_enter func72,ntmps72
  go_wp2_with fail
  refine(I.out _ l.out).mono ?_;rintro e T ⟨rfl,j⟩;have p:=qh j;have d:=qh (l.out.trans (j.mono l.out.size));clear j
  go_wp2_with fail
  refine(z2p _ _).mono ?_;rintro e C ⟨rfl,rfl⟩
  go_wp2_with fail
  refine(J.out _ d.out).mono ?_;rintro e C ⟨rfl,c⟩;have u:=qh (p.out.trans (c.mono p.out.size));have i:=qh (d.out.trans (c.mono d.out.size));clear c
  go_wp2_with fail
  refine(L.out _ i.out).mono ?_;rintro e P ⟨rfl,k⟩;have v:=qh (u.out.trans (k.mono u.out.size));have o:=qh (i.out.trans (k.mono i.out.size));clear k;obtain⟨H,G,F,Q,O,S,z⟩:=res3 v.out;have B:=qh o.out.size
  go_wp2_with fail
  exact⟨rfl,rfl,o.out.alloc B.out _⟩
 rcases D with ⟨A,E⟩|⟨A,E⟩|A
 ·rw[if_pos ⟨A,E⟩];have R:(x.size:Int)<=400:=by omega
  have U:(y.size:Int)<=400:=by omega
  clear A E;clear K N
  go_enter func72,ntmps72
  go_wp2_with fail
  refine(I.out _ l.out).mono ?_;rintro e T ⟨rfl,j⟩;have p:=qh j;have d:=qh (l.out.trans (j.mono l.out.size));clear j
  go_wp2_with fail
  refine(z2p _ _).mono ?_;rintro e C ⟨rfl,rfl⟩
  go_wp2_with fail
  refine(J.out _ d.out).mono ?_;rintro e C ⟨rfl,c⟩;have u:=qh (p.out.trans (c.mono p.out.size));have i:=qh (d.out.trans (c.mono d.out.size));clear c
  go_wp2_with fail
  refine(L.out _ i.out).mono ?_;rintro e P ⟨rfl,k⟩;have v:=qh (u.out.trans (k.mono u.out.size));have o:=qh (i.out.trans (k.mono i.out.size));clear k;obtain⟨H,G,F,Q,O,S,z⟩:=res3 v.out;have B:=qh o.out.size
  go_wp2_with fail
  obtain⟨s0,s1,s2⟩:=set3 (a':=.bool true) (b':=.string x) (c':=.string y) H G F;refine bodyPost_ret (z6b rfl _ _ w.heap.size true x y rfl ?_ ?_ ?_) rfl ⟨rfl,?_⟩
  ·rw[World.cell?_alloc_past (hn:=by simpa using z)];exact s0
  ·rw[World.cell?_alloc_past (hn:=by simpa using z)];exact s1
  ·rw[World.cell?_alloc_past (hn:=by simpa using z)];exact s2
  exact(((o.out.setCell (Nat.le_refl _) _).setCell (Nat.le_refl _) _).setCell (Nat.le_refl _) _).alloc (by simpa using B.out) _
 ·rw[if_neg (fun h=>by omega)];have R:(x.size:Int)<=400:=by omega
  have U:(400:Int)<(y.size:Int):=by omega
  clear A E;clear K N
  go_enter func72,ntmps72
  go_wp2_with fail
  refine(I.out _ l.out).mono ?_;rintro e T ⟨rfl,j⟩;have p:=qh j;have d:=qh (l.out.trans (j.mono l.out.size));clear j
  go_wp2_with fail
  refine(z2p _ _).mono ?_;rintro e C ⟨rfl,rfl⟩
  go_wp2_with fail
  refine(J.out _ d.out).mono ?_;rintro e C ⟨rfl,c⟩;have u:=qh (p.out.trans (c.mono p.out.size));have i:=qh (d.out.trans (c.mono d.out.size));clear c
  go_wp2_with fail
  refine(L.out _ i.out).mono ?_;rintro e P ⟨rfl,k⟩;have v:=qh (u.out.trans (k.mono u.out.size));have o:=qh (i.out.trans (k.mono i.out.size));clear k;obtain⟨H,G,F,Q,O,S,z⟩:=res3 v.out;have B:=qh o.out.size
  go_wp2_with fail
  exact⟨rfl,rfl,o.out.alloc B.out _⟩
 rw[if_neg (fun h=>by omega)];have R:(400:Int)<(x.size:Int):=by omega
 clear A;clear K N
 go_enter func72,ntmps72
 go_wp2_with fail
 refine(I.out _ l.out).mono ?_;rintro e T ⟨rfl,j⟩;have p:=qh j;have d:=qh (l.out.trans (j.mono l.out.size));clear j
 go_wp2_with fail
 refine(z2p _ _).mono ?_;rintro e C ⟨rfl,rfl⟩
 go_wp2_with fail
 refine(J.out _ d.out).mono ?_;rintro e C ⟨rfl,c⟩;have u:=qh (p.out.trans (c.mono p.out.size));have i:=qh (d.out.trans (c.mono d.out.size));clear c
 go_wp2_with fail
 refine(L.out _ i.out).mono ?_;rintro e P ⟨rfl,k⟩;have v:=qh (u.out.trans (k.mono u.out.size));have o:=qh (i.out.trans (k.mono i.out.size));clear k;obtain⟨H,G,F,Q,O,S,z⟩:=res3 v.out;have B:=qh o.out.size
 go_wp2_with fail
 exact⟨rfl,rfl,o.out.alloc B.out _⟩
theorem x0p (s:Bool) (m d:Nat) (w:World) (p:fits m) (i:fits d) (o:d≠0) (E:Tab w) :
  Calls prog 72 #[.bool s,.string (str (dec m)),.string (str (dec d))] w (QEnd (mkRat (sg s m) d) w):=by
 obtain⟨k,e2,D⟩:=x1h (sg s m) d o;rw[x5x] at k e2;have v:fits (Nat.gcd m d):=z4t i (Nat.le_of_dvd (Nat.pos_of_ne_zero o) (Nat.gcd_dvd_right _ _));have g:Nat.gcd m d≠0:=by have:=Nat.gcd_pos_of_pos_right m (Nat.pos_of_ne_zero o);omega
 have r:∀ c,Below w.heap.size w c->Tab c:=fun c h=>E.below h (Nat.le_refl _);have A:fits (m / Nat.gcd m d):=z4t p (Nat.div_le_self _ _);have B:fits (d / Nat.gcd m d):=z4t i (Nat.div_le_self _ _);have z:=x8b s (str (dec m)) (str (dec d)) (str (dec (Nat.gcd m d))) (str (dec (m / Nat.gcd m d))) (str (dec (d / Nat.gcd m d))) (negQ (mkRat (sg s m) d)) w ?_ ?_ ?_
  (fun c h=>v5a m d c p i (r c h)) (fun c h=>v4f m _ c p v g (r c h)) (fun c h=>v4f d _ c i v g (r c h))
 ·refine z.mono ?_;rintro e F ⟨rfl,hb⟩;refine⟨?_,hb⟩;have u:fitQ (mkRat (sg s m) d)↔((str (dec (m / Nat.gcd m d))).size<=400/\(str (dec (d / Nat.gcd m d))).size<=400):=by
   unfold fitQ;rw[k,e2,z0s,z0s]
  have C:nv (mkRat (sg s m) d)=nvS (negQ (mkRat (sg s m) d)) (str (dec (m / Nat.gcd m d))) (str (dec (d / Nat.gcd m d))):=by
   unfold nv;rw[k,e2]
  rw[C];by_cases h:fitQ (mkRat (sg s m) d)
  ·rw[if_pos h,if_pos (u.1 h)]
  rw[if_neg h,if_neg (fun e=>h (u.2 e))]
 ·rw[D];cases s
  ·left;refine⟨rfl,?_⟩;rw[decide_eq_false_iff_not,x7c];simp
  right;refine⟨rfl,?_⟩
  by_cases j:m=0
  ·subst j;rw[z3w,Lib.toList_data];rfl
  have:(decide (sg true m<0))=true:=by rw[decide_eq_true_eq,x7c];exact⟨rfl,j⟩
  rw[this];exact z2k (l:=[48]) (fun e=>j (z5v ((by have:=congrArg bts e;rw[z1f,z1f] at this;exact this:dec m=[48]).trans z3w.symm)))
 ·rw[z0s];exact A
 rw[z0s];exact B
end
section
open Go.RowKit
theorem z0a {W a b:World} (h:Below W.heap.size W a) (hb:Below a.heap.size a b):Below W.heap.size W b:=h.trans (hb.mono h.size)
def WR (p q:Bool) (xn xd yn yd:ByteArray) (w:World):World :=
 ((w.alloc (.cells #[.bool p,.string xn,.string xd] 107)).alloc (.cells #[.bool q,.string yn,.string yd] 107)).alloc (.cells #[.bool false,.string ⟨#[]⟩,.string ⟨#[]⟩] 107)
theorem x5p (p q:Bool) (h g d c:ByteArray) (w:World):Below w.heap.size w (WR p q h g d c w):=by
 unfold WR;exact(((Below.refl _ _).alloc (Nat.le_refl _) _).alloc (by simp) _).alloc (by simp;omega) _
theorem y4x {p q:Bool} {g i j l:ByteArray} {w d:World} (h:Below (WR p q g i j l w).heap.size (WR p q g i j l w) d) :
  Below (WR p q g i j l w).heap.size (WR p q g i j l w) d /\
  d.cell? ⟨w.heap.size,0,none⟩=some (.bool p)/\d.cell? ⟨w.heap.size,1,none⟩=some (.string g)/\d.cell? ⟨w.heap.size,2,none⟩=some (.string i) /\
  d.cell? ⟨w.heap.size+1,0,none⟩=some (.bool q)/\d.cell? ⟨w.heap.size+1,1,none⟩=some (.string j)/\d.cell? ⟨w.heap.size+1,2,none⟩=some (.string l):=by
 have c:∀ k,k<3->w.heap.size+k<(WR p q g i j l w).heap.size:=by intro k o;unfold WR;simp;omega
 refine⟨h,?_,?_,?_,?_,?_,?_⟩
 ·exact(h.cell (p:=⟨w.heap.size,0,none⟩) (c 0 (by omega))).trans (by simp[WR,go_sem])
 ·exact(h.cell (p:=⟨w.heap.size,1,none⟩) (c 0 (by omega))).trans (by simp[WR,go_sem])
 ·exact(h.cell (p:=⟨w.heap.size,2,none⟩) (c 0 (by omega))).trans (by simp[WR,go_sem])
 ·exact(h.cell (p:=⟨w.heap.size+1,0,none⟩) (c 1 (by omega))).trans (by simp[WR,go_sem])
 ·exact(h.cell (p:=⟨w.heap.size+1,1,none⟩) (c 1 (by omega))).trans (by simp[WR,go_sem])
 exact(h.cell (p:=⟨w.heap.size+1,2,none⟩) (c 1 (by omega))).trans (by simp[WR,go_sem])
theorem v1y {p q:Bool} {d g i j:ByteArray} {w c:World} (h:Below (WR p q d g i j w).heap.size (WR p q d g i j w) c) :
  c.cell? ⟨w.heap.size+1+1,0,none⟩=some (.bool false)/\c.cell? ⟨w.heap.size+1+1,1,none⟩=some (.string ⟨#[]⟩)/\c.cell? ⟨w.heap.size+1+1,2,none⟩=some (.string ⟨#[]⟩) /\
  c.frozen? ⟨w.heap.size+1+1,0,none⟩=false/\c.frozen? ⟨w.heap.size+1+1,1,none⟩=false/\c.frozen? ⟨w.heap.size+1+1,2,none⟩=false:=by
 have e:w.heap.size+1+1=((w.alloc (.cells #[.bool p,.string d,.string g] 107)).alloc (.cells #[.bool q,.string i,.string j] 107)).heap.size:=by simp
 rw[e];obtain⟨r,u,l,s,k,o,_⟩:=res3 h;exact⟨r,u,l,s,k,o⟩
theorem u5r {P:Program} {fn:Func} {R:Ending->World->Prop} {c:List PanicEntry} {a:Act} {w:World} {S:World->Prop} {G:Act->World->Prop} {g:Act->World->Prop}
  (_:Shut (∀ a w,S w->(S w->G a w)->g a w)) (d:Tmp) (v:Value) (h:bodyPost P fn R (.panic c) a w) (_:Hid False->g (a.put (some d) v) w):bodyPost P fn R (.panic c) a w:=h
theorem x7w {p q:Bool} {d i c g:ByteArray} {w j:World} (h:Below (WR p q d i c g w).heap.size (WR p q d i c g w) j):Below (w.heap.size+1+1) (WR p q d i c g w) j:=by
 refine h.mono ?_;unfold WR;simp
theorem z7f {p q:Bool} {d i j k:ByteArray} {w c:World} (h:Below (w.heap.size+1+1) (WR p q d i j k w) c) :
  Below (w.heap.size+1+1) (WR p q d i j k w) c /\
  c.cell? ⟨w.heap.size,0,none⟩=some (.bool p)/\c.cell? ⟨w.heap.size,1,none⟩=some (.string d)/\c.cell? ⟨w.heap.size,2,none⟩=some (.string i) /\
  c.cell? ⟨w.heap.size+1,0,none⟩=some (.bool q)/\c.cell? ⟨w.heap.size+1,1,none⟩=some (.string j)/\c.cell? ⟨w.heap.size+1,2,none⟩=some (.string k):=by
 have g:w.heap.size<w.heap.size+1+1:=by omega
 have l1:w.heap.size+1<w.heap.size+1+1:=by omega
 refine⟨h,?_,?_,?_,?_,?_,?_⟩
 ·exact(h.cell (p:=⟨w.heap.size,0,none⟩) g).trans (by simp[WR,go_sem])
 ·exact(h.cell (p:=⟨w.heap.size,1,none⟩) g).trans (by simp[WR,go_sem])
 ·exact(h.cell (p:=⟨w.heap.size,2,none⟩) g).trans (by simp[WR,go_sem])
 ·exact(h.cell (p:=⟨w.heap.size+1,0,none⟩) l1).trans (by simp[WR,go_sem])
 ·exact(h.cell (p:=⟨w.heap.size+1,1,none⟩) l1).trans (by simp[WR,go_sem])
 exact(h.cell (p:=⟨w.heap.size+1,2,none⟩) l1).trans (by simp[WR,go_sem])
end
section
open Go.RowKit
theorem x7t (w:World):(Instr.typeAssert .nilIface 20 150 true).run prog w=.ok (.tuple #[.agg #[],.bool false]) w:=by kernel_rfl
theorem x2u (w:World):(Instr.typeAssert (.iface 150 (.agg #[])) 20 150 true).run prog w=.ok (.tuple #[.agg #[],.bool true]) w:=by kernel_rfl
theorem x7v (p q:Addr) (w:World) :
  CallsD prog 147 #[.pointer (some p),.pointer (some q)] .returning w fun e u' w'=>e=.returned (.tuple #[])/\u'=.returning/\Below w.heap.size w w':=by
 have d:Below w.heap.size w (w.alloc (.cells #[] 150)):=(Below.refl _ _).alloc (Nat.le_refl _) _;refine callsD_of_wpS func147 rfl fun h i g=>?_;simp only[ntmps147,List.size_toArray,List.length_cons,List.length_nil,Nat.reduceAdd,Nat.reduceSub,Array.replicate_succ,
   Array.replicate_zero,List.push_toArray,List.append_toArray,List.nil_append,List.cons_append]
 apply wpS_seq
 apply wpS_region
 simp[wpOpsS,go_sem,recoverD,g,Exit.thenS,x7t];refine wpS_of_wp ?_;go_wp2;refine⟨rfl,.returning,?_,.tuple #[],?_,rfl,rfl,d⟩
 ·rw[<- g]
 exact results_none rfl _ _ _
theorem x7g (b c:Nat) (w:World) (s:ByteArray) (n:Int) (k:w.cell? ⟨b,0,none⟩=some (.string s)) (o:w.cell? ⟨c,0,none⟩=some (.int .i64 n)) (F:w.frozen? ⟨b,0,none⟩=false) (C:w.frozen? ⟨c,0,none⟩=false) (hb:b<w.heap.size) (j:c<w.heap.size) (d:¬ b=c) :
  CallsD prog 147 #[.pointer (some ⟨b,0,none⟩),.pointer (some ⟨c,0,none⟩)] (.panicking ({ v:=.iface 150 (.agg #[]),recovered:=false }::[])) w fun e u' w' =>
   e=.returned (.tuple #[])/\u'=.panicking ({ v:=.iface 150 (.agg #[]),recovered:=true }::[])/\w'.cell? ⟨b,0,none⟩=some (.string ⟨#[]⟩)/\w'.cell? ⟨c,0,none⟩=some (.int .i64 2) /\
    ∀ B a,Below B a w->B<=b->B<=c->Below B a w':=by
 refine callsD_of_wpS func147 rfl fun D E u=>?_;simp only[ntmps147,List.size_toArray,List.length_cons,List.length_nil,Nat.reduceAdd,Nat.reduceSub,Array.replicate_succ,
   Array.replicate_zero,List.push_toArray,List.append_toArray,List.nil_append,List.cons_append]
 apply wpS_seq
 apply wpS_region
 simp[wpOpsS,go_sem,recoverD,u,Exit.thenS,x2u];refine wpS_of_wp ?_;go_wp2;have p:(w.setCell ⟨b,0,none⟩ (.string ⟨#[]⟩)).cell? ⟨b,0,none⟩=some (.string ⟨#[]⟩):=World.cell?_setCell_same _ _ _ k;have e2:(w.setCell ⟨b,0,none⟩ (.string ⟨#[]⟩)).cell? ⟨c,0,none⟩=some (.int .i64 n):=(World.cell?_setCell_other _ ⟨b,0,none⟩ ⟨c,0,none⟩ _ (fun e=>d (by injection e))).trans o;have z:=World.cell?_setCell_same _ _ (.int .i64 2) e2;have i:=(World.cell?_setCell_other _ ⟨c,0,none⟩ ⟨b,0,none⟩ (.int .i64 2) (fun e=>d (by injection e with e _;exact e.symm))).trans p;have g:∀ (x y:Value),((w.setCell ⟨b,0,none⟩ x).setCell ⟨c,0,none⟩ y).heap.size=w.heap.size:=fun x y=>by simp
 refine⟨rfl,.panicking [{ v:=.iface 150 (.agg #[]),recovered:=true }],rfl,.tuple #[],results_none rfl _ _ _,rfl,rfl,?_,?_,?_⟩
 ·rw[World.cell?_alloc_past (hn:=by rw[g];exact hb)];exact i
 ·rw[World.cell?_alloc_past (hn:=by rw[g];exact j)];exact z
 intro B a h A r;have l:B<=w.heap.size:=by omega
 exact((h.setCell A _).setCell r _).alloc (by rw[g];exact l) _
theorem x1z {w c:World} {a b:Value} {t u:TypeId} (h:Below ((w.alloc (.cells #[a] t)).alloc (.cells #[b] u)).heap.size ((w.alloc (.cells #[a] t)).alloc (.cells #[b] u)) c) :
  c.cell? ⟨w.heap.size,0,none⟩=some a/\c.cell? ⟨w.heap.size+1,0,none⟩=some b/\c.frozen? ⟨w.heap.size,0,none⟩=false/\c.frozen? ⟨w.heap.size+1,0,none⟩=false/\w.heap.size+1<c.heap.size:=by
 have g:=h.size;have e:((w.alloc (.cells #[a] t)).alloc (.cells #[b] u)).heap.size=w.heap.size+1+1:=by simp
 rw[e] at g;have d:w.heap.size<((w.alloc (.cells #[a] t)).alloc (.cells #[b] u)).heap.size:=by rw[e];omega
 have l1:w.heap.size+1<((w.alloc (.cells #[a] t)).alloc (.cells #[b] u)).heap.size:=by rw[e];omega
 refine⟨?_,?_,?_,?_,by omega⟩
 ·exact(h.cell (p:=⟨w.heap.size,0,none⟩) d).trans (by simp[go_sem])
 ·exact(h.cell (p:=⟨w.heap.size+1,0,none⟩) l1).trans (by simp[go_sem])
 ·exact(h.frozen (p:=⟨w.heap.size,0,none⟩) d).trans (by simp[go_sem])
 exact(h.frozen (p:=⟨w.heap.size+1,0,none⟩) l1).trans (by simp[go_sem])
theorem u3x:∀ args w,(callFunc 110 args).run prog w=.ok (.enter 110 args) w:=fun args w=>by kernel_rfl
theorem y6f {fn:Func} {p u:Tmp} (h:fn.results=#[.cell p 9,.cell u 29]) (d:Array Value) (W:World) (b c:Nat) (s:ByteArray) (n:Int)
  (j:d.getD p undef=.pointer (some ⟨b,0,none⟩)) (k:d.getD u undef=.pointer (some ⟨c,0,none⟩)) (c0:W.cell? ⟨b,0,none⟩=some (.string s)) (c1:W.cell? ⟨c,0,none⟩=some (.int .i64 n)) :
  (results fn d).run prog W=.ok (.tuple #[.string s,.int .i64 n]) W:=by
 have i:d[p]?.getD undef=.pointer (some ⟨b,0,none⟩):=by rw[<- j];simp
 have g:d[u]?.getD undef=.pointer (some ⟨c,0,none⟩):=by rw[<- k];simp
 simp only[results,h];simp[i,g,go_sem,c0,c1]
theorem x4j (i:Array Value) (q:Rat) (w:World) (r:∀ wx,Below w.heap.size w wx->Calls prog 110 i wx (QEnd q wx)) :
  Calls prog 109 #[.func (.func 110) #[] i] w (PairEnd (limR q) w):=by
 have N:∀ (fn:Fn) (first cap:Array Value) (w:World),(Instr.makeFunc fn first cap).run prog w=.ok (.func fn first cap) w:=fun _ _ _ _=>rfl
 have K:=u3x;have s:Below w.heap.size w ((w.alloc (.cells #[.string ⟨#[]⟩] 9)).alloc (.cells #[.int .i64 0] 29)):=((Below.refl _ _).alloc (Nat.le_refl _) _).alloc (by simp) _;have h:=qh s;clear s;have v:=qh r;clear r;by_cases k:fitQ q
 ·rw[z9x k];have z:=qh k;clear k
  go_enter_defers func109,ntmps109
  go_wp2_with fail
  have d:=v.out _ h.out;unfold QEnd at d;rw[if_pos z.out] at d;refine d.mono ?_;clear d;rintro e G ⟨rfl,c⟩;have g:=qh c;clear c
  go_wp2_with fail
  refine(x3e q G z.out).mono ?_;rintro e o ⟨rfl,u⟩;have l:=qh (z0a g.out u);clear u;obtain⟨A,E,H,F,j⟩:=x1z l.out
  go_wp2_with fail
  have B:=World.cell?_setCell_same _ _ (.string (txt q)) A;have e2:=(World.cell?_setCell_other o ⟨w.heap.size,0,none⟩ ⟨w.heap.size+1,0,none⟩ (.string (txt q)) (fun e=>by injection e;omega)).trans E;have L:=World.cell?_setCell_same _ _ (.int .i64 0) e2;have I:=(World.cell?_setCell_other (o.setCell ⟨w.heap.size,0,none⟩ (.string (txt q))) ⟨w.heap.size+1,0,none⟩ ⟨w.heap.size,0,none⟩ (.int .i64 0) (fun e=>by injection e;omega)).trans B;have C:((o.setCell ⟨w.heap.size,0,none⟩ (.string (txt q))).setCell ⟨w.heap.size+1,0,none⟩ (.int .i64 0)).heap.size=o.heap.size:=by simp
  refine leaves_cons (f:=147) (args:=#[.pointer (some ⟨w.heap.size,0,none⟩),.pointer (some ⟨w.heap.size+1,0,none⟩)]) (by simp) (by simp[go_sem]) ?_;refine(x7v _ _ _).mono ?_;rintro e J D ⟨rfl,rfl,hb⟩;refine⟨_,y6f rfl _ _ w.heap.size (w.heap.size+1) (txt q) 0 rfl rfl ?_ ?_,rfl,?_⟩
  ·exact(hb.cell (p:=⟨w.heap.size,0,none⟩) (by rw[C];show w.heap.size<_;omega)).trans I
  ·exact(hb.cell (p:=⟨w.heap.size+1,0,none⟩) (by rw[C];exact j)).trans L
  have O:Below w.heap.size w o:=z0a h.out l.out;exact((O.setCell (Nat.le_refl _) _).setCell (Nat.le_succ _) _).trans (hb.mono (by rw[C];omega))
 rw[y1h k];have z:=qh k;clear k
 go_enter_defers func109,ntmps109
 go_wp2_with fail
 have d:=v.out _ h.out;unfold QEnd at d;rw[if_neg z.out] at d;unfold PT at d;refine d.mono ?_;clear d;rintro e G ⟨rfl,c⟩;have g:=qh c;clear c;obtain⟨A,E,H,F,j⟩:=x1z g.out;refine leaves_cons (f:=147) (args:=#[.pointer (some ⟨w.heap.size,0,none⟩),.pointer (some ⟨w.heap.size+1,0,none⟩)]) (by simp) (by simp[go_sem]) ?_;refine(x7g _ _ _ _ _ A E H F (by omega) j (by omega)).mono ?_;rintro e J D ⟨rfl,rfl,B,e2,hb⟩;exact⟨_,y6f rfl _ _ w.heap.size (w.heap.size+1) ⟨#[]⟩ 2 rfl rfl B e2,rfl,hb _ _ (z0a h.out g.out) (Nat.le_refl _) (Nat.le_succ _)⟩
end
section
open Go.RowKit
theorem x2c (l:List UInt8):Lib.indexByte l 47=if hasS l then ((upTo l).length:Int) else -1:=by
 induction l with
 | nil=>rfl
 | cons a l ih =>
  by_cases c:a=47
  ·subst c;simp[Lib.indexByte,hasS,upTo]
  have g:hasS (a::l)=hasS l:=by simp[hasS,c]
  have e2:upTo (a::l)=a::upTo l:=by simp[upTo,c]
  have d:(a==47)=false:=by rw[beq_eq_false_iff_ne];exact c
  rw[g,e2,Lib.indexByte,d,ih];cases hasS l
  ·rfl
  simp only[if_true,List.length_cons,Bool.false_eq_true,if_false];rw[if_neg (by rw[beq_iff_eq];omega)];omega
theorem z6j (s:ByteArray) (a b:Nat):bts (s.extract a b)=((bts s).take b).drop a:=by
 show (s.extract a b).data.toList=_;rw[ByteArray.data_extract,Array.toList_extract,List.extract_eq_take_drop];exact List.drop_take.symm
theorem u0t {s c t d:ByteArray} {b:Bool} (h:s=c) (g:t=d):Ending.returned (.tuple #[.string s,.string t,.bool b])=.returned (.tuple #[.string c,.string d,.bool b]):=by rw[h,g]
theorem u0p (s:ByteArray) (w:World) :
  Calls prog 202 #[.string s,.string ⟨#[47]⟩] w fun e w'=>e=.returned (.int .i64 (Lib.indexByte (bts s) 47))/\w=w':=by
 by_cases h:s=⟨#[47]⟩
 ·subst h
  go_enter func202,ntmps202
  go_wp2;go_ret;exact⟨rfl,rfl⟩
 have g:(s.toList==[47])=false:=z2k h;have i:([47]==s.toList)=false:=by rw[Bool.beq_comm];exact g
 have c:=Tryz.stringslite_IndexByte s 47 w;have d:=qh c;clear c h
 go_enter func202,ntmps202
 go_wp2_with fail
 refine d.out.mono ?_;rintro e w' ⟨rfl,rfl⟩;go_wp2;go_ret;exact⟨rfl,rfl⟩
theorem v8s (s:ByteArray) (w:World) (r:s.size<=9223372036854775807) :
  Calls prog 169 #[.string s,.string ⟨#[47]⟩] w fun e w'=>e=.returned (.tuple #[.string (str (upTo (bts s))),.string (str (if hasS (bts s) then z6p (bts s) else [])),.bool (hasS (bts s))])/\Below w.heap.size w w':=by
 have d:=u0p s w;rw[x2c] at d;cases h:hasS (bts s)
 ·rw[h] at d;simp only[Bool.false_eq_true,if_false] at d;rw[y4n _ h,z8p];have o:=qh d;clear d h
  go_enter func169,ntmps169
  go_wp2_with fail
  refine o.out.mono ?_;rintro e w' ⟨rfl,rfl⟩;go_wp2
  go_ret3
  exact⟨rfl,Below.refl _ _⟩
 rw[h] at d;simp only[if_true] at d;have g:=z6c _ h;have c:=congrArg List.length g;rw[z0j,List.length_append,List.length_cons] at c;generalize hi:(upTo (bts s)).length=i at d c;have c1:(0:Int)<=(i:Int):=by omega
 have c2:(i:Int)<=(s.size:Int):=by omega
 have c3:(0:Int)<=(i:Int)+1:=by omega
 have c4:(i:Int)+1<=(s.size:Int):=by omega
 have c5:IntKind.i64.wrap ((i:Int)+1)=(i:Int)+1:=by rw[IntKind.wrap_i64];omega
 have j:s.extract 0 i=str (upTo (bts s)):=by
  apply z6y;rw[z6j,z1f];conv=>lhs;rw[g]
  rw[<- hi,List.take_left,List.drop_zero]
 have k:s.extract (i+1) s.size=str (z6p (bts s)):=by
  apply z6y;rw[z6j,z1f,List.take_of_length_le (by rw[z0j];omega)];conv=>lhs;rw[g]
  rw[<- hi,<- List.drop_drop,List.drop_left];rfl
 have o:=qh d;clear d h;have p:=qh j;clear j;have l:=qh k;clear k g hi c r
 go_enter func169,ntmps169
 go_wp2_with fail
 refine o.out.mono ?_;rintro e w' ⟨rfl,rfl⟩
 go_wp2_with fail
 go_quiet (fail)
 go_wp2
 go_ret3
 exact⟨u0t p.out l.out,below_drewN (Below.refl _ _) _⟩
theorem u2h (s:ByteArray) (w:World) (d:s.size<=9223372036854775807) :
  Calls prog 133 #[.string s,.string ⟨#[47]⟩] w fun e w'=>e=.returned (.tuple #[.string (str (upTo (bts s))),.string (str (if hasS (bts s) then z6p (bts s) else [])),.bool (hasS (bts s))])/\Below w.heap.size w w':=by
 have c:=v8s s w d;generalize str (upTo (bts s))=x at c ⊢;generalize str (if hasS (bts s) then z6p (bts s) else [])=y at c ⊢
 generalize hasS (bts s)=z at c ⊢;have g:=qh c;clear c d
 go_enter func133,ntmps133
 go_wp2_with fail
 refine g.out.mono ?_;rintro e w' ⟨rfl,hb⟩;have h:=qh hb;clear hb;go_wp2
 go_ret3
 exact⟨rfl,h.out⟩
theorem v6a (s:ByteArray) (w:World) :
  Calls prog 132 #[.string s,.string ⟨#[45]⟩] w fun e w'=>e=.returned (.tuple #[.string (str (z1d (bts s))),.bool (z4f (bts s))])/\w=w':=by
 refine(Tryz.strings_CutPrefix s ⟨#[45]⟩ w).mono ?_;rintro e w' ⟨rfl,rfl⟩;refine⟨?_,rfl⟩;have d:Lib.hasPrefix s.data.toList [45]=z4f (bts s):=by
  show Lib.hasPrefix (bts s) [45]=_;cases bts s with
  | nil=>rfl
  | cons a l =>
   show ((45:UInt8)==a&&true)=(a==45);rw[Bool.and_true];exact BEq.comm
 have g:Lib.trimPrefix s.data.toList [45]=z1d (bts s):=by
  show Lib.trimPrefix (bts s) [45]=_;unfold Lib.trimPrefix z1d;have c:Lib.hasPrefix (bts s) [45]=z4f (bts s):=d;rw[c];split
  ·cases bts s<;>rfl
  rfl
 show Ending.returned (.tuple #[.string ⟨(Lib.trimPrefix s.data.toList [45]).toArray⟩,.bool (Lib.hasPrefix s.data.toList [45])])=_;rw[d,g];rfl
end
end Go.Proofs.YtjekapjbigfkbaaGreatDoor
