/- Parts of a proof: ME DivOps NumL RatA RatN RatR RatH RatW CutW. -/
import Derived.Test.YteappjogmnogcaaGreatDoorT02
import Derived.RegionTactic
import Derived.BigRegion
import Derived.Deep.LoopGhost
import Derived.Deep.Cut
import Derived.Deep.DeepCutAuto
import Derived.Test.YteappjogmnogcaaGreatDoorT00
import Derived.WalkLawsBesides
import Derived.Laws.Concat
import Derived.Handy
import Derived.Deep.RegionHeld2
import Derived.Deep.DrawnRows
import Derived.Recover
import Derived.Defers
import Derived.Lib.Bytealg
import Derived.Deep.QuietTactic
import Derived.BigQuiet
namespace Go.Proofs.YteappjogmnogcaaGreatDoor
set_option maxRecDepth 100000
set_option linter.unusedSimpArgs false
set_option linter.unusedVariables false
set_option linter.unusedSectionVars false
set_option maxHeartbeats 16000000
open Go Tryz
section
open Go.RowKit
theorem y0k (xs:List Nat) (a:Nat) (h:a<xs.length):bval (xs.drop a)=nth xs a+BB*bval (xs.drop (a+1)):=by
 rw[List.drop_eq_getElem_cons h];simp only[bval];rw[y1t xs a h]
theorem y6s {xs:List Nat} (h:Small xs) (k:Nat):Small (xs.drop k):=fun i=>by rw[y3a];exact h _
theorem y3k {L L0:List Nat} {k a:Nat} (h:L.take k=L0.take k) (c:a<k):nth L a=nth L0 a:=by
 rw[<- z8z L k a c,h,z8z _ _ _ c]
structure DvInv (L0 vs L qs:List Nat) (n a:Nat):Prop where
 len:L.length=L0.length
 ql:qs.length+n=L0.length
 ale:a<=qs.length
 small:Small L
 sq:Small qs
 low:L.take a=L0.take a
 rem:bval (L.drop a)<bval vs
 val:bval (L0.drop a)=bval (qs.drop a)*bval vs+bval (L.drop a)
structure Div0 (L0 vs:List Nat) (n:Nat):Prop where
 s0:Small L0
 sv:Small vs
 n1:1<=n
 lv:vs.length=n
 v1:1<=nth vs (n-1)
theorem DvInv.start {L0 c:List Nat} {n:Nat} (h:Div0 L0 c n) (hn:n<=L0.length) (d:bval (L0.drop (L0.length-n))<bval c) :
  DvInv L0 c L0 (List.replicate (L0.length-n) 0) n (L0.length-n):=by
 refine⟨rfl,by simp;omega,by simp,h.s0,z8d _,rfl,d,?_⟩;have e:(List.replicate (L0.length-n) 0).drop (L0.length-n)=[]:=List.drop_of_length_le (by simp);rw[e];simp[bval]
theorem DvInv.cut (L:List Nat) (n a:Nat):L=L.take a++(L.drop a).take (n+1)++L.drop (a+(n+1)):=by
 rw[List.append_assoc,show L.drop (a+(n+1))=(L.drop a).drop (n+1) by rw[List.drop_drop],List.take_append_drop,List.take_append_drop]
theorem DvInv.seg_len {L0 c L d:List Nat} {n a:Nat} (h:DvInv L0 c L d n (a+1)):((L.drop a).take (n+1)).length=n+1/\(L.take a).length=a:=by
 have:=h.len;have:=h.ql;have:=h.ale;rw[List.length_take,List.length_drop,List.length_take];omega
theorem DvInv.top {L0 c L d:List Nat} {n a:Nat} (h:DvInv L0 c L d n (a+1)):bval (L.drop a)<bval c*BB:=by
 have:=h.len;have:=h.ql;have:=h.ale;rw[y0k L a (by omega)];have i:=h.small a;have g:BB*(bval (L.drop (a+1))+1)<=BB*bval c:=Nat.mul_le_mul_left _ h.rem;rw[Nat.mul_add,Nat.mul_comm BB (bval c)] at g;omega
theorem DvInv.high {L0 g L k:List Nat} {n a:Nat} (i:Div0 L0 g n) (h:DvInv L0 g L k n (a+1)):bval (L.drop a)=bval ((L.drop a).take (n+1))/\bval (L.drop (a+(n+1)))=0:=by
 have d:=z4p ((L.drop a).take (n+1)) ((L.drop a).drop (n+1));rw[List.take_append_drop,List.drop_drop,h.seg_len.1] at d;have m:=h.top;have j:=z3z i.sv;rw[i.lv] at j;have l:bval g*BB<BB ^ (n+1):=by rw[Nat.pow_succ];exact Nat.mul_lt_mul_of_pos_right j z1w
 rcases Nat.eq_zero_or_pos (bval (L.drop (a+(n+1)))) with c|c
 ·rw[c,Nat.mul_zero,Nat.add_zero] at d;exact⟨d,c⟩
 have:BB ^ (n+1)*1<=BB ^ (n+1)*bval (L.drop (a+(n+1))):=Nat.mul_le_mul_left _ c;omega
theorem DvInv.divIn {L0 d L g:List Nat} {n a:Nat} (c:Div0 L0 d n) (h:DvInv L0 d L g n (a+1)):DivIn ((L.drop a).take (n+1)) d n :=
 ⟨z4m (y6s h.small a) _,c.sv,c.n1,h.seg_len.1,c.lv,c.v1,by rw[<- (h.high c).1];exact h.top⟩
theorem DvInv.step {L0 d L k c:List Nat} {n a:Nat} (m:Div0 L0 d n) (h:DvInv L0 d L k n (a+1)) (C:c.length=n+1) (E:Small c)
  (B:bval c=bval ((L.drop a).take (n+1)) % bval d) :
  DvInv L0 d (L.take a++c++L.drop (a+(n+1))) (k.set a (bval ((L.drop a).take (n+1)) / bval d)) n a:=by
 have A:=h.divIn m;have o:=h.high m;have j:=h.seg_len;have F:=h.len;have H:=h.ql;have G:=h.ale;have g:(L.take a++c++L.drop (a+(n+1))).drop a=c++L.drop (a+(n+1)):=by
  rw[List.append_assoc];have:=List.drop_left (l₁:=L.take a) (l₂:=c++L.drop (a+(n+1)))
  rwa [j.2] at this
 have u:bval ((L.take a++c++L.drop (a+(n+1))).drop a)=bval c:=by rw[g,z4p,o.2];simp
 have D:(k.set a (bval ((L.drop a).take (n+1)) / bval d)).drop a=(bval ((L.drop a).take (n+1)) / bval d)::k.drop (a+1):=by
  rw[List.drop_eq_getElem_cons (by simp;omega),List.drop_set,if_pos (by omega)];simp
 refine⟨by simp[C];omega,by simp;omega,by simp;omega,?_,z7x h.sq _ _ A.qlt,?_,?_,?_⟩
 ·intro i;by_cases z:i<a
  ·rw[List.append_assoc,z3y _ _ _ (by omega)];exact z4m h.small a i
  rw[List.append_assoc,z3f _ _ _ (by omega)];by_cases s:i-(L.take a).length<c.length
  ·rw[z3y _ _ _ s];exact E _
  rw[z3f _ _ _ (by omega)];exact y6s h.small _ _
 ·have e:(L.take a++c++L.drop (a+(n+1))).take a=L.take a:=by
   rw[List.append_assoc];have:=List.take_left (l₁:=L.take a) (l₂:=c++L.drop (a+(n+1)))
   rwa [j.2] at this
  rw[e];have:=congrArg (List.take a) h.low;rw[List.take_take,List.take_take,Nat.min_eq_left (by omega)] at this;exact this
 ·rw[u,B];exact Nat.mod_lt _ A.vpos'
 rw[u,D,y0k L0 a (by omega),h.val];simp only[bval];have z:=y0k L a (by omega);rw[o.1] at z;have s:nth L a=nth L0 a:=y3k h.low (by omega);have p:=Nat.div_add_mod (bval ((L.drop a).take (n+1))) (bval d);rw[<- B] at p;generalize bval ((L.drop a).take (n+1)) / bval d=qd at *;generalize bval ((L.drop a).take (n+1))=U at *;rw[Nat.mul_comm (bval d) qd] at p;rw[Nat.add_mul,Nat.mul_add,<- Nat.mul_assoc];omega
theorem DvInv.done {L0 d L g:List Nat} {n:Nat} (h:DvInv L0 d L g n 0):bval g=bval L0 / bval d/\bval L=bval L0 % bval d:=by
 have i:=h.val;have c:=h.rem;simp only[List.drop_zero] at i c;rw[i,Nat.add_comm,Nat.mul_comm];exact⟨by rw[Nat.add_mul_div_left _ _ (by omega),Nat.div_eq_of_lt c,Nat.zero_add],by rw[Nat.add_mul_mod_self_left,Nat.mod_eq_of_lt c]⟩
structure DnInv (r0 L:List Nat) (k a lf:Nat):Prop where
 len:L.length=r0.length
 ale:a<=r0.length
 small:Small L
 left:lf<k
 low:L.take a=r0.take a
 val:bval (r0.drop a)=k*bval (L.drop a)+lf
theorem DnInv.start {c:List Nat} {k:Nat} (g:1<=k) (d:Small c):DnInv c c k c.length 0 :=
 ⟨rfl,nlr,d,g,rfl,by rw[List.drop_length];simp[bval]⟩
theorem DnInv.bound {c L:List Nat} {k a d:Nat} (h:DnInv c L k (a+1) d) (i:Small c):d*1000000000+nth c a<k*1000000000:=by
 have g:=i a;have j:=h.left;rw[z0r] at g;have:(d+1)*1000000000<=k*1000000000:=Nat.mul_le_mul_right _ j;omega
theorem DnInv.step {c L:List Nat} {k a d:Nat} (h:DnInv c L k (a+1) d) (g:1<=k) (m:Small c) :
  DnInv c (L.set a ((d*1000000000+nth c a) / k)) k a ((d*1000000000+nth c a) % k):=by
 have hb:=h.bound m;have l:=h.len;have p:=h.ale;have j:(d*1000000000+nth c a) / k<BB:=by
  rw[z0r];exact Nat.div_lt_of_lt_mul hb
 refine⟨by simp;exact l,by omega,z7x h.small _ _ j,Nat.mod_lt _ g,?_,?_⟩
 ·rw[take_set];have:=congrArg (List.take a) h.low;rw[List.take_take,List.take_take,Nat.min_eq_left (by omega)] at this;exact this
 have i:(L.set a ((d*1000000000+nth c a) / k)).drop a=((d*1000000000+nth c a) / k)::L.drop (a+1):=by
  rw[List.drop_eq_getElem_cons (by simp;omega),List.drop_set,if_pos (by omega)];simp
 rw[i,y0k c a (by omega),h.val];simp only[bval];have o:=Nat.div_add_mod (d*1000000000+nth c a) k;generalize (d*1000000000+nth c a) / k=qd at *;rw[Nat.mul_add,Nat.mul_add,Nat.mul_left_comm BB k];have:BB*d=d*1000000000:=by rw[z0r,Nat.mul_comm]
 omega
theorem DnInv.done {c L:List Nat} {k g:Nat} (h:DnInv c L k 0 g):bval L=bval c / k:=by
 have d:=h.val;simp only[List.drop_zero] at d;rw[d,Nat.add_comm,Nat.add_mul_div_left _ _ (Nat.lt_of_le_of_lt (Nat.zero_le _) h.left),Nat.div_eq_of_lt h.left,Nat.zero_add]
theorem x2n {d:Nat} (i:d≠0) {k:Nat} (j:k=1000000000 / (nth (toB d) ((toB d).length-1)+1)) :
  1<=k/\k<BB/\(toB (d*k)).length=(toB d).length:=by
 have l:=y2c i;have o:=z0x d ((toB d).length-1);have p:=y8c i;have m:=y0x (xs:=toB d) rfl l;rw[z0z] at m;have A:=y4f (z0x d) ((toB d).length-1) (by omega);generalize hx:nth (toB d) ((toB d).length-1)=x at *;have c:1<=k:=by rw[j,Nat.le_div_iff_mul_le (by omega)];rw[z0r] at o;omega
 have g:k*(x+1)<=BB:=by rw[j,z0r];exact Nat.div_mul_le_self _ _
 have h:k<BB:=by
  have:k*2<=k*(x+1):=Nat.mul_le_mul_left _ (by omega);omega
 refine⟨c,h,?_⟩
 apply Nat.le_antisymm
 ·apply z6q
  have u:d<BB ^ ((toB d).length-1)*(x+1):=by rw[Nat.mul_add];omega
  have z:d*k<BB ^ ((toB d).length-1)*(x+1)*k:=Nat.mul_lt_mul_of_pos_right u c;have s:BB ^ ((toB d).length-1)*((x+1)*k)<=BB ^ ((toB d).length-1)*BB:=Nat.mul_le_mul_left _ (by rw[Nat.mul_comm];exact g);rw[<- Nat.mul_assoc,<- x4b l] at s;omega
 exact z2i (by
             have:d*1<=d*k:=Nat.mul_le_mul_left _ c;omega)
theorem v9y {m k:Nat} (g:k<BB) (c:1<=k):(toB m).length<=(toB (m*k)).length/\(toB (m*k)).length<=(toB m).length+1:=by
 refine⟨z2i (by
              have:m*1<=m*k:=Nat.mul_le_mul_left _ c;omega),z6q ?_⟩
 have d:=z3z (z0x m);rw[z0z] at d;rw[Nat.pow_succ];exact Nat.mul_lt_mul_of_lt_of_le d (by omega) z1w
theorem z9c (xs:List Nat):bval (xs++[0])=bval xs:=by rw[z6r];simp
theorem y9w (xs:List Nat) (j:Nat) (h:Small xs):bval (xs.drop j)=bval xs / BB ^ j:=by
 by_cases c:j<=xs.length
 ·have:=z4p (xs.take j) (xs.drop j);rw[List.take_append_drop,List.length_take,Nat.min_eq_left c] at this;rw[this,Nat.add_mul_div_left _ _ (Nat.pow_pos z1w),Nat.div_eq_of_lt (y4f h j c),Nat.zero_add]
 rw[List.drop_of_length_le (by omega),Nat.div_eq_of_lt]
 ·rfl
 exact Nat.lt_of_lt_of_le (z3z h) (Nat.pow_le_pow_right z1w (by omega))
theorem x7i {m d k:Nat} (g:d≠0) (c:1<=k) (s:(toB d).length<=(toB m).length) {L0:List Nat} (o:Small L0) (j:bval L0=m*k) (i:L0.length=(toB m).length+1) :
  bval (L0.drop (L0.length-(toB d).length))<d*k:=by
 rw[y9w _ _ o,j,i,Nat.div_lt_iff_lt_mul (Nat.pow_pos z1w)];have l:=z3z (z0x m);rw[z0z] at l;have p:=x5j g;have u:=y2c g;have e:BB ^ (toB m).length=BB ^ ((toB d).length-1)*BB ^ ((toB m).length+1-(toB d).length):=by rw[<- Nat.pow_add];congr 1;omega
 have z:BB ^ ((toB d).length-1)*BB ^ ((toB m).length+1-(toB d).length)<=d*BB ^ ((toB m).length+1-(toB d).length):=Nat.mul_le_mul_right _ p;have h:m*k<d*BB ^ ((toB m).length+1-(toB d).length)*k:=Nat.mul_lt_mul_of_pos_right (by omega) c;rw[Nat.mul_right_comm] at h;exact h
end
section
open Go.RowKit
def DivEnd (m d:Nat) (w:World) (e:Ending) (w':World):Prop :=
 ∃ vq vr,e=.returned (.tuple #[vq,vr])/\Sl w' .u64 vq (toB (m / d))/\Sl w' .u64 vr (toB (m % d))/\Below w.heap.size w w'
theorem Own.keptBy {w d:World} {B:Nat} {e:TypeId} {k:IntKind} {g n cap:Nat} {L:List Nat} {row:Option Nat} (h:Own w B e k (.slice (some ⟨g,0,none⟩) n cap) L) (i:w.grownBy d row) (c:some g≠row):Own d B e k (.slice (some ⟨g,0,none⟩) n cap) L :=
 World.ownsRow.kept h i (.inr (by simpa [Value.ownBlock] using c))
theorem Own.some {w:World} {B:Nat} {e:TypeId} {k:IntKind} {v:Value} {L:List Nat} (h:Own w B e k v L) (hn:1<=L.length):∃ g cap,v=.slice (.some ⟨g,0,none⟩) L.length cap/\B<=g/\g<w.heap.size/\L.length<=cap/\cap<=maxLen:=by
 rcases h.2 with ⟨_,o⟩|⟨g,cap,i,c,d,m,l,j,_⟩
 ·omega
 exact⟨g,cap,c,d,(Array.getElem?_eq_some_iff.1 m).1,l,j⟩
theorem x2f (i k:Value) (m d:Nat) (w:World) (j:Sl w .u64 i (toB m)) (o:Sl w .u64 k (toB d)) (g:m<d) :
  Calls prog 223 #[i,k] w (DivEnd m d w):=by
 have c:=z5v i k m d w j o;unfold CmpEnd at c;rw[z8b g] at c;have l:=qh c;clear c;have s:=qh j;clear j o;have h:=qh g;clear g
 go_enter func223,ntmps223
 go_wp2_with fail
 refine nxa l.out fun u p=>?_;go_wp2;go_ret2;refine⟨_,_,rfl,?_,?_,p.out⟩
 ·rw[Nat.div_eq_of_lt h.out];exact Sl.nil _ _
 rw[Nat.mod_eq_of_lt h.out];exact s.out.below p.out nlr
set_option maxRecDepth 100000 in
theorem x8e (vx vy:Value) (m d:Nat) (w:World) (hx:Sl w .u64 vx (toB m)) (hy:Sl w .u64 vy (toB d)) (hd:d≠0) (p8:d<=m) (lx:(toB m).length<=50000) :
  Calls prog 223 #[vx,vy] w (DivEnd m d w):=by
 have d4:=z5v vx vy m d w hx hy;unfold CmpEnd at d4;have s7:∃ q:Int,cmpN m d=q/\0<=q:=by
  rcases Nat.lt_or_ge d m with h|h
  ·exact⟨1,z8c h,by omega⟩
  exact⟨0,y0y (by omega),by omega⟩
 obtain⟨q0,hq,x8⟩:=s7;rw[hq] at d4;clear hq;have e7:=x2n hd rfl;obtain⟨k,hk⟩:∃ k,k=1000000000 / (nth (toB d) ((toB d).length-1)+1):=⟨_,rfl⟩;rw[<- hk] at e7;obtain⟨a4,i7,l6⟩:=e7;have a9:=y2c hd;have g9:(toB d).length<=(toB m).length:=z2i p8;have c8:=v9y (m:=m) i7 a4;have f4:=z0x d ((toB d).length-1);rw[z0r] at f4;obtain⟨ax,cx,rfl⟩:=hx.shape;have HX:=qh hx;clear hx;have HY:=qh hy;obtain⟨ay,cy,s5,oy,rfl,r9,v2,m8,l9,T⟩:=hy.open;obtain rfl:=r9 a9;have m3:=l9 a9;have o4:=T ((toB d).length-1) (by omega);have f5:(((toB d).length:Int)-1)<((toB d).length:Int):=by omega
 have l2:0<=(((toB d).length:Int)-1):=by omega
 unfold maxLen at m8;have r5:=qh d4;clear d4;have HK:=qh hk;clear hk;have e5:=qh l6;clear l6;have d9:=qh i7;clear i7;have HD:=qh hd;clear hd;clear l9 T hy
 go_enter func223,ntmps223
 go_wp2_with fail
 refine r5.out.mono ?_;rintro e w1 ⟨rfl,h4⟩;have m4:=(h4.cell (p:=⟨s5,oy+((toB d).length-1),none⟩) m3).trans o4;have d5:=qh h4;clear h4;have j7:=d5.out.size;clear o4
 go_wp2_with fail
 have ek:(1000000000:Int) / (((nth (toB d) ((toB d).length-1):Nat):Int)+1)=(k:Int):=by rw[HK.out];simp
 rw[ek];clear ek;refine(y5r _ m k w1 d9.out (HX.out.below d5.out nlr) (by omega)).mono ?_;rintro e w2 ⟨vu,rfl,N,o7⟩;have HU:=qh N;clear N;have h0:=qh o7;clear o7;have y0:=h0.out.size
 go_wp2_with fail
 refine(y5r _ d k w2 d9.out ((HY.out.below d5.out nlr).below h0.out nlr) (by omega)).mono ?_;rintro e w3 ⟨vv,rfl,K,m2⟩;have h9:=qh m2;clear m2;have x9:=h9.out.size;have o5:=(HU.out.kept h9.out nlr).mono j7;obtain⟨gv,cv,rfl,v9,v7,f3,k2⟩:=K.some (by rw[e5.out];exact a9);have f1:=K.mono (show w.heap.size<=w2.heap.size by omega);rw[e5.out] at f3;rw[e5.out];obtain⟨gu,cu,r2,u7,v4,v3,l8⟩:=HU.out.some (by omega);obtain rfl:=r2;have m7:=qh f1;clear f1 K;have q8:=qh o5;clear o5;have s8:Hid (gu≠gv):=qh (by omega);have r4:=qh (d5.out.trans ((h0.out.mono j7).trans (h9.out.mono (by omega))));obtain⟨i0,i6,p0,h7,o3⟩:=info_parts y0n;obtain⟨U,g4⟩:=exq (toB (d*k));rw[<- g4] at m7;have Z:=qh g4;clear g4;obtain⟨n,hn⟩:∃ n,n=(toB d).length:=⟨_,rfl⟩;rw[<- hn] at a9 g9 f4 f5 l2 f3;have HN:=qh hn;have e0:Hid (U.length=n):=qh (by rw[Z.out,e5.out];exact hn.symm);rw[<- hn];clear hn m4 f5 l2;obtain⟨Y,e4⟩:∃ l,l=(toB m).length:=⟨_,rfl⟩;rw[<- e4] at lx g9 c8;rw[<- e4];have k4:=qh e4;clear e4;unfold maxLen at k2 l8
 go_wp2_with fail
 go_loopw [8] (fun v wr=>∃ (g o:Nat) (L:List Nat),v=.slice (some ⟨g,0,none⟩) L.length o/\Own wr w.heap.size 179 .u64 (.slice (some ⟨g,0,none⟩) L.length o) L/\g≠gv/\Small L/\bval L=m*k/\Y<=L.length/\L.length<=Y+1 /\
   Own wr w.heap.size 179 .u64 (.slice (some ⟨gv,0,none⟩) n cv) U/\Below w.heap.size w wr) (fun v _=>Y+1-lenV v)
 case atStart =>
  refine⟨gu,cu,toB (m*k),rfl,q8.out,s8.out,z0x _,z0z _,c8.1,c8.2,?_,r4.out⟩;have:=m7.out
  rwa [e0.out] at this
 obtain⟨g,o,L,rfl,N,k0,j5,k7,x1,x5,K,O⟩:=hrel;have HO:=qh N;clear N;have e3:=qh k0;clear k0;have d6:=qh j5;clear j5;have a8:=qh k7;clear k7;have b2:=qh K;clear K;have b8:=qh O;clear O;by_cases u3:L.length<=Y
 ·have b4:=b8.out.size;have n6:wr.ownsRow w.heap.size 179 1 (.slice (some ⟨g,0,none⟩) L.length o) L.length (vals .u64 L):=HO.out;have j9:=qh n6;clear n6
  rcases Nat.lt_or_ge o (L.length+1) with b7|b7
  ·go_wp2_with (at_builtin;refine wpList_append_grows _ rfl (.tmp 40) (.tmp 41) 199 rfl 179 i0 (.int .u64 0) 1 8 underlying199 i6 p0 h7 o3 rfl (by decide) (some ⟨g,0,none⟩) L.length o (vals .u64 L) rfl (by intro h;cases h) (by rw[x3k];omega) (fun b hb=>by cases hb;exact World.ownsRow.cells (World.ownsRow.alloc j9.out _) rfl) ⟨wr.heap.size,0,none⟩ 1 1 [.int .u64 0] rfl rfl (cell_one_new _ _ _) (one_cell _ _) b7 (by unfold maxLen;omega) (by omega) ?_;intro v5 w5 C u)
   have a5:Own w5 (wr.heap.size+1) 179 .u64 v5 (L++[0]):=by
    unfold Own;rw[<- y3r,List.length_append];have e:(wr.alloc (.cells #[.int .u64 0] 179)).heap.size=wr.heap.size+1:=by simp
    rw[e] at C;exact C
   obtain⟨g5,m5,rfl,v6,w9,_,_⟩:=a5.some (by simp);have a2:Below wr.heap.size wr w5:=((Below.refl _ wr).alloc nlr _).grown u (by simp) (by simp);have d2:=b2.out.kept a2 nlr;have x2:=b2.out.base.2;have H5:=qh (a5.mono (show w.heap.size<=wr.heap.size+1 by omega));clear a5 C u;have g7:=qh d2;clear d2;have g6:=qh a2;clear a2;have i9:Hid (g5≠gv):=qh (by omega);go_wp2;go_roundw
   case rel=>exact⟨g5,m5,L++[0],rfl,H5.out,i9.out,z8y d6.out z1w,by rw[z9c];exact a8.out,by simp;omega,by simp;omega,g7.out,b8.out.trans (g6.out.mono b4)⟩
   simp[y5y];omega
  go_wp2_with (at_builtin;refine wpList_append_fits _ rfl (.tmp 40) (.tmp 41) 199 rfl w.heap.size 179 i0 1 underlying199 i6 h7 g L.length o (vals .u64 L) rfl (World.ownsRow.alloc j9.out _) ⟨wr.heap.size,0,none⟩ 1 1 [.int .u64 0] rfl rfl (cell_one_new _ _ _) (one_cell _ _) b7 ?_;intro w5 C u)
  have a5:Own w5 w.heap.size 179 .u64 (.slice (some ⟨g,0,none⟩) (L.length+1) o) (L++[0]):=by
   unfold Own;rw[<- y3r,List.length_append];exact C
  have h6:=HO.out.base.1;have a2:Below w.heap.size w w5:=(b8.out.alloc b4 _).grown u (by simp;omega) (fun q hq=>by cases hq;exact h6);have d2:Own w5 w.heap.size 179 .u64 (.slice (some ⟨gv,0,none⟩) n cv) U :=
   Own.keptBy (b2.out.kept ((Below.refl wr.heap.size wr).alloc nlr (.cells #[.int .u64 0] 179)) nlr) u (by have:=e3.out;simp;omega)
  have H5:=qh a5;clear a5 C u;have g7:=qh d2;clear d2;have g6:=qh a2;clear a2;go_wp2;go_roundw
  case rel=>exact⟨g,o,L++[0],by simp,by rw[List.length_append];exact H5.out,e3.out,z8y d6.out z1w,by rw[z9c];exact a8.out,by simp;omega,by simp;omega,g7.out,g6.out⟩
  simp[y5y];omega
 have h8:L.length=Y+1:=by omega
 have b4:=b8.out.size;have l5:=HO.out.base;have k3:=b2.out.base;obtain⟨s,d8⟩:=exq (L.length-n);obtain⟨wm,i5,X,j4⟩:=run_make_full wr w.heap.size 199 179 i0 (.int .u64 0) 1 underlying199 i6 p0 h7 .i64 .i64 (L.length-n) (by rw[o3];omega) (by unfold maxLen;omega) b4;rw[show ((L.length-n:Nat):Int)=(L.length:Int)-(n:Int) by omega,<- d8] at i5;rw[<- d8] at X;obtain⟨gq,o6⟩:=exq (wr.heap.size);rw[<- o6] at i5 X;have e1:Below wr.heap.size wr wm:=blr.grown j4 nlr (by simp);have l3:Own wm w.heap.size 179 .u64 (.slice (some ⟨gq,0,none⟩) s s) (List.replicate s 0):=by
  unfold Own;rw[z9d,List.length_replicate];have:=X;rw[Nat.mul_one,show (Value.int .u64 0).cells=#[Value.int .u64 0] from rfl,toList_madeCells_one] at this;exact this
 have g8:Div0 L U n:=⟨d6.out,by rw[Z.out];exact z0x _,a9,e0.out,by
  have h:=y8c (n:=d*k) (by have:=HD.out;exact Nat.mul_ne_zero this (by omega));rw[<- Z.out,e0.out] at h;omega⟩
 have i8:bval (L.drop (L.length-n))<bval U:=by
  have h:=x7i (m:=m) HD.out a4 (L0:=L) (by rw[<- HN.out,<- k4.out];exact g9) d6.out a8.out (by rw[<- k4.out];exact h8);rw[<- HN.out] at h;rw[Z.out,z0z];exact h
 have o8:DvInv L U L (List.replicate s 0) n s:=by
  have h:=DvInv.start g8 (by omega) i8
  rwa [<- d8] at h
 have w0:s+n=Y+1:=by omega
 have u0:=qh o8;clear o8 i8;have l1:=qh g8;clear g8;have HQ:=qh l3;clear l3 X;have t9:=qh (HO.out.kept e1 nlr);have r7:=qh (b2.out.kept e1 nlr);have s4:=qh (b8.out.trans (e1.mono b4));have d3:Hid (gq≠g/\gq≠gv):=qh ⟨by omega,by omega⟩;have x7:=qh h8;have i3:L.length<=o/\o<=maxLen:=by
  obtain⟨g',v0,h1,_,_,h2,h3⟩:=HO.out.some (by omega);simp only[Value.slice.injEq,true_and] at h1;obtain⟨_,rfl⟩:=h1;exact⟨h2,h3⟩
 obtain⟨p6,e2⟩:=i3;unfold maxLen at e2;clear e1 j4 d8 o6 h8 l5 k3
 go_wp2_with fail
 clear i5
 go_loopw [50] (fun i wq=>∃ (j:Nat) (Lc qs:List Nat),j<=s/\i=.int .i64 (j:Int)/\DvInv L U Lc qs n (s-j)/\Own wq w.heap.size 179 .u64 (.slice (some ⟨g,0,none⟩) L.length o) Lc /\
   Own wq w.heap.size 179 .u64 (.slice (some ⟨gv,0,none⟩) n cv) U/\Own wq w.heap.size 179 .u64 (.slice (some ⟨gq,0,none⟩) s s) qs/\Below w.heap.size w wq) (fun i _=>s-(intOf i).toNat)
 case atStart=>exact⟨0,L,_,Nat.zero_le _,rfl,u0.out,t9.out,r7.out,HQ.out,s4.out⟩
 obtain⟨j,Lc,qs,hj,rfl,z,N,K,d0,O⟩:=hrel;have i4:=qh z;clear z;have e6:=qh N;clear N;have k9:=qh K;clear K;have i2:=qh d0;clear d0;have h5:=qh O;clear O;by_cases u3:j<s
 ·obtain⟨a,ha⟩:=exq (s-1-j);have z:=i4.out;rw[show s-j=a+1 by omega] at z;have e8:=z.seg_len;have G:=z.len;have t8:=z.ql;have hcut:=DvInv.cut Lc n a;have a6:=x8y w.heap.size g L.length o (o-a) gv 0 cv n (Lc.take a) ((Lc.drop a).take (n+1)) (Lc.drop (a+(n+1))) U wr (by rw[<- hcut];exact G) (by rw[<- hcut];exact e6.out) (z.divIn l1.out) (by omega) e3.out.symm
   (fun i hi=>by rw[Nat.zero_add];exact k9.out.cell e0.out i hi)
  rw[e8.2] at a6;have s6:=qh a6;clear a6 hcut;have F:=qh z;clear z e8 G t8;subst ha;have n9:s-1-j<s:=by omega
  go_wp2_with fail
  rw[show s-1-j+n+1-(s-1-j)=n+1 by omega];refine s6.out.mono ?_;rintro e w6 ⟨x3,rfl,j1,k5,k6,f0,R⟩;have c7:=F.out.step l1.out (by rw[j1];exact F.out.seg_len.1) k5 k6;have d7:=i2.out.keptBy R (by have:=d3.out.1;simp;omega);have l0:=k9.out.keptBy R (by have:=e3.out;simp;omega);have h6:=e6.out.base.1;have n5:=i2.out.base.1;have n3:Below w.heap.size w w6:=h5.out.grown R (h5.out.size) (fun q hq=>by cases hq;exact h6);have B:qs.length=s:=by have h1:=F.out.ql;omega
  have cq:=d7.cell B (s-1-j) n9;have fq:=d7.free B (s-1-j);have m9:=d7.set B (s-1-j) (bval ((Lc.drop (s-1-j)).take (n+1)) / bval U);have d1:w6.grownBy (w6.setCell ⟨gq,s-1-j,none⟩ (.int .u64 ((bval ((Lc.drop (s-1-j)).take (n+1)) / bval U:Nat):Int))) (some gq):=y1v (y7q _ _) _ _;have j8:=f0.keptBy d1 (by have:=d3.out.1;simp;omega);have n7:=l0.keptBy d1 (by have:=d3.out.2;simp;omega);have l4:=n3.setCell (p:=⟨gq,s-1-j,none⟩) n5 (.int .u64 ((bval ((Lc.drop (s-1-j)).take (n+1)) / bval U:Nat):Int));have s3:=qh c7;have s9:=qh j8;have u5:=qh n7;have q7:=qh m9;have p9:=qh l4;clear c7 j8 n7 m9 l4 d1 d7 l0 n3 f0 R k6 k5 j1 B;go_wp2;go_roundw
  case rel=>exact⟨j+1,_,_,by omega,by go_num,by rw[show s-(j+1)=s-1-j by omega];exact s3.out,s9.out,u5.out,q7.out,p9.out⟩
  simp[intOf];omega
 have b5:j=s:=by omega
 have z:=i4.out;rw[b5,Nat.sub_self] at z;have f8:=z.done;have G:=z.len;have a3:=z7e (some ⟨g,0,none⟩) o Lc wr (by rw[G];exact e6.out.sl);rw[G] at a3;have r6:=qh a3;clear a3;have F:=qh z;clear z;have e9:=qh f8;clear f8;have b0:=qh G;clear G i4 b5
 go_wp2_with fail
 refine r6.out.mono ?_;rintro e w6 ⟨D,j3,rfl,rfl⟩;have o9:=qh j3;clear j3;have t7:D<=L.length:=by have:=o9.out.1;rw[b0.out] at this;exact this
 obtain⟨Q,c9⟩:=exq (Lc.take D);have b1:Q.length=D:=by rw[c9,List.length_take,b0.out];omega
 have g1:bval Q=(m % d)*k:=by
  rw[c9,y2g o9.out.2.1,e9.out.2,a8.out,Z.out,z0z,Nat.mul_mod_mul_right]
 have b6:Small Q:=by rw[c9];exact z4m F.out.small _
 have b9:Own wr w.heap.size 179 .u64 (.slice (some ⟨g,0,none⟩) D o) Q:=by
  rw[c9];exact e6.out.take (by rw[b0.out];exact t7)
 have J:=DnInv.start a4 b6;rw[b1] at J;have u2:=qh J;clear J;have g3:=qh b1;clear b1;have k1:=qh g1;clear g1;have f2:=qh b6;clear b6;have r3:=qh b9;clear b9 c9;have x6:(k:Int)<=999999999:=by have:=d9.out;rw[z0r] at this;omega
 obtain⟨wo,rfl⟩:∃ wo:World,wo=wr:=⟨_,rfl⟩
 go_wp2_with fail
 go_loopw [12,75] (fun lf i wq=>∃ (E H:Nat) (Lr:List Nat),E<=D/\i=.int .i64 (E:Int)/\lf=.int .u64 (H:Int)/\DnInv Q Lr k (D-E) H/\Own wq w.heap.size 179 .u64 (.slice (some ⟨g,0,none⟩) D o) Lr /\
   Own wq w.heap.size 179 .u64 (.slice (some ⟨gq,0,none⟩) s s) qs/\Below w.heap.size w wq) (fun _ i _=>D-(intOf i).toNat)
 case atStart=>exact⟨0,0,Q,Nat.zero_le _,rfl,rfl,u2.out,r3.out,i2.out,h5.out⟩
 obtain⟨E,H,Lr,x4,rfl,rfl,A,b9,d0,O⟩:=hrel;have f9:=qh A;clear A;have I:=qh b9;clear b9;have a7:=qh d0;clear d0;have g0:=qh O;clear O;by_cases x0:E<D
 ·have A:=f9.out;rw[show D-E=D-1-E+1 by omega] at A;have c:=A.len;rw[g3.out] at c;have u9:(H:Int)<=999999999:=by have h1:=A.left;have h2:=d9.out;rw[z0r] at h2;omega
  have v8:((nth Q (D-1-E):Nat):Int)<=999999999:=by have:=f2.out (D-1-E);rw[z0r] at this;omega
  have q9:=I.out.cell c (D-1-E) (by omega);rw[y3k A.low (by omega)] at q9;have i8:=I.out.free c (D-1-E);have w4:(1:Int)<=(k:Int):=by omega
  have f7:=A.step a4 f2.out;have j6:=qh f7;clear f7 A;have g2:=qh c;clear c
  go_wp2_with fail
  go_region
  go_wp2;go_roundw
  case rel =>
   have u1:((H:Int)*1000000000+((nth Q (D-1-E):Nat):Int)) / (k:Int)=(((H*1000000000+nth Q (D-1-E)) / k:Nat):Int):=by simp
   have p7:((H:Int)*1000000000+((nth Q (D-1-E):Nat):Int)) % (k:Int)=(((H*1000000000+nth Q (D-1-E)) % k:Nat):Int):=by simp
   rw[u1,p7];have j0:=(I.out.set g2.out (D-1-E) ((H*1000000000+nth Q (D-1-E)) / k)).kept (Below.drew blr) nlr;have u6:=(a7.out.keptBy (y1v (g:=g) (y7q wr _) (D-1-E) (.int .u64 (((H*1000000000+nth Q (D-1-E)) / k:Nat):Int))) (by have:=d3.out.1;simp;omega)).kept (Below.drew blr) nlr;exact⟨E+1,_,_,by omega,by go_num,rfl,by rw[show D-(E+1)=D-1-E by omega];exact j6.out,j0,u6,(g0.out.setCell I.out.base.1 _).drew⟩
  simp[intOf];omega
 have b5:E=D:=by omega
 have A:=f9.out;rw[b5,Nat.sub_self] at A;have P:=A.done;rw[k1.out,Nat.mul_div_cancel _ a4] at P;have c:=A.len;rw[g3.out] at c;have B:qs.length=s:=by have h1:=F.out.ql;omega
 have a1:=z7e (some ⟨gq,0,none⟩) s qs wr (by rw[B];exact a7.out.sl);rw[B] at a1;have b3:=z7e (some ⟨g,0,none⟩) o Lr wr (by rw[c];exact I.out.sl);rw[c] at b3;have r8:=qh a1;clear a1;have l7:=qh b3;clear b3;have g2:=qh c;clear c;have u8:=qh B;clear B;have u4:=qh P;clear P;have o2:=qh A;clear A b5
 go_wp2_with fail
 refine r8.out.mono ?_;rintro e w7 ⟨tq,a1,rfl,rfl⟩;have W:=qh a1;clear a1
 go_wp2_with fail
 refine l7.out.mono ?_;rintro e w8 ⟨tr,a3,rfl,rfl⟩;have S:=qh a3;clear a3;go_wp2;go_ret2;refine⟨_,_,rfl,?_,?_,g0.out⟩
 ·have e:toB (m / d)=qs.take tq:=by
   rw[z4j F.out.sq W.out.1 W.out.2.1 W.out.2.2,e9.out.1,a8.out,Z.out,z0z,Nat.mul_div_mul_right _ _ a4]
  rw[e];exact a7.out.sl.take W.out.1
 have e:toB (m % d)=Lr.take tr:=by
  rw[z4j o2.out.small S.out.1 S.out.2.1 S.out.2.2,u4.out]
 rw[e];exact I.out.sl.take S.out.1
theorem y5q (c g:Value) (m d:Nat) (w:World) (j:Sl w .u64 c (toB m)) (i:Sl w .u64 g (toB d)) (l:d≠0) (k:(toB m).length<=50000) :
  Calls prog 223 #[c,g] w (DivEnd m d w):=by
 rcases Nat.lt_or_ge m d with h|h
 ·exact x2f c g m d w j i h
 exact x8e c g m d w j i l h k
end
section
open Go.RowKit
def TripEnd (r:ByteArray × ByteArray × Nat) (w:World) (e:Ending) (w':World):Prop:=e=.returned (.tuple #[.string r.1,.string r.2.1,.int .i64 (r.2.2:Int)])/\Below w.heap.size w w'
def divF (s t:ByteArray):ByteArray × ByteArray × Nat:=if vld s&&vld t then (if val t=0 then (str [],str [],4) else (str (dec (val s / val t)),str (dec (val s % val t)),0)) else (str [],str [],1)
def gcdF (s t:ByteArray):ByteArray × Nat:=if vld s&&vld t then (str (dec (Nat.gcd (val s) (val t))),0) else (str [],1)
theorem u1r {t:ByteArray} (h:vld t=true) (c:val t=0):t.toList=[48]:=by
 rw[Lib.toList_data];exact v9m h (show z1t [48]=true by decide) (by rw[show num [48]=0 from rfl];exact c)
theorem v5d {t:ByteArray} (c:¬ val t=0):¬ t.toList=[48]:=by
 rw[Lib.toList_data];intro e;apply c;unfold val bts;rw[e];rfl
theorem v9v (s t:ByteArray) (w:World) (hs:s.size<=maxLen) (ht:t.size<=maxLen) (h:Tab w) :
  Calls prog 224 #[.string s,.string t] w (TripEnd (divF s t) w):=by
 have N:=qh h;clear h;have c1:=z3x s w hs;have c2:=z3x t w ht;clear hs ht;cases d:vld s with
 | false =>
  have c:divF s t=(str [],str [],1):=by unfold divF;rw[d];rfl
  rw[c];rw[d] at c1;clear c d c2 N;have o:=qh c1;clear c1
  go_enter func224,ntmps224
  go_wp2_with fail
  refine o.out.mono ?_;rintro e m ⟨rfl,rfl⟩;go_wp2
  go_ret3
  exact⟨rfl,blr⟩
 | true =>
  cases i:vld t with
  | false =>
   have c:divF s t=(str [],str [],1):=by unfold divF;rw[d,i];rfl
   rw[c];rw[d] at c1;rw[i] at c2;clear c d i N;have o:=qh c1;clear c1;have L:=qh c2;clear c2
   go_enter func224,ntmps224
   go_wp2_with fail
   refine o.out.mono ?_;rintro e m ⟨rfl,rfl⟩
   go_wp2_with fail
   refine L.out.mono ?_;rintro e m ⟨rfl,rfl⟩;go_wp2
   go_ret3
   exact⟨rfl,blr⟩
  | true =>
   rw[d] at c1;rw[i] at c2;have o:=qh c1;clear c1;have L:=qh c2;clear c2;have lm:=z1s d;have ln:=z1s i;have b1:=z4w s w d;have Y:=qh b1;clear b1;have b2:=fun w=>z4w t w i;have B2:=qh b2;clear b2;have H1:=qh d;clear d;have O:=qh i;clear i;by_cases k:val t=0
   ·have c:divF s t=(str [],str [],4):=by unfold divF;rw[H1.out,O.out,if_pos k];rfl
    rw[c];clear c;have g:=u1r O.out k;have u:(t.toList==[48])=true:=by rw[g];rfl
    clear k Y B2 lm ln
    go_enter func224,ntmps224
    go_wp2_with fail
    refine o.out.mono ?_;rintro e m ⟨rfl,rfl⟩
    go_wp2_with fail
    refine L.out.mono ?_;rintro e m ⟨rfl,rfl⟩
    go_wp2_with fail
    go_ret3
    exact⟨rfl,blr⟩
   have c:divF s t=(str (dec (val s / val t)),str (dec (val s % val t)),0):=by unfold divF;rw[H1.out,O.out,if_neg k];rfl
   rw[c];clear c;have g:=v5d k;have u:(t.toList==[48])=false:=by rw[beq_eq_false_iff_ne];exact g
   have HZ:=qh k;clear k
   go_enter func224,ntmps224
   go_wp2_with fail
   refine o.out.mono ?_;rintro e m ⟨rfl,rfl⟩
   go_wp2_with fail
   refine L.out.mono ?_;rintro e m ⟨rfl,rfl⟩
   go_wp2_with fail
   clear g u;refine Y.out.mono ?_;rintro e w1 ⟨v1,rfl,I,p⟩;have Q:=qh I;clear I;have C:=qh p;clear p;have T:=C.out.size
   go_wp2_with fail
   refine(B2.out w1).mono ?_;rintro e w2 ⟨v2,rfl,A,J⟩;have U:=qh A;clear A;have j:=qh J;clear J;have a3:=j.out.size;have P:=qh (Q.out.sl.below j.out nlr);have G:=y5q v1 v2 (val s) (val t) w2 P.out U.out.sl HZ.out (by omega);have S:=qh G;clear G
   go_wp2_with fail
   refine S.out.mono ?_;rintro e w3 ⟨vq,vr,rfl,hq,c,E⟩;have HQ:=qh hq;clear hq;have HR:=qh c;clear c;have B:=qh E;clear E;have a1:=B.out.size;have Z:=qh (C.out.trans ((j.out.mono T).trans (B.out.mono (by omega))));have a2:=z2i (Nat.div_le_self (val s) (val t));have a4:=z2i (Nat.mod_le (val s) (val t));have H:=y0p vq (val s / val t) w3 HQ.out (by omega) (N.out.below Z.out nlr);have W:=qh H;clear H
   go_wp2_with fail
   refine W.out.mono ?_;rintro e w4 ⟨rfl,F⟩;have l:=qh F;clear F;have a5:=l.out.size;have z:=qh (Z.out.trans (l.out.mono (by omega)));have D:=y0p vr (val s % val t) w4 (HR.out.below l.out nlr) (by omega) (N.out.below z.out nlr);have R:=qh D;clear D
   go_wp2_with fail
   refine R.out.mono ?_;rintro e w5 ⟨rfl,K⟩;have X:=qh K;clear K
   go_wp2_with fail
   go_ret3
   exact⟨rfl,z.out.trans (X.out.mono (by omega))⟩
theorem v9c (s t:ByteArray) (w:World) (hs:s.size<=maxLen) (ht:t.size<=maxLen) (j:Tab w) :
  Calls prog 208 #[.string s,.string t] w (PairEnd (gcdF s t) w):=by
 have HT:=qh j;clear j;have c1:=z3x s w hs;have c2:=z3x t w ht;clear hs ht;cases c:vld s with
 | false =>
  have d:gcdF s t=(str [],1):=by unfold gcdF;rw[c];rfl
  rw[d];rw[c] at c1;clear d c c2 HT;have D:=qh c1;clear c1
  go_enter func208,ntmps208
  go_wp2_with fail
  refine D.out.mono ?_;rintro e L ⟨rfl,rfl⟩;go_wp2;go_ret2;exact⟨rfl,blr⟩
 | true =>
  cases k:vld t with
  | false =>
   have d:gcdF s t=(str [],1):=by unfold gcdF;rw[c,k];rfl
   rw[d];rw[c] at c1;rw[k] at c2;clear d c k HT;have D:=qh c1;clear c1;have U:=qh c2;clear c2
   go_enter func208,ntmps208
   go_wp2_with fail
   refine D.out.mono ?_;rintro e L ⟨rfl,rfl⟩
   go_wp2_with fail
   refine U.out.mono ?_;rintro e L ⟨rfl,rfl⟩;go_wp2;go_ret2;exact⟨rfl,blr⟩
  | true =>
   rw[c] at c1;rw[k] at c2;have D:=qh c1;clear c1;have U:=qh c2;clear c2;have lm:=z1s c;have ln:=z1s k;have b1:=z4w s w c;have B1:=qh b1;clear b1;have b2:=fun w=>z4w t w k;have B2:=qh b2;clear b2;have H1:=qh c;clear c;have H2:=qh k;clear k;have d:gcdF s t=(str (dec (Nat.gcd (val s) (val t))),0):=by unfold gcdF;rw[H1.out,H2.out];rfl
   rw[d];clear d
   go_enter func208,ntmps208
   go_wp2_with fail
   refine D.out.mono ?_;rintro e L ⟨rfl,rfl⟩
   go_wp2_with fail
   refine U.out.mono ?_;rintro e L ⟨rfl,rfl⟩
   go_wp2_with fail
   refine B1.out.mono ?_;rintro e w1 ⟨v1,rfl,H,o⟩;have Q:=qh H;clear H;have C:=qh o;clear o;have S:=C.out.size
   go_wp2_with fail
   refine(B2.out w1).mono ?_;rintro e w2 ⟨v2,rfl,A,J⟩;have T:=qh A;clear A;have l:=qh J;clear J;have a4:=l.out.size;have P:=qh (Q.out.sl.below l.out nlr)
   go_wp2_with fail
   go_loopg [6,7] (val t) (fun g vx vy wr=>∃ p:Nat,Sl wr .u64 vx (toB p)/\Sl wr .u64 vy (toB g)/\Nat.gcd p g=Nat.gcd (val s) (val t)/\(toB p).length<=112/\(toB g).length<=112/\Below w.heap.size w wr)
   case atStart=>exact⟨val s,P.out,T.out.sl,rfl,lm,ln,C.out.trans (l.out.mono S)⟩
   obtain⟨p,W,O,hg,a3,F,hb⟩:=hrel;obtain⟨a1,c1,rfl⟩:=W.shape;obtain⟨a2,c2,rfl⟩:=O.shape;have HX:=qh W;clear W;have HY:=qh O;clear O;have HG:=qh hg;clear hg;have h:=qh hb;clear hb;have u:=h.out.size;by_cases i:gk=0
   ·have m:(toB gk).length=0:=by rw[i];rfl
    have I:p=Nat.gcd (val s) (val t):=by rw[<- HG.out,i,Nat.gcd_zero_right]
    rw[m];have Y:=qh I;clear I i m F;have z:=y0p _ p wr HX.out (by omega) (HT.out.below h.out nlr);have Z:=qh z;clear z
    go_wp2_with fail
    refine Z.out.mono ?_;rintro e w5 ⟨rfl,K⟩;have X:=qh K;clear K;go_wp2;go_ret2;exact⟨u4q (by rw[Y.out]) rfl,h.out.trans (X.out.mono u)⟩
   have m:=y2c i;have G:=y5q _ _ p gk wr HX.out HY.out i (by omega);have R:=qh G;clear G;have a5:=z2i (Nat.le_of_lt (Nat.mod_lt p (Nat.pos_of_ne_zero i)));have N:=qh i;clear i
   go_wp2_with fail
   refine R.out.mono ?_;rintro e w3 ⟨vq,vr,rfl,hq,d,E⟩;have HQ:=qh hq;clear hq;have HR:=qh d;clear d;have B:=qh E;clear E
   go_wp2_with fail
   go_roundg (p % gk)
   case measure=>exact Nat.mod_lt _ (Nat.pos_of_ne_zero N.out)
   case rel=>exact⟨gk,HY.out.below B.out nlr,HR.out,by rw[<- HG.out,Nat.gcd_comm gk,<- Nat.gcd_rec,Nat.gcd_comm],F,by omega,h.out.trans (B.out.mono u)⟩
end
section
open Go.RowKit
def fits (n:Nat):Prop:=(dec n).length<=1000
theorem z4d (n:Nat):val (str (dec n))=n:=by unfold val;rw[z2u];exact z9k n
theorem z7i {n:Nat} (h:fits n):vld (str (dec n))=true:=by unfold vld;rw[z2u];exact y4h h
theorem z9f {m n:Nat} (h:fits n) (c:m<=n):fits m:=by
 unfold fits at *;exact z3q.2 ⟨Nat.lt_of_le_of_lt c (z3q.1 h).1,by omega⟩
theorem z2m {n:Nat} (h:fits n):(str (dec n)).size<=maxLen:=by rw[z1f];unfold fits at h;unfold maxLen;omega
theorem x4j {n:Nat} (h:fits n):limS n=(str (dec n),0):=if_pos h
theorem u3y {s t:ByteArray} (c:vld s=true) (d:vld t=true):addF s t=limS (val s+val t):=by unfold addF;rw[c,d];rfl
theorem u2j {s t:ByteArray} (c:vld s=true) (d:vld t=true):mulF s t=limS (val s*val t):=by unfold mulF;rw[c,d];rfl
theorem v3q {s t:ByteArray} (c:vld s=true) (d:vld t=true) (h:fits (val s+val t)):addF s t=(str (dec (val s+val t)),0):=by rw[u3y c d,x4j h]
theorem v4w {s t:ByteArray} (c:vld s=true) (d:vld t=true) (h:fits (val s*val t)):mulF s t=(str (dec (val s*val t)),0):=by rw[u2j c d,x4j h]
theorem u2d {s t:ByteArray} (c:vld s=true) (d:vld t=true):subF s t=if val s<val t then (⟨#[]⟩,4) else (str (dec (val s-val t)),0):=by unfold subF;rw[c,d];rfl
theorem u1t {s t:ByteArray} (c:vld s=true) (d:vld t=true) (h:val t<=val s):subF s t=(str (dec (val s-val t)),0):=by rw[u2d c d,if_neg (by omega)]
theorem u3u {s t:ByteArray} (c:vld s=true) (d:vld t=true):divF s t=if val t=0 then (⟨#[]⟩,⟨#[]⟩,4) else (str (dec (val s / val t)),str (dec (val s % val t)),0):=by unfold divF;rw[c,d];rfl
theorem u1b {s t:ByteArray} (c:vld s=true) (d:vld t=true) (h:val t≠0):divF s t=(str (dec (val s / val t)),str (dec (val s % val t)),0):=by rw[u3u c d,if_neg h]
theorem u4d {s t:ByteArray} (c:vld s=true) (d:vld t=true):gcdF s t=(str (dec (Nat.gcd (val s) (val t))),0):=by unfold gcdF;rw[c,d];rfl
end
section
open Go.RowKit
def nvS (b:Bool) (n d:ByteArray):Value:=.agg #[.bool b,.string n,.string d]
def nv (q:Rat):Value:=nvS (negQ q) (str (dec q.num.natAbs)) (str (dec q.den))
def txtS (b:Bool) (n d:ByteArray):ByteArray :=
 let s:=if b then (⟨#[45]⟩:ByteArray)++n else n
 if d=⟨#[49]⟩ then s else s++((⟨#[47]⟩:ByteArray)++d)
theorem x8u {s t:ByteArray} (h:s≠t):¬ s.toList=t.toList:=by
 rw[Lib.toList_data,Lib.toList_data];intro e;apply h;exact y7w e
theorem z4i {s:ByteArray} {l:List UInt8} (h:s≠str l):(s.toList==l)=false:=by
 rw[beq_eq_false_iff_ne,Lib.toList_data];intro e;apply h;rw[<- e];exact(y4q s).symm
theorem y1m (s t:ByteArray):bts (s++t)=bts s++bts t:=by
 show (s++t).data.toList=_;rw[ByteArray.data_append,Array.toList_append];rfl
theorem v5p (q:Rat):txtS (negQ q) (str (dec q.num.natAbs)) (str (dec q.den))=txt q:=by
 apply y7w
 have c:(str (dec q.den)=⟨#[49]⟩)↔q.den=1:=by
  constructor
  ·intro e;have:=congrArg bts e;rw[z2u] at this;exact z7p (this.trans z5x.symm)
  intro e;rw[e,z5x];rfl
 unfold txtS txt txtL;rw[z2u];by_cases h:q.den=1
 ·rw[if_pos (c.2 h),if_pos h];cases negQ q
  ·simp[z2u]
  simp only[if_true,y1m,z2u];simp[bts]
 rw[if_neg (fun e=>h (c.1 e)),if_neg h];cases negQ q
 ·simp only[Bool.false_eq_true,if_false,y1m,z2u];simp[bts]
 simp only[if_true,y1m,z2u];simp[bts]
theorem x2j (b:Bool) (n d:ByteArray) (w:World) (hn:n.size<=400) (i:d.size<=400) :
  Calls prog 218 #[nvS b n d] w fun e w'=>e=.returned (.string (txtS b n d))/\Below w.heap.size w w':=by
 have k:(n.size:Int)<=8388608:=by omega
 have m:(d.size:Int)<=8388608:=by omega
 clear hn i;have c:Below w.heap.size w (w.alloc (.cells #[.bool b,.string n,.string d] 189)):=blr.alloc nlr _;have g:=qh c;clear c;unfold nvS;by_cases h:d=⟨#[49]⟩
 ·subst h;cases b<;>simp only[txtS,if_true,if_false,Bool.false_eq_true]
  all_goals
   go_enter func218,ntmps218
   go_wp2;go_ret;exact⟨rfl,g.out⟩
 have l:(d.toList==[49])=false:=z4i h;cases b<;>simp only[txtS,if_true,if_false,Bool.false_eq_true]<;>rw[if_neg h]<;>clear h
 ·go_enter func218,ntmps218
  go_wp2;go_ret;exact⟨rfl,g.out⟩
 have j:(((⟨#[45]⟩:ByteArray)++n).size:Int)<=8388609:=by rw[ByteArray.size_append];show ((1+n.size:Nat):Int)<=_;omega
 go_enter func218,ntmps218
 go_wp2;go_ret;exact⟨rfl,g.out⟩
theorem x1x (q:Rat) (w:World) (h:fitQ q) :
  Calls prog 218 #[nv q] w fun e w'=>e=.returned (.string (txt q))/\Below w.heap.size w w':=by
 rw[<- v5p];exact x2j _ _ _ w (by rw[z1f];exact h.1) (by rw[z1f];exact h.2)
theorem z1q (c:ByteArray) (w:World):Calls prog 188 #[.string c,.int .i64 0] w fun e w'=>e=.returned (.string c)/\w=w':=by
 go_enter func188,ntmps188
 go_wp2;go_ret;exact⟨rfl,rfl⟩
end
section
open Go.RowKit
theorem x5f {n k:Nat} (h:n<10 ^ k) (d:k<=1000) (c:1<=k):fits n:=by
 unfold fits;have:=z3q.2 ⟨h,c⟩;omega
theorem z6j {q:Rat} (h:fitQ q):fits q.num.natAbs:=by unfold fits;have:=h.1;omega
theorem z3w {q:Rat} (h:fitQ q):fits q.den:=by unfold fits;have:=h.2;omega
theorem pow400 {n:Nat} (h:(dec n).length<=400):n<10 ^ 400:=(z3q.1 h).1
theorem y4n {m n k:Nat} (c:m<10 ^ k) (d:n<10 ^ k):m*n<10 ^ (k+k):=by rw[Nat.pow_add];exact y5w c d
theorem x9x {a b c d k:Nat} (g:a<10 ^ k) (hb:b<10 ^ k) (h:c<10 ^ k) (i:d<10 ^ k):a*b+c*d<10 ^ (k+k+1):=by
 have j:=y4n g hb;have l:=y4n h i;rw[Nat.pow_succ];omega
theorem z3e {m n:Nat} (c:(dec m).length<=400) (hn:(dec n).length<=400):fits (m*n) :=
 x5f (y4n (pow400 c) (pow400 hn)) (by omega) (by omega)
theorem y8m {a b c d:Nat} (g:(dec a).length<=400) (hb:(dec b).length<=400) (h:(dec c).length<=400) (i:(dec d).length<=400):fits (a*b+c*d) :=
 x5f (x9x (pow400 g) (pow400 hb) (pow400 h) (pow400 i)) (by omega) (by omega)
def StrE (s:ByteArray) (w:World) (e:Ending) (w':World):Prop:=e=.returned (.string s)/\Below w.heap.size w w'
def StrZ (s:ByteArray) (w:World) (e:Ending) (w':World):Prop:=e=.returned (.tuple #[.string s,.int .i64 0])/\Below w.heap.size w w'
theorem u1m (m n:Nat) (w:World) (c:fits m) (hn:fits n) (h:fits (m+n)) (d:Tab w) :
  Calls prog 201 #[.string (str (dec m)),.string (str (dec n))] w (StrZ (str (dec (m+n))) w):=by
 have:=v8p (str (dec m)) (str (dec n)) w (z2m c) (z2m hn) d;rw[v3q (z7i c) (z7i hn) (by rw[z4d,z4d];exact h),z4d,z4d] at this;exact this
theorem x7q (m n:Nat) (w:World) (c:fits m) (hn:fits n) (h:n<=m) (d:Tab w) :
  Calls prog 203 #[.string (str (dec m)),.string (str (dec n))] w (StrZ (str (dec (m-n))) w):=by
 have:=u1k (str (dec m)) (str (dec n)) w (z2m c) (z2m hn) d;rw[u1t (z7i c) (z7i hn) (by rw[z4d,z4d];exact h),z4d,z4d] at this;exact this
theorem z4x (m n:Nat) (w:World) (c:fits m) (hn:fits n) (h:fits (m*n)) (d:Tab w) :
  Calls prog 189 #[.string (str (dec m)),.string (str (dec n))] w (StrZ (str (dec (m*n))) w):=by
 have:=v9x (str (dec m)) (str (dec n)) w (z2m c) (z2m hn) d;rw[v4w (z7i c) (z7i hn) (by rw[z4d,z4d];exact h),z4d,z4d] at this;exact this
theorem v1i (m n:Nat) (w:World) (c:fits m) (hn:fits n) (d:Tab w) :
  Calls prog 208 #[.string (str (dec m)),.string (str (dec n))] w (StrZ (str (dec (Nat.gcd m n))) w):=by
 have:=v9c (str (dec m)) (str (dec n)) w (z2m c) (z2m hn) d;rw[u4d (z7i c) (z7i hn),z4d,z4d] at this;exact this
theorem v9j (m n:Nat) (w:World) (c:fits m) (hn:fits n) (h:n≠0) (d:Tab w) :
  Calls prog 224 #[.string (str (dec m)),.string (str (dec n))] w fun e w'=>e=.returned (.tuple #[.string (str (dec (m / n))),.string (str (dec (m % n))),.int .i64 0])/\Below w.heap.size w w':=by
 have:=v9v (str (dec m)) (str (dec n)) w (z2m c) (z2m hn) d;rw[u1b (z7i c) (z7i hn) (by rw[z4d];exact h),z4d,z4d] at this;exact this
theorem x9w (m n:Nat) (w:World) (c:fits m) (hn:fits n) :
  Calls prog 202 #[.string (str (dec m)),.string (str (dec n))] w (IntEnd (cmpN m n) w):=by
 have:=u0c (str (dec m)) (str (dec n)) w (z2m c) (z2m hn);unfold cmpF at this;rw[z7i c,z7i hn,z4d,z4d] at this;exact this
theorem x8c (m n:Nat) (w:World) (d:fits m) (hn:fits n) (h:n≠0) (c:Tab w) :
  Calls prog 209 #[.string (str (dec m)),.string (str (dec n))] w (StrE (str (dec (m / n))) w):=by
 have g:=v9j m n w d hn h c;have j:=qh g;clear g d hn h c
 go_enter func209,ntmps209
 go_wp2_with fail
 refine nxa j.out fun l i=>?_
 go_wp2_with fail
 refine(z1q _ _).mono ?_;rintro e k ⟨rfl,rfl⟩;go_wp2;go_ret;exact⟨rfl,i.out⟩
theorem y1f (p q:Bool) (m n:Nat) (w:World) (h:fits (m+n)) (k:Tab w) :
  Calls prog 187 #[.bool p,.string (str (dec m)),.bool q,.string (str (dec n))] w fun e w' =>
   e=.returned (.tuple #[.bool (sumF p m q n).1,.string (str (dec (sumF p m q n).2))])/\Below w.heap.size w w':=by
 have u:fits m:=z9f h (by omega);have o:fits n:=z9f h (by omega);by_cases g:p=q
 ·subst g;have A:sumF p m p n=(p,m+n):=by unfold sumF;rw[if_pos rfl]
  rw[A];have l:=u1m m n w u o h k;have C:=qh l;clear l u o h k A;have L:(p==p)=true:=by cases p<;>rfl
  go_enter func187,ntmps187
  go_wp2_with fail
  refine nxa C.out fun s J=>?_
  go_wp2_with fail
  refine(z1q _ _).mono ?_;rintro e H ⟨rfl,rfl⟩;go_wp2;go_ret2;exact⟨rfl,J.out⟩
 have hb:(p==q)=false:=by rw[beq_eq_false_iff_ne];exact g
 by_cases d:m<n
 ·have A:sumF p m q n=(q,n-m):=by unfold sumF;rw[if_neg g,if_pos d]
  rw[A];have l:=x9w m n w u o;rw[z8b d] at l;have D:=fun s k=>x7q n m s o u (Nat.le_of_lt d) k;have C:=qh l;clear l;have F:=qh D;clear D;have G:=qh k;clear u o h k A d g
  go_enter func187,ntmps187
  go_wp2_with fail
  refine C.out.mono ?_;rintro e s ⟨rfl,i⟩;have c:=qh i;clear i
  go_wp2_with fail
  refine(F.out s (G.out.below c.out nlr)).mono ?_;rintro e H ⟨rfl,j⟩;have B:=qh (c.out.trans (j.mono c.out.size));clear j
  go_wp2_with fail
  refine(z1q _ _).mono ?_;rintro e K ⟨rfl,rfl⟩;go_wp2;go_ret2;exact⟨rfl,B.out⟩
 have A:sumF p m q n=(p,m-n):=by unfold sumF;rw[if_neg g,if_neg d]
 rw[A];have l:=x9w m n w u o;have E:0<=cmpN m n:=by
  rcases Nat.lt_or_ge n m with I|I
  ·rw[z8c I];omega
  rw[y0y (by omega)];omega
 generalize cmpN m n=z at l E;have D:=fun s k=>x7q m n s u o (by omega) k;have C:=qh l;clear l;have F:=qh D;clear D;have G:=qh k;clear u o h k A d g
 go_enter func187,ntmps187
 go_wp2_with fail
 refine C.out.mono ?_;rintro e s ⟨rfl,i⟩;have c:=qh i;clear i
 go_wp2_with fail
 refine(F.out s (G.out.below c.out nlr)).mono ?_;rintro e H ⟨rfl,j⟩;have B:=qh (c.out.trans (j.mono c.out.size));clear j
 go_wp2_with fail
 refine(z1q _ _).mono ?_;rintro e K ⟨rfl,rfl⟩;go_wp2;go_ret2;exact⟨rfl,B.out⟩
end
section
open Go.RowKit
def PT:Ending:=.panicked [{ v:=.iface 198 (.agg #[]),recovered:=false }]
def QEnd (q:Rat) (w:World) (e:Ending) (w':World):Prop:=e=(if fitQ q then .returned (nv q) else PT)/\Below w.heap.size w w'
theorem res3 {w g:World} {a b c:Value} {t:TypeId} (h:Below (w.alloc (.cells #[a,b,c] t)).heap.size (w.alloc (.cells #[a,b,c] t)) g) :
  g.cell? ⟨w.heap.size,0,none⟩=some a/\g.cell? ⟨w.heap.size,1,none⟩=some b/\g.cell? ⟨w.heap.size,2,none⟩=some c/\g.frozen? ⟨w.heap.size,0,none⟩=false/\g.frozen? ⟨w.heap.size,1,none⟩=false/\g.frozen? ⟨w.heap.size,2,none⟩=false/\w.heap.size<g.heap.size:=by
 have i:=h.size;have d:w.heap.size<(w.alloc (.cells #[a,b,c] t)).heap.size:=by simp
 refine⟨?_,?_,?_,?_,?_,?_,by omega⟩
 ·exact(h.cell (p:=⟨w.heap.size,0,none⟩) d).trans (by simp)
 ·exact(h.cell (p:=⟨w.heap.size,1,none⟩) d).trans (by simp)
 ·exact(h.cell (p:=⟨w.heap.size,2,none⟩) d).trans (by simp)
 ·exact(h.frozen (p:=⟨w.heap.size,0,none⟩) d).trans (by simp)
 ·exact(h.frozen (p:=⟨w.heap.size,1,none⟩) d).trans (by simp)
 exact(h.frozen (p:=⟨w.heap.size,2,none⟩) d).trans (by simp)
theorem set3 {w:World} {n:Nat} {a b c a' b' c':Value} (k0:w.cell? ⟨n,0,none⟩=some a) (d:w.cell? ⟨n,1,none⟩=some b) (g:w.cell? ⟨n,2,none⟩=some c) :
  (((w.setCell ⟨n,0,none⟩ a').setCell ⟨n,1,none⟩ b').setCell ⟨n,2,none⟩ c').cell? ⟨n,0,none⟩=some a'/\(((w.setCell ⟨n,0,none⟩ a').setCell ⟨n,1,none⟩ b').setCell ⟨n,2,none⟩ c').cell? ⟨n,1,none⟩=some b'/\(((w.setCell ⟨n,0,none⟩ a').setCell ⟨n,1,none⟩ b').setCell ⟨n,2,none⟩ c').cell? ⟨n,2,none⟩=some c':=by
 refine⟨?_,?_,?_⟩<;>simp[go_sem,k0,d,g]
theorem z3p {fn:Func} {p:Tmp} (h:fn.results=#[.cell p 189]) (c:Array Value) (W:World) (n:Nat) (r:Bool) (x y:ByteArray)
  (g:c.getD p undef=.pointer (some ⟨n,0,none⟩)) (c0:W.cell? ⟨n,0,none⟩=some (.bool r)) (c1:W.cell? ⟨n,1,none⟩=some (.string x)) (c2:W.cell? ⟨n,2,none⟩=some (.string y)) :
  (results fn c).run prog W=.ok (.agg #[.bool r,.string x,.string y]) W:=by
 have d:c[p]?.getD undef=.pointer (some ⟨n,0,none⟩):=by rw[<- g];simp
 simp only[results,h];simp[d,go_sem,c0,c1,c2]
theorem x6d (s:Bool) (a b g x y:ByteArray) (r:Bool) (w:World) (Y:(s=false/\r=false)\/(s=true/\(a.toList==[48])=!r))
  (J:x.size<=1000) (I:y.size<=1000)
  (c1:∀ wx,Below w.heap.size w wx->Calls prog 208 #[.string a,.string b] wx (StrZ g wx))
  (c2:∀ wx,Below w.heap.size w wx->Calls prog 209 #[.string a,.string g] wx (StrE x wx))
  (c3:∀ wx,Below w.heap.size w wx->Calls prog 209 #[.string b,.string g] wx (StrE y wx)) :
  Calls prog 190 #[.bool s,.string a,.string b] w fun e w' =>
   e=(if x.size<=400/\y.size<=400 then .returned (nvS r x y) else PT)/\Below w.heap.size w w':=by
 have L:=qh c1;clear c1;have N:=qh c2;clear c2;have K:=qh c3;clear c3;have U:Below w.heap.size w (w.alloc (.cells #[.bool false,.string ⟨#[]⟩,.string ⟨#[]⟩] 189)):=blr.alloc nlr _;have l:=qh U;clear U;have D:(x.size<=400/\y.size<=400)\/(x.size<=400/\400<y.size)\/400<x.size:=by omega
 unfold PT nvS
 rcases Y with ⟨rfl,rfl⟩|⟨rfl,X⟩
 ·-- no sign
  rcases D with ⟨A,E⟩|⟨A,E⟩|A
  ·rw[if_pos ⟨A,E⟩];have P:(x.size:Int)<=400:=by omega
   have W:(y.size:Int)<=400:=by omega
   clear A E;clear J I
   go_enter func190,ntmps190
   go_wp2_with fail
   refine(L.out _ l.out).mono ?_;rintro e S ⟨rfl,c⟩;have o:=qh c;have j:=qh (l.out.trans (c.mono l.out.size));clear c
   go_wp2_with fail
   refine(z1q _ _).mono ?_;rintro e B ⟨rfl,rfl⟩
   go_wp2_with fail
   refine(N.out _ j.out).mono ?_;rintro e B ⟨rfl,k⟩;have m:=qh (o.out.trans (k.mono o.out.size));have i:=qh (j.out.trans (k.mono j.out.size));clear k
   go_wp2_with fail
   refine(K.out _ i.out).mono ?_;rintro e O ⟨rfl,d⟩;have u:=qh (m.out.trans (d.mono m.out.size));have p:=qh (i.out.trans (d.mono i.out.size));clear d;obtain⟨G,H,F,T,Q,R,z⟩:=res3 u.out;have C:=qh p.out.size
   go_wp2_with fail
   obtain⟨s0,s1,s2⟩:=set3 (a':=.bool false) (b':=.string x) (c':=.string y) G H F;refine bodyPost_ret (z3p rfl _ _ w.heap.size false x y rfl ?_ ?_ ?_) rfl ⟨rfl,?_⟩
   ·rw[World.cell?_alloc_past (hn:=by simpa using z)];exact s0
   ·rw[World.cell?_alloc_past (hn:=by simpa using z)];exact s1
   ·rw[World.cell?_alloc_past (hn:=by simpa using z)];exact s2
   exact(((p.out.setCell nlr _).setCell nlr _).setCell nlr _).alloc (by simpa using C.out) _
  ·rw[if_neg (fun h=>by omega)];have P:(x.size:Int)<=400:=by omega
   have W:(400:Int)<(y.size:Int):=by omega
   clear A E;clear J I
   go_enter func190,ntmps190
   go_wp2_with fail
   refine(L.out _ l.out).mono ?_;rintro e S ⟨rfl,c⟩;have o:=qh c;have j:=qh (l.out.trans (c.mono l.out.size));clear c
   go_wp2_with fail
   refine(z1q _ _).mono ?_;rintro e B ⟨rfl,rfl⟩
   go_wp2_with fail
   refine(N.out _ j.out).mono ?_;rintro e B ⟨rfl,k⟩;have m:=qh (o.out.trans (k.mono o.out.size));have i:=qh (j.out.trans (k.mono j.out.size));clear k
   go_wp2_with fail
   refine(K.out _ i.out).mono ?_;rintro e O ⟨rfl,d⟩;have u:=qh (m.out.trans (d.mono m.out.size));have p:=qh (i.out.trans (d.mono i.out.size));clear d;obtain⟨G,H,F,T,Q,R,z⟩:=res3 u.out;have C:=qh p.out.size
   go_wp2_with fail
   exact⟨rfl,rfl,p.out.alloc C.out _⟩
  rw[if_neg (fun h=>by omega)];have P:(400:Int)<(x.size:Int):=by omega
  clear A;clear J I
  go_enter func190,ntmps190
  go_wp2_with fail
  refine(L.out _ l.out).mono ?_;rintro e S ⟨rfl,c⟩;have o:=qh c;have j:=qh (l.out.trans (c.mono l.out.size));clear c
  go_wp2_with fail
  refine(z1q _ _).mono ?_;rintro e B ⟨rfl,rfl⟩
  go_wp2_with fail
  refine(N.out _ j.out).mono ?_;rintro e B ⟨rfl,k⟩;have m:=qh (o.out.trans (k.mono o.out.size));have i:=qh (j.out.trans (k.mono j.out.size));clear k
  go_wp2_with fail
  refine(K.out _ i.out).mono ?_;rintro e O ⟨rfl,d⟩;have u:=qh (m.out.trans (d.mono m.out.size));have p:=qh (i.out.trans (d.mono i.out.size));clear d;obtain⟨G,H,F,T,Q,R,z⟩:=res3 u.out;have C:=qh p.out.size
  go_wp2_with fail
  exact⟨rfl,rfl,p.out.alloc C.out _⟩
 cases r<;>simp only[Bool.not_true,Bool.not_false] at X
 ·-- zero
  rcases D with ⟨A,E⟩|⟨A,E⟩|A
  ·rw[if_pos ⟨A,E⟩];have P:(x.size:Int)<=400:=by omega
   have W:(y.size:Int)<=400:=by omega
   clear A E;clear J I
   go_enter func190,ntmps190
   go_wp2_with fail
   refine(L.out _ l.out).mono ?_;rintro e S ⟨rfl,c⟩;have o:=qh c;have j:=qh (l.out.trans (c.mono l.out.size));clear c
   go_wp2_with fail
   refine(z1q _ _).mono ?_;rintro e B ⟨rfl,rfl⟩
   go_wp2_with fail
   refine(N.out _ j.out).mono ?_;rintro e B ⟨rfl,k⟩;have m:=qh (o.out.trans (k.mono o.out.size));have i:=qh (j.out.trans (k.mono j.out.size));clear k
   go_wp2_with fail
   refine(K.out _ i.out).mono ?_;rintro e O ⟨rfl,d⟩;have u:=qh (m.out.trans (d.mono m.out.size));have p:=qh (i.out.trans (d.mono i.out.size));clear d;obtain⟨G,H,F,T,Q,R,z⟩:=res3 u.out;have C:=qh p.out.size
   go_wp2_with fail
   obtain⟨s0,s1,s2⟩:=set3 (a':=.bool false) (b':=.string x) (c':=.string y) G H F;refine bodyPost_ret (z3p rfl _ _ w.heap.size false x y rfl ?_ ?_ ?_) rfl ⟨rfl,?_⟩
   ·rw[World.cell?_alloc_past (hn:=by simpa using z)];exact s0
   ·rw[World.cell?_alloc_past (hn:=by simpa using z)];exact s1
   ·rw[World.cell?_alloc_past (hn:=by simpa using z)];exact s2
   exact(((p.out.setCell nlr _).setCell nlr _).setCell nlr _).alloc (by simpa using C.out) _
  ·rw[if_neg (fun h=>by omega)];have P:(x.size:Int)<=400:=by omega
   have W:(400:Int)<(y.size:Int):=by omega
   clear A E;clear J I
   go_enter func190,ntmps190
   go_wp2_with fail
   refine(L.out _ l.out).mono ?_;rintro e S ⟨rfl,c⟩;have o:=qh c;have j:=qh (l.out.trans (c.mono l.out.size));clear c
   go_wp2_with fail
   refine(z1q _ _).mono ?_;rintro e B ⟨rfl,rfl⟩
   go_wp2_with fail
   refine(N.out _ j.out).mono ?_;rintro e B ⟨rfl,k⟩;have m:=qh (o.out.trans (k.mono o.out.size));have i:=qh (j.out.trans (k.mono j.out.size));clear k
   go_wp2_with fail
   refine(K.out _ i.out).mono ?_;rintro e O ⟨rfl,d⟩;have u:=qh (m.out.trans (d.mono m.out.size));have p:=qh (i.out.trans (d.mono i.out.size));clear d;obtain⟨G,H,F,T,Q,R,z⟩:=res3 u.out;have C:=qh p.out.size
   go_wp2_with fail
   exact⟨rfl,rfl,p.out.alloc C.out _⟩
  rw[if_neg (fun h=>by omega)];have P:(400:Int)<(x.size:Int):=by omega
  clear A;clear J I
  go_enter func190,ntmps190
  go_wp2_with fail
  refine(L.out _ l.out).mono ?_;rintro e S ⟨rfl,c⟩;have o:=qh c;have j:=qh (l.out.trans (c.mono l.out.size));clear c
  go_wp2_with fail
  refine(z1q _ _).mono ?_;rintro e B ⟨rfl,rfl⟩
  go_wp2_with fail
  refine(N.out _ j.out).mono ?_;rintro e B ⟨rfl,k⟩;have m:=qh (o.out.trans (k.mono o.out.size));have i:=qh (j.out.trans (k.mono j.out.size));clear k
  go_wp2_with fail
  refine(K.out _ i.out).mono ?_;rintro e O ⟨rfl,d⟩;have u:=qh (m.out.trans (d.mono m.out.size));have p:=qh (i.out.trans (d.mono i.out.size));clear d;obtain⟨G,H,F,T,Q,R,z⟩:=res3 u.out;have C:=qh p.out.size
  go_wp2_with fail
  exact⟨rfl,rfl,p.out.alloc C.out _⟩
 rcases D with ⟨A,E⟩|⟨A,E⟩|A
 ·rw[if_pos ⟨A,E⟩];have P:(x.size:Int)<=400:=by omega
  have W:(y.size:Int)<=400:=by omega
  clear A E;clear J I
  go_enter func190,ntmps190
  go_wp2_with fail
  refine(L.out _ l.out).mono ?_;rintro e S ⟨rfl,c⟩;have o:=qh c;have j:=qh (l.out.trans (c.mono l.out.size));clear c
  go_wp2_with fail
  refine(z1q _ _).mono ?_;rintro e B ⟨rfl,rfl⟩
  go_wp2_with fail
  refine(N.out _ j.out).mono ?_;rintro e B ⟨rfl,k⟩;have m:=qh (o.out.trans (k.mono o.out.size));have i:=qh (j.out.trans (k.mono j.out.size));clear k
  go_wp2_with fail
  refine(K.out _ i.out).mono ?_;rintro e O ⟨rfl,d⟩;have u:=qh (m.out.trans (d.mono m.out.size));have p:=qh (i.out.trans (d.mono i.out.size));clear d;obtain⟨G,H,F,T,Q,R,z⟩:=res3 u.out;have C:=qh p.out.size
  go_wp2_with fail
  obtain⟨s0,s1,s2⟩:=set3 (a':=.bool true) (b':=.string x) (c':=.string y) G H F;refine bodyPost_ret (z3p rfl _ _ w.heap.size true x y rfl ?_ ?_ ?_) rfl ⟨rfl,?_⟩
  ·rw[World.cell?_alloc_past (hn:=by simpa using z)];exact s0
  ·rw[World.cell?_alloc_past (hn:=by simpa using z)];exact s1
  ·rw[World.cell?_alloc_past (hn:=by simpa using z)];exact s2
  exact(((p.out.setCell nlr _).setCell nlr _).setCell nlr _).alloc (by simpa using C.out) _
 ·rw[if_neg (fun h=>by omega)];have P:(x.size:Int)<=400:=by omega
  have W:(400:Int)<(y.size:Int):=by omega
  clear A E;clear J I
  go_enter func190,ntmps190
  go_wp2_with fail
  refine(L.out _ l.out).mono ?_;rintro e S ⟨rfl,c⟩;have o:=qh c;have j:=qh (l.out.trans (c.mono l.out.size));clear c
  go_wp2_with fail
  refine(z1q _ _).mono ?_;rintro e B ⟨rfl,rfl⟩
  go_wp2_with fail
  refine(N.out _ j.out).mono ?_;rintro e B ⟨rfl,k⟩;have m:=qh (o.out.trans (k.mono o.out.size));have i:=qh (j.out.trans (k.mono j.out.size));clear k
  go_wp2_with fail
  refine(K.out _ i.out).mono ?_;rintro e O ⟨rfl,d⟩;have u:=qh (m.out.trans (d.mono m.out.size));have p:=qh (i.out.trans (d.mono i.out.size));clear d;obtain⟨G,H,F,T,Q,R,z⟩:=res3 u.out;have C:=qh p.out.size
  go_wp2_with fail
  exact⟨rfl,rfl,p.out.alloc C.out _⟩
 rw[if_neg (fun h=>by omega)];have P:(400:Int)<(x.size:Int):=by omega
 clear A;clear J I
 go_enter func190,ntmps190
 go_wp2_with fail
 refine(L.out _ l.out).mono ?_;rintro e S ⟨rfl,c⟩;have o:=qh c;have j:=qh (l.out.trans (c.mono l.out.size));clear c
 go_wp2_with fail
 refine(z1q _ _).mono ?_;rintro e B ⟨rfl,rfl⟩
 go_wp2_with fail
 refine(N.out _ j.out).mono ?_;rintro e B ⟨rfl,k⟩;have m:=qh (o.out.trans (k.mono o.out.size));have i:=qh (j.out.trans (k.mono j.out.size));clear k
 go_wp2_with fail
 refine(K.out _ i.out).mono ?_;rintro e O ⟨rfl,d⟩;have u:=qh (m.out.trans (d.mono m.out.size));have p:=qh (i.out.trans (d.mono i.out.size));clear d;obtain⟨G,H,F,T,Q,R,z⟩:=res3 u.out;have C:=qh p.out.size
 go_wp2_with fail
 exact⟨rfl,rfl,p.out.alloc C.out _⟩
theorem y0i (s:Bool) (m d:Nat) (w:World) (u:fits m) (i:fits d) (j:d≠0) (B:Tab w) :
  Calls prog 190 #[.bool s,.string (str (dec m)),.string (str (dec d))] w (QEnd (mkRat (sg s m) d) w):=by
 obtain⟨o,z,F⟩:=v1w (sg s m) d j;rw[x9p] at o z;have A:fits (Nat.gcd m d):=z9f i (Nat.le_of_dvd (Nat.pos_of_ne_zero j) (Nat.gcd_dvd_right _ _));have g:Nat.gcd m d≠0:=by have:=Nat.gcd_pos_of_pos_right m (Nat.pos_of_ne_zero j);omega
 have p:∀ c,Below w.heap.size w c->Tab c:=fun c h=>B.below h nlr;have E:fits (m / Nat.gcd m d):=z9f u (Nat.div_le_self _ _);have D:fits (d / Nat.gcd m d):=z9f i (Nat.div_le_self _ _);have G:=x6d s (str (dec m)) (str (dec d)) (str (dec (Nat.gcd m d))) (str (dec (m / Nat.gcd m d))) (str (dec (d / Nat.gcd m d))) (negQ (mkRat (sg s m) d)) w ?_ ?_ ?_
  (fun c h=>v1i m d c u i (p c h)) (fun c h=>x8c m _ c u A g (p c h)) (fun c h=>x8c d _ c i A g (p c h))
 ·refine G.mono ?_;rintro e H ⟨rfl,hb⟩;refine⟨?_,hb⟩;have hf:fitQ (mkRat (sg s m) d)↔((str (dec (m / Nat.gcd m d))).size<=400/\(str (dec (d / Nat.gcd m d))).size<=400):=by
   unfold fitQ;rw[o,z,z1f,z1f]
  have C:nv (mkRat (sg s m) d)=nvS (negQ (mkRat (sg s m) d)) (str (dec (m / Nat.gcd m d))) (str (dec (d / Nat.gcd m d))):=by
   unfold nv;rw[o,z]
  rw[C];by_cases h:fitQ (mkRat (sg s m) d)
  ·rw[if_pos h,if_pos (hf.1 h)]
  rw[if_neg h,if_neg (fun e=>h (hf.2 e))]
 ·rw[F];cases s
  ·left;refine⟨rfl,?_⟩;rw[decide_eq_false_iff_not,v7y];simp
  right;refine⟨rfl,?_⟩
  by_cases k:m=0
  ·subst k;rw[z5e,Lib.toList_data];rfl
  have:(decide (sg true m<0))=true:=by rw[decide_eq_true_eq,v7y];exact⟨rfl,k⟩
  rw[this];exact z4i (l:=[48]) (fun e=>k (z7p ((by have:=congrArg bts e;rw[z2u,z2u] at this;exact this:dec m=[48]).trans z5e.symm)))
 ·rw[z1f];exact E
 rw[z1f];exact D
end
section
open Go.RowKit
theorem z0a {W a b:World} (h:Below W.heap.size W a) (hb:Below a.heap.size a b):Below W.heap.size W b:=h.trans (hb.mono h.size)
def WR (p q:Bool) (xn xd yn yd:ByteArray) (w:World):World :=
 ((w.alloc (.cells #[.bool p,.string xn,.string xd] 189)).alloc (.cells #[.bool q,.string yn,.string yd] 189)).alloc (.cells #[.bool false,.string ⟨#[]⟩,.string ⟨#[]⟩] 189)
theorem y2n (p q:Bool) (d g c h:ByteArray) (w:World):Below w.heap.size w (WR p q d g c h w):=by
 unfold WR;exact((blr.alloc nlr _).alloc (by simp) _).alloc (by simp;omega) _
theorem z6g {p q:Bool} {g l j i:ByteArray} {w d:World} (h:Below (WR p q g l j i w).heap.size (WR p q g l j i w) d) :
  Below (WR p q g l j i w).heap.size (WR p q g l j i w) d /\
  d.cell? ⟨w.heap.size,0,none⟩=some (.bool p)/\d.cell? ⟨w.heap.size,1,none⟩=some (.string g)/\d.cell? ⟨w.heap.size,2,none⟩=some (.string l) /\
  d.cell? ⟨w.heap.size+1,0,none⟩=some (.bool q)/\d.cell? ⟨w.heap.size+1,1,none⟩=some (.string j)/\d.cell? ⟨w.heap.size+1,2,none⟩=some (.string i):=by
 have c:∀ k,k<3->w.heap.size+k<(WR p q g l j i w).heap.size:=by intro k m;unfold WR;simp;omega
 refine⟨h,?_,?_,?_,?_,?_,?_⟩
 ·exact(h.cell (p:=⟨w.heap.size,0,none⟩) (c 0 (by omega))).trans (by simp[WR,go_sem])
 ·exact(h.cell (p:=⟨w.heap.size,1,none⟩) (c 0 (by omega))).trans (by simp[WR,go_sem])
 ·exact(h.cell (p:=⟨w.heap.size,2,none⟩) (c 0 (by omega))).trans (by simp[WR,go_sem])
 ·exact(h.cell (p:=⟨w.heap.size+1,0,none⟩) (c 1 (by omega))).trans (by simp[WR,go_sem])
 ·exact(h.cell (p:=⟨w.heap.size+1,1,none⟩) (c 1 (by omega))).trans (by simp[WR,go_sem])
 exact(h.cell (p:=⟨w.heap.size+1,2,none⟩) (c 1 (by omega))).trans (by simp[WR,go_sem])
theorem y6m {p q:Bool} {g j d i:ByteArray} {w c:World} (h:Below (WR p q g j d i w).heap.size (WR p q g j d i w) c) :
  c.cell? ⟨w.heap.size+1+1,0,none⟩=some (.bool false)/\c.cell? ⟨w.heap.size+1+1,1,none⟩=some (.string ⟨#[]⟩)/\c.cell? ⟨w.heap.size+1+1,2,none⟩=some (.string ⟨#[]⟩) /\
  c.frozen? ⟨w.heap.size+1+1,0,none⟩=false/\c.frozen? ⟨w.heap.size+1+1,1,none⟩=false/\c.frozen? ⟨w.heap.size+1+1,2,none⟩=false:=by
 have e:w.heap.size+1+1=((w.alloc (.cells #[.bool p,.string g,.string j] 189)).alloc (.cells #[.bool q,.string d,.string i] 189)).heap.size:=by simp
 rw[e];obtain⟨s,l,m,o,u,k,_⟩:=res3 h;exact⟨s,l,m,o,u,k⟩
theorem u3c {P:Program} {fn:Func} {R:Ending->World->Prop} {c:List PanicEntry} {a:Act} {w:World} {S:World->Prop} {G:Act->World->Prop} {g:Act->World->Prop}
  (_:Shut (∀ a w,S w->(S w->G a w)->g a w)) (d:Tmp) (v:Value) (h:bodyPost P fn R (.panic c) a w) (_:Hid False->g (a.put (some d) v) w):bodyPost P fn R (.panic c) a w:=h
theorem y2m {p q:Bool} {d i c g:ByteArray} {w j:World} (h:Below (WR p q d i c g w).heap.size (WR p q d i c g w) j):Below (w.heap.size+1+1) (WR p q d i c g w) j:=by
 refine h.mono ?_;unfold WR;simp
theorem z2n {p q:Bool} {g l k j:ByteArray} {w c:World} (h:Below (w.heap.size+1+1) (WR p q g l k j w) c) :
  Below (w.heap.size+1+1) (WR p q g l k j w) c /\
  c.cell? ⟨w.heap.size,0,none⟩=some (.bool p)/\c.cell? ⟨w.heap.size,1,none⟩=some (.string g)/\c.cell? ⟨w.heap.size,2,none⟩=some (.string l) /\
  c.cell? ⟨w.heap.size+1,0,none⟩=some (.bool q)/\c.cell? ⟨w.heap.size+1,1,none⟩=some (.string k)/\c.cell? ⟨w.heap.size+1,2,none⟩=some (.string j):=by
 have i:w.heap.size<w.heap.size+1+1:=by omega
 have d:w.heap.size+1<w.heap.size+1+1:=by omega
 refine⟨h,?_,?_,?_,?_,?_,?_⟩
 ·exact(h.cell (p:=⟨w.heap.size,0,none⟩) i).trans (by simp[WR,go_sem])
 ·exact(h.cell (p:=⟨w.heap.size,1,none⟩) i).trans (by simp[WR,go_sem])
 ·exact(h.cell (p:=⟨w.heap.size,2,none⟩) i).trans (by simp[WR,go_sem])
 ·exact(h.cell (p:=⟨w.heap.size+1,0,none⟩) d).trans (by simp[WR,go_sem])
 ·exact(h.cell (p:=⟨w.heap.size+1,1,none⟩) d).trans (by simp[WR,go_sem])
 exact(h.cell (p:=⟨w.heap.size+1,2,none⟩) d).trans (by simp[WR,go_sem])
end
section
open Go.RowKit
theorem x5s (w:World):(Instr.typeAssert .nilIface 20 198 true).run prog w=.ok (.tuple #[.agg #[],.bool false]) w:=by kernel_rfl
theorem x2b (w:World):(Instr.typeAssert (.iface 198 (.agg #[])) 20 198 true).run prog w=.ok (.tuple #[.agg #[],.bool true]) w:=by kernel_rfl
theorem x6p (p q:Addr) (w:World) :
  CallsD prog 217 #[.pointer (some p),.pointer (some q)] .returning w fun e u' w'=>e=.returned (.tuple #[])/\u'=.returning/\Below w.heap.size w w':=by
 have d:Below w.heap.size w (w.alloc (.cells #[] 198)):=blr.alloc nlr _;refine callsD_of_wpS func217 rfl fun h i g=>?_;simp only[ntmps217,List.size_toArray,List.length_cons,List.length_nil,Nat.reduceAdd,Nat.reduceSub,Array.replicate_succ,
   Array.replicate_zero,List.push_toArray,List.append_toArray,List.nil_append,List.cons_append]
 apply wpS_seq
 apply wpS_region
 simp[wpOpsS,go_sem,recoverD,g,Exit.thenS,x5s];refine wpS_of_wp ?_;go_wp2;refine⟨rfl,.returning,?_,.tuple #[],?_,rfl,rfl,d⟩
 ·rw[<- g]
 exact results_none rfl _ _ _
theorem x7a (b c:Nat) (w:World) (s:ByteArray) (n:Int) (k:w.cell? ⟨b,0,none⟩=some (.string s)) (z:w.cell? ⟨c,0,none⟩=some (.int .i64 n)) (F:w.frozen? ⟨b,0,none⟩=false) (E:w.frozen? ⟨c,0,none⟩=false) (hb:b<w.heap.size) (l:c<w.heap.size) (d:¬ b=c) :
  CallsD prog 217 #[.pointer (some ⟨b,0,none⟩),.pointer (some ⟨c,0,none⟩)] (.panicking ({ v:=.iface 198 (.agg #[]),recovered:=false }::[])) w fun e u' w' =>
   e=.returned (.tuple #[])/\u'=.panicking ({ v:=.iface 198 (.agg #[]),recovered:=true }::[])/\w'.cell? ⟨b,0,none⟩=some (.string ⟨#[]⟩)/\w'.cell? ⟨c,0,none⟩=some (.int .i64 2) /\
    ∀ B a,Below B a w->B<=b->B<=c->Below B a w':=by
 refine callsD_of_wpS func217 rfl fun D G i=>?_;simp only[ntmps217,List.size_toArray,List.length_cons,List.length_nil,Nat.reduceAdd,Nat.reduceSub,Array.replicate_succ,
   Array.replicate_zero,List.push_toArray,List.append_toArray,List.nil_append,List.cons_append]
 apply wpS_seq
 apply wpS_region
 simp[wpOpsS,go_sem,recoverD,i,Exit.thenS,x2b];refine wpS_of_wp ?_;go_wp2;have j:(w.setCell ⟨b,0,none⟩ (.string ⟨#[]⟩)).cell? ⟨b,0,none⟩=some (.string ⟨#[]⟩):=World.cell?_setCell_same _ _ _ k;have C:(w.setCell ⟨b,0,none⟩ (.string ⟨#[]⟩)).cell? ⟨c,0,none⟩=some (.int .i64 n):=(World.cell?_setCell_other _ ⟨b,0,none⟩ ⟨c,0,none⟩ _ (fun e=>d (by injection e))).trans z;have u:=World.cell?_setCell_same _ _ (.int .i64 2) C;have o:=(World.cell?_setCell_other _ ⟨c,0,none⟩ ⟨b,0,none⟩ (.int .i64 2) (fun e=>d (by injection e with e _;exact e.symm))).trans j;have g:∀ (x y:Value),((w.setCell ⟨b,0,none⟩ x).setCell ⟨c,0,none⟩ y).heap.size=w.heap.size:=fun x y=>by simp
 refine⟨rfl,.panicking [{ v:=.iface 198 (.agg #[]),recovered:=true }],rfl,.tuple #[],results_none rfl _ _ _,rfl,rfl,?_,?_,?_⟩
 ·rw[World.cell?_alloc_past (hn:=by rw[g];exact hb)];exact o
 ·rw[World.cell?_alloc_past (hn:=by rw[g];exact l)];exact u
 intro B a h p m;have A:B<=w.heap.size:=by omega
 exact((h.setCell p _).setCell m _).alloc (by rw[g];exact A) _
theorem x0p {w c:World} {a b:Value} {t u:TypeId} (h:Below ((w.alloc (.cells #[a] t)).alloc (.cells #[b] u)).heap.size ((w.alloc (.cells #[a] t)).alloc (.cells #[b] u)) c) :
  c.cell? ⟨w.heap.size,0,none⟩=some a/\c.cell? ⟨w.heap.size+1,0,none⟩=some b/\c.frozen? ⟨w.heap.size,0,none⟩=false/\c.frozen? ⟨w.heap.size+1,0,none⟩=false/\w.heap.size+1<c.heap.size:=by
 have i:=h.size;have e:((w.alloc (.cells #[a] t)).alloc (.cells #[b] u)).heap.size=w.heap.size+1+1:=by simp
 rw[e] at i;have g:w.heap.size<((w.alloc (.cells #[a] t)).alloc (.cells #[b] u)).heap.size:=by rw[e];omega
 have d:w.heap.size+1<((w.alloc (.cells #[a] t)).alloc (.cells #[b] u)).heap.size:=by rw[e];omega
 refine⟨?_,?_,?_,?_,by omega⟩
 ·exact(h.cell (p:=⟨w.heap.size,0,none⟩) g).trans (by simp[go_sem])
 ·exact(h.cell (p:=⟨w.heap.size+1,0,none⟩) d).trans (by simp[go_sem])
 ·exact(h.frozen (p:=⟨w.heap.size,0,none⟩) g).trans (by simp[go_sem])
 exact(h.frozen (p:=⟨w.heap.size+1,0,none⟩) d).trans (by simp[go_sem])
theorem u2x:∀ args w,(callFunc 200 args).run prog w=.ok (.enter 200 args) w:=fun args w=>by kernel_rfl
theorem y5b {fn:Func} {p u:Tmp} (h:fn.results=#[.cell p 9,.cell u 29]) (d:Array Value) (W:World) (b c:Nat) (s:ByteArray) (n:Int)
  (k:d.getD p undef=.pointer (some ⟨b,0,none⟩)) (j:d.getD u undef=.pointer (some ⟨c,0,none⟩)) (c0:W.cell? ⟨b,0,none⟩=some (.string s)) (c1:W.cell? ⟨c,0,none⟩=some (.int .i64 n)) :
  (results fn d).run prog W=.ok (.tuple #[.string s,.int .i64 n]) W:=by
 have g:d[p]?.getD undef=.pointer (some ⟨b,0,none⟩):=by rw[<- k];simp
 have i:d[u]?.getD undef=.pointer (some ⟨c,0,none⟩):=by rw[<- j];simp
 simp only[results,h];simp[g,i,go_sem,c0,c1]
theorem x2w (i:Array Value) (q:Rat) (w:World) (m:∀ wx,Below w.heap.size w wx->Calls prog 200 i wx (QEnd q wx)) :
  Calls prog 199 #[.func (.func 200) #[] i] w (PairEnd (limR q) w):=by
 have L:∀ (fn:Fn) (first cap:Array Value) (w:World),(Instr.makeFunc fn first cap).run prog w=.ok (.func fn first cap) w:=fun _ _ _ _=>rfl
 have J:=u2x;have l:Below w.heap.size w ((w.alloc (.cells #[.string ⟨#[]⟩] 9)).alloc (.cells #[.int .i64 0] 29)):=(blr.alloc nlr _).alloc (by simp) _;have g:=qh l;clear l;have u:=qh m;clear m;by_cases hf:fitQ q
 ·rw[z8w hf];have z:=qh hf;clear hf
  go_enter_defers func199,ntmps199
  go_wp2_with fail
  have d:=u.out _ g.out;unfold QEnd at d;rw[if_pos z.out] at d;refine d.mono ?_;clear d;rintro e H ⟨rfl,c⟩;have h:=qh c;clear c
  go_wp2_with fail
  refine(x1x q H z.out).mono ?_;rintro e k ⟨rfl,o⟩;have s:=qh (z0a h.out o);clear o;obtain⟨C,A,I,G,j⟩:=x0p s.out
  go_wp2_with fail
  have B:=World.cell?_setCell_same _ _ (.string (txt q)) C;have D:=(World.cell?_setCell_other k ⟨w.heap.size,0,none⟩ ⟨w.heap.size+1,0,none⟩ (.string (txt q)) (fun e=>by injection e;omega)).trans A;have N:=World.cell?_setCell_same _ _ (.int .i64 0) D;have P:=(World.cell?_setCell_other (k.setCell ⟨w.heap.size,0,none⟩ (.string (txt q))) ⟨w.heap.size+1,0,none⟩ ⟨w.heap.size,0,none⟩ (.int .i64 0) (fun e=>by injection e;omega)).trans B;have E:((k.setCell ⟨w.heap.size,0,none⟩ (.string (txt q))).setCell ⟨w.heap.size+1,0,none⟩ (.int .i64 0)).heap.size=k.heap.size:=by simp
  refine leaves_cons (f:=217) (args:=#[.pointer (some ⟨w.heap.size,0,none⟩),.pointer (some ⟨w.heap.size+1,0,none⟩)]) (by simp) (by simp[go_sem]) ?_;refine(x6p _ _ _).mono ?_;rintro e O F ⟨rfl,rfl,hb⟩;refine⟨_,y5b rfl _ _ w.heap.size (w.heap.size+1) (txt q) 0 rfl rfl ?_ ?_,rfl,?_⟩
  ·exact(hb.cell (p:=⟨w.heap.size,0,none⟩) (by rw[E];show w.heap.size<_;omega)).trans P
  ·exact(hb.cell (p:=⟨w.heap.size+1,0,none⟩) (by rw[E];exact j)).trans N
  have K:Below w.heap.size w k:=z0a g.out s.out;exact((K.setCell nlr _).setCell (Nat.le_succ _) _).trans (hb.mono (by rw[E];omega))
 rw[x9s hf];have z:=qh hf;clear hf
 go_enter_defers func199,ntmps199
 go_wp2_with fail
 have d:=u.out _ g.out;unfold QEnd at d;rw[if_neg z.out] at d;unfold PT at d;refine d.mono ?_;clear d;rintro e H ⟨rfl,c⟩;have h:=qh c;clear c;obtain⟨C,A,I,G,j⟩:=x0p h.out;refine leaves_cons (f:=217) (args:=#[.pointer (some ⟨w.heap.size,0,none⟩),.pointer (some ⟨w.heap.size+1,0,none⟩)]) (by simp) (by simp[go_sem]) ?_;refine(x7a _ _ _ _ _ C A I G (by omega) j (by omega)).mono ?_;rintro e O F ⟨rfl,rfl,B,D,hb⟩;exact⟨_,y5b rfl _ _ w.heap.size (w.heap.size+1) ⟨#[]⟩ 2 rfl rfl B D,rfl,hb _ _ (z0a g.out h.out) nlr (Nat.le_succ _)⟩
end
section
open Go.RowKit
theorem x0a (l:List UInt8):Lib.indexByte l 47=if hasS l then ((upTo l).length:Int) else -1:=by
 induction l with
 | nil=>rfl
 | cons a l ih =>
  by_cases c:a=47
  ·subst c;simp[Lib.indexByte,hasS,upTo]
  have d:hasS (a::l)=hasS l:=by simp[hasS,c]
  have h:upTo (a::l)=a::upTo l:=by simp[upTo,c]
  have g:(a==47)=false:=by rw[beq_eq_false_iff_ne];exact c
  rw[d,h,Lib.indexByte,g,ih];cases hasS l
  ·rfl
  simp only[if_true,List.length_cons,Bool.false_eq_true,if_false];rw[if_neg (by rw[beq_iff_eq];omega)];omega
theorem y3c (s:ByteArray) (a b:Nat):bts (s.extract a b)=((bts s).take b).drop a:=by
 show (s.extract a b).data.toList=_;rw[ByteArray.data_extract,Array.toList_extract,List.extract_eq_take_drop];exact List.drop_take.symm
theorem u0j {s d t c:ByteArray} {b:Bool} (h:s=d) (g:t=c):Ending.returned (.tuple #[.string s,.string t,.bool b])=.returned (.tuple #[.string d,.string c,.bool b]):=by rw[h,g]
theorem u1g (s:ByteArray) (w:World) :
  Calls prog 240 #[.string s,.string ⟨#[47]⟩] w fun e w'=>e=.returned (.int .i64 (Lib.indexByte (bts s) 47))/\w=w':=by
 by_cases h:s=⟨#[47]⟩
 ·subst h
  go_enter func240,ntmps240
  go_wp2;go_ret;exact⟨rfl,rfl⟩
 have g:(s.toList==[47])=false:=z4i h;have i:([47]==s.toList)=false:=by rw[Bool.beq_comm];exact g
 have c:=Tryz.stringslite_IndexByte s 47 w;have d:=qh c;clear c h
 go_enter func240,ntmps240
 go_wp2_with fail
 refine d.out.mono ?_;rintro e w' ⟨rfl,rfl⟩;go_wp2;go_ret;exact⟨rfl,rfl⟩
theorem v4d (s:ByteArray) (w:World) (p:s.size<=9223372036854775807) :
  Calls prog 226 #[.string s,.string ⟨#[47]⟩] w fun e w'=>e=.returned (.tuple #[.string (str (upTo (bts s))),.string (str (if hasS (bts s) then z6k (bts s) else [])),.bool (hasS (bts s))])/\Below w.heap.size w w':=by
 have d:=u1g s w;rw[x0a] at d;cases h:hasS (bts s)
 ·rw[h] at d;simp only[Bool.false_eq_true,if_false] at d;rw[y8h _ h,y4q];have m:=qh d;clear d h
  go_enter func226,ntmps226
  go_wp2_with fail
  refine m.out.mono ?_;rintro e w' ⟨rfl,rfl⟩;go_wp2
  go_ret3
  exact⟨rfl,blr⟩
 rw[h] at d;simp only[if_true] at d;have g:=y6e _ h;have c:=congrArg List.length g;rw[z1n,List.length_append,List.length_cons] at c;generalize hi:(upTo (bts s)).length=i at d c;have c1:(0:Int)<=(i:Int):=by omega
 have c2:(i:Int)<=(s.size:Int):=by omega
 have c3:(0:Int)<=(i:Int)+1:=by omega
 have c4:(i:Int)+1<=(s.size:Int):=by omega
 have c5:IntKind.i64.wrap ((i:Int)+1)=(i:Int)+1:=by rw[IntKind.wrap_i64];omega
 have j:s.extract 0 i=str (upTo (bts s)):=by
  apply y7w;rw[y3c,z2u];conv=>lhs;rw[g]
  rw[<- hi,List.take_left,List.drop_zero]
 have k:s.extract (i+1) s.size=str (z6k (bts s)):=by
  apply y7w;rw[y3c,z2u,List.take_of_length_le (by rw[z1n];omega)];conv=>lhs;rw[g]
  rw[<- hi,<- List.drop_drop,List.drop_left];rfl
 have m:=qh d;clear d h;have o:=qh j;clear j;have l:=qh k;clear k g hi c p
 go_enter func226,ntmps226
 go_wp2_with fail
 refine m.out.mono ?_;rintro e w' ⟨rfl,rfl⟩
 go_wp2_with fail
 go_quiet (fail)
 go_wp2
 go_ret3
 exact⟨u0j o.out l.out,below_drewN blr _⟩
theorem v8q (s:ByteArray) (w:World) (d:s.size<=9223372036854775807) :
  Calls prog 211 #[.string s,.string ⟨#[47]⟩] w fun e w'=>e=.returned (.tuple #[.string (str (upTo (bts s))),.string (str (if hasS (bts s) then z6k (bts s) else [])),.bool (hasS (bts s))])/\Below w.heap.size w w':=by
 have c:=v4d s w d;generalize str (upTo (bts s))=x at c ⊢;generalize str (if hasS (bts s) then z6k (bts s) else [])=y at c ⊢
 generalize hasS (bts s)=z at c ⊢;have h:=qh c;clear c d
 go_enter func211,ntmps211
 go_wp2_with fail
 refine h.out.mono ?_;rintro e w' ⟨rfl,hb⟩;have g:=qh hb;clear hb;go_wp2
 go_ret3
 exact⟨rfl,g.out⟩
theorem v7g (s:ByteArray) (w:World) :
  Calls prog 210 #[.string s,.string ⟨#[45]⟩] w fun e w'=>e=.returned (.tuple #[.string (str (z1a (bts s))),.bool (z6m (bts s))])/\w=w':=by
 refine(Tryz.strings_CutPrefix s ⟨#[45]⟩ w).mono ?_;rintro e w' ⟨rfl,rfl⟩;refine⟨?_,rfl⟩;have d:Lib.hasPrefix s.data.toList [45]=z6m (bts s):=by
  show Lib.hasPrefix (bts s) [45]=_;cases bts s with
  | nil=>rfl
  | cons a l =>
   show ((45:UInt8)==a&&true)=(a==45);rw[Bool.and_true];exact BEq.comm
 have g:Lib.trimPrefix s.data.toList [45]=z1a (bts s):=by
  show Lib.trimPrefix (bts s) [45]=_;unfold Lib.trimPrefix z1a;have c:Lib.hasPrefix (bts s) [45]=z6m (bts s):=d;rw[c];split
  ·cases bts s<;>rfl
  rfl
 show Ending.returned (.tuple #[.string ⟨(Lib.trimPrefix s.data.toList [45]).toArray⟩,.bool (Lib.hasPrefix s.data.toList [45])])=_;rw[d,g];rfl
end
end Go.Proofs.YteappjogmnogcaaGreatDoor
