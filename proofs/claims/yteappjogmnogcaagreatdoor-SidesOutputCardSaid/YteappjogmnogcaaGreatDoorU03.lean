/- Parts of a proof: ME DivOps NumL RatA RatN RatR RatH RatW CutW. -/
import Derived.Test.YteappjogmnogcaaGreatDoorU02
import Derived.RegionTactic
import Derived.BigRegion
import Derived.Deep.LoopGhost
import Derived.Deep.Cut
import Derived.Deep.DeepCutAuto
import Derived.Test.YteappjogmnogcaaGreatDoorU00
import Derived.WalkLawsBesides
import Derived.Laws.Concat
import Derived.Handy
import Derived.Deep.RegionHeld2
import Derived.Deep.DrawnRows
import Derived.Recover
import Derived.Defers
import Derived.Lib.Bytealg
import Derived.Deep.QuietTactic
import Derived.BigQuiet
namespace Go.Proofs.YteappjogmnogcaaGreatDoor
set_option maxRecDepth 100000
set_option linter.unusedSimpArgs false
set_option linter.unusedVariables false
set_option linter.unusedSectionVars false
set_option maxHeartbeats 16000000
open Go Tryz
section
open Go.RowKit
theorem y0f (xs:List Nat) (a:Nat) (h:a<xs.length):bval (xs.drop a)=nth xs a+BB*bval (xs.drop (a+1)):=by
 rw[List.drop_eq_getElem_cons h];simp only[bval];rw[y0x xs a h]
theorem y5j {xs:List Nat} (h:Small xs) (k:Nat):Small (xs.drop k):=fun i=>by rw[y2s];exact h _
theorem y4z {L L0:List Nat} {k a:Nat} (h:L.take k=L0.take k) (c:a<k):nth L a=nth L0 a:=by
 rw[<- z8b L k a c,h,z8b _ _ _ c]
structure DvInv (L0 vs L qs:List Nat) (n a:Nat):Prop where
 len:L.length=L0.length
 ql:qs.length+n=L0.length
 ale:a<=qs.length
 small:Small L
 sq:Small qs
 low:L.take a=L0.take a
 rem:bval (L.drop a)<bval vs
 val:bval (L0.drop a)=bval (qs.drop a)*bval vs+bval (L.drop a)
structure Div0 (L0 vs:List Nat) (n:Nat):Prop where
 s0:Small L0
 sv:Small vs
 n1:1<=n
 lv:vs.length=n
 v1:1<=nth vs (n-1)
theorem DvInv.start {L0 c:List Nat} {n:Nat} (h:Div0 L0 c n) (hn:n<=L0.length) (d:bval (L0.drop (L0.length-n))<bval c) :
  DvInv L0 c L0 (List.replicate (L0.length-n) 0) n (L0.length-n):=by
 refine⟨rfl,by simp;omega,by simp,h.s0,z7q _,rfl,d,?_⟩;have e:(List.replicate (L0.length-n) 0).drop (L0.length-n)=[]:=List.drop_of_length_le (by simp);rw[e];simp[bval]
theorem DvInv.cut (L:List Nat) (n a:Nat):L=L.take a++(L.drop a).take (n+1)++L.drop (a+(n+1)):=by
 rw[List.append_assoc,show L.drop (a+(n+1))=(L.drop a).drop (n+1) by rw[List.drop_drop],List.take_append_drop,List.take_append_drop]
theorem DvInv.seg_len {L0 c L d:List Nat} {n a:Nat} (h:DvInv L0 c L d n (a+1)):((L.drop a).take (n+1)).length=n+1/\(L.take a).length=a:=by
 have:=h.len;have:=h.ql;have:=h.ale;rw[List.length_take,List.length_drop,List.length_take];omega
theorem DvInv.top {L0 c L d:List Nat} {n a:Nat} (h:DvInv L0 c L d n (a+1)):bval (L.drop a)<bval c*BB:=by
 have:=h.len;have:=h.ql;have:=h.ale;rw[y0f L a (by omega)];have i:=h.small a;have g:BB*(bval (L.drop (a+1))+1)<=BB*bval c:=Nat.mul_le_mul_left _ h.rem;rw[Nat.mul_add,Nat.mul_comm BB (bval c)] at g;omega
theorem DvInv.high {L0 d L k:List Nat} {n a:Nat} (i:Div0 L0 d n) (h:DvInv L0 d L k n (a+1)):bval (L.drop a)=bval ((L.drop a).take (n+1))/\bval (L.drop (a+(n+1)))=0:=by
 have g:=z4i ((L.drop a).take (n+1)) ((L.drop a).drop (n+1));rw[List.take_append_drop,List.drop_drop,h.seg_len.1] at g;have l:=h.top;have j:=z3w i.sv;rw[i.lv] at j;have m:bval d*BB<BB ^ (n+1):=by rw[Nat.pow_succ];exact Nat.mul_lt_mul_of_pos_right j z1w
 rcases Nat.eq_zero_or_pos (bval (L.drop (a+(n+1)))) with c|c
 ·rw[c,Nat.mul_zero,Nat.add_zero] at g;exact⟨g,c⟩
 have:BB ^ (n+1)*1<=BB ^ (n+1)*bval (L.drop (a+(n+1))):=Nat.mul_le_mul_left _ c;omega
theorem DvInv.divIn {L0 d L g:List Nat} {n a:Nat} (c:Div0 L0 d n) (h:DvInv L0 d L g n (a+1)):DivIn ((L.drop a).take (n+1)) d n :=
 ⟨z4h (y5j h.small a) _,c.sv,c.n1,h.seg_len.1,c.lv,c.v1,by rw[<- (h.high c).1];exact h.top⟩
theorem DvInv.step {L0 d L k c:List Nat} {n a:Nat} (p:Div0 L0 d n) (h:DvInv L0 d L k n (a+1)) (D:c.length=n+1) (C:Small c)
  (A:bval c=bval ((L.drop a).take (n+1)) % bval d) :
  DvInv L0 d (L.take a++c++L.drop (a+(n+1))) (k.set a (bval ((L.drop a).take (n+1)) / bval d)) n a:=by
 have s:=h.divIn p;have m:=h.high p;have j:=h.seg_len;have F:=h.len;have G:=h.ql;have H:=h.ale;have g:(L.take a++c++L.drop (a+(n+1))).drop a=c++L.drop (a+(n+1)):=by
  rw[List.append_assoc];have:=List.drop_left (l₁:=L.take a) (l₂:=c++L.drop (a+(n+1)))
  rwa [j.2] at this
 have z:bval ((L.take a++c++L.drop (a+(n+1))).drop a)=bval c:=by rw[g,z4i,m.2];simp
 have E:(k.set a (bval ((L.drop a).take (n+1)) / bval d)).drop a=(bval ((L.drop a).take (n+1)) / bval d)::k.drop (a+1):=by
  rw[List.drop_eq_getElem_cons (by simp;omega),List.drop_set,if_pos (by omega)];simp
 refine⟨by simp[D];omega,by simp;omega,by simp;omega,?_,z7m h.sq _ _ s.qlt,?_,?_,?_⟩
 ·intro i;by_cases o:i<a
  ·rw[List.append_assoc,z3v _ _ _ (by omega)];exact z4h h.small a i
  rw[List.append_assoc,z3g _ _ _ (by omega)];by_cases u:i-(L.take a).length<c.length
  ·rw[z3v _ _ _ u];exact C _
  rw[z3g _ _ _ (by omega)];exact y5j h.small _ _
 ·have e:(L.take a++c++L.drop (a+(n+1))).take a=L.take a:=by
   rw[List.append_assoc];have:=List.take_left (l₁:=L.take a) (l₂:=c++L.drop (a+(n+1)))
   rwa [j.2] at this
  rw[e];have:=congrArg (List.take a) h.low;rw[List.take_take,List.take_take,Nat.min_eq_left (by omega)] at this;exact this
 ·rw[z,A];exact Nat.mod_lt _ s.vpos'
 rw[z,E,y0f L0 a (by omega),h.val];simp only[bval];have o:=y0f L a (by omega);rw[m.1] at o;have u:nth L a=nth L0 a:=y4z h.low (by omega);have B:=Nat.div_add_mod (bval ((L.drop a).take (n+1))) (bval d);rw[<- A] at B;generalize bval ((L.drop a).take (n+1)) / bval d=qd at *;generalize bval ((L.drop a).take (n+1))=U at *;rw[Nat.mul_comm (bval d) qd] at B;rw[Nat.add_mul,Nat.mul_add,<- Nat.mul_assoc];omega
theorem DvInv.done {L0 d L g:List Nat} {n:Nat} (h:DvInv L0 d L g n 0):bval g=bval L0 / bval d/\bval L=bval L0 % bval d:=by
 have i:=h.val;have c:=h.rem;simp only[List.drop_zero] at i c;rw[i,Nat.add_comm,Nat.mul_comm];exact⟨by rw[Nat.add_mul_div_left _ _ (by omega),Nat.div_eq_of_lt c,Nat.zero_add],by rw[Nat.add_mul_mod_self_left,Nat.mod_eq_of_lt c]⟩
structure DnInv (r0 L:List Nat) (k a lf:Nat):Prop where
 len:L.length=r0.length
 ale:a<=r0.length
 small:Small L
 left:lf<k
 low:L.take a=r0.take a
 val:bval (r0.drop a)=k*bval (L.drop a)+lf
theorem DnInv.start {c:List Nat} {k:Nat} (g:1<=k) (d:Small c):DnInv c c k c.length 0 :=
 ⟨rfl,nlr,d,g,rfl,by rw[List.drop_length];simp[bval]⟩
theorem DnInv.bound {d L:List Nat} {k a c:Nat} (h:DnInv d L k (a+1) c) (j:Small d):c*1000000000+nth d a<k*1000000000:=by
 have g:=j a;have i:=h.left;rw[z0s] at g;have:(c+1)*1000000000<=k*1000000000:=Nat.mul_le_mul_right _ i;omega
theorem DnInv.step {c L:List Nat} {k a d:Nat} (h:DnInv c L k (a+1) d) (g:1<=k) (j:Small c) :
  DnInv c (L.set a ((d*1000000000+nth c a) / k)) k a ((d*1000000000+nth c a) % k):=by
 have hb:=h.bound j;have l:=h.len;have o:=h.ale;have m:(d*1000000000+nth c a) / k<BB:=by
  rw[z0s];exact Nat.div_lt_of_lt_mul hb
 refine⟨by simp;exact l,by omega,z7m h.small _ _ m,Nat.mod_lt _ g,?_,?_⟩
 ·rw[take_set];have:=congrArg (List.take a) h.low;rw[List.take_take,List.take_take,Nat.min_eq_left (by omega)] at this;exact this
 have i:(L.set a ((d*1000000000+nth c a) / k)).drop a=((d*1000000000+nth c a) / k)::L.drop (a+1):=by
  rw[List.drop_eq_getElem_cons (by simp;omega),List.drop_set,if_pos (by omega)];simp
 rw[i,y0f c a (by omega),h.val];simp only[bval];have p:=Nat.div_add_mod (d*1000000000+nth c a) k;generalize (d*1000000000+nth c a) / k=qd at *;rw[Nat.mul_add,Nat.mul_add,Nat.mul_left_comm BB k];have:BB*d=d*1000000000:=by rw[z0s,Nat.mul_comm]
 omega
theorem DnInv.done {d L:List Nat} {k g:Nat} (h:DnInv d L k 0 g):bval L=bval d / k:=by
 have c:=h.val;simp only[List.drop_zero] at c;rw[c,Nat.add_comm,Nat.add_mul_div_left _ _ (Nat.lt_of_le_of_lt (Nat.zero_le _) h.left),Nat.div_eq_of_lt h.left,Nat.zero_add]
theorem x1u {d:Nat} (j:d≠0) {k:Nat} (l:k=1000000000 / (nth (toB d) ((toB d).length-1)+1)) :
  1<=k/\k<BB/\(toB (d*k)).length=(toB d).length:=by
 have i:=y2b j;have m:=z0x d ((toB d).length-1);have o:=y7t j;have p:=z9v (xs:=toB d) rfl i;rw[z0y] at p;have A:=y4s (z0x d) ((toB d).length-1) (by omega);generalize hx:nth (toB d) ((toB d).length-1)=x at *;have c:1<=k:=by rw[l,Nat.le_div_iff_mul_le (by omega)];rw[z0s] at m;omega
 have h:k*(x+1)<=BB:=by rw[l,z0s];exact Nat.div_mul_le_self _ _
 have g:k<BB:=by
  have:k*2<=k*(x+1):=Nat.mul_le_mul_left _ (by omega);omega
 refine⟨c,g,?_⟩
 apply Nat.le_antisymm
 ·apply z6m
  have u:d<BB ^ ((toB d).length-1)*(x+1):=by rw[Nat.mul_add];omega
  have z:d*k<BB ^ ((toB d).length-1)*(x+1)*k:=Nat.mul_lt_mul_of_pos_right u c;have s:BB ^ ((toB d).length-1)*((x+1)*k)<=BB ^ ((toB d).length-1)*BB:=Nat.mul_le_mul_left _ (by rw[Nat.mul_comm];exact h);rw[<- Nat.mul_assoc,<- x4y i] at s;omega
 exact z2f (by
             have:d*1<=d*k:=Nat.mul_le_mul_left _ c;omega)
theorem v9s {m k:Nat} (g:k<BB) (c:1<=k):(toB m).length<=(toB (m*k)).length/\(toB (m*k)).length<=(toB m).length+1:=by
 refine⟨z2f (by
              have:m*1<=m*k:=Nat.mul_le_mul_left _ c;omega),z6m ?_⟩
 have d:=z3w (z0x m);rw[z0y] at d;rw[Nat.pow_succ];exact Nat.mul_lt_mul_of_lt_of_le d (by omega) z1w
theorem z8w (xs:List Nat):bval (xs++[0])=bval xs:=by rw[z6n];simp
theorem y9u (xs:List Nat) (j:Nat) (h:Small xs):bval (xs.drop j)=bval xs / BB ^ j:=by
 by_cases c:j<=xs.length
 ·have:=z4i (xs.take j) (xs.drop j);rw[List.take_append_drop,List.length_take,Nat.min_eq_left c] at this;rw[this,Nat.add_mul_div_left _ _ (Nat.pow_pos z1w),Nat.div_eq_of_lt (y4s h j c),Nat.zero_add]
 rw[List.drop_of_length_le (by omega),Nat.div_eq_of_lt]
 ·rfl
 exact Nat.lt_of_lt_of_le (z3w h) (Nat.pow_le_pow_right z1w (by omega))
theorem v0f {m d k:Nat} (h:d≠0) (c:1<=k) (l:(toB d).length<=(toB m).length) {L0:List Nat} (i:Small L0) (s:bval L0=m*k) (p:L0.length=(toB m).length+1) :
  bval (L0.drop (L0.length-(toB d).length))<d*k:=by
 rw[y9u _ _ i,s,p,Nat.div_lt_iff_lt_mul (Nat.pow_pos z1w)];have j:=z3w (z0x m);rw[z0y] at j;have o:=x5m h;have u:=y2b h;have e:BB ^ (toB m).length=BB ^ ((toB d).length-1)*BB ^ ((toB m).length+1-(toB d).length):=by rw[<- Nat.pow_add];congr 1;omega
 have z:BB ^ ((toB d).length-1)*BB ^ ((toB m).length+1-(toB d).length)<=d*BB ^ ((toB m).length+1-(toB d).length):=Nat.mul_le_mul_right _ o;have g:m*k<d*BB ^ ((toB m).length+1-(toB d).length)*k:=Nat.mul_lt_mul_of_pos_right (by omega) c;rw[Nat.mul_right_comm] at g;exact g
end
section
open Go.RowKit
def DivEnd (m d:Nat) (w:World) (e:Ending) (w':World):Prop :=
 ∃ vq vr,e=.returned (.tuple #[vq,vr])/\Sl w' .u64 vq (toB (m / d))/\Sl w' .u64 vr (toB (m % d))/\Below w.heap.size w w'
theorem Own.keptBy {w d:World} {B:Nat} {e:TypeId} {k:IntKind} {g n cap:Nat} {L:List Nat} {row:Option Nat} (h:Own w B e k (.slice (some ⟨g,0,none⟩) n cap) L) (i:w.grownBy d row) (c:some g≠row):Own d B e k (.slice (some ⟨g,0,none⟩) n cap) L :=
 World.ownsRow.kept h i (.inr (by simpa [Value.ownBlock] using c))
theorem Own.some {w:World} {B:Nat} {e:TypeId} {k:IntKind} {v:Value} {L:List Nat} (h:Own w B e k v L) (hn:1<=L.length):∃ g cap,v=.slice (.some ⟨g,0,none⟩) L.length cap/\B<=g/\g<w.heap.size/\L.length<=cap/\cap<=maxLen:=by
 rcases h.2 with ⟨_,o⟩|⟨g,cap,d,l,i,c,j,m,_⟩
 ·omega
 exact⟨g,cap,l,i,(Array.getElem?_eq_some_iff.1 c).1,j,m⟩
theorem x1s (l j:Value) (m d:Nat) (w:World) (i:Sl w .u64 l (toB m)) (p:Sl w .u64 j (toB d)) (g:m<d) :
  Calls prog 223 #[l,j] w (DivEnd m d w):=by
 have c:=z5m l j m d w i p;unfold CmpEnd at c;rw[z7y g] at c;have k:=qh c;clear c;have s:=qh i;clear i p;have h:=qh g;clear g
 go_enter func223,ntmps223
 go_wp2_with fail
 refine nxa k.out fun u o=>?_;go_wp2;go_ret2;refine⟨_,_,rfl,?_,?_,o.out⟩
 ·rw[Nat.div_eq_of_lt h.out];exact Sl.nil _ _
 rw[Nat.mod_eq_of_lt h.out];exact s.out.below o.out nlr
set_option maxRecDepth 100000 in
theorem x7s (vx vy:Value) (m d:Nat) (w:World) (hx:Sl w .u64 vx (toB m)) (hy:Sl w .u64 vy (toB d)) (hd:d≠0) (s3:d<=m) (lx:(toB m).length<=50000) :
  Calls prog 223 #[vx,vy] w (DivEnd m d w):=by
 have e6:=z5m vx vy m d w hx hy;unfold CmpEnd at e6;have r5:∃ q:Int,cmpN m d=q/\0<=q:=by
  rcases Nat.lt_or_ge d m with h|h
  ·exact⟨1,z7v h,by omega⟩
  exact⟨0,y1p (by omega),by omega⟩
 obtain⟨q0,hq,x6⟩:=r5;rw[hq] at e6;clear hq;have g3:=x1u hd rfl;obtain⟨k,hk⟩:∃ k,k=1000000000 / (nth (toB d) ((toB d).length-1)+1):=⟨_,rfl⟩;rw[<- hk] at g3;obtain⟨a2,i5,k6⟩:=g3;have b7:=y2b hd;have i7:(toB d).length<=(toB m).length:=z2f s3;have b0:=v9s (m:=m) i5 a2;have f0:=z0x d ((toB d).length-1);rw[z0s] at f0;obtain⟨ax,cx,rfl⟩:=hx.shape;have HX:=qh hx;clear hx;have HY:=qh hy;obtain⟨ay,cy,s4,oy,rfl,q8,w0,l4,l9,X⟩:=hy.open;obtain rfl:=q8 b7;have i9:=l9 b7;have p0:=X ((toB d).length-1) (by omega);have f4:(((toB d).length:Int)-1)<((toB d).length:Int):=by omega
 have k1:0<=(((toB d).length:Int)-1):=by omega
 unfold maxLen at l4;have s5:=qh e6;clear e6;have HK:=qh hk;clear hk;have e4:=qh k6;clear k6;have d5:=qh i5;clear i5;have HD:=qh hd;clear hd;clear l9 X hy
 go_enter func223,ntmps223
 go_wp2_with fail
 refine s5.out.mono ?_;rintro e w1 ⟨rfl,i8⟩;have m4:=(i8.cell (p:=⟨s4,oy+((toB d).length-1),none⟩) i9).trans p0;have d4:=qh i8;clear i8;have j6:=d4.out.size;clear p0
 go_wp2_with fail
 have ek:(1000000000:Int) / (((nth (toB d) ((toB d).length-1):Nat):Int)+1)=(k:Int):=by rw[HK.out];simp
 rw[ek];clear ek;refine(y6g _ m k w1 d5.out (HX.out.below d4.out nlr) (by omega)).mono ?_;rintro e w2 ⟨vu,rfl,N,k3⟩;have HU:=qh N;clear N;have h4:=qh k3;clear k3;have x3:=h4.out.size
 go_wp2_with fail
 refine(y6g _ d k w2 d5.out ((HY.out.below d4.out nlr).below h4.out nlr) (by omega)).mono ?_;rintro e w3 ⟨vv,rfl,J,o4⟩;have g6:=qh o4;clear o4;have x1:=g6.out.size;have k5:=(HU.out.kept g6.out nlr).mono j6;obtain⟨gv,cv,rfl,v2,x0,f2,m8⟩:=J.some (by rw[e4.out];exact b7);have g0:=J.mono (show w.heap.size<=w2.heap.size by omega);rw[e4.out] at f2;rw[e4.out];obtain⟨gu,cu,r8,v3,v7,w4,n9⟩:=HU.out.some (by omega);obtain rfl:=r8;have k4:=qh g0;clear g0 J;have u5:=qh k5;clear k5;have r9:Hid (gu≠gv):=qh (by omega);have s8:=qh (d4.out.trans ((h4.out.mono j6).trans (g6.out.mono (by omega))));obtain⟨i0,h0,j4,h6,j0⟩:=info_parts z9t;obtain⟨R,i4⟩:=exq (toB (d*k));rw[<- i4] at k4;have a3:=qh i4;clear i4;obtain⟨n,hn⟩:∃ n,n=(toB d).length:=⟨_,rfl⟩;rw[<- hn] at b7 i7 f0 f4 k1 f2;have HN:=qh hn;have e3:Hid (R.length=n):=qh (by rw[a3.out,e4.out];exact hn.symm);rw[<- hn];clear hn m4 f4 k1;obtain⟨a5,e2⟩:∃ l,l=(toB m).length:=⟨_,rfl⟩;rw[<- e2] at lx i7 b0;rw[<- e2];have j7:=qh e2;clear e2;unfold maxLen at m8 n9
 go_wp2_with fail
 go_loopw [8] (fun v wr=>∃ (g o:Nat) (L:List Nat),v=.slice (some ⟨g,0,none⟩) L.length o/\Own wr w.heap.size 179 .u64 (.slice (some ⟨g,0,none⟩) L.length o) L/\g≠gv/\Small L/\bval L=m*k/\a5<=L.length/\L.length<=a5+1 /\
   Own wr w.heap.size 179 .u64 (.slice (some ⟨gv,0,none⟩) n cv) R/\Below w.heap.size w wr) (fun v _=>a5+1-lenV v)
 case atStart =>
  refine⟨gu,cu,toB (m*k),rfl,u5.out,r9.out,z0x _,z0y _,b0.1,b0.2,?_,s8.out⟩;have:=k4.out
  rwa [e3.out] at this
 obtain⟨g,o,L,rfl,N,l7,n7,j1,x2,x7,J,O⟩:=hrel;have HO:=qh N;clear N;have d9:=qh l7;clear l7;have e1:=qh n7;clear n7;have a6:=qh j1;clear j1;have a8:=qh J;clear J;have b1:=qh O;clear O;by_cases t8:L.length<=a5
 ·have b9:=b1.out.size;have o3:wr.ownsRow w.heap.size 179 1 (.slice (some ⟨g,0,none⟩) L.length o) L.length (vals .u64 L):=HO.out;have n5:=qh o3;clear o3
  rcases Nat.lt_or_ge o (L.length+1) with c9|c9
  ·go_wp2_with (at_builtin;refine wpList_append_grows _ rfl (.tmp 40) (.tmp 41) 199 rfl 179 i0 (.int .u64 0) 1 8 underlying199 h0 j4 h6 j0 rfl (by decide) (some ⟨g,0,none⟩) L.length o (vals .u64 L) rfl (by intro h;cases h) (by rw[x3n];omega) (fun b hb=>by cases hb;exact World.ownsRow.cells (World.ownsRow.alloc n5.out _) rfl) ⟨wr.heap.size,0,none⟩ 1 1 [.int .u64 0] rfl rfl (cell_one_new _ _ _) (one_cell _ _) c9 (by unfold maxLen;omega) (by omega) ?_;intro v5 w5 C u)
   have Y:Own w5 (wr.heap.size+1) 179 .u64 v5 (L++[0]):=by
    unfold Own;rw[<- y5c,List.length_append];have e:(wr.alloc (.cells #[.int .u64 0] 179)).heap.size=wr.heap.size+1:=by simp
    rw[e] at C;exact C
   obtain⟨g5,l2,rfl,u8,v4,_,_⟩:=Y.some (by simp);have a1:Below wr.heap.size wr w5:=((Below.refl _ wr).alloc nlr _).grown u (by simp) (by simp);have d1:=a8.out.kept a1 nlr;have y0:=a8.out.base.2;have H5:=qh (Y.mono (show w.heap.size<=wr.heap.size+1 by omega));clear Y C u;have h8:=qh d1;clear d1;have g7:=qh a1;clear a1;have l8:Hid (g5≠gv):=qh (by omega);go_wp2;go_roundw
   case rel=>exact⟨g5,l2,L++[0],rfl,H5.out,l8.out,z7z e1.out z1w,by rw[z8w];exact a6.out,by simp;omega,by simp;omega,h8.out,b1.out.trans (g7.out.mono b9)⟩
   simp[y5s];omega
  go_wp2_with (at_builtin;refine wpList_append_fits _ rfl (.tmp 40) (.tmp 41) 199 rfl w.heap.size 179 i0 1 underlying199 h0 h6 g L.length o (vals .u64 L) rfl (World.ownsRow.alloc n5.out _) ⟨wr.heap.size,0,none⟩ 1 1 [.int .u64 0] rfl rfl (cell_one_new _ _ _) (one_cell _ _) c9 ?_;intro w5 C u)
  have Y:Own w5 w.heap.size 179 .u64 (.slice (some ⟨g,0,none⟩) (L.length+1) o) (L++[0]):=by
   unfold Own;rw[<- y5c,List.length_append];exact C
  have i3:=HO.out.base.1;have a1:Below w.heap.size w w5:=(b1.out.alloc b9 _).grown u (by simp;omega) (fun q hq=>by cases hq;exact i3);have d1:Own w5 w.heap.size 179 .u64 (.slice (some ⟨gv,0,none⟩) n cv) R :=
   Own.keptBy (a8.out.kept ((Below.refl wr.heap.size wr).alloc nlr (.cells #[.int .u64 0] 179)) nlr) u (by have:=d9.out;simp;omega)
  have H5:=qh Y;clear Y C u;have h8:=qh d1;clear d1;have g7:=qh a1;clear a1;go_wp2;go_roundw
  case rel=>exact⟨g,o,L++[0],by simp,by rw[List.length_append];exact H5.out,d9.out,z7z e1.out z1w,by rw[z8w];exact a6.out,by simp;omega,by simp;omega,h8.out,g7.out⟩
  simp[y5s];omega
 have g9:L.length=a5+1:=by omega
 have b9:=b1.out.size;have l6:=HO.out.base;have o5:=a8.out.base;obtain⟨s,d6⟩:=exq (L.length-n);obtain⟨wm,i2,U,o6⟩:=run_make_full wr w.heap.size 199 179 i0 (.int .u64 0) 1 underlying199 h0 j4 h6 .i64 .i64 (L.length-n) (by rw[j0];omega) (by unfold maxLen;omega) b9;rw[show ((L.length-n:Nat):Int)=(L.length:Int)-(n:Int) by omega,<- d6] at i2;rw[<- d6] at U;obtain⟨gq,o7⟩:=exq (wr.heap.size);rw[<- o7] at i2 U;have d8:Below wr.heap.size wr wm:=blr.grown o6 nlr (by simp);have k7:Own wm w.heap.size 179 .u64 (.slice (some ⟨gq,0,none⟩) s s) (List.replicate s 0):=by
  unfold Own;rw[z8y,List.length_replicate];have:=U;rw[Nat.mul_one,show (Value.int .u64 0).cells=#[Value.int .u64 0] from rfl,toList_madeCells_one] at this;exact this
 have h9:Div0 L R n:=⟨e1.out,by rw[a3.out];exact z0x _,b7,e3.out,by
  have h:=y7t (n:=d*k) (by have:=HD.out;exact Nat.mul_ne_zero this (by omega));rw[<- a3.out,e3.out] at h;omega⟩
 have h7:bval (L.drop (L.length-n))<bval R:=by
  have h:=v0f (m:=m) HD.out a2 (L0:=L) (by rw[<- HN.out,<- j7.out];exact i7) e1.out a6.out (by rw[<- j7.out];exact g9);rw[<- HN.out] at h;rw[a3.out,z0y];exact h
 have m2:DvInv L R L (List.replicate s 0) n s:=by
  have h:=DvInv.start h9 (by omega) h7
  rwa [<- d6] at h
 have w9:s+n=a5+1:=by omega
 have u2:=qh m2;clear m2 h7;have j3:=qh h9;clear h9;have HQ:=qh k7;clear k7 U;have r3:=qh (HO.out.kept d8 nlr);have r4:=qh (a8.out.kept d8 nlr);have t7:=qh (b1.out.trans (d8.mono b9));have d3:Hid (gq≠g/\gq≠gv):=qh ⟨by omega,by omega⟩;have x9:=qh g9;have g4:L.length<=o/\o<=maxLen:=by
  obtain⟨g',v8,h1,_,_,h2,h3⟩:=HO.out.some (by omega);simp only[Value.slice.injEq,true_and] at h1;obtain⟨_,rfl⟩:=h1;exact⟨h2,h3⟩
 obtain⟨p6,e5⟩:=g4;unfold maxLen at e5;clear d8 o6 d6 o7 g9 l6 o5
 go_wp2_with fail
 clear i2
 go_loopw [50] (fun i wq=>∃ (j:Nat) (Lc qs:List Nat),j<=s/\i=.int .i64 (j:Int)/\DvInv L R Lc qs n (s-j)/\Own wq w.heap.size 179 .u64 (.slice (some ⟨g,0,none⟩) L.length o) Lc /\
   Own wq w.heap.size 179 .u64 (.slice (some ⟨gv,0,none⟩) n cv) R/\Own wq w.heap.size 179 .u64 (.slice (some ⟨gq,0,none⟩) s s) qs/\Below w.heap.size w wq) (fun i _=>s-(intOf i).toNat)
 case atStart=>exact⟨0,L,_,Nat.zero_le _,rfl,u2.out,r3.out,r4.out,HQ.out,t7.out⟩
 obtain⟨j,Lc,qs,hj,rfl,z,N,J,a9,O⟩:=hrel;have i6:=qh z;clear z;have d7:=qh N;clear N;have k2:=qh J;clear J;have h5:=qh a9;clear a9;have g8:=qh O;clear O;by_cases t8:j<s
 ·obtain⟨a,ha⟩:=exq (s-1-j);have z:=i6.out;rw[show s-j=a+1 by omega] at z;have g2:=z.seg_len;have E:=z.len;have s7:=z.ql;have hcut:=DvInv.cut Lc n a;have a7:=v2a w.heap.size g L.length o (o-a) gv 0 cv n (Lc.take a) ((Lc.drop a).take (n+1)) (Lc.drop (a+(n+1))) R wr (by rw[<- hcut];exact E) (by rw[<- hcut];exact d7.out) (z.divIn j3.out) (by omega) d9.out.symm
   (fun i hi=>by rw[Nat.zero_add];exact k2.out.cell e3.out i hi)
  rw[g2.2] at a7;have q9:=qh a7;clear a7 hcut;have G:=qh z;clear z g2 E s7;subst ha;have j5:s-1-j<s:=by omega
  go_wp2_with fail
  rw[show s-1-j+n+1-(s-1-j)=n+1 by omega];refine q9.out.mono ?_;rintro e w6 ⟨x5,rfl,k0,o9,l3,e8,S⟩;have b2:=G.out.step j3.out (by rw[k0];exact G.out.seg_len.1) o9 l3;have e0:=h5.out.keptBy S (by have:=d3.out.1;simp;omega);have l5:=k2.out.keptBy S (by have:=d9.out;simp;omega);have i3:=d7.out.base.1;have m7:=h5.out.base.1;have m9:Below w.heap.size w w6:=g8.out.grown S (g8.out.size) (fun q hq=>by cases hq;exact i3);have B:qs.length=s:=by have h1:=G.out.ql;omega
  have cq:=e0.cell B (s-1-j) j5;have fq:=e0.free B (s-1-j);have j9:=e0.set B (s-1-j) (bval ((Lc.drop (s-1-j)).take (n+1)) / bval R);have c7:w6.grownBy (w6.setCell ⟨gq,s-1-j,none⟩ (.int .u64 ((bval ((Lc.drop (s-1-j)).take (n+1)) / bval R:Nat):Int))) (some gq):=y1n (y8r _ _) _ _;have o8:=e8.keptBy c7 (by have:=d3.out.1;simp;omega);have m5:=l5.keptBy c7 (by have:=d3.out.2;simp;omega);have o2:=m9.setCell (p:=⟨gq,s-1-j,none⟩) m7 (.int .u64 ((bval ((Lc.drop (s-1-j)).take (n+1)) / bval R:Nat):Int));have r6:=qh b2;have r7:=qh o8;have u1:=qh m5;have p9:=qh j9;have s6:=qh o2;clear b2 o8 m5 j9 o2 c7 e0 l5 m9 e8 S l3 o9 k0 B;go_wp2;go_roundw
  case rel=>exact⟨j+1,_,_,by omega,by go_num,by rw[show s-(j+1)=s-1-j by omega];exact r6.out,r7.out,u1.out,p9.out,s6.out⟩
  simp[intOf];omega
 have d0:j=s:=by omega
 have z:=i6.out;rw[d0,Nat.sub_self] at z;have g1:=z.done;have E:=z.len;have Z:=z6v (some ⟨g,0,none⟩) o Lc wr (by rw[E];exact d7.out.sl);rw[E] at Z;have s9:=qh Z;clear Z;have G:=qh z;clear z;have f8:=qh g1;clear g1;have b6:=qh E;clear E i6 d0
 go_wp2_with fail
 refine s9.out.mono ?_;rintro e w6 ⟨D,n3,rfl,rfl⟩;have m3:=qh n3;clear n3;have p7:D<=L.length:=by have:=m3.out.1;rw[b6.out] at this;exact this
 obtain⟨Q,b8⟩:=exq (Lc.take D);have b3:Q.length=D:=by rw[b8,List.length_take,b6.out];omega
 have f9:bval Q=(m % d)*k:=by
  rw[b8,y2d m3.out.2.1,f8.out.2,a6.out,a3.out,z0y,Nat.mul_mod_mul_right]
 have c8:Small Q:=by rw[b8];exact z4h G.out.small _
 have b5:Own wr w.heap.size 179 .u64 (.slice (some ⟨g,0,none⟩) D o) Q:=by
  rw[b8];exact d7.out.take (by rw[b6.out];exact p7)
 have K:=DnInv.start a2 c8;rw[b3] at K;have r2:=qh K;clear K;have f7:=qh b3;clear b3;have n6:=qh f9;clear f9;have e9:=qh c8;clear c8;have u6:=qh b5;clear b5 b8;have x8:(k:Int)<=999999999:=by have:=d5.out;rw[z0s] at this;omega
 obtain⟨wo,rfl⟩:∃ wo:World,wo=wr:=⟨_,rfl⟩
 go_wp2_with fail
 go_loopw [12,75] (fun lf i wq=>∃ (F H:Nat) (Lr:List Nat),F<=D/\i=.int .i64 (F:Int)/\lf=.int .u64 (H:Int)/\DnInv Q Lr k (D-F) H/\Own wq w.heap.size 179 .u64 (.slice (some ⟨g,0,none⟩) D o) Lr /\
   Own wq w.heap.size 179 .u64 (.slice (some ⟨gq,0,none⟩) s s) qs/\Below w.heap.size w wq) (fun _ i _=>D-(intOf i).toNat)
 case atStart=>exact⟨0,0,Q,Nat.zero_le _,rfl,rfl,r2.out,u6.out,h5.out,g8.out⟩
 obtain⟨F,H,Lr,x4,rfl,rfl,A,b5,a9,O⟩:=hrel;have e7:=qh A;clear A;have I:=qh b5;clear b5;have d2:=qh a9;clear a9;have f1:=qh O;clear O;by_cases u7:F<D
 ·have A:=e7.out;rw[show D-F=D-1-F+1 by omega] at A;have c:=A.len;rw[f7.out] at c;have v9:(H:Int)<=999999999:=by have h1:=A.left;have h2:=d5.out;rw[z0s] at h2;omega
  have u9:((nth Q (D-1-F):Nat):Int)<=999999999:=by have:=e9.out (D-1-F);rw[z0s] at this;omega
  have q7:=I.out.cell c (D-1-F) (by omega);rw[y4z A.low (by omega)] at q7;have h7:=I.out.free c (D-1-F);have v0:(1:Int)<=(k:Int):=by omega
  have f3:=A.step a2 e9.out;have l0:=qh f3;clear f3 A;have f5:=qh c;clear c
  go_wp2_with fail
  go_region
  go_wp2;go_roundw
  case rel =>
   have u4:((H:Int)*1000000000+((nth Q (D-1-F):Nat):Int)) / (k:Int)=(((H*1000000000+nth Q (D-1-F)) / k:Nat):Int):=by simp
   have u0:((H:Int)*1000000000+((nth Q (D-1-F):Nat):Int)) % (k:Int)=(((H*1000000000+nth Q (D-1-F)) % k:Nat):Int):=by simp
   rw[u4,u0];have k9:=(I.out.set f5.out (D-1-F) ((H*1000000000+nth Q (D-1-F)) / k)).kept (Below.drew blr) nlr;have t9:=(d2.out.keptBy (y1n (g:=g) (y8r wr _) (D-1-F) (.int .u64 (((H*1000000000+nth Q (D-1-F)) / k:Nat):Int))) (by have:=d3.out.1;simp;omega)).kept (Below.drew blr) nlr;exact⟨F+1,_,_,by omega,by go_num,rfl,by rw[show D-(F+1)=D-1-F by omega];exact l0.out,k9,t9,(f1.out.setCell I.out.base.1 _).drew⟩
  simp[intOf];omega
 have d0:F=D:=by omega
 have A:=e7.out;rw[d0,Nat.sub_self] at A;have P:=A.done;rw[n6.out,Nat.mul_div_cancel _ a2] at P;have c:=A.len;rw[f7.out] at c;have B:qs.length=s:=by have h1:=G.out.ql;omega
 have a4:=z6v (some ⟨gq,0,none⟩) s qs wr (by rw[B];exact d2.out.sl);rw[B] at a4;have b4:=z6v (some ⟨g,0,none⟩) o Lr wr (by rw[c];exact I.out.sl);rw[c] at b4;have u3:=qh a4;clear a4;have l1:=qh b4;clear b4;have f5:=qh c;clear c;have v6:=qh B;clear B;have p8:=qh P;clear P;have j8:=qh A;clear A d0
 go_wp2_with fail
 refine u3.out.mono ?_;rintro e w7 ⟨tq,a4,rfl,rfl⟩;have T:=qh a4;clear a4
 go_wp2_with fail
 refine l1.out.mono ?_;rintro e w8 ⟨tr,Z,rfl,rfl⟩;have W:=qh Z;clear Z;go_wp2;go_ret2;refine⟨_,_,rfl,?_,?_,f1.out⟩
 ·have e:toB (m / d)=qs.take tq:=by
   rw[z4g G.out.sq T.out.1 T.out.2.1 T.out.2.2,f8.out.1,a6.out,a3.out,z0y,Nat.mul_div_mul_right _ _ a2]
  rw[e];exact d2.out.sl.take T.out.1
 have e:toB (m % d)=Lr.take tr:=by
  rw[z4g j8.out.small W.out.1 W.out.2.1 W.out.2.2,p8.out]
 rw[e];exact I.out.sl.take W.out.1
theorem y6a (c g:Value) (m d:Nat) (w:World) (i:Sl w .u64 c (toB m)) (j:Sl w .u64 g (toB d)) (k:d≠0) (l:(toB m).length<=50000) :
  Calls prog 223 #[c,g] w (DivEnd m d w):=by
 rcases Nat.lt_or_ge m d with h|h
 ·exact x1s c g m d w i j h
 exact x7s c g m d w i j k h l
end
section
open Go.RowKit
def TripEnd (r:ByteArray × ByteArray × Nat) (w:World) (e:Ending) (w':World):Prop:=e=.returned (.tuple #[.string r.1,.string r.2.1,.int .i64 (r.2.2:Int)])/\Below w.heap.size w w'
def divF (s t:ByteArray):ByteArray × ByteArray × Nat:=if vld s&&vld t then (if val t=0 then (str [],str [],4) else (str (dec (val s / val t)),str (dec (val s % val t)),0)) else (str [],str [],1)
def gcdF (s t:ByteArray):ByteArray × Nat:=if vld s&&vld t then (str (dec (Nat.gcd (val s) (val t))),0) else (str [],1)
theorem u1t {t:ByteArray} (h:vld t=true) (c:val t=0):t.toList=[48]:=by
 rw[Lib.toList_data];exact u1p h (show z1s [48]=true by decide) (by rw[show num [48]=0 from rfl];exact c)
theorem v6e {t:ByteArray} (c:¬ val t=0):¬ t.toList=[48]:=by
 rw[Lib.toList_data];intro e;apply c;unfold val bts;rw[e];rfl
theorem v8x (s t:ByteArray) (w:World) (hs:s.size<=maxLen) (ht:t.size<=maxLen) (h:Tab w) :
  Calls prog 224 #[.string s,.string t] w (TripEnd (divF s t) w):=by
 have L:=qh h;clear h;have c1:=z3t s w hs;have c2:=z3t t w ht;clear hs ht;cases d:vld s with
 | false =>
  have c:divF s t=(str [],str [],1):=by unfold divF;rw[d];rfl
  rw[c];rw[d] at c1;clear c d c2 L;have o:=qh c1;clear c1
  go_enter func224,ntmps224
  go_wp2_with fail
  refine o.out.mono ?_;rintro e m ⟨rfl,rfl⟩;go_wp2
  go_ret3
  exact⟨rfl,blr⟩
 | true =>
  cases i:vld t with
  | false =>
   have c:divF s t=(str [],str [],1):=by unfold divF;rw[d,i];rfl
   rw[c];rw[d] at c1;rw[i] at c2;clear c d i L;have o:=qh c1;clear c1;have N:=qh c2;clear c2
   go_enter func224,ntmps224
   go_wp2_with fail
   refine o.out.mono ?_;rintro e m ⟨rfl,rfl⟩
   go_wp2_with fail
   refine N.out.mono ?_;rintro e m ⟨rfl,rfl⟩;go_wp2
   go_ret3
   exact⟨rfl,blr⟩
  | true =>
   rw[d] at c1;rw[i] at c2;have o:=qh c1;clear c1;have N:=qh c2;clear c2;have lm:=z1r d;have ln:=z1r i;have Z:=z4v s w d;have Y:=qh Z;clear Z;have b2:=fun w=>z4v t w i;have B2:=qh b2;clear b2;have H1:=qh d;clear d;have X:=qh i;clear i;by_cases k:val t=0
   ·have c:divF s t=(str [],str [],4):=by unfold divF;rw[H1.out,X.out,if_pos k];rfl
    rw[c];clear c;have g:=u1t X.out k;have u:(t.toList==[48])=true:=by rw[g];rfl
    clear k Y B2 lm ln
    go_enter func224,ntmps224
    go_wp2_with fail
    refine o.out.mono ?_;rintro e m ⟨rfl,rfl⟩
    go_wp2_with fail
    refine N.out.mono ?_;rintro e m ⟨rfl,rfl⟩
    go_wp2_with fail
    go_ret3
    exact⟨rfl,blr⟩
   have c:divF s t=(str (dec (val s / val t)),str (dec (val s % val t)),0):=by unfold divF;rw[H1.out,X.out,if_neg k];rfl
   rw[c];clear c;have g:=v6e k;have u:(t.toList==[48])=false:=by rw[beq_eq_false_iff_ne];exact g
   have HZ:=qh k;clear k
   go_enter func224,ntmps224
   go_wp2_with fail
   refine o.out.mono ?_;rintro e m ⟨rfl,rfl⟩
   go_wp2_with fail
   refine N.out.mono ?_;rintro e m ⟨rfl,rfl⟩
   go_wp2_with fail
   clear g u;refine Y.out.mono ?_;rintro e w1 ⟨v1,rfl,z,K⟩;have T:=qh z;clear z;have F:=qh K;clear K;have Q:=F.out.size
   go_wp2_with fail
   refine(B2.out w1).mono ?_;rintro e w2 ⟨v2,rfl,D,H⟩;have O:=qh D;clear D;have j:=qh H;clear H;have a4:=j.out.size;have U:=qh (T.out.sl.below j.out nlr);have I:=y6a v1 v2 (val s) (val t) w2 U.out O.out.sl HZ.out (by omega);have S:=qh I;clear I
   go_wp2_with fail
   refine S.out.mono ?_;rintro e w3 ⟨vq,vr,rfl,hq,c,B⟩;have HQ:=qh hq;clear hq;have HR:=qh c;clear c;have A:=qh B;clear B;have a1:=A.out.size;have HB:=qh (F.out.trans ((j.out.mono Q).trans (A.out.mono (by omega))));have a5:=z2f (Nat.div_le_self (val s) (val t));have a3:=z2f (Nat.mod_le (val s) (val t));have C:=y0j vq (val s / val t) w3 HQ.out (by omega) (L.out.below HB.out nlr);have P:=qh C;clear C
   go_wp2_with fail
   refine P.out.mono ?_;rintro e w4 ⟨rfl,p⟩;have l:=qh p;clear p;have a2:=l.out.size;have E:=qh (HB.out.trans (l.out.mono (by omega)));have G:=y0j vr (val s % val t) w4 (HR.out.below l.out nlr) (by omega) (L.out.below E.out nlr);have R:=qh G;clear G
   go_wp2_with fail
   refine R.out.mono ?_;rintro e w5 ⟨rfl,J⟩;have W:=qh J;clear J
   go_wp2_with fail
   go_ret3
   exact⟨rfl,E.out.trans (W.out.mono (by omega))⟩
theorem u1y (s t:ByteArray) (w:World) (hs:s.size<=maxLen) (ht:t.size<=maxLen) (k:Tab w) :
  Calls prog 208 #[.string s,.string t] w (PairEnd (gcdF s t) w):=by
 have P:=qh k;clear k;have c1:=z3t s w hs;have c2:=z3t t w ht;clear hs ht;cases d:vld s with
 | false =>
  have c:gcdF s t=(str [],1):=by unfold gcdF;rw[d];rfl
  rw[c];rw[d] at c1;clear c d c2 P;have G:=qh c1;clear c1
  go_enter func208,ntmps208
  go_wp2_with fail
  refine G.out.mono ?_;rintro e L ⟨rfl,rfl⟩;go_wp2;go_ret2;exact⟨rfl,blr⟩
 | true =>
  cases j:vld t with
  | false =>
   have c:gcdF s t=(str [],1):=by unfold gcdF;rw[d,j];rfl
   rw[c];rw[d] at c1;rw[j] at c2;clear c d j P;have G:=qh c1;clear c1;have X:=qh c2;clear c2
   go_enter func208,ntmps208
   go_wp2_with fail
   refine G.out.mono ?_;rintro e L ⟨rfl,rfl⟩
   go_wp2_with fail
   refine X.out.mono ?_;rintro e L ⟨rfl,rfl⟩;go_wp2;go_ret2;exact⟨rfl,blr⟩
  | true =>
   rw[d] at c1;rw[j] at c2;have G:=qh c1;clear c1;have X:=qh c2;clear c2;have lm:=z1r d;have ln:=z1r j;have b1:=z4v s w d;have B1:=qh b1;clear b1;have b2:=fun w=>z4v t w j;have B2:=qh b2;clear b2;have H1:=qh d;clear d;have H2:=qh j;clear j;have c:gcdF s t=(str (dec (Nat.gcd (val s) (val t))),0):=by unfold gcdF;rw[H1.out,H2.out];rfl
   rw[c];clear c
   go_enter func208,ntmps208
   go_wp2_with fail
   refine G.out.mono ?_;rintro e L ⟨rfl,rfl⟩
   go_wp2_with fail
   refine X.out.mono ?_;rintro e L ⟨rfl,rfl⟩
   go_wp2_with fail
   refine B1.out.mono ?_;rintro e w1 ⟨v1,rfl,z,K⟩;have Y:=qh z;clear z;have D:=qh K;clear K;have U:=D.out.size
   go_wp2_with fail
   refine(B2.out w1).mono ?_;rintro e w2 ⟨v2,rfl,C,H⟩;have O:=qh C;clear C;have m:=qh H;clear H;have a6:=m.out.size;have Z:=qh (Y.out.sl.below m.out nlr)
   go_wp2_with fail
   go_loopg [6,7] (val t) (fun g vx vy wr=>∃ p:Nat,Sl wr .u64 vx (toB p)/\Sl wr .u64 vy (toB g)/\Nat.gcd p g=Nat.gcd (val s) (val t)/\(toB p).length<=112/\(toB g).length<=112/\Below w.heap.size w wr)
   case atStart=>exact⟨val s,Z.out,O.out.sl,rfl,lm,ln,D.out.trans (m.out.mono U)⟩
   obtain⟨p,Q,R,hg,a4,F,hb⟩:=hrel;obtain⟨a1,c1,rfl⟩:=Q.shape;obtain⟨a2,c2,rfl⟩:=R.shape;have HX:=qh Q;clear Q;have HY:=qh R;clear R;have HG:=qh hg;clear hg;have h:=qh hb;clear hb;have u:=h.out.size;by_cases i:gk=0
   ·have l:(toB gk).length=0:=by rw[i];rfl
    have E:p=Nat.gcd (val s) (val t):=by rw[<- HG.out,i,Nat.gcd_zero_right]
    rw[l];have N:=qh E;clear E i l F;have o:=y0j _ p wr HX.out (by omega) (P.out.below h.out nlr);have S:=qh o;clear o
    go_wp2_with fail
    refine S.out.mono ?_;rintro e w5 ⟨rfl,J⟩;have a3:=qh J;clear J;go_wp2;go_ret2;exact⟨u3u (by rw[N.out]) rfl,h.out.trans (a3.out.mono u)⟩
   have l:=y2b i;have I:=y6a _ _ p gk wr HX.out HY.out i (by omega);have W:=qh I;clear I;have a5:=z2f (Nat.le_of_lt (Nat.mod_lt p (Nat.pos_of_ne_zero i)));have T:=qh i;clear i
   go_wp2_with fail
   refine W.out.mono ?_;rintro e w3 ⟨vq,vr,rfl,hq,c,B⟩;have HQ:=qh hq;clear hq;have HR:=qh c;clear c;have A:=qh B;clear B
   go_wp2_with fail
   go_roundg (p % gk)
   case measure=>exact Nat.mod_lt _ (Nat.pos_of_ne_zero T.out)
   case rel=>exact⟨gk,HY.out.below A.out nlr,HR.out,by rw[<- HG.out,Nat.gcd_comm gk,<- Nat.gcd_rec,Nat.gcd_comm],F,by omega,h.out.trans (A.out.mono u)⟩
end
section
open Go.RowKit
def fits (n:Nat):Prop:=(dec n).length<=1000
theorem z3r (n:Nat):val (str (dec n))=n:=by unfold val;rw[z2q];exact z9b n
theorem z7e {n:Nat} (h:fits n):vld (str (dec n))=true:=by unfold vld;rw[z2q];exact y4v h
theorem z9j {m n:Nat} (h:fits n) (c:m<=n):fits m:=by
 unfold fits at *;exact z3p.2 ⟨Nat.lt_of_le_of_lt c (z3p.1 h).1,by omega⟩
theorem z2j {n:Nat} (h:fits n):(str (dec n)).size<=maxLen:=by rw[z1g];unfold fits at h;unfold maxLen;omega
theorem x4p {n:Nat} (h:fits n):limS n=(str (dec n),0):=if_pos h
theorem u2u {s t:ByteArray} (c:vld s=true) (d:vld t=true):addF s t=limS (val s+val t):=by unfold addF;rw[c,d];rfl
theorem u2k {s t:ByteArray} (c:vld s=true) (d:vld t=true):mulF s t=limS (val s*val t):=by unfold mulF;rw[c,d];rfl
theorem v3m {s t:ByteArray} (c:vld s=true) (d:vld t=true) (h:fits (val s+val t)):addF s t=(str (dec (val s+val t)),0):=by rw[u2u c d,x4p h]
theorem v4g {s t:ByteArray} (c:vld s=true) (d:vld t=true) (h:fits (val s*val t)):mulF s t=(str (dec (val s*val t)),0):=by rw[u2k c d,x4p h]
theorem u4i {s t:ByteArray} (c:vld s=true) (d:vld t=true):subF s t=if val s<val t then (⟨#[]⟩,4) else (str (dec (val s-val t)),0):=by unfold subF;rw[c,d];rfl
theorem v8w {s t:ByteArray} (c:vld s=true) (d:vld t=true) (h:val t<=val s):subF s t=(str (dec (val s-val t)),0):=by rw[u4i c d,if_neg (by omega)]
theorem u2t {s t:ByteArray} (c:vld s=true) (d:vld t=true):divF s t=if val t=0 then (⟨#[]⟩,⟨#[]⟩,4) else (str (dec (val s / val t)),str (dec (val s % val t)),0):=by unfold divF;rw[c,d];rfl
theorem v9c {s t:ByteArray} (c:vld s=true) (d:vld t=true) (h:val t≠0):divF s t=(str (dec (val s / val t)),str (dec (val s % val t)),0):=by rw[u2t c d,if_neg h]
theorem u2q {s t:ByteArray} (c:vld s=true) (d:vld t=true):gcdF s t=(str (dec (Nat.gcd (val s) (val t))),0):=by unfold gcdF;rw[c,d];rfl
end
section
open Go.RowKit
def nvS (b:Bool) (n d:ByteArray):Value:=.agg #[.bool b,.string n,.string d]
def nv (q:Rat):Value:=nvS (negQ q) (str (dec q.num.natAbs)) (str (dec q.den))
def txtS (b:Bool) (n d:ByteArray):ByteArray :=
 let s:=if b then (⟨#[45]⟩:ByteArray)++n else n
 if d=⟨#[49]⟩ then s else s++((⟨#[47]⟩:ByteArray)++d)
theorem v2b {s t:ByteArray} (h:s≠t):¬ s.toList=t.toList:=by
 rw[Lib.toList_data,Lib.toList_data];intro e;apply h;exact y8c e
theorem z4j {s:ByteArray} {l:List UInt8} (h:s≠str l):(s.toList==l)=false:=by
 rw[beq_eq_false_iff_ne,Lib.toList_data];intro e;apply h;rw[<- e];exact(y2x s).symm
theorem y1c (s t:ByteArray):bts (s++t)=bts s++bts t:=by
 show (s++t).data.toList=_;rw[ByteArray.data_append,Array.toList_append];rfl
theorem v5r (q:Rat):txtS (negQ q) (str (dec q.num.natAbs)) (str (dec q.den))=txt q:=by
 apply y8c
 have c:(str (dec q.den)=⟨#[49]⟩)↔q.den=1:=by
  constructor
  ·intro e;have:=congrArg bts e;rw[z2q] at this;exact z7k (this.trans z5k.symm)
  intro e;rw[e,z5k];rfl
 unfold txtS txt txtL;rw[z2q];by_cases h:q.den=1
 ·rw[if_pos (c.2 h),if_pos h];cases negQ q
  ·simp[z2q]
  simp only[if_true,y1c,z2q];simp[bts]
 rw[if_neg (fun e=>h (c.1 e)),if_neg h];cases negQ q
 ·simp only[Bool.false_eq_true,if_false,y1c,z2q];simp[bts]
 simp only[if_true,y1c,z2q];simp[bts]
theorem x2n (b:Bool) (n d:ByteArray) (w:World) (hn:n.size<=400) (i:d.size<=400) :
  Calls prog 218 #[nvS b n d] w fun e w'=>e=.returned (.string (txtS b n d))/\Below w.heap.size w w':=by
 have k:(n.size:Int)<=8388608:=by omega
 have l:(d.size:Int)<=8388608:=by omega
 clear hn i;have c:Below w.heap.size w (w.alloc (.cells #[.bool b,.string n,.string d] 189)):=blr.alloc nlr _;have g:=qh c;clear c;unfold nvS;by_cases h:d=⟨#[49]⟩
 ·subst h;cases b<;>simp only[txtS,if_true,if_false,Bool.false_eq_true]
  all_goals
   go_enter func218,ntmps218
   go_wp2;go_ret;exact⟨rfl,g.out⟩
 have m:(d.toList==[49])=false:=z4j h;cases b<;>simp only[txtS,if_true,if_false,Bool.false_eq_true]<;>rw[if_neg h]<;>clear h
 ·go_enter func218,ntmps218
  go_wp2;go_ret;exact⟨rfl,g.out⟩
 have j:(((⟨#[45]⟩:ByteArray)++n).size:Int)<=8388609:=by rw[ByteArray.size_append];show ((1+n.size:Nat):Int)<=_;omega
 go_enter func218,ntmps218
 go_wp2;go_ret;exact⟨rfl,g.out⟩
theorem x1g (q:Rat) (w:World) (h:fitQ q) :
  Calls prog 218 #[nv q] w fun e w'=>e=.returned (.string (txt q))/\Below w.heap.size w w':=by
 rw[<- v5r];exact x2n _ _ _ w (by rw[z1g];exact h.1) (by rw[z1g];exact h.2)
theorem z1n (c:ByteArray) (w:World):Calls prog 188 #[.string c,.int .i64 0] w fun e w'=>e=.returned (.string c)/\w=w':=by
 go_enter func188,ntmps188
 go_wp2;go_ret;exact⟨rfl,rfl⟩
end
section
open Go.RowKit
theorem x3u {n k:Nat} (h:n<10 ^ k) (d:k<=1000) (c:1<=k):fits n:=by
 unfold fits;have:=z3p.2 ⟨h,c⟩;omega
theorem z6e {q:Rat} (h:fitQ q):fits q.num.natAbs:=by unfold fits;have:=h.1;omega
theorem z3y {q:Rat} (h:fitQ q):fits q.den:=by unfold fits;have:=h.2;omega
theorem pow400 {n:Nat} (h:(dec n).length<=400):n<10 ^ 400:=(z3p.1 h).1
theorem y4b {m n k:Nat} (d:m<10 ^ k) (c:n<10 ^ k):m*n<10 ^ (k+k):=by rw[Nat.pow_add];exact y6j d c
theorem v2e {a b c d k:Nat} (i:a<10 ^ k) (hb:b<10 ^ k) (g:c<10 ^ k) (h:d<10 ^ k):a*b+c*d<10 ^ (k+k+1):=by
 have j:=y4b i hb;have l:=y4b g h;rw[Nat.pow_succ];omega
theorem z3e {m n:Nat} (c:(dec m).length<=400) (hn:(dec n).length<=400):fits (m*n) :=
 x3u (y4b (pow400 c) (pow400 hn)) (by omega) (by omega)
theorem y8u {a b c d:Nat} (i:(dec a).length<=400) (hb:(dec b).length<=400) (g:(dec c).length<=400) (h:(dec d).length<=400):fits (a*b+c*d) :=
 x3u (v2e (pow400 i) (pow400 hb) (pow400 g) (pow400 h)) (by omega) (by omega)
def StrE (s:ByteArray) (w:World) (e:Ending) (w':World):Prop:=e=.returned (.string s)/\Below w.heap.size w w'
def StrZ (s:ByteArray) (w:World) (e:Ending) (w':World):Prop:=e=.returned (.tuple #[.string s,.int .i64 0])/\Below w.heap.size w w'
theorem u0h (m n:Nat) (w:World) (c:fits m) (hn:fits n) (h:fits (m+n)) (d:Tab w) :
  Calls prog 201 #[.string (str (dec m)),.string (str (dec n))] w (StrZ (str (dec (m+n))) w):=by
 have:=v8e (str (dec m)) (str (dec n)) w (z2j c) (z2j hn) d;rw[v3m (z7e c) (z7e hn) (by rw[z3r,z3r];exact h),z3r,z3r] at this;exact this
theorem x7w (m n:Nat) (w:World) (c:fits m) (hn:fits n) (h:n<=m) (d:Tab w) :
  Calls prog 203 #[.string (str (dec m)),.string (str (dec n))] w (StrZ (str (dec (m-n))) w):=by
 have:=v8u (str (dec m)) (str (dec n)) w (z2j c) (z2j hn) d;rw[v8w (z7e c) (z7e hn) (by rw[z3r,z3r];exact h),z3r,z3r] at this;exact this
theorem z4y (m n:Nat) (w:World) (c:fits m) (hn:fits n) (h:fits (m*n)) (d:Tab w) :
  Calls prog 189 #[.string (str (dec m)),.string (str (dec n))] w (StrZ (str (dec (m*n))) w):=by
 have:=v8k (str (dec m)) (str (dec n)) w (z2j c) (z2j hn) d;rw[v4g (z7e c) (z7e hn) (by rw[z3r,z3r];exact h),z3r,z3r] at this;exact this
theorem x8u (m n:Nat) (w:World) (c:fits m) (hn:fits n) (d:Tab w) :
  Calls prog 208 #[.string (str (dec m)),.string (str (dec n))] w (StrZ (str (dec (Nat.gcd m n))) w):=by
 have:=u1y (str (dec m)) (str (dec n)) w (z2j c) (z2j hn) d;rw[u2q (z7e c) (z7e hn),z3r,z3r] at this;exact this
theorem u2a (m n:Nat) (w:World) (c:fits m) (hn:fits n) (h:n≠0) (d:Tab w) :
  Calls prog 224 #[.string (str (dec m)),.string (str (dec n))] w fun e w'=>e=.returned (.tuple #[.string (str (dec (m / n))),.string (str (dec (m % n))),.int .i64 0])/\Below w.heap.size w w':=by
 have:=v8x (str (dec m)) (str (dec n)) w (z2j c) (z2j hn) d;rw[v9c (z7e c) (z7e hn) (by rw[z3r];exact h),z3r,z3r] at this;exact this
theorem x8p (m n:Nat) (w:World) (c:fits m) (hn:fits n) :
  Calls prog 202 #[.string (str (dec m)),.string (str (dec n))] w (IntEnd (cmpN m n) w):=by
 have:=v9d (str (dec m)) (str (dec n)) w (z2j c) (z2j hn);unfold cmpF at this;rw[z7e c,z7e hn,z3r,z3r] at this;exact this
theorem v2u (m n:Nat) (w:World) (g:fits m) (hn:fits n) (h:n≠0) (c:Tab w) :
  Calls prog 209 #[.string (str (dec m)),.string (str (dec n))] w (StrE (str (dec (m / n))) w):=by
 have d:=u2a m n w g hn h c;have i:=qh d;clear d g hn h c
 go_enter func209,ntmps209
 go_wp2_with fail
 refine nxa i.out fun k j=>?_
 go_wp2_with fail
 refine(z1n _ _).mono ?_;rintro e l ⟨rfl,rfl⟩;go_wp2;go_ret;exact⟨rfl,j.out⟩
theorem y1g (p q:Bool) (m n:Nat) (w:World) (h:fits (m+n)) (k:Tab w) :
  Calls prog 187 #[.bool p,.string (str (dec m)),.bool q,.string (str (dec n))] w fun e w' =>
   e=.returned (.tuple #[.bool (sumF p m q n).1,.string (str (dec (sumF p m q n).2))])/\Below w.heap.size w w':=by
 have A:fits m:=z9j h (by omega);have u:fits n:=z9j h (by omega);by_cases d:p=q
 ·subst d;have s:sumF p m p n=(p,m+n):=by unfold sumF;rw[if_pos rfl]
  rw[s];have l:=u0h m n w A u h k;have D:=qh l;clear l A u h k s;have L:(p==p)=true:=by cases p<;>rfl
  go_enter func187,ntmps187
  go_wp2_with fail
  refine nxa D.out fun o K=>?_
  go_wp2_with fail
  refine(z1n _ _).mono ?_;rintro e H ⟨rfl,rfl⟩;go_wp2;go_ret2;exact⟨rfl,K.out⟩
 have hb:(p==q)=false:=by rw[beq_eq_false_iff_ne];exact d
 by_cases g:m<n
 ·have s:sumF p m q n=(q,n-m):=by unfold sumF;rw[if_neg d,if_pos g]
  rw[s];have l:=x8p m n w A u;rw[z7y g] at l;have C:=fun o k=>x7w n m o u A (Nat.le_of_lt g) k;have D:=qh l;clear l;have F:=qh C;clear C;have E:=qh k;clear A u h k s g d
  go_enter func187,ntmps187
  go_wp2_with fail
  refine D.out.mono ?_;rintro e o ⟨rfl,j⟩;have c:=qh j;clear j
  go_wp2_with fail
  refine(F.out o (E.out.below c.out nlr)).mono ?_;rintro e H ⟨rfl,i⟩;have B:=qh (c.out.trans (i.mono c.out.size));clear i
  go_wp2_with fail
  refine(z1n _ _).mono ?_;rintro e J ⟨rfl,rfl⟩;go_wp2;go_ret2;exact⟨rfl,B.out⟩
 have s:sumF p m q n=(p,m-n):=by unfold sumF;rw[if_neg d,if_neg g]
 rw[s];have l:=x8p m n w A u;have G:0<=cmpN m n:=by
  rcases Nat.lt_or_ge n m with I|I
  ·rw[z7v I];omega
  rw[y1p (by omega)];omega
 generalize cmpN m n=z at l G;have C:=fun o k=>x7w m n o A u (by omega) k;have D:=qh l;clear l;have F:=qh C;clear C;have E:=qh k;clear A u h k s g d
 go_enter func187,ntmps187
 go_wp2_with fail
 refine D.out.mono ?_;rintro e o ⟨rfl,j⟩;have c:=qh j;clear j
 go_wp2_with fail
 refine(F.out o (E.out.below c.out nlr)).mono ?_;rintro e H ⟨rfl,i⟩;have B:=qh (c.out.trans (i.mono c.out.size));clear i
 go_wp2_with fail
 refine(z1n _ _).mono ?_;rintro e J ⟨rfl,rfl⟩;go_wp2;go_ret2;exact⟨rfl,B.out⟩
end
section
open Go.RowKit
def PT:Ending:=.panicked [{ v:=.iface 198 (.agg #[]),recovered:=false }]
def QEnd (q:Rat) (w:World) (e:Ending) (w':World):Prop:=e=(if fitQ q then .returned (nv q) else PT)/\Below w.heap.size w w'
theorem res3 {w g:World} {a b c:Value} {t:TypeId} (h:Below (w.alloc (.cells #[a,b,c] t)).heap.size (w.alloc (.cells #[a,b,c] t)) g) :
  g.cell? ⟨w.heap.size,0,none⟩=some a/\g.cell? ⟨w.heap.size,1,none⟩=some b/\g.cell? ⟨w.heap.size,2,none⟩=some c/\g.frozen? ⟨w.heap.size,0,none⟩=false/\g.frozen? ⟨w.heap.size,1,none⟩=false/\g.frozen? ⟨w.heap.size,2,none⟩=false/\w.heap.size<g.heap.size:=by
 have i:=h.size;have d:w.heap.size<(w.alloc (.cells #[a,b,c] t)).heap.size:=by simp
 refine⟨?_,?_,?_,?_,?_,?_,by omega⟩
 ·exact(h.cell (p:=⟨w.heap.size,0,none⟩) d).trans (by simp)
 ·exact(h.cell (p:=⟨w.heap.size,1,none⟩) d).trans (by simp)
 ·exact(h.cell (p:=⟨w.heap.size,2,none⟩) d).trans (by simp)
 ·exact(h.frozen (p:=⟨w.heap.size,0,none⟩) d).trans (by simp)
 ·exact(h.frozen (p:=⟨w.heap.size,1,none⟩) d).trans (by simp)
 exact(h.frozen (p:=⟨w.heap.size,2,none⟩) d).trans (by simp)
theorem set3 {w:World} {n:Nat} {a b c a' b' c':Value} (k0:w.cell? ⟨n,0,none⟩=some a) (g:w.cell? ⟨n,1,none⟩=some b) (d:w.cell? ⟨n,2,none⟩=some c) :
  (((w.setCell ⟨n,0,none⟩ a').setCell ⟨n,1,none⟩ b').setCell ⟨n,2,none⟩ c').cell? ⟨n,0,none⟩=some a'/\(((w.setCell ⟨n,0,none⟩ a').setCell ⟨n,1,none⟩ b').setCell ⟨n,2,none⟩ c').cell? ⟨n,1,none⟩=some b'/\(((w.setCell ⟨n,0,none⟩ a').setCell ⟨n,1,none⟩ b').setCell ⟨n,2,none⟩ c').cell? ⟨n,2,none⟩=some c':=by
 refine⟨?_,?_,?_⟩<;>simp[go_sem,k0,g,d]
theorem z3q {fn:Func} {p:Tmp} (h:fn.results=#[.cell p 189]) (c:Array Value) (W:World) (n:Nat) (r:Bool) (x y:ByteArray)
  (g:c.getD p undef=.pointer (some ⟨n,0,none⟩)) (c0:W.cell? ⟨n,0,none⟩=some (.bool r)) (c1:W.cell? ⟨n,1,none⟩=some (.string x)) (c2:W.cell? ⟨n,2,none⟩=some (.string y)) :
  (results fn c).run prog W=.ok (.agg #[.bool r,.string x,.string y]) W:=by
 have d:c[p]?.getD undef=.pointer (some ⟨n,0,none⟩):=by rw[<- g];simp
 simp only[results,h];simp[d,go_sem,c0,c1,c2]
theorem x5t (s:Bool) (a b g x y:ByteArray) (r:Bool) (w:World) (X:(s=false/\r=false)\/(s=true/\(a.toList==[48])=!r))
  (L:x.size<=1000) (N:y.size<=1000)
  (c1:∀ wx,Below w.heap.size w wx->Calls prog 208 #[.string a,.string b] wx (StrZ g wx))
  (c2:∀ wx,Below w.heap.size w wx->Calls prog 209 #[.string a,.string g] wx (StrE x wx))
  (c3:∀ wx,Below w.heap.size w wx->Calls prog 209 #[.string b,.string g] wx (StrE y wx)) :
  Calls prog 190 #[.bool s,.string a,.string b] w fun e w' =>
   e=(if x.size<=400/\y.size<=400 then .returned (nvS r x y) else PT)/\Below w.heap.size w w':=by
 have K:=qh c1;clear c1;have I:=qh c2;clear c2;have J:=qh c3;clear c3;have U:Below w.heap.size w (w.alloc (.cells #[.bool false,.string ⟨#[]⟩,.string ⟨#[]⟩] 189)):=blr.alloc nlr _;have l:=qh U;clear U;have D:(x.size<=400/\y.size<=400)\/(x.size<=400/\400<y.size)\/400<x.size:=by omega
 unfold PT nvS
 rcases X with ⟨rfl,rfl⟩|⟨rfl,Y⟩
 ·-- no sign
  rcases D with ⟨A,E⟩|⟨A,E⟩|A
  ·rw[if_pos ⟨A,E⟩];have T:(x.size:Int)<=400:=by omega
   have W:(y.size:Int)<=400:=by omega
   clear A E;clear L N
   go_enter func190,ntmps190
   go_wp2_with fail
   refine(K.out _ l.out).mono ?_;rintro e O ⟨rfl,k⟩;have o:=qh k;have c:=qh (l.out.trans (k.mono l.out.size));clear k
   go_wp2_with fail
   refine(z1n _ _).mono ?_;rintro e B ⟨rfl,rfl⟩
   go_wp2_with fail
   refine(I.out _ c.out).mono ?_;rintro e B ⟨rfl,d⟩;have m:=qh (o.out.trans (d.mono o.out.size));have j:=qh (c.out.trans (d.mono c.out.size));clear d
   go_wp2_with fail
   refine(J.out _ j.out).mono ?_;rintro e Q ⟨rfl,i⟩;have z:=qh (m.out.trans (i.mono m.out.size));have p:=qh (j.out.trans (i.mono j.out.size));clear i;obtain⟨F,H,G,P,R,S,u⟩:=res3 z.out;have C:=qh p.out.size
   go_wp2_with fail
   obtain⟨s0,s1,s2⟩:=set3 (a':=.bool false) (b':=.string x) (c':=.string y) F H G;refine bodyPost_ret (z3q rfl _ _ w.heap.size false x y rfl ?_ ?_ ?_) rfl ⟨rfl,?_⟩
   ·rw[World.cell?_alloc_past (hn:=by simpa using u)];exact s0
   ·rw[World.cell?_alloc_past (hn:=by simpa using u)];exact s1
   ·rw[World.cell?_alloc_past (hn:=by simpa using u)];exact s2
   exact(((p.out.setCell nlr _).setCell nlr _).setCell nlr _).alloc (by simpa using C.out) _
  ·rw[if_neg (fun h=>by omega)];have T:(x.size:Int)<=400:=by omega
   have W:(400:Int)<(y.size:Int):=by omega
   clear A E;clear L N
   go_enter func190,ntmps190
   go_wp2_with fail
   refine(K.out _ l.out).mono ?_;rintro e O ⟨rfl,k⟩;have o:=qh k;have c:=qh (l.out.trans (k.mono l.out.size));clear k
   go_wp2_with fail
   refine(z1n _ _).mono ?_;rintro e B ⟨rfl,rfl⟩
   go_wp2_with fail
   refine(I.out _ c.out).mono ?_;rintro e B ⟨rfl,d⟩;have m:=qh (o.out.trans (d.mono o.out.size));have j:=qh (c.out.trans (d.mono c.out.size));clear d
   go_wp2_with fail
   refine(J.out _ j.out).mono ?_;rintro e Q ⟨rfl,i⟩;have z:=qh (m.out.trans (i.mono m.out.size));have p:=qh (j.out.trans (i.mono j.out.size));clear i;obtain⟨F,H,G,P,R,S,u⟩:=res3 z.out;have C:=qh p.out.size
   go_wp2_with fail
   exact⟨rfl,rfl,p.out.alloc C.out _⟩
  rw[if_neg (fun h=>by omega)];have T:(400:Int)<(x.size:Int):=by omega
  clear A;clear L N
  go_enter func190,ntmps190
  go_wp2_with fail
  refine(K.out _ l.out).mono ?_;rintro e O ⟨rfl,k⟩;have o:=qh k;have c:=qh (l.out.trans (k.mono l.out.size));clear k
  go_wp2_with fail
  refine(z1n _ _).mono ?_;rintro e B ⟨rfl,rfl⟩
  go_wp2_with fail
  refine(I.out _ c.out).mono ?_;rintro e B ⟨rfl,d⟩;have m:=qh (o.out.trans (d.mono o.out.size));have j:=qh (c.out.trans (d.mono c.out.size));clear d
  go_wp2_with fail
  refine(J.out _ j.out).mono ?_;rintro e Q ⟨rfl,i⟩;have z:=qh (m.out.trans (i.mono m.out.size));have p:=qh (j.out.trans (i.mono j.out.size));clear i;obtain⟨F,H,G,P,R,S,u⟩:=res3 z.out;have C:=qh p.out.size
  go_wp2_with fail
  exact⟨rfl,rfl,p.out.alloc C.out _⟩
 cases r<;>simp only[Bool.not_true,Bool.not_false] at Y
 ·-- zero
  rcases D with ⟨A,E⟩|⟨A,E⟩|A
  ·rw[if_pos ⟨A,E⟩];have T:(x.size:Int)<=400:=by omega
   have W:(y.size:Int)<=400:=by omega
   clear A E;clear L N
   go_enter func190,ntmps190
   go_wp2_with fail
   refine(K.out _ l.out).mono ?_;rintro e O ⟨rfl,k⟩;have o:=qh k;have c:=qh (l.out.trans (k.mono l.out.size));clear k
   go_wp2_with fail
   refine(z1n _ _).mono ?_;rintro e B ⟨rfl,rfl⟩
   go_wp2_with fail
   refine(I.out _ c.out).mono ?_;rintro e B ⟨rfl,d⟩;have m:=qh (o.out.trans (d.mono o.out.size));have j:=qh (c.out.trans (d.mono c.out.size));clear d
   go_wp2_with fail
   refine(J.out _ j.out).mono ?_;rintro e Q ⟨rfl,i⟩;have z:=qh (m.out.trans (i.mono m.out.size));have p:=qh (j.out.trans (i.mono j.out.size));clear i;obtain⟨F,H,G,P,R,S,u⟩:=res3 z.out;have C:=qh p.out.size
   go_wp2_with fail
   obtain⟨s0,s1,s2⟩:=set3 (a':=.bool false) (b':=.string x) (c':=.string y) F H G;refine bodyPost_ret (z3q rfl _ _ w.heap.size false x y rfl ?_ ?_ ?_) rfl ⟨rfl,?_⟩
   ·rw[World.cell?_alloc_past (hn:=by simpa using u)];exact s0
   ·rw[World.cell?_alloc_past (hn:=by simpa using u)];exact s1
   ·rw[World.cell?_alloc_past (hn:=by simpa using u)];exact s2
   exact(((p.out.setCell nlr _).setCell nlr _).setCell nlr _).alloc (by simpa using C.out) _
  ·rw[if_neg (fun h=>by omega)];have T:(x.size:Int)<=400:=by omega
   have W:(400:Int)<(y.size:Int):=by omega
   clear A E;clear L N
   go_enter func190,ntmps190
   go_wp2_with fail
   refine(K.out _ l.out).mono ?_;rintro e O ⟨rfl,k⟩;have o:=qh k;have c:=qh (l.out.trans (k.mono l.out.size));clear k
   go_wp2_with fail
   refine(z1n _ _).mono ?_;rintro e B ⟨rfl,rfl⟩
   go_wp2_with fail
   refine(I.out _ c.out).mono ?_;rintro e B ⟨rfl,d⟩;have m:=qh (o.out.trans (d.mono o.out.size));have j:=qh (c.out.trans (d.mono c.out.size));clear d
   go_wp2_with fail
   refine(J.out _ j.out).mono ?_;rintro e Q ⟨rfl,i⟩;have z:=qh (m.out.trans (i.mono m.out.size));have p:=qh (j.out.trans (i.mono j.out.size));clear i;obtain⟨F,H,G,P,R,S,u⟩:=res3 z.out;have C:=qh p.out.size
   go_wp2_with fail
   exact⟨rfl,rfl,p.out.alloc C.out _⟩
  rw[if_neg (fun h=>by omega)];have T:(400:Int)<(x.size:Int):=by omega
  clear A;clear L N
  go_enter func190,ntmps190
  go_wp2_with fail
  refine(K.out _ l.out).mono ?_;rintro e O ⟨rfl,k⟩;have o:=qh k;have c:=qh (l.out.trans (k.mono l.out.size));clear k
  go_wp2_with fail
  refine(z1n _ _).mono ?_;rintro e B ⟨rfl,rfl⟩
  go_wp2_with fail
  refine(I.out _ c.out).mono ?_;rintro e B ⟨rfl,d⟩;have m:=qh (o.out.trans (d.mono o.out.size));have j:=qh (c.out.trans (d.mono c.out.size));clear d
  go_wp2_with fail
  refine(J.out _ j.out).mono ?_;rintro e Q ⟨rfl,i⟩;have z:=qh (m.out.trans (i.mono m.out.size));have p:=qh (j.out.trans (i.mono j.out.size));clear i;obtain⟨F,H,G,P,R,S,u⟩:=res3 z.out;have C:=qh p.out.size
  go_wp2_with fail
  exact⟨rfl,rfl,p.out.alloc C.out _⟩
 rcases D with ⟨A,E⟩|⟨A,E⟩|A
 ·rw[if_pos ⟨A,E⟩];have T:(x.size:Int)<=400:=by omega
  have W:(y.size:Int)<=400:=by omega
  clear A E;clear L N
  go_enter func190,ntmps190
  go_wp2_with fail
  refine(K.out _ l.out).mono ?_;rintro e O ⟨rfl,k⟩;have o:=qh k;have c:=qh (l.out.trans (k.mono l.out.size));clear k
  go_wp2_with fail
  refine(z1n _ _).mono ?_;rintro e B ⟨rfl,rfl⟩
  go_wp2_with fail
  refine(I.out _ c.out).mono ?_;rintro e B ⟨rfl,d⟩;have m:=qh (o.out.trans (d.mono o.out.size));have j:=qh (c.out.trans (d.mono c.out.size));clear d
  go_wp2_with fail
  refine(J.out _ j.out).mono ?_;rintro e Q ⟨rfl,i⟩;have z:=qh (m.out.trans (i.mono m.out.size));have p:=qh (j.out.trans (i.mono j.out.size));clear i;obtain⟨F,H,G,P,R,S,u⟩:=res3 z.out;have C:=qh p.out.size
  go_wp2_with fail
  obtain⟨s0,s1,s2⟩:=set3 (a':=.bool true) (b':=.string x) (c':=.string y) F H G;refine bodyPost_ret (z3q rfl _ _ w.heap.size true x y rfl ?_ ?_ ?_) rfl ⟨rfl,?_⟩
  ·rw[World.cell?_alloc_past (hn:=by simpa using u)];exact s0
  ·rw[World.cell?_alloc_past (hn:=by simpa using u)];exact s1
  ·rw[World.cell?_alloc_past (hn:=by simpa using u)];exact s2
  exact(((p.out.setCell nlr _).setCell nlr _).setCell nlr _).alloc (by simpa using C.out) _
 ·rw[if_neg (fun h=>by omega)];have T:(x.size:Int)<=400:=by omega
  have W:(400:Int)<(y.size:Int):=by omega
  clear A E;clear L N
  go_enter func190,ntmps190
  go_wp2_with fail
  refine(K.out _ l.out).mono ?_;rintro e O ⟨rfl,k⟩;have o:=qh k;have c:=qh (l.out.trans (k.mono l.out.size));clear k
  go_wp2_with fail
  refine(z1n _ _).mono ?_;rintro e B ⟨rfl,rfl⟩
  go_wp2_with fail
  refine(I.out _ c.out).mono ?_;rintro e B ⟨rfl,d⟩;have m:=qh (o.out.trans (d.mono o.out.size));have j:=qh (c.out.trans (d.mono c.out.size));clear d
  go_wp2_with fail
  refine(J.out _ j.out).mono ?_;rintro e Q ⟨rfl,i⟩;have z:=qh (m.out.trans (i.mono m.out.size));have p:=qh (j.out.trans (i.mono j.out.size));clear i;obtain⟨F,H,G,P,R,S,u⟩:=res3 z.out;have C:=qh p.out.size
  go_wp2_with fail
  exact⟨rfl,rfl,p.out.alloc C.out _⟩
 rw[if_neg (fun h=>by omega)];have T:(400:Int)<(x.size:Int):=by omega
 clear A;clear L N
 go_enter func190,ntmps190
 go_wp2_with fail
 refine(K.out _ l.out).mono ?_;rintro e O ⟨rfl,k⟩;have o:=qh k;have c:=qh (l.out.trans (k.mono l.out.size));clear k
 go_wp2_with fail
 refine(z1n _ _).mono ?_;rintro e B ⟨rfl,rfl⟩
 go_wp2_with fail
 refine(I.out _ c.out).mono ?_;rintro e B ⟨rfl,d⟩;have m:=qh (o.out.trans (d.mono o.out.size));have j:=qh (c.out.trans (d.mono c.out.size));clear d
 go_wp2_with fail
 refine(J.out _ j.out).mono ?_;rintro e Q ⟨rfl,i⟩;have z:=qh (m.out.trans (i.mono m.out.size));have p:=qh (j.out.trans (i.mono j.out.size));clear i;obtain⟨F,H,G,P,R,S,u⟩:=res3 z.out;have C:=qh p.out.size
 go_wp2_with fail
 exact⟨rfl,rfl,p.out.alloc C.out _⟩
theorem y0p (s:Bool) (m d:Nat) (w:World) (z:fits m) (i:fits d) (o:d≠0) (E:Tab w) :
  Calls prog 190 #[.bool s,.string (str (dec m)),.string (str (dec d))] w (QEnd (mkRat (sg s m) d) w):=by
 obtain⟨j,p,D⟩:=x8m (sg s m) d o;rw[x7q] at j p;have A:fits (Nat.gcd m d):=z9j i (Nat.le_of_dvd (Nat.pos_of_ne_zero o) (Nat.gcd_dvd_right _ _));have g:Nat.gcd m d≠0:=by have:=Nat.gcd_pos_of_pos_right m (Nat.pos_of_ne_zero o);omega
 have u:∀ c,Below w.heap.size w c->Tab c:=fun c h=>E.below h nlr;have G:fits (m / Nat.gcd m d):=z9j z (Nat.div_le_self _ _);have C:fits (d / Nat.gcd m d):=z9j i (Nat.div_le_self _ _);have F:=x5t s (str (dec m)) (str (dec d)) (str (dec (Nat.gcd m d))) (str (dec (m / Nat.gcd m d))) (str (dec (d / Nat.gcd m d))) (negQ (mkRat (sg s m) d)) w ?_ ?_ ?_
  (fun c h=>x8u m d c z i (u c h)) (fun c h=>v2u m _ c z A g (u c h)) (fun c h=>v2u d _ c i A g (u c h))
 ·refine F.mono ?_;rintro e H ⟨rfl,hb⟩;refine⟨?_,hb⟩;have hf:fitQ (mkRat (sg s m) d)↔((str (dec (m / Nat.gcd m d))).size<=400/\(str (dec (d / Nat.gcd m d))).size<=400):=by
   unfold fitQ;rw[j,p,z1g,z1g]
  have B:nv (mkRat (sg s m) d)=nvS (negQ (mkRat (sg s m) d)) (str (dec (m / Nat.gcd m d))) (str (dec (d / Nat.gcd m d))):=by
   unfold nv;rw[j,p]
  rw[B];by_cases h:fitQ (mkRat (sg s m) d)
  ·rw[if_pos h,if_pos (hf.1 h)]
  rw[if_neg h,if_neg (fun e=>h (hf.2 e))]
 ·rw[D];cases s
  ·left;refine⟨rfl,?_⟩;rw[decide_eq_false_iff_not,v7g];simp
  right;refine⟨rfl,?_⟩
  by_cases k:m=0
  ·subst k;rw[z5d,Lib.toList_data];rfl
  have:(decide (sg true m<0))=true:=by rw[decide_eq_true_eq,v7g];exact⟨rfl,k⟩
  rw[this];exact z4j (l:=[48]) (fun e=>k (z7k ((by have:=congrArg bts e;rw[z2q,z2q] at this;exact this:dec m=[48]).trans z5d.symm)))
 ·rw[z1g];exact G
 rw[z1g];exact C
end
section
open Go.RowKit
theorem z0a {W a b:World} (h:Below W.heap.size W a) (hb:Below a.heap.size a b):Below W.heap.size W b:=h.trans (hb.mono h.size)
def WR (p q:Bool) (xn xd yn yd:ByteArray) (w:World):World :=
 ((w.alloc (.cells #[.bool p,.string xn,.string xd] 189)).alloc (.cells #[.bool q,.string yn,.string yd] 189)).alloc (.cells #[.bool false,.string ⟨#[]⟩,.string ⟨#[]⟩] 189)
theorem y2v (p q:Bool) (g h c d:ByteArray) (w:World):Below w.heap.size w (WR p q g h c d w):=by
 unfold WR;exact((blr.alloc nlr _).alloc (by simp) _).alloc (by simp;omega) _
theorem z5w {p q:Bool} {i j l g:ByteArray} {w d:World} (h:Below (WR p q i j l g w).heap.size (WR p q i j l g w) d) :
  Below (WR p q i j l g w).heap.size (WR p q i j l g w) d /\
  d.cell? ⟨w.heap.size,0,none⟩=some (.bool p)/\d.cell? ⟨w.heap.size,1,none⟩=some (.string i)/\d.cell? ⟨w.heap.size,2,none⟩=some (.string j) /\
  d.cell? ⟨w.heap.size+1,0,none⟩=some (.bool q)/\d.cell? ⟨w.heap.size+1,1,none⟩=some (.string l)/\d.cell? ⟨w.heap.size+1,2,none⟩=some (.string g):=by
 have c:∀ k,k<3->w.heap.size+k<(WR p q i j l g w).heap.size:=by intro k m;unfold WR;simp;omega
 refine⟨h,?_,?_,?_,?_,?_,?_⟩
 ·exact(h.cell (p:=⟨w.heap.size,0,none⟩) (c 0 (by omega))).trans (by simp[WR,go_sem])
 ·exact(h.cell (p:=⟨w.heap.size,1,none⟩) (c 0 (by omega))).trans (by simp[WR,go_sem])
 ·exact(h.cell (p:=⟨w.heap.size,2,none⟩) (c 0 (by omega))).trans (by simp[WR,go_sem])
 ·exact(h.cell (p:=⟨w.heap.size+1,0,none⟩) (c 1 (by omega))).trans (by simp[WR,go_sem])
 ·exact(h.cell (p:=⟨w.heap.size+1,1,none⟩) (c 1 (by omega))).trans (by simp[WR,go_sem])
 exact(h.cell (p:=⟨w.heap.size+1,2,none⟩) (c 1 (by omega))).trans (by simp[WR,go_sem])
theorem y5u {p q:Bool} {g i j d:ByteArray} {w c:World} (h:Below (WR p q g i j d w).heap.size (WR p q g i j d w) c) :
  c.cell? ⟨w.heap.size+1+1,0,none⟩=some (.bool false)/\c.cell? ⟨w.heap.size+1+1,1,none⟩=some (.string ⟨#[]⟩)/\c.cell? ⟨w.heap.size+1+1,2,none⟩=some (.string ⟨#[]⟩) /\
  c.frozen? ⟨w.heap.size+1+1,0,none⟩=false/\c.frozen? ⟨w.heap.size+1+1,1,none⟩=false/\c.frozen? ⟨w.heap.size+1+1,2,none⟩=false:=by
 have e:w.heap.size+1+1=((w.alloc (.cells #[.bool p,.string g,.string i] 189)).alloc (.cells #[.bool q,.string j,.string d] 189)).heap.size:=by simp
 rw[e];obtain⟨u,m,k,l,o,s,_⟩:=res3 h;exact⟨u,m,k,l,o,s⟩
theorem u2d {P:Program} {fn:Func} {R:Ending->World->Prop} {c:List PanicEntry} {a:Act} {w:World} {S:World->Prop} {G:Act->World->Prop} {g:Act->World->Prop}
  (_:Shut (∀ a w,S w->(S w->G a w)->g a w)) (d:Tmp) (v:Value) (h:bodyPost P fn R (.panic c) a w) (_:Hid False->g (a.put (some d) v) w):bodyPost P fn R (.panic c) a w:=h
theorem y2e {p q:Bool} {g i c d:ByteArray} {w j:World} (h:Below (WR p q g i c d w).heap.size (WR p q g i c d w) j):Below (w.heap.size+1+1) (WR p q g i c d w) j:=by
 refine h.mono ?_;unfold WR;simp
theorem z2i {p q:Bool} {i j l g:ByteArray} {w c:World} (h:Below (w.heap.size+1+1) (WR p q i j l g w) c) :
  Below (w.heap.size+1+1) (WR p q i j l g w) c /\
  c.cell? ⟨w.heap.size,0,none⟩=some (.bool p)/\c.cell? ⟨w.heap.size,1,none⟩=some (.string i)/\c.cell? ⟨w.heap.size,2,none⟩=some (.string j) /\
  c.cell? ⟨w.heap.size+1,0,none⟩=some (.bool q)/\c.cell? ⟨w.heap.size+1,1,none⟩=some (.string l)/\c.cell? ⟨w.heap.size+1,2,none⟩=some (.string g):=by
 have k:w.heap.size<w.heap.size+1+1:=by omega
 have d:w.heap.size+1<w.heap.size+1+1:=by omega
 refine⟨h,?_,?_,?_,?_,?_,?_⟩
 ·exact(h.cell (p:=⟨w.heap.size,0,none⟩) k).trans (by simp[WR,go_sem])
 ·exact(h.cell (p:=⟨w.heap.size,1,none⟩) k).trans (by simp[WR,go_sem])
 ·exact(h.cell (p:=⟨w.heap.size,2,none⟩) k).trans (by simp[WR,go_sem])
 ·exact(h.cell (p:=⟨w.heap.size+1,0,none⟩) d).trans (by simp[WR,go_sem])
 ·exact(h.cell (p:=⟨w.heap.size+1,1,none⟩) d).trans (by simp[WR,go_sem])
 exact(h.cell (p:=⟨w.heap.size+1,2,none⟩) d).trans (by simp[WR,go_sem])
end
section
open Go.RowKit
theorem x5r (w:World):(Instr.typeAssert .nilIface 20 198 true).run prog w=.ok (.tuple #[.agg #[],.bool false]) w:=by kernel_rfl
theorem x2k (w:World):(Instr.typeAssert (.iface 198 (.agg #[])) 20 198 true).run prog w=.ok (.tuple #[.agg #[],.bool true]) w:=by kernel_rfl
theorem x5p (p q:Addr) (w:World) :
  CallsD prog 217 #[.pointer (some p),.pointer (some q)] .returning w fun e u' w'=>e=.returned (.tuple #[])/\u'=.returning/\Below w.heap.size w w':=by
 have d:Below w.heap.size w (w.alloc (.cells #[] 198)):=blr.alloc nlr _;refine callsD_of_wpS func217 rfl fun h i g=>?_;simp only[ntmps217,List.size_toArray,List.length_cons,List.length_nil,Nat.reduceAdd,Nat.reduceSub,Array.replicate_succ,
   Array.replicate_zero,List.push_toArray,List.append_toArray,List.nil_append,List.cons_append]
 apply wpS_seq
 apply wpS_region
 simp[wpOpsS,go_sem,recoverD,g,Exit.thenS,x5r];refine wpS_of_wp ?_;go_wp2;refine⟨rfl,.returning,?_,.tuple #[],?_,rfl,rfl,d⟩
 ·rw[<- g]
 exact results_none rfl _ _ _
theorem x6j (b c:Nat) (w:World) (s:ByteArray) (n:Int) (A:w.cell? ⟨b,0,none⟩=some (.string s)) (p:w.cell? ⟨c,0,none⟩=some (.int .i64 n)) (E:w.frozen? ⟨b,0,none⟩=false) (G:w.frozen? ⟨c,0,none⟩=false) (hb:b<w.heap.size) (z:c<w.heap.size) (d:¬ b=c) :
  CallsD prog 217 #[.pointer (some ⟨b,0,none⟩),.pointer (some ⟨c,0,none⟩)] (.panicking ({ v:=.iface 198 (.agg #[]),recovered:=false }::[])) w fun e u' w' =>
   e=.returned (.tuple #[])/\u'=.panicking ({ v:=.iface 198 (.agg #[]),recovered:=true }::[])/\w'.cell? ⟨b,0,none⟩=some (.string ⟨#[]⟩)/\w'.cell? ⟨c,0,none⟩=some (.int .i64 2) /\
    ∀ B a,Below B a w->B<=b->B<=c->Below B a w':=by
 refine callsD_of_wpS func217 rfl fun D F u=>?_;simp only[ntmps217,List.size_toArray,List.length_cons,List.length_nil,Nat.reduceAdd,Nat.reduceSub,Array.replicate_succ,
   Array.replicate_zero,List.push_toArray,List.append_toArray,List.nil_append,List.cons_append]
 apply wpS_seq
 apply wpS_region
 simp[wpOpsS,go_sem,recoverD,u,Exit.thenS,x2k];refine wpS_of_wp ?_;go_wp2;have i:(w.setCell ⟨b,0,none⟩ (.string ⟨#[]⟩)).cell? ⟨b,0,none⟩=some (.string ⟨#[]⟩):=World.cell?_setCell_same _ _ _ A;have l:(w.setCell ⟨b,0,none⟩ (.string ⟨#[]⟩)).cell? ⟨c,0,none⟩=some (.int .i64 n):=(World.cell?_setCell_other _ ⟨b,0,none⟩ ⟨c,0,none⟩ _ (fun e=>d (by injection e))).trans p;have m:=World.cell?_setCell_same _ _ (.int .i64 2) l;have o:=(World.cell?_setCell_other _ ⟨c,0,none⟩ ⟨b,0,none⟩ (.int .i64 2) (fun e=>d (by injection e with e _;exact e.symm))).trans i;have g:∀ (x y:Value),((w.setCell ⟨b,0,none⟩ x).setCell ⟨c,0,none⟩ y).heap.size=w.heap.size:=fun x y=>by simp
 refine⟨rfl,.panicking [{ v:=.iface 198 (.agg #[]),recovered:=true }],rfl,.tuple #[],results_none rfl _ _ _,rfl,rfl,?_,?_,?_⟩
 ·rw[World.cell?_alloc_past (hn:=by rw[g];exact hb)];exact o
 ·rw[World.cell?_alloc_past (hn:=by rw[g];exact z)];exact m
 intro B a h j k;have C:B<=w.heap.size:=by omega
 exact((h.setCell j _).setCell k _).alloc (by rw[g];exact C) _
theorem x0a {w c:World} {a b:Value} {t u:TypeId} (h:Below ((w.alloc (.cells #[a] t)).alloc (.cells #[b] u)).heap.size ((w.alloc (.cells #[a] t)).alloc (.cells #[b] u)) c) :
  c.cell? ⟨w.heap.size,0,none⟩=some a/\c.cell? ⟨w.heap.size+1,0,none⟩=some b/\c.frozen? ⟨w.heap.size,0,none⟩=false/\c.frozen? ⟨w.heap.size+1,0,none⟩=false/\w.heap.size+1<c.heap.size:=by
 have i:=h.size;have e:((w.alloc (.cells #[a] t)).alloc (.cells #[b] u)).heap.size=w.heap.size+1+1:=by simp
 rw[e] at i;have g:w.heap.size<((w.alloc (.cells #[a] t)).alloc (.cells #[b] u)).heap.size:=by rw[e];omega
 have d:w.heap.size+1<((w.alloc (.cells #[a] t)).alloc (.cells #[b] u)).heap.size:=by rw[e];omega
 refine⟨?_,?_,?_,?_,by omega⟩
 ·exact(h.cell (p:=⟨w.heap.size,0,none⟩) g).trans (by simp[go_sem])
 ·exact(h.cell (p:=⟨w.heap.size+1,0,none⟩) d).trans (by simp[go_sem])
 ·exact(h.frozen (p:=⟨w.heap.size,0,none⟩) g).trans (by simp[go_sem])
 exact(h.frozen (p:=⟨w.heap.size+1,0,none⟩) d).trans (by simp[go_sem])
theorem u2p:∀ args w,(callFunc 200 args).run prog w=.ok (.enter 200 args) w:=fun args w=>by kernel_rfl
theorem y4i {fn:Func} {p u:Tmp} (h:fn.results=#[.cell p 9,.cell u 29]) (d:Array Value) (W:World) (b c:Nat) (s:ByteArray) (n:Int)
  (k:d.getD p undef=.pointer (some ⟨b,0,none⟩)) (j:d.getD u undef=.pointer (some ⟨c,0,none⟩)) (c0:W.cell? ⟨b,0,none⟩=some (.string s)) (c1:W.cell? ⟨c,0,none⟩=some (.int .i64 n)) :
  (results fn d).run prog W=.ok (.tuple #[.string s,.int .i64 n]) W:=by
 have i:d[p]?.getD undef=.pointer (some ⟨b,0,none⟩):=by rw[<- k];simp
 have g:d[u]?.getD undef=.pointer (some ⟨c,0,none⟩):=by rw[<- j];simp
 simp only[results,h];simp[i,g,go_sem,c0,c1]
theorem x2u (i:Array Value) (q:Rat) (w:World) (o:∀ wx,Below w.heap.size w wx->Calls prog 200 i wx (QEnd q wx)) :
  Calls prog 199 #[.func (.func 200) #[] i] w (PairEnd (limR q) w):=by
 have O:∀ (fn:Fn) (first cap:Array Value) (w:World),(Instr.makeFunc fn first cap).run prog w=.ok (.func fn first cap) w:=fun _ _ _ _=>rfl
 have P:=u2p;have l:Below w.heap.size w ((w.alloc (.cells #[.string ⟨#[]⟩] 9)).alloc (.cells #[.int .i64 0] 29)):=(blr.alloc nlr _).alloc (by simp) _;have h:=qh l;clear l;have k:=qh o;clear o;by_cases hf:fitQ q
 ·rw[z8p hf];have z:=qh hf;clear hf
  go_enter_defers func199,ntmps199
  go_wp2_with fail
  have d:=k.out _ h.out;unfold QEnd at d;rw[if_pos z.out] at d;refine d.mono ?_;clear d;rintro e G ⟨rfl,c⟩;have g:=qh c;clear c
  go_wp2_with fail
  refine(x1g q G z.out).mono ?_;rintro e m ⟨rfl,s⟩;have u:=qh (z0a g.out s);clear s;obtain⟨A,C,H,I,j⟩:=x0a u.out
  go_wp2_with fail
  have D:=World.cell?_setCell_same _ _ (.string (txt q)) A;have E:=(World.cell?_setCell_other m ⟨w.heap.size,0,none⟩ ⟨w.heap.size+1,0,none⟩ (.string (txt q)) (fun e=>by injection e;omega)).trans C;have L:=World.cell?_setCell_same _ _ (.int .i64 0) E;have N:=(World.cell?_setCell_other (m.setCell ⟨w.heap.size,0,none⟩ (.string (txt q))) ⟨w.heap.size+1,0,none⟩ ⟨w.heap.size,0,none⟩ (.int .i64 0) (fun e=>by injection e;omega)).trans D;have B:((m.setCell ⟨w.heap.size,0,none⟩ (.string (txt q))).setCell ⟨w.heap.size+1,0,none⟩ (.int .i64 0)).heap.size=m.heap.size:=by simp
  refine leaves_cons (f:=217) (args:=#[.pointer (some ⟨w.heap.size,0,none⟩),.pointer (some ⟨w.heap.size+1,0,none⟩)]) (by simp) (by simp[go_sem]) ?_;refine(x5p _ _ _).mono ?_;rintro e K F ⟨rfl,rfl,hb⟩;refine⟨_,y4i rfl _ _ w.heap.size (w.heap.size+1) (txt q) 0 rfl rfl ?_ ?_,rfl,?_⟩
  ·exact(hb.cell (p:=⟨w.heap.size,0,none⟩) (by rw[B];show w.heap.size<_;omega)).trans N
  ·exact(hb.cell (p:=⟨w.heap.size+1,0,none⟩) (by rw[B];exact j)).trans L
  have J:Below w.heap.size w m:=z0a h.out u.out;exact((J.setCell nlr _).setCell (Nat.le_succ _) _).trans (hb.mono (by rw[B];omega))
 rw[v1i hf];have z:=qh hf;clear hf
 go_enter_defers func199,ntmps199
 go_wp2_with fail
 have d:=k.out _ h.out;unfold QEnd at d;rw[if_neg z.out] at d;unfold PT at d;refine d.mono ?_;clear d;rintro e G ⟨rfl,c⟩;have g:=qh c;clear c;obtain⟨A,C,H,I,j⟩:=x0a g.out;refine leaves_cons (f:=217) (args:=#[.pointer (some ⟨w.heap.size,0,none⟩),.pointer (some ⟨w.heap.size+1,0,none⟩)]) (by simp) (by simp[go_sem]) ?_;refine(x6j _ _ _ _ _ A C H I (by omega) j (by omega)).mono ?_;rintro e K F ⟨rfl,rfl,D,E,hb⟩;exact⟨_,y4i rfl _ _ w.heap.size (w.heap.size+1) ⟨#[]⟩ 2 rfl rfl D E,rfl,hb _ _ (z0a h.out g.out) nlr (Nat.le_succ _)⟩
end
section
open Go.RowKit
theorem x0w (l:List UInt8):Lib.indexByte l 47=if hasS l then ((upTo l).length:Int) else -1:=by
 induction l with
 | nil=>rfl
 | cons a l ih =>
  by_cases c:a=47
  ·subst c;simp[Lib.indexByte,hasS,upTo]
  have h:hasS (a::l)=hasS l:=by simp[hasS,c]
  have d:upTo (a::l)=a::upTo l:=by simp[upTo,c]
  have g:(a==47)=false:=by rw[beq_eq_false_iff_ne];exact c
  rw[h,d,Lib.indexByte,g,ih];cases hasS l
  ·rfl
  simp only[if_true,List.length_cons,Bool.false_eq_true,if_false];rw[if_neg (by rw[beq_iff_eq];omega)];omega
theorem y3v (s:ByteArray) (a b:Nat):bts (s.extract a b)=((bts s).take b).drop a:=by
 show (s.extract a b).data.toList=_;rw[ByteArray.data_extract,Array.toList_extract,List.extract_eq_take_drop];exact List.drop_take.symm
theorem u0n {s d t c:ByteArray} {b:Bool} (h:s=d) (g:t=c):Ending.returned (.tuple #[.string s,.string t,.bool b])=.returned (.tuple #[.string d,.string c,.bool b]):=by rw[h,g]
theorem u0j (s:ByteArray) (w:World) :
  Calls prog 240 #[.string s,.string ⟨#[47]⟩] w fun e w'=>e=.returned (.int .i64 (Lib.indexByte (bts s) 47))/\w=w':=by
 by_cases h:s=⟨#[47]⟩
 ·subst h
  go_enter func240,ntmps240
  go_wp2;go_ret;exact⟨rfl,rfl⟩
 have g:(s.toList==[47])=false:=z4j h;have i:([47]==s.toList)=false:=by rw[Bool.beq_comm];exact g
 have c:=Tryz.stringslite_IndexByte s 47 w;have d:=qh c;clear c h
 go_enter func240,ntmps240
 go_wp2_with fail
 refine d.out.mono ?_;rintro e w' ⟨rfl,rfl⟩;go_wp2;go_ret;exact⟨rfl,rfl⟩
theorem v3t (s:ByteArray) (w:World) (p:s.size<=9223372036854775807) :
  Calls prog 226 #[.string s,.string ⟨#[47]⟩] w fun e w'=>e=.returned (.tuple #[.string (str (upTo (bts s))),.string (str (if hasS (bts s) then z6i (bts s) else [])),.bool (hasS (bts s))])/\Below w.heap.size w w':=by
 have d:=u0j s w;rw[x0w] at d;cases h:hasS (bts s)
 ·rw[h] at d;simp only[Bool.false_eq_true,if_false] at d;rw[y6z _ h,y2x];have m:=qh d;clear d h
  go_enter func226,ntmps226
  go_wp2_with fail
  refine m.out.mono ?_;rintro e w' ⟨rfl,rfl⟩;go_wp2
  go_ret3
  exact⟨rfl,blr⟩
 rw[h] at d;simp only[if_true] at d;have g:=y5r _ h;have c:=congrArg List.length g;rw[z1m,List.length_append,List.length_cons] at c;generalize hi:(upTo (bts s)).length=i at d c;have c1:(0:Int)<=(i:Int):=by omega
 have c2:(i:Int)<=(s.size:Int):=by omega
 have c3:(0:Int)<=(i:Int)+1:=by omega
 have c4:(i:Int)+1<=(s.size:Int):=by omega
 have c5:IntKind.i64.wrap ((i:Int)+1)=(i:Int)+1:=by rw[IntKind.wrap_i64];omega
 have k:s.extract 0 i=str (upTo (bts s)):=by
  apply y8c;rw[y3v,z2q];conv=>lhs;rw[g]
  rw[<- hi,List.take_left,List.drop_zero]
 have j:s.extract (i+1) s.size=str (z6i (bts s)):=by
  apply y8c;rw[y3v,z2q,List.take_of_length_le (by rw[z1m];omega)];conv=>lhs;rw[g]
  rw[<- hi,<- List.drop_drop,List.drop_left];rfl
 have m:=qh d;clear d h;have l:=qh k;clear k;have o:=qh j;clear j g hi c p
 go_enter func226,ntmps226
 go_wp2_with fail
 refine m.out.mono ?_;rintro e w' ⟨rfl,rfl⟩
 go_wp2_with fail
 go_quiet (fail)
 go_wp2
 go_ret3
 exact⟨u0n l.out o.out,below_drewN blr _⟩
theorem u1q (s:ByteArray) (w:World) (d:s.size<=9223372036854775807) :
  Calls prog 211 #[.string s,.string ⟨#[47]⟩] w fun e w'=>e=.returned (.tuple #[.string (str (upTo (bts s))),.string (str (if hasS (bts s) then z6i (bts s) else [])),.bool (hasS (bts s))])/\Below w.heap.size w w':=by
 have c:=v3t s w d;generalize str (upTo (bts s))=x at c ⊢;generalize str (if hasS (bts s) then z6i (bts s) else [])=y at c ⊢
 generalize hasS (bts s)=z at c ⊢;have g:=qh c;clear c d
 go_enter func211,ntmps211
 go_wp2_with fail
 refine g.out.mono ?_;rintro e w' ⟨rfl,hb⟩;have h:=qh hb;clear hb;go_wp2
 go_ret3
 exact⟨rfl,h.out⟩
theorem v5u (s:ByteArray) (w:World) :
  Calls prog 210 #[.string s,.string ⟨#[45]⟩] w fun e w'=>e=.returned (.tuple #[.string (str (z0z (bts s))),.bool (z6f (bts s))])/\w=w':=by
 refine(Tryz.strings_CutPrefix s ⟨#[45]⟩ w).mono ?_;rintro e w' ⟨rfl,rfl⟩;refine⟨?_,rfl⟩;have d:Lib.hasPrefix s.data.toList [45]=z6f (bts s):=by
  show Lib.hasPrefix (bts s) [45]=_;cases bts s with
  | nil=>rfl
  | cons a l =>
   show ((45:UInt8)==a&&true)=(a==45);rw[Bool.and_true];exact BEq.comm
 have g:Lib.trimPrefix s.data.toList [45]=z0z (bts s):=by
  show Lib.trimPrefix (bts s) [45]=_;unfold Lib.trimPrefix z0z;have c:Lib.hasPrefix (bts s) [45]=z6f (bts s):=d;rw[c];split
  ·cases bts s<;>rfl
  rfl
 show Ending.returned (.tuple #[.string ⟨(Lib.trimPrefix s.data.toList [45]).toArray⟩,.bool (Lib.hasPrefix s.data.toList [45])])=_;rw[d,g];rfl
end
end Go.Proofs.YteappjogmnogcaaGreatDoor
