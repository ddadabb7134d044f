/- Parts of a proof: ME DivOps NumL RatA RatN RatR RatH RatW CutW. -/
import Derived.Test.YteappjogmnogcaaGreatDoorV02
import Derived.RegionTactic
import Derived.BigRegion
import Derived.Deep.LoopGhost
import Derived.Deep.Cut
import Derived.Deep.DeepCutAuto
import Derived.Test.YteappjogmnogcaaGreatDoorV00
import Derived.WalkLawsBesides
import Derived.Laws.Concat
import Derived.Handy
import Derived.Deep.RegionHeld2
import Derived.Deep.DrawnRows
import Derived.Recover
import Derived.Defers
import Derived.Lib.Bytealg
import Derived.Deep.QuietTactic
import Derived.BigQuiet
namespace Go.Proofs.YteappjogmnogcaaGreatDoor
set_option maxRecDepth 100000
set_option linter.unusedSimpArgs false
set_option linter.unusedVariables false
set_option linter.unusedSectionVars false
set_option maxHeartbeats 16000000
open Go Tryz
section
open Go.RowKit
theorem y0n (xs:List Nat) (a:Nat) (h:a<xs.length):bval (xs.drop a)=nth xs a+BB*bval (xs.drop (a+1)):=by
 rw[List.drop_eq_getElem_cons h];simp only[bval];rw[y1i xs a h]
theorem y5z {xs:List Nat} (h:Small xs) (k:Nat):Small (xs.drop k):=fun i=>by rw[y2p];exact h _
theorem y5e {L L0:List Nat} {k a:Nat} (h:L.take k=L0.take k) (c:a<k):nth L a=nth L0 a:=by
 rw[<- z8j L k a c,h,z8j _ _ _ c]
structure DvInv (L0 vs L qs:List Nat) (n a:Nat):Prop where
 len:L.length=L0.length
 ql:qs.length+n=L0.length
 ale:a<=qs.length
 small:Small L
 sq:Small qs
 low:L.take a=L0.take a
 rem:bval (L.drop a)<bval vs
 val:bval (L0.drop a)=bval (qs.drop a)*bval vs+bval (L.drop a)
structure Div0 (L0 vs:List Nat) (n:Nat):Prop where
 s0:Small L0
 sv:Small vs
 n1:1<=n
 lv:vs.length=n
 v1:1<=nth vs (n-1)
theorem DvInv.start {L0 c:List Nat} {n:Nat} (h:Div0 L0 c n) (hn:n<=L0.length) (d:bval (L0.drop (L0.length-n))<bval c) :
  DvInv L0 c L0 (List.replicate (L0.length-n) 0) n (L0.length-n):=by
 refine⟨rfl,by simp;omega,by simp,h.s0,z8c _,rfl,d,?_⟩;have e:(List.replicate (L0.length-n) 0).drop (L0.length-n)=[]:=List.drop_of_length_le (by simp);rw[e];simp[bval]
theorem DvInv.cut (L:List Nat) (n a:Nat):L=L.take a++(L.drop a).take (n+1)++L.drop (a+(n+1)):=by
 rw[List.append_assoc,show L.drop (a+(n+1))=(L.drop a).drop (n+1) by rw[List.drop_drop],List.take_append_drop,List.take_append_drop]
theorem DvInv.seg_len {L0 c L d:List Nat} {n a:Nat} (h:DvInv L0 c L d n (a+1)):((L.drop a).take (n+1)).length=n+1/\(L.take a).length=a:=by
 have:=h.len;have:=h.ql;have:=h.ale;rw[List.length_take,List.length_drop,List.length_take];omega
theorem DvInv.top {L0 c L g:List Nat} {n a:Nat} (h:DvInv L0 c L g n (a+1)):bval (L.drop a)<bval c*BB:=by
 have:=h.len;have:=h.ql;have:=h.ale;rw[y0n L a (by omega)];have i:=h.small a;have d:BB*(bval (L.drop (a+1))+1)<=BB*bval c:=Nat.mul_le_mul_left _ h.rem;rw[Nat.mul_add,Nat.mul_comm BB (bval c)] at d;omega
theorem DvInv.high {L0 d L k:List Nat} {n a:Nat} (j:Div0 L0 d n) (h:DvInv L0 d L k n (a+1)):bval (L.drop a)=bval ((L.drop a).take (n+1))/\bval (L.drop (a+(n+1)))=0:=by
 have g:=z4m ((L.drop a).take (n+1)) ((L.drop a).drop (n+1));rw[List.take_append_drop,List.drop_drop,h.seg_len.1] at g;have m:=h.top;have i:=z3z j.sv;rw[j.lv] at i;have l:bval d*BB<BB ^ (n+1):=by rw[Nat.pow_succ];exact Nat.mul_lt_mul_of_pos_right i z1y
 rcases Nat.eq_zero_or_pos (bval (L.drop (a+(n+1)))) with c|c
 ·rw[c,Nat.mul_zero,Nat.add_zero] at g;exact⟨g,c⟩
 have:BB ^ (n+1)*1<=BB ^ (n+1)*bval (L.drop (a+(n+1))):=Nat.mul_le_mul_left _ c;omega
theorem DvInv.divIn {L0 d L g:List Nat} {n a:Nat} (c:Div0 L0 d n) (h:DvInv L0 d L g n (a+1)):DivIn ((L.drop a).take (n+1)) d n :=
 ⟨z4p (y5z h.small a) _,c.sv,c.n1,h.seg_len.1,c.lv,c.v1,by rw[<- (h.high c).1];exact h.top⟩
theorem DvInv.step {L0 d L k c:List Nat} {n a:Nat} (p:Div0 L0 d n) (h:DvInv L0 d L k n (a+1)) (C:c.length=n+1) (E:Small c)
  (s:bval c=bval ((L.drop a).take (n+1)) % bval d) :
  DvInv L0 d (L.take a++c++L.drop (a+(n+1))) (k.set a (bval ((L.drop a).take (n+1)) / bval d)) n a:=by
 have z:=h.divIn p;have A:=h.high p;have j:=h.seg_len;have G:=h.len;have F:=h.ql;have H:=h.ale;have g:(L.take a++c++L.drop (a+(n+1))).drop a=c++L.drop (a+(n+1)):=by
  rw[List.append_assoc];have:=List.drop_left (l₁:=L.take a) (l₂:=c++L.drop (a+(n+1)))
  rwa [j.2] at this
 have B:bval ((L.take a++c++L.drop (a+(n+1))).drop a)=bval c:=by rw[g,z4m,A.2];simp
 have D:(k.set a (bval ((L.drop a).take (n+1)) / bval d)).drop a=(bval ((L.drop a).take (n+1)) / bval d)::k.drop (a+1):=by
  rw[List.drop_eq_getElem_cons (by simp;omega),List.drop_set,if_pos (by omega)];simp
 refine⟨by simp[C];omega,by simp;omega,by simp;omega,?_,z7w h.sq _ _ z.qlt,?_,?_,?_⟩
 ·intro i;by_cases o:i<a
  ·rw[List.append_assoc,z4b _ _ _ (by omega)];exact z4p h.small a i
  rw[List.append_assoc,z3i _ _ _ (by omega)];by_cases m:i-(L.take a).length<c.length
  ·rw[z4b _ _ _ m];exact E _
  rw[z3i _ _ _ (by omega)];exact y5z h.small _ _
 ·have e:(L.take a++c++L.drop (a+(n+1))).take a=L.take a:=by
   rw[List.append_assoc];have:=List.take_left (l₁:=L.take a) (l₂:=c++L.drop (a+(n+1)))
   rwa [j.2] at this
  rw[e];have:=congrArg (List.take a) h.low;rw[List.take_take,List.take_take,Nat.min_eq_left (by omega)] at this;exact this
 ·rw[B,s];exact Nat.mod_lt _ z.vpos'
 rw[B,D,y0n L0 a (by omega),h.val];simp only[bval];have o:=y0n L a (by omega);rw[A.1] at o;have m:nth L a=nth L0 a:=y5e h.low (by omega);have u:=Nat.div_add_mod (bval ((L.drop a).take (n+1))) (bval d);rw[<- s] at u;generalize bval ((L.drop a).take (n+1)) / bval d=qd at *;generalize bval ((L.drop a).take (n+1))=U at *;rw[Nat.mul_comm (bval d) qd] at u;rw[Nat.add_mul,Nat.mul_add,<- Nat.mul_assoc];omega
theorem DvInv.done {L0 d L i:List Nat} {n:Nat} (h:DvInv L0 d L i n 0):bval i=bval L0 / bval d/\bval L=bval L0 % bval d:=by
 have g:=h.val;have c:=h.rem;simp only[List.drop_zero] at g c;rw[g,Nat.add_comm,Nat.mul_comm];exact⟨by rw[Nat.add_mul_div_left _ _ (by omega),Nat.div_eq_of_lt c,Nat.zero_add],by rw[Nat.add_mul_mod_self_left,Nat.mod_eq_of_lt c]⟩
structure DnInv (r0 L:List Nat) (k a lf:Nat):Prop where
 len:L.length=r0.length
 ale:a<=r0.length
 small:Small L
 left:lf<k
 low:L.take a=r0.take a
 val:bval (r0.drop a)=k*bval (L.drop a)+lf
theorem DnInv.start {c:List Nat} {k:Nat} (d:1<=k) (g:Small c):DnInv c c k c.length 0 :=
 ⟨rfl,nlr,g,d,rfl,by rw[List.drop_length];simp[bval]⟩
theorem DnInv.bound {c L:List Nat} {k a d:Nat} (h:DnInv c L k (a+1) d) (j:Small c):d*1000000000+nth c a<k*1000000000:=by
 have i:=j a;have g:=h.left;rw[z0t] at i;have:(d+1)*1000000000<=k*1000000000:=Nat.mul_le_mul_right _ g;omega
theorem DnInv.step {c L:List Nat} {k a d:Nat} (h:DnInv c L k (a+1) d) (g:1<=k) (j:Small c) :
  DnInv c (L.set a ((d*1000000000+nth c a) / k)) k a ((d*1000000000+nth c a) % k):=by
 have hb:=h.bound j;have l:=h.len;have o:=h.ale;have m:(d*1000000000+nth c a) / k<BB:=by
  rw[z0t];exact Nat.div_lt_of_lt_mul hb
 refine⟨by simp;exact l,by omega,z7w h.small _ _ m,Nat.mod_lt _ g,?_,?_⟩
 ·rw[take_set];have:=congrArg (List.take a) h.low;rw[List.take_take,List.take_take,Nat.min_eq_left (by omega)] at this;exact this
 have i:(L.set a ((d*1000000000+nth c a) / k)).drop a=((d*1000000000+nth c a) / k)::L.drop (a+1):=by
  rw[List.drop_eq_getElem_cons (by simp;omega),List.drop_set,if_pos (by omega)];simp
 rw[i,y0n c a (by omega),h.val];simp only[bval];have p:=Nat.div_add_mod (d*1000000000+nth c a) k;generalize (d*1000000000+nth c a) / k=qd at *;rw[Nat.mul_add,Nat.mul_add,Nat.mul_left_comm BB k];have:BB*d=d*1000000000:=by rw[z0t,Nat.mul_comm]
 omega
theorem DnInv.done {d L:List Nat} {k g:Nat} (h:DnInv d L k 0 g):bval L=bval d / k:=by
 have c:=h.val;simp only[List.drop_zero] at c;rw[c,Nat.add_comm,Nat.add_mul_div_left _ _ (Nat.lt_of_le_of_lt (Nat.zero_le _) h.left),Nat.div_eq_of_lt h.left,Nat.zero_add]
theorem x3r {d:Nat} (l:d≠0) {k:Nat} (i:k=1000000000 / (nth (toB d) ((toB d).length-1)+1)) :
  1<=k/\k<BB/\(toB (d*k)).length=(toB d).length:=by
 have j:=y1z l;have u:=z0x d ((toB d).length-1);have o:=y9i l;have s:=y0g (xs:=toB d) rfl j;rw[z1b] at s;have A:=y3y (z0x d) ((toB d).length-1) (by omega);generalize hx:nth (toB d) ((toB d).length-1)=x at *;have c:1<=k:=by rw[i,Nat.le_div_iff_mul_le (by omega)];rw[z0t] at u;omega
 have g:k*(x+1)<=BB:=by rw[i,z0t];exact Nat.div_mul_le_self _ _
 have h:k<BB:=by
  have:k*2<=k*(x+1):=Nat.mul_le_mul_left _ (by omega);omega
 refine⟨c,h,?_⟩
 apply Nat.le_antisymm
 ·apply z6n
  have m:d<BB ^ ((toB d).length-1)*(x+1):=by rw[Nat.mul_add];omega
  have z:d*k<BB ^ ((toB d).length-1)*(x+1)*k:=Nat.mul_lt_mul_of_pos_right m c;have p:BB ^ ((toB d).length-1)*((x+1)*k)<=BB ^ ((toB d).length-1)*BB:=Nat.mul_le_mul_left _ (by rw[Nat.mul_comm];exact g);rw[<- Nat.mul_assoc,<- x5y j] at p;omega
 exact z2j (by
             have:d*1<=d*k:=Nat.mul_le_mul_left _ c;omega)
theorem u2y {m k:Nat} (g:k<BB) (c:1<=k):(toB m).length<=(toB (m*k)).length/\(toB (m*k)).length<=(toB m).length+1:=by
 refine⟨z2j (by
              have:m*1<=m*k:=Nat.mul_le_mul_left _ c;omega),z6n ?_⟩
 have d:=z3z (z0x m);rw[z1b] at d;rw[Nat.pow_succ];exact Nat.mul_lt_mul_of_lt_of_le d (by omega) z1y
theorem z9h (xs:List Nat):bval (xs++[0])=bval xs:=by rw[z6s];simp
theorem x0r (xs:List Nat) (j:Nat) (h:Small xs):bval (xs.drop j)=bval xs / BB ^ j:=by
 by_cases c:j<=xs.length
 ·have:=z4m (xs.take j) (xs.drop j);rw[List.take_append_drop,List.length_take,Nat.min_eq_left c] at this;rw[this,Nat.add_mul_div_left _ _ (Nat.pow_pos z1y),Nat.div_eq_of_lt (y3y h j c),Nat.zero_add]
 rw[List.drop_of_length_le (by omega),Nat.div_eq_of_lt]
 ·rfl
 exact Nat.lt_of_lt_of_le (z3z h) (Nat.pow_le_pow_right z1y (by omega))
theorem v0u {m d k:Nat} (h:d≠0) (c:1<=k) (i:(toB d).length<=(toB m).length) {L0:List Nat} (l:Small L0) (s:bval L0=m*k) (j:L0.length=(toB m).length+1) :
  bval (L0.drop (L0.length-(toB d).length))<d*k:=by
 rw[x0r _ _ l,s,j,Nat.div_lt_iff_lt_mul (Nat.pow_pos z1y)];have p:=z3z (z0x m);rw[z1b] at p;have o:=x8b h;have z:=y1z h;have e:BB ^ (toB m).length=BB ^ ((toB d).length-1)*BB ^ ((toB m).length+1-(toB d).length):=by rw[<- Nat.pow_add];congr 1;omega
 have u:BB ^ ((toB d).length-1)*BB ^ ((toB m).length+1-(toB d).length)<=d*BB ^ ((toB m).length+1-(toB d).length):=Nat.mul_le_mul_right _ o;have g:m*k<d*BB ^ ((toB m).length+1-(toB d).length)*k:=Nat.mul_lt_mul_of_pos_right (by omega) c;rw[Nat.mul_right_comm] at g;exact g
end
section
open Go.RowKit
def DivEnd (m d:Nat) (w:World) (e:Ending) (w':World):Prop :=
 ∃ vq vr,e=.returned (.tuple #[vq,vr])/\Sl w' .u64 vq (toB (m / d))/\Sl w' .u64 vr (toB (m % d))/\Below w.heap.size w w'
theorem Own.keptBy {w d:World} {B:Nat} {e:TypeId} {k:IntKind} {g n cap:Nat} {L:List Nat} {row:Option Nat} (h:Own w B e k (.slice (some ⟨g,0,none⟩) n cap) L) (i:w.grownBy d row) (c:some g≠row):Own d B e k (.slice (some ⟨g,0,none⟩) n cap) L :=
 World.ownsRow.kept h i (.inr (by simpa [Value.ownBlock] using c))
theorem Own.some {w:World} {B:Nat} {e:TypeId} {k:IntKind} {v:Value} {L:List Nat} (h:Own w B e k v L) (hn:1<=L.length):∃ g cap,v=.slice (.some ⟨g,0,none⟩) L.length cap/\B<=g/\g<w.heap.size/\L.length<=cap/\cap<=maxLen:=by
 rcases h.2 with ⟨_,o⟩|⟨g,cap,c,j,m,i,l,d,_⟩
 ·omega
 exact⟨g,cap,j,m,(Array.getElem?_eq_some_iff.1 i).1,l,d⟩
theorem x2t (l j:Value) (m d:Nat) (w:World) (k:Sl w .u64 l (toB m)) (p:Sl w .u64 j (toB d)) (g:m<d) :
  Calls prog 223 #[l,j] w (DivEnd m d w):=by
 have c:=z5w l j m d w k p;unfold CmpEnd at c;rw[z7y g] at c;have i:=qh c;clear c;have s:=qh k;clear k p;have h:=qh g;clear g
 go_enter func223,ntmps223
 go_wp2_with fail
 refine nxa i.out fun u o=>?_;go_wp2;go_ret2;refine⟨_,_,rfl,?_,?_,o.out⟩
 ·rw[Nat.div_eq_of_lt h.out];exact Sl.nil _ _
 rw[Nat.mod_eq_of_lt h.out];exact s.out.below o.out nlr
set_option maxRecDepth 100000 in
theorem v0r (vx vy:Value) (m d:Nat) (w:World) (hx:Sl w .u64 vx (toB m)) (hy:Sl w .u64 vy (toB d)) (hd:d≠0) (r9:d<=m) (lx:(toB m).length<=50000) :
  Calls prog 223 #[vx,vy] w (DivEnd m d w):=by
 have e6:=z5w vx vy m d w hx hy;unfold CmpEnd at e6;have t7:∃ q:Int,cmpN m d=q/\0<=q:=by
  rcases Nat.lt_or_ge d m with h|h
  ·exact⟨1,z8b h,by omega⟩
  exact⟨0,y1x (by omega),by omega⟩
 obtain⟨q0,hq,x4⟩:=t7;rw[hq] at e6;clear hq;have g2:=x3r hd rfl;obtain⟨k,hk⟩:∃ k,k=1000000000 / (nth (toB d) ((toB d).length-1)+1):=⟨_,rfl⟩;rw[<- hk] at g2;obtain⟨Z,i7,k9⟩:=g2;have b6:=y1z hd;have i6:(toB d).length<=(toB m).length:=z2j r9;have b0:=u2y (m:=m) i7 Z;have f5:=z0x d ((toB d).length-1);rw[z0t] at f5;obtain⟨ax,cx,rfl⟩:=hx.shape;have HX:=qh hx;clear hx;have HY:=qh hy;obtain⟨ay,cy,r4,oy,rfl,s9,w0,m3,n6,X⟩:=hy.open;obtain rfl:=s9 b6;have k4:=n6 b6;have l5:=X ((toB d).length-1) (by omega);have f2:(((toB d).length:Int)-1)<((toB d).length:Int):=by omega
 have m4:0<=(((toB d).length:Int)-1):=by omega
 unfold maxLen at m3;have u0:=qh e6;clear e6;have HK:=qh hk;clear hk;have e0:=qh k9;clear k9;have e5:=qh i7;clear i7;have HD:=qh hd;clear hd;clear n6 X hy
 go_enter func223,ntmps223
 go_wp2_with fail
 refine u0.out.mono ?_;rintro e w1 ⟨rfl,h8⟩;have k7:=(h8.cell (p:=⟨r4,oy+((toB d).length-1),none⟩) k4).trans l5;have d4:=qh h8;clear h8;have j9:=d4.out.size;clear l5
 go_wp2_with fail
 have ek:(1000000000:Int) / (((nth (toB d) ((toB d).length-1):Nat):Int)+1)=(k:Int):=by rw[HK.out];simp
 rw[ek];clear ek;refine(y5t _ m k w1 e5.out (HX.out.below d4.out nlr) (by omega)).mono ?_;rintro e w2 ⟨vu,rfl,O,o3⟩;have HU:=qh O;clear O;have g4:=qh o3;clear o3;have x6:=g4.out.size
 go_wp2_with fail
 refine(y5t _ d k w2 e5.out ((HY.out.below d4.out nlr).below g4.out nlr) (by omega)).mono ?_;rintro e w3 ⟨vv,rfl,K,o8⟩;have h6:=qh o8;clear o8;have x7:=h6.out.size;have o6:=(HU.out.kept h6.out nlr).mono j9;obtain⟨gv,cv,rfl,v4,v9,f1,j3⟩:=K.some (by rw[e0.out];exact b6);have f7:=K.mono (show w.heap.size<=w2.heap.size by omega);rw[e0.out] at f1;rw[e0.out];obtain⟨gu,cu,s8,u8,u9,v6,l1⟩:=HU.out.some (by omega);obtain rfl:=s8;have k5:=qh f7;clear f7 K;have s7:=qh o6;clear o6;have r5:Hid (gu≠gv):=qh (by omega);have r3:=qh (d4.out.trans ((g4.out.mono j9).trans (h6.out.mono (by omega))));obtain⟨i0,g6,l8,i4,m9⟩:=info_parts y0p;obtain⟨R,g7⟩:=exq (toB (d*k));rw[<- g7] at k5;have Y:=qh g7;clear g7;obtain⟨n,hn⟩:∃ n,n=(toB d).length:=⟨_,rfl⟩;rw[<- hn] at b6 i6 f5 f2 m4 f1;have HN:=qh hn;have d9:Hid (R.length=n):=qh (by rw[Y.out,e0.out];exact hn.symm);rw[<- hn];clear hn k7 f2 m4;obtain⟨a2,e1⟩:∃ l,l=(toB m).length:=⟨_,rfl⟩;rw[<- e1] at lx i6 b0;rw[<- e1];have l2:=qh e1;clear e1;unfold maxLen at j3 l1
 go_wp2_with fail
 go_loopw [8] (fun v wr=>∃ (g o:Nat) (L:List Nat),v=.slice (some ⟨g,0,none⟩) L.length o/\Own wr w.heap.size 179 .u64 (.slice (some ⟨g,0,none⟩) L.length o) L/\g≠gv/\Small L/\bval L=m*k/\a2<=L.length/\L.length<=a2+1 /\
   Own wr w.heap.size 179 .u64 (.slice (some ⟨gv,0,none⟩) n cv) R/\Below w.heap.size w wr) (fun v _=>a2+1-lenV v)
 case atStart =>
  refine⟨gu,cu,toB (m*k),rfl,s7.out,r5.out,z0x _,z1b _,b0.1,b0.2,?_,r3.out⟩;have:=k5.out
  rwa [d9.out] at this
 obtain⟨g,o,L,rfl,O,o9,m7,l6,x8,x9,K,N⟩:=hrel;have HO:=qh O;clear O;have d6:=qh o9;clear o9;have d7:=qh m7;clear m7;have b2:=qh l6;clear l6;have a9:=qh K;clear K;have a6:=qh N;clear N;by_cases u6:L.length<=a2
 ·have a7:=a6.out.size;have i9:wr.ownsRow w.heap.size 179 1 (.slice (some ⟨g,0,none⟩) L.length o) L.length (vals .u64 L):=HO.out;have l4:=qh i9;clear i9
  rcases Nat.lt_or_ge o (L.length+1) with c7|c7
  ·go_wp2_with (at_builtin;refine wpList_append_grows _ rfl (.tmp 40) (.tmp 41) 199 rfl 179 i0 (.int .u64 0) 1 8 underlying199 g6 l8 i4 m9 rfl (by decide) (some ⟨g,0,none⟩) L.length o (vals .u64 L) rfl (by intro h;cases h) (by rw[x5q];omega) (fun b hb=>by cases hb;exact World.ownsRow.cells (World.ownsRow.alloc l4.out _) rfl) ⟨wr.heap.size,0,none⟩ 1 1 [.int .u64 0] rfl rfl (cell_one_new _ _ _) (one_cell _ _) c7 (by unfold maxLen;omega) (by omega) ?_;intro v5 w5 C u)
   have a4:Own w5 (wr.heap.size+1) 179 .u64 v5 (L++[0]):=by
    unfold Own;rw[<- y4r,List.length_append];have e:(wr.alloc (.cells #[.int .u64 0] 179)).heap.size=wr.heap.size+1:=by simp
    rw[e] at C;exact C
   obtain⟨g5,n3,rfl,v2,w4,_,_⟩:=a4.some (by simp);have a1:Below wr.heap.size wr w5:=((Below.refl _ wr).alloc nlr _).grown u (by simp) (by simp);have c9:=a9.out.kept a1 nlr;have y0:=a9.out.base.2;have H5:=qh (a4.mono (show w.heap.size<=wr.heap.size+1 by omega));clear a4 C u;have i5:=qh c9;clear c9;have h7:=qh a1;clear a1;have j7:Hid (g5≠gv):=qh (by omega);go_wp2;go_roundw
   case rel=>exact⟨g5,n3,L++[0],rfl,H5.out,j7.out,z8x d7.out z1y,by rw[z9h];exact b2.out,by simp;omega,by simp;omega,i5.out,a6.out.trans (h7.out.mono a7)⟩
   simp[y7a];omega
  go_wp2_with (at_builtin;refine wpList_append_fits _ rfl (.tmp 40) (.tmp 41) 199 rfl w.heap.size 179 i0 1 underlying199 g6 i4 g L.length o (vals .u64 L) rfl (World.ownsRow.alloc l4.out _) ⟨wr.heap.size,0,none⟩ 1 1 [.int .u64 0] rfl rfl (cell_one_new _ _ _) (one_cell _ _) c7 ?_;intro w5 C u)
  have a4:Own w5 w.heap.size 179 .u64 (.slice (some ⟨g,0,none⟩) (L.length+1) o) (L++[0]):=by
   unfold Own;rw[<- y4r,List.length_append];exact C
  have g9:=HO.out.base.1;have a1:Below w.heap.size w w5:=(a6.out.alloc a7 _).grown u (by simp;omega) (fun q hq=>by cases hq;exact g9);have c9:Own w5 w.heap.size 179 .u64 (.slice (some ⟨gv,0,none⟩) n cv) R :=
   Own.keptBy (a9.out.kept ((Below.refl wr.heap.size wr).alloc nlr (.cells #[.int .u64 0] 179)) nlr) u (by have:=d6.out;simp;omega)
  have H5:=qh a4;clear a4 C u;have i5:=qh c9;clear c9;have h7:=qh a1;clear a1;go_wp2;go_roundw
  case rel=>exact⟨g,o,L++[0],by simp,by rw[List.length_append];exact H5.out,d6.out,z8x d7.out z1y,by rw[z9h];exact b2.out,by simp;omega,by simp;omega,i5.out,h7.out⟩
  simp[y7a];omega
 have i2:L.length=a2+1:=by omega
 have a7:=a6.out.size;have o7:=HO.out.base;have k2:=a9.out.base;obtain⟨s,d3⟩:=exq (L.length-n);obtain⟨wm,h5,W,j6⟩:=run_make_full wr w.heap.size 199 179 i0 (.int .u64 0) 1 underlying199 g6 l8 i4 .i64 .i64 (L.length-n) (by rw[m9];omega) (by unfold maxLen;omega) a7;rw[show ((L.length-n:Nat):Int)=(L.length:Int)-(n:Int) by omega,<- d3] at h5;rw[<- d3] at W;obtain⟨gq,o4⟩:=exq (wr.heap.size);rw[<- o4] at h5 W;have d5:Below wr.heap.size wr wm:=blr.grown j6 nlr (by simp);have m2:Own wm w.heap.size 179 .u64 (.slice (some ⟨gq,0,none⟩) s s) (List.replicate s 0):=by
  unfold Own;rw[z9g,List.length_replicate];have:=W;rw[Nat.mul_one,show (Value.int .u64 0).cells=#[Value.int .u64 0] from rfl,toList_madeCells_one] at this;exact this
 have h4:Div0 L R n:=⟨d7.out,by rw[Y.out];exact z0x _,b6,d9.out,by
  have h:=y9i (n:=d*k) (by have:=HD.out;exact Nat.mul_ne_zero this (by omega));rw[<- Y.out,d9.out] at h;omega⟩
 have i8:bval (L.drop (L.length-n))<bval R:=by
  have h:=v0u (m:=m) HD.out Z (L0:=L) (by rw[<- HN.out,<- l2.out];exact i6) d7.out b2.out (by rw[<- l2.out];exact i2);rw[<- HN.out] at h;rw[Y.out,z1b];exact h
 have k3:DvInv L R L (List.replicate s 0) n s:=by
  have h:=DvInv.start h4 (by omega) i8
  rwa [<- d3] at h
 have v3:s+n=a2+1:=by omega
 have r2:=qh k3;clear k3 i8;have p0:=qh h4;clear h4;have HQ:=qh m2;clear m2 W;have s5:=qh (HO.out.kept d5 nlr);have u1:=qh (a9.out.kept d5 nlr);have u4:=qh (a6.out.trans (d5.mono a7));have e4:Hid (gq≠g/\gq≠gv):=qh ⟨by omega,by omega⟩;have x2:=qh i2;have g8:L.length<=o/\o<=maxLen:=by
  obtain⟨g',x0,h1,_,_,h2,h3⟩:=HO.out.some (by omega);simp only[Value.slice.injEq,true_and] at h1;obtain⟨_,rfl⟩:=h1;exact⟨h2,h3⟩
 obtain⟨p6,e2⟩:=g8;unfold maxLen at e2;clear d5 j6 d3 o4 i2 o7 k2
 go_wp2_with fail
 clear h5
 go_loopw [50] (fun i wq=>∃ (j:Nat) (Lc qs:List Nat),j<=s/\i=.int .i64 (j:Int)/\DvInv L R Lc qs n (s-j)/\Own wq w.heap.size 179 .u64 (.slice (some ⟨g,0,none⟩) L.length o) Lc /\
   Own wq w.heap.size 179 .u64 (.slice (some ⟨gv,0,none⟩) n cv) R/\Own wq w.heap.size 179 .u64 (.slice (some ⟨gq,0,none⟩) s s) qs/\Below w.heap.size w wq) (fun i _=>s-(intOf i).toNat)
 case atStart=>exact⟨0,L,_,Nat.zero_le _,rfl,r2.out,s5.out,u1.out,HQ.out,u4.out⟩
 obtain⟨j,Lc,qs,hj,rfl,z,O,K,d0,N⟩:=hrel;have h9:=qh z;clear z;have d8:=qh O;clear O;have m8:=qh K;clear K;have h0:=qh d0;clear d0;have i3:=qh N;clear N;by_cases u6:j<s
 ·obtain⟨a,ha⟩:=exq (s-1-j);have z:=h9.out;rw[show s-j=a+1 by omega] at z;have f3:=z.seg_len;have G:=z.len;have r8:=z.ql;have hcut:=DvInv.cut Lc n a;have a8:=x8y w.heap.size g L.length o (o-a) gv 0 cv n (Lc.take a) ((Lc.drop a).take (n+1)) (Lc.drop (a+(n+1))) R wr (by rw[<- hcut];exact G) (by rw[<- hcut];exact d8.out) (z.divIn p0.out) (by omega) d6.out.symm
   (fun i hi=>by rw[Nat.zero_add];exact m8.out.cell d9.out i hi)
  rw[f3.2] at a8;have q8:=qh a8;clear a8 hcut;have F:=qh z;clear z f3 G r8;subst ha;have n7:s-1-j<s:=by omega
  go_wp2_with fail
  rw[show s-1-j+n+1-(s-1-j)=n+1 by omega];refine q8.out.mono ?_;rintro e w6 ⟨x1,rfl,o2,l3,k0,e8,S⟩;have c8:=F.out.step p0.out (by rw[o2];exact F.out.seg_len.1) l3 k0;have e3:=h0.out.keptBy S (by have:=e4.out.1;simp;omega);have n9:=m8.out.keptBy S (by have:=d6.out;simp;omega);have g9:=d8.out.base.1;have o5:=h0.out.base.1;have j0:Below w.heap.size w w6:=i3.out.grown S (i3.out.size) (fun q hq=>by cases hq;exact g9);have B:qs.length=s:=by have h1:=F.out.ql;omega
  have cq:=e3.cell B (s-1-j) n7;have fq:=e3.free B (s-1-j);have j4:=e3.set B (s-1-j) (bval ((Lc.drop (s-1-j)).take (n+1)) / bval R);have b8:w6.grownBy (w6.setCell ⟨gq,s-1-j,none⟩ (.int .u64 ((bval ((Lc.drop (s-1-j)).take (n+1)) / bval R:Nat):Int))) (some gq):=y1f (y9d _ _) _ _;have l0:=e8.keptBy b8 (by have:=e4.out.1;simp;omega);have n5:=n9.keptBy b8 (by have:=e4.out.2;simp;omega);have l7:=j0.setCell (p:=⟨gq,s-1-j,none⟩) o5 (.int .u64 ((bval ((Lc.drop (s-1-j)).take (n+1)) / bval R:Nat):Int));have q7:=qh c8;have p9:=qh l0;have u5:=qh n5;have s4:=qh j4;have t8:=qh l7;clear c8 l0 n5 j4 l7 b8 e3 n9 j0 e8 S k0 l3 o2 B;go_wp2;go_roundw
  case rel=>exact⟨j+1,_,_,by omega,by go_num,by rw[show s-(j+1)=s-1-j by omega];exact q7.out,p9.out,u5.out,s4.out,t8.out⟩
  simp[intOf];omega
 have b7:j=s:=by omega
 have z:=h9.out;rw[b7,Nat.sub_self] at z;have f9:=z.done;have G:=z.len;have a3:=z6w (some ⟨g,0,none⟩) o Lc wr (by rw[G];exact d8.out.sl);rw[G] at a3;have r6:=qh a3;clear a3;have F:=qh z;clear z;have e7:=qh f9;clear f9;have d1:=qh G;clear G h9 b7
 go_wp2_with fail
 refine r6.out.mono ?_;rintro e w6 ⟨D,m5,rfl,rfl⟩;have k1:=qh m5;clear m5;have u3:D<=L.length:=by have:=k1.out.1;rw[d1.out] at this;exact this
 obtain⟨Q,b1⟩:=exq (Lc.take D);have b9:Q.length=D:=by rw[b1,List.length_take,d1.out];omega
 have f0:bval Q=(m % d)*k:=by
  rw[b1,y1y k1.out.2.1,e7.out.2,b2.out,Y.out,z1b,Nat.mul_mod_mul_right]
 have b4:Small Q:=by rw[b1];exact z4p F.out.small _
 have b3:Own wr w.heap.size 179 .u64 (.slice (some ⟨g,0,none⟩) D o) Q:=by
  rw[b1];exact d8.out.take (by rw[d1.out];exact u3)
 have J:=DnInv.start Z b4;rw[b9] at J;have q9:=qh J;clear J;have g1:=qh b9;clear b9;have j8:=qh f0;clear f0;have g0:=qh b4;clear b4;have s6:=qh b3;clear b3 b1;have x5:(k:Int)<=999999999:=by have:=e5.out;rw[z0t] at this;omega
 obtain⟨wo,rfl⟩:∃ wo:World,wo=wr:=⟨_,rfl⟩
 go_wp2_with fail
 go_loopw [12,75] (fun lf i wq=>∃ (E H:Nat) (Lr:List Nat),E<=D/\i=.int .i64 (E:Int)/\lf=.int .u64 (H:Int)/\DnInv Q Lr k (D-E) H/\Own wq w.heap.size 179 .u64 (.slice (some ⟨g,0,none⟩) D o) Lr /\
   Own wq w.heap.size 179 .u64 (.slice (some ⟨gq,0,none⟩) s s) qs/\Below w.heap.size w wq) (fun _ i _=>D-(intOf i).toNat)
 case atStart=>exact⟨0,0,Q,Nat.zero_le _,rfl,rfl,q9.out,s6.out,h0.out,i3.out⟩
 obtain⟨E,H,Lr,x3,rfl,rfl,A,b3,d0,N⟩:=hrel;have g3:=qh A;clear A;have I:=qh b3;clear b3;have d2:=qh d0;clear d0;have f8:=qh N;clear N;by_cases w9:E<D
 ·have A:=g3.out;rw[show D-E=D-1-E+1 by omega] at A;have c:=A.len;rw[g1.out] at c;have v8:(H:Int)<=999999999:=by have h1:=A.left;have h2:=e5.out;rw[z0t] at h2;omega
  have v0:((nth Q (D-1-E):Nat):Int)<=999999999:=by have:=g0.out (D-1-E);rw[z0t] at this;omega
  have r7:=I.out.cell c (D-1-E) (by omega);rw[y5e A.low (by omega)] at r7;have i8:=I.out.free c (D-1-E);have u7:(1:Int)<=(k:Int):=by omega
  have e9:=A.step Z g0.out;have j5:=qh e9;clear e9 A;have f4:=qh c;clear c
  go_wp2_with fail
  go_region
  go_wp2;go_roundw
  case rel =>
   have t9:((H:Int)*1000000000+((nth Q (D-1-E):Nat):Int)) / (k:Int)=(((H*1000000000+nth Q (D-1-E)) / k:Nat):Int):=by simp
   have p7:((H:Int)*1000000000+((nth Q (D-1-E):Nat):Int)) % (k:Int)=(((H*1000000000+nth Q (D-1-E)) % k:Nat):Int):=by simp
   rw[t9,p7];have l9:=(I.out.set f4.out (D-1-E) ((H*1000000000+nth Q (D-1-E)) / k)).kept (Below.drew blr) nlr;have p8:=(d2.out.keptBy (y1f (g:=g) (y9d wr _) (D-1-E) (.int .u64 (((H*1000000000+nth Q (D-1-E)) / k:Nat):Int))) (by have:=e4.out.1;simp;omega)).kept (Below.drew blr) nlr;exact⟨E+1,_,_,by omega,by go_num,rfl,by rw[show D-(E+1)=D-1-E by omega];exact j5.out,l9,p8,(f8.out.setCell I.out.base.1 _).drew⟩
  simp[intOf];omega
 have b7:E=D:=by omega
 have A:=g3.out;rw[b7,Nat.sub_self] at A;have P:=A.done;rw[j8.out,Nat.mul_div_cancel _ Z] at P;have c:=A.len;rw[g1.out] at c;have B:qs.length=s:=by have h1:=F.out.ql;omega
 have a5:=z6w (some ⟨gq,0,none⟩) s qs wr (by rw[B];exact d2.out.sl);rw[B] at a5;have b5:=z6w (some ⟨g,0,none⟩) o Lr wr (by rw[c];exact I.out.sl);rw[c] at b5;have s3:=qh a5;clear a5;have k6:=qh b5;clear b5;have f4:=qh c;clear c;have v7:=qh B;clear B;have u2:=qh P;clear P;have j1:=qh A;clear A b7
 go_wp2_with fail
 refine s3.out.mono ?_;rintro e w7 ⟨tq,a5,rfl,rfl⟩;have U:=qh a5;clear a5
 go_wp2_with fail
 refine k6.out.mono ?_;rintro e w8 ⟨tr,a3,rfl,rfl⟩;have T:=qh a3;clear a3;go_wp2;go_ret2;refine⟨_,_,rfl,?_,?_,f8.out⟩
 ·have e:toB (m / d)=qs.take tq:=by
   rw[z4q F.out.sq U.out.1 U.out.2.1 U.out.2.2,e7.out.1,b2.out,Y.out,z1b,Nat.mul_div_mul_right _ _ Z]
  rw[e];exact d2.out.sl.take U.out.1
 have e:toB (m % d)=Lr.take tr:=by
  rw[z4q j1.out.small T.out.1 T.out.2.1 T.out.2.2,u2.out]
 rw[e];exact I.out.sl.take T.out.1
theorem y6m (g c:Value) (m d:Nat) (w:World) (i:Sl w .u64 g (toB m)) (j:Sl w .u64 c (toB d)) (k:d≠0) (l:(toB m).length<=50000) :
  Calls prog 223 #[g,c] w (DivEnd m d w):=by
 rcases Nat.lt_or_ge m d with h|h
 ·exact x2t g c m d w i j h
 exact v0r g c m d w i j k h l
end
section
open Go.RowKit
def TripEnd (r:ByteArray × ByteArray × Nat) (w:World) (e:Ending) (w':World):Prop:=e=.returned (.tuple #[.string r.1,.string r.2.1,.int .i64 (r.2.2:Int)])/\Below w.heap.size w w'
def divF (s t:ByteArray):ByteArray × ByteArray × Nat:=if vld s&&vld t then (if val t=0 then (str [],str [],4) else (str (dec (val s / val t)),str (dec (val s % val t)),0)) else (str [],str [],1)
def gcdF (s t:ByteArray):ByteArray × Nat:=if vld s&&vld t then (str (dec (Nat.gcd (val s) (val t))),0) else (str [],1)
theorem u2u {t:ByteArray} (h:vld t=true) (c:val t=0):t.toList=[48]:=by
 rw[Lib.toList_data];exact u1r h (show z1u [48]=true by decide) (by rw[show num [48]=0 from rfl];exact c)
theorem v4k {t:ByteArray} (c:¬ val t=0):¬ t.toList=[48]:=by
 rw[Lib.toList_data];intro e;apply c;unfold val bts;rw[e];rfl
theorem u3e (s t:ByteArray) (w:World) (hs:s.size<=maxLen) (ht:t.size<=maxLen) (h:Tab w) :
  Calls prog 224 #[.string s,.string t] w (TripEnd (divF s t) w):=by
 have L:=qh h;clear h;have c1:=z4i s w hs;have c2:=z4i t w ht;clear hs ht;cases d:vld s with
 | false =>
  have c:divF s t=(str [],str [],1):=by unfold divF;rw[d];rfl
  rw[c];rw[d] at c1;clear c d c2 L;have o:=qh c1;clear c1
  go_enter func224,ntmps224
  go_wp2_with fail
  refine o.out.mono ?_;rintro e m ⟨rfl,rfl⟩;go_wp2
  go_ret3
  exact⟨rfl,blr⟩
 | true =>
  cases i:vld t with
  | false =>
   have c:divF s t=(str [],str [],1):=by unfold divF;rw[d,i];rfl
   rw[c];rw[d] at c1;rw[i] at c2;clear c d i L;have o:=qh c1;clear c1;have N:=qh c2;clear c2
   go_enter func224,ntmps224
   go_wp2_with fail
   refine o.out.mono ?_;rintro e m ⟨rfl,rfl⟩
   go_wp2_with fail
   refine N.out.mono ?_;rintro e m ⟨rfl,rfl⟩;go_wp2
   go_ret3
   exact⟨rfl,blr⟩
  | true =>
   rw[d] at c1;rw[i] at c2;have o:=qh c1;clear c1;have N:=qh c2;clear c2;have lm:=z1t d;have ln:=z1t i;have Y:=z4z s w d;have B1:=qh Y;clear Y;have b2:=fun w=>z4z t w i;have Z:=qh b2;clear b2;have H1:=qh d;clear d;have S:=qh i;clear i;by_cases j:val t=0
   ·have c:divF s t=(str [],str [],4):=by unfold divF;rw[H1.out,S.out,if_pos j];rfl
    rw[c];clear c;have g:=u2u S.out j;have A:(t.toList==[48])=true:=by rw[g];rfl
    clear j B1 Z lm ln
    go_enter func224,ntmps224
    go_wp2_with fail
    refine o.out.mono ?_;rintro e m ⟨rfl,rfl⟩
    go_wp2_with fail
    refine N.out.mono ?_;rintro e m ⟨rfl,rfl⟩
    go_wp2_with fail
    go_ret3
    exact⟨rfl,blr⟩
   have c:divF s t=(str (dec (val s / val t)),str (dec (val s % val t)),0):=by unfold divF;rw[H1.out,S.out,if_neg j];rfl
   rw[c];clear c;have g:=v4k j;have A:(t.toList==[48])=false:=by rw[beq_eq_false_iff_ne];exact g
   have HZ:=qh j;clear j
   go_enter func224,ntmps224
   go_wp2_with fail
   refine o.out.mono ?_;rintro e m ⟨rfl,rfl⟩
   go_wp2_with fail
   refine N.out.mono ?_;rintro e m ⟨rfl,rfl⟩
   go_wp2_with fail
   clear g A;refine B1.out.mono ?_;rintro e w1 ⟨v1,rfl,z,u⟩;have Q:=qh z;clear z;have C:=qh u;clear u;have T:=C.out.size
   go_wp2_with fail
   refine(Z.out w1).mono ?_;rintro e w2 ⟨v2,rfl,F,I⟩;have P:=qh F;clear F;have k:=qh I;clear I;have a5:=k.out.size;have W:=qh (Q.out.sl.below k.out nlr);have p:=y6m v1 v2 (val s) (val t) w2 W.out P.out.sl HZ.out (by omega);have X:=qh p;clear p
   go_wp2_with fail
   refine X.out.mono ?_;rintro e w3 ⟨vq,vr,rfl,hq,c,H⟩;have HQ:=qh hq;clear hq;have HR:=qh c;clear c;have G:=qh H;clear H;have a3:=G.out.size;have HB:=qh (C.out.trans ((k.out.mono T).trans (G.out.mono (by omega))));have a2:=z2j (Nat.div_le_self (val s) (val t));have a4:=z2j (Nat.mod_le (val s) (val t));have K:=y0s vq (val s / val t) w3 HQ.out (by omega) (L.out.below HB.out nlr);have R:=qh K;clear K
   go_wp2_with fail
   refine R.out.mono ?_;rintro e w4 ⟨rfl,J⟩;have l:=qh J;clear J;have a1:=l.out.size;have B:=qh (HB.out.trans (l.out.mono (by omega)));have E:=y0s vr (val s % val t) w4 (HR.out.below l.out nlr) (by omega) (L.out.below B.out nlr);have U:=qh E;clear E
   go_wp2_with fail
   refine U.out.mono ?_;rintro e w5 ⟨rfl,D⟩;have O:=qh D;clear D
   go_wp2_with fail
   go_ret3
   exact⟨rfl,B.out.trans (O.out.mono (by omega))⟩
theorem v9y (s t:ByteArray) (w:World) (hs:s.size<=maxLen) (ht:t.size<=maxLen) (i:Tab w) :
  Calls prog 208 #[.string s,.string t] w (PairEnd (gcdF s t) w):=by
 have W:=qh i;clear i;have c1:=z4i s w hs;have c2:=z4i t w ht;clear hs ht;cases c:vld s with
 | false =>
  have d:gcdF s t=(str [],1):=by unfold gcdF;rw[c];rfl
  rw[d];rw[c] at c1;clear d c c2 W;have H:=qh c1;clear c1
  go_enter func208,ntmps208
  go_wp2_with fail
  refine H.out.mono ?_;rintro e L ⟨rfl,rfl⟩;go_wp2;go_ret2;exact⟨rfl,blr⟩
 | true =>
  cases j:vld t with
  | false =>
   have d:gcdF s t=(str [],1):=by unfold gcdF;rw[c,j];rfl
   rw[d];rw[c] at c1;rw[j] at c2;clear d c j W;have H:=qh c1;clear c1;have X:=qh c2;clear c2
   go_enter func208,ntmps208
   go_wp2_with fail
   refine H.out.mono ?_;rintro e L ⟨rfl,rfl⟩
   go_wp2_with fail
   refine X.out.mono ?_;rintro e L ⟨rfl,rfl⟩;go_wp2;go_ret2;exact⟨rfl,blr⟩
  | true =>
   rw[c] at c1;rw[j] at c2;have H:=qh c1;clear c1;have X:=qh c2;clear c2;have lm:=z1t c;have ln:=z1t j;have b1:=z4z s w c;have B1:=qh b1;clear b1;have b2:=fun w=>z4z t w j;have B2:=qh b2;clear b2;have H1:=qh c;clear c;have H2:=qh j;clear j;have d:gcdF s t=(str (dec (Nat.gcd (val s) (val t))),0):=by unfold gcdF;rw[H1.out,H2.out];rfl
   rw[d];clear d
   go_enter func208,ntmps208
   go_wp2_with fail
   refine H.out.mono ?_;rintro e L ⟨rfl,rfl⟩
   go_wp2_with fail
   refine X.out.mono ?_;rintro e L ⟨rfl,rfl⟩
   go_wp2_with fail
   refine B1.out.mono ?_;rintro e w1 ⟨v1,rfl,z,u⟩;have R:=qh z;clear z;have B:=qh u;clear u;have S:=B.out.size
   go_wp2_with fail
   refine(B2.out w1).mono ?_;rintro e w2 ⟨v2,rfl,E,I⟩;have Q:=qh E;clear E;have l:=qh I;clear I;have a6:=l.out.size;have Z:=qh (R.out.sl.below l.out nlr)
   go_wp2_with fail
   go_loopg [6,7] (val t) (fun g vx vy wr=>∃ p:Nat,Sl wr .u64 vx (toB p)/\Sl wr .u64 vy (toB g)/\Nat.gcd p g=Nat.gcd (val s) (val t)/\(toB p).length<=112/\(toB g).length<=112/\Below w.heap.size w wr)
   case atStart=>exact⟨val s,Z.out,Q.out.sl,rfl,lm,ln,B.out.trans (l.out.mono S)⟩
   obtain⟨p,Y,P,hg,a4,A,hb⟩:=hrel;obtain⟨a1,c1,rfl⟩:=Y.shape;obtain⟨a2,c2,rfl⟩:=P.shape;have HX:=qh Y;clear Y;have HY:=qh P;clear P;have HG:=qh hg;clear hg;have h:=qh hb;clear hb;have C:=h.out.size;by_cases k:gk=0
   ·have m:(toB gk).length=0:=by rw[k];rfl
    have J:p=Nat.gcd (val s) (val t):=by rw[<- HG.out,k,Nat.gcd_zero_right]
    rw[m];have U:=qh J;clear J k m A;have K:=y0s _ p wr HX.out (by omega) (W.out.below h.out nlr);have T:=qh K;clear K
    go_wp2_with fail
    refine T.out.mono ?_;rintro e w5 ⟨rfl,D⟩;have N:=qh D;clear D;go_wp2;go_ret2;exact⟨u5h (by rw[U.out]) rfl,h.out.trans (N.out.mono C)⟩
   have m:=y1z k;have o:=y6m _ _ p gk wr HX.out HY.out k (by omega);have a3:=qh o;clear o;have a5:=z2j (Nat.le_of_lt (Nat.mod_lt p (Nat.pos_of_ne_zero k)));have O:=qh k;clear k
   go_wp2_with fail
   refine a3.out.mono ?_;rintro e w3 ⟨vq,vr,rfl,hq,d,G⟩;have HQ:=qh hq;clear hq;have HR:=qh d;clear d;have F:=qh G;clear G
   go_wp2_with fail
   go_roundg (p % gk)
   case measure=>exact Nat.mod_lt _ (Nat.pos_of_ne_zero O.out)
   case rel=>exact⟨gk,HY.out.below F.out nlr,HR.out,by rw[<- HG.out,Nat.gcd_comm gk,<- Nat.gcd_rec,Nat.gcd_comm],A,by omega,h.out.trans (F.out.mono C)⟩
end
section
open Go.RowKit
def fits (n:Nat):Prop:=(dec n).length<=1000
theorem z3y (n:Nat):val (str (dec n))=n:=by unfold val;rw[z2v];exact z9i n
theorem z7m {n:Nat} (h:fits n):vld (str (dec n))=true:=by unfold vld;rw[z2v];exact y3s h
theorem z9m {m n:Nat} (h:fits n) (c:m<=n):fits m:=by
 unfold fits at *;exact z3u.2 ⟨Nat.lt_of_le_of_lt c (z3u.1 h).1,by omega⟩
theorem z2m {n:Nat} (h:fits n):(str (dec n)).size<=maxLen:=by rw[z1i];unfold fits at h;unfold maxLen;omega
theorem x4i {n:Nat} (h:fits n):limS n=(str (dec n),0):=if_pos h
theorem u4v {s t:ByteArray} (d:vld s=true) (c:vld t=true):addF s t=limS (val s+val t):=by unfold addF;rw[d,c];rfl
theorem u6a {s t:ByteArray} (d:vld s=true) (c:vld t=true):mulF s t=limS (val s*val t):=by unfold mulF;rw[d,c];rfl
theorem v5k {s t:ByteArray} (d:vld s=true) (c:vld t=true) (h:fits (val s+val t)):addF s t=(str (dec (val s+val t)),0):=by rw[u4v d c,x4i h]
theorem v6j {s t:ByteArray} (d:vld s=true) (c:vld t=true) (h:fits (val s*val t)):mulF s t=(str (dec (val s*val t)),0):=by rw[u6a d c,x4i h]
theorem u4u {s t:ByteArray} (d:vld s=true) (c:vld t=true):subF s t=if val s<val t then (⟨#[]⟩,4) else (str (dec (val s-val t)),0):=by unfold subF;rw[d,c];rfl
theorem u2k {s t:ByteArray} (d:vld s=true) (c:vld t=true) (h:val t<=val s):subF s t=(str (dec (val s-val t)),0):=by rw[u4u d c,if_neg (by omega)]
theorem u5m {s t:ByteArray} (d:vld s=true) (c:vld t=true):divF s t=if val t=0 then (⟨#[]⟩,⟨#[]⟩,4) else (str (dec (val s / val t)),str (dec (val s % val t)),0):=by unfold divF;rw[d,c];rfl
theorem u2q {s t:ByteArray} (d:vld s=true) (c:vld t=true) (h:val t≠0):divF s t=(str (dec (val s / val t)),str (dec (val s % val t)),0):=by rw[u5m d c,if_neg h]
theorem u4m {s t:ByteArray} (d:vld s=true) (c:vld t=true):gcdF s t=(str (dec (Nat.gcd (val s) (val t))),0):=by unfold gcdF;rw[d,c];rfl
end
section
open Go.RowKit
def nvS (b:Bool) (n d:ByteArray):Value:=.agg #[.bool b,.string n,.string d]
def nv (q:Rat):Value:=nvS (negQ q) (str (dec q.num.natAbs)) (str (dec q.den))
def txtS (b:Bool) (n d:ByteArray):ByteArray :=
 let s:=if b then (⟨#[45]⟩:ByteArray)++n else n
 if d=⟨#[49]⟩ then s else s++((⟨#[47]⟩:ByteArray)++d)
theorem x9p {s t:ByteArray} (h:s≠t):¬ s.toList=t.toList:=by
 rw[Lib.toList_data,Lib.toList_data];intro e;apply h;exact y8i e
theorem z4n {s:ByteArray} {l:List UInt8} (h:s≠str l):(s.toList==l)=false:=by
 rw[beq_eq_false_iff_ne,Lib.toList_data];intro e;apply h;rw[<- e];exact(y3j s).symm
theorem y1c (s t:ByteArray):bts (s++t)=bts s++bts t:=by
 show (s++t).data.toList=_;rw[ByteArray.data_append,Array.toList_append];rfl
theorem v6c (q:Rat):txtS (negQ q) (str (dec q.num.natAbs)) (str (dec q.den))=txt q:=by
 apply y8i
 have c:(str (dec q.den)=⟨#[49]⟩)↔q.den=1:=by
  constructor
  ·intro e;have:=congrArg bts e;rw[z2v] at this;exact z7x (this.trans z5s.symm)
  intro e;rw[e,z5s];rfl
 unfold txtS txt txtL;rw[z2v];by_cases h:q.den=1
 ·rw[if_pos (c.2 h),if_pos h];cases negQ q
  ·simp[z2v]
  simp only[if_true,y1c,z2v];simp[bts]
 rw[if_neg (fun e=>h (c.1 e)),if_neg h];cases negQ q
 ·simp only[Bool.false_eq_true,if_false,y1c,z2v];simp[bts]
 simp only[if_true,y1c,z2v];simp[bts]
theorem x3y (b:Bool) (n d:ByteArray) (w:World) (hn:n.size<=400) (i:d.size<=400) :
  Calls prog 218 #[nvS b n d] w fun e w'=>e=.returned (.string (txtS b n d))/\Below w.heap.size w w':=by
 have k:(n.size:Int)<=8388608:=by omega
 have j:(d.size:Int)<=8388608:=by omega
 clear hn i;have c:Below w.heap.size w (w.alloc (.cells #[.bool b,.string n,.string d] 189)):=blr.alloc nlr _;have g:=qh c;clear c;unfold nvS;by_cases h:d=⟨#[49]⟩
 ·subst h;cases b<;>simp only[txtS,if_true,if_false,Bool.false_eq_true]
  all_goals
   go_enter func218,ntmps218
   go_wp2;go_ret;exact⟨rfl,g.out⟩
 have l:(d.toList==[49])=false:=z4n h;cases b<;>simp only[txtS,if_true,if_false,Bool.false_eq_true]<;>rw[if_neg h]<;>clear h
 ·go_enter func218,ntmps218
  go_wp2;go_ret;exact⟨rfl,g.out⟩
 have m:(((⟨#[45]⟩:ByteArray)++n).size:Int)<=8388609:=by rw[ByteArray.size_append];show ((1+n.size:Nat):Int)<=_;omega
 go_enter func218,ntmps218
 go_wp2;go_ret;exact⟨rfl,g.out⟩
theorem x2s (q:Rat) (w:World) (h:fitQ q) :
  Calls prog 218 #[nv q] w fun e w'=>e=.returned (.string (txt q))/\Below w.heap.size w w':=by
 rw[<- v6c];exact x3y _ _ _ w (by rw[z1i];exact h.1) (by rw[z1i];exact h.2)
theorem z1r (c:ByteArray) (w:World):Calls prog 188 #[.string c,.int .i64 0] w fun e w'=>e=.returned (.string c)/\w=w':=by
 go_enter func188,ntmps188
 go_wp2;go_ret;exact⟨rfl,rfl⟩
end
section
open Go.RowKit
theorem x6d {n k:Nat} (h:n<10 ^ k) (d:k<=1000) (c:1<=k):fits n:=by
 unfold fits;have:=z3u.2 ⟨h,c⟩;omega
theorem z6j {q:Rat} (h:fitQ q):fits q.num.natAbs:=by unfold fits;have:=h.1;omega
theorem z4e {q:Rat} (h:fitQ q):fits q.den:=by unfold fits;have:=h.2;omega
theorem pow400 {n:Nat} (h:(dec n).length<=400):n<10 ^ 400:=(z3u.1 h).1
theorem y5b {m n k:Nat} (d:m<10 ^ k) (c:n<10 ^ k):m*n<10 ^ (k+k):=by rw[Nat.pow_add];exact y7b d c
theorem x8w {a b c d k:Nat} (g:a<10 ^ k) (hb:b<10 ^ k) (i:c<10 ^ k) (h:d<10 ^ k):a*b+c*d<10 ^ (k+k+1):=by
 have l:=y5b g hb;have j:=y5b i h;rw[Nat.pow_succ];omega
theorem z3j {m n:Nat} (c:(dec m).length<=400) (hn:(dec n).length<=400):fits (m*n) :=
 x6d (y5b (pow400 c) (pow400 hn)) (by omega) (by omega)
theorem y8t {a b c d:Nat} (g:(dec a).length<=400) (hb:(dec b).length<=400) (i:(dec c).length<=400) (h:(dec d).length<=400):fits (a*b+c*d) :=
 x6d (x8w (pow400 g) (pow400 hb) (pow400 i) (pow400 h)) (by omega) (by omega)
def StrE (s:ByteArray) (w:World) (e:Ending) (w':World):Prop:=e=.returned (.string s)/\Below w.heap.size w w'
def StrZ (s:ByteArray) (w:World) (e:Ending) (w':World):Prop:=e=.returned (.tuple #[.string s,.int .i64 0])/\Below w.heap.size w w'
theorem u1q (m n:Nat) (w:World) (c:fits m) (hn:fits n) (h:fits (m+n)) (d:Tab w) :
  Calls prog 201 #[.string (str (dec m)),.string (str (dec n))] w (StrZ (str (dec (m+n))) w):=by
 have:=u2t (str (dec m)) (str (dec n)) w (z2m c) (z2m hn) d;rw[v5k (z7m c) (z7m hn) (by rw[z3y,z3y];exact h),z3y,z3y] at this;exact this
theorem v0p (m n:Nat) (w:World) (c:fits m) (hn:fits n) (h:n<=m) (d:Tab w) :
  Calls prog 203 #[.string (str (dec m)),.string (str (dec n))] w (StrZ (str (dec (m-n))) w):=by
 have:=u3j (str (dec m)) (str (dec n)) w (z2m c) (z2m hn) d;rw[u2k (z7m c) (z7m hn) (by rw[z3y,z3y];exact h),z3y,z3y] at this;exact this
theorem z5b (m n:Nat) (w:World) (c:fits m) (hn:fits n) (h:fits (m*n)) (d:Tab w) :
  Calls prog 189 #[.string (str (dec m)),.string (str (dec n))] w (StrZ (str (dec (m*n))) w):=by
 have:=u0h (str (dec m)) (str (dec n)) w (z2m c) (z2m hn) d;rw[v6j (z7m c) (z7m hn) (by rw[z3y,z3y];exact h),z3y,z3y] at this;exact this
theorem v3p (m n:Nat) (w:World) (c:fits m) (hn:fits n) (d:Tab w) :
  Calls prog 208 #[.string (str (dec m)),.string (str (dec n))] w (StrZ (str (dec (Nat.gcd m n))) w):=by
 have:=v9y (str (dec m)) (str (dec n)) w (z2m c) (z2m hn) d;rw[u4m (z7m c) (z7m hn),z3y,z3y] at this;exact this
theorem u3a (m n:Nat) (w:World) (c:fits m) (hn:fits n) (h:n≠0) (d:Tab w) :
  Calls prog 224 #[.string (str (dec m)),.string (str (dec n))] w fun e w'=>e=.returned (.tuple #[.string (str (dec (m / n))),.string (str (dec (m % n))),.int .i64 0])/\Below w.heap.size w w':=by
 have:=u3e (str (dec m)) (str (dec n)) w (z2m c) (z2m hn) d;rw[u2q (z7m c) (z7m hn) (by rw[z3y];exact h),z3y,z3y] at this;exact this
theorem v0b (m n:Nat) (w:World) (c:fits m) (hn:fits n) :
  Calls prog 202 #[.string (str (dec m)),.string (str (dec n))] w (IntEnd (cmpN m n) w):=by
 have:=u0s (str (dec m)) (str (dec n)) w (z2m c) (z2m hn);unfold cmpF at this;rw[z7m c,z7m hn,z3y,z3y] at this;exact this
theorem v3c (m n:Nat) (w:World) (c:fits m) (hn:fits n) (h:n≠0) (g:Tab w) :
  Calls prog 209 #[.string (str (dec m)),.string (str (dec n))] w (StrE (str (dec (m / n))) w):=by
 have d:=u3a m n w c hn h g;have j:=qh d;clear d c hn h g
 go_enter func209,ntmps209
 go_wp2_with fail
 refine nxa j.out fun k i=>?_
 go_wp2_with fail
 refine(z1r _ _).mono ?_;rintro e l ⟨rfl,rfl⟩;go_wp2;go_ret;exact⟨rfl,i.out⟩
theorem y1d (p q:Bool) (m n:Nat) (w:World) (h:fits (m+n)) (l:Tab w) :
  Calls prog 187 #[.bool p,.string (str (dec m)),.bool q,.string (str (dec n))] w fun e w' =>
   e=.returned (.tuple #[.bool (sumF p m q n).1,.string (str (dec (sumF p m q n).2))])/\Below w.heap.size w w':=by
 have s:fits m:=z9m h (by omega);have A:fits n:=z9m h (by omega);by_cases g:p=q
 ·subst g;have u:sumF p m p n=(p,m+n):=by unfold sumF;rw[if_pos rfl]
  rw[u];have k:=u1q m n w s A h l;have C:=qh k;clear k s A h l u;have L:(p==p)=true:=by cases p<;>rfl
  go_enter func187,ntmps187
  go_wp2_with fail
  refine nxa C.out fun o J=>?_
  go_wp2_with fail
  refine(z1r _ _).mono ?_;rintro e I ⟨rfl,rfl⟩;go_wp2;go_ret2;exact⟨rfl,J.out⟩
 have hb:(p==q)=false:=by rw[beq_eq_false_iff_ne];exact g
 by_cases d:m<n
 ·have u:sumF p m q n=(q,n-m):=by unfold sumF;rw[if_neg g,if_pos d]
  rw[u];have k:=v0b m n w s A;rw[z7y d] at k;have D:=fun o l=>v0p n m o A s (Nat.le_of_lt d) l;have C:=qh k;clear k;have F:=qh D;clear D;have E:=qh l;clear s A h l u d g
  go_enter func187,ntmps187
  go_wp2_with fail
  refine C.out.mono ?_;rintro e o ⟨rfl,j⟩;have c:=qh j;clear j
  go_wp2_with fail
  refine(F.out o (E.out.below c.out nlr)).mono ?_;rintro e I ⟨rfl,i⟩;have B:=qh (c.out.trans (i.mono c.out.size));clear i
  go_wp2_with fail
  refine(z1r _ _).mono ?_;rintro e K ⟨rfl,rfl⟩;go_wp2;go_ret2;exact⟨rfl,B.out⟩
 have u:sumF p m q n=(p,m-n):=by unfold sumF;rw[if_neg g,if_neg d]
 rw[u];have k:=v0b m n w s A;have G:0<=cmpN m n:=by
  rcases Nat.lt_or_ge n m with H|H
  ·rw[z8b H];omega
  rw[y1x (by omega)];omega
 generalize cmpN m n=z at k G;have D:=fun o l=>v0p m n o s A (by omega) l;have C:=qh k;clear k;have F:=qh D;clear D;have E:=qh l;clear s A h l u d g
 go_enter func187,ntmps187
 go_wp2_with fail
 refine C.out.mono ?_;rintro e o ⟨rfl,j⟩;have c:=qh j;clear j
 go_wp2_with fail
 refine(F.out o (E.out.below c.out nlr)).mono ?_;rintro e I ⟨rfl,i⟩;have B:=qh (c.out.trans (i.mono c.out.size));clear i
 go_wp2_with fail
 refine(z1r _ _).mono ?_;rintro e K ⟨rfl,rfl⟩;go_wp2;go_ret2;exact⟨rfl,B.out⟩
end
section
open Go.RowKit
def PT:Ending:=.panicked [{ v:=.iface 198 (.agg #[]),recovered:=false }]
def QEnd (q:Rat) (w:World) (e:Ending) (w':World):Prop:=e=(if fitQ q then .returned (nv q) else PT)/\Below w.heap.size w w'
theorem res3 {w g:World} {a b c:Value} {t:TypeId} (h:Below (w.alloc (.cells #[a,b,c] t)).heap.size (w.alloc (.cells #[a,b,c] t)) g) :
  g.cell? ⟨w.heap.size,0,none⟩=some a/\g.cell? ⟨w.heap.size,1,none⟩=some b/\g.cell? ⟨w.heap.size,2,none⟩=some c/\g.frozen? ⟨w.heap.size,0,none⟩=false/\g.frozen? ⟨w.heap.size,1,none⟩=false/\g.frozen? ⟨w.heap.size,2,none⟩=false/\w.heap.size<g.heap.size:=by
 have i:=h.size;have d:w.heap.size<(w.alloc (.cells #[a,b,c] t)).heap.size:=by simp
 refine⟨?_,?_,?_,?_,?_,?_,by omega⟩
 ·exact(h.cell (p:=⟨w.heap.size,0,none⟩) d).trans (by simp)
 ·exact(h.cell (p:=⟨w.heap.size,1,none⟩) d).trans (by simp)
 ·exact(h.cell (p:=⟨w.heap.size,2,none⟩) d).trans (by simp)
 ·exact(h.frozen (p:=⟨w.heap.size,0,none⟩) d).trans (by simp)
 ·exact(h.frozen (p:=⟨w.heap.size,1,none⟩) d).trans (by simp)
 exact(h.frozen (p:=⟨w.heap.size,2,none⟩) d).trans (by simp)
theorem set3 {w:World} {n:Nat} {a b c a' b' c':Value} (k0:w.cell? ⟨n,0,none⟩=some a) (g:w.cell? ⟨n,1,none⟩=some b) (d:w.cell? ⟨n,2,none⟩=some c) :
  (((w.setCell ⟨n,0,none⟩ a').setCell ⟨n,1,none⟩ b').setCell ⟨n,2,none⟩ c').cell? ⟨n,0,none⟩=some a'/\(((w.setCell ⟨n,0,none⟩ a').setCell ⟨n,1,none⟩ b').setCell ⟨n,2,none⟩ c').cell? ⟨n,1,none⟩=some b'/\(((w.setCell ⟨n,0,none⟩ a').setCell ⟨n,1,none⟩ b').setCell ⟨n,2,none⟩ c').cell? ⟨n,2,none⟩=some c':=by
 refine⟨?_,?_,?_⟩<;>simp[go_sem,k0,g,d]
theorem z3t {fn:Func} {p:Tmp} (h:fn.results=#[.cell p 189]) (c:Array Value) (W:World) (n:Nat) (r:Bool) (x y:ByteArray)
  (g:c.getD p undef=.pointer (some ⟨n,0,none⟩)) (c0:W.cell? ⟨n,0,none⟩=some (.bool r)) (c1:W.cell? ⟨n,1,none⟩=some (.string x)) (c2:W.cell? ⟨n,2,none⟩=some (.string y)) :
  (results fn c).run prog W=.ok (.agg #[.bool r,.string x,.string y]) W:=by
 have d:c[p]?.getD undef=.pointer (some ⟨n,0,none⟩):=by rw[<- g];simp
 simp only[results,h];simp[d,go_sem,c0,c1,c2]
theorem x7j (s:Bool) (a b g x y:ByteArray) (r:Bool) (w:World) (Y:(s=false/\r=false)\/(s=true/\(a.toList==[48])=!r))
  (N:x.size<=1000) (J:y.size<=1000)
  (c1:∀ wx,Below w.heap.size w wx->Calls prog 208 #[.string a,.string b] wx (StrZ g wx))
  (c2:∀ wx,Below w.heap.size w wx->Calls prog 209 #[.string a,.string g] wx (StrE x wx))
  (c3:∀ wx,Below w.heap.size w wx->Calls prog 209 #[.string b,.string g] wx (StrE y wx)) :
  Calls prog 190 #[.bool s,.string a,.string b] w fun e w' =>
   e=(if x.size<=400/\y.size<=400 then .returned (nvS r x y) else PT)/\Below w.heap.size w w':=by
 have K:=qh c1;clear c1;have L:=qh c2;clear c2;have I:=qh c3;clear c3;have W:Below w.heap.size w (w.alloc (.cells #[.bool false,.string ⟨#[]⟩,.string ⟨#[]⟩] 189)):=blr.alloc nlr _;have l:=qh W;clear W;have D:(x.size<=400/\y.size<=400)\/(x.size<=400/\400<y.size)\/400<x.size:=by omega
 unfold PT nvS
 rcases Y with ⟨rfl,rfl⟩|⟨rfl,X⟩
 ·-- no sign
  rcases D with ⟨A,E⟩|⟨A,E⟩|A
  ·rw[if_pos ⟨A,E⟩];have O:(x.size:Int)<=400:=by omega
   have U:(y.size:Int)<=400:=by omega
   clear A E;clear N J
   go_enter func190,ntmps190
   go_wp2_with fail
   refine(K.out _ l.out).mono ?_;rintro e R ⟨rfl,j⟩;have o:=qh j;have k:=qh (l.out.trans (j.mono l.out.size));clear j
   go_wp2_with fail
   refine(z1r _ _).mono ?_;rintro e C ⟨rfl,rfl⟩
   go_wp2_with fail
   refine(L.out _ k.out).mono ?_;rintro e C ⟨rfl,i⟩;have p:=qh (o.out.trans (i.mono o.out.size));have c:=qh (k.out.trans (i.mono k.out.size));clear i
   go_wp2_with fail
   refine(I.out _ c.out).mono ?_;rintro e T ⟨rfl,d⟩;have u:=qh (p.out.trans (d.mono p.out.size));have m:=qh (c.out.trans (d.mono c.out.size));clear d;obtain⟨F,H,G,P,S,Q,z⟩:=res3 u.out;have B:=qh m.out.size
   go_wp2_with fail
   obtain⟨s0,s1,s2⟩:=set3 (a':=.bool false) (b':=.string x) (c':=.string y) F H G;refine bodyPost_ret (z3t rfl _ _ w.heap.size false x y rfl ?_ ?_ ?_) rfl ⟨rfl,?_⟩
   ·rw[World.cell?_alloc_past (hn:=by simpa using z)];exact s0
   ·rw[World.cell?_alloc_past (hn:=by simpa using z)];exact s1
   ·rw[World.cell?_alloc_past (hn:=by simpa using z)];exact s2
   exact(((m.out.setCell nlr _).setCell nlr _).setCell nlr _).alloc (by simpa using B.out) _
  ·rw[if_neg (fun h=>by omega)];have O:(x.size:Int)<=400:=by omega
   have U:(400:Int)<(y.size:Int):=by omega
   clear A E;clear N J
   go_enter func190,ntmps190
   go_wp2_with fail
   refine(K.out _ l.out).mono ?_;rintro e R ⟨rfl,j⟩;have o:=qh j;have k:=qh (l.out.trans (j.mono l.out.size));clear j
   go_wp2_with fail
   refine(z1r _ _).mono ?_;rintro e C ⟨rfl,rfl⟩
   go_wp2_with fail
   refine(L.out _ k.out).mono ?_;rintro e C ⟨rfl,i⟩;have p:=qh (o.out.trans (i.mono o.out.size));have c:=qh (k.out.trans (i.mono k.out.size));clear i
   go_wp2_with fail
   refine(I.out _ c.out).mono ?_;rintro e T ⟨rfl,d⟩;have u:=qh (p.out.trans (d.mono p.out.size));have m:=qh (c.out.trans (d.mono c.out.size));clear d;obtain⟨F,H,G,P,S,Q,z⟩:=res3 u.out;have B:=qh m.out.size
   go_wp2_with fail
   exact⟨rfl,rfl,m.out.alloc B.out _⟩
  rw[if_neg (fun h=>by omega)];have O:(400:Int)<(x.size:Int):=by omega
  clear A;clear N J
  go_enter func190,ntmps190
  go_wp2_with fail
  refine(K.out _ l.out).mono ?_;rintro e R ⟨rfl,j⟩;have o:=qh j;have k:=qh (l.out.trans (j.mono l.out.size));clear j
  go_wp2_with fail
  refine(z1r _ _).mono ?_;rintro e C ⟨rfl,rfl⟩
  go_wp2_with fail
  refine(L.out _ k.out).mono ?_;rintro e C ⟨rfl,i⟩;have p:=qh (o.out.trans (i.mono o.out.size));have c:=qh (k.out.trans (i.mono k.out.size));clear i
  go_wp2_with fail
  refine(I.out _ c.out).mono ?_;rintro e T ⟨rfl,d⟩;have u:=qh (p.out.trans (d.mono p.out.size));have m:=qh (c.out.trans (d.mono c.out.size));clear d;obtain⟨F,H,G,P,S,Q,z⟩:=res3 u.out;have B:=qh m.out.size
  go_wp2_with fail
  exact⟨rfl,rfl,m.out.alloc B.out _⟩
 cases r<;>simp only[Bool.not_true,Bool.not_false] at X
 ·-- zero
  rcases D with ⟨A,E⟩|⟨A,E⟩|A
  ·rw[if_pos ⟨A,E⟩];have O:(x.size:Int)<=400:=by omega
   have U:(y.size:Int)<=400:=by omega
   clear A E;clear N J
   go_enter func190,ntmps190
   go_wp2_with fail
   refine(K.out _ l.out).mono ?_;rintro e R ⟨rfl,j⟩;have o:=qh j;have k:=qh (l.out.trans (j.mono l.out.size));clear j
   go_wp2_with fail
   refine(z1r _ _).mono ?_;rintro e C ⟨rfl,rfl⟩
   go_wp2_with fail
   refine(L.out _ k.out).mono ?_;rintro e C ⟨rfl,i⟩;have p:=qh (o.out.trans (i.mono o.out.size));have c:=qh (k.out.trans (i.mono k.out.size));clear i
   go_wp2_with fail
   refine(I.out _ c.out).mono ?_;rintro e T ⟨rfl,d⟩;have u:=qh (p.out.trans (d.mono p.out.size));have m:=qh (c.out.trans (d.mono c.out.size));clear d;obtain⟨F,H,G,P,S,Q,z⟩:=res3 u.out;have B:=qh m.out.size
   go_wp2_with fail
   obtain⟨s0,s1,s2⟩:=set3 (a':=.bool false) (b':=.string x) (c':=.string y) F H G;refine bodyPost_ret (z3t rfl _ _ w.heap.size false x y rfl ?_ ?_ ?_) rfl ⟨rfl,?_⟩
   ·rw[World.cell?_alloc_past (hn:=by simpa using z)];exact s0
   ·rw[World.cell?_alloc_past (hn:=by simpa using z)];exact s1
   ·rw[World.cell?_alloc_past (hn:=by simpa using z)];exact s2
   exact(((m.out.setCell nlr _).setCell nlr _).setCell nlr _).alloc (by simpa using B.out) _
  ·rw[if_neg (fun h=>by omega)];have O:(x.size:Int)<=400:=by omega
   have U:(400:Int)<(y.size:Int):=by omega
   clear A E;clear N J
   go_enter func190,ntmps190
   go_wp2_with fail
   refine(K.out _ l.out).mono ?_;rintro e R ⟨rfl,j⟩;have o:=qh j;have k:=qh (l.out.trans (j.mono l.out.size));clear j
   go_wp2_with fail
   refine(z1r _ _).mono ?_;rintro e C ⟨rfl,rfl⟩
   go_wp2_with fail
   refine(L.out _ k.out).mono ?_;rintro e C ⟨rfl,i⟩;have p:=qh (o.out.trans (i.mono o.out.size));have c:=qh (k.out.trans (i.mono k.out.size));clear i
   go_wp2_with fail
   refine(I.out _ c.out).mono ?_;rintro e T ⟨rfl,d⟩;have u:=qh (p.out.trans (d.mono p.out.size));have m:=qh (c.out.trans (d.mono c.out.size));clear d;obtain⟨F,H,G,P,S,Q,z⟩:=res3 u.out;have B:=qh m.out.size
   go_wp2_with fail
   exact⟨rfl,rfl,m.out.alloc B.out _⟩
  rw[if_neg (fun h=>by omega)];have O:(400:Int)<(x.size:Int):=by omega
  clear A;clear N J
  go_enter func190,ntmps190
  go_wp2_with fail
  refine(K.out _ l.out).mono ?_;rintro e R ⟨rfl,j⟩;have o:=qh j;have k:=qh (l.out.trans (j.mono l.out.size));clear j
  go_wp2_with fail
  refine(z1r _ _).mono ?_;rintro e C ⟨rfl,rfl⟩
  go_wp2_with fail
  refine(L.out _ k.out).mono ?_;rintro e C ⟨rfl,i⟩;have p:=qh (o.out.trans (i.mono o.out.size));have c:=qh (k.out.trans (i.mono k.out.size));clear i
  go_wp2_with fail
  refine(I.out _ c.out).mono ?_;rintro e T ⟨rfl,d⟩;have u:=qh (p.out.trans (d.mono p.out.size));have m:=qh (c.out.trans (d.mono c.out.size));clear d;obtain⟨F,H,G,P,S,Q,z⟩:=res3 u.out;have B:=qh m.out.size
  go_wp2_with fail
  exact⟨rfl,rfl,m.out.alloc B.out _⟩
 rcases D with ⟨A,E⟩|⟨A,E⟩|A
 ·rw[if_pos ⟨A,E⟩];have O:(x.size:Int)<=400:=by omega
  have U:(y.size:Int)<=400:=by omega
  clear A E;clear N J
  go_enter func190,ntmps190
  go_wp2_with fail
  refine(K.out _ l.out).mono ?_;rintro e R ⟨rfl,j⟩;have o:=qh j;have k:=qh (l.out.trans (j.mono l.out.size));clear j
  go_wp2_with fail
  refine(z1r _ _).mono ?_;rintro e C ⟨rfl,rfl⟩
  go_wp2_with fail
  refine(L.out _ k.out).mono ?_;rintro e C ⟨rfl,i⟩;have p:=qh (o.out.trans (i.mono o.out.size));have c:=qh (k.out.trans (i.mono k.out.size));clear i
  go_wp2_with fail
  refine(I.out _ c.out).mono ?_;rintro e T ⟨rfl,d⟩;have u:=qh (p.out.trans (d.mono p.out.size));have m:=qh (c.out.trans (d.mono c.out.size));clear d;obtain⟨F,H,G,P,S,Q,z⟩:=res3 u.out;have B:=qh m.out.size
  go_wp2_with fail
  obtain⟨s0,s1,s2⟩:=set3 (a':=.bool true) (b':=.string x) (c':=.string y) F H G;refine bodyPost_ret (z3t rfl _ _ w.heap.size true x y rfl ?_ ?_ ?_) rfl ⟨rfl,?_⟩
  ·rw[World.cell?_alloc_past (hn:=by simpa using z)];exact s0
  ·rw[World.cell?_alloc_past (hn:=by simpa using z)];exact s1
  ·rw[World.cell?_alloc_past (hn:=by simpa using z)];exact s2
  exact(((m.out.setCell nlr _).setCell nlr _).setCell nlr _).alloc (by simpa using B.out) _
 ·rw[if_neg (fun h=>by omega)];have O:(x.size:Int)<=400:=by omega
  have U:(400:Int)<(y.size:Int):=by omega
  clear A E;clear N J
  go_enter func190,ntmps190
  go_wp2_with fail
  refine(K.out _ l.out).mono ?_;rintro e R ⟨rfl,j⟩;have o:=qh j;have k:=qh (l.out.trans (j.mono l.out.size));clear j
  go_wp2_with fail
  refine(z1r _ _).mono ?_;rintro e C ⟨rfl,rfl⟩
  go_wp2_with fail
  refine(L.out _ k.out).mono ?_;rintro e C ⟨rfl,i⟩;have p:=qh (o.out.trans (i.mono o.out.size));have c:=qh (k.out.trans (i.mono k.out.size));clear i
  go_wp2_with fail
  refine(I.out _ c.out).mono ?_;rintro e T ⟨rfl,d⟩;have u:=qh (p.out.trans (d.mono p.out.size));have m:=qh (c.out.trans (d.mono c.out.size));clear d;obtain⟨F,H,G,P,S,Q,z⟩:=res3 u.out;have B:=qh m.out.size
  go_wp2_with fail
  exact⟨rfl,rfl,m.out.alloc B.out _⟩
 rw[if_neg (fun h=>by omega)];have O:(400:Int)<(x.size:Int):=by omega
 clear A;clear N J
 go_enter func190,ntmps190
 go_wp2_with fail
 refine(K.out _ l.out).mono ?_;rintro e R ⟨rfl,j⟩;have o:=qh j;have k:=qh (l.out.trans (j.mono l.out.size));clear j
 go_wp2_with fail
 refine(z1r _ _).mono ?_;rintro e C ⟨rfl,rfl⟩
 go_wp2_with fail
 refine(L.out _ k.out).mono ?_;rintro e C ⟨rfl,i⟩;have p:=qh (o.out.trans (i.mono o.out.size));have c:=qh (k.out.trans (i.mono k.out.size));clear i
 go_wp2_with fail
 refine(I.out _ c.out).mono ?_;rintro e T ⟨rfl,d⟩;have u:=qh (p.out.trans (d.mono p.out.size));have m:=qh (c.out.trans (d.mono c.out.size));clear d;obtain⟨F,H,G,P,S,Q,z⟩:=res3 u.out;have B:=qh m.out.size
 go_wp2_with fail
 exact⟨rfl,rfl,m.out.alloc B.out _⟩
theorem y0t (s:Bool) (m d:Nat) (w:World) (p:fits m) (i:fits d) (k:d≠0) (E:Tab w) :
  Calls prog 190 #[.bool s,.string (str (dec m)),.string (str (dec d))] w (QEnd (mkRat (sg s m) d) w):=by
 obtain⟨z,u,G⟩:=v3b (sg s m) d k;rw[v1z] at z u;have A:fits (Nat.gcd m d):=z9m i (Nat.le_of_dvd (Nat.pos_of_ne_zero k) (Nat.gcd_dvd_right _ _));have g:Nat.gcd m d≠0:=by have:=Nat.gcd_pos_of_pos_right m (Nat.pos_of_ne_zero k);omega
 have o:∀ c,Below w.heap.size w c->Tab c:=fun c h=>E.below h nlr;have B:fits (m / Nat.gcd m d):=z9m p (Nat.div_le_self _ _);have F:fits (d / Nat.gcd m d):=z9m i (Nat.div_le_self _ _);have C:=x7j s (str (dec m)) (str (dec d)) (str (dec (Nat.gcd m d))) (str (dec (m / Nat.gcd m d))) (str (dec (d / Nat.gcd m d))) (negQ (mkRat (sg s m) d)) w ?_ ?_ ?_
  (fun c h=>v3p m d c p i (o c h)) (fun c h=>v3c m _ c p A g (o c h)) (fun c h=>v3c d _ c i A g (o c h))
 ·refine C.mono ?_;rintro e H ⟨rfl,hb⟩;refine⟨?_,hb⟩;have hf:fitQ (mkRat (sg s m) d)↔((str (dec (m / Nat.gcd m d))).size<=400/\(str (dec (d / Nat.gcd m d))).size<=400):=by
   unfold fitQ;rw[z,u,z1i,z1i]
  have D:nv (mkRat (sg s m) d)=nvS (negQ (mkRat (sg s m) d)) (str (dec (m / Nat.gcd m d))) (str (dec (d / Nat.gcd m d))):=by
   unfold nv;rw[z,u]
  rw[D];by_cases h:fitQ (mkRat (sg s m) d)
  ·rw[if_pos h,if_pos (hf.1 h)]
  rw[if_neg h,if_neg (fun e=>h (hf.2 e))]
 ·rw[G];cases s
  ·left;refine⟨rfl,?_⟩;rw[decide_eq_false_iff_not,v9f];simp
  right;refine⟨rfl,?_⟩
  by_cases j:m=0
  ·subst j;rw[z5e,Lib.toList_data];rfl
  have:(decide (sg true m<0))=true:=by rw[decide_eq_true_eq,v9f];exact⟨rfl,j⟩
  rw[this];exact z4n (l:=[48]) (fun e=>j (z7x ((by have:=congrArg bts e;rw[z2v,z2v] at this;exact this:dec m=[48]).trans z5e.symm)))
 ·rw[z1i];exact B
 rw[z1i];exact F
end
section
open Go.RowKit
theorem z0a {W a b:World} (h:Below W.heap.size W a) (hb:Below a.heap.size a b):Below W.heap.size W b:=h.trans (hb.mono h.size)
def WR (p q:Bool) (xn xd yn yd:ByteArray) (w:World):World :=
 ((w.alloc (.cells #[.bool p,.string xn,.string xd] 189)).alloc (.cells #[.bool q,.string yn,.string yd] 189)).alloc (.cells #[.bool false,.string ⟨#[]⟩,.string ⟨#[]⟩] 189)
theorem y2z (p q:Bool) (c d g h:ByteArray) (w:World):Below w.heap.size w (WR p q c d g h w):=by
 unfold WR;exact((blr.alloc nlr _).alloc (by simp) _).alloc (by simp;omega) _
theorem z6d {p q:Bool} {j i g l:ByteArray} {w d:World} (h:Below (WR p q j i g l w).heap.size (WR p q j i g l w) d) :
  Below (WR p q j i g l w).heap.size (WR p q j i g l w) d /\
  d.cell? ⟨w.heap.size,0,none⟩=some (.bool p)/\d.cell? ⟨w.heap.size,1,none⟩=some (.string j)/\d.cell? ⟨w.heap.size,2,none⟩=some (.string i) /\
  d.cell? ⟨w.heap.size+1,0,none⟩=some (.bool q)/\d.cell? ⟨w.heap.size+1,1,none⟩=some (.string g)/\d.cell? ⟨w.heap.size+1,2,none⟩=some (.string l):=by
 have c:∀ k,k<3->w.heap.size+k<(WR p q j i g l w).heap.size:=by intro k m;unfold WR;simp;omega
 refine⟨h,?_,?_,?_,?_,?_,?_⟩
 ·exact(h.cell (p:=⟨w.heap.size,0,none⟩) (c 0 (by omega))).trans (by simp[WR,go_sem])
 ·exact(h.cell (p:=⟨w.heap.size,1,none⟩) (c 0 (by omega))).trans (by simp[WR,go_sem])
 ·exact(h.cell (p:=⟨w.heap.size,2,none⟩) (c 0 (by omega))).trans (by simp[WR,go_sem])
 ·exact(h.cell (p:=⟨w.heap.size+1,0,none⟩) (c 1 (by omega))).trans (by simp[WR,go_sem])
 ·exact(h.cell (p:=⟨w.heap.size+1,1,none⟩) (c 1 (by omega))).trans (by simp[WR,go_sem])
 exact(h.cell (p:=⟨w.heap.size+1,2,none⟩) (c 1 (by omega))).trans (by simp[WR,go_sem])
theorem y6y {p q:Bool} {i g d j:ByteArray} {w c:World} (h:Below (WR p q i g d j w).heap.size (WR p q i g d j w) c) :
  c.cell? ⟨w.heap.size+1+1,0,none⟩=some (.bool false)/\c.cell? ⟨w.heap.size+1+1,1,none⟩=some (.string ⟨#[]⟩)/\c.cell? ⟨w.heap.size+1+1,2,none⟩=some (.string ⟨#[]⟩) /\
  c.frozen? ⟨w.heap.size+1+1,0,none⟩=false/\c.frozen? ⟨w.heap.size+1+1,1,none⟩=false/\c.frozen? ⟨w.heap.size+1+1,2,none⟩=false:=by
 have e:w.heap.size+1+1=((w.alloc (.cells #[.bool p,.string i,.string g] 189)).alloc (.cells #[.bool q,.string d,.string j] 189)).heap.size:=by simp
 rw[e];obtain⟨l,o,k,u,m,s,_⟩:=res3 h;exact⟨l,o,k,u,m,s⟩
theorem u5f {P:Program} {fn:Func} {R:Ending->World->Prop} {c:List PanicEntry} {a:Act} {w:World} {S:World->Prop} {G:Act->World->Prop} {g:Act->World->Prop}
  (_:Shut (∀ a w,S w->(S w->G a w)->g a w)) (d:Tmp) (v:Value) (h:bodyPost P fn R (.panic c) a w) (_:Hid False->g (a.put (some d) v) w):bodyPost P fn R (.panic c) a w:=h
theorem y2n {p q:Bool} {i g d c:ByteArray} {w j:World} (h:Below (WR p q i g d c w).heap.size (WR p q i g d c w) j):Below (w.heap.size+1+1) (WR p q i g d c w) j:=by
 refine h.mono ?_;unfold WR;simp
theorem z2n {p q:Bool} {k j g l:ByteArray} {w c:World} (h:Below (w.heap.size+1+1) (WR p q k j g l w) c) :
  Below (w.heap.size+1+1) (WR p q k j g l w) c /\
  c.cell? ⟨w.heap.size,0,none⟩=some (.bool p)/\c.cell? ⟨w.heap.size,1,none⟩=some (.string k)/\c.cell? ⟨w.heap.size,2,none⟩=some (.string j) /\
  c.cell? ⟨w.heap.size+1,0,none⟩=some (.bool q)/\c.cell? ⟨w.heap.size+1,1,none⟩=some (.string g)/\c.cell? ⟨w.heap.size+1,2,none⟩=some (.string l):=by
 have d:w.heap.size<w.heap.size+1+1:=by omega
 have i:w.heap.size+1<w.heap.size+1+1:=by omega
 refine⟨h,?_,?_,?_,?_,?_,?_⟩
 ·exact(h.cell (p:=⟨w.heap.size,0,none⟩) d).trans (by simp[WR,go_sem])
 ·exact(h.cell (p:=⟨w.heap.size,1,none⟩) d).trans (by simp[WR,go_sem])
 ·exact(h.cell (p:=⟨w.heap.size,2,none⟩) d).trans (by simp[WR,go_sem])
 ·exact(h.cell (p:=⟨w.heap.size+1,0,none⟩) i).trans (by simp[WR,go_sem])
 ·exact(h.cell (p:=⟨w.heap.size+1,1,none⟩) i).trans (by simp[WR,go_sem])
 exact(h.cell (p:=⟨w.heap.size+1,2,none⟩) i).trans (by simp[WR,go_sem])
end
section
open Go.RowKit
theorem x7s (w:World):(Instr.typeAssert .nilIface 20 198 true).run prog w=.ok (.tuple #[.agg #[],.bool false]) w:=by kernel_rfl
theorem x2j (w:World):(Instr.typeAssert (.iface 198 (.agg #[])) 20 198 true).run prog w=.ok (.tuple #[.agg #[],.bool true]) w:=by kernel_rfl
theorem x7z (p q:Addr) (w:World) :
  CallsD prog 217 #[.pointer (some p),.pointer (some q)] .returning w fun e u' w'=>e=.returned (.tuple #[])/\u'=.returning/\Below w.heap.size w w':=by
 have d:Below w.heap.size w (w.alloc (.cells #[] 198)):=blr.alloc nlr _;refine callsD_of_wpS func217 rfl fun h i g=>?_;simp only[ntmps217,List.size_toArray,List.length_cons,List.length_nil,Nat.reduceAdd,Nat.reduceSub,Array.replicate_succ,
   Array.replicate_zero,List.push_toArray,List.append_toArray,List.nil_append,List.cons_append]
 apply wpS_seq
 apply wpS_region
 simp[wpOpsS,go_sem,recoverD,g,Exit.thenS,x7s];refine wpS_of_wp ?_;go_wp2;refine⟨rfl,.returning,?_,.tuple #[],?_,rfl,rfl,d⟩
 ·rw[<- g]
 exact results_none rfl _ _ _
theorem x8d (b c:Nat) (w:World) (s:ByteArray) (n:Int) (m:w.cell? ⟨b,0,none⟩=some (.string s)) (l:w.cell? ⟨c,0,none⟩=some (.int .i64 n)) (F:w.frozen? ⟨b,0,none⟩=false) (E:w.frozen? ⟨c,0,none⟩=false) (hb:b<w.heap.size) (p:c<w.heap.size) (d:¬ b=c) :
  CallsD prog 217 #[.pointer (some ⟨b,0,none⟩),.pointer (some ⟨c,0,none⟩)] (.panicking ({ v:=.iface 198 (.agg #[]),recovered:=false }::[])) w fun e u' w' =>
   e=.returned (.tuple #[])/\u'=.panicking ({ v:=.iface 198 (.agg #[]),recovered:=true }::[])/\w'.cell? ⟨b,0,none⟩=some (.string ⟨#[]⟩)/\w'.cell? ⟨c,0,none⟩=some (.int .i64 2) /\
    ∀ B a,Below B a w->B<=b->B<=c->Below B a w':=by
 refine callsD_of_wpS func217 rfl fun G D A=>?_;simp only[ntmps217,List.size_toArray,List.length_cons,List.length_nil,Nat.reduceAdd,Nat.reduceSub,Array.replicate_succ,
   Array.replicate_zero,List.push_toArray,List.append_toArray,List.nil_append,List.cons_append]
 apply wpS_seq
 apply wpS_region
 simp[wpOpsS,go_sem,recoverD,A,Exit.thenS,x2j];refine wpS_of_wp ?_;go_wp2;have z:(w.setCell ⟨b,0,none⟩ (.string ⟨#[]⟩)).cell? ⟨b,0,none⟩=some (.string ⟨#[]⟩):=World.cell?_setCell_same _ _ _ m;have o:(w.setCell ⟨b,0,none⟩ (.string ⟨#[]⟩)).cell? ⟨c,0,none⟩=some (.int .i64 n):=(World.cell?_setCell_other _ ⟨b,0,none⟩ ⟨c,0,none⟩ _ (fun e=>d (by injection e))).trans l;have C:=World.cell?_setCell_same _ _ (.int .i64 2) o;have i:=(World.cell?_setCell_other _ ⟨c,0,none⟩ ⟨b,0,none⟩ (.int .i64 2) (fun e=>d (by injection e with e _;exact e.symm))).trans z;have g:∀ (x y:Value),((w.setCell ⟨b,0,none⟩ x).setCell ⟨c,0,none⟩ y).heap.size=w.heap.size:=fun x y=>by simp
 refine⟨rfl,.panicking [{ v:=.iface 198 (.agg #[]),recovered:=true }],rfl,.tuple #[],results_none rfl _ _ _,rfl,rfl,?_,?_,?_⟩
 ·rw[World.cell?_alloc_past (hn:=by rw[g];exact hb)];exact i
 ·rw[World.cell?_alloc_past (hn:=by rw[g];exact p)];exact C
 intro B a h k j;have u:B<=w.heap.size:=by omega
 exact((h.setCell k _).setCell j _).alloc (by rw[g];exact u) _
theorem y9y {w c:World} {a b:Value} {t u:TypeId} (h:Below ((w.alloc (.cells #[a] t)).alloc (.cells #[b] u)).heap.size ((w.alloc (.cells #[a] t)).alloc (.cells #[b] u)) c) :
  c.cell? ⟨w.heap.size,0,none⟩=some a/\c.cell? ⟨w.heap.size+1,0,none⟩=some b/\c.frozen? ⟨w.heap.size,0,none⟩=false/\c.frozen? ⟨w.heap.size+1,0,none⟩=false/\w.heap.size+1<c.heap.size:=by
 have i:=h.size;have e:((w.alloc (.cells #[a] t)).alloc (.cells #[b] u)).heap.size=w.heap.size+1+1:=by simp
 rw[e] at i;have d:w.heap.size<((w.alloc (.cells #[a] t)).alloc (.cells #[b] u)).heap.size:=by rw[e];omega
 have g:w.heap.size+1<((w.alloc (.cells #[a] t)).alloc (.cells #[b] u)).heap.size:=by rw[e];omega
 refine⟨?_,?_,?_,?_,by omega⟩
 ·exact(h.cell (p:=⟨w.heap.size,0,none⟩) d).trans (by simp[go_sem])
 ·exact(h.cell (p:=⟨w.heap.size+1,0,none⟩) g).trans (by simp[go_sem])
 ·exact(h.frozen (p:=⟨w.heap.size,0,none⟩) d).trans (by simp[go_sem])
 exact(h.frozen (p:=⟨w.heap.size+1,0,none⟩) g).trans (by simp[go_sem])
theorem u5i:∀ args w,(callFunc 200 args).run prog w=.ok (.enter 200 args) w:=fun args w=>by kernel_rfl
theorem y5d {fn:Func} {p u:Tmp} (h:fn.results=#[.cell p 9,.cell u 29]) (d:Array Value) (W:World) (b c:Nat) (s:ByteArray) (n:Int)
  (j:d.getD p undef=.pointer (some ⟨b,0,none⟩)) (k:d.getD u undef=.pointer (some ⟨c,0,none⟩)) (c0:W.cell? ⟨b,0,none⟩=some (.string s)) (c1:W.cell? ⟨c,0,none⟩=some (.int .i64 n)) :
  (results fn d).run prog W=.ok (.tuple #[.string s,.int .i64 n]) W:=by
 have g:d[p]?.getD undef=.pointer (some ⟨b,0,none⟩):=by rw[<- j];simp
 have i:d[u]?.getD undef=.pointer (some ⟨c,0,none⟩):=by rw[<- k];simp
 simp only[results,h];simp[g,i,go_sem,c0,c1]
theorem x1z (i:Array Value) (q:Rat) (w:World) (l:∀ wx,Below w.heap.size w wx->Calls prog 200 i wx (QEnd q wx)) :
  Calls prog 199 #[.func (.func 200) #[] i] w (PairEnd (limR q) w):=by
 have N:∀ (fn:Fn) (first cap:Array Value) (w:World),(Instr.makeFunc fn first cap).run prog w=.ok (.func fn first cap) w:=fun _ _ _ _=>rfl
 have J:=u5i;have m:Below w.heap.size w ((w.alloc (.cells #[.string ⟨#[]⟩] 9)).alloc (.cells #[.int .i64 0] 29)):=(blr.alloc nlr _).alloc (by simp) _;have h:=qh m;clear m;have u:=qh l;clear l;by_cases hf:fitQ q
 ·rw[z8p hf];have z:=qh hf;clear hf
  go_enter_defers func199,ntmps199
  go_wp2_with fail
  have d:=u.out _ h.out;unfold QEnd at d;rw[if_pos z.out] at d;refine d.mono ?_;clear d;rintro e I ⟨rfl,c⟩;have g:=qh c;clear c
  go_wp2_with fail
  refine(x2s q I z.out).mono ?_;rintro e k ⟨rfl,s⟩;have o:=qh (z0a g.out s);clear s;obtain⟨A,C,H,G,j⟩:=y9y o.out
  go_wp2_with fail
  have F:=World.cell?_setCell_same _ _ (.string (txt q)) A;have D:=(World.cell?_setCell_other k ⟨w.heap.size,0,none⟩ ⟨w.heap.size+1,0,none⟩ (.string (txt q)) (fun e=>by injection e;omega)).trans C;have P:=World.cell?_setCell_same _ _ (.int .i64 0) D;have K:=(World.cell?_setCell_other (k.setCell ⟨w.heap.size,0,none⟩ (.string (txt q))) ⟨w.heap.size+1,0,none⟩ ⟨w.heap.size,0,none⟩ (.int .i64 0) (fun e=>by injection e;omega)).trans F;have E:((k.setCell ⟨w.heap.size,0,none⟩ (.string (txt q))).setCell ⟨w.heap.size+1,0,none⟩ (.int .i64 0)).heap.size=k.heap.size:=by simp
  refine leaves_cons (f:=217) (args:=#[.pointer (some ⟨w.heap.size,0,none⟩),.pointer (some ⟨w.heap.size+1,0,none⟩)]) (by simp) (by simp[go_sem]) ?_;refine(x7z _ _ _).mono ?_;rintro e O B ⟨rfl,rfl,hb⟩;refine⟨_,y5d rfl _ _ w.heap.size (w.heap.size+1) (txt q) 0 rfl rfl ?_ ?_,rfl,?_⟩
  ·exact(hb.cell (p:=⟨w.heap.size,0,none⟩) (by rw[E];show w.heap.size<_;omega)).trans K
  ·exact(hb.cell (p:=⟨w.heap.size+1,0,none⟩) (by rw[E];exact j)).trans P
  have L:Below w.heap.size w k:=z0a h.out o.out;exact((L.setCell nlr _).setCell (Nat.le_succ _) _).trans (hb.mono (by rw[E];omega))
 rw[v0e hf];have z:=qh hf;clear hf
 go_enter_defers func199,ntmps199
 go_wp2_with fail
 have d:=u.out _ h.out;unfold QEnd at d;rw[if_neg z.out] at d;unfold PT at d;refine d.mono ?_;clear d;rintro e I ⟨rfl,c⟩;have g:=qh c;clear c;obtain⟨A,C,H,G,j⟩:=y9y g.out;refine leaves_cons (f:=217) (args:=#[.pointer (some ⟨w.heap.size,0,none⟩),.pointer (some ⟨w.heap.size+1,0,none⟩)]) (by simp) (by simp[go_sem]) ?_;refine(x8d _ _ _ _ _ A C H G (by omega) j (by omega)).mono ?_;rintro e O B ⟨rfl,rfl,F,D,hb⟩;exact⟨_,y5d rfl _ _ w.heap.size (w.heap.size+1) ⟨#[]⟩ 2 rfl rfl F D,rfl,hb _ _ (z0a h.out g.out) nlr (Nat.le_succ _)⟩
end
section
open Go.RowKit
theorem x1s (l:List UInt8):Lib.indexByte l 47=if hasS l then ((upTo l).length:Int) else -1:=by
 induction l with
 | nil=>rfl
 | cons a l ih =>
  by_cases c:a=47
  ·subst c;simp[Lib.indexByte,hasS,upTo]
  have d:hasS (a::l)=hasS l:=by simp[hasS,c]
  have h:upTo (a::l)=a::upTo l:=by simp[upTo,c]
  have g:(a==47)=false:=by rw[beq_eq_false_iff_ne];exact c
  rw[d,h,Lib.indexByte,g,ih];cases hasS l
  ·rfl
  simp only[if_true,List.length_cons,Bool.false_eq_true,if_false];rw[if_neg (by rw[beq_iff_eq];omega)];omega
theorem y5j (s:ByteArray) (a b:Nat):bts (s.extract a b)=((bts s).take b).drop a:=by
 show (s.extract a b).data.toList=_;rw[ByteArray.data_extract,Array.toList_extract,List.extract_eq_take_drop];exact List.drop_take.symm
theorem u3g {s d t c:ByteArray} {b:Bool} (h:s=d) (g:t=c):Ending.returned (.tuple #[.string s,.string t,.bool b])=.returned (.tuple #[.string d,.string c,.bool b]):=by rw[h,g]
theorem u0t (s:ByteArray) (w:World) :
  Calls prog 240 #[.string s,.string ⟨#[47]⟩] w fun e w'=>e=.returned (.int .i64 (Lib.indexByte (bts s) 47))/\w=w':=by
 by_cases h:s=⟨#[47]⟩
 ·subst h
  go_enter func240,ntmps240
  go_wp2;go_ret;exact⟨rfl,rfl⟩
 have d:(s.toList==[47])=false:=z4n h;have i:([47]==s.toList)=false:=by rw[Bool.beq_comm];exact d
 have c:=Tryz.stringslite_IndexByte s 47 w;have g:=qh c;clear c h
 go_enter func240,ntmps240
 go_wp2_with fail
 refine g.out.mono ?_;rintro e w' ⟨rfl,rfl⟩;go_wp2;go_ret;exact⟨rfl,rfl⟩
theorem v5r (s:ByteArray) (w:World) (p:s.size<=9223372036854775807) :
  Calls prog 226 #[.string s,.string ⟨#[47]⟩] w fun e w'=>e=.returned (.tuple #[.string (str (upTo (bts s))),.string (str (if hasS (bts s) then z6t (bts s) else [])),.bool (hasS (bts s))])/\Below w.heap.size w w':=by
 have d:=u0t s w;rw[x1s] at d;cases h:hasS (bts s)
 ·rw[h] at d;simp only[Bool.false_eq_true,if_false] at d;rw[y7c _ h,y3j];have m:=qh d;clear d h
  go_enter func226,ntmps226
  go_wp2_with fail
  refine m.out.mono ?_;rintro e w' ⟨rfl,rfl⟩;go_wp2
  go_ret3
  exact⟨rfl,blr⟩
 rw[h] at d;simp only[if_true] at d;have g:=y6x _ h;have c:=congrArg List.length g;rw[z1q,List.length_append,List.length_cons] at c;generalize hi:(upTo (bts s)).length=i at d c;have c1:(0:Int)<=(i:Int):=by omega
 have c2:(i:Int)<=(s.size:Int):=by omega
 have c3:(0:Int)<=(i:Int)+1:=by omega
 have c4:(i:Int)+1<=(s.size:Int):=by omega
 have c5:IntKind.i64.wrap ((i:Int)+1)=(i:Int)+1:=by rw[IntKind.wrap_i64];omega
 have j:s.extract 0 i=str (upTo (bts s)):=by
  apply y8i;rw[y5j,z2v];conv=>lhs;rw[g]
  rw[<- hi,List.take_left,List.drop_zero]
 have k:s.extract (i+1) s.size=str (z6t (bts s)):=by
  apply y8i;rw[y5j,z2v,List.take_of_length_le (by rw[z1q];omega)];conv=>lhs;rw[g]
  rw[<- hi,<- List.drop_drop,List.drop_left];rfl
 have m:=qh d;clear d h;have l:=qh j;clear j;have o:=qh k;clear k g hi c p
 go_enter func226,ntmps226
 go_wp2_with fail
 refine m.out.mono ?_;rintro e w' ⟨rfl,rfl⟩
 go_wp2_with fail
 go_quiet (fail)
 go_wp2
 go_ret3
 exact⟨u3g l.out o.out,below_drewN blr _⟩
theorem u0n (s:ByteArray) (w:World) (d:s.size<=9223372036854775807) :
  Calls prog 211 #[.string s,.string ⟨#[47]⟩] w fun e w'=>e=.returned (.tuple #[.string (str (upTo (bts s))),.string (str (if hasS (bts s) then z6t (bts s) else [])),.bool (hasS (bts s))])/\Below w.heap.size w w':=by
 have c:=v5r s w d;generalize str (upTo (bts s))=x at c ⊢;generalize str (if hasS (bts s) then z6t (bts s) else [])=y at c ⊢
 generalize hasS (bts s)=z at c ⊢;have g:=qh c;clear c d
 go_enter func211,ntmps211
 go_wp2_with fail
 refine g.out.mono ?_;rintro e w' ⟨rfl,hb⟩;have h:=qh hb;clear hb;go_wp2
 go_ret3
 exact⟨rfl,h.out⟩
theorem v6s (s:ByteArray) (w:World) :
  Calls prog 210 #[.string s,.string ⟨#[45]⟩] w fun e w'=>e=.returned (.tuple #[.string (str (z1a (bts s))),.bool (z6v (bts s))])/\w=w':=by
 refine(Tryz.strings_CutPrefix s ⟨#[45]⟩ w).mono ?_;rintro e w' ⟨rfl,rfl⟩;refine⟨?_,rfl⟩;have d:Lib.hasPrefix s.data.toList [45]=z6v (bts s):=by
  show Lib.hasPrefix (bts s) [45]=_;cases bts s with
  | nil=>rfl
  | cons a l =>
   show ((45:UInt8)==a&&true)=(a==45);rw[Bool.and_true];exact BEq.comm
 have g:Lib.trimPrefix s.data.toList [45]=z1a (bts s):=by
  show Lib.trimPrefix (bts s) [45]=_;unfold Lib.trimPrefix z1a;have c:Lib.hasPrefix (bts s) [45]=z6v (bts s):=d;rw[c];split
  ·cases bts s<;>rfl
  rfl
 show Ending.returned (.tuple #[.string ⟨(Lib.trimPrefix s.data.toList [45]).toArray⟩,.bool (Lib.hasPrefix s.data.toList [45])])=_;rw[d,g];rfl
end
end Go.Proofs.YteappjogmnogcaaGreatDoor
