/- Parts. -/
import Derived.Test.YtpldocnhbdlgfaaGreatDoorPb01
namespace Go.Proofs.YtpldocnhbdlgfaaGreatDoor
set_option maxRecDepth 100000
set_option linter.all false
set_option maxHeartbeats 16000000
open Go Tryz
section
variable{a sv u v x:V}{k:KK}{d:Rat}
def arch(hd:0<d)(u:Rat):∃n:Nat,u<(n:Rat)*d:=by
 have c:u / d<((((u / d).floor+1).toNat:Nat):Rat):=by
  have g:=Rat.lt_floor_add_one<|u / d;have h:(((u / d).floor+1:Int):Rat)<=((((u / d).floor+1).toNat:Nat):Rat):=by
   rw[<-Rat.intCast_natCast];exact Rat.intCast_le_intCast.2 (by omega)
  grind
 exact⟨_,(Rat.div_lt_iff hd).1 c⟩
def climb{P:Nat->Rat}(hd:0<d)(h:∀n,P n+d<=P (n+1))(u:Rat):∃n,u<P n:=by
 have c:∀n:Nat,P 0+(n:Rat)*d<=P n:=by
  intro n
  induction n with
  |zero=>rw[show ((0:Nat):Rat)=0 from rfl];grind
  |succ n ih =>
   have:=h n;rw[Rat.natCast_add];have e:((1:Nat):Rat)=1:=rfl;rw[e];grind
 obtain⟨n,g⟩:=arch hd (u-P 0);exact⟨n,by have:=c n;grind⟩
def JN(a b:V):leV (minV a b) a:=by
 rcases Cf a b with h|h
 ·rw[Ch h];exact EZ _
 rw[Cg h];exact h
def MR(a b:V):leV (minV a b) b:=by rw[Nr];exact JN b a
def TZ{b:V}(c:leV x a)(d:leV x b):leV x (minV a b):=by
 rcases Cf a b with h|h
 ·rw[Ch h];exact c
 rw[Cg h];exact d
def JM(a b:V):leV a (maxV a b):=by
 rcases Cf a b with h|h
 ·rw[BX h];exact h
 rw[BW h];exact EZ _
def MQ(a b:V):leV b (maxV a b):=by rw[Np];exact JM b a
def TY{b:V}(c:leV a x)(d:leV b x):leV (maxV a b) x:=by
 rcases Cf a b with h|h
 ·rw[BX h];exact d
 rw[BW h];exact c
def Es(v:V):leV v .inf:=by cases v<;>trivial
def JL(v:V):leV .low v:=by cases v<;>trivial
def JO(h:leV .inf v):v=.inf:=by cases v<;>first|rfl|exact h.elim
def TX(h:leV v .low):v=.low:=by cases v<;>first|rfl|exact h.elim
def JK{k:Int}(d:k=2\/k=3)(h:okV k v):leV (.fin 0) v:=by
 rcases AF h (by omega) with rfl|⟨q,rfl,c⟩
 ·exact trivial
 exact c
namespace RK
theorem le_iff{a b:RK k}:CSR.le a b↔if k.1=1 then leV b.1 a.1 else leV a.1 b.1 :=
 ⟨λ⟨c,d⟩=>by
  have g:=Fe a.2 c.2;have i:b.1=Av k.1 a.1 c.1:=congrArg Subtype.val d;rw[<-i]at g;exact g,λh=>by
  obtain⟨c,d,e⟩:=NG a.2 b.2 h;exact⟨⟨c,d⟩,ext e⟩⟩
theorem le1(c:k.1=1){a b:RK k}:CSR.le a b↔leV b.1 a.1:=by rw[le_iff,ifp c]
theorem le23(c:k.1=2\/k.1=3){a b:RK k}:CSR.le a b↔leV a.1 b.1:=by rw[le_iff,ifn (by omega)]
end RK
theorem okV1(v:V):okV 1 v:=by
 cases v with
 |inf=>exact⟨by decide,by decide⟩
 |low=>rfl
 |fin q=>exact .inl rfl
theorem UH{T:Nat->V}{k o:V}(p:∀v,(∀n,leV v (T n))->leV v sv)(m:∀n,leV o (Ai 1 (T n) k)):leV o (Ai 1 sv k):=by
 have i:(∀n,T n=.inf)->sv=.inf:=λh=>JO (p .inf λn=>by rw[h n];exact trivial);have g:∀v,Ai 1 .inf v=.inf:=λv=>by rw[times1]
 cases k with
 |inf=>rw[PH,g];exact Es _
 |low =>
  by_cases hi:∀n,T n=.inf
  ·rw[i hi,g];exact Es _
  have ⟨n,hn⟩:∃n,T n≠.inf:=Classical.not_forall.1 hi;have d:=m n;have l:Ai 1 (T n) .low=.low:=by rw[times1];cases j:T n<;>first|rfl|exact absurd j hn
  rw[l]at d;rw[TX d];exact JL _
 |fin y =>
  cases o with
  |low=>exact JL _
  |inf =>
   rw[i (λn=>?_),g];exact trivial;have d:=m n;rw[times1]at d;cases j:T n with
   |inf=>rfl
   |low=>rw[j]at d;exact d.elim
   |fin t=>rw[j]at d;exact d.elim
  |fin c =>
   have d:=p (.fin (c-y)) λn=>by
    have d:=m n;rw[times1]at d;cases j:T n with
    |inf=>exact trivial
    |low=>rw[j]at d;exact d.elim
    |fin t =>
     rw[j]at d;have l:c<=t+y:=d;show c-y<=t
     grind
   cases sv with
   |inf=>rw[g];exact trivial
   |low=>exact d.elim
   |fin s =>
    have l:c-y<=s:=d;rw[times1];show c<=s+y
    grind
theorem UI{k:Int}(m:k=2\/k=3){T:Nat->V}{z:V}(C:∀n,okV k (T n))(o:okV k sv)(hb:okV k u)(l:okV k z)(B:∀v,okV k v->(∀n,leV (T n) v)->leV sv v)(D:∀n,leV (mulV (T n) u) z):leV (mulV sv u) z:=by
 have n1:k≠1:=by omega
 rcases AF hb n1 with rfl|⟨y,rfl,E⟩
 ·by_cases F:∀n,T n=.fin 0
  ·have d:=B (.fin 0) (okV23' m Rat.le_refl) (λn=>by rw[F n];exact Rat.le_refl);have i:=FQ d (JK m o);rw[i,Dj];exact JK m l
  have ⟨n,hn⟩:∃n,T n≠.fin 0:=Classical.not_forall.1 F;have d:=D n;have i:mulV (T n) .inf=.inf:=by
   rcases AF (C n) n1 with h|⟨q,h,_⟩
   ·rw[h];exact Dz
   rw[h];exact Ci<|λe=>hn (by rw[h,e])
  rw[i]at d;rw[JO d];exact Es _
 by_cases g:y=0
 ·subst g;rw[CG];exact JK m l
 have p:0<y:=Rat.lt_of_le_of_ne E (λe=>g e.symm)
 rcases AF l n1 with rfl|⟨c,rfl,G⟩
 ·exact Es _
 have j:(c / y)*y=c:=Rat.div_mul_cancel g;have d:=B (.fin (c / y)) (okV23' m (by
  refine Rat.le_of_mul_le_mul_right (c:=y) ?_ p;rw[j,Rat.zero_mul];exact G)) λn=>by
  have d:=D n
  rcases AF (C n) n1 with h|⟨t,h,_⟩
  ·rw[h,BH g]at d;exact d.elim
  rw[h,Bv]at d;rw[h];have i:t*y<=c:=d;show t<=c / y;exact Rat.le_of_mul_le_mul_right (by rw[j];exact i) p
 rcases AF o n1 with rfl|⟨s,rfl,_⟩
 ·exact d.elim
 rw[Bv];have i:s<=c / y:=d;show s*y<=c;have A:=Rat.mul_le_mul_of_nonneg_right i E;rw[j]at A;exact A
theorem Xn{G:Nat->V}(m:G 1=minV (.fin 0) (Ai 1 a (G 0)))(o:∀n,G (n+1)=minV (.fin 0) (Ai 1 a (G n)))(h:∀n,leV u (G n)):leV u (AA 1 a):=by
 have i:leV (G 1) (.fin 0):=by rw[m];exact JN _ _
 have gs:∀n,leV (G (n+1)) (Ai 1 a (G n)):=λn=>by rw[o];exact MR _ _
 have A:AA 1 a=if 0<=cmpV a (.fin 0) then .fin 0 else .low:=rfl
 rw[A]
 split
 ·exact Bu (h 1) i
 rename_i p;have g:leV a (.fin 0):=(Cz _ _).1 (by omega);cases a with
 |inf=>exact g.elim
 |low =>
  have k:leV (G 2) (Ai 1 .low (.fin 0)):=Bu (gs 1) (Lb _ i);rw[times1]at k;exact Bu (h 2) k
 |fin r =>
  have z:r<=0:=g;have j:r≠0:=by intro e;subst e;exact p (by decide +kernel)
  have C:r<0:=Rat.lt_of_le_of_ne z j;have hb:∀n:Nat,leV (G (n+1)) (.fin ((n:Rat)*r)):=by
   intro n
   induction n with
   |zero=>rw[show ((0:Nat):Rat)*r=0 by rw[show ((0:Nat):Rat)=0 from rfl];grind];exact i
   |succ n ih =>
    have l:=Bu (gs (n+1)) (Lb (.fin r) ih);rw[times1]at l;have e:((n+1:Nat):Rat)*r=r+(n:Rat)*r:=by
     rw[Rat.natCast_add,show ((1:Nat):Rat)=1 from rfl];grind
    rw[e];exact l
  cases u with
  |low=>exact JL _
  |inf=>have:=Bu (h 1) (hb 0);exact this.elim
  |fin c =>
   exfalso
   obtain⟨n,s⟩:=arch (d:=-r) (by grind) (-c);have B:c<=(n:Rat)*r:=Bu (h (n+1)) (hb n)
   grind
theorem Xp{G:Nat->V}(z:okV 3 a)(l:okV 3 u)(g:∀n,okV 3 (G n))(s:∀n,G (n+1)=maxV (.fin 1) (mulV a (G n)))(k:∀n,leV (G n) u):leV (AA 3 a) u:=by
 have n3:(3:Int)≠1:=by decide
 have i:∀n,leV (.fin 1) (G (n+1)):=λn=>by rw[s];exact JM _ _
 have gs:∀n,leV (mulV a (G n)) (G (n+1)):=λn=>by rw[s];exact MQ _ _
 have E:AA 3 a=if cmpV a (.fin 1)<=0 then .fin 1 else .inf:=rfl
 rw[E]
 split
 ·exact Bu (i 0) (k 1)
 rename_i B;have o1:(V.fin 1:V)=.inf\/∃q,(V.fin 1:V)=.fin q/\0<=q:=.inr ⟨1,rfl,by decide +kernel⟩
 rcases AF z n3 with rfl|⟨r,rfl,D⟩
 ·have o:=JV (u:=.inf) (.inl rfl) o1 (AF (g 1) n3) (i 0);rw[BH (by decide)]at o;exact Bu o (Bu (gs 1) (k 2))
 have A:1<r:=by
  have:¬leV (.fin r) (.fin 1):=λh=>B ((Cz _ _).2 h);exact Rat.not_le.1 this
 have hb:∀n:Nat,leV (.fin (1+(n:Rat)*(r-1))) (G (n+1)):=by
  intro n
  induction n with
  |zero=>rw[show (1:Rat)+((0:Nat):Rat)*(r-1)=1 by rw[show ((0:Nat):Rat)=0 from rfl];grind];exact i 0
  |succ n ih =>
   have j:(0:Rat)<=(n:Rat):=Rat.natCast_nonneg;have m:(0:Rat)<=(n:Rat)*(r-1):=Rat.mul_nonneg j (by grind);have p:=JV (u:=.fin r) (v:=.fin (1+(n:Rat)*(r-1))) (.inr ⟨r,rfl,D⟩) (.inr ⟨_,rfl,by grind⟩) (AF (g (n+1)) n3) ih;rw[Bv]at p;refine Bu ?_ (Bu p (gs (n+1)));show 1+((n+1:Nat):Rat)*(r-1)<=r*(1+(n:Rat)*(r-1));rw[Rat.natCast_add,show ((1:Nat):Rat)=1 from rfl];have H:0<=(r-1)*((n:Rat)*(r-1)):=Rat.mul_nonneg (by grind) m
   grind
 rcases AF l n3 with rfl|⟨c,rfl,_⟩
 ·exact trivial
 exfalso
 obtain⟨n,C⟩:=arch (d:=r-1) (by grind) c;have F:1+(n:Rat)*(r-1)<=c:=Bu (hb n) (k (n+1))
 grind
theorem Xo{G:Nat->V}(F:okV 2 a)(z:okV 2 u)(B:G 0=.fin 0)(l:∀n,G (n+1)=addV (.fin 1) (mulV a (G n)))(D:∀n,leV (G n) u):leV (AA 2 a) u:=by
 have n2:(2:Int)≠1:=by decide
 rcases AF F n2 with rfl|⟨r,rfl,K⟩
 ·have g:G 1=.fin (1+0):=by rw[l,B,CG];rfl
  have E:G 2=.inf:=by rw[l,g,BH (by decide +kernel)];rfl
  have C:=D 2;rw[E]at C;rw[JO C];exact Es _
 have m:∃P:Nat->Rat,P 0=0/\(∀n,P (n+1)=1+r*P n)/\∀n,G n=.fin (P n):=by
  refine⟨λn=>Nat.rec 0 (λ_ p=>1+r*p) n,rfl,λn=>rfl,λn=>?_⟩
  induction n with
  |zero=>exact B
  |succ n ih=>rw[l,ih,Bv];rfl
 obtain⟨P,L,A,m⟩:=m;have N:∀n,0<=P n:=λn=>by
  induction n with
  |zero=>rw[L];exact Rat.le_refl
  |succ n ih=>rw[A];have:=Rat.mul_nonneg K ih;grind
 have e:AA 2 (.fin r)=if 0<=cmpQ r 1 then .inf else .fin (1 / (1-r)):=rfl
 rw[e]
 rcases AF z n2 with rfl|⟨c,rfl,H⟩
 ·exact Es _
 have i:∀n,P n<=c:=λn=>by have:=D n;rw[m]at this;exact this
 split
 ·rename_i j
  exfalso
  have s:1<=r:=by
   rcases BJ r 1 with⟨g,h⟩|⟨g,h⟩|⟨g,h⟩
   ·rw[h]at j;exact absurd j (by decide)
   ·rw[g];exact Rat.le_refl
   exact Rat.le_of_lt g
  obtain⟨n,J⟩:=climb (P:=P) (d:=1) (by decide +kernel) (λn=>by
   rw[A];have g:=Rat.mul_le_mul_of_nonneg_right s (N n)
   grind) c
  have:=i n
  grind
 rename_i j;have o:r<1:=by
  rcases BJ r 1 with⟨g,h⟩|⟨g,h⟩|⟨g,h⟩
  ·exact g
  ·rw[h]at j;exact absurd (by decide) j
  rw[h]at j;exact absurd (by decide) j
 have hd:0<1-r:=(Rat.lt_iff_sub_pos r 1).1 o;have I:1-r≠0:=Rat.ne_of_gt hd;show 1 / (1-r)<=c;refine Rat.not_lt.1 λk=>?_;have O:c*(1-r)<1:=(Rat.lt_div_iff hd).1 k;obtain⟨n,J⟩:=climb (P:=P) (d:=1-c*(1-r)) (by grind) (λn=>by
  rw[A];have g:=Rat.mul_le_mul_of_nonneg_right (i n) (Rat.le_of_lt hd)
  grind) c
 have:=i n
 grind
theorem Gb{j:Int}(a:RK k)(h:k.1=j):okV j a.1:=h ▸ a.2
instance csc {k:KK}:CSC (RK k) where
 lub_add S s b h u hu:=by
  rcases k.2 with hk|hk|hk
  ·rw[RK.le1 hk];have e:∀x y:RK k,(x+y).1=minV x.1 y.1:=λx y=>(congrArg (λz=>Av z x.1 y.1) hk).trans (Dd _ _);rw[e];refine TZ ((RK.le1 hk).1 (h.2 u λn=>(RK.le1 hk).2 ?_)) ?_
   ·have:=(RK.le1 hk).1 (hu n);rw[e]at this;exact Bu this (JN _ _)
   ·have:=(RK.le1 hk).1 (hu 0);rw[e]at this;exact Bu this (MR _ _)
  ·have hk':k.1=2\/k.1=3:=.inl hk;rw[RK.le23 hk'];have e:∀x y:RK k,(x+y).1=addV x.1 y.1:=λx y=>(congrArg (λz=>Av z x.1 y.1) hk).trans (BY _ _);rw[e];have hu':=λn=>(RK.le23 hk').1 (hu n);have o:∀x:RK k,x.1=.inf\/∃q,x.1=.fin q/\0<=q:=λx=>AF x.2 (by omega)
   rcases o u with h1|⟨c,h1,hc⟩
   ·rw[h1];exact Es _
   have hb:∃y,b.1=.fin y/\y<=c:=by
    have h2:=hu' 0;rw[e,h1]at h2
    rcases o b with h3|⟨y,h3,hy⟩
    ·rw[h3]at h2;cases hS:(S 0).1<;>rw[hS]at h2<;>exact h2.elim
    ·rw[h3]at h2
     rcases o (S 0) with h4|⟨t,h4,ht⟩
     ·rw[h4]at h2;exact h2.elim
     ·rw[h4]at h2;have h5:t+y<=c:=h2;exact⟨y,h3,by grind⟩
   obtain⟨y,hy,hyc⟩:=hb;have hs:=(RK.le23 hk').1 (h.2 ⟨.fin (c-y),okV23' hk' (by grind)⟩ λn=>(RK.le23 hk').2 (by
    have h2:=hu' n;rw[e,h1,hy]at h2
    rcases o (S n) with h4|⟨t,h4,ht⟩
    ·rw[h4]at h2;exact h2.elim
    ·rw[h4]at h2 ⊢;have h5:t+y<=c:=h2;show t<=c-y
     grind))
   rw[h1,hy]
   rcases o s with h4|⟨t,h4,ht⟩
   ·rw[h4]at hs;exact hs.elim
   ·rw[h4]at hs ⊢;have h5:t<=c-y:=hs;show t+y<=c
    grind
  ·have hk':k.1=2\/k.1=3:=.inr hk;rw[RK.le23 hk'];have e:∀x y:RK k,(x+y).1=maxV x.1 y.1:=λx y=>(congrArg (λz=>Av z x.1 y.1) hk).trans (De _ _);rw[e];refine TY ((RK.le23 hk').1 (h.2 u λn=>(RK.le23 hk').2 ?_)) ?_
   ·have:=(RK.le23 hk').1 (hu n);rw[e]at this;exact Bu (JM _ _) this
   ·have:=(RK.le23 hk').1 (hu 0);rw[e]at this;exact Bu (MQ _ _) this
 lub_mul S s b h u hu:=by
  by_cases hk:k.1=1
  ·rw[RK.le1 hk];have e:∀x y:RK k,(x*y).1=Ai 1 x.1 y.1:=λx y=>congrArg (λz=>Ai z x.1 y.1) hk;rw[e];refine UH (T:=λn=>(S n).1) (λv hv=>?_) λn=>?_
   ·have hv':okV k.1 v:=by rw[hk];exact okV1 v
    exact(RK.le1 hk).1 (h.2 ⟨v,hv'⟩ λn=>(RK.le1 hk).2 (hv n))
   ·have:=(RK.le1 hk).1 (hu n);rw[e]at this;exact this
  ·have hk':k.1=2\/k.1=3:=by have:=k.2;omega
   rw[RK.le23 hk'];have e:∀x y:RK k,(x*y).1=mulV x.1 y.1:=λx y=>times23 hk (AB x.2 hk) (AB y.2 hk);rw[e];refine UI hk' (T:=λn=>(S n).1) (λn=>(S n).2) s.2 b.2 u.2 (λv hv h2=>?_) λn=>?_
   ·exact(RK.le23 hk').1 (h.2 ⟨v,hv⟩ λn=>(RK.le23 hk').2 (h2 n))
   ·have:=(RK.le23 hk').1 (hu n);rw[e]at this;exact this
 lub_star a u hu:=by
  rcases k.2 with hk|hk|hk
  ·rw[RK.le1 hk];have hst:(CSR.star a).1=AA 1 a.1:=congrArg (λz=>AA z a.1) hk;have hg:∀n,(CSR.geo a (n+1)).1=minV (.fin 0) (Ai 1 a.1 (CSR.geo a n).1):=λn=>by
    have h1:(CSR.geo a (n+1)).1=Av k.1 (oneV k.1) (Ai k.1 a.1 (CSR.geo a n).1):=rfl;exact h1.trans<|(congrArg (λz=>Av z (oneV z) (Ai z a.1 (CSR.geo a n).1)) hk).trans (Dd _ _)
   rw[hst];exact Xn (G:=λn=>(CSR.geo a n).1) (hg 0) hg λn=>(RK.le1 hk).1 (hu n)
  ·have hk':k.1=2\/k.1=3:=.inl hk;rw[RK.le23 hk'];have hst:(CSR.star a).1=AA 2 a.1:=congrArg (λz=>AA z a.1) hk;have hg:∀n,(CSR.geo a (n+1)).1=addV (.fin 1) (mulV a.1 (CSR.geo a n).1):=λn=>by
    have h1:(CSR.geo a (n+1)).1=Av k.1 (oneV k.1) (Ai k.1 a.1 (CSR.geo a n).1):=rfl;rw[h1,times23 (by omega) (AB a.2 (by omega)) (AB (CSR.geo a n).2 (by omega))];exact(congrArg (λz=>Av z (oneV z) (mulV a.1 (CSR.geo a n).1)) hk).trans (BY _ _)
   have h0:(CSR.geo a 0).1=.fin 0:=by
    show zeroV k.1=_;unfold zeroV;rw[ifn (by omega)]
   rw[hst];have ha:okV 2 a.1:=Gb a hk;have hu2:okV 2 u.1:=Gb u hk;exact Xo (G:=λn=>(CSR.geo a n).1) ha hu2 h0 hg λn=>(RK.le23 hk').1 (hu n)
  ·have hk':k.1=2\/k.1=3:=.inr hk;rw[RK.le23 hk'];have hst:(CSR.star a).1=AA 3 a.1:=congrArg (λz=>AA z a.1) hk;have hg:∀n,(CSR.geo a (n+1)).1=maxV (.fin 1) (mulV a.1 (CSR.geo a n).1):=λn=>by
    have h1:(CSR.geo a (n+1)).1=Av k.1 (oneV k.1) (Ai k.1 a.1 (CSR.geo a n).1):=rfl;rw[h1,times23 (by omega) (AB a.2 (by omega)) (AB (CSR.geo a n).2 (by omega))];exact(congrArg (λz=>Av z (oneV z) (mulV a.1 (CSR.geo a n).1)) hk).trans (De _ _)
   rw[hst];have ha:okV 3 a.1:=Gb a hk;have hu2:okV 3 u.1:=Gb u hk;exact Xp (G:=λn=>(CSR.geo a n).1) ha hu2 (λn=>Gb (CSR.geo a n) hk) hg λn=>(RK.le23 hk').1 (hu n)
end
section
variable{k q:Nat}{s:Int}{t x:List Int}
structure RM(R:Type)where
 n:Nat
 start:Nat
 lead:R
 fin:Nat->R
 na:Nat->Nat
 ain:Nat->Nat->Int
 aout:Nat->Nat->Int
 aw:Nat->Nat->R
 ato:Nat->Nat->Nat
def red(s:Int)(x:List Int):Option (List Int):=if s=0 then some x else match x with
 | []=>none
 |a::t=>if a=s then some t else none
theorem Ew(x:List Int):red 0 x=some x:=ifp rfl
theorem Kx(h:s≠0):red s []=none:=by unfold red;rw[ifn h]
theorem Fq(h:s≠0)(t:List Int):red s (s::t)=some t:=by unfold red;rw[ifn h];simp
theorem Kw{a:Int}(h:s≠0)(c:a≠s)(t:List Int):red s (a::t)=none:=by unfold red;rw[ifn h];simp[c]
theorem Ox(h:red s x=some t):(s=0/\t=x)\/(s≠0/\x=s::t):=by
 unfold red at h;by_cases e:s=0
 ·rw[ifp e]at h;left;exact⟨e,by cases h;rfl⟩
 rw[ifn e]at h
 right
 cases x with
 |nil=>cases h
 |cons a x' =>
  by_cases c:a=s
  ·simp[c]at h;exact⟨e,by rw[c,h]⟩
  simp[c]at h
theorem Ig(h:red s x=some t):t.length<=x.length/\(s≠0->t.length<x.length):=by
 rcases Ox h with⟨c,rfl⟩|⟨c,rfl⟩
 ·exact⟨nlr,λh=>absurd c h⟩
 simp
open CSR
section
variable{R:Type}[CSR R]
def arcT(A:RM R)(f:Nat->List Int->List Int->R)(q k:Nat)(x y:List Int):R :=
 match red (A.ain q k) x,red (A.aout q k) y with
 |some x',some y'=>A.aw q k*f (A.ato q k) x' y'
 |_,_=>zero
def endT(A:RM R)(q:Nat)(x y:List Int):R:=if x=[]/\y=[] then A.fin q else zero
def unr(A:RM R):Nat->Nat->List Int->List Int->R
 |0,_,_,_=>zero
 |N+1,q,x,y=>endT A q x y+sum (λk=>arcT A (unr A N) q k x y) (A.na q)
theorem GN{A:RM R}{f g:Nat->List Int->List Int->R}(h:∀x y,le (f (A.ato q k) x y) (g (A.ato q k) x y))(x y:List Int):le (arcT A f q k x y) (arcT A g q k x y):=by
 unfold arcT
 split
 ·exact le_times _ (h _ _)
 exact le_refl _
theorem Dv(A:RM R):∀N q x y,le (unr A N q x y) (unr A (N+1) q x y)
 |0,_,_,_=>zero_le _
 |N+1,q,x,y=>le_plus (le_refl _) (sum_le λk _=>GN (λx y=>Dv A N _ x y) x y)
theorem Yl(A:RM R)(q:Nat)(x y:List Int):Mono (λN=>unr A N q x y):=λN=>Dv A N q x y
def Inn(A:RM R):Prop:=∀q k,q<A.n->k<A.na q->A.ato q k<A.n
def sil(A:RM R)(q p:Nat):R:=sum (λk=>if A.ain q k=0/\A.aout q k=0/\A.ato q k=p then A.aw q k else zero) (A.na q)
def nsT(A:RM R)(f:Nat->List Int->List Int->R)(q k:Nat)(x y:List Int):R:=if A.ain q k=0/\A.aout q k=0 then zero else arcT A f q k x y
theorem KY(f:Nat->R)(t:Nat->Nat)(g:Nat->R)(c:Nat->Bool)(n:Nat):∀m,(∀k,k<m->t k<n) ->
  sum (λk=>if c k=true then f k*g (t k) else zero) m=sum (λp=>sum (λk=>if c k=true/\t k=p then f k else zero) m*g p) n
 |0,_=>by
  show zero=sum (λp=>zero*g p) n;rw[sum_congr (g:=λ_=>zero) (λp _=>zm _),sum_zero]
 |m+1,h=>by
  show sum _ m+_=sum (λp=>(sum _ m+_)*g p) n;rw[KY f t g c n m (λk hk=>h k (by omega))];rw[sum_congr (f:=λp=>(sum (λk=>if c k=true/\t k=p then f k else zero) m+if c m=true/\t m=p then f m else zero)*g p) (g:=λp=>sum (λk=>if c k=true/\t k=p then f k else zero) m*g p+(if c m=true/\t m=p then f m else zero)*g p) (λp _=>dM ..),sum_add]
  congr 1
  show (if c m=true then f m*g (t m) else zero)=_
  by_cases hc:c m=true
  ·rw[ifp hc,sum_single _ (h m (by omega)) (λp _ hp=>by rw[ifn (λe=>hp e.2.symm),zm]),ifp ⟨hc,rfl⟩]
  rw[ifn hc,sum_congr (g:=λ_=>zero) (λp _=>by rw[ifn (λe=>hc e.1),zm]),sum_zero]
theorem QZ{A:RM R}(d:Inn A)(f:Nat->List Int->List Int->R)(i:q<A.n)(x y:List Int):
  sum (λk=>arcT A f q k x y) (A.na q)=sum (λk=>nsT A f q k x y) (A.na q)+sum (λp=>sil A q p*f p x y) A.n:=by
 have h:=KY (λk=>A.aw q k) (λk=>A.ato q k) (λp=>f p x y) (λk=>decide (A.ain q k=0/\A.aout q k=0)) A.n (A.na q) (λk g=>d q k i g);have e:sum (λp=>sil A q p*f p x y) A.n=sum (λk=>if decide (A.ain q k=0/\A.aout q k=0)=true then A.aw q k*f (A.ato q k) x y else zero) (A.na q):=by
  rw[h];refine sum_congr λp _=>?_
  congr 1
  exact sum_congr λk _=>by simp only[decide_eq_true_eq,and_assoc]
 rw[e,<-sum_add];refine sum_congr λk _=>?_;unfold nsT;by_cases c:A.ain q k=0/\A.aout q k=0
 ·rw[ifp c,ifp (by simp[c]),z0];unfold arcT;rw[c.1,c.2,Ew,Ew]
 rw[ifn c,ifn (by simpa using c),a0]
def vlF(A:RM R):Nat->Nat->List Int->List Int->R
 |0,_,_,_=>zero
 |m+1,q,x,y=>sol (sil A) A.n (λp=>endT A p x y+sum (λk=>nsT A (vlF A m) p k x y) (A.na p)) q
def vl(A:RM R)(q:Nat)(x y:List Int):R:=vlF A (x.length+y.length+1) q x y
theorem PX{A:RM R}(hA:Inn A)(x y:List Int):∀N q,q<A.n->unr A N q x y=rnd (sil A) A.n (λN p=>endT A p x y+sum (λk=>nsT A (unr A N) p k x y) (A.na p)) N q
 |0,_,_=>rfl
 |N+1,q,hq=>by
  show endT A q x y+sum (λk=>arcT A (unr A N) q k x y) (A.na q)=_;rw[QZ hA (unr A N) hq,<-aA];show _=_+sum (λk=>sil A q k*rnd (sil A) A.n _ N k) A.n
  congr 1
  exact sum_congr λp hp=>by rw[PX hA x y N p hp]
theorem UR{A:RM R}{f g:Nat->List Int->List Int->R}(h:∀x y,le (f (A.ato q k) x y) (g (A.ato q k) x y))(x y:List Int):le (nsT A f q k x y) (nsT A g q k x y):=by
 unfold nsT;split
 ·exact le_refl _
 exact GN h x y
variable[CSC R]
theorem Lm{A:RM R}(hA:Inn A):∀m x y,x.length+y.length<m->∀q,q<A.n->Lub (λN=>unr A N q x y) (vlF A m q x y)
 |0,_,_,h=>absurd h (by omega)
 |m+1,x,y,h=>λq hq=>by
  have hns:∀p k,p<A.n->k<A.na p->Lub (λN=>nsT A (unr A N) p k x y) (nsT A (vlF A m) p k x y):=by
   intro p k hp hk;unfold nsT;by_cases hc:A.ain p k=0/\A.aout p k=0
   ·simp only[ifp hc];exact Lub.const _
   simp only[ifn hc];unfold arcT;cases h1:red (A.ain p k) x with
   |none=>exact Lub.const _
   |some x' =>
    cases h2:red (A.aout p k) y with
    |none=>exact Lub.const _
    |some y' =>
     refine(Lm hA m x' y' ?_ _ (hA p k hp hk)).mulL _;have l1:=Ig h1;have l2:=Ig h2;by_cases e1:A.ain p k=0
     ·have:=l2.2<|λe2=>hc ⟨e1,e2⟩;omega
     have:=l1.2 e1;omega
  have hmo:∀p k,Mono (λN=>nsT A (unr A N) p k x y):=λp k N=>UR (λx y=>Dv A N _ x y) x y;refine(rnd_lub (sil A) A.n (r:=λN p=>endT A p x y+sum (λk=>nsT A (unr A N) p k x y) (A.na p)) (λp hp=>(Mono.const _).add (Mono.sum λk _=>hmo p k)) (λp hp=>(Lub.const _).add (Lub.sum (λk hk=>hns p k hp hk) λk _=>hmo p k) (Mono.const _) (Mono.sum λk _=>hmo p k)) hq).congr λN=>?_;exact(PX hA x y N q hq).symm
theorem Qi{A:RM R}(c:Inn A)(d:q<A.n)(x y:List Int):Lub (λN=>unr A N q x y) (vl A q x y):=Lm c _ x y (by omega) q d
theorem Yw{A:RM R}(c:Inn A){m:Nat}(d:q<A.n){y:List Int}(h:x.length+y.length<m):vlF A m q x y=vl A q x y:=(Lm c m x y h q d).eq (Qi c d x y)
def dT(A:RM R)(p:Nat)(x y:List Int):R:=endT A p x y+sum (λk=>nsT A (vl A) p k x y) (A.na p)
theorem Yx{A:RM R}(g:Inn A)(z:q<A.n)(x y:List Int):vl A q x y=sol (sil A) A.n (λp=>dT A p x y) q:=by
 show sum (λj=>starM (sil A) A.n q j*_) A.n=sum (λj=>starM (sil A) A.n q j*_) A.n;refine sum_congr λp o=>?_
 congr 1
 show endT A p x y+_=endT A p x y+_
 congr 1
 refine sum_congr λk m=>?_;unfold nsT;by_cases c:A.ain p k=0/\A.aout p k=0
 ·rw[ifp c,ifp c]
 rw[ifn c,ifn c];unfold arcT;cases i:red (A.ain p k) x with
 |none=>rfl
 |some x' =>
  cases l:red (A.aout p k) y with
  |none=>rfl
  |some y' =>
   show _*vlF A _ _ x' y'=_*vl A _ x' y';rw[Yw g (g p k o m)];have s:=Ig i;have u:=Ig l;by_cases d:A.ain p k=0
   ·have:=u.2<|λh=>c ⟨d,h⟩;omega
   have:=s.2 d;omega
def rel(A:RM R)(x y:List Int):R:=A.lead*vl A A.start x y
theorem Ii{A:RM R}(c:Inn A)(d:A.start<A.n)(x y:List Int):Lub (λN=>A.lead*unr A N A.start x y) (rel A x y):=(Qi c d x y).mulL _
end
end
section
variable{i j n:Nat}{x:Nat->Int}
def lsN(x:Nat->Int):Nat->Nat->List Int
 |0,_=>[]
 |k+1,i=>x i::lsN x k (i+1)
def ls(x:Nat->Int)(n i:Nat):List Int:=lsN x (n-i) i
theorem JS(h:n<=i):ls x n i=[]:=by unfold ls;rw[show n-i=0 by omega];rfl
theorem JR(h:i<n):ls x n i=x i::ls x n (i+1):=by
 unfold ls;rw[show n-i=(n-(i+1))+1 by omega];rfl
theorem Hp(h:i<=n):ls x n i=[]↔i=n:=by
 constructor
 ·intro e;by_cases c:i<n
  ·rw[JR c]at e;cases e
  omega
 intro e;exact JS (by omega)
theorem Kv(g:∀i,i<n->x i≠0){s:Int}(d:s≠0):red s (ls x n i)=if i<n/\s=x i then some (ls x n (i+1)) else none:=by
 by_cases h:i<n
 ·rw[JR h];by_cases e:s=x i
  ·rw[ifp ⟨h,e⟩,<-e,Fq d]
  rw[ifn (λc=>e c.2),Kw d (λc=>e c.symm)]
 rw[JS (by omega),Kx d,ifn (λc=>h c.1)]
open CSR
section
variable{R:Type}[CSR R]
theorem ite2(a b:Prop)[Decidable a][Decidable b](v z:R):(if a then if b then v else z else z)=if a/\b then v else z:=by
 by_cases h:a<;>by_cases k:b<;>simp[h,k]
def dot(n:Nat)(v c:Nat->R):R:=sum (λq=>v q*c q) n
theorem CE{v v' c c':Nat->R}(h:∀q,q<n->v q=v' q)(k:∀q,q<n->c q=c' q):dot n v c=dot n v' c':=sum_congr λq d=>by rw[h q d,k q d]
theorem Jq(n:Nat)(v u c:Nat->R):dot n (λq=>v q+u q) c=dot n v c+dot n u c:=by
 unfold dot;rw[<-sum_add];exact sum_congr λq _=>dM ..
theorem Jr(n:Nat)(v c d:Nat->R):dot n v (λq=>c q+d q)=dot n v c+dot n v d:=by
 unfold dot;rw[<-sum_add];exact sum_congr λq _=>mD ..
theorem Mx(n:Nat)(c:Nat->R):dot n (λ_=>zero) c=zero:=by
 unfold dot;rw[sum_congr (g:=λ_=>zero) (λq _=>zm _),sum_zero]
theorem My(n:Nat)(v:Nat->R):dot n v (λ_=>zero)=zero:=by
 unfold dot;rw[sum_congr (g:=λ_=>zero) (λq _=>m0 _),sum_zero]
def rst(M:Nat->Nat->R)(n:Nat)(v:Nat->R)(p:Nat):R:=sum (λq=>v q*starM M n q p) n
theorem SN(M:Nat->Nat->R)(n:Nat)(v d:Nat->R):dot n v (sol M n d)=dot n (rst M n v) d:=by
 unfold dot sol rst;rw[sum_congr (g:=λq=>sum (λp=>v q*(starM M n q p*d p)) n) (λq _=>mul_sum _ _ _),sum_comm];refine sum_congr λp _=>?_;rw[sum_mul];exact sum_congr λq _=>(mA ..).symm
def mmv(A:RM R)(i o:Int)(c:Nat->R)(q:Nat):R:=sum (λk=>if A.ain q k=i/\A.aout q k=o then A.aw q k*c (A.ato q k) else zero) (A.na q)
def stp(A:RM R)(i o:Int)(f:Nat->R)(p:Nat):R:=sum (λq=>sum (λk=>if A.ain q k=i/\A.aout q k=o/\A.ato q k=p then f q*A.aw q k else zero) (A.na q)) A.n
theorem Js{A:RM R}(d:Inn A)(i o:Int)(f c:Nat->R):dot A.n (stp A i o f) c=dot A.n f (mmv A i o c):=by
 unfold dot stp mmv;rw[sum_congr (g:=λp=>sum (λq=>f q*(sum (λk=>if A.ain q k=i/\A.aout q k=o/\A.ato q k=p then A.aw q k else zero) (A.na q)*c p)) A.n) (λp _=>?_),sum_comm]
 ·refine sum_congr λq l=>?_;rw[<-mul_sum]
  congr 1
  have h:=KY (λk=>A.aw q k) (λk=>A.ato q k) c (λk=>decide (A.ain q k=i/\A.aout q k=o)) A.n (A.na q) (λk j=>d q k l j);refine Eq.trans ?_ (h.symm.trans (sum_congr λk _=>by simp only[decide_eq_true_eq]));refine sum_congr λp _=>?_
  congr 1
  exact sum_congr λk _=>by simp only[decide_eq_true_eq,and_assoc]
 rw[sum_mul];refine sum_congr λq _=>?_;rw[<-mA,mul_sum]
 congr 1
 exact sum_congr λk _=>by
  by_cases e:A.ain q k=i/\A.aout q k=o/\A.ato q k=p
  ·rw[ifp e,ifp e]
  rw[ifn e,ifn e,m0]
variable[CSC R]
section
variable{A:RM R}{na nb:Nat}{x y:Nat->Int}(hx:∀i,i<na->x i≠0)(hy:∀j,j<nb->y j≠0)
def cAt(A:RM R)(na:Nat)(x:Nat->Int)(nb:Nat)(y:Nat->Int)(i j q:Nat):R:=vl A q (ls x na i) (ls y nb j)
def fAt(A:RM R)(na nb i j p:Nat):R:=if i=na/\j=nb then A.fin p else zero
def gAt(b:Bool)(v:R):R:=if b=true then v else zero
include hx hy
theorem Sj{p:Nat}(hi:i<=na)(u:j<=nb):dT A p (ls x na i) (ls y nb j) =
  fAt A na nb i j p+(gAt (decide (j<nb)) (mmv A 0 (y j) (cAt A na x nb y i (j+1)) p)+(gAt (decide (i<na)) (mmv A (x i) 0 (cAt A na x nb y (i+1) j) p)+gAt (decide (i<na)&&decide (j<nb)) (mmv A (x i) (y j) (cAt A na x nb y (i+1) (j+1)) p))):=by
 unfold dT;have B:endT A p (ls x na i) (ls y nb j)=fAt A na nb i j p:=by
  unfold endT fAt;by_cases e:i=na/\j=nb
  ·rw[ifp e,ifp ⟨(Hp hi).2 e.1,(Hp u).2 e.2⟩]
  rw[ifn e,ifn (λh=>e ⟨(Hp hi).1 h.1,(Hp u).1 h.2⟩)]
 rw[B]
 congr 1
 have s:∀(b:Bool) (f:Nat->R) (m:Nat),gAt b (sum f m)=sum (λk=>gAt b (f k)) m:=λb f m=>by
  unfold gAt;cases b
  ·simp only[Bool.false_eq_true,if_false];rw[sum_zero]
  simp
 unfold mmv;rw[s,s,s,<-sum_add,<-sum_add];refine sum_congr λk _=>?_;unfold nsT arcT gAt cAt;by_cases c:A.ain p k=0
 ·by_cases o0:A.aout p k=0
  ·rw[ifp ⟨c,o0⟩];have o:¬(decide (j<nb)=true/\A.ain p k=0/\A.aout p k=y j):=λh=>hy j (by simpa using h.1) (by rw[<-h.2.2,o0]);have g:¬(decide (i<na)=true/\A.ain p k=x i/\A.aout p k=0):=λh=>hx i (by simpa using h.1) (by rw[<-h.2.1,c]);have l:¬((decide (i<na)&&decide (j<nb))=true/\A.ain p k=x i/\A.aout p k=y j):=λh=>hx i (by have:=h.1;simp at this;exact this.1) (by rw[<-h.2.1,c]);rw[ite2,ifn o,ite2,ifn g,ite2,ifn l,a0,a0]
  rw[ifn (λh=>o0 h.2),c,Ew,Kv hy o0];have g:¬(decide (i<na)=true/\(0:Int)=x i/\A.aout p k=0):=λh=>o0 h.2.2;have l:¬((decide (i<na)&&decide (j<nb))=true/\(0:Int)=x i/\A.aout p k=y j):=λh=>hx i (by have:=h.1;simp at this;exact this.1) h.2.1.symm;rw[ite2,ite2,ifn g,ite2,ifn l,a0,a0];by_cases e:j<nb/\A.aout p k=y j
  ·rw[ifp e,ifp ⟨by simpa using e.1,rfl,e.2⟩]
  rw[ifn e,ifn (λh=>e ⟨by simpa using h.1,h.2.2⟩)]
 rw[ifn (λh=>c h.1),Kv hx c];have o:¬(decide (j<nb)=true/\A.ain p k=0/\A.aout p k=y j):=λh=>c h.2.1;rw[ite2,ifn o,z0];by_cases o0:A.aout p k=0
 ·rw[o0,Ew];have l:¬((decide (i<na)&&decide (j<nb))=true/\A.ain p k=x i/\(0:Int)=y j):=λh=>hy j (by have:=h.1;simp at this;exact this.2) h.2.2.symm;rw[ite2,ite2,ifn l,a0];by_cases e:i<na/\A.ain p k=x i
  ·rw[ifp e,ifp ⟨by simpa using e.1,e.2,rfl⟩]
  rw[ifn e,ifn (λh=>e ⟨by simpa using h.1,h.2.1⟩)]
 rw[Kv hy o0];have g:¬(decide (i<na)=true/\A.ain p k=x i/\A.aout p k=0):=λh=>o0 h.2.2;rw[ite2,ifn g,ite2,z0];by_cases e:i<na/\A.ain p k=x i
 ·rw[ifp e];by_cases d:j<nb/\A.aout p k=y j
  ·rw[ifp d,ifp ⟨by simp[e.1,d.1],e.2,d.2⟩]
  rw[ifn d,ifn (λh=>d ⟨by have:=h.1;simp at this;exact this.2,h.2.2⟩)]
 have z:¬((decide (i<na)&&decide (j<nb))=true/\A.ain p k=x i/\A.aout p k=y j):=λh=>e ⟨by have:=h.1;simp at this;exact this.1,h.2.1⟩;rw[ifn e,ifn z]
omit hx hy
def phi(A:RM R)(na:Nat)(x:Nat->Int)(nb:Nat)(y:Nat->Int)(i j:Nat)(row next:Nat->Nat->R):R :=
 sumFrom (λj'=>dot A.n (row j') (cAt A na x nb y i j')) j (nb+1)+gAt (decide (i<na)) (sum (λj'=>dot A.n (next j') (cAt A na x nb y (i+1) j')) (nb+1))
theorem KZ{f g:Nat->R}{m:Nat}{d:R}(c:m<n)(h:g m=f m+d)(j:∀i,i<n->i≠m->g i=f i):sum g n=sum f n+d:=by
 rw[sum_pick g c,sum_pick f c,h,sum_congr (f:=λi=>if i=m then zero else g i) (g:=λi=>if i=m then zero else f i) (λi hi=>by
  by_cases e:i=m
  ·rw[ifp e,ifp e]
  rw[ifn e,ifn e,j i hi e]),aA,aA,aC d]
structure Cell(A:RM R)(na:Nat)(x:Nat->Int)(nb:Nat)(y:Nat->Int)(i j:Nat)(f:Nat->R)(row next row' next':Nat->Nat->R):Prop where
 hf:∀p,p<A.n->f p=rst (sil A) A.n (row j) p
 r1:j<nb->∀p,p<A.n->row' (j+1) p=row (j+1) p+stp A 0 (y j) f p
 ro:∀j',j<j'->j'<=nb->j'≠j+1->∀p,p<A.n->row' j' p=row j' p
 n0:i<na->∀p,p<A.n->next' j p=next j p+stp A (x i) 0 f p
 n1:i<na->j<nb->∀p,p<A.n->next' (j+1) p=next (j+1) p+stp A (x i) (y j) f p
 no:i<na->∀j',j'<=nb->j'≠j->j'≠j+1->∀p,p<A.n->next' j' p=next j' p
include hx hy
theorem Cell.phi{A:RM R}(B:Inn A){i j:Nat}{f:Nat->R}{row next o next':Nat->Nat->R}(h:Cell A na x nb y i j f row next o next')(hi:i<=na)(I:j<=nb):
  phi A na x nb y i j row next=dot A.n f (fAt A na nb i j)+phi A na x nb y i (j+1) o next':=by
 unfold Go.Proofs.YtpldocnhbdlgfaaGreatDoor.phi;rw[sumFrom_step _ (show j<nb+1 by omega)];have F:dot A.n (row j) (cAt A na x nb y i j)=dot A.n f (fAt A na nb i j)+(gAt (decide (j<nb)) (dot A.n (stp A 0 (y j) f) (cAt A na x nb y i (j+1)))+(gAt (decide (i<na)) (dot A.n (stp A (x i) 0 f) (cAt A na x nb y (i+1) j))+gAt (decide (i<na)&&decide (j<nb)) (dot A.n (stp A (x i) (y j) f) (cAt A na x nb y (i+1) (j+1))))):=by
  rw[CE (v':=row j) (c:=cAt A na x nb y i j) (c':=sol (sil A) A.n (λp=>dT A p (ls x na i) (ls y nb j))) (λ_ _=>rfl) (λq K=>Yx B K _ _),SN];rw[CE (v':=f) (c':=λp=>fAt A na nb i j p+(gAt (decide (j<nb)) (mmv A 0 (y j) (cAt A na x nb y i (j+1)) p)+(gAt (decide (i<na)) (mmv A (x i) 0 (cAt A na x nb y (i+1) j) p)+gAt (decide (i<na)&&decide (j<nb)) (mmv A (x i) (y j) (cAt A na x nb y (i+1) (j+1)) p)))) (λp J=>(h.hf p J).symm) (λp _=>Sj hx hy hi I)];rw[Jr,Jr,Jr];have C:∀(b:Bool) (c:Nat->R),dot A.n f (λp=>gAt b (c p))=gAt b (dot A.n f c):=λb c=>by
   unfold gAt;cases b
   ·simp only[Bool.false_eq_true,if_false];exact My _ _
   simp
  rw[C,C,C,Js B,Js B,Js B]
 have G:sumFrom (λg=>dot A.n (o g) (cAt A na x nb y i g)) (j+1) (nb+1)=sumFrom (λg=>dot A.n (row g) (cAt A na x nb y i g)) (j+1) (nb+1)+gAt (decide (j<nb)) (dot A.n (stp A 0 (y j) f) (cAt A na x nb y i (j+1))):=by
  unfold sumFrom;by_cases k:j<nb
  ·unfold gAt;rw[ifp (by simpa using k)];refine KZ (show j+1<nb+1 by omega) ?_ (λz u m=>?_)
   ·rw[ifn (by omega),ifn (by omega),<-Jq];exact CE (h.r1 k) (λ_ _=>rfl)
   by_cases e:z<j+1
   ·rw[ifp e,ifp e]
   rw[ifn e,ifn e];exact CE (h.ro z (by omega) (by omega) m) (λ_ _=>rfl)
  unfold gAt;rw[ifn (by simpa using k),a0];exact sum_congr λz u=>by rw[ifp (by omega),ifp (by omega)]
 have H:gAt (decide (i<na)) (sum (λg=>dot A.n (next' g) (cAt A na x nb y (i+1) g)) (nb+1))=gAt (decide (i<na)) (sum (λg=>dot A.n (next g) (cAt A na x nb y (i+1) g)) (nb+1))+(gAt (decide (i<na)) (dot A.n (stp A (x i) 0 f) (cAt A na x nb y (i+1) j))+gAt (decide (i<na)&&decide (j<nb)) (dot A.n (stp A (x i) (y j) f) (cAt A na x nb y (i+1) (j+1)))):=by
  by_cases l:i<na
  ·have D:sum (λg=>dot A.n (next' g) (cAt A na x nb y (i+1) g)) (nb+1)=sum (λg=>if g=j+1 then dot A.n (next g) (cAt A na x nb y (i+1) g) else dot A.n (next' g) (cAt A na x nb y (i+1) g)) (nb+1)+gAt (decide (j<nb)) (dot A.n (stp A (x i) (y j) f) (cAt A na x nb y (i+1) (j+1))):=by
    by_cases k:j<nb
    ·unfold gAt;rw[ifp (by simpa using k)];refine KZ (show j+1<nb+1 by omega) ?_ (λz u m=>by rw[ifn m]);rw[ifp rfl,<-Jq];exact CE (h.n1 l k) (λ_ _=>rfl)
    unfold gAt;rw[ifn (by simpa using k),a0];exact sum_congr λz u=>by rw[ifn (by omega)]
   have E:sum (λg=>if g=j+1 then dot A.n (next g) (cAt A na x nb y (i+1) g) else dot A.n (next' g) (cAt A na x nb y (i+1) g)) (nb+1)=sum (λg=>dot A.n (next g) (cAt A na x nb y (i+1) g)) (nb+1)+dot A.n (stp A (x i) 0 f) (cAt A na x nb y (i+1) j):=by
    refine KZ (show j<nb+1 by omega) ?_ (λz u m=>?_)
    ·rw[ifn (by omega),<-Jq];exact CE (h.n0 l) (λ_ _=>rfl)
    by_cases e:z=j+1
    ·rw[ifp e]
    rw[ifn e];exact CE (h.no l z (by omega) m e) (λ_ _=>rfl)
   unfold gAt at D ⊢;rw[decide_eq_true l,Bool.true_and,ifp rfl,ifp rfl,ifp rfl,D,E,aA]
  unfold gAt;rw[decide_eq_false l];simp[a0]
 rw[F,G,H];generalize dot A.n f (fAt A na nb i j)=a;generalize gAt (decide (j<nb)) (dot A.n (stp A 0 (y j) f) (cAt A na x nb y i (j+1)))=b;generalize gAt (decide (i<na)) (dot A.n (stp A (x i) 0 f) (cAt A na x nb y (i+1) j))=c;generalize gAt (decide (i<na)&&decide (j<nb)) (dot A.n (stp A (x i) (y j) f) (cAt A na x nb y (i+1) (j+1)))=d;generalize sumFrom (λg=>dot A.n (row g) (cAt A na x nb y i g)) (j+1) (nb+1)=s;generalize gAt (decide (i<na)) (sum (λg=>dot A.n (next g) (cAt A na x nb y (i+1) g)) (nb+1))=t;rw[aA,aA,aA]
 congr 1
 generalize c+d=e;rw[aL e s t,aL b s,aA s b]
 congr 1
 rw[aC e t]
omit hx hy
theorem Vs{A:RM R}(B:Inn A)(k:A.start<A.n){row next:Nat->Nat->R}(i:∀p,p<A.n->row 0 p=if p=A.start then A.lead else zero)(z:∀j,0<j->j<=nb->∀p,p<A.n->row j p=zero)(hn:∀j,j<=nb->∀p,p<A.n->next j p=zero):
  phi A na x nb y 0 0 row next=rel A (ls x na 0) (ls y nb 0):=by
 unfold phi;have l:∀(v c:Nat->R),(∀p,p<A.n->v p=zero)->dot A.n v c=zero:=λv c h=>by rw[CE (v':=λ_=>zero) (c':=c) h (λ_ _=>rfl),Mx]
 have o:sum (λm=>dot A.n (next m) (cAt A na x nb y (0+1) m)) (nb+1)=zero:=by
  rw[sum_congr (g:=λ_=>zero) (λj s=>l _ _ (hn j (by omega))),sum_zero]
 rw[o,show gAt (decide (0<na)) (zero:R)=zero by unfold gAt;split<;>rfl,a0,sumFrom_zero,sum_single _ (show 0<nb+1 by omega) (λj s d=>l _ _ (z j (by omega) (by omega)))]
 unfold dot rel;rw[sum_single _ k (λp u d=>by rw[i p u,ifn d,zm]),i _ k,ifp rfl];rfl
theorem Vr{A:RM R}{row next:Nat->Nat->R}(hi:i<na){next':Nat->Nat->R}(hn:∀j,j<=nb->∀p,p<A.n->next' j p=zero):
  phi A na x nb y i (nb+1) row next=phi A na x nb y (i+1) 0 next next':=by
 unfold phi;rw[sumFrom_end,z0,sumFrom_zero];have d:sum (λc=>dot A.n (next' c) (cAt A na x nb y (i+1+1) c)) (nb+1)=zero:=by
  rw[sum_congr (g:=λ_=>zero) (λj h=>by rw[CE (v':=λ_=>zero) (c':=_) (hn j (by omega)) (λ_ _=>rfl),Mx]),sum_zero]
 rw[d,show gAt (decide (i+1<na)) (zero:R)=zero by unfold gAt;split<;>rfl,a0]
 unfold gAt;rw[ifp (by simpa using hi)]
theorem Vq{A:RM R}{row next:Nat->Nat->R}:phi A na x nb y na (nb+1) row next=zero:=by
 unfold phi gAt;rw[sumFrom_end,z0];simp
theorem SK{A:RM R}(f:Nat->R)(h:¬(i=na/\j=nb)):dot A.n f (fAt A na nb i j)=zero:=by
 rw[CE (v':=f) (c':=λ_=>zero) (λ_ _=>rfl) (λp _=>by unfold fAt;rw[ifn h]),My]
theorem SL{A:RM R}(f:Nat->R):dot A.n f (fAt A na nb na nb)=dot A.n f A.fin:=CE (λ_ _=>rfl) (λp _=>by unfold fAt;rw[ifp ⟨rfl,rfl⟩])
end
end
end
section
theorem Ow{s:Int}(h:s≠0){x u:List Int}:red s x=some u↔x=s::u :=
 ⟨λe=>by rcases Ox e with⟨c,_⟩|⟨_,c⟩;exact absurd c h;exact c,λe=>by rw[e];exact Fq h u⟩
open CSR
section
variable{R:Type}[CSR R]
def evO(f:List Int->List Int->R)(o p:Option (List Int)):R:=match o,p with
 |some a,some b=>f a b
 |_,_=>zero
theorem Tj{f g:List Int->List Int->R}(h:∀a b,f a b=g a b)(o p:Option (List Int)):evO f o p=evO g o p:=by
 cases o<;>cases p<;>first|rfl|exact h _ _
theorem Tk(c:R)(f:List Int->List Int->R)(o p:Option (List Int)):evO (λa b=>c*f a b) o p=c*evO f o p:=by
 cases o<;>cases p<;>first|rfl|exact(m0 c).symm
theorem Tl(c:R)(f:List Int->List Int->R)(o p:Option (List Int)):evO (λa b=>f a b*c) o p=evO f o p*c:=by
 cases o<;>cases p<;>first|rfl|exact(zm c).symm
theorem DN(A:RM R)(f:Nat->List Int->List Int->R)(q k:Nat)(x y:List Int):arcT A f q k x y=A.aw q k*evO (f (A.ato q k)) (red (A.ain q k) x) (red (A.aout q k) y):=by
 unfold arcT evO;cases red (A.ain q k) x<;>cases red (A.aout q k) y<;>first|rfl|exact(m0 _).symm
end
end
section
open CSR
section
variable{R:Type}[CSR R]
theorem ES{f g:List Int->List Int->R}{o p:Option (List Int)}(h:∀a b,o=some a->p=some b->le (f a b) (g a b)):le (evO f o p) (evO g o p):=by
 cases o with
 |none=>exact le_refl _
 |some a=>cases p with
  |none=>exact le_refl _
  |some b=>exact h a b rfl rfl
def AccR(A:RM R):Prop:=∀q k,q<A.n->k<A.na q->A.aout q k=A.ain q k
structure CatOf(A B C:RM R)(oa ob:Nat):Prop where
 start:C.start=oa+A.start
 lead:C.lead=A.lead*B.lead
 finA:∀q,q<A.n->C.fin (oa+q)=zero
 finB:∀p,p<B.n->C.fin (ob+p)=B.fin p
 arcsA:∀q,q<A.n->∀f:Int->Int->R->Nat->R,(∀s t q,f s t zero q=zero)->sum (λk=>f (C.ain (oa+q) k) (C.aout (oa+q) k) (C.aw (oa+q) k) (C.ato (oa+q) k)) (C.na (oa+q))=sum (λk=>f (A.ain q k) (A.aout q k) (A.aw q k) (oa+A.ato q k)) (A.na q)+f 0 0 (A.fin q) (ob+B.start)
 arcsB:∀p,p<B.n->∀f:Int->Int->R->Nat->R,sum (λk=>f (C.ain (ob+p) k) (C.aout (ob+p) k) (C.aw (ob+p) k) (C.ato (ob+p) k)) (C.na (ob+p))=sum (λk=>f (B.ain p k) (B.aout p k) (B.aw p k) (ob+B.ato p k)) (B.na p)
section
variable{A B C:RM R}{oa ob:Nat}(h:CatOf A B C oa ob)(hA:Inn A)(hB:Inn B)(hs:B.start<B.n)
include h
end
variable[CSC R]
end
end
section
open CSR
variable{L L' N c:Nat}
section
variable{R:Type}[CSR R]
def ws(m:Nat):Nat->(List Int->R)->R
 |0,G=>G []
 |L+1,G=>G []+sum (λi=>ws m L (λz=>G (((i:Int)+1)::z))) m
section
variable{m:Nat}
theorem BO:∀(L:Nat) {G H:List Int->R},(∀z,G z=H z)->ws m L G=ws m L H
 |0,G,H,h=>h []
 |L+1,G,H,h=>by
  show G []+_=H []+_;rw[h [],sum_congr (λi _=>BO L (λz=>h _))]
theorem IK:∀(L:Nat) {G H:List Int->R},(∀z,le (G z) (H z))->le (ws m L G) (ws m L H)
 |0,G,H,h=>h []
 |L+1,G,H,h=>le_plus (h []) (sum_le λi _=>IK L (λz=>h _))
theorem GF:∀(L:Nat) (G H:List Int->R),ws m L (λz=>G z+H z)=ws m L G+ws m L H
 |0,_,_=>rfl
 |L+1,G,H=>by
  show G []+H []+sum _ m=(G []+sum _ m)+(H []+sum _ m);rw[sum_congr (λi _=>GF L (λz=>G (((i:Int)+1)::z)) (λz=>H (((i:Int)+1)::z))),sum_add,aA,aA,aL (H [])]
theorem GG(c:R):∀(L:Nat) (G:List Int->R),ws m L (λz=>c*G z)=c*ws m L G
 |0,_=>rfl
 |L+1,G=>by
  show c*G []+sum _ m=c*(G []+sum _ m);rw[mD,mul_sum,sum_congr (λi _=>GG c L (λz=>G (((i:Int)+1)::z)))]
theorem Di:∀(L:Nat),ws m L (λ_=>(zero:R))=zero
 |0=>rfl
 |L+1=>by
  show zero+sum _ m=zero;rw[z0,sum_congr (g:=λ_=>zero) (λi _=>Di L),sum_zero]
theorem GH(L:Nat)(G:Nat->List Int->R):∀n,ws m L (λz=>sum (λk=>G k z) n)=sum (λk=>ws m L (G k)) n
 |0=>Di L
 |n+1=>by
  show ws m L (λz=>sum (λk=>G k z) n+G n z)=_;rw[GF,GH L G n];rfl
theorem Lt(L:Nat)(c:Prop)[Decidable c](G:List Int->R):ws m L (λz=>if c then G z else zero)=if c then ws m L G else zero:=by
 by_cases h:c
 ·simp only[ifp h]
 simp only[ifn h];exact Di L
theorem Qx{G:List Int->R}(h:∀z,z≠[]->G z=zero):∀L,ws m L G=G []
 |0=>rfl
 |L+1=>by
  show G []+sum _ m=G [];rw[sum_congr (g:=λ_=>zero) (λi _=>(BO L (λz=>h _ (by simp))).trans (Di L)),sum_zero,a0]
theorem Qz:∀(L:Nat) (G:List Int->R),le (ws m L G) (ws m (L+1) G)
 |0,G=>le_add _ _
 |L+1,G=>le_plus (le_refl _) (sum_le λi _=>Qz L _)
theorem QA(h:L<=L')(G:List Int->R):le (ws m L G) (ws m L' G):=(show Mono (λL=>ws m L G) from λL=>Qz L G).to h
theorem Ls(L:Nat)(f:List Int->List Int->List Int->R)(o p:Option (List Int)):ws m L (λz=>evO (λa b=>f a b z) o p)=evO (λa b=>ws m L (f a b)) o p:=by
 cases o<;>cases p<;>first|rfl|exact Di L
end
def arcF(A:RM R)(fl:Bool)(N p k:Nat)(x z:List Int):R:=if A.aout p k=0 then (if fl=false then arcT A (unr A N) p k x z else zero) else arcT A (unr A N) p k x z
def unrF(A:RM R)(fl:Bool):Nat->Nat->List Int->List Int->R
 |0,_,_,_=>zero
 |N+1,p,x,z=>endT A p x z+sum (λk=>arcF A fl N p k x z) (A.na p)
theorem Lh(A:RM R):∀N p x z,unrF A false N p x z=unr A N p x z
 |0,_,_,_=>rfl
 |N+1,p,x,z=>by
  show endT A p x z+_=endT A p x z+_
  congr 1
  refine sum_congr λk _=>?_;unfold arcF;split<;>rfl
theorem Yj(A:RM R)(fl:Bool):∀N p x z,le (unrF A fl N p x z) (unrF A fl (N+1) p x z)
 |0,_,_,_=>zero_le _
 |N+1,p,x,z=>le_plus (le_refl _) (sum_le λk _=>by
  unfold arcF
  split
  ·split
   ·exact GN (λx y=>Dv A N _ x y) x z
   exact le_refl _
  exact GN (λx y=>Dv A N _ x y) x z)
theorem Yk(A:RM R)(fl:Bool)(p:Nat)(x z:List Int)(h:N<=c):le (unrF A fl N p x z) (unrF A fl c p x z):=(show Mono (λN=>unrF A fl N p x z) from λN=>Yj A fl N p x z).to h
theorem PW{A:RM R}{p:Nat}(h:∀k,k<A.na p->A.aout p k≠0)(fl:Bool):∀N x z,unrF A fl N p x z=unrF A true N p x z
 |0,_,_=>rfl
 |N+1,x,z=>by
  show endT A p x z+_=endT A p x z+_
  congr 1
  refine sum_congr λk hk=>?_;unfold arcF;rw[ifn (h k hk),ifn (h k hk)]
def Hs(A B:RM R)(m L:Nat)(fl:Bool)(N N' p q:Nat)(x y:List Int):R:=ws m L (λz=>unrF A fl N p x z*unr B N' q z y)
theorem GI(A B:RM R)(m:Nat)(fl:Bool){K d:Nat}(p q:Nat)(x y:List Int)(g:L<=L')(h:N<=K)(i:d<=c):le (Hs A B m L fl N d p q x y) (Hs A B m L' fl K c p q x y) :=
 le_trans (IK L (λz=>le_mul (Yk A fl p x z h) ((Yl B q z y).to i))) (QA g _)
def SAt(A:RM R)(N p:Nat)(x z:List Int):R:=sum (λk=>if A.aout p k=0 then arcT A (unr A N) p k x z else zero) (A.na p)
def TAt(A:RM R)(N p:Nat)(x z:List Int):R:=sum (λk=>if A.aout p k=0 then zero else arcT A (unr A N) p k x z) (A.na p)
def SBt(B:RM R)(N q:Nat)(z y:List Int):R:=sum (λj=>if B.ain q j=0 then arcT B (unr B N) q j z y else zero) (B.na q)
def TBt(B:RM R)(N q:Nat)(z y:List Int):R:=sum (λj=>if B.ain q j=0 then zero else arcT B (unr B N) q j z y) (B.na q)
theorem PV(A:RM R)(fl:Bool)(N p:Nat)(x z:List Int):unrF A fl (N+1) p x z=(if fl=false then SAt A N p x z else zero)+(endT A p x z+TAt A N p x z):=by
 show endT A p x z+sum (λk=>arcF A fl N p k x z) (A.na p)=_;rw[aL]
 congr 1
 unfold SAt TAt;cases fl
 ·rw[ifp rfl,<-sum_add];refine sum_congr λk _=>?_;unfold arcF;by_cases h:A.aout p k=0
  ·rw[ifp h,ifp h,ifp h,ifp rfl,a0]
  rw[ifn h,ifn h,ifn h,z0]
 rw[ifn (by simp),z0];refine sum_congr λk _=>?_;unfold arcF;by_cases h:A.aout p k=0
 ·rw[ifp h,ifp h,ifn (by simp)]
 rw[ifn h,ifn h]
theorem Yi(B:RM R)(N q:Nat)(z y:List Int):unr B (N+1) q z y=endT B q z y+(SBt B N q z y+TBt B N q z y):=by
 show endT B q z y+sum (λj=>arcT B (unr B N) q j z y) (B.na q)=_
 congr 1
 unfold SBt TBt;rw[<-sum_add];refine sum_congr λj _=>?_;by_cases h:B.ain q j=0
 ·rw[ifp h,ifp h,a0]
 rw[ifn h,ifn h,z0]
theorem Lx(A:RM R)(N p:Nat)(x:List Int):TAt A N p x []=zero:=by
 unfold TAt;rw[sum_congr (g:=λ_=>zero) (λk _=>?_),sum_zero]
 split
 ·rfl
 rename_i h;rw[DN,Kx h];cases red (A.ain p k) x<;>exact m0 _
theorem QH(B:RM R)(N q:Nat)(y:List Int):TBt B N q [] y=zero:=by
 unfold TBt;rw[sum_congr (g:=λ_=>zero) (λk _=>?_),sum_zero]
 split
 ·rfl
 rename_i h;rw[DN,Kx h];exact m0 _
theorem VK(A B:RM R)(fl:Bool)(N c p q:Nat)(x z y:List Int):unrF A fl (N+1) p x z*unr B (c+1) q z y =
  endT A p x z*endT B q z y+((if fl=false then SAt A N p x z*unr B (c+1) q z y else zero)+(unrF A true (N+1) p x z*SBt B c q z y+TAt A N p x z*TBt B c q z y)):=by
 have c1:endT A p x z*TBt B c q z y=zero:=by
  by_cases h:z=[]
  ·subst h;rw[QH,m0]
  rw[show endT A p x z=zero from ifn (λe=>h e.2),zm]
 have c2:TAt A N p x z*endT B q z y=zero:=by
  by_cases h:z=[]
  ·subst h;rw[Lx,zm]
  rw[show endT B q z y=zero from ifn (λe=>h e.1),m0]
 have d:unrF A true (N+1) p x z=endT A p x z+TAt A N p x z:=by
  rw[PV,ifn (by simp),z0]
 have g:(endT A p x z+TAt A N p x z)*unr B (c+1) q z y=endT A p x z*endT B q z y+((endT A p x z+TAt A N p x z)*SBt B c q z y+TAt A N p x z*TBt B c q z y):=by
  rw[Yi,mD,mD,dM _ _ (endT B q z y),c2,a0,dM _ _ (TBt B c q z y),c1,z0]
 rw[PV,dM,d,g,aL]
 congr 1
 split
 ·rfl
 rw[zm]
theorem Lw{A B:RM R}{m:Nat}(K:∀p k,p<A.n->k<A.na p->A.aout p k≠0->∃i:Nat,i<m/\A.aout p k=(i:Int)+1)(L:Nat)(fl:Bool)(N c p q:Nat)(P:p<A.n)(x y:List Int):
  Hs A B m (L+1) fl (N+1) (c+1) p q x y =
   (if x=[]/\y=[] then A.fin p*B.fin q else zero) +
   (sum (λk=>if A.aout p k=0 then (if fl=false then A.aw p k*evO (λa b=>Hs A B m (L+1) false N (c+1) (A.ato p k) q a b) (red (A.ain p k) x) (some y) else zero)
    else sum (λj=>if B.ain q j=A.aout p k then A.aw p k*B.aw q j*evO (λa b=>Hs A B m L false N c (A.ato p k) (B.ato q j) a b) (red (A.ain p k) x) (red (B.aout q j) y) else zero) (B.na q)) (A.na p) +
   sum (λj=>if B.ain q j=0 then B.aw q j*evO (λa b=>Hs A B m (L+1) true (N+1) c p (B.ato q j) a b) (some x) (red (B.aout q j) y) else zero) (B.na q)):=by
 have F:ws m (L+1) (λz=>endT A p x z*endT B q z y)=if x=[]/\y=[] then A.fin p*B.fin q else zero:=by
  rw[Qx (λz Q=>by rw[show endT A p x z=zero from ifn (λe=>Q e.2),zm])];unfold endT;by_cases u:x=[]
  ·by_cases C:y=[]
   ·simp[u,C]
   simp[u,C,m0]
  simp[u,zm]
 have d:ws m (L+1) (λz=>if fl=false then SAt A N p x z*unr B (c+1) q z y else zero)=sum (λk=>if A.aout p k=0 then (if fl=false then A.aw p k*evO (λa b=>Hs A B m (L+1) false N (c+1) (A.ato p k) q a b) (red (A.ain p k) x) (some y) else zero) else zero) (A.na p):=by
  rw[Lt];by_cases hf:fl=false
  ·rw[ifp hf];have l:∀z,SAt A N p x z*unr B (c+1) q z y=sum (λk=>if A.aout p k=0 then A.aw p k*evO (λa b=>unrF A false N (A.ato p k) a z*unr B (c+1) q z b) (red (A.ain p k) x) (some y) else zero) (A.na p):=λz=>by
    unfold SAt;rw[sum_mul];refine sum_congr λk _=>?_;by_cases h:A.aout p k=0
    ·rw[ifp h,ifp h,DN,h,Ew,mA,<-Tl]
     congr 1
     cases red (A.ain p k) x with
     |none=>rfl
     |some a=>show unr A N (A.ato p k) a z*_=unrF A false N (A.ato p k) a z*_;rw[Lh]
    rw[ifn h,ifn h,zm]
   rw[BO _ l,GH];refine sum_congr λk _=>?_;rw[Lt];by_cases h:A.aout p k=0
   ·rw[ifp h,ifp h,ifp hf,GG,Ls];rfl
   rw[ifn h,ifn h]
  rw[ifn hf,sum_congr (g:=λ_=>zero) (λk _=>by rw[ifn hf];split<;>rfl),sum_zero]
 have G:ws m (L+1) (λz=>unrF A true (N+1) p x z*SBt B c q z y)=sum (λj=>if B.ain q j=0 then B.aw q j*evO (λa b=>Hs A B m (L+1) true (N+1) c p (B.ato q j) a b) (some x) (red (B.aout q j) y) else zero) (B.na q):=by
  have l:∀z,unrF A true (N+1) p x z*SBt B c q z y=sum (λj=>if B.ain q j=0 then B.aw q j*evO (λa b=>unrF A true (N+1) p a z*unr B c (B.ato q j) z b) (some x) (red (B.aout q j) y) else zero) (B.na q):=λz=>by
   unfold SBt;rw[mul_sum];refine sum_congr λj _=>?_;by_cases h:B.ain q j=0
   ·rw[ifp h,ifp h,DN,h,Ew,<-mA,mC (unrF _ _ _ _ _ _),mA,<-Tk]
    congr 1
    cases red (B.aout q j) y<;>rfl
   rw[ifn h,ifn h,m0]
  rw[BO _ l,GH];refine sum_congr λj _=>?_;rw[Lt];by_cases h:B.ain q j=0
  ·rw[ifp h,ifp h,GG,Ls];rfl
  rw[ifn h,ifn h]
 have I:ws m (L+1) (λz=>TAt A N p x z*TBt B c q z y)=sum (λk=>if A.aout p k=0 then zero else sum (λj=>if B.ain q j=A.aout p k then A.aw p k*B.aw q j*evO (λa b=>Hs A B m L false N c (A.ato p k) (B.ato q j) a b) (red (A.ain p k) x) (red (B.aout q j) y) else zero) (B.na q)) (A.na p):=by
  show TAt A N p x []*TBt B c q [] y+_=_;rw[Lx,zm,z0];have l:∀i:Nat,ws m L (λz=>TAt A N p x (((i:Int)+1)::z)*TBt B c q (((i:Int)+1)::z) y) =
    sum (λk=>sum (λj=>if A.aout p k=(i:Int)+1/\B.ain q j=(i:Int)+1 then A.aw p k*B.aw q j*evO (λa b=>Hs A B m L false N c (A.ato p k) (B.ato q j) a b) (red (A.ain p k) x) (red (B.aout q j) y) else zero) (B.na q)) (A.na p):=λi=>by
   have hi:((i:Int)+1)≠0:=by omega
   have D:∀z,TAt A N p x (((i:Int)+1)::z)=sum (λk=>if A.aout p k=(i:Int)+1 then A.aw p k*evO (λa _=>unr A N (A.ato p k) a z) (red (A.ain p k) x) (some []) else zero) (A.na p):=λz=>by
    unfold TAt;refine sum_congr λk _=>?_;by_cases h:A.aout p k=0
    ·rw[ifp h,ifn (by omega)]
    rw[ifn h,DN];by_cases d:A.aout p k=(i:Int)+1
    ·rw[ifp d,d,Fq hi]
     congr 1
     cases red (A.ain p k) x<;>rfl
    rw[ifn d,Kw h (λe=>d e.symm)];cases red (A.ain p k) x<;>exact m0 _
   have E:∀z,TBt B c q (((i:Int)+1)::z) y=sum (λj=>if B.ain q j=(i:Int)+1 then B.aw q j*evO (λ_ b=>unr B c (B.ato q j) z b) (some []) (red (B.aout q j) y) else zero) (B.na q):=λz=>by
    unfold TBt;refine sum_congr λj _=>?_;by_cases h:B.ain q j=0
    ·rw[ifp h,ifn (by omega)]
    rw[ifn h,DN];by_cases d:B.ain q j=(i:Int)+1
    ·rw[ifp d,d,Fq hi]
     congr 1
     cases red (B.aout q j) y<;>rfl
    rw[ifn d,Kw h (λe=>d e.symm)];exact m0 _
   rw[BO L (λz=>by rw[D z,E z,sum_mul]),GH];refine sum_congr λk _=>?_;by_cases h:A.aout p k=(i:Int)+1
   ·simp only[ifp h];rw[BO L (λz=>mul_sum _ _ _),GH];refine sum_congr λj _=>?_;by_cases d:B.ain q j=(i:Int)+1
    ·simp only[ifp d,h,true_and,if_true];rw[BO (H:=λz=>A.aw p k*B.aw q j*evO (λa b=>unrF A false N (A.ato p k) a z*unr B c (B.ato q j) z b) (red (A.ain p k) x) (red (B.aout q j) y)) L (λz=>?_),GG,Ls]
     ·rfl
     rw[mA,mA]
     congr 1
     rw[<-mA,mC _ (B.aw q j),mA]
     congr 1
     cases red (A.ain p k) x with
     |none=>cases red (B.aout q j) y<;>exact zm _
     |some a=>cases red (B.aout q j) y with
      |none=>exact m0 _
      |some b=>show unr A N (A.ato p k) a z*unr B c (B.ato q j) z b=unrF A false N (A.ato p k) a z*unr B c (B.ato q j) z b;rw[Lh]
    simp only[ifn d];rw[ifn (λe=>d e.2),BO L (λz=>m0 _),Di]
   simp only[ifn h];rw[BO L (λz=>zm _),Di,sum_congr (g:=λ_=>zero) (λj _=>ifn (λe=>h e.1)),sum_zero]
  rw[sum_congr (λi _=>l i),sum_comm];refine sum_congr λk J=>?_;by_cases h:A.aout p k=0
  ·rw[ifp h,sum_congr (g:=λ_=>zero) (λi _=>by rw[sum_congr (g:=λ_=>zero) (λj _=>ifn (λe=>by omega)),sum_zero]),sum_zero]
  rw[ifn h];obtain⟨i0,o,s⟩:=K p k P J h;rw[sum_single _ o (λi _ O=>by rw[sum_congr (g:=λ_=>zero) (λj _=>ifn (λe=>by omega)),sum_zero])];refine sum_congr λj _=>?_;rw[s];simp only[true_and]
 unfold Hs;rw[BO _ (λz=>VK A B fl N c p q x z y),GF,GF,GF,F,d,G,I]
 congr 1
 rw[aL,aC]
 congr 1
 rw[<-sum_add];refine sum_congr λk _=>?_;by_cases h:A.aout p k=0
 ·rw[ifp h,ifp h,ifp h,a0];rfl
 rw[ifn h,ifn h,ifn h,z0];rfl
structure CmpOf(A B M:RM R)(idx:Nat->Nat->Bool->Nat)(Rch:Nat->Nat->Bool->Prop):Prop where
 lead:M.lead=A.lead*B.lead
 start:M.start=idx A.start B.start false
 rs:Rch A.start B.start false
 lt:∀p q fl,Rch p q fl->idx p q fl<M.n/\p<A.n/\q<B.n
 fin:∀p q fl,Rch p q fl->M.fin (idx p q fl)=A.fin p*B.fin q
 arcs:∀p q fl,Rch p q fl->∃fl':Bool,(fl'=true\/∀k,k<A.na p->A.aout p k≠0)/\
  (∀k,k<A.na p->A.aout p k=0->fl=false->Rch (A.ato p k) q false)/\
  (∀k j,k<A.na p->j<B.na q->A.aout p k≠0->B.ain q j=A.aout p k->Rch (A.ato p k) (B.ato q j) false)/\
  (∀j,j<B.na q->B.ain q j=0->Rch p (B.ato q j) fl')/\
  ∀F:Int->Int->R->Nat->R,sum (λk=>F (M.ain (idx p q fl) k) (M.aout (idx p q fl) k) (M.aw (idx p q fl) k) (M.ato (idx p q fl) k)) (M.na (idx p q fl)) =
   sum (λk=>if A.aout p k=0 then (if fl=false then F (A.ain p k) 0 (A.aw p k) (idx (A.ato p k) q false) else zero)
    else sum (λj=>if B.ain q j=A.aout p k then F (A.ain p k) (B.aout q j) (A.aw p k*B.aw q j) (idx (A.ato p k) (B.ato q j) false) else zero) (B.na q)) (A.na p) +
   sum (λj=>if B.ain q j=0 then F 0 (B.aout q j) (B.aw q j) (idx p (B.ato q j) fl') else zero) (B.na q)
section
variable{A B M:RM R}{idx:Nat->Nat->Bool->Nat}{Rch:Nat->Nat->Bool->Prop}(h:CmpOf A B M idx Rch){m:Nat}(hm:∀p k,p<A.n->k<A.na p->A.aout p k≠0->∃i:Nat,i<m/\A.aout p k=(i:Int)+1)
include h
theorem CmpOf.unr{p q:Nat}{fl:Bool}(c:Rch p q fl)(N:Nat)(x y:List Int):∃fl':Bool,(fl'=true\/∀k,k<A.na p->A.aout p k≠0)/\
  (∀k,k<A.na p->A.aout p k=0->fl=false->Rch (A.ato p k) q false)/\
  (∀k j,k<A.na p->j<B.na q->A.aout p k≠0->B.ain q j=A.aout p k->Rch (A.ato p k) (B.ato q j) false)/\
  (∀j,j<B.na q->B.ain q j=0->Rch p (B.ato q j) fl')/\
  Go.Proofs.YtpldocnhbdlgfaaGreatDoor.unr M (N+1) (idx p q fl) x y=(if x=[]/\y=[] then A.fin p*B.fin q else zero) +
   (sum (λk=>if A.aout p k=0 then (if fl=false then A.aw p k*evO (Go.Proofs.YtpldocnhbdlgfaaGreatDoor.unr M N (idx (A.ato p k) q false)) (red (A.ain p k) x) (some y) else zero)
    else sum (λj=>if B.ain q j=A.aout p k then A.aw p k*B.aw q j*evO (Go.Proofs.YtpldocnhbdlgfaaGreatDoor.unr M N (idx (A.ato p k) (B.ato q j) false)) (red (A.ain p k) x) (red (B.aout q j) y) else zero) (B.na q)) (A.na p) +
   sum (λj=>if B.ain q j=0 then B.aw q j*evO (Go.Proofs.YtpldocnhbdlgfaaGreatDoor.unr M N (idx p (B.ato q j) fl')) (some x) (red (B.aout q j) y) else zero) (B.na q)):=by
 obtain⟨fl',d,g,i,l,m⟩:=h.arcs p q fl c;refine⟨fl',d,g,i,l,?_⟩;show endT M (idx p q fl) x y+sum (λk=>arcT M (Go.Proofs.YtpldocnhbdlgfaaGreatDoor.unr M N) (idx p q fl) k x y) (M.na (idx p q fl))=_
 congr 1
 ·unfold endT;rw[h.fin p q fl c]
 rw[sum_congr (λk _=>DN M (Go.Proofs.YtpldocnhbdlgfaaGreatDoor.unr M N) (idx p q fl) k x y),m (λs t w r=>w*evO (Go.Proofs.YtpldocnhbdlgfaaGreatDoor.unr M N r) (red s x) (red t y))];simp only[Ew]
include hm
theorem CmpOf.upper:∀N p q fl,Rch p q fl->∀x y,le (Go.Proofs.YtpldocnhbdlgfaaGreatDoor.unr M N (idx p q fl) x y) (Hs A B m N fl N N p q x y)
 |0,_,_,_,_,_,_=>zero_le _
 |N+1,p,q,fl,hr,x,y=>by
  obtain⟨fl',h1,h2,h3,h4,h5⟩:=h.unr hr N x y;rw[h5,Lw hm N fl N N p q (h.lt p q fl hr).2.1 x y];refine le_plus (le_refl _) (le_plus (sum_le λk hk=>?_) (sum_le λj hj=>?_))
  ·by_cases e:A.aout p k=0
   ·rw[ifp e,ifp e];by_cases e2:fl=false
    ·rw[ifp e2,ifp e2];refine le_times _ (ES λa b _ _=>?_);exact le_trans (CmpOf.upper N _ _ _ (h2 k hk e e2) a b) (GI A B m false _ _ a b (by omega) (by omega) (by omega))
    rw[ifn e2,ifn e2];exact le_refl _
   rw[ifn e,ifn e];refine sum_le λj hj=>?_;by_cases e2:B.ain q j=A.aout p k
   ·rw[ifp e2,ifp e2];refine le_times _ (ES λa b _ _=>?_);exact CmpOf.upper N _ _ _ (h3 k j hk hj e e2) a b
   rw[ifn e2,ifn e2];exact le_refl _
  by_cases e:B.ain q j=0
  ·rw[ifp e,ifp e];refine le_times _ (ES λa b _ _=>?_);have h6:=le_trans (CmpOf.upper N _ _ _ (h4 j hj e) a b) (GI A B m fl' (K:=N+1) _ _ a b (show N<=N+1 by omega) (show N<=N+1 by omega) (Nat.le_refl N));have h7:Hs A B m (N+1) fl' (N+1) N p (B.ato q j) a b=Hs A B m (N+1) true (N+1) N p (B.ato q j) a b:=by
    rcases h1 with e2|e2
    ·rw[e2]
    unfold Hs;exact BO _ (λz=>by rw[PW e2 fl'])
   rw[h7]at h6;exact h6
  rw[ifn e,ifn e];exact le_refl _
theorem CmpOf.lower:∀T N N' L p q fl,N+N'=T->Rch p q fl->∀x y,le (Hs A B m L fl N N' p q x y) (Go.Proofs.YtpldocnhbdlgfaaGreatDoor.unr M T (idx p q fl) x y)
 |T,0,N',L,p,q,fl,_,_,x,y=>by
  have e:Hs A B m L fl 0 N' p q x y=zero:=(BO L (λz=>zm _)).trans (Di L);rw[e];exact zero_le _
 |T,N+1,0,L,p,q,fl,_,_,x,y=>by
  have e:Hs A B m L fl (N+1) 0 p q x y=zero:=(BO L (λz=>m0 _)).trans (Di L);rw[e];exact zero_le _
 |0,N+1,N'+1,L,p,q,fl,hT,_,x,y=>absurd hT (by omega)
 |T+1,N+1,N'+1,L,p,q,fl,hT,hr,x,y=>by
  obtain⟨fl',h1,h2,h3,h4,h5⟩:=h.unr hr T x y;refine le_trans (GI A B m fl p q x y (Nat.le_succ L) nlr nlr) ?_;rw[h5,Lw hm L fl N N' p q (h.lt p q fl hr).2.1 x y];refine le_plus (le_refl _) (le_plus (sum_le λk hk=>?_) (sum_le λj hj=>?_))
  ·by_cases e:A.aout p k=0
   ·rw[ifp e,ifp e];by_cases e2:fl=false
    ·rw[ifp e2,ifp e2];refine le_times _ (ES λa b _ _=>?_);exact CmpOf.lower T N (N'+1) (L+1) _ _ _ (by omega) (h2 k hk e e2) a b
    rw[ifn e2,ifn e2];exact le_refl _
   rw[ifn e,ifn e];refine sum_le λj hj=>?_;by_cases e2:B.ain q j=A.aout p k
   ·rw[ifp e2,ifp e2];refine le_times _ (ES λa b _ _=>?_);refine le_trans ?_ (CmpOf.lower T N (N'+1) L _ _ _ (by omega) (h3 k j hk hj e e2) a b);exact GI A B m false _ _ a b nlr nlr (by omega)
   rw[ifn e2,ifn e2];exact le_refl _
  by_cases e:B.ain q j=0
  ·rw[ifp e,ifp e];refine le_times _ (ES λa b _ _=>?_);have h6:=CmpOf.lower T (N+1) N' (L+1) _ _ _ (by omega) (h4 j hj e) a b;have h7:Hs A B m (L+1) fl' (N+1) N' p (B.ato q j) a b=Hs A B m (L+1) true (N+1) N' p (B.ato q j) a b:=by
    rcases h1 with e2|e2
    ·rw[e2]
    unfold Hs;exact BO _ (λz=>by rw[PW e2 fl'])
   rw[h7]at h6;exact h6
  rw[ifn e,ifn e];exact le_refl _
end
def IsCmp(m:Nat)(f g:List Int->List Int->R)(x y:List Int)(v:R):Prop:=Lub (λL=>ws m L (λz=>f x z*g z y)) v
variable[CSC R]
theorem Qw{m:Nat}:∀(L:Nat) {G:Nat->List Int->R} {g:List Int->R},(∀z,Lub (λN=>G N z) (g z))->(∀z,Mono (λN=>G N z))->Lub (λN=>ws m L (G N)) (ws m L g)
 |0,_,_,h,_=>h []
 |L+1,G,g,h,k=>Lub.add (h []) (Lub.sum (λi _=>Qw L (λz=>h _) (λz=>k _)) (λi _ N=>IK L (λz=>k _ N))) (k []) (λN=>sum_le λi _=>IK L (λz=>k _ N))
theorem CmpOf.rel{A B M:RM R}{o:Nat->Nat->Bool->Nat}{d:Nat->Nat->Bool->Prop}(h:CmpOf A B M o d){m:Nat}(s:∀p k,p<A.n->k<A.na p->A.aout p k≠0->∃i:Nat,i<m/\A.aout p k=(i:Int)+1)
  (E:Inn A) (F:Inn B) (G:Inn M) (x y:List Int):IsCmp m (Go.Proofs.YtpldocnhbdlgfaaGreatDoor.rel A) (Go.Proofs.YtpldocnhbdlgfaaGreatDoor.rel B) x y (Go.Proofs.YtpldocnhbdlgfaaGreatDoor.rel M x y):=by
 obtain⟨l,g,j⟩:=h.lt _ _ _ h.rs;have C:=Ii G (by rw[h.start];exact l) x y;have D:∀L,Lub (λN=>ws m L (λz=>A.lead*Go.Proofs.YtpldocnhbdlgfaaGreatDoor.unr A N A.start x z*(B.lead*Go.Proofs.YtpldocnhbdlgfaaGreatDoor.unr B N B.start z y))) (ws m L (λz=>Go.Proofs.YtpldocnhbdlgfaaGreatDoor.rel A x z*Go.Proofs.YtpldocnhbdlgfaaGreatDoor.rel B z y)):=λL =>
  Qw L (λz=>(Ii E g x z).mul (Ii F j z y) (λN=>le_times _ (Dv A N _ _ _)) (λN=>le_times _ (Dv B N _ _ _)))
   (λz=>Mono.mul (λN=>le_times _ (Dv A N _ _ _)) (λN=>le_times _ (Dv B N _ _ _)))
 have e:∀L N,ws m L (λz=>A.lead*Go.Proofs.YtpldocnhbdlgfaaGreatDoor.unr A N A.start x z*(B.lead*Go.Proofs.YtpldocnhbdlgfaaGreatDoor.unr B N B.start z y))=M.lead*Hs A B m L false N N A.start B.start x y:=λL N=>by
  unfold Hs;rw[h.lead,<-GG];refine BO L (λz=>?_);rw[Lh,mA,mA,<-mA (Go.Proofs.YtpldocnhbdlgfaaGreatDoor.unr A N A.start x z) B.lead,mC (Go.Proofs.YtpldocnhbdlgfaaGreatDoor.unr A N A.start x z) B.lead,mA]
 refine⟨λL=>(D L).2 _ (λN=>?_),λu H=>C.2 u (λN=>?_)⟩
 ·show le (ws m L (λz=>A.lead*Go.Proofs.YtpldocnhbdlgfaaGreatDoor.unr A N A.start x z*(B.lead*Go.Proofs.YtpldocnhbdlgfaaGreatDoor.unr B N B.start z y))) _;rw[e L N];refine le_trans (le_times _ (h.lower s (N+N) N N L _ _ _ rfl h.rs x y)) ?_;have c:=C.1<|N+N;rw[h.start]at c;exact c
 have c:le (M.lead*Go.Proofs.YtpldocnhbdlgfaaGreatDoor.unr M N M.start x y) (M.lead*Hs A B m N false N N A.start B.start x y):=by
  rw[h.start];exact le_times _ (h.upper s N _ _ _ h.rs x y)
 rw[<-e N N]at c;exact le_trans c (le_trans ((D N).1 N) (H N))
end
end
end Go.Proofs.YtpldocnhbdlgfaaGreatDoor
