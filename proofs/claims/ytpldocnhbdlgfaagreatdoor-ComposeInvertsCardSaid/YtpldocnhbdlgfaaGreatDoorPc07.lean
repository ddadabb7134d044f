/- Parts. -/
import Derived.Test.YtpldocnhbdlgfaaGreatDoorPc05
namespace Go.Proofs.YtpldocnhbdlgfaaGreatDoor
set_option maxRecDepth 100000
set_option linter.all false
set_option maxHeartbeats 16000000
open Go Tryz
section
variable{n p:Nat}
class CSR (R:Type) where
 add:R->R->R
 mul:R->R->R
 zero:R
 one:R
 star:R->R
 add_comm:∀a b,add a b=add b a
 add_assoc:∀a b c,add (add a b) c=add a (add b c)
 add_zero:∀a,add a zero=a
 mul_comm:∀a b,mul a b=mul b a
 mul_assoc:∀a b c,mul (mul a b) c=mul a (mul b c)
 mul_one:∀a,mul a one=a
 mul_zero:∀a,mul a zero=zero
 mul_add:∀a b c,mul a (add b c)=add (mul a b) (mul a c)
 star_eq:∀a,star a=add one (mul a (star a))
 park:∀a b x c,x=add (add (mul a x) b) c->∃d,x=add (mul (star a) b) d
 anti:∀a b c d,b=add a c->a=add b d->a=b
namespace CSR
section
variable{R:Type}[CSR R]
instance instAdd:Add R:=⟨add⟩
instance instMul:Mul R:=⟨mul⟩
theorem aC(a b:R):a+b=b+a:=add_comm a b
theorem aA(a b c:R):a+b+c=a+(b+c):=add_assoc a b c
theorem aL(a b c:R):a+(b+c)=b+(a+c):=by rw[<-aA,aC a b,aA]
theorem a0(a:R):a+zero=a:=add_zero a
theorem z0(a:R):zero+a=a:=by rw[aC,a0]
theorem mC(a b:R):a*b=b*a:=mul_comm a b
theorem mA(a b c:R):a*b*c=a*(b*c):=mul_assoc a b c
theorem m1(a:R):a*one=a:=mul_one a
theorem o1(a:R):one*a=a:=by rw[mC,m1]
theorem m0(a:R):a*zero=zero:=mul_zero a
theorem zm(a:R):zero*a=zero:=by rw[mC,m0]
theorem mD(a b c:R):a*(b+c)=a*b+a*c:=mul_add a b c
theorem dM(a b c:R):(a+b)*c=a*c+b*c:=by rw[mC,mD,mC c a,mC c b]
theorem sE(a:R):star a=one+a*star a:=star_eq a
def le(a b:R):Prop:=∃c,b=a+c
theorem le_refl(a:R):le a a:=⟨zero,(a0 a).symm⟩
theorem le_add(a b:R):le a (a+b):=⟨b,rfl⟩
theorem le_trans{a b c:R}(h:le a b)(k:le b c):le a c:=by
 obtain⟨x,rfl⟩:=h;obtain⟨y,rfl⟩:=k;exact⟨x+y,aA ..⟩
theorem le_plus{a b c d:R}(h:le a b)(k:le c d):le (a+c) (b+d):=by
 obtain⟨x,rfl⟩:=h;obtain⟨y,rfl⟩:=k;exact⟨x+y,by rw[aA,aA,aL x c y]⟩
theorem le_times{a b:R}(c:R)(h:le a b):le (c*a) (c*b):=by
 obtain⟨x,rfl⟩:=h;exact⟨c*x,mD ..⟩
theorem le_anti{a b:R}(h:le a b)(k:le b a):a=b:=by
 obtain⟨x,c⟩:=h;obtain⟨y,d⟩:=k;exact anti a b x y c d
def sum(f:Nat->R):Nat->R
 |0=>zero
 |n+1=>sum f n+f n
theorem sum_congr{f g:Nat->R}(h:∀i,i<n->f i=g i):sum f n=sum g n:=by
 induction n with
 |zero=>rfl
 |succ n ih=>simp only[sum];rw[ih (λi hi=>h i (by omega)),h n (by omega)]
theorem sum_zero(n:Nat):sum (λ_=>(zero:R)) n=zero:=by
 induction n with
 |zero=>rfl
 |succ n ih=>simp only[sum];rw[ih,a0]
theorem sum_add(f g:Nat->R)(n:Nat):sum (λi=>f i+g i) n=sum f n+sum g n:=by
 induction n with
 |zero=>exact(a0 _).symm
 |succ n ih=>simp only[sum];rw[ih,aA,aA,aL (sum g n)]
theorem mul_sum(a:R)(f:Nat->R)(n:Nat):a*sum f n=sum (λi=>a*f i) n:=by
 induction n with
 |zero=>exact m0 a
 |succ n ih=>simp only[sum];rw[mD,ih]
theorem sum_mul(a:R)(f:Nat->R)(n:Nat):sum f n*a=sum (λi=>f i*a) n:=by
 rw[mC,mul_sum];exact sum_congr λi _=>mC _ _
theorem sum_pick(f:Nat->R)(c:p<n):sum f n=f p+sum (λi=>if i=p then zero else f i) n:=by
 induction n with
 |zero=>omega
 |succ n ih =>
  simp only[sum];by_cases e:p=n
  ·subst e;rw[ifp rfl,a0,sum_congr (g:=λi=>if i=p then zero else f i) (λi hi=>by rw[ifn (by omega)]),aC]
  rw[ifn (by omega),ih (by omega),aA]
theorem sum_single(f:Nat->R)(c:p<n)(h:∀i,i<n->i≠p->f i=zero):sum f n=f p:=by
 rw[sum_pick f c,sum_congr (g:=λ_=>zero) (λi hi=>by split;rfl;exact h i hi (by assumption)),sum_zero,a0]
theorem sum_le{f g:Nat->R}(h:∀i,i<n->le (f i) (g i)):le (sum f n) (sum g n):=by
 induction n with
 |zero=>exact le_refl _
 |succ n ih=>exact le_plus (ih λi hi=>h i (by omega)) (h n (by omega))
def elim(p:Nat)(M:Nat->Nat->R):Nat->Nat->R:=λi j=>M i j+M i p*star (M p p)*M p j
def elims(M:Nat->Nat->R):Nat->Nat->Nat->R
 |0=>M
 |p+1=>elim p (elims M p)
def eye(i j:Nat):R:=if i=j then one else zero
def starM(M:Nat->Nat->R)(n:Nat):Nat->Nat->R:=λi j=>elims M n i j+eye i j
theorem elims_first(M:Nat->Nat->R)(p i j:Nat):elims M p i j=M i j+sum (λk=>M i k*elims M p k j) p:=by
 induction p generalizing j with
 |zero=>exact(a0 _).symm
 |succ p ih =>
  have c:=ih;generalize hNN:elims M p=N at c;have h:elims M (p+1)=elim p N:=by rw[<-hNN];rfl
  rw[h];simp only[sum];have d:sum (λk=>M i k*elim p N k j) p=sum (λk=>M i k*N k j) p+sum (λk=>M i k*N k p) p*(star (N p p)*N p j):=by
   rw[sum_mul,<-sum_add];refine sum_congr λk _=>?_;show M i k*(N k j+N k p*star (N p p)*N p j)=_;rw[mD,mA,mA]
  have g:M i p*elim p N p j=M i p*(star (N p p)*N p j):=by
   show M i p*(N p j+N p p*star (N p p)*N p j)=_
   congr 1
   conv=>rhs;rw[sE (N p p)]
   rw[dM,o1]
  rw[d,g];show N i j+N i p*star (N p p)*N p j=_;rw[aA,<-dM,<-aA,aC (sum _ _) (M i p),<-c j,<-c p,mA]
theorem starM_left(M:Nat->Nat->R){i j:Nat}(c:j<n):starM M n i j=eye i j+sum (λk=>M i k*starM M n k j) n:=by
 have h:sum (λk=>M i k*starM M n k j) n=sum (λk=>M i k*elims M n k j) n+M i j:=by
  show sum (λk=>M i k*(elims M n k j+eye k j)) n=_;rw[sum_congr (g:=λk=>M i k*elims M n k j+M i k*eye k j) (λk _=>mD ..),sum_add]
  congr 1
  rw[sum_single _ c (λk _ d=>by show M i k*eye k j=_;rw[eye,ifn d,m0])];show M i j*eye j j=_;rw[eye,ifp rfl,m1]
 rw[h,aC (sum _ _),<-elims_first,aC];rfl
theorem elims_congr{M M':Nat->Nat->R}(h:∀i j,i<n->j<n->M i j=M' i j)(d:p<=n):∀i j,i<n->j<n->elims M p i j=elims M' p i j:=by
 induction p with
 |zero=>exact h
 |succ p ih =>
  intro i j hi c;show elim p _ i j=elim p _ i j;unfold elim;rw[ih (by omega) i j hi c,ih (by omega) i p hi (by omega),ih (by omega) p p (by omega) (by omega),ih (by omega) p j (by omega) c]
theorem starM_congr{M M':Nat->Nat->R}(h:∀i j,i<n->j<n->M i j=M' i j):∀i j,i<n->j<n->starM M n i j=starM M' n i j:=by
 intro i j hi c;unfold starM;rw[elims_congr h (Nat.le_refl n) i j hi c]
def sumFrom(f:Nat->R)(p n:Nat):R:=sum (λk=>if k<p then zero else f k) n
theorem sumFrom_zero(f:Nat->R)(n:Nat):sumFrom f 0 n=sum f n:=sum_congr λk _=>by rw[ifn (by omega)]
theorem sumFrom_end(f:Nat->R)(n:Nat):sumFrom f n n=zero:=by
 rw[sumFrom,sum_congr (g:=λ_=>zero) (λk c=>by rw[ifp c]),sum_zero]
theorem sumFrom_step(f:Nat->R)(g:p<n):sumFrom f p n=f p+sumFrom f (p+1) n:=by
 unfold sumFrom;rw[sum_pick _ g,ifn (by omega)]
 congr 1
 exact sum_congr λk _=>by
  by_cases c:k=p
  ·rw[ifp c,ifp (by omega)]
  rw[ifn c];by_cases d:k<p
  ·rw[ifp d,ifp (by omega)]
  rw[ifn d,ifn (by omega)]
end
end CSR
end
section
variable{k:Int}{a b c u v x:V}
def KK:Type:={ k:Int // k=1\/k=2\/k=3 }
def RK(k:KK):Type:={ v:V // okV k.1 v }
theorem Fg(d:okV k u)(g:okV k c):if k=1 then leV (Ar k u c) u else leV u (Ar k u c):=by
 rcases Da d with rfl|rfl|rfl
 ·rw[ifp rfl,Db];unfold minV;split
  ·exact Fe _
  rcases Cf u c with h|h
  ·contradiction
  exact h
 ·rw[ifn (by decide),BY]
  rcases AC d (by decide) with rfl|⟨x,rfl,j⟩
  ·exact trivial
  rcases AC g (by decide) with rfl|⟨y,rfl,i⟩
  ·exact trivial
  show x<=x+y;have:=Rat.add_le_add_left (c:=x).2 i
  rwa [Rat.add_zero]at this
 rw[ifn (by decide),Dc];unfold maxV;split
 ·exact Fe _
 rcases Cf u c with h|h
 ·exact h
 contradiction
theorem No(g:okV k u)(d:okV k v)(h:if k=1 then leV v u else leV u v):∃c,okV k c/\v=Ar k u c:=by
 rcases Da g with rfl|rfl|rfl
 ·rw[ifp rfl]at h;exact⟨v,d,by rw[Db,Cg h]⟩
 ·rw[ifn (by decide)]at h
  rcases AC g (by decide) with rfl|⟨x,rfl,j⟩
  ·refine⟨.inf,DC (.inr (.inl rfl)),?_⟩
   rcases AC d (by decide) with rfl|⟨y,rfl,i⟩
   ·rfl
   exact h.elim
  rcases AC d (by decide) with rfl|⟨y,rfl,i⟩
  ·exact⟨.inf,DC (.inr (.inl rfl)),by rw[BY];rfl⟩
  refine⟨.fin (y-x),.inr ⟨.inl rfl,(Rat.le_iff_sub_nonneg x y).1 h⟩,?_⟩;rw[BY];show V.fin y=V.fin (x+(y-x));congr 1;rw[Rat.add_comm,Rat.sub_add_cancel]
 rw[ifn (by decide)]at h;exact⟨v,d,by rw[Dc,BX h]⟩
theorem Nn(m:okV k a)(o:okV k x)(hb:okV k b)(i:okV k c)(h:x=Ar k (Ar k (Ag k a x) b) c):
  (if k=1 then leV x (Ag k a x) else leV (Ag k a x) x)/\(if k=1 then leV x b else leV b x):=by
 have d:okV k (Ag k a x):=Fj m o;have g:=Fg d (FT hb i);have bx:=Fg hb (FT d i);have j:Ar k (Ag k a x) (Ar k b c)=x:=by rw[<-JN hb,<-h]
 have l:Ar k b (Ar k (Ag k a x) c)=x:=by rw[<-JN d,NK hb,<-h]
 rw[j]at g;rw[l]at bx;exact⟨g,bx⟩
theorem Pm(c:okV k v)(d:k=1\/k=2\/k=3):Ag k (oneV k) v=v:=by
 rw[Pk (NC d) c];exact Ig c
theorem park1(u:okV 1 a)(z:okV 1 x)(hb:okV 1 b)(g:leV x (Ag 1 a x))(h:leV x b):leV x (Ag 1 (Aw 1 a) b):=by
 have o:Aw 1 a=if 0<=cmpV a (.fin 0) then .fin 0 else .low:=rfl
 rw[o]
 split
 ·have:Ag 1 (.fin 0) b=b:=Pm (k:=1) hb (.inl rfl);rw[this];exact h
 rename_i l;have d:leV a (.fin 0):=(Cx _ _).1 (by omega);cases b with
 |inf=>cases x<;>trivial
 |low=>rw[times1];exact h
 |fin q =>
  rw[times1];cases x with
  |low=>trivial
  |inf=>exact h.elim
  |fin y =>
   exfalso
   rw[times1]at g;cases a with
   |inf=>exact d.elim
   |low=>exact g.elim
   |fin r =>
    have m:r<=0:=d;have i:r≠0:=by intro e;subst e;exact l (by decide +kernel)
    have p:y<=r+y:=g;have s:r<0:=Rat.lt_of_le_of_ne m i;have j:=Rat.add_lt_add_right (c:=y).2 s;rw[Rat.zero_add]at j;exact absurd p (Rat.not_le.2 j)
theorem park3(m:okV 3 a)(o:okV 3 x)(hb:okV 3 b)(c:leV (Ag 3 a x) x)(i:leV b x):leV (Ag 3 (Aw 3 a) b) x:=by
 have B:Aw 3 a=if cmpV a (.fin 1)<=0 then .fin 1 else .inf:=rfl
 have n3:(3:Int)≠1:=by decide
 rw[B]
 split
 ·have:Ag 3 (.fin 1) b=b:=Pm (k:=3) hb (.inr (.inr rfl));rw[this];exact i
 rename_i z;rw[times23 n3 (by simp) (AA hb n3)];rw[times23 n3 (AA m n3) (AA o n3)]at c
 rcases AC o n3 with rfl|⟨y,rfl,p⟩
 ·cases (mulV .inf b)<;>trivial
 rcases AC hb n3 with rfl|⟨q,rfl,A⟩
 ·exact i.elim
 by_cases d:q=0
 ·subst d;rw[CE];exact p
 exfalso
 have g:q<=y:=i;have j:0<q:=Rat.lt_of_le_of_ne A (λe=>d e.symm);have h:0<y:=by
  refine Rat.lt_of_le_of_ne p (λe=>?_);rw[<-e]at g;exact absurd g (Rat.not_le.2 j)
 have l:y≠0:=Rat.ne_of_gt h
 rcases AC m n3 with rfl|⟨r,rfl,C⟩
 ·rw[BE l]at c;exact c.elim
 rw[Br]at c;have s:r*y<=1*y:=by rw[Rat.one_mul];exact c
 have u:r<=1:=Rat.le_of_mul_le_mul_right s h;exact z<|(Cx _ _).2 u
theorem park2(l:okV 2 a)(B:okV 2 x)(hb:okV 2 b)(h:leV (addV (Ag 2 a x) b) x):leV (Ag 2 (Aw 2 a) b) x:=by
 have n2:(2:Int)≠1:=by decide
 have u:okV 2 (Aw 2 a):=(HQ l).1;rw[times23 n2 (AA u n2) (AA hb n2)];rw[times23 n2 (AA l n2) (AA B n2)]at h
 rcases AC B n2 with rfl|⟨y,rfl,C⟩
 ·cases (mulV (Aw 2 a) b)<;>trivial
 rcases AC hb n2 with rfl|⟨s,rfl,A⟩
 ·have:addV (mulV a (.fin y)) .inf=.inf:=by cases (mulV a (.fin y))<;>rfl
  rw[this]at h;exact h.elim
 rcases AC l n2 with rfl|⟨r,rfl,F⟩
 ·have e:Aw 2 .inf=.inf:=rfl;rw[e];by_cases k:y=0
  ·subst k;rw[CE]at h;have j:(0:Rat)+s<=0:=h;rw[Rat.zero_add]at j;have:s=0:=Rat.le_antisymm j A;subst this;rw[CE];exact Rat.le_refl
  rw[BE k]at h;exact h.elim
 rw[Br]at h;have j:r*y+s<=y:=h;have e:Aw 2 (.fin r)=if 0<=cmpQ r 1 then .inf else .fin (1 / (1-r)):=rfl
 rw[e]
 split
 ·rename_i i;have p:1<=r:=by
   rcases BI r 1 with⟨g,d⟩|⟨g,d⟩|⟨g,d⟩
   ·rw[d]at i;exact absurd i (by decide)
   ·rw[g];exact Rat.le_refl
   exact Rat.le_of_lt g
  have z:1*y<=r*y:=Rat.mul_le_mul_of_nonneg_right p C;rw[Rat.one_mul]at z;have D:r*y+s<=r*y+0:=by rw[Rat.add_zero];exact Rat.le_trans j z
  have E:s<=0:=Rat.add_le_add_left.1 D;have:s=0:=Rat.le_antisymm E A;subst this;rw[CE];exact C
 rename_i i;have o:r<1:=by
  rcases BI r 1 with⟨g,d⟩|⟨g,d⟩|⟨g,d⟩
  ·exact g
  ·rw[d]at i;exact absurd (by decide) i
  rw[d]at i;exact absurd (by decide) i
 have hd:0<1-r:=(Rat.lt_iff_sub_pos r 1).1 o;have m:1-r≠0:=Rat.ne_of_gt hd;rw[Br];show 1 / (1-r)*s<=y;refine Rat.le_of_mul_le_mul_left (c:=1-r) ?_ hd;rw[<-Rat.mul_assoc,Rat.div_def,Rat.one_mul,Rat.mul_inv_cancel _ m,Rat.one_mul];rw[Rat.sub_eq_add_neg,Rat.add_mul,Rat.one_mul,Rat.neg_mul,<-Rat.sub_eq_add_neg];refine Rat.le_sub_iff.2 ?_;rw[Rat.add_comm];exact j
theorem UZ(g:okV k a)(i:okV k x)(hb:okV k b)(m:okV k c)(h:x=Ar k (Ar k (Ag k a x) b) c):
  ∃d,okV k d/\x=Ar k (Ag k (Aw k a) b) d:=by
 have o:=(HQ g).1;refine No (Fj o hb) i ?_
 rcases Da g with rfl|rfl|rfl
 ·obtain⟨j,l⟩:=Nn g i hb m h;rw[ifp rfl]at j l ⊢;exact park1 g i hb j l
 ·rw[ifn (by decide)];have:=Fg (FT (Fj g i) hb) m;rw[<-h,ifn (by decide),BY]at this;exact park2 g i hb this
 obtain⟨j,l⟩:=Nn g i hb m h;rw[ifn (by decide)]at j l ⊢;exact park3 g i hb j l
theorem Qu{d:V}(j:okV k a)(hb:okV k b)(l:okV k c)(hd:okV k d)(h:b=Ar k a c)(i:a=Ar k b d):a=b:=by
 have x:=Fg j l;have y:=Fg hb hd;rw[<-h]at x;rw[<-i]at y;by_cases g:k=1
 ·rw[ifp g]at x y;exact FL y x
 rw[ifn g]at x y;exact FL x y
namespace RK
variable{k:KK}
theorem ext{a b:RK k}(h:a.1=b.1):a=b:=Subtype.ext h
instance csr:CSR (RK k) where
 add a b:=⟨Ar k.1 a.1 b.1,FT a.2 b.2⟩
 mul a b:=⟨Ag k.1 a.1 b.1,Fj a.2 b.2⟩
 zero:=⟨zeroV k.1,UO k.2⟩
 one:=⟨oneV k.1,NC k.2⟩
 star a:=⟨Aw k.1 a.1,(HQ a.2).1⟩
 add_comm a _:=ext<|NK a.2
 add_assoc _ b _:=ext<|JN b.2
 add_zero a:=ext<|Vu a.2
 mul_comm a b:=ext<|Pk a.2 b.2
 mul_assoc a b c:=ext<|Xz a.2 b.2 c.2
 mul_one a:=ext<|Ig a.2
 mul_zero a:=ext<|XD k.1 a.1
 mul_add a b c:=ext<|XC a.2 b.2 c.2
 star_eq a:=ext (HQ a.2).2.symm
 park a b x c h:=by
  obtain⟨d,hd,e⟩:=UZ a.2 x.2 b.2 c.2 (congrArg Subtype.val h);exact⟨⟨d,hd⟩,ext e⟩
 anti a b c d h1 h2:=ext<|Qu a.2 b.2 c.2 d.2 (congrArg Subtype.val h1) (congrArg Subtype.val h2)
end RK
end
section
variable{i m:Nat}
namespace CSR
section
variable{R:Type}[CSR R]
def Lub(S:Nat->R)(s:R):Prop:=(∀n,le (S n) s)/\∀u,(∀n,le (S n) u)->le s u
def Mono(S:Nat->R):Prop:=∀n,le (S n) (S (n+1))
def geo(a:R):Nat->R
 |0=>zero
 |n+1=>one+a*geo a n
end
end CSR
class CSC (R:Type) [CSR R]:Prop where
 lub_add:∀(S:Nat->R) (s b:R),CSR.Lub S s->∀u,(∀n,CSR.le (S n+b) u)->CSR.le (s+b) u
 lub_mul:∀(S:Nat->R) (s b:R),CSR.Lub S s->∀u,(∀n,CSR.le (S n*b) u)->CSR.le (s*b) u
 lub_star:∀(a u:R),(∀n,CSR.le (CSR.geo a n) u)->CSR.le (CSR.star a) u
namespace CSR
section
variable{R:Type}[CSR R]
theorem sum_comm(f:Nat->Nat->R)(m:Nat):∀n,sum (λi=>sum (f i) m) n=sum (λj=>sum (λi=>f i j) n) m
 |0=>by
  show zero=_;exact(sum_zero m).symm
 |n+1=>by
  show sum (λi=>sum (f i) m) n+sum (f n) m=_;rw[sum_comm f m n,<-sum_add];rfl
theorem zero_le(a:R):le zero a:=⟨a,(z0 a).symm⟩
theorem le_mul{a b c d:R}(h:le a b)(k:le c d):le (a*c) (b*d):=le_trans (le_times a k) (by rw[mC a d,mC b d];exact le_times d h)
theorem Mono.to{S:Nat->R}(h:Mono S){n:Nat}(c:n<=m):le (S n) (S m):=by
 induction m with
 |zero=>rw[Nat.le_zero.1 c];exact le_refl _
 |succ m ih =>
  by_cases e:n=m+1
  ·rw[e];exact le_refl _
  exact le_trans (ih (by omega)) (h m)
theorem Mono.const(s:R):Mono (λ_=>s):=λ_=>le_refl s
theorem Mono.add{S T:Nat->R}(h:Mono S)(k:Mono T):Mono (λn=>S n+T n):=λn=>le_plus (h n) (k n)
theorem Mono.mul{S T:Nat->R}(h:Mono S)(k:Mono T):Mono (λn=>S n*T n):=λn=>le_mul (h n) (k n)
theorem Mono.sum{S:Nat->Nat->R}(h:∀i,i<m->Mono (S i)):Mono (λn=>CSR.sum (λi=>S i n) m):=λn=>sum_le λi hi=>h i hi n
theorem Lub.const(s:R):Lub (λ_=>s) s:=⟨λ_=>le_refl s,λu h=>h 0⟩
theorem Lub.congr{S T:Nat->R}{s:R}(h:Lub S s)(c:∀n,S n=T n):Lub T s:=by
 have:S=T:=funext c;rw[<-this];exact h
theorem Lub.le_of{S T:Nat->R}{s t:R}(h:Lub S s)(k:Lub T t)(c:∀n,∃m,le (S n) (T m)):le s t :=
 h.2 t λn=>by obtain⟨m,d⟩:=c n;exact le_trans d (k.1 m)
theorem Lub.eq_of{S T:Nat->R}{s t:R}(h:Lub S s)(k:Lub T t)(c:∀n,∃m,le (S n) (T m))(d:∀n,∃m,le (T n) (S m)):s=t:=le_anti (h.le_of k c) (k.le_of h d)
theorem Lub.eq{S:Nat->R}{s t:R}(h:Lub S s)(k:Lub S t):s=t:=h.eq_of k (λn=>⟨n,le_refl _⟩) (λn=>⟨n,le_refl _⟩)
theorem geo_mono{a b:R}(h:le a b):∀{n m:Nat},n<=m->le (geo a n) (geo b m)
 |0,_,_=>zero_le _
 |n+1,m+1,hm=>le_plus (le_refl _) (le_mul h (geo_mono h (by omega)))
 |n+1,0,hm=>absurd hm (by omega)
theorem geo_le_star(a:R):∀n,le (geo a n) (star a)
 |0=>zero_le _
 |n+1=>by rw[sE a];exact le_plus (le_refl _) (le_times a (geo_le_star a n))
def way(M:Nat->Nat->R)(p:Nat):Nat->Nat->Nat->R
 |0,_,_=>zero
 |N+1,i,j=>M i j+sum (λk=>M i k*way M p N k j) p
theorem way_step(M:Nat->Nat->R)(p:Nat):∀N i j,le (way M p N i j) (way M p (N+1) i j)
 |0,_,_=>zero_le _
 |N+1,i,j=>le_plus (le_refl _) (sum_le λk _=>le_times _ (way_step M p N k j))
theorem way_mono(M:Nat->Nat->R)(p i j:Nat):Mono (λN=>way M p N i j):=λN=>way_step M p N i j
theorem way_le(M:Nat->Nat->R)(p:Nat):∀N i j,le (way M p N i j) (elims M p i j)
 |0,_,_=>zero_le _
 |N+1,i,j=>by rw[elims_first];exact le_plus (le_refl _) (sum_le λk _=>le_times _ (way_le M p N k j))
theorem way_cat(M:Nat->Nat->R)(p b j:Nat):∀a i,le (way M p a i p*way M (p+1) b p j+way M p a i j) (way M (p+1) (a+b) i j)
 |0,i=>by show le (zero*_+zero) _;rw[zm,a0];exact zero_le _
 |a+1,i=>by
  have ih:=way_cat M p b j a;have e:way M (p+1) (a+1+b) i j=M i j+(sum (λk=>M i k*way M (p+1) (a+b) k j) p+M i p*way M (p+1) (a+b) p j):=by
   rw[show a+1+b=a+b+1 by omega];rfl
  rw[e];show le ((M i p+sum (λk=>M i k*way M p a k p) p)*way M (p+1) b p j+(M i j+sum (λk=>M i k*way M p a k j) p)) _;have e2:(M i p+sum (λk=>M i k*way M p a k p) p)*way M (p+1) b p j+(M i j+sum (λk=>M i k*way M p a k j) p)
    = M i j+(sum (λk=>M i k*(way M p a k p*way M (p+1) b p j+way M p a k j)) p+M i p*way M (p+1) b p j):=by
   rw[dM,sum_mul];have:sum (λk=>M i k*(way M p a k p*way M (p+1) b p j+way M p a k j)) p=sum (λk=>M i k*way M p a k p*way M (p+1) b p j) p+sum (λk=>M i k*way M p a k j) p:=by
    rw[<-sum_add];exact sum_congr λk _=>by rw[mD,mA]
   rw[this,aL,aA,aC (M i p*way M (p+1) b p j)]
  rw[e2];refine le_plus (le_refl _) (le_plus (sum_le λk _=>le_times _ (ih k)) (le_times _ ?_));exact(way_mono M (p+1) p j).to (by omega)
theorem way_geo(M:Nat->Nat->R)(p a j:Nat):∀l,le (geo (way M p a p p) l*way M p a p j) (way M (p+1) (l*a) p j)
 |0=>by show le (zero*_) _;rw[zm];exact zero_le _
 |l+1=>by
  show le ((one+way M p a p p*geo (way M p a p p) l)*way M p a p j) _;rw[dM,o1,mA,aC];refine le_trans (le_plus (le_times _ (way_geo M p a j l)) (le_refl _)) ?_;have:=way_cat M p (l*a) j a p;rw[show (l+1)*a=a+l*a by rw[Nat.add_mul];omega];exact this
theorem way_star(M:Nat->Nat->R)(p a l i j:Nat):le (way M p a i p*(geo (way M p a p p) l*way M p a p j)+way M p a i j) (way M (p+1) (a+l*a) i j) :=
 le_trans (le_plus (le_times _ (way_geo M p a j l)) (le_refl _)) (way_cat M p (l*a) j a i)
variable[CSC R]
theorem Lub.add{S T:Nat->R}{s t:R}(h:Lub S s)(k:Lub T t)(g:Mono S)(i:Mono T):Lub (λn=>S n+T n) (s+t):=by
 refine⟨λn=>le_plus (h.1 n) (k.1 n),λu j=>?_⟩;have c:∀n m,le (S n+T m) u:=λn m=>le_trans (le_plus (g.to (Nat.le_max_left n m)) (i.to (Nat.le_max_right n m))) (j (max n m));have d:∀m,le (s+T m) u:=λm=>CSC.lub_add S s (T m) h u λn=>c n m;rw[aC];exact CSC.lub_add T t s k u λm=>by rw[aC];exact d m
theorem Lub.mul{S T:Nat->R}{s t:R}(h:Lub S s)(k:Lub T t)(g:Mono S)(i:Mono T):Lub (λn=>S n*T n) (s*t):=by
 refine⟨λn=>le_mul (h.1 n) (k.1 n),λu j=>?_⟩;have c:∀n m,le (S n*T m) u:=λn m=>le_trans (le_mul (g.to (Nat.le_max_left n m)) (i.to (Nat.le_max_right n m))) (j (max n m));have d:∀m,le (s*T m) u:=λm=>CSC.lub_mul S s (T m) h u λn=>c n m;rw[mC];exact CSC.lub_mul T t s k u λm=>by rw[mC];exact d m
theorem Lub.mulL{S:Nat->R}{s:R}(h:Lub S s)(b:R):Lub (λn=>b*S n) (b*s) :=
 ⟨λn=>le_times b (h.1 n),λu c=>by rw[mC];exact CSC.lub_mul S s b h u λn=>by rw[mC];exact c n⟩
theorem Lub.sum{S:Nat->Nat->R}{s:Nat->R}:∀{m:Nat},(∀i,i<m->Lub (S i) (s i))->(∀i,i<m->Mono (S i))->Lub (λn=>CSR.sum (λi=>S i n) m) (CSR.sum s m)
 |0,_,_=>Lub.const _
 |m+1,h,k=>(Lub.sum (λi hi=>h i (by omega)) (λi hi=>k i (by omega))).add (h m (by omega)) (Mono.sum λi hi=>k i (by omega)) (k m (by omega))
theorem Lub.geo{S:Nat->R}{s:R}(h:Lub S s)(hS:Mono S):∀l,Lub (λn=>CSR.geo (S n) l) (CSR.geo s l)
 |0=>Lub.const _
 |l+1=>(Lub.const one).add (h.mul (Lub.geo h hS l) hS (λn=>geo_mono (hS n) (Nat.le_refl l))) (Mono.const one) (hS.mul λn=>geo_mono (hS n) (Nat.le_refl l))
theorem Lub.star{S:Nat->R}{s:R}(h:Lub S s)(c:Mono S):Lub (λn=>CSR.geo (S n) n) (CSR.star s):=by
 refine⟨λn=>le_trans (geo_mono (h.1 n) (Nat.le_refl n)) (geo_le_star s n),λu d=>CSC.lub_star s u λl=>?_⟩;exact(h.geo c l).2 u λn=>le_trans (geo_mono (c.to (Nat.le_max_left n l)) (Nat.le_max_right n l)) (d (max n l))
theorem elims_lub(M:Nat->Nat->R):∀p i j,Lub (λN=>way M p N i j) (elims M p i j)
 |0,i,j=>⟨λN=>way_le M 0 N i j,λu hu=>by
   have h1:le (way M 0 1 i j) u:=hu 1;rw[show way M 0 1 i j=M i j from a0 _]at h1;exact h1⟩
 |p+1,i,j=>by
  refine⟨λN=>way_le M (p+1) N i j,λu hu=>?_⟩;have hm:=way_mono M p;have hl:Lub (λN=>way M p N i p*(CSR.geo (way M p N p p) N*way M p N p j)+way M p N i j) (elims M p i p*(CSR.star (elims M p p p)*elims M p p j)+elims M p i j) :=
   ((
    elims_lub M p i p).mul (((elims_lub M p p p).star (hm p p)).mul (elims_lub M p p j) (λn=>geo_mono (hm p p n) (by omega)) (hm p j)) (hm i p) (Mono.mul (λn=>geo_mono (hm p p n) (by omega)) (hm p j))).add (elims_lub M p i j)
    (Mono.mul (hm i p) (Mono.mul (λn=>geo_mono (hm p p n) (by omega)) (hm p j))) (hm i j)
  have:=hl.2 u λN=>le_trans (way_star M p N N i j) (hu _);show le (elims M p i j+elims M p i p*CSR.star (elims M p p p)*elims M p p j) u;rw[aC,mA];exact this
def rnd(M:Nat->Nat->R)(n:Nat)(r:Nat->Nat->R):Nat->Nat->R
 |0,_=>zero
 |N+1,i=>r N i+sum (λk=>M i k*rnd M n r N k) n
theorem rnd_mono(M:Nat->Nat->R)(n:Nat){r:Nat->Nat->R}(hr:∀i,i<n->Mono (λN=>r N i)):∀N i,i<n->le (rnd M n r N i) (rnd M n r (N+1) i)
 |0,_,_=>zero_le _
 |N+1,i,hi=>le_plus (hr i hi N) (sum_le λk hk=>le_times _ (rnd_mono M n hr N k hk))
def sol(M:Nat->Nat->R)(n:Nat)(r:Nat->R)(i:Nat):R:=sum (λj=>starM M n i j*r j) n
theorem sol_eq(M:Nat->Nat->R)(n:Nat)(r:Nat->R)(hi:i<n):sol M n r i=r i+sum (λk=>M i k*sol M n r k) n:=by
 have h:∀j,j<n->starM M n i j*r j=eye i j*r j+sum (λk=>M i k*(starM M n k j*r j)) n:=λj c=>by
  rw[starM_left M c,dM,sum_mul];congr 1;exact sum_congr λk _=>mA ..
 show sum (λj=>starM M n i j*r j) n=_;rw[sum_congr h,sum_add]
 congr 1
 ·rw[sum_single _ hi (λj _ c=>by unfold eye;rw[ifn (λe=>c e.symm),zm])];unfold eye;rw[ifp rfl,o1]
 rw[sum_comm];exact sum_congr λk _=>by unfold sol;rw[mul_sum]
theorem rnd_way(M:Nat->Nat->R)(n:Nat){r:Nat->Nat->R}(hr:∀i,i<n->Mono (λN=>r N i))(b:Nat):∀a i,i<n->le (sum (λj=>(way M n a i j+eye i j)*r b j) n) (rnd M n r (a+b+1) i)
 |0,i,hi=>by
  rw[sum_single _ hi (λj _ hj=>by show (zero+eye i j)*_=_;unfold eye;rw[ifn (λe=>hj e.symm),a0,zm])];show le ((zero+eye i i)*_) _;unfold eye;rw[ifp rfl,z0,o1,show 0+b+1=b+1 by omega];exact le_add ..
 |a+1,i,hi=>by
  have ih:=rnd_way M n hr b a;have h:∀j,j<n->(way M n (a+1) i j+eye i j)*r b j=eye i j*r b j+sum (λk=>M i k*((way M n a k j+eye k j)*r b j)) n:=λj hj=>by
   show (M i j+sum (λk=>M i k*way M n a k j) n+eye i j)*r b j=_;rw[dM,aC];congr 1;have e1:M i j=sum (λk=>M i k*eye k j) n:=by
    rw[sum_single _ hj (λk _ hk=>by unfold eye;rw[ifn hk,m0])];unfold eye;rw[ifp rfl,m1]
   rw[aC (M i j)]
   conv=>lhs;arg 1;arg 2;rw[e1]
   rw[<-sum_add,sum_mul];exact sum_congr λk _=>by rw[<-mD,mA]
  rw[sum_congr h,sum_add];rw[sum_single (λj=>eye i j*r b j) hi (λj _ hj=>by unfold eye;rw[ifn (λe=>hj e.symm),zm])];rw[show eye i i*r b i=r b i by unfold eye;rw[ifp rfl,o1]];rw[sum_comm,show a+1+b+1=(a+b+1)+1 by omega];refine le_plus ((hr i hi).to (by omega)) (sum_le λk hk=>?_);rw[<-mul_sum];exact le_times _ (ih k hk)
theorem rnd_lub(M:Nat->Nat->R)(n:Nat){r:Nat->Nat->R}{s:Nat->R}(d:∀i,i<n->Mono (λN=>r N i))(g:∀i,i<n->Lub (λN=>r N i) (s i))(hi:i<n):Lub (λN=>rnd M n r N i) (sol M n s i):=by
 constructor
 ·intro N
  induction N generalizing i with
  |zero=>exact zero_le _
  |succ N ih=>rw[sol_eq M n s hi];exact le_plus ((g i hi).1 N) (sum_le λk l=>le_times _ (ih l))
 intro u m;have h:Lub (λN=>sum (λj=>(way M n N i j+eye i j)*r N j) n) (sum (λj=>(elims M n i j+eye i j)*s j) n) :=
  Lub.sum (S:=λj N=>(way M n N i j+eye i j)*r N j) (λj c=>((elims_lub M n i j).add (Lub.const _) (way_mono M n i j) (Mono.const _)).mul (g j c) ((way_mono M n i j).add (Mono.const _)) (d j c))
   (λj c=>((way_mono M n i j).add (Mono.const _)).mul (d j c))
 exact h.2 u λN=>le_trans (rnd_way M n d N N i hi) (m _)
end
end CSR
end
end Go.Proofs.YtpldocnhbdlgfaaGreatDoor
