/- Parts. -/
import Derived.Test.YtpldocnhbdlgfaaGreatDoorPa09
namespace Go.Proofs.YtpldocnhbdlgfaaGreatDoor
set_option maxRecDepth 100000
set_option linter.all false
set_option maxHeartbeats 16000000
open Go Tryz
section
variable{i j n:Nat}{v:Nat->ByteArray}
def rsP8(k:Int)(S:Nat->Nat->ByteArray)(v:Nat->ByteArray)(q:Nat):Nat->WS->WS
 |0,s=>s
 |p+1,s=>if (rsP8 k S v q p s).2≠0 then rsP8 k S v q p s else if v q=Aj k\/S q p=Aj k then rsP8 k S v q p s else addR k (rsP8 k S v q p s).1 p (v q) (S q p)
def rsQ8(k:Int)(S:Nat->Nat->ByteArray)(v:Nat->ByteArray)(n:Nat):Nat->WS->WS
 |0,s=>s
 |q+1,s=>rsP8 k S v q n (rsQ8 k S v n q s)
def rest8(k:Int)(n:Nat)(st:StarO)(v:Nat->ByteArray):WS:=match st with
 |none=>(v,0)
 |some S=>rsQ8 k S v n n (zerR k,0)
def rsT(D:MD)(st:StarO)(i j:Nat)(s:TbR × Nat):TbR × Nat :=
 if s.2≠0 then s else if (rest8 D.kind D.n st (s.1 i j)).2≠0 then (s.1,(rest8 D.kind D.n st (s.1 i j)).2) else (updT s.1 i j (rest8 D.kind D.n st (s.1 i j)).1,0)
def Be(D:MD)(st:StarO)(na:Nat)(x:Nat->Int)(nb:Nat)(y:Nat->Int)(i:Nat):Nat->TbR × Nat->TbR × Nat
 |0,s=>s
 |j+1,s=>mvR D na x nb y i j 4 (rsT D st i j (Be D st na x nb y i j s))
def Bd(D:MD)(st:StarO)(na:Nat)(x:Nat->Int)(nb:Nat)(y:Nat->Int):Nat->TbR × Nat->TbR × Nat
 |0,s=>s
 |i+1,s=>Be D st na x nb y i (nb+1) (Bd D st na x nb y i s)
def Cp(D:MD)(st:StarO)(na:Nat)(x:Nat->Int)(nb:Nat)(y:Nat->Int):ByteArray × Nat :=
 if (Bd D st na x nb y (na+1) (X0R D,0)).2≠0 then (⟨#[]⟩,(Bd D st na x nb y (na+1) (X0R D,0)).2) else endR D ((Bd D st na x nb y (na+1) (X0R D,0)).1 na nb)
section
variable{D:MD}{st:StarO}{na:Nat}{x:Nat->Int}{nb:Nat}{y:Nat->Int}
def Pf{s:TbR × Nat}(h:s.2≠0):rsT D st i j s=s:=ifp h
theorem Hi{i j:Nat}{s:TbR × Nat}(h:(Be D st na x nb y i j s).2≠0):∀d,Be D st na x nb y i (j+d) s=Be D st na x nb y i j s
 |0=>rfl
 |d+1=>by
  show mvR D na x nb y i (j+d) 4 (rsT D st i (j+d) (Be D st na x nb y i (j+d) s))=_;rw[Hi h d,Pf h];exact Ib (k:=0) h 4
theorem Li{i:Nat}{s:TbR × Nat}(h:(Bd D st na x nb y i s).2≠0):∀d,Bd D st na x nb y (i+d) s=Bd D st na x nb y i s
 |0=>rfl
 |d+1=>by
  show Be D st na x nb y (i+d) (nb+1) (Bd D st na x nb y (i+d) s)=_;rw[Li h d];have:=Hi (D:=D) (st:=st) (na:=na) (x:=x) (nb:=nb) (y:=y) (i:=i+d) (j:=0) (s:=Bd D st na x nb y i s) h (nb+1);rw[Nat.zero_add]at this;exact this
def QI{c z:TbR × Nat}(m:c=Bd D st na x nb y i (X0R D,0))(h:Be D st na x nb y i (j+1) c=z)(d:z.2≠0)(hi:i<=na)(o:j<=nb):Cp D st na x nb y=(⟨#[]⟩,z.2):=by
 have k:Be D st na x nb y i (nb+1) c=z:=by
  have:=Hi (D:=D) (st:=st) (na:=na) (x:=x) (nb:=nb) (y:=y) (i:=i) (j:=j+1) (s:=c) (by rw[h];exact d) (nb-j);rw[show j+1+(nb-j)=nb+1 by omega,h]at this;exact this
 have g:Bd D st na x nb y (i+1) (X0R D,0)=z:=by show Be D st na x nb y i (nb+1) (Bd D st na x nb y i (X0R D,0))=z;rw[<-m];exact k
 have l:Bd D st na x nb y (na+1) (X0R D,0)=z:=by
  have:=Li (D:=D) (st:=st) (na:=na) (x:=x) (nb:=nb) (y:=y) (i:=i+1) (s:=(X0R D,0)) (by rw[g];exact d) (na-i);rw[show i+1+(na-i)=na+1 by omega,g]at this;exact this
 unfold Cp;rw[l,ifp d]
theorem YV{k:Nat}{c d z:TbR × Nat}(l:c=Bd D st na x nb y i (X0R D,0))(m:d=rsT D st i j (Be D st na x nb y i j c))(g:mvR D na x nb y i j k d=z)(h:z.2≠0)(hi:i<=na)(o:j<=nb)(p:k<=4):Cp D st na x nb y=(⟨#[]⟩,z.2):=by
 refine QI l ?_ h hi o;show mvR D na x nb y i j 4 (rsT D st i j (Be D st na x nb y i j c))=z;rw[<-m];have:=Ib (D:=D) (na:=na) (x:=x) (nb:=nb) (y:=y) (i:=i) (j:=j) (k:=k) (s:=d) (by rw[g];exact h) (4-k);rw[show k+(4-k)=4 by omega,g]at this;exact this
end
theorem KR{k:Int}{S:Nat->Nat->ByteArray}{v:Nat->ByteArray}{q:Nat}:∀(p:Nat) {s:WS},(∀j,smS (s.1 j))->∀j,smS ((rsP8 k S v q p s).1 j)
 |0,_,h=>h
 |p+1,s,h=>λj=>by
  have ih:=KR (k:=k) (S:=S) (v:=v) (q:=q) p h;unfold rsP8
  split
  ·exact ih j
  split
  ·exact ih j
  exact IX ih j
theorem KT{k:Int}{S:Nat->Nat->ByteArray}{v:Nat->ByteArray}{n:Nat}:∀(q:Nat) {s:WS},(∀j,smS (s.1 j))->∀j,smS ((rsQ8 k S v n q s).1 j)
 |0,_,h=>h
 |q+1,_,h=>KR n (KT q h)
def KI{k:Int}{st:StarO}(c:∀j,smS (v j)):∀j,smS ((rest8 k n st v).1 j):=by
 cases st with
 |none=>exact c
 |some S=>exact KT n (λ_=>Dj k)
open CSR
section
variable{k:KK}{j0:Int}(hk:k.1=j0)
def Rl8(k:KK)(n:Nat)(l:Nat->ByteArray)(v:Nat->RK k):Prop:=∀p,p<n->Sv k (l p) (v p)
include hk
theorem IY{t:Nat}{l:Nat->ByteArray}{lv:Nat->RK k}{a b:ByteArray}{x y:RK k}(h:Rl8 k n l lv)(s:t<n)(m:Sv k a x)(hb:Sv k b y)(c:(addR j0 l t a b).2=0):Rl8 k n (addR j0 l t a b).1 (λp=>if p=t then lv t+x*y else lv p):=by
 subst hk;unfold addR at c ⊢;by_cases g:(Ae k.1 a b).2≠0
 ·rw[ifp g]at c;exact absurd c g
 rw[ifn g]at c ⊢;have i:(Ae k.1 a b).2=0:=by omega
 by_cases d:(Ar k.1 (l t) (Ae k.1 a b).1).2=0
 ·rw[ifp d];have j:=Kl (h t s) (IK m hb i) d;intro p o;show Sv k (updS l t _ p) (if p=t then lv t+x*y else lv p)
  unfold updS;by_cases e:p=t
  ·rw[ifp e,ifp e];exact j
  rw[ifn e,ifn e];exact h p o
 rw[ifn d]at c;exact absurd c d
theorem LB{s:ByteArray}{x:RK k}(h:Sv k s x):s=Aj j0↔x=zero:=by subst hk;exact h.eq_zero
theorem Pb{n:Nat}{S:Nat->Nat->ByteArray}{M:Nat->Nat->RK k}{v:Nat->ByteArray}{q:Nat}{xq:RK k}(hS:∀p,p<n->Sv k (S q p) (M q p))(hv:Sv k (v q) xq):∀(p:Nat) {s:WS} {lv:Nat->RK k},p<=n->Rl8 k n s.1 lv->(rsP8 j0 S v q p s).2=0->Rl8 k n (rsP8 j0 S v q p s).1 (λr=>if r<p then lv r+xq*M q r else lv r)
 |0,s,lv,_,h,_=>λr hr=>by simp only[Nat.not_lt_zero,if_false];exact h r hr
 |p+1,s,lv,hp,h,he=>by
  have he0:(rsP8 j0 S v q p s).2=0:=by
   by_cases e:(rsP8 j0 S v q p s).2=0
   ·exact e
   unfold rsP8 at he;rw[ifp e]at he;exact absurd he e
  have ih:=Pb hS hv p (by omega) h he0;unfold rsP8 at he ⊢;rw[ifn (by omega)]at he ⊢;by_cases hc:v q=Aj j0\/S q p=Aj j0
  ·rw[ifp hc];have hz:xq*M q p=zero:=by
    rcases hc with h1|h1
    ·rw[(LB hk hv).1 h1,zm]
    rw[(LB hk (hS p (by omega))).1 h1,m0]
   intro r hr;have h1:=ih r hr;by_cases e:r<p
   ·simp only[ifp e]at h1;simp only[ifp (show r<p+1 by omega)];exact h1
   simp only[ifn e]at h1;by_cases e2:r=p
   ·subst e2;simp only[ifp (show r<r+1 by omega)];rw[hz,a0];exact h1
   simp only[ifn (show ¬r<p+1 by omega)];exact h1
  rw[ifn hc]at he ⊢;have h1:=IY hk ih (show p<n by omega) hv (hS p (by omega)) he;intro r hr;have h2:=h1 r hr;by_cases e2:r=p
  ·subst e2;simp only[if_pos,Nat.lt_irrefl,if_false]at h2;simp only[ifp (show r<r+1 by omega)];exact h2
  simp only[ifn e2]at h2;by_cases e:r<p
  ·simp only[ifp e]at h2;simp only[ifp (show r<p+1 by omega)];exact h2
  simp only[ifn e]at h2;simp only[ifn (show ¬r<p+1 by omega)];exact h2
omit hk in
theorem OZ{j:Int}{S:Nat->Nat->ByteArray}{v:Nat->ByteArray}{q:Nat}:∀(p:Nat) {s:WS},(rsP8 j S v q p s).2=0->s.2=0
 |0,_,h=>h
 |p+1,s,h=>by
  unfold rsP8 at h;by_cases e:(rsP8 j S v q p s).2≠0
  ·rw[ifp e]at h;exact absurd h e
  have e2:(rsP8 j S v q p s).2=0:=by omega
  exact OZ p e2
theorem Pe{n:Nat}{S:Nat->Nat->ByteArray}{M:Nat->Nat->RK k}{v:Nat->ByteArray}{vv:Nat->RK k}(hS:∀q p,q<n->p<n->Sv k (S q p) (M q p))(hv:∀q,q<n->Sv k (v q) (vv q)):∀(q:Nat) {s:WS} {lv:Nat->RK k},q<=n->Rl8 k n s.1 lv->(rsQ8 j0 S v n q s).2=0->Rl8 k n (rsQ8 j0 S v n q s).1 (λr=>lv r+sum (λq=>vv q*M q r) q)
 |0,s,lv,_,h,_=>λr hr=>by show Sv k _ (lv r+zero);rw[a0];exact h r hr
 |q+1,s,lv,hq,h,he=>by
  have he':(rsP8 j0 S v q n (rsQ8 j0 S v n q s)).2=0:=he;have ih:=Pe hS hv q (by omega) h (OZ n he');have h4:=Pb hk (λp hp=>hS q p (by omega) hp) (hv q (by omega)) n nlr ih he';intro r hr;have h5:=h4 r hr;simp only[ifp hr]at h5;show Sv k _ (lv r+(sum _ q+_));rw[<-aA];exact h5
end
section
variable{D:MD}(hV:VM D){k:KK}(hk:k.1=D.kind)
include hV hk
theorem KJ{st:StarO}(c:StOk k D st){vv:Nat->RK k}(h:Rl8 k D.n v vv)(j:(rest8 D.kind D.n st v).2=0):Rl8 k D.n (rest8 D.kind D.n st v).1 (rst (sil (rmOf k D)) D.n vv):=by
 cases st with
 |none=>intro p d;rw[WZ c vv d];exact h p d
 |some S =>
  have i:=Pe hk c h D.n (s:=(zerR D.kind,0)) (lv:=λ_=>zero) nlr (λp _=>by rw[<-hk];exact Sv.zero) j;intro p d;have g:Sv k _ (zero+sum (λq=>vv q*starM (sil (rmOf k D)) D.n q p) D.n):=i p d;rw[z0]at g;exact g
theorem LY{i o:Int}{v:Nat->ByteArray}{q:Nat}{xq:RK k}(hq:q<D.n)(hv:Sv k (v q) xq):∀(d:Nat) {s:WS} {lv:Nat->RK k},d<=D.na q->Rl8 k D.n s.1 lv->(AI D i o v q d s).2=0->Rl8 k D.n (AI D i o v q d s).1 (λp=>lv p+sum (λd=>if (rmOf k D).ain q d=i/\(rmOf k D).aout q d=o/\(rmOf k D).ato q d=p then xq*(rmOf k D).aw q d else zero) d)
 |0,s,lv,_,h,_=>λp hp=>by show Sv k _ (lv p+zero);rw[a0];exact h p hp
 |d+1,s,lv,hd,h,he=>by
  have he0:(AI D i o v q d s).2=0:=by
   by_cases e:(AI D i o v q d s).2=0
   ·exact e
   unfold AI arcR at he;rw[ifp e]at he;exact absurd he e
  have ih:=LY hq hv (i:=i) (o:=o) d (by omega) h he0;unfold AI arcR at he ⊢;rw[ifn (by omega)]at he ⊢;have ha:=hV.arc q d hq (by omega);have ht:(D.ato q d).toNat<D.n:=by have:=ha.t0;have:=ha.t1;omega
  intro p hp;show Sv k _ (lv p+(sum _ d+(if D.ain q d=i/\D.aout q d=o/\(D.ato q d).toNat=p then xq*wval k (D.aw q d) else zero)))
  by_cases hm:D.ain q d=i/\D.aout q d=o
  ·rw[ifp hm]at he ⊢;have h1:=IY hk ih ht hv (GJ hk ha.wt) he p hp;by_cases e:p=(D.ato q d).toNat
   ·simp only[ifp e]at h1;rw[ifp ⟨hm.1,hm.2,e.symm⟩,<-aA];subst e;exact h1
   simp only[ifn e]at h1;rw[ifn (λh=>e h.2.2.symm),a0];exact h1
  rw[ifn hm,ifn (λh=>hm ⟨h.1,h.2.1⟩),a0];exact ih p hp
theorem La{i o:Int}{v:Nat->ByteArray}{vv:Nat->RK k}(hv:Rl8 k D.n v vv):∀(q:Nat) {s:WS} {lv:Nat->RK k},q<=D.n->Rl8 k D.n s.1 lv->(An D i o v q s).2=0->Rl8 k D.n (An D i o v q s).1 (λp=>lv p+stq (rmOf k D) i o vv q p)
 |0,s,lv,_,h,_=>λp hp=>by show Sv k _ (lv p+zero);rw[a0];exact h p hp
 |q+1,s,lv,hq,h,he=>by
  have he0:(An D i o v q s).2=0:=by
   by_cases e:(An D i o v q s).2=0
   ·exact e
   have h1:An D i o v (q+1) s=An D i o v q s:=Gw e 1;rw[h1]at he;exact absurd he e
  have ih:=La hv (i:=i) (o:=o) q (by omega) h he0;have hvq:=hv q (by omega);unfold An rowR at he ⊢;intro p hp;show Sv k _ (lv p+(stq (rmOf k D) i o vv q p+sum _ _));by_cases hz:v q=Aj D.kind
  ·rw[ifp hz];rw[sum_congr (g:=λ_=>zero) (λd _=>by split;exact(by rw[(LB hk hvq).1 hz,zm]);rfl),sum_zero,a0];exact ih p hp
  rw[ifn hz]at he ⊢;have h1:=LY hV hk (show q<D.n by omega) hvq (D.na q) nlr ih he p hp;rw[<-aA];exact h1
omit hV in
theorem PP{n:Nat}{a b:Nat->ByteArray}{av bv:Nat->RK k}(ha:Rl8 k n a av)(hb:Rl8 k n b bv):∀m,m<=n->(sumR D.kind a b m).2=0->Rl8 k m (sumR D.kind a b m).1 (λp=>av p+bv p)
 |0,_,_=>λp hp=>absurd hp (Nat.not_lt_zero p)
 |m+1,hm,he=>by
  have he0:(sumR D.kind a b m).2=0:=by
   by_cases e:(sumR D.kind a b m).2=0
   ·exact e
   have h1:=Lf (k:=D.kind) (a:=a) (b:=b) e 1;rw[h1]at he;exact absurd he e
  have ih:=PP ha hb m (by omega) he0;unfold sumR at he ⊢;rw[ifn (by omega)]at he ⊢;by_cases hp:(Ar D.kind (a m) (b m)).2≠0
  ·rw[ifp hp]at he;exact absurd he hp
  rw[ifn hp];intro p hpm;show Sv k (updS _ m _ p) _;unfold updS;by_cases e:p=m
  ·rw[ifp e,e];have h1:(Ar k.1 (a m) (b m)).2=0:=by
    have h0:(Ar D.kind (a m) (b m)).2=0:=by omega
    exact(congrArg (λz=>(Ar z (a m) (b m)).2) hk).trans h0
   have h2:=Kl (ha m (by omega)) (hb m (by omega)) h1;have h3:(Ar k.1 (a m) (b m)).1=(Ar D.kind (a m) (b m)).1:=congrArg (λz=>(Ar z (a m) (b m)).1) hk;rw[<-h3];exact h2
  rw[ifn e];exact ih p (by omega)
theorem JH{v:Nat->ByteArray}{vv:Nat->RK k}(hv:Rl8 k D.n v vv):∀q,q<=D.n->(finR D v q).2=0->Sv k ((finR D v q).1 0) (dot q vv (rmOf k D).fin)
 |0,_,_=>by show Sv k (Aj D.kind) zero;rw[<-hk];exact Sv.zero
 |q+1,hq,he=>by
  have he0:(finR D v q).2=0:=by
   by_cases e:(finR D v q).2=0
   ·exact e
   have h1:=JG (D:=D) (v:=v) e 1;rw[h1]at he;exact absurd he e
  have ih:=JH hv q (by omega) he0;unfold finR at he ⊢;have hd:dot (q+1) vv (rmOf k D).fin=dot q vv (rmOf k D).fin+vv q*(rmOf k D).fin q:=rfl;rw[ifn (by omega)]at he ⊢;rw[hd];by_cases hf:D.fin q=⟨#[]⟩
  ·rw[ifp hf];have hz:(rmOf k D).fin q=zero:=ifp hf;rw[hz,m0,a0];exact ih
  rw[ifn hf]at he ⊢;have hw:=GJ hk ((hV.fin q (by omega)).resolve_left hf);have hft:(rmOf k D).fin q=wval k (D.fin q):=ifn hf;have h1:=IY hk (n:=1) (t:=0) (lv:=λ_=>dot q vv (rmOf k D).fin) (l:=(finR D v q).1) (λp hp=>by rw[show p=0 by omega];exact ih) (by omega) (hv q (by omega)) hw he 0 (by omega);simp only[if_pos]at h1;rw[hft];exact h1
abbrev TbK(k:KK):=Nat->Nat->Nat->RK k
def Br{k:KK}(U:TbK k)(a b:Nat)(u:Nat->RK k):TbK k:=λi j=>if i=a/\j=b then u else U i j
def Rt8(k:KK)(n:Nat)(X:TbR)(U:TbK k):Prop:=∀i j,Rl8 k n (X i j) (U i j)
omit hV hk in
theorem Rt8.upd{X:TbR}{U:TbK k}(h:Rt8 k n X U){a b:Nat}{vv:Nat->RK k}(hv:Rl8 k n v vv):Rt8 k n (updT X a b v) (Br U a b vv):=by
 intro i j;unfold updT Br;by_cases e:i=a/\j=b
 ·rw[ifp e,ifp e];exact hv
 rw[ifn e,ifn e];exact h i j
variable{na:Nat}{x:Nat->Int}{nb:Nat}{y:Nat->Int}{st:StarO}
theorem JQ{u v:Nat}{s:TbR × Nat}{U:TbK k}{f:Nat->RK k}(h:Rt8 k D.n s.1 U)(hf:∀p,p<D.n->U i j p=f p)(c:(kR D na x nb y i j u v s).2=0):
  s.2=0/\Rt8 k D.n (kR D na x nb y i j u v s).1 (if na<i+u\/nb<j+v then U else Br U (i+u) (j+v) (λp=>U (i+u) (j+v) p+stp (rmOf k D) (if u=1 then x i else 0) (if v=1 then y j else 0) f p)):=by
 unfold kR at c ⊢;by_cases A:s.2≠0
 ·rw[ifp (.inl A)]at c;exact absurd c A
 refine⟨by omega,?_⟩;by_cases g:na<i+u\/nb<j+v
 ·rw[ifp (.inr g),ifp g];exact h
 have l:¬(s.2≠0\/na<i+u\/nb<j+v):=by omega
 rw[ifn l]at c ⊢;rw[ifn g];by_cases m:(An D (if u=1 then x i else 0) (if v=1 then y j else 0) (s.1 i j) D.n (zerR D.kind,0)).2≠0
 ·rw[ifp m]at c;exact absurd c m
 rw[ifn m]at c ⊢;have C:=La hV hk (i:=if u=1 then x i else 0) (o:=if v=1 then y j else 0) (vv:=f) (λp d=>by rw[<-hf p d];exact h i j p d) D.n (s:=(zerR D.kind,0)) (lv:=λ_=>zero) nlr (λp _=>by rw[<-hk];exact Sv.zero) (by omega)
 by_cases z:(sumR D.kind (s.1 (i+u) (j+v)) (An D (if u=1 then x i else 0) (if v=1 then y j else 0) (s.1 i j) D.n (zerR D.kind,0)).1 D.n).2≠0
 ·rw[ifp z]at c;exact absurd c z
 rw[ifn z];refine h.upd ?_;have E:=PP hk (h (i+u) (j+v)) C D.n nlr (by omega);intro p d;have B:Sv k _ (U (i+u) (j+v) p+(zero+stq (rmOf k D) (if u=1 then x i else 0) (if v=1 then y j else 0) f D.n p)):=E p d
 rw[z0]at B;exact B
theorem Sd(J:StOk k D st)(hi:i<=na)(W:j<=nb){s:TbR × Nat}{U:TbK k}(h:Rt8 k D.n s.1 U)(B:(mvR D na x nb y i j 4 (rsT D st i j s)).2=0):
  s.2=0/\∃U' f,Rt8 k D.n (mvR D na x nb y i j 4 (rsT D st i j s)).1 U'/\Cell (rmOf k D) na x nb y i j f (U i) (U (i+1)) (U' i) (U' (i+1))/\(∀p,p<D.n->U' i j p=f p)/\∀i' j',i'≠i->i'≠i+1->U' i' j'=U i' j':=by
 have O:mvR D na x nb y i j 4 (rsT D st i j s)=kR D na x nb y i j 1 1 (kR D na x nb y i j 0 1 (kR D na x nb y i j 1 0 (rsT D st i j s))):=rfl;rw[O]at B ⊢;have l:∀{t:TbR × Nat} {u v:Nat},(kR D na x nb y i j u v t).2=0->t.2=0:=λ{t u v} h=>by
  unfold kR at h;by_cases P:t.2≠0
  ·rw[ifp (.inl P)]at h;exact absurd h P
  omega
 have z:=l B;have o:=l z;have c:=l o;have I:s.2=0:=by
  by_cases e:s.2=0
  ·exact e
  rw[Pf e]at c;exact c
 refine⟨I,?_⟩;obtain⟨f,hf⟩:=exq<|rst (sil (rmOf k D)) D.n (U i j);have Q:Rt8 k D.n (rsT D st i j s).1 (Br U i j f):=by
  unfold rsT at c ⊢;rw[ifn (by omega)]at c ⊢;by_cases g:(rest8 D.kind D.n st (s.1 i j)).2≠0
  ·rw[ifp g]at c;exact absurd c g
  rw[ifn g,hf];exact h.upd<|KJ hV hk J (h i j) (by omega)
 have N:∀p,p<D.n->Br U i j f i j p=f p:=λp _=>by unfold Br;rw[ifp ⟨rfl,rfl⟩]
 have r1:=(JQ hV hk (u:=1) (v:=0) Q N o).2;generalize hU1:(if na<i+1\/nb<j+0 then Br U i j f else Br (Br U i j f) (i+1) (j+0) (λp=>Br U i j f (i+1) (j+0) p+stp (rmOf k D) (if (1:Nat)=1 then x i else 0) (if (0:Nat)=1 then y j else 0) f p))=U1 at r1
 have C:∀p,p<D.n->U1 i j p=f p:=λp d=>by
  rw[<-hU1];split
  ·exact N p d
  unfold Br;rw[ifn (by omega),ifp ⟨rfl,rfl⟩]
 have K:=(JQ hV hk (u:=0) (v:=1) r1 C z).2;generalize hU2:(if na<i+0\/nb<j+1 then U1 else Br U1 (i+0) (j+1) (λp=>U1 (i+0) (j+1) p+stp (rmOf k D) (if (0:Nat)=1 then x i else 0) (if (1:Nat)=1 then y j else 0) f p))=U2 at K
 have E:∀p,p<D.n->U2 i j p=f p:=λp d=>by
  rw[<-hU2];split
  ·exact C p d
  unfold Br;rw[ifn (by omega)];exact C p d
 have L:=(JQ hV hk (u:=1) (v:=1) K E B).2;generalize hU3:(if na<i+1\/nb<j+1 then U2 else Br U2 (i+1) (j+1) (λp=>U2 (i+1) (j+1) p+stp (rmOf k D) (if (1:Nat)=1 then x i else 0) (if (1:Nat)=1 then y j else 0) f p))=U3 at L
 have R:∀p,p<D.n->U3 i j p=f p:=λp d=>by
  rw[<-hU3];split
  ·exact E p d
  unfold Br;rw[ifn (by omega)];exact E p d
 simp only[Nat.add_zero,if_true,show ((0:Nat)=1)=False by simp,if_false]at hU1 hU2 hU3;refine⟨U3,f,L,⟨λp d=>by rw[hf];rfl,λH p d=>?_,λj' g A F p d=>?_,λH p d=>?_,λH T p d=>?_,λH j' g A F p d=>?_⟩,R,λi' j' g A=>?_⟩
 all_goals
  clear r1 K L N C E R Q B o z c l O;subst hU3 hU2 hU1
 ·have c1:¬nb<j+1:=by omega
  have c2:¬na<i:=by omega
  have c3:¬nb<j:=by omega
  by_cases g:na<i+1<;>simp[Br,c1,c2,c3,g]
 ·have S:j'≠j:=by omega
  have c2:¬na<i:=by omega
  have c3:¬nb<j:=by omega
  by_cases G:na<i+1<;>by_cases m:nb<j+1<;>simp[Br,c2,c3,G,m,S,F]
 ·have c1:¬na<i+1:=by omega
  have c2:¬na<i:=by omega
  have c3:¬nb<j:=by omega
  by_cases m:nb<j+1<;>simp[Br,c1,c2,c3,m]
 ·have c1:¬na<i+1:=by omega
  have c2:¬na<i:=by omega
  have c3:¬nb<j:=by omega
  have c4:¬nb<j+1:=by omega
  simp[Br,c1,c2,c3,c4]
 ·have c1:¬na<i+1:=by omega
  have c2:¬na<i:=by omega
  have c3:¬nb<j:=by omega
  by_cases m:nb<j+1<;>simp[Br,c1,c2,c3,m,A,F]
 have c2:¬na<i:=by omega
 have c3:¬nb<j:=by omega
 by_cases G:na<i+1<;>by_cases m:nb<j+1<;>simp[Br,c2,c3,G,m,g,A]
theorem Mv(hst:StOk k D st){i:Nat}(hi:i<=na)(hx:∀i,i<na->x i≠0)(hy:∀j,j<nb->y j≠0){s:TbR × Nat}{U:TbK k}(h:Rt8 k D.n s.1 U):∀j,j<=nb+1->(Be D st na x nb y i j s).2=0 ->
  s.2=0/\∃U',Rt8 k D.n (Be D st na x nb y i j s).1 U'/\(phi (rmOf k D) na x nb y i 0 (U i) (U (i+1))=(if i=na/\j=nb+1 then dot D.n (U' na nb) (rmOf k D).fin else zero)+phi (rmOf k D) na x nb y i j (U' i) (U' (i+1)))/\∀i' j',i'≠i->i'≠i+1->U' i' j'=U i' j'
 |0,_,he=>⟨he,U,h,by rw[ifn (by omega),z0],λ_ _ _ _=>rfl⟩
 |j+1,hj,he=>by
  have he':(mvR D na x nb y i j 4 (rsT D st i j (Be D st na x nb y i j s))).2=0:=he;have h0:(Be D st na x nb y i j s).2=0:=by
   by_cases e:(Be D st na x nb y i j s).2=0
   ·exact e
   have:=Hi (D:=D) (st:=st) (na:=na) (x:=x) (nb:=nb) (y:=y) e 1;rw[this]at he;exact absurd he e
  obtain⟨hs0,U1,hU1,hphi,hot⟩:=Mv hst hi hx hy h j (by omega) h0;obtain⟨_,U2,f,hU2,hc,hf,hot2⟩:=Sd hV hk hst hi (show j<=nb by omega) hU1 he';refine⟨hs0,U2,hU2,?_,λi' j' h1 h2=>by rw[hot2 i' j' h1 h2,hot i' j' h1 h2]⟩;rw[hphi,ifn (by omega),z0,Cell.phi hx hy (hV.inn k) hc hi (by omega)]
  congr 1
  by_cases e:i=na/\j=nb
  ·obtain⟨rfl,rfl⟩:=e;rw[ifp ⟨rfl,rfl⟩];have hd:=Tn (A:=rmOf k D) (na:=i) (nb:=j) f;rw[hd];exact(BP (n:=D.n) (λp hp=>hf p hp) (λ_ _=>rfl)).symm
  rw[ifn (λh=>e ⟨h.1,by omega⟩)];exact Tm (A:=rmOf k D) f e
theorem PX(hst:StOk k D st)(hx:∀i,i<na->x i≠0)(hy:∀j,j<nb->y j≠0):∀m,m<=na+1->(Bd D st na x nb y m (X0R D,0)).2=0 ->
  ∃U:TbK k,Rt8 k D.n (Bd D st na x nb y m (X0R D,0)).1 U/\(∀i j,m<i->∀p,p<D.n->U i j p=zero)/\(if m<=na then phi (rmOf k D) na x nb y m 0 (U m) (U (m+1))=rel (rmOf k D) (ls x na 0) (ls y nb 0) else dot D.n (U na nb) (rmOf k D).fin=rel (rmOf k D) (ls x na 0) (ls y nb 0))
 |0,_,_=>by
  refine⟨λi j p=>if i=0/\j=0 then (if p=(rmOf k D).start then (rmOf k D).lead else zero) else zero,λi j p hp=>?_,λi j hi p _=>?_,?_⟩
  ·show Sv k (X0R D i j p) _;unfold X0R;by_cases e:i=0/\j=0
   ·rw[ifp e];simp only[ifp e];unfold updS;by_cases e2:p=D.start.toNat
    ·rw[ifp e2,ifp (show p=(rmOf k D).start from e2)];exact GJ hk hV.lead
    rw[ifn e2,ifn (show ¬p=(rmOf k D).start from e2)];show Sv k (Aj D.kind) zero;rw[<-hk];exact Sv.zero
   rw[ifn e];simp only[ifn e];show Sv k (Aj D.kind) zero;rw[<-hk];exact Sv.zero
  ·simp only[ifn (show ¬(i=0/\j=0) by omega)]
  rw[ifp (by omega)];exact VO (hV.inn k) (hV.stn k) (λp _=>by simp) (λj h1 _ p _=>by simp;omega) (λj _ p _=>by simp)
 |m+1,hm,he=>by
  have he':(Be D st na x nb y m (nb+1) (Bd D st na x nb y m (X0R D,0))).2=0:=he;have h0:(Bd D st na x nb y m (X0R D,0)).2=0:=by
   by_cases e:(Bd D st na x nb y m (X0R D,0)).2=0
   ·exact e
   have:=Li (D:=D) (st:=st) (na:=na) (x:=x) (nb:=nb) (y:=y) e 1;rw[this]at he;exact absurd he e
  obtain⟨U,hU,hz,hT⟩:=PX hst hx hy m (by omega) h0;rw[ifp (by omega)]at hT;obtain⟨_,U',hU',hphi,hot⟩:=Mv hV hk hst (show m<=na by omega) hx hy hU (nb+1) nlr he';rw[hT]at hphi;have hz':∀i j,m+1<i->∀p,p<D.n->U' i j p=zero:=λi j hi p hp=>by rw[hot i j (by omega) (by omega)];exact hz i j (by omega) p hp
  refine⟨U',hU',hz',?_⟩;by_cases e:m+1<=na
  ·rw[ifp e];rw[ifn (by omega),z0,VN (show m<na by omega) (next':=U' (m+1+1)) (λj _ p hp=>hz' _ j (by omega) p hp)]at hphi;exact hphi.symm
  rw[ifn e];have hmn:m=na:=by omega
  rw[ifp ⟨hmn,rfl⟩,hmn,VL,a0]at hphi;exact hphi.symm
theorem YW(h:StOk k D st)(o:∀i,i<na->x i≠0)(p:∀j,j<nb->y j≠0)(c:(Cp D st na x nb y).2=0):Sv k (Cp D st na x nb y).1 (rel (rmOf k D) (ls x na 0) (ls y nb 0)):=by
 unfold Cp at c ⊢;by_cases d:(Bd D st na x nb y (na+1) (X0R D,0)).2≠0
 ·rw[ifp d]at c;exact absurd c d
 rw[ifn d]at c ⊢;obtain⟨U,m,_,l⟩:=PX hV hk h o p (na+1) nlr (by omega);rw[ifn (by omega)]at l;unfold endR at c ⊢;by_cases g:(finR D ((Bd D st na x nb y (na+1) (X0R D,0)).1 na nb) D.n).2≠0
 ·rw[ifp g]at c;exact absurd c g
 rw[ifn g];rw[<-l];exact JH hV hk (m na nb) D.n nlr (by omega)
end
end
section
open Go.RowKit Go.Deep
def RsE8(n vb:Nat)(z:WS)(w:World)(r:Ending)(w':World):Prop:=Below w.heap.size w w'/\((z.2=0/\∃g,r=.returned (.tuple #[.slice (some (Ad g 0)) n n,.int .i64 0])/\(g=vb\/w.heap.size<=g)/\w'.rowIs g 9 n (λj=>.string (z.1 j)))\/(z.2≠0/\r=.returned (.tuple #[.slice none 0 0,.int .i64 (z.2:Int)])))
def StV.below{w w':World}{c:Value}{n:Nat}{st:StarO}(h:StV w c n st)(hb:Below w.heap.size w w'):StV w' c n st:=by
 cases st with
 |none=>exact h
 |some S=>exact⟨h.1.kept (Ab hb none),h.2⟩
theorem KS{k:Int}{S:Nat->Nat->ByteArray}{v:Nat->ByteArray}{q:Nat}{p:Nat}{s:WS}(h:(rsP8 k S v q p s).2≠0):∀d,rsP8 k S v q (p+d) s=rsP8 k S v q p s
 |0=>rfl
 |d+1=>by
  show (if (rsP8 k S v q (p+d) s).2≠0 then rsP8 k S v q (p+d) s else _)=_
  rw[KS h d,ifp h]
theorem Pd{k:Int}{S:Nat->Nat->ByteArray}{v:Nat->ByteArray}{n q:Nat}{s:WS}(h:(rsQ8 k S v n q s).2≠0):∀d,rsQ8 k S v n (q+d) s=rsQ8 k S v n q s
 |0=>rfl
 |d+1=>by
  show rsP8 k S v (q+d) n (rsQ8 k S v n (q+d) s)=_;rw[Pd h d];have:=KS (k:=k) (S:=S) (v:=v) (q:=q+d) (p:=0) (s:=rsQ8 k S v n q s) h n;rw[Nat.zero_add]at this;exact this
def OO{D:MD}{a:Option Addr}{cp vb:Nat}{v:Nat->ByteArray}{f2:Value}{st:StarO}(w:World)(hV:VM D)(a7:w.rowIs vb 9 D.n (λj=>.string (v j)))(e7:∀j,smS (v j))(h6:StV w f2 D.n st):
  Calls prog 64 #[.agg #[.int .i64 D.kind,.int .i64 D.start,.string D.lead,.slice a D.n cp],.slice (some (Ad vb 0)) D.n D.n,f2] w (RsE8 D.n vb (rest8 D.kind D.n st v) w):=by
 obtain⟨w1,G⟩:=exq<|w.alloc (.cells #[.int .i64 D.kind,.int .i64 D.start,.string D.lead,.slice a D.n cp] 25);have a1:Fr (λ_=>False) w w1:=by rw[G];exact Fr.alloc _ _
 have b2:Below w.heap.size w w1:=a1.below nlr (λ_ e=>e.elim);cases st with
 |none =>
  have i8:f2=.slice none 0 0:=h6;subst i8;have HB:=qh b2;clear b2;have HR:=qh<|a1.row a7 (λe=>e);clear a7 a1;have hq:=λw=>MN 96 100 underlying96 w none 0 0
  go_enter func64,ntmps64
  go_wp2;go_ret2;rw[<-G];exact⟨HB.o,.inl ⟨rfl,vb,rfl,.inl rfl,HR.o⟩⟩
 |some S =>
  obtain⟨g6,e5⟩:=h6;obtain⟨sa,sc,sb,so,A,C,B,O,rfl,ha,_,_,h5,a2⟩:=g6.open;have j3:=hV.n1;have g7:=hV.n2;obtain rfl:=ha (by omega);clear ha;replace a2:=qh a2;have d5:=qh (h5 (by omega)).1;clear h5;replace e5:=qh e5;clear g6;obtain⟨U,b5⟩:=exq<|w.heap.size;have i9:w1.heap.size=w.heap.size+1:=by rw[G];simp
  have J:BxM w1 U D (.slice a D.n cp):=by rw[G,b5];exact BxM.new w D _
  have hz:=FB (D:=D) (a:=a) (cap:=cp) w1 g7;have HZ:=qh hz;clear hz;have d0:=qh b2;clear b2;have f8:=qh<|a1.row a7 (λe=>e);have i6:=qh a7.lt;have f5:=qh J;obtain⟨kz,b3⟩:=exq<|Aj D.kind;replace b3:=qh b3;replace e7:=qh e7;have i4:=qh (show U<w1.heap.size by omega);have f7:=qh (show w.heap.size<=w1.heap.size by omega);obtain⟨m0,m1,m2,m3⟩:_/\_/\_/\_:=⟨cellOf J 0 rfl,cellOf J 1 rfl,cellOf J 2 rfl,cellOf J 3 rfl⟩;clear a7 a1 J i9 hV;have l0:=m0;have l1:=m1;have l2:=m2;have l3:=m3;rw[G,b5]at l0 l1 l2 l3;have hq:=λw=>MN 96 100 underlying96 w (some (Ad sb so)) D.n sc;rw[show (some ((Ad sb so):Addr)).isNone=false from rfl]at hq;obtain⟨T,R⟩:∃T:WS,T=(zerR D.kind,0):=⟨_,rfl⟩;have h3:rest8 D.kind D.n (some S) v=rsQ8 D.kind S v D.n D.n T:=by rw[R];rfl
  rw[h3];replace R:=qh R;clear h3
  go_enter func64,ntmps64
  go_wp2_with fail
  rw[<-G,<-b5];clear G b5 l0 l1 l2 l3 m0 m1 m2 m3 hq;refine HZ.o.mono ?_;rintro rr w2⟨e0,lb,rfl,g5,h4⟩;have e3:Fr (λ_=>False) w1 w2:=Fr.of_below e0;have m:=qh (show StI w w2 U vb lb D (.slice a D.n cp) v (rsQ8 D.kind S v D.n 0 T).1 from
   ⟨f5.o.kept e3 (λe=>e),e3.row f8.o (λe=>e),by show w2.rowIs lb 9 D.n (λj=>.string (T.1 j));rw[R.o];exact h4,d0.o.trans (e0.mono d0.o.size),Nat.le_trans f7.o g5,by have:=i4.o;omega,by have:=i6.o;have:=f7.o;omega⟩)
  have a8:T.2=0:=by rw[R.o]
  replace a8:=qh a8;clear e0 e3 g5 h4 HZ d0 f5 f8
  go_wp2_with fail
  go_loopw [9] (λv9 wr=>∃q:Nat,q<=D.n/\v9=.int .i64 (q:Int)/\(rsQ8 D.kind S v D.n q T).2=0/\StI w wr U vb lb D (.slice a D.n cp) v (rsQ8 D.kind S v D.n q T).1) (λv9 _=>D.n-(intOf v9).toNat)
  case atStart=>exact⟨0,Nat.zero_le _,rfl,a8.o,m.o⟩
  obtain⟨q,hq,rfl,L,hi⟩:=hrel;clear m;have m:=qh hi;clear hi;by_cases b4:q<D.n
  ·have j5:(q:Int)<(D.n:Int):=by omega
   have j2:(0:Int)<=(q:Int):=by omega
   obtain⟨s0,b7⟩:=exq<|rsQ8 D.kind S v D.n q T;have a5:∀j,smS (s0.1 j):=by rw[b7,R.o];exact KT q (λ_=>Dj D.kind)
   have b6:rsQ8 D.kind S v D.n (q+1) T=rsP8 D.kind S v q D.n s0:=by rw[b7];rfl
   rw[<-b7]at m L;replace b6:=qh b6;clear b7;replace a5:=qh a5;have i2:=qh L;clear L;obtain⟨H,P⟩:=exq<|v q;replace P:=qh P;obtain⟨t0,t1,t2,t3,t4,t5,t6⟩:=a2.o q b4;obtain⟨aq,g0⟩:=exq<|A q;rw[<-g0]at t0 t3;replace t0:=qh t0;have i5:=qh<|t3 (by omega);clear t3;have d6:=qh (t4 (by omega)).1;clear t4;replace t6:=qh t6;clear t5 t1 t2 g0
   go_wp2_with fail
   go_loopw [10] (λf3 wr=>∃p:Nat,p<=D.n/\f3=.int .i64 (p:Int)/\(rsP8 D.kind S v q p s0).2=0/\StI w wr U vb lb D (.slice a D.n cp) v (rsP8 D.kind S v q p s0).1) (λf3 _=>D.n-(intOf f3).toNat)
   case atStart=>exact⟨0,Nat.zero_le _,rfl,i2.o,m.o⟩
   obtain⟨p,hp,rfl,F,hi⟩:=hrel;clear m;by_cases e4:p<D.n
   ·have j4:(p:Int)<(D.n:Int):=by omega
    have j1:(0:Int)<=(p:Int):=by omega
    obtain⟨s1,b8⟩:=exq<|rsP8 D.kind S v q p s0;have a6:∀j,smS (s1.1 j):=by rw[b8];exact KR p a5.o
    obtain⟨x,hx⟩:=exq<|S q p;have f0:smS x:=by rw[hx];exact e5.o q p b4 e4
    rw[<-b8]at hi F;have a4:rsP8 D.kind S v q (p+1) s0=if H=kz\/x=kz then s1 else addR D.kind s1.1 p H x:=by
     show (if (rsP8 D.kind S v q p s0).2≠0 then rsP8 D.kind S v q p s0 else _)=_
     rw[<-b8,ifn (by omega),hx,P.o,b3.o]
    have c6:=t6.o p e4;rw[<-hx]at c6;have g:=qh a4;clear a4 b8 hx;replace a6:=qh a6;replace f0:=qh f0;have i3:=qh F;clear F;have m:=qh hi;clear hi;have d1:=qh c6;clear c6;obtain rfl:=i5.o;have Z:∀W,Fr (λ_=>False) wr W->(λh:World=>h.cell? (Ad vb q)=some (.string H)/\h.cell? (Ad U 0)=some (.int .i64 D.kind)/\h.cell? (Ad sb (so+q))=some (.slice (some (Ad (B q) (O q))) D.n (C q))/\h.cell? (Ad (B q) (O q+p))=some (.string x)) W:=λW hf=>by
     have Y:=m.o.be.trans<|hf.below m.o.be.size (λ_ e=>e.elim);exact⟨hf.cell (by rw[P.o];exact m.o.rv.cell b4) (λe=>e),hf.cell (cellOf m.o.bx 0 rfl) (λe=>e),(Y.cell (p:=(Ad sb (so+q))) d5.o).trans t0.o,(Y.cell (p:=(Ad (B q) (O q+p))) d6.o).trans d1.o⟩
    have l:=qh Z;clear Z;obtain⟨wd,e8⟩:=exq<|wr.drew;have g3:Fr (λ_=>False) wr wd:=by rw[e8];exact Fr.of_below<|(Below.refl wr.heap.size wr).drew
    have d4:=qh g3;clear g3;have f1:=λW=>DG D.kind W;rw[<-b3.o]at f1;have d8:=qh f1;clear f1
    go_wp2_with fail
    have E:=l.o wd d4.o;refine AB (λh:World=>h.cell? (Ad vb q)=some (.string H)/\h.cell? (Ad U 0)=some (.int .i64 D.kind)/\h.cell? (Ad sb (so+q))=some (.slice (some (Ad (B q) (O q))) D.n (C q))/\h.cell? (Ad (B q) (O q+p))=some (.string x)) 20 (by kernel_rfl) ?_;rw[<-e8];clear e8;refine Aa.tm 0 E ?_;refine Aa.tm 1 E ?_;refine Aa.tm 2 E ?_;refine Aa.tm 3 E ?_;refine Aa.tm 4 E ?_;refine Aa.tm 5 E ?_
    try simp only[Act.put,tryL]
    refine Aa.on 6 λK o=>?_;go_simp;refine(d8.o wd).mono ?_;rintro rr w3⟨rfl,g1⟩;have a9:=qh<|d4.o.trans (Fr.of_below g1);have c:=l.o w3 a9.o;clear g1 E;refine o.out _ _ (.inr c) ?_;clear o K
    try simp only[Act.put,tryL]
    refine Aa.tm 7 c ?_;refine Aa.tm 8 c ?_
    try simp only[Act.put,tryL]
    cases hO:(H.toList==kz.toList)
    focus
     have e6:¬H=kz:=λe=>by rw[e]at hO;simp at hO
     refine Aa.tm 9 c ?_;refine Aa.tm 10 c ?_;refine Aa.tm 11 c ?_;refine Aa.tm 12 c ?_;refine Aa.tm 13 c ?_;refine Aa.tm 14 c ?_;refine Aa.tm 15 c ?_;refine Aa.tm 16 c ?_;refine Aa.tm 17 c ?_
     try simp only[Act.put,tryL]
     refine Aa.on 18 λK o=>?_;go_simp;refine(d8.o w3).mono ?_;rintro rr w4⟨rfl,g2⟩;have d3:=qh<|a9.o.trans (Fr.of_below g2);have b1:=l.o w4 d3.o;clear g2 c;refine o.out _ _ (.inr b1) ?_;clear o K
     try simp only[Act.put,tryL]
     refine Aa.tm 19 b1 ?_
     try simp only[Act.put,tryL]
     refine Aa.on 20 λK o=>?_;go_simp;refine o.out _ _ (.inl rfl) (Aa.dn ?_);clear o K;cases hX:(x.toList==kz.toList)
     ·have h9:¬x=kz:=λe=>by rw[e]at hX;simp at hX
      have HN:=qh<|g.o.trans (ifn (λe=>e.elim e6 h9));clear e6 h9 g;have i:=qh<|m.o.new d3.o;clear b1 l m a9 d4 d8;obtain⟨z,hz⟩:=exq<|addR D.kind s1.1 p H x;rw[<-hz]at HN;have b9:smS H:=by rw[P.o];exact e7.o q
      have d9:=λW (hf:Fr (λ_=>False) w4 W)=>FD (k:=D.kind) (t:=p) (a:=H) (b:=x) W ((i.o.new hf).rl) e4 g7 (a6.o p) b9 f0.o;rw[<-hz]at d9;have f4:=qh d9;clear d9 hz b9;have Z:∀W,Fr (λ_=>False) w4 W->(λh:World=>h.cell? (Ad vb q)=some (.string H)/\h.cell? (Ad U 0)=some (.int .i64 D.kind)/\h.cell? (Ad sb (so+q))=some (.slice (some (Ad (B q) (O q))) D.n (C q))/\h.cell? (Ad (B q) (O q+p))=some (.string x)) W:=λW hf=>by
       have Y:=i.o.be.trans<|hf.below i.o.be.size (λ_ e=>e.elim);exact⟨hf.cell (by rw[P.o];exact i.o.rv.cell b4) (λe=>e),hf.cell (cellOf i.o.bx 0 rfl) (λe=>e),(Y.cell (p:=(Ad sb (so+q))) d5.o).trans t0.o,(Y.cell (p:=(Ad (B q) (O q+p))) d6.o).trans d1.o⟩
      have l:=qh Z;clear Z d1;obtain⟨we,e9⟩:=exq<|w4.drew;have g4:Fr (λ_=>False) w4 we:=by rw[e9];exact Fr.of_below<|(Below.refl w4.heap.size w4).drew
      have b0:=qh g4;clear g4
      go_wp2_with fail
      have d:=l.o we b0.o;refine AB (λh:World=>h.cell? (Ad vb q)=some (.string H)/\h.cell? (Ad U 0)=some (.int .i64 D.kind)/\h.cell? (Ad sb (so+q))=some (.slice (some (Ad (B q) (O q))) D.n (C q))/\h.cell? (Ad (B q) (O q+p))=some (.string x)) 16 (by kernel_rfl) ?_;rw[<-e9];clear e9;refine Aa.tm 0 d ?_;refine Aa.tm 1 d ?_;refine Aa.tm 2 d ?_;refine Aa.tm 3 d ?_;refine Aa.tm 4 d ?_;refine Aa.tm 5 d ?_;refine Aa.tm 6 d ?_;refine Aa.tm 7 d ?_;refine Aa.tm 8 d ?_;refine Aa.tm 9 d ?_;refine Aa.tm 10 d ?_;refine Aa.tm 11 d ?_;refine Aa.tm 12 d ?_;refine Aa.tm 13 d ?_;refine Aa.tm 14 d ?_
      try simp only[Act.put,tryL]
      refine Aa.on 15 λK o=>?_;go_simp;refine(f4.o we b0.o).mono ?_;rintro rr w5⟨rfl,h0,N⟩;have u:=(i.o.new b0.o).upd N h0;have f9:(λh:World=>h.cell? (Ad vb q)=some (.string H)/\h.cell? (Ad U 0)=some (.int .i64 D.kind)/\h.cell? (Ad sb (so+q))=some (.slice (some (Ad (B q) (O q))) D.n (C q))/\h.cell? (Ad (B q) (O q+p))=some (.string x)) w5 :=
       ⟨N.cell d.1 u.vl,N.cell d.2.1 u.ml,N.cell d.2.2.1 (by have:=d5.o;have:=u.ll;show ¬sb=lb;omega),N.cell d.2.2.2 (by have:=d6.o;have:=u.ll;show ¬B q=lb;omega)⟩
      replace u:=qh u;clear h0 N f4 l b0 i;refine o.out _ _ (.inr f9) ?_;clear o K d
      try simp only[Act.put,tryL]
      refine Aa.on 16 λK o=>?_;go_simp;refine o.out _ _ (.inl rfl) (Aa.dn ?_);clear o K f9;by_cases Q:z.2=0
      ·have j0:(z.2:Int)=0:=by omega
       have d7:=qh Q;clear Q;go_wp2;go_roundw
       case rel=>exact⟨p+1,by omega,by go_num,by rw[HN.o];exact d7.o,by rw[HN.o];exact u.o⟩
       simp[intOf];omega
      have j0:¬((z.2:Int)=0):=by omega
      have j6:((z.2:Int)==0)=false:=by simp;omega
      have j7:decide ((z.2:Int)=0)=false:=by simp;omega
      have I:rsQ8 D.kind S v D.n D.n T=z:=by
       have e1:rsP8 D.kind S v q D.n s0=z:=by
        have h1:=KS (k:=D.kind) (S:=S) (v:=v) (q:=q) (p:=p+1) (s:=s0) (by rw[HN.o];exact Q) (D.n-(p+1));rw[show p+1+(D.n-(p+1))=D.n by omega,HN.o]at h1;exact h1
       have e2:rsQ8 D.kind S v D.n (q+1) T=z:=b6.o.trans e1;have h2:=Pd (k:=D.kind) (S:=S) (v:=v) (n:=D.n) (q:=q+1) (s:=T) (by rw[e2];exact Q) (D.n-(q+1));rw[show q+1+(D.n-(q+1))=D.n by omega,e2]at h2;exact h2
      replace I:=qh I;have d7:=qh Q;clear Q;go_wp2;go_ret2;exact⟨u.o.be,.inr ⟨by rw[I.o];exact d7.o,by rw[I.o];rfl⟩⟩
     have h8:x=kz:=toList_eq hX;have HN:=qh<|g.o.trans (ifp (.inr h8));clear e6 h8 g;have i:=qh<|m.o.new d3.o;clear b1 l m
    rotate_left
    focus
     have h7:H=kz:=toList_eq hO;have HN:=qh<|g.o.trans (ifp (.inl h7));clear h7 g;refine Aa.ts 9 c ?_;refine Aa.ts 10 c ?_;refine Aa.ts 11 c ?_;refine Aa.ts 12 c ?_;refine Aa.ts 13 c ?_;refine Aa.ts 14 c ?_;refine Aa.ts 15 c ?_;refine Aa.ts 16 c ?_;refine Aa.ts 17 c ?_;refine Aa.ts 18 c ?_;refine Aa.ts 19 c ?_
     try simp only[Act.put,tryL]
     refine Aa.on 20 λK o=>?_;go_simp;refine o.out _ _ (.inl rfl) (Aa.dn ?_);clear o K;have i:=qh<|m.o.new a9.o;clear c l m
    all_goals
     go_wp2;go_roundw
     case rel=>exact⟨p+1,by omega,by go_num,by rw[HN.o];exact i3.o,by rw[HN.o];exact i.o⟩
     simp[intOf];omega
   have g8:p=D.n:=by omega
   have i7:¬((p:Int)<(D.n:Int)):=by omega
   rw[g8]at hi F;rw[<-b6.o]at hi F;have X:=qh hi;clear hi;have d2:=qh F;clear F g8;go_wp2;go_roundw
   case rel=>exact⟨q+1,by omega,by go_num,d2.o,X.o⟩
   simp[intOf];omega
  have g9:q=D.n:=by omega
  have i7:¬((q:Int)<(D.n:Int)):=by omega
  have h1:=m.o;rw[g9]at h1 L;have X:=qh h1;clear h1;have d2:=qh L;clear L g9;go_wp2;go_ret2;exact⟨X.o.be,.inl ⟨d2.o,lb,rfl,.inr X.o.ll,X.o.rl⟩⟩
variable{w:World}{c e:Nat}{k:Int}{a:ByteArray}{b:Bool}
def SumR(w:World)(sb:Nat)(k:Int)(e:Nat):Prop:=w.heap[sb]?=some (.cells #[.int .i64 k,.bool (decide (e≠0))] 169 (0,0))
def SumR.lt(h:SumR w c k e):c<w.heap.size:=(Array.getElem?_eq_some_iff.1 h).1
theorem SumR.c0(h:SumR w c k e):w.cell? (Ad c 0)=some (.int .i64 k):=by unfold SumR at h;simp[World.cell?,h]
theorem SumR.c1(h:SumR w c k e)(hb:decide (e≠0)=b):w.cell? (Ad c 1)=some (.bool b):=by unfold SumR at h;rw[hb]at h;simp[World.cell?,h]
theorem SumR.fz(h:SumR w c k e)(i:Nat):w.frozen? (Ad c i)=false:=by unfold SumR at h;simp[World.frozen?,h]
theorem SumR.set{e':Nat}(h:SumR w c k e)(hb:decide (e'≠0)=b):SumR (w.setCell (Ad c 1) (.bool b)) c k e':=by
 unfold SumR at *;rw[hb];simp[World.setCell,Array.getElem?_modify,h]
theorem SumR.kept{w':World}(h:SumR w c k e)(hb:Below w.heap.size w w'):SumR w' c k e:=by
 unfold SumR at *;rw[hb.block c (Array.getElem?_eq_some_iff.1 h).1];exact h
theorem SumR.drew(h:SumR w c k e):SumR w.drew c k e:=h
def SumR.new(w:World)(k:Int):SumR (w.alloc (.cells #[.int .i64 k,.bool false] 169)) w.heap.size k 0:=han w _
def OpR{k:KK}(F:Prop)(e sb:Nat)(z:RK k)(w:World)(r:Ending)(w':World):Prop :=
 ∃u e',r=.returned (.string u)/\Is k e' u z/\Er F e'/\(e'=0->e=0)/\SumR w' sb k.1 e'/\w.grownBy w' (some sb)
def knF(k:Int)(e:Nat)(c:ByteArray):ByteArray:=if e=0 then c else Aj k
def DC(k:Int)(e l:Nat)(c:ByteArray)(w:World)(h:SumR w l k e):
  Calls prog 216 #[.pointer (some (Ad l 0)),.string c] w (λr w'=>r=.returned (.string (knF k e c))/\Below w.heap.size w w'):=by
 have o:=h.c0;by_cases g:e=0
 ·have c1:=h.c1 (b:=false) (by simp;exact g);have i:=qh g;clear g h
  go_enter func216,ntmps216
  go_wp2;go_ret;exact⟨by unfold knF;rw[ifp i.o];rfl,blr⟩
 have c1:=h.c1 (b:=true) (by simp;exact g);have i:=qh g;clear g h;have j:=λm=>DG k m
 go_enter func216,ntmps216
 go_wp2_with fail
 refine(j _).mono ?_;rintro r p⟨rfl,d⟩;replace d:=qh d;go_wp2;go_ret;exact⟨by unfold knF;rw[ifn i.o];rfl,d.o⟩
def WY(k:Int)(e o:Nat)(a b:ByteArray)(w:World)(N:a.size<=100000)(hb:b.size<=100000)(G:SumR w o k e):
  Calls prog 187 #[.pointer (some (Ad o 0)),.string a,.string b] w (λr w'=>r=.returned (.string (knF k (kpE e (Ar k a b)) (Ar k a b).1))/\SumR w' o k (kpE e (Ar k a b))/\w.grownBy w' (some o)):=by
 have L:=G.c0;have E:=Iq k a b w (by omega) (by omega);clear N hb;obtain⟨⟨c,n⟩,I⟩:∃r,r=Ar k a b:=⟨_,rfl⟩;rw[<-I]at E ⊢;replace E:=qh E;clear I;have H:=qh G;clear G
 go_enter func187,ntmps187
 go_wp2_with fail
 refine E.o.mono ?_;rintro r P⟨rfl,s⟩;have i:=H.o.kept s;clear L H;replace s:=qh s;by_cases B:e=0
 ·subst B;have c1:=i.c1 (b:=false) (by simp);have K:=i.fz 1;by_cases C:n=0
  ·subst C;have d:=i.set (e':=0) (b:=false) (by simp);have j:=qh d;clear d i;have A:=Dz (Ab s.o (some o)) (p:=(Ad o 1)) (.inl rfl) (.bool false);have D:=qh A;clear A
   go_wp2_with fail
   refine(DC k _ o c _ j.o).mono ?_;rintro r J⟨rfl,g⟩;have l:=BW D.o (Ab g (some o));have m:=j.o.kept g;have u:=qh l;clear l g;have z:=qh m;clear m;go_wp2;go_ret;exact⟨rfl,z.o,u.o⟩
  have O:((n:Int) != 0)=true:=by simp;exact C
  have d:=i.set (e':=n) (b:=true) (by simp;exact C);have j:=qh d;clear d i;have A:=Dz (Ab s.o (some o)) (p:=(Ad o 1)) (.inl rfl) (.bool true);have D:=qh A;clear A;replace C:=qh C
  go_wp2_with fail
  refine(DC k _ o c _ j.o).mono ?_;rintro r J⟨rfl,g⟩;have l:=BW D.o (Ab g (some o));have m:=j.o.kept g;have u:=qh l;clear l g;have z:=qh m;clear m;go_wp2;go_ret;have F:kpE 0 (c,n)=n:=by unfold kpE;rw[ifp ⟨C.o,rfl⟩]
  rw[F];exact⟨rfl,z.o,u.o⟩
 have c1:=i.c1 (b:=true) (by simp;exact B);have K:=i.fz 1;have d:=i.set (e':=e) (b:=true) (by simp;exact B);have j:=qh d;clear d i;have A:=Dz (Ab s.o (some o)) (p:=(Ad o 1)) (.inl rfl) (.bool true);have D:=qh A;clear A;replace B:=qh B
 go_wp2_with fail
 refine(DC k _ o c _ j.o).mono ?_;rintro r J⟨rfl,g⟩;have l:=BW D.o (Ab g (some o));have m:=j.o.kept g;have u:=qh l;clear l g;have z:=qh m;clear m;go_wp2;go_ret;have F:kpE e (c,n)=e:=by unfold kpE;rw[ifn (λh=>B.o h.2)]
 rw[F];exact⟨rfl,z.o,u.o⟩
def OY{k:KK}{F:Prop}{b:ByteArray}{x y:RK k}(m:Is k e a x)(hb:Is k e b y)(s:Er F e)(p:F->fitV (x+y).1)(u:SumR w c k.1 e):
  Calls prog 187 #[.pointer (some (Ad c 0)),.string a,.string b] w (OpR F e c (x+y) w):=by
 refine(WY k.1 e c a b w m.1 hb.1 u).mono ?_;rintro r z⟨rfl,g,d⟩;have i:(knF k.1 (kpE e (Ar k.1 a b)) (Ar k.1 a b).1).size<=100000:=by
  have j:=Wc k.1 a b;have l:=(Is.zero k 0).1;unfold knF;split<;>omega
 obtain⟨j,l,o⟩:=Kj (Wg m hb) s p i (λh=>ifp h);exact⟨_,_,rfl,j,l,o,g,d⟩
def Xh(k:Int)(e o:Nat)(a b:ByteArray)(w:World)(N:a.size<=100000)(hb:b.size<=100000)(G:SumR w o k e):
  Calls prog 188 #[.pointer (some (Ad o 0)),.string a,.string b] w (λr w'=>r=.returned (.string (knF k (kpE e (Ae k a b)) (Ae k a b).1))/\SumR w' o k (kpE e (Ae k a b))/\w.grownBy w' (some o)):=by
 have L:=G.c0;have E:=Kv k a b w (by omega) (by omega);clear N hb;obtain⟨⟨c,n⟩,I⟩:∃r,r=Ae k a b:=⟨_,rfl⟩;rw[<-I]at E ⊢;replace E:=qh E;clear I;have H:=qh G;clear G
 go_enter func188,ntmps188
 go_wp2_with fail
 refine E.o.mono ?_;rintro r P⟨rfl,s⟩;have i:=H.o.kept s;clear L H;replace s:=qh s;by_cases B:e=0
 ·subst B;have c1:=i.c1 (b:=false) (by simp);have K:=i.fz 1;by_cases C:n=0
  ·subst C;have d:=i.set (e':=0) (b:=false) (by simp);have j:=qh d;clear d i;have A:=Dz (Ab s.o (some o)) (p:=(Ad o 1)) (.inl rfl) (.bool false);have D:=qh A;clear A
   go_wp2_with fail
   refine(DC k _ o c _ j.o).mono ?_;rintro r J⟨rfl,g⟩;have l:=BW D.o (Ab g (some o));have m:=j.o.kept g;have u:=qh l;clear l g;have z:=qh m;clear m;go_wp2;go_ret;exact⟨rfl,z.o,u.o⟩
  have O:((n:Int) != 0)=true:=by simp;exact C
  have d:=i.set (e':=n) (b:=true) (by simp;exact C);have j:=qh d;clear d i;have A:=Dz (Ab s.o (some o)) (p:=(Ad o 1)) (.inl rfl) (.bool true);have D:=qh A;clear A;replace C:=qh C
  go_wp2_with fail
  refine(DC k _ o c _ j.o).mono ?_;rintro r J⟨rfl,g⟩;have l:=BW D.o (Ab g (some o));have m:=j.o.kept g;have u:=qh l;clear l g;have z:=qh m;clear m;go_wp2;go_ret;have F:kpE 0 (c,n)=n:=by unfold kpE;rw[ifp ⟨C.o,rfl⟩]
  rw[F];exact⟨rfl,z.o,u.o⟩
 have c1:=i.c1 (b:=true) (by simp;exact B);have K:=i.fz 1;have d:=i.set (e':=e) (b:=true) (by simp;exact B);have j:=qh d;clear d i;have A:=Dz (Ab s.o (some o)) (p:=(Ad o 1)) (.inl rfl) (.bool true);have D:=qh A;clear A;replace B:=qh B
 go_wp2_with fail
 refine(DC k _ o c _ j.o).mono ?_;rintro r J⟨rfl,g⟩;have l:=BW D.o (Ab g (some o));have m:=j.o.kept g;have u:=qh l;clear l g;have z:=qh m;clear m;go_wp2;go_ret;have F:kpE e (c,n)=e:=by unfold kpE;rw[ifn (λh=>B.o h.2)]
 rw[F];exact⟨rfl,z.o,u.o⟩
def Pm{k:KK}{F:Prop}{b:ByteArray}{x y:RK k}(m:Is k e a x)(hb:Is k e b y)(s:Er F e)(p:F->fitV (x*y).1)(u:SumR w c k.1 e):
  Calls prog 188 #[.pointer (some (Ad c 0)),.string a,.string b] w (OpR F e c (x*y) w):=by
 refine(Xh k.1 e c a b w m.1 hb.1 u).mono ?_;rintro r z⟨rfl,g,d⟩;have i:(knF k.1 (kpE e (Ae k.1 a b)) (Ae k.1 a b).1).size<=100000:=by
  have j:=Ye k.1 a b;have l:=(Is.zero k 0).1;unfold knF;split<;>omega
 obtain⟨j,l,o⟩:=Kj (Yh m hb) s p i (λh=>ifp h);exact⟨_,_,rfl,j,l,o,g,d⟩
def Xa(k:Int)(e o:Nat)(a:ByteArray)(w:World)(N:a.size<=100000)(G:SumR w o k e):
  Calls prog 186 #[.pointer (some (Ad o 0)),.string a] w (λr w'=>r=.returned (.string (knF k (kpE e (AO k a)) (AO k a).1))/\SumR w' o k (kpE e (AO k a))/\w.grownBy w' (some o)):=by
 have L:=G.c0;have E:=Wt k a w (by omega);clear N;obtain⟨⟨c,n⟩,I⟩:∃r,r=AO k a:=⟨_,rfl⟩;rw[<-I]at E ⊢;replace E:=qh E;clear I;have H:=qh G;clear G
 go_enter func186,ntmps186
 go_wp2_with fail
 refine E.o.mono ?_;rintro r P⟨rfl,s⟩;have i:=H.o.kept s;clear L H;replace s:=qh s;by_cases B:e=0
 ·subst B;have c1:=i.c1 (b:=false) (by simp);have K:=i.fz 1;by_cases C:n=0
  ·subst C;have d:=i.set (e':=0) (b:=false) (by simp);have j:=qh d;clear d i;have A:=Dz (Ab s.o (some o)) (p:=(Ad o 1)) (.inl rfl) (.bool false);have D:=qh A;clear A
   go_wp2_with fail
   refine(DC k _ o c _ j.o).mono ?_;rintro r J⟨rfl,g⟩;have l:=BW D.o (Ab g (some o));have m:=j.o.kept g;have u:=qh l;clear l g;have z:=qh m;clear m;go_wp2;go_ret;exact⟨rfl,z.o,u.o⟩
  have O:((n:Int) != 0)=true:=by simp;exact C
  have d:=i.set (e':=n) (b:=true) (by simp;exact C);have j:=qh d;clear d i;have A:=Dz (Ab s.o (some o)) (p:=(Ad o 1)) (.inl rfl) (.bool true);have D:=qh A;clear A;replace C:=qh C
  go_wp2_with fail
  refine(DC k _ o c _ j.o).mono ?_;rintro r J⟨rfl,g⟩;have l:=BW D.o (Ab g (some o));have m:=j.o.kept g;have u:=qh l;clear l g;have z:=qh m;clear m;go_wp2;go_ret;have F:kpE 0 (c,n)=n:=by unfold kpE;rw[ifp ⟨C.o,rfl⟩]
  rw[F];exact⟨rfl,z.o,u.o⟩
 have c1:=i.c1 (b:=true) (by simp;exact B);have K:=i.fz 1;have d:=i.set (e':=e) (b:=true) (by simp;exact B);have j:=qh d;clear d i;have A:=Dz (Ab s.o (some o)) (p:=(Ad o 1)) (.inl rfl) (.bool true);have D:=qh A;clear A;replace B:=qh B
 go_wp2_with fail
 refine(DC k _ o c _ j.o).mono ?_;rintro r J⟨rfl,g⟩;have l:=BW D.o (Ab g (some o));have m:=j.o.kept g;have u:=qh l;clear l g;have z:=qh m;clear m;go_wp2;go_ret;have F:kpE e (c,n)=e:=by unfold kpE;rw[ifn (λh=>B.o h.2)]
 rw[F];exact⟨rfl,z.o,u.o⟩
def Xc{k:KK}{F:Prop}{x:RK k}(m:Is k e a x)(s:Er F e)(p:F->fitV (CSR.star x).1)(u:SumR w c k.1 e):
  Calls prog 186 #[.pointer (some (Ad c 0)),.string a] w (OpR F e c (CSR.star x) w):=by
 refine(Xa k.1 e c a w m.1 u).mono ?_;rintro r z⟨rfl,g,d⟩;have i:(knF k.1 (kpE e (AO k.1 a)) (AO k.1 a).1).size<=100000:=by
  have j:=XA k.1 a;have l:=(Is.zero k 0).1;unfold knF;split<;>omega
 obtain⟨j,l,o⟩:=Kj (XC m) s p i (λh=>ifp h);exact⟨_,_,rfl,j,l,o,g,d⟩
end
section
open Go.RowKit Go.Deep
def news1r{w:World}{b:Nat}{x:Value}(h:w.cell? (Ad b 0)=some x):∀j u,[x][j]?=some u->w.cell? (((Ad b 0):Addr).add j)=some u:=by
 intro j u c
 match j,c with
 |0,c=>simp at c;subst c;exact h
def LR(n c d l:Nat):Nat:=if l<c then n else if l=c then d else 0
def QU{n c:Nat}(l:Nat):LR n c n l=LR n (c+1) 0 l:=by
 unfold LR;by_cases e:l<c
 ·rw[ifp e,ifp (by omega)]
 by_cases d:l=c
 ·rw[ifn e,ifp d,ifp (by omega)]
 rw[ifn e,ifn d,ifn (by omega)];split<;>rfl
structure Bz(w wr:World)(gB n d m:Nat)(R:Nat->Value)(x:ByteArray):Prop where
 om:OM wr (λ_=>False) gB 9 100 gB n R (LR n d m) (λ_ _=>x)
 gr:Below gB w wr
 wg:w.heap.size<=gB
namespace Bz
variable{w wr w4 wz wa:World}{gB n d m:Nat}{R:Nat->Value}{x:ByteArray}
theorem start(w:World)(x:ByteArray):Bz w (w.alloc (.cells (madeCells #[.slice none 0 0] n) 100)) w.heap.size n 0 0 (λ_=>.slice none 0 0) x :=
 ⟨(OM.made w (λ_=>False) (by simp) w.heap.size nlr 9 100 n _).congrL λl _=>by unfold LR;split<;>(try split)<;>first|rfl|omega,blr.alloc nlr _,nlr⟩
theorem row(h:Bz w wr gB n d n R x):Bz w wr gB n (d+1) 0 R x:=⟨h.om.congrL λl _=>QU l,h.gr,h.wg⟩
theorem rowz(h:Bz w wr gB n d m R x)(hd:d<n)(c:wr.grownBy w4 none)(g:w4.grownBy wz none):OwS wz gB 9 (R d) m (λ_=>x):=by
 have i:=((h.om.kept c (by simp)).kept g (by simp)).row d hd;have j:LR n d m d=m:=by unfold LR;simp
 rw[j]at i;exact i
theorem own(h:Bz w wr gB n d m R x)(hd:d<n):∀j,(R d).ownBlock=some j->gB<=j/\j<wr.heap.size/\j≠gB:=λj c =>
 ⟨(h.om.rowLt hd j c).1,(h.om.rowLt hd j c).2,(h.om.far d hd j c).1⟩
theorem cellA(h:Bz w wr gB n d m R x)(hd:d<n)(c:wz.grownBy wa (R d).ownBlock){g:Addr}{y:Value}(hb:g.block<=gB)(i:wz.cell? g=some y):wa.cell? g=some y :=
 c.cell i (λe=>by have:=h.own hd _ e.symm;omega)
theorem frozenA(h:Bz w wr gB n d m R x)(hd:d<n)(g:wr.grownBy w4 none)(i:w4.grownBy wz none)(c:wz.grownBy wa (R d).ownBlock):wa.frozen? (Ad gB d)=false:=by
 have j:=h.om.lt;have k:=g.size;have l:=i.size;exact(c.frozen_far (Ad gB d) (by show gB<_;omega) (λe=>(h.own hd _ e.symm).2.2 rfl)).trans ((i.frozen_far (Ad gB d) (by show gB<_;omega) (by simp)).trans ((g.frozen_far (Ad gB d) j (by simp)).trans (h.om.frozen d)))
theorem snoc{k cap:Nat}(h:Bz w wr gB n d m R x)(hd:d<n)(g:wr.grownBy w4 none)
  (i:w4.grownBy wz none) (o:wa.ownsRow gB 9 1 (.slice (some (Ad k 0)) (m+1) cap) (m+1) (strs m (λ_=>x)++[.string x])) (c:wz.grownBy wa (R d).ownBlock) (s:(R d).ownBlock=some k\/k=wz.heap.size) :
  ∃R3,Bz w (wa.setCell (Ad gB d) (.slice (some (Ad k 0)) (m+1) cap)) gB n d (m+1) R3 x:=by
 have z:=h.om.kept g (by simp);have p:wa.ownsRow gB 9 1 (.slice (some (Ad k 0)) (m+1) cap) (m+1) (strs (m+1) (λ_=>x)):=by
  rw[<-XL];exact o
 have A:=h.om.lt;have C:=g.size;have D:=i.size;refine⟨_,⟨((z.appended hd i p c s).congrL λl B=>?_).congr λl j B u=>?_,?_,h.wg⟩⟩
 ·unfold LR;by_cases e:l=d
  ·subst e;simp
  simp[e]
 ·by_cases e:l=d
  ·subst e;simp
  simp[e]
 exact((h.gr.trans ((MW g).mono (by omega)) |>.trans ((MW i).mono (by omega))).grown c (by omega) (λj u=>(h.own hd j u).1)).setCell nlr _
end Bz
def ZerE(n:Nat)(x:ByteArray)(w:World)(r:Ending)(w':World):Prop :=
 ∃g R,r=.returned (.slice (some (Ad g 0)) n n)/\OM w' (λ_=>False) g 9 100 g n R (λ_=>n) (λ_ _=>x)/\w.heap.size<=g/\Below w.heap.size w w'
theorem QT(k:Int){n:Nat}(w:World)(hn:n<=60):Calls prog 185 #[.int .i64 k,.int .i64 (n:Int)] w (ZerE n (Aj k) w):=by
 have T:=run_make_row' (P:=prog) 96 100 (.slice none 0 0) 24 underlying96 JM rfl .i64 .i64 n (by omega) (by omega);have Y:=Bz.start (n:=n) w (Aj k);have G:=qh Y;clear Y
 go_enter func185,ntmps185
 go_wp2_with fail
 clear T;obtain⟨C,z⟩:=exq<|w.heap.size;rw[<-z]at G;rw[<-z];replace z:=qh z
 go_loopw [6,7] (λi _ wr=>∃(d:Nat) (O:Nat->Value),d<=n/\i=.int .i64 (d:Int)/\Bz w wr C n d 0 O (Aj k)) (λi _ _=>n-(intOf i).toNat)
 case atStart=>exact⟨0,_,Nat.zero_le _,rfl,G.o⟩
 obtain⟨d,O,hd,rfl,s⟩:=hrel;clear G;have c:=qh s;clear s;by_cases B:d<n
 ·have b5:(d:Int)<(n:Int):=by omega
  have b1:(0:Int)<=(d:Int):=by omega
  go_wp2_with fail
  go_loopw [7] (λi wr=>∃(m:Nat) (O:Nat->Value),m<=n/\i=.int .i64 (m:Int)/\Bz w wr C n d m O (Aj k)) (λi _=>n-(intOf i).toNat)
  case atStart=>exact⟨0,O,Nat.zero_le _,rfl,c.o⟩
  obtain⟨m,R3,b8,rfl,s⟩:=hrel;clear c;have c:=qh s;clear s;by_cases b3:m<n
  ·have b9:(m:Int)<(n:Int):=by omega
   have b4:(0:Int)<=(m:Int):=by omega
   obtain⟨lv,h⟩:=exq<|R3 d;have s1:=c.o.om.cell B;rw[<-h]at s1;obtain⟨i0,a6,a7,a8,a9⟩:=info_parts JL;have b7:=c.o.om.lt;replace h:=qh h;have a5:=FK wr none;have g:wr.drew.cell? (Ad C d)=some lv:=s1;have a4:=λL=>DG k L
   go_wp2_with fail
   refine AB (λL=>L.cell? (Ad C d)=some lv) 11 (by kernel_rfl) ?_;refine Aa.tm 0 g ?_;refine Aa.tm 1 g ?_;refine Aa.tm 2 g ?_;refine Aa.tm 3 g ?_;refine Aa.tm 4 g ?_;refine Aa.tm 5 g ?_;refine Aa.tm 6 g ?_
   try simp only[Act.put,tryL]
   refine Aa.on 7 λK p=>?_;go_simp;refine(a4 _).mono ?_;rintro r F⟨rfl,a2⟩;have u:wr.grownBy F none:=BW a5 (Ab a2 none);have Q:F.cell? (Ad C d)=some lv:=u.cell s1 (by simp);refine p.out _ _ (.inr Q) ?_;clear p K
   try simp only[Act.put,tryL]
   refine Aa.on 8 λK p=>?_;go_simp;obtain⟨N,o⟩:=exq<|F.alloc (.cells #[.string (Aj k)] 9);have E:F.grownBy N none:=by rw[o];exact World.grownBy_alloc F _ none
   have d0:N.heap.size=F.heap.size+1:=by rw[o];simp
   have U:N.cell? (Ad F.heap.size 0)=some (.string (Aj k)):=by rw[o];exact Jl F _ _ 0 _ rfl
   rw[<-o];replace o:=qh o;have R:=E.cell Q (by simp);refine p.out _ _ (.inr R) ?_;clear p K
   try simp only[Act.put,tryL]
   have X:=c.o.rowz B u E;rw[<-h.o]at X;have Z:C<=N.heap.size:=by have:=u.size;omega
   refine Aa.on 9 λK p=>?_;refine wp_append_lies _ (.tmp 25) (.tmp 28) 100 rfl C 9 i0 (.string ⟨#[]⟩) 1 16 underlying100 a6 a7 a8 a9 rfl (by omega) lv m _ (by simp[Act.eval]) X (Ad F.heap.size 0) 1 1 [.string (Aj k)] (by simp[Act.eval]) rfl (news1r U) (VC _) (by omega) (by unfold maxLen;omega) (by omega) Z _ rfl ?_;intro go b0 wa W A a1 b2;have j:N.grownBy wa (R3 d).ownBlock:=by rw[<-h.o];exact A
   have H:=c.o.cellA B j (by first|exact nlr|(apply Nat.le_of_lt;assumption)) (R)
   have b6:=c.o.frozenA B u E j;refine p.out _ _ (.inr H) ?_;clear p K
   try simp only[Act.put,tryL]
   refine Aa.tm 10 H ?_
   try simp only[Act.put,tryL]
   have g0:=H;refine Aa.on 11 λK p=>?_;go_simp;refine p.out _ _ (.inl rfl) (Aa.dn ?_);clear p K;go_wp2;go_roundw
   case rel =>
    obtain⟨R4,D⟩:=c.o.snoc B u E W (by rw[<-h.o];exact A) (by rw[<-h.o];exact a1);exact⟨m+1,R4,by omega,by go_num,D⟩
   simp[intOf];omega
  have J:m=n:=by omega
  have S:¬((m:Int)<(n:Int)):=by omega
  replace J:=qh J;go_wp2;go_roundw
  case rel =>
   refine⟨d+1,R3,by omega,by go_num,?_⟩;have D:=c.o;rw[J.o]at D;exact D.row
  simp[intOf];omega
 have I:d=n:=by omega
 have S:¬((d:Int)<(n:Int)):=by omega
 replace I:=qh I;go_wp2;go_ret;have D:=c.o;rw[I.o]at D;exact⟨C,O,rfl,D.om.congrL λl hl=>(by unfold LR;rw[ifp hl]),D.wg,by have h2:=D.gr;rw[z.o]at h2;exact h2⟩
theorem OM.copied{Z:Nat->Prop}{B g n:Nat}{R:Nat->Value}{i b cap:Nat}(hi:i<n)(hR:R i=.slice (some (Ad b 0)) n cap)(U:Nat->ByteArray):
  ∀(m o:Nat) (w:World) (X:Nat->Nat->ByteArray),o+m=n->OM w Z B 9 100 g n R (λ_=>n) X ->
   OM (w.setCells b o ((List.range' o m).map λj=>.string (U j))) Z B 9 100 g n R (λ_=>n) (λl j=>if l=i/\o<=j then U j else X l j)
 |0,o,w,X,ho,h=>h.congr λl j hl hj=>by rw[ifn (by omega)]
 |m+1,o,w,X,ho,h=>by
  have h1:=h.stored hi (show o<n by omega) hR (U o);have h2:=OM.copied hi hR U m (o+1) _ _ (by omega) h1;refine OM.congr h2 λl j hl hj=>?_;by_cases e:l=i
  ·by_cases e2:j=o
   ·rw[ifn (by omega),ifp ⟨e,e2⟩,ifp (by omega),e2]
   by_cases e3:o<=j
   ·rw[ifp (by omega),ifp ⟨e,e3⟩]
   rw[ifn (by omega),ifn (λh=>e2 h.2),ifn (λh=>e3 h.2)]
  rw[ifn (λh=>e h.1),ifn (λh=>e h.1),ifn (λh=>e h.1)]
end
section
open Go.RowKit Go.Deep
variable{c d e g i n:Nat}{w:World}{k:KK}
def StaR{k:KK}(F:Prop)(sb n e:Nat)(M:Nat->Nat->RK k)(w:World)(r:Ending)(w':World):Prop :=
 ∃v e' Y,r=.returned v/\Mt (some sb) w' v n (λ_=>n) Y/\MatIs e' n Y (CSR.starM M n)/\Er F e'/\(e'=0->e=0)/\SumR w' sb k.1 e'/\w.grownBy w' (some sb)
def Rw1(w:World)(g sb gc n:Nat)(Y:Nat->Nat->ByteArray)(i:Nat):Prop :=
 ∃rb cap,w.cell? (Ad g i)=some (.slice (some (Ad rb 0)) n cap)/\rb<gc/\rb≠sb/\n<=cap/\cap<=9223372036854775807/\∀j,j<n->w.cell? (Ad rb j)=some (.string (Y i j))
theorem OM.rw1{j:Nat}{R:Nat->Value}{Y:Nat->Nat->ByteArray}(h:OM w (λ_=>False) g 9 100 g n R (λ_=>n) Y)(A:j<g)(p:w.heap.size<=d)(hi:i<n):Rw1 w g j d n Y i:=by
 obtain⟨s,c,o,u,z,_,_,k,l,_,m⟩:=h.form hi (by omega);unfold maxLen at l;exact⟨s,c,by rw[<-o];exact h.cell hi,by omega,by omega,k,by omega,m⟩
theorem SumR.other{k:Int}(h:SumR w c k e){p:Addr}(d:c≠p.block)(v:Value):SumR (w.setCell p v) c k e:=by
 unfold SumR at *;rw[blk_setCell_other _ _ _ _ d];exact h
theorem Tw{q m:Nat}{Y:Nat->Nat->ByteArray}{M:Nat->Nat->RK k}(h:MatIs e n Y M)(hd:d<n)(g:m<n)(i:q<n)(c:Y d q=Aj k.1\/Y q m=Aj k.1):Is k e (Y d m) (CSR.elim q M d m):=by
 refine⟨(h d m hd g).1,λl=>?_⟩;subst l;have j:CSR.elim q M d m=M d m:=by
  show M d m+M d q*CSR.star (M q q)*M q m=M d m
  rcases c with c|c
  ·rw[((h d q hd i).eq_zero).1 c,CSR.zm,CSR.zm,CSR.a0]
  rw[((h q m i g).eq_zero).1 c,CSR.m0,CSR.a0]
 rw[j];exact(h d m hd g).2 rfl
theorem Rw1.gr{wr:World}{Y:Nat->Nat->ByteArray}(h:Rw1 w g d c n Y i)(p:Gr c (some d) w wr)(C:g<c)(l:g≠d):Rw1 wr g d c n Y i:=by
 obtain⟨s,k,u,m,o,z,A,B⟩:=h;exact⟨s,k,(World.cell?_of_block (p.block g C (by simp;exact l))).trans u,m,o,z,A,λj D=>(World.cell?_of_block (p.block s m (by simp;exact o))).trans (B j D)⟩
theorem XG{F:Prop}{L:Nat}{X:Nat->Nat->ByteArray}{M:Nat->Nat->RK k}{v:Value}(w:World)(hn:n<=60)(hs:SumR w L k.1 e)(he:Er F e)(hA:Mt (some L) w v n (λ_=>n) X)(hX:MatIs e n X M)(hF:F->FitM n M):
  Calls prog 157 #[.pointer (some (Ad L 0)),v] w (StaR F L n e M w):=by
 obtain⟨a1,A5,b1,o1,A1,C1,g4,O1,rfl,r7,m5,j8,g7,i2⟩:=hA.open;unfold maxLen at j8;clear hA;have C3:=hs.lt;have s0:=hs.c0;have p0:=qh r7;clear r7;have p8:=qh g7;clear g7;have r2:=qh i2;clear i2;have HX:=qh hX;clear hX;replace he:=qh he;replace hF:=qh hF;have HS:=qh hs;clear hs
 go_enter func157,ntmps157
 go_wp2_with fail
 refine(QT k.1 w hn).mono ?_;rintro r w1⟨g,R,rfl,J,n9,g7⟩;clear s0;have g1:L<g:=by omega
 have E:=qh J;clear J;have l3:=qh g7;clear g7
 go_wp2_with fail
 go_loopw [7] (λi wr=>∃(q:Nat) (Y:Nat->Nat->ByteArray),q<=n/\i=.int .i64 (q:Int)/\OM wr (λ_=>False) g 9 100 g n R (λ_=>n) Y/\(∀l j,l<n->j<n->l<q->Y l j=X l j)/\Below w.heap.size w wr) (λi _=>n-(intOf i).toNat)
 case atStart=>exact⟨0,_,Nat.zero_le _,rfl,E.o,λ_ _ _ _ h=>by omega,l3.o⟩
 obtain⟨q,Y,hq,rfl,J,hy,r9⟩:=hrel;clear E l3;have E:=qh J;clear J;have HY:=qh hy;clear hy;have f0:=qh r9;clear r9;by_cases B:q<n
 ·have y8:(q:Int)<(n:Int):=by omega
  have s9:(0:Int)<=(q:Int):=by omega
  obtain⟨rb,U,f3,k9,o7,t7,_,s5,h0,b0,a9⟩:=E.o.form B (by omega);unfold maxLen at h0;have s1:=E.o.cell B;rw[f3]at s1;obtain rfl:=p0.o (by omega);obtain⟨k1,_,k3,k4,k5,_,k7⟩:=r2.o q B;have v5:=k4 (by omega);have v6:=(k5 (by omega)).1;rw[v5]at k1;unfold maxLen at k3;have x4:(C1 q:Int)<=9223372036854775807:=by omega
  have s2:=(f0.o.cell (p:=(Ad b1 (o1+q))) (p8.o (by omega)).1).trans k1;have l9:∀j (u:Value),((List.range' 0 n).map λj=>Value.string (X q j))[j]?=some u->wr.drew.cell? (((Ad (g4 q) (O1 q)):Addr).add j)=some u:=λj u hu=>by
   rw[List.getElem?_map]at hu;obtain⟨x,hx,rfl⟩:=Option.map_eq_some_iff.1 hu;have T:j<n:=by have:=(List.getElem?_eq_some_iff.1 hx).1;simpa using this
   have z8:x=j:=by have:=(List.getElem?_eq_some_iff.1 hx).2;simp at this;omega
   subst z8;rw[Addr.add_lit];exact(f0.o.cell (p:=(Ad (g4 q) (O1 q+x))) v6).trans (k7 x T)
  have g2:(prog.info? 9).map (·.size)=some 1:=by kernel_rfl
  have m8:=run_copy_cells (P:=prog) wr.drew 100 100 3 9 rb 0 n U (Ad (g4 q) (O1 q)) n (C1 q) ((List.range' 0 n).map λj=>Value.string (X q j)) underlying100 g2 (by simp) l9
   (λj T=>by rw[Nat.zero_add,show wr.drew.cell? (Ad rb j)=some (.string (Y q j)) from a9 j (by simpa using T)];rfl) (λj T=>by rw[Nat.zero_add];exact b0 j) (λu hu=>by obtain⟨x,_,rfl⟩:=List.mem_map.1 hu;rfl)
  have a4:=OM.copied B f3 (X q) n 0 wr.drew Y (by omega) (E.o.kept (FK wr none) (by simp));have Q:=qh a4;clear a4;replace m8:=qh m8;clear k1 k4 k5 k7 v5 v6 b0 a9 l9;have o:wr.drew.cell? (Ad g q)=some (.slice (some (Ad rb 0)) n U)/\wr.drew.cell? (Ad b1 (o1+q))=some (.slice (some (Ad (g4 q) (O1 q))) n (C1 q)):=⟨s1,s2⟩
  go_wp2_with fail
  refine AB (λs=>s.cell? (Ad g q)=some (.slice (some (Ad rb 0)) n U)/\s.cell? (Ad b1 (o1+q))=some (.slice (some (Ad (g4 q) (O1 q))) n (C1 q))) 8 (by kernel_rfl) ?_;refine Aa.tm 0 o ?_;refine Aa.tm 1 o ?_;refine Aa.tm 2 o ?_;refine Aa.tm 3 o ?_;refine Aa.tm 4 o ?_;refine Aa.tm 5 o ?_;refine Aa.tm 6 o ?_;refine Aa.tm 7 o ?_
  try simp only[Act.put,tryL]
  refine Aa.on 8 λK G=>?_;refine Lib.wp_copy_run _ (.tmp 30) (.tmp 34) 100 100 rfl _ _ (by simp[Act.eval]) (by simp[Act.eval]) m8.o ?_;refine G.out _ _ (.inl rfl) (Aa.dn ?_);clear G K;go_wp2;go_roundw
  case rel =>
   refine⟨q+1,_,by omega,by go_num,Q.o,λl j hl T B9=>?_,Lib.below_setCells rb (by omega) _ _ f0.o.drew⟩;by_cases e:l=q
   ·rw[ifp ⟨e,Nat.zero_le _⟩,e]
   rw[ifn (λh=>e h.1)];exact HY.o l j hl T (by omega)
  simp[intOf];omega
 have f9:q=n:=by omega
 have h9:¬((q:Int)<(n:Int)):=by omega
 have i5:MatIs e n Y M:=λl j hl T=>by rw[HY.o l j hl T (by omega)];exact HX.o l j hl T
 have a8:=qh i5;clear i5;have B4:=qh f9;clear f9;have r3:=qh<|HS.o.kept f0.o;clear HS
 go_wp2_with fail
 clear r2 p8 p0 HX
 go_loopw [6,8,9,10,11,12] (λbv i _ _ _ _ wr=>∃(q e' g:Nat) (R:Nat->Value) (Y:Nat->Nat->ByteArray),q<=n/\bv=.slice (some (Ad g 0)) n n/\i=.int .i64 (q:Int)/\
  OM wr (λ_=>False) g 9 100 g n R (λ_=>n) Y/\L<g/\w.heap.size<=g/\MatIs e' n Y (CSR.elims M q)/\Er F e'/\(e'=0->e=0)/\SumR wr L k.1 e'/\Gr w.heap.size (some L) w wr) (λ_ i _ _ _ _ _=>n-(intOf i).toNat)
 case atStart=>exact⟨0,e,g,R,Y,Nat.zero_le _,rfl,rfl,E.o,g1,n9,a8.o,he.o,λh=>h,r3.o,Gr.of (Ab f0.o _) nlr⟩
 clear E HY f0 a8 r3;clear g1 n9;obtain⟨q,e',g,R,Y,hq,rfl,rfl,J,g1,n9,i5,hE,hm,hS,hG⟩:=hrel;have E:=qh J;clear J;have a8:=qh i5;clear i5;have j0:=qh hE;clear hE;have HM:=qh hm;clear hm;have HS:=qh hS;clear hS;have HG:=qh hG;clear hG;by_cases B:q<n
 ·have y8:(q:Int)<(n:Int):=by omega
  have s9:(0:Int)<=(q:Int):=by omega
  have s0:=HS.o.c0
  go_wp2_with fail
  refine(QT k.1 wr hn).mono ?_;rintro r w4⟨gc,Rc,rfl,a4,B8,d0⟩;have x9:=E.o.lt;have B2:=d0.size;have y5:=E.o.kept (Ab d0 none) (by simp);have i3:∀i,i<n->Rw1 w4 g L gc n Y i:=λi hi=>by
   obtain⟨rb,w2,h1,h2,h3,h4,h5,h6⟩:=E.o.rw1 g1 nlr hi;exact⟨rb,w2,(Ab d0 none).cell h1 (by simp),by omega,h3,h4,h5,λj T=>(Ab d0 none).cell (h6 j T) (by simp)⟩
  have t9:=HS.o.kept d0;have r6:=HG.o.more (Ab d0 none) (HG.o.size) (λ_ h=>by cases h);have e4:g<gc:=by omega
  clear s0;have m3:=qh i3;clear i3 y5;have r4:=qh t9;clear t9;have m2:=qh r6;clear r6 d0 HG HS E;have Q:=qh a4;clear a4;obtain⟨rq,cq,p1,p2,p3,p4,p5,p6⟩:=m3.o q B;have p7:=p6 q B;clear p6;have m7:=Xc (F:=F) (a8.o q q B B) j0.o (λf=>((hF.o f).steps q B).star) r4.o;replace m7:=qh m7
  go_wp2_with fail
  refine m7.o.mono ?_;rintro r w5⟨lp,e5,rfl,o2,n5,o5,v0,j7⟩;have i4:L<gc:=by omega
  have a4:=Q.o.kept j7 (by intro j T;cases T;exact i4);have i3:∀i,i<n->Rw1 w5 g L gc n Y i:=λi hi=>(m3.o i hi).gr (Gr.of j7 (by have:=Q.o.lt;omega)) e4 (by omega);clear p1 p2 p3 p4 p5 p7;have m4:=m2.o.more j7 (by have:=m2.o.size;omega) (λ_ h=>.inl h);have g5:=qh i3;clear i3 m3;have l4:=qh a4;clear a4 Q;replace m4:=qh m4;clear m2 j7;have e0:=qh<|a8.o.mono o5;clear a8;replace o2:=qh o2;replace n5:=qh n5;clear j0;have v8:=qh<|show e5=0->e=0 from λh=>HM.o (o5 h);clear o5 HM;have r5:=qh v0;clear v0 r4;have d7:g≠L:=by omega
  go_wp2_with fail
  go_loopw [11,12] (λi _ wr=>∃(d e6:Nat) (Yc:Nat->Nat->ByteArray),d<=n/\i=.int .i64 (d:Int)/\OM wr (λ_=>False) gc 9 100 gc n Rc (λ_=>n) Yc/\
   (∀l j,l<n->j<n->l<d->Is k e6 (Yc l j) (CSR.elim q (CSR.elims M q) l j))/\Er F e6/\(e6=0->e5=0)/\SumR wr L k.1 e6/\Gr gc (some L) w5 wr) (λi _ _=>n-(intOf i).toNat)
  case atStart=>exact⟨0,e5,_,Nat.zero_le _,rfl,l4.o,λ_ _ _ _ h=>by omega,n5.o,λh=>h,r5.o,Gr.refl _ _ _⟩
  obtain⟨d,e6,Yc,hd,rfl,J,i8,hE,hm,hS,hG⟩:=hrel;clear l4 r5;have Q:=qh J;clear J;have b6:=qh i8;clear i8;have b4:=qh hE;clear hE;have a5:=qh hm;clear hm;have b5:=qh hS;clear hS;have a7:=qh hG;clear hG;by_cases D:d<n
  ·have B7:(d:Int)<(n:Int):=by omega
   have A7:(0:Int)<=(d:Int):=by omega
   go_wp2_with fail
   go_loopw [12] (λi wr=>∃(m e6:Nat) (Yc:Nat->Nat->ByteArray),m<=n/\i=.int .i64 (m:Int)/\OM wr (λ_=>False) gc 9 100 gc n Rc (λ_=>n) Yc/\
    (∀l j,l<n->j<n->(l<d\/(l=d/\j<m))->Is k e6 (Yc l j) (CSR.elim q (CSR.elims M q) l j))/\Er F e6/\(e6=0->e5=0)/\SumR wr L k.1 e6/\Gr gc (some L) w5 wr) (λi _=>n-(intOf i).toNat)
   case atStart=>exact⟨0,e6,Yc,Nat.zero_le _,rfl,Q.o,λl j hl T h=>b6.o l j hl T (by omega),b4.o,a5.o,b5.o,a7.o⟩
   obtain⟨m,e6,Yc,C0,rfl,J,i8,hE,hm,hS,hG⟩:=hrel;clear Q b6 b4 a5 b5 a7;have Q:=qh J;clear J;have b6:=qh i8;clear i8;have b4:=qh hE;clear hE;have a5:=qh hm;clear hm;have b5:=qh hS;clear hS;have a7:=qh hG;clear hG;by_cases I:m<n
   ·have C2:(m:Int)<(n:Int):=by omega
    have A9:(0:Int)<=(m:Int):=by omega
    obtain⟨rd,cd,d1,d2,d3,d4,d5,d6⟩:=(g5.o d D).gr a7.o e4 d7;obtain⟨U,cc,b8,k9,o7,t7,_,s5,h0,b0,a9⟩:=Q.o.form D (by omega);unfold maxLen at h0;have s1:=Q.o.cell D;rw[b8]at s1;have s2:=a9 m I;have rf:=b0 m;replace b8:=qh b8;clear b0 a9;obtain⟨y3,g3⟩:=exq<|Y d m;have s4:=d6 m I;rw[<-g3]at s4;replace g3:=qh g3;have o:wr.drew.cell? (Ad gc d)=some (.slice (some (Ad U 0)) n cc)/\wr.drew.cell? (Ad U m)=some (.string (Yc d m))/\wr.drew.cell? (Ad g d)=some (.slice (some (Ad rd 0)) n cd)/\wr.drew.cell? (Ad rd m)=some (.string y3):=⟨s1,s2,d1,s4⟩;have D6:=qh d6;clear d6
    go_wp2_with fail
    refine AB (λs=>s.cell? (Ad gc d)=some (.slice (some (Ad U 0)) n cc)/\s.cell? (Ad U m)=some (.string (Yc d m))/\s.cell? (Ad g d)=some (.slice (some (Ad rd 0)) n cd)/\s.cell? (Ad rd m)=some (.string y3)) 13 (by kernel_rfl) ?_;refine Aa.tm 0 o ?_;refine Aa.tm 1 o ?_;refine Aa.tm 2 o ?_;refine Aa.tm 3 o ?_;refine Aa.tm 4 o ?_;refine Aa.tm 5 o ?_;refine Aa.tm 6 o ?_;refine Aa.tm 7 o ?_;refine Aa.tm 8 o ?_;refine Aa.tm 9 o ?_;refine Aa.tm 10 o ?_;refine Aa.tm 11 o ?_;refine Aa.tm 12 o ?_
    try simp only[Act.put,tryL]
    have g0:=o.2.1;have A2:wr.drew.frozen? (Ad U m)=false:=rf;refine Aa.on 13 λK G=>?_;go_simp;refine G.out _ _ (.inl rfl) (Aa.dn ?_);clear G K;have a2:=(Q.o.stored D I b8.o y3).kept (FK _ none) (by simp);have O:=(a7.o.set (p:=(Ad U m)) (.inr k9) (.string y3)).drew;have d8:=(b5.o.other (p:=(Ad U m)) (by show L≠U;omega) (.string y3)).drew;clear g0 A2 o s1 s2 s4 d1 rf;obtain⟨w6,o8⟩:∃w6,w6=(wr.setCell ⟨U,m,none⟩ (.string y3)).drew:=⟨_,rfl⟩;rw[<-o8]at a2 O d8;rw[<-o8];clear o8 b5 a7 D6;replace a2:=qh a2;replace O:=qh O;replace d8:=qh d8;obtain⟨N,b7,d1,w3,j2,x0,x1,d6⟩:=(g5.o d D).gr O.o e4 d7;obtain⟨rq,cq,q1,q2,q3,q4,q5,q6⟩:=(g5.o q B).gr O.o e4 d7;obtain⟨y1,i6⟩:=exq<|Y d q;obtain⟨y2,i7⟩:=exq<|Y q m;have t2:=d6 q B;have t5:=q6 m I;have t6:=d6 m I;rw[<-i6]at t2;rw[<-i7]at t5;rw[<-g3.o]at t6;have t3:=d8.o.c0;clear d6 q6;have b3:=λs=>DG k.1 s;replace b3:=qh b3;have j1:=qh (λs (hg:w6.grownBy s (some L))=>(⟨hg.cell d1 (by simp;exact d7),hg.cell t2 (by simp;exact j2),hg.cell q1 (by simp;exact d7),hg.cell t5 (by simp;exact q3)⟩ :
     s.cell? (Ad g d)=some (.slice (some (Ad N 0)) n b7)/\s.cell? (Ad N q)=some (.string y1)/\s.cell? (Ad g q)=some (.slice (some (Ad rq 0)) n cq)/\s.cell? (Ad rq m)=some (.string y2)))
    have f2:=qh (λs (hb:Below w6.heap.size w6 s)=>(⟨(j1.o _ (Ab hb _)).1,(j1.o _ (Ab hb _)).2.1,(d8.o.kept hb).c0,(j1.o _ (Ab hb _)).2.2.1,(j1.o _ (Ab hb _)).2.2.2⟩ :
     s.cell? (Ad g d)=some (.slice (some (Ad N 0)) n b7)/\s.cell? (Ad N q)=some (.string y1)/\s.cell? (Ad L 0)=some (.int .i64 k.1)/\s.cell? (Ad g q)=some (.slice (some (Ad rq 0)) n cq)/\s.cell? (Ad rq m)=some (.string y2)))
    obtain⟨zs,i9⟩:=exq<|Aj k.1;rw[<-i9]at b3;replace i9:=qh i9;replace i6:=qh i6;replace i7:=qh i7;have f4:Below w6.heap.size w6 w6.drew:=blr.drew;have o:=f2.o _ f4;cases y6:(y1.toList==zs.toList)
    focus
     cases y7:(y2.toList==zs.toList)
     ·go_wp2_with fail
      refine wp_region_held (S:=λs=>s.cell? (Ad g d)=some (.slice (some (Ad N 0)) n b7)/\s.cell? (Ad N q)=some (.string y1)/\s.cell? (Ad L 0)=some (.int .i64 k.1)/\s.cell? (Ad g q)=some (.slice (some (Ad rq 0)) n cq)/\s.cell? (Ad rq m)=some (.string y2)) (by kernel_rfl) ?_;refine hTm 0 o ?_;refine hTm 1 o ?_;refine hTm 2 o ?_;refine hTm 3 o ?_;refine hTm 4 o ?_;refine hTm 5 o ?_;refine hTm 6 o ?_;refine hTm 7 o ?_;refine hTm 8 o ?_;refine hTm 9 o ?_;refine hTm 10 o ?_
      try simp only[Act.put,tryL]
      refine wpAnyH_ready (rs:=[11]) (by kernel_rfl) (by simp) (AllReadyH.cons rfl (λK G=>?_) AllReadyH.nil);rw[ifp (by kernel_rfl)];go_simp;refine(b3.o _).mono ?_;rintro r A4⟨rfl,e1⟩;have W:=f4.trans e1;have A:=f2.o _ W;refine G.out _ _ A (λ_=>?_);clear G K
      try simp only[Act.put,tryL]
      refine hTm 12 A ?_;refine hTm 13 A ?_;refine hTm 14 A ?_;refine hTm 15 A ?_;refine hTm 16 A ?_;refine hTm 17 A ?_;refine hTm 18 A ?_;refine hTm 19 A ?_;refine hTm 20 A ?_;refine hTm 21 A ?_;refine hTm 22 A ?_;refine hTm 23 A ?_;refine hTm 24 A ?_
      try simp only[Act.put,tryL]
      refine wpAnyH_ready (rs:=[25]) (by kernel_rfl) (by simp) (AllReadyH.cons rfl (λK G=>?_) AllReadyH.nil);rw[ifp (by kernel_rfl)];go_simp;refine(b3.o _).mono ?_;rintro r wz⟨rfl,f5⟩;have H:=W.trans<|f5.mono W.size;have C:=f2.o _ H;refine G.out _ _ C (λ_=>?_);clear G K
      try simp only[Act.put,tryL]
      refine hTm 26 C ?_;refine hTm 27 C ?_
      try simp only[Act.put,tryL]
      refine wpAnyH_done (by kernel_rfl) ?_ _;have a6:=a2.o.kept (Ab H none) (by simp);have j3:=O.o.more (Ab H none) (by have:=O.o.size;have:=a2.o.lt;omega) (λ_ h=>by cases h);have g2:=d8.o.kept H;have k6:=(Ab H none).cell t6 (by simp);clear o A f4 d1 q1 t2 t3 t5 t6;obtain⟨z1,z2,_,z4,z5⟩:=C;obtain⟨C4,B5,l5,B0,t8,B1,_,_,_,l8,l7⟩:=a6.form D (by omega);have e2:=b8.o.symm.trans l5;simp only[Value.slice.injEq,Option.some.injEq,Addr.mk.injEq,and_true,true_and]at e2;obtain⟨e2,e3⟩:=e2;subst e2 e3;clear l5;obtain⟨y0,v4⟩:∃y0,wz.cell? ⟨U,m,none⟩=some (.string y0):=⟨_,l7 m I⟩;have u1:=a6.cell D;rw[b8.o]at u1;have A3:=l8 m;clear l8 l7;have r0:=qh a6;clear a6;have q8:=qh j3;clear j3;have w0:=qh g2;clear g2
      go_wp2_with fail
      have d9:=qh (λs (hg:wz.grownBy s (some L))=>(⟨hg.cell u1 (by simp;omega),hg.cell v4 (by simp;omega),hg.cell z1 (by simp;exact d7),hg.cell k6 (by simp;exact j2),hg.cell z2 (by simp;exact j2),hg.cell z4 (by simp;exact d7),hg.cell z5 (by simp;exact q3)⟩:s.cell? (Ad gc d)=some (.slice (some (Ad U 0)) n cc)/\s.cell? (Ad U m)=some (.string y0)/\s.cell? (Ad g d)=some (.slice (some (Ad N 0)) n b7)/\s.cell? (Ad N m)=some (.string y3)/\s.cell? (Ad N q)=some (.string y1)/\s.cell? (Ad g q)=some (.slice (some (Ad rq 0)) n cq)/\s.cell? (Ad rq m)=some (.string y2)));have j5:=FK wz (some L);have z:=d9.o _ j5;have j8:Is k e6 y1 (CSR.elims M q d q):=by rw[i6.o];exact(e0.o d q D B).mono a5.o
      have o3:Is k e6 y2 (CSR.elims M q q m):=by rw[i7.o];exact(e0.o q m B I).mono a5.o
      have o4:Is k e6 y3 (CSR.elims M q d m):=by rw[g3.o];exact(e0.o d m D I).mono a5.o
      have m5:=Pm (F:=F) j8 (o2.o.mono a5.o) b4.o (λf=>((hF.o f).steps q B).first d D) w0.o.drew
      have v7:=qh m5;clear m5;replace o3:=qh o3;clear j8;replace o4:=qh o4;clear f5 e1 W H;refine AB (λs=>s.cell? (Ad gc d)=some (.slice (some (Ad U 0)) n cc)/\s.cell? (Ad U m)=some (.string y0)/\s.cell? (Ad g d)=some (.slice (some (Ad N 0)) n b7)/\s.cell? (Ad N m)=some (.string y3)/\s.cell? (Ad N q)=some (.string y1)/\s.cell? (Ad g q)=some (.slice (some (Ad rq 0)) n cq)/\s.cell? (Ad rq m)=some (.string y2)) 34 (by kernel_rfl) ?_;refine Aa.tm 0 z ?_;refine Aa.tm 1 z ?_;refine Aa.tm 2 z ?_;refine Aa.tm 3 z ?_;refine Aa.tm 4 z ?_;refine Aa.tm 5 z ?_;refine Aa.tm 6 z ?_;refine Aa.tm 7 z ?_;refine Aa.tm 8 z ?_;refine Aa.tm 9 z ?_;refine Aa.tm 10 z ?_;refine Aa.tm 11 z ?_;refine Aa.tm 12 z ?_;refine Aa.tm 13 z ?_;refine Aa.tm 14 z ?_;refine Aa.tm 15 z ?_;refine Aa.tm 16 z ?_;refine Aa.tm 17 z ?_;refine Aa.tm 18 z ?_;refine Aa.tm 19 z ?_;refine Aa.tm 20 z ?_;refine Aa.tm 21 z ?_;refine Aa.tm 22 z ?_;refine Aa.tm 24 z ?_;refine Aa.tm 25 z ?_;refine Aa.tm 26 z ?_;refine Aa.tm 27 z ?_;refine Aa.tm 28 z ?_;refine Aa.tm 29 z ?_;refine Aa.tm 30 z ?_
      try simp only[Act.put,tryL]
      refine Aa.on 23 λK G=>?_;go_simp;refine v7.o.mono ?_;rintro r w7⟨u7,e7,rfl,z3,x5,j9,l0,x7⟩;have f8:=BW j5 x7;have g6:=d9.o _ f8;refine G.out _ _ (.inr g6) ?_;clear G K
      try simp only[Act.put,tryL]
      refine Aa.on 31 λK G=>?_;go_simp;refine(Pm (F:=F) z3 (o3.o.mono j9) x5 (λf=>((hF.o f).steps q B).second d m D I) l0).mono ?_;rintro r w8⟨u8,e8,rfl,l2,n6,f7,l1,n7⟩;have b2:=BW f8 n7;have b9:=d9.o _ b2;refine G.out _ _ (.inr b9) ?_;clear G K
      try simp only[Act.put,tryL]
      refine Aa.on 32 λK G=>?_;go_simp;refine(OY (F:=F) (o4.o.mono (λh=>j9 (f7 h))) l2 n6 (λf=>((hF.o f).steps q B).sum d m D I) l1).mono ?_;rintro r w9⟨u9,e9,rfl,z6,x6,s6,y9,x8⟩;have k0:=BW b2 x8;have j4:=d9.o _ k0;refine G.out _ _ (.inr j4) ?_;clear G K
      try simp only[Act.put,tryL]
      refine Aa.tm 33 j4 ?_
      try simp only[Act.put,tryL]
      have g9:=j4.2.1;have A0:w9.frozen? (Ad U m)=false:=(k0.frozen_far (Ad U m) t8 (by simp;omega)).trans A3;refine Aa.on 34 λK G=>?_;go_simp;refine G.out _ _ (.inl rfl) (Aa.dn ?_);clear G K;have s8:=(r0.o.kept k0 (by intro j T;cases T;exact i4)).stored D I b8.o u9;have x3:=(q8.o.more k0 (by have:=q8.o.size;have:=a2.o.lt;have:=O.o.size;have:=r0.o.lt;omega) (λ_ e=>.inl e)).set (p:=(Ad U m)) (.inr k9) (.string u9);have v3:=y9.other (p:=(Ad U m)) (by show L≠U;omega) (.string u9);clear z g6 b9 j4 g9 A0 u1 v4 z1 z2 z4 z5 k6;go_wp2;go_roundw
      case rel =>
       refine⟨m+1,e9,_,by omega,by go_num,s8,λl j hl T y4=>?_,x6,λh=>a5.o (j9 (f7 (s6 h))),v3,x3⟩;by_cases e:l=d/\j=m
       ·rw[ifp e,e.1,e.2];exact z6
       rw[ifn e,ifn e];exact(b6.o l j hl T (by omega)).mono (λh=>j9 (f7 (s6 h)))
      simp[intOf];omega
     have h8:Y d q=Aj k.1\/Y q m=Aj k.1:=.inr (by rw[<-i7.o,<-i9.o];exact toList_eq y7);have q7:=qh h8;clear h8
     go_wp2_with fail
     refine wp_region_held (S:=λs=>s.cell? (Ad g d)=some (.slice (some (Ad N 0)) n b7)/\s.cell? (Ad N q)=some (.string y1)/\s.cell? (Ad L 0)=some (.int .i64 k.1)/\s.cell? (Ad g q)=some (.slice (some (Ad rq 0)) n cq)/\s.cell? (Ad rq m)=some (.string y2)) (by kernel_rfl) ?_;refine hTm 0 o ?_;refine hTm 1 o ?_;refine hTm 2 o ?_;refine hTm 3 o ?_;refine hTm 4 o ?_;refine hTm 5 o ?_;refine hTm 6 o ?_;refine hTm 7 o ?_;refine hTm 8 o ?_;refine hTm 9 o ?_;refine hTm 10 o ?_
     try simp only[Act.put,tryL]
     refine wpAnyH_ready (rs:=[11]) (by kernel_rfl) (by simp) (AllReadyH.cons rfl (λK G=>?_) AllReadyH.nil);rw[ifp (by kernel_rfl)];go_simp;refine(b3.o _).mono ?_;rintro r A4⟨rfl,e1⟩;have W:=f4.trans e1;have A:=f2.o _ W;refine G.out _ _ A (λ_=>?_);clear G K
     try simp only[Act.put,tryL]
     refine hTm 12 A ?_;refine hTm 13 A ?_;refine hTm 14 A ?_;refine hTm 15 A ?_;refine hTm 16 A ?_;refine hTm 17 A ?_;refine hTm 18 A ?_;refine hTm 19 A ?_;refine hTm 20 A ?_;refine hTm 21 A ?_;refine hTm 22 A ?_;refine hTm 23 A ?_;refine hTm 24 A ?_
     try simp only[Act.put,tryL]
     refine wpAnyH_ready (rs:=[25]) (by kernel_rfl) (by simp) (AllReadyH.cons rfl (λK G=>?_) AllReadyH.nil);rw[ifp (by kernel_rfl)];go_simp;refine(b3.o _).mono ?_;rintro r wz⟨rfl,f5⟩;have H:=W.trans<|f5.mono W.size;have C:=f2.o _ H;refine G.out _ _ C (λ_=>?_);clear G K
     try simp only[Act.put,tryL]
     refine hTm 26 C ?_
    rotate_left
    focus
     have h8:Y d q=Aj k.1\/Y q m=Aj k.1:=.inl (by rw[<-i6.o,<-i9.o];exact toList_eq y6);have q7:=qh h8;clear h8
     go_wp2_with fail
     refine wp_region_held (S:=λs=>s.cell? (Ad g d)=some (.slice (some (Ad N 0)) n b7)/\s.cell? (Ad N q)=some (.string y1)/\s.cell? (Ad L 0)=some (.int .i64 k.1)/\s.cell? (Ad g q)=some (.slice (some (Ad rq 0)) n cq)/\s.cell? (Ad rq m)=some (.string y2)) (by kernel_rfl) ?_;refine hTm 0 o ?_;refine hTm 1 o ?_;refine hTm 2 o ?_;refine hTm 3 o ?_;refine hTm 4 o ?_;refine hTm 5 o ?_;refine hTm 6 o ?_;refine hTm 7 o ?_;refine hTm 8 o ?_;refine hTm 9 o ?_;refine hTm 10 o ?_
     try simp only[Act.put,tryL]
     refine wpAnyH_ready (rs:=[11]) (by kernel_rfl) (by simp) (AllReadyH.cons rfl (λK G=>?_) AllReadyH.nil);rw[ifp (by kernel_rfl)];go_simp;refine(b3.o _).mono ?_;rintro r wz⟨rfl,f5⟩;have H:=f4.trans f5;have C:=f2.o _ H;refine G.out _ _ C (λ_=>?_);clear G K
     try simp only[Act.put,tryL]
     refine hTm 12 C ?_;refine hTm 13 C ?_;refine hTs 14 C ?_;refine hTs 15 C ?_;refine hTs 16 C ?_;refine hTs 17 C ?_;refine hTs 18 C ?_;refine hTs 19 C ?_;refine hTs 20 C ?_;refine hTs 21 C ?_;refine hTs 22 C ?_;refine hTs 23 C ?_;refine hTs 24 C ?_;refine hTs 25 C ?_;refine hTs 26 C ?_
    all_goals
     refine hTm 27 C ?_
     try simp only[Act.put,tryL]
     refine wpAnyH_done (by kernel_rfl) ?_ _;have a6:=a2.o.kept (Ab H none) (by simp);have j3:=O.o.more (Ab H none) (by have:=O.o.size;have:=a2.o.lt;omega) (λ_ h=>by cases h);have g2:=d8.o.kept H;clear o C f4 d1 w3 j2 x0 x1 q1 q2 q3 q4 q5 t2 t3 t5 t6;go_wp2;go_roundw
     case rel =>
      refine⟨m+1,e6,_,by omega,by go_num,a6,λl j hl T y4=>?_,b4.o,a5.o,g2,j3⟩;by_cases e:l=d/\j=m
      ·rw[ifp e,e.1,e.2,g3.o];exact Tw (e0.o.mono a5.o) D I B q7.o
      rw[ifn e];exact b6.o l j hl T (by omega)
     simp[intOf];omega
   have o6:m=n:=by omega
   have h9:¬((m:Int)<(n:Int)):=by omega
   replace o6:=qh o6;go_wp2;go_roundw
   case rel=>exact⟨d+1,e6,Yc,by omega,by go_num,Q.o,λl j hl T h=>b6.o l j hl T (by have:=o6.o;omega),b4.o,a5.o,b5.o,a7.o⟩
   simp[intOf];omega
  have m9:d=n:=by omega
  have h9:¬((d:Int)<(n:Int)):=by omega
  replace m9:=qh m9;go_wp2;go_roundw
  case rel =>
   refine⟨q+1,e6,gc,Rc,Yc,by omega,rfl,by go_num,Q.o,i4,by omega,λl j hl T=>b6.o l j hl T (by have:=m9.o;omega),b4.o,λh=>v8.o (a5.o h),b5.o,?_⟩;exact m4.o.trans<|a7.o.mono (by omega)
  simp[intOf];omega
 have f9:q=n:=by omega
 have h9:¬((q:Int)<(n:Int)):=by omega
 have h7:Diag e' n 0 Y (CSR.elims M n):=Diag.start (by have h:=a8.o;rw[f9]at h;exact h);have f1:=qh h7;clear h7;have B3:=qh f9;clear f9
 go_wp2_with fail
 go_loopw [13] (λi wr=>∃(c e3:Nat) (Z:Nat->Nat->ByteArray),c<=n/\i=.int .i64 (c:Int)/\OM wr (λ_=>False) g 9 100 g n R (λ_=>n) Z/\Diag e3 n c Z (CSR.elims M n)/\Er F e3/\(e3=0->e'=0)/\SumR wr L k.1 e3/\Gr w.heap.size (some L) w wr) (λi _=>n-(intOf i).toNat)
 case atStart=>exact⟨0,e',Y,Nat.zero_le _,rfl,E.o,f1.o,j0.o,λh=>h,HS.o,HG.o⟩
 clear E f1 j0 HS HG a8;obtain⟨c,e3,Z,x4,rfl,J,h7,hE,hm,hS,hG⟩:=hrel;have E:=qh J;clear J;have f1:=qh h7;clear h7;have p9:=qh hE;clear hE;have q9:=qh hm;clear hm;have HS:=qh hS;clear hS;have HG:=qh hG;clear hG;by_cases B:c<n
 ·have B6:(c:Int)<(n:Int):=by omega
  have A6:(0:Int)<=(c:Int):=by omega
  obtain⟨rb,U,f3,k9,o7,t7,_,s5,h0,b0,a9⟩:=E.o.form B (by omega);unfold maxLen at h0;have s1:=E.o.cell B;rw[f3]at s1;have s2:=a9 c B;have s3:=HS.o.c0;have rf:=b0 c;have v9:=qh f3;clear f3 b0 a9;obtain⟨y,hy⟩:=exq<|Z c c;rw[<-hy]at s2;have o9:Is k e3 y (CSR.elims M n c c):=by have:=f1.o c c B B;rw[ifn (by omega)]at this;rw[hy];exact this
  replace o9:=qh o9;clear hy;have x9:=E.o.lt;have j5:=FK wr (some L);have z7:=HG.o.size;have o:wr.drew.cell? (Ad g c)=some (.slice (some (Ad rb 0)) n U)/\wr.drew.cell? (Ad rb c)=some (.string y)/\wr.drew.cell? (Ad L 0)=some (.int .i64 k.1):=⟨s1,s2,s3⟩
  go_wp2_with fail
  refine AB (λs=>s.cell? (Ad g c)=some (.slice (some (Ad rb 0)) n U)/\s.cell? (Ad rb c)=some (.string y)/\s.cell? (Ad L 0)=some (.int .i64 k.1)) 20 (by kernel_rfl) ?_;refine Aa.tm 0 o ?_;refine Aa.tm 1 o ?_;refine Aa.tm 2 o ?_;refine Aa.tm 3 o ?_;refine Aa.tm 4 o ?_;refine Aa.tm 5 o ?_;refine Aa.tm 6 o ?_;refine Aa.tm 7 o ?_;refine Aa.tm 8 o ?_;refine Aa.tm 9 o ?_;refine Aa.tm 11 o ?_;refine Aa.tm 12 o ?_;refine Aa.tm 13 o ?_;refine Aa.tm 14 o ?_;refine Aa.tm 15 o ?_;refine Aa.tm 16 o ?_;refine Aa.tm 17 o ?_
  try simp only[Act.put,tryL]
  refine Aa.on 10 λK G=>?_;go_simp;refine(Ip k.1 _).mono ?_;rintro r w7⟨rfl,r8⟩;have f8:=BW j5 (Ab r8 (some L));have l0:=HS.o.drew.kept r8;have g6:w7.cell? (Ad g c)=some (.slice (some (Ad rb 0)) n U)/\w7.cell? (Ad rb c)=some (.string y)/\w7.cell? (Ad L 0)=some (.int .i64 k.1):=⟨f8.cell s1 (by simp;omega),f8.cell s2 (by simp;omega),l0.c0⟩;refine G.out _ _ (.inr g6) ?_;clear G K
  try simp only[Act.put,tryL]
  refine Aa.on 18 λK G=>?_;go_simp;refine(OY (F:=F) (Is.one k e3) o9.o p9.o (λf=>by rw[CSR.aC];exact(hF.o f).last c B) l0).mono ?_;rintro r w8⟨u8,e8,rfl,l2,n6,f7,l1,n7⟩;have b2:=BW f8 n7;have b9:w8.cell? (Ad g c)=some (.slice (some (Ad rb 0)) n U)/\w8.cell? (Ad rb c)=some (.string y)/\w8.cell? (Ad L 0)=some (.int .i64 k.1):=⟨b2.cell s1 (by simp;omega),b2.cell s2 (by simp;omega),l1.c0⟩;refine G.out _ _ (.inr b9) ?_;clear G K
  try simp only[Act.put,tryL]
  refine Aa.tm 19 b9 ?_
  try simp only[Act.put,tryL]
  have g8:=b9.2.1;have z9:w8.frozen? (Ad rb c)=false:=(b2.frozen_far (Ad rb c) o7 (by simp;omega)).trans rf;refine Aa.on 20 λK G=>?_;go_simp;refine G.out _ _ (.inl rfl) (Aa.dn ?_);clear G K;have s7:=(E.o.kept b2 (by intro j T;cases T;exact g1)).stored B B v9.o u8;have x2:=(HG.o.more b2 z7 (λ_ e=>.inl e)).set (p:=(Ad rb c)) (.inr (by show _<=rb;omega)) (.string u8);have v2:=l1.other (p:=(Ad rb c)) (by show L≠rb;omega) (.string u8);clear o g6 b9 g8 z9 s1 s2 s3;go_wp2;go_roundw
  case rel =>
   rw[CSR.aC]at l2;exact⟨c+1,e8,_,by omega,by go_num,s7,f1.o.next f7 l2,n6,λh=>q9.o (f7 h),v2,x2⟩
  simp[intOf];omega
 have l6:c=n:=by omega
 have A8:¬((c:Int)<(n:Int)):=by omega
 have j6:=f1.o;rw[l6]at j6;replace j6:=qh j6;clear l6;go_wp2;go_ret;exact⟨_,e3,Z,rfl,E.o.mt (by unfold maxLen;omega) (by intro j T;cases T;exact .inl g1),j6.o.done,p9.o,λh=>HM.o (q9.o h),HS.o,Gr.gb HG.o⟩
def RStarE{k:KK}(n:Nat)(M:Nat->Nat->RK k)(w:World)(r:Ending)(w':World):Prop:=Below w.heap.size w w'/\
 (r=.returned (.tuple #[.slice none 0 0,.int .i64 2])\/∃v Y,r=.returned (.tuple #[v,.int .i64 0])/\n<=60/\Mt none w' v n (λ_=>n) Y/\MatIs 0 n Y (CSR.starM M n))
theorem Xb{k:KK}{n:Nat}{L:Nat->Nat}{X:Nat->Nat->ByteArray}{v:Value}(w:World)(hn:n<=60)(A:Mt none w v n L X)(J:∀i j,(X i j).size<=maxLen)(g:Sq k.1 n L X):
  Calls prog 116 #[.int .i64 k.1,v] w (RStarE n (λi j=>wval k (X i j)) w):=by
 have s:=UK (k0:=k.1) w A J True (by simp only[true_iff];exact⟨(by unfold Aw;have:=k.2;simp;omega),g⟩);obtain⟨a,D,rfl⟩:=A.shape;replace s:=qh s;replace A:=qh A;replace g:=qh g;replace J:=qh J;obtain⟨M,o⟩:∃M:Nat->Nat->RK k,M=λi j=>wval k (X i j):=⟨_,rfl⟩;have G:MatIs 0 n X M:=by rw[o];exact g.o.mat
 rw[<-o];clear o;replace G:=qh G
 go_enter func116,ntmps116
 go_wp2_with fail
 refine s.o.mono ?_;rintro r wr⟨N,rfl,B,c⟩;obtain rfl:N=true:=B.2 trivial;clear B;replace c:=qh c;have K:decide ((60:Int)<(n:Int))=false:=by simp;omega
 obtain⟨z,d⟩:=exq<|wr.heap.size;have u:SumR (wr.alloc (.cells #[.int .i64 k.1,.bool false] 169)) z k.1 0:=by rw[d];exact SumR.new wr _
 have p:Below w.heap.size w (wr.alloc (.cells #[.int .i64 k.1,.bool false] 169)):=c.o.alloc c.o.size _;have I:w.heap.size<=z:=by rw[d];exact c.o.size
 have m:Mt (some z) (wr.alloc (.cells #[.int .i64 k.1,.bool false] 169)) (.slice a n D) n (λ_=>n) X :=
  (((A.o.congr (L':=λ_=>n) (λi hi=>(g.o i hi).1) (λ_ _ _ _=>rfl)).far (k:=z) (by rw[d];exact c.o.size)).kept (Ab c.o _)).kept (World.grownBy_alloc _ _ _)
 replace u:=qh u;replace p:=qh p;replace m:=qh m
 go_wp2_with fail
 rw[<-d];refine(XG (F:=False) _ hn u.o ⟨.inl rfl,False.elim⟩ m.o G.o False.elim).mono ?_;rintro r R⟨T,S,Y,rfl,P,H,E,_,l,C⟩;have h:Below w.heap.size w R:=p.o.grown C (by simp;have:=c.o.size;omega) (λj Q=>by cases Q;exact I);replace h:=qh h;clear C d
 rcases E.1 with rfl|rfl
 ·have O:=l.c1 (b:=false) (by simp);clear l;go_wp2;go_ret2;exact⟨h.o,.inr ⟨_,Y,rfl,hn,P.any,H⟩⟩
 have O:=l.c1 (b:=true) (by simp);clear l;go_wp2;go_ret2;exact⟨h.o,.inl rfl⟩
end
end Go.Proofs.YtpldocnhbdlgfaaGreatDoor
