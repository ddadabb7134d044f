/- Parts. -/
import Derived.Test.YtpldocnhbdlgfaaGreatDoorPb21
namespace Go.Proofs.YtpldocnhbdlgfaaGreatDoor
set_option maxRecDepth 100000
set_option linter.all false
set_option maxHeartbeats 16000000
open Go Tryz
section
variable{i j n:Nat}{v:Nat->ByteArray}
def rsP8(k:Int)(S:Nat->Nat->ByteArray)(v:Nat->ByteArray)(q:Nat):Nat->WS->WS
 |0,s=>s
 |p+1,s=>if (rsP8 k S v q p s).2≠0 then rsP8 k S v q p s else if v q=Aj k\/S q p=Aj k then rsP8 k S v q p s else addR k (rsP8 k S v q p s).1 p (v q) (S q p)
def rsQ8(k:Int)(S:Nat->Nat->ByteArray)(v:Nat->ByteArray)(n:Nat):Nat->WS->WS
 |0,s=>s
 |q+1,s=>rsP8 k S v q n (rsQ8 k S v n q s)
def rest8(k:Int)(n:Nat)(st:StarO)(v:Nat->ByteArray):WS:=match st with
 |none=>(v,0)
 |some S=>rsQ8 k S v n n (zerR k,0)
def rsT(D:MD)(st:StarO)(i j:Nat)(s:TbR × Nat):TbR × Nat :=
 if s.2≠0 then s else if (rest8 D.kind D.n st (s.1 i j)).2≠0 then (s.1,(rest8 D.kind D.n st (s.1 i j)).2) else (updT s.1 i j (rest8 D.kind D.n st (s.1 i j)).1,0)
def Bd(D:MD)(st:StarO)(na:Nat)(x:Nat->Int)(nb:Nat)(y:Nat->Int)(i:Nat):Nat->TbR × Nat->TbR × Nat
 |0,s=>s
 |j+1,s=>mvR D na x nb y i j 4 (rsT D st i j (Bd D st na x nb y i j s))
def Bc(D:MD)(st:StarO)(na:Nat)(x:Nat->Int)(nb:Nat)(y:Nat->Int):Nat->TbR × Nat->TbR × Nat
 |0,s=>s
 |i+1,s=>Bd D st na x nb y i (nb+1) (Bc D st na x nb y i s)
def Co(D:MD)(st:StarO)(na:Nat)(x:Nat->Int)(nb:Nat)(y:Nat->Int):ByteArray × Nat :=
 if (Bc D st na x nb y (na+1) (X0R D,0)).2≠0 then (⟨#[]⟩,(Bc D st na x nb y (na+1) (X0R D,0)).2) else endR D ((Bc D st na x nb y (na+1) (X0R D,0)).1 na nb)
section
variable{D:MD}{st:StarO}{na:Nat}{x:Nat->Int}{nb:Nat}{y:Nat->Int}
def OP{s:TbR × Nat}(h:s.2≠0):rsT D st i j s=s:=ifp h
theorem GX{i j:Nat}{s:TbR × Nat}(h:(Bd D st na x nb y i j s).2≠0):∀d,Bd D st na x nb y i (j+d) s=Bd D st na x nb y i j s
 |0=>rfl
 |d+1=>by
  show mvR D na x nb y i (j+d) 4 (rsT D st i (j+d) (Bd D st na x nb y i (j+d) s))=_;rw[GX h d,OP h];exact Hr (k:=0) h 4
theorem La{i:Nat}{s:TbR × Nat}(h:(Bc D st na x nb y i s).2≠0):∀d,Bc D st na x nb y (i+d) s=Bc D st na x nb y i s
 |0=>rfl
 |d+1=>by
  show Bd D st na x nb y (i+d) (nb+1) (Bc D st na x nb y (i+d) s)=_;rw[La h d];have:=GX (D:=D) (st:=st) (na:=na) (x:=x) (nb:=nb) (y:=y) (i:=i+d) (j:=0) (s:=Bc D st na x nb y i s) h (nb+1);rw[Nat.zero_add]at this;exact this
def Qq{c z:TbR × Nat}(m:c=Bc D st na x nb y i (X0R D,0))(h:Bd D st na x nb y i (j+1) c=z)(d:z.2≠0)(hi:i<=na)(o:j<=nb):Co D st na x nb y=(⟨#[]⟩,z.2):=by
 have k:Bd D st na x nb y i (nb+1) c=z:=by
  have:=GX (D:=D) (st:=st) (na:=na) (x:=x) (nb:=nb) (y:=y) (i:=i) (j:=j+1) (s:=c) (by rw[h];exact d) (nb-j);rw[show j+1+(nb-j)=nb+1 by omega,h]at this;exact this
 have g:Bc D st na x nb y (i+1) (X0R D,0)=z:=by show Bd D st na x nb y i (nb+1) (Bc D st na x nb y i (X0R D,0))=z;rw[<-m];exact k
 have l:Bc D st na x nb y (na+1) (X0R D,0)=z:=by
  have:=La (D:=D) (st:=st) (na:=na) (x:=x) (nb:=nb) (y:=y) (i:=i+1) (s:=(X0R D,0)) (by rw[g];exact d) (na-i);rw[show i+1+(na-i)=na+1 by omega,g]at this;exact this
 unfold Co;rw[l,ifp d]
theorem YG{k:Nat}{c d z:TbR × Nat}(l:c=Bc D st na x nb y i (X0R D,0))(m:d=rsT D st i j (Bd D st na x nb y i j c))(g:mvR D na x nb y i j k d=z)(h:z.2≠0)(hi:i<=na)(o:j<=nb)(p:k<=4):Co D st na x nb y=(⟨#[]⟩,z.2):=by
 refine Qq l ?_ h hi o;show mvR D na x nb y i j 4 (rsT D st i j (Bd D st na x nb y i j c))=z;rw[<-m];have:=Hr (D:=D) (na:=na) (x:=x) (nb:=nb) (y:=y) (i:=i) (j:=j) (k:=k) (s:=d) (by rw[g];exact h) (4-k);rw[show k+(4-k)=4 by omega,g]at this;exact this
end
theorem KC{k:Int}{S:Nat->Nat->ByteArray}{v:Nat->ByteArray}{q:Nat}:∀(p:Nat) {s:WS},(∀j,smS (s.1 j))->∀j,smS ((rsP8 k S v q p s).1 j)
 |0,_,h=>h
 |p+1,s,h=>λj=>by
  have ih:=KC (k:=k) (S:=S) (v:=v) (q:=q) p h;unfold rsP8
  split
  ·exact ih j
  split
  ·exact ih j
  exact IP ih j
theorem KE{k:Int}{S:Nat->Nat->ByteArray}{v:Nat->ByteArray}{n:Nat}:∀(q:Nat) {s:WS},(∀j,smS (s.1 j))->∀j,smS ((rsQ8 k S v n q s).1 j)
 |0,_,h=>h
 |q+1,_,h=>KC n (KE q h)
def Wl{k:Int}{st:StarO}(c:∀j,smS (v j)):∀j,smS ((rest8 k n st v).1 j):=by
 cases st with
 |none=>exact c
 |some S=>exact KE n (λ_=>Ej k)
open CSR
section
variable{k:KK}{j0:Int}(hk:k.1=j0)
def Rl8(k:KK)(n:Nat)(l:Nat->ByteArray)(v:Nat->RK k):Prop:=∀p,p<n->Sv k (l p) (v p)
include hk
theorem IQ{t:Nat}{l:Nat->ByteArray}{lv:Nat->RK k}{a b:ByteArray}{x y:RK k}(h:Rl8 k n l lv)(s:t<n)(m:Sv k a x)(hb:Sv k b y)(c:(addR j0 l t a b).2=0):Rl8 k n (addR j0 l t a b).1 (λp=>if p=t then lv t+x*y else lv p):=by
 subst hk;unfold addR at c ⊢;by_cases g:(Ae k.1 a b).2≠0
 ·rw[ifp g]at c;exact absurd c g
 rw[ifn g]at c ⊢;have i:(Ae k.1 a b).2=0:=by omega
 by_cases d:(Ar k.1 (l t) (Ae k.1 a b).1).2=0
 ·rw[ifp d];have j:=Kf (h t s) (Le m hb i) d;intro p o;show Sv k (updS l t _ p) (if p=t then lv t+x*y else lv p)
  unfold updS;by_cases e:p=t
  ·rw[ifp e,ifp e];exact j
  rw[ifn e,ifn e];exact h p o
 rw[ifn d]at c;exact absurd c d
theorem Lu{s:ByteArray}{x:RK k}(h:Sv k s x):s=Aj j0↔x=zero:=by subst hk;exact h.eq_zero
theorem OL{n:Nat}{S:Nat->Nat->ByteArray}{M:Nat->Nat->RK k}{v:Nat->ByteArray}{q:Nat}{xq:RK k}(hS:∀p,p<n->Sv k (S q p) (M q p))(hv:Sv k (v q) xq):∀(p:Nat) {s:WS} {lv:Nat->RK k},p<=n->Rl8 k n s.1 lv->(rsP8 j0 S v q p s).2=0->Rl8 k n (rsP8 j0 S v q p s).1 (λr=>if r<p then lv r+xq*M q r else lv r)
 |0,s,lv,_,h,_=>λr hr=>by simp only[Nat.not_lt_zero,if_false];exact h r hr
 |p+1,s,lv,hp,h,he=>by
  have he0:(rsP8 j0 S v q p s).2=0:=by
   by_cases e:(rsP8 j0 S v q p s).2=0
   ·exact e
   unfold rsP8 at he;rw[ifp e]at he;exact absurd he e
  have ih:=OL hS hv p (by omega) h he0;unfold rsP8 at he ⊢;rw[ifn (by omega)]at he ⊢;by_cases hc:v q=Aj j0\/S q p=Aj j0
  ·rw[ifp hc];have hz:xq*M q p=zero:=by
    rcases hc with h1|h1
    ·rw[(Lu hk hv).1 h1,zm]
    rw[(Lu hk (hS p (by omega))).1 h1,m0]
   intro r hr;have h1:=ih r hr;by_cases e:r<p
   ·simp only[ifp e]at h1;simp only[ifp (show r<p+1 by omega)];exact h1
   simp only[ifn e]at h1;by_cases e2:r=p
   ·subst e2;simp only[ifp (show r<r+1 by omega)];rw[hz,a0];exact h1
   simp only[ifn (show ¬r<p+1 by omega)];exact h1
  rw[ifn hc]at he ⊢;have h1:=IQ hk ih (show p<n by omega) hv (hS p (by omega)) he;intro r hr;have h2:=h1 r hr;by_cases e2:r=p
  ·subst e2;simp only[if_pos,Nat.lt_irrefl,if_false]at h2;simp only[ifp (show r<r+1 by omega)];exact h2
  simp only[ifn e2]at h2;by_cases e:r<p
  ·simp only[ifp e]at h2;simp only[ifp (show r<p+1 by omega)];exact h2
  simp only[ifn e]at h2;simp only[ifn (show ¬r<p+1 by omega)];exact h2
omit hk in
theorem OK{j:Int}{S:Nat->Nat->ByteArray}{v:Nat->ByteArray}{q:Nat}:∀(p:Nat) {s:WS},(rsP8 j S v q p s).2=0->s.2=0
 |0,_,h=>h
 |p+1,s,h=>by
  unfold rsP8 at h;by_cases e:(rsP8 j S v q p s).2≠0
  ·rw[ifp e]at h;exact absurd h e
  have e2:(rsP8 j S v q p s).2=0:=by omega
  exact OK p e2
theorem OO{n:Nat}{S:Nat->Nat->ByteArray}{M:Nat->Nat->RK k}{v:Nat->ByteArray}{vv:Nat->RK k}(hS:∀q p,q<n->p<n->Sv k (S q p) (M q p))(hv:∀q,q<n->Sv k (v q) (vv q)):∀(q:Nat) {s:WS} {lv:Nat->RK k},q<=n->Rl8 k n s.1 lv->(rsQ8 j0 S v n q s).2=0->Rl8 k n (rsQ8 j0 S v n q s).1 (λr=>lv r+sum (λq=>vv q*M q r) q)
 |0,s,lv,_,h,_=>λr hr=>by show Sv k _ (lv r+zero);rw[a0];exact h r hr
 |q+1,s,lv,hq,h,he=>by
  have he':(rsP8 j0 S v q n (rsQ8 j0 S v n q s)).2=0:=he;have ih:=OO hS hv q (by omega) h (OK n he');have h4:=OL hk (λp hp=>hS q p (by omega) hp) (hv q (by omega)) n nlr ih he';intro r hr;have h5:=h4 r hr;simp only[ifp hr]at h5;show Sv k _ (lv r+(sum _ q+_));rw[<-aA];exact h5
end
section
variable{D:MD}(hV:VM D){k:KK}(hk:k.1=D.kind)
include hV hk
theorem Wm{st:StarO}(c:StOk k D st){vv:Nat->RK k}(h:Rl8 k D.n v vv)(j:(rest8 D.kind D.n st v).2=0):Rl8 k D.n (rest8 D.kind D.n st v).1 (rst (sil (rmOf k D)) D.n vv):=by
 cases st with
 |none=>intro p d;rw[WF c vv d];exact h p d
 |some S =>
  have i:=OO hk c h D.n (s:=(zerR D.kind,0)) (lv:=λ_=>zero) nlr (λp _=>by rw[<-hk];exact Sv.zero) j;intro p d;have g:Sv k _ (zero+sum (λq=>vv q*starM (sil (rmOf k D)) D.n q p) D.n):=i p d;rw[z0]at g;exact g
theorem LK{i o:Int}{v:Nat->ByteArray}{q:Nat}{xq:RK k}(hq:q<D.n)(hv:Sv k (v q) xq):∀(d:Nat) {s:WS} {lv:Nat->RK k},d<=D.na q->Rl8 k D.n s.1 lv->(Bg D i o v q d s).2=0->Rl8 k D.n (Bg D i o v q d s).1 (λp=>lv p+sum (λd=>if (rmOf k D).ain q d=i/\(rmOf k D).aout q d=o/\(rmOf k D).ato q d=p then xq*(rmOf k D).aw q d else zero) d)
 |0,s,lv,_,h,_=>λp hp=>by show Sv k _ (lv p+zero);rw[a0];exact h p hp
 |d+1,s,lv,hd,h,he=>by
  have he0:(Bg D i o v q d s).2=0:=by
   by_cases e:(Bg D i o v q d s).2=0
   ·exact e
   unfold Bg arcR at he;rw[ifp e]at he;exact absurd he e
  have ih:=LK hq hv (i:=i) (o:=o) d (by omega) h he0;unfold Bg arcR at he ⊢;rw[ifn (by omega)]at he ⊢;have ha:=hV.arc q d hq (by omega);have ht:(D.ato q d).toNat<D.n:=by have:=ha.t0;have:=ha.t1;omega
  intro p hp;show Sv k _ (lv p+(sum _ d+(if D.ain q d=i/\D.aout q d=o/\(D.ato q d).toNat=p then xq*wval k (D.aw q d) else zero)))
  by_cases hm:D.ain q d=i/\D.aout q d=o
  ·rw[ifp hm]at he ⊢;have h1:=IQ hk ih ht hv (II hk ha.wt) he p hp;by_cases e:p=(D.ato q d).toNat
   ·simp only[ifp e]at h1;rw[ifp ⟨hm.1,hm.2,e.symm⟩,<-aA];subst e;exact h1
   simp only[ifn e]at h1;rw[ifn (λh=>e h.2.2.symm),a0];exact h1
  rw[ifn hm,ifn (λh=>hm ⟨h.1,h.2.1⟩),a0];exact ih p hp
theorem Pp{i o:Int}{v:Nat->ByteArray}{vv:Nat->RK k}(hv:Rl8 k D.n v vv):∀(q:Nat) {s:WS} {lv:Nat->RK k},q<=D.n->Rl8 k D.n s.1 lv->(Ax D i o v q s).2=0->Rl8 k D.n (Ax D i o v q s).1 (λp=>lv p+stq (rmOf k D) i o vv q p)
 |0,s,lv,_,h,_=>λp hp=>by show Sv k _ (lv p+zero);rw[a0];exact h p hp
 |q+1,s,lv,hq,h,he=>by
  have he0:(Ax D i o v q s).2=0:=by
   by_cases e:(Ax D i o v q s).2=0
   ·exact e
   have h1:Ax D i o v (q+1) s=Ax D i o v q s:=KO e 1;rw[h1]at he;exact absurd he e
  have ih:=Pp hv (i:=i) (o:=o) q (by omega) h he0;have hvq:=hv q (by omega);unfold Ax rowR at he ⊢;intro p hp;show Sv k _ (lv p+(stq (rmOf k D) i o vv q p+sum _ _));by_cases hz:v q=Aj D.kind
  ·rw[ifp hz];rw[sum_congr (g:=λ_=>zero) (λd _=>by split;exact(by rw[(Lu hk hvq).1 hz,zm]);rfl),sum_zero,a0];exact ih p hp
  rw[ifn hz]at he ⊢;have h1:=LK hV hk (show q<D.n by omega) hvq (D.na q) nlr ih he p hp;rw[<-aA];exact h1
omit hV in
theorem Pw{n:Nat}{a b:Nat->ByteArray}{av bv:Nat->RK k}(ha:Rl8 k n a av)(hb:Rl8 k n b bv):∀m,m<=n->(sumR D.kind a b m).2=0->Rl8 k m (sumR D.kind a b m).1 (λp=>av p+bv p)
 |0,_,_=>λp hp=>absurd hp (Nat.not_lt_zero p)
 |m+1,hm,he=>by
  have he0:(sumR D.kind a b m).2=0:=by
   by_cases e:(sumR D.kind a b m).2=0
   ·exact e
   have h1:=KX (k:=D.kind) (a:=a) (b:=b) e 1;rw[h1]at he;exact absurd he e
  have ih:=Pw ha hb m (by omega) he0;unfold sumR at he ⊢;rw[ifn (by omega)]at he ⊢;by_cases hp:(Ar D.kind (a m) (b m)).2≠0
  ·rw[ifp hp]at he;exact absurd he hp
  rw[ifn hp];intro p hpm;show Sv k (updS _ m _ p) _;unfold updS;by_cases e:p=m
  ·rw[ifp e,e];have h1:(Ar k.1 (a m) (b m)).2=0:=by
    have h0:(Ar D.kind (a m) (b m)).2=0:=by omega
    exact(congrArg (λz=>(Ar z (a m) (b m)).2) hk).trans h0
   have h2:=Kf (ha m (by omega)) (hb m (by omega)) h1;have h3:(Ar k.1 (a m) (b m)).1=(Ar D.kind (a m) (b m)).1:=congrArg (λz=>(Ar z (a m) (b m)).1) hk;rw[<-h3];exact h2
  rw[ifn e];exact ih p (by omega)
theorem MF{v:Nat->ByteArray}{vv:Nat->RK k}(hv:Rl8 k D.n v vv):∀q,q<=D.n->(finR D v q).2=0->Sv k ((finR D v q).1 0) (dot q vv (rmOf k D).fin)
 |0,_,_=>by show Sv k (Aj D.kind) zero;rw[<-hk];exact Sv.zero
 |q+1,hq,he=>by
  have he0:(finR D v q).2=0:=by
   by_cases e:(finR D v q).2=0
   ·exact e
   have h1:=Jy (D:=D) (v:=v) e 1;rw[h1]at he;exact absurd he e
  have ih:=MF hv q (by omega) he0;unfold finR at he ⊢;have hd:dot (q+1) vv (rmOf k D).fin=dot q vv (rmOf k D).fin+vv q*(rmOf k D).fin q:=rfl;rw[ifn (by omega)]at he ⊢;rw[hd];by_cases hf:D.fin q=⟨#[]⟩
  ·rw[ifp hf];have hz:(rmOf k D).fin q=zero:=ifp hf;rw[hz,m0,a0];exact ih
  rw[ifn hf]at he ⊢;have hw:=II hk ((hV.fin q (by omega)).resolve_left hf);have hft:(rmOf k D).fin q=wval k (D.fin q):=ifn hf;have h1:=IQ hk (n:=1) (t:=0) (lv:=λ_=>dot q vv (rmOf k D).fin) (l:=(finR D v q).1) (λp hp=>by rw[show p=0 by omega];exact ih) (by omega) (hv q (by omega)) hw he 0 (by omega);simp only[if_pos]at h1;rw[hft];exact h1
abbrev TbK(k:KK):=Nat->Nat->Nat->RK k
def Br{k:KK}(U:TbK k)(a b:Nat)(u:Nat->RK k):TbK k:=λi j=>if i=a/\j=b then u else U i j
def Rt8(k:KK)(n:Nat)(X:TbR)(U:TbK k):Prop:=∀i j,Rl8 k n (X i j) (U i j)
omit hV hk in
theorem Rt8.upd{X:TbR}{U:TbK k}(h:Rt8 k n X U){a b:Nat}{vv:Nat->RK k}(hv:Rl8 k n v vv):Rt8 k n (updT X a b v) (Br U a b vv):=by
 intro i j;unfold updT Br;by_cases e:i=a/\j=b
 ·rw[ifp e,ifp e];exact hv
 rw[ifn e,ifn e];exact h i j
variable{na:Nat}{x:Nat->Int}{nb:Nat}{y:Nat->Int}{st:StarO}
theorem JI{u v:Nat}{s:TbR × Nat}{U:TbK k}{f:Nat->RK k}(h:Rt8 k D.n s.1 U)(hf:∀p,p<D.n->U i j p=f p)(c:(kR D na x nb y i j u v s).2=0):
  s.2=0/\Rt8 k D.n (kR D na x nb y i j u v s).1 (if na<i+u\/nb<j+v then U else Br U (i+u) (j+v) (λp=>U (i+u) (j+v) p+stp (rmOf k D) (if u=1 then x i else 0) (if v=1 then y j else 0) f p)):=by
 unfold kR at c ⊢;by_cases A:s.2≠0
 ·rw[ifp (.inl A)]at c;exact absurd c A
 refine⟨by omega,?_⟩;by_cases g:na<i+u\/nb<j+v
 ·rw[ifp (.inr g),ifp g];exact h
 have l:¬(s.2≠0\/na<i+u\/nb<j+v):=by omega
 rw[ifn l]at c ⊢;rw[ifn g];by_cases m:(Ax D (if u=1 then x i else 0) (if v=1 then y j else 0) (s.1 i j) D.n (zerR D.kind,0)).2≠0
 ·rw[ifp m]at c;exact absurd c m
 rw[ifn m]at c ⊢;have C:=Pp hV hk (i:=if u=1 then x i else 0) (o:=if v=1 then y j else 0) (vv:=f) (λp d=>by rw[<-hf p d];exact h i j p d) D.n (s:=(zerR D.kind,0)) (lv:=λ_=>zero) nlr (λp _=>by rw[<-hk];exact Sv.zero) (by omega)
 by_cases z:(sumR D.kind (s.1 (i+u) (j+v)) (Ax D (if u=1 then x i else 0) (if v=1 then y j else 0) (s.1 i j) D.n (zerR D.kind,0)).1 D.n).2≠0
 ·rw[ifp z]at c;exact absurd c z
 rw[ifn z];refine h.upd ?_;have E:=Pw hk (h (i+u) (j+v)) C D.n nlr (by omega);intro p d;have B:Sv k _ (U (i+u) (j+v) p+(zero+stq (rmOf k D) (if u=1 then x i else 0) (if v=1 then y j else 0) f D.n p)):=E p d
 rw[z0]at B;exact B
theorem RH(J:StOk k D st)(hi:i<=na)(W:j<=nb){s:TbR × Nat}{U:TbK k}(h:Rt8 k D.n s.1 U)(B:(mvR D na x nb y i j 4 (rsT D st i j s)).2=0):
  s.2=0/\∃U' f,Rt8 k D.n (mvR D na x nb y i j 4 (rsT D st i j s)).1 U'/\Cell (rmOf k D) na x nb y i j f (U i) (U (i+1)) (U' i) (U' (i+1))/\(∀p,p<D.n->U' i j p=f p)/\∀i' j',i'≠i->i'≠i+1->U' i' j'=U i' j':=by
 have O:mvR D na x nb y i j 4 (rsT D st i j s)=kR D na x nb y i j 1 1 (kR D na x nb y i j 0 1 (kR D na x nb y i j 1 0 (rsT D st i j s))):=rfl;rw[O]at B ⊢;have l:∀{t:TbR × Nat} {u v:Nat},(kR D na x nb y i j u v t).2=0->t.2=0:=λ{t u v} h=>by
  unfold kR at h;by_cases P:t.2≠0
  ·rw[ifp (.inl P)]at h;exact absurd h P
  omega
 have z:=l B;have o:=l z;have c:=l o;have I:s.2=0:=by
  by_cases e:s.2=0
  ·exact e
  rw[OP e]at c;exact c
 refine⟨I,?_⟩;obtain⟨f,hf⟩:=exq<|rst (sil (rmOf k D)) D.n (U i j);have Q:Rt8 k D.n (rsT D st i j s).1 (Br U i j f):=by
  unfold rsT at c ⊢;rw[ifn (by omega)]at c ⊢;by_cases g:(rest8 D.kind D.n st (s.1 i j)).2≠0
  ·rw[ifp g]at c;exact absurd c g
  rw[ifn g,hf];exact h.upd<|Wm hV hk J (h i j) (by omega)
 have N:∀p,p<D.n->Br U i j f i j p=f p:=λp _=>by unfold Br;rw[ifp ⟨rfl,rfl⟩]
 have r1:=(JI hV hk (u:=1) (v:=0) Q N o).2;generalize hU1:(if na<i+1\/nb<j+0 then Br U i j f else Br (Br U i j f) (i+1) (j+0) (λp=>Br U i j f (i+1) (j+0) p+stp (rmOf k D) (if (1:Nat)=1 then x i else 0) (if (0:Nat)=1 then y j else 0) f p))=U1 at r1
 have C:∀p,p<D.n->U1 i j p=f p:=λp d=>by
  rw[<-hU1];split
  ·exact N p d
  unfold Br;rw[ifn (by omega),ifp ⟨rfl,rfl⟩]
 have K:=(JI hV hk (u:=0) (v:=1) r1 C z).2;generalize hU2:(if na<i+0\/nb<j+1 then U1 else Br U1 (i+0) (j+1) (λp=>U1 (i+0) (j+1) p+stp (rmOf k D) (if (0:Nat)=1 then x i else 0) (if (1:Nat)=1 then y j else 0) f p))=U2 at K
 have E:∀p,p<D.n->U2 i j p=f p:=λp d=>by
  rw[<-hU2];split
  ·exact C p d
  unfold Br;rw[ifn (by omega)];exact C p d
 have L:=(JI hV hk (u:=1) (v:=1) K E B).2;generalize hU3:(if na<i+1\/nb<j+1 then U2 else Br U2 (i+1) (j+1) (λp=>U2 (i+1) (j+1) p+stp (rmOf k D) (if (1:Nat)=1 then x i else 0) (if (1:Nat)=1 then y j else 0) f p))=U3 at L
 have R:∀p,p<D.n->U3 i j p=f p:=λp d=>by
  rw[<-hU3];split
  ·exact E p d
  unfold Br;rw[ifn (by omega)];exact E p d
 simp only[Nat.add_zero,if_true,show ((0:Nat)=1)=False by simp,if_false]at hU1 hU2 hU3;refine⟨U3,f,L,⟨λp d=>by rw[hf];rfl,λH p d=>?_,λj' g A F p d=>?_,λH p d=>?_,λH T p d=>?_,λH j' g A F p d=>?_⟩,R,λi' j' g A=>?_⟩
 all_goals
  clear r1 K L N C E R Q B o z c l O;subst hU3 hU2 hU1
 ·have c1:¬nb<j+1:=by omega
  have c2:¬na<i:=by omega
  have c3:¬nb<j:=by omega
  by_cases g:na<i+1<;>simp[Br,c1,c2,c3,g]
 ·have S:j'≠j:=by omega
  have c2:¬na<i:=by omega
  have c3:¬nb<j:=by omega
  by_cases G:na<i+1<;>by_cases m:nb<j+1<;>simp[Br,c2,c3,G,m,S,F]
 ·have c1:¬na<i+1:=by omega
  have c2:¬na<i:=by omega
  have c3:¬nb<j:=by omega
  by_cases m:nb<j+1<;>simp[Br,c1,c2,c3,m]
 ·have c1:¬na<i+1:=by omega
  have c2:¬na<i:=by omega
  have c3:¬nb<j:=by omega
  have c4:¬nb<j+1:=by omega
  simp[Br,c1,c2,c3,c4]
 ·have c1:¬na<i+1:=by omega
  have c2:¬na<i:=by omega
  have c3:¬nb<j:=by omega
  by_cases m:nb<j+1<;>simp[Br,c1,c2,c3,m,A,F]
 have c2:¬na<i:=by omega
 have c3:¬nb<j:=by omega
 by_cases G:na<i+1<;>by_cases m:nb<j+1<;>simp[Br,c2,c3,G,m,g,A]
theorem Mj(hst:StOk k D st){i:Nat}(hi:i<=na)(hx:∀i,i<na->x i≠0)(hy:∀j,j<nb->y j≠0){s:TbR × Nat}{U:TbK k}(h:Rt8 k D.n s.1 U):∀j,j<=nb+1->(Bd D st na x nb y i j s).2=0 ->
  s.2=0/\∃U',Rt8 k D.n (Bd D st na x nb y i j s).1 U'/\(phi (rmOf k D) na x nb y i 0 (U i) (U (i+1))=(if i=na/\j=nb+1 then dot D.n (U' na nb) (rmOf k D).fin else zero)+phi (rmOf k D) na x nb y i j (U' i) (U' (i+1)))/\∀i' j',i'≠i->i'≠i+1->U' i' j'=U i' j'
 |0,_,he=>⟨he,U,h,by rw[ifn (by omega),z0],λ_ _ _ _=>rfl⟩
 |j+1,hj,he=>by
  have he':(mvR D na x nb y i j 4 (rsT D st i j (Bd D st na x nb y i j s))).2=0:=he;have h0:(Bd D st na x nb y i j s).2=0:=by
   by_cases e:(Bd D st na x nb y i j s).2=0
   ·exact e
   have:=GX (D:=D) (st:=st) (na:=na) (x:=x) (nb:=nb) (y:=y) e 1;rw[this]at he;exact absurd he e
  obtain⟨hs0,U1,hU1,hphi,hot⟩:=Mj hst hi hx hy h j (by omega) h0;obtain⟨_,U2,f,hU2,hc,hf,hot2⟩:=RH hV hk hst hi (show j<=nb by omega) hU1 he';refine⟨hs0,U2,hU2,?_,λi' j' h1 h2=>by rw[hot2 i' j' h1 h2,hot i' j' h1 h2]⟩;rw[hphi,ifn (by omega),z0,Cell.phi hx hy (hV.inn k) hc hi (by omega)]
  congr 1
  by_cases e:i=na/\j=nb
  ·obtain⟨rfl,rfl⟩:=e;rw[ifp ⟨rfl,rfl⟩];have hd:=SL (A:=rmOf k D) (na:=i) (nb:=j) f;rw[hd];exact(CE (n:=D.n) (λp hp=>hf p hp) (λ_ _=>rfl)).symm
  rw[ifn (λh=>e ⟨h.1,by omega⟩)];exact SK (A:=rmOf k D) f e
theorem PF(hst:StOk k D st)(hx:∀i,i<na->x i≠0)(hy:∀j,j<nb->y j≠0):∀m,m<=na+1->(Bc D st na x nb y m (X0R D,0)).2=0 ->
  ∃U:TbK k,Rt8 k D.n (Bc D st na x nb y m (X0R D,0)).1 U/\(∀i j,m<i->∀p,p<D.n->U i j p=zero)/\(if m<=na then phi (rmOf k D) na x nb y m 0 (U m) (U (m+1))=rel (rmOf k D) (ls x na 0) (ls y nb 0) else dot D.n (U na nb) (rmOf k D).fin=rel (rmOf k D) (ls x na 0) (ls y nb 0))
 |0,_,_=>by
  refine⟨λi j p=>if i=0/\j=0 then (if p=(rmOf k D).start then (rmOf k D).lead else zero) else zero,λi j p hp=>?_,λi j hi p _=>?_,?_⟩
  ·show Sv k (X0R D i j p) _;unfold X0R;by_cases e:i=0/\j=0
   ·rw[ifp e];simp only[ifp e];unfold updS;by_cases e2:p=D.start.toNat
    ·rw[ifp e2,ifp (show p=(rmOf k D).start from e2)];exact II hk hV.lead
    rw[ifn e2,ifn (show ¬p=(rmOf k D).start from e2)];show Sv k (Aj D.kind) zero;rw[<-hk];exact Sv.zero
   rw[ifn e];simp only[ifn e];show Sv k (Aj D.kind) zero;rw[<-hk];exact Sv.zero
  ·simp only[ifn (show ¬(i=0/\j=0) by omega)]
  rw[ifp (by omega)];exact Vs (hV.inn k) (hV.stn k) (λp _=>by simp) (λj h1 _ p _=>by simp;omega) (λj _ p _=>by simp)
 |m+1,hm,he=>by
  have he':(Bd D st na x nb y m (nb+1) (Bc D st na x nb y m (X0R D,0))).2=0:=he;have h0:(Bc D st na x nb y m (X0R D,0)).2=0:=by
   by_cases e:(Bc D st na x nb y m (X0R D,0)).2=0
   ·exact e
   have:=La (D:=D) (st:=st) (na:=na) (x:=x) (nb:=nb) (y:=y) e 1;rw[this]at he;exact absurd he e
  obtain⟨U,hU,hz,hT⟩:=PF hst hx hy m (by omega) h0;rw[ifp (by omega)]at hT;obtain⟨_,U',hU',hphi,hot⟩:=Mj hV hk hst (show m<=na by omega) hx hy hU (nb+1) nlr he';rw[hT]at hphi;have hz':∀i j,m+1<i->∀p,p<D.n->U' i j p=zero:=λi j hi p hp=>by rw[hot i j (by omega) (by omega)];exact hz i j (by omega) p hp
  refine⟨U',hU',hz',?_⟩;by_cases e:m+1<=na
  ·rw[ifp e];rw[ifn (by omega),z0,Vr (show m<na by omega) (next':=U' (m+1+1)) (λj _ p hp=>hz' _ j (by omega) p hp)]at hphi;exact hphi.symm
  rw[ifn e];have hmn:m=na:=by omega
  rw[ifp ⟨hmn,rfl⟩,hmn,Vq,a0]at hphi;exact hphi.symm
theorem YH(h:StOk k D st)(o:∀i,i<na->x i≠0)(p:∀j,j<nb->y j≠0)(c:(Co D st na x nb y).2=0):Sv k (Co D st na x nb y).1 (rel (rmOf k D) (ls x na 0) (ls y nb 0)):=by
 unfold Co at c ⊢;by_cases d:(Bc D st na x nb y (na+1) (X0R D,0)).2≠0
 ·rw[ifp d]at c;exact absurd c d
 rw[ifn d]at c ⊢;obtain⟨U,m,_,l⟩:=PF hV hk h o p (na+1) nlr (by omega);rw[ifn (by omega)]at l;unfold endR at c ⊢;by_cases g:(finR D ((Bc D st na x nb y (na+1) (X0R D,0)).1 na nb) D.n).2≠0
 ·rw[ifp g]at c;exact absurd c g
 rw[ifn g];rw[<-l];exact MF hV hk (m na nb) D.n nlr (by omega)
end
end
section
open Go.RowKit Go.Deep
def RsE8(n vb:Nat)(z:WS)(w:World)(r:Ending)(w':World):Prop:=Below w.heap.size w w'/\((z.2=0/\∃g,r=.returned (.tuple #[.slice (some (Ad g 0)) n n,.int .i64 0])/\(g=vb\/w.heap.size<=g)/\w'.rowIs g 9 n (λj=>.string (z.1 j)))\/(z.2≠0/\r=.returned (.tuple #[.slice none 0 0,.int .i64 (z.2:Int)])))
def StV.below{w w':World}{c:Value}{n:Nat}{st:StarO}(h:StV w c n st)(hb:Below w.heap.size w w'):StV w' c n st:=by
 cases st with
 |none=>exact h
 |some S=>exact⟨h.1.kept (Ag hb none),h.2⟩
theorem KD{k:Int}{S:Nat->Nat->ByteArray}{v:Nat->ByteArray}{q:Nat}{p:Nat}{s:WS}(h:(rsP8 k S v q p s).2≠0):∀d,rsP8 k S v q (p+d) s=rsP8 k S v q p s
 |0=>rfl
 |d+1=>by
  show (if (rsP8 k S v q (p+d) s).2≠0 then rsP8 k S v q (p+d) s else _)=_
  rw[KD h d,ifp h]
theorem ON{k:Int}{S:Nat->Nat->ByteArray}{v:Nat->ByteArray}{n q:Nat}{s:WS}(h:(rsQ8 k S v n q s).2≠0):∀d,rsQ8 k S v n (q+d) s=rsQ8 k S v n q s
 |0=>rfl
 |d+1=>by
  show rsP8 k S v (q+d) n (rsQ8 k S v n (q+d) s)=_;rw[ON h d];have:=KD (k:=k) (S:=S) (v:=v) (q:=q+d) (p:=0) (s:=rsQ8 k S v n q s) h n;rw[Nat.zero_add]at this;exact this
def Wk{D:MD}{a:Option Addr}{cp vb:Nat}{v:Nat->ByteArray}{f2:Value}{st:StarO}(w:World)(hV:VM D)(a7:w.rowIs vb 9 D.n (λj=>.string (v j)))(e7:∀j,smS (v j))(h6:StV w f2 D.n st):
  Calls prog 64 #[.agg #[.int .i64 D.kind,.int .i64 D.start,.string D.lead,.slice a D.n cp],.slice (some (Ad vb 0)) D.n D.n,f2] w (RsE8 D.n vb (rest8 D.kind D.n st v) w):=by
 obtain⟨w1,G⟩:=exq<|w.alloc (.cells #[.int .i64 D.kind,.int .i64 D.start,.string D.lead,.slice a D.n cp] 25);have a1:Fr (λ_=>False) w w1:=by rw[G];exact Fr.alloc _ _
 have b2:Below w.heap.size w w1:=a1.below nlr (λ_ e=>e.elim);cases st with
 |none =>
  have i8:f2=.slice none 0 0:=h6;subst i8;have HB:=qh b2;clear b2;have HR:=qh<|a1.row a7 (λe=>e);clear a7 a1;have hq:=λw=>MB 96 100 underlying96 w none 0 0
  go_enter func64,ntmps64
  go_wp2;go_ret2;rw[<-G];exact⟨HB.o,.inl ⟨rfl,vb,rfl,.inl rfl,HR.o⟩⟩
 |some S =>
  obtain⟨g6,e5⟩:=h6;obtain⟨sa,sc,sb,so,A,C,B,O,rfl,ha,_,_,h5,a2⟩:=g6.open;have j3:=hV.n1;have g7:=hV.n2;obtain rfl:=ha (by omega);clear ha;replace a2:=qh a2;have d5:=qh (h5 (by omega)).1;clear h5;replace e5:=qh e5;clear g6;obtain⟨U,b5⟩:=exq<|w.heap.size;have i9:w1.heap.size=w.heap.size+1:=by rw[G];simp
  have J:BxM w1 U D (.slice a D.n cp):=by rw[G,b5];exact BxM.new w D _
  have hz:=IM (D:=D) (a:=a) (cap:=cp) w1 g7;have HZ:=qh hz;clear hz;have d0:=qh b2;clear b2;have f8:=qh<|a1.row a7 (λe=>e);have i6:=qh a7.lt;have f5:=qh J;obtain⟨kz,b3⟩:=exq<|Aj D.kind;replace b3:=qh b3;replace e7:=qh e7;have i4:=qh (show U<w1.heap.size by omega);have f7:=qh (show w.heap.size<=w1.heap.size by omega);obtain⟨m0,m1,m2,m3⟩:_/\_/\_/\_:=⟨cellOf J 0 rfl,cellOf J 1 rfl,cellOf J 2 rfl,cellOf J 3 rfl⟩;clear a7 a1 J i9 hV;have l0:=m0;have l1:=m1;have l2:=m2;have l3:=m3;rw[G,b5]at l0 l1 l2 l3;have hq:=λw=>MB 96 100 underlying96 w (some (Ad sb so)) D.n sc;rw[show (some ((Ad sb so):Addr)).isNone=false from rfl]at hq;obtain⟨T,R⟩:∃T:WS,T=(zerR D.kind,0):=⟨_,rfl⟩;have h3:rest8 D.kind D.n (some S) v=rsQ8 D.kind S v D.n D.n T:=by rw[R];rfl
  rw[h3];replace R:=qh R;clear h3
  go_enter func64,ntmps64
  go_wp2_with fail
  rw[<-G,<-b5];clear G b5 l0 l1 l2 l3 m0 m1 m2 m3 hq;refine HZ.o.mono ?_;rintro rr w2⟨e0,lb,rfl,g5,h4⟩;have e3:Fr (λ_=>False) w1 w2:=Fr.of_below e0;have m:=qh (show StI w w2 U vb lb D (.slice a D.n cp) v (rsQ8 D.kind S v D.n 0 T).1 from
   ⟨f5.o.kept e3 (λe=>e),e3.row f8.o (λe=>e),by show w2.rowIs lb 9 D.n (λj=>.string (T.1 j));rw[R.o];exact h4,d0.o.trans (e0.mono d0.o.size),Nat.le_trans f7.o g5,by have:=i4.o;omega,by have:=i6.o;have:=f7.o;omega⟩)
  have a8:T.2=0:=by rw[R.o]
  replace a8:=qh a8;clear e0 e3 g5 h4 HZ d0 f5 f8
  go_wp2_with fail
  go_loopw [9] (λv9 wr=>∃q:Nat,q<=D.n/\v9=.int .i64 (q:Int)/\(rsQ8 D.kind S v D.n q T).2=0/\StI w wr U vb lb D (.slice a D.n cp) v (rsQ8 D.kind S v D.n q T).1) (λv9 _=>D.n-(intOf v9).toNat)
  case atStart=>exact⟨0,Nat.zero_le _,rfl,a8.o,m.o⟩
  obtain⟨q,hq,rfl,L,hi⟩:=hrel;clear m;have m:=qh hi;clear hi;by_cases b4:q<D.n
  ·have j5:(q:Int)<(D.n:Int):=by omega
   have j2:(0:Int)<=(q:Int):=by omega
   obtain⟨s0,b7⟩:=exq<|rsQ8 D.kind S v D.n q T;have a5:∀j,smS (s0.1 j):=by rw[b7,R.o];exact KE q (λ_=>Ej D.kind)
   have b6:rsQ8 D.kind S v D.n (q+1) T=rsP8 D.kind S v q D.n s0:=by rw[b7];rfl
   rw[<-b7]at m L;replace b6:=qh b6;clear b7;replace a5:=qh a5;have i2:=qh L;clear L;obtain⟨H,P⟩:=exq<|v q;replace P:=qh P;obtain⟨t0,t1,t2,t3,t4,t5,t6⟩:=a2.o q b4;obtain⟨aq,g0⟩:=exq<|A q;rw[<-g0]at t0 t3;replace t0:=qh t0;have i5:=qh<|t3 (by omega);clear t3;have d6:=qh (t4 (by omega)).1;clear t4;replace t6:=qh t6;clear t5 t1 t2 g0
   go_wp2_with fail
   go_loopw [10] (λf3 wr=>∃p:Nat,p<=D.n/\f3=.int .i64 (p:Int)/\(rsP8 D.kind S v q p s0).2=0/\StI w wr U vb lb D (.slice a D.n cp) v (rsP8 D.kind S v q p s0).1) (λf3 _=>D.n-(intOf f3).toNat)
   case atStart=>exact⟨0,Nat.zero_le _,rfl,i2.o,m.o⟩
   obtain⟨p,hp,rfl,F,hi⟩:=hrel;clear m;by_cases e4:p<D.n
   ·have j4:(p:Int)<(D.n:Int):=by omega
    have j1:(0:Int)<=(p:Int):=by omega
    obtain⟨s1,b8⟩:=exq<|rsP8 D.kind S v q p s0;have a6:∀j,smS (s1.1 j):=by rw[b8];exact KC p a5.o
    obtain⟨x,hx⟩:=exq<|S q p;have f0:smS x:=by rw[hx];exact e5.o q p b4 e4
    rw[<-b8]at hi F;have a4:rsP8 D.kind S v q (p+1) s0=if H=kz\/x=kz then s1 else addR D.kind s1.1 p H x:=by
     show (if (rsP8 D.kind S v q p s0).2≠0 then rsP8 D.kind S v q p s0 else _)=_
     rw[<-b8,ifn (by omega),hx,P.o,b3.o]
    have c6:=t6.o p e4;rw[<-hx]at c6;have g:=qh a4;clear a4 b8 hx;replace a6:=qh a6;replace f0:=qh f0;have i3:=qh F;clear F;have m:=qh hi;clear hi;have d1:=qh c6;clear c6;obtain rfl:=i5.o;have Z:∀W,Fr (λ_=>False) wr W->(λh:World=>h.cell? (Ad vb q)=some (.string H)/\h.cell? (Ad U 0)=some (.int .i64 D.kind)/\h.cell? (Ad sb (so+q))=some (.slice (some (Ad (B q) (O q))) D.n (C q))/\h.cell? (Ad (B q) (O q+p))=some (.string x)) W:=λW hf=>by
     have Y:=m.o.be.trans<|hf.below m.o.be.size (λ_ e=>e.elim);exact⟨hf.cell (by rw[P.o];exact m.o.rv.cell b4) (λe=>e),hf.cell (cellOf m.o.bx 0 rfl) (λe=>e),(Y.cell (p:=(Ad sb (so+q))) d5.o).trans t0.o,(Y.cell (p:=(Ad (B q) (O q+p))) d6.o).trans d1.o⟩
    have l:=qh Z;clear Z;obtain⟨wd,e8⟩:=exq<|wr.drew;have g3:Fr (λ_=>False) wr wd:=by rw[e8];exact Fr.of_below<|(Below.refl wr.heap.size wr).drew
    have d4:=qh g3;clear g3;have f1:=λW=>Ea D.kind W;rw[<-b3.o]at f1;have d8:=qh f1;clear f1
    go_wp2_with fail
    have E:=l.o wd d4.o;refine AC (λh:World=>h.cell? (Ad vb q)=some (.string H)/\h.cell? (Ad U 0)=some (.int .i64 D.kind)/\h.cell? (Ad sb (so+q))=some (.slice (some (Ad (B q) (O q))) D.n (C q))/\h.cell? (Ad (B q) (O q+p))=some (.string x)) 20 (by kernel_rfl) ?_;rw[<-e8];clear e8;refine Aa.tm 0 E ?_;refine Aa.tm 1 E ?_;refine Aa.tm 2 E ?_;refine Aa.tm 3 E ?_;refine Aa.tm 4 E ?_;refine Aa.tm 5 E ?_
    try simp only[Act.put,tryL]
    refine Aa.on 6 λK o=>?_;go_simp;refine(d8.o wd).mono ?_;rintro rr w3⟨rfl,g1⟩;have a9:=qh<|d4.o.trans (Fr.of_below g1);have c:=l.o w3 a9.o;clear g1 E;refine o.out _ _ (.inr c) ?_;clear o K
    try simp only[Act.put,tryL]
    refine Aa.tm 7 c ?_;refine Aa.tm 8 c ?_
    try simp only[Act.put,tryL]
    cases hO:(H.toList==kz.toList)
    focus
     have e6:¬H=kz:=λe=>by rw[e]at hO;simp at hO
     refine Aa.tm 9 c ?_;refine Aa.tm 10 c ?_;refine Aa.tm 11 c ?_;refine Aa.tm 12 c ?_;refine Aa.tm 13 c ?_;refine Aa.tm 14 c ?_;refine Aa.tm 15 c ?_;refine Aa.tm 16 c ?_;refine Aa.tm 17 c ?_
     try simp only[Act.put,tryL]
     refine Aa.on 18 λK o=>?_;go_simp;refine(d8.o w3).mono ?_;rintro rr w4⟨rfl,g2⟩;have d3:=qh<|a9.o.trans (Fr.of_below g2);have b1:=l.o w4 d3.o;clear g2 c;refine o.out _ _ (.inr b1) ?_;clear o K
     try simp only[Act.put,tryL]
     refine Aa.tm 19 b1 ?_
     try simp only[Act.put,tryL]
     refine Aa.on 20 λK o=>?_;go_simp;refine o.out _ _ (.inl rfl) (Aa.dn ?_);clear o K;cases hX:(x.toList==kz.toList)
     ·have h9:¬x=kz:=λe=>by rw[e]at hX;simp at hX
      have HN:=qh<|g.o.trans (ifn (λe=>e.elim e6 h9));clear e6 h9 g;have i:=qh<|m.o.new d3.o;clear b1 l m a9 d4 d8;obtain⟨z,hz⟩:=exq<|addR D.kind s1.1 p H x;rw[<-hz]at HN;have b9:smS H:=by rw[P.o];exact e7.o q
      have d9:=λW (hf:Fr (λ_=>False) w4 W)=>IN (k:=D.kind) (t:=p) (a:=H) (b:=x) W ((i.o.new hf).rl) e4 g7 (a6.o p) b9 f0.o;rw[<-hz]at d9;have f4:=qh d9;clear d9 hz b9;have Z:∀W,Fr (λ_=>False) w4 W->(λh:World=>h.cell? (Ad vb q)=some (.string H)/\h.cell? (Ad U 0)=some (.int .i64 D.kind)/\h.cell? (Ad sb (so+q))=some (.slice (some (Ad (B q) (O q))) D.n (C q))/\h.cell? (Ad (B q) (O q+p))=some (.string x)) W:=λW hf=>by
       have Y:=i.o.be.trans<|hf.below i.o.be.size (λ_ e=>e.elim);exact⟨hf.cell (by rw[P.o];exact i.o.rv.cell b4) (λe=>e),hf.cell (cellOf i.o.bx 0 rfl) (λe=>e),(Y.cell (p:=(Ad sb (so+q))) d5.o).trans t0.o,(Y.cell (p:=(Ad (B q) (O q+p))) d6.o).trans d1.o⟩
      have l:=qh Z;clear Z d1;obtain⟨we,e9⟩:=exq<|w4.drew;have g4:Fr (λ_=>False) w4 we:=by rw[e9];exact Fr.of_below<|(Below.refl w4.heap.size w4).drew
      have b0:=qh g4;clear g4
      go_wp2_with fail
      have d:=l.o we b0.o;refine AC (λh:World=>h.cell? (Ad vb q)=some (.string H)/\h.cell? (Ad U 0)=some (.int .i64 D.kind)/\h.cell? (Ad sb (so+q))=some (.slice (some (Ad (B q) (O q))) D.n (C q))/\h.cell? (Ad (B q) (O q+p))=some (.string x)) 16 (by kernel_rfl) ?_;rw[<-e9];clear e9;refine Aa.tm 0 d ?_;refine Aa.tm 1 d ?_;refine Aa.tm 2 d ?_;refine Aa.tm 3 d ?_;refine Aa.tm 4 d ?_;refine Aa.tm 5 d ?_;refine Aa.tm 6 d ?_;refine Aa.tm 7 d ?_;refine Aa.tm 8 d ?_;refine Aa.tm 9 d ?_;refine Aa.tm 10 d ?_;refine Aa.tm 11 d ?_;refine Aa.tm 12 d ?_;refine Aa.tm 13 d ?_;refine Aa.tm 14 d ?_
      try simp only[Act.put,tryL]
      refine Aa.on 15 λK o=>?_;go_simp;refine(f4.o we b0.o).mono ?_;rintro rr w5⟨rfl,h0,N⟩;have u:=(i.o.new b0.o).upd N h0;have f9:(λh:World=>h.cell? (Ad vb q)=some (.string H)/\h.cell? (Ad U 0)=some (.int .i64 D.kind)/\h.cell? (Ad sb (so+q))=some (.slice (some (Ad (B q) (O q))) D.n (C q))/\h.cell? (Ad (B q) (O q+p))=some (.string x)) w5 :=
       ⟨N.cell d.1 u.vl,N.cell d.2.1 u.ml,N.cell d.2.2.1 (by have:=d5.o;have:=u.ll;show ¬sb=lb;omega),N.cell d.2.2.2 (by have:=d6.o;have:=u.ll;show ¬B q=lb;omega)⟩
      replace u:=qh u;clear h0 N f4 l b0 i;refine o.out _ _ (.inr f9) ?_;clear o K d
      try simp only[Act.put,tryL]
      refine Aa.on 16 λK o=>?_;go_simp;refine o.out _ _ (.inl rfl) (Aa.dn ?_);clear o K f9;by_cases Q:z.2=0
      ·have j0:(z.2:Int)=0:=by omega
       have d7:=qh Q;clear Q;go_wp2;go_roundw
       case rel=>exact⟨p+1,by omega,by go_num,by rw[HN.o];exact d7.o,by rw[HN.o];exact u.o⟩
       simp[intOf];omega
      have j0:¬((z.2:Int)=0):=by omega
      have j6:((z.2:Int)==0)=false:=by simp;omega
      have j7:decide ((z.2:Int)=0)=false:=by simp;omega
      have I:rsQ8 D.kind S v D.n D.n T=z:=by
       have e1:rsP8 D.kind S v q D.n s0=z:=by
        have h1:=KD (k:=D.kind) (S:=S) (v:=v) (q:=q) (p:=p+1) (s:=s0) (by rw[HN.o];exact Q) (D.n-(p+1));rw[show p+1+(D.n-(p+1))=D.n by omega,HN.o]at h1;exact h1
       have e2:rsQ8 D.kind S v D.n (q+1) T=z:=b6.o.trans e1;have h2:=ON (k:=D.kind) (S:=S) (v:=v) (n:=D.n) (q:=q+1) (s:=T) (by rw[e2];exact Q) (D.n-(q+1));rw[show q+1+(D.n-(q+1))=D.n by omega,e2]at h2;exact h2
      replace I:=qh I;have d7:=qh Q;clear Q;go_wp2;go_ret2;exact⟨u.o.be,.inr ⟨by rw[I.o];exact d7.o,by rw[I.o];rfl⟩⟩
     have h8:x=kz:=toList_eq hX;have HN:=qh<|g.o.trans (ifp (.inr h8));clear e6 h8 g;have i:=qh<|m.o.new d3.o;clear b1 l m
    rotate_left
    focus
     have h7:H=kz:=toList_eq hO;have HN:=qh<|g.o.trans (ifp (.inl h7));clear h7 g;refine Aa.ts 9 c ?_;refine Aa.ts 10 c ?_;refine Aa.ts 11 c ?_;refine Aa.ts 12 c ?_;refine Aa.ts 13 c ?_;refine Aa.ts 14 c ?_;refine Aa.ts 15 c ?_;refine Aa.ts 16 c ?_;refine Aa.ts 17 c ?_;refine Aa.ts 18 c ?_;refine Aa.ts 19 c ?_
     try simp only[Act.put,tryL]
     refine Aa.on 20 λK o=>?_;go_simp;refine o.out _ _ (.inl rfl) (Aa.dn ?_);clear o K;have i:=qh<|m.o.new a9.o;clear c l m
    all_goals
     go_wp2;go_roundw
     case rel=>exact⟨p+1,by omega,by go_num,by rw[HN.o];exact i3.o,by rw[HN.o];exact i.o⟩
     simp[intOf];omega
   have g8:p=D.n:=by omega
   have i7:¬((p:Int)<(D.n:Int)):=by omega
   rw[g8]at hi F;rw[<-b6.o]at hi F;have X:=qh hi;clear hi;have d2:=qh F;clear F g8;go_wp2;go_roundw
   case rel=>exact⟨q+1,by omega,by go_num,d2.o,X.o⟩
   simp[intOf];omega
  have g9:q=D.n:=by omega
  have i7:¬((q:Int)<(D.n:Int)):=by omega
  have h1:=m.o;rw[g9]at h1 L;have X:=qh h1;clear h1;have d2:=qh L;clear L g9;go_wp2;go_ret2;exact⟨X.o.be,.inl ⟨d2.o,lb,rfl,.inr X.o.ll,X.o.rl⟩⟩
end
end Go.Proofs.YtpldocnhbdlgfaaGreatDoor
