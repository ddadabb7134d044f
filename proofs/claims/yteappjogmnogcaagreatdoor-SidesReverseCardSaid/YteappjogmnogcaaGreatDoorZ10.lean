/- Parts. -/
import Derived.Test.YteappjogmnogcaaGreatDoorZ06
namespace Go.Proofs.YteappjogmnogcaaGreatDoor
set_option maxRecDepth 100000
set_option linter.all false
set_option maxHeartbeats 16000000
open Go Tryz
section
def lred(s:Int)(x:List Int):Option (List Int):=(red s x.reverse).map List.reverse
def Ga{s:Int}(h:s≠0){x u:List Int}:lred s x=some u↔x=u++[s]:=by
 unfold lred;rw[Option.map_eq_some_iff]
 constructor
 ·rintro⟨a,d,rfl⟩;have g:=(EB h).1 d;have c:=congrArg List.reverse g;rw[List.reverse_reverse,List.reverse_cons]at c;exact c
 rintro rfl;refine⟨u.reverse,(EB h).2 (by simp),List.reverse_reverse u⟩
theorem Kb(x:List Int):lred 0 x=some x:=by unfold lred;rw[Df];simp
theorem Pu(s t:Int)(x:List Int):(red s x).bind (lred t)=(lred t x).bind (red s):=by
 by_cases g:s=0
 ·subst g;rw[Df];show lred t x=_;cases lred t x with
  |none=>rfl
  |some u=>exact(Df u).symm
 by_cases h:t=0
 ·subst h;rw[Kb];show _=red s x;cases red s x with
  |none=>rfl
  |some u=>exact Kb u
 refine Option.ext λu=>?_;rw[Option.bind_eq_some_iff,Option.bind_eq_some_iff]
 constructor
 ·rintro⟨a,c,d⟩;rw[EB g]at c;rw[Ga h]at d;exact⟨s::u,(Ga h).2 (by rw[c,d];rfl),(EB g).2 rfl⟩
 rintro⟨a,c,d⟩;rw[Ga h]at c;rw[EB g]at d;exact⟨u++[t],(EB g).2 (by rw[c,d];rfl),(Ga h).2 rfl⟩
theorem XM(s:Int)(x:List Int):red s x=some []↔lred s x=some []:=by
 by_cases c:s=0
 ·subst c;rw[Df,Kb]
 rw[EB c,Ga c];rfl
theorem Pw(s:Int)(x:List Int):red s x.reverse=(lred s x).map List.reverse:=by
 unfold lred;cases red s x.reverse with
 |none=>rfl
 |some u=>simp
open CSR
section
variable{R:Type}[CSR R]
def pth(A:RM R)(q:Nat):Nat->Nat->List Int->List Int->R
 |0,p,x,y=>if p=q/\x=[]/\y=[] then one else zero
 |m+1,p,x,y=>sum (λk=>A.aw p k*evO (pth A q m (A.ato p k)) (red (A.ain p k) x) (red (A.aout p k) y)) (A.na p)
theorem Pe{A:RM R}(hA:Inn A)(q:Nat):∀m p,p<A.n->∀x y,pth A q (m+1) p x y=sum (λr=>sum (λk=>if A.ato r k=q then A.aw r k*evO (pth A r m p) (lred (A.ain r k) x) (lred (A.aout r k) y) else zero) (A.na r)) A.n
 |0,p,hp,x,y=>by
  rw[sum_single _ hp (λr _ hr=>by
   rw[sum_congr (g:=λ_=>zero) (λk _=>by
    split
    ·have e0:evO (pth A r 0 p) (lred (A.ain r k) x) (lred (A.aout r k) y)=zero:=(Ee (λa b=>by
      show (if p=r/\a=[]/\b=[] then one else zero)=zero
      exact ifn (λh=>hr h.1.symm)) _ _).trans (UT _ _)
     rw[e0,m0]
    rfl),sum_zero])]
  refine sum_congr λk _=>?_;have e1:evO (pth A q 0 (A.ato p k)) (red (A.ain p k) x) (red (A.aout p k) y)=if A.ato p k=q then (if red (A.ain p k) x=some []/\red (A.aout p k) y=some [] then one else zero) else zero:=by
   rw[<-Nm,<-Nk];refine Ee (λa b=>?_) _ _;show (if A.ato p k=q/\a=[]/\b=[] then one else zero)=_
   by_cases h:A.ato p k=q
   ·simp[h]
   simp[h]
  have e2:evO (pth A p 0 p) (lred (A.ain p k) x) (lred (A.aout p k) y)=if lred (A.ain p k) x=some []/\lred (A.aout p k) y=some [] then one else zero:=by
   rw[<-Nm];refine Ee (λa b=>?_) _ _;show (if p=p/\a=[]/\b=[] then one else zero)=_
   simp
  rw[e1,e2];simp only[XM];by_cases h:A.ato p k=q
  ·rw[ifp h,ifp h]
  rw[ifn h,ifn h,m0]
 |m+1,p,hp,x,y=>by
  have e1:∀k,k<A.na p->A.aw p k*evO (pth A q (m+1) (A.ato p k)) (red (A.ain p k) x) (red (A.aout p k) y) =
    sum (λr=>sum (λl=>if A.ato r l=q then A.aw p k*(A.aw r l*evO (pth A r m (A.ato p k)) ((red (A.ain p k) x).bind (lred (A.ain r l))) ((red (A.aout p k) y).bind (lred (A.aout r l)))) else zero) (A.na r)) A.n:=λk hk=>by
   rw[Ee (λa b=>Pe hA q m (A.ato p k) (hA p k hp hk) a b),FS,mul_sum];refine sum_congr λr _=>?_;rw[FS,mul_sum];refine sum_congr λl _=>?_;rw[Nk,Nl,Nj]
   split
   ·rfl
   exact m0 _
  have e2:∀r l,(if A.ato r l=q then A.aw r l*evO (pth A r (m+1) p) (lred (A.ain r l) x) (lred (A.aout r l) y) else zero) =
    sum (λk=>if A.ato r l=q then A.aw p k*(A.aw r l*evO (pth A r m (A.ato p k)) ((red (A.ain p k) x).bind (lred (A.ain r l))) ((red (A.aout p k) y).bind (lred (A.aout r l)))) else zero) (A.na p):=λr l=>by
   by_cases h:A.ato r l=q
   ·simp only[ifp h];rw[Ee (f:=pth A r (m+1) p) (g:=λa b=>sum (λk=>A.aw p k*evO (pth A r m (A.ato p k)) (red (A.ain p k) a) (red (A.aout p k) b)) (A.na p)) (λ_ _=>rfl),FS,mul_sum];refine sum_congr λk _=>?_;rw[Nl,Nj,<-Pu,<-Pu,<-mA,<-mA,mC (A.aw r l)]
   simp only[ifn h];exact(sum_zero _).symm
  show sum (λk=>A.aw p k*evO (pth A q (m+1) (A.ato p k)) (red (A.ain p k) x) (red (A.aout p k) y)) (A.na p)=_;rw[sum_congr e1,sum_comm];refine sum_congr λr _=>?_;rw[sum_comm];exact sum_congr λl _=>(e2 r l).symm
theorem Lu{A:RM R}(hA:Inn A):∀N p,p<A.n->∀x y,unr A N p x y=sum (λm=>sum (λq=>pth A q m p x y*A.fin q) A.n) N
 |0,_,_,_,_=>rfl
 |N+1,p,hp,x,y=>by
  rw[QB];show endT A p x y+sum (λk=>arcT A (unr A N) p k x y) (A.na p)=_
  congr 1
  ·rw[sum_single _ hp (λq _ hq=>by
    show (if p=q/\_ then one else zero)*_=_
    rw[ifn (λh=>hq h.1.symm),zm])]
   show (if x=[]/\y=[] then A.fin p else zero)=(if p=p/\x=[]/\y=[] then one else zero)*A.fin p
   by_cases h:x=[]/\y=[]
   ·rw[ifp h,ifp ⟨rfl,h⟩,o1]
   rw[ifn h,ifn (λe=>h e.2),zm]
  have e1:∀k,k<A.na p->arcT A (unr A N) p k x y=sum (λm=>sum (λq=>A.aw p k*evO (pth A q m (A.ato p k)) (red (A.ain p k) x) (red (A.aout p k) y)*A.fin q) A.n) N:=λk hk=>by
   rw[ET,Ee (λa b=>Lu hA N (A.ato p k) (hA p k hp hk) a b),FS,mul_sum];refine sum_congr λm _=>?_;rw[FS,mul_sum];refine sum_congr λq _=>?_;rw[UQ,mA]
  rw[sum_congr e1,sum_comm];refine sum_congr λm _=>?_;rw[sum_comm];refine sum_congr λq _=>?_;rw[<-sum_mul];rfl
structure RevOf(A B:RM R):Prop where
 n:B.n=A.n+1
 start:B.start=A.n
 lead:B.lead=A.lead
 fin:∀q,q<A.n->B.fin q=if q=A.start then one else zero
 finN:B.fin A.n=zero
 arcs:∀q,q<A.n->∀f:Int->Int->R->Nat->R,sum (λk=>f (B.ain q k) (B.aout q k) (B.aw q k) (B.ato q k)) (B.na q)=sum (λr=>sum (λk=>if A.ato r k=q then f (A.ain r k) (A.aout r k) (A.aw r k) r else zero) (A.na r)) A.n
 arcN:∀f:Int->Int->R->Nat->R,(∀s t q,f s t zero q=zero)->sum (λk=>f (B.ain A.n k) (B.aout A.n k) (B.aw A.n k) (B.ato A.n k)) (B.na A.n)=sum (λq=>f 0 0 (A.fin q) q) A.n
theorem RevOf.pth{A B:RM R}(h:RevOf A B)(hA:Inn A):∀m q p,q<A.n->p<A.n->∀x y,pth B p m q x.reverse y.reverse=pth A q m p x y
 |0,q,p,_,_,x,y=>by
  show (if q=p/\x.reverse=[]/\y.reverse=[] then one else zero)=if p=q/\x=[]/\y=[] then one else zero
  simp only[List.reverse_eq_nil_iff];by_cases e:q=p
  ·simp[e]
  simp[e,Ne.symm e]
 |m+1,q,p,hq,hp,x,y=>by
  rw[Pe hA q m p hp];show sum (λk=>B.aw q k*evO (Go.Proofs.YteappjogmnogcaaGreatDoor.pth B p m (B.ato q k)) (red (B.ain q k) x.reverse) (red (B.aout q k) y.reverse)) (B.na q)=_;rw[h.arcs q hq (λs t w r=>w*evO (Go.Proofs.YteappjogmnogcaaGreatDoor.pth B p m r) (red s x.reverse) (red t y.reverse))];refine sum_congr λr hr=>sum_congr λk _=>?_
  split
  ·rw[Pw,Pw,UP,Ee (λa b=>h.pth hA m r p hr hp a b)]
  rfl
variable[CSC R]
theorem RevOf.rel{A B:RM R}(h:RevOf A B)(d:Inn A)(j:Inn B)(c:A.start<A.n)(x y:List Int):rel B x.reverse y.reverse=rel A x y:=by
 have l:∀N q,q<A.n->unr B N q x.reverse y.reverse=sum (λm=>Go.Proofs.YteappjogmnogcaaGreatDoor.pth A q m A.start x y) N:=λN q i=>by
  rw[Lu j N q (by rw[h.n];omega)];refine sum_congr λm _=>?_;rw[h.n];show sum _ A.n+_*B.fin A.n=_;rw[h.finN,m0,a0,sum_single _ c (λp u g=>by rw[h.fin p u,ifn g,m0]),h.fin _ c,ifp rfl,m1,h.pth d m q A.start i c]
 have o:∀N,unr B (N+1) A.n x.reverse y.reverse=unr A N A.start x y:=λN=>by
  show endT B A.n _ _+sum (λk=>arcT B (unr B N) A.n k _ _) (B.na A.n)=_;have D:endT B A.n x.reverse y.reverse=zero:=by unfold endT;rw[h.finN];split<;>rfl
  rw[D,z0,sum_congr (λk _=>ET B (unr B N) A.n k _ _),h.arcN (λs t w r=>w*evO (unr B N r) (red s x.reverse) (red t y.reverse)) (λ_ _ _=>zm _),Lu d N A.start c,sum_comm];refine sum_congr λq i=>?_;rw[Df,Df];show A.fin q*unr B N q x.reverse y.reverse=_;rw[l N q i,mC,sum_mul]
 have z:=(Fu j (by rw[h.start,h.n];omega) x.reverse y.reverse).shift (λN=>le_times _ (Lv B N _ _ _)) 1;have C:=Fu d c x y;refine Lub.eq (z.congr (λN=>?_)) C;show B.lead*unr B (N+1) B.start _ _=_;rw[h.start,h.lead,o]
theorem RevOf.rel'{A B:RM R}(h:RevOf A B)(c:Inn A)(d:Inn B)(g:A.start<A.n)(x y:List Int):Go.Proofs.YteappjogmnogcaaGreatDoor.rel B x y=Go.Proofs.YteappjogmnogcaaGreatDoor.rel A x.reverse y.reverse:=by
 rw[<-h.rel c d g x.reverse y.reverse,List.reverse_reverse,List.reverse_reverse]
end
end
end Go.Proofs.YteappjogmnogcaaGreatDoor
