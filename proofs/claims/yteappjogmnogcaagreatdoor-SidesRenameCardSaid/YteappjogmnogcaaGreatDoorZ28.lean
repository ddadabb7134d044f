/- Parts. -/
import Derived.Test.YteappjogmnogcaaGreatDoorZ22
namespace Go.Proofs.YteappjogmnogcaaGreatDoor
set_option maxRecDepth 100000
set_option linter.all false
set_option maxHeartbeats 16000000
open Go Tryz
section
def MD.inZ(D:MD):MD:={ D with aout:=λ_ _=>0 }
def alR(D:MD)(st:StarO)(x:Nat->Int):Nat->WS
 |0=>(updS (zerR D.kind) D.start.toNat D.lead,0)
 |i+1=>if (alR D st x i).2≠0 then alR D st x i
  else if (rest8 D.kind D.n st (alR D st x i).1).2≠0 then ((alR D st x i).1,(rest8 D.kind D.n st (alR D st x i).1).2)
  else Ak D (x i) 0 (rest8 D.kind D.n st (alR D st x i).1).1 D.n (zerR D.kind,0)
def domR(D:MD)(st:StarO)(na:Nat)(x:Nat->Int):ByteArray × Nat :=
 if (alR D st x na).2≠0 then (⟨#[]⟩,(alR D st x na).2)
 else if (rest8 D.kind D.n st (alR D st x na).1).2≠0 then (⟨#[]⟩,(rest8 D.kind D.n st (alR D st x na).1).2)
 else endR D (rest8 D.kind D.n st (alR D st x na).1).1
theorem IY{D:MD}{st:StarO}{x:Nat->Int}{i:Nat}(h:(alR D st x i).2≠0):∀d,alR D st x (i+d)=alR D st x i
 |0=>rfl
 |d+1=>by
  show (if (alR D st x (i+d)).2≠0 then alR D st x (i+d) else _)=_
  rw[IY h d,ifp h]
theorem FJ{D:MD}{st:StarO}{x:Nat->Int}(hl:smS D.lead):∀i j,smS ((alR D st x i).1 j)
 |0,j=>GJ (λ_=>Dk D.kind) hl j
 |i+1,j=>by
  unfold alR
  split
  ·exact FJ hl i j
  split
  ·exact FJ hl i j
  exact GC D.n (λ_=>Dk _) j
open CSR
section
variable{D:MD}(hV:VM D){k:KK}(hk:k.1=D.kind)
include hV hk
theorem LU{st:StarO}(hst:StOk k D st){na:Nat}{x:Nat->Int}(hx:∀i,i<na->x i≠0)(hz:∀q d,D.aout q d=0)(y:Nat->Int):∀i,i<=na->(alR D st x i).2=0 ->
  ∃vv:Nat->RK k,Rl8 k D.n (alR D st x i).1 vv/\dot D.n vv (cAt (rmOf k D) na x 0 y i 0)=rel (rmOf k D) (ls x na 0) []
 |0,_,_=>by
  refine⟨λp=>if p=(rmOf k D).start then (rmOf k D).lead else zero,λp hp=>?_,?_⟩
  ·show Sv k (updS (zerR D.kind) D.start.toNat D.lead p) _;unfold updS;by_cases e2:p=D.start.toNat
   ·rw[ifp e2];simp only[ifp (show p=(rmOf k D).start from e2)];exact FD hk hV.lead
   rw[ifn e2];simp only[ifn (show ¬p=(rmOf k D).start from e2)];show Sv k (Af D.kind) zero;rw[<-hk];exact Sv.zero
  have hs:=hV.stn k;unfold dot;have e1:sum (λq=>(if q=(rmOf k D).start then (rmOf k D).lead else zero)*cAt (rmOf k D) na x 0 y 0 0 q) (rmOf k D).n=(if (rmOf k D).start=(rmOf k D).start then (rmOf k D).lead else zero)*cAt (rmOf k D) na x 0 y 0 0 (rmOf k D).start :=
   sum_single _ hs (λq _ hq=>by rw[ifn hq,zm])
  rw[ifp rfl]at e1;exact e1
 |i+1,hi,he=>by
  have h0:(alR D st x i).2=0:=by
   by_cases e:(alR D st x i).2=0
   ·exact e
   have:=IY (D:=D) (st:=st) (x:=x) e 1;rw[this]at he;exact absurd he e
  obtain⟨vv,hvv,hd⟩:=LU hst hx hz y i (by omega) h0;unfold alR at he ⊢;rw[ifn (by omega)]at he ⊢;by_cases h1:(rest8 D.kind D.n st (alR D st x i).1).2≠0
  ·rw[ifp h1]at he;exact absurd he h1
  rw[ifn h1]at he ⊢;have h2:=KD hV hk hst hvv (by omega);have h3:=Lj hV hk (i:=x i) (o:=0) h2 D.n (s:=(zerR D.kind,0)) (lv:=λ_=>zero) nlr (λp _=>by rw[<-hk];exact Sv.zero) he;refine⟨stp (rmOf k D) (x i) 0 (rst (sil (rmOf k D)) D.n vv),λp hp=>?_,?_⟩
  ·have h4:Sv k _ (zero+stq (rmOf k D) (x i) 0 (rst (sil (rmOf k D)) D.n vv) D.n p):=h3 p hp;rw[z0]at h4;exact h4
  rw[<-hd];exact(Sn (A:=rmOf k D) (hV.inn k) hx y (by omega) vv).symm
theorem Ue{st:StarO}(g:StOk k D st){na:Nat}{x:Nat->Int}(p:∀i,i<na->x i≠0)(B:∀q d,D.aout q d=0)(c:(domR D st na x).2=0):Sv k (domR D st na x).1 (rel (rmOf k D) (ls x na 0) []):=by
 unfold domR at c ⊢;by_cases h:(alR D st x na).2≠0
 ·rw[ifp h]at c;exact absurd c h
 rw[ifn h]at c ⊢;obtain⟨o,m,z⟩:=LU hV hk g p B x na nlr (by omega);by_cases j:(rest8 D.kind D.n st (alR D st x na).1).2≠0
 ·rw[ifp j]at c;exact absurd c j
 rw[ifn j]at c ⊢;have s:=KD hV hk g m (by omega);have u:dot D.n o (cAt (rmOf k D) na x 0 x na 0)=dot D.n (rst (sil (rmOf k D)) D.n o) (rmOf k D).fin:=Sm (A:=rmOf k D) (hV.inn k) p x o;rw[<-z,u];unfold endR at c ⊢;by_cases l:(finR D (rest8 D.kind D.n st (alR D st x na).1).1 D.n).2≠0
 ·rw[ifp l]at c;exact absurd c l
 rw[ifn l];exact JG hV hk s D.n nlr (by omega)
end
end
end Go.Proofs.YteappjogmnogcaaGreatDoor
