/- Parts. -/
import Derived.Test.YteappjogmnogcaaGreatDoorZ19
import Derived.Test.YteappjogmnogcaaGreatDoorZ10
namespace Go.Proofs.YteappjogmnogcaaGreatDoor
set_option maxRecDepth 100000
set_option linter.all false
set_option maxHeartbeats 16000000
open Go Tryz
section
open Go CSR
theorem Jf(k:KK)(D:MD)(q:Nat)(M:MD)(p:Nat)(f:Int->Int->RK k->Nat->RK k):∀d,asum k (revA D q d M) p f=asum k M p f+sum (λd=>if (D.ato q d).toNat=p then f (D.ain q d) (D.aout q d) (wval k (D.aw q d)) q else zero) d
 |0=>(a0 _).symm
 |d+1=>by
  show asum k ((revA D q d M).arc _ _ _ _ _) p f=_+(_+_);rw[Mg,Jf k D q M p f d,aA]
  congr 2
  dsimp only
  by_cases e:(D.ato q d).toNat=p
  ·rw[ifp e,ifp e.symm];rfl
  rw[ifn e,ifn (λh=>e h.symm)]
theorem Mh(k:KK)(D:MD)(q:Nat)(M:MD)(p:Nat)(f:Int->Int->RK k->Nat->RK k)(hf:p≠D.n\/∀s t r,f s t zero r=zero):
  asum k (revF D q M) p f=asum k M p f+(if p=D.n then f 0 0 ((rmOf k D).fin q) q else zero):=by
 unfold revF;show asum k _ p f=_+(if p=D.n then f 0 0 (if D.fin q=⟨#[]⟩ then zero else wval k (D.fin q)) q else zero)
 by_cases e:D.fin q=⟨#[]⟩
 ·rw[ifp e,ifp e]
  rcases hf with h|h
  ·rw[ifn h,a0]
  rw[h];simp[a0]
 rw[ifn e,ifn e,Mg];rfl
def Ye{k:KK}{D:MD}(i:VM D)(u:k.1=D.kind):RevOf (rmOf k D) (rmOf k (revD D)):=by
 have c:=BW D D.n;have l:∀p,p<D.n->∀f:Int->Int->RK k->Nat->RK k,∀q,asum k (revQ D q) p f=sum (λr=>sum (λd=>if (D.ato r d).toNat=p then f (D.ain r d) (D.aout r d) (wval k (D.aw r d)) r else zero) (D.na r)) q:=λp B f q=>by
  induction q with
  |zero=>rfl
  |succ q ih =>
   show asum k (revF D q (revA D q (D.na q) (revQ D q))) p f=_+_;rw[Mh k D q _ p f (.inl (by omega)),Jf,ih,ifn (by omega),a0]
 have m:∀f:Int->Int->RK k->Nat->RK k,(∀s t r,f s t zero r=zero)->∀q,q<=D.n->asum k (revQ D q) D.n f=sum (λr=>f 0 0 ((rmOf k D).fin r) r) q:=λf hf q=>by
  induction q with
  |zero=>intro _;rfl
  |succ q ih =>
   intro j;show asum k (revF D q (revA D q (D.na q) (revQ D q))) D.n f=_+_;rw[Mh k D q _ D.n f (.inr hf),Jf,ih (by omega),ifp rfl];have z:sum (λd=>if (D.ato q d).toNat=D.n then f (D.ain q d) (D.aout q d) (wval k (D.aw q d)) q else zero) (D.na q)=(zero:RK k):=by
    rw[sum_congr (g:=λ_=>zero) (λd o=>?_),sum_zero];have a:=i.arc q d (by omega) o;have:=a.t0;have:=a.t1;exact ifn (by omega)
   rw[z,a0]
 refine⟨c.n,?_,?_,λq j=>?_,?_,λq j f=>?_,λf hf=>?_⟩
 ·show ((revQ D D.n).start).toNat=D.n;rw[c.start];show ((D.n:Int)).toNat=D.n;omega
 ·show wval k (revQ D D.n).lead=wval k D.lead;rw[c.lead];rfl
 ·show (if (if q=D.start.toNat then oneF D.kind else (revQ D D.n).fin q)=⟨#[]⟩ then zero else wval k (if q=D.start.toNat then oneF D.kind else (revQ D D.n).fin q))=if q=D.start.toNat then one else zero
  by_cases e:q=D.start.toNat
  ·rw[ifp e,ifp e];have h:Sv k (oneF D.kind) (one:RK k):=by rw[<-u];exact Sv.one
   rw[ifn h.ne];exact h.val
  rw[ifn e,ifn e,c.fin];exact ifp rfl
 ·show (if (if D.n=D.start.toNat then oneF D.kind else (revQ D D.n).fin D.n)=⟨#[]⟩ then zero else wval k (if D.n=D.start.toNat then oneF D.kind else (revQ D D.n).fin D.n))=zero
  have A:=i.s0;have h:=i.s1;rw[ifn (show ¬D.n=D.start.toNat by omega),c.fin];exact ifp rfl
 ·exact l q j f D.n
 exact m f hf D.n nlr
end
end Go.Proofs.YteappjogmnogcaaGreatDoor
