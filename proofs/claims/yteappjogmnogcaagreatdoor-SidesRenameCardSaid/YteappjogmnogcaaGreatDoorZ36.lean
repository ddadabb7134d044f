/- Parts. -/
import Derived.Test.YteappjogmnogcaaGreatDoorZ31
import Derived.Test.YteappjogmnogcaaGreatDoorZ30
namespace Go.Proofs.YteappjogmnogcaaGreatDoor
set_option maxRecDepth 100000
set_option linter.all false
set_option maxHeartbeats 16000000
open Go Tryz
section
variable{D:MD}{k:KK}
def Qi{sel:Int->Int->Bool}(g:∀i o,sel i o=decide (i=0))(q p:Nat):sils (rmOf k D) sel q p=sil (rmOf k D.inZ) q p:=by
 unfold sils sil;refine CSR.sum_congr λd _=>?_;show (if sel (D.ain q d) (D.aout q d)=true/\(D.ato q d).toNat=p then _ else _)=if D.ain q d=0/\(0:Int)=0/\(D.ato q d).toNat=p then _ else _
 rw[g];by_cases h:D.ain q d=0
 ·by_cases c:(D.ato q d).toNat=p
  ·rw[ifp ⟨by simp[h],c⟩,ifp ⟨h,rfl,c⟩];rfl
  rw[ifn (λe=>c e.2),ifn (λe=>c e.2.2)]
 rw[ifn (λe=>h (by simpa using e.1)),ifn (λe=>h e.1)]
theorem YJ(i o:Int):sel8 true i o=decide (i=0):=by unfold sel8;simp
theorem Jc(D:MD):∀n,Ac D.inZ n=Ac D n
 |0=>rfl
 |n+1=>by show Ac D.inZ n+D.na n=Ac D n+D.na n;rw[Jc D n]
theorem VM.inZ(h:VM D):VM D.inZ:={ h with arcs:=by rw[Jc];exact h.arcs,arc:=λq d g c=>{ h.arc q d g c with o0:=by show (0:Int)<=0;omega,o1:=by show (0:Int)<=500;omega } }
def Za{sel:Int->Int->Bool}(l:∀i o,sel i o=decide (i=0)){st:StarO}(h:(NoSel D sel/\st=none)\/∃S,st=some S/\∀q p,q<D.n->p<D.n->Sv k (S q p) (CSR.starM (sils (rmOf k D) sel) D.n q p)):StOk k D.inZ st:=by
 rcases h with⟨m,rfl⟩|⟨S,rfl,s⟩
 ·intro q p c d;rw[<-Qi l];exact SilOk.nosil m k q p c
 intro q p c d;have g:=s q p c d;have e:=CSR.starM_congr (M:=sils (rmOf k D) sel) (M':=sil (rmOf k D.inZ)) (n:=D.n) (λi j _ _=>Qi l i j) q p c d;rw[e]at g;exact g
def Sil8.stZ{st:StarO}(h:Sil8 D (sel8 true) st 0)(g:k.1=D.kind):StOk k D.inZ st:=by
 refine Za YJ ?_
 rcases h with⟨c,d,_⟩|⟨_,_,S,c,d⟩|⟨c,_⟩
 ·exact .inl ⟨c,d⟩
 ·exact .inr ⟨S,c,d k g⟩
 exact absurd rfl c
end
end Go.Proofs.YteappjogmnogcaaGreatDoor
