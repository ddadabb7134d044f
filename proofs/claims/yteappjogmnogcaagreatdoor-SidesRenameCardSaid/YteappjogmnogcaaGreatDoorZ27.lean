/- Parts. -/
import Derived.Test.YteappjogmnogcaaGreatDoorZ19
namespace Go.Proofs.YteappjogmnogcaaGreatDoor
set_option maxRecDepth 100000
set_option linter.all false
set_option maxHeartbeats 16000000
open Go Tryz
section
open Go.RowKit Go.Deep
variable{B i q:Nat}{w:World}{sv v:Value}{R:Nat->Value}
def Gx{e:TypeId}{s n:Nat}{xs:List Value}(h:w.ownsRow i e s v n xs)(k:B<=i):w.ownsRow B e s v n xs :=
 ⟨h.1,h.2.imp id (λ⟨g,c,d,l,j,r⟩=>⟨g,c,d,l,Nat.le_trans k j,r⟩)⟩
def cpD(D:MD)(i:Nat):MD:={ D with n:=i }
def OwM.push{wr w1 m:World}{g:Value}{D:MD}{o:Obj}(h:OwM wr B sv (cpD D i) R)(H:B<=wr.heap.size)(z:wr.grownBy w1 none)
  (F:w1.ownsRow wr.heap.size 59 4 v (D.na i) (cat (arc4 D i) (D.na i)))
  (G:m.ownsRow B 57 2 g (i+1) (cat (st2 D R) i++[.string (D.fin i),v])) (E:(w1.alloc o).grownBy m sv.ownBlock) :
  OwM m B g (cpD D (i+1)) (λj=>if j=i then v else R j):=by
 have u:∀j,j<i->∀b,(R j).ownBlock=some b->b<wr.heap.size:=λj k b hb=>(World.ownsRow.lt (h.row j k) b hb).2;have d:∀b,v.ownBlock=some b->wr.heap.size<=b:=λb hb=>(World.ownsRow.lt F b hb).1;refine⟨?_,λj k=>?_,λj l k I s b hb=>?_⟩
 ·have e:cat (st2 (cpD D (i+1)) (λj=>if j=i then v else R j)) (i+1)=cat (st2 D R) i++[.string (D.fin i),v]:=by
   rw[Dn]
   congr 1
   ·exact BH λj k=>by simp[st2,cpD,show j≠i by omega]
   simp[st2,cpD]
  show m.ownsRow B 57 2 g (i+1) (cat _ (i+1));rw[e];exact G
 ·by_cases e:j=i
  ·subst e;show m.ownsRow B _ 4 (if j=j then v else R j) (D.na j) (cat (arc4 D j) (D.na j))
   rw[ifp rfl];refine Bn (World.ownsRow.alloc (Gx F H) o) E (λb hb p=>?_);have:=d b hb;have:=(World.ownsRow.lt h.top b p).2;omega
  have c:j<i:=by have:j<i+1:=k;omega
  show m.ownsRow B _ 4 (if j=i then v else R j) (D.na j) (cat (arc4 D j) (D.na j))
  rw[ifn e];exact Bn (World.ownsRow.alloc (Bn (h.row j c) z (λb _=>by simp)) o) E (λb hb=>h.tne c hb)
 have c:j<i+1:=k;have J:l<i+1:=I;by_cases A:j=i
 ·simp only[ifp A]at hb;simp only[ifn (λe:l=i=>s (by omega))];intro p;have:=d b hb;have:=u l (by omega) b p;omega
 simp only[ifn A]at hb;by_cases C:l=i
 ·simp only[ifp C];intro p;have:=d b p;have:=u j (by omega) b hb;omega
 simp only[ifn C];exact h.apart j l (show j<i by omega) (show l<i by omega) s b hb
def MD.setIO(D:MD)(q d:Nat)(x y:Int):MD:={ D with ain:=λi k=>if i=q/\k=d then x else D.ain i k,aout:=λi k=>if i=q/\k=d then y else D.aout i k }
theorem OwM.setIO{w:World}{B b ac q d:Nat}{sv:Value}{D:MD}{R:Nat->Value}(h:OwM w B sv D R)(m:q<D.n)(u:d<D.na q)(l:R q=.slice (some (Ad b 0)) (D.na q) ac)(x y:Int):
  OwM ((w.setCell (Ad b (d*4)) (.int .i64 x)).setCell (Ad b (d*4+1)) (.int .i64 y)) B sv (D.setIO q d x y) R:=by
 have hb:(R q).ownBlock=some b:=by rw[l];rfl
 have z:sv.ownBlock≠some b:=h.tne m hb;refine⟨Dh (p:=(Ad b (d*4+1))) (Dh (p:=(Ad b (d*4))) h.top z _) z _,λi hi=>?_,h.apart⟩;by_cases e:i=q
 ·subst e;have o:=h.row i hi;rw[l]at o;have c:=EG (EG o (d*4) (.int .i64 x)) (d*4+1) (.int .i64 y);have A:((cat (arc4 D i) (D.na i)).set (d*4) (.int .i64 x)).set (d*4+1) (.int .i64 y)=cat (arc4 (D.setIO i d x y) i) (D.na i):=by
   have s:=DX (DV D i) (j:=0) (by omega) (.int .i64 x) u;rw[Nat.add_zero]at s;have C:∀k,((λk=>if k=d then (arc4 D i d).set 0 (.int .i64 x) else arc4 D i k) k).length=4:=λk=>by
    dsimp only;split<;>rfl
   rw[s,DX C (by omega) _ u];refine BH λk E=>?_;by_cases e:k=d
   ·subst e;simp[arc4,MD.setIO]
   simp[arc4,MD.setIO,e]
  rw[A,<-l]at c;exact c
 have c:=Dh (p:=(Ad b (d*4+1))) (Dh (p:=(Ad b (d*4))) (h.row i hi) (λg=>h.apart i q hi m e b g hb) (.int .i64 x)) (λg=>h.apart i q hi m e b g hb) (.int .i64 y);show World.ownsRow _ B _ 4 (R i) (D.na i) (cat (arc4 (D.setIO q d x y) i) (D.na i));rw[BH (d:=arc4 D i) (λk E=>by simp[arc4,MD.setIO,e])];exact c
def MD.symP(φ:Int->Int->Int × Int)(D:MD)(q d:Nat):MD:={ D with ain:=λi k=>if i<q\/i=q/\k<d then (φ (D.ain i k) (D.aout i k)).1 else D.ain i k,aout:=λi k=>if i<q\/i=q/\k<d then (φ (D.ain i k) (D.aout i k)).2 else D.aout i k }
theorem QE(φ:Int->Int->Int × Int)(D:MD):D.symP φ 0 0=D:=by
 unfold MD.symP;simp
def QD(φ:Int->Int->Int × Int)(D:MD)(q d:Nat):(D.symP φ q d).setIO q d (φ (D.ain q d) (D.aout q d)).1 (φ (D.ain q d) (D.aout q d)).2=D.symP φ q (d+1):=by
 unfold MD.symP MD.setIO
 congr 1<;>funext i k<;>by_cases e:i=q/\k=d
 ·obtain⟨rfl,rfl⟩:=e;simp
 ·simp only[ifn e];by_cases c:i<q\/i=q/\k<d
  ·rw[ifp c,ifp (by omega)]
  rw[ifn c,ifn (by omega)]
 ·obtain⟨rfl,rfl⟩:=e;simp
 simp only[ifn e];by_cases c:i<q\/i=q/\k<d
 ·rw[ifp c,ifp (by omega)]
 rw[ifn c,ifn (by omega)]
theorem IE(φ:Int->Int->Int × Int)(D:MD)(q d:Nat):(D.symP φ q d).ain q d=D.ain q d/\(D.symP φ q d).aout q d=D.aout q d:=by
 unfold MD.symP;simp
def OwM.cgr{D E:MD}(h:OwM w B sv D R)(hn:E.n=D.n)(hf:E.fin=D.fin)(g:E.na=D.na)(l:∀i k,i<D.n->k<D.na i->arc4 D i k=arc4 E i k):OwM w B sv E R:=by
 refine⟨?_,λi hi=>?_,λi j hi m=>h.apart i j (by rw[<-hn];exact hi) (by rw[<-hn];exact m)⟩
 ·rw[hn,BH (d:=st2 D R) (λi hi=>by unfold st2;rw[hf])];exact h.top
 have c:i<D.n:=by rw[<-hn];exact hi
 rw[g,BH (d:=arc4 D i) (λk o=>(l i k c o).symm)];exact h.row i c
def OwM.symRow{D:MD}{φ:Int->Int->Int × Int}(h:OwM w B sv (D.symP φ q (D.na q)) R):OwM w B sv (D.symP φ (q+1) 0) R :=
 h.cgr rfl rfl rfl λi k _ d=>by
  have c:k<D.na i:=d;have e:(i<q\/i=q/\k<D.na q)=(i<q+1\/i=q+1/\k<0):=propext ⟨λh=>by omega,λh=>by
   rcases h with h|h
   ·by_cases e:i=q
    ·subst e;exact .inr ⟨rfl,c⟩
    exact .inl (by omega)
   omega⟩
  unfold arc4 MD.symP;simp only[e]
theorem OwM.symAll{D:MD}{φ:Int->Int->Int × Int}(h:OwM w B sv (D.symP φ q 0) R)(d:q=D.n):OwM w B sv (D.sym φ) R :=
 h.cgr rfl rfl rfl λi k hi _=>by
  have c:i<D.n:=hi;have e:(i<q\/i=q/\k<0)=True:=propext ⟨λ_=>trivial,λ_=>.inl (by omega)⟩;unfold arc4 MD.symP MD.sym;simp only[e,if_true]
end
end Go.Proofs.YteappjogmnogcaaGreatDoor
