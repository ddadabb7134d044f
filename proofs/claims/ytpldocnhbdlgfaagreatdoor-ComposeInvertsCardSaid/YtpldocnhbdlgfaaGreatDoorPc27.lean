/- Parts. -/
import Derived.Test.YtpldocnhbdlgfaaGreatDoorPc22
import Derived.Test.YtpldocnhbdlgfaaGreatDoorPc23
namespace Go.Proofs.YtpldocnhbdlgfaaGreatDoor
set_option maxRecDepth 100000
set_option linter.all false
set_option maxHeartbeats 16000000
open Go Tryz
section
open Go CSR
variable{M:MD}{N c:Nat}{k:Int}
def asum(k:KK)(M:MD)(q:Nat)(f:Int->Int->RK k->Nat->RK k):RK k:=sum (λd=>f (M.ain q d) (M.aout q d) (wval k (M.aw q d)) (M.ato q d).toNat) (M.na q)
theorem GD(k:KK)(M:MD)(q:Nat)(a b:Int)(x:ByteArray)(t:Int)(p:Nat)(f:Int->Int->RK k->Nat->RK k):
  asum k (M.arc q a b x t) p f=asum k M p f+(if p=q then f a b (wval k x) t.toNat else zero):=by
 unfold asum;by_cases e:p=q
 ·subst e;have g:(M.arc p a b x t).na p=M.na p+1:=ifp rfl;rw[g,ifp rfl];show sum _ (M.na p)+_=_
  congr 1
  ·refine sum_congr λd hd=>?_;show f (if p=p/\d=M.na p then a else M.ain p d) (if p=p/\d=M.na p then b else M.aout p d) (wval k (if p=p/\d=M.na p then x else M.aw p d)) (if p=p/\d=M.na p then t else M.ato p d).toNat=_
   have c:d≠M.na p:=by omega
   simp[c]
  show f (if p=p/\M.na p=M.na p then a else M.ain p _) (if p=p/\M.na p=M.na p then b else M.aout p _) (wval k (if p=p/\M.na p=M.na p then x else M.aw p _)) (if p=p/\M.na p=M.na p then t else M.ato p _).toNat=_
  simp
 have g:(M.arc q a b x t).na p=M.na p:=ifn e;rw[g,ifn e,a0];refine sum_congr λd hd=>?_;show f (if p=q/\d=M.na q then a else M.ain p d) (if p=q/\d=M.na q then b else M.aout p d) (wval k (if p=q/\d=M.na q then x else M.aw p d)) (if p=q/\d=M.na q then t else M.ato p d).toNat=_
 have c:¬(p=q/\d=M.na q):=λh=>e h.1;simp only[ifn c]
theorem Lv(k:KK)(M:MD)(s:ByteArray){p:Nat}(d:p≠M.n)(f:Int->Int->RK k->Nat->RK k):asum k (M.state s) p f=asum k M p f:=by
 unfold asum;have c:(M.state s).na p=M.na p:=ifn d;rw[c];rfl
structure BOk(M:MD)(N c:Nat):Prop where
 fin:∀i,M.fin i=⟨#[]⟩\/Am M.kind (M.fin i)=true
 arc:∀i d,d<M.na i->0<=M.ain i d/\M.ain i d<=500/\0<=M.aout i d/\M.aout i d<=500/\0<=M.ato i d/\M.ato i d<(N:Int)/\Am M.kind (M.aw i d)=true
 na:∀i,M.na i<=c
 cnt:∀n,Ai M n<=c
 fsm:∀i,smS (M.fin i)
 asm:∀i d,smS (M.aw i d)
def BOk.mono{g c':Nat}(h:BOk M N c)(z:N<=g)(j:c<=c'):BOk M g c' :=
 ⟨h.fin,λi d hd=>by obtain⟨k,l,m,o,p,u,s⟩:=h.arc i d hd;exact⟨k,l,m,o,p,by omega,s⟩,λi=>Nat.le_trans (h.na i) j,λn=>Nat.le_trans (h.cnt n) j,h.fsm,h.asm⟩
theorem Ls{D:MD}{p:Nat}{i o t:Int}{w:ByteArray}:∀n,Ai (D.arc p i o w t) n<=Ai D n+(if p<n then 1 else 0)
 |0=>Nat.zero_le _
 |n+1=>by
  have ih:=Ls (D:=D) (p:=p) (i:=i) (o:=o) (t:=t) (w:=w) n;show Ai (D.arc p i o w t) n+(if n=p then D.na p+1 else D.na n)<=Ai D n+D.na n+(if p<n+1 then 1 else 0)
  by_cases e:n=p
  ·subst e;rw[ifp rfl,ifp (by omega)];rw[ifn (by omega)]at ih;omega
  rw[ifn e];split at ih
  ·rw[ifp (by omega)];omega
  split<;>omega
theorem BOk.put{q:Nat}{a b t:Int}{x:ByteArray}(h:BOk M N c)(l:0<=a/\a<=500)(hb:0<=b/\b<=500)(m:0<=t/\t<(N:Int))(A:Am M.kind x=true)(z:smS x):BOk (M.arc q a b x t) N (c+1):=by
 refine⟨h.fin,λi d hd=>?_,λi=>?_,λn=>?_,h.fsm,λi d=>?_⟩
 ·have g:d<if i=q then M.na q+1 else M.na i:=hd
  show 0<=(if i=q/\d=M.na q then a else M.ain i d)/\(if i=q/\d=M.na q then a else M.ain i d)<=500/\0<=(if i=q/\d=M.na q then b else M.aout i d)/\(if i=q/\d=M.na q then b else M.aout i d)<=500/\0<=(if i=q/\d=M.na q then t else M.ato i d)/\(if i=q/\d=M.na q then t else M.ato i d)<(N:Int)/\Am M.kind (if i=q/\d=M.na q then x else M.aw i d)=true
  by_cases e:i=q/\d=M.na q
  ·simp only[ifp e];exact⟨l.1,l.2,hb.1,hb.2,m.1,m.2,A⟩
  simp only[ifn e];refine h.arc i d ?_;by_cases j:i=q
  ·rw[ifp j]at g;subst j;have:d≠M.na i:=λs=>e ⟨rfl,s⟩;omega
  rw[ifn j]at g;exact g
 ·show (if i=q then M.na q+1 else M.na i)<=c+1
  have k:=h.na q;have u:=h.na i
  split<;>omega
 ·have k:=Ls (D:=M) (p:=q) (i:=a) (o:=b) (t:=t) (w:=x) n;have u:=h.cnt n
  split at k<;>omega
 show smS (if i=q/\d=M.na q then x else M.aw i d)
 split
 ·exact z
 exact h.asm i d
theorem BOk.setFin{M:MD}{N c q:Nat}{s:ByteArray}(h:BOk M N c)(g:s=⟨#[]⟩\/Am M.kind s=true)(d:smS s):BOk (M.setFin q s) N c :=
 ⟨λi=>by
  show (if i=q then s else M.fin i)=_\/Am M.kind (if i=q then s else M.fin i)=true
  split
  ·exact g
  ·exact h.fin i,h.arc,h.na,λn=>by rw[show Ai (M.setFin q s) n=Ai M n from by induction n with|zero=>rfl|succ n ih=>exact congrArg (·+M.na n) ih];exact h.cnt n,λi=>by
  show smS (if i=q then s else M.fin i)
  split
  ·exact d
  exact h.fsm i,h.asm⟩
theorem BOk.state{M:MD}{N c:Nat}{s:ByteArray}(h:BOk M N c)(l:s=⟨#[]⟩\/Am M.kind s=true)(k:smS s):BOk (M.state s) N c:=by
 have g:∀i,(M.state s).na i<=M.na i:=λi=>by
  show (if i=M.n then 0 else M.na i)<=_
  split<;>omega
 have j:∀n,Ai (M.state s) n<=Ai M n:=λn=>by
  induction n with
  |zero=>exact nlr
  |succ n ih=>exact Nat.add_le_add ih (g n)
 exact⟨λi=>by
  show (if i=M.n then s else M.fin i)=_\/Am M.kind (if i=M.n then s else M.fin i)=true
  split
  ·exact l
  ·exact h.fin i,λi d hd=>h.arc i d (Nat.lt_of_lt_of_le hd (g i)),λi=>Nat.le_trans (g i) (h.na i),λn=>Nat.le_trans (j n) (h.cnt n),λi=>by
  show smS (if i=M.n then s else M.fin i)
  split
  ·exact k
  exact h.fsm i,h.asm⟩
def BOk.empty(kd st:Int)(c:ByteArray)(N:Nat):BOk (BO kd st c) N 0 :=
 ⟨λ_=>.inl rfl,λ_ _ h=>absurd h (Nat.not_lt_zero _),λ_=>nlr,λn=>by
  induction n with
  |zero=>exact nlr
  |succ n ih=>exact ih,λ_=>Nat.zero_le _,λ_ _=>Nat.zero_le _⟩
def BOk.vm(h:BOk M M.n c)(A:As M.kind=true)(s:1<=M.n)(u:M.n<=3000)(g:0<=M.start/\M.start<(M.n:Int))(B:Am M.kind M.lead=true)(z:c<=30000):VM M :=
 ⟨A,s,u,g.1,g.2,B,Nat.le_trans (h.cnt _) z,λi _=>h.fin i,λi d _ hd=>by obtain⟨j,k,a3,l,m,o,p⟩:=h.arc i d hd;exact⟨j,k,a3,l,m,o,p⟩⟩
def Tw(h:As k=true):-9223372036854775808<=k/\k<=9223372036854775807:=by unfold As at h;simp at h;omega
def BOk.msz(h:BOk M N c)(g:As M.kind=true)(hn:M.n<=140737488355328)(j:smS M.lead)(d:c<=140737488355328):MSz M :=
 ⟨j,h.fsm,h.asm,λi=>Nat.le_trans (h.na i) d,hn,Tw g⟩
def revA(D:MD)(q:Nat):Nat->MD->MD
 |0,M=>M
 |d+1,M=>(revA D q d M).arc (D.ato q d).toNat (D.ain q d) (D.aout q d) (D.aw q d) (q:Int)
def revF(D:MD)(q:Nat)(M:MD):MD:=if D.fin q=⟨#[]⟩ then M else M.arc D.n 0 0 (D.fin q) (q:Int)
def revZ(D:MD):MD:=⟨D.kind,(D.n:Int),D.lead,D.n+1,λ_=>⟨#[]⟩,λ_=>0,λ_ _=>0,λ_ _=>0,λ_ _=>⟨#[]⟩,λ_ _=>0⟩
def revQ(D:MD):Nat->MD
 |0=>revZ D
 |q+1=>revF D q (revA D q (D.na q) (revQ D q))
def Ex(h:As k=true):Am k (oneF k)=true:=by
 unfold As at h;simp at h;have:k=1\/k=2\/k=3:=by omega
 rcases this with rfl|rfl|rfl<;>decide +kernel
def Ew(h:As k=true):smS (oneF k):=by
 unfold As at h;simp at h;have:k=1\/k=2\/k=3:=by omega
 rcases this with rfl|rfl|rfl<;>(unfold smS;decide +kernel)
def atW(n:Nat)(x:Nat->Int)(i:Nat):Int:=if i<n then x i else 0
def AO(kind:Int)(na:Nat)(x:Nat->Int)(nb:Nat)(y:Nat->Int)(v:ByteArray):Nat->MD
 |0=>(BO kind 0 v).state ⟨#[]⟩
 |i+1=>((AO kind na x nb y v i).state ⟨#[]⟩).arc i (atW na x i) (atW nb y i) (oneF kind) ((i+1:Nat):Int)
def Cs(kind:Int)(na:Nat)(x:Nat->Int)(nb:Nat)(y:Nat->Int)(v:ByteArray):MD:=(AO kind na x nb y v (max na nb)).setFin (max na nb) (oneF kind)
end
end Go.Proofs.YtpldocnhbdlgfaaGreatDoor
