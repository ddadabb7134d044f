/- Parts. -/
import Derived.Test.YteappjogmnogcaaGreatDoorZ16
import Derived.Test.YteappjogmnogcaaGreatDoorZ14
import Derived.Lib.SlBuf
namespace Go.Proofs.YteappjogmnogcaaGreatDoor
set_option maxRecDepth 100000
set_option linter.all false
set_option maxHeartbeats 16000000
open Go Tryz
section
variable{D:MD}{q:Nat}
def DN(D:MD)(sel:Int->Int->Bool)(q d:Nat)(s:WS):WS :=
 if sel (D.ain q d) (D.aout q d)=true then (updS s.1 (D.ato q d).toNat (AN D.kind (s.1 (D.ato q d).toNat) (D.aw q d) s.2).1,(AN D.kind (s.1 (D.ato q d).toNat) (D.aw q d) s.2).2) else s
def BX(D:MD)(sel:Int->Int->Bool)(q:Nat):Nat->WS->WS
 |0,s=>s
 |d+1,s=>DN D sel q d (BX D sel q d s)
def zrC(k:Int):Nat->ByteArray:=λ_=>Af k
def srow(D:MD)(sel:Int->Int->Bool)(q e:Nat):WS:=BX D sel q (D.na q) (zrC D.kind,e)
def serr(D:MD)(sel:Int->Int->Bool):Nat->Nat
 |0=>0
 |q+1=>(srow D sel q (serr D sel q)).2
def smat(D:MD)(sel:Int->Int->Bool)(q:Nat):Nat->ByteArray:=(srow D sel q (serr D sel q)).1
theorem La{D:MD}{sel:Int->Int->Bool}{q:Nat}(hw:∀d,smS (D.aw q d)):∀(d:Nat) {s:WS},(∀j,smS (s.1 j))->∀j,smS ((BX D sel q d s).1 j)
 |0,_,h=>h
 |d+1,s,h=>λj=>by
  have ih:=La (sel:=sel) hw d h;show smS ((DN D sel q d (BX D sel q d s)).1 j);unfold DN;split
  ·show smS (updS _ _ _ j);unfold updS;split
   ·exact Ib (hw d)
   exact ih j
  exact ih j
def RI(k:Int):∀j,smS (zrC k j):=λ_=>by
 unfold zrC smS;have:=GM k;omega
def YV{sel:Int->Int->Bool}(c:∀d,smS (D.aw q d)):∀j,smS (smat D sel q j):=La c _ (RI _)
theorem KZ{D:MD}{sel:Int->Int->Bool}{q:Nat}:∀(d:Nat) {s:WS},(BX D sel q d s).2=0->s.2=0
 |0,_,h=>h
 |d+1,s,h=>by
  have h':(DN D sel q d (BX D sel q d s)).2=0:=h;unfold DN at h';split at h'
  ·exact KZ d (OT h')
  exact KZ d h'
def Qd{sel:Int->Int->Bool}{n:Nat}(h:serr D sel n=0):∀q,q<=n->serr D sel q=0:=by
 induction n with
 |zero=>intro q c;rw[Nat.le_zero.1 c];exact h
 |succ n ih =>
  intro q c;by_cases e:q=n+1
  ·rw[e];exact h
  exact ih (KZ _ h) q (by omega)
open CSR
def sils{R:Type}[CSR R](A:RM R)(sel:Int->Int->Bool)(q p:Nat):R:=sum (λd=>if sel (A.ain q d) (A.aout q d)=true/\A.ato q d=p then A.aw q d else zero) (A.na q)
theorem Qj{R:Type}[CSR R](A:RM R)(q p:Nat):sils A silB q p=sil A q p:=by
 unfold sils sil;refine sum_congr λd _=>?_;unfold silB;simp only[Bool.and_eq_true,decide_eq_true_eq,and_assoc]
section
variable{D:MD}(hV:VM D){k:KK}(hk:k.1=D.kind)
include hV hk
theorem PY{sel:Int->Int->Bool}{q:Nat}(hq:q<D.n):∀(d:Nat) {s:WS} {lv:Nat->RK k},d<=D.na q->(∀p,p<D.n->Sv k (s.1 p) (lv p))->(BX D sel q d s).2=0 ->
  ∀p,p<D.n->Sv k ((BX D sel q d s).1 p) (lv p+sum (λd=>if sel ((rmOf k D).ain q d) ((rmOf k D).aout q d)=true/\(rmOf k D).ato q d=p then (rmOf k D).aw q d else zero) d)
 |0,s,lv,_,h,_=>λp hp=>by
  show Sv k (s.1 p) (lv p+zero);rw[a0];exact h p hp
 |d+1,s,lv,hd,h,he=>λp hp=>by
  have hst:BX D sel q (d+1) s=DN D sel q d (BX D sel q d s):=rfl;rw[hst]at he ⊢;have ih:=PY hq (s:=s) (lv:=lv) (sel:=sel) d (by omega) h;generalize BX D sel q d s=Z at he ih ⊢;have ha:=hV.arc q d hq (by omega);have ht:(D.ato q d).toNat<D.n:=by have:=ha.t0;have:=ha.t1;omega
  have hw:=FD hk ha.wt;unfold DN at he ⊢;by_cases hm:sel (D.ain q d) (D.aout q d)=true
  ·rw[ifp hm]at he ⊢;have he':(AN D.kind (Z.1 (D.ato q d).toNat) (D.aw q d) Z.2).2=0:=he;have hz:=OT he';have ih:=ih hz;have hpl:=(Xp hk (.inr (ih _ ht)) hw he').2;show Sv k (updS Z.1 (D.ato q d).toNat _ p) (lv p+(sum _ d+(if sel (D.ain q d) (D.aout q d)=true/\(D.ato q d).toNat=p then wval k (D.aw q d) else zero)))
   unfold updS;by_cases e:p=(D.ato q d).toNat
   ·rw[ifp e,ifp ⟨hm,e.symm⟩,<-aA,e];exact hpl
   rw[ifn e,ifn (λh=>e h.2.symm),a0];exact ih p hp
  rw[ifn hm]at he ⊢;show Sv k _ (lv p+(sum _ d+(if sel (D.ain q d) (D.aout q d)=true/\(D.ato q d).toNat=p then wval k (D.aw q d) else zero)))
  rw[ifn (λh=>hm h.1),a0];exact ih he p hp
theorem Lg{sel:Int->Int->Bool}(d:serr D sel D.n=0){p:Nat}(i:q<D.n)(h:p<D.n):Sv k (smat D sel q p) (sils (rmOf k D) sel q p):=by
 have j:=Qd d q (by omega);have g:(srow D sel q (serr D sel q)).2=0:=Qd d (q+1) (by omega);have c:=PY hV hk i (s:=(zrC D.kind,serr D sel q)) (lv:=λ_=>zero) (sel:=sel) (D.na q) nlr (λp _=>by rw[<-hk];exact Sv.zero) g p h;rw[z0]at c;exact c
theorem YW{sel:Int->Int->Bool}(d:serr D sel D.n=0):Sq D.kind D.n (λ_=>D.n) (smat D sel):=λi hi=>⟨rfl,λj g=>by
 have h:=Lg hV hk d hi g;have c:vprs D.kind (smat D sel i j)=some (sils (rmOf k D) sel i j).1:=(congrArg (λz=>vprs z (smat D sel i j)) hk).symm.trans h.prs;unfold Ah;rw[c];rfl⟩
end
def NoSel(D:MD)(sel:Int->Int->Bool):Prop:=∀q d,q<D.n->d<D.na q->sel (D.ain q d) (D.aout q d)=false
def SilOk(D:MD)(sel:Int->Int->Bool)(st:StarO)(e:Nat):Prop :=
 (NoSel D sel/\st=none/\e=0)\/
 (¬NoSel D sel/\D.n<=60/\e=0/\∃S,st=some S/\∀k:KK,k.1=D.kind->∀q p,q<D.n->p<D.n->Sv k (S q p) (starM (sils (rmOf k D) sel) D.n q p))\/
 (¬NoSel D sel/\e≠0/\st=none/\(60<D.n\/serr D sel D.n≠0\/∃k:KK,k.1=D.kind/\¬FitM D.n (λi j=>wval k (smat D sel i j))))
theorem SilOk.nosil{sel:Int->Int->Bool}(h:NoSel D sel)(k:KK)(q p:Nat)(l:q<D.n):sils (rmOf k D) sel q p=zero:=by
 unfold sils;rw[sum_congr (g:=λ_=>zero) (λd j=>?_),sum_zero];have i:sel (D.ain q d) (D.aout q d)=false:=h q d l j;exact ifn (λe=>by
  have c:sel (D.ain q d) (D.aout q d)=true:=e.1;rw[i]at c;cases c)
theorem SilOk.fit{sel:Int->Int->Bool}{st:StarO}{e:Nat}(h:SilOk D sel st e)(hn:D.n<=60)(c:serr D sel D.n=0)(hf:∀k:KK,k.1=D.kind->FitM D.n (λi j=>wval k (smat D sel i j))):e=0:=by
 rcases h with⟨_,_,h⟩|⟨_,_,h,_⟩|⟨_,_,_,h⟩
 ·exact h
 ·exact h
 rcases h with h|h|⟨k,d,h⟩
 ·omega
 ·exact absurd c h
 exact absurd (hf k d) h
end
section
def MD.inv(D:MD):MD:={ D with ain:=D.aout,aout:=D.ain }
def MD.inR(D:MD):MD:={ D with aout:=D.ain }
def MD.outR(D:MD):MD:={ D with ain:=D.aout }
def MD.ren(φ:Int->Int)(D:MD):MD:={ D with ain:=λq d=>φ (D.ain q d),aout:=λq d=>φ (D.aout q d) }
def MD.sym(φ:Int->Int->Int × Int)(D:MD):MD:={ D with ain:=λq d=>(φ (D.ain q d) (D.aout q d)).1,aout:=λq d=>(φ (D.ain q d) (D.aout q d)).2 }
theorem Ym(k:KK)(D:MD):rmOf k D.inv=invR (rmOf k D):=rfl
theorem Yl(k:KK)(D:MD):rmOf k D.inR=inR (rmOf k D):=rfl
theorem Zz(D:MD):D.sym (λi o=>(o,i))=D.inv:=rfl
theorem Zx(D:MD):D.sym (λi _=>(i,i))=D.inR:=rfl
theorem ZA(D:MD):D.sym (λ_ o=>(o,o))=D.outR:=rfl
theorem ZC(φ:Int->Int)(D:MD):D.sym (λi o=>(φ i,φ o))=D.ren φ:=rfl
theorem Jd(φ:Int->Int->Int × Int)(D:MD):∀n,Ac (D.sym φ) n=Ac D n
 |0=>rfl
 |n+1=>by show Ac (D.sym φ) n+D.na n=Ac D n+D.na n;rw[Jd φ D n]
theorem VM.sym{D:MD}(h:VM D){φ:Int->Int->Int × Int}(hf:∀i o,0<=i->i<=500->0<=o->o<=500->0<=(φ i o).1/\(φ i o).1<=500/\0<=(φ i o).2/\(φ i o).2<=500):VM (D.sym φ) :=
 { h with
  arcs:=by rw[Jd];exact h.arcs
  arc:=λq d g c =>
   let a:=h.arc q d g c
   let b:=hf _ _ a.i0 a.i1 a.o0 a.o1
   { a with i0:=b.1,i1:=b.2.1,o0:=b.2.2.1,o1:=b.2.2.2 } }
def AccD(D:MD):Prop:=∀q d,q<D.n->d<D.na q->D.aout q d=D.ain q d
end
section
open Go CSR
variable{D M M':MD}{N c:Nat}{k:Int}
def asum(k:KK)(M:MD)(q:Nat)(f:Int->Int->RK k->Nat->RK k):RK k:=sum (λd=>f (M.ain q d) (M.aout q d) (wval k (M.aw q d)) (M.ato q d).toNat) (M.na q)
theorem Mg(k:KK)(M:MD)(q:Nat)(a b:Int)(x:ByteArray)(t:Int)(p:Nat)(f:Int->Int->RK k->Nat->RK k):
  asum k (M.arc q a b x t) p f=asum k M p f+(if p=q then f a b (wval k x) t.toNat else zero):=by
 unfold asum;by_cases e:p=q
 ·subst e;have g:(M.arc p a b x t).na p=M.na p+1:=ifp rfl;rw[g,ifp rfl];show sum _ (M.na p)+_=_
  congr 1
  ·refine sum_congr λd i=>?_;show f (if p=p/\d=M.na p then a else M.ain p d) (if p=p/\d=M.na p then b else M.aout p d) (wval k (if p=p/\d=M.na p then x else M.aw p d)) (if p=p/\d=M.na p then t else M.ato p d).toNat=_
   have c:d≠M.na p:=by omega
   simp[c]
  show f (if p=p/\M.na p=M.na p then a else M.ain p _) (if p=p/\M.na p=M.na p then b else M.aout p _) (wval k (if p=p/\M.na p=M.na p then x else M.aw p _)) (if p=p/\M.na p=M.na p then t else M.ato p _).toNat=_
  simp
 have g:(M.arc q a b x t).na p=M.na p:=ifn e;rw[g,ifn e,a0];refine sum_congr λd i=>?_;show f (if p=q/\d=M.na q then a else M.ain p d) (if p=q/\d=M.na q then b else M.aout p d) (wval k (if p=q/\d=M.na q then x else M.aw p d)) (if p=q/\d=M.na q then t else M.ato p d).toNat=_
 have c:¬(p=q/\d=M.na q):=λh=>e h.1;simp only[ifn c]
structure BOk(M:MD)(N c:Nat):Prop where
 fin:∀i,M.fin i=⟨#[]⟩\/Aw M.kind (M.fin i)=true
 arc:∀i d,d<M.na i->0<=M.ain i d/\M.ain i d<=500/\0<=M.aout i d/\M.aout i d<=500/\0<=M.ato i d/\M.ato i d<(N:Int)/\Aw M.kind (M.aw i d)=true
 na:∀i,M.na i<=c
 cnt:∀n,Ac M n<=c
 fsm:∀i,smS (M.fin i)
 asm:∀i d,smS (M.aw i d)
def BOk.mono{g c':Nat}(h:BOk M N c)(A:N<=g)(j:c<=c'):BOk M g c' :=
 ⟨h.fin,λi d u=>by obtain⟨k,l,m,o,p,z,s⟩:=h.arc i d u;exact⟨k,l,m,o,p,by omega,s⟩,λi=>Nat.le_trans (h.na i) j,λn=>Nat.le_trans (h.cnt n) j,h.fsm,h.asm⟩
theorem Md{D:MD}{p:Nat}{i o t:Int}{w:ByteArray}:∀n,Ac (D.arc p i o w t) n<=Ac D n+(if p<n then 1 else 0)
 |0=>Nat.zero_le _
 |n+1=>by
  have ih:=Md (D:=D) (p:=p) (i:=i) (o:=o) (t:=t) (w:=w) n;show Ac (D.arc p i o w t) n+(if n=p then D.na p+1 else D.na n)<=Ac D n+D.na n+(if p<n+1 then 1 else 0)
  by_cases e:n=p
  ·subst e;rw[ifp rfl,ifp (by omega)];rw[ifn (by omega)]at ih;omega
  rw[ifn e];split at ih
  ·rw[ifp (by omega)];omega
  split<;>omega
theorem BOk.put{q:Nat}{a b t:Int}{x:ByteArray}(h:BOk M N c)(l:0<=a/\a<=500)(hb:0<=b/\b<=500)(m:0<=t/\t<(N:Int))(B:Aw M.kind x=true)(A:smS x):BOk (M.arc q a b x t) N (c+1):=by
 refine⟨h.fin,λi d z=>?_,λi=>?_,λn=>?_,h.fsm,λi d=>?_⟩
 ·have g:d<if i=q then M.na q+1 else M.na i:=z
  show 0<=(if i=q/\d=M.na q then a else M.ain i d)/\(if i=q/\d=M.na q then a else M.ain i d)<=500/\0<=(if i=q/\d=M.na q then b else M.aout i d)/\(if i=q/\d=M.na q then b else M.aout i d)<=500/\0<=(if i=q/\d=M.na q then t else M.ato i d)/\(if i=q/\d=M.na q then t else M.ato i d)<(N:Int)/\Aw M.kind (if i=q/\d=M.na q then x else M.aw i d)=true
  by_cases e:i=q/\d=M.na q
  ·simp only[ifp e];exact⟨l.1,l.2,hb.1,hb.2,m.1,m.2,B⟩
  simp only[ifn e];refine h.arc i d ?_;by_cases j:i=q
  ·rw[ifp j]at g;subst j;have:d≠M.na i:=λs=>e ⟨rfl,s⟩;omega
  rw[ifn j]at g;exact g
 ·show (if i=q then M.na q+1 else M.na i)<=c+1
  have k:=h.na q;have u:=h.na i
  split<;>omega
 ·have k:=Md (D:=M) (p:=q) (i:=a) (o:=b) (t:=t) (w:=x) n;have u:=h.cnt n
  split at k<;>omega
 show smS (if i=q/\d=M.na q then x else M.aw i d)
 split
 ·exact A
 exact h.asm i d
theorem BOk.setFin{M:MD}{N c q:Nat}{s:ByteArray}(h:BOk M N c)(g:s=⟨#[]⟩\/Aw M.kind s=true)(d:smS s):BOk (M.setFin q s) N c :=
 ⟨λi=>by
  show (if i=q then s else M.fin i)=_\/Aw M.kind (if i=q then s else M.fin i)=true
  split
  ·exact g
  ·exact h.fin i,h.arc,h.na,λn=>by rw[show Ac (M.setFin q s) n=Ac M n from by induction n with|zero=>rfl|succ n ih=>exact congrArg (·+M.na n) ih];exact h.cnt n,λi=>by
  show smS (if i=q then s else M.fin i)
  split
  ·exact d
  exact h.fsm i,h.asm⟩
theorem BOk.state{M:MD}{N c:Nat}{s:ByteArray}(h:BOk M N c)(m:s=⟨#[]⟩\/Aw M.kind s=true)(l:smS s):BOk (M.state s) N c:=by
 have g:∀i,(M.state s).na i<=M.na i:=λi=>by
  show (if i=M.n then 0 else M.na i)<=_
  split<;>omega
 have j:∀n,Ac (M.state s) n<=Ac M n:=λn=>by
  induction n with
  |zero=>exact nlr
  |succ n ih=>exact Nat.add_le_add ih (g n)
 exact⟨λi=>by
  show (if i=M.n then s else M.fin i)=_\/Aw M.kind (if i=M.n then s else M.fin i)=true
  split
  ·exact m
  ·exact h.fin i,λi d k=>h.arc i d (Nat.lt_of_lt_of_le k (g i)),λi=>Nat.le_trans (g i) (h.na i),λn=>Nat.le_trans (j n) (h.cnt n),λi=>by
  show smS (if i=M.n then s else M.fin i)
  split
  ·exact l
  exact h.fsm i,h.asm⟩
def BOk.empty(c st:Int)(d:ByteArray)(N:Nat):BOk (AJ c st d) N 0 :=
 ⟨λ_=>.inl rfl,λ_ _ h=>absurd h (Nat.not_lt_zero _),λ_=>nlr,λn=>by
  induction n with
  |zero=>exact nlr
  |succ n ih=>exact ih,λ_=>Nat.zero_le _,λ_ _=>Nat.zero_le _⟩
def BOk.vm(h:BOk M M.n c)(C:Ao M.kind=true)(u:1<=M.n)(z:M.n<=3000)(g:0<=M.start/\M.start<(M.n:Int))(D:Aw M.kind M.lead=true)(A:c<=30000):VM M :=
 ⟨C,u,z,g.1,g.2,D,Nat.le_trans (h.cnt _) A,λi _=>h.fin i,λi d _ B=>by obtain⟨j,k,l,m,o,p,s⟩:=h.arc i d B;exact⟨j,k,l,m,o,p,s⟩⟩
def VB(h:Ao k=true):-9223372036854775808<=k/\k<=9223372036854775807:=by unfold Ao at h;simp at h;omega
def BOk.msz(h:BOk M N c)(g:Ao M.kind=true)(hn:M.n<=140737488355328)(j:smS M.lead)(d:c<=140737488355328):MSz M :=
 ⟨j,h.fsm,h.asm,λi=>Nat.le_trans (h.na i) d,hn,VB g⟩
def revA(D:MD)(q:Nat):Nat->MD->MD
 |0,M=>M
 |d+1,M=>(revA D q d M).arc (D.ato q d).toNat (D.ain q d) (D.aout q d) (D.aw q d) (q:Int)
def revF(D:MD)(q:Nat)(M:MD):MD:=if D.fin q=⟨#[]⟩ then M else M.arc D.n 0 0 (D.fin q) (q:Int)
def revZ(D:MD):MD:=⟨D.kind,(D.n:Int),D.lead,D.n+1,λ_=>⟨#[]⟩,λ_=>0,λ_ _=>0,λ_ _=>0,λ_ _=>⟨#[]⟩,λ_ _=>0⟩
def revQ(D:MD):Nat->MD
 |0=>revZ D
 |q+1=>revF D q (revA D q (D.na q) (revQ D q))
def revD(D:MD):MD:=(revQ D D.n).setFin D.start.toNat (oneF D.kind)
structure Skel(M M':MD):Prop where
 kind:M'.kind=M.kind
 start:M'.start=M.start
 lead:M'.lead=M.lead
 n:M'.n=M.n
 fin:M'.fin=M.fin
theorem Skel.refl(M:MD):Skel M M:=⟨rfl,rfl,rfl,rfl,rfl⟩
theorem Skel.arc(h:Skel M M')(q:Nat)(a b:Int)(x:ByteArray)(t:Int):Skel M (M'.arc q a b x t):=⟨h.kind,h.start,h.lead,h.n,h.fin⟩
theorem Gv(D:MD)(q:Nat){M M':MD}(h:Skel M M'):∀d,Skel M (revA D q d M')
 |0=>h
 |d+1=>(Gv D q h d).arc _ _ _ _ _
def Yh(D:MD)(q:Nat)(h:Skel M M'):Skel M (revF D q M'):=by
 unfold revF
 split
 ·exact h
 exact h.arc _ _ _ _ _
theorem BW(D:MD):∀q,Skel (revZ D) (revQ D q)
 |0=>Skel.refl _
 |q+1=>Yh D q (Gv D q (BW D q) _)
theorem KH{D:MD}(hV:VM D)(hS:MSz D){q:Nat}(hq:q<D.n){M:MD}{c:Nat}(hk:M.kind=D.kind)(h:BOk M (D.n+1) c):∀d,d<=D.na q->BOk (revA D q d M) (D.n+1) (c+d)
 |0,_=>h
 |d+1,hd=>by
  have a:=hV.arc q d hq (by omega);refine(KH hV hS hq hk h d (by omega)).put ⟨a.i0,a.i1⟩ ⟨a.o0,a.o1⟩ ⟨by omega,by omega⟩ ?_ (hS.aw q d);rw[show (revA D q d M).kind=D.kind from (Gv D q (Skel.refl M) d).kind.trans hk];exact a.wt
theorem KL{D:MD}(hV:VM D)(hS:MSz D):∀q,q<=D.n->BOk (revQ D q) (D.n+1) (Ac D q+q)
 |0,_=>⟨λ_=>.inl rfl,λ_ _ h=>absurd h (Nat.not_lt_zero _),λ_=>Nat.zero_le _,λn=>by
  have:Ac (revQ D 0) n=0:=by
   induction n with
   |zero=>rfl
   |succ n ih=>exact congrArg (·+0) ih
  rw[this];exact Nat.zero_le _,λ_=>Nat.zero_le _,λ_ _=>Nat.zero_le _⟩
 |q+1,hq=>by
  have h1:=KH hV hS (q:=q) (by omega) (BW D q).kind (KL hV hS q (by omega)) (D.na q) nlr;show BOk (revF D q (revA D q (D.na q) (revQ D q))) (D.n+1) (Ac D q+D.na q+(q+1));unfold revF
  split
  ·exact h1.mono nlr (by omega)
  rename_i hf;have h2:=h1.put (q:=D.n) (a:=0) (b:=0) (t:=(q:Int)) (x:=D.fin q) ⟨by omega,by omega⟩ ⟨by omega,by omega⟩ ⟨by omega,by omega⟩ (by
   rw[show (revA D q (D.na q) (revQ D q)).kind=D.kind from (Gv D q (Skel.refl _) _).kind.trans (BW D q).kind];exact(hV.fin q (by omega)).resolve_left hf) (hS.fin q)
  exact h2.mono nlr (by omega)
def Kn(h:Ao k=true):Aw k (oneF k)=true:=by
 unfold Ao at h;simp at h;have:k=1\/k=2\/k=3:=by omega
 rcases this with rfl|rfl|rfl<;>decide +kernel
def Km(h:Ao k=true):smS (oneF k):=by
 unfold Ao at h;simp at h;have:k=1\/k=2\/k=3:=by omega
 rcases this with rfl|rfl|rfl<;>(unfold smS;decide +kernel)
def Pz(c:VM D)(d:MSz D):BOk (revD D) (D.n+1) (Ac D D.n+D.n) :=
 (KL c d D.n nlr).setFin (.inr (by rw[(BW D D.n).kind];exact Kn c.kind)) (Km c.kind)
def Yg(g:VM D)(h:MSz D)(hn:D.n+1<=3000)(i:Ac D D.n+D.n<=30000):VM (revD D):=by
 have d:=BW D D.n;have c:(revD D).n=D.n+1:=d.n;exact BOk.vm (by rw[c];exact Pz g h) (by rw[show (revD D).kind=D.kind from d.kind];exact g.kind) (by rw[c];omega) (by rw[c];omega) (by rw[c,show (revD D).start=(D.n:Int) from d.start];omega) (by rw[show (revD D).kind=D.kind from d.kind,show (revD D).lead=D.lead from d.lead];exact g.lead) i
def KJ(c:VM D)(g:MSz D):MSz (revD D):=by
 have d:=BW D D.n;have h:=c.arcs;have i:=c.n2;exact(Pz c g).msz (by rw[show (revD D).kind=D.kind from d.kind];exact c.kind) (by rw[show (revD D).n=D.n+1 from d.n];omega) (by rw[show (revD D).lead=D.lead from d.lead];exact g.lead) (by omega)
def stsD(D:MD):Nat->MD->MD
 |0,M=>M
 |i+1,M=>(stsD D i M).state (D.fin i)
def cpA(D:MD)(low i:Nat):Nat->MD->MD
 |0,M=>M
 |d+1,M=>(cpA D low i d M).arc (low+i) (D.ain i d) (D.aout i d) (D.aw i d) (D.ato i d+(low:Int))
def lvD(o:Option Nat)(s:Nat)(f:ByteArray)(M:MD):MD:=match o with
 |none=>M
 |some t=>(M.setFin s ⟨#[]⟩).arc s 0 0 f (t:Int)
def cpF(D:MD)(low:Nat)(o:Option Nat)(i:Nat)(M:MD):MD:=if D.fin i=⟨#[]⟩ then M else lvD o (low+i) (D.fin i) M
def cpQ(D:MD)(low:Nat)(o:Option Nat):Nat->MD->MD
 |0,M=>M
 |i+1,M=>cpF D low o i (cpA D low i (D.na i) (cpQ D low o i M))
def AV(D:MD)(o:Option Nat)(M:MD):MD:=cpQ D M.n o D.n (stsD D D.n M)
def cpC(D:MD)(o:Option Nat)(i:Nat):Nat:=Ac D i+(if o.isSome then i else 0)
def catD(D E:MD)(lead:ByteArray):MD :=
 { AV D (some E.start.toNat) (AV E none { AJ D.kind 0 lead with }) with start:=(E.n:Int)+D.start }
theorem EK(D:MD)(M:MD):∀i,(stsD D i M).n=M.n+i
 |0=>rfl
 |i+1=>by show (stsD D i M).n+1=_;rw[EK D M i];omega
theorem DO(D:MD)(M:MD):∀i,(stsD D i M).kind=M.kind/\(stsD D i M).lead=M.lead/\(stsD D i M).start=M.start
 |0=>⟨rfl,rfl,rfl⟩
 |i+1=>DO D M i
theorem GD{D:MD}(hV:VM D)(hS:MSz D){M:MD}{N c:Nat}(hk:M.kind=D.kind)(h:BOk M N c):∀i,i<=D.n->BOk (stsD D i M) N c
 |0,_=>h
 |i+1,hi=>(GD hV hS hk h i (by omega)).state (by rw[(DO D M i).1,hk];exact hV.fin i (by omega)) (hS.fin i)
theorem FP(D:MD)(low i:Nat){M M':MD}(h:Skel M M'):∀d,Skel M (cpA D low i d M')
 |0=>h
 |d+1=>(FP D low i h d).arc _ _ _ _ _
theorem CX(D:MD)(low:Nat)(o:Option Nat)(M:MD):∀i,(cpQ D low o i M).kind=M.kind/\(cpQ D low o i M).lead=M.lead/\(cpQ D low o i M).start=M.start/\(cpQ D low o i M).n=M.n
 |0=>⟨rfl,rfl,rfl,rfl⟩
 |i+1=>by
  have h1:=CX D low o M i;have h2:=FP D low i (Skel.refl (cpQ D low o i M)) (D.na i);have h3:(cpA D low i (D.na i) (cpQ D low o i M)).kind=M.kind/\(cpA D low i (D.na i) (cpQ D low o i M)).lead=M.lead/\(cpA D low i (D.na i) (cpQ D low o i M)).start=M.start/\(cpA D low i (D.na i) (cpQ D low o i M)).n=M.n :=
   ⟨h2.kind.trans h1.1,h2.lead.trans h1.2.1,h2.start.trans h1.2.2.1,h2.n.trans h1.2.2.2⟩
  have h4:cpQ D low o (i+1) M=cpA D low i (D.na i) (cpQ D low o i M)\/∃t,cpQ D low o (i+1) M=((cpA D low i (D.na i) (cpQ D low o i M)).setFin (low+i) ⟨#[]⟩).arc (low+i) 0 0 (D.fin i) t:=by
   show cpF D low o i (cpA D low i (D.na i) (cpQ D low o i M))=_\/∃t,cpF D low o i (cpA D low i (D.na i) (cpQ D low o i M))=_;unfold cpF
   split
   ·exact .inl rfl
   cases o with
   |none=>exact .inl rfl
   |some t=>exact .inr ⟨_,rfl⟩
  rcases h4 with h4|⟨t,h4⟩
  ·rw[h4];exact h3
  rw[h4];exact h3
theorem Hc{D:MD}(hV:VM D)(hS:MSz D){low N i:Nat}(hi:i<D.n)(hN:low+D.n<=N){M:MD}{c:Nat}(hk:M.kind=D.kind)(h:BOk M N c):∀d,d<=D.na i->BOk (cpA D low i d M) N (c+d)
 |0,_=>h
 |d+1,hd=>by
  have a:=hV.arc i d hi (by omega);refine(Hc hV hS hi hN hk h d (by omega)).put ⟨a.i0,a.i1⟩ ⟨a.o0,a.o1⟩ ⟨by have:=a.t0;omega,by have:=a.t1;omega⟩ ?_ (hS.aw i d);rw[show (cpA D low i d M).kind=D.kind from (FP D low i (Skel.refl M) d).kind.trans hk];exact a.wt
theorem EX{D:MD}(hV:VM D)(hS:MSz D){low N:Nat}{o:Option Nat}(ho:∀t,o=some t->t<N)(hN:low+D.n<=N){M:MD}{c:Nat}(hk:M.kind=D.kind)(h:BOk M N c):∀i,i<=D.n->BOk (cpQ D low o i M) N (c+cpC D o i)
 |0,_=>h.mono nlr (by unfold cpC;omega)
 |i+1,hi=>by
  have hk1:(cpQ D low o i M).kind=D.kind:=(CX D low o M i).1.trans hk;have h1:=Hc hV hS (i:=i) (by omega) hN hk1 (EX hV hS ho hN hk h i (by omega)) (D.na i) nlr;have hk2:(cpA D low i (D.na i) (cpQ D low o i M)).kind=D.kind:=(FP D low i (Skel.refl _) _).kind.trans hk1;have hc:c+cpC D o i+D.na i+(if o.isSome then 1 else 0)=c+cpC D o (i+1):=by
   unfold cpC;show _=c+(Ac D i+D.na i+_);split<;>omega
  show BOk (cpF D low o i (cpA D low i (D.na i) (cpQ D low o i M))) N (c+cpC D o (i+1));rw[<-hc];unfold cpF
  split
  ·exact h1.mono nlr (by omega)
  rename_i hf;cases o with
  |none=>exact h1.mono nlr (by omega)
  |some t =>
   have h2:=ho t rfl;exact(h1.setFin (q:=low+i) (s:=⟨#[]⟩) (.inl rfl) nzl).put ⟨by omega,by omega⟩ ⟨by omega,by omega⟩ ⟨by omega,by omega⟩ (by
    show Aw (cpA D low i (D.na i) (cpQ D low (some t) i M)).kind (D.fin i)=true;rw[hk2];exact(hV.fin i (by omega)).resolve_left hf) (hS.fin i)
def MA{E:MD}(F:VM D)(g:MSz D)(z:VM E)(i:MSz E)(A:E.kind=D.kind)(lead:ByteArray):BOk (catD D E lead) (E.n+D.n) (Ac E E.n+(Ac D D.n+D.n))/\(catD D E lead).n=E.n+D.n/\(catD D E lead).kind=D.kind/\(catD D E lead).lead=lead:=by
 have G:=BOk.empty D.kind 0 lead (E.n+D.n);have H:=GD z i (M:=AJ D.kind 0 lead) A.symm G E.n nlr;have B:(stsD E E.n (AJ D.kind 0 lead)).n=E.n:=by rw[EK];exact Nat.zero_add _
 have k:(stsD E E.n (AJ D.kind 0 lead)).kind=E.kind:=by rw[(DO _ _ _).1];exact A.symm
 have I:=EX z i (low:=0) (N:=E.n+D.n) (o:=none) (λ_ h=>by cases h) (by omega) k H E.n nlr;have u:=CX E 0 none (stsD E E.n (AJ D.kind 0 lead)) E.n;have l:(AV E none (AJ D.kind 0 lead)).kind=D.kind:=by unfold AV;exact u.1.trans<|k.trans A
 have p:(AV E none (AJ D.kind 0 lead)).n=E.n:=by unfold AV;exact u.2.2.2.trans B
 have J:=GD F g (M:=AV E none (AJ D.kind 0 lead)) l I D.n nlr;have m:(stsD D D.n (AV E none (AJ D.kind 0 lead))).kind=D.kind:=by rw[(DO _ _ _).1];exact l
 have C:(stsD D D.n (AV E none (AJ D.kind 0 lead))).n=E.n+D.n:=by rw[EK,p]
 have c:=EX F g (low:=E.n) (N:=E.n+D.n) (o:=some E.start.toNat) (λt h=>by cases h;have:=z.s0;have:=z.s1;omega) nlr m J D.n nlr;have d:=CX D E.n (some E.start.toNat) (stsD D D.n (AV E none (AJ D.kind 0 lead))) D.n;have K:(0+cpC E none E.n+cpC D (some E.start.toNat) D.n)=Ac E E.n+(Ac D D.n+D.n):=by unfold cpC;simp
 rw[K]at c;have j:catD D E lead={ cpQ D E.n (some E.start.toNat) D.n (stsD D D.n (AV E none (AJ D.kind 0 lead))) with start:=(E.n:Int)+D.start }:=by
  show ({ cpQ D (AV E none (AJ D.kind 0 lead)).n (some E.start.toNat) D.n (stsD D D.n (AV E none (AJ D.kind 0 lead))) with start:=(E.n:Int)+D.start }:MD)=_;rw[p]
 rw[j];refine⟨⟨c.fin,c.arc,c.na,λn=>?_,c.fsm,c.asm⟩,d.2.2.2.trans C,d.1.trans m,?_⟩
 ·have:∀(X:MD) (s:Int) n,Ac { X with start:=s } n=Ac X n:=λX s n=>by
   induction n with
   |zero=>rfl
   |succ n ih=>exact congrArg (·+X.na n) ih
  rw[this];exact c.cnt n
 show (cpQ D E.n (some E.start.toNat) D.n (stsD D D.n (AV E none (AJ D.kind 0 lead)))).lead=lead;rw[d.2.1,(DO _ _ _).2.1];unfold AV;rw[(CX _ _ _ _ _).2.1,(DO _ _ _).2.1];rfl
def atW(n:Nat)(x:Nat->Int)(i:Nat):Int:=if i<n then x i else 0
def AU(kind:Int)(na:Nat)(x:Nat->Int)(nb:Nat)(y:Nat->Int)(v:ByteArray):Nat->MD
 |0=>(AJ kind 0 v).state ⟨#[]⟩
 |i+1=>((AU kind na x nb y v i).state ⟨#[]⟩).arc i (atW na x i) (atW nb y i) (oneF kind) ((i+1:Nat):Int)
def BY(kind:Int)(na:Nat)(x:Nat->Int)(nb:Nat)(y:Nat->Int)(v:ByteArray):MD:=(AU kind na x nb y v (max na nb)).setFin (max na nb) (oneF kind)
end
section
open Go.RowKit Go.Deep
theorem KR{g:Nat}{t:TypeId}{n:Nat}{z:Value}:∀(c o:Nat) {w:World} {F:Nat->Value},w.rowIs g t n F->(w.setCells g o (List.replicate c z)).rowIs g t n (λj=>if o<=j/\j<o+c then z else F j)
 |0,o,w,F,h=>h.congr (λi _=>by rw[ifn (by omega)])
 |c+1,o,w,F,h=>by
  have h1:=KR (z:=z) c (o+1) (h.set o z);refine World.rowIs.congr h1 (λi _=>?_);by_cases e:i=o
  ·subst e;rw[ifn (by omega),ifp rfl,ifp (by omega)]
  by_cases e2:o+1<=i/\i<o+1+c
  ·rw[ifp e2,ifp (by omega)]
  rw[ifn e2,ifn e,ifn (by omega)]
theorem Jh{B b:Nat}{a:World}{z:Value}:∀(c o:Nat) {w:World},Below B a w->B<=b->Below B a (w.setCells b o (List.replicate c z))
 |0,_,_,h,_=>h
 |c+1,o,_,h,hb=>Jh c (o+1) (h.setCell (p:=(Ad b o)) hb z) hb
def RepES(n:Nat)(z:ByteArray)(w:World)(r:Ending)(w':World):Prop:=Below w.heap.size w w'/\∃g,r=.returned (.slice (some (Ad g 0)) n n)/\w.heap.size<=g/\w'.rowIs g 9 n (λ_=>.string z)
def XT{n xb xo xc:Nat}{z:ByteArray}(w:World)(Z:1<=n)(hn:n<=3000)(hx:w.cell? (Ad xb xo)=some (.string z)):
  Calls prog 121 #[.slice (some (Ad xb xo)) 1 xc,.int .i64 (n:Int)] w (RepES n z w):=by
 have T:=run_make_row' (P:=prog) 79 9 (.string ⟨#[]⟩) 16 underlying79 NF rfl .i64 .i64 n (by omega) (by omega);have I:∀O,Calls prog 152 #[.int .u64 1,.int .u64 (n:Int)] O (λe w'=>e=.returned (.tuple #[.int .u64 0,.int .u64 (n:Int)])/\O=w'):=λO=>(Tryz.bits_Mul 1 n (by omega) (by omega) O).mono λe w' h=>by
  refine⟨h.1.trans ?_,h.2.symm⟩;rw[show 1*n / 18446744073709551616=0 by omega,show 1*n % 18446744073709551616=n by omega];rfl
 replace I:=qh I;have hz:decide ((n:Int)<0)=false:=by simp
 have a8:decide ((9223372036854775807:Int)<(n:Int))=false:=by simp;omega
 go_enter func121,ntmps121
 go_wp2_with fail
 refine(I.o _).mono ?_;rintro r O⟨rfl,rfl⟩;clear hz;have B:(prog.info? 9).map (·.size)=some 1:=by kernel_rfl
 have l:=World.rowIs_made w (.string ⟨#[]⟩) n 9;have o:=run_copy_cells (P:=prog) (w.alloc (.cells (madeCells #[.string ⟨#[]⟩] n) 9)) 79 79 3 9 w.heap.size 0 n n (Ad xb xo) 1 xc (List.replicate 1 (.string z)) underlying79 B (by rw[List.length_replicate];exact(Nat.min_eq_left Z).symm)
  (λj v C=>by
   have F:j=0:=by have:=(List.getElem?_eq_some_iff.1 C).1;simpa using this
   subst F;simp at C;subst C;rw[Addr.add_lit,Nat.add_zero];exact(World.grownBy_alloc w _ none).cell hx (by simp))
  (λj F=>by rw[l.cell (by simp at F;omega)];rfl) (λj _=>l.frozen _) (λv C=>by rw[List.eq_of_mem_replicate C];rfl)
 have A:=KR (z:=.string z) 1 0 l;have E:=Jh (z:=.string z) 1 0 (((Below.refl w.heap.size w).alloc nlr (.cells (madeCells #[.string ⟨#[]⟩] n) 9))) nlr;rw[List.length_replicate]at o;have d:=qh A;clear A l;have s:=qh E;clear E;obtain⟨W,G⟩:∃W,W=(w.alloc (.cells (madeCells #[.string ⟨#[]⟩] n) 9)).setCells w.heap.size 0 (List.replicate 1 (.string z)):=⟨_,rfl⟩;rw[<-G]at d s o;replace G:=qh G;clear B
 go_wp2_with fail
 clear T o;obtain⟨g,R⟩:=exq<|w.heap.size;rw[<-R]at d;rw[<-R];have N:w.heap.size<=g:=by omega
 clear R
 go_loopw [8] (λv wr=>∃c:Nat,1<=c/\c<=n/\v=.int .i64 (c:Int)/\wr.rowIs g 9 n (λj=>if j<c then .string z else .string ⟨#[]⟩)/\Below w.heap.size w wr) (λv _=>n-(intOf v).toNat)
 case atStart=>exact⟨1,nlr,Z,by go_num,d.o.congr (λj _=>by by_cases e:j<1<;>simp[e]),s.o⟩
 obtain⟨c,a3,a4,rfl,J,hb⟩:=hrel;clear d s;replace J:=qh J;replace hb:=qh hb;by_cases a7:c<n
 ·have a5:(c:Int)<(n:Int):=by omega
  have a1:(0:Int)<=(c:Int):=by omega
  have a2:(c:Int)<=(n:Int):=by omega
  have B:(prog.info? 9).map (·.size)=some 1:=by kernel_rfl
  obtain⟨k,Q⟩:=exq<|Nat.min c (n-c);have S:1<=k/\k<=c/\c+k<=n:=by rw[Q];show 1<=min c (n-c)/\min c (n-c)<=c/\c+min c (n-c)<=n;omega
  have o:=run_copy_cells (P:=prog) wr.drew 79 79 3 9 g c (n-c) (n-c) (Ad g 0) c n (List.replicate k (.string z)) underlying79 B (by rw[List.length_replicate];exact Q)
   (λj v C=>by
    have F:j<k:=by have:=(List.getElem?_eq_some_iff.1 C).1;simpa using this
    have e:=(List.getElem?_eq_some_iff.1 C).2;rw[List.getElem_replicate]at e;subst e;rw[Addr.add_lit,Nat.zero_add];have h2:=J.o.cell (i:=j) (by omega);rw[ifp (by omega)]at h2;exact h2)
   (λj F=>by rw[List.length_replicate]at F;rw[show wr.drew.cell? (Ad g (c+j))=_ from J.o.cell (i:=c+j) (by omega)];rfl) (λj _=>J.o.frozen _) (λv C=>by rw[List.eq_of_mem_replicate C];rfl)
  rw[List.length_replicate,show goInt k=Value.int .i64 (k:Int) from rfl]at o;have m:=KR (z:=.string z) k c (show wr.drew.rowIs g 9 n _ from J.o);have p:=Jh (z:=.string z) k c hb.o.drew N;have L:=qh o;clear o B;replace m:=qh m;replace p:=qh p;replace Q:=qh Q;have U:¬n=c:=by omega
  have hw:IntKind.i64.wrap ((c:Int)+(k:Int))=(c:Int)+(k:Int):=by rw[IntKind.wrap_i64];omega
  go_wp2_with fail
  refine Au (λ_=>True) 9 (by kernel_rfl) ?_;refine Aa.tm 0 trivial ?_;refine Aa.tm 1 trivial ?_;refine Aa.tm 2 trivial ?_;refine Aa.tm 3 trivial ?_;refine Aa.tm 4 trivial ?_;refine Aa.tm 5 trivial ?_;refine Aa.tm 6 trivial ?_
  try simp only[Act.put,tryL]
  refine Aa.on 7 λK D=>?_;refine Lib.wp_copy_run _ (.tmp 41) (.tmp 44) 79 79 rfl _ _ (by simp[Act.eval,U]) (by simp[Act.eval]) L.o ?_;refine D.out _ _ (.inr trivial) ?_;clear D K;obtain⟨X,H⟩:=exq<|wr.drew.setCells g c (List.replicate k (.string z));rw[<-H]at m p;rw[<-H];clear H L
  try simp only[Act.put,tryL]
  refine Aa.on 8 λK D=>?_;go_simp;refine D.out _ _ (.inr trivial) ?_;clear D K
  try simp only[Act.put,tryL]
  refine Aa.on 9 λK D=>?_;go_simp;refine D.out _ _ (.inl rfl) (Aa.dn ?_);clear D K hw;go_wp2;go_roundw
  case rel =>
   refine⟨c+k,by omega,S.2.2,by go_num,m.o.congr (λj F=>?_),p.o⟩;by_cases e:c<=j/\j<c+k
   ·rw[ifp e,ifp e.2]
   rw[ifn e];by_cases Y:j<c
   ·rw[ifp Y,ifp (by omega)]
   rw[ifn Y,ifn (by omega)]
  simp[intOf];omega
 have u:c=n:=by omega
 have a6:¬((c:Int)<(n:Int)):=by omega
 replace u:=qh u;go_wp2;go_ret;exact⟨hb.o,g,rfl,N,J.o.congr (λj F=>ifp (by have:=u.o;omega))⟩
variable{n:Nat}{v:Value}{x:Nat->Int}
def It(w:World)(B:Si none w v n x)(hn:(n:Int)<=9223372036854775807):
  Calls prog 46 #[v] w (λr w'=>r=.returned (.bool (isWord n x))/\w'=w):=by
 obtain⟨a,C,b,N,rfl,z,Q,J,hb,c⟩:=B.open;unfold maxLen at J;replace z:=qh z;replace c:=qh c;clear B hb;by_cases E:(200:Int)<(n:Int)
 ·have u:isWord n x=false:=by unfold isWord;rw[show decide (n<=200)=false by simp;omega];rfl
  rw[u];clear u
  go_enter func46,ntmps46
  go_wp2;go_ret;exact⟨rfl,rfl⟩
 have F:decide ((200:Int)<(n:Int))=false:=by simp;omega
 have K:n<=200:=by omega
 have u:isWord n x=DC n x 500:=by unfold isWord;rw[show decide (n<=200)=true by simp;omega];simp
 rw[u];clear u E
 go_enter func46,ntmps46
 go_wp2_with fail
 go_loop [3] (λi=>∃q:Nat,q<=n/\i=.int .i64 (q:Int)/\∀j,j<q->1<=x j/\x j<=500) (λi=>n-(intOf i).toNat)
 case atStart=>exact⟨0,Nat.zero_le _,rfl,λj I=>by omega⟩
 obtain⟨q,R,rfl,l⟩:=hrel;replace l:=qh l;by_cases o:q<n
 ·have L:(q:Int)<(n:Int):=by omega
  have A:(0:Int)<=(q:Int):=by omega
  obtain rfl:=z.o (by omega);have c0:=c.o q o;obtain⟨p,d⟩:=exq<|x q;rw[<-d]at c0;replace d:=qh d;by_cases O:p<1
  ·have g:DC n x 500=false:=Ry.2 λh=>by have:=(h q o).1;rw[<-d.o]at this;omega
   have m:=qh g;clear g;go_wp2;go_ret;exact⟨Az m.o.symm,rfl⟩
  have D:decide (p<1)=false:=by simp;omega
  by_cases P:(500:Int)<p
  ·have g:DC n x 500=false:=Ry.2 λh=>by have:=(h q o).2;rw[<-d.o]at this;omega
   have m:=qh g;clear g;go_wp2;go_ret;exact⟨Az m.o.symm,rfl⟩
  have G:decide ((500:Int)<p)=false:=by simp;omega
  go_wp2
  go_round
  case rel=>exact⟨q+1,by omega,by go_num,λj I=>by
   by_cases e:j=q
   ·subst e;rw[<-d.o];omega
   exact l.o j (by omega)⟩
  simp[intOf];omega
 have s:q=n:=by omega
 have H:¬((q:Int)<(n:Int)):=by omega
 have k:DC n x 500=true:=GL.2 λi hi=>l.o i (by rw[s];exact hi);replace k:=qh k;clear s;go_wp2;go_ret;exact⟨Az k.o.symm,rfl⟩
def NP{w:World}(h:Si none w v n x):(n:Int)<=9223372036854775807:=by
 obtain⟨_,_,_,_,_,_,d,c,_⟩:=h.open;unfold maxLen at c;omega
end
end Go.Proofs.YteappjogmnogcaaGreatDoor
