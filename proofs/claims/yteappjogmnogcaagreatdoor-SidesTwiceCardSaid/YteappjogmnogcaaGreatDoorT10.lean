/- Parts of a proof: MkD ReptS WgP WgQ WgU. -/
import Derived.Test.YteappjogmnogcaaGreatDoorT09
import Derived.Test.YteappjogmnogcaaGreatDoorT07
import Derived.Test.YteappjogmnogcaaGreatDoorT02
import Derived.Laws.IdiomCopy
import Derived.Lib.SlBuf
namespace Go.Proofs.YteappjogmnogcaaGreatDoor
set_option maxRecDepth 100000
set_option linter.unusedSimpArgs false
set_option linter.unusedVariables false
set_option linter.unusedSectionVars false
set_option maxHeartbeats 16000000
open Go Tryz
section
open Go CSR
def asum (k:KK) (M:MD) (q:Nat) (f:Int->Int->RK k->Nat->RK k):RK k:=sum (fun d=>f (M.ain q d) (M.aout q d) (wval k (M.aw q d)) (M.ato q d).toNat) (M.na q)
theorem x3t (k:KK) (M:MD) (q:Nat) (a b:Int) (x:ByteArray) (t:Int) (p:Nat) (f:Int->Int->RK k->Nat->RK k) :
  asum k (M.arc q a b x t) p f=asum k M p f+(if p=q then f a b (wval k x) t.toNat else zero):=by
 unfold asum;by_cases e:p=q
 ·subst e;have g:(M.arc p a b x t).na p=M.na p+1:=if_pos rfl;rw[g,if_pos rfl];show sum _ (M.na p)+_=_
  congr 1
  ·refine sum_congr fun d i=>?_;show f (if p=p/\d=M.na p then a else M.ain p d) (if p=p/\d=M.na p then b else M.aout p d) (wval k (if p=p/\d=M.na p then x else M.aw p d)) (if p=p/\d=M.na p then t else M.ato p d).toNat=_
   have c:d≠M.na p:=by omega
   simp[c]
  show f (if p=p/\M.na p=M.na p then a else M.ain p _) (if p=p/\M.na p=M.na p then b else M.aout p _) (wval k (if p=p/\M.na p=M.na p then x else M.aw p _)) (if p=p/\M.na p=M.na p then t else M.ato p _).toNat=_
  simp
 have g:(M.arc q a b x t).na p=M.na p:=if_neg e;rw[g,if_neg e,a0];refine sum_congr fun d i=>?_;show f (if p=q/\d=M.na q then a else M.ain p d) (if p=q/\d=M.na q then b else M.aout p d) (wval k (if p=q/\d=M.na q then x else M.aw p d)) (if p=q/\d=M.na q then t else M.ato p d).toNat=_
 have c:¬ (p=q/\d=M.na q):=fun h=>e h.1;simp only[if_neg c]
structure BOk (M:MD) (N c:Nat):Prop where
 fin:∀ i,M.fin i=⟨#[]⟩\/z0s M.kind (M.fin i)=true
 arc:∀ i d,d<M.na i->0<=M.ain i d/\M.ain i d<=500/\0<=M.aout i d/\M.aout i d<=500/\0<=M.ato i d/\M.ato i d<(N:Int)/\z0s M.kind (M.aw i d)=true
 na:∀ i,M.na i<=c
 cnt:∀ n,z0f M n<=c
 fsm:∀ i,smS (M.fin i)
 asm:∀ i d,smS (M.aw i d)
theorem BOk.mono {M:MD} {N g c c':Nat} (h:BOk M N c) (A:N<=g) (j:c<=c'):BOk M g c' :=
 ⟨h.fin,fun i d l=>by obtain⟨k,u,s,m,o,z,p⟩:=h.arc i d l;exact⟨k,u,s,m,o,by omega,p⟩,fun i=>Nat.le_trans (h.na i) j,fun n=>Nat.le_trans (h.cnt n) j,h.fsm,h.asm⟩
theorem y0j {D:MD} {p:Nat} {i o t:Int} {w:ByteArray}:∀ n,z0f (D.arc p i o w t) n<=z0f D n+(if p<n then 1 else 0)
 | 0=>Nat.zero_le _
 | n+1=>by
  have ih:=y0j (D:=D) (p:=p) (i:=i) (o:=o) (t:=t) (w:=w) n;show z0f (D.arc p i o w t) n+(if n=p then D.na p+1 else D.na n)<=z0f D n+D.na n+(if p<n+1 then 1 else 0)
  by_cases e:n=p
  ·subst e;rw[if_pos rfl,if_pos (by omega)];rw[if_neg (by omega)] at ih;omega
  rw[if_neg e];split at ih
  ·rw[if_pos (by omega)];omega
  split<;>omega
theorem BOk.put {M:MD} {N c q:Nat} {a b t:Int} {x:ByteArray} (h:BOk M N c) (k:0<=a/\a<=500) (hb:0<=b/\b<=500) (m:0<=t/\t<(N:Int)) (z:z0s M.kind x=true) (A:smS x):BOk (M.arc q a b x t) N (c+1):=by
 refine⟨h.fin,fun i d u=>?_,fun i=>?_,fun n=>?_,h.fsm,fun i d=>?_⟩
 ·have g:d<if i=q then M.na q+1 else M.na i:=u
  show 0<=(if i=q/\d=M.na q then a else M.ain i d)/\(if i=q/\d=M.na q then a else M.ain i d)<=500/\0<=(if i=q/\d=M.na q then b else M.aout i d)/\(if i=q/\d=M.na q then b else M.aout i d)<=500/\0<=(if i=q/\d=M.na q then t else M.ato i d)/\(if i=q/\d=M.na q then t else M.ato i d)<(N:Int)/\z0s M.kind (if i=q/\d=M.na q then x else M.aw i d)=true
  by_cases e:i=q/\d=M.na q
  ·simp only[if_pos e];exact⟨k.1,k.2,hb.1,hb.2,m.1,m.2,z⟩
  simp only[if_neg e];refine h.arc i d ?_;by_cases j:i=q
  ·rw[if_pos j] at g;subst j;have:d≠M.na i:=fun s=>e ⟨rfl,s⟩;omega
  rw[if_neg j] at g;exact g
 ·show (if i=q then M.na q+1 else M.na i)<=c+1
  have l:=h.na q;have B:=h.na i
  split<;>omega
 ·have l:=y0j (D:=M) (p:=q) (i:=a) (o:=b) (t:=t) (w:=x) n;have B:=h.cnt n
  split at l<;>omega
 show smS (if i=q/\d=M.na q then x else M.aw i d)
 split
 ·exact A
 exact h.asm i d
theorem BOk.setFin {M:MD} {N c q:Nat} {s:ByteArray} (h:BOk M N c) (g:s=⟨#[]⟩\/z0s M.kind s=true) (d:smS s):BOk (M.setFin q s) N c :=
 ⟨fun i=>by
  show (if i=q then s else M.fin i)=_\/z0s M.kind (if i=q then s else M.fin i)=true
  split
  ·exact g
  ·exact h.fin i,h.arc,h.na,fun n=>by rw[show z0f (M.setFin q s) n=z0f M n from by induction n with|zero=>rfl|succ n ih=>exact congrArg (·+M.na n) ih];exact h.cnt n,fun i=>by
  show smS (if i=q then s else M.fin i)
  split
  ·exact d
  exact h.fsm i,h.asm⟩
theorem BOk.state {M:MD} {N c:Nat} {s:ByteArray} (h:BOk M N c) (m:s=⟨#[]⟩\/z0s M.kind s=true) (l:smS s):BOk (M.state s) N c:=by
 have g:∀ i,(M.state s).na i<=M.na i:=fun i=>by
  show (if i=M.n then 0 else M.na i)<=_
  split<;>omega
 have j:∀ n,z0f (M.state s) n<=z0f M n:=fun n=>by
  induction n with
  | zero=>exact nlr
  | succ n ih=>exact Nat.add_le_add ih (g n)
 exact⟨fun i=>by
  show (if i=M.n then s else M.fin i)=_\/z0s M.kind (if i=M.n then s else M.fin i)=true
  split
  ·exact m
  ·exact h.fin i,fun i d k=>h.arc i d (Nat.lt_of_lt_of_le k (g i)),fun i=>Nat.le_trans (g i) (h.na i),fun n=>Nat.le_trans (j n) (h.cnt n),fun i=>by
  show smS (if i=M.n then s else M.fin i)
  split
  ·exact l
  exact h.fsm i,h.asm⟩
theorem BOk.empty (d st:Int) (c:ByteArray) (N:Nat):BOk (z1r d st c) N 0 :=
 ⟨fun _=>.inl rfl,fun _ _ h=>absurd h (Nat.not_lt_zero _),fun _=>nlr,fun n=>by
  induction n with
  | zero=>exact nlr
  | succ n ih=>exact ih,fun _=>Nat.zero_le _,fun _ _=>Nat.zero_le _⟩
theorem BOk.vm {M:MD} {c:Nat} (h:BOk M M.n c) (z:z3t M.kind=true) (p:1<=M.n) (B:M.n<=3000) (g:0<=M.start/\M.start<(M.n:Int)) (k:z0s M.kind M.lead=true) (l:c<=30000):VM M :=
 ⟨z,p,B,g.1,g.2,k,Nat.le_trans (h.cnt _) l,fun i _=>h.fin i,fun i d _ u=>by obtain⟨A,j,m,C,o,s,D⟩:=h.arc i d u;exact⟨A,j,m,C,o,s,D⟩⟩
theorem v6k {k:Int} (h:z3t k=true):-9223372036854775808<=k/\k<=9223372036854775807:=by unfold z3t at h;simp at h;omega
theorem BOk.msz {M:MD} {N c:Nat} (h:BOk M N c) (j:z3t M.kind=true) (hn:M.n<=140737488355328) (d:smS M.lead) (g:c<=140737488355328):MSz M :=
 ⟨d,h.fsm,h.asm,fun i=>Nat.le_trans (h.na i) g,hn,v6k j⟩
def revA (D:MD) (q:Nat):Nat->MD->MD
 | 0,M=>M
 | d+1,M=>(revA D q d M).arc (D.ato q d).toNat (D.ain q d) (D.aout q d) (D.aw q d) (q:Int)
def revF (D:MD) (q:Nat) (M:MD):MD:=if D.fin q=⟨#[]⟩ then M else M.arc D.n 0 0 (D.fin q) (q:Int)
def revZ (D:MD):MD:=⟨D.kind,(D.n:Int),D.lead,D.n+1,fun _=>⟨#[]⟩,fun _=>0,fun _ _=>0,fun _ _=>0,fun _ _=>⟨#[]⟩,fun _ _=>0⟩
def revQ (D:MD):Nat->MD
 | 0=>revZ D
 | q+1=>revF D q (revA D q (D.na q) (revQ D q))
def revD (D:MD):MD:=(revQ D D.n).setFin D.start.toNat (oneF D.kind)
structure Skel (M M':MD):Prop where
 kind:M'.kind=M.kind
 start:M'.start=M.start
 lead:M'.lead=M.lead
 n:M'.n=M.n
 fin:M'.fin=M.fin
theorem Skel.refl (M:MD):Skel M M:=⟨rfl,rfl,rfl,rfl,rfl⟩
theorem Skel.arc {M M':MD} (h:Skel M M') (q:Nat) (a b:Int) (x:ByteArray) (t:Int):Skel M (M'.arc q a b x t):=⟨h.kind,h.start,h.lead,h.n,h.fin⟩
theorem z7t (D:MD) (q:Nat) {M M':MD} (h:Skel M M'):∀ d,Skel M (revA D q d M')
 | 0=>h
 | d+1=>(z7t D q h d).arc _ _ _ _ _
theorem v2x (D:MD) (q:Nat) {M M':MD} (h:Skel M M'):Skel M (revF D q M'):=by
 unfold revF
 split
 ·exact h
 exact h.arc _ _ _ _ _
theorem z1m (D:MD):∀ q,Skel (revZ D) (revQ D q)
 | 0=>Skel.refl _
 | q+1=>v2x D q (z7t D q (z1m D q) _)
theorem x2x {D:MD} (hV:VM D) (hS:MSz D) {q:Nat} (hq:q<D.n) {M:MD} {c:Nat} (hk:M.kind=D.kind) (h:BOk M (D.n+1) c):∀ d,d<=D.na q->BOk (revA D q d M) (D.n+1) (c+d)
 | 0,_=>h
 | d+1,hd=>by
  have a:=hV.arc q d hq (by omega);refine(x2x hV hS hq hk h d (by omega)).put ⟨a.i0,a.i1⟩ ⟨a.o0,a.o1⟩ ⟨by omega,by omega⟩ ?_ (hS.aw q d);rw[show (revA D q d M).kind=D.kind from (z7t D q (Skel.refl M) d).kind.trans hk];exact a.wt
theorem x1q {D:MD} (hV:VM D) (hS:MSz D):∀ q,q<=D.n->BOk (revQ D q) (D.n+1) (z0f D q+q)
 | 0,_=>⟨fun _=>.inl rfl,fun _ _ h=>absurd h (Nat.not_lt_zero _),fun _=>Nat.zero_le _,fun n=>by
  have:z0f (revQ D 0) n=0:=by
   induction n with
   | zero=>rfl
   | succ n ih=>exact congrArg (·+0) ih
  rw[this];exact Nat.zero_le _,fun _=>Nat.zero_le _,fun _ _=>Nat.zero_le _⟩
 | q+1,hq=>by
  have h1:=x2x hV hS (q:=q) (by omega) (z1m D q).kind (x1q hV hS q (by omega)) (D.na q) nlr;show BOk (revF D q (revA D q (D.na q) (revQ D q))) (D.n+1) (z0f D q+D.na q+(q+1));unfold revF
  split
  ·exact h1.mono nlr (by omega)
  rename_i hf;have h2:=h1.put (q:=D.n) (a:=0) (b:=0) (t:=(q:Int)) (x:=D.fin q) ⟨by omega,by omega⟩ ⟨by omega,by omega⟩ ⟨by omega,by omega⟩ (by
   rw[show (revA D q (D.na q) (revQ D q)).kind=D.kind from (z7t D q (Skel.refl _) _).kind.trans (z1m D q).kind];exact(hV.fin q (by omega)).resolve_left hf) (hS.fin q)
  exact h2.mono nlr (by omega)
theorem z9r {k:Int} (h:z3t k=true):z0s k (oneF k)=true:=by
 unfold z3t at h;simp at h;have:k=1\/k=2\/k=3:=by omega
 rcases this with rfl|rfl|rfl<;>decide +kernel
theorem y8e {k:Int} (h:z3t k=true):smS (oneF k):=by
 unfold z3t at h;simp at h;have:k=1\/k=2\/k=3:=by omega
 rcases this with rfl|rfl|rfl<;>(unfold smS;decide +kernel)
theorem x2a {D:MD} (c:VM D) (d:MSz D):BOk (revD D) (D.n+1) (z0f D D.n+D.n) :=
 (x1q c d D.n nlr).setFin (.inr (by rw[(z1m D D.n).kind];exact z9r c.kind)) (y8e c.kind)
theorem x9e {D:MD} (g:VM D) (i:MSz D) (hn:D.n+1<=3000) (h:z0f D D.n+D.n<=30000):VM (revD D):=by
 have d:=z1m D D.n;have c:(revD D).n=D.n+1:=d.n;exact BOk.vm (by rw[c];exact x2a g i) (by rw[show (revD D).kind=D.kind from d.kind];exact g.kind) (by rw[c];omega) (by rw[c];omega) (by rw[c,show (revD D).start=(D.n:Int) from d.start];omega) (by rw[show (revD D).kind=D.kind from d.kind,show (revD D).lead=D.lead from d.lead];exact g.lead) h
theorem z6h {D:MD} (c:VM D) (g:MSz D):MSz (revD D):=by
 have d:=z1m D D.n;have h:=c.arcs;have i:=c.n2;exact(x2a c g).msz (by rw[show (revD D).kind=D.kind from d.kind];exact c.kind) (by rw[show (revD D).n=D.n+1 from d.n];omega) (by rw[show (revD D).lead=D.lead from d.lead];exact g.lead) (by omega)
theorem y4e (k:KK) (D:MD) (q:Nat) (M:MD) (p:Nat) (f:Int->Int->RK k->Nat->RK k):∀ d,asum k (revA D q d M) p f=asum k M p f+sum (fun d=>if (D.ato q d).toNat=p then f (D.ain q d) (D.aout q d) (wval k (D.aw q d)) q else zero) d
 | 0=>(a0 _).symm
 | d+1=>by
  show asum k ((revA D q d M).arc _ _ _ _ _) p f=_+(_+_);rw[x3t,y4e k D q M p f d,aA]
  congr 2
  dsimp only
  by_cases e:(D.ato q d).toNat=p
  ·rw[if_pos e,if_pos e.symm];rfl
  rw[if_neg e,if_neg (fun h=>e h.symm)]
theorem x0i (k:KK) (D:MD) (q:Nat) (M:MD) (p:Nat) (f:Int->Int->RK k->Nat->RK k) (hf:p≠D.n\/∀ s t r,f s t zero r=zero) :
  asum k (revF D q M) p f=asum k M p f+(if p=D.n then f 0 0 ((rmOf k D).fin q) q else zero):=by
 unfold revF;show asum k _ p f=_+(if p=D.n then f 0 0 (if D.fin q=⟨#[]⟩ then zero else wval k (D.fin q)) q else zero)
 by_cases e:D.fin q=⟨#[]⟩
 ·rw[if_pos e,if_pos e]
  rcases hf with h|h
  ·rw[if_neg h,a0]
  rw[h];simp[a0]
 rw[if_neg e,if_neg e,x3t];rfl
theorem x9v {k:KK} {D:MD} (h:VM D) (u:k.1=D.kind):RevOf (rmOf k D) (rmOf k (revD D)):=by
 have c:=z1m D D.n;have m:∀ p,p<D.n->∀ f:Int->Int->RK k->Nat->RK k,∀ q,asum k (revQ D q) p f=sum (fun r=>sum (fun d=>if (D.ato r d).toNat=p then f (D.ain r d) (D.aout r d) (wval k (D.aw r d)) r else zero) (D.na r)) q:=fun p B f q=>by
  induction q with
  | zero=>rfl
  | succ q ih =>
   show asum k (revF D q (revA D q (D.na q) (revQ D q))) p f=_+_;rw[x0i k D q _ p f (.inl (by omega)),y4e,ih,if_neg (by omega),a0]
 have i:∀ f:Int->Int->RK k->Nat->RK k,(∀ s t r,f s t zero r=zero)->∀ q,q<=D.n->asum k (revQ D q) D.n f=sum (fun r=>f 0 0 ((rmOf k D).fin r) r) q:=fun f hf q=>by
  induction q with
  | zero=>intro _;rfl
  | succ q ih =>
   intro l;show asum k (revF D q (revA D q (D.na q) (revQ D q))) D.n f=_+_;rw[x0i k D q _ D.n f (.inr hf),y4e,ih (by omega),if_pos rfl];have o:sum (fun d=>if (D.ato q d).toNat=D.n then f (D.ain q d) (D.aout q d) (wval k (D.aw q d)) q else zero) (D.na q)=(zero:RK k):=by
    rw[sum_congr (g:=fun _=>zero) (fun d z=>?_),sum_zero];have a:=h.arc q d (by omega) z;have:=a.t0;have:=a.t1;exact if_neg (by omega)
   rw[o,a0]
 refine⟨c.n,?_,?_,fun q l=>?_,?_,fun q l f=>?_,fun f hf=>?_⟩
 ·show ((revQ D D.n).start).toNat=D.n;rw[c.start];show ((D.n:Int)).toNat=D.n;omega
 ·show wval k (revQ D D.n).lead=wval k D.lead;rw[c.lead];rfl
 ·show (if (if q=D.start.toNat then oneF D.kind else (revQ D D.n).fin q)=⟨#[]⟩ then zero else wval k (if q=D.start.toNat then oneF D.kind else (revQ D D.n).fin q))=if q=D.start.toNat then one else zero
  by_cases e:q=D.start.toNat
  ·rw[if_pos e,if_pos e];have j:Sv k (oneF D.kind) (one:RK k):=by rw[<- u];exact Sv.one
   rw[if_neg j.ne];exact j.val
  rw[if_neg e,if_neg e,c.fin];exact if_pos rfl
 ·show (if (if D.n=D.start.toNat then oneF D.kind else (revQ D D.n).fin D.n)=⟨#[]⟩ then zero else wval k (if D.n=D.start.toNat then oneF D.kind else (revQ D D.n).fin D.n))=zero
  have A:=h.s0;have j:=h.s1;rw[if_neg (show ¬ D.n=D.start.toNat by omega),c.fin];exact if_pos rfl
 ·exact m q l f D.n
 exact i f hf D.n nlr
def stsD (D:MD):Nat->MD->MD
 | 0,M=>M
 | i+1,M=>(stsD D i M).state (D.fin i)
def cpA (D:MD) (low i:Nat):Nat->MD->MD
 | 0,M=>M
 | d+1,M=>(cpA D low i d M).arc (low+i) (D.ain i d) (D.aout i d) (D.aw i d) (D.ato i d+(low:Int))
def lvD (o:Option Nat) (s:Nat) (f:ByteArray) (M:MD):MD:=match o with
 | none=>M
 | some t=>(M.setFin s ⟨#[]⟩).arc s 0 0 f (t:Int)
def cpF (D:MD) (low:Nat) (o:Option Nat) (i:Nat) (M:MD):MD:=if D.fin i=⟨#[]⟩ then M else lvD o (low+i) (D.fin i) M
def cpQ (D:MD) (low:Nat) (o:Option Nat):Nat->MD->MD
 | 0,M=>M
 | i+1,M=>cpF D low o i (cpA D low i (D.na i) (cpQ D low o i M))
def z4k (D:MD) (o:Option Nat) (M:MD):MD:=cpQ D M.n o D.n (stsD D D.n M)
def cpC (D:MD) (o:Option Nat) (i:Nat):Nat:=z0f D i+(if o.isSome then i else 0)
def catD (D E:MD) (lead:ByteArray):MD :=
 { z4k D (some E.start.toNat) (z4k E none { z1r D.kind 0 lead with }) with start:=(E.n:Int)+D.start }
theorem y4k (D:MD) (M:MD):∀ i,(stsD D i M).n=M.n+i
 | 0=>rfl
 | i+1=>by show (stsD D i M).n+1=_;rw[y4k D M i];omega
theorem y0q (D:MD) (M:MD):∀ i,(stsD D i M).kind=M.kind/\(stsD D i M).lead=M.lead/\(stsD D i M).start=M.start
 | 0=>⟨rfl,rfl,rfl⟩
 | i+1=>y0q D M i
theorem y4m {D:MD} (hV:VM D) (hS:MSz D) {M:MD} {N c:Nat} (hk:M.kind=D.kind) (h:BOk M N c):∀ i,i<=D.n->BOk (stsD D i M) N c
 | 0,_=>h
 | i+1,hi=>(y4m hV hS hk h i (by omega)).state (by rw[(y0q D M i).1,hk];exact hV.fin i (by omega)) (hS.fin i)
theorem y0t (D:MD) (low i:Nat) {M M':MD} (h:Skel M M'):∀ d,Skel M (cpA D low i d M')
 | 0=>h
 | d+1=>(y0t D low i h d).arc _ _ _ _ _
theorem y3d (D:MD) (low:Nat) (o:Option Nat) (M:MD):∀ i,(cpQ D low o i M).kind=M.kind/\(cpQ D low o i M).lead=M.lead/\(cpQ D low o i M).start=M.start/\(cpQ D low o i M).n=M.n
 | 0=>⟨rfl,rfl,rfl,rfl⟩
 | i+1=>by
  have h1:=y3d D low o M i;have h2:=y0t D low i (Skel.refl (cpQ D low o i M)) (D.na i);have h3:(cpA D low i (D.na i) (cpQ D low o i M)).kind=M.kind/\(cpA D low i (D.na i) (cpQ D low o i M)).lead=M.lead/\(cpA D low i (D.na i) (cpQ D low o i M)).start=M.start/\(cpA D low i (D.na i) (cpQ D low o i M)).n=M.n :=
   ⟨h2.kind.trans h1.1,h2.lead.trans h1.2.1,h2.start.trans h1.2.2.1,h2.n.trans h1.2.2.2⟩
  have h4:cpQ D low o (i+1) M=cpA D low i (D.na i) (cpQ D low o i M)\/∃ t,cpQ D low o (i+1) M=((cpA D low i (D.na i) (cpQ D low o i M)).setFin (low+i) ⟨#[]⟩).arc (low+i) 0 0 (D.fin i) t:=by
   show cpF D low o i (cpA D low i (D.na i) (cpQ D low o i M))=_\/∃ t,cpF D low o i (cpA D low i (D.na i) (cpQ D low o i M))=_;unfold cpF
   split
   ·exact .inl rfl
   cases o with
   | none=>exact .inl rfl
   | some t=>exact .inr ⟨_,rfl⟩
  rcases h4 with h4|⟨t,h4⟩
  ·rw[h4];exact h3
  rw[h4];exact h3
theorem x4p {D:MD} (hV:VM D) (hS:MSz D) {low N i:Nat} (hi:i<D.n) (hN:low+D.n<=N) {M:MD} {c:Nat} (hk:M.kind=D.kind) (h:BOk M N c):∀ d,d<=D.na i->BOk (cpA D low i d M) N (c+d)
 | 0,_=>h
 | d+1,hd=>by
  have a:=hV.arc i d hi (by omega);refine(x4p hV hS hi hN hk h d (by omega)).put ⟨a.i0,a.i1⟩ ⟨a.o0,a.o1⟩ ⟨by have:=a.t0;omega,by have:=a.t1;omega⟩ ?_ (hS.aw i d);rw[show (cpA D low i d M).kind=D.kind from (y0t D low i (Skel.refl M) d).kind.trans hk];exact a.wt
theorem y6p {D:MD} (hV:VM D) (hS:MSz D) {low N:Nat} {o:Option Nat} (ho:∀ t,o=some t->t<N) (hN:low+D.n<=N) {M:MD} {c:Nat} (hk:M.kind=D.kind) (h:BOk M N c):∀ i,i<=D.n->BOk (cpQ D low o i M) N (c+cpC D o i)
 | 0,_=>h.mono nlr (by unfold cpC;omega)
 | i+1,hi=>by
  have hk1:(cpQ D low o i M).kind=D.kind:=(y3d D low o M i).1.trans hk;have h1:=x4p hV hS (i:=i) (by omega) hN hk1 (y6p hV hS ho hN hk h i (by omega)) (D.na i) nlr;have hk2:(cpA D low i (D.na i) (cpQ D low o i M)).kind=D.kind:=(y0t D low i (Skel.refl _) _).kind.trans hk1;have hc:c+cpC D o i+D.na i+(if o.isSome then 1 else 0)=c+cpC D o (i+1):=by
   unfold cpC;show _=c+(z0f D i+D.na i+_);split<;>omega
  show BOk (cpF D low o i (cpA D low i (D.na i) (cpQ D low o i M))) N (c+cpC D o (i+1));rw[<- hc];unfold cpF
  split
  ·exact h1.mono nlr (by omega)
  rename_i hf;cases o with
  | none=>exact h1.mono nlr (by omega)
  | some t =>
   have h2:=ho t rfl;exact(h1.setFin (q:=low+i) (s:=⟨#[]⟩) (.inl rfl) (Nat.zero_le _)).put ⟨by omega,by omega⟩ ⟨by omega,by omega⟩ ⟨by omega,by omega⟩ (by
    show z0s (cpA D low i (D.na i) (cpQ D low (some t) i M)).kind (D.fin i)=true;rw[hk2];exact(hV.fin i (by omega)).resolve_left hf) (hS.fin i)
theorem x8r {D E:MD} (F:VM D) (p:MSz D) (z:VM E) (m:MSz E) (B:E.kind=D.kind) (lead:ByteArray):BOk (catD D E lead) (E.n+D.n) (z0f E E.n+(z0f D D.n+D.n))/\(catD D E lead).n=E.n+D.n/\(catD D E lead).kind=D.kind/\(catD D E lead).lead=lead:=by
 have G:=BOk.empty D.kind 0 lead (E.n+D.n);have J:=y4m z m (M:=z1r D.kind 0 lead) B.symm G E.n nlr;have A:(stsD E E.n (z1r D.kind 0 lead)).n=E.n:=by rw[y4k];exact Nat.zero_add _
 have j:(stsD E E.n (z1r D.kind 0 lead)).kind=E.kind:=by rw[(y0q _ _ _).1];exact B.symm
 have I:=y6p z m (low:=0) (N:=E.n+D.n) (o:=none) (fun _ h=>by cases h) (by omega) j J E.n nlr;have l:=y3d E 0 none (stsD E E.n (z1r D.kind 0 lead)) E.n;have i:(z4k E none (z1r D.kind 0 lead)).kind=D.kind:=by unfold z4k;exact l.1.trans (j.trans B)
 have g:(z4k E none (z1r D.kind 0 lead)).n=E.n:=by unfold z4k;exact l.2.2.2.trans A
 have H:=y4m F p (M:=z4k E none (z1r D.kind 0 lead)) i I D.n nlr;have k:(stsD D D.n (z4k E none (z1r D.kind 0 lead))).kind=D.kind:=by rw[(y0q _ _ _).1];exact i
 have C:(stsD D D.n (z4k E none (z1r D.kind 0 lead))).n=E.n+D.n:=by rw[y4k,g]
 have c:=y6p F p (low:=E.n) (N:=E.n+D.n) (o:=some E.start.toNat) (fun t h=>by cases h;have:=z.s0;have:=z.s1;omega) nlr k H D.n nlr;have d:=y3d D E.n (some E.start.toNat) (stsD D D.n (z4k E none (z1r D.kind 0 lead))) D.n;have K:(0+cpC E none E.n+cpC D (some E.start.toNat) D.n)=z0f E E.n+(z0f D D.n+D.n):=by unfold cpC;simp
 rw[K] at c;have u:catD D E lead={ cpQ D E.n (some E.start.toNat) D.n (stsD D D.n (z4k E none (z1r D.kind 0 lead))) with start:=(E.n:Int)+D.start }:=by
  show ({ cpQ D (z4k E none (z1r D.kind 0 lead)).n (some E.start.toNat) D.n (stsD D D.n (z4k E none (z1r D.kind 0 lead))) with start:=(E.n:Int)+D.start }:MD)=_;rw[g]
 rw[u];refine⟨⟨c.fin,c.arc,c.na,fun n=>?_,c.fsm,c.asm⟩,d.2.2.2.trans C,d.1.trans k,?_⟩
 ·have:∀ (X:MD) (s:Int) n,z0f { X with start:=s } n=z0f X n:=fun X s n=>by
   induction n with
   | zero=>rfl
   | succ n ih=>exact congrArg (·+X.na n) ih
  rw[this];exact c.cnt n
 show (cpQ D E.n (some E.start.toNat) D.n (stsD D D.n (z4k E none (z1r D.kind 0 lead)))).lead=lead;rw[d.2.1,(y0q _ _ _).2.1];unfold z4k;rw[(y3d _ _ _ _ _).2.1,(y0q _ _ _).2.1];rfl
def atW (n:Nat) (x:Nat->Int) (i:Nat):Int:=if i<n then x i else 0
def z3u (kind:Int) (na:Nat) (x:Nat->Int) (nb:Nat) (y:Nat->Int) (v:ByteArray):Nat->MD
 | 0=>(z1r kind 0 v).state ⟨#[]⟩
 | i+1=>((z3u kind na x nb y v i).state ⟨#[]⟩).arc i (atW na x i) (atW nb y i) (oneF kind) ((i+1:Nat):Int)
def z9m (kind:Int) (na:Nat) (x:Nat->Int) (nb:Nat) (y:Nat->Int) (v:ByteArray):MD:=(z3u kind na x nb y v (max na nb)).setFin (max na nb) (oneF kind)
end
section
open Go.RowKit Go.Deep
theorem z6x {g:Nat} {t:TypeId} {n:Nat} {z:Value}:∀ (c o:Nat) {w:World} {F:Nat->Value},w.rowIs g t n F->(w.setCells g o (List.replicate c z)).rowIs g t n (fun j=>if o<=j/\j<o+c then z else F j)
 | 0,o,w,F,h=>h.congr (fun i _=>by rw[if_neg (by omega)])
 | c+1,o,w,F,h=>by
  have h1:=z6x (z:=z) c (o+1) (h.set o z);refine World.rowIs.congr h1 (fun i _=>?_);by_cases e:i=o
  ·subst e;rw[if_neg (by omega),if_pos rfl,if_pos (by omega)]
  by_cases e2:o+1<=i/\i<o+1+c
  ·rw[if_pos e2,if_pos (by omega)]
  rw[if_neg e2,if_neg e,if_neg (by omega)]
theorem y1i {B b:Nat} {a:World} {z:Value}:∀ (c o:Nat) {w:World},Below B a w->B<=b->Below B a (w.setCells b o (List.replicate c z))
 | 0,_,_,h,_=>h
 | c+1,o,_,h,hb=>y1i c (o+1) (h.setCell (p:=⟨b,o,none⟩) hb z) hb
def RepES (n:Nat) (z:ByteArray) (w:World) (r:Ending) (w':World):Prop:=Below w.heap.size w w'/\∃ g,r=.returned (.slice (some ⟨g,0,none⟩) n n)/\w.heap.size<=g/\w'.rowIs g 9 n (fun _=>.string z)
theorem x2r {n xb xo xc:Nat} {z:ByteArray} (w:World) (h1:1<=n) (hn:n<=3000) (hx:w.cell? ⟨xb,xo,none⟩=some (.string z)) :
  Calls prog 121 #[.slice (some ⟨xb,xo,none⟩) 1 xc,.int .i64 (n:Int)] w (RepES n z w):=by
 have T:=run_make_row' (P:=prog) 79 9 (.string ⟨#[]⟩) 16 underlying79 y9y rfl .i64 .i64 n (by omega) (by omega);have L:∀ R,Calls prog 152 #[.int .u64 1,.int .u64 (n:Int)] R (fun e w'=>e=.returned (.tuple #[.int .u64 0,.int .u64 (n:Int)])/\R=w'):=fun R=>(Tryz.bits_Mul 1 n (by omega) (by omega) R).mono fun e w' h=>by
  refine⟨h.1.trans ?_,h.2.symm⟩;rw[show 1*n / 18446744073709551616=0 by omega,show 1*n % 18446744073709551616=n by omega];rfl
 have Z:=qh L;clear L;have hz:decide ((n:Int)<0)=false:=by simp
 have a7:decide ((9223372036854775807:Int)<(n:Int))=false:=by simp;omega
 go_enter func121,ntmps121
 go_wp2_with fail
 refine(Z.out _).mono ?_;rintro r R ⟨rfl,rfl⟩;clear hz;have A:(prog.info? 9).map (·.size)=some 1:=by kernel_rfl
 have l:=World.rowIs_made w (.string ⟨#[]⟩) n 9;have m:=run_copy_cells (P:=prog) (w.alloc (.cells (madeCells #[.string ⟨#[]⟩] n) 9)) 79 79 3 9 w.heap.size 0 n n ⟨xb,xo,none⟩ 1 xc (List.replicate 1 (.string z)) underlying79 A (by rw[List.length_replicate];exact(Nat.min_eq_left h1).symm)
  (fun j v B=>by
   have E:j=0:=by have:=(List.getElem?_eq_some_iff.1 B).1;simpa using this
   subst E;simp at B;subst B;rw[Addr.add_lit,Nat.add_zero];exact(World.grownBy_alloc w _ none).cell hx (by simp))
  (fun j E=>by rw[l.cell (by simp at E;omega)];rfl) (fun j _=>l.frozen _) (fun v B=>by rw[List.eq_of_mem_replicate B];rfl)
 have s:=z6x (z:=.string z) 1 0 l;have H:=y1i (z:=.string z) 1 0 (((Below.refl w.heap.size w).alloc nlr (.cells (madeCells #[.string ⟨#[]⟩] n) 9))) nlr;rw[List.length_replicate] at m;have d:=qh s;clear s l;have u:=qh H;clear H;obtain⟨W1,I⟩:∃ W1,W1=(w.alloc (.cells (madeCells #[.string ⟨#[]⟩] n) 9)).setCells w.heap.size 0 (List.replicate 1 (.string z)):=⟨_,rfl⟩;rw[<- I] at d u m;have a4:=qh I;clear I A
 go_wp2_with fail
 clear T m;obtain⟨g,X⟩:=exq (w.heap.size);rw[<- X] at d;rw[<- X];have Q:w.heap.size<=g:=by omega
 clear X
 go_loopw [8] (fun v wr=>∃ c:Nat,1<=c/\c<=n/\v=.int .i64 (c:Int)/\wr.rowIs g 9 n (fun j=>if j<c then .string z else .string ⟨#[]⟩)/\Below w.heap.size w wr) (fun v _=>n-(intOf v).toNat)
 case atStart=>exact⟨1,nlr,h1,by go_num,d.out.congr (fun j _=>by by_cases e:j<1<;>simp[e]),u.out⟩
 obtain⟨c,a8,a5,rfl,hr,hb⟩:=hrel;clear d u;have O:=qh hr;clear hr;have HB:=qh hb;clear hb;by_cases a9:c<n
 ·have a3:(c:Int)<(n:Int):=by omega
  have a1:(0:Int)<=(c:Int):=by omega
  have a2:(c:Int)<=(n:Int):=by omega
  have A:(prog.info? 9).map (·.size)=some 1:=by kernel_rfl
  obtain⟨k,S⟩:=exq (Nat.min c (n-c));have Y:1<=k/\k<=c/\c+k<=n:=by rw[S];show 1<=min c (n-c)/\min c (n-c)<=c/\c+min c (n-c)<=n;omega
  have m:=run_copy_cells (P:=prog) wr.drew 79 79 3 9 g c (n-c) (n-c) ⟨g,0,none⟩ c n (List.replicate k (.string z)) underlying79 A (by rw[List.length_replicate];exact S)
   (fun j v B=>by
    have E:j<k:=by have:=(List.getElem?_eq_some_iff.1 B).1;simpa using this
    have e:=(List.getElem?_eq_some_iff.1 B).2;rw[List.getElem_replicate] at e;subst e;rw[Addr.add_lit,Nat.zero_add];have h2:=O.out.cell (i:=j) (by omega);rw[if_pos (by omega)] at h2;exact h2)
   (fun j E=>by rw[List.length_replicate] at E;rw[show wr.drew.cell? ⟨g,c+j,none⟩=_ from O.out.cell (i:=c+j) (by omega)];rfl) (fun j _=>O.out.frozen _) (fun v B=>by rw[List.eq_of_mem_replicate B];rfl)
  rw[List.length_replicate,show goInt k=Value.int .i64 (k:Int) from rfl] at m;have o:=z6x (z:=.string z) k c (show wr.drew.rowIs g 9 n _ from O.out);have D:=y1i (z:=.string z) k c HB.out.drew Q;have N:=qh m;clear m A;have p:=qh o;clear o;have G:=qh D;clear D;have HK:=qh S;clear S;have U:¬ n=c:=by omega
  have hw:IntKind.i64.wrap ((c:Int)+(k:Int))=(c:Int)+(k:Int):=by rw[IntKind.wrap_i64];omega
  go_wp2_with fail
  refine z0g (fun _=>True) 9 (by kernel_rfl) ?_;refine z0c.tm 0 trivial ?_;refine z0c.tm 1 trivial ?_;refine z0c.tm 2 trivial ?_;refine z0c.tm 3 trivial ?_;refine z0c.tm 4 trivial ?_;refine z0c.tm 5 trivial ?_;refine z0c.tm 6 trivial ?_
  try simp only[Act.put,tryL]
  refine z0c.on 7 fun K C=>?_;refine Lib.wp_copy_run _ (.tmp 41) (.tmp 44) 79 79 rfl _ _ (by simp[Act.eval,U]) (by simp[Act.eval]) N.out ?_;refine C.out _ _ (.inr trivial) ?_;clear C K;obtain⟨W2,J⟩:=exq (wr.drew.setCells g c (List.replicate k (.string z)));rw[<- J] at p G;rw[<- J];clear J N
  try simp only[Act.put,tryL]
  refine z0c.on 8 fun K C=>?_;go_simp;refine C.out _ _ (.inr trivial) ?_;clear C K
  try simp only[Act.put,tryL]
  refine z0c.on 9 fun K C=>?_;go_simp;refine C.out _ _ (.inl rfl) (z0c.dn ?_);clear C K hw;go_wp2;go_roundw
  case rel =>
   refine⟨c+k,by omega,Y.2.2,by go_num,p.out.congr (fun j E=>?_),G.out⟩;by_cases e:c<=j/\j<c+k
   ·rw[if_pos e,if_pos e.2]
   rw[if_neg e];by_cases e2:j<c
   ·rw[if_pos e2,if_pos (by omega)]
   rw[if_neg e2,if_neg (by omega)]
  simp[intOf];omega
 have F:c=n:=by omega
 have a6:¬ ((c:Int)<(n:Int)):=by omega
 have W:=qh F;clear F;go_wp2;go_ret;exact⟨HB.out,g,rfl,Q,O.out.congr (fun j E=>if_pos (by have:=W.out;omega))⟩
end
section
open Go.RowKit Go.Deep
theorem Fr.gbc {w d:World} {c:Nat} (h:Fr (fun q=>q=c) w d):w.grownBy d (some c):=(h.mono (C':=fun q=>some c=some q) (fun q _ e=>by rw[e])).gb
structure RsI (w wr:World) (cb vb lb:Nat) (D:MD) (sv stv:Value) (v:Nat->ByteArray) (s:WS):Prop where
 sc:Scl wr cb D sv stv s.2
 rl:wr.rowIs lb 9 D.n (fun j=>.string (s.1 j))
 rv:wr.rowIs vb 9 D.n (fun j=>.string (v j))
 fr:Fr (fun q=>q=cb) w wr
 lw:w.heap.size<=lb
 vl:vb≠lb
 vc:vb≠cb
 cl:cb≠lb
theorem RsI.stepped {w wr g:World} {d vb i:Nat} {D:MD} {sv c:Value} {v:Nat->ByteArray} {s:WS} (h:RsI w wr d vb i D sv c v s) {e':Nat} (hf:Fr (fun q=>q=d) wr g) (j:Scl g d D sv c e'):RsI w g d vb i D sv c v (s.1,e') :=
 ⟨j,hf.row h.rl (fun e=>h.cl e.symm),hf.row h.rv h.vc,h.fr.trans hf,h.lw,h.vl,h.vc,h.cl⟩
theorem RsI.put {w g:World} {i vb c:Nat} {D:MD} {sv d:Value} {v:Nat->ByteArray} {s:WS} (h:RsI w g i vb c D sv d v s) (p:Nat) (x:ByteArray):RsI w (g.setCell ⟨c,p,none⟩ (.string x)) i vb c D sv d v (updS s.1 p x,s.2):=by
 have hf:Fr (fun q=>q=c) g (g.setCell ⟨c,p,none⟩ (.string x)):=(Fr.refl (fun q=>q=c) _).set (p:=⟨c,p,none⟩) (.inl rfl) _;refine⟨h.sc.kept hf h.cl,(h.rl.set p (.string x)).congr (fun j _=>?_),hf.row h.rv h.vl,h.fr.set (p:=⟨c,p,none⟩) (.inr h.lw) _,h.lw,h.vl,h.vc,h.cl⟩;show _=Value.string (updS s.1 p x j);unfold updS;by_cases e:j=p
 ·rw[if_pos e,if_pos e]
 rw[if_neg e,if_neg e]
theorem x9u {l rb:Nat} {D:MD} {a:Option Addr} {cap:Nat} {J:Value} {st:StarO} {v:Nat->ByteArray} {e:Nat} (w:World) (hV:VM D) (hs:Scl w l D (.slice a D.n cap) J e) (f0:StV w J D.n st) (hv:w.rowIs rb 9 D.n (fun q=>.string (v q))) (b9:∀ q,smS (v q)) (w0:World) (b8:Below w0.heap.size w0 w) (c8:w0.heap.size<=l) (ht:Tab w0) :
  Calls prog 83 #[.pointer (some ⟨l,0,none⟩),.slice (some ⟨rb,0,none⟩) D.n D.n] w (RstE l rb D (.slice a D.n cap) J st v e w):=by
 have k4:=hs.c4;have k5:=hs.c5;have HS:=qh hs;clear hs;have HV:=qh hv;clear hv;cases st with
 | none =>
  have f2:J=.slice none 0 0:=f0;subst f2;have hq:=fun w=>y1n 75 79 underlying75 w none 0 0;rw[show (none:Option Addr).isNone=true from rfl] at hq
  go_enter func83,ntmps83
  go_wp2;go_ret;exact⟨rb,rfl,HV.out,HS.out,.inl rfl,Fr.refl _ _⟩
 | some S =>
  obtain⟨a8,d7⟩:=f0;obtain⟨sa,sc,sb,so,A,C,B,O,rfl,ha,_,_,_,_⟩:=a8.open;have g6:=hV.n1;have g0:=hV.n2;obtain rfl:=ha (by omega);clear ha;have hq:=fun w=>y1n 75 79 underlying75 w (some ⟨sb,so,none⟩) D.n sc;rw[show (some (⟨sb,so,none⟩:Addr)).isNone=false from rfl] at hq;by_cases he:e=0
  rotate_left
  ·have i4:¬ ((e:Int)=0):=by omega
   have u:z5r D.kind D.n (some S) v e=(v,e):=if_pos he;have H:=qh u;clear u
   go_enter func83,ntmps83
   go_wp2;go_ret;exact⟨rb,rfl,by rw[H.out];exact HV.out,by rw[H.out];exact HS.out,.inl rfl,Fr.refl _ _⟩
  subst he;obtain⟨kz,d8⟩:=exq (z1h D.kind);have u:z5r D.kind D.n (some S) v 0=rstQ D.kind S v D.n D.n (z1d,0):=by show (if (0:Nat)≠0 then (v,0) else rstQ D.kind S v D.n D.n (z1d,0))=_;rw[if_neg (by decide)]
  have H:=qh u;clear u;have e2:=qh d8;clear d8;have b7:=qh (y0f w HS.out g6 g0);have f4:=qh a8;clear a8;have g1:=qh d7;clear d7;have a7:=qh b9;clear b9;have h0:=qh ht;clear ht;have d9:=qh b8;clear b8;have g8:=qh c8;clear c8;have h9:=qh hV;clear hV
  go_enter func83,ntmps83
  go_wp2_with fail
  refine b7.out.mono ?_;rintro r w1 ⟨rfl,a9,N,f7⟩;obtain⟨o,a6⟩:=exq (w.heap.size);rw[<- a6] at a9;rw[<- a6];have W:Fr (fun q=>q=l) w w1:=N.mono (fun _ _ e=>e.elim);have d:=qh (show RsI w w1 l rb o D (.slice a D.n cap) (.slice (some ⟨sb,so,none⟩) D.n sc) v (z1d,0) from
   ⟨HS.out.kept N (fun e=>e),a9,N.row HV.out (fun e=>e),W,by omega,by have:=HV.out.lt;omega,z0h HV.out (show w.heap[l]?=_ from HS.out) (by decide),by have:=HS.out.lt;omega⟩)
  have g5:w.heap.size<=o:=by omega
  clear a9 N W f7 a6 b7 k4 k5 hq
  go_wp2_with fail
  go_loopw [27] (fun a5 wr=>∃ q:Nat,q<=D.n/\a5=.int .i64 (q:Int)/\RsI w wr l rb o D (.slice a D.n cap) (.slice (some ⟨sb,so,none⟩) D.n sc) v (rstQ D.kind S v D.n q (z1d,0))) (fun a5 _=>D.n-(intOf a5).toNat)
  case atStart=>exact⟨0,Nat.zero_le _,rfl,d.out⟩
  obtain⟨q,hq,rfl,hi⟩:=hrel;clear d;have d:=qh hi;clear hi;by_cases b1:q<D.n
  ·have h8:(q:Int)<(D.n:Int):=by omega
   have h4:(0:Int)<=(q:Int):=by omega
   have cv:=d.out.rv.cell b1;obtain⟨g,I⟩:=exq (v q);have a4:smS g:=by rw[I];exact a7.out q
   rw[<- I] at cv;obtain⟨s0,R⟩:=exq (rstQ D.kind S v D.n q (z1d,0));have Y:∀ j,smS (s0.1 j):=by rw[R];exact x1k a7.out q z8f
   have e6:rstQ D.kind S v D.n (q+1) (z1d,0)=rstP D.kind S v q D.n s0:=by rw[R];rfl
   rw[<- R] at d;have g2:=qh e6;clear e6 R;have d5:=qh Y;clear Y;have f9:=qh I;clear I;have X:=qh a4;clear a4
   go_wp2_with fail
   clear cv
   go_loopw [34] (fun b2 wr=>∃ p:Nat,p<=D.n/\b2=.int .i64 (p:Int)/\RsI w wr l rb o D (.slice a D.n cap) (.slice (some ⟨sb,so,none⟩) D.n sc) v (rstP D.kind S v q p s0)) (fun b2 _=>D.n-(intOf b2).toNat)
   case atStart=>exact⟨0,Nat.zero_le _,rfl,d.out⟩
   obtain⟨p,hp,rfl,hi⟩:=hrel;clear d;obtain⟨s1,k⟩:=exq (rstP D.kind S v q p s0);rw[<- k] at hi;have U:∀ j,smS (s1.1 j):=by rw[k];exact x2k (a7.out q) p d5.out
   have c7:=qh U;clear U;by_cases s:p<D.n
   ·have h6:(p:Int)<(D.n:Int):=by omega
    have h3:(0:Int)<=(p:Int):=by omega
    obtain⟨h7,i2,h5,i3,A,C,B,O,f5,g9,_,_,_,a1⟩:=(f4.out.later HS.out hi.sc hi.fr.gbc (.inl rfl) (fun i _=>by omega)).open;have f8:=g9 (by omega);cases f5;cases f8;obtain⟨t0,t1,t2,t3,t4,t5,t6⟩:=a1 q b1;have t7:=t6 p s;clear a1;obtain E:=t3 (by omega);rw[E] at t0;clear t1 t2 t3 t4 t5 t6 E;have c1:=hi.sc.c4;have c0:=hi.sc.c0;obtain⟨x,hx⟩:=exq (S q p);rw[<- hx] at t7;have d2:smS x:=by rw[hx];exact g1.out q p b1 s
    have g3:=qh d2;clear d2;have G:rstP D.kind S v q (p+1) s0=if g=⟨#[]⟩\/x=kz then s1 else (updS s1.1 p (z2e D.kind (s1.1 p) (z0t D.kind g x s1.2).1 (z0t D.kind g x s1.2).2).1,(z2e D.kind (s1.1 p) (z0t D.kind g x s1.2).1 (z0t D.kind g x s1.2).2).2):=by
     rw[k,hx,f9.out,e2.out];rfl
    have m:=qh G;clear G k hx;have d:=qh hi;clear hi;cases hO:(g.toList==[])
    ·have b4:g≠⟨#[]⟩:=fun e=>by rw[e] at hO;simp at hO
     have b0:=z4u D.kind wr;rw[<- e2.out] at b0;have e4:=qh b0;clear b0
     go_wp2_with fail
     refine e4.out.mono ?_;rintro r w2 ⟨rfl,b5⟩;have e8:Fr (fun q=>q=l) wr w2:=Fr.of_below b5;have Q:=qh (d.out.stepped e8 (by unfold Scl;rw[b5.block l d.out.sc.lt];exact d.out.sc));clear t0 t7 c0 c1 d e8 b5 e4;cases hX:(x.toList==kz.toList)
     ·have d6:¬ (g=⟨#[]⟩\/x=kz):=fun h=>h.elim b4 (fun e=>by rw[e] at hX;simp at hX);have HN:=qh (m.out.trans (if_neg d6));clear d6 b4 m;obtain⟨wd,P⟩:=exq (w2.drew);have f1:Fr (fun q=>q=l) w2 wd:=by rw[P];exact(Fr.refl _ _).drew
      have F:=qh (Q.out.stepped f1 (by rw[P];exact Q.out.sc));clear f1 Q;have c:wd.cell? ⟨o,p,none⟩=some (.string (s1.1 p)):=F.out.rl.cell s;have a3:∀ wz,Fr (fun q=>q=l) w wz->Tab wz:=fun wz hf=>h0.out.below (d9.out.trans (hf.below d9.out.size (fun q e=>by rw[e];exact g8.out))) nlr;have Z:=qh a3;clear a3;have e0:=qh (y1x g x wd F.out.sc X.out g3.out (Z.out _ F.out.fr));have a2:smS (z0t D.kind g x s1.2).1:=z6s X.out;have e5:=qh a2;clear a2
      go_wp2_with fail
      refine z0g (fun wk=>wk.cell? ⟨o,p,none⟩=some (.string (s1.1 p))) 13 (by kernel_rfl) ?_;rw[<- P];clear P;refine z0c.tm 0 c ?_;refine z0c.tm 1 c ?_;refine z0c.tm 2 c ?_;refine z0c.tm 3 c ?_;refine z0c.tm 4 c ?_;refine z0c.tm 5 c ?_;refine z0c.tm 6 c ?_;refine z0c.tm 7 c ?_;refine z0c.tm 8 c ?_;refine z0c.tm 9 c ?_
      try simp only[Act.put,tryL]
      refine z0c.on 10 fun K T=>?_;go_simp;refine e0.out.mono ?_;rintro r w3 ⟨rfl,e1,b6⟩;have z:=qh (F.out.stepped b6 e1);have e7:w3.cell? ⟨o,p,none⟩=some (.string (s1.1 p)):=z.out.rl.cell s;have c9:=qh (z9y (s1.1 p) (z0t D.kind g x s1.2).1 w3 z.out.sc (c7.out p) e5.out (Z.out _ z.out.fr));refine T.out _ _ (.inr e7) ?_;clear T K c e0 F e1 b6
      try simp only[Act.put,tryL]
      refine z0c.on 11 fun K T=>?_;go_simp;refine c9.out.mono ?_;rintro r w4 ⟨rfl,e3,d4⟩;have L:=qh (z.out.stepped d4 e3);have b3:w4.cell? ⟨o,p,none⟩=some (.string (s1.1 p)):=L.out.rl.cell s;have fz:=L.out.rl.frozen p;refine T.out _ _ (.inr b3) ?_;clear T K e7 c9 z e3 d4
      try simp only[Act.put,tryL]
      refine z0c.tm 12 b3 ?_
      try simp only[Act.put,tryL]
      refine z0c.on 13 fun K T=>?_;go_simp;refine T.out _ _ (.inl rfl) (z0c.dn ?_);clear T K b3;have g4:=qh (L.out.put p (z2e D.kind (s1.1 p) (z0t D.kind g x s1.2).1 (z0t D.kind g x s1.2).2).1);clear L fz;go_wp2;go_roundw
      case rel=>exact⟨p+1,by omega,by go_num,by rw[HN.out];exact g4.out⟩
      simp[intOf];omega
     have d1:x=kz:=toList_eq hX;have HN:=qh (m.out.trans (if_pos (.inr d1)));clear d1 b4 m;go_wp2;go_roundw
     case rel=>exact⟨p+1,by omega,by go_num,by rw[HN.out];exact Q.out⟩
     simp[intOf];omega
    have d0:g=⟨#[]⟩:=z7g hO;have HN:=qh (m.out.trans (if_pos (.inl d0)));clear d0 m;go_wp2;go_roundw
    case rel=>exact⟨p+1,by omega,by go_num,by rw[HN.out];exact d.out⟩
    simp[intOf];omega
   have d3:p=D.n:=by omega
   have f3:¬ ((p:Int)<(D.n:Int)):=by omega
   rw[d3] at k;have HN:=qh (g2.out.trans k.symm);clear k d3;have d:=qh hi;clear hi;go_wp2;go_roundw
   case rel=>exact⟨q+1,by omega,by go_num,by rw[HN.out];exact d.out⟩
   simp[intOf];omega
  have e9:q=D.n:=by omega
  have f3:¬ ((q:Int)<(D.n:Int)):=by omega
  have g7:=qh e9;clear e9;go_wp2;go_ret;have h1:=d.out.rl;have h2:=d.out.sc;rw[g7.out] at h1 h2;exact⟨o,rfl,by rw[H.out];exact h1,by rw[H.out];exact h2,.inr g5,d.out.fr⟩
end
section
open Go.RowKit Go.Deep
def OpnG (D:MD) (sel:Int->Int->Bool) (sv:Value) (w:World) (r:Ending) (w':World):Prop :=
 Below w.heap.size w w'/\∃ cb stv st e,r=.returned (.pointer (some ⟨cb,0,none⟩))/\w.heap.size<=cb/\Scl w' cb D sv stv e/\StV w' stv D.n st/\SilOk D sel st e
structure RwI (w wr:World) (cb gR:Nat) (D:MD) (sel:Int->Int->Bool) (sv:Value) (rb:Nat->Nat) (q:Nat):Prop where
 hb:Below w.heap.size w wr
 sc:Scl wr cb D sv (.slice none 0 0) (serr D sel q)
 own:wr.ownsRow w.heap.size 79 1 (.slice (some ⟨gR,0,none⟩) q 60) q ((List.range q).map fun i=>.slice (some ⟨rb i,0,none⟩) D.n D.n)
 rows:∀ i,i<q->wr.rowIs (rb i) 9 D.n (fun j=>.string (smat D sel i j))
theorem z9u {w:World} {B g n cap:Nat} {e:TypeId} {l:List Value} (h:w.ownsRow B e 1 (.slice (some ⟨g,0,none⟩) n cap) n l):∃ cs,w.heap[g]?=some (.cells cs e (0,0)):=by
 rcases h.2 with ⟨c,_⟩|⟨m,i,d,c,hb,j,k,s,p,o⟩
 ·cases c
 cases c;exact⟨d,j⟩
structure RoI (w wr:World) (cb gR lb:Nat) (D:MD) (sel:Int->Int->Bool) (sv:Value) (rb:Nat->Nat) (q:Nat) (s:WS):Prop where
 hb:Below w.heap.size w wr
 sc:Scl wr cb D sv (.slice none 0 0) s.2
 own:wr.ownsRow w.heap.size 79 1 (.slice (some ⟨gR,0,none⟩) q 60) q ((List.range q).map fun i=>.slice (some ⟨rb i,0,none⟩) D.n D.n)
 rows:∀ i,i<q->wr.rowIs (rb i) 9 D.n (fun j=>.string (smat D sel i j))
 rl:wr.rowIs lb 9 D.n (fun j=>.string (s.1 j))
 ne:∀ i,i<q->rb i≠lb
 lc:w.heap.size<=cb
 ll:w.heap.size<=lb
theorem RwI.keep {w wr d:World} {c g:Nat} {D:MD} {sel:Int->Int->Bool} {sv:Value} {rb:Nat->Nat} {q:Nat} (h:RwI w wr c g D sel sv rb q) (hf:Fr (fun _=>False) wr d):RwI w d c g D sel sv rb q :=
 ⟨h.hb.trans (hf.below h.hb.size (fun _ e=>e.elim)),h.sc.kept hf (fun e=>e),World.ownsRow.kept h.own ⟨hf.os,hf.tape,hf.output,hf.size,fun q j _=>hf.block q j (fun e=>e)⟩ (row:=none) (.inr (by simp[Value.ownBlock])),fun i hi=>hf.row (h.rows i hi) (fun e=>e)⟩
theorem RwI.row {w wr k:World} {d l g:Nat} {D:MD} {sel:Int->Int->Bool} {sv:Value} {rb:Nat->Nat} {q:Nat} (h:RwI w wr d l D sel sv rb q) (hf:Fr (fun _=>False) wr k) (o:w.heap.size<=d) (p:wr.heap.size<=g) (m:k.rowIs g 9 D.n (fun j=>.string (zrC D.kind j))):RoI w k d l g D sel sv rb q (zrC D.kind,serr D sel q):=by
 have c:=h.keep hf;exact⟨c.hb,c.sc,c.own,c.rows,m,fun i hi e=>by have:=(h.rows i hi).lt;omega,o,by have:=h.hb.size;omega⟩
theorem RoI.keep {w wr g:World} {c j d:Nat} {D:MD} {sel:Int->Int->Bool} {sv:Value} {rb:Nat->Nat} {q:Nat} {s:WS} (h:RoI w wr c j d D sel sv rb q s) (hf:Fr (fun _=>False) wr g):RoI w g c j d D sel sv rb q s :=
 ⟨h.hb.trans (hf.below h.hb.size (fun _ e=>e.elim)),h.sc.kept hf (fun e=>e),World.ownsRow.kept h.own ⟨hf.os,hf.tape,hf.output,hf.size,fun q k _=>hf.block q k (fun e=>e)⟩ (row:=none) (.inr (by simp[Value.ownBlock])),fun i hi=>hf.row (h.rows i hi) (fun e=>e),hf.row h.rl (fun e=>e),h.ne,h.lc,h.ll⟩
theorem RoI.gne {w wr:World} {d c g:Nat} {D:MD} {sel:Int->Int->Bool} {sv:Value} {rb:Nat->Nat} {q:Nat} {s:WS} (h:RoI w wr d c g D sel sv rb q s):c≠d/\c≠g:=by
 obtain⟨j,i⟩:=z9u h.own;refine⟨fun e=>?_,fun e=>?_⟩
 ·have:=h.sc;unfold Scl at this;rw[<- e,i] at this;simp at this
 exact z0h h.rl i (by decide) e.symm
theorem RoI.stepped {w wr g:World} {c k j e':Nat} {D:MD} {sel:Int->Int->Bool} {sv:Value} {rb:Nat->Nat} {q:Nat} {s:WS} (h:RoI w wr c k j D sel sv rb q s) (hf:Fr (fun q=>q=c) wr g) (m:Scl g c D sv (.slice none 0 0) e'):RoI w g c k j D sel sv rb q (s.1,e') :=
 ⟨h.hb.trans (hf.below h.hb.size (fun q e=>by rw[e];exact h.lc)),m,World.ownsRow.kept h.own ⟨hf.os,hf.tape,hf.output,hf.size,fun q l d=>hf.block q l (fun e=>d (by rw[e]))⟩ (row:=some c) (.inr (by simp[Value.ownBlock];exact h.gne.1)),fun i hi=>hf.row (h.rows i hi) (z0h (h.rows i hi) (show wr.heap[c]?=_ from h.sc) (by decide)),hf.row h.rl (z0h h.rl (show wr.heap[c]?=_ from h.sc) (by decide)),h.ne,h.lc,h.ll⟩
theorem RoI.put {w wr:World} {d k c:Nat} {D:MD} {sel:Int->Int->Bool} {sv:Value} {rb:Nat->Nat} {q:Nat} {s:WS} (h:RoI w wr d k c D sel sv rb q s) (p:Nat) (x:ByteArray):RoI w (wr.setCell ⟨c,p,none⟩ (.string x)) d k c D sel sv rb q (updS s.1 p x,s.2):=by
 have hf:Fr (fun q=>q=c) wr (wr.setCell ⟨c,p,none⟩ (.string x)):=(Fr.refl (fun q=>q=c) _).set (p:=⟨c,p,none⟩) (.inl rfl) _;refine⟨h.hb.trans (hf.below h.hb.size (fun q e=>by rw[e];exact h.ll)),h.sc.kept hf (z0h h.rl (show wr.heap[d]?=_ from h.sc) (by decide)).symm,World.ownsRow.kept h.own ⟨hf.os,hf.tape,hf.output,hf.size,fun q l g=>hf.block q l (fun e=>g (by rw[e]))⟩ (row:=some c) (.inr (by simp[Value.ownBlock];exact h.gne.2)),fun i hi=>hf.row (h.rows i hi) (h.ne i hi),(h.rl.set p (.string x)).congr (fun j _=>?_),h.ne,h.lc,h.ll⟩;show _=Value.string (updS s.1 p x j);unfold updS;by_cases e:j=p
 ·rw[if_pos e,if_pos e]
 rw[if_neg e,if_neg e]
theorem RoI.done {w wr l:World} {m k c q:Nat} {D:MD} {sel:Int->Int->Bool} {sv:Value} {rb:Nat->Nat} (h:RoI w wr m k c D sel sv rb q (srow D sel q (serr D sel q))) (g:l.ownsRow w.heap.size 79 1 (.slice (some ⟨k,0,none⟩) (q+1) 60) (q+1) (((List.range q).map fun i=>.slice (some ⟨rb i,0,none⟩) D.n D.n)++[.slice (some ⟨c,0,none⟩) D.n D.n])) (o:wr.grownBy l (some k)) :
  RwI w l m k D sel sv (fun i=>if i=q then c else rb i) (q+1):=by
 have d:=h.gne;obtain⟨F,z⟩:=z9u h.own;have p:w.heap.size<=k:=by
  rcases h.own.2 with ⟨s,_⟩|⟨E,A,B,s,hb,_⟩
  ·cases s
  cases s;exact hb
 refine⟨h.hb.grown o (by have:=h.hb.size;omega) (fun j C=>by cases C;exact p),?_,?_,fun i hi=>?_⟩
 ·show Scl l m D sv _ (srow D sel q (serr D sel q)).2;have:=h.sc;unfold Scl at this ⊢;rw[o.block m h.sc.lt (by simp;exact fun e=>d.1 e.symm)];exact this
 ·have e:((List.range (q+1)).map fun i=>Value.slice (some ⟨if i=q then c else rb i,0,none⟩) D.n D.n)=((List.range q).map fun i=>.slice (some ⟨rb i,0,none⟩) D.n D.n)++[.slice (some ⟨c,0,none⟩) D.n D.n]:=by
   rw[List.range_succ,List.map_append]
   congr 1
   ·exact List.map_congr_left fun i hi=>by rw[if_neg (by have:=List.mem_range.1 hi;omega)]
   simp
  rw[e];exact g
 by_cases e:i=q
 ·subst e;simp only[if_pos];exact h.rl.of_block (o.block c h.rl.lt (by simp;exact fun e=>d.2 e.symm))
 simp only[if_neg e];have u:=h.rows i (by omega);exact u.of_block (o.block (rb i) u.lt (by simp;exact z0h u z (by decide)))
theorem RwI.mt {w wr:World} {p c:Nat} {D:MD} {sel:Int->Int->Bool} {sv:Value} {rb:Nat->Nat} (h:RwI w wr p c D sel sv rb D.n) (hn:D.n<=60):Mt none wr (.slice (some ⟨c,0,none⟩) D.n 60) D.n (fun _=>D.n) (smat D sel):=by
 refine⟨fun i=>.slice (some ⟨rb i,0,none⟩) D.n D.n,?_,fun i hi=>?_⟩
 ·rcases h.own.2 with ⟨d,_⟩|⟨C,k,m,d,hb,u,B,o,A,z⟩
  ·cases d
  cases d;refine .inr ⟨c,0,60,rfl,⟨(Array.getElem?_eq_some_iff.1 u).1,by simp⟩,hn,o,fun i hi=>?_⟩;have:=World.ownsRow.cells h.own (g:=c) rfl i (.slice (some ⟨rb i,0,none⟩) D.n D.n) (by simp[hi]);rw[Addr.add_lit] at this;exact this
 have l:=h.rows i hi;exact .inr ⟨rb i,0,D.n,rfl,⟨l.lt,by simp⟩,nlr,by unfold maxLen;omega,fun j s=>by rw[Nat.zero_add];exact l.cell s⟩
theorem v2e {D:MD} {sv:Value} {nf:FuncId} {sel:Int->Int->Bool} (w:World) (hv:VM D) (hD:StS none w sv D) (r4:∀ i k,smS (D.aw i k)) (ht:Tab w) (o8:TstA nf #[] sel (fun _=>True)) :
  Calls prog 78 #[.agg #[.int .i64 D.kind,.int .i64 D.start,.string D.lead,sv],.func (.func nf) #[] #[]] w (OpnG D sel sv w):=by
 obtain⟨a,m,b,c,A,C,BB,O,rfl,ha,hc,hm,hb,a3⟩:=hD.open;unfold maxLen at hm;obtain⟨A0,r6⟩:=o8;obtain⟨n,hn⟩:=exq (D.n);have x7:n<=3000:=by rw[hn];exact hv.n2
 have z3:1<=n:=by rw[hn];exact hv.n1
 rw[<- hn] at ha hc hb a3 ⊢;have z4:∀ w,(Instr.makeSlice 75 (.int .i64 0) (.int .i64 60)).run prog w=.ok (.slice (some ⟨w.heap.size,0,none⟩) 0 60) (w.alloc (.cells (madeCells #[.slice none 0 0] 60) 79)):=fun _=>by kernel_rfl
 have HN:=qh hn;clear hn;have HV:=qh hv;clear hv;have HA:=qh ha;clear ha;have HB:=qh hb;clear hb;have HR:=qh a3;clear a3 hD;have n5:=qh r4;clear r4;have r8:=qh ht;clear ht;have o4:=qh r6;clear r6;obtain rfl:=HA.out (by omega);obtain⟨w1,e1⟩:=exq (w.alloc (.cells #[.int .i64 D.kind,.int .i64 D.start,.string D.lead,.slice (some ⟨b,c,none⟩) n m] 24));obtain⟨U,c8⟩:=exq (w1.alloc (.cells #[.int .i64 D.kind,.int .i64 D.start,.string D.lead,.slice (some ⟨b,c,none⟩) n m,.slice none 0 0,.int .i64 0] 105));obtain⟨w3,N⟩:=exq (U.alloc (.cells (madeCells #[.slice none 0 0] 60) 79));have e6:w1.heap.size=w.heap.size+1:=by rw[e1];simp
 have n6:U.heap.size=w.heap.size+1+1:=by rw[c8];simp[e6]
 have s3:Below w.heap.size w w1:=by rw[e1];exact blr.alloc nlr _
 have a1:Below w.heap.size w U:=by rw[c8];exact s3.alloc (by omega) _
 have t9:Below w.heap.size w w3:=by rw[N];exact a1.alloc (by omega) _
 have n3:Scl U w1.heap.size D (.slice (some ⟨b,c,none⟩) n m) (.slice none 0 0) 0:=by rw[c8];exact heap_alloc_new w1 _
 have m7:Scl w3 w1.heap.size D (.slice (some ⟨b,c,none⟩) n m) (.slice none 0 0) 0:=by rw[N];unfold Scl;rw[blk_alloc_lt _ _ _ n3.lt];exact n3
 have h8:BoxM w1 w.heap.size D (.slice (some ⟨b,c,none⟩) n m):=by rw[e1];exact BoxM.new w D _
 have J:BoxM w3 w.heap.size D (.slice (some ⟨b,c,none⟩) n m):=by
  rw[N,c8];exact(h8.kept (World.grownBy_alloc w1 _ none) (by simp)).kept (World.grownBy_alloc _ _ none) (by simp)
 have e5:w3.ownsRow w.heap.size 79 1 (.slice (some ⟨U.heap.size,0,none⟩) 0 60) 0 ((List.range 0).map fun i=>.slice (some ⟨(fun _=>0) i,0,none⟩) D.n D.n):=by
  refine⟨rfl,.inr ⟨U.heap.size,60,madeCells #[.slice none 0 0] 60,rfl,by omega,by rw[N];exact heap_alloc_new U _,by omega,by unfold maxLen;omega,by simp[madeCells],by simp⟩⟩
 rw[n6] at e5;rw[e6] at m7;have m3:=J.c3;rw[N,c8,e1] at m3;have m5:=qh m7;clear m7 n3;have s6:=qh t9;clear t9 a1 s3;have Q:=qh J;clear J h8;have e8:=qh e5;clear e5;clear e6 n6
 go_enter func78,ntmps78
 go_wp2_with fail
 rw[<- e1,<- c8,<- N];obtain⟨B,m8⟩:=exq (w.heap.size);obtain⟨s,l2⟩:=exq (w.heap.size+1);obtain⟨gR,j5⟩:=exq (w.heap.size+1+1);have a7:=qh (show w.heap.size<=s by omega);have y8:=qh (show B≠s by omega);rw[<- l2] at m5;rw[<- j5] at e8;rw[<- m8] at Q;rw[<- j5,<- l2,<- m8];clear e1 c8 N m3 z4 l2 j5 m8
 go_loopw [7,24] (fun y i wr=>∃ (q:Nat) (bb:Bool),q<=n/\i=.int .i64 (q:Int)/\y=.bool bb/\(bb=false->∀ q' d,q' < q->d<D.na q'->sel (D.ain q' d) (D.aout q' d)=false)/\(bb=true->¬ NoSel D sel)/\Scl wr s D (.slice (some ⟨b,c,none⟩) n m) (.slice none 0 0) 0/\Below w.heap.size w wr/\BoxM wr B D (.slice (some ⟨b,c,none⟩) n m)/\wr.ownsRow w.heap.size 79 1 (.slice (some ⟨gR,0,none⟩) 0 60) 0 ((List.range 0).map fun i=>.slice (some ⟨(fun _=>0) i,0,none⟩) D.n D.n)) (fun _ i _=>n-(intOf i).toNat)
 case atStart=>exact⟨0,false,Nat.zero_le _,rfl,rfl,fun _ q' d h=>(by omega),fun h=>(by cases h),m5.out,s6.out,Q.out,e8.out⟩
 obtain⟨q,bb,hq,rfl,rfl,f1,g3,u2,p7,b6,r0⟩:=hrel;clear m5 s6 Q e8;have b7:=qh u2;clear u2;have W:=qh p7;clear p7;have o:=qh b6;clear b6;have g9:=qh r0;clear r0;have b0:=qh f1;clear f1;have c9:=qh g3;clear g3;by_cases m9:q<n
 ·have y6:(q:Int)<(n:Int):=by omega
  have p6:(0:Int)<=(q:Int):=by omega
  have f9:=(HB.out (by omega)).1;obtain⟨k1,k2,k3,k4,k5,k6,k7⟩:=HR.out q m9;obtain⟨aq,e4⟩:=exq (A q);rw[<- e4] at k2 k5;clear e4;have c0:=(W.out.cell (p:=⟨b,c+q*2,none⟩) f9).trans k1;have c1:=(W.out.cell (p:=⟨b,c+q*2+1,none⟩) f9).trans k2;clear k1 k2;unfold maxLen at k4;have u3:D.na q<=30000:=by have E:=Nat.le_trans (z1u D (show q+1<=D.n by have:=HN.out;omega)) HV.out.arcs;have h2:z0f D (q+1)=z0f D q+D.na q:=rfl;omega
  have l6:=qh k7;clear k7;have i9:=qh k5;clear k5;have l1:=qh k6;clear k6;obtain⟨wa,G⟩:=exq (wr.alloc (.cells #[.string (D.fin q),.slice aq (D.na q) (C q)] 57));have g:Fr (fun _=>False) wr wa:=by rw[G];exact Fr.alloc _ _
  have F:=qh (show Scl wa s D (.slice (some ⟨b,c,none⟩) n m) (.slice none 0 0) 0/\Below w.heap.size w wa/\BoxM wa B D (.slice (some ⟨b,c,none⟩) n m)/\wa.ownsRow w.heap.size 79 1 (.slice (some ⟨gR,0,none⟩) 0 60) 0 ((List.range 0).map fun i=>.slice (some ⟨(fun _=>0) i,0,none⟩) D.n D.n) from
   ⟨b7.out.kept g (fun e=>e),W.out.trans (g.below W.out.size (fun _ e=>e.elim)),(g.block _ o.out.lt (fun e=>e)).trans o.out,World.ownsRow.kept g9.out ⟨g.os,g.tape,g.output,g.size,fun q hq _=>g.block q hq (fun e=>e)⟩ (row:=none) (.inr (by simp[Value.ownBlock]))⟩)
  clear g
  go_wp2_with fail
  rw[<- G];clear c0 c1 G b7 W o g9
  go_loopw [7,31] (fun y i wr=>∃ (d:Nat) (bb:Bool),d<=D.na q/\i=.int .i64 (d:Int)/\y=.bool bb/\(bb=false->(∀ q' d,q' < q->d<D.na q'->sel (D.ain q' d) (D.aout q' d)=false)/\∀ d',d' < d->sel (D.ain q d') (D.aout q d')=false)/\(bb=true->¬ NoSel D sel)/\Scl wr s D (.slice (some ⟨b,c,none⟩) n m) (.slice none 0 0) 0/\Below w.heap.size w wr/\BoxM wr B D (.slice (some ⟨b,c,none⟩) n m)/\wr.ownsRow w.heap.size 79 1 (.slice (some ⟨gR,0,none⟩) 0 60) 0 ((List.range 0).map fun i=>.slice (some ⟨(fun _=>0) i,0,none⟩) D.n D.n)) (fun _ i _=>D.na q-(intOf i).toNat)
  case atStart=>exact⟨0,bb,Nat.zero_le _,rfl,rfl,fun h=>⟨b0.out h,fun d' h=>by omega⟩,c9.out,F.out⟩
  obtain⟨d,b2,hd,rfl,rfl,f1,g3,q7⟩:=hrel;clear F b0 c9;have b0:=qh f1;clear f1;have c9:=qh g3;clear g3;have F:=qh q7;clear q7;by_cases f3:d<D.na q
  ·have x8:(d:Int)<(D.na q:Int):=by omega
   have u4:(0:Int)<=(d:Int):=by omega
   have a8:=(l1.out (by omega)).1;obtain⟨t0,t1,t2,t3⟩:=l6.out d f3;obtain rfl:=i9.out (by omega);have c0:=(F.out.2.1.cell (p:=⟨BB q,O q+d*4,none⟩) a8).trans t0;have c1:=(F.out.2.1.cell (p:=⟨BB q,O q+d*4+1,none⟩) a8).trans t1;have c2:=(F.out.2.1.cell (p:=⟨BB q,O q+d*4+2,none⟩) a8).trans t2;have c3:=(F.out.2.1.cell (p:=⟨BB q,O q+d*4+3,none⟩) a8).trans t3;clear t0 t1 t2 t3;obtain⟨wa,G⟩:=exq (wr.alloc (.cells #[.int .i64 (D.ain q d),.int .i64 (D.aout q d),.string (D.aw q d),.int .i64 (D.ato q d)] 59));have g:Fr (fun _=>False) wr wa:=by rw[G];exact Fr.alloc _ _
   have t8:∀ wz,Fr (fun _=>False) wr wz->Scl wz s D (.slice (some ⟨b,c,none⟩) n m) (.slice none 0 0) 0/\Below w.heap.size w wz/\BoxM wz B D (.slice (some ⟨b,c,none⟩) n m)/\wz.ownsRow w.heap.size 79 1 (.slice (some ⟨gR,0,none⟩) 0 60) 0 ((List.range 0).map fun i=>.slice (some ⟨(fun _=>0) i,0,none⟩) D.n D.n):=fun wz g =>
    ⟨F.out.1.kept g (fun e=>e),F.out.2.1.trans (g.below F.out.2.1.size (fun _ e=>e.elim)),(g.block _ F.out.2.2.1.lt (fun e=>e)).trans F.out.2.2.1,World.ownsRow.kept F.out.2.2.2 ⟨g.os,g.tape,g.output,g.size,fun q hq _=>g.block q hq (fun e=>e)⟩ (row:=none) (.inr (by simp[Value.ownBlock]))⟩
   have l8:=qh t8;clear t8;have j4:=qh g;clear g;cases b2 with
   | true =>
    go_wp2_with fail
    rw[<- G];clear G c0 c1 c2 c3;go_roundw
    case rel=>exact⟨d+1,true,by omega,by go_num,rfl,fun h=>by (first|cases h),c9.out,l8.out _ j4.out⟩
    simp[intOf];omega
   | false =>
    have I:=o4.out wa trivial (D.ain q d) (D.aout q d) (D.aw q d) (D.ato q d);obtain⟨sb,l3⟩:=exq (sel (D.ain q d) (D.aout q d));rw[<- l3] at I;have r7:=qh l3;clear l3;have HC:=qh I;clear I
    go_wp2_with fail
    rw[<- G];clear G c0 c1 c2 c3;refine HC.out.mono ?_;rintro r U ⟨rfl,a1⟩;have HX:=qh (l8.out U (j4.out.trans (Fr.of_below a1)));clear a1 HC l8 j4 F;go_wp2;go_roundw
    case rel =>
     refine⟨d+1,sb,by omega,by go_num,rfl,fun h=>⟨(b0.out (by first|rfl|trivial)).1,fun d' A4=>?_⟩,fun h h0=>?_,HX.out⟩
     ·by_cases e:d'=d
      ·rw[e,<- r7.out];exact h
      exact(b0.out (by first|rfl|trivial)).2 d' (by omega)
     have:=h0 q d (by have:=HN.out;omega) f3;rw[<- r7.out,h] at this;cases this
    simp[intOf];omega
  have l4:¬ ((d:Int)<(D.na q:Int)):=by omega
  go_wp2;go_roundw
  case rel =>
   refine⟨q+1,b2,by omega,by go_num,rfl,fun h q' d' E h2=>?_,c9.out,F.out⟩;by_cases e:q'=q
   ·subst e;exact(b0.out h).2 d' (by omega)
   exact(b0.out h).1 q' d' (by omega) h2
  simp[intOf];omega
 have l4:¬ ((q:Int)<(n:Int)):=by omega
 have h5:q=D.n:=by have:=HN.out;omega
 cases bb with
 | false =>
  have h0:NoSel D sel:=fun q' d E h2=>b0.out rfl q' d (by omega) h2;have e0:=qh h0;clear h0 h5;go_wp2;go_ret;exact⟨W.out,s,_,none,0,rfl,a7.out,b7.out,rfl,.inl ⟨e0.out,rfl,rfl⟩⟩
 | true =>
  clear h5;have e0:=qh (c9.out rfl);have m3:=o.out.c3;have m0:=o.out.c0;by_cases A1:60<n
  ·have r9:(60:Int)<(n:Int):=by omega
   have f5:=b7.out.fz 5;have c5:=b7.out.c5;have X:Fr (fun q=>q=s) wr (wr.setCell ⟨s,5,none⟩ (.int .i64 ((2:Nat):Int))):=(Fr.refl (fun q=>q=s) _).set (p:=⟨s,5,none⟩) (.inl rfl) _;have z2:=qh X;clear X;go_wp2;go_ret;refine⟨W.out.trans (z2.out.below W.out.size (fun q e=>by rw[e];exact a7.out)),s,_,none,2,rfl,a7.out,b7.out.setE 2,rfl,.inr (.inr ⟨e0.out,by omega,rfl,.inl (by have:=HN.out;omega)⟩)⟩
  have r9:decide ((60:Int)<(n:Int))=false:=by simp;omega
  have z6:n<=60:=by omega
  have u8:=qh (show RwI w wr s gR D sel (.slice (some ⟨b,c,none⟩) n m) (fun _=>0) 0 from ⟨W.out,b7.out,g9.out,fun i hi=>by omega⟩);clear b7 W g9 b0 c9
  go_wp2_with fail
  clear m3 m0
  go_loopw [6,57] (fun v6 i wr=>∃ (q:Nat) (rb:Nat->Nat),q<=n/\i=.int .i64 (q:Int)/\v6=.slice (some ⟨gR,0,none⟩) q 60/\RwI w wr s gR D sel (.slice (some ⟨b,c,none⟩) n m) rb q/\BoxM wr B D (.slice (some ⟨b,c,none⟩) n m)) (fun _ i _=>n-(intOf i).toNat)
  case atStart=>exact⟨0,_,Nat.zero_le _,rfl,rfl,u8.out,o.out⟩
  obtain⟨q,rb,hq,rfl,rfl,hi,b6⟩:=hrel;clear u8 o;have HI:=qh hi;clear hi;have o:=qh b6;clear b6;by_cases m9:q<n
  ·have y6:(q:Int)<(n:Int):=by omega
   have p6:(0:Int)<=(q:Int):=by omega
   have f9:=(HB.out (by omega)).1;obtain⟨k1,k2,k3,k4,k5,k6,k7⟩:=HR.out q m9;obtain⟨aq,e4⟩:=exq (A q);rw[<- e4] at k2 k5;clear e4;have c0:=(HI.out.hb.cell (p:=⟨b,c+q*2,none⟩) f9).trans k1;have c1:=(HI.out.hb.cell (p:=⟨b,c+q*2+1,none⟩) f9).trans k2;have A3:=qh k2;clear k1 k2;unfold maxLen at k4;have u3:D.na q<=30000:=by have E:=Nat.le_trans (z1u D (show q+1<=D.n by have:=HN.out;omega)) HV.out.arcs;have h2:z0f D (q+1)=z0f D q+D.na q:=rfl;omega
   have l6:=qh k7;clear k7;have i9:=qh k5;clear k5;have l1:=qh k6;clear k6;obtain⟨wa,G⟩:=exq (wr.alloc (.cells #[.string (D.fin q),.slice aq (D.na q) (C q)] 57));obtain⟨xb,j7⟩:=exq (wr.heap.size);have g:Fr (fun _=>False) wr wa:=by rw[G];exact Fr.alloc _ _
   have i8:wa.heap[xb]?=some (.cells #[.string (D.fin q),.slice aq (D.na q) (C q)] 57 (0,0)):=by rw[G,j7];exact heap_alloc_new wr _
   obtain⟨wd,d3⟩:=exq (wa.drew);have b9:Fr (fun _=>False) wa wd:=by rw[d3];exact(Fr.refl _ _).drew
   have f2:=g.trans b9;have S:BoxM wd B D (.slice (some ⟨b,c,none⟩) n m):=(f2.block _ o.out.lt (fun e=>e)).trans o.out;have c7:wd.heap[xb]?=_:=(b9.block xb (lt_of_block i8) (fun e=>e)).trans i8;have l:wd.cell? ⟨B,0,none⟩=some (.int .i64 D.kind)/\wd.cell? ⟨B,3,none⟩=some (.slice (some ⟨b,c,none⟩) n m):=⟨S.c0,S.c3⟩;obtain⟨kz,j0⟩:=exq (z1h D.kind);have j3:=z4u D.kind wd;rw[<- j0] at j3;have q9:=qh j3;clear j3;have y1:=qh j0;clear j0;have T:=qh S;clear S o;have e3:=qh c7;clear c7 i8;have o3:=qh f2;clear f2 b9 g
   go_wp2_with fail
   refine z0g (fun wk=>wk.cell? ⟨B,0,none⟩=some (.int .i64 D.kind)/\wk.cell? ⟨B,3,none⟩=some (.slice (some ⟨b,c,none⟩) n m)) 8 (by kernel_rfl) ?_;rw[<- G,<- j7,<- d3];clear G j7 d3 c0 c1;refine z0c.tm 0 l ?_;refine z0c.tm 1 l ?_;refine z0c.tm 4 l ?_;refine z0c.tm 5 l ?_;refine z0c.tm 6 l ?_
   try simp only[Act.put,tryL]
   refine z0c.on 2 fun K hK=>?_;go_simp;refine q9.out.mono ?_;rintro r U ⟨rfl,a1⟩;have x2:Fr (fun _=>False) wr U:=o3.out.trans (Fr.of_below a1);have d7:BoxM U B D (.slice (some ⟨b,c,none⟩) n m):=(a1.block _ T.out.lt).trans T.out;have t7:=(a1.block xb (lt_of_block e3.out)).trans e3.out;have u5:U.cell? ⟨B,0,none⟩=some (.int .i64 D.kind)/\U.cell? ⟨B,3,none⟩=some (.slice (some ⟨b,c,none⟩) n m):=⟨d7.c0,d7.c3⟩;have g2:=qh d7;clear d7 T;have j8:=qh t7;clear t7 e3;have w0:=qh x2;clear x2 o3 a1;refine hK.out _ _ (.inr u5) ?_;clear hK K l q9
   try simp only[Act.put,tryL]
   refine z0c.on 3 fun K hK=>?_;go_simp;obtain⟨w3,N⟩:=exq (U.alloc (.cells #[.string kz] 9));have g8:Fr (fun _=>False) U w3:=by rw[N];exact Fr.alloc _ _
   have b1:w3.cell? ⟨U.heap.size,0,none⟩=some (.string kz):=by rw[N];exact z5f U _ _ 0 _ rfl
   have J:BoxM w3 B D (.slice (some ⟨b,c,none⟩) n m):=(g8.block _ g2.out.lt (fun e=>e)).trans g2.out;have v2:=(g8.block xb (lt_of_block j8.out) (fun e=>e)).trans j8.out;have x0:w3.cell? ⟨B,0,none⟩=some (.int .i64 D.kind)/\w3.cell? ⟨B,3,none⟩=some (.slice (some ⟨b,c,none⟩) n m):=⟨J.c0,J.c3⟩;have r3:=qh (x2r (n:=n) (xb:=U.heap.size) (xo:=0) (xc:=1) (z:=kz) w3 z3 x7 b1);have Q:=qh J;clear J g2;have j1:=qh v2;clear v2 j8;have m2:=qh (w0.out.trans g8);clear g8 w0 b1;rw[<- N];clear N;refine hK.out _ _ (.inr x0) ?_;clear hK K u5
   try simp only[Act.put,tryL]
   refine z0c.on 7 fun K hK=>?_;go_simp;refine r3.out.mono ?_;rintro r w4 ⟨g7,lb,rfl,x5,u1⟩;have o5:Fr (fun _=>False) wr w4:=m2.out.trans (Fr.of_below g7);have d8:BoxM w4 B D (.slice (some ⟨b,c,none⟩) n m):=(g7.block _ Q.out.lt).trans Q.out;have u7:=(g7.block xb (lt_of_block j1.out)).trans j1.out;have v5:w4.cell? ⟨B,0,none⟩=some (.int .i64 D.kind)/\w4.cell? ⟨B,3,none⟩=some (.slice (some ⟨b,c,none⟩) n m):=⟨d8.c0,d8.c3⟩;have Z:RoI w w4 s gR lb D sel (.slice (some ⟨b,c,none⟩) n m) rb q (zrC D.kind,serr D sel q):=HI.out.row o5 a7.out (by have:=m2.out.size;omega) (by
    have E:w4.rowIs lb 9 D.n (fun _=>.string kz):=by rw[<- HN.out];exact u1
    exact E.congr (fun _ _=>by show Value.string kz=.string (z1h D.kind);rw[y1.out]))
   have L:=qh Z;clear Z u1 o5 m2;have i7:=qh d8;clear d8 Q;have p8:=qh u7;clear u7 j1;refine hK.out _ _ (.inr v5) ?_;clear hK K x0 r3 g7 x5
   try simp only[Act.put,tryL]
   refine z0c.on 8 fun K hK=>?_;go_simp;refine hK.out _ _ (.inl rfl) (z0c.dn ?_);clear hK K v5 HI;obtain⟨s0,h4⟩:∃ s0:WS,s0=(zrC D.kind,serr D sel q):=⟨_,rfl⟩;have i6:∀ j,smS (s0.1 j):=by rw[h4];exact v7p _
   have a3:srow D sel q (serr D sel q)=z5a D sel q (D.na q) s0:=by rw[h4];rfl
   rw[<- h4] at L;have p0:=qh a3;clear a3;have o6:=qh i6;clear i6 h4;have x1:=cellOf p8.out 1 rfl
   go_wp2_with fail
   clear x1
   go_loopw [72] (fun i wr=>∃ d:Nat,d<=D.na q/\i=.int .i64 (d:Int)/\RoI w wr s gR lb D sel (.slice (some ⟨b,c,none⟩) n m) rb q (z5a D sel q d s0)/\BoxM wr B D (.slice (some ⟨b,c,none⟩) n m)) (fun i _=>D.na q-(intOf i).toNat)
   case atStart=>exact⟨0,Nat.zero_le _,rfl,L.out,i7.out⟩
   obtain⟨d,hd,rfl,Z,b6⟩:=hrel;clear L i7 p8;obtain⟨s1,d5⟩:=exq (z5a D sel q d s0);rw[<- d5] at Z;have o:=qh b6;clear b6;have L:=qh Z;clear Z;by_cases f3:d<D.na q
   ·have x8:(d:Int)<(D.na q:Int):=by omega
    have u4:(0:Int)<=(d:Int):=by omega
    have a8:=(l1.out (by omega)).1;obtain⟨t0,t1,t2,t3⟩:=l6.out d f3;obtain rfl:=i9.out (by omega);have j6:=HV.out.arc q d (by have:=HN.out;omega) f3;obtain⟨H,j9⟩:∃ H:Nat,D.ato q d=(H:Int):=⟨(D.ato q d).toNat,by have:=j6.t0;omega⟩;have A2:H<n:=by have:=j6.t1;have:=HN.out;omega
    have s9:H<D.n:=by have:=HN.out;omega
    have A6:(H:Int)<(n:Int):=by omega
    have z9:(0:Int)<=(H:Int):=by omega
    rw[j9] at t3;have c0:=(L.out.hb.cell (p:=⟨BB q,O q+d*4,none⟩) a8).trans t0;have c1:=(L.out.hb.cell (p:=⟨BB q,O q+d*4+1,none⟩) a8).trans t1;have c2:=(L.out.hb.cell (p:=⟨BB q,O q+d*4+2,none⟩) a8).trans t2;have c3:=(L.out.hb.cell (p:=⟨BB q,O q+d*4+3,none⟩) a8).trans t3;clear t0 t1 t2 t3 j6;have h7:∀ j,smS (s1.1 j):=by rw[d5];exact y3h (n5.out q) d o6.out
    have s4:=qh h7;clear h7;have r2:z5a D sel q (d+1) s0=if sel (D.ain q d) (D.aout q d)=true then (updS s1.1 H (z2e D.kind (s1.1 H) (D.aw q d) s1.2).1,(z2e D.kind (s1.1 H) (D.aw q d) s1.2).2) else s1:=by
     show y8p D sel q d (z5a D sel q d s0)=_;unfold y8p;rw[<- d5,j9,Int.toNat_natCast]
    have d4:=qh r2;clear r2 d5 j9;obtain⟨ai,s8⟩:=exq (D.ain q d);obtain⟨ao,i2⟩:=exq (D.aout q d);obtain⟨aw,k9⟩:=exq (D.aw q d);have o2:smS aw:=by rw[k9];exact n5.out q d
    have y3:=qh o2;clear o2;rw[<- s8] at c0 d4;rw[<- i2] at c1 d4;rw[<- k9] at c2 d4;clear s8 i2 k9;obtain⟨w5,a9⟩:=exq (wr.alloc (.cells #[.int .i64 ai,.int .i64 ao,.string aw,.int .i64 (H:Int)] 59));obtain⟨ab,j2⟩:=exq (wr.heap.size);have X:Fr (fun _=>False) wr w5:=by rw[a9];exact Fr.alloc _ _
    have w9:w5.heap[ab]?=some (.cells #[.int .i64 ai,.int .i64 ao,.string aw,.int .i64 (H:Int)] 59 (0,0)):=by rw[a9,j2];exact heap_alloc_new wr _
    have I:=o4.out w5 trivial ai ao aw (H:Int);have b5:BoxM w5 B D (.slice (some ⟨b,c,none⟩) n m):=(X.block _ o.out.lt (fun e=>e)).trans o.out;have a4:=qh (L.out.keep X);clear X L;have R:=qh b5;clear b5 o;have l9:=qh w9;clear w9;have HC:=qh I;clear I
    go_wp2_with fail
    rw[<- a9,<- j2];clear a9 j2 c0 c1 c2 c3;refine HC.out.mono ?_;rintro r w6 ⟨rfl,h3⟩;have b4:BoxM w6 B D (.slice (some ⟨b,c,none⟩) n m):=(h3.block _ R.out.lt).trans R.out;have p9:=(h3.block ab (lt_of_block l9.out)).trans l9.out;have f8:=qh (a4.out.keep (Fr.of_below h3));clear h3 a4 HC;have a6:=qh b4;clear b4 R;have l5:=qh p9;clear p9 l9;cases g6:sel ai ao
    ·have l7:=qh (d4.out.trans (if_neg (by rw[g6];simp)));clear g6 d4;go_wp2;go_roundw
     case rel=>exact⟨d+1,by omega,by go_num,by rw[l7.out];exact f8.out,a6.out⟩
     simp[intOf];omega
    have l7:=qh (d4.out.trans (if_pos g6));clear g6 d4;obtain⟨wd,d3⟩:=exq (w6.drew);have b9:Fr (fun _=>False) w6 wd:=by rw[d3];exact(Fr.refl _ _).drew
    have c7:=(b9.block ab (lt_of_block l5.out) (fun e=>e)).trans l5.out;have S:BoxM wd B D (.slice (some ⟨b,c,none⟩) n m):=(b9.block _ a6.out.lt (fun e=>e)).trans a6.out;have a2:=qh (f8.out.keep b9);clear b9 f8;have l:wd.cell? ⟨ab,3,none⟩=some (.int .i64 (H:Int))/\wd.cell? ⟨ab,2,none⟩=some (.string aw)/\wd.cell? ⟨lb,H,none⟩=some (.string (s1.1 H)):=⟨cellOf c7 3 rfl,cellOf c7 2 rfl,a2.out.rl.cell s9⟩;have e3:=qh c7;clear c7 l5;have T:=qh S;clear S a6;have s5:=qh (z9y (s1.1 H) aw wd a2.out.sc (s4.out H) y3.out (r8.out.below a2.out.hb nlr))
    go_wp2_with fail
    refine z0g (fun wk=>wk.cell? ⟨ab,3,none⟩=some (.int .i64 (H:Int))/\wk.cell? ⟨ab,2,none⟩=some (.string aw)/\wk.cell? ⟨lb,H,none⟩=some (.string (s1.1 H))) 13 (by kernel_rfl) ?_;rw[<- d3];clear d3;refine z0c.tm 0 l ?_;refine z0c.tm 1 l ?_;refine z0c.tm 2 l ?_;refine z0c.tm 3 l ?_;refine z0c.tm 4 l ?_;refine z0c.tm 5 l ?_;refine z0c.tm 6 l ?_;refine z0c.tm 7 l ?_;refine z0c.tm 8 l ?_;refine z0c.tm 9 l ?_;refine z0c.tm 10 l ?_
    try simp only[Act.put,tryL]
    refine z0c.on 11 fun K hK=>?_;go_simp;refine s5.out.mono ?_;rintro r w7 ⟨rfl,v8,e7⟩;have o9:B≠s:=y8.out;have h9:BoxM w7 B D (.slice (some ⟨b,c,none⟩) n m):=(e7.block _ T.out.lt o9).trans T.out;have b8:=qh (a2.out.stepped e7 v8);have m4:ab≠s:=fun e=>by
     have E:=e3.out;have h2:=a2.out.sc;unfold Scl at h2;rw[e,h2] at E;simp at E
    have g5:w7.cell? ⟨ab,3,none⟩=some (.int .i64 (H:Int))/\w7.cell? ⟨ab,2,none⟩=some (.string aw)/\w7.cell? ⟨lb,H,none⟩=some (.string (s1.1 H)):=⟨e7.cell l.1 m4,e7.cell l.2.1 m4,b8.out.rl.cell s9⟩;have fz:=b8.out.rl.frozen H;have e9:=qh h9;clear h9 T;refine hK.out _ _ (.inr g5) ?_;clear hK K l s5 a2 v8 e7 o9 m4 e3
    try simp only[Act.put,tryL]
    refine z0c.tm 12 g5 ?_
    try simp only[Act.put,tryL]
    have g0:=g5.2.2;refine z0c.on 13 fun K hK=>?_;go_simp;refine hK.out _ _ (.inl rfl) (z0c.dn ?_);clear hK K g5;have u0:lb≠B:=fun e=>z0h b8.out.rl (show w7.heap[B]?=_ from e9.out) (by decide) e;have i5:BoxM (w7.setCell ⟨lb,H,none⟩ (.string (z2e D.kind (s1.1 H) aw s1.2).1)) B D (.slice (some ⟨b,c,none⟩) n m):=by
     unfold BoxM;rw[blk_setCell_other _ _ _ _ (fun e=>u0 e.symm)];exact e9.out
    have q8:=qh (b8.out.put H (z2e D.kind (s1.1 H) aw s1.2).1);have v0:=qh i5;clear i5 u0 e9 b8 fz g0;go_wp2;go_roundw
    case rel=>exact⟨d+1,by omega,by go_num,by rw[l7.out];exact q8.out,v0.out⟩
    simp[intOf];omega
   have f7:d=D.na q:=by omega
   have l4:¬ ((d:Int)<(D.na q:Int)):=by omega
   rw[f7] at d5;have y2:=qh (d5.trans p0.out.symm);clear d5 f7;have Z:=L.out;rw[y2.out] at Z;have i4:=qh Z;clear Z L;obtain⟨w5,a9⟩:=exq (wr.alloc (.cells #[.slice (some ⟨lb,0,none⟩) n n] 79));have X:Fr (fun _=>False) wr w5:=by rw[a9];exact Fr.alloc _ _
   have b1:w5.cell? ⟨wr.heap.size,0,none⟩=some (.slice (some ⟨lb,0,none⟩) n n):=by rw[a9];exact z5f wr _ _ 0 _ rfl
   have b5:BoxM w5 B D (.slice (some ⟨b,c,none⟩) n m):=(X.block _ o.out.lt (fun e=>e)).trans o.out;have a4:=qh (i4.out.keep X);clear X i4;have R:=qh b5;clear b5 o;have z7:=qh b1;clear b1;obtain⟨i0,y9,A5,e6,n6⟩:=info_parts y5f;have d0:=a4.out.own;rw[a9] at d0;have v9:=qh d0;clear d0;have y0:q+1<=60:=by omega
   go_wp2_with (at_builtin;refine wpList_append_fits _ rfl (.tmp 93) (.tmp 95) 75 rfl w.heap.size 79 i0 1 underlying75 y9 e6 gR q 60 _ rfl v9.out ⟨wr.heap.size,0,none⟩ 1 1 [.slice (some ⟨lb,0,none⟩) n n] rfl rfl (cell_one_new _ _ _) (fun u hu=>by rw[List.mem_singleton.1 hu];rfl) y0 ?_;intro w6 d2 P)
   rw[<- a9] at P;rw[HN.out] at d2;have f7:=a4.out.done d2 P;have u6:gR≠B:=by
    obtain⟨cs,hg⟩:=z9u a4.out.own;intro e;have E:=R.out;unfold BoxM at E;rw[<- e,hg] at E;simp at E
   have b4:BoxM w6 B D (.slice (some ⟨b,c,none⟩) n m):=by
    unfold BoxM;rw[P.block B R.out.lt (by simp;exact fun e=>u6 e.symm)];exact R.out
   have y7:=qh f7;clear f7 d2 P u6;have a6:=qh b4;clear b4;go_wp2;go_roundw
   case rel=>exact⟨q+1,_,by omega,by go_num,by go_num,y7.out,a6.out⟩
   simp[intOf];omega
  have l4:¬ ((q:Int)<(n:Int)):=by omega
  have h5:q=n:=by omega
  subst h5;have e2:Mt none wr (.slice (some ⟨gR,0,none⟩) q 60) q (fun _=>q) (smat D sel):=by
   have h:=HI.out;have e:=HN.out;rw[e] at h;have h2:=h.mt (by omega);rw[<- e] at h2;exact h2
  have k5:=HI.out.sc.c5;have k0:=o.out.c0;have x3:=v6h (k0:=D.kind) wr (show q<=100 by omega) e2 (fun i j=>v8w (n5.out i) j) (r8.out.below HI.out.hb nlr);have r5:=qh x3;clear x3 e2;obtain⟨e,he⟩:=exq (serr D sel q);rw[<- he] at k5;have HE:=qh he;clear he;by_cases n7:e=0
  rotate_left
  ·have z8:¬ ((e:Int)=0):=by omega
   have z5:=qh n7;clear n7;go_wp2;go_ret;have E:=z5.out;rw[HE.out,HN.out] at E;exact⟨HI.out.hb,s,_,none,_,rfl,a7.out,HI.out.sc,rfl,.inr (.inr ⟨e0.out,by rw[HN.out];exact E,rfl,.inr (.inl E)⟩)⟩
  subst n7
  go_wp2_with fail
  refine r5.out.mono ?_;rintro r w7 ⟨l0,hr⟩;have a5:Scl w7 s D (.slice (some ⟨b,c,none⟩) q m) (.slice none 0 0) 0:=by
   have E:=HI.out.sc;rw[<- HE.out] at E;unfold Scl at E ⊢;rw[l0.block s HI.out.sc.lt];exact E
  have i3:=HI.out.hb.trans (l0.mono HI.out.hb.size);have v7:serr D sel D.n=0:=by rw[<- HN.out];exact HE.out.symm
  have f4:=a5.fz 4;have f5:=a5.fz 5;have c4:=a5.c4;have c5:=a5.c5;have u9:=qh v7;clear v7 l0;have g1:=qh a5;clear a5;have d6:=qh i3;clear i3 HI r5 k5 k0
  rcases hr with ⟨x6,_⟩|⟨h6,_⟩|⟨_,k,M,hk,z1,hM,_,v3⟩
  ·exfalso
   obtain⟨k,hk⟩:=HV.out.kk;have E:=u1h HV.out hk u9.out;rw[<- HN.out] at E;exact x6 ⟨HV.out.kind,E⟩
  ·omega
  have HK:=qh hk;clear hk z1;have HM:=qh hM;clear hM
  rcases v3 with ⟨v,Y,rfl,e2,o7⟩|⟨rfl,v4⟩
  ·obtain⟨av,cv,y4⟩:=e2.shape;subst y4;have x4:=qh e2;clear e2;have n9:=qh o7;clear o7;obtain⟨w8,d1⟩:∃ w8,w8=(w7.setCell ⟨s,4,none⟩ (.slice av q cv)).setCell ⟨s,5,none⟩ (.int .i64 0):=⟨_,rfl⟩;have f0:Fr (fun q=>q=s) w7 w8:=by
    rw[d1];exact((Fr.refl (fun q=>q=s) w7).set (p:=⟨s,4,none⟩) (.inl rfl) _).set (p:=⟨s,5,none⟩) (.inl rfl) _
   have b3:Scl w8 s D (.slice (some ⟨b,c,none⟩) q m) (.slice av q cv) 0:=by
    have E:=g1.out;rw[d1];unfold Scl at E ⊢;simp[World.setCell,Array.getElem?_modify,E]
   have g4:=qh f0;clear f0;have d9:=qh b3;clear b3;go_wp2;go_ret;rw[<- d1];have s7:=x4.out.later g1.out d9.out g4.out.gbc (.inr rfl) (fun i _=>by omega);refine⟨d6.out.trans (g4.out.below d6.out.size (fun q e=>by rw[e];exact a7.out)),s,_,some Y,0,rfl,a7.out,d9.out,?_,.inr (.inl ⟨e0.out,by have:=HN.out;omega,rfl,Y,rfl,fun k' x9 i j hi hj=>?_⟩)⟩
   ·rw[<- HN.out];exact⟨s7,fun i j hi hj=>by have E:=(n9.out i j hi hj).1;unfold smS;omega⟩
   obtain rfl:k'=k:=Subtype.ext (x9.trans HK.out.symm);rw[<- HN.out] at hi hj ⊢;have E:=(n9.out i j hi hj).2 rfl;have h2:CSR.starM M q i j=CSR.starM (sils (rmOf k' D) sel) q i j:=CSR.starM_congr (fun i j hi hj=>by
    rw[HM.out];exact(x2z HV.out HK.out u9.out (by rw[<- HN.out];exact hi) (by rw[<- HN.out];exact hj)).val) i j hi hj
   rw[<- h2];exact E
  have y5:=qh v4;clear v4;obtain⟨w8,d1⟩:∃ w8,w8=(w7.setCell ⟨s,4,none⟩ (.slice none 0 0)).setCell ⟨s,5,none⟩ (.int .i64 2):=⟨_,rfl⟩;have f0:Fr (fun q=>q=s) w7 w8:=by
   rw[d1];exact((Fr.refl (fun q=>q=s) w7).set (p:=⟨s,4,none⟩) (.inl rfl) _).set (p:=⟨s,5,none⟩) (.inl rfl) _
  have b3:Scl w8 s D (.slice (some ⟨b,c,none⟩) q m) (.slice none 0 0) 2:=by
   have E:=g1.out;rw[d1];unfold Scl at E ⊢;simp[World.setCell,Array.getElem?_modify,E]
  have g4:=qh f0;clear f0;have d9:=qh b3;clear b3;go_wp2;go_ret;rw[<- d1];refine⟨d6.out.trans (g4.out.below d6.out.size (fun q e=>by rw[e];exact a7.out)),s,_,none,2,rfl,a7.out,d9.out,rfl,.inr (.inr ⟨e0.out,by omega,rfl,.inr (.inr ⟨k,HK.out,?_⟩)⟩)⟩;rw[<- HN.out,<- HM.out];exact y5.out
end
section
open Go.RowKit Go.Deep
def WgtX (D:MD) (na:Nat) (x:Nat->Int) (nb:Nat) (y:Nat->Int) (w:World) (r:Ending) (w':World):Prop :=
 Below w.heap.size w w'/\((VM D/\isWord na x=true/\isWord nb y=true/\∃ st e0,SilOk D silB st e0/\r=.returned (.tuple #[.string (wgtG D st e0 na x nb y).1,.int .i64 ((wgtG D st e0 na x nb y).2:Int)])) \/
  (¬ (VM D/\isWord na x=true/\isWord nb y=true)/\r=.returned (.tuple #[.string ⟨#[]⟩,.int .i64 1])))
theorem y9c:(prog.info? 102).map (fun i=>(i.zero,i.size,i.bytes))=some (some (.slice none 0 0),1,24):=by kernel_rfl
theorem Bx.ne_scl {w:World} {b d e:Nat} {t:TypeId} {v:Value} {D:MD} {sv star:Value} (h:Bx w b t v) (c:Scl w d D sv star e):b≠d:=by
 rintro rfl;unfold Scl at c;unfold Bx at h;rw[h] at c;simp at c
def ixOf (v:Value) (w:World):Nat:=match v with | .pointer (some a)=>(match w.cell? a with|some (.int _ i)=>i.toNat|_=>0)|_=>0
theorem y7v {w:World} {b i:Nat} (h:w.cell? ⟨b,0,none⟩=some (.int .i64 (i:Int))):ixOf (.pointer (some ⟨b,0,none⟩)) w=i:=by
 unfold ixOf;simp[h]
structure WG (w0 wo w:World) (cb c8 xb yb:Nat) (D:MD) (sv stv xv yv:Value) (e:Nat):Prop where
 hb:Below w0.heap.size w0 w
 gs:wo.grownBy w (some cb)
 sc:Scl w cb D sv stv e
 k8:Bx w c8 98 (.pointer (some ⟨cb,0,none⟩))
 kx:Bx w xb 25 xv
 ky:Bx w yb 25 yv
 lc:w0.heap.size<=cb
 lo:w0.heap.size<=wo.heap.size
namespace WG
variable {w0 wo w w':World} {cb c8 xb yb:Nat} {D:MD} {sv stv xv yv:Value} {e:Nat}
theorem n8 (h:WG w0 wo w cb c8 xb yb D sv stv xv yv e):c8≠cb:=by rintro rfl;have d:=h.sc;have c:=h.k8;unfold Scl at d;unfold Bx at c;rw[d] at c;simp at c
theorem nx (h:WG w0 wo w cb c8 xb yb D sv stv xv yv e):xb≠cb:=by rintro rfl;have d:=h.sc;have c:=h.kx;unfold Scl at d;unfold Bx at c;rw[d] at c;simp at c
theorem ny (h:WG w0 wo w cb c8 xb yb D sv stv xv yv e):yb≠cb:=by rintro rfl;have d:=h.sc;have c:=h.ky;unfold Scl at d;unfold Bx at c;rw[d] at c;simp at c
theorem gs' {C:Nat->Prop} (h:WG w0 wo w cb c8 xb yb D sv stv xv yv e) (hf:Fr C w w') (i:∀ q,C q->q=cb\/wo.heap.size<=q):wo.grownBy w' (some cb) :=
 ⟨hf.os.trans h.gs.os,hf.tape.trans h.gs.tape,hf.output.trans h.gs.output,Nat.le_trans h.gs.size hf.size,fun q d c=>(hf.block q (Nat.lt_of_lt_of_le d h.gs.size) (fun g=>(i q g).elim (fun e=>c (by rw[e])) (fun e=>by omega))).trans (h.gs.block q d c)⟩
theorem kept {C:Nat->Prop} (h:WG w0 wo w cb c8 xb yb D sv stv xv yv e) (hf:Fr C w w') (g:¬ C cb) (k:¬ C c8) (j:¬ C xb) (i:¬ C yb) (d:∀ q,C q->wo.heap.size<=q):WG w0 wo w' cb c8 xb yb D sv stv xv yv e :=
 ⟨h.hb.trans (hf.below h.hb.size (fun q c=>Nat.le_trans h.lo (d q c))),h.gs' hf (fun q c=>.inr (d q c)),h.sc.kept hf g,h.k8.kept hf k,h.kx.kept hf j,h.ky.kept hf i,h.lc,h.lo⟩
theorem stepped {g n e':Nat} {F:Nat->Value} (h:WG w0 wo w cb c8 xb yb D sv stv xv yv e) (hf:Fr (fun q=>q=cb\/q=g) w w') (l:Scl w' cb D sv stv e') (i:w.rowIs g 9 n F) (d:wo.heap.size<=g):WG w0 wo w' cb c8 xb yb D sv stv xv yv e':=by
 have k:∀ q,q≠cb->q≠g->¬ (q=cb\/q=g):=fun q a b c=>c.elim a b;exact⟨h.hb.trans (hf.below h.hb.size (fun q j=>by rcases j with rfl|rfl;exact h.lc;exact Nat.le_trans h.lo d)),h.gs' hf (fun q j=>j.imp (fun e=>e) (fun e=>by rw[e];exact d)),l,h.k8.kept hf (k _ h.n8 (z0h i h.k8 (by decide)).symm),h.kx.kept hf (k _ h.nx (z0h i h.kx (by decide)).symm),h.ky.kept hf (k _ h.ny (z0h i h.ky (by decide)).symm),h.lc,h.lo⟩
theorem rested {e':Nat} (h:WG w0 wo w cb c8 xb yb D sv stv xv yv e) (hf:Fr (fun q=>q=cb) w w') (d:Scl w' cb D sv stv e'):WG w0 wo w' cb c8 xb yb D sv stv xv yv e' :=
 ⟨h.hb.trans (hf.below h.hb.size (fun q c=>by rw[c];exact h.lc)),h.gs' hf (fun q c=>.inl c),d,h.k8.kept hf h.n8,h.kx.kept hf h.nx,h.ky.kept hf h.ny,h.lc,h.lo⟩
end WG
theorem VR.rested {w I:World} {B P:Nat} {g:Bool->Nat} {m n:Nat} {R:Bool->Nat->Option Nat} {S:Bool->Nat->Option VV} {b:Bool} {j rv p:Nat} {x v:VV} (h:VR w B g m n R S) (hj:j<m) (hr:R b j=some rv) (hs:S b j=some v) (hf:Fr (fun q=>q=P) w I)
  (F:∀ b,g b≠P) (Q:∀ b j r,j<m->R b j=some r->r≠P) (Z:I.rowIs p 9 n (fun q=>.string (x q))) (N:∀ q,smS (x q)) (C:p=rv\/w.heap.size<=p) (hB:B<=w.heap.size) :
  VR (I.setCell ⟨g b,j,none⟩ (vrV n (some p))) B g m n (fun b' j'=>if b'=b/\j'=j then some p else R b' j') (updV S b j x):=by
 have X:∀ b' j' c,j' < m->R b' j'=some c->c<w.heap.size:=fun b' j' c i d=>by
  cases D:S b' j' with
  | none=>have:=(h.non b' j' i).2 D;rw[d] at this;cases this
  | some x0=>exact(h.row b' j' c x0 i d D).1.lt
 have O:B<=p:=by
  rcases C with e|e
  ·rw[e];exact(h.row b j rv v hj hr hs).2
  omega
 have s:∀ b' j' c,j' < m->¬ (b'=b/\j'=j)->R b' j'=some c->c≠p:=fun b' j' c i T d e=>by
  rcases C with k|k
  ·exact T (h.sep b' j' b j rv i hj (by rw[d,e,k]) hr)
  have:=X b' j' c i d;omega
 have W:∀ b',g b'≠p:=fun b' e=>y7a ((hf.row (h.top b') (F b'))) Z (by decide) e;have o:∀ b',I.rowIs (g b') 102 m (fun j=>vrV n (R b' j)):=fun b'=>hf.row (h.top b') (F b');refine⟨fun b'=>?_,h.gne,h.low,fun b' j' i=>?_,fun b' j' c L i d l=>?_,fun Y U J K c z H d l=>?_,fun b' j' L d=>?_⟩
 ·by_cases e:b'=b
  ·subst e;refine((o b').set j _).congr (fun j' _=>?_);by_cases e:j'=j
   ·rw[if_pos e,if_pos ⟨rfl,e⟩]
   rw[if_neg e,if_neg (fun h=>e h.2)]
  refine((o b').of_block (blk_setCell_other _ _ _ _ (fun k=>?_))).congr (fun j' _=>by rw[if_neg (fun h=>e h.1)]);have G:=h.gne;have E:g b'=g b:=k;cases b'<;>cases b<;>first|exact e rfl|exact G E|exact G E.symm
 ·unfold updV;by_cases e:b'=b/\j'=j
  ·rw[if_pos e,if_pos e];simp
  rw[if_neg e,if_neg e];exact h.non b' j' i
 ·by_cases e:b'=b/\j'=j
  ·rw[if_pos e] at d;cases d;unfold updV at l;rw[if_pos e] at l;cases l;exact⟨Z.setOther (a:=⟨g b,j,none⟩) (fun k=>W b k.symm) _,O⟩
  rw[if_neg e] at d;unfold updV at l;rw[if_neg e] at l;have G:=h.row b' j' c L i d l;exact⟨(hf.row G.1 (Q b' j' c i d)).setOther (a:=⟨g b,j,none⟩) (fun k=>h.topne i d l k.symm) _,G.2⟩
 ·by_cases u:Y=b/\U=j
  ·rw[if_pos u] at d;cases d;by_cases k:J=b/\K=j
   ·exact⟨u.1.trans k.1.symm,u.2.trans k.2.symm⟩
   rw[if_neg k] at l;exact absurd rfl (s J K _ H k l)
  rw[if_neg u] at d;by_cases k:J=b/\K=j
  ·rw[if_pos k] at l;cases l;exact absurd rfl (s Y U _ z u d)
  rw[if_neg k] at l;exact h.sep Y U J K c z H d l
 unfold updV at d;by_cases e:b'=b/\j'=j
 ·rw[if_pos e] at d;cases d;exact N
 rw[if_neg e] at d;exact h.sm b' j' L d
theorem u4h:TstA 79 #[] silB (fun _=>True) :=
 ⟨x1f,fun c _ i o s t=>by
  have h:=x5t c i o s t;rw[show ∀ a:Value,(#[a]++#[]:Array Value)=#[a] from fun _=>rfl];exact h⟩
end
end Go.Proofs.YteappjogmnogcaaGreatDoor
