/- Parts of a proof: MkD ReptS WgP WgQ WgU. -/
import Derived.Test.YteappjogmnogcaaGreatDoorV09
import Derived.Test.YteappjogmnogcaaGreatDoorV07
import Derived.Test.YteappjogmnogcaaGreatDoorV02
import Derived.Laws.IdiomCopy
import Derived.Lib.SlBuf
namespace Go.Proofs.YteappjogmnogcaaGreatDoor
set_option maxRecDepth 100000
set_option linter.unusedSimpArgs false
set_option linter.unusedVariables false
set_option linter.unusedSectionVars false
set_option maxHeartbeats 16000000
open Go Tryz
section
open Go CSR
def asum (k:KK) (M:MD) (q:Nat) (f:Int->Int->RK k->Nat->RK k):RK k:=sum (fun d=>f (M.ain q d) (M.aout q d) (wval k (M.aw q d)) (M.ato q d).toNat) (M.na q)
theorem y9f (k:KK) (M:MD) (q:Nat) (a b:Int) (x:ByteArray) (t:Int) (p:Nat) (f:Int->Int->RK k->Nat->RK k) :
  asum k (M.arc q a b x t) p f=asum k M p f+(if p=q then f a b (wval k x) t.toNat else zero):=by
 unfold asum;by_cases e:p=q
 ·subst e;have g:(M.arc p a b x t).na p=M.na p+1:=if_pos rfl;rw[g,if_pos rfl];show sum _ (M.na p)+_=_
  congr 1
  ·refine sum_congr fun d i=>?_;show f (if p=p/\d=M.na p then a else M.ain p d) (if p=p/\d=M.na p then b else M.aout p d) (wval k (if p=p/\d=M.na p then x else M.aw p d)) (if p=p/\d=M.na p then t else M.ato p d).toNat=_
   have c:d≠M.na p:=by omega
   simp[c]
  show f (if p=p/\M.na p=M.na p then a else M.ain p _) (if p=p/\M.na p=M.na p then b else M.aout p _) (wval k (if p=p/\M.na p=M.na p then x else M.aw p _)) (if p=p/\M.na p=M.na p then t else M.ato p _).toNat=_
  simp
 have g:(M.arc q a b x t).na p=M.na p:=if_neg e;rw[g,if_neg e,a0];refine sum_congr fun d i=>?_;show f (if p=q/\d=M.na q then a else M.ain p d) (if p=q/\d=M.na q then b else M.aout p d) (wval k (if p=q/\d=M.na q then x else M.aw p d)) (if p=q/\d=M.na q then t else M.ato p d).toNat=_
 have c:¬ (p=q/\d=M.na q):=fun h=>e h.1;simp only[if_neg c]
theorem x5j (k:KK) (M:MD) (q:Nat) (s:ByteArray) (p:Nat) (f:Int->Int->RK k->Nat->RK k):asum k (M.setFin q s) p f=asum k M p f:=rfl
theorem y6r (k:KK) (M:MD) (s:ByteArray) {p:Nat} (d:p≠M.n) (f:Int->Int->RK k->Nat->RK k):asum k (M.state s) p f=asum k M p f:=by
 unfold asum;have c:(M.state s).na p=M.na p:=if_neg d;rw[c];rfl
theorem v7e (k:KK) (M:MD) (s:ByteArray) (f:Int->Int->RK k->Nat->RK k):asum k (M.state s) M.n f=zero:=by
 unfold asum;have c:(M.state s).na M.n=0:=if_pos rfl;rw[c];rfl
structure BOk (M:MD) (N c:Nat):Prop where
 fin:∀ i,M.fin i=⟨#[]⟩\/z0m M.kind (M.fin i)=true
 arc:∀ i d,d<M.na i->0<=M.ain i d/\M.ain i d<=500/\0<=M.aout i d/\M.aout i d<=500/\0<=M.ato i d/\M.ato i d<(N:Int)/\z0m M.kind (M.aw i d)=true
 na:∀ i,M.na i<=c
 cnt:∀ n,z0f M n<=c
 fsm:∀ i,smS (M.fin i)
 asm:∀ i d,smS (M.aw i d)
theorem BOk.mono {M:MD} {N g c c':Nat} (h:BOk M N c) (z:N<=g) (j:c<=c'):BOk M g c' :=
 ⟨h.fin,fun i d p=>by obtain⟨u,s,l,m,o,A,k⟩:=h.arc i d p;exact⟨u,s,l,m,o,by omega,k⟩,fun i=>Nat.le_trans (h.na i) j,fun n=>Nat.le_trans (h.cnt n) j,h.fsm,h.asm⟩
theorem z9z {D:MD} {p:Nat} {i o t:Int} {w:ByteArray}:∀ n,z0f (D.arc p i o w t) n<=z0f D n+(if p<n then 1 else 0)
 | 0=>Nat.zero_le _
 | n+1=>by
  have ih:=z9z (D:=D) (p:=p) (i:=i) (o:=o) (t:=t) (w:=w) n;show z0f (D.arc p i o w t) n+(if n=p then D.na p+1 else D.na n)<=z0f D n+D.na n+(if p<n+1 then 1 else 0)
  by_cases e:n=p
  ·subst e;rw[if_pos rfl,if_pos (by omega)];rw[if_neg (by omega)] at ih;omega
  rw[if_neg e];split at ih
  ·rw[if_pos (by omega)];omega
  split<;>omega
theorem BOk.put {M:MD} {N c q:Nat} {a b t:Int} {x:ByteArray} (h:BOk M N c) (k:0<=a/\a<=500) (hb:0<=b/\b<=500) (m:0<=t/\t<(N:Int)) (A:z0m M.kind x=true) (s:smS x):BOk (M.arc q a b x t) N (c+1):=by
 refine⟨h.fin,fun i d u=>?_,fun i=>?_,fun n=>?_,h.fsm,fun i d=>?_⟩
 ·have g:d<if i=q then M.na q+1 else M.na i:=u
  show 0<=(if i=q/\d=M.na q then a else M.ain i d)/\(if i=q/\d=M.na q then a else M.ain i d)<=500/\0<=(if i=q/\d=M.na q then b else M.aout i d)/\(if i=q/\d=M.na q then b else M.aout i d)<=500/\0<=(if i=q/\d=M.na q then t else M.ato i d)/\(if i=q/\d=M.na q then t else M.ato i d)<(N:Int)/\z0m M.kind (if i=q/\d=M.na q then x else M.aw i d)=true
  by_cases e:i=q/\d=M.na q
  ·simp only[if_pos e];exact⟨k.1,k.2,hb.1,hb.2,m.1,m.2,A⟩
  simp only[if_neg e];refine h.arc i d ?_;by_cases j:i=q
  ·rw[if_pos j] at g;subst j;have:d≠M.na i:=fun B=>e ⟨rfl,B⟩;omega
  rw[if_neg j] at g;exact g
 ·show (if i=q then M.na q+1 else M.na i)<=c+1
  have l:=h.na q;have z:=h.na i
  split<;>omega
 ·have l:=z9z (D:=M) (p:=q) (i:=a) (o:=b) (t:=t) (w:=x) n;have z:=h.cnt n
  split at l<;>omega
 show smS (if i=q/\d=M.na q then x else M.aw i d)
 split
 ·exact s
 exact h.asm i d
theorem BOk.setFin {M:MD} {N c q:Nat} {s:ByteArray} (h:BOk M N c) (g:s=⟨#[]⟩\/z0m M.kind s=true) (d:smS s):BOk (M.setFin q s) N c :=
 ⟨fun i=>by
  show (if i=q then s else M.fin i)=_\/z0m M.kind (if i=q then s else M.fin i)=true
  split
  ·exact g
  ·exact h.fin i,h.arc,h.na,fun n=>by rw[show z0f (M.setFin q s) n=z0f M n from by induction n with|zero=>rfl|succ n ih=>exact congrArg (·+M.na n) ih];exact h.cnt n,fun i=>by
  show smS (if i=q then s else M.fin i)
  split
  ·exact d
  exact h.fsm i,h.asm⟩
theorem BOk.state {M:MD} {N c:Nat} {s:ByteArray} (h:BOk M N c) (l:s=⟨#[]⟩\/z0m M.kind s=true) (k:smS s):BOk (M.state s) N c:=by
 have g:∀ i,(M.state s).na i<=M.na i:=fun i=>by
  show (if i=M.n then 0 else M.na i)<=_
  split<;>omega
 have j:∀ n,z0f (M.state s) n<=z0f M n:=fun n=>by
  induction n with
  | zero=>exact nlr
  | succ n ih=>exact Nat.add_le_add ih (g n)
 exact⟨fun i=>by
  show (if i=M.n then s else M.fin i)=_\/z0m M.kind (if i=M.n then s else M.fin i)=true
  split
  ·exact l
  ·exact h.fin i,fun i d m=>h.arc i d (Nat.lt_of_lt_of_le m (g i)),fun i=>Nat.le_trans (g i) (h.na i),fun n=>Nat.le_trans (j n) (h.cnt n),fun i=>by
  show smS (if i=M.n then s else M.fin i)
  split
  ·exact k
  exact h.fsm i,h.asm⟩
theorem BOk.empty (d st:Int) (c:ByteArray) (N:Nat):BOk (z1e d st c) N 0 :=
 ⟨fun _=>.inl rfl,fun _ _ h=>absurd h (Nat.not_lt_zero _),fun _=>nlr,fun n=>by
  induction n with
  | zero=>exact nlr
  | succ n ih=>exact ih,fun _=>Nat.zero_le _,fun _ _=>Nat.zero_le _⟩
theorem BOk.vm {M:MD} {c:Nat} (h:BOk M M.n c) (s:z3v M.kind=true) (B:1<=M.n) (z:M.n<=3000) (g:0<=M.start/\M.start<(M.n:Int)) (l:z0m M.kind M.lead=true) (o:c<=30000):VM M :=
 ⟨s,B,z,g.1,g.2,l,Nat.le_trans (h.cnt _) o,fun i _=>h.fin i,fun i d _ u=>by obtain⟨j,A,D,p,k,m,C⟩:=h.arc i d u;exact⟨j,A,D,p,k,m,C⟩⟩
theorem v5n {k:Int} (h:z3v k=true):-9223372036854775808<=k/\k<=9223372036854775807:=by unfold z3v at h;simp at h;omega
theorem BOk.msz {M:MD} {N c:Nat} (h:BOk M N c) (j:z3v M.kind=true) (hn:M.n<=140737488355328) (d:smS M.lead) (g:c<=140737488355328):MSz M :=
 ⟨d,h.fsm,h.asm,fun i=>Nat.le_trans (h.na i) g,hn,v5n j⟩
def revA (D:MD) (q:Nat):Nat->MD->MD
 | 0,M=>M
 | d+1,M=>(revA D q d M).arc (D.ato q d).toNat (D.ain q d) (D.aout q d) (D.aw q d) (q:Int)
def revF (D:MD) (q:Nat) (M:MD):MD:=if D.fin q=⟨#[]⟩ then M else M.arc D.n 0 0 (D.fin q) (q:Int)
def revZ (D:MD):MD:=⟨D.kind,(D.n:Int),D.lead,D.n+1,fun _=>⟨#[]⟩,fun _=>0,fun _ _=>0,fun _ _=>0,fun _ _=>⟨#[]⟩,fun _ _=>0⟩
def revQ (D:MD):Nat->MD
 | 0=>revZ D
 | q+1=>revF D q (revA D q (D.na q) (revQ D q))
def revD (D:MD):MD:=(revQ D D.n).setFin D.start.toNat (oneF D.kind)
structure Skel (M M':MD):Prop where
 kind:M'.kind=M.kind
 start:M'.start=M.start
 lead:M'.lead=M.lead
 n:M'.n=M.n
 fin:M'.fin=M.fin
theorem Skel.refl (M:MD):Skel M M:=⟨rfl,rfl,rfl,rfl,rfl⟩
theorem Skel.arc {M M':MD} (h:Skel M M') (q:Nat) (a b:Int) (x:ByteArray) (t:Int):Skel M (M'.arc q a b x t):=⟨h.kind,h.start,h.lead,h.n,h.fin⟩
theorem z7r (D:MD) (q:Nat) {M M':MD} (h:Skel M M'):∀ d,Skel M (revA D q d M')
 | 0=>h
 | d+1=>(z7r D q h d).arc _ _ _ _ _
theorem x9w (D:MD) (q:Nat) {M M':MD} (h:Skel M M'):Skel M (revF D q M'):=by
 unfold revF
 split
 ·exact h
 exact h.arc _ _ _ _ _
theorem z2w (D:MD):∀ q,Skel (revZ D) (revQ D q)
 | 0=>Skel.refl _
 | q+1=>x9w D q (z7r D q (z2w D q) _)
theorem x2d {D:MD} (hV:VM D) (hS:MSz D) {q:Nat} (hq:q<D.n) {M:MD} {c:Nat} (hk:M.kind=D.kind) (h:BOk M (D.n+1) c):∀ d,d<=D.na q->BOk (revA D q d M) (D.n+1) (c+d)
 | 0,_=>h
 | d+1,hd=>by
  have a:=hV.arc q d hq (by omega);refine(x2d hV hS hq hk h d (by omega)).put ⟨a.i0,a.i1⟩ ⟨a.o0,a.o1⟩ ⟨by omega,by omega⟩ ?_ (hS.aw q d);rw[show (revA D q d M).kind=D.kind from (z7r D q (Skel.refl M) d).kind.trans hk];exact a.wt
theorem x2z {D:MD} (hV:VM D) (hS:MSz D):∀ q,q<=D.n->BOk (revQ D q) (D.n+1) (z0f D q+q)
 | 0,_=>⟨fun _=>.inl rfl,fun _ _ h=>absurd h (Nat.not_lt_zero _),fun _=>Nat.zero_le _,fun n=>by
  have:z0f (revQ D 0) n=0:=by
   induction n with
   | zero=>rfl
   | succ n ih=>exact congrArg (·+0) ih
  rw[this];exact Nat.zero_le _,fun _=>Nat.zero_le _,fun _ _=>Nat.zero_le _⟩
 | q+1,hq=>by
  have h1:=x2d hV hS (q:=q) (by omega) (z2w D q).kind (x2z hV hS q (by omega)) (D.na q) nlr;show BOk (revF D q (revA D q (D.na q) (revQ D q))) (D.n+1) (z0f D q+D.na q+(q+1));unfold revF
  split
  ·exact h1.mono nlr (by omega)
  rename_i hf;have h2:=h1.put (q:=D.n) (a:=0) (b:=0) (t:=(q:Int)) (x:=D.fin q) ⟨by omega,by omega⟩ ⟨by omega,by omega⟩ ⟨by omega,by omega⟩ (by
   rw[show (revA D q (D.na q) (revQ D q)).kind=D.kind from (z7r D q (Skel.refl _) _).kind.trans (z2w D q).kind];exact(hV.fin q (by omega)).resolve_left hf) (hS.fin q)
  exact h2.mono nlr (by omega)
theorem z9j {k:Int} (h:z3v k=true):z0m k (oneF k)=true:=by
 unfold z3v at h;simp at h;have:k=1\/k=2\/k=3:=by omega
 rcases this with rfl|rfl|rfl<;>decide +kernel
theorem y9n {k:Int} (h:z3v k=true):smS (oneF k):=by
 unfold z3v at h;simp at h;have:k=1\/k=2\/k=3:=by omega
 rcases this with rfl|rfl|rfl<;>(unfold smS;decide +kernel)
theorem v9r {D:MD} (c:VM D) (d:MSz D):BOk (revD D) (D.n+1) (z0f D D.n+D.n) :=
 (x2z c d D.n nlr).setFin (.inr (by rw[(z2w D D.n).kind];exact z9j c.kind)) (y9n c.kind)
theorem v0i {D:MD} (c:VM D) (g:MSz D):MSz (revD D):=by
 have d:=z2w D D.n;have i:=c.arcs;have h:=c.n2;exact(v9r c g).msz (by rw[show (revD D).kind=D.kind from d.kind];exact c.kind) (by rw[show (revD D).n=D.n+1 from d.n];omega) (by rw[show (revD D).lead=D.lead from d.lead];exact g.lead) (by omega)
def stsD (D:MD):Nat->MD->MD
 | 0,M=>M
 | i+1,M=>(stsD D i M).state (D.fin i)
def cpA (D:MD) (low i:Nat):Nat->MD->MD
 | 0,M=>M
 | d+1,M=>(cpA D low i d M).arc (low+i) (D.ain i d) (D.aout i d) (D.aw i d) (D.ato i d+(low:Int))
def lvD (o:Option Nat) (s:Nat) (f:ByteArray) (M:MD):MD:=match o with
 | none=>M
 | some t=>(M.setFin s ⟨#[]⟩).arc s 0 0 f (t:Int)
def cpF (D:MD) (low:Nat) (o:Option Nat) (i:Nat) (M:MD):MD:=if D.fin i=⟨#[]⟩ then M else lvD o (low+i) (D.fin i) M
def cpQ (D:MD) (low:Nat) (o:Option Nat):Nat->MD->MD
 | 0,M=>M
 | i+1,M=>cpF D low o i (cpA D low i (D.na i) (cpQ D low o i M))
def z2f (D:MD) (o:Option Nat) (M:MD):MD:=cpQ D M.n o D.n (stsD D D.n M)
def cpC (D:MD) (o:Option Nat) (i:Nat):Nat:=z0f D i+(if o.isSome then i else 0)
def catD (D E:MD) (lead:ByteArray):MD :=
 { z2f D (some E.start.toNat) (z2f E none { z1e D.kind 0 lead with }) with start:=(E.n:Int)+D.start }
theorem z6m (D:MD) (M:MD):∀ i,(stsD D i M).n=M.n+i
 | 0=>rfl
 | i+1=>by show (stsD D i M).n+1=_;rw[z6m D M i];omega
theorem z5r (D:MD) (M:MD):∀ i,(stsD D i M).kind=M.kind/\(stsD D i M).lead=M.lead/\(stsD D i M).start=M.start
 | 0=>⟨rfl,rfl,rfl⟩
 | i+1=>z5r D M i
theorem x5a (D:MD) (M:MD) {p:Nat} (hp:p<M.n):∀ i,(stsD D i M).fin p=M.fin p
 | 0=>rfl
 | i+1=>by
  show (if p=(stsD D i M).n then D.fin i else (stsD D i M).fin p)=_
  rw[z6m,if_neg (by omega)];exact x5a D M hp i
theorem y7n (D:MD) (M:MD) {p:Nat}:∀ i,p<i->(stsD D i M).fin (M.n+p)=D.fin p
 | i+1,hp=>by
  show (if M.n+p=(stsD D i M).n then D.fin i else (stsD D i M).fin (M.n+p))=_
  rw[z6m];by_cases e:p=i
  ·subst e;rw[if_pos rfl]
  rw[if_neg (by omega)];exact y7n D M i (by omega)
theorem x1d (k:KK) (D:MD) (M:MD) {p:Nat} (hp:p<M.n) (f:Int->Int->RK k->Nat->RK k):∀ i,asum k (stsD D i M) p f=asum k M p f
 | 0=>rfl
 | i+1=>by
  show asum k ((stsD D i M).state (D.fin i)) p f=_;rw[y6r k _ _ (by rw[z6m];omega)];exact x1d k D M hp f i
theorem y3m (k:KK) (D:MD) (M:MD) {p:Nat} (f:Int->Int->RK k->Nat->RK k):∀ i,p<i->asum k (stsD D i M) (M.n+p) f=zero
 | i+1,hp=>by
  show asum k ((stsD D i M).state (D.fin i)) (M.n+p) f=_;by_cases e:p=i
  ·subst e;have:=v7e k (stsD D p M) (D.fin p) f;rw[z6m] at this;exact this
  rw[y6r k _ _ (by rw[z6m];omega)];exact y3m k D M f i (by omega)
theorem y4g {D:MD} (hV:VM D) (hS:MSz D) {M:MD} {N c:Nat} (hk:M.kind=D.kind) (h:BOk M N c):∀ i,i<=D.n->BOk (stsD D i M) N c
 | 0,_=>h
 | i+1,hi=>(y4g hV hS hk h i (by omega)).state (by rw[(z5r D M i).1,hk];exact hV.fin i (by omega)) (hS.fin i)
theorem z8r (D:MD) (low i:Nat) {M M':MD} (h:Skel M M'):∀ d,Skel M (cpA D low i d M')
 | 0=>h
 | d+1=>(z8r D low i h d).arc _ _ _ _ _
theorem z7n (D:MD) (low:Nat) (o:Option Nat) (M:MD):∀ i,(cpQ D low o i M).kind=M.kind/\(cpQ D low o i M).lead=M.lead/\(cpQ D low o i M).start=M.start/\(cpQ D low o i M).n=M.n
 | 0=>⟨rfl,rfl,rfl,rfl⟩
 | i+1=>by
  have h1:=z7n D low o M i;have h2:=z8r D low i (Skel.refl (cpQ D low o i M)) (D.na i);have h3:(cpA D low i (D.na i) (cpQ D low o i M)).kind=M.kind/\(cpA D low i (D.na i) (cpQ D low o i M)).lead=M.lead/\(cpA D low i (D.na i) (cpQ D low o i M)).start=M.start/\(cpA D low i (D.na i) (cpQ D low o i M)).n=M.n :=
   ⟨h2.kind.trans h1.1,h2.lead.trans h1.2.1,h2.start.trans h1.2.2.1,h2.n.trans h1.2.2.2⟩
  have h4:cpQ D low o (i+1) M=cpA D low i (D.na i) (cpQ D low o i M)\/∃ t,cpQ D low o (i+1) M=((cpA D low i (D.na i) (cpQ D low o i M)).setFin (low+i) ⟨#[]⟩).arc (low+i) 0 0 (D.fin i) t:=by
   show cpF D low o i (cpA D low i (D.na i) (cpQ D low o i M))=_\/∃ t,cpF D low o i (cpA D low i (D.na i) (cpQ D low o i M))=_;unfold cpF
   split
   ·exact .inl rfl
   cases o with
   | none=>exact .inl rfl
   | some t=>exact .inr ⟨_,rfl⟩
  rcases h4 with h4|⟨t,h4⟩
  ·rw[h4];exact h3
  rw[h4];exact h3
theorem y9j (D:MD) (low:Nat) (o:Option Nat) (M:MD) {p:Nat}:∀ i,(cpQ D low o i M).fin p=if o.isSome/\low<=p/\p<low+i/\D.fin (p-low)≠⟨#[]⟩ then ⟨#[]⟩ else M.fin p
 | 0=>by rw[if_neg (by omega)];rfl
 | i+1=>by
  have ih:=y9j D low o M (p:=p) i;have h2:=z8r D low i (Skel.refl (cpQ D low o i M)) (D.na i);have h3:(cpA D low i (D.na i) (cpQ D low o i M)).fin p=(cpQ D low o i M).fin p:=by rw[h2.fin]
  show (cpF D low o i (cpA D low i (D.na i) (cpQ D low o i M))).fin p=_;unfold cpF;by_cases e:D.fin i=⟨#[]⟩
  ·rw[if_pos e,h3,ih];by_cases e2:p=low+i
   ·subst e2;rw[if_neg (by omega),if_neg (fun h=>h.2.2.2 (by rw[Nat.add_sub_cancel_left];exact e))]
   simp only[show (p<low+(i+1))↔(p<low+i) by omega]
  rw[if_neg e];cases o with
  | none=>show (cpA D low i (D.na i) (cpQ D low none i M)).fin p=_;rw[h3,ih];simp
  | some t =>
   show (if p=low+i then ⟨#[]⟩ else (cpA D low i (D.na i) (cpQ D low (some t) i M)).fin p)=_
   by_cases e2:p=low+i
   ·subst e2;rw[if_pos rfl,if_pos ⟨rfl,by omega,by omega,by rw[Nat.add_sub_cancel_left];exact e⟩]
   rw[if_neg e2,h3,ih];simp only[show (p<low+(i+1))↔(p<low+i) by omega]
theorem x5i {D:MD} (hV:VM D) (hS:MSz D) {low N i:Nat} (hi:i<D.n) (hN:low+D.n<=N) {M:MD} {c:Nat} (hk:M.kind=D.kind) (h:BOk M N c):∀ d,d<=D.na i->BOk (cpA D low i d M) N (c+d)
 | 0,_=>h
 | d+1,hd=>by
  have a:=hV.arc i d hi (by omega);refine(x5i hV hS hi hN hk h d (by omega)).put ⟨a.i0,a.i1⟩ ⟨a.o0,a.o1⟩ ⟨by have:=a.t0;omega,by have:=a.t1;omega⟩ ?_ (hS.aw i d);rw[show (cpA D low i d M).kind=D.kind from (z8r D low i (Skel.refl M) d).kind.trans hk];exact a.wt
theorem y6a {D:MD} (hV:VM D) (hS:MSz D) {low N:Nat} {o:Option Nat} (ho:∀ t,o=some t->t<N) (hN:low+D.n<=N) {M:MD} {c:Nat} (hk:M.kind=D.kind) (h:BOk M N c):∀ i,i<=D.n->BOk (cpQ D low o i M) N (c+cpC D o i)
 | 0,_=>h.mono nlr (by unfold cpC;omega)
 | i+1,hi=>by
  have hk1:(cpQ D low o i M).kind=D.kind:=(z7n D low o M i).1.trans hk;have h1:=x5i hV hS (i:=i) (by omega) hN hk1 (y6a hV hS ho hN hk h i (by omega)) (D.na i) nlr;have hk2:(cpA D low i (D.na i) (cpQ D low o i M)).kind=D.kind:=(z8r D low i (Skel.refl _) _).kind.trans hk1;have hc:c+cpC D o i+D.na i+(if o.isSome then 1 else 0)=c+cpC D o (i+1):=by
   unfold cpC;show _=c+(z0f D i+D.na i+_);split<;>omega
  show BOk (cpF D low o i (cpA D low i (D.na i) (cpQ D low o i M))) N (c+cpC D o (i+1));rw[<- hc];unfold cpF
  split
  ·exact h1.mono nlr (by omega)
  rename_i hf;cases o with
  | none=>exact h1.mono nlr (by omega)
  | some t =>
   have h2:=ho t rfl;exact(h1.setFin (q:=low+i) (s:=⟨#[]⟩) (.inl rfl) (Nat.zero_le _)).put ⟨by omega,by omega⟩ ⟨by omega,by omega⟩ ⟨by omega,by omega⟩ (by
    show z0m (cpA D low i (D.na i) (cpQ D low (some t) i M)).kind (D.fin i)=true;rw[hk2];exact(hV.fin i (by omega)).resolve_left hf) (hS.fin i)
theorem y7g (k:KK) {D:MD} (hV:VM D) {low i:Nat} (hi:i<D.n) (M:MD) (p:Nat) (f:Int->Int->RK k->Nat->RK k):∀ d,d<=D.na i->asum k (cpA D low i d M) p f=asum k M p f+(if p=low+i then sum (fun d=>f (D.ain i d) (D.aout i d) (wval k (D.aw i d)) (low+(D.ato i d).toNat)) d else zero)
 | 0,_=>by show _=_+(if _ then zero else zero);simp[a0];rfl
 | d+1,hd=>by
  show asum k ((cpA D low i d M).arc _ _ _ _ _) p f=_;rw[y9f,y7g k hV hi M p f d (by omega),aA]
  congr 1
  have a:=(hV.arc i d hi (by omega)).t0;rw[show (D.ato i d+(low:Int)).toNat=low+(D.ato i d).toNat by omega]
  split
  ·rfl
  exact a0 _
def endS (k:KK) (D:MD) (o:Option Nat) (i:Nat) (f:Int->Int->RK k->Nat->RK k):RK k:=match o with
 | none=>zero
 | some t=>f 0 0 ((rmOf k D).fin i) t
theorem v7w (k:KK) (D:MD) (low:Nat) (o:Option Nat) (i:Nat) (M:MD) (p:Nat) (f:Int->Int->RK k->Nat->RK k) (hf:o=none\/∀ s t r,f s t zero r=zero) :
  asum k (cpF D low o i M) p f=asum k M p f+(if p=low+i then endS k D o i f else zero):=by
 unfold cpF;cases o with
 | none =>
  show asum k (if D.fin i=⟨#[]⟩ then M else M) p f=asum k M p f+(if p=low+i then zero else zero)
  rw[show (if p=low+i then (zero:RK k) else zero)=zero by split<;>rfl,a0];split<;>rfl
 | some t =>
  show _=asum k M p f+(if p=low+i then f 0 0 (if D.fin i=⟨#[]⟩ then zero else wval k (D.fin i)) t else zero)
  by_cases e:D.fin i=⟨#[]⟩
  ·rw[if_pos e,if_pos e]
   rcases hf with h|h
   ·cases h
   rw[h];simp[a0]
  rw[if_neg e,if_neg e];show asum k ((M.setFin (low+i) ⟨#[]⟩).arc (low+i) 0 0 (D.fin i) (t:Int)) p f=_;rw[y9f,x5j];rfl
theorem y2w (k:KK) {D:MD} (hV:VM D) (low:Nat) (o:Option Nat) (M:MD) (p:Nat) (f:Int->Int->RK k->Nat->RK k) (hf:o=none\/∀ s t r,f s t zero r=zero):∀ i,i<=D.n ->
  asum k (cpQ D low o i M) p f=asum k M p f+(if low<=p/\p<low+i then sum (fun d=>f (D.ain (p-low) d) (D.aout (p-low) d) (wval k (D.aw (p-low) d)) (low+(D.ato (p-low) d).toNat)) (D.na (p-low))+endS k D o (p-low) f else zero)
 | 0,_=>by rw[if_neg (by omega),a0];rfl
 | i+1,hi=>by
  show asum k (cpF D low o i (cpA D low i (D.na i) (cpQ D low o i M))) p f=_;rw[v7w k D low o i _ p f hf,y7g k hV (by omega) _ p f _ nlr,y2w k hV low o M p f hf i (by omega)];by_cases e:p=low+i
  ·subst e;rw[if_neg (by omega),if_pos rfl,if_pos rfl,if_pos (by omega),a0,Nat.add_sub_cancel_left,aA]
  rw[if_neg e,if_neg e,a0,a0];simp only[show (p<low+(i+1))↔(p<low+i) by omega]
theorem x3k {D E:MD} (F:VM D) (m:MSz D) (z:VM E) (l:MSz E) (B:E.kind=D.kind) (lead:ByteArray):BOk (catD D E lead) (E.n+D.n) (z0f E E.n+(z0f D D.n+D.n))/\(catD D E lead).n=E.n+D.n/\(catD D E lead).kind=D.kind/\(catD D E lead).lead=lead:=by
 have I:=BOk.empty D.kind 0 lead (E.n+D.n);have H:=y4g z l (M:=z1e D.kind 0 lead) B.symm I E.n nlr;have A:(stsD E E.n (z1e D.kind 0 lead)).n=E.n:=by rw[z6m];exact Nat.zero_add _
 have p:(stsD E E.n (z1e D.kind 0 lead)).kind=E.kind:=by rw[(z5r _ _ _).1];exact B.symm
 have G:=y6a z l (low:=0) (N:=E.n+D.n) (o:=none) (fun _ h=>by cases h) (by omega) p H E.n nlr;have g:=z7n E 0 none (stsD E E.n (z1e D.kind 0 lead)) E.n;have i:(z2f E none (z1e D.kind 0 lead)).kind=D.kind:=by unfold z2f;exact g.1.trans (p.trans B)
 have k:(z2f E none (z1e D.kind 0 lead)).n=E.n:=by unfold z2f;exact g.2.2.2.trans A
 have J:=y4g F m (M:=z2f E none (z1e D.kind 0 lead)) i G D.n nlr;have u:(stsD D D.n (z2f E none (z1e D.kind 0 lead))).kind=D.kind:=by rw[(z5r _ _ _).1];exact i
 have C:(stsD D D.n (z2f E none (z1e D.kind 0 lead))).n=E.n+D.n:=by rw[z6m,k]
 have c:=y6a F m (low:=E.n) (N:=E.n+D.n) (o:=some E.start.toNat) (fun t h=>by cases h;have:=z.s0;have:=z.s1;omega) nlr u J D.n nlr;have d:=z7n D E.n (some E.start.toNat) (stsD D D.n (z2f E none (z1e D.kind 0 lead))) D.n;have K:(0+cpC E none E.n+cpC D (some E.start.toNat) D.n)=z0f E E.n+(z0f D D.n+D.n):=by unfold cpC;simp
 rw[K] at c;have j:catD D E lead={ cpQ D E.n (some E.start.toNat) D.n (stsD D D.n (z2f E none (z1e D.kind 0 lead))) with start:=(E.n:Int)+D.start }:=by
  show ({ cpQ D (z2f E none (z1e D.kind 0 lead)).n (some E.start.toNat) D.n (stsD D D.n (z2f E none (z1e D.kind 0 lead))) with start:=(E.n:Int)+D.start }:MD)=_;rw[k]
 rw[j];refine⟨⟨c.fin,c.arc,c.na,fun n=>?_,c.fsm,c.asm⟩,d.2.2.2.trans C,d.1.trans u,?_⟩
 ·have:∀ (X:MD) (s:Int) n,z0f { X with start:=s } n=z0f X n:=fun X s n=>by
   induction n with
   | zero=>rfl
   | succ n ih=>exact congrArg (·+X.na n) ih
  rw[this];exact c.cnt n
 show (cpQ D E.n (some E.start.toNat) D.n (stsD D D.n (z2f E none (z1e D.kind 0 lead)))).lead=lead;rw[d.2.1,(z5r _ _ _).2.1];unfold z2f;rw[(z7n _ _ _ _ _).2.1,(z5r _ _ _).2.1];rfl
theorem u1k {k:KK} {D E:MD} (C:VM D) (L:VM E) (O:k.1=D.kind) {lead:ByteArray} (N:wval k lead=wval k D.lead*wval k E.lead):CatOf (rmOf k D) (rmOf k E) (rmOf k (catD D E lead)) E.n 0:=by
 obtain⟨G,s⟩:∃ M,M=z1e D.kind 0 lead:=⟨_,rfl⟩;obtain⟨c,j⟩:∃ M,M=z2f E none G:=⟨_,rfl⟩;have l:G.n=0:=by rw[s];rfl
 have o:c.n=E.n:=by rw[j];unfold z2f;rw[(z7n _ _ _ _ _).2.2.2,z6m,l,Nat.zero_add]
 have g:catD D E lead={ cpQ D E.n (some E.start.toNat) D.n (stsD D D.n c) with start:=(E.n:Int)+D.start }:=by
  show ({ cpQ D (z2f E none (z1e D.kind 0 lead)).n (some E.start.toNat) D.n (stsD D D.n (z2f E none (z1e D.kind 0 lead))) with start:=(E.n:Int)+D.start }:MD)=_;rw[show z2f E none (z1e D.kind 0 lead)=c by rw[j,s],o]
 have u:∀ p,p<E.n->c.fin p=E.fin p:=fun p A=>by
  rw[j];unfold z2f;rw[y9j,if_neg (fun h=>by have:=h.1;cases this)];have:=y7n E G (p:=p) E.n A;rw[l,Nat.zero_add] at this;exact this
 have m:∀ p,p<E.n->∀ f:Int->Int->RK k->Nat->RK k,asum k c p f=sum (fun d=>f (E.ain p d) (E.aout p d) (wval k (E.aw p d)) (0+(E.ato p d).toNat)) (E.na p):=fun p A f=>by
  rw[j];unfold z2f;rw[l,y2w k L 0 none _ p f (.inl rfl) E.n nlr,if_pos (by omega),Nat.sub_zero,show endS k E none p f=zero from rfl,a0];have:=y3m k E G (p:=p) f E.n A;rw[l,Nat.zero_add] at this;rw[this,z0]
 refine⟨?_,?_,fun q I=>?_,fun p A=>?_,fun q I f hf=>?_,fun p A f=>?_⟩
 ·rw[g];show ((E.n:Int)+D.start).toNat=E.n+D.start.toNat;have:=C.s0;omega
 ·rw[g];show wval k (cpQ D E.n (some E.start.toNat) D.n (stsD D D.n c)).lead=wval k D.lead*wval k E.lead;rw[(z7n _ _ _ _ _).2.1,(z5r _ _ _).2.1,j];unfold z2f;rw[(z7n _ _ _ _ _).2.1,(z5r _ _ _).2.1,s];exact N
 ·rw[g];have B:q<D.n:=I;have e:(cpQ D E.n (some E.start.toNat) D.n (stsD D D.n c)).fin (E.n+q)=⟨#[]⟩:=by
   rw[y9j];by_cases h:D.fin q=⟨#[]⟩
   ·rw[if_neg (fun F=>F.2.2.2 (by rw[Nat.add_sub_cancel_left];exact h))];have:=y7n D c (p:=q) D.n B;rw[o] at this;rw[this];exact h
   exact if_pos ⟨rfl,by omega,by omega,by rw[Nat.add_sub_cancel_left];exact h⟩
  show (if (cpQ D E.n (some E.start.toNat) D.n (stsD D D.n c)).fin (E.n+q)=⟨#[]⟩ then zero else _)=zero
  exact if_pos e
 ·rw[g];have z:p<E.n:=A;have e:(cpQ D E.n (some E.start.toNat) D.n (stsD D D.n c)).fin (0+p)=E.fin p:=by
   rw[Nat.zero_add,y9j,if_neg (by omega),x5a D c (by omega)];exact u p z
  show (if (cpQ D E.n (some E.start.toNat) D.n (stsD D D.n c)).fin (0+p)=⟨#[]⟩ then zero else wval k ((cpQ D E.n (some E.start.toNat) D.n (stsD D D.n c)).fin (0+p)))=if E.fin p=⟨#[]⟩ then zero else wval k (E.fin p)
  rw[e]
 ·rw[g];have B:q<D.n:=I;have H:=y2w k C E.n (some E.start.toNat) (stsD D D.n c) (E.n+q) f (.inr hf) D.n nlr;have F:=y3m k D c (p:=q) f D.n B;rw[o] at F;rw[F,z0,if_pos (by omega),Nat.add_sub_cancel_left] at H;rw[Nat.zero_add];exact H
 rw[g];have z:p<E.n:=A;have H:=y2w k C E.n (some E.start.toNat) (stsD D D.n c) p;have K:asum k (cpQ D E.n (some E.start.toNat) D.n (stsD D D.n c)) p f=asum k (stsD D D.n c) p f:=by
  have:∀ i,i<=D.n->asum k (cpQ D E.n (some E.start.toNat) i (stsD D D.n c)) p f=asum k (stsD D D.n c) p f:=fun i=>by
   induction i with
   | zero=>intro _;rfl
   | succ i ih =>
    intro hi;show asum k (cpF D E.n (some E.start.toNat) i (cpA D E.n i (D.na i) (cpQ D E.n (some E.start.toNat) i (stsD D D.n c)))) p f=_;have J:asum k (cpA D E.n i (D.na i) (cpQ D E.n (some E.start.toNat) i (stsD D D.n c))) p f=asum k (stsD D D.n c) p f:=by
     rw[y7g k C (by omega) _ p f _ nlr,ih (by omega),if_neg (by omega),a0]
    unfold cpF
    split
    ·exact J
    show asum k (((cpA D E.n i (D.na i) (cpQ D E.n (some E.start.toNat) i (stsD D D.n c))).setFin (E.n+i) ⟨#[]⟩).arc (E.n+i) 0 0 (D.fin i) _) p f=_;rw[y9f,x5j,J,if_neg (by omega),a0]
  exact this D.n nlr
 rw[x1d k D c (by omega),m p z] at K;rw[Nat.zero_add];exact K
def atW (n:Nat) (x:Nat->Int) (i:Nat):Int:=if i<n then x i else 0
def z4a (kind:Int) (na:Nat) (x:Nat->Int) (nb:Nat) (y:Nat->Int) (v:ByteArray):Nat->MD
 | 0=>(z1e kind 0 v).state ⟨#[]⟩
 | i+1=>((z4a kind na x nb y v i).state ⟨#[]⟩).arc i (atW na x i) (atW nb y i) (oneF kind) ((i+1:Nat):Int)
def z9n (kind:Int) (na:Nat) (x:Nat->Int) (nb:Nat) (y:Nat->Int) (v:ByteArray):MD:=(z4a kind na x nb y v (max na nb)).setFin (max na nb) (oneF kind)
end
section
open Go.RowKit Go.Deep
theorem z7a {g:Nat} {t:TypeId} {n:Nat} {z:Value}:∀ (c o:Nat) {w:World} {F:Nat->Value},w.rowIs g t n F->(w.setCells g o (List.replicate c z)).rowIs g t n (fun j=>if o<=j/\j<o+c then z else F j)
 | 0,o,w,F,h=>h.congr (fun i _=>by rw[if_neg (by omega)])
 | c+1,o,w,F,h=>by
  have h1:=z7a (z:=z) c (o+1) (h.set o z);refine World.rowIs.congr h1 (fun i _=>?_);by_cases e:i=o
  ·subst e;rw[if_neg (by omega),if_pos rfl,if_pos (by omega)]
  by_cases e2:o+1<=i/\i<o+1+c
  ·rw[if_pos e2,if_pos (by omega)]
  rw[if_neg e2,if_neg e,if_neg (by omega)]
theorem y1q {B b:Nat} {a:World} {z:Value}:∀ (c o:Nat) {w:World},Below B a w->B<=b->Below B a (w.setCells b o (List.replicate c z))
 | 0,_,_,h,_=>h
 | c+1,o,_,h,hb=>y1q c (o+1) (h.setCell (p:=⟨b,o,none⟩) hb z) hb
def RepES (n:Nat) (z:ByteArray) (w:World) (r:Ending) (w':World):Prop:=Below w.heap.size w w'/\∃ g,r=.returned (.slice (some ⟨g,0,none⟩) n n)/\w.heap.size<=g/\w'.rowIs g 9 n (fun _=>.string z)
theorem x3e {n xb xo xc:Nat} {z:ByteArray} (w:World) (h1:1<=n) (hn:n<=3000) (hx:w.cell? ⟨xb,xo,none⟩=some (.string z)) :
  Calls prog 121 #[.slice (some ⟨xb,xo,none⟩) 1 xc,.int .i64 (n:Int)] w (RepES n z w):=by
 have Y:=run_make_row' (P:=prog) 79 9 (.string ⟨#[]⟩) 16 underlying79 x1u rfl .i64 .i64 n (by omega) (by omega);have L:∀ Q,Calls prog 152 #[.int .u64 1,.int .u64 (n:Int)] Q (fun e w'=>e=.returned (.tuple #[.int .u64 0,.int .u64 (n:Int)])/\Q=w'):=fun Q=>(Tryz.bits_Mul 1 n (by omega) (by omega) Q).mono fun e w' h=>by
  refine⟨h.1.trans ?_,h.2.symm⟩;rw[show 1*n / 18446744073709551616=0 by omega,show 1*n % 18446744073709551616=n by omega];rfl
 have U:=qh L;clear L;have hz:decide ((n:Int)<0)=false:=by simp
 have a9:decide ((9223372036854775807:Int)<(n:Int))=false:=by simp;omega
 go_enter func121,ntmps121
 go_wp2_with fail
 refine(U.out _).mono ?_;rintro r Q ⟨rfl,rfl⟩;clear hz;have s:(prog.info? 9).map (·.size)=some 1:=by kernel_rfl
 have d:=World.rowIs_made w (.string ⟨#[]⟩) n 9;have m:=run_copy_cells (P:=prog) (w.alloc (.cells (madeCells #[.string ⟨#[]⟩] n) 9)) 79 79 3 9 w.heap.size 0 n n ⟨xb,xo,none⟩ 1 xc (List.replicate 1 (.string z)) underlying79 s (by rw[List.length_replicate];exact(Nat.min_eq_left h1).symm)
  (fun j v B=>by
   have G:j=0:=by have:=(List.getElem?_eq_some_iff.1 B).1;simpa using this
   subst G;simp at B;subst B;rw[Addr.add_lit,Nat.add_zero];exact(World.grownBy_alloc w _ none).cell hx (by simp))
  (fun j G=>by rw[d.cell (by simp at G;omega)];rfl) (fun j _=>d.frozen _) (fun v B=>by rw[List.eq_of_mem_replicate B];rfl)
 have u:=z7a (z:=.string z) 1 0 d;have H:=y1q (z:=.string z) 1 0 (((Below.refl w.heap.size w).alloc nlr (.cells (madeCells #[.string ⟨#[]⟩] n) 9))) nlr;rw[List.length_replicate] at m;have l:=qh u;clear u d;have o:=qh H;clear H;obtain⟨W1,J⟩:∃ W1,W1=(w.alloc (.cells (madeCells #[.string ⟨#[]⟩] n) 9)).setCells w.heap.size 0 (List.replicate 1 (.string z)):=⟨_,rfl⟩;rw[<- J] at l o m;have a6:=qh J;clear J s
 go_wp2_with fail
 clear Y m;obtain⟨g,W⟩:=exq (w.heap.size);rw[<- W] at l;rw[<- W];have R:w.heap.size<=g:=by omega
 clear W
 go_loopw [8] (fun v wr=>∃ c:Nat,1<=c/\c<=n/\v=.int .i64 (c:Int)/\wr.rowIs g 9 n (fun j=>if j<c then .string z else .string ⟨#[]⟩)/\Below w.heap.size w wr) (fun v _=>n-(intOf v).toNat)
 case atStart=>exact⟨1,nlr,h1,by go_num,l.out.congr (fun j _=>by by_cases e:j<1<;>simp[e]),o.out⟩
 obtain⟨c,a5,a4,rfl,hr,hb⟩:=hrel;clear l o;have N:=qh hr;clear hr;have HB:=qh hb;clear hb;by_cases a7:c<n
 ·have a3:(c:Int)<(n:Int):=by omega
  have a2:(0:Int)<=(c:Int):=by omega
  have a1:(c:Int)<=(n:Int):=by omega
  have s:(prog.info? 9).map (·.size)=some 1:=by kernel_rfl
  obtain⟨k,S⟩:=exq (Nat.min c (n-c));have T:1<=k/\k<=c/\c+k<=n:=by rw[S];show 1<=min c (n-c)/\min c (n-c)<=c/\c+min c (n-c)<=n;omega
  have m:=run_copy_cells (P:=prog) wr.drew 79 79 3 9 g c (n-c) (n-c) ⟨g,0,none⟩ c n (List.replicate k (.string z)) underlying79 s (by rw[List.length_replicate];exact S)
   (fun j v B=>by
    have G:j<k:=by have:=(List.getElem?_eq_some_iff.1 B).1;simpa using this
    have e:=(List.getElem?_eq_some_iff.1 B).2;rw[List.getElem_replicate] at e;subst e;rw[Addr.add_lit,Nat.zero_add];have h2:=N.out.cell (i:=j) (by omega);rw[if_pos (by omega)] at h2;exact h2)
   (fun j G=>by rw[List.length_replicate] at G;rw[show wr.drew.cell? ⟨g,c+j,none⟩=_ from N.out.cell (i:=c+j) (by omega)];rfl) (fun j _=>N.out.frozen _) (fun v B=>by rw[List.eq_of_mem_replicate B];rfl)
  rw[List.length_replicate,show goInt k=Value.int .i64 (k:Int) from rfl] at m;have A:=z7a (z:=.string z) k c (show wr.drew.rowIs g 9 n _ from N.out);have C:=y1q (z:=.string z) k c HB.out.drew R;have O:=qh m;clear m s;have p:=qh A;clear A;have F:=qh C;clear C;have HK:=qh S;clear S;have X:¬ n=c:=by omega
  have hw:IntKind.i64.wrap ((c:Int)+(k:Int))=(c:Int)+(k:Int):=by rw[IntKind.wrap_i64];omega
  go_wp2_with fail
  refine z0h (fun _=>True) 9 (by kernel_rfl) ?_;refine z0c.tm 0 trivial ?_;refine z0c.tm 1 trivial ?_;refine z0c.tm 2 trivial ?_;refine z0c.tm 3 trivial ?_;refine z0c.tm 4 trivial ?_;refine z0c.tm 5 trivial ?_;refine z0c.tm 6 trivial ?_
  try simp only[Act.put,tryL]
  refine z0c.on 7 fun K D=>?_;refine Lib.wp_copy_run _ (.tmp 41) (.tmp 44) 79 79 rfl _ _ (by simp[Act.eval,X]) (by simp[Act.eval]) O.out ?_;refine D.out _ _ (.inr trivial) ?_;clear D K;obtain⟨W2,I⟩:=exq (wr.drew.setCells g c (List.replicate k (.string z)));rw[<- I] at p F;rw[<- I];clear I O
  try simp only[Act.put,tryL]
  refine z0c.on 8 fun K D=>?_;go_simp;refine D.out _ _ (.inr trivial) ?_;clear D K
  try simp only[Act.put,tryL]
  refine z0c.on 9 fun K D=>?_;go_simp;refine D.out _ _ (.inl rfl) (z0c.dn ?_);clear D K hw;go_wp2;go_roundw
  case rel =>
   refine⟨c+k,by omega,T.2.2,by go_num,p.out.congr (fun j G=>?_),F.out⟩;by_cases e:c<=j/\j<c+k
   ·rw[if_pos e,if_pos e.2]
   rw[if_neg e];by_cases e2:j<c
   ·rw[if_pos e2,if_pos (by omega)]
   rw[if_neg e2,if_neg (by omega)]
  simp[intOf];omega
 have E:c=n:=by omega
 have a8:¬ ((c:Int)<(n:Int)):=by omega
 have Z:=qh E;clear E;go_wp2;go_ret;exact⟨HB.out,g,rfl,R,N.out.congr (fun j G=>if_pos (by have:=Z.out;omega))⟩
end
section
open Go.RowKit Go.Deep
theorem Fr.gbc {w d:World} {c:Nat} (h:Fr (fun q=>q=c) w d):w.grownBy d (some c):=(h.mono (C':=fun q=>some c=some q) (fun q _ e=>by rw[e])).gb
structure RsI (w wr:World) (cb vb lb:Nat) (D:MD) (sv stv:Value) (v:Nat->ByteArray) (s:WS):Prop where
 sc:Scl wr cb D sv stv s.2
 rl:wr.rowIs lb 9 D.n (fun j=>.string (s.1 j))
 rv:wr.rowIs vb 9 D.n (fun j=>.string (v j))
 fr:Fr (fun q=>q=cb) w wr
 lw:w.heap.size<=lb
 vl:vb≠lb
 vc:vb≠cb
 cl:cb≠lb
theorem RsI.stepped {w wr g:World} {d vb i:Nat} {D:MD} {sv c:Value} {v:Nat->ByteArray} {s:WS} (h:RsI w wr d vb i D sv c v s) {e':Nat} (hf:Fr (fun q=>q=d) wr g) (j:Scl g d D sv c e'):RsI w g d vb i D sv c v (s.1,e') :=
 ⟨j,hf.row h.rl (fun e=>h.cl e.symm),hf.row h.rv h.vc,h.fr.trans hf,h.lw,h.vl,h.vc,h.cl⟩
theorem RsI.put {w g:World} {i vb c:Nat} {D:MD} {sv d:Value} {v:Nat->ByteArray} {s:WS} (h:RsI w g i vb c D sv d v s) (p:Nat) (x:ByteArray):RsI w (g.setCell ⟨c,p,none⟩ (.string x)) i vb c D sv d v (updS s.1 p x,s.2):=by
 have hf:Fr (fun q=>q=c) g (g.setCell ⟨c,p,none⟩ (.string x)):=(Fr.refl (fun q=>q=c) _).set (p:=⟨c,p,none⟩) (.inl rfl) _;refine⟨h.sc.kept hf h.cl,(h.rl.set p (.string x)).congr (fun j _=>?_),hf.row h.rv h.vl,h.fr.set (p:=⟨c,p,none⟩) (.inr h.lw) _,h.lw,h.vl,h.vc,h.cl⟩;show _=Value.string (updS s.1 p x j);unfold updS;by_cases e:j=p
 ·rw[if_pos e,if_pos e]
 rw[if_neg e,if_neg e]
theorem y4x {m rb:Nat} {D:MD} {a:Option Addr} {cap:Nat} {I:Value} {st:StarO} {v:Nat->ByteArray} {e:Nat} (w:World) (hV:VM D) (hs:Scl w m D (.slice a D.n cap) I e) (d2:StV w I D.n st) (hv:w.rowIs rb 9 D.n (fun q=>.string (v q))) (c9:∀ q,smS (v q)) (w0:World) (e6:Below w0.heap.size w0 w) (b8:w0.heap.size<=m) (ht:Tab w0) :
  Calls prog 83 #[.pointer (some ⟨m,0,none⟩),.slice (some ⟨rb,0,none⟩) D.n D.n] w (RstE m rb D (.slice a D.n cap) I st v e w):=by
 have k4:=hs.c4;have k5:=hs.c5;have HS:=qh hs;clear hs;have HV:=qh hv;clear hv;cases st with
 | none =>
  have g9:I=.slice none 0 0:=d2;subst g9;have hq:=fun w=>y1w 75 79 underlying75 w none 0 0;rw[show (none:Option Addr).isNone=true from rfl] at hq
  go_enter func83,ntmps83
  go_wp2;go_ret;exact⟨rb,rfl,HV.out,HS.out,.inl rfl,Fr.refl _ _⟩
 | some S =>
  obtain⟨a6,d5⟩:=d2;obtain⟨sa,sc,sb,so,A,C,B,O,rfl,ha,_,_,_,_⟩:=a6.open;have g1:=hV.n1;have f7:=hV.n2;obtain rfl:=ha (by omega);clear ha;have hq:=fun w=>y1w 75 79 underlying75 w (some ⟨sb,so,none⟩) D.n sc;rw[show (some (⟨sb,so,none⟩:Addr)).isNone=false from rfl] at hq;by_cases he:e=0
  rotate_left
  ·have h5:¬ ((e:Int)=0):=by omega
   have o:z3w D.kind D.n (some S) v e=(v,e):=if_pos he;have z:=qh o;clear o
   go_enter func83,ntmps83
   go_wp2;go_ret;exact⟨rb,rfl,by rw[z.out];exact HV.out,by rw[z.out];exact HS.out,.inl rfl,Fr.refl _ _⟩
  subst he;obtain⟨kz,e1⟩:=exq (z0z D.kind);have o:z3w D.kind D.n (some S) v 0=rstQ D.kind S v D.n D.n (z1f,0):=by show (if (0:Nat)≠0 then (v,0) else rstQ D.kind S v D.n D.n (z1f,0))=_;rw[if_neg (by decide)]
  have z:=qh o;clear o;have d6:=qh e1;clear e1;have b6:=qh (z8e w HS.out g1 f7);have f9:=qh a6;clear a6;have f3:=qh d5;clear d5;have a5:=qh c9;clear c9;have f8:=qh ht;clear ht;have e3:=qh e6;clear e6;have g6:=qh b8;clear b8;have h7:=qh hV;clear hV
  go_enter func83,ntmps83
  go_wp2_with fail
  refine b6.out.mono ?_;rintro r w1 ⟨rfl,b1,J,f4⟩;obtain⟨s,a9⟩:=exq (w.heap.size);rw[<- a9] at b1;rw[<- a9];have U:Fr (fun q=>q=m) w w1:=J.mono (fun _ _ e=>e.elim);have d:=qh (show RsI w w1 m rb s D (.slice a D.n cap) (.slice (some ⟨sb,so,none⟩) D.n sc) v (z1f,0) from
   ⟨HS.out.kept J (fun e=>e),b1,J.row HV.out (fun e=>e),U,by omega,by have:=HV.out.lt;omega,z0j HV.out (show w.heap[m]?=_ from HS.out) (by decide),by have:=HS.out.lt;omega⟩)
  have g8:w.heap.size<=s:=by omega
  clear b1 J U f4 a9 b6 k4 k5 hq
  go_wp2_with fail
  go_loopw [27] (fun a8 wr=>∃ q:Nat,q<=D.n/\a8=.int .i64 (q:Int)/\RsI w wr m rb s D (.slice a D.n cap) (.slice (some ⟨sb,so,none⟩) D.n sc) v (rstQ D.kind S v D.n q (z1f,0))) (fun a8 _=>D.n-(intOf a8).toNat)
  case atStart=>exact⟨0,Nat.zero_le _,rfl,d.out⟩
  obtain⟨q,hq,rfl,hi⟩:=hrel;clear d;have d:=qh hi;clear hi;by_cases b4:q<D.n
  ·have h8:(q:Int)<(D.n:Int):=by omega
   have h3:(0:Int)<=(q:Int):=by omega
   have cv:=d.out.rv.cell b4;obtain⟨g,Q⟩:=exq (v q);have W:smS g:=by rw[Q];exact a5.out q
   rw[<- Q] at cv;obtain⟨s0,P⟩:=exq (rstQ D.kind S v D.n q (z1f,0));have a2:∀ j,smS (s0.1 j):=by rw[P];exact x3z a5.out q z7b
   have f1:rstQ D.kind S v D.n (q+1) (z1f,0)=rstP D.kind S v q D.n s0:=by rw[P];rfl
   rw[<- P] at d;have f2:=qh f1;clear f1 P;have d3:=qh a2;clear a2;have g7:=qh Q;clear Q;have a1:=qh W;clear W
   go_wp2_with fail
   clear cv
   go_loopw [34] (fun b2 wr=>∃ p:Nat,p<=D.n/\b2=.int .i64 (p:Int)/\RsI w wr m rb s D (.slice a D.n cap) (.slice (some ⟨sb,so,none⟩) D.n sc) v (rstP D.kind S v q p s0)) (fun b2 _=>D.n-(intOf b2).toNat)
   case atStart=>exact⟨0,Nat.zero_le _,rfl,d.out⟩
   obtain⟨p,hp,rfl,hi⟩:=hrel;clear d;obtain⟨s1,k⟩:=exq (rstP D.kind S v q p s0);rw[<- k] at hi;have Z:∀ j,smS (s1.1 j):=by rw[k];exact x2a (a5.out q) p d3.out
   have c8:=qh Z;clear Z;by_cases E:p<D.n
   ·have h6:(p:Int)<(D.n:Int):=by omega
    have h4:(0:Int)<=(p:Int):=by omega
    obtain⟨i2,i4,i3,h9,A,C,B,O,h0,g5,_,_,_,T⟩:=(f9.out.later HS.out hi.sc hi.fr.gbc (.inl rfl) (fun i _=>by omega)).open;have g2:=g5 (by omega);cases h0;cases g2;obtain⟨t0,t1,t2,t3,t4,t5,t6⟩:=T q b4;have t7:=t6 p E;clear T;obtain F:=t3 (by omega);rw[F] at t0;clear t1 t2 t3 t4 t5 t6 F;have c1:=hi.sc.c4;have c0:=hi.sc.c0;obtain⟨x,hx⟩:=exq (S q p);rw[<- hx] at t7;have c7:smS x:=by rw[hx];exact f3.out q p b4 E
    have g0:=qh c7;clear c7;have G:rstP D.kind S v q (p+1) s0=if g=⟨#[]⟩\/x=kz then s1 else (updS s1.1 p (z2e D.kind (s1.1 p) (z0s D.kind g x s1.2).1 (z0s D.kind g x s1.2).2).1,(z2e D.kind (s1.1 p) (z0s D.kind g x s1.2).1 (z0s D.kind g x s1.2).2).2):=by
     rw[k,hx,g7.out,d6.out];rfl
    have l:=qh G;clear G k hx;have d:=qh hi;clear hi;cases hO:(g.toList==[])
    ·have b5:g≠⟨#[]⟩:=fun e=>by rw[e] at hO;simp at hO
     have b0:=z2u D.kind wr;rw[<- d6.out] at b0;have e7:=qh b0;clear b0
     go_wp2_with fail
     refine e7.out.mono ?_;rintro r w2 ⟨rfl,a7⟩;have e5:Fr (fun q=>q=m) wr w2:=Fr.of_below a7;have L:=qh (d.out.stepped e5 (by unfold Scl;rw[a7.block m d.out.sc.lt];exact d.out.sc));clear t0 t7 c0 c1 d e5 a7 e7;cases hX:(x.toList==kz.toList)
     ·have e8:¬ (g=⟨#[]⟩\/x=kz):=fun h=>h.elim b5 (fun e=>by rw[e] at hX;simp at hX);have HN:=qh (l.out.trans (if_neg e8));clear e8 b5 l;obtain⟨wd,R⟩:=exq (w2.drew);have d0:Fr (fun q=>q=m) w2 wd:=by rw[R];exact(Fr.refl _ _).drew
      have u:=qh (L.out.stepped d0 (by rw[R];exact L.out.sc));clear d0 L;have c:wd.cell? ⟨s,p,none⟩=some (.string (s1.1 p)):=u.out.rl.cell E;have X:∀ wz,Fr (fun q=>q=m) w wz->Tab wz:=fun wz hf=>f8.out.below (e3.out.trans (hf.below e3.out.size (fun q e=>by rw[e];exact g6.out))) nlr;have a4:=qh X;clear X;have e0:=qh (y1m g x wd u.out.sc a1.out g0.out (a4.out _ u.out.fr));have a3:smS (z0s D.kind g x s1.2).1:=z6u a1.out;have d7:=qh a3;clear a3
      go_wp2_with fail
      refine z0h (fun wk=>wk.cell? ⟨s,p,none⟩=some (.string (s1.1 p))) 13 (by kernel_rfl) ?_;rw[<- R];clear R;refine z0c.tm 0 c ?_;refine z0c.tm 1 c ?_;refine z0c.tm 2 c ?_;refine z0c.tm 3 c ?_;refine z0c.tm 4 c ?_;refine z0c.tm 5 c ?_;refine z0c.tm 6 c ?_;refine z0c.tm 7 c ?_;refine z0c.tm 8 c ?_;refine z0c.tm 9 c ?_
      try simp only[Act.put,tryL]
      refine z0c.on 10 fun K Y=>?_;go_simp;refine e0.out.mono ?_;rintro r w3 ⟨rfl,e4,b7⟩;have H:=qh (u.out.stepped b7 e4);have e2:w3.cell? ⟨s,p,none⟩=some (.string (s1.1 p)):=H.out.rl.cell E;have b9:=qh (y0x (s1.1 p) (z0s D.kind g x s1.2).1 w3 H.out.sc (c8.out p) d7.out (a4.out _ H.out.fr));refine Y.out _ _ (.inr e2) ?_;clear Y K c e0 u e4 b7
      try simp only[Act.put,tryL]
      refine z0c.on 11 fun K Y=>?_;go_simp;refine b9.out.mono ?_;rintro r w4 ⟨rfl,d8,d4⟩;have N:=qh (H.out.stepped d4 d8);have b3:w4.cell? ⟨s,p,none⟩=some (.string (s1.1 p)):=N.out.rl.cell E;have fz:=N.out.rl.frozen p;refine Y.out _ _ (.inr b3) ?_;clear Y K e2 b9 H d8 d4
      try simp only[Act.put,tryL]
      refine z0c.tm 12 b3 ?_
      try simp only[Act.put,tryL]
      refine z0c.on 13 fun K Y=>?_;go_simp;refine Y.out _ _ (.inl rfl) (z0c.dn ?_);clear Y K b3;have g4:=qh (N.out.put p (z2e D.kind (s1.1 p) (z0s D.kind g x s1.2).1 (z0s D.kind g x s1.2).2).1);clear N fz;go_wp2;go_roundw
      case rel=>exact⟨p+1,by omega,by go_num,by rw[HN.out];exact g4.out⟩
      simp[intOf];omega
     have d9:x=kz:=toList_eq hX;have HN:=qh (l.out.trans (if_pos (.inr d9)));clear d9 b5 l;go_wp2;go_roundw
     case rel=>exact⟨p+1,by omega,by go_num,by rw[HN.out];exact L.out⟩
     simp[intOf];omega
    have e9:g=⟨#[]⟩:=z7h hO;have HN:=qh (l.out.trans (if_pos (.inl e9)));clear e9 l;go_wp2;go_roundw
    case rel=>exact⟨p+1,by omega,by go_num,by rw[HN.out];exact d.out⟩
    simp[intOf];omega
   have f0:p=D.n:=by omega
   have f5:¬ ((p:Int)<(D.n:Int)):=by omega
   rw[f0] at k;have HN:=qh (f2.out.trans k.symm);clear k f0;have d:=qh hi;clear hi;go_wp2;go_roundw
   case rel=>exact⟨q+1,by omega,by go_num,by rw[HN.out];exact d.out⟩
   simp[intOf];omega
  have d1:q=D.n:=by omega
  have f5:¬ ((q:Int)<(D.n:Int)):=by omega
  have g3:=qh d1;clear d1;go_wp2;go_ret;have h1:=d.out.rl;have h2:=d.out.sc;rw[g3.out] at h1 h2;exact⟨s,rfl,by rw[z.out];exact h1,by rw[z.out];exact h2,.inr g8,d.out.fr⟩
end
section
open Go.RowKit Go.Deep
def OpnG (D:MD) (sel:Int->Int->Bool) (sv:Value) (w:World) (r:Ending) (w':World):Prop :=
 Below w.heap.size w w'/\∃ cb stv st e,r=.returned (.pointer (some ⟨cb,0,none⟩))/\w.heap.size<=cb/\Scl w' cb D sv stv e/\StV w' stv D.n st/\SilOk D sel st e
structure RwI (w wr:World) (cb gR:Nat) (D:MD) (sel:Int->Int->Bool) (sv:Value) (rb:Nat->Nat) (q:Nat):Prop where
 hb:Below w.heap.size w wr
 sc:Scl wr cb D sv (.slice none 0 0) (serr D sel q)
 own:wr.ownsRow w.heap.size 79 1 (.slice (some ⟨gR,0,none⟩) q 60) q ((List.range q).map fun i=>.slice (some ⟨rb i,0,none⟩) D.n D.n)
 rows:∀ i,i<q->wr.rowIs (rb i) 9 D.n (fun j=>.string (smat D sel i j))
theorem z9v {w:World} {B g n cap:Nat} {e:TypeId} {l:List Value} (h:w.ownsRow B e 1 (.slice (some ⟨g,0,none⟩) n cap) n l):∃ cs,w.heap[g]?=some (.cells cs e (0,0)):=by
 rcases h.2 with ⟨d,_⟩|⟨s,i,c,d,hb,j,p,o,k,m⟩
 ·cases d
 cases d;exact⟨c,j⟩
structure RoI (w wr:World) (cb gR lb:Nat) (D:MD) (sel:Int->Int->Bool) (sv:Value) (rb:Nat->Nat) (q:Nat) (s:WS):Prop where
 hb:Below w.heap.size w wr
 sc:Scl wr cb D sv (.slice none 0 0) s.2
 own:wr.ownsRow w.heap.size 79 1 (.slice (some ⟨gR,0,none⟩) q 60) q ((List.range q).map fun i=>.slice (some ⟨rb i,0,none⟩) D.n D.n)
 rows:∀ i,i<q->wr.rowIs (rb i) 9 D.n (fun j=>.string (smat D sel i j))
 rl:wr.rowIs lb 9 D.n (fun j=>.string (s.1 j))
 ne:∀ i,i<q->rb i≠lb
 lc:w.heap.size<=cb
 ll:w.heap.size<=lb
theorem RwI.keep {w wr d:World} {c g:Nat} {D:MD} {sel:Int->Int->Bool} {sv:Value} {rb:Nat->Nat} {q:Nat} (h:RwI w wr c g D sel sv rb q) (hf:Fr (fun _=>False) wr d):RwI w d c g D sel sv rb q :=
 ⟨h.hb.trans (hf.below h.hb.size (fun _ e=>e.elim)),h.sc.kept hf (fun e=>e),World.ownsRow.kept h.own ⟨hf.os,hf.tape,hf.output,hf.size,fun q j _=>hf.block q j (fun e=>e)⟩ (row:=none) (.inr (by simp[Value.ownBlock])),fun i hi=>hf.row (h.rows i hi) (fun e=>e)⟩
theorem RwI.row {w wr k:World} {g l d:Nat} {D:MD} {sel:Int->Int->Bool} {sv:Value} {rb:Nat->Nat} {q:Nat} (h:RwI w wr g l D sel sv rb q) (hf:Fr (fun _=>False) wr k) (o:w.heap.size<=g) (p:wr.heap.size<=d) (m:k.rowIs d 9 D.n (fun j=>.string (zrC D.kind j))):RoI w k g l d D sel sv rb q (zrC D.kind,serr D sel q):=by
 have c:=h.keep hf;exact⟨c.hb,c.sc,c.own,c.rows,m,fun i hi e=>by have:=(h.rows i hi).lt;omega,o,by have:=h.hb.size;omega⟩
theorem RoI.keep {w wr g:World} {d j c:Nat} {D:MD} {sel:Int->Int->Bool} {sv:Value} {rb:Nat->Nat} {q:Nat} {s:WS} (h:RoI w wr d j c D sel sv rb q s) (hf:Fr (fun _=>False) wr g):RoI w g d j c D sel sv rb q s :=
 ⟨h.hb.trans (hf.below h.hb.size (fun _ e=>e.elim)),h.sc.kept hf (fun e=>e),World.ownsRow.kept h.own ⟨hf.os,hf.tape,hf.output,hf.size,fun q k _=>hf.block q k (fun e=>e)⟩ (row:=none) (.inr (by simp[Value.ownBlock])),fun i hi=>hf.row (h.rows i hi) (fun e=>e),hf.row h.rl (fun e=>e),h.ne,h.lc,h.ll⟩
theorem RoI.gne {w wr:World} {g c d:Nat} {D:MD} {sel:Int->Int->Bool} {sv:Value} {rb:Nat->Nat} {q:Nat} {s:WS} (h:RoI w wr g c d D sel sv rb q s):c≠g/\c≠d:=by
 obtain⟨j,i⟩:=z9v h.own;refine⟨fun e=>?_,fun e=>?_⟩
 ·have:=h.sc;unfold Scl at this;rw[<- e,i] at this;simp at this
 exact z0j h.rl i (by decide) e.symm
theorem RoI.stepped {w wr d:World} {c k j e':Nat} {D:MD} {sel:Int->Int->Bool} {sv:Value} {rb:Nat->Nat} {q:Nat} {s:WS} (h:RoI w wr c k j D sel sv rb q s) (hf:Fr (fun q=>q=c) wr d) (m:Scl d c D sv (.slice none 0 0) e'):RoI w d c k j D sel sv rb q (s.1,e') :=
 ⟨h.hb.trans (hf.below h.hb.size (fun q e=>by rw[e];exact h.lc)),m,World.ownsRow.kept h.own ⟨hf.os,hf.tape,hf.output,hf.size,fun q l g=>hf.block q l (fun e=>g (by rw[e]))⟩ (row:=some c) (.inr (by simp[Value.ownBlock];exact h.gne.1)),fun i hi=>hf.row (h.rows i hi) (z0j (h.rows i hi) (show wr.heap[c]?=_ from h.sc) (by decide)),hf.row h.rl (z0j h.rl (show wr.heap[c]?=_ from h.sc) (by decide)),h.ne,h.lc,h.ll⟩
theorem RoI.put {w wr:World} {d k c:Nat} {D:MD} {sel:Int->Int->Bool} {sv:Value} {rb:Nat->Nat} {q:Nat} {s:WS} (h:RoI w wr d k c D sel sv rb q s) (p:Nat) (x:ByteArray):RoI w (wr.setCell ⟨c,p,none⟩ (.string x)) d k c D sel sv rb q (updS s.1 p x,s.2):=by
 have hf:Fr (fun q=>q=c) wr (wr.setCell ⟨c,p,none⟩ (.string x)):=(Fr.refl (fun q=>q=c) _).set (p:=⟨c,p,none⟩) (.inl rfl) _;refine⟨h.hb.trans (hf.below h.hb.size (fun q e=>by rw[e];exact h.ll)),h.sc.kept hf (z0j h.rl (show wr.heap[d]?=_ from h.sc) (by decide)).symm,World.ownsRow.kept h.own ⟨hf.os,hf.tape,hf.output,hf.size,fun q l g=>hf.block q l (fun e=>g (by rw[e]))⟩ (row:=some c) (.inr (by simp[Value.ownBlock];exact h.gne.2)),fun i hi=>hf.row (h.rows i hi) (h.ne i hi),(h.rl.set p (.string x)).congr (fun j _=>?_),h.ne,h.lc,h.ll⟩;show _=Value.string (updS s.1 p x j);unfold updS;by_cases e:j=p
 ·rw[if_pos e,if_pos e]
 rw[if_neg e,if_neg e]
theorem RoI.done {w wr o:World} {m k c q:Nat} {D:MD} {sel:Int->Int->Bool} {sv:Value} {rb:Nat->Nat} (h:RoI w wr m k c D sel sv rb q (srow D sel q (serr D sel q))) (g:o.ownsRow w.heap.size 79 1 (.slice (some ⟨k,0,none⟩) (q+1) 60) (q+1) (((List.range q).map fun i=>.slice (some ⟨rb i,0,none⟩) D.n D.n)++[.slice (some ⟨c,0,none⟩) D.n D.n])) (l:wr.grownBy o (some k)) :
  RwI w o m k D sel sv (fun i=>if i=q then c else rb i) (q+1):=by
 have d:=h.gne;obtain⟨E,p⟩:=z9v h.own;have s:w.heap.size<=k:=by
  rcases h.own.2 with ⟨z,_⟩|⟨F,A,B,z,hb,_⟩
  ·cases z
  cases z;exact hb
 refine⟨h.hb.grown l (by have:=h.hb.size;omega) (fun j C=>by cases C;exact s),?_,?_,fun i hi=>?_⟩
 ·show Scl o m D sv _ (srow D sel q (serr D sel q)).2;have:=h.sc;unfold Scl at this ⊢;rw[l.block m h.sc.lt (by simp;exact fun e=>d.1 e.symm)];exact this
 ·have e:((List.range (q+1)).map fun i=>Value.slice (some ⟨if i=q then c else rb i,0,none⟩) D.n D.n)=((List.range q).map fun i=>.slice (some ⟨rb i,0,none⟩) D.n D.n)++[.slice (some ⟨c,0,none⟩) D.n D.n]:=by
   rw[List.range_succ,List.map_append]
   congr 1
   ·exact List.map_congr_left fun i hi=>by rw[if_neg (by have:=List.mem_range.1 hi;omega)]
   simp
  rw[e];exact g
 by_cases e:i=q
 ·subst e;simp only[if_pos];exact h.rl.of_block (l.block c h.rl.lt (by simp;exact fun e=>d.2 e.symm))
 simp only[if_neg e];have u:=h.rows i (by omega);exact u.of_block (l.block (rb i) u.lt (by simp;exact z0j u p (by decide)))
theorem RwI.mt {w wr:World} {u c:Nat} {D:MD} {sel:Int->Int->Bool} {sv:Value} {rb:Nat->Nat} (h:RwI w wr u c D sel sv rb D.n) (hn:D.n<=60):Mt none wr (.slice (some ⟨c,0,none⟩) D.n 60) D.n (fun _=>D.n) (smat D sel):=by
 refine⟨fun i=>.slice (some ⟨rb i,0,none⟩) D.n D.n,?_,fun i hi=>?_⟩
 ·rcases h.own.2 with ⟨d,_⟩|⟨B,l,m,d,hb,o,A,p,C,z⟩
  ·cases d
  cases d;refine .inr ⟨c,0,60,rfl,⟨(Array.getElem?_eq_some_iff.1 o).1,by simp⟩,hn,p,fun i hi=>?_⟩;have:=World.ownsRow.cells h.own (g:=c) rfl i (.slice (some ⟨rb i,0,none⟩) D.n D.n) (by simp[hi]);rw[Addr.add_lit] at this;exact this
 have k:=h.rows i hi;exact .inr ⟨rb i,0,D.n,rfl,⟨k.lt,by simp⟩,nlr,by unfold maxLen;omega,fun j s=>by rw[Nat.zero_add];exact k.cell s⟩
theorem x0u {D:MD} {sv:Value} {nf:FuncId} {sel:Int->Int->Bool} (w:World) (hv:VM D) (hD:StS none w sv D) (t7:∀ i k,smS (D.aw i k)) (ht:Tab w) (s8:TstA nf #[] sel (fun _=>True)) :
  Calls prog 78 #[.agg #[.int .i64 D.kind,.int .i64 D.start,.string D.lead,sv],.func (.func nf) #[] #[]] w (OpnG D sel sv w):=by
 obtain⟨a,s,b,c,A,C,BB,O,rfl,ha,hc,hm,hb,a4⟩:=hD.open;unfold maxLen at hm;obtain⟨A0,u6⟩:=s8;obtain⟨n,hn⟩:=exq (D.n);have y6:n<=3000:=by rw[hn];exact hv.n2
 have z2:1<=n:=by rw[hn];exact hv.n1
 rw[<- hn] at ha hc hb a4 ⊢;have y3:∀ w,(Instr.makeSlice 75 (.int .i64 0) (.int .i64 60)).run prog w=.ok (.slice (some ⟨w.heap.size,0,none⟩) 0 60) (w.alloc (.cells (madeCells #[.slice none 0 0] 60) 79)):=fun _=>by kernel_rfl
 have W:=qh hn;clear hn;have HV:=qh hv;clear hv;have HA:=qh ha;clear ha;have HB:=qh hb;clear hb;have HR:=qh a4;clear a4 hD;have m4:=qh t7;clear t7;have p8:=qh ht;clear ht;have r7:=qh u6;clear u6;obtain rfl:=HA.out (by omega);obtain⟨w1,e0⟩:=exq (w.alloc (.cells #[.int .i64 D.kind,.int .i64 D.start,.string D.lead,.slice (some ⟨b,c,none⟩) n s] 24));obtain⟨w2,c7⟩:=exq (w1.alloc (.cells #[.int .i64 D.kind,.int .i64 D.start,.string D.lead,.slice (some ⟨b,c,none⟩) n s,.slice none 0 0,.int .i64 0] 105));obtain⟨w3,L⟩:=exq (w2.alloc (.cells (madeCells #[.slice none 0 0] 60) 79));have e6:w1.heap.size=w.heap.size+1:=by rw[e0];simp
 have l4:w2.heap.size=w.heap.size+1+1:=by rw[c7];simp[e6]
 have t8:Below w.heap.size w w1:=by rw[e0];exact blr.alloc nlr _
 have Z:Below w.heap.size w w2:=by rw[c7];exact t8.alloc (by omega) _
 have v9:Below w.heap.size w w3:=by rw[L];exact Z.alloc (by omega) _
 have l5:Scl w2 w1.heap.size D (.slice (some ⟨b,c,none⟩) n s) (.slice none 0 0) 0:=by rw[c7];exact heap_alloc_new w1 _
 have k9:Scl w3 w1.heap.size D (.slice (some ⟨b,c,none⟩) n s) (.slice none 0 0) 0:=by rw[L];unfold Scl;rw[blk_alloc_lt _ _ _ l5.lt];exact l5
 have h9:BoxM w1 w.heap.size D (.slice (some ⟨b,c,none⟩) n s):=by rw[e0];exact BoxM.new w D _
 have J:BoxM w3 w.heap.size D (.slice (some ⟨b,c,none⟩) n s):=by
  rw[L,c7];exact(h9.kept (World.grownBy_alloc w1 _ none) (by simp)).kept (World.grownBy_alloc _ _ none) (by simp)
 have f8:w3.ownsRow w.heap.size 79 1 (.slice (some ⟨w2.heap.size,0,none⟩) 0 60) 0 ((List.range 0).map fun i=>.slice (some ⟨(fun _=>0) i,0,none⟩) D.n D.n):=by
  refine⟨rfl,.inr ⟨w2.heap.size,60,madeCells #[.slice none 0 0] 60,rfl,by omega,by rw[L];exact heap_alloc_new w2 _,by omega,by unfold maxLen;omega,by simp[madeCells],by simp⟩⟩
 rw[l4] at f8;rw[e6] at k9;have m3:=J.c3;rw[L,c7,e0] at m3;have m5:=qh k9;clear k9 l5;have s5:=qh v9;clear v9 Z t8;have Q:=qh J;clear J h9;have f0:=qh f8;clear f8;clear e6 l4
 go_enter func78,ntmps78
 go_wp2_with fail
 rw[<- e0,<- c7,<- L];obtain⟨B,j4⟩:=exq (w.heap.size);obtain⟨m,l8⟩:=exq (w.heap.size+1);obtain⟨gR,l2⟩:=exq (w.heap.size+1+1);have a8:=qh (show w.heap.size<=m by omega);have y5:=qh (show B≠m by omega);rw[<- l8] at m5;rw[<- l2] at f0;rw[<- j4] at Q;rw[<- l2,<- l8,<- j4];clear e0 c7 L m3 y3 l8 l2 j4
 go_loopw [7,24] (fun y i wr=>∃ (q:Nat) (bb:Bool),q<=n/\i=.int .i64 (q:Int)/\y=.bool bb/\(bb=false->∀ q' d,q' < q->d<D.na q'->sel (D.ain q' d) (D.aout q' d)=false)/\(bb=true->¬ NoSel D sel)/\Scl wr m D (.slice (some ⟨b,c,none⟩) n s) (.slice none 0 0) 0/\Below w.heap.size w wr/\BoxM wr B D (.slice (some ⟨b,c,none⟩) n s)/\wr.ownsRow w.heap.size 79 1 (.slice (some ⟨gR,0,none⟩) 0 60) 0 ((List.range 0).map fun i=>.slice (some ⟨(fun _=>0) i,0,none⟩) D.n D.n)) (fun _ i _=>n-(intOf i).toNat)
 case atStart=>exact⟨0,false,Nat.zero_le _,rfl,rfl,fun _ q' d h=>(by omega),fun h=>(by cases h),m5.out,s5.out,Q.out,f0.out⟩
 obtain⟨q,bb,hq,rfl,rfl,e4,g3,s6,p0,b5,u5⟩:=hrel;clear m5 s5 Q f0;have b6:=qh s6;clear s6;have U:=qh p0;clear p0;have o:=qh b5;clear b5;have g6:=qh u5;clear u5;have a7:=qh e4;clear e4;have d4:=qh g3;clear g3;by_cases n6:q<n
 ·have x5:(q:Int)<(n:Int):=by omega
  have v5:(0:Int)<=(q:Int):=by omega
  have f7:=(HB.out (by omega)).1;obtain⟨k1,k2,k3,k4,k5,k6,k7⟩:=HR.out q n6;obtain⟨aq,f1⟩:=exq (A q);rw[<- f1] at k2 k5;clear f1;have c0:=(U.out.cell (p:=⟨b,c+q*2,none⟩) f7).trans k1;have c1:=(U.out.cell (p:=⟨b,c+q*2+1,none⟩) f7).trans k2;clear k1 k2;unfold maxLen at k4;have o6:D.na q<=30000:=by have E:=Nat.le_trans (z1w D (show q+1<=D.n by have:=W.out;omega)) HV.out.arcs;have h2:z0f D (q+1)=z0f D q+D.na q:=rfl;omega
  have j5:=qh k7;clear k7;have n5:=qh k5;clear k5;have l7:=qh k6;clear k6;obtain⟨wa,G⟩:=exq (wr.alloc (.cells #[.string (D.fin q),.slice aq (D.na q) (C q)] 57));have g:Fr (fun _=>False) wr wa:=by rw[G];exact Fr.alloc _ _
  have F:=qh (show Scl wa m D (.slice (some ⟨b,c,none⟩) n s) (.slice none 0 0) 0/\Below w.heap.size w wa/\BoxM wa B D (.slice (some ⟨b,c,none⟩) n s)/\wa.ownsRow w.heap.size 79 1 (.slice (some ⟨gR,0,none⟩) 0 60) 0 ((List.range 0).map fun i=>.slice (some ⟨(fun _=>0) i,0,none⟩) D.n D.n) from
   ⟨b6.out.kept g (fun e=>e),U.out.trans (g.below U.out.size (fun _ e=>e.elim)),(g.block _ o.out.lt (fun e=>e)).trans o.out,World.ownsRow.kept g6.out ⟨g.os,g.tape,g.output,g.size,fun q hq _=>g.block q hq (fun e=>e)⟩ (row:=none) (.inr (by simp[Value.ownBlock]))⟩)
  clear g
  go_wp2_with fail
  rw[<- G];clear c0 c1 G b6 U o g6
  go_loopw [7,31] (fun y i wr=>∃ (d:Nat) (bb:Bool),d<=D.na q/\i=.int .i64 (d:Int)/\y=.bool bb/\(bb=false->(∀ q' d,q' < q->d<D.na q'->sel (D.ain q' d) (D.aout q' d)=false)/\∀ d',d' < d->sel (D.ain q d') (D.aout q d')=false)/\(bb=true->¬ NoSel D sel)/\Scl wr m D (.slice (some ⟨b,c,none⟩) n s) (.slice none 0 0) 0/\Below w.heap.size w wr/\BoxM wr B D (.slice (some ⟨b,c,none⟩) n s)/\wr.ownsRow w.heap.size 79 1 (.slice (some ⟨gR,0,none⟩) 0 60) 0 ((List.range 0).map fun i=>.slice (some ⟨(fun _=>0) i,0,none⟩) D.n D.n)) (fun _ i _=>D.na q-(intOf i).toNat)
  case atStart=>exact⟨0,bb,Nat.zero_le _,rfl,rfl,fun h=>⟨a7.out h,fun d' h=>by omega⟩,d4.out,F.out⟩
  obtain⟨d,b2,hd,rfl,rfl,e4,g3,o4⟩:=hrel;clear F a7 d4;have a7:=qh e4;clear e4;have d4:=qh g3;clear g3;have F:=qh o4;clear o4;by_cases g1:d<D.na q
  ·have x6:(d:Int)<(D.na q:Int):=by omega
   have u1:(0:Int)<=(d:Int):=by omega
   have a9:=(l7.out (by omega)).1;obtain⟨t0,t1,t2,t3⟩:=j5.out d g1;obtain rfl:=n5.out (by omega);have c0:=(F.out.2.1.cell (p:=⟨BB q,O q+d*4,none⟩) a9).trans t0;have c1:=(F.out.2.1.cell (p:=⟨BB q,O q+d*4+1,none⟩) a9).trans t1;have c2:=(F.out.2.1.cell (p:=⟨BB q,O q+d*4+2,none⟩) a9).trans t2;have c3:=(F.out.2.1.cell (p:=⟨BB q,O q+d*4+3,none⟩) a9).trans t3;clear t0 t1 t2 t3;obtain⟨wa,G⟩:=exq (wr.alloc (.cells #[.int .i64 (D.ain q d),.int .i64 (D.aout q d),.string (D.aw q d),.int .i64 (D.ato q d)] 59));have g:Fr (fun _=>False) wr wa:=by rw[G];exact Fr.alloc _ _
   have u0:∀ wz,Fr (fun _=>False) wr wz->Scl wz m D (.slice (some ⟨b,c,none⟩) n s) (.slice none 0 0) 0/\Below w.heap.size w wz/\BoxM wz B D (.slice (some ⟨b,c,none⟩) n s)/\wz.ownsRow w.heap.size 79 1 (.slice (some ⟨gR,0,none⟩) 0 60) 0 ((List.range 0).map fun i=>.slice (some ⟨(fun _=>0) i,0,none⟩) D.n D.n):=fun wz g =>
    ⟨F.out.1.kept g (fun e=>e),F.out.2.1.trans (g.below F.out.2.1.size (fun _ e=>e.elim)),(g.block _ F.out.2.2.1.lt (fun e=>e)).trans F.out.2.2.1,World.ownsRow.kept F.out.2.2.2 ⟨g.os,g.tape,g.output,g.size,fun q hq _=>g.block q hq (fun e=>e)⟩ (row:=none) (.inr (by simp[Value.ownBlock]))⟩
   have l3:=qh u0;clear u0;have n3:=qh g;clear g;cases b2 with
   | true =>
    go_wp2_with fail
    rw[<- G];clear G c0 c1 c2 c3;go_roundw
    case rel=>exact⟨d+1,true,by omega,by go_num,rfl,fun h=>by (first|cases h),d4.out,l3.out _ n3.out⟩
    simp[intOf];omega
   | false =>
    have I:=r7.out wa trivial (D.ain q d) (D.aout q d) (D.aw q d) (D.ato q d);obtain⟨sb,m9⟩:=exq (sel (D.ain q d) (D.aout q d));rw[<- m9] at I;have o5:=qh m9;clear m9;have HC:=qh I;clear I
    go_wp2_with fail
    rw[<- G];clear G c0 c1 c2 c3;refine HC.out.mono ?_;rintro r w2 ⟨rfl,Z⟩;have HX:=qh (l3.out w2 (n3.out.trans (Fr.of_below Z)));clear Z HC l3 n3 F;go_wp2;go_roundw
    case rel =>
     refine⟨d+1,sb,by omega,by go_num,rfl,fun h=>⟨(a7.out (by first|rfl|trivial)).1,fun d' A3=>?_⟩,fun h g7=>?_,HX.out⟩
     ·by_cases e:d'=d
      ·rw[e,<- o5.out];exact h
      exact(a7.out (by first|rfl|trivial)).2 d' (by omega)
     have:=g7 q d (by have:=W.out;omega) g1;rw[<- o5.out,h] at this;cases this
    simp[intOf];omega
  have m2:¬ ((d:Int)<(D.na q:Int)):=by omega
  go_wp2;go_roundw
  case rel =>
   refine⟨q+1,b2,by omega,by go_num,rfl,fun h q' d' E h2=>?_,d4.out,F.out⟩;by_cases e:q'=q
   ·subst e;exact(a7.out h).2 d' (by omega)
   exact(a7.out h).1 q' d' (by omega) h2
  simp[intOf];omega
 have m2:¬ ((q:Int)<(n:Int)):=by omega
 have g5:q=D.n:=by have:=W.out;omega
 cases bb with
 | false =>
  have g7:NoSel D sel:=fun q' d E h2=>a7.out rfl q' d (by omega) h2;have e1:=qh g7;clear g7 g5;go_wp2;go_ret;exact⟨U.out,m,_,none,0,rfl,a8.out,b6.out,rfl,.inl ⟨e1.out,rfl,rfl⟩⟩
 | true =>
  clear g5;have e1:=qh (d4.out rfl);have m3:=o.out.c3;have m0:=o.out.c0;by_cases A4:60<n
  ·have o2:(60:Int)<(n:Int):=by omega
   have f5:=b6.out.fz 5;have c5:=b6.out.c5;have X:Fr (fun q=>q=m) wr (wr.setCell ⟨m,5,none⟩ (.int .i64 ((2:Nat):Int))):=(Fr.refl (fun q=>q=m) _).set (p:=⟨m,5,none⟩) (.inl rfl) _;have y1:=qh X;clear X;go_wp2;go_ret;refine⟨U.out.trans (y1.out.below U.out.size (fun q e=>by rw[e];exact a8.out)),m,_,none,2,rfl,a8.out,b6.out.setE 2,rfl,.inr (.inr ⟨e1.out,by omega,rfl,.inl (by have:=W.out;omega)⟩)⟩
  have o2:decide ((60:Int)<(n:Int))=false:=by simp;omega
  have z6:n<=60:=by omega
  have s7:=qh (show RwI w wr m gR D sel (.slice (some ⟨b,c,none⟩) n s) (fun _=>0) 0 from ⟨U.out,b6.out,g6.out,fun i hi=>by omega⟩);clear b6 U g6 a7 d4
  go_wp2_with fail
  clear m3 m0
  go_loopw [6,57] (fun v6 i wr=>∃ (q:Nat) (rb:Nat->Nat),q<=n/\i=.int .i64 (q:Int)/\v6=.slice (some ⟨gR,0,none⟩) q 60/\RwI w wr m gR D sel (.slice (some ⟨b,c,none⟩) n s) rb q/\BoxM wr B D (.slice (some ⟨b,c,none⟩) n s)) (fun _ i _=>n-(intOf i).toNat)
  case atStart=>exact⟨0,_,Nat.zero_le _,rfl,rfl,s7.out,o.out⟩
  obtain⟨q,rb,hq,rfl,rfl,hi,b5⟩:=hrel;clear s7 o;have HI:=qh hi;clear hi;have o:=qh b5;clear b5;by_cases n6:q<n
  ·have x5:(q:Int)<(n:Int):=by omega
   have v5:(0:Int)<=(q:Int):=by omega
   have f7:=(HB.out (by omega)).1;obtain⟨k1,k2,k3,k4,k5,k6,k7⟩:=HR.out q n6;obtain⟨aq,f1⟩:=exq (A q);rw[<- f1] at k2 k5;clear f1;have c0:=(HI.out.hb.cell (p:=⟨b,c+q*2,none⟩) f7).trans k1;have c1:=(HI.out.hb.cell (p:=⟨b,c+q*2+1,none⟩) f7).trans k2;have A6:=qh k2;clear k1 k2;unfold maxLen at k4;have o6:D.na q<=30000:=by have E:=Nat.le_trans (z1w D (show q+1<=D.n by have:=W.out;omega)) HV.out.arcs;have h2:z0f D (q+1)=z0f D q+D.na q:=rfl;omega
   have j5:=qh k7;clear k7;have n5:=qh k5;clear k5;have l7:=qh k6;clear k6;obtain⟨wa,G⟩:=exq (wr.alloc (.cells #[.string (D.fin q),.slice aq (D.na q) (C q)] 57));obtain⟨xb,j1⟩:=exq (wr.heap.size);have g:Fr (fun _=>False) wr wa:=by rw[G];exact Fr.alloc _ _
   have m7:wa.heap[xb]?=some (.cells #[.string (D.fin q),.slice aq (D.na q) (C q)] 57 (0,0)):=by rw[G,j1];exact heap_alloc_new wr _
   obtain⟨wd,d0⟩:=exq (wa.drew);have b4:Fr (fun _=>False) wa wd:=by rw[d0];exact(Fr.refl _ _).drew
   have e5:=g.trans b4;have R:BoxM wd B D (.slice (some ⟨b,c,none⟩) n s):=(e5.block _ o.out.lt (fun e=>e)).trans o.out;have d5:wd.heap[xb]?=_:=(b4.block xb (lt_of_block m7) (fun e=>e)).trans m7;have l:wd.cell? ⟨B,0,none⟩=some (.int .i64 D.kind)/\wd.cell? ⟨B,3,none⟩=some (.slice (some ⟨b,c,none⟩) n s):=⟨R.c0,R.c3⟩;obtain⟨kz,m8⟩:=exq (z0z D.kind);have j9:=z2u D.kind wd;rw[<- m8] at j9;have v8:=qh j9;clear j9;have z1:=qh m8;clear m8;have T:=qh R;clear R o;have e3:=qh d5;clear d5 m7;have p7:=qh e5;clear e5 b4 g
   go_wp2_with fail
   refine z0h (fun wk=>wk.cell? ⟨B,0,none⟩=some (.int .i64 D.kind)/\wk.cell? ⟨B,3,none⟩=some (.slice (some ⟨b,c,none⟩) n s)) 8 (by kernel_rfl) ?_;rw[<- G,<- j1,<- d0];clear G j1 d0 c0 c1;refine z0c.tm 0 l ?_;refine z0c.tm 1 l ?_;refine z0c.tm 4 l ?_;refine z0c.tm 5 l ?_;refine z0c.tm 6 l ?_
   try simp only[Act.put,tryL]
   refine z0c.on 2 fun K hK=>?_;go_simp;refine v8.out.mono ?_;rintro r w2 ⟨rfl,Z⟩;have v7:Fr (fun _=>False) wr w2:=p7.out.trans (Fr.of_below Z);have d7:BoxM w2 B D (.slice (some ⟨b,c,none⟩) n s):=(Z.block _ T.out.lt).trans T.out;have n9:=(Z.block xb (lt_of_block e3.out)).trans e3.out;have s3:w2.cell? ⟨B,0,none⟩=some (.int .i64 D.kind)/\w2.cell? ⟨B,3,none⟩=some (.slice (some ⟨b,c,none⟩) n s):=⟨d7.c0,d7.c3⟩;have f9:=qh d7;clear d7 T;have j6:=qh n9;clear n9 e3;have v4:=qh v7;clear v7 p7 Z;refine hK.out _ _ (.inr s3) ?_;clear hK K l v8
   try simp only[Act.put,tryL]
   refine z0c.on 3 fun K hK=>?_;go_simp;obtain⟨w3,L⟩:=exq (w2.alloc (.cells #[.string kz] 9));have g9:Fr (fun _=>False) w2 w3:=by rw[L];exact Fr.alloc _ _
   have b7:w3.cell? ⟨w2.heap.size,0,none⟩=some (.string kz):=by rw[L];exact z2s w2 _ _ 0 _ rfl
   have J:BoxM w3 B D (.slice (some ⟨b,c,none⟩) n s):=(g9.block _ f9.out.lt (fun e=>e)).trans f9.out;have r8:=(g9.block xb (lt_of_block j6.out) (fun e=>e)).trans j6.out;have v3:w3.cell? ⟨B,0,none⟩=some (.int .i64 D.kind)/\w3.cell? ⟨B,3,none⟩=some (.slice (some ⟨b,c,none⟩) n s):=⟨J.c0,J.c3⟩;have o3:=qh (x3e (n:=n) (xb:=w2.heap.size) (xo:=0) (xc:=1) (z:=kz) w3 z2 y6 b7);have Q:=qh J;clear J f9;have n7:=qh r8;clear r8 j6;have j3:=qh (v4.out.trans g9);clear g9 v4 b7;rw[<- L];clear L;refine hK.out _ _ (.inr v3) ?_;clear hK K s3
   try simp only[Act.put,tryL]
   refine z0c.on 7 fun K hK=>?_;go_simp;refine o3.out.mono ?_;rintro r w4 ⟨h3,lb,rfl,z3,s4⟩;have u3:Fr (fun _=>False) wr w4:=j3.out.trans (Fr.of_below h3);have d8:BoxM w4 B D (.slice (some ⟨b,c,none⟩) n s):=(h3.block _ Q.out.lt).trans Q.out;have p6:=(h3.block xb (lt_of_block n7.out)).trans n7.out;have w0:w4.cell? ⟨B,0,none⟩=some (.int .i64 D.kind)/\w4.cell? ⟨B,3,none⟩=some (.slice (some ⟨b,c,none⟩) n s):=⟨d8.c0,d8.c3⟩;have a1:RoI w w4 m gR lb D sel (.slice (some ⟨b,c,none⟩) n s) rb q (zrC D.kind,serr D sel q):=HI.out.row u3 a8.out (by have:=j3.out.size;omega) (by
    have E:w4.rowIs lb 9 D.n (fun _=>.string kz):=by rw[<- W.out];exact s4
    exact E.congr (fun _ _=>by show Value.string kz=.string (z0z D.kind);rw[z1.out]))
   have N:=qh a1;clear a1 s4 u3 j3;have h8:=qh d8;clear d8 Q;have r4:=qh p6;clear p6 n7;refine hK.out _ _ (.inr w0) ?_;clear hK K v3 o3 h3 z3
   try simp only[Act.put,tryL]
   refine z0c.on 8 fun K hK=>?_;go_simp;refine hK.out _ _ (.inl rfl) (z0c.dn ?_);clear hK K w0 HI;obtain⟨s0,h4⟩:∃ s0:WS,s0=(zrC D.kind,serr D sel q):=⟨_,rfl⟩;have i3:∀ j,smS (s0.1 j):=by rw[h4];exact v8x _
   have a4:srow D sel q (serr D sel q)=z5d D sel q (D.na q) s0:=by rw[h4];rfl
   rw[<- h4] at N;have o7:=qh a4;clear a4;have u4:=qh i3;clear i3 h4;have x1:=cellOf r4.out 1 rfl
   go_wp2_with fail
   clear x1
   go_loopw [72] (fun i wr=>∃ d:Nat,d<=D.na q/\i=.int .i64 (d:Int)/\RoI w wr m gR lb D sel (.slice (some ⟨b,c,none⟩) n s) rb q (z5d D sel q d s0)/\BoxM wr B D (.slice (some ⟨b,c,none⟩) n s)) (fun i _=>D.na q-(intOf i).toNat)
   case atStart=>exact⟨0,Nat.zero_le _,rfl,N.out,h8.out⟩
   obtain⟨d,hd,rfl,a1,b5⟩:=hrel;clear N h8 r4;obtain⟨s1,c9⟩:=exq (z5d D sel q d s0);rw[<- c9] at a1;have o:=qh b5;clear b5;have N:=qh a1;clear a1;by_cases g1:d<D.na q
   ·have x6:(d:Int)<(D.na q:Int):=by omega
    have u1:(0:Int)<=(d:Int):=by omega
    have a9:=(l7.out (by omega)).1;obtain⟨t0,t1,t2,t3⟩:=j5.out d g1;obtain rfl:=n5.out (by omega);have j2:=HV.out.arc q d (by have:=W.out;omega) g1;obtain⟨H,i9⟩:∃ H:Nat,D.ato q d=(H:Int):=⟨(D.ato q d).toNat,by have:=j2.t0;omega⟩;have A1:H<n:=by have:=j2.t1;have:=W.out;omega
    have o8:H<D.n:=by have:=W.out;omega
    have A5:(H:Int)<(n:Int):=by omega
    have z9:(0:Int)<=(H:Int):=by omega
    rw[i9] at t3;have c0:=(N.out.hb.cell (p:=⟨BB q,O q+d*4,none⟩) a9).trans t0;have c1:=(N.out.hb.cell (p:=⟨BB q,O q+d*4+1,none⟩) a9).trans t1;have c2:=(N.out.hb.cell (p:=⟨BB q,O q+d*4+2,none⟩) a9).trans t2;have c3:=(N.out.hb.cell (p:=⟨BB q,O q+d*4+3,none⟩) a9).trans t3;clear t0 t1 t2 t3 j2;have h7:∀ j,smS (s1.1 j):=by rw[c9];exact y3k (m4.out q) d u4.out
    have o9:=qh h7;clear h7;have x2:z5d D sel q (d+1) s0=if sel (D.ain q d) (D.aout q d)=true then (updS s1.1 H (z2e D.kind (s1.1 H) (D.aw q d) s1.2).1,(z2e D.kind (s1.1 H) (D.aw q d) s1.2).2) else s1:=by
     show y8r D sel q d (z5d D sel q d s0)=_;unfold y8r;rw[<- c9,i9,Int.toNat_natCast]
    have d2:=qh x2;clear x2 c9 i9;obtain⟨ai,r5⟩:=exq (D.ain q d);obtain⟨ao,i4⟩:=exq (D.aout q d);obtain⟨aw,j0⟩:=exq (D.aw q d);have q8:smS aw:=by rw[j0];exact m4.out q d
    have x9:=qh q8;clear q8;rw[<- r5] at c0 d2;rw[<- i4] at c1 d2;rw[<- j0] at c2 d2;clear r5 i4 j0;obtain⟨w5,b0⟩:=exq (wr.alloc (.cells #[.int .i64 ai,.int .i64 ao,.string aw,.int .i64 (H:Int)] 59));obtain⟨ab,l6⟩:=exq (wr.heap.size);have X:Fr (fun _=>False) wr w5:=by rw[b0];exact Fr.alloc _ _
    have r0:w5.heap[ab]?=some (.cells #[.int .i64 ai,.int .i64 ao,.string aw,.int .i64 (H:Int)] 59 (0,0)):=by rw[b0,l6];exact heap_alloc_new wr _
    have I:=r7.out w5 trivial ai ao aw (H:Int);have b8:BoxM w5 B D (.slice (some ⟨b,c,none⟩) n s):=(X.block _ o.out.lt (fun e=>e)).trans o.out;have a5:=qh (N.out.keep X);clear X N;have S:=qh b8;clear b8 o;have l9:=qh r0;clear r0;have HC:=qh I;clear I
    go_wp2_with fail
    rw[<- b0,<- l6];clear b0 l6 c0 c1 c2 c3;refine HC.out.mono ?_;rintro r w6 ⟨rfl,g4⟩;have b1:BoxM w6 B D (.slice (some ⟨b,c,none⟩) n s):=(g4.block _ S.out.lt).trans S.out;have r3:=(g4.block ab (lt_of_block l9.out)).trans l9.out;have g2:=qh (a5.out.keep (Fr.of_below g4));clear g4 a5 HC;have a6:=qh b1;clear b1 S;have j8:=qh r3;clear r3 l9;cases g8:sel ai ao
    ·have j7:=qh (d2.out.trans (if_neg (by rw[g8];simp)));clear g8 d2;go_wp2;go_roundw
     case rel=>exact⟨d+1,by omega,by go_num,by rw[j7.out];exact g2.out,a6.out⟩
     simp[intOf];omega
    have j7:=qh (d2.out.trans (if_pos g8));clear g8 d2;obtain⟨wd,d0⟩:=exq (w6.drew);have b4:Fr (fun _=>False) w6 wd:=by rw[d0];exact(Fr.refl _ _).drew
    have d5:=(b4.block ab (lt_of_block j8.out) (fun e=>e)).trans j8.out;have R:BoxM wd B D (.slice (some ⟨b,c,none⟩) n s):=(b4.block _ a6.out.lt (fun e=>e)).trans a6.out;have a2:=qh (g2.out.keep b4);clear b4 g2;have l:wd.cell? ⟨ab,3,none⟩=some (.int .i64 (H:Int))/\wd.cell? ⟨ab,2,none⟩=some (.string aw)/\wd.cell? ⟨lb,H,none⟩=some (.string (s1.1 H)):=⟨cellOf d5 3 rfl,cellOf d5 2 rfl,a2.out.rl.cell o8⟩;have e3:=qh d5;clear d5 j8;have T:=qh R;clear R a6;have s9:=qh (y0x (s1.1 H) aw wd a2.out.sc (o9.out H) x9.out (p8.out.below a2.out.hb nlr))
    go_wp2_with fail
    refine z0h (fun wk=>wk.cell? ⟨ab,3,none⟩=some (.int .i64 (H:Int))/\wk.cell? ⟨ab,2,none⟩=some (.string aw)/\wk.cell? ⟨lb,H,none⟩=some (.string (s1.1 H))) 13 (by kernel_rfl) ?_;rw[<- d0];clear d0;refine z0c.tm 0 l ?_;refine z0c.tm 1 l ?_;refine z0c.tm 2 l ?_;refine z0c.tm 3 l ?_;refine z0c.tm 4 l ?_;refine z0c.tm 5 l ?_;refine z0c.tm 6 l ?_;refine z0c.tm 7 l ?_;refine z0c.tm 8 l ?_;refine z0c.tm 9 l ?_;refine z0c.tm 10 l ?_
    try simp only[Act.put,tryL]
    refine z0c.on 11 fun K hK=>?_;go_simp;refine s9.out.mono ?_;rintro r w7 ⟨rfl,u2,f3⟩;have x0:B≠m:=y5.out;have i2:BoxM w7 B D (.slice (some ⟨b,c,none⟩) n s):=(f3.block _ T.out.lt x0).trans T.out;have b9:=qh (a2.out.stepped f3 u2);have l0:ab≠m:=fun e=>by
     have E:=e3.out;have h2:=a2.out.sc;unfold Scl at h2;rw[e,h2] at E;simp at E
    have h5:w7.cell? ⟨ab,3,none⟩=some (.int .i64 (H:Int))/\w7.cell? ⟨ab,2,none⟩=some (.string aw)/\w7.cell? ⟨lb,H,none⟩=some (.string (s1.1 H)):=⟨f3.cell l.1 l0,f3.cell l.2.1 l0,b9.out.rl.cell o8⟩;have fz:=b9.out.rl.frozen H;have e8:=qh i2;clear i2 T;refine hK.out _ _ (.inr h5) ?_;clear hK K l s9 a2 u2 f3 x0 l0 e3
    try simp only[Act.put,tryL]
    refine z0c.tm 12 h5 ?_
    try simp only[Act.put,tryL]
    have g0:=h5.2.2;refine z0c.on 13 fun K hK=>?_;go_simp;refine hK.out _ _ (.inl rfl) (z0c.dn ?_);clear hK K h5;have t9:lb≠B:=fun e=>z0j b9.out.rl (show w7.heap[B]?=_ from e8.out) (by decide) e;have i5:BoxM (w7.setCell ⟨lb,H,none⟩ (.string (z2e D.kind (s1.1 H) aw s1.2).1)) B D (.slice (some ⟨b,c,none⟩) n s):=by
     unfold BoxM;rw[blk_setCell_other _ _ _ _ (fun e=>t9 e.symm)];exact e8.out
    have u7:=qh (b9.out.put H (z2e D.kind (s1.1 H) aw s1.2).1);have w9:=qh i5;clear i5 t9 e8 b9 fz g0;go_wp2;go_roundw
    case rel=>exact⟨d+1,by omega,by go_num,by rw[j7.out];exact u7.out,w9.out⟩
    simp[intOf];omega
   have f2:d=D.na q:=by omega
   have m2:¬ ((d:Int)<(D.na q:Int)):=by omega
   rw[f2] at c9;have y4:=qh (c9.trans o7.out.symm);clear c9 f2;have a1:=N.out;rw[y4.out] at a1;have i6:=qh a1;clear a1 N;obtain⟨w5,b0⟩:=exq (wr.alloc (.cells #[.slice (some ⟨lb,0,none⟩) n n] 79));have X:Fr (fun _=>False) wr w5:=by rw[b0];exact Fr.alloc _ _
   have b7:w5.cell? ⟨wr.heap.size,0,none⟩=some (.slice (some ⟨lb,0,none⟩) n n):=by rw[b0];exact z2s wr _ _ 0 _ rfl
   have b8:BoxM w5 B D (.slice (some ⟨b,c,none⟩) n s):=(X.block _ o.out.lt (fun e=>e)).trans o.out;have a5:=qh (i6.out.keep X);clear X i6;have S:=qh b8;clear b8 o;have z7:=qh b7;clear b7;obtain⟨i0,z5,A2,e6,l4⟩:=info_parts y0d;have d1:=a5.out.own;rw[b0] at d1;have r6:=qh d1;clear d1;have y0:q+1<=60:=by omega
   go_wp2_with (at_builtin;refine wpList_append_fits _ rfl (.tmp 93) (.tmp 95) 75 rfl w.heap.size 79 i0 1 underlying75 z5 e6 gR q 60 _ rfl r6.out ⟨wr.heap.size,0,none⟩ 1 1 [.slice (some ⟨lb,0,none⟩) n n] rfl rfl (cell_one_new _ _ _) (fun u hu=>by rw[List.mem_singleton.1 hu];rfl) y0 ?_;intro w6 c8 P)
   rw[<- b0] at P;rw[W.out] at c8;have f2:=a5.out.done c8 P;have p9:gR≠B:=by
    obtain⟨cs,hg⟩:=z9v a5.out.own;intro e;have E:=S.out;unfold BoxM at E;rw[<- e,hg] at E;simp at E
   have b1:BoxM w6 B D (.slice (some ⟨b,c,none⟩) n s):=by
    unfold BoxM;rw[P.block B S.out.lt (by simp;exact fun e=>p9 e.symm)];exact S.out
   have y2:=qh f2;clear f2 c8 P p9;have a6:=qh b1;clear b1;go_wp2;go_roundw
   case rel=>exact⟨q+1,_,by omega,by go_num,by go_num,y2.out,a6.out⟩
   simp[intOf];omega
  have m2:¬ ((q:Int)<(n:Int)):=by omega
  have g5:q=n:=by omega
  subst g5;have e2:Mt none wr (.slice (some ⟨gR,0,none⟩) q 60) q (fun _=>q) (smat D sel):=by
   have h:=HI.out;have e:=W.out;rw[e] at h;have h2:=h.mt (by omega);rw[<- e] at h2;exact h2
  have k5:=HI.out.sc.c5;have k0:=o.out.c0;have q7:=v6r (k0:=D.kind) wr (show q<=100 by omega) e2 (fun i j=>u2h (m4.out i) j) (p8.out.below HI.out.hb nlr);have q9:=qh q7;clear q7 e2;obtain⟨e,he⟩:=exq (serr D sel q);rw[<- he] at k5;have HE:=qh he;clear he;by_cases i8:e=0
  rotate_left
  ·have z8:¬ ((e:Int)=0):=by omega
   have y9:=qh i8;clear i8;go_wp2;go_ret;have E:=y9.out;rw[HE.out,W.out] at E;exact⟨HI.out.hb,m,_,none,_,rfl,a8.out,HI.out.sc,rfl,.inr (.inr ⟨e1.out,by rw[W.out];exact E,rfl,.inr (.inl E)⟩)⟩
  subst i8
  go_wp2_with fail
  refine q9.out.mono ?_;rintro r w7 ⟨l1,hr⟩;have a3:Scl w7 m D (.slice (some ⟨b,c,none⟩) q s) (.slice none 0 0) 0:=by
   have E:=HI.out.sc;rw[<- HE.out] at E;unfold Scl at E ⊢;rw[l1.block m HI.out.sc.lt];exact E
  have i7:=HI.out.hb.trans (l1.mono HI.out.hb.size);have r9:serr D sel D.n=0:=by rw[<- W.out];exact HE.out.symm
  have f4:=a3.fz 4;have f5:=a3.fz 5;have c4:=a3.c4;have c5:=a3.c5;have u8:=qh r9;clear r9 l1;have e9:=qh a3;clear a3;have d9:=qh i7;clear i7 HI q9 k5 k0
  rcases hr with ⟨y7,_⟩|⟨h6,_⟩|⟨_,k,M,hk,x7,hM,_,v0⟩
  ·exfalso
   obtain⟨k,hk⟩:=HV.out.kk;have E:=u2w HV.out hk u8.out;rw[<- W.out] at E;exact y7 ⟨HV.out.kind,E⟩
  ·omega
  have HK:=qh hk;clear hk x7;have HM:=qh hM;clear hM
  rcases v0 with ⟨v,Y,rfl,e2,u9⟩|⟨rfl,v2⟩
  ·obtain⟨av,cv,z4⟩:=e2.shape;subst z4;have y8:=qh e2;clear e2;have r2:=qh u9;clear u9;obtain⟨w8,d3⟩:∃ w8,w8=(w7.setCell ⟨m,4,none⟩ (.slice av q cv)).setCell ⟨m,5,none⟩ (.int .i64 0):=⟨_,rfl⟩;have e7:Fr (fun q=>q=m) w7 w8:=by
    rw[d3];exact((Fr.refl (fun q=>q=m) w7).set (p:=⟨m,4,none⟩) (.inl rfl) _).set (p:=⟨m,5,none⟩) (.inl rfl) _
   have b3:Scl w8 m D (.slice (some ⟨b,c,none⟩) q s) (.slice av q cv) 0:=by
    have E:=e9.out;rw[d3];unfold Scl at E ⊢;simp[World.setCell,Array.getElem?_modify,E]
   have h0:=qh e7;clear e7;have d6:=qh b3;clear b3;go_wp2;go_ret;rw[<- d3];have x3:=y8.out.later e9.out d6.out h0.out.gbc (.inr rfl) (fun i _=>by omega);refine⟨d9.out.trans (h0.out.below d9.out.size (fun q e=>by rw[e];exact a8.out)),m,_,some Y,0,rfl,a8.out,d6.out,?_,.inr (.inl ⟨e1.out,by have:=W.out;omega,rfl,Y,rfl,fun k' x8 i j hi hj=>?_⟩)⟩
   ·rw[<- W.out];exact⟨x3,fun i j hi hj=>by have E:=(r2.out i j hi hj).1;unfold smS;omega⟩
   obtain rfl:k'=k:=Subtype.ext (x8.trans HK.out.symm);rw[<- W.out] at hi hj ⊢;have E:=(r2.out i j hi hj).2 rfl;have h2:CSR.starM M q i j=CSR.starM (sils (rmOf k' D) sel) q i j:=CSR.starM_congr (fun i j hi hj=>by
    rw[HM.out];exact(x2f HV.out HK.out u8.out (by rw[<- W.out];exact hi) (by rw[<- W.out];exact hj)).val) i j hi hj
   rw[<- h2];exact E
  have x4:=qh v2;clear v2;obtain⟨w8,d3⟩:∃ w8,w8=(w7.setCell ⟨m,4,none⟩ (.slice none 0 0)).setCell ⟨m,5,none⟩ (.int .i64 2):=⟨_,rfl⟩;have e7:Fr (fun q=>q=m) w7 w8:=by
   rw[d3];exact((Fr.refl (fun q=>q=m) w7).set (p:=⟨m,4,none⟩) (.inl rfl) _).set (p:=⟨m,5,none⟩) (.inl rfl) _
  have b3:Scl w8 m D (.slice (some ⟨b,c,none⟩) q s) (.slice none 0 0) 2:=by
   have E:=e9.out;rw[d3];unfold Scl at E ⊢;simp[World.setCell,Array.getElem?_modify,E]
  have h0:=qh e7;clear e7;have d6:=qh b3;clear b3;go_wp2;go_ret;rw[<- d3];refine⟨d9.out.trans (h0.out.below d9.out.size (fun q e=>by rw[e];exact a8.out)),m,_,none,2,rfl,a8.out,d6.out,rfl,.inr (.inr ⟨e1.out,by omega,rfl,.inr (.inr ⟨k,HK.out,?_⟩)⟩)⟩;rw[<- W.out,<- HM.out];exact x4.out
end
section
open Go.RowKit Go.Deep
def WgtX (D:MD) (na:Nat) (x:Nat->Int) (nb:Nat) (y:Nat->Int) (w:World) (r:Ending) (w':World):Prop :=
 Below w.heap.size w w'/\((VM D/\isWord na x=true/\isWord nb y=true/\∃ st e0,SilOk D silB st e0/\r=.returned (.tuple #[.string (wgtG D st e0 na x nb y).1,.int .i64 ((wgtG D st e0 na x nb y).2:Int)])) \/
  (¬ (VM D/\isWord na x=true/\isWord nb y=true)/\r=.returned (.tuple #[.string ⟨#[]⟩,.int .i64 1])))
theorem x0j:(prog.info? 102).map (fun i=>(i.zero,i.size,i.bytes))=some (some (.slice none 0 0),1,24):=by kernel_rfl
theorem Bx.ne_scl {w:World} {b d e:Nat} {t:TypeId} {v:Value} {D:MD} {sv star:Value} (h:Bx w b t v) (c:Scl w d D sv star e):b≠d:=by
 rintro rfl;unfold Scl at c;unfold Bx at h;rw[h] at c;simp at c
def ixOf (v:Value) (w:World):Nat:=match v with | .pointer (some a)=>(match w.cell? a with|some (.int _ i)=>i.toNat|_=>0)|_=>0
theorem y1r {w:World} {b i:Nat} (h:w.cell? ⟨b,0,none⟩=some (.int .i64 (i:Int))):ixOf (.pointer (some ⟨b,0,none⟩)) w=i:=by
 unfold ixOf;simp[h]
structure WG (w0 wo w:World) (cb c8 xb yb:Nat) (D:MD) (sv stv xv yv:Value) (e:Nat):Prop where
 hb:Below w0.heap.size w0 w
 gs:wo.grownBy w (some cb)
 sc:Scl w cb D sv stv e
 k8:Bx w c8 98 (.pointer (some ⟨cb,0,none⟩))
 kx:Bx w xb 25 xv
 ky:Bx w yb 25 yv
 lc:w0.heap.size<=cb
 lo:w0.heap.size<=wo.heap.size
namespace WG
variable {w0 wo w w':World} {cb c8 xb yb:Nat} {D:MD} {sv stv xv yv:Value} {e:Nat}
theorem n8 (h:WG w0 wo w cb c8 xb yb D sv stv xv yv e):c8≠cb:=by rintro rfl;have d:=h.sc;have c:=h.k8;unfold Scl at d;unfold Bx at c;rw[d] at c;simp at c
theorem nx (h:WG w0 wo w cb c8 xb yb D sv stv xv yv e):xb≠cb:=by rintro rfl;have d:=h.sc;have c:=h.kx;unfold Scl at d;unfold Bx at c;rw[d] at c;simp at c
theorem ny (h:WG w0 wo w cb c8 xb yb D sv stv xv yv e):yb≠cb:=by rintro rfl;have d:=h.sc;have c:=h.ky;unfold Scl at d;unfold Bx at c;rw[d] at c;simp at c
theorem gs' {C:Nat->Prop} (h:WG w0 wo w cb c8 xb yb D sv stv xv yv e) (hf:Fr C w w') (g:∀ q,C q->q=cb\/wo.heap.size<=q):wo.grownBy w' (some cb) :=
 ⟨hf.os.trans h.gs.os,hf.tape.trans h.gs.tape,hf.output.trans h.gs.output,Nat.le_trans h.gs.size hf.size,fun q d c=>(hf.block q (Nat.lt_of_lt_of_le d h.gs.size) (fun i=>(g q i).elim (fun e=>c (by rw[e])) (fun e=>by omega))).trans (h.gs.block q d c)⟩
theorem kept {C:Nat->Prop} (h:WG w0 wo w cb c8 xb yb D sv stv xv yv e) (hf:Fr C w w') (k:¬ C cb) (j:¬ C c8) (g:¬ C xb) (i:¬ C yb) (d:∀ q,C q->wo.heap.size<=q):WG w0 wo w' cb c8 xb yb D sv stv xv yv e :=
 ⟨h.hb.trans (hf.below h.hb.size (fun q c=>Nat.le_trans h.lo (d q c))),h.gs' hf (fun q c=>.inr (d q c)),h.sc.kept hf k,h.k8.kept hf j,h.kx.kept hf g,h.ky.kept hf i,h.lc,h.lo⟩
theorem stepped {d n e':Nat} {F:Nat->Value} (h:WG w0 wo w cb c8 xb yb D sv stv xv yv e) (hf:Fr (fun q=>q=cb\/q=d) w w') (l:Scl w' cb D sv stv e') (j:w.rowIs d 9 n F) (g:wo.heap.size<=d):WG w0 wo w' cb c8 xb yb D sv stv xv yv e':=by
 have k:∀ q,q≠cb->q≠d->¬ (q=cb\/q=d):=fun q a b c=>c.elim a b;exact⟨h.hb.trans (hf.below h.hb.size (fun q i=>by rcases i with rfl|rfl;exact h.lc;exact Nat.le_trans h.lo g)),h.gs' hf (fun q i=>i.imp (fun e=>e) (fun e=>by rw[e];exact g)),l,h.k8.kept hf (k _ h.n8 (z0j j h.k8 (by decide)).symm),h.kx.kept hf (k _ h.nx (z0j j h.kx (by decide)).symm),h.ky.kept hf (k _ h.ny (z0j j h.ky (by decide)).symm),h.lc,h.lo⟩
theorem rested {e':Nat} (h:WG w0 wo w cb c8 xb yb D sv stv xv yv e) (hf:Fr (fun q=>q=cb) w w') (d:Scl w' cb D sv stv e'):WG w0 wo w' cb c8 xb yb D sv stv xv yv e' :=
 ⟨h.hb.trans (hf.below h.hb.size (fun q c=>by rw[c];exact h.lc)),h.gs' hf (fun q c=>.inl c),d,h.k8.kept hf h.n8,h.kx.kept hf h.nx,h.ky.kept hf h.ny,h.lc,h.lo⟩
end WG
theorem VR.rested {w J:World} {B X:Nat} {g:Bool->Nat} {m n:Nat} {R:Bool->Nat->Option Nat} {S:Bool->Nat->Option VV} {b:Bool} {j rv o:Nat} {x v:VV} (h:VR w B g m n R S) (hj:j<m) (Z:R b j=some rv) (hs:S b j=some v) (hf:Fr (fun q=>q=X) w J)
  (F:∀ b,g b≠X) (T:∀ b j r,j<m->R b j=some r->r≠X) (hx:J.rowIs o 9 n (fun q=>.string (x q))) (O:∀ q,smS (x q)) (H:o=rv\/w.heap.size<=o) (hB:B<=w.heap.size) :
  VR (J.setCell ⟨g b,j,none⟩ (vrV n (some o))) B g m n (fun b' j'=>if b'=b/\j'=j then some o else R b' j') (updV S b j x):=by
 have U:∀ b' j' c,j' < m->R b' j'=some c->c<w.heap.size:=fun b' j' c i d=>by
  cases z:S b' j' with
  | none=>have:=(h.non b' j' i).2 z;rw[d] at this;cases this
  | some x0=>exact(h.row b' j' c x0 i d z).1.lt
 have N:B<=o:=by
  rcases H with e|e
  ·rw[e];exact(h.row b j rv v hj Z hs).2
  omega
 have p:∀ b' j' c,j' < m->¬ (b'=b/\j'=j)->R b' j'=some c->c≠o:=fun b' j' c i P d e=>by
  rcases H with k|k
  ·exact P (h.sep b' j' b j rv i hj (by rw[d,e,k]) Z)
  have:=U b' j' c i d;omega
 have W:∀ b',g b'≠o:=fun b' e=>y7x ((hf.row (h.top b') (F b'))) hx (by decide) e;have s:∀ b',J.rowIs (g b') 102 m (fun j=>vrV n (R b' j)):=fun b'=>hf.row (h.top b') (F b');refine⟨fun b'=>?_,h.gne,h.low,fun b' j' i=>?_,fun b' j' c Q i d l=>?_,fun L Y K I c u D d l=>?_,fun b' j' Q d=>?_⟩
 ·by_cases e:b'=b
  ·subst e;refine((s b').set j _).congr (fun j' _=>?_);by_cases e:j'=j
   ·rw[if_pos e,if_pos ⟨rfl,e⟩]
   rw[if_neg e,if_neg (fun h=>e h.2)]
  refine((s b').of_block (blk_setCell_other _ _ _ _ (fun k=>?_))).congr (fun j' _=>by rw[if_neg (fun h=>e h.1)]);have E:=h.gne;have C:g b'=g b:=k;cases b'<;>cases b<;>first|exact e rfl|exact E C|exact E C.symm
 ·unfold updV;by_cases e:b'=b/\j'=j
  ·rw[if_pos e,if_pos e];simp
  rw[if_neg e,if_neg e];exact h.non b' j' i
 ·by_cases e:b'=b/\j'=j
  ·rw[if_pos e] at d;cases d;unfold updV at l;rw[if_pos e] at l;cases l;exact⟨hx.setOther (a:=⟨g b,j,none⟩) (fun k=>W b k.symm) _,N⟩
  rw[if_neg e] at d;unfold updV at l;rw[if_neg e] at l;have E:=h.row b' j' c Q i d l;exact⟨(hf.row E.1 (T b' j' c i d)).setOther (a:=⟨g b,j,none⟩) (fun k=>h.topne i d l k.symm) _,E.2⟩
 ·by_cases G:L=b/\Y=j
  ·rw[if_pos G] at d;cases d;by_cases k:K=b/\I=j
   ·exact⟨G.1.trans k.1.symm,G.2.trans k.2.symm⟩
   rw[if_neg k] at l;exact absurd rfl (p K I _ D k l)
  rw[if_neg G] at d;by_cases k:K=b/\I=j
  ·rw[if_pos k] at l;cases l;exact absurd rfl (p L Y _ u G d)
  rw[if_neg k] at l;exact h.sep L Y K I c u D d l
 unfold updV at d;by_cases e:b'=b/\j'=j
 ·rw[if_pos e] at d;cases d;exact O
 rw[if_neg e] at d;exact h.sm b' j' Q d
theorem u6c:TstA 79 #[] silB (fun _=>True) :=
 ⟨x2p,fun c _ i o s t=>by
  have h:=x6q c i o s t;rw[show ∀ a:Value,(#[a]++#[]:Array Value)=#[a] from fun _=>rfl];exact h⟩
end
end Go.Proofs.YteappjogmnogcaaGreatDoor
