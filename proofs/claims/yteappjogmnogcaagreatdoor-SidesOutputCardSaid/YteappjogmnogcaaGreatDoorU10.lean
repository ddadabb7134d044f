/- Parts of a proof: MkD ReptS WgP WgQ WgU. -/
import Derived.Test.YteappjogmnogcaaGreatDoorU09
import Derived.Test.YteappjogmnogcaaGreatDoorU07
import Derived.Test.YteappjogmnogcaaGreatDoorU02
import Derived.Laws.IdiomCopy
import Derived.Lib.SlBuf
namespace Go.Proofs.YteappjogmnogcaaGreatDoor
set_option maxRecDepth 100000
set_option linter.unusedSimpArgs false
set_option linter.unusedVariables false
set_option linter.unusedSectionVars false
set_option maxHeartbeats 16000000
open Go Tryz
section
open Go CSR
structure BOk (M:MD) (N c:Nat):Prop where
 fin:∀ i,M.fin i=⟨#[]⟩\/z0t M.kind (M.fin i)=true
 arc:∀ i d,d<M.na i->0<=M.ain i d/\M.ain i d<=500/\0<=M.aout i d/\M.aout i d<=500/\0<=M.ato i d/\M.ato i d<(N:Int)/\z0t M.kind (M.aw i d)=true
 na:∀ i,M.na i<=c
 cnt:∀ n,z0h M n<=c
 fsm:∀ i,smS (M.fin i)
 asm:∀ i d,smS (M.aw i d)
theorem BOk.mono {M:MD} {N g c c':Nat} (h:BOk M N c) (z:N<=g) (j:c<=c'):BOk M g c' :=
 ⟨h.fin,fun i d m=>by obtain⟨p,s,u,k,o,A,l⟩:=h.arc i d m;exact⟨p,s,u,k,o,by omega,l⟩,fun i=>Nat.le_trans (h.na i) j,fun n=>Nat.le_trans (h.cnt n) j,h.fsm,h.asm⟩
theorem y0q {D:MD} {p:Nat} {i o t:Int} {w:ByteArray}:∀ n,z0h (D.arc p i o w t) n<=z0h D n+(if p<n then 1 else 0)
 | 0=>Nat.zero_le _
 | n+1=>by
  have ih:=y0q (D:=D) (p:=p) (i:=i) (o:=o) (t:=t) (w:=w) n;show z0h (D.arc p i o w t) n+(if n=p then D.na p+1 else D.na n)<=z0h D n+D.na n+(if p<n+1 then 1 else 0)
  by_cases e:n=p
  ·subst e;rw[if_pos rfl,if_pos (by omega)];rw[if_neg (by omega)] at ih;omega
  rw[if_neg e];split at ih
  ·rw[if_pos (by omega)];omega
  split<;>omega
theorem BOk.put {M:MD} {N c q:Nat} {a b t:Int} {x:ByteArray} (h:BOk M N c) (l:0<=a/\a<=500) (hb:0<=b/\b<=500) (k:0<=t/\t<(N:Int)) (s:z0t M.kind x=true) (z:smS x):BOk (M.arc q a b x t) N (c+1):=by
 refine⟨h.fin,fun i d A=>?_,fun i=>?_,fun n=>?_,h.fsm,fun i d=>?_⟩
 ·have g:d<if i=q then M.na q+1 else M.na i:=A
  show 0<=(if i=q/\d=M.na q then a else M.ain i d)/\(if i=q/\d=M.na q then a else M.ain i d)<=500/\0<=(if i=q/\d=M.na q then b else M.aout i d)/\(if i=q/\d=M.na q then b else M.aout i d)<=500/\0<=(if i=q/\d=M.na q then t else M.ato i d)/\(if i=q/\d=M.na q then t else M.ato i d)<(N:Int)/\z0t M.kind (if i=q/\d=M.na q then x else M.aw i d)=true
  by_cases e:i=q/\d=M.na q
  ·simp only[if_pos e];exact⟨l.1,l.2,hb.1,hb.2,k.1,k.2,s⟩
  simp only[if_neg e];refine h.arc i d ?_;by_cases j:i=q
  ·rw[if_pos j] at g;subst j;have:d≠M.na i:=fun u=>e ⟨rfl,u⟩;omega
  rw[if_neg j] at g;exact g
 ·show (if i=q then M.na q+1 else M.na i)<=c+1
  have m:=h.na q;have B:=h.na i
  split<;>omega
 ·have m:=y0q (D:=M) (p:=q) (i:=a) (o:=b) (t:=t) (w:=x) n;have B:=h.cnt n
  split at m<;>omega
 show smS (if i=q/\d=M.na q then x else M.aw i d)
 split
 ·exact z
 exact h.asm i d
theorem BOk.setFin {M:MD} {N c q:Nat} {s:ByteArray} (h:BOk M N c) (d:s=⟨#[]⟩\/z0t M.kind s=true) (g:smS s):BOk (M.setFin q s) N c :=
 ⟨fun i=>by
  show (if i=q then s else M.fin i)=_\/z0t M.kind (if i=q then s else M.fin i)=true
  split
  ·exact d
  ·exact h.fin i,h.arc,h.na,fun n=>by rw[show z0h (M.setFin q s) n=z0h M n from by induction n with|zero=>rfl|succ n ih=>exact congrArg (·+M.na n) ih];exact h.cnt n,fun i=>by
  show smS (if i=q then s else M.fin i)
  split
  ·exact g
  exact h.fsm i,h.asm⟩
theorem BOk.state {M:MD} {N c:Nat} {s:ByteArray} (h:BOk M N c) (k:s=⟨#[]⟩\/z0t M.kind s=true) (m:smS s):BOk (M.state s) N c:=by
 have g:∀ i,(M.state s).na i<=M.na i:=fun i=>by
  show (if i=M.n then 0 else M.na i)<=_
  split<;>omega
 have j:∀ n,z0h (M.state s) n<=z0h M n:=fun n=>by
  induction n with
  | zero=>exact nlr
  | succ n ih=>exact Nat.add_le_add ih (g n)
 exact⟨fun i=>by
  show (if i=M.n then s else M.fin i)=_\/z0t M.kind (if i=M.n then s else M.fin i)=true
  split
  ·exact k
  ·exact h.fin i,fun i d l=>h.arc i d (Nat.lt_of_lt_of_le l (g i)),fun i=>Nat.le_trans (g i) (h.na i),fun n=>Nat.le_trans (j n) (h.cnt n),fun i=>by
  show smS (if i=M.n then s else M.fin i)
  split
  ·exact m
  exact h.fsm i,h.asm⟩
theorem BOk.empty (d st:Int) (c:ByteArray) (N:Nat):BOk (z1p d st c) N 0 :=
 ⟨fun _=>.inl rfl,fun _ _ h=>absurd h (Nat.not_lt_zero _),fun _=>nlr,fun n=>by
  induction n with
  | zero=>exact nlr
  | succ n ih=>exact ih,fun _=>Nat.zero_le _,fun _ _=>Nat.zero_le _⟩
theorem v4w {k:Int} (h:z4e k=true):-9223372036854775808<=k/\k<=9223372036854775807:=by unfold z4e at h;simp at h;omega
theorem BOk.msz {M:MD} {N c:Nat} (h:BOk M N c) (g:z4e M.kind=true) (hn:M.n<=140737488355328) (j:smS M.lead) (d:c<=140737488355328):MSz M :=
 ⟨j,h.fsm,h.asm,fun i=>Nat.le_trans (h.na i) d,hn,v4w g⟩
def revA (D:MD) (q:Nat):Nat->MD->MD
 | 0,M=>M
 | d+1,M=>(revA D q d M).arc (D.ato q d).toNat (D.ain q d) (D.aout q d) (D.aw q d) (q:Int)
def revF (D:MD) (q:Nat) (M:MD):MD:=if D.fin q=⟨#[]⟩ then M else M.arc D.n 0 0 (D.fin q) (q:Int)
def revZ (D:MD):MD:=⟨D.kind,(D.n:Int),D.lead,D.n+1,fun _=>⟨#[]⟩,fun _=>0,fun _ _=>0,fun _ _=>0,fun _ _=>⟨#[]⟩,fun _ _=>0⟩
def revQ (D:MD):Nat->MD
 | 0=>revZ D
 | q+1=>revF D q (revA D q (D.na q) (revQ D q))
def revD (D:MD):MD:=(revQ D D.n).setFin D.start.toNat (oneF D.kind)
structure Skel (M M':MD):Prop where
 kind:M'.kind=M.kind
 start:M'.start=M.start
 lead:M'.lead=M.lead
 n:M'.n=M.n
 fin:M'.fin=M.fin
theorem Skel.refl (M:MD):Skel M M:=⟨rfl,rfl,rfl,rfl,rfl⟩
theorem Skel.arc {M M':MD} (h:Skel M M') (q:Nat) (a b:Int) (x:ByteArray) (t:Int):Skel M (M'.arc q a b x t):=⟨h.kind,h.start,h.lead,h.n,h.fin⟩
theorem z7u (D:MD) (q:Nat) {M M':MD} (h:Skel M M'):∀ d,Skel M (revA D q d M')
 | 0=>h
 | d+1=>(z7u D q h d).arc _ _ _ _ _
theorem v0r (D:MD) (q:Nat) {M M':MD} (h:Skel M M'):Skel M (revF D q M'):=by
 unfold revF
 split
 ·exact h
 exact h.arc _ _ _ _ _
theorem z2s (D:MD):∀ q,Skel (revZ D) (revQ D q)
 | 0=>Skel.refl _
 | q+1=>v0r D q (z7u D q (z2s D q) _)
theorem x2s {D:MD} (hV:VM D) (hS:MSz D) {q:Nat} (hq:q<D.n) {M:MD} {c:Nat} (hk:M.kind=D.kind) (h:BOk M (D.n+1) c):∀ d,d<=D.na q->BOk (revA D q d M) (D.n+1) (c+d)
 | 0,_=>h
 | d+1,hd=>by
  have a:=hV.arc q d hq (by omega);refine(x2s hV hS hq hk h d (by omega)).put ⟨a.i0,a.i1⟩ ⟨a.o0,a.o1⟩ ⟨by omega,by omega⟩ ?_ (hS.aw q d);rw[show (revA D q d M).kind=D.kind from (z7u D q (Skel.refl M) d).kind.trans hk];exact a.wt
theorem x2i {D:MD} (hV:VM D) (hS:MSz D):∀ q,q<=D.n->BOk (revQ D q) (D.n+1) (z0h D q+q)
 | 0,_=>⟨fun _=>.inl rfl,fun _ _ h=>absurd h (Nat.not_lt_zero _),fun _=>Nat.zero_le _,fun n=>by
  have:z0h (revQ D 0) n=0:=by
   induction n with
   | zero=>rfl
   | succ n ih=>exact congrArg (·+0) ih
  rw[this];exact Nat.zero_le _,fun _=>Nat.zero_le _,fun _ _=>Nat.zero_le _⟩
 | q+1,hq=>by
  have h1:=x2s hV hS (q:=q) (by omega) (z2s D q).kind (x2i hV hS q (by omega)) (D.na q) nlr;show BOk (revF D q (revA D q (D.na q) (revQ D q))) (D.n+1) (z0h D q+D.na q+(q+1));unfold revF
  split
  ·exact h1.mono nlr (by omega)
  rename_i hf;have h2:=h1.put (q:=D.n) (a:=0) (b:=0) (t:=(q:Int)) (x:=D.fin q) ⟨by omega,by omega⟩ ⟨by omega,by omega⟩ ⟨by omega,by omega⟩ (by
   rw[show (revA D q (D.na q) (revQ D q)).kind=D.kind from (z7u D q (Skel.refl _) _).kind.trans (z2s D q).kind];exact(hV.fin q (by omega)).resolve_left hf) (hS.fin q)
  exact h2.mono nlr (by omega)
theorem z9d {k:Int} (h:z4e k=true):z0t k (oneF k)=true:=by
 unfold z4e at h;simp at h;have:k=1\/k=2\/k=3:=by omega
 rcases this with rfl|rfl|rfl<;>decide +kernel
theorem y8s {k:Int} (h:z4e k=true):smS (oneF k):=by
 unfold z4e at h;simp at h;have:k=1\/k=2\/k=3:=by omega
 rcases this with rfl|rfl|rfl<;>(unfold smS;decide +kernel)
theorem v9u {D:MD} (c:VM D) (d:MSz D):BOk (revD D) (D.n+1) (z0h D D.n+D.n) :=
 (x2i c d D.n nlr).setFin (.inr (by rw[(z2s D D.n).kind];exact z9d c.kind)) (y8s c.kind)
theorem x9k {D:MD} (c:VM D) (g:MSz D):MSz (revD D):=by
 have d:=z2s D D.n;have h:=c.arcs;have i:=c.n2;exact(v9u c g).msz (by rw[show (revD D).kind=D.kind from d.kind];exact c.kind) (by rw[show (revD D).n=D.n+1 from d.n];omega) (by rw[show (revD D).lead=D.lead from d.lead];exact g.lead) (by omega)
def stsD (D:MD):Nat->MD->MD
 | 0,M=>M
 | i+1,M=>(stsD D i M).state (D.fin i)
def cpA (D:MD) (low i:Nat):Nat->MD->MD
 | 0,M=>M
 | d+1,M=>(cpA D low i d M).arc (low+i) (D.ain i d) (D.aout i d) (D.aw i d) (D.ato i d+(low:Int))
def lvD (o:Option Nat) (s:Nat) (f:ByteArray) (M:MD):MD:=match o with
 | none=>M
 | some t=>(M.setFin s ⟨#[]⟩).arc s 0 0 f (t:Int)
def cpF (D:MD) (low:Nat) (o:Option Nat) (i:Nat) (M:MD):MD:=if D.fin i=⟨#[]⟩ then M else lvD o (low+i) (D.fin i) M
def cpQ (D:MD) (low:Nat) (o:Option Nat):Nat->MD->MD
 | 0,M=>M
 | i+1,M=>cpF D low o i (cpA D low i (D.na i) (cpQ D low o i M))
def z4n (D:MD) (o:Option Nat) (M:MD):MD:=cpQ D M.n o D.n (stsD D D.n M)
def cpC (D:MD) (o:Option Nat) (i:Nat):Nat:=z0h D i+(if o.isSome then i else 0)
def catD (D E:MD) (lead:ByteArray):MD :=
 { z4n D (some E.start.toNat) (z4n E none { z1p D.kind 0 lead with }) with start:=(E.n:Int)+D.start }
theorem y4f (D:MD) (M:MD):∀ i,(stsD D i M).n=M.n+i
 | 0=>rfl
 | i+1=>by show (stsD D i M).n+1=_;rw[y4f D M i];omega
theorem z9s (D:MD) (M:MD):∀ i,(stsD D i M).kind=M.kind/\(stsD D i M).lead=M.lead/\(stsD D i M).start=M.start
 | 0=>⟨rfl,rfl,rfl⟩
 | i+1=>z9s D M i
theorem y3d {D:MD} (hV:VM D) (hS:MSz D) {M:MD} {N c:Nat} (hk:M.kind=D.kind) (h:BOk M N c):∀ i,i<=D.n->BOk (stsD D i M) N c
 | 0,_=>h
 | i+1,hi=>(y3d hV hS hk h i (by omega)).state (by rw[(z9s D M i).1,hk];exact hV.fin i (by omega)) (hS.fin i)
theorem y0e (D:MD) (low i:Nat) {M M':MD} (h:Skel M M'):∀ d,Skel M (cpA D low i d M')
 | 0=>h
 | d+1=>(y0e D low i h d).arc _ _ _ _ _
theorem y4w (D:MD) (low:Nat) (o:Option Nat) (M:MD):∀ i,(cpQ D low o i M).kind=M.kind/\(cpQ D low o i M).lead=M.lead/\(cpQ D low o i M).start=M.start/\(cpQ D low o i M).n=M.n
 | 0=>⟨rfl,rfl,rfl,rfl⟩
 | i+1=>by
  have h1:=y4w D low o M i;have h2:=y0e D low i (Skel.refl (cpQ D low o i M)) (D.na i);have h3:(cpA D low i (D.na i) (cpQ D low o i M)).kind=M.kind/\(cpA D low i (D.na i) (cpQ D low o i M)).lead=M.lead/\(cpA D low i (D.na i) (cpQ D low o i M)).start=M.start/\(cpA D low i (D.na i) (cpQ D low o i M)).n=M.n :=
   ⟨h2.kind.trans h1.1,h2.lead.trans h1.2.1,h2.start.trans h1.2.2.1,h2.n.trans h1.2.2.2⟩
  have h4:cpQ D low o (i+1) M=cpA D low i (D.na i) (cpQ D low o i M)\/∃ t,cpQ D low o (i+1) M=((cpA D low i (D.na i) (cpQ D low o i M)).setFin (low+i) ⟨#[]⟩).arc (low+i) 0 0 (D.fin i) t:=by
   show cpF D low o i (cpA D low i (D.na i) (cpQ D low o i M))=_\/∃ t,cpF D low o i (cpA D low i (D.na i) (cpQ D low o i M))=_;unfold cpF
   split
   ·exact .inl rfl
   cases o with
   | none=>exact .inl rfl
   | some t=>exact .inr ⟨_,rfl⟩
  rcases h4 with h4|⟨t,h4⟩
  ·rw[h4];exact h3
  rw[h4];exact h3
theorem x3r {D:MD} (hV:VM D) (hS:MSz D) {low N i:Nat} (hi:i<D.n) (hN:low+D.n<=N) {M:MD} {c:Nat} (hk:M.kind=D.kind) (h:BOk M N c):∀ d,d<=D.na i->BOk (cpA D low i d M) N (c+d)
 | 0,_=>h
 | d+1,hd=>by
  have a:=hV.arc i d hi (by omega);refine(x3r hV hS hi hN hk h d (by omega)).put ⟨a.i0,a.i1⟩ ⟨a.o0,a.o1⟩ ⟨by have:=a.t0;omega,by have:=a.t1;omega⟩ ?_ (hS.aw i d);rw[show (cpA D low i d M).kind=D.kind from (y0e D low i (Skel.refl M) d).kind.trans hk];exact a.wt
theorem y6n {D:MD} (hV:VM D) (hS:MSz D) {low N:Nat} {o:Option Nat} (ho:∀ t,o=some t->t<N) (hN:low+D.n<=N) {M:MD} {c:Nat} (hk:M.kind=D.kind) (h:BOk M N c):∀ i,i<=D.n->BOk (cpQ D low o i M) N (c+cpC D o i)
 | 0,_=>h.mono nlr (by unfold cpC;omega)
 | i+1,hi=>by
  have hk1:(cpQ D low o i M).kind=D.kind:=(y4w D low o M i).1.trans hk;have h1:=x3r hV hS (i:=i) (by omega) hN hk1 (y6n hV hS ho hN hk h i (by omega)) (D.na i) nlr;have hk2:(cpA D low i (D.na i) (cpQ D low o i M)).kind=D.kind:=(y0e D low i (Skel.refl _) _).kind.trans hk1;have hc:c+cpC D o i+D.na i+(if o.isSome then 1 else 0)=c+cpC D o (i+1):=by
   unfold cpC;show _=c+(z0h D i+D.na i+_);split<;>omega
  show BOk (cpF D low o i (cpA D low i (D.na i) (cpQ D low o i M))) N (c+cpC D o (i+1));rw[<- hc];unfold cpF
  split
  ·exact h1.mono nlr (by omega)
  rename_i hf;cases o with
  | none=>exact h1.mono nlr (by omega)
  | some t =>
   have h2:=ho t rfl;exact(h1.setFin (q:=low+i) (s:=⟨#[]⟩) (.inl rfl) (Nat.zero_le _)).put ⟨by omega,by omega⟩ ⟨by omega,by omega⟩ ⟨by omega,by omega⟩ (by
    show z0t (cpA D low i (D.na i) (cpQ D low (some t) i M)).kind (D.fin i)=true;rw[hk2];exact(hV.fin i (by omega)).resolve_left hf) (hS.fin i)
theorem v1y {D E:MD} (F:VM D) (g:MSz D) (z:VM E) (i:MSz E) (C:E.kind=D.kind) (lead:ByteArray):BOk (catD D E lead) (E.n+D.n) (z0h E E.n+(z0h D D.n+D.n))/\(catD D E lead).n=E.n+D.n/\(catD D E lead).kind=D.kind/\(catD D E lead).lead=lead:=by
 have H:=BOk.empty D.kind 0 lead (E.n+D.n);have G:=y3d z i (M:=z1p D.kind 0 lead) C.symm H E.n nlr;have A:(stsD E E.n (z1p D.kind 0 lead)).n=E.n:=by rw[y4f];exact Nat.zero_add _
 have k:(stsD E E.n (z1p D.kind 0 lead)).kind=E.kind:=by rw[(z9s _ _ _).1];exact C.symm
 have J:=y6n z i (low:=0) (N:=E.n+D.n) (o:=none) (fun _ h=>by cases h) (by omega) k G E.n nlr;have p:=y4w E 0 none (stsD E E.n (z1p D.kind 0 lead)) E.n;have m:(z4n E none (z1p D.kind 0 lead)).kind=D.kind:=by unfold z4n;exact p.1.trans (k.trans C)
 have l:(z4n E none (z1p D.kind 0 lead)).n=E.n:=by unfold z4n;exact p.2.2.2.trans A
 have K:=y3d F g (M:=z4n E none (z1p D.kind 0 lead)) m J D.n nlr;have u:(stsD D D.n (z4n E none (z1p D.kind 0 lead))).kind=D.kind:=by rw[(z9s _ _ _).1];exact m
 have B:(stsD D D.n (z4n E none (z1p D.kind 0 lead))).n=E.n+D.n:=by rw[y4f,l]
 have c:=y6n F g (low:=E.n) (N:=E.n+D.n) (o:=some E.start.toNat) (fun t h=>by cases h;have:=z.s0;have:=z.s1;omega) nlr u K D.n nlr;have d:=y4w D E.n (some E.start.toNat) (stsD D D.n (z4n E none (z1p D.kind 0 lead))) D.n;have I:(0+cpC E none E.n+cpC D (some E.start.toNat) D.n)=z0h E E.n+(z0h D D.n+D.n):=by unfold cpC;simp
 rw[I] at c;have j:catD D E lead={ cpQ D E.n (some E.start.toNat) D.n (stsD D D.n (z4n E none (z1p D.kind 0 lead))) with start:=(E.n:Int)+D.start }:=by
  show ({ cpQ D (z4n E none (z1p D.kind 0 lead)).n (some E.start.toNat) D.n (stsD D D.n (z4n E none (z1p D.kind 0 lead))) with start:=(E.n:Int)+D.start }:MD)=_;rw[l]
 rw[j];refine⟨⟨c.fin,c.arc,c.na,fun n=>?_,c.fsm,c.asm⟩,d.2.2.2.trans B,d.1.trans u,?_⟩
 ·have:∀ (X:MD) (s:Int) n,z0h { X with start:=s } n=z0h X n:=fun X s n=>by
   induction n with
   | zero=>rfl
   | succ n ih=>exact congrArg (·+X.na n) ih
  rw[this];exact c.cnt n
 show (cpQ D E.n (some E.start.toNat) D.n (stsD D D.n (z4n E none (z1p D.kind 0 lead)))).lead=lead;rw[d.2.1,(z9s _ _ _).2.1];unfold z4n;rw[(y4w _ _ _ _ _).2.1,(z9s _ _ _).2.1];rfl
def atW (n:Nat) (x:Nat->Int) (i:Nat):Int:=if i<n then x i else 0
def z4a (kind:Int) (na:Nat) (x:Nat->Int) (nb:Nat) (y:Nat->Int) (v:ByteArray):Nat->MD
 | 0=>(z1p kind 0 v).state ⟨#[]⟩
 | i+1=>((z4a kind na x nb y v i).state ⟨#[]⟩).arc i (atW na x i) (atW nb y i) (oneF kind) ((i+1:Nat):Int)
def z9i (kind:Int) (na:Nat) (x:Nat->Int) (nb:Nat) (y:Nat->Int) (v:ByteArray):MD:=(z4a kind na x nb y v (max na nb)).setFin (max na nb) (oneF kind)
end
section
open Go.RowKit Go.Deep
theorem z6y {g:Nat} {t:TypeId} {n:Nat} {z:Value}:∀ (c o:Nat) {w:World} {F:Nat->Value},w.rowIs g t n F->(w.setCells g o (List.replicate c z)).rowIs g t n (fun j=>if o<=j/\j<o+c then z else F j)
 | 0,o,w,F,h=>h.congr (fun i _=>by rw[if_neg (by omega)])
 | c+1,o,w,F,h=>by
  have h1:=z6y (z:=z) c (o+1) (h.set o z);refine World.rowIs.congr h1 (fun i _=>?_);by_cases e:i=o
  ·subst e;rw[if_neg (by omega),if_pos rfl,if_pos (by omega)]
  by_cases e2:o+1<=i/\i<o+1+c
  ·rw[if_pos e2,if_pos (by omega)]
  rw[if_neg e2,if_neg e,if_neg (by omega)]
theorem y1h {B b:Nat} {a:World} {z:Value}:∀ (c o:Nat) {w:World},Below B a w->B<=b->Below B a (w.setCells b o (List.replicate c z))
 | 0,_,_,h,_=>h
 | c+1,o,_,h,hb=>y1h c (o+1) (h.setCell (p:=⟨b,o,none⟩) hb z) hb
def RepES (n:Nat) (z:ByteArray) (w:World) (r:Ending) (w':World):Prop:=Below w.heap.size w w'/\∃ g,r=.returned (.slice (some ⟨g,0,none⟩) n n)/\w.heap.size<=g/\w'.rowIs g 9 n (fun _=>.string z)
theorem x1y {n xb xo xc:Nat} {z:ByteArray} (w:World) (h1:1<=n) (hn:n<=3000) (hx:w.cell? ⟨xb,xo,none⟩=some (.string z)) :
  Calls prog 121 #[.slice (some ⟨xb,xo,none⟩) 1 xc,.int .i64 (n:Int)] w (RepES n z w):=by
 have X:=run_make_row' (P:=prog) 79 9 (.string ⟨#[]⟩) 16 underlying79 y9j rfl .i64 .i64 n (by omega) (by omega);have Q:∀ L,Calls prog 152 #[.int .u64 1,.int .u64 (n:Int)] L (fun e w'=>e=.returned (.tuple #[.int .u64 0,.int .u64 (n:Int)])/\L=w'):=fun L=>(Tryz.bits_Mul 1 n (by omega) (by omega) L).mono fun e w' h=>by
  refine⟨h.1.trans ?_,h.2.symm⟩;rw[show 1*n / 18446744073709551616=0 by omega,show 1*n % 18446744073709551616=n by omega];rfl
 have W:=qh Q;clear Q;have hz:decide ((n:Int)<0)=false:=by simp
 have a4:decide ((9223372036854775807:Int)<(n:Int))=false:=by simp;omega
 go_enter func121,ntmps121
 go_wp2_with fail
 refine(W.out _).mono ?_;rintro r L ⟨rfl,rfl⟩;clear hz;have p:(prog.info? 9).map (·.size)=some 1:=by kernel_rfl
 have l:=World.rowIs_made w (.string ⟨#[]⟩) n 9;have m:=run_copy_cells (P:=prog) (w.alloc (.cells (madeCells #[.string ⟨#[]⟩] n) 9)) 79 79 3 9 w.heap.size 0 n n ⟨xb,xo,none⟩ 1 xc (List.replicate 1 (.string z)) underlying79 p (by rw[List.length_replicate];exact(Nat.min_eq_left h1).symm)
  (fun j v B=>by
   have F:j=0:=by have:=(List.getElem?_eq_some_iff.1 B).1;simpa using this
   subst F;simp at B;subst B;rw[Addr.add_lit,Nat.add_zero];exact(World.grownBy_alloc w _ none).cell hx (by simp))
  (fun j F=>by rw[l.cell (by simp at F;omega)];rfl) (fun j _=>l.frozen _) (fun v B=>by rw[List.eq_of_mem_replicate B];rfl)
 have u:=z6y (z:=.string z) 1 0 l;have H:=y1h (z:=.string z) 1 0 (((Below.refl w.heap.size w).alloc nlr (.cells (madeCells #[.string ⟨#[]⟩] n) 9))) nlr;rw[List.length_replicate] at m;have d:=qh u;clear u l;have o:=qh H;clear H;obtain⟨W1,J⟩:∃ W1,W1=(w.alloc (.cells (madeCells #[.string ⟨#[]⟩] n) 9)).setCells w.heap.size 0 (List.replicate 1 (.string z)):=⟨_,rfl⟩;rw[<- J] at d o m;have a5:=qh J;clear J p
 go_wp2_with fail
 clear X m;obtain⟨g,U⟩:=exq (w.heap.size);rw[<- U] at d;rw[<- U];have O:w.heap.size<=g:=by omega
 clear U
 go_loopw [8] (fun v wr=>∃ c:Nat,1<=c/\c<=n/\v=.int .i64 (c:Int)/\wr.rowIs g 9 n (fun j=>if j<c then .string z else .string ⟨#[]⟩)/\Below w.heap.size w wr) (fun v _=>n-(intOf v).toNat)
 case atStart=>exact⟨1,nlr,h1,by go_num,d.out.congr (fun j _=>by by_cases e:j<1<;>simp[e]),o.out⟩
 obtain⟨c,a3,a6,rfl,hr,hb⟩:=hrel;clear d o;have N:=qh hr;clear hr;have HB:=qh hb;clear hb;by_cases a7:c<n
 ·have a9:(c:Int)<(n:Int):=by omega
  have a2:(0:Int)<=(c:Int):=by omega
  have a1:(c:Int)<=(n:Int):=by omega
  have p:(prog.info? 9).map (·.size)=some 1:=by kernel_rfl
  obtain⟨k,S⟩:=exq (Nat.min c (n-c));have Z:1<=k/\k<=c/\c+k<=n:=by rw[S];show 1<=min c (n-c)/\min c (n-c)<=c/\c+min c (n-c)<=n;omega
  have m:=run_copy_cells (P:=prog) wr.drew 79 79 3 9 g c (n-c) (n-c) ⟨g,0,none⟩ c n (List.replicate k (.string z)) underlying79 p (by rw[List.length_replicate];exact S)
   (fun j v B=>by
    have F:j<k:=by have:=(List.getElem?_eq_some_iff.1 B).1;simpa using this
    have e:=(List.getElem?_eq_some_iff.1 B).2;rw[List.getElem_replicate] at e;subst e;rw[Addr.add_lit,Nat.zero_add];have h2:=N.out.cell (i:=j) (by omega);rw[if_pos (by omega)] at h2;exact h2)
   (fun j F=>by rw[List.length_replicate] at F;rw[show wr.drew.cell? ⟨g,c+j,none⟩=_ from N.out.cell (i:=c+j) (by omega)];rfl) (fun j _=>N.out.frozen _) (fun v B=>by rw[List.eq_of_mem_replicate B];rfl)
  rw[List.length_replicate,show goInt k=Value.int .i64 (k:Int) from rfl] at m;have s:=z6y (z:=.string z) k c (show wr.drew.rowIs g 9 n _ from N.out);have C:=y1h (z:=.string z) k c HB.out.drew O;have R:=qh m;clear m p;have A:=qh s;clear s;have E:=qh C;clear C;have HK:=qh S;clear S;have Y:¬ n=c:=by omega
  have hw:IntKind.i64.wrap ((c:Int)+(k:Int))=(c:Int)+(k:Int):=by rw[IntKind.wrap_i64];omega
  go_wp2_with fail
  refine z0g (fun _=>True) 9 (by kernel_rfl) ?_;refine z0c.tm 0 trivial ?_;refine z0c.tm 1 trivial ?_;refine z0c.tm 2 trivial ?_;refine z0c.tm 3 trivial ?_;refine z0c.tm 4 trivial ?_;refine z0c.tm 5 trivial ?_;refine z0c.tm 6 trivial ?_
  try simp only[Act.put,tryL]
  refine z0c.on 7 fun K D=>?_;refine Lib.wp_copy_run _ (.tmp 41) (.tmp 44) 79 79 rfl _ _ (by simp[Act.eval,Y]) (by simp[Act.eval]) R.out ?_;refine D.out _ _ (.inr trivial) ?_;clear D K;obtain⟨W2,I⟩:=exq (wr.drew.setCells g c (List.replicate k (.string z)));rw[<- I] at A E;rw[<- I];clear I R
  try simp only[Act.put,tryL]
  refine z0c.on 8 fun K D=>?_;go_simp;refine D.out _ _ (.inr trivial) ?_;clear D K
  try simp only[Act.put,tryL]
  refine z0c.on 9 fun K D=>?_;go_simp;refine D.out _ _ (.inl rfl) (z0c.dn ?_);clear D K hw;go_wp2;go_roundw
  case rel =>
   refine⟨c+k,by omega,Z.2.2,by go_num,A.out.congr (fun j F=>?_),E.out⟩;by_cases e:c<=j/\j<c+k
   ·rw[if_pos e,if_pos e.2]
   rw[if_neg e];by_cases e2:j<c
   ·rw[if_pos e2,if_pos (by omega)]
   rw[if_neg e2,if_neg (by omega)]
  simp[intOf];omega
 have G:c=n:=by omega
 have a8:¬ ((c:Int)<(n:Int)):=by omega
 have T:=qh G;clear G;go_wp2;go_ret;exact⟨HB.out,g,rfl,O,N.out.congr (fun j F=>if_pos (by have:=T.out;omega))⟩
end
section
open Go.RowKit Go.Deep
theorem Fr.gbc {w d:World} {c:Nat} (h:Fr (fun q=>q=c) w d):w.grownBy d (some c):=(h.mono (C':=fun q=>some c=some q) (fun q _ e=>by rw[e])).gb
structure RsI (w wr:World) (cb vb lb:Nat) (D:MD) (sv stv:Value) (v:Nat->ByteArray) (s:WS):Prop where
 sc:Scl wr cb D sv stv s.2
 rl:wr.rowIs lb 9 D.n (fun j=>.string (s.1 j))
 rv:wr.rowIs vb 9 D.n (fun j=>.string (v j))
 fr:Fr (fun q=>q=cb) w wr
 lw:w.heap.size<=lb
 vl:vb≠lb
 vc:vb≠cb
 cl:cb≠lb
theorem RsI.stepped {w wr g:World} {d vb i:Nat} {D:MD} {sv c:Value} {v:Nat->ByteArray} {s:WS} (h:RsI w wr d vb i D sv c v s) {e':Nat} (hf:Fr (fun q=>q=d) wr g) (j:Scl g d D sv c e'):RsI w g d vb i D sv c v (s.1,e') :=
 ⟨j,hf.row h.rl (fun e=>h.cl e.symm),hf.row h.rv h.vc,h.fr.trans hf,h.lw,h.vl,h.vc,h.cl⟩
theorem RsI.put {w g:World} {i vb c:Nat} {D:MD} {sv d:Value} {v:Nat->ByteArray} {s:WS} (h:RsI w g i vb c D sv d v s) (p:Nat) (x:ByteArray):RsI w (g.setCell ⟨c,p,none⟩ (.string x)) i vb c D sv d v (updS s.1 p x,s.2):=by
 have hf:Fr (fun q=>q=c) g (g.setCell ⟨c,p,none⟩ (.string x)):=(Fr.refl (fun q=>q=c) _).set (p:=⟨c,p,none⟩) (.inl rfl) _;refine⟨h.sc.kept hf h.cl,(h.rl.set p (.string x)).congr (fun j _=>?_),hf.row h.rv h.vl,h.fr.set (p:=⟨c,p,none⟩) (.inr h.lw) _,h.lw,h.vl,h.vc,h.cl⟩;show _=Value.string (updS s.1 p x j);unfold updS;by_cases e:j=p
 ·rw[if_pos e,if_pos e]
 rw[if_neg e,if_neg e]
theorem y4y {m rb:Nat} {D:MD} {a:Option Addr} {cap:Nat} {J:Value} {st:StarO} {v:Nat->ByteArray} {e:Nat} (w:World) (hV:VM D) (hs:Scl w m D (.slice a D.n cap) J e) (b7:StV w J D.n st) (hv:w.rowIs rb 9 D.n (fun q=>.string (v q))) (e4:∀ q,smS (v q)) (w0:World) (d8:Below w0.heap.size w0 w) (e7:w0.heap.size<=m) (ht:Tab w0) :
  Calls prog 83 #[.pointer (some ⟨m,0,none⟩),.slice (some ⟨rb,0,none⟩) D.n D.n] w (RstE m rb D (.slice a D.n cap) J st v e w):=by
 have k4:=hs.c4;have k5:=hs.c5;have HS:=qh hs;clear hs;have HV:=qh hv;clear hv;cases st with
 | none =>
  have g5:J=.slice none 0 0:=b7;subst g5;have hq:=fun w=>y1a 75 79 underlying75 w none 0 0;rw[show (none:Option Addr).isNone=true from rfl] at hq
  go_enter func83,ntmps83
  go_wp2;go_ret;exact⟨rb,rfl,HV.out,HS.out,.inl rfl,Fr.refl _ _⟩
 | some S =>
  obtain⟨b4,e5⟩:=b7;obtain⟨sa,sc,sb,so,A,C,B,O,rfl,ha,_,_,_,_⟩:=b4.open;have f2:=hV.n1;have f7:=hV.n2;obtain rfl:=ha (by omega);clear ha;have hq:=fun w=>y1a 75 79 underlying75 w (some ⟨sb,so,none⟩) D.n sc;rw[show (some (⟨sb,so,none⟩:Addr)).isNone=false from rfl] at hq;by_cases he:e=0
  rotate_left
  ·have h6:¬ ((e:Int)=0):=by omega
   have o:z3x D.kind D.n (some S) v e=(v,e):=if_pos he;have F:=qh o;clear o
   go_enter func83,ntmps83
   go_wp2;go_ret;exact⟨rb,rfl,by rw[F.out];exact HV.out,by rw[F.out];exact HS.out,.inl rfl,Fr.refl _ _⟩
  subst he;obtain⟨kz,d0⟩:=exq (z1d D.kind);have o:z3x D.kind D.n (some S) v 0=rstQ D.kind S v D.n D.n (z1c,0):=by show (if (0:Nat)≠0 then (v,0) else rstQ D.kind S v D.n D.n (z1c,0))=_;rw[if_neg (by decide)]
  have F:=qh o;clear o;have c8:=qh d0;clear d0;have e0:=qh (z7j w HS.out f2 f7);have f8:=qh b4;clear b4;have g7:=qh e5;clear e5;have b2:=qh e4;clear e4;have f3:=qh ht;clear ht;have c9:=qh d8;clear d8;have g6:=qh e7;clear e7;have h4:=qh hV;clear hV
  go_enter func83,ntmps83
  go_wp2_with fail
  refine e0.out.mono ?_;rintro r w1 ⟨rfl,a4,N,f5⟩;obtain⟨G,a7⟩:=exq (w.heap.size);rw[<- a7] at a4;rw[<- a7];have a1:Fr (fun q=>q=m) w w1:=N.mono (fun _ _ e=>e.elim);have d:=qh (show RsI w w1 m rb G D (.slice a D.n cap) (.slice (some ⟨sb,so,none⟩) D.n sc) v (z1c,0) from
   ⟨HS.out.kept N (fun e=>e),a4,N.row HV.out (fun e=>e),a1,by omega,by have:=HV.out.lt;omega,z0f HV.out (show w.heap[m]?=_ from HS.out) (by decide),by have:=HS.out.lt;omega⟩)
  have g3:w.heap.size<=G:=by omega
  clear a4 N a1 f5 a7 e0 k4 k5 hq
  go_wp2_with fail
  go_loopw [27] (fun b0 wr=>∃ q:Nat,q<=D.n/\b0=.int .i64 (q:Int)/\RsI w wr m rb G D (.slice a D.n cap) (.slice (some ⟨sb,so,none⟩) D.n sc) v (rstQ D.kind S v D.n q (z1c,0))) (fun b0 _=>D.n-(intOf b0).toNat)
  case atStart=>exact⟨0,Nat.zero_le _,rfl,d.out⟩
  obtain⟨q,hq,rfl,hi⟩:=hrel;clear d;have d:=qh hi;clear hi;by_cases a8:q<D.n
  ·have h7:(q:Int)<(D.n:Int):=by omega
   have h3:(0:Int)<=(q:Int):=by omega
   have cv:=d.out.rv.cell a8;obtain⟨g,L⟩:=exq (v q);have T:smS g:=by rw[L];exact b2.out q
   rw[<- L] at cv;obtain⟨s0,R⟩:=exq (rstQ D.kind S v D.n q (z1c,0));have a3:∀ j,smS (s0.1 j):=by rw[R];exact x2q b2.out q z6s
   have d4:rstQ D.kind S v D.n (q+1) (z1c,0)=rstP D.kind S v q D.n s0:=by rw[R];rfl
   rw[<- R] at d;have g4:=qh d4;clear d4 R;have b9:=qh a3;clear a3;have g2:=qh L;clear L;have W:=qh T;clear T
   go_wp2_with fail
   clear cv
   go_loopw [34] (fun a5 wr=>∃ p:Nat,p<=D.n/\a5=.int .i64 (p:Int)/\RsI w wr m rb G D (.slice a D.n cap) (.slice (some ⟨sb,so,none⟩) D.n sc) v (rstP D.kind S v q p s0)) (fun a5 _=>D.n-(intOf a5).toNat)
   case atStart=>exact⟨0,Nat.zero_le _,rfl,d.out⟩
   obtain⟨p,hp,rfl,hi⟩:=hrel;clear d;obtain⟨s1,k⟩:=exq (rstP D.kind S v q p s0);rw[<- k] at hi;have Y:∀ j,smS (s1.1 j):=by rw[k];exact x3e (b2.out q) p b9.out
   have c7:=qh Y;clear Y;by_cases E:p<D.n
   ·have h5:(p:Int)<(D.n:Int):=by omega
    have h0:(0:Int)<=(p:Int):=by omega
    obtain⟨h8,h9,i2,i3,A,C,B,O,f9,g8,_,_,_,Z⟩:=(f8.out.later HS.out hi.sc hi.fr.gbc (.inl rfl) (fun i _=>by omega)).open;have g1:=g8 (by omega);cases f9;cases g1;obtain⟨t0,t1,t2,t3,t4,t5,t6⟩:=Z q a8;have t7:=t6 p E;clear Z;obtain H:=t3 (by omega);rw[H] at t0;clear t1 t2 t3 t4 t5 t6 H;have c1:=hi.sc.c4;have c0:=hi.sc.c0;obtain⟨x,hx⟩:=exq (S q p);rw[<- hx] at t7;have b8:smS x:=by rw[hx];exact g7.out q p a8 E
    have g0:=qh b8;clear b8;have z:rstP D.kind S v q (p+1) s0=if g=⟨#[]⟩\/x=kz then s1 else (updS s1.1 p (z2b D.kind (s1.1 p) (z0r D.kind g x s1.2).1 (z0r D.kind g x s1.2).2).1,(z2b D.kind (s1.1 p) (z0r D.kind g x s1.2).1 (z0r D.kind g x s1.2).2).2):=by
     rw[k,hx,g2.out,c8.out];rfl
    have l:=qh z;clear z k hx;have d:=qh hi;clear hi;cases hO:(g.toList==[])
    ·have b3:g≠⟨#[]⟩:=fun e=>by rw[e] at hO;simp at hO
     have b1:=z4q D.kind wr;rw[<- c8.out] at b1;have d7:=qh b1;clear b1
     go_wp2_with fail
     refine d7.out.mono ?_;rintro r w2 ⟨rfl,a9⟩;have d6:Fr (fun q=>q=m) wr w2:=Fr.of_below a9;have P:=qh (d.out.stepped d6 (by unfold Scl;rw[a9.block m d.out.sc.lt];exact d.out.sc));clear t0 t7 c0 c1 d d6 a9 d7;cases hX:(x.toList==kz.toList)
     ·have e8:¬ (g=⟨#[]⟩\/x=kz):=fun h=>h.elim b3 (fun e=>by rw[e] at hX;simp at hX);have HN:=qh (l.out.trans (if_neg e8));clear e8 b3 l;obtain⟨wd,I⟩:=exq (w2.drew);have f0:Fr (fun q=>q=m) w2 wd:=by rw[I];exact(Fr.refl _ _).drew
      have u:=qh (P.out.stepped f0 (by rw[I];exact P.out.sc));clear f0 P;have c:wd.cell? ⟨G,p,none⟩=some (.string (s1.1 p)):=u.out.rl.cell E;have X:∀ wz,Fr (fun q=>q=m) w wz->Tab wz:=fun wz hf=>f3.out.below (c9.out.trans (hf.below c9.out.size (fun q e=>by rw[e];exact g6.out))) nlr;have a2:=qh X;clear X;have b5:=qh (y0u g x wd u.out.sc W.out g0.out (a2.out _ u.out.fr));have U:smS (z0r D.kind g x s1.2).1:=z6j W.out;have e1:=qh U;clear U
      go_wp2_with fail
      refine z0g (fun wk=>wk.cell? ⟨G,p,none⟩=some (.string (s1.1 p))) 13 (by kernel_rfl) ?_;rw[<- I];clear I;refine z0c.tm 0 c ?_;refine z0c.tm 1 c ?_;refine z0c.tm 2 c ?_;refine z0c.tm 3 c ?_;refine z0c.tm 4 c ?_;refine z0c.tm 5 c ?_;refine z0c.tm 6 c ?_;refine z0c.tm 7 c ?_;refine z0c.tm 8 c ?_;refine z0c.tm 9 c ?_
      try simp only[Act.put,tryL]
      refine z0c.on 10 fun K hK=>?_;go_simp;refine b5.out.mono ?_;rintro r w3 ⟨rfl,d9,e3⟩;have s:=qh (u.out.stepped e3 d9);have e2:w3.cell? ⟨G,p,none⟩=some (.string (s1.1 p)):=s.out.rl.cell E;have d1:=qh (z9z (s1.1 p) (z0r D.kind g x s1.2).1 w3 s.out.sc (c7.out p) e1.out (a2.out _ s.out.fr));refine hK.out _ _ (.inr e2) ?_;clear hK K c b5 u d9 e3
      try simp only[Act.put,tryL]
      refine z0c.on 11 fun K hK=>?_;go_simp;refine d1.out.mono ?_;rintro r w4 ⟨rfl,e9,d2⟩;have Q:=qh (s.out.stepped d2 e9);have a6:w4.cell? ⟨G,p,none⟩=some (.string (s1.1 p)):=Q.out.rl.cell E;have fz:=Q.out.rl.frozen p;refine hK.out _ _ (.inr a6) ?_;clear hK K e2 d1 s e9 d2
      try simp only[Act.put,tryL]
      refine z0c.tm 12 a6 ?_
      try simp only[Act.put,tryL]
      refine z0c.on 13 fun K hK=>?_;go_simp;refine hK.out _ _ (.inl rfl) (z0c.dn ?_);clear hK K a6;have f1:=qh (Q.out.put p (z2b D.kind (s1.1 p) (z0r D.kind g x s1.2).1 (z0r D.kind g x s1.2).2).1);clear Q fz;go_wp2;go_roundw
      case rel=>exact⟨p+1,by omega,by go_num,by rw[HN.out];exact f1.out⟩
      simp[intOf];omega
     have d3:x=kz:=toList_eq hX;have HN:=qh (l.out.trans (if_pos (.inr d3)));clear d3 b3 l;go_wp2;go_roundw
     case rel=>exact⟨p+1,by omega,by go_num,by rw[HN.out];exact P.out⟩
     simp[intOf];omega
    have b6:g=⟨#[]⟩:=z6r hO;have HN:=qh (l.out.trans (if_pos (.inl b6)));clear b6 l;go_wp2;go_roundw
    case rel=>exact⟨p+1,by omega,by go_num,by rw[HN.out];exact d.out⟩
    simp[intOf];omega
   have e6:p=D.n:=by omega
   have g9:¬ ((p:Int)<(D.n:Int)):=by omega
   rw[e6] at k;have HN:=qh (g4.out.trans k.symm);clear k e6;have d:=qh hi;clear hi;go_wp2;go_roundw
   case rel=>exact⟨q+1,by omega,by go_num,by rw[HN.out];exact d.out⟩
   simp[intOf];omega
  have d5:q=D.n:=by omega
  have g9:¬ ((q:Int)<(D.n:Int)):=by omega
  have f4:=qh d5;clear d5;go_wp2;go_ret;have h1:=d.out.rl;have h2:=d.out.sc;rw[f4.out] at h1 h2;exact⟨G,rfl,by rw[F.out];exact h1,by rw[F.out];exact h2,.inr g3,d.out.fr⟩
end
section
open Go.RowKit Go.Deep
def OpnG (D:MD) (sel:Int->Int->Bool) (sv:Value) (w:World) (r:Ending) (w':World):Prop :=
 Below w.heap.size w w'/\∃ cb stv st e,r=.returned (.pointer (some ⟨cb,0,none⟩))/\w.heap.size<=cb/\Scl w' cb D sv stv e/\StV w' stv D.n st/\SilOk D sel st e
structure RwI (w wr:World) (cb gR:Nat) (D:MD) (sel:Int->Int->Bool) (sv:Value) (rb:Nat->Nat) (q:Nat):Prop where
 hb:Below w.heap.size w wr
 sc:Scl wr cb D sv (.slice none 0 0) (serr D sel q)
 own:wr.ownsRow w.heap.size 79 1 (.slice (some ⟨gR,0,none⟩) q 60) q ((List.range q).map fun i=>.slice (some ⟨rb i,0,none⟩) D.n D.n)
 rows:∀ i,i<q->wr.rowIs (rb i) 9 D.n (fun j=>.string (smat D sel i j))
theorem z9c {w:World} {B g n cap:Nat} {e:TypeId} {l:List Value} (h:w.ownsRow B e 1 (.slice (some ⟨g,0,none⟩) n cap) n l):∃ cs,w.heap[g]?=some (.cells cs e (0,0)):=by
 rcases h.2 with ⟨d,_⟩|⟨p,i,c,d,hb,j,o,m,s,k⟩
 ·cases d
 cases d;exact⟨c,j⟩
structure RoI (w wr:World) (cb gR lb:Nat) (D:MD) (sel:Int->Int->Bool) (sv:Value) (rb:Nat->Nat) (q:Nat) (s:WS):Prop where
 hb:Below w.heap.size w wr
 sc:Scl wr cb D sv (.slice none 0 0) s.2
 own:wr.ownsRow w.heap.size 79 1 (.slice (some ⟨gR,0,none⟩) q 60) q ((List.range q).map fun i=>.slice (some ⟨rb i,0,none⟩) D.n D.n)
 rows:∀ i,i<q->wr.rowIs (rb i) 9 D.n (fun j=>.string (smat D sel i j))
 rl:wr.rowIs lb 9 D.n (fun j=>.string (s.1 j))
 ne:∀ i,i<q->rb i≠lb
 lc:w.heap.size<=cb
 ll:w.heap.size<=lb
theorem RwI.keep {w wr d:World} {c g:Nat} {D:MD} {sel:Int->Int->Bool} {sv:Value} {rb:Nat->Nat} {q:Nat} (h:RwI w wr c g D sel sv rb q) (hf:Fr (fun _=>False) wr d):RwI w d c g D sel sv rb q :=
 ⟨h.hb.trans (hf.below h.hb.size (fun _ e=>e.elim)),h.sc.kept hf (fun e=>e),World.ownsRow.kept h.own ⟨hf.os,hf.tape,hf.output,hf.size,fun q j _=>hf.block q j (fun e=>e)⟩ (row:=none) (.inr (by simp[Value.ownBlock])),fun i hi=>hf.row (h.rows i hi) (fun e=>e)⟩
theorem RwI.row {w wr g:World} {d l k:Nat} {D:MD} {sel:Int->Int->Bool} {sv:Value} {rb:Nat->Nat} {q:Nat} (h:RwI w wr d l D sel sv rb q) (hf:Fr (fun _=>False) wr g) (o:w.heap.size<=d) (p:wr.heap.size<=k) (m:g.rowIs k 9 D.n (fun j=>.string (zrC D.kind j))):RoI w g d l k D sel sv rb q (zrC D.kind,serr D sel q):=by
 have c:=h.keep hf;exact⟨c.hb,c.sc,c.own,c.rows,m,fun i hi e=>by have:=(h.rows i hi).lt;omega,o,by have:=h.hb.size;omega⟩
theorem RoI.keep {w wr d:World} {c j g:Nat} {D:MD} {sel:Int->Int->Bool} {sv:Value} {rb:Nat->Nat} {q:Nat} {s:WS} (h:RoI w wr c j g D sel sv rb q s) (hf:Fr (fun _=>False) wr d):RoI w d c j g D sel sv rb q s :=
 ⟨h.hb.trans (hf.below h.hb.size (fun _ e=>e.elim)),h.sc.kept hf (fun e=>e),World.ownsRow.kept h.own ⟨hf.os,hf.tape,hf.output,hf.size,fun q k _=>hf.block q k (fun e=>e)⟩ (row:=none) (.inr (by simp[Value.ownBlock])),fun i hi=>hf.row (h.rows i hi) (fun e=>e),hf.row h.rl (fun e=>e),h.ne,h.lc,h.ll⟩
theorem RoI.gne {w wr:World} {g c i:Nat} {D:MD} {sel:Int->Int->Bool} {sv:Value} {rb:Nat->Nat} {q:Nat} {s:WS} (h:RoI w wr g c i D sel sv rb q s):c≠g/\c≠i:=by
 obtain⟨j,d⟩:=z9c h.own;refine⟨fun e=>?_,fun e=>?_⟩
 ·have:=h.sc;unfold Scl at this;rw[<- e,d] at this;simp at this
 exact z0f h.rl d (by decide) e.symm
theorem RoI.stepped {w wr d:World} {c k j e':Nat} {D:MD} {sel:Int->Int->Bool} {sv:Value} {rb:Nat->Nat} {q:Nat} {s:WS} (h:RoI w wr c k j D sel sv rb q s) (hf:Fr (fun q=>q=c) wr d) (m:Scl d c D sv (.slice none 0 0) e'):RoI w d c k j D sel sv rb q (s.1,e') :=
 ⟨h.hb.trans (hf.below h.hb.size (fun q e=>by rw[e];exact h.lc)),m,World.ownsRow.kept h.own ⟨hf.os,hf.tape,hf.output,hf.size,fun q l g=>hf.block q l (fun e=>g (by rw[e]))⟩ (row:=some c) (.inr (by simp[Value.ownBlock];exact h.gne.1)),fun i hi=>hf.row (h.rows i hi) (z0f (h.rows i hi) (show wr.heap[c]?=_ from h.sc) (by decide)),hf.row h.rl (z0f h.rl (show wr.heap[c]?=_ from h.sc) (by decide)),h.ne,h.lc,h.ll⟩
theorem RoI.put {w wr:World} {d k c:Nat} {D:MD} {sel:Int->Int->Bool} {sv:Value} {rb:Nat->Nat} {q:Nat} {s:WS} (h:RoI w wr d k c D sel sv rb q s) (p:Nat) (x:ByteArray):RoI w (wr.setCell ⟨c,p,none⟩ (.string x)) d k c D sel sv rb q (updS s.1 p x,s.2):=by
 have hf:Fr (fun q=>q=c) wr (wr.setCell ⟨c,p,none⟩ (.string x)):=(Fr.refl (fun q=>q=c) _).set (p:=⟨c,p,none⟩) (.inl rfl) _;refine⟨h.hb.trans (hf.below h.hb.size (fun q e=>by rw[e];exact h.ll)),h.sc.kept hf (z0f h.rl (show wr.heap[d]?=_ from h.sc) (by decide)).symm,World.ownsRow.kept h.own ⟨hf.os,hf.tape,hf.output,hf.size,fun q l g=>hf.block q l (fun e=>g (by rw[e]))⟩ (row:=some c) (.inr (by simp[Value.ownBlock];exact h.gne.2)),fun i hi=>hf.row (h.rows i hi) (h.ne i hi),(h.rl.set p (.string x)).congr (fun j _=>?_),h.ne,h.lc,h.ll⟩;show _=Value.string (updS s.1 p x j);unfold updS;by_cases e:j=p
 ·rw[if_pos e,if_pos e]
 rw[if_neg e,if_neg e]
theorem RoI.done {w wr o:World} {l k c q:Nat} {D:MD} {sel:Int->Int->Bool} {sv:Value} {rb:Nat->Nat} (h:RoI w wr l k c D sel sv rb q (srow D sel q (serr D sel q))) (d:o.ownsRow w.heap.size 79 1 (.slice (some ⟨k,0,none⟩) (q+1) 60) (q+1) (((List.range q).map fun i=>.slice (some ⟨rb i,0,none⟩) D.n D.n)++[.slice (some ⟨c,0,none⟩) D.n D.n])) (m:wr.grownBy o (some k)) :
  RwI w o l k D sel sv (fun i=>if i=q then c else rb i) (q+1):=by
 have g:=h.gne;obtain⟨F,z⟩:=z9c h.own;have s:w.heap.size<=k:=by
  rcases h.own.2 with ⟨u,_⟩|⟨E,A,C,u,hb,_⟩
  ·cases u
  cases u;exact hb
 refine⟨h.hb.grown m (by have:=h.hb.size;omega) (fun j B=>by cases B;exact s),?_,?_,fun i hi=>?_⟩
 ·show Scl o l D sv _ (srow D sel q (serr D sel q)).2;have:=h.sc;unfold Scl at this ⊢;rw[m.block l h.sc.lt (by simp;exact fun e=>g.1 e.symm)];exact this
 ·have e:((List.range (q+1)).map fun i=>Value.slice (some ⟨if i=q then c else rb i,0,none⟩) D.n D.n)=((List.range q).map fun i=>.slice (some ⟨rb i,0,none⟩) D.n D.n)++[.slice (some ⟨c,0,none⟩) D.n D.n]:=by
   rw[List.range_succ,List.map_append]
   congr 1
   ·exact List.map_congr_left fun i hi=>by rw[if_neg (by have:=List.mem_range.1 hi;omega)]
   simp
  rw[e];exact d
 by_cases e:i=q
 ·subst e;simp only[if_pos];exact h.rl.of_block (m.block c h.rl.lt (by simp;exact fun e=>g.2 e.symm))
 simp only[if_neg e];have p:=h.rows i (by omega);exact p.of_block (m.block (rb i) p.lt (by simp;exact z0f p z (by decide)))
theorem RwI.mt {w wr:World} {m c:Nat} {D:MD} {sel:Int->Int->Bool} {sv:Value} {rb:Nat->Nat} (h:RwI w wr m c D sel sv rb D.n) (hn:D.n<=60):Mt none wr (.slice (some ⟨c,0,none⟩) D.n 60) D.n (fun _=>D.n) (smat D sel):=by
 refine⟨fun i=>.slice (some ⟨rb i,0,none⟩) D.n D.n,?_,fun i hi=>?_⟩
 ·rcases h.own.2 with ⟨d,_⟩|⟨B,l,s,d,hb,p,A,u,C,z⟩
  ·cases d
  cases d;refine .inr ⟨c,0,60,rfl,⟨(Array.getElem?_eq_some_iff.1 p).1,by simp⟩,hn,u,fun i hi=>?_⟩;have:=World.ownsRow.cells h.own (g:=c) rfl i (.slice (some ⟨rb i,0,none⟩) D.n D.n) (by simp[hi]);rw[Addr.add_lit] at this;exact this
 have k:=h.rows i hi;exact .inr ⟨rb i,0,D.n,rfl,⟨k.lt,by simp⟩,nlr,by unfold maxLen;omega,fun j o=>by rw[Nat.zero_add];exact k.cell o⟩
theorem y9r {D:MD} {sv:Value} {nf:FuncId} {sel:Int->Int->Bool} (w:World) (hv:VM D) (hD:StS none w sv D) (s5:∀ i k,smS (D.aw i k)) (ht:Tab w) (v4:TstA nf #[] sel (fun _=>True)) :
  Calls prog 78 #[.agg #[.int .i64 D.kind,.int .i64 D.start,.string D.lead,sv],.func (.func nf) #[] #[]] w (OpnG D sel sv w):=by
 obtain⟨a,m,b,c,A,C,BB,O,rfl,ha,hc,hm,hb,a6⟩:=hD.open;unfold maxLen at hm;obtain⟨A3,s6⟩:=v4;obtain⟨n,hn⟩:=exq (D.n);have z2:n<=3000:=by rw[hn];exact hv.n2
 have y6:1<=n:=by rw[hn];exact hv.n1
 rw[<- hn] at ha hc hb a6 ⊢;have z5:∀ w,(Instr.makeSlice 75 (.int .i64 0) (.int .i64 60)).run prog w=.ok (.slice (some ⟨w.heap.size,0,none⟩) 0 60) (w.alloc (.cells (madeCells #[.slice none 0 0] 60) 79)):=fun _=>by kernel_rfl
 have X:=qh hn;clear hn;have HV:=qh hv;clear hv;have HA:=qh ha;clear ha;have HB:=qh hb;clear hb;have HR:=qh a6;clear a6 hD;have j2:=qh s5;clear s5;have uu0:=qh ht;clear ht;have uu9:=qh s6;clear s6;obtain rfl:=HA.out (by omega);obtain⟨w1,e1⟩:=exq (w.alloc (.cells #[.int .i64 D.kind,.int .i64 D.start,.string D.lead,.slice (some ⟨b,c,none⟩) n m] 24));obtain⟨w2,d4⟩:=exq (w1.alloc (.cells #[.int .i64 D.kind,.int .i64 D.start,.string D.lead,.slice (some ⟨b,c,none⟩) n m,.slice none 0 0,.int .i64 0] 105));obtain⟨w3,N⟩:=exq (w2.alloc (.cells (madeCells #[.slice none 0 0] 60) 79));have e6:w1.heap.size=w.heap.size+1:=by rw[e1];simp
 have j0:w2.heap.size=w.heap.size+1+1:=by rw[d4];simp[e6]
 have x3:Below w.heap.size w w1:=by rw[e1];exact blr.alloc nlr _
 have W:Below w.heap.size w w2:=by rw[d4];exact x3.alloc (by omega) _
 have v3:Below w.heap.size w w3:=by rw[N];exact W.alloc (by omega) _
 have l6:Scl w2 w1.heap.size D (.slice (some ⟨b,c,none⟩) n m) (.slice none 0 0) 0:=by rw[d4];exact heap_alloc_new w1 _
 have m5:Scl w3 w1.heap.size D (.slice (some ⟨b,c,none⟩) n m) (.slice none 0 0) 0:=by rw[N];unfold Scl;rw[blk_alloc_lt _ _ _ l6.lt];exact l6
 have h7:BoxM w1 w.heap.size D (.slice (some ⟨b,c,none⟩) n m):=by rw[e1];exact BoxM.new w D _
 have J:BoxM w3 w.heap.size D (.slice (some ⟨b,c,none⟩) n m):=by
  rw[N,d4];exact(h7.kept (World.grownBy_alloc w1 _ none) (by simp)).kept (World.grownBy_alloc _ _ none) (by simp)
 have e5:w3.ownsRow w.heap.size 79 1 (.slice (some ⟨w2.heap.size,0,none⟩) 0 60) 0 ((List.range 0).map fun i=>.slice (some ⟨(fun _=>0) i,0,none⟩) D.n D.n):=by
  refine⟨rfl,.inr ⟨w2.heap.size,60,madeCells #[.slice none 0 0] 60,rfl,by omega,by rw[N];exact heap_alloc_new w2 _,by omega,by unfold maxLen;omega,by simp[madeCells],by simp⟩⟩
 rw[j0] at e5;rw[e6] at m5;have m3:=J.c3;rw[N,d4,e1] at m3;have j7:=qh m5;clear m5 l6;have o8:=qh v3;clear v3 W x3;have T:=qh J;clear J h7;have f8:=qh e5;clear e5;clear e6 j0
 go_enter func78,ntmps78
 go_wp2_with fail
 rw[<- e1,<- d4,<- N];obtain⟨B,i8⟩:=exq (w.heap.size);obtain⟨o,k9⟩:=exq (w.heap.size+1);obtain⟨gR,l0⟩:=exq (w.heap.size+1+1);have a9:=qh (show w.heap.size<=o by omega);have y1:=qh (show B≠o by omega);rw[<- k9] at j7;rw[<- l0] at f8;rw[<- i8] at T;rw[<- l0,<- k9,<- i8];clear e1 d4 N m3 z5 k9 l0 i8
 go_loopw [7,24] (fun y i wr=>∃ (q:Nat) (bb:Bool),q<=n/\i=.int .i64 (q:Int)/\y=.bool bb/\(bb=false->∀ q' d,q' < q->d<D.na q'->sel (D.ain q' d) (D.aout q' d)=false)/\(bb=true->¬ NoSel D sel)/\Scl wr o D (.slice (some ⟨b,c,none⟩) n m) (.slice none 0 0) 0/\Below w.heap.size w wr/\BoxM wr B D (.slice (some ⟨b,c,none⟩) n m)/\wr.ownsRow w.heap.size 79 1 (.slice (some ⟨gR,0,none⟩) 0 60) 0 ((List.range 0).map fun i=>.slice (some ⟨(fun _=>0) i,0,none⟩) D.n D.n)) (fun _ i _=>n-(intOf i).toNat)
 case atStart=>exact⟨0,false,Nat.zero_le _,rfl,rfl,fun _ q' d h=>(by omega),fun h=>(by cases h),j7.out,o8.out,T.out,f8.out⟩
 obtain⟨q,bb,hq,rfl,rfl,f9,f1,v9,w9,b5,o4⟩:=hrel;clear j7 o8 T f8;have b3:=qh v9;clear v9;have Z:=qh w9;clear w9;have s:=qh b5;clear b5;have g9:=qh o4;clear o4;have b0:=qh f9;clear f9;have d3:=qh f1;clear f1;by_cases m4:q<n
 ·have z3:(q:Int)<(n:Int):=by omega
  have v2:(0:Int)<=(q:Int):=by omega
  have e7:=(HB.out (by omega)).1;obtain⟨k1,k2,k3,k4,k5,k6,k7⟩:=HR.out q m4;obtain⟨aq,f7⟩:=exq (A q);rw[<- f7] at k2 k5;clear f7;have c0:=(Z.out.cell (p:=⟨b,c+q*2,none⟩) e7).trans k1;have c1:=(Z.out.cell (p:=⟨b,c+q*2+1,none⟩) e7).trans k2;clear k1 k2;unfold maxLen at k4;have q9:D.na q<=30000:=by have E:=Nat.le_trans (z1u D (show q+1<=D.n by have:=X.out;omega)) HV.out.arcs;have h2:z0h D (q+1)=z0h D q+D.na q:=rfl;omega
  have j3:=qh k7;clear k7;have l2:=qh k5;clear k5;have n3:=qh k6;clear k6;obtain⟨wa,G⟩:=exq (wr.alloc (.cells #[.string (D.fin q),.slice aq (D.na q) (C q)] 57));have g:Fr (fun _=>False) wr wa:=by rw[G];exact Fr.alloc _ _
  have F:=qh (show Scl wa o D (.slice (some ⟨b,c,none⟩) n m) (.slice none 0 0) 0/\Below w.heap.size w wa/\BoxM wa B D (.slice (some ⟨b,c,none⟩) n m)/\wa.ownsRow w.heap.size 79 1 (.slice (some ⟨gR,0,none⟩) 0 60) 0 ((List.range 0).map fun i=>.slice (some ⟨(fun _=>0) i,0,none⟩) D.n D.n) from
   ⟨b3.out.kept g (fun e=>e),Z.out.trans (g.below Z.out.size (fun _ e=>e.elim)),(g.block _ s.out.lt (fun e=>e)).trans s.out,World.ownsRow.kept g9.out ⟨g.os,g.tape,g.output,g.size,fun q hq _=>g.block q hq (fun e=>e)⟩ (row:=none) (.inr (by simp[Value.ownBlock]))⟩)
  clear g
  go_wp2_with fail
  rw[<- G];clear c0 c1 G b3 Z s g9
  go_loopw [7,31] (fun y i wr=>∃ (d:Nat) (bb:Bool),d<=D.na q/\i=.int .i64 (d:Int)/\y=.bool bb/\(bb=false->(∀ q' d,q' < q->d<D.na q'->sel (D.ain q' d) (D.aout q' d)=false)/\∀ d',d' < d->sel (D.ain q d') (D.aout q d')=false)/\(bb=true->¬ NoSel D sel)/\Scl wr o D (.slice (some ⟨b,c,none⟩) n m) (.slice none 0 0) 0/\Below w.heap.size w wr/\BoxM wr B D (.slice (some ⟨b,c,none⟩) n m)/\wr.ownsRow w.heap.size 79 1 (.slice (some ⟨gR,0,none⟩) 0 60) 0 ((List.range 0).map fun i=>.slice (some ⟨(fun _=>0) i,0,none⟩) D.n D.n)) (fun _ i _=>D.na q-(intOf i).toNat)
  case atStart=>exact⟨0,bb,Nat.zero_le _,rfl,rfl,fun h=>⟨b0.out h,fun d' h=>by omega⟩,d3.out,F.out⟩
  obtain⟨d,b2,hd,rfl,rfl,f9,f1,s4⟩:=hrel;clear F b0 d3;have b0:=qh f9;clear f9;have d3:=qh f1;clear f1;have F:=qh s4;clear s4;by_cases g3:d<D.na q
  ·have y8:(d:Int)<(D.na q:Int):=by omega
   have v0:(0:Int)<=(d:Int):=by omega
   have a7:=(n3.out (by omega)).1;obtain⟨t0,t1,t2,t3⟩:=j3.out d g3;obtain rfl:=l2.out (by omega);have c0:=(F.out.2.1.cell (p:=⟨BB q,O q+d*4,none⟩) a7).trans t0;have c1:=(F.out.2.1.cell (p:=⟨BB q,O q+d*4+1,none⟩) a7).trans t1;have c2:=(F.out.2.1.cell (p:=⟨BB q,O q+d*4+2,none⟩) a7).trans t2;have c3:=(F.out.2.1.cell (p:=⟨BB q,O q+d*4+3,none⟩) a7).trans t3;clear t0 t1 t2 t3;obtain⟨wa,G⟩:=exq (wr.alloc (.cells #[.int .i64 (D.ain q d),.int .i64 (D.aout q d),.string (D.aw q d),.int .i64 (D.ato q d)] 59));have g:Fr (fun _=>False) wr wa:=by rw[G];exact Fr.alloc _ _
   have uu4:∀ wz,Fr (fun _=>False) wr wz->Scl wz o D (.slice (some ⟨b,c,none⟩) n m) (.slice none 0 0) 0/\Below w.heap.size w wz/\BoxM wz B D (.slice (some ⟨b,c,none⟩) n m)/\wz.ownsRow w.heap.size 79 1 (.slice (some ⟨gR,0,none⟩) 0 60) 0 ((List.range 0).map fun i=>.slice (some ⟨(fun _=>0) i,0,none⟩) D.n D.n):=fun wz g =>
    ⟨F.out.1.kept g (fun e=>e),F.out.2.1.trans (g.below F.out.2.1.size (fun _ e=>e.elim)),(g.block _ F.out.2.2.1.lt (fun e=>e)).trans F.out.2.2.1,World.ownsRow.kept F.out.2.2.2 ⟨g.os,g.tape,g.output,g.size,fun q hq _=>g.block q hq (fun e=>e)⟩ (row:=none) (.inr (by simp[Value.ownBlock]))⟩
   have j9:=qh uu4;clear uu4;have l8:=qh g;clear g;cases b2 with
   | true =>
    go_wp2_with fail
    rw[<- G];clear G c0 c1 c2 c3;go_roundw
    case rel=>exact⟨d+1,true,by omega,by go_num,rfl,fun h=>by (first|cases h),d3.out,j9.out _ l8.out⟩
    simp[intOf];omega
   | false =>
    have I:=uu9.out wa trivial (D.ain q d) (D.aout q d) (D.aw q d) (D.ato q d);obtain⟨sb,l1⟩:=exq (sel (D.ain q d) (D.aout q d));rw[<- l1] at I;have p7:=qh l1;clear l1;have HC:=qh I;clear I
    go_wp2_with fail
    rw[<- G];clear G c0 c1 c2 c3;refine HC.out.mono ?_;rintro r w2 ⟨rfl,W⟩;have HX:=qh (j9.out w2 (l8.out.trans (Fr.of_below W)));clear W HC j9 l8 F;go_wp2;go_roundw
    case rel =>
     refine⟨d+1,sb,by omega,by go_num,rfl,fun h=>⟨(b0.out (by first|rfl|trivial)).1,fun d' A2=>?_⟩,fun h g4=>?_,HX.out⟩
     ·by_cases e:d'=d
      ·rw[e,<- p7.out];exact h
      exact(b0.out (by first|rfl|trivial)).2 d' (by omega)
     have:=g4 q d (by have:=X.out;omega) g3;rw[<- p7.out,h] at this;cases this
    simp[intOf];omega
  have n7:¬ ((d:Int)<(D.na q:Int)):=by omega
  go_wp2;go_roundw
  case rel =>
   refine⟨q+1,b2,by omega,by go_num,rfl,fun h q' d' E h2=>?_,d3.out,F.out⟩;by_cases e:q'=q
   ·subst e;exact(b0.out h).2 d' (by omega)
   exact(b0.out h).1 q' d' (by omega) h2
  simp[intOf];omega
 have n7:¬ ((q:Int)<(n:Int)):=by omega
 have h0:q=D.n:=by have:=X.out;omega
 cases bb with
 | false =>
  have g4:NoSel D sel:=fun q' d E h2=>b0.out rfl q' d (by omega) h2;have e2:=qh g4;clear g4 h0;go_wp2;go_ret;exact⟨Z.out,o,_,none,0,rfl,a9.out,b3.out,rfl,.inl ⟨e2.out,rfl,rfl⟩⟩
 | true =>
  clear h0;have e2:=qh (d3.out rfl);have m3:=s.out.c3;have m0:=s.out.c0;by_cases A1:60<n
  ·have w0:(60:Int)<(n:Int):=by omega
   have f5:=b3.out.fz 5;have c5:=b3.out.c5;have a1:Fr (fun q=>q=o) wr (wr.setCell ⟨o,5,none⟩ (.int .i64 ((2:Nat):Int))):=(Fr.refl (fun q=>q=o) _).set (p:=⟨o,5,none⟩) (.inl rfl) _;have y5:=qh a1;clear a1;go_wp2;go_ret;refine⟨Z.out.trans (y5.out.below Z.out.size (fun q e=>by rw[e];exact a9.out)),o,_,none,2,rfl,a9.out,b3.out.setE 2,rfl,.inr (.inr ⟨e2.out,by omega,rfl,.inl (by have:=X.out;omega)⟩)⟩
  have w0:decide ((60:Int)<(n:Int))=false:=by simp;omega
  have z7:n<=60:=by omega
  have t8:=qh (show RwI w wr o gR D sel (.slice (some ⟨b,c,none⟩) n m) (fun _=>0) 0 from ⟨Z.out,b3.out,g9.out,fun i hi=>by omega⟩);clear b3 Z g9 b0 d3
  go_wp2_with fail
  clear m3 m0
  go_loopw [6,57] (fun v6 i wr=>∃ (q:Nat) (rb:Nat->Nat),q<=n/\i=.int .i64 (q:Int)/\v6=.slice (some ⟨gR,0,none⟩) q 60/\RwI w wr o gR D sel (.slice (some ⟨b,c,none⟩) n m) rb q/\BoxM wr B D (.slice (some ⟨b,c,none⟩) n m)) (fun _ i _=>n-(intOf i).toNat)
  case atStart=>exact⟨0,_,Nat.zero_le _,rfl,rfl,t8.out,s.out⟩
  obtain⟨q,rb,hq,rfl,rfl,hi,b5⟩:=hrel;clear t8 s;have HI:=qh hi;clear hi;have s:=qh b5;clear b5;by_cases m4:q<n
  ·have z3:(q:Int)<(n:Int):=by omega
   have v2:(0:Int)<=(q:Int):=by omega
   have e7:=(HB.out (by omega)).1;obtain⟨k1,k2,k3,k4,k5,k6,k7⟩:=HR.out q m4;obtain⟨aq,f7⟩:=exq (A q);rw[<- f7] at k2 k5;clear f7;have c0:=(HI.out.hb.cell (p:=⟨b,c+q*2,none⟩) e7).trans k1;have c1:=(HI.out.hb.cell (p:=⟨b,c+q*2+1,none⟩) e7).trans k2;have A6:=qh k2;clear k1 k2;unfold maxLen at k4;have q9:D.na q<=30000:=by have E:=Nat.le_trans (z1u D (show q+1<=D.n by have:=X.out;omega)) HV.out.arcs;have h2:z0h D (q+1)=z0h D q+D.na q:=rfl;omega
   have j3:=qh k7;clear k7;have l2:=qh k5;clear k5;have n3:=qh k6;clear k6;obtain⟨wa,G⟩:=exq (wr.alloc (.cells #[.string (D.fin q),.slice aq (D.na q) (C q)] 57));obtain⟨xb,n5⟩:=exq (wr.heap.size);have g:Fr (fun _=>False) wr wa:=by rw[G];exact Fr.alloc _ _
   have m7:wa.heap[xb]?=some (.cells #[.string (D.fin q),.slice aq (D.na q) (C q)] 57 (0,0)):=by rw[G,n5];exact heap_alloc_new wr _
   obtain⟨wd,c7⟩:=exq (wa.drew);have b7:Fr (fun _=>False) wa wd:=by rw[c7];exact(Fr.refl _ _).drew
   have g2:=g.trans b7;have S:BoxM wd B D (.slice (some ⟨b,c,none⟩) n m):=(g2.block _ s.out.lt (fun e=>e)).trans s.out;have d0:wd.heap[xb]?=_:=(b7.block xb (lt_of_block m7) (fun e=>e)).trans m7;have l:wd.cell? ⟨B,0,none⟩=some (.int .i64 D.kind)/\wd.cell? ⟨B,3,none⟩=some (.slice (some ⟨b,c,none⟩) n m):=⟨S.c0,S.c3⟩;obtain⟨kz,l4⟩:=exq (z1d D.kind);have j4:=z4q D.kind wd;rw[<- l4] at j4;have q7:=qh j4;clear j4;have x6:=qh l4;clear l4;have R:=qh S;clear S s;have e0:=qh d0;clear d0 m7;have v5:=qh g2;clear g2 b7 g
   go_wp2_with fail
   refine z0g (fun wk=>wk.cell? ⟨B,0,none⟩=some (.int .i64 D.kind)/\wk.cell? ⟨B,3,none⟩=some (.slice (some ⟨b,c,none⟩) n m)) 8 (by kernel_rfl) ?_;rw[<- G,<- n5,<- c7];clear G n5 c7 c0 c1;refine z0c.tm 0 l ?_;refine z0c.tm 1 l ?_;refine z0c.tm 4 l ?_;refine z0c.tm 5 l ?_;refine z0c.tm 6 l ?_
   try simp only[Act.put,tryL]
   refine z0c.on 2 fun K hK=>?_;go_simp;refine q7.out.mono ?_;rintro r w2 ⟨rfl,W⟩;have p8:Fr (fun _=>False) wr w2:=v5.out.trans (Fr.of_below W);have d7:BoxM w2 B D (.slice (some ⟨b,c,none⟩) n m):=(W.block _ R.out.lt).trans R.out;have uu6:=(W.block xb (lt_of_block e0.out)).trans e0.out;have o6:w2.cell? ⟨B,0,none⟩=some (.int .i64 D.kind)/\w2.cell? ⟨B,3,none⟩=some (.slice (some ⟨b,c,none⟩) n m):=⟨d7.c0,d7.c3⟩;have g1:=qh d7;clear d7 R;have j1:=qh uu6;clear uu6 e0;have o3:=qh p8;clear p8 v5 W;refine hK.out _ _ (.inr o6) ?_;clear hK K l q7
   try simp only[Act.put,tryL]
   refine z0c.on 3 fun K hK=>?_;go_simp;obtain⟨w3,N⟩:=exq (w2.alloc (.cells #[.string kz] 9));have h5:Fr (fun _=>False) w2 w3:=by rw[N];exact Fr.alloc _ _
   have b6:w3.cell? ⟨w2.heap.size,0,none⟩=some (.string kz):=by rw[N];exact z4p w2 _ _ 0 _ rfl
   have J:BoxM w3 B D (.slice (some ⟨b,c,none⟩) n m):=(h5.block _ g1.out.lt (fun e=>e)).trans g1.out;have q8:=(h5.block xb (lt_of_block j1.out) (fun e=>e)).trans j1.out;have r0:w3.cell? ⟨B,0,none⟩=some (.int .i64 D.kind)/\w3.cell? ⟨B,3,none⟩=some (.slice (some ⟨b,c,none⟩) n m):=⟨J.c0,J.c3⟩;have uu7:=qh (x1y (n:=n) (xb:=w2.heap.size) (xo:=0) (xc:=1) (z:=kz) w3 y6 z2 b6);have T:=qh J;clear J g1;have n6:=qh q8;clear q8 j1;have j8:=qh (o3.out.trans h5);clear h5 o3 b6;rw[<- N];clear N;refine hK.out _ _ (.inr r0) ?_;clear hK K o6
   try simp only[Act.put,tryL]
   refine z0c.on 7 fun K hK=>?_;go_simp;refine uu7.out.mono ?_;rintro r w4 ⟨h4,lb,rfl,z1,s8⟩;have uu3:Fr (fun _=>False) wr w4:=j8.out.trans (Fr.of_below h4);have d9:BoxM w4 B D (.slice (some ⟨b,c,none⟩) n m):=(h4.block _ T.out.lt).trans T.out;have r3:=(h4.block xb (lt_of_block n6.out)).trans n6.out;have p6:w4.cell? ⟨B,0,none⟩=some (.int .i64 D.kind)/\w4.cell? ⟨B,3,none⟩=some (.slice (some ⟨b,c,none⟩) n m):=⟨d9.c0,d9.c3⟩;have U:RoI w w4 o gR lb D sel (.slice (some ⟨b,c,none⟩) n m) rb q (zrC D.kind,serr D sel q):=HI.out.row uu3 a9.out (by have:=j8.out.size;omega) (by
    have E:w4.rowIs lb 9 D.n (fun _=>.string kz):=by rw[<- X.out];exact s8
    exact E.congr (fun _ _=>by show Value.string kz=.string (z1d D.kind);rw[x6.out]))
   have L:=qh U;clear U s8 uu3 j8;have i3:=qh d9;clear d9 T;have r8:=qh r3;clear r3 n6;refine hK.out _ _ (.inr p6) ?_;clear hK K r0 uu7 h4 z1
   try simp only[Act.put,tryL]
   refine z0c.on 8 fun K hK=>?_;go_simp;refine hK.out _ _ (.inl rfl) (z0c.dn ?_);clear hK K p6 HI;obtain⟨s0,g6⟩:∃ s0:WS,s0=(zrC D.kind,serr D sel q):=⟨_,rfl⟩;have h9:∀ j,smS (s0.1 j):=by rw[g6];exact v7s _
   have a6:srow D sel q (serr D sel q)=z5a D sel q (D.na q) s0:=by rw[g6];rfl
   rw[<- g6] at L;have s9:=qh a6;clear a6;have t7:=qh h9;clear h9 g6;have x1:=cellOf r8.out 1 rfl
   go_wp2_with fail
   clear x1
   go_loopw [72] (fun i wr=>∃ d:Nat,d<=D.na q/\i=.int .i64 (d:Int)/\RoI w wr o gR lb D sel (.slice (some ⟨b,c,none⟩) n m) rb q (z5a D sel q d s0)/\BoxM wr B D (.slice (some ⟨b,c,none⟩) n m)) (fun i _=>D.na q-(intOf i).toNat)
   case atStart=>exact⟨0,Nat.zero_le _,rfl,L.out,i3.out⟩
   obtain⟨d,hd,rfl,U,b5⟩:=hrel;clear L i3 r8;obtain⟨s1,d1⟩:=exq (z5a D sel q d s0);rw[<- d1] at U;have s:=qh b5;clear b5;have L:=qh U;clear U;by_cases g3:d<D.na q
   ·have y8:(d:Int)<(D.na q:Int):=by omega
    have v0:(0:Int)<=(d:Int):=by omega
    have a7:=(n3.out (by omega)).1;obtain⟨t0,t1,t2,t3⟩:=j3.out d g3;obtain rfl:=l2.out (by omega);have l9:=HV.out.arc q d (by have:=X.out;omega) g3;obtain⟨H,m9⟩:∃ H:Nat,D.ato q d=(H:Int):=⟨(D.ato q d).toNat,by have:=l9.t0;omega⟩;have A4:H<n:=by have:=l9.t1;have:=X.out;omega
    have uu5:H<D.n:=by have:=X.out;omega
    have A5:(H:Int)<(n:Int):=by omega
    have z9:(0:Int)<=(H:Int):=by omega
    rw[m9] at t3;have c0:=(L.out.hb.cell (p:=⟨BB q,O q+d*4,none⟩) a7).trans t0;have c1:=(L.out.hb.cell (p:=⟨BB q,O q+d*4+1,none⟩) a7).trans t1;have c2:=(L.out.hb.cell (p:=⟨BB q,O q+d*4+2,none⟩) a7).trans t2;have c3:=(L.out.hb.cell (p:=⟨BB q,O q+d*4+3,none⟩) a7).trans t3;clear t0 t1 t2 t3 l9;have i4:∀ j,smS (s1.1 j):=by rw[d1];exact y3s (j2.out q) d t7.out
    have o7:=qh i4;clear i4;have p0:z5a D sel q (d+1) s0=if sel (D.ain q d) (D.aout q d)=true then (updS s1.1 H (z2b D.kind (s1.1 H) (D.aw q d) s1.2).1,(z2b D.kind (s1.1 H) (D.aw q d) s1.2).2) else s1:=by
     show y6t D sel q d (z5a D sel q d s0)=_;unfold y6t;rw[<- d1,m9,Int.toNat_natCast]
    have c9:=qh p0;clear p0 d1 m9;obtain⟨ai,r4⟩:=exq (D.ain q d);obtain⟨ao,i6⟩:=exq (D.aout q d);obtain⟨aw,m2⟩:=exq (D.aw q d);have uu1:smS aw:=by rw[m2];exact j2.out q d
    have z4:=qh uu1;clear uu1;rw[<- r4] at c0 c9;rw[<- i6] at c1 c9;rw[<- m2] at c2 c9;clear r4 i6 m2;obtain⟨w5,a8⟩:=exq (wr.alloc (.cells #[.int .i64 ai,.int .i64 ao,.string aw,.int .i64 (H:Int)] 59));obtain⟨ab,l5⟩:=exq (wr.heap.size);have a1:Fr (fun _=>False) wr w5:=by rw[a8];exact Fr.alloc _ _
    have o9:w5.heap[ab]?=some (.cells #[.int .i64 ai,.int .i64 ao,.string aw,.int .i64 (H:Int)] 59 (0,0)):=by rw[a8,l5];exact heap_alloc_new wr _
    have I:=uu9.out w5 trivial ai ao aw (H:Int);have b4:BoxM w5 B D (.slice (some ⟨b,c,none⟩) n m):=(a1.block _ s.out.lt (fun e=>e)).trans s.out;have a2:=qh (L.out.keep a1);clear a1 L;have Q:=qh b4;clear b4 s;have j5:=qh o9;clear o9;have HC:=qh I;clear I
    go_wp2_with fail
    rw[<- a8,<- l5];clear a8 l5 c0 c1 c2 c3;refine HC.out.mono ?_;rintro r w6 ⟨rfl,g8⟩;have b9:BoxM w6 B D (.slice (some ⟨b,c,none⟩) n m):=(g8.block _ Q.out.lt).trans Q.out;have uu8:=(g8.block ab (lt_of_block j5.out)).trans j5.out;have e9:=qh (a2.out.keep (Fr.of_below g8));clear g8 a2 HC;have a3:=qh b9;clear b9 Q;have j6:=qh uu8;clear uu8 j5;cases h3:sel ai ao
    ·have l3:=qh (c9.out.trans (if_neg (by rw[h3];simp)));clear h3 c9;go_wp2;go_roundw
     case rel=>exact⟨d+1,by omega,by go_num,by rw[l3.out];exact e9.out,a3.out⟩
     simp[intOf];omega
    have l3:=qh (c9.out.trans (if_pos h3));clear h3 c9;obtain⟨wd,c7⟩:=exq (w6.drew);have b7:Fr (fun _=>False) w6 wd:=by rw[c7];exact(Fr.refl _ _).drew
    have d0:=(b7.block ab (lt_of_block j6.out) (fun e=>e)).trans j6.out;have S:BoxM wd B D (.slice (some ⟨b,c,none⟩) n m):=(b7.block _ a3.out.lt (fun e=>e)).trans a3.out;have a5:=qh (e9.out.keep b7);clear b7 e9;have l:wd.cell? ⟨ab,3,none⟩=some (.int .i64 (H:Int))/\wd.cell? ⟨ab,2,none⟩=some (.string aw)/\wd.cell? ⟨lb,H,none⟩=some (.string (s1.1 H)):=⟨cellOf d0 3 rfl,cellOf d0 2 rfl,a5.out.rl.cell uu5⟩;have e0:=qh d0;clear d0 j6;have R:=qh S;clear S a3;have uu2:=qh (z9z (s1.1 H) aw wd a5.out.sc (o7.out H) z4.out (uu0.out.below a5.out.hb nlr))
    go_wp2_with fail
    refine z0g (fun wk=>wk.cell? ⟨ab,3,none⟩=some (.int .i64 (H:Int))/\wk.cell? ⟨ab,2,none⟩=some (.string aw)/\wk.cell? ⟨lb,H,none⟩=some (.string (s1.1 H))) 13 (by kernel_rfl) ?_;rw[<- c7];clear c7;refine z0c.tm 0 l ?_;refine z0c.tm 1 l ?_;refine z0c.tm 2 l ?_;refine z0c.tm 3 l ?_;refine z0c.tm 4 l ?_;refine z0c.tm 5 l ?_;refine z0c.tm 6 l ?_;refine z0c.tm 7 l ?_;refine z0c.tm 8 l ?_;refine z0c.tm 9 l ?_;refine z0c.tm 10 l ?_
    try simp only[Act.put,tryL]
    refine z0c.on 11 fun K hK=>?_;go_simp;refine uu2.out.mono ?_;rintro r w7 ⟨rfl,p9,f3⟩;have x0:B≠o:=y1.out;have i5:BoxM w7 B D (.slice (some ⟨b,c,none⟩) n m):=(f3.block _ R.out.lt x0).trans R.out;have b8:=qh (a5.out.stepped f3 p9);have i9:ab≠o:=fun e=>by
     have E:=e0.out;have h2:=a5.out.sc;unfold Scl at h2;rw[e,h2] at E;simp at E
    have g7:w7.cell? ⟨ab,3,none⟩=some (.int .i64 (H:Int))/\w7.cell? ⟨ab,2,none⟩=some (.string aw)/\w7.cell? ⟨lb,H,none⟩=some (.string (s1.1 H)):=⟨f3.cell l.1 i9,f3.cell l.2.1 i9,b8.out.rl.cell uu5⟩;have fz:=b8.out.rl.frozen H;have e4:=qh i5;clear i5 R;refine hK.out _ _ (.inr g7) ?_;clear hK K l uu2 a5 p9 f3 x0 i9 e0
    try simp only[Act.put,tryL]
    refine z0c.tm 12 g7 ?_
    try simp only[Act.put,tryL]
    have g0:=g7.2.2;refine z0c.on 13 fun K hK=>?_;go_simp;refine hK.out _ _ (.inl rfl) (z0c.dn ?_);clear hK K g7;have x2:lb≠B:=fun e=>z0f b8.out.rl (show w7.heap[B]?=_ from e4.out) (by decide) e;have h8:BoxM (w7.setCell ⟨lb,H,none⟩ (.string (z2b D.kind (s1.1 H) aw s1.2).1)) B D (.slice (some ⟨b,c,none⟩) n m):=by
     unfold BoxM;rw[blk_setCell_other _ _ _ _ (fun e=>x2 e.symm)];exact e4.out
    have v8:=qh (b8.out.put H (z2b D.kind (s1.1 H) aw s1.2).1);have r6:=qh h8;clear h8 x2 e4 b8 fz g0;go_wp2;go_roundw
    case rel=>exact⟨d+1,by omega,by go_num,by rw[l3.out];exact v8.out,r6.out⟩
    simp[intOf];omega
   have f2:d=D.na q:=by omega
   have n7:¬ ((d:Int)<(D.na q:Int)):=by omega
   rw[f2] at d1;have y4:=qh (d1.trans s9.out.symm);clear d1 f2;have U:=L.out;rw[y4.out] at U;have i7:=qh U;clear U L;obtain⟨w5,a8⟩:=exq (wr.alloc (.cells #[.slice (some ⟨lb,0,none⟩) n n] 79));have a1:Fr (fun _=>False) wr w5:=by rw[a8];exact Fr.alloc _ _
   have b6:w5.cell? ⟨wr.heap.size,0,none⟩=some (.slice (some ⟨lb,0,none⟩) n n):=by rw[a8];exact z4p wr _ _ 0 _ rfl
   have b4:BoxM w5 B D (.slice (some ⟨b,c,none⟩) n m):=(a1.block _ s.out.lt (fun e=>e)).trans s.out;have a2:=qh (i7.out.keep a1);clear a1 i7;have Q:=qh b4;clear b4 s;have z6:=qh b6;clear b6;obtain⟨i0,y3,A0,e6,j0⟩:=info_parts y4t;have d2:=a2.out.own;rw[a8] at d2;have r5:=qh d2;clear d2;have x4:q+1<=60:=by omega
   go_wp2_with (at_builtin;refine wpList_append_fits _ rfl (.tmp 93) (.tmp 95) 75 rfl w.heap.size 79 i0 1 underlying75 y3 e6 gR q 60 _ rfl r5.out ⟨wr.heap.size,0,none⟩ 1 1 [.slice (some ⟨lb,0,none⟩) n n] rfl rfl (cell_one_new _ _ _) (fun u hu=>by rw[List.mem_singleton.1 hu];rfl) x4 ?_;intro w6 c8 P)
   rw[<- a8] at P;rw[X.out] at c8;have f2:=a2.out.done c8 P;have r9:gR≠B:=by
    obtain⟨cs,hg⟩:=z9c a2.out.own;intro e;have E:=Q.out;unfold BoxM at E;rw[<- e,hg] at E;simp at E
   have b9:BoxM w6 B D (.slice (some ⟨b,c,none⟩) n m):=by
    unfold BoxM;rw[P.block B Q.out.lt (by simp;exact fun e=>r9 e.symm)];exact Q.out
   have x7:=qh f2;clear f2 c8 P r9;have a3:=qh b9;clear b9;go_wp2;go_roundw
   case rel=>exact⟨q+1,_,by omega,by go_num,by go_num,x7.out,a3.out⟩
   simp[intOf];omega
  have n7:¬ ((q:Int)<(n:Int)):=by omega
  have h0:q=n:=by omega
  subst h0;have e3:Mt none wr (.slice (some ⟨gR,0,none⟩) q 60) q (fun _=>q) (smat D sel):=by
   have h:=HI.out;have e:=X.out;rw[e] at h;have h2:=h.mt (by omega);rw[<- e] at h2;exact h2
  have k5:=HI.out.sc.c5;have k0:=s.out.c0;have s7:=v5s (k0:=D.kind) wr (show q<=100 by omega) e3 (fun i j=>u0v (j2.out i) j) (uu0.out.below HI.out.hb nlr);have r2:=qh s7;clear s7 e3;obtain⟨e,he⟩:=exq (serr D sel q);rw[<- he] at k5;have HE:=qh he;clear he;by_cases l7:e=0
  rotate_left
  ·have z8:¬ ((e:Int)=0):=by omega
   have y0:=qh l7;clear l7;go_wp2;go_ret;have E:=y0.out;rw[HE.out,X.out] at E;exact⟨HI.out.hb,o,_,none,_,rfl,a9.out,HI.out.sc,rfl,.inr (.inr ⟨e2.out,by rw[X.out];exact E,rfl,.inr (.inl E)⟩)⟩
  subst l7
  go_wp2_with fail
  refine r2.out.mono ?_;rintro r w7 ⟨m8,hr⟩;have a4:Scl w7 o D (.slice (some ⟨b,c,none⟩) q m) (.slice none 0 0) 0:=by
   have E:=HI.out.sc;rw[<- HE.out] at E;unfold Scl at E ⊢;rw[m8.block o HI.out.sc.lt];exact E
  have i2:=HI.out.hb.trans (m8.mono HI.out.hb.size);have v7:serr D sel D.n=0:=by rw[<- X.out];exact HE.out.symm
  have f4:=a4.fz 4;have f5:=a4.fz 5;have c4:=a4.c4;have c5:=a4.c5;have r7:=qh v7;clear v7 m8;have f0:=qh a4;clear a4;have d6:=qh i2;clear i2 HI r2 k5 k0
  rcases hr with ⟨y2,_⟩|⟨h6,_⟩|⟨_,k,M,hk,y9,hM,_,s3⟩
  ·exfalso
   obtain⟨k,hk⟩:=HV.out.kk;have E:=u1u HV.out hk r7.out;rw[<- X.out] at E;exact y2 ⟨HV.out.kind,E⟩
  ·omega
  have HK:=qh hk;clear hk y9;have HM:=qh hM;clear hM
  rcases s3 with ⟨v,Y,rfl,e3,n9⟩|⟨rfl,o5⟩
  ·obtain⟨av,cv,x5⟩:=e3.shape;subst x5;have x9:=qh e3;clear e3;have o2:=qh n9;clear n9;obtain⟨w8,d5⟩:∃ w8,w8=(w7.setCell ⟨o,4,none⟩ (.slice av q cv)).setCell ⟨o,5,none⟩ (.int .i64 0):=⟨_,rfl⟩;have e8:Fr (fun q=>q=o) w7 w8:=by
    rw[d5];exact((Fr.refl (fun q=>q=o) w7).set (p:=⟨o,4,none⟩) (.inl rfl) _).set (p:=⟨o,5,none⟩) (.inl rfl) _
   have b1:Scl w8 o D (.slice (some ⟨b,c,none⟩) q m) (.slice av q cv) 0:=by
    have E:=f0.out;rw[d5];unfold Scl at E ⊢;simp[World.setCell,Array.getElem?_modify,E]
   have g5:=qh e8;clear e8;have d8:=qh b1;clear b1;go_wp2;go_ret;rw[<- d5];have t9:=x9.out.later f0.out d8.out g5.out.gbc (.inr rfl) (fun i _=>by omega);refine⟨d6.out.trans (g5.out.below d6.out.size (fun q e=>by rw[e];exact a9.out)),o,_,some Y,0,rfl,a9.out,d8.out,?_,.inr (.inl ⟨e2.out,by have:=X.out;omega,rfl,Y,rfl,fun k' x8 i j hi hj=>?_⟩)⟩
   ·rw[<- X.out];exact⟨t9,fun i j hi hj=>by have E:=(o2.out i j hi hj).1;unfold smS;omega⟩
   obtain rfl:k'=k:=Subtype.ext (x8.trans HK.out.symm);rw[<- X.out] at hi hj ⊢;have E:=(o2.out i j hi hj).2 rfl;have h2:CSR.starM M q i j=CSR.starM (sils (rmOf k' D) sel) q i j:=CSR.starM_congr (fun i j hi hj=>by
    rw[HM.out];exact(x3d HV.out HK.out r7.out (by rw[<- X.out];exact hi) (by rw[<- X.out];exact hj)).val) i j hi hj
   rw[<- h2];exact E
  have y7:=qh o5;clear o5;obtain⟨w8,d5⟩:∃ w8,w8=(w7.setCell ⟨o,4,none⟩ (.slice none 0 0)).setCell ⟨o,5,none⟩ (.int .i64 2):=⟨_,rfl⟩;have e8:Fr (fun q=>q=o) w7 w8:=by
   rw[d5];exact((Fr.refl (fun q=>q=o) w7).set (p:=⟨o,4,none⟩) (.inl rfl) _).set (p:=⟨o,5,none⟩) (.inl rfl) _
  have b1:Scl w8 o D (.slice (some ⟨b,c,none⟩) q m) (.slice none 0 0) 2:=by
   have E:=f0.out;rw[d5];unfold Scl at E ⊢;simp[World.setCell,Array.getElem?_modify,E]
  have g5:=qh e8;clear e8;have d8:=qh b1;clear b1;go_wp2;go_ret;rw[<- d5];refine⟨d6.out.trans (g5.out.below d6.out.size (fun q e=>by rw[e];exact a9.out)),o,_,none,2,rfl,a9.out,d8.out,rfl,.inr (.inr ⟨e2.out,by omega,rfl,.inr (.inr ⟨k,HK.out,?_⟩)⟩)⟩;rw[<- X.out,<- HM.out];exact y7.out
end
section
open Go.RowKit Go.Deep
def WgtX (D:MD) (na:Nat) (x:Nat->Int) (nb:Nat) (y:Nat->Int) (w:World) (r:Ending) (w':World):Prop :=
 Below w.heap.size w w'/\((VM D/\isWord na x=true/\isWord nb y=true/\∃ st e0,SilOk D silB st e0/\r=.returned (.tuple #[.string (wgtG D st e0 na x nb y).1,.int .i64 ((wgtG D st e0 na x nb y).2:Int)])) \/
  (¬ (VM D/\isWord na x=true/\isWord nb y=true)/\r=.returned (.tuple #[.string ⟨#[]⟩,.int .i64 1])))
theorem x0e:(prog.info? 102).map (fun i=>(i.zero,i.size,i.bytes))=some (some (.slice none 0 0),1,24):=by kernel_rfl
theorem Bx.ne_scl {w:World} {b d e:Nat} {t:TypeId} {v:Value} {D:MD} {sv star:Value} (h:Bx w b t v) (c:Scl w d D sv star e):b≠d:=by
 rintro rfl;unfold Scl at c;unfold Bx at h;rw[h] at c;simp at c
def ixOf (v:Value) (w:World):Nat:=match v with | .pointer (some a)=>(match w.cell? a with|some (.int _ i)=>i.toNat|_=>0)|_=>0
theorem y1m {w:World} {b i:Nat} (h:w.cell? ⟨b,0,none⟩=some (.int .i64 (i:Int))):ixOf (.pointer (some ⟨b,0,none⟩)) w=i:=by
 unfold ixOf;simp[h]
structure WG (w0 wo w:World) (cb c8 xb yb:Nat) (D:MD) (sv stv xv yv:Value) (e:Nat):Prop where
 hb:Below w0.heap.size w0 w
 gs:wo.grownBy w (some cb)
 sc:Scl w cb D sv stv e
 k8:Bx w c8 98 (.pointer (some ⟨cb,0,none⟩))
 kx:Bx w xb 25 xv
 ky:Bx w yb 25 yv
 lc:w0.heap.size<=cb
 lo:w0.heap.size<=wo.heap.size
namespace WG
variable {w0 wo w w':World} {cb c8 xb yb:Nat} {D:MD} {sv stv xv yv:Value} {e:Nat}
theorem n8 (h:WG w0 wo w cb c8 xb yb D sv stv xv yv e):c8≠cb:=by rintro rfl;have d:=h.sc;have c:=h.k8;unfold Scl at d;unfold Bx at c;rw[d] at c;simp at c
theorem nx (h:WG w0 wo w cb c8 xb yb D sv stv xv yv e):xb≠cb:=by rintro rfl;have d:=h.sc;have c:=h.kx;unfold Scl at d;unfold Bx at c;rw[d] at c;simp at c
theorem ny (h:WG w0 wo w cb c8 xb yb D sv stv xv yv e):yb≠cb:=by rintro rfl;have d:=h.sc;have c:=h.ky;unfold Scl at d;unfold Bx at c;rw[d] at c;simp at c
theorem gs' {C:Nat->Prop} (h:WG w0 wo w cb c8 xb yb D sv stv xv yv e) (hf:Fr C w w') (g:∀ q,C q->q=cb\/wo.heap.size<=q):wo.grownBy w' (some cb) :=
 ⟨hf.os.trans h.gs.os,hf.tape.trans h.gs.tape,hf.output.trans h.gs.output,Nat.le_trans h.gs.size hf.size,fun q d c=>(hf.block q (Nat.lt_of_lt_of_le d h.gs.size) (fun i=>(g q i).elim (fun e=>c (by rw[e])) (fun e=>by omega))).trans (h.gs.block q d c)⟩
theorem kept {C:Nat->Prop} (h:WG w0 wo w cb c8 xb yb D sv stv xv yv e) (hf:Fr C w w') (i:¬ C cb) (j:¬ C c8) (k:¬ C xb) (g:¬ C yb) (d:∀ q,C q->wo.heap.size<=q):WG w0 wo w' cb c8 xb yb D sv stv xv yv e :=
 ⟨h.hb.trans (hf.below h.hb.size (fun q c=>Nat.le_trans h.lo (d q c))),h.gs' hf (fun q c=>.inr (d q c)),h.sc.kept hf i,h.k8.kept hf j,h.kx.kept hf k,h.ky.kept hf g,h.lc,h.lo⟩
theorem stepped {d n e':Nat} {F:Nat->Value} (h:WG w0 wo w cb c8 xb yb D sv stv xv yv e) (hf:Fr (fun q=>q=cb\/q=d) w w') (l:Scl w' cb D sv stv e') (k:w.rowIs d 9 n F) (g:wo.heap.size<=d):WG w0 wo w' cb c8 xb yb D sv stv xv yv e':=by
 have j:∀ q,q≠cb->q≠d->¬ (q=cb\/q=d):=fun q a b c=>c.elim a b;exact⟨h.hb.trans (hf.below h.hb.size (fun q i=>by rcases i with rfl|rfl;exact h.lc;exact Nat.le_trans h.lo g)),h.gs' hf (fun q i=>i.imp (fun e=>e) (fun e=>by rw[e];exact g)),l,h.k8.kept hf (j _ h.n8 (z0f k h.k8 (by decide)).symm),h.kx.kept hf (j _ h.nx (z0f k h.kx (by decide)).symm),h.ky.kept hf (j _ h.ny (z0f k h.ky (by decide)).symm),h.lc,h.lo⟩
theorem rested {e':Nat} (h:WG w0 wo w cb c8 xb yb D sv stv xv yv e) (hf:Fr (fun q=>q=cb) w w') (d:Scl w' cb D sv stv e'):WG w0 wo w' cb c8 xb yb D sv stv xv yv e' :=
 ⟨h.hb.trans (hf.below h.hb.size (fun q c=>by rw[c];exact h.lc)),h.gs' hf (fun q c=>.inl c),d,h.k8.kept hf h.n8,h.kx.kept hf h.nx,h.ky.kept hf h.ny,h.lc,h.lo⟩
end WG
theorem VR.rested {w I:World} {B U:Nat} {g:Bool->Nat} {m n:Nat} {R:Bool->Nat->Option Nat} {S:Bool->Nat->Option VV} {b:Bool} {j rv o:Nat} {x v:VV} (h:VR w B g m n R S) (hj:j<m) (Z:R b j=some rv) (hs:S b j=some v) (hf:Fr (fun q=>q=U) w I)
  (G:∀ b,g b≠U) (Y:∀ b j r,j<m->R b j=some r->r≠U) (hx:I.rowIs o 9 n (fun q=>.string (x q))) (O:∀ q,smS (x q)) (z:o=rv\/w.heap.size<=o) (hB:B<=w.heap.size) :
  VR (I.setCell ⟨g b,j,none⟩ (vrV n (some o))) B g m n (fun b' j'=>if b'=b/\j'=j then some o else R b' j') (updV S b j x):=by
 have X:∀ b' j' c,j' < m->R b' j'=some c->c<w.heap.size:=fun b' j' c i d=>by
  cases E:S b' j' with
  | none=>have:=(h.non b' j' i).2 E;rw[d] at this;cases this
  | some x0=>exact(h.row b' j' c x0 i d E).1.lt
 have T:B<=o:=by
  rcases z with e|e
  ·rw[e];exact(h.row b j rv v hj Z hs).2
  omega
 have s:∀ b' j' c,j' < m->¬ (b'=b/\j'=j)->R b' j'=some c->c≠o:=fun b' j' c i W d e=>by
  rcases z with k|k
  ·exact W (h.sep b' j' b j rv i hj (by rw[d,e,k]) Z)
  have:=X b' j' c i d;omega
 have L:∀ b',g b'≠o:=fun b' e=>y7m ((hf.row (h.top b') (G b'))) hx (by decide) e;have p:∀ b',I.rowIs (g b') 102 m (fun j=>vrV n (R b' j)):=fun b'=>hf.row (h.top b') (G b');refine⟨fun b'=>?_,h.gne,h.low,fun b' j' i=>?_,fun b' j' c P i d l=>?_,fun N Q K J c H C d l=>?_,fun b' j' P d=>?_⟩
 ·by_cases e:b'=b
  ·subst e;refine((p b').set j _).congr (fun j' _=>?_);by_cases e:j'=j
   ·rw[if_pos e,if_pos ⟨rfl,e⟩]
   rw[if_neg e,if_neg (fun h=>e h.2)]
  refine((p b').of_block (blk_setCell_other _ _ _ _ (fun k=>?_))).congr (fun j' _=>by rw[if_neg (fun h=>e h.1)]);have D:=h.gne;have F:g b'=g b:=k;cases b'<;>cases b<;>first|exact e rfl|exact D F|exact D F.symm
 ·unfold updV;by_cases e:b'=b/\j'=j
  ·rw[if_pos e,if_pos e];simp
  rw[if_neg e,if_neg e];exact h.non b' j' i
 ·by_cases e:b'=b/\j'=j
  ·rw[if_pos e] at d;cases d;unfold updV at l;rw[if_pos e] at l;cases l;exact⟨hx.setOther (a:=⟨g b,j,none⟩) (fun k=>L b k.symm) _,T⟩
  rw[if_neg e] at d;unfold updV at l;rw[if_neg e] at l;have D:=h.row b' j' c P i d l;exact⟨(hf.row D.1 (Y b' j' c i d)).setOther (a:=⟨g b,j,none⟩) (fun k=>h.topne i d l k.symm) _,D.2⟩
 ·by_cases u:N=b/\Q=j
  ·rw[if_pos u] at d;cases d;by_cases k:K=b/\J=j
   ·exact⟨u.1.trans k.1.symm,u.2.trans k.2.symm⟩
   rw[if_neg k] at l;exact absurd rfl (s K J _ C k l)
  rw[if_neg u] at d;by_cases k:K=b/\J=j
  ·rw[if_pos k] at l;cases l;exact absurd rfl (s N Q _ H u d)
  rw[if_neg k] at l;exact h.sep N Q K J c H C d l
 unfold updV at d;by_cases e:b'=b/\j'=j
 ·rw[if_pos e] at d;cases d;exact O
 rw[if_neg e] at d;exact h.sm b' j' P d
theorem u2y:TstA 79 #[] silB (fun _=>True) :=
 ⟨x3f,fun c _ i o s t=>by
  have h:=x6m c i o s t;rw[show ∀ a:Value,(#[a]++#[]:Array Value)=#[a] from fun _=>rfl];exact h⟩
end
end Go.Proofs.YteappjogmnogcaaGreatDoor
