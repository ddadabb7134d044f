/- Parts of a proof: MkD ReptS WgP WgQ WgU. -/
import Derived.Test.YteappjogmnogcaaGreatDoorW09
import Derived.Test.YteappjogmnogcaaGreatDoorW07
import Derived.Test.YteappjogmnogcaaGreatDoorW02
import Derived.Laws.IdiomCopy
import Derived.Lib.SlBuf
namespace Go.Proofs.YteappjogmnogcaaGreatDoor
set_option maxRecDepth 100000
set_option linter.unusedSimpArgs false
set_option linter.unusedVariables false
set_option linter.unusedSectionVars false
set_option maxHeartbeats 16000000
open Go Tryz
section
open Go CSR
structure BOk (M:MD) (N c:Nat):Prop where
 fin:∀ i,M.fin i=⟨#[]⟩\/z0s M.kind (M.fin i)=true
 arc:∀ i d,d<M.na i->0<=M.ain i d/\M.ain i d<=500/\0<=M.aout i d/\M.aout i d<=500/\0<=M.ato i d/\M.ato i d<(N:Int)/\z0s M.kind (M.aw i d)=true
 na:∀ i,M.na i<=c
 cnt:∀ n,z0f M n<=c
 fsm:∀ i,smS (M.fin i)
 asm:∀ i d,smS (M.aw i d)
theorem BOk.mono {M:MD} {N j c c':Nat} (h:BOk M N c) (A:N<=j) (g:c<=c'):BOk M j c' :=
 ⟨h.fin,fun i d k=>by obtain⟨l,u,p,s,o,z,m⟩:=h.arc i d k;exact⟨l,u,p,s,o,by omega,m⟩,fun i=>Nat.le_trans (h.na i) g,fun n=>Nat.le_trans (h.cnt n) g,h.fsm,h.asm⟩
theorem y0i {D:MD} {p:Nat} {i o t:Int} {w:ByteArray}:∀ n,z0f (D.arc p i o w t) n<=z0f D n+(if p<n then 1 else 0)
 | 0=>Nat.zero_le _
 | n+1=>by
  have ih:=y0i (D:=D) (p:=p) (i:=i) (o:=o) (t:=t) (w:=w) n;show z0f (D.arc p i o w t) n+(if n=p then D.na p+1 else D.na n)<=z0f D n+D.na n+(if p<n+1 then 1 else 0)
  by_cases e:n=p
  ·subst e;rw[if_pos rfl,if_pos (by omega)];rw[if_neg (by omega)] at ih;omega
  rw[if_neg e];split at ih
  ·rw[if_pos (by omega)];omega
  split<;>omega
theorem BOk.put {M:MD} {N c q:Nat} {a b t:Int} {x:ByteArray} (h:BOk M N c) (m:0<=a/\a<=500) (hb:0<=b/\b<=500) (k:0<=t/\t<(N:Int)) (u:z0s M.kind x=true) (z:smS x):BOk (M.arc q a b x t) N (c+1):=by
 refine⟨h.fin,fun i d s=>?_,fun i=>?_,fun n=>?_,h.fsm,fun i d=>?_⟩
 ·have g:d<if i=q then M.na q+1 else M.na i:=s
  show 0<=(if i=q/\d=M.na q then a else M.ain i d)/\(if i=q/\d=M.na q then a else M.ain i d)<=500/\0<=(if i=q/\d=M.na q then b else M.aout i d)/\(if i=q/\d=M.na q then b else M.aout i d)<=500/\0<=(if i=q/\d=M.na q then t else M.ato i d)/\(if i=q/\d=M.na q then t else M.ato i d)<(N:Int)/\z0s M.kind (if i=q/\d=M.na q then x else M.aw i d)=true
  by_cases e:i=q/\d=M.na q
  ·simp only[if_pos e];exact⟨m.1,m.2,hb.1,hb.2,k.1,k.2,u⟩
  simp only[if_neg e];refine h.arc i d ?_;by_cases j:i=q
  ·rw[if_pos j] at g;subst j;have:d≠M.na i:=fun A=>e ⟨rfl,A⟩;omega
  rw[if_neg j] at g;exact g
 ·show (if i=q then M.na q+1 else M.na i)<=c+1
  have l:=h.na q;have B:=h.na i
  split<;>omega
 ·have l:=y0i (D:=M) (p:=q) (i:=a) (o:=b) (t:=t) (w:=x) n;have B:=h.cnt n
  split at l<;>omega
 show smS (if i=q/\d=M.na q then x else M.aw i d)
 split
 ·exact z
 exact h.asm i d
theorem BOk.setFin {M:MD} {N c q:Nat} {s:ByteArray} (h:BOk M N c) (d:s=⟨#[]⟩\/z0s M.kind s=true) (g:smS s):BOk (M.setFin q s) N c :=
 ⟨fun i=>by
  show (if i=q then s else M.fin i)=_\/z0s M.kind (if i=q then s else M.fin i)=true
  split
  ·exact d
  ·exact h.fin i,h.arc,h.na,fun n=>by rw[show z0f (M.setFin q s) n=z0f M n from by induction n with|zero=>rfl|succ n ih=>exact congrArg (·+M.na n) ih];exact h.cnt n,fun i=>by
  show smS (if i=q then s else M.fin i)
  split
  ·exact g
  exact h.fsm i,h.asm⟩
theorem BOk.state {M:MD} {N c:Nat} {s:ByteArray} (h:BOk M N c) (m:s=⟨#[]⟩\/z0s M.kind s=true) (l:smS s):BOk (M.state s) N c:=by
 have g:∀ i,(M.state s).na i<=M.na i:=fun i=>by
  show (if i=M.n then 0 else M.na i)<=_
  split<;>omega
 have j:∀ n,z0f (M.state s) n<=z0f M n:=fun n=>by
  induction n with
  | zero=>exact nlr
  | succ n ih=>exact Nat.add_le_add ih (g n)
 exact⟨fun i=>by
  show (if i=M.n then s else M.fin i)=_\/z0s M.kind (if i=M.n then s else M.fin i)=true
  split
  ·exact m
  ·exact h.fin i,fun i d k=>h.arc i d (Nat.lt_of_lt_of_le k (g i)),fun i=>Nat.le_trans (g i) (h.na i),fun n=>Nat.le_trans (j n) (h.cnt n),fun i=>by
  show smS (if i=M.n then s else M.fin i)
  split
  ·exact l
  exact h.fsm i,h.asm⟩
theorem BOk.empty (d st:Int) (c:ByteArray) (N:Nat):BOk (z1r d st c) N 0 :=
 ⟨fun _=>.inl rfl,fun _ _ h=>absurd h (Nat.not_lt_zero _),fun _=>nlr,fun n=>by
  induction n with
  | zero=>exact nlr
  | succ n ih=>exact ih,fun _=>Nat.zero_le _,fun _ _=>Nat.zero_le _⟩
theorem v5h {k:Int} (h:z4c k=true):-9223372036854775808<=k/\k<=9223372036854775807:=by unfold z4c at h;simp at h;omega
theorem BOk.msz {M:MD} {N c:Nat} (h:BOk M N c) (g:z4c M.kind=true) (hn:M.n<=140737488355328) (d:smS M.lead) (j:c<=140737488355328):MSz M :=
 ⟨d,h.fsm,h.asm,fun i=>Nat.le_trans (h.na i) j,hn,v5h g⟩
def revA (D:MD) (q:Nat):Nat->MD->MD
 | 0,M=>M
 | d+1,M=>(revA D q d M).arc (D.ato q d).toNat (D.ain q d) (D.aout q d) (D.aw q d) (q:Int)
def revF (D:MD) (q:Nat) (M:MD):MD:=if D.fin q=⟨#[]⟩ then M else M.arc D.n 0 0 (D.fin q) (q:Int)
def revZ (D:MD):MD:=⟨D.kind,(D.n:Int),D.lead,D.n+1,fun _=>⟨#[]⟩,fun _=>0,fun _ _=>0,fun _ _=>0,fun _ _=>⟨#[]⟩,fun _ _=>0⟩
def revQ (D:MD):Nat->MD
 | 0=>revZ D
 | q+1=>revF D q (revA D q (D.na q) (revQ D q))
def revD (D:MD):MD:=(revQ D D.n).setFin D.start.toNat (oneF D.kind)
structure Skel (M M':MD):Prop where
 kind:M'.kind=M.kind
 start:M'.start=M.start
 lead:M'.lead=M.lead
 n:M'.n=M.n
 fin:M'.fin=M.fin
theorem Skel.refl (M:MD):Skel M M:=⟨rfl,rfl,rfl,rfl,rfl⟩
theorem Skel.arc {M M':MD} (h:Skel M M') (q:Nat) (a b:Int) (x:ByteArray) (t:Int):Skel M (M'.arc q a b x t):=⟨h.kind,h.start,h.lead,h.n,h.fin⟩
theorem z7v (D:MD) (q:Nat) {M M':MD} (h:Skel M M'):∀ d,Skel M (revA D q d M')
 | 0=>h
 | d+1=>(z7v D q h d).arc _ _ _ _ _
theorem x7s (D:MD) (q:Nat) {M M':MD} (h:Skel M M'):Skel M (revF D q M'):=by
 unfold revF
 split
 ·exact h
 exact h.arc _ _ _ _ _
theorem z2r (D:MD):∀ q,Skel (revZ D) (revQ D q)
 | 0=>Skel.refl _
 | q+1=>x7s D q (z7v D q (z2r D q) _)
theorem x2j {D:MD} (hV:VM D) (hS:MSz D) {q:Nat} (hq:q<D.n) {M:MD} {c:Nat} (hk:M.kind=D.kind) (h:BOk M (D.n+1) c):∀ d,d<=D.na q->BOk (revA D q d M) (D.n+1) (c+d)
 | 0,_=>h
 | d+1,hd=>by
  have a:=hV.arc q d hq (by omega);refine(x2j hV hS hq hk h d (by omega)).put ⟨a.i0,a.i1⟩ ⟨a.o0,a.o1⟩ ⟨by omega,by omega⟩ ?_ (hS.aw q d);rw[show (revA D q d M).kind=D.kind from (z7v D q (Skel.refl M) d).kind.trans hk];exact a.wt
theorem x1q {D:MD} (hV:VM D) (hS:MSz D):∀ q,q<=D.n->BOk (revQ D q) (D.n+1) (z0f D q+q)
 | 0,_=>⟨fun _=>.inl rfl,fun _ _ h=>absurd h (Nat.not_lt_zero _),fun _=>Nat.zero_le _,fun n=>by
  have:z0f (revQ D 0) n=0:=by
   induction n with
   | zero=>rfl
   | succ n ih=>exact congrArg (·+0) ih
  rw[this];exact Nat.zero_le _,fun _=>Nat.zero_le _,fun _ _=>Nat.zero_le _⟩
 | q+1,hq=>by
  have h1:=x2j hV hS (q:=q) (by omega) (z2r D q).kind (x1q hV hS q (by omega)) (D.na q) nlr;show BOk (revF D q (revA D q (D.na q) (revQ D q))) (D.n+1) (z0f D q+D.na q+(q+1));unfold revF
  split
  ·exact h1.mono nlr (by omega)
  rename_i hf;have h2:=h1.put (q:=D.n) (a:=0) (b:=0) (t:=(q:Int)) (x:=D.fin q) ⟨by omega,by omega⟩ ⟨by omega,by omega⟩ ⟨by omega,by omega⟩ (by
   rw[show (revA D q (D.na q) (revQ D q)).kind=D.kind from (z7v D q (Skel.refl _) _).kind.trans (z2r D q).kind];exact(hV.fin q (by omega)).resolve_left hf) (hS.fin q)
  exact h2.mono nlr (by omega)
theorem z9c {k:Int} (h:z4c k=true):z0s k (oneF k)=true:=by
 unfold z4c at h;simp at h;have:k=1\/k=2\/k=3:=by omega
 rcases this with rfl|rfl|rfl<;>decide +kernel
theorem y8q {k:Int} (h:z4c k=true):smS (oneF k):=by
 unfold z4c at h;simp at h;have:k=1\/k=2\/k=3:=by omega
 rcases this with rfl|rfl|rfl<;>(unfold smS;decide +kernel)
theorem v9t {D:MD} (c:VM D) (d:MSz D):BOk (revD D) (D.n+1) (z0f D D.n+D.n) :=
 (x1q c d D.n nlr).setFin (.inr (by rw[(z2r D D.n).kind];exact z9c c.kind)) (y8q c.kind)
theorem x8u {D:MD} (c:VM D) (g:MSz D):MSz (revD D):=by
 have d:=z2r D D.n;have h:=c.arcs;have i:=c.n2;exact(v9t c g).msz (by rw[show (revD D).kind=D.kind from d.kind];exact c.kind) (by rw[show (revD D).n=D.n+1 from d.n];omega) (by rw[show (revD D).lead=D.lead from d.lead];exact g.lead) (by omega)
def stsD (D:MD):Nat->MD->MD
 | 0,M=>M
 | i+1,M=>(stsD D i M).state (D.fin i)
def cpA (D:MD) (low i:Nat):Nat->MD->MD
 | 0,M=>M
 | d+1,M=>(cpA D low i d M).arc (low+i) (D.ain i d) (D.aout i d) (D.aw i d) (D.ato i d+(low:Int))
def lvD (o:Option Nat) (s:Nat) (f:ByteArray) (M:MD):MD:=match o with
 | none=>M
 | some t=>(M.setFin s ⟨#[]⟩).arc s 0 0 f (t:Int)
def cpF (D:MD) (low:Nat) (o:Option Nat) (i:Nat) (M:MD):MD:=if D.fin i=⟨#[]⟩ then M else lvD o (low+i) (D.fin i) M
def cpQ (D:MD) (low:Nat) (o:Option Nat):Nat->MD->MD
 | 0,M=>M
 | i+1,M=>cpF D low o i (cpA D low i (D.na i) (cpQ D low o i M))
def z4f (D:MD) (o:Option Nat) (M:MD):MD:=cpQ D M.n o D.n (stsD D D.n M)
def cpC (D:MD) (o:Option Nat) (i:Nat):Nat:=z0f D i+(if o.isSome then i else 0)
def catD (D E:MD) (lead:ByteArray):MD :=
 { z4f D (some E.start.toNat) (z4f E none { z1r D.kind 0 lead with }) with start:=(E.n:Int)+D.start }
theorem y3c (D:MD) (M:MD):∀ i,(stsD D i M).n=M.n+i
 | 0=>rfl
 | i+1=>by show (stsD D i M).n+1=_;rw[y3c D M i];omega
theorem y0r (D:MD) (M:MD):∀ i,(stsD D i M).kind=M.kind/\(stsD D i M).lead=M.lead/\(stsD D i M).start=M.start
 | 0=>⟨rfl,rfl,rfl⟩
 | i+1=>y0r D M i
theorem y3e {D:MD} (hV:VM D) (hS:MSz D) {M:MD} {N c:Nat} (hk:M.kind=D.kind) (h:BOk M N c):∀ i,i<=D.n->BOk (stsD D i M) N c
 | 0,_=>h
 | i+1,hi=>(y3e hV hS hk h i (by omega)).state (by rw[(y0r D M i).1,hk];exact hV.fin i (by omega)) (hS.fin i)
theorem y0d (D:MD) (low i:Nat) {M M':MD} (h:Skel M M'):∀ d,Skel M (cpA D low i d M')
 | 0=>h
 | d+1=>(y0d D low i h d).arc _ _ _ _ _
theorem y3d (D:MD) (low:Nat) (o:Option Nat) (M:MD):∀ i,(cpQ D low o i M).kind=M.kind/\(cpQ D low o i M).lead=M.lead/\(cpQ D low o i M).start=M.start/\(cpQ D low o i M).n=M.n
 | 0=>⟨rfl,rfl,rfl,rfl⟩
 | i+1=>by
  have h1:=y3d D low o M i;have h2:=y0d D low i (Skel.refl (cpQ D low o i M)) (D.na i);have h3:(cpA D low i (D.na i) (cpQ D low o i M)).kind=M.kind/\(cpA D low i (D.na i) (cpQ D low o i M)).lead=M.lead/\(cpA D low i (D.na i) (cpQ D low o i M)).start=M.start/\(cpA D low i (D.na i) (cpQ D low o i M)).n=M.n :=
   ⟨h2.kind.trans h1.1,h2.lead.trans h1.2.1,h2.start.trans h1.2.2.1,h2.n.trans h1.2.2.2⟩
  have h4:cpQ D low o (i+1) M=cpA D low i (D.na i) (cpQ D low o i M)\/∃ t,cpQ D low o (i+1) M=((cpA D low i (D.na i) (cpQ D low o i M)).setFin (low+i) ⟨#[]⟩).arc (low+i) 0 0 (D.fin i) t:=by
   show cpF D low o i (cpA D low i (D.na i) (cpQ D low o i M))=_\/∃ t,cpF D low o i (cpA D low i (D.na i) (cpQ D low o i M))=_;unfold cpF
   split
   ·exact .inl rfl
   cases o with
   | none=>exact .inl rfl
   | some t=>exact .inr ⟨_,rfl⟩
  rcases h4 with h4|⟨t,h4⟩
  ·rw[h4];exact h3
  rw[h4];exact h3
theorem x3z {D:MD} (hV:VM D) (hS:MSz D) {low N i:Nat} (hi:i<D.n) (hN:low+D.n<=N) {M:MD} {c:Nat} (hk:M.kind=D.kind) (h:BOk M N c):∀ d,d<=D.na i->BOk (cpA D low i d M) N (c+d)
 | 0,_=>h
 | d+1,hd=>by
  have a:=hV.arc i d hi (by omega);refine(x3z hV hS hi hN hk h d (by omega)).put ⟨a.i0,a.i1⟩ ⟨a.o0,a.o1⟩ ⟨by have:=a.t0;omega,by have:=a.t1;omega⟩ ?_ (hS.aw i d);rw[show (cpA D low i d M).kind=D.kind from (y0d D low i (Skel.refl M) d).kind.trans hk];exact a.wt
theorem y5r {D:MD} (hV:VM D) (hS:MSz D) {low N:Nat} {o:Option Nat} (ho:∀ t,o=some t->t<N) (hN:low+D.n<=N) {M:MD} {c:Nat} (hk:M.kind=D.kind) (h:BOk M N c):∀ i,i<=D.n->BOk (cpQ D low o i M) N (c+cpC D o i)
 | 0,_=>h.mono nlr (by unfold cpC;omega)
 | i+1,hi=>by
  have hk1:(cpQ D low o i M).kind=D.kind:=(y3d D low o M i).1.trans hk;have h1:=x3z hV hS (i:=i) (by omega) hN hk1 (y5r hV hS ho hN hk h i (by omega)) (D.na i) nlr;have hk2:(cpA D low i (D.na i) (cpQ D low o i M)).kind=D.kind:=(y0d D low i (Skel.refl _) _).kind.trans hk1;have hc:c+cpC D o i+D.na i+(if o.isSome then 1 else 0)=c+cpC D o (i+1):=by
   unfold cpC;show _=c+(z0f D i+D.na i+_);split<;>omega
  show BOk (cpF D low o i (cpA D low i (D.na i) (cpQ D low o i M))) N (c+cpC D o (i+1));rw[<- hc];unfold cpF
  split
  ·exact h1.mono nlr (by omega)
  rename_i hf;cases o with
  | none=>exact h1.mono nlr (by omega)
  | some t =>
   have h2:=ho t rfl;exact(h1.setFin (q:=low+i) (s:=⟨#[]⟩) (.inl rfl) (Nat.zero_le _)).put ⟨by omega,by omega⟩ ⟨by omega,by omega⟩ ⟨by omega,by omega⟩ (by
    show z0s (cpA D low i (D.na i) (cpQ D low (some t) i M)).kind (D.fin i)=true;rw[hk2];exact(hV.fin i (by omega)).resolve_left hf) (hS.fin i)
theorem v2g {D E:MD} (F:VM D) (u:MSz D) (z:VM E) (k:MSz E) (C:E.kind=D.kind) (lead:ByteArray):BOk (catD D E lead) (E.n+D.n) (z0f E E.n+(z0f D D.n+D.n))/\(catD D E lead).n=E.n+D.n/\(catD D E lead).kind=D.kind/\(catD D E lead).lead=lead:=by
 have J:=BOk.empty D.kind 0 lead (E.n+D.n);have H:=y3e z k (M:=z1r D.kind 0 lead) C.symm J E.n nlr;have A:(stsD E E.n (z1r D.kind 0 lead)).n=E.n:=by rw[y3c];exact Nat.zero_add _
 have j:(stsD E E.n (z1r D.kind 0 lead)).kind=E.kind:=by rw[(y0r _ _ _).1];exact C.symm
 have K:=y5r z k (low:=0) (N:=E.n+D.n) (o:=none) (fun _ h=>by cases h) (by omega) j H E.n nlr;have g:=y3d E 0 none (stsD E E.n (z1r D.kind 0 lead)) E.n;have m:(z4f E none (z1r D.kind 0 lead)).kind=D.kind:=by unfold z4f;exact g.1.trans (j.trans C)
 have i:(z4f E none (z1r D.kind 0 lead)).n=E.n:=by unfold z4f;exact g.2.2.2.trans A
 have G:=y3e F u (M:=z4f E none (z1r D.kind 0 lead)) m K D.n nlr;have l:(stsD D D.n (z4f E none (z1r D.kind 0 lead))).kind=D.kind:=by rw[(y0r _ _ _).1];exact m
 have B:(stsD D D.n (z4f E none (z1r D.kind 0 lead))).n=E.n+D.n:=by rw[y3c,i]
 have c:=y5r F u (low:=E.n) (N:=E.n+D.n) (o:=some E.start.toNat) (fun t h=>by cases h;have:=z.s0;have:=z.s1;omega) nlr l G D.n nlr;have d:=y3d D E.n (some E.start.toNat) (stsD D D.n (z4f E none (z1r D.kind 0 lead))) D.n;have I:(0+cpC E none E.n+cpC D (some E.start.toNat) D.n)=z0f E E.n+(z0f D D.n+D.n):=by unfold cpC;simp
 rw[I] at c;have p:catD D E lead={ cpQ D E.n (some E.start.toNat) D.n (stsD D D.n (z4f E none (z1r D.kind 0 lead))) with start:=(E.n:Int)+D.start }:=by
  show ({ cpQ D (z4f E none (z1r D.kind 0 lead)).n (some E.start.toNat) D.n (stsD D D.n (z4f E none (z1r D.kind 0 lead))) with start:=(E.n:Int)+D.start }:MD)=_;rw[i]
 rw[p];refine⟨⟨c.fin,c.arc,c.na,fun n=>?_,c.fsm,c.asm⟩,d.2.2.2.trans B,d.1.trans l,?_⟩
 ·have:∀ (X:MD) (s:Int) n,z0f { X with start:=s } n=z0f X n:=fun X s n=>by
   induction n with
   | zero=>rfl
   | succ n ih=>exact congrArg (·+X.na n) ih
  rw[this];exact c.cnt n
 show (cpQ D E.n (some E.start.toNat) D.n (stsD D D.n (z4f E none (z1r D.kind 0 lead)))).lead=lead;rw[d.2.1,(y0r _ _ _).2.1];unfold z4f;rw[(y3d _ _ _ _ _).2.1,(y0r _ _ _).2.1];rfl
def atW (n:Nat) (x:Nat->Int) (i:Nat):Int:=if i<n then x i else 0
def z3w (kind:Int) (na:Nat) (x:Nat->Int) (nb:Nat) (y:Nat->Int) (v:ByteArray):Nat->MD
 | 0=>(z1r kind 0 v).state ⟨#[]⟩
 | i+1=>((z3w kind na x nb y v i).state ⟨#[]⟩).arc i (atW na x i) (atW nb y i) (oneF kind) ((i+1:Nat):Int)
def z9f (kind:Int) (na:Nat) (x:Nat->Int) (nb:Nat) (y:Nat->Int) (v:ByteArray):MD:=(z3w kind na x nb y v (max na nb)).setFin (max na nb) (oneF kind)
end
section
open Go.RowKit Go.Deep
theorem z7a {g:Nat} {t:TypeId} {n:Nat} {z:Value}:∀ (c o:Nat) {w:World} {F:Nat->Value},w.rowIs g t n F->(w.setCells g o (List.replicate c z)).rowIs g t n (fun j=>if o<=j/\j<o+c then z else F j)
 | 0,o,w,F,h=>h.congr (fun i _=>by rw[if_neg (by omega)])
 | c+1,o,w,F,h=>by
  have h1:=z7a (z:=z) c (o+1) (h.set o z);refine World.rowIs.congr h1 (fun i _=>?_);by_cases e:i=o
  ·subst e;rw[if_neg (by omega),if_pos rfl,if_pos (by omega)]
  by_cases e2:o+1<=i/\i<o+1+c
  ·rw[if_pos e2,if_pos (by omega)]
  rw[if_neg e2,if_neg e,if_neg (by omega)]
theorem y1f {B b:Nat} {a:World} {z:Value}:∀ (c o:Nat) {w:World},Below B a w->B<=b->Below B a (w.setCells b o (List.replicate c z))
 | 0,_,_,h,_=>h
 | c+1,o,_,h,hb=>y1f c (o+1) (h.setCell (p:=⟨b,o,none⟩) hb z) hb
def RepES (n:Nat) (z:ByteArray) (w:World) (r:Ending) (w':World):Prop:=Below w.heap.size w w'/\∃ g,r=.returned (.slice (some ⟨g,0,none⟩) n n)/\w.heap.size<=g/\w'.rowIs g 9 n (fun _=>.string z)
theorem x2h {n xb xo xc:Nat} {z:ByteArray} (w:World) (h1:1<=n) (hn:n<=3000) (hx:w.cell? ⟨xb,xo,none⟩=some (.string z)) :
  Calls prog 121 #[.slice (some ⟨xb,xo,none⟩) 1 xc,.int .i64 (n:Int)] w (RepES n z w):=by
 have Z:=run_make_row' (P:=prog) 79 9 (.string ⟨#[]⟩) 16 underlying79 y9s rfl .i64 .i64 n (by omega) (by omega);have N:∀ R,Calls prog 152 #[.int .u64 1,.int .u64 (n:Int)] R (fun e w'=>e=.returned (.tuple #[.int .u64 0,.int .u64 (n:Int)])/\R=w'):=fun R=>(Tryz.bits_Mul 1 n (by omega) (by omega) R).mono fun e w' h=>by
  refine⟨h.1.trans ?_,h.2.symm⟩;rw[show 1*n / 18446744073709551616=0 by omega,show 1*n % 18446744073709551616=n by omega];rfl
 have Y:=qh N;clear N;have hz:decide ((n:Int)<0)=false:=by simp
 have a6:decide ((9223372036854775807:Int)<(n:Int))=false:=by simp;omega
 go_enter func121,ntmps121
 go_wp2_with fail
 refine(Y.out _).mono ?_;rintro r R ⟨rfl,rfl⟩;clear hz;have u:(prog.info? 9).map (·.size)=some 1:=by kernel_rfl
 have l:=World.rowIs_made w (.string ⟨#[]⟩) n 9;have m:=run_copy_cells (P:=prog) (w.alloc (.cells (madeCells #[.string ⟨#[]⟩] n) 9)) 79 79 3 9 w.heap.size 0 n n ⟨xb,xo,none⟩ 1 xc (List.replicate 1 (.string z)) underlying79 u (by rw[List.length_replicate];exact(Nat.min_eq_left h1).symm)
  (fun j v B=>by
   have G:j=0:=by have:=(List.getElem?_eq_some_iff.1 B).1;simpa using this
   subst G;simp at B;subst B;rw[Addr.add_lit,Nat.add_zero];exact(World.grownBy_alloc w _ none).cell hx (by simp))
  (fun j G=>by rw[l.cell (by simp at G;omega)];rfl) (fun j _=>l.frozen _) (fun v B=>by rw[List.eq_of_mem_replicate B];rfl)
 have p:=z7a (z:=.string z) 1 0 l;have C:=y1f (z:=.string z) 1 0 (((Below.refl w.heap.size w).alloc nlr (.cells (madeCells #[.string ⟨#[]⟩] n) 9))) nlr;rw[List.length_replicate] at m;have d:=qh p;clear p l;have s:=qh C;clear C;obtain⟨W1,J⟩:∃ W1,W1=(w.alloc (.cells (madeCells #[.string ⟨#[]⟩] n) 9)).setCells w.heap.size 0 (List.replicate 1 (.string z)):=⟨_,rfl⟩;rw[<- J] at d s m;have a9:=qh J;clear J u
 go_wp2_with fail
 clear Z m;obtain⟨g,T⟩:=exq (w.heap.size);rw[<- T] at d;rw[<- T];have O:w.heap.size<=g:=by omega
 clear T
 go_loopw [8] (fun v wr=>∃ c:Nat,1<=c/\c<=n/\v=.int .i64 (c:Int)/\wr.rowIs g 9 n (fun j=>if j<c then .string z else .string ⟨#[]⟩)/\Below w.heap.size w wr) (fun v _=>n-(intOf v).toNat)
 case atStart=>exact⟨1,nlr,h1,by go_num,d.out.congr (fun j _=>by by_cases e:j<1<;>simp[e]),s.out⟩
 obtain⟨c,a5,a7,rfl,hr,hb⟩:=hrel;clear d s;have L:=qh hr;clear hr;have HB:=qh hb;clear hb;by_cases a4:c<n
 ·have a8:(c:Int)<(n:Int):=by omega
  have a1:(0:Int)<=(c:Int):=by omega
  have a2:(c:Int)<=(n:Int):=by omega
  have u:(prog.info? 9).map (·.size)=some 1:=by kernel_rfl
  obtain⟨k,S⟩:=exq (Nat.min c (n-c));have X:1<=k/\k<=c/\c+k<=n:=by rw[S];show 1<=min c (n-c)/\min c (n-c)<=c/\c+min c (n-c)<=n;omega
  have m:=run_copy_cells (P:=prog) wr.drew 79 79 3 9 g c (n-c) (n-c) ⟨g,0,none⟩ c n (List.replicate k (.string z)) underlying79 u (by rw[List.length_replicate];exact S)
   (fun j v B=>by
    have G:j<k:=by have:=(List.getElem?_eq_some_iff.1 B).1;simpa using this
    have e:=(List.getElem?_eq_some_iff.1 B).2;rw[List.getElem_replicate] at e;subst e;rw[Addr.add_lit,Nat.zero_add];have h2:=L.out.cell (i:=j) (by omega);rw[if_pos (by omega)] at h2;exact h2)
   (fun j G=>by rw[List.length_replicate] at G;rw[show wr.drew.cell? ⟨g,c+j,none⟩=_ from L.out.cell (i:=c+j) (by omega)];rfl) (fun j _=>L.out.frozen _) (fun v B=>by rw[List.eq_of_mem_replicate B];rfl)
  rw[List.length_replicate,show goInt k=Value.int .i64 (k:Int) from rfl] at m;have A:=z7a (z:=.string z) k c (show wr.drew.rowIs g 9 n _ from L.out);have E:=y1f (z:=.string z) k c HB.out.drew O;have Q:=qh m;clear m u;have o:=qh A;clear A;have F:=qh E;clear E;have HK:=qh S;clear S;have U:¬ n=c:=by omega
  have hw:IntKind.i64.wrap ((c:Int)+(k:Int))=(c:Int)+(k:Int):=by rw[IntKind.wrap_i64];omega
  go_wp2_with fail
  refine z0e (fun _=>True) 9 (by kernel_rfl) ?_;refine z0c.tm 0 trivial ?_;refine z0c.tm 1 trivial ?_;refine z0c.tm 2 trivial ?_;refine z0c.tm 3 trivial ?_;refine z0c.tm 4 trivial ?_;refine z0c.tm 5 trivial ?_;refine z0c.tm 6 trivial ?_
  try simp only[Act.put,tryL]
  refine z0c.on 7 fun K D=>?_;refine Lib.wp_copy_run _ (.tmp 41) (.tmp 44) 79 79 rfl _ _ (by simp[Act.eval,U]) (by simp[Act.eval]) Q.out ?_;refine D.out _ _ (.inr trivial) ?_;clear D K;obtain⟨W2,I⟩:=exq (wr.drew.setCells g c (List.replicate k (.string z)));rw[<- I] at o F;rw[<- I];clear I Q
  try simp only[Act.put,tryL]
  refine z0c.on 8 fun K D=>?_;go_simp;refine D.out _ _ (.inr trivial) ?_;clear D K
  try simp only[Act.put,tryL]
  refine z0c.on 9 fun K D=>?_;go_simp;refine D.out _ _ (.inl rfl) (z0c.dn ?_);clear D K hw;go_wp2;go_roundw
  case rel =>
   refine⟨c+k,by omega,X.2.2,by go_num,o.out.congr (fun j G=>?_),F.out⟩;by_cases e:c<=j/\j<c+k
   ·rw[if_pos e,if_pos e.2]
   rw[if_neg e];by_cases e2:j<c
   ·rw[if_pos e2,if_pos (by omega)]
   rw[if_neg e2,if_neg (by omega)]
  simp[intOf];omega
 have H:c=n:=by omega
 have a3:¬ ((c:Int)<(n:Int)):=by omega
 have W:=qh H;clear H;go_wp2;go_ret;exact⟨HB.out,g,rfl,O,L.out.congr (fun j G=>if_pos (by have:=W.out;omega))⟩
end
section
open Go.RowKit Go.Deep
theorem Fr.gbc {w d:World} {c:Nat} (h:Fr (fun q=>q=c) w d):w.grownBy d (some c):=(h.mono (C':=fun q=>some c=some q) (fun q _ e=>by rw[e])).gb
structure RsI (w wr:World) (cb vb lb:Nat) (D:MD) (sv stv:Value) (v:Nat->ByteArray) (s:WS):Prop where
 sc:Scl wr cb D sv stv s.2
 rl:wr.rowIs lb 9 D.n (fun j=>.string (s.1 j))
 rv:wr.rowIs vb 9 D.n (fun j=>.string (v j))
 fr:Fr (fun q=>q=cb) w wr
 lw:w.heap.size<=lb
 vl:vb≠lb
 vc:vb≠cb
 cl:cb≠lb
theorem RsI.stepped {w wr g:World} {d vb i:Nat} {D:MD} {sv c:Value} {v:Nat->ByteArray} {s:WS} (h:RsI w wr d vb i D sv c v s) {e':Nat} (hf:Fr (fun q=>q=d) wr g) (j:Scl g d D sv c e'):RsI w g d vb i D sv c v (s.1,e') :=
 ⟨j,hf.row h.rl (fun e=>h.cl e.symm),hf.row h.rv h.vc,h.fr.trans hf,h.lw,h.vl,h.vc,h.cl⟩
theorem RsI.put {w g:World} {i vb c:Nat} {D:MD} {sv d:Value} {v:Nat->ByteArray} {s:WS} (h:RsI w g i vb c D sv d v s) (p:Nat) (x:ByteArray):RsI w (g.setCell ⟨c,p,none⟩ (.string x)) i vb c D sv d v (updS s.1 p x,s.2):=by
 have hf:Fr (fun q=>q=c) g (g.setCell ⟨c,p,none⟩ (.string x)):=(Fr.refl (fun q=>q=c) _).set (p:=⟨c,p,none⟩) (.inl rfl) _;refine⟨h.sc.kept hf h.cl,(h.rl.set p (.string x)).congr (fun j _=>?_),hf.row h.rv h.vl,h.fr.set (p:=⟨c,p,none⟩) (.inr h.lw) _,h.lw,h.vl,h.vc,h.cl⟩;show _=Value.string (updS s.1 p x j);unfold updS;by_cases e:j=p
 ·rw[if_pos e,if_pos e]
 rw[if_neg e,if_neg e]
theorem v0j {m rb:Nat} {D:MD} {a:Option Addr} {cap:Nat} {L:Value} {st:StarO} {v:Nat->ByteArray} {e:Nat} (w:World) (hV:VM D) (hs:Scl w m D (.slice a D.n cap) L e) (d3:StV w L D.n st) (hv:w.rowIs rb 9 D.n (fun q=>.string (v q))) (c8:∀ q,smS (v q)) (w0:World) (c9:Below w0.heap.size w0 w) (d6:w0.heap.size<=m) (ht:Tab w0) :
  Calls prog 83 #[.pointer (some ⟨m,0,none⟩),.slice (some ⟨rb,0,none⟩) D.n D.n] w (RstE m rb D (.slice a D.n cap) L st v e w):=by
 have k4:=hs.c4;have k5:=hs.c5;have HS:=qh hs;clear hs;have HV:=qh hv;clear hv;cases st with
 | none =>
  have g0:L=.slice none 0 0:=d3;subst g0;have hq:=fun w=>y1i 75 79 underlying75 w none 0 0;rw[show (none:Option Addr).isNone=true from rfl] at hq
  go_enter func83,ntmps83
  go_wp2;go_ret;exact⟨rb,rfl,HV.out,HS.out,.inl rfl,Fr.refl _ _⟩
 | some S =>
  obtain⟨a8,b6⟩:=d3;obtain⟨sa,sc,sb,so,A,C,B,O,rfl,ha,_,_,_,_⟩:=a8.open;have g4:=hV.n1;have h0:=hV.n2;obtain rfl:=ha (by omega);clear ha;have hq:=fun w=>y1i 75 79 underlying75 w (some ⟨sb,so,none⟩) D.n sc;rw[show (some (⟨sb,so,none⟩:Addr)).isNone=false from rfl] at hq;by_cases he:e=0
  rotate_left
  ·have h9:¬ ((e:Int)=0):=by omega
   have z:z5s D.kind D.n (some S) v e=(v,e):=if_pos he;have s:=qh z;clear z
   go_enter func83,ntmps83
   go_wp2;go_ret;exact⟨rb,rfl,by rw[s.out];exact HV.out,by rw[s.out];exact HS.out,.inl rfl,Fr.refl _ _⟩
  subst he;obtain⟨kz,c7⟩:=exq (z1j D.kind);have z:z5s D.kind D.n (some S) v 0=rstQ D.kind S v D.n D.n (z1d,0):=by show (if (0:Nat)≠0 then (v,0) else rstQ D.kind S v D.n D.n (z1d,0))=_;rw[if_neg (by decide)]
  have s:=qh z;clear z;have e7:=qh c7;clear c7;have f0:=qh (z9t w HS.out g4 h0);have f2:=qh a8;clear a8;have f9:=qh b6;clear b6;have a7:=qh c8;clear c8;have f4:=qh ht;clear ht;have d4:=qh c9;clear c9;have g6:=qh d6;clear d6;have h5:=qh hV;clear hV
  go_enter func83,ntmps83
  go_wp2_with fail
  refine f0.out.mono ?_;rintro r w1 ⟨rfl,a5,J,g9⟩;obtain⟨F,a6⟩:=exq (w.heap.size);rw[<- a6] at a5;rw[<- a6];have a2:Fr (fun q=>q=m) w w1:=J.mono (fun _ _ e=>e.elim);have d:=qh (show RsI w w1 m rb F D (.slice a D.n cap) (.slice (some ⟨sb,so,none⟩) D.n sc) v (z1d,0) from
   ⟨HS.out.kept J (fun e=>e),a5,J.row HV.out (fun e=>e),a2,by omega,by have:=HV.out.lt;omega,z0h HV.out (show w.heap[m]?=_ from HS.out) (by decide),by have:=HS.out.lt;omega⟩)
  have g2:w.heap.size<=F:=by omega
  clear a5 J a2 g9 a6 f0 k4 k5 hq
  go_wp2_with fail
  go_loopw [27] (fun b5 wr=>∃ q:Nat,q<=D.n/\b5=.int .i64 (q:Int)/\RsI w wr m rb F D (.slice a D.n cap) (.slice (some ⟨sb,so,none⟩) D.n sc) v (rstQ D.kind S v D.n q (z1d,0))) (fun b5 _=>D.n-(intOf b5).toNat)
  case atStart=>exact⟨0,Nat.zero_le _,rfl,d.out⟩
  obtain⟨q,hq,rfl,hi⟩:=hrel;clear d;have d:=qh hi;clear hi;by_cases b4:q<D.n
  ·have h6:(q:Int)<(D.n:Int):=by omega
   have h3:(0:Int)<=(q:Int):=by omega
   have cv:=d.out.rv.cell b4;obtain⟨g,Q⟩:=exq (v q);have a1:smS g:=by rw[Q];exact a7.out q
   rw[<- Q] at cv;obtain⟨s0,R⟩:=exq (rstQ D.kind S v D.n q (z1d,0));have U:∀ j,smS (s0.1 j):=by rw[R];exact x1h a7.out q z8r
   have e5:rstQ D.kind S v D.n (q+1) (z1d,0)=rstP D.kind S v q D.n s0:=by rw[R];rfl
   rw[<- R] at d;have g1:=qh e5;clear e5 R;have e4:=qh U;clear U;have f7:=qh Q;clear Q;have Z:=qh a1;clear a1
   go_wp2_with fail
   clear cv
   go_loopw [34] (fun a9 wr=>∃ p:Nat,p<=D.n/\a9=.int .i64 (p:Int)/\RsI w wr m rb F D (.slice a D.n cap) (.slice (some ⟨sb,so,none⟩) D.n sc) v (rstP D.kind S v q p s0)) (fun a9 _=>D.n-(intOf a9).toNat)
   case atStart=>exact⟨0,Nat.zero_le _,rfl,d.out⟩
   obtain⟨p,hp,rfl,hi⟩:=hrel;clear d;obtain⟨s1,k⟩:=exq (rstP D.kind S v q p s0);rw[<- k] at hi;have X:∀ j,smS (s1.1 j):=by rw[k];exact x1c (a7.out q) p e4.out
   have d9:=qh X;clear X;by_cases H:p<D.n
   ·have i3:(p:Int)<(D.n:Int):=by omega
    have h4:(0:Int)<=(p:Int):=by omega
    obtain⟨i4,h7,i2,h8,A,C,B,O,g5,g3,_,_,_,a4⟩:=(f2.out.later HS.out hi.sc hi.fr.gbc (.inl rfl) (fun i _=>by omega)).open;have f8:=g3 (by omega);cases g5;cases f8;obtain⟨t0,t1,t2,t3,t4,t5,t6⟩:=a4 q b4;have t7:=t6 p H;clear a4;obtain o:=t3 (by omega);rw[o] at t0;clear t1 t2 t3 t4 t5 t6 o;have c1:=hi.sc.c4;have c0:=hi.sc.c0;obtain⟨x,hx⟩:=exq (S q p);rw[<- hx] at t7;have e3:smS x:=by rw[hx];exact f9.out q p b4 H
    have g8:=qh e3;clear e3;have E:rstP D.kind S v q (p+1) s0=if g=⟨#[]⟩\/x=kz then s1 else (updS s1.1 p (z2e D.kind (s1.1 p) (z0t D.kind g x s1.2).1 (z0t D.kind g x s1.2).2).1,(z2e D.kind (s1.1 p) (z0t D.kind g x s1.2).1 (z0t D.kind g x s1.2).2).2):=by
     rw[k,hx,f7.out,e7.out];rfl
    have l:=qh E;clear E k hx;have d:=qh hi;clear hi;cases hO:(g.toList==[])
    ·have b0:g≠⟨#[]⟩:=fun e=>by rw[e] at hO;simp at hO
     have b1:=z4p D.kind wr;rw[<- e7.out] at b1;have e0:=qh b1;clear b1
     go_wp2_with fail
     refine e0.out.mono ?_;rintro r w2 ⟨rfl,b2⟩;have d2:Fr (fun q=>q=m) wr w2:=Fr.of_below b2;have P:=qh (d.out.stepped d2 (by unfold Scl;rw[b2.block m d.out.sc.lt];exact d.out.sc));clear t0 t7 c0 c1 d d2 b2 e0;cases hX:(x.toList==kz.toList)
     ·have d0:¬ (g=⟨#[]⟩\/x=kz):=fun h=>h.elim b0 (fun e=>by rw[e] at hX;simp at hX);have HN:=qh (l.out.trans (if_neg d0));clear d0 b0 l;obtain⟨wd,I⟩:=exq (w2.drew);have e8:Fr (fun q=>q=m) w2 wd:=by rw[I];exact(Fr.refl _ _).drew
      have u:=qh (P.out.stepped e8 (by rw[I];exact P.out.sc));clear e8 P;have c:wd.cell? ⟨F,p,none⟩=some (.string (s1.1 p)):=u.out.rl.cell H;have W:∀ wz,Fr (fun q=>q=m) w wz->Tab wz:=fun wz hf=>f4.out.below (d4.out.trans (hf.below d4.out.size (fun q e=>by rw[e];exact g6.out))) nlr;have a3:=qh W;clear W;have d1:=qh (y1r g x wd u.out.sc Z.out g8.out (a3.out _ u.out.fr));have T:smS (z0t D.kind g x s1.2).1:=z6f Z.out;have e9:=qh T;clear T
      go_wp2_with fail
      refine z0e (fun wk=>wk.cell? ⟨F,p,none⟩=some (.string (s1.1 p))) 13 (by kernel_rfl) ?_;rw[<- I];clear I;refine z0c.tm 0 c ?_;refine z0c.tm 1 c ?_;refine z0c.tm 2 c ?_;refine z0c.tm 3 c ?_;refine z0c.tm 4 c ?_;refine z0c.tm 5 c ?_;refine z0c.tm 6 c ?_;refine z0c.tm 7 c ?_;refine z0c.tm 8 c ?_;refine z0c.tm 9 c ?_
      try simp only[Act.put,tryL]
      refine z0c.on 10 fun K Y=>?_;go_simp;refine d1.out.mono ?_;rintro r w3 ⟨rfl,d7,e6⟩;have G:=qh (u.out.stepped e6 d7);have f1:w3.cell? ⟨F,p,none⟩=some (.string (s1.1 p)):=G.out.rl.cell H;have b7:=qh (y0c (s1.1 p) (z0t D.kind g x s1.2).1 w3 G.out.sc (d9.out p) e9.out (a3.out _ G.out.fr));refine Y.out _ _ (.inr f1) ?_;clear Y K c d1 u d7 e6
      try simp only[Act.put,tryL]
      refine z0c.on 11 fun K Y=>?_;go_simp;refine b7.out.mono ?_;rintro r w4 ⟨rfl,d5,d8⟩;have N:=qh (G.out.stepped d8 d5);have b3:w4.cell? ⟨F,p,none⟩=some (.string (s1.1 p)):=N.out.rl.cell H;have fz:=N.out.rl.frozen p;refine Y.out _ _ (.inr b3) ?_;clear Y K f1 b7 G d5 d8
      try simp only[Act.put,tryL]
      refine z0c.tm 12 b3 ?_
      try simp only[Act.put,tryL]
      refine z0c.on 13 fun K Y=>?_;go_simp;refine Y.out _ _ (.inl rfl) (z0c.dn ?_);clear Y K b3;have g7:=qh (N.out.put p (z2e D.kind (s1.1 p) (z0t D.kind g x s1.2).1 (z0t D.kind g x s1.2).2).1);clear N fz;go_wp2;go_roundw
      case rel=>exact⟨p+1,by omega,by go_num,by rw[HN.out];exact g7.out⟩
      simp[intOf];omega
     have b8:x=kz:=toList_eq hX;have HN:=qh (l.out.trans (if_pos (.inr b8)));clear b8 b0 l;go_wp2;go_roundw
     case rel=>exact⟨p+1,by omega,by go_num,by rw[HN.out];exact P.out⟩
     simp[intOf];omega
    have e1:g=⟨#[]⟩:=z6q hO;have HN:=qh (l.out.trans (if_pos (.inl e1)));clear e1 l;go_wp2;go_roundw
    case rel=>exact⟨p+1,by omega,by go_num,by rw[HN.out];exact d.out⟩
    simp[intOf];omega
   have e2:p=D.n:=by omega
   have f5:¬ ((p:Int)<(D.n:Int)):=by omega
   rw[e2] at k;have HN:=qh (g1.out.trans k.symm);clear k e2;have d:=qh hi;clear hi;go_wp2;go_roundw
   case rel=>exact⟨q+1,by omega,by go_num,by rw[HN.out];exact d.out⟩
   simp[intOf];omega
  have b9:q=D.n:=by omega
  have f5:¬ ((q:Int)<(D.n:Int)):=by omega
  have f3:=qh b9;clear b9;go_wp2;go_ret;have h1:=d.out.rl;have h2:=d.out.sc;rw[f3.out] at h1 h2;exact⟨F,rfl,by rw[s.out];exact h1,by rw[s.out];exact h2,.inr g2,d.out.fr⟩
end
section
open Go.RowKit Go.Deep
def OpnG (D:MD) (sel:Int->Int->Bool) (sv:Value) (w:World) (r:Ending) (w':World):Prop :=
 Below w.heap.size w w'/\∃ cb stv st e,r=.returned (.pointer (some ⟨cb,0,none⟩))/\w.heap.size<=cb/\Scl w' cb D sv stv e/\StV w' stv D.n st/\SilOk D sel st e
structure RwI (w wr:World) (cb gR:Nat) (D:MD) (sel:Int->Int->Bool) (sv:Value) (rb:Nat->Nat) (q:Nat):Prop where
 hb:Below w.heap.size w wr
 sc:Scl wr cb D sv (.slice none 0 0) (serr D sel q)
 own:wr.ownsRow w.heap.size 79 1 (.slice (some ⟨gR,0,none⟩) q 60) q ((List.range q).map fun i=>.slice (some ⟨rb i,0,none⟩) D.n D.n)
 rows:∀ i,i<q->wr.rowIs (rb i) 9 D.n (fun j=>.string (smat D sel i j))
theorem z9d {w:World} {B g n cap:Nat} {e:TypeId} {l:List Value} (h:w.ownsRow B e 1 (.slice (some ⟨g,0,none⟩) n cap) n l):∃ cs,w.heap[g]?=some (.cells cs e (0,0)):=by
 rcases h.2 with ⟨d,_⟩|⟨o,i,c,d,hb,j,k,s,p,m⟩
 ·cases d
 cases d;exact⟨c,j⟩
structure RoI (w wr:World) (cb gR lb:Nat) (D:MD) (sel:Int->Int->Bool) (sv:Value) (rb:Nat->Nat) (q:Nat) (s:WS):Prop where
 hb:Below w.heap.size w wr
 sc:Scl wr cb D sv (.slice none 0 0) s.2
 own:wr.ownsRow w.heap.size 79 1 (.slice (some ⟨gR,0,none⟩) q 60) q ((List.range q).map fun i=>.slice (some ⟨rb i,0,none⟩) D.n D.n)
 rows:∀ i,i<q->wr.rowIs (rb i) 9 D.n (fun j=>.string (smat D sel i j))
 rl:wr.rowIs lb 9 D.n (fun j=>.string (s.1 j))
 ne:∀ i,i<q->rb i≠lb
 lc:w.heap.size<=cb
 ll:w.heap.size<=lb
theorem RwI.keep {w wr g:World} {c d:Nat} {D:MD} {sel:Int->Int->Bool} {sv:Value} {rb:Nat->Nat} {q:Nat} (h:RwI w wr c d D sel sv rb q) (hf:Fr (fun _=>False) wr g):RwI w g c d D sel sv rb q :=
 ⟨h.hb.trans (hf.below h.hb.size (fun _ e=>e.elim)),h.sc.kept hf (fun e=>e),World.ownsRow.kept h.own ⟨hf.os,hf.tape,hf.output,hf.size,fun q j _=>hf.block q j (fun e=>e)⟩ (row:=none) (.inr (by simp[Value.ownBlock])),fun i hi=>hf.row (h.rows i hi) (fun e=>e)⟩
theorem RwI.row {w wr k:World} {d l g:Nat} {D:MD} {sel:Int->Int->Bool} {sv:Value} {rb:Nat->Nat} {q:Nat} (h:RwI w wr d l D sel sv rb q) (hf:Fr (fun _=>False) wr k) (m:w.heap.size<=d) (p:wr.heap.size<=g) (o:k.rowIs g 9 D.n (fun j=>.string (zrC D.kind j))):RoI w k d l g D sel sv rb q (zrC D.kind,serr D sel q):=by
 have c:=h.keep hf;exact⟨c.hb,c.sc,c.own,c.rows,o,fun i hi e=>by have:=(h.rows i hi).lt;omega,m,by have:=h.hb.size;omega⟩
theorem RoI.keep {w wr j:World} {c d g:Nat} {D:MD} {sel:Int->Int->Bool} {sv:Value} {rb:Nat->Nat} {q:Nat} {s:WS} (h:RoI w wr c d g D sel sv rb q s) (hf:Fr (fun _=>False) wr j):RoI w j c d g D sel sv rb q s :=
 ⟨h.hb.trans (hf.below h.hb.size (fun _ e=>e.elim)),h.sc.kept hf (fun e=>e),World.ownsRow.kept h.own ⟨hf.os,hf.tape,hf.output,hf.size,fun q k _=>hf.block q k (fun e=>e)⟩ (row:=none) (.inr (by simp[Value.ownBlock])),fun i hi=>hf.row (h.rows i hi) (fun e=>e),hf.row h.rl (fun e=>e),h.ne,h.lc,h.ll⟩
theorem RoI.gne {w wr:World} {d c g:Nat} {D:MD} {sel:Int->Int->Bool} {sv:Value} {rb:Nat->Nat} {q:Nat} {s:WS} (h:RoI w wr d c g D sel sv rb q s):c≠d/\c≠g:=by
 obtain⟨j,i⟩:=z9d h.own;refine⟨fun e=>?_,fun e=>?_⟩
 ·have:=h.sc;unfold Scl at this;rw[<- e,i] at this;simp at this
 exact z0h h.rl i (by decide) e.symm
theorem RoI.stepped {w wr g:World} {c j k e':Nat} {D:MD} {sel:Int->Int->Bool} {sv:Value} {rb:Nat->Nat} {q:Nat} {s:WS} (h:RoI w wr c j k D sel sv rb q s) (hf:Fr (fun q=>q=c) wr g) (l:Scl g c D sv (.slice none 0 0) e'):RoI w g c j k D sel sv rb q (s.1,e') :=
 ⟨h.hb.trans (hf.below h.hb.size (fun q e=>by rw[e];exact h.lc)),l,World.ownsRow.kept h.own ⟨hf.os,hf.tape,hf.output,hf.size,fun q m d=>hf.block q m (fun e=>d (by rw[e]))⟩ (row:=some c) (.inr (by simp[Value.ownBlock];exact h.gne.1)),fun i hi=>hf.row (h.rows i hi) (z0h (h.rows i hi) (show wr.heap[c]?=_ from h.sc) (by decide)),hf.row h.rl (z0h h.rl (show wr.heap[c]?=_ from h.sc) (by decide)),h.ne,h.lc,h.ll⟩
theorem RoI.put {w wr:World} {d k c:Nat} {D:MD} {sel:Int->Int->Bool} {sv:Value} {rb:Nat->Nat} {q:Nat} {s:WS} (h:RoI w wr d k c D sel sv rb q s) (p:Nat) (x:ByteArray):RoI w (wr.setCell ⟨c,p,none⟩ (.string x)) d k c D sel sv rb q (updS s.1 p x,s.2):=by
 have hf:Fr (fun q=>q=c) wr (wr.setCell ⟨c,p,none⟩ (.string x)):=(Fr.refl (fun q=>q=c) _).set (p:=⟨c,p,none⟩) (.inl rfl) _;refine⟨h.hb.trans (hf.below h.hb.size (fun q e=>by rw[e];exact h.ll)),h.sc.kept hf (z0h h.rl (show wr.heap[d]?=_ from h.sc) (by decide)).symm,World.ownsRow.kept h.own ⟨hf.os,hf.tape,hf.output,hf.size,fun q l g=>hf.block q l (fun e=>g (by rw[e]))⟩ (row:=some c) (.inr (by simp[Value.ownBlock];exact h.gne.2)),fun i hi=>hf.row (h.rows i hi) (h.ne i hi),(h.rl.set p (.string x)).congr (fun j _=>?_),h.ne,h.lc,h.ll⟩;show _=Value.string (updS s.1 p x j);unfold updS;by_cases e:j=p
 ·rw[if_pos e,if_pos e]
 rw[if_neg e,if_neg e]
theorem RoI.done {w wr l:World} {o d c q:Nat} {D:MD} {sel:Int->Int->Bool} {sv:Value} {rb:Nat->Nat} (h:RoI w wr o d c D sel sv rb q (srow D sel q (serr D sel q))) (g:l.ownsRow w.heap.size 79 1 (.slice (some ⟨d,0,none⟩) (q+1) 60) (q+1) (((List.range q).map fun i=>.slice (some ⟨rb i,0,none⟩) D.n D.n)++[.slice (some ⟨c,0,none⟩) D.n D.n])) (m:wr.grownBy l (some d)) :
  RwI w l o d D sel sv (fun i=>if i=q then c else rb i) (q+1):=by
 have k:=h.gne;obtain⟨F,u⟩:=z9d h.own;have p:w.heap.size<=d:=by
  rcases h.own.2 with ⟨z,_⟩|⟨E,A,C,z,hb,_⟩
  ·cases z
  cases z;exact hb
 refine⟨h.hb.grown m (by have:=h.hb.size;omega) (fun j B=>by cases B;exact p),?_,?_,fun i hi=>?_⟩
 ·show Scl l o D sv _ (srow D sel q (serr D sel q)).2;have:=h.sc;unfold Scl at this ⊢;rw[m.block o h.sc.lt (by simp;exact fun e=>k.1 e.symm)];exact this
 ·have e:((List.range (q+1)).map fun i=>Value.slice (some ⟨if i=q then c else rb i,0,none⟩) D.n D.n)=((List.range q).map fun i=>.slice (some ⟨rb i,0,none⟩) D.n D.n)++[.slice (some ⟨c,0,none⟩) D.n D.n]:=by
   rw[List.range_succ,List.map_append]
   congr 1
   ·exact List.map_congr_left fun i hi=>by rw[if_neg (by have:=List.mem_range.1 hi;omega)]
   simp
  rw[e];exact g
 by_cases e:i=q
 ·subst e;simp only[if_pos];exact h.rl.of_block (m.block c h.rl.lt (by simp;exact fun e=>k.2 e.symm))
 simp only[if_neg e];have s:=h.rows i (by omega);exact s.of_block (m.block (rb i) s.lt (by simp;exact z0h s u (by decide)))
theorem RwI.mt {w wr:World} {s c:Nat} {D:MD} {sel:Int->Int->Bool} {sv:Value} {rb:Nat->Nat} (h:RwI w wr s c D sel sv rb D.n) (hn:D.n<=60):Mt none wr (.slice (some ⟨c,0,none⟩) D.n 60) D.n (fun _=>D.n) (smat D sel):=by
 refine⟨fun i=>.slice (some ⟨rb i,0,none⟩) D.n D.n,?_,fun i hi=>?_⟩
 ·rcases h.own.2 with ⟨d,_⟩|⟨B,l,u,d,hb,p,A,o,z,C⟩
  ·cases d
  cases d;refine .inr ⟨c,0,60,rfl,⟨(Array.getElem?_eq_some_iff.1 p).1,by simp⟩,hn,o,fun i hi=>?_⟩;have:=World.ownsRow.cells h.own (g:=c) rfl i (.slice (some ⟨rb i,0,none⟩) D.n D.n) (by simp[hi]);rw[Addr.add_lit] at this;exact this
 have k:=h.rows i hi;exact .inr ⟨rb i,0,D.n,rfl,⟨k.lt,by simp⟩,nlr,by unfold maxLen;omega,fun j m=>by rw[Nat.zero_add];exact k.cell m⟩
theorem v0a {D:MD} {sv:Value} {nf:FuncId} {sel:Int->Int->Bool} (w:World) (hv:VM D) (hD:StS none w sv D) (v8:∀ i k,smS (D.aw i k)) (ht:Tab w) (q8:TstA nf #[] sel (fun _=>True)) :
  Calls prog 78 #[.agg #[.int .i64 D.kind,.int .i64 D.start,.string D.lead,sv],.func (.func nf) #[] #[]] w (OpnG D sel sv w):=by
 obtain⟨a,s,b,c,A,C,BB,O,rfl,ha,hc,hm,hb,a5⟩:=hD.open;unfold maxLen at hm;obtain⟨A3,x2⟩:=q8;obtain⟨n,hn⟩:=exq (D.n);have y4:n<=3000:=by rw[hn];exact hv.n2
 have z1:1<=n:=by rw[hn];exact hv.n1
 rw[<- hn] at ha hc hb a5 ⊢;have y5:∀ w,(Instr.makeSlice 75 (.int .i64 0) (.int .i64 60)).run prog w=.ok (.slice (some ⟨w.heap.size,0,none⟩) 0 60) (w.alloc (.cells (madeCells #[.slice none 0 0] 60) 79)):=fun _=>by kernel_rfl
 have X:=qh hn;clear hn;have HV:=qh hv;clear hv;have HA:=qh ha;clear ha;have HB:=qh hb;clear hb;have HR:=qh a5;clear a5 hD;have n5:=qh v8;clear v8;have o6:=qh ht;clear ht;have s7:=qh x2;clear x2;obtain rfl:=HA.out (by omega);obtain⟨w1,e0⟩:=exq (w.alloc (.cells #[.int .i64 D.kind,.int .i64 D.start,.string D.lead,.slice (some ⟨b,c,none⟩) n s] 24));obtain⟨w2,c7⟩:=exq (w1.alloc (.cells #[.int .i64 D.kind,.int .i64 D.start,.string D.lead,.slice (some ⟨b,c,none⟩) n s,.slice none 0 0,.int .i64 0] 105));obtain⟨w3,L⟩:=exq (w2.alloc (.cells (madeCells #[.slice none 0 0] 60) 79));have f0:w1.heap.size=w.heap.size+1:=by rw[e0];simp
 have l5:w2.heap.size=w.heap.size+1+1:=by rw[c7];simp[f0]
 have p7:Below w.heap.size w w1:=by rw[e0];exact blr.alloc nlr _
 have Z:Below w.heap.size w w2:=by rw[c7];exact p7.alloc (by omega) _
 have s4:Below w.heap.size w w3:=by rw[L];exact Z.alloc (by omega) _
 have j9:Scl w2 w1.heap.size D (.slice (some ⟨b,c,none⟩) n s) (.slice none 0 0) 0:=by rw[c7];exact heap_alloc_new w1 _
 have j4:Scl w3 w1.heap.size D (.slice (some ⟨b,c,none⟩) n s) (.slice none 0 0) 0:=by rw[L];unfold Scl;rw[blk_alloc_lt _ _ _ j9.lt];exact j9
 have h8:BoxM w1 w.heap.size D (.slice (some ⟨b,c,none⟩) n s):=by rw[e0];exact BoxM.new w D _
 have J:BoxM w3 w.heap.size D (.slice (some ⟨b,c,none⟩) n s):=by
  rw[L,c7];exact(h8.kept (World.grownBy_alloc w1 _ none) (by simp)).kept (World.grownBy_alloc _ _ none) (by simp)
 have e8:w3.ownsRow w.heap.size 79 1 (.slice (some ⟨w2.heap.size,0,none⟩) 0 60) 0 ((List.range 0).map fun i=>.slice (some ⟨(fun _=>0) i,0,none⟩) D.n D.n):=by
  refine⟨rfl,.inr ⟨w2.heap.size,60,madeCells #[.slice none 0 0] 60,rfl,by omega,by rw[L];exact heap_alloc_new w2 _,by omega,by unfold maxLen;omega,by simp[madeCells],by simp⟩⟩
 rw[l5] at e8;rw[f0] at j4;have m3:=J.c3;rw[L,c7,e0] at m3;have l9:=qh j4;clear j4 j9;have x0:=qh s4;clear s4 Z p7;have Q:=qh J;clear J h8;have g1:=qh e8;clear e8;clear f0 l5
 go_enter func78,ntmps78
 go_wp2_with fail
 rw[<- e0,<- c7,<- L];obtain⟨B,m8⟩:=exq (w.heap.size);obtain⟨o,m9⟩:=exq (w.heap.size+1);obtain⟨gR,l7⟩:=exq (w.heap.size+1+1);have a7:=qh (show w.heap.size<=o by omega);have z3:=qh (show B≠o by omega);rw[<- m9] at l9;rw[<- l7] at g1;rw[<- m8] at Q;rw[<- l7,<- m9,<- m8];clear e0 c7 L m3 y5 m9 l7 m8
 go_loopw [7,24] (fun y i wr=>∃ (q:Nat) (bb:Bool),q<=n/\i=.int .i64 (q:Int)/\y=.bool bb/\(bb=false->∀ q' d,q' < q->d<D.na q'->sel (D.ain q' d) (D.aout q' d)=false)/\(bb=true->¬ NoSel D sel)/\Scl wr o D (.slice (some ⟨b,c,none⟩) n s) (.slice none 0 0) 0/\Below w.heap.size w wr/\BoxM wr B D (.slice (some ⟨b,c,none⟩) n s)/\wr.ownsRow w.heap.size 79 1 (.slice (some ⟨gR,0,none⟩) 0 60) 0 ((List.range 0).map fun i=>.slice (some ⟨(fun _=>0) i,0,none⟩) D.n D.n)) (fun _ i _=>n-(intOf i).toNat)
 case atStart=>exact⟨0,false,Nat.zero_le _,rfl,rfl,fun _ q' d h=>(by omega),fun h=>(by cases h),l9.out,x0.out,Q.out,g1.out⟩
 obtain⟨q,bb,hq,rfl,rfl,f3,e4,r8,r3,b9,u9⟩:=hrel;clear l9 x0 Q g1;have b7:=qh r8;clear r8;have a1:=qh r3;clear r3;have m:=qh b9;clear b9;have g9:=qh u9;clear u9;have b0:=qh f3;clear f3;have c9:=qh e4;clear e4;by_cases j6:q<n
 ·have x4:(q:Int)<(n:Int):=by omega
  have u5:(0:Int)<=(q:Int):=by omega
  have f2:=(HB.out (by omega)).1;obtain⟨k1,k2,k3,k4,k5,k6,k7⟩:=HR.out q j6;obtain⟨aq,g3⟩:=exq (A q);rw[<- g3] at k2 k5;clear g3;have c0:=(a1.out.cell (p:=⟨b,c+q*2,none⟩) f2).trans k1;have c1:=(a1.out.cell (p:=⟨b,c+q*2+1,none⟩) f2).trans k2;clear k1 k2;unfold maxLen at k4;have o4:D.na q<=30000:=by have E:=Nat.le_trans (z1t D (show q+1<=D.n by have:=X.out;omega)) HV.out.arcs;have h2:z0f D (q+1)=z0f D q+D.na q:=rfl;omega
  have m2:=qh k7;clear k7;have j5:=qh k5;clear k5;have j3:=qh k6;clear k6;obtain⟨wa,G⟩:=exq (wr.alloc (.cells #[.string (D.fin q),.slice aq (D.na q) (C q)] 57));have g:Fr (fun _=>False) wr wa:=by rw[G];exact Fr.alloc _ _
  have F:=qh (show Scl wa o D (.slice (some ⟨b,c,none⟩) n s) (.slice none 0 0) 0/\Below w.heap.size w wa/\BoxM wa B D (.slice (some ⟨b,c,none⟩) n s)/\wa.ownsRow w.heap.size 79 1 (.slice (some ⟨gR,0,none⟩) 0 60) 0 ((List.range 0).map fun i=>.slice (some ⟨(fun _=>0) i,0,none⟩) D.n D.n) from
   ⟨b7.out.kept g (fun e=>e),a1.out.trans (g.below a1.out.size (fun _ e=>e.elim)),(g.block _ m.out.lt (fun e=>e)).trans m.out,World.ownsRow.kept g9.out ⟨g.os,g.tape,g.output,g.size,fun q hq _=>g.block q hq (fun e=>e)⟩ (row:=none) (.inr (by simp[Value.ownBlock]))⟩)
  clear g
  go_wp2_with fail
  rw[<- G];clear c0 c1 G b7 a1 m g9
  go_loopw [7,31] (fun y i wr=>∃ (d:Nat) (bb:Bool),d<=D.na q/\i=.int .i64 (d:Int)/\y=.bool bb/\(bb=false->(∀ q' d,q' < q->d<D.na q'->sel (D.ain q' d) (D.aout q' d)=false)/\∀ d',d' < d->sel (D.ain q d') (D.aout q d')=false)/\(bb=true->¬ NoSel D sel)/\Scl wr o D (.slice (some ⟨b,c,none⟩) n s) (.slice none 0 0) 0/\Below w.heap.size w wr/\BoxM wr B D (.slice (some ⟨b,c,none⟩) n s)/\wr.ownsRow w.heap.size 79 1 (.slice (some ⟨gR,0,none⟩) 0 60) 0 ((List.range 0).map fun i=>.slice (some ⟨(fun _=>0) i,0,none⟩) D.n D.n)) (fun _ i _=>D.na q-(intOf i).toNat)
  case atStart=>exact⟨0,bb,Nat.zero_le _,rfl,rfl,fun h=>⟨b0.out h,fun d' h=>by omega⟩,c9.out,F.out⟩
  obtain⟨d,b2,hd,rfl,rfl,f3,e4,o2⟩:=hrel;clear F b0 c9;have b0:=qh f3;clear f3;have c9:=qh e4;clear e4;have F:=qh o2;clear o2;by_cases g2:d<D.na q
  ·have y9:(d:Int)<(D.na q:Int):=by omega
   have t8:(0:Int)<=(d:Int):=by omega
   have a9:=(j3.out (by omega)).1;obtain⟨t0,t1,t2,t3⟩:=m2.out d g2;obtain rfl:=j5.out (by omega);have c0:=(F.out.2.1.cell (p:=⟨BB q,O q+d*4,none⟩) a9).trans t0;have c1:=(F.out.2.1.cell (p:=⟨BB q,O q+d*4+1,none⟩) a9).trans t1;have c2:=(F.out.2.1.cell (p:=⟨BB q,O q+d*4+2,none⟩) a9).trans t2;have c3:=(F.out.2.1.cell (p:=⟨BB q,O q+d*4+3,none⟩) a9).trans t3;clear t0 t1 t2 t3;obtain⟨wa,G⟩:=exq (wr.alloc (.cells #[.int .i64 (D.ain q d),.int .i64 (D.aout q d),.string (D.aw q d),.int .i64 (D.ato q d)] 59));have g:Fr (fun _=>False) wr wa:=by rw[G];exact Fr.alloc _ _
   have t7:∀ wz,Fr (fun _=>False) wr wz->Scl wz o D (.slice (some ⟨b,c,none⟩) n s) (.slice none 0 0) 0/\Below w.heap.size w wz/\BoxM wz B D (.slice (some ⟨b,c,none⟩) n s)/\wz.ownsRow w.heap.size 79 1 (.slice (some ⟨gR,0,none⟩) 0 60) 0 ((List.range 0).map fun i=>.slice (some ⟨(fun _=>0) i,0,none⟩) D.n D.n):=fun wz g =>
    ⟨F.out.1.kept g (fun e=>e),F.out.2.1.trans (g.below F.out.2.1.size (fun _ e=>e.elim)),(g.block _ F.out.2.2.1.lt (fun e=>e)).trans F.out.2.2.1,World.ownsRow.kept F.out.2.2.2 ⟨g.os,g.tape,g.output,g.size,fun q hq _=>g.block q hq (fun e=>e)⟩ (row:=none) (.inr (by simp[Value.ownBlock]))⟩
   have m4:=qh t7;clear t7;have l2:=qh g;clear g;cases b2 with
   | true =>
    go_wp2_with fail
    rw[<- G];clear G c0 c1 c2 c3;go_roundw
    case rel=>exact⟨d+1,true,by omega,by go_num,rfl,fun h=>by (first|cases h),c9.out,m4.out _ l2.out⟩
    simp[intOf];omega
   | false =>
    have I:=s7.out wa trivial (D.ain q d) (D.aout q d) (D.aw q d) (D.ato q d);obtain⟨sb,l8⟩:=exq (sel (D.ain q d) (D.aout q d));rw[<- l8] at I;have r2:=qh l8;clear l8;have HC:=qh I;clear I
    go_wp2_with fail
    rw[<- G];clear G c0 c1 c2 c3;refine HC.out.mono ?_;rintro r w2 ⟨rfl,Z⟩;have HX:=qh (m4.out w2 (l2.out.trans (Fr.of_below Z)));clear Z HC m4 l2 F;go_wp2;go_roundw
    case rel =>
     refine⟨d+1,sb,by omega,by go_num,rfl,fun h=>⟨(b0.out (by first|rfl|trivial)).1,fun d' A0=>?_⟩,fun h h0=>?_,HX.out⟩
     ·by_cases e:d'=d
      ·rw[e,<- r2.out];exact h
      exact(b0.out (by first|rfl|trivial)).2 d' (by omega)
     have:=h0 q d (by have:=X.out;omega) g2;rw[<- r2.out,h] at this;cases this
    simp[intOf];omega
  have l4:¬ ((d:Int)<(D.na q:Int)):=by omega
  go_wp2;go_roundw
  case rel =>
   refine⟨q+1,b2,by omega,by go_num,rfl,fun h q' d' E h2=>?_,c9.out,F.out⟩;by_cases e:q'=q
   ·subst e;exact(b0.out h).2 d' (by omega)
   exact(b0.out h).1 q' d' (by omega) h2
  simp[intOf];omega
 have l4:¬ ((q:Int)<(n:Int)):=by omega
 have h3:q=D.n:=by have:=X.out;omega
 cases bb with
 | false =>
  have h0:NoSel D sel:=fun q' d E h2=>b0.out rfl q' d (by omega) h2;have e1:=qh h0;clear h0 h3;go_wp2;go_ret;exact⟨a1.out,o,_,none,0,rfl,a7.out,b7.out,rfl,.inl ⟨e1.out,rfl,rfl⟩⟩
 | true =>
  clear h3;have e1:=qh (c9.out rfl);have m3:=m.out.c3;have m0:=m.out.c0;by_cases A6:60<n
  ·have s8:(60:Int)<(n:Int):=by omega
   have f5:=b7.out.fz 5;have c5:=b7.out.c5;have W:Fr (fun q=>q=o) wr (wr.setCell ⟨o,5,none⟩ (.int .i64 ((2:Nat):Int))):=(Fr.refl (fun q=>q=o) _).set (p:=⟨o,5,none⟩) (.inl rfl) _;have y1:=qh W;clear W;go_wp2;go_ret;refine⟨a1.out.trans (y1.out.below a1.out.size (fun q e=>by rw[e];exact a7.out)),o,_,none,2,rfl,a7.out,b7.out.setE 2,rfl,.inr (.inr ⟨e1.out,by omega,rfl,.inl (by have:=X.out;omega)⟩)⟩
  have s8:decide ((60:Int)<(n:Int))=false:=by simp;omega
  have z6:n<=60:=by omega
  have u4:=qh (show RwI w wr o gR D sel (.slice (some ⟨b,c,none⟩) n s) (fun _=>0) 0 from ⟨a1.out,b7.out,g9.out,fun i hi=>by omega⟩);clear b7 a1 g9 b0 c9
  go_wp2_with fail
  clear m3 m0
  go_loopw [6,57] (fun v6 i wr=>∃ (q:Nat) (rb:Nat->Nat),q<=n/\i=.int .i64 (q:Int)/\v6=.slice (some ⟨gR,0,none⟩) q 60/\RwI w wr o gR D sel (.slice (some ⟨b,c,none⟩) n s) rb q/\BoxM wr B D (.slice (some ⟨b,c,none⟩) n s)) (fun _ i _=>n-(intOf i).toNat)
  case atStart=>exact⟨0,_,Nat.zero_le _,rfl,rfl,u4.out,m.out⟩
  obtain⟨q,rb,hq,rfl,rfl,hi,b9⟩:=hrel;clear u4 m;have HI:=qh hi;clear hi;have m:=qh b9;clear b9;by_cases j6:q<n
  ·have x4:(q:Int)<(n:Int):=by omega
   have u5:(0:Int)<=(q:Int):=by omega
   have f2:=(HB.out (by omega)).1;obtain⟨k1,k2,k3,k4,k5,k6,k7⟩:=HR.out q j6;obtain⟨aq,g3⟩:=exq (A q);rw[<- g3] at k2 k5;clear g3;have c0:=(HI.out.hb.cell (p:=⟨b,c+q*2,none⟩) f2).trans k1;have c1:=(HI.out.hb.cell (p:=⟨b,c+q*2+1,none⟩) f2).trans k2;have A2:=qh k2;clear k1 k2;unfold maxLen at k4;have o4:D.na q<=30000:=by have E:=Nat.le_trans (z1t D (show q+1<=D.n by have:=X.out;omega)) HV.out.arcs;have h2:z0f D (q+1)=z0f D q+D.na q:=rfl;omega
   have m2:=qh k7;clear k7;have j5:=qh k5;clear k5;have j3:=qh k6;clear k6;obtain⟨wa,G⟩:=exq (wr.alloc (.cells #[.string (D.fin q),.slice aq (D.na q) (C q)] 57));obtain⟨xb,j0⟩:=exq (wr.heap.size);have g:Fr (fun _=>False) wr wa:=by rw[G];exact Fr.alloc _ _
   have i8:wa.heap[xb]?=some (.cells #[.string (D.fin q),.slice aq (D.na q) (C q)] 57 (0,0)):=by rw[G,j0];exact heap_alloc_new wr _
   obtain⟨wd,d4⟩:=exq (wa.drew);have b8:Fr (fun _=>False) wa wd:=by rw[d4];exact(Fr.refl _ _).drew
   have f9:=g.trans b8;have T:BoxM wd B D (.slice (some ⟨b,c,none⟩) n s):=(f9.block _ m.out.lt (fun e=>e)).trans m.out;have d0:wd.heap[xb]?=_:=(b8.block xb (lt_of_block i8) (fun e=>e)).trans i8;have l:wd.cell? ⟨B,0,none⟩=some (.int .i64 D.kind)/\wd.cell? ⟨B,3,none⟩=some (.slice (some ⟨b,c,none⟩) n s):=⟨T.c0,T.c3⟩;obtain⟨kz,l3⟩:=exq (z1j D.kind);have l6:=z4p D.kind wd;rw[<- l3] at l6;have r4:=qh l6;clear l6;have y6:=qh l3;clear l3;have S:=qh T;clear T m;have e3:=qh d0;clear d0 i8;have u3:=qh f9;clear f9 b8 g
   go_wp2_with fail
   refine z0e (fun wk=>wk.cell? ⟨B,0,none⟩=some (.int .i64 D.kind)/\wk.cell? ⟨B,3,none⟩=some (.slice (some ⟨b,c,none⟩) n s)) 8 (by kernel_rfl) ?_;rw[<- G,<- j0,<- d4];clear G j0 d4 c0 c1;refine z0c.tm 0 l ?_;refine z0c.tm 1 l ?_;refine z0c.tm 4 l ?_;refine z0c.tm 5 l ?_;refine z0c.tm 6 l ?_
   try simp only[Act.put,tryL]
   refine z0c.on 2 fun K hK=>?_;go_simp;refine r4.out.mono ?_;rintro r w2 ⟨rfl,Z⟩;have u8:Fr (fun _=>False) wr w2:=u3.out.trans (Fr.of_below Z);have d7:BoxM w2 B D (.slice (some ⟨b,c,none⟩) n s):=(Z.block _ S.out.lt).trans S.out;have s9:=(Z.block xb (lt_of_block e3.out)).trans e3.out;have w9:w2.cell? ⟨B,0,none⟩=some (.int .i64 D.kind)/\w2.cell? ⟨B,3,none⟩=some (.slice (some ⟨b,c,none⟩) n s):=⟨d7.c0,d7.c3⟩;have f8:=qh d7;clear d7 S;have m7:=qh s9;clear s9 e3;have r5:=qh u8;clear u8 u3 Z;refine hK.out _ _ (.inr w9) ?_;clear hK K l r4
   try simp only[Act.put,tryL]
   refine z0c.on 3 fun K hK=>?_;go_simp;obtain⟨w3,L⟩:=exq (w2.alloc (.cells #[.string kz] 9));have h5:Fr (fun _=>False) w2 w3:=by rw[L];exact Fr.alloc _ _
   have b4:w3.cell? ⟨w2.heap.size,0,none⟩=some (.string kz):=by rw[L];exact z5a w2 _ _ 0 _ rfl
   have J:BoxM w3 B D (.slice (some ⟨b,c,none⟩) n s):=(h5.block _ f8.out.lt (fun e=>e)).trans f8.out;have u1:=(h5.block xb (lt_of_block m7.out) (fun e=>e)).trans m7.out;have r9:w3.cell? ⟨B,0,none⟩=some (.int .i64 D.kind)/\w3.cell? ⟨B,3,none⟩=some (.slice (some ⟨b,c,none⟩) n s):=⟨J.c0,J.c3⟩;have o9:=qh (x2h (n:=n) (xb:=w2.heap.size) (xo:=0) (xc:=1) (z:=kz) w3 z1 y4 b4);have Q:=qh J;clear J f8;have n3:=qh u1;clear u1 m7;have i9:=qh (r5.out.trans h5);clear h5 r5 b4;rw[<- L];clear L;refine hK.out _ _ (.inr r9) ?_;clear hK K w9
   try simp only[Act.put,tryL]
   refine z0c.on 7 fun K hK=>?_;go_simp;refine o9.out.mono ?_;rintro r w4 ⟨h4,lb,rfl,x9,s3⟩;have v9:Fr (fun _=>False) wr w4:=i9.out.trans (Fr.of_below h4);have d8:BoxM w4 B D (.slice (some ⟨b,c,none⟩) n s):=(h4.block _ Q.out.lt).trans Q.out;have v4:=(h4.block xb (lt_of_block n3.out)).trans n3.out;have p0:w4.cell? ⟨B,0,none⟩=some (.int .i64 D.kind)/\w4.cell? ⟨B,3,none⟩=some (.slice (some ⟨b,c,none⟩) n s):=⟨d8.c0,d8.c3⟩;have U:RoI w w4 o gR lb D sel (.slice (some ⟨b,c,none⟩) n s) rb q (zrC D.kind,serr D sel q):=HI.out.row v9 a7.out (by have:=i9.out.size;omega) (by
    have E:w4.rowIs lb 9 D.n (fun _=>.string kz):=by rw[<- X.out];exact s3
    exact E.congr (fun _ _=>by show Value.string kz=.string (z1j D.kind);rw[y6.out]))
   have N:=qh U;clear U s3 v9 i9;have i2:=qh d8;clear d8 Q;have n9:=qh v4;clear v4 n3;refine hK.out _ _ (.inr p0) ?_;clear hK K r9 o9 h4 x9
   try simp only[Act.put,tryL]
   refine z0c.on 8 fun K hK=>?_;go_simp;refine hK.out _ _ (.inl rfl) (z0c.dn ?_);clear hK K p0 HI;obtain⟨s0,g6⟩:∃ s0:WS,s0=(zrC D.kind,serr D sel q):=⟨_,rfl⟩;have i4:∀ j,smS (s0.1 j):=by rw[g6];exact v8p _
   have a5:srow D sel q (serr D sel q)=z4z D sel q (D.na q) s0:=by rw[g6];rfl
   rw[<- g6] at N;have u7:=qh a5;clear a5;have r6:=qh i4;clear i4 g6;have x1:=cellOf n9.out 1 rfl
   go_wp2_with fail
   clear x1
   go_loopw [72] (fun i wr=>∃ d:Nat,d<=D.na q/\i=.int .i64 (d:Int)/\RoI w wr o gR lb D sel (.slice (some ⟨b,c,none⟩) n s) rb q (z4z D sel q d s0)/\BoxM wr B D (.slice (some ⟨b,c,none⟩) n s)) (fun i _=>D.na q-(intOf i).toNat)
   case atStart=>exact⟨0,Nat.zero_le _,rfl,N.out,i2.out⟩
   obtain⟨d,hd,rfl,U,b9⟩:=hrel;clear N i2 n9;obtain⟨s1,c8⟩:=exq (z4z D sel q d s0);rw[<- c8] at U;have m:=qh b9;clear b9;have N:=qh U;clear U;by_cases g2:d<D.na q
   ·have y9:(d:Int)<(D.na q:Int):=by omega
    have t8:(0:Int)<=(d:Int):=by omega
    have a9:=(j3.out (by omega)).1;obtain⟨t0,t1,t2,t3⟩:=m2.out d g2;obtain rfl:=j5.out (by omega);have m5:=HV.out.arc q d (by have:=X.out;omega) g2;obtain⟨H,l0⟩:∃ H:Nat,D.ato q d=(H:Int):=⟨(D.ato q d).toNat,by have:=m5.t0;omega⟩;have A1:H<n:=by have:=m5.t1;have:=X.out;omega
    have q7:H<D.n:=by have:=X.out;omega
    have A5:(H:Int)<(n:Int):=by omega
    have z9:(0:Int)<=(H:Int):=by omega
    rw[l0] at t3;have c0:=(N.out.hb.cell (p:=⟨BB q,O q+d*4,none⟩) a9).trans t0;have c1:=(N.out.hb.cell (p:=⟨BB q,O q+d*4+1,none⟩) a9).trans t1;have c2:=(N.out.hb.cell (p:=⟨BB q,O q+d*4+2,none⟩) a9).trans t2;have c3:=(N.out.hb.cell (p:=⟨BB q,O q+d*4+3,none⟩) a9).trans t3;clear t0 t1 t2 t3 m5;have i5:∀ j,smS (s1.1 j):=by rw[c8];exact y4j (n5.out q) d r6.out
    have w0:=qh i5;clear i5;have r7:z4z D sel q (d+1) s0=if sel (D.ain q d) (D.aout q d)=true then (updS s1.1 H (z2e D.kind (s1.1 H) (D.aw q d) s1.2).1,(z2e D.kind (s1.1 H) (D.aw q d) s1.2).2) else s1:=by
     show y6r D sel q d (z4z D sel q d s0)=_;unfold y6r;rw[<- c8,l0,Int.toNat_natCast]
    have d5:=qh r7;clear r7 c8 l0;obtain⟨ai,v0⟩:=exq (D.ain q d);obtain⟨ao,i6⟩:=exq (D.aout q d);obtain⟨aw,n7⟩:=exq (D.aw q d);have s5:smS aw:=by rw[n7];exact n5.out q d
    have y8:=qh s5;clear s5;rw[<- v0] at c0 d5;rw[<- i6] at c1 d5;rw[<- n7] at c2 d5;clear v0 i6 n7;obtain⟨w5,a8⟩:=exq (wr.alloc (.cells #[.int .i64 ai,.int .i64 ao,.string aw,.int .i64 (H:Int)] 59));obtain⟨ab,k9⟩:=exq (wr.heap.size);have W:Fr (fun _=>False) wr w5:=by rw[a8];exact Fr.alloc _ _
    have s6:w5.heap[ab]?=some (.cells #[.int .i64 ai,.int .i64 ao,.string aw,.int .i64 (H:Int)] 59 (0,0)):=by rw[a8,k9];exact heap_alloc_new wr _
    have I:=s7.out w5 trivial ai ao aw (H:Int);have b5:BoxM w5 B D (.slice (some ⟨b,c,none⟩) n s):=(W.block _ m.out.lt (fun e=>e)).trans m.out;have a3:=qh (N.out.keep W);clear W N;have R:=qh b5;clear b5 m;have j1:=qh s6;clear s6;have HC:=qh I;clear I
    go_wp2_with fail
    rw[<- a8,<- k9];clear a8 k9 c0 c1 c2 c3;refine HC.out.mono ?_;rintro r w6 ⟨rfl,g8⟩;have b6:BoxM w6 B D (.slice (some ⟨b,c,none⟩) n s):=(g8.block _ R.out.lt).trans R.out;have o8:=(g8.block ab (lt_of_block j1.out)).trans j1.out;have f1:=qh (a3.out.keep (Fr.of_below g8));clear g8 a3 HC;have a2:=qh b6;clear b6 R;have n6:=qh o8;clear o8 j1;cases g7:sel ai ao
    ·have l1:=qh (d5.out.trans (if_neg (by rw[g7];simp)));clear g7 d5;go_wp2;go_roundw
     case rel=>exact⟨d+1,by omega,by go_num,by rw[l1.out];exact f1.out,a2.out⟩
     simp[intOf];omega
    have l1:=qh (d5.out.trans (if_pos g7));clear g7 d5;obtain⟨wd,d4⟩:=exq (w6.drew);have b8:Fr (fun _=>False) w6 wd:=by rw[d4];exact(Fr.refl _ _).drew
    have d0:=(b8.block ab (lt_of_block n6.out) (fun e=>e)).trans n6.out;have T:BoxM wd B D (.slice (some ⟨b,c,none⟩) n s):=(b8.block _ a2.out.lt (fun e=>e)).trans a2.out;have a4:=qh (f1.out.keep b8);clear b8 f1;have l:wd.cell? ⟨ab,3,none⟩=some (.int .i64 (H:Int))/\wd.cell? ⟨ab,2,none⟩=some (.string aw)/\wd.cell? ⟨lb,H,none⟩=some (.string (s1.1 H)):=⟨cellOf d0 3 rfl,cellOf d0 2 rfl,a4.out.rl.cell q7⟩;have e3:=qh d0;clear d0 n6;have S:=qh T;clear T a2;have o3:=qh (y0c (s1.1 H) aw wd a4.out.sc (w0.out H) y8.out (o6.out.below a4.out.hb nlr))
    go_wp2_with fail
    refine z0e (fun wk=>wk.cell? ⟨ab,3,none⟩=some (.int .i64 (H:Int))/\wk.cell? ⟨ab,2,none⟩=some (.string aw)/\wk.cell? ⟨lb,H,none⟩=some (.string (s1.1 H))) 13 (by kernel_rfl) ?_;rw[<- d4];clear d4;refine z0c.tm 0 l ?_;refine z0c.tm 1 l ?_;refine z0c.tm 2 l ?_;refine z0c.tm 3 l ?_;refine z0c.tm 4 l ?_;refine z0c.tm 5 l ?_;refine z0c.tm 6 l ?_;refine z0c.tm 7 l ?_;refine z0c.tm 8 l ?_;refine z0c.tm 9 l ?_;refine z0c.tm 10 l ?_
    try simp only[Act.put,tryL]
    refine z0c.on 11 fun K hK=>?_;go_simp;refine o3.out.mono ?_;rintro r w7 ⟨rfl,v5,f7⟩;have t9:B≠o:=z3.out;have i3:BoxM w7 B D (.slice (some ⟨b,c,none⟩) n s):=(f7.block _ S.out.lt t9).trans S.out;have b3:=qh (a4.out.stepped f7 v5);have j7:ab≠o:=fun e=>by
     have E:=e3.out;have h2:=a4.out.sc;unfold Scl at h2;rw[e,h2] at E;simp at E
    have g5:w7.cell? ⟨ab,3,none⟩=some (.int .i64 (H:Int))/\w7.cell? ⟨ab,2,none⟩=some (.string aw)/\w7.cell? ⟨lb,H,none⟩=some (.string (s1.1 H)):=⟨f7.cell l.1 j7,f7.cell l.2.1 j7,b3.out.rl.cell q7⟩;have fz:=b3.out.rl.frozen H;have e6:=qh i3;clear i3 S;refine hK.out _ _ (.inr g5) ?_;clear hK K l o3 a4 v5 f7 t9 j7 e3
    try simp only[Act.put,tryL]
    refine z0c.tm 12 g5 ?_
    try simp only[Act.put,tryL]
    have g0:=g5.2.2;refine z0c.on 13 fun K hK=>?_;go_simp;refine hK.out _ _ (.inl rfl) (z0c.dn ?_);clear hK K g5;have q9:lb≠B:=fun e=>z0h b3.out.rl (show w7.heap[B]?=_ from e6.out) (by decide) e;have i7:BoxM (w7.setCell ⟨lb,H,none⟩ (.string (z2e D.kind (s1.1 H) aw s1.2).1)) B D (.slice (some ⟨b,c,none⟩) n s):=by
     unfold BoxM;rw[blk_setCell_other _ _ _ _ (fun e=>q9 e.symm)];exact e6.out
    have p6:=qh (b3.out.put H (z2e D.kind (s1.1 H) aw s1.2).1);have o7:=qh i7;clear i7 q9 e6 b3 fz g0;go_wp2;go_roundw
    case rel=>exact⟨d+1,by omega,by go_num,by rw[l1.out];exact p6.out,o7.out⟩
    simp[intOf];omega
   have e9:d=D.na q:=by omega
   have l4:¬ ((d:Int)<(D.na q:Int)):=by omega
   rw[e9] at c8;have z5:=qh (c8.trans u7.out.symm);clear c8 e9;have U:=N.out;rw[z5.out] at U;have h9:=qh U;clear U N;obtain⟨w5,a8⟩:=exq (wr.alloc (.cells #[.slice (some ⟨lb,0,none⟩) n n] 79));have W:Fr (fun _=>False) wr w5:=by rw[a8];exact Fr.alloc _ _
   have b4:w5.cell? ⟨wr.heap.size,0,none⟩=some (.slice (some ⟨lb,0,none⟩) n n):=by rw[a8];exact z5a wr _ _ 0 _ rfl
   have b5:BoxM w5 B D (.slice (some ⟨b,c,none⟩) n s):=(W.block _ m.out.lt (fun e=>e)).trans m.out;have a3:=qh (h9.out.keep W);clear W h9;have R:=qh b5;clear b5 m;have z7:=qh b4;clear b4;obtain⟨i0,y3,A4,f0,l5⟩:=info_parts y3s;have d2:=a3.out.own;rw[a8] at d2;have u0:=qh d2;clear d2;have z2:q+1<=60:=by omega
   go_wp2_with (at_builtin;refine wpList_append_fits _ rfl (.tmp 93) (.tmp 95) 75 rfl w.heap.size 79 i0 1 underlying75 y3 f0 gR q 60 _ rfl u0.out ⟨wr.heap.size,0,none⟩ 1 1 [.slice (some ⟨lb,0,none⟩) n n] rfl rfl (cell_one_new _ _ _) (fun u hu=>by rw[List.mem_singleton.1 hu];rfl) z2 ?_;intro w6 d1 P)
   rw[<- a8] at P;rw[X.out] at d1;have e9:=a3.out.done d1 P;have v3:gR≠B:=by
    obtain⟨cs,hg⟩:=z9d a3.out.own;intro e;have E:=R.out;unfold BoxM at E;rw[<- e,hg] at E;simp at E
   have b6:BoxM w6 B D (.slice (some ⟨b,c,none⟩) n s):=by
    unfold BoxM;rw[P.block B R.out.lt (by simp;exact fun e=>v3 e.symm)];exact R.out
   have y2:=qh e9;clear e9 d1 P v3;have a2:=qh b6;clear b6;go_wp2;go_roundw
   case rel=>exact⟨q+1,_,by omega,by go_num,by go_num,y2.out,a2.out⟩
   simp[intOf];omega
  have l4:¬ ((q:Int)<(n:Int)):=by omega
  have h3:q=n:=by omega
  subst h3;have e2:Mt none wr (.slice (some ⟨gR,0,none⟩) q 60) q (fun _=>q) (smat D sel):=by
   have h:=HI.out;have e:=X.out;rw[e] at h;have h2:=h.mt (by omega);rw[<- e] at h2;exact h2
  have k5:=HI.out.sc.c5;have k0:=m.out.c0;have v2:=v5z (k0:=D.kind) wr (show q<=100 by omega) e2 (fun i j=>u2k (n5.out i) j) (o6.out.below HI.out.hb nlr);have p9:=qh v2;clear v2 e2;obtain⟨e,he⟩:=exq (serr D sel q);rw[<- he] at k5;have HE:=qh he;clear he;by_cases j2:e=0
  rotate_left
  ·have z8:¬ ((e:Int)=0):=by omega
   have x6:=qh j2;clear j2;go_wp2;go_ret;have E:=x6.out;rw[HE.out,X.out] at E;exact⟨HI.out.hb,o,_,none,_,rfl,a7.out,HI.out.sc,rfl,.inr (.inr ⟨e1.out,by rw[X.out];exact E,rfl,.inr (.inl E)⟩)⟩
  subst j2
  go_wp2_with fail
  refine p9.out.mono ?_;rintro r w7 ⟨j8,hr⟩;have a6:Scl w7 o D (.slice (some ⟨b,c,none⟩) q s) (.slice none 0 0) 0:=by
   have E:=HI.out.sc;rw[<- HE.out] at E;unfold Scl at E ⊢;rw[j8.block o HI.out.sc.lt];exact E
  have h7:=HI.out.hb.trans (j8.mono HI.out.hb.size);have o5:serr D sel D.n=0:=by rw[<- X.out];exact HE.out.symm
  have f4:=a6.fz 4;have f5:=a6.fz 5;have c4:=a6.c4;have c5:=a6.c5;have r0:=qh o5;clear o5 j8;have e5:=qh a6;clear a6;have d6:=qh h7;clear h7 HI p9 k5 k0
  rcases hr with ⟨x8,_⟩|⟨h6,_⟩|⟨_,k,M,hk,y0,hM,_,x3⟩
  ·exfalso
   obtain⟨k,hk⟩:=HV.out.kk;have E:=u2p HV.out hk r0.out;rw[<- X.out] at E;exact x8 ⟨HV.out.kind,E⟩
  ·omega
  have HK:=qh hk;clear hk y0;have HM:=qh hM;clear hM
  rcases x3 with ⟨v,Y,rfl,e2,p8⟩|⟨rfl,v7⟩
  ·obtain⟨av,cv,z4⟩:=e2.shape;subst z4;have x5:=qh e2;clear e2;have u6:=qh p8;clear p8;obtain⟨w8,d3⟩:∃ w8,w8=(w7.setCell ⟨o,4,none⟩ (.slice av q cv)).setCell ⟨o,5,none⟩ (.int .i64 0):=⟨_,rfl⟩;have e7:Fr (fun q=>q=o) w7 w8:=by
    rw[d3];exact((Fr.refl (fun q=>q=o) w7).set (p:=⟨o,4,none⟩) (.inl rfl) _).set (p:=⟨o,5,none⟩) (.inl rfl) _
   have b1:Scl w8 o D (.slice (some ⟨b,c,none⟩) q s) (.slice av q cv) 0:=by
    have E:=e5.out;rw[d3];unfold Scl at E ⊢;simp[World.setCell,Array.getElem?_modify,E]
   have g4:=qh e7;clear e7;have d9:=qh b1;clear b1;go_wp2;go_ret;rw[<- d3];have u2:=x5.out.later e5.out d9.out g4.out.gbc (.inr rfl) (fun i _=>by omega);refine⟨d6.out.trans (g4.out.below d6.out.size (fun q e=>by rw[e];exact a7.out)),o,_,some Y,0,rfl,a7.out,d9.out,?_,.inr (.inl ⟨e1.out,by have:=X.out;omega,rfl,Y,rfl,fun k' y7 i j hi hj=>?_⟩)⟩
   ·rw[<- X.out];exact⟨u2,fun i j hi hj=>by have E:=(u6.out i j hi hj).1;unfold smS;omega⟩
   obtain rfl:k'=k:=Subtype.ext (y7.trans HK.out.symm);rw[<- X.out] at hi hj ⊢;have E:=(u6.out i j hi hj).2 rfl;have h2:CSR.starM M q i j=CSR.starM (sils (rmOf k' D) sel) q i j:=CSR.starM_congr (fun i j hi hj=>by
    rw[HM.out];exact(x3c HV.out HK.out r0.out (by rw[<- X.out];exact hi) (by rw[<- X.out];exact hj)).val) i j hi hj
   rw[<- h2];exact E
  have x7:=qh v7;clear v7;obtain⟨w8,d3⟩:∃ w8,w8=(w7.setCell ⟨o,4,none⟩ (.slice none 0 0)).setCell ⟨o,5,none⟩ (.int .i64 2):=⟨_,rfl⟩;have e7:Fr (fun q=>q=o) w7 w8:=by
   rw[d3];exact((Fr.refl (fun q=>q=o) w7).set (p:=⟨o,4,none⟩) (.inl rfl) _).set (p:=⟨o,5,none⟩) (.inl rfl) _
  have b1:Scl w8 o D (.slice (some ⟨b,c,none⟩) q s) (.slice none 0 0) 2:=by
   have E:=e5.out;rw[d3];unfold Scl at E ⊢;simp[World.setCell,Array.getElem?_modify,E]
  have g4:=qh e7;clear e7;have d9:=qh b1;clear b1;go_wp2;go_ret;rw[<- d3];refine⟨d6.out.trans (g4.out.below d6.out.size (fun q e=>by rw[e];exact a7.out)),o,_,none,2,rfl,a7.out,d9.out,rfl,.inr (.inr ⟨e1.out,by omega,rfl,.inr (.inr ⟨k,HK.out,?_⟩)⟩)⟩;rw[<- X.out,<- HM.out];exact x7.out
end
section
open Go.RowKit Go.Deep
def WgtX (D:MD) (na:Nat) (x:Nat->Int) (nb:Nat) (y:Nat->Int) (w:World) (r:Ending) (w':World):Prop :=
 Below w.heap.size w w'/\((VM D/\isWord na x=true/\isWord nb y=true/\∃ st e0,SilOk D silB st e0/\r=.returned (.tuple #[.string (wgtG D st e0 na x nb y).1,.int .i64 ((wgtG D st e0 na x nb y).2:Int)])) \/
  (¬ (VM D/\isWord na x=true/\isWord nb y=true)/\r=.returned (.tuple #[.string ⟨#[]⟩,.int .i64 1])))
theorem y9q:(prog.info? 102).map (fun i=>(i.zero,i.size,i.bytes))=some (some (.slice none 0 0),1,24):=by kernel_rfl
theorem Bx.ne_scl {w:World} {b d e:Nat} {t:TypeId} {v:Value} {D:MD} {sv star:Value} (h:Bx w b t v) (c:Scl w d D sv star e):b≠d:=by
 rintro rfl;unfold Scl at c;unfold Bx at h;rw[h] at c;simp at c
def ixOf (v:Value) (w:World):Nat:=match v with | .pointer (some a)=>(match w.cell? a with|some (.int _ i)=>i.toNat|_=>0)|_=>0
theorem y8u {w:World} {b i:Nat} (h:w.cell? ⟨b,0,none⟩=some (.int .i64 (i:Int))):ixOf (.pointer (some ⟨b,0,none⟩)) w=i:=by
 unfold ixOf;simp[h]
structure WG (w0 wo w:World) (cb c8 xb yb:Nat) (D:MD) (sv stv xv yv:Value) (e:Nat):Prop where
 hb:Below w0.heap.size w0 w
 gs:wo.grownBy w (some cb)
 sc:Scl w cb D sv stv e
 k8:Bx w c8 98 (.pointer (some ⟨cb,0,none⟩))
 kx:Bx w xb 25 xv
 ky:Bx w yb 25 yv
 lc:w0.heap.size<=cb
 lo:w0.heap.size<=wo.heap.size
namespace WG
variable {w0 wo w w':World} {cb c8 xb yb:Nat} {D:MD} {sv stv xv yv:Value} {e:Nat}
theorem n8 (h:WG w0 wo w cb c8 xb yb D sv stv xv yv e):c8≠cb:=by rintro rfl;have d:=h.sc;have c:=h.k8;unfold Scl at d;unfold Bx at c;rw[d] at c;simp at c
theorem nx (h:WG w0 wo w cb c8 xb yb D sv stv xv yv e):xb≠cb:=by rintro rfl;have d:=h.sc;have c:=h.kx;unfold Scl at d;unfold Bx at c;rw[d] at c;simp at c
theorem ny (h:WG w0 wo w cb c8 xb yb D sv stv xv yv e):yb≠cb:=by rintro rfl;have d:=h.sc;have c:=h.ky;unfold Scl at d;unfold Bx at c;rw[d] at c;simp at c
theorem gs' {C:Nat->Prop} (h:WG w0 wo w cb c8 xb yb D sv stv xv yv e) (hf:Fr C w w') (i:∀ q,C q->q=cb\/wo.heap.size<=q):wo.grownBy w' (some cb) :=
 ⟨hf.os.trans h.gs.os,hf.tape.trans h.gs.tape,hf.output.trans h.gs.output,Nat.le_trans h.gs.size hf.size,fun q d c=>(hf.block q (Nat.lt_of_lt_of_le d h.gs.size) (fun g=>(i q g).elim (fun e=>c (by rw[e])) (fun e=>by omega))).trans (h.gs.block q d c)⟩
theorem kept {C:Nat->Prop} (h:WG w0 wo w cb c8 xb yb D sv stv xv yv e) (hf:Fr C w w') (g:¬ C cb) (j:¬ C c8) (i:¬ C xb) (k:¬ C yb) (d:∀ q,C q->wo.heap.size<=q):WG w0 wo w' cb c8 xb yb D sv stv xv yv e :=
 ⟨h.hb.trans (hf.below h.hb.size (fun q c=>Nat.le_trans h.lo (d q c))),h.gs' hf (fun q c=>.inr (d q c)),h.sc.kept hf g,h.k8.kept hf j,h.kx.kept hf i,h.ky.kept hf k,h.lc,h.lo⟩
theorem stepped {g n e':Nat} {F:Nat->Value} (h:WG w0 wo w cb c8 xb yb D sv stv xv yv e) (hf:Fr (fun q=>q=cb\/q=g) w w') (l:Scl w' cb D sv stv e') (j:w.rowIs g 9 n F) (d:wo.heap.size<=g):WG w0 wo w' cb c8 xb yb D sv stv xv yv e':=by
 have i:∀ q,q≠cb->q≠g->¬ (q=cb\/q=g):=fun q a b c=>c.elim a b;exact⟨h.hb.trans (hf.below h.hb.size (fun q k=>by rcases k with rfl|rfl;exact h.lc;exact Nat.le_trans h.lo d)),h.gs' hf (fun q k=>k.imp (fun e=>e) (fun e=>by rw[e];exact d)),l,h.k8.kept hf (i _ h.n8 (z0h j h.k8 (by decide)).symm),h.kx.kept hf (i _ h.nx (z0h j h.kx (by decide)).symm),h.ky.kept hf (i _ h.ny (z0h j h.ky (by decide)).symm),h.lc,h.lo⟩
theorem rested {e':Nat} (h:WG w0 wo w cb c8 xb yb D sv stv xv yv e) (hf:Fr (fun q=>q=cb) w w') (d:Scl w' cb D sv stv e'):WG w0 wo w' cb c8 xb yb D sv stv xv yv e' :=
 ⟨h.hb.trans (hf.below h.hb.size (fun q c=>by rw[c];exact h.lc)),h.gs' hf (fun q c=>.inl c),d,h.k8.kept hf h.n8,h.kx.kept hf h.nx,h.ky.kept hf h.ny,h.lc,h.lo⟩
end WG
theorem VR.rested {w K:World} {B X:Nat} {g:Bool->Nat} {m n:Nat} {R:Bool->Nat->Option Nat} {S:Bool->Nat->Option VV} {b:Bool} {j rv p:Nat} {x v:VV} (h:VR w B g m n R S) (Z:j<m) (hr:R b j=some rv) (hs:S b j=some v) (hf:Fr (fun q=>q=X) w K)
  (G:∀ b,g b≠X) (Q:∀ b j r,j<m->R b j=some r->r≠X) (hx:K.rowIs p 9 n (fun q=>.string (x q))) (T:∀ q,smS (x q)) (D:p=rv\/w.heap.size<=p) (hB:B<=w.heap.size) :
  VR (K.setCell ⟨g b,j,none⟩ (vrV n (some p))) B g m n (fun b' j'=>if b'=b/\j'=j then some p else R b' j') (updV S b j x):=by
 have N:∀ b' j' c,j' < m->R b' j'=some c->c<w.heap.size:=fun b' j' c i d=>by
  cases C:S b' j' with
  | none=>have:=(h.non b' j' i).2 C;rw[d] at this;cases this
  | some x0=>exact(h.row b' j' c x0 i d C).1.lt
 have W:B<=p:=by
  rcases D with e|e
  ·rw[e];exact(h.row b j rv v Z hr hs).2
  omega
 have o:∀ b' j' c,j' < m->¬ (b'=b/\j'=j)->R b' j'=some c->c≠p:=fun b' j' c i Y d e=>by
  rcases D with k|k
  ·exact Y (h.sep b' j' b j rv i Z (by rw[d,e,k]) hr)
  have:=N b' j' c i d;omega
 have P:∀ b',g b'≠p:=fun b' e=>y8c ((hf.row (h.top b') (G b'))) hx (by decide) e;have s:∀ b',K.rowIs (g b') 102 m (fun j=>vrV n (R b' j)):=fun b'=>hf.row (h.top b') (G b');refine⟨fun b'=>?_,h.gne,h.low,fun b' j' i=>?_,fun b' j' c L i d l=>?_,fun U O J I c z H d l=>?_,fun b' j' L d=>?_⟩
 ·by_cases e:b'=b
  ·subst e;refine((s b').set j _).congr (fun j' _=>?_);by_cases e:j'=j
   ·rw[if_pos e,if_pos ⟨rfl,e⟩]
   rw[if_neg e,if_neg (fun h=>e h.2)]
  refine((s b').of_block (blk_setCell_other _ _ _ _ (fun k=>?_))).congr (fun j' _=>by rw[if_neg (fun h=>e h.1)]);have E:=h.gne;have u:g b'=g b:=k;cases b'<;>cases b<;>first|exact e rfl|exact E u|exact E u.symm
 ·unfold updV;by_cases e:b'=b/\j'=j
  ·rw[if_pos e,if_pos e];simp
  rw[if_neg e,if_neg e];exact h.non b' j' i
 ·by_cases e:b'=b/\j'=j
  ·rw[if_pos e] at d;cases d;unfold updV at l;rw[if_pos e] at l;cases l;exact⟨hx.setOther (a:=⟨g b,j,none⟩) (fun k=>P b k.symm) _,W⟩
  rw[if_neg e] at d;unfold updV at l;rw[if_neg e] at l;have E:=h.row b' j' c L i d l;exact⟨(hf.row E.1 (Q b' j' c i d)).setOther (a:=⟨g b,j,none⟩) (fun k=>h.topne i d l k.symm) _,E.2⟩
 ·by_cases F:U=b/\O=j
  ·rw[if_pos F] at d;cases d;by_cases k:J=b/\I=j
   ·exact⟨F.1.trans k.1.symm,F.2.trans k.2.symm⟩
   rw[if_neg k] at l;exact absurd rfl (o J I _ H k l)
  rw[if_neg F] at d;by_cases k:J=b/\I=j
  ·rw[if_pos k] at l;cases l;exact absurd rfl (o U O _ z F d)
  rw[if_neg k] at l;exact h.sep U O J I c z H d l
 unfold updV at d;by_cases e:b'=b/\j'=j
 ·rw[if_pos e] at d;cases d;exact T
 rw[if_neg e] at d;exact h.sm b' j' L d
theorem u4k:TstA 79 #[] silB (fun _=>True) :=
 ⟨x1d,fun c _ i o s t=>by
  have h:=x5s c i o s t;rw[show ∀ a:Value,(#[a]++#[]:Array Value)=#[a] from fun _=>rfl];exact h⟩
end
end Go.Proofs.YteappjogmnogcaaGreatDoor
