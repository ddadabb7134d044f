/- Parts of a proof: WgE WgH RegI W8A W8B W8C W8D W8V W8E R8M SidP SidL DomL DomW Gen OwM SymD. -/
import Derived.Test.YteappjogmnogcaaGreatDoorV06
import Derived.Test.YteappjogmnogcaaGreatDoorV07
import Derived.Test.YteappjogmnogcaaGreatDoorV08
import Derived.Deep.RegionHeld2
import Derived.WalkKit
import Derived.OwnWalk
import Derived.Test.YteappjogmnogcaaGreatDoorV05
namespace Go.Proofs.YteappjogmnogcaaGreatDoor
set_option maxRecDepth 100000
set_option linter.unusedSimpArgs false
set_option linter.unusedVariables false
set_option linter.unusedSectionVars false
set_option maxHeartbeats 16000000
open Go Tryz
section
open Go.RowKit Go.Deep
theorem Scl.same {w m:World} {k:Nat} {D:MD} {sv st g:Value} {e e':Nat} (d:Scl w k D sv st e) (c:Scl m k D sv g e') {i:Nat} {x:Value} (h:w.cell? ⟨k,i,none⟩=some x) (l:∀ j,x≠.int .i64 j) (o:st=g\/x≠st):m.cell? ⟨k,i,none⟩=some x:=by
 unfold Scl at d c
 match i,h with
 | 0,h=>simp[World.cell?,d] at h;exact absurd h.symm (l _)
 | 1,h=>simp[World.cell?,d] at h;exact absurd h.symm (l _)
 | 2,h=>simp[World.cell?,d] at h;simp[World.cell?,c,h]
 | 3,h=>simp[World.cell?,d] at h;simp[World.cell?,c,h]
 | 4,h =>
  simp[World.cell?,d] at h
  rcases o with e|e
  ·subst e;simp[World.cell?,c,h]
  exact absurd h.symm e
 | 5,h=>simp[World.cell?,d] at h;exact absurd h.symm (l _)
 | i+6,h=>simp[World.cell?,d] at h
theorem Mt.later {w B:World} {C:Nat} {D:MD} {sv st A v:Value} {e e' n:Nat} {L:Nat->Nat} {X:Nat->Nat->ByteArray} (h:Mt none w v n L X) (O:Scl w C D sv st e) (F:Scl B C D sv A e') (E:w.grownBy B (some C)) (K:st=A\/st=.slice none 0 0) (J:∀ i,i<n->0<L i):Mt none B v n L X:=by
 have I:∀ b o x,w.cell? ⟨b,o,none⟩=some x->(∀ j,x≠.int .i64 j)->x≠.slice none 0 0->B.cell? ⟨b,o,none⟩=some x:=fun b o x k l m=>by
  by_cases e:b=C
  ·subst e;exact O.same F k l (K.imp (fun e=>e) (fun e=>by rw[e];exact m))
  exact E.cell k (by simpa using e)
 obtain⟨R,P,p⟩:=h;have g:∀ i,i<n->∃ b d c,R i=.slice (some ⟨b,d,none⟩) (L i) c/\b<w.heap.size/\L i<=c/\c<=maxLen/\∀ j,j<L i->w.cell? ⟨b,d+j,none⟩=some (.string (X i j)):=fun i hi=>by
  rcases p i hi with ⟨S,_⟩|⟨b,d,c,s,k,l,m,u⟩
  ·have:=J i hi;omega
  exact⟨b,d,c,s,k.1,l,m,u⟩
 refine⟨R,?_,fun i hi=>?_⟩
 ·rcases P with h|⟨b,d,c,s,k,l,m,u⟩
  ·exact .inl h
  refine .inr ⟨b,d,c,s,⟨Nat.lt_of_lt_of_le k.1 E.size,by simp⟩,l,m,fun i hi=>?_⟩;obtain⟨Q,H,G,z,_⟩:=g i hi;refine I _ _ _ (u i hi) (fun j=>by rw[z];simp) (by rw[z];simp)
 obtain⟨b,d,c,s,k,l,m,u⟩:=g i hi;exact .inr ⟨b,d,c,s,⟨Nat.lt_of_lt_of_le k E.size,by simp⟩,l,m,fun j N=>I _ _ _ (u j N) (fun j=>by simp) (by simp)⟩
def StV (w:World) (stv:Value) (n:Nat) (st:StarO):Prop:=match st with
 | none=>stv=.slice none 0 0
 | some S=>Mt none w stv n (fun _=>n) S/\∀ q p,q<n->p<n->smS (S q p)
theorem StV.later {w m:World} {k:Nat} {D:MD} {sv c:Value} {e e' n:Nat} {st:StarO} (h:StV w c n st) (z:Scl w k D sv c e) (l:Scl m k D sv c e') (o:w.grownBy m (some k)):StV m c n st:=by
 cases st with
 | none=>exact h
 | some S =>
  by_cases A:n=0
  ·subst A;obtain⟨⟨R,C,_⟩,p⟩:=h
   rcases C with j|⟨b,d,g,B,u,s,j,_⟩
   ·exact⟨⟨R,.inl j,fun i hi=>by omega⟩,p⟩
   exact⟨⟨R,.inr ⟨b,d,g,B,⟨Nat.lt_of_lt_of_le u.1 o.size,by simp⟩,s,j,fun i hi=>by omega⟩,fun i hi=>by omega⟩,p⟩
  exact⟨h.1.later z l o (.inl rfl) (fun i _=>by omega),h.2⟩
theorem x2a {k:Int} {S:Nat->Nat->ByteArray} {v:Nat->ByteArray} {q:Nat} (hv:smS (v q)):∀ (p:Nat) {s:WS},(∀ j,smS (s.1 j))->∀ j,smS ((rstP k S v q p s).1 j)
 | 0,_,h=>h
 | p+1,s,h=>fun j=>by
  have ih:=x2a (S:=S) (k:=k) hv p h;unfold rstP;split
  ·exact ih j
  show smS (updS _ p _ j);unfold updS;split
  ·exact y2x (z6u hv)
  exact ih j
theorem x3z {k:Int} {S:Nat->Nat->ByteArray} {v:Nat->ByteArray} {n:Nat} (hv:∀ q,smS (v q)):∀ (q:Nat) {s:WS},(∀ j,smS (s.1 j))->∀ j,smS ((rstQ k S v n q s).1 j)
 | 0,_,h=>h
 | q+1,s,h=>x2a (hv q) n (x3z hv q h)
theorem y2u {k:Int} {n:Nat} {st:StarO} {v:Nat->ByteArray} {e:Nat} (c:∀ q,smS (v q)):∀ j,smS ((z3w k n st v e).1 j):=by
 cases st with
 | none=>exact c
 | some S =>
  show ∀ j,smS ((if e≠0 then (v,e) else rstQ k S v n n (z1f,e)).1 j)
  split
  ·exact c
  exact x3z c n z7b
def RstE (cb rb:Nat) (D:MD) (sv stv:Value) (st:StarO) (v:Nat->ByteArray) (e:Nat) (w:World) (r:Ending) (w':World):Prop :=
 ∃ r',r=.returned (.slice (some ⟨r',0,none⟩) D.n D.n)/\w'.rowIs r' 9 D.n (fun q=>.string ((z3w D.kind D.n st v e).1 q))/\Scl w' cb D sv stv (z3w D.kind D.n st v e).2/\(r'=rb\/w.heap.size<=r')/\Fr (fun q=>q=cb) w w'
end
section
def y8r (D:MD) (sel:Int->Int->Bool) (q d:Nat) (s:WS):WS :=
 if sel (D.ain q d) (D.aout q d)=true then (updS s.1 (D.ato q d).toNat (z2e D.kind (s.1 (D.ato q d).toNat) (D.aw q d) s.2).1,(z2e D.kind (s.1 (D.ato q d).toNat) (D.aw q d) s.2).2) else s
def z5d (D:MD) (sel:Int->Int->Bool) (q:Nat):Nat->WS->WS
 | 0,s=>s
 | d+1,s=>y8r D sel q d (z5d D sel q d s)
def zrC (k:Int):Nat->ByteArray:=fun _=>z0z k
def srow (D:MD) (sel:Int->Int->Bool) (q e:Nat):WS:=z5d D sel q (D.na q) (zrC D.kind,e)
def serr (D:MD) (sel:Int->Int->Bool):Nat->Nat
 | 0=>0
 | q+1=>(srow D sel q (serr D sel q)).2
def smat (D:MD) (sel:Int->Int->Bool) (q:Nat):Nat->ByteArray:=(srow D sel q (serr D sel q)).1
theorem y3k {D:MD} {sel:Int->Int->Bool} {q:Nat} (hw:∀ d,smS (D.aw q d)):∀ (d:Nat) {s:WS},(∀ j,smS (s.1 j))->∀ j,smS ((z5d D sel q d s).1 j)
 | 0,_,h=>h
 | d+1,s,h=>fun j=>by
  have ih:=y3k (sel:=sel) hw d h;show smS ((y8r D sel q d (z5d D sel q d s)).1 j);unfold y8r;split
  ·show smS (updS _ _ _ j);unfold updS;split
   ·exact y2x (hw d)
   exact ih j
  exact ih j
theorem v8x (k:Int):∀ j,smS (zrC k j):=fun _=>by
 unfold zrC smS;have:=z8q k;omega
theorem u2h {D:MD} {sel:Int->Int->Bool} {q:Nat} (c:∀ d,smS (D.aw q d)):∀ j,smS (smat D sel q j):=y3k c _ (v8x _)
theorem y1h {D:MD} {sel:Int->Int->Bool} {q:Nat}:∀ (d:Nat) {s:WS},(z5d D sel q d s).2=0->s.2=0
 | 0,_,h=>h
 | d+1,s,h=>by
  have h':(y8r D sel q d (z5d D sel q d s)).2=0:=h;unfold y8r at h';split at h'
  ·exact y1h d (z8d h')
  exact y1h d h'
theorem y5v {D:MD} {sel:Int->Int->Bool} {n:Nat} (h:serr D sel n=0):∀ q,q<=n->serr D sel q=0:=by
 induction n with
 | zero=>intro q c;rw[Nat.le_zero.1 c];exact h
 | succ n ih =>
  intro q c;by_cases e:q=n+1
  ·rw[e];exact h
  exact ih (y1h _ h) q (by omega)
open CSR
def sils {R:Type} [CSR R] (A:RM R) (sel:Int->Int->Bool) (q p:Nat):R:=sum (fun d=>if sel (A.ain q d) (A.aout q d)=true/\A.ato q d=p then A.aw q d else zero) (A.na q)
theorem y0m {R:Type} [CSR R] (A:RM R) (q p:Nat):sils A silB q p=sil A q p:=by
 unfold sils sil;refine sum_congr fun d _=>?_;unfold silB;simp only[Bool.and_eq_true,decide_eq_true_eq,and_assoc]
section
variable {D:MD} (hV:VM D) {k:KK} (hk:k.1=D.kind)
include hV hk
theorem x1w {sel:Int->Int->Bool} {q:Nat} (hq:q<D.n):∀ (d:Nat) {s:WS} {lv:Nat->RK k},d<=D.na q->(∀ p,p<D.n->Sv k (s.1 p) (lv p))->(z5d D sel q d s).2=0 ->
  ∀ p,p<D.n->Sv k ((z5d D sel q d s).1 p) (lv p+sum (fun d=>if sel ((rmOf k D).ain q d) ((rmOf k D).aout q d)=true/\(rmOf k D).ato q d=p then (rmOf k D).aw q d else zero) d)
 | 0,s,lv,_,h,_=>fun p hp=>by
  show Sv k (s.1 p) (lv p+zero);rw[a0];exact h p hp
 | d+1,s,lv,hd,h,he=>fun p hp=>by
  have hst:z5d D sel q (d+1) s=y8r D sel q d (z5d D sel q d s):=rfl;rw[hst] at he ⊢;have ih:=x1w hq (s:=s) (lv:=lv) (sel:=sel) d (by omega) h;generalize z5d D sel q d s=Z at he ih ⊢;have ha:=hV.arc q d hq (by omega);have ht:(D.ato q d).toNat<D.n:=by have:=ha.t0;have:=ha.t1;omega
  have hw:=z4v hk ha.wt;unfold y8r at he ⊢;by_cases hm:sel (D.ain q d) (D.aout q d)=true
  ·rw[if_pos hm] at he ⊢;have he':(z2e D.kind (Z.1 (D.ato q d).toNat) (D.aw q d) Z.2).2=0:=he;have hz:=z8d he';have ih:=ih hz;have hpl:=(y2v hk (.inr (ih _ ht)) hw he').2;show Sv k (updS Z.1 (D.ato q d).toNat _ p) (lv p+(sum _ d+(if sel (D.ain q d) (D.aout q d)=true/\(D.ato q d).toNat=p then wval k (D.aw q d) else zero)))
   unfold updS;by_cases e:p=(D.ato q d).toNat
   ·rw[if_pos e,if_pos ⟨hm,e.symm⟩,<- aA,e];exact hpl
   rw[if_neg e,if_neg (fun h=>e h.2.symm),a0];exact ih p hp
  rw[if_neg hm] at he ⊢;show Sv k _ (lv p+(sum _ d+(if sel (D.ain q d) (D.aout q d)=true/\(D.ato q d).toNat=p then wval k (D.aw q d) else zero)))
  rw[if_neg (fun h=>hm h.1),a0];exact ih he p hp
theorem x2f {sel:Int->Int->Bool} (d:serr D sel D.n=0) {q p:Nat} (g:q<D.n) (i:p<D.n):Sv k (smat D sel q p) (sils (rmOf k D) sel q p):=by
 have j:=y5v d q (by omega);have h:(srow D sel q (serr D sel q)).2=0:=y5v d (q+1) (by omega);have c:=x1w hV hk g (s:=(zrC D.kind,serr D sel q)) (lv:=fun _=>zero) (sel:=sel) (D.na q) nlr (fun p _=>by rw[<- hk];exact Sv.zero) h p i;rw[z0] at c;exact c
theorem u2w {sel:Int->Int->Bool} (d:serr D sel D.n=0):Sq D.kind D.n (fun _=>D.n) (smat D sel):=fun i hi=>⟨rfl,fun j g=>by
 have h:=x2f hV hk d hi g;have c:vprs D.kind (smat D sel i j)=some (sils (rmOf k D) sel i j).1:=(congrArg (fun z=>vprs z (smat D sel i j)) hk).symm.trans h.prs;unfold z0q;rw[c];rfl⟩
end
def NoSel (D:MD) (sel:Int->Int->Bool):Prop:=∀ q d,q<D.n->d<D.na q->sel (D.ain q d) (D.aout q d)=false
def SilOk (D:MD) (sel:Int->Int->Bool) (st:StarO) (e:Nat):Prop :=
 (NoSel D sel/\st=none/\e=0) \/
 (¬ NoSel D sel/\D.n<=60/\e=0/\∃ S,st=some S/\∀ k:KK,k.1=D.kind->∀ q p,q<D.n->p<D.n->Sv k (S q p) (starM (sils (rmOf k D) sel) D.n q p)) \/
 (¬ NoSel D sel/\e≠0/\st=none/\(60<D.n\/serr D sel D.n≠0\/∃ k:KK,k.1=D.kind/\¬ FitM D.n (fun i j=>wval k (smat D sel i j))))
theorem SilOk.nosil {D:MD} {sel:Int->Int->Bool} (h:NoSel D sel) (k:KK) (q p:Nat) (i:q<D.n):sils (rmOf k D) sel q p=zero:=by
 unfold sils;rw[sum_congr (g:=fun _=>zero) (fun d j=>?_),sum_zero];have l:sel (D.ain q d) (D.aout q d)=false:=h q d i j;exact if_neg (fun e=>by
  have c:sel (D.ain q d) (D.aout q d)=true:=e.1;rw[l] at c;cases c)
theorem SilOk.st {D:MD} {st:StarO} (h:SilOk D silB st 0) {k:KK} (m:k.1=D.kind):StOk k D st:=by
 rcases h with ⟨g,rfl,_⟩|⟨_,_,_,S,rfl,o⟩|⟨_,g,_⟩
 ·intro q p c d;rw[<- y0m];exact SilOk.nosil g k q p c
 ·intro q p c d;have l:=o k m q p c d;rw[starM_congr (M':=sil (rmOf k D)) (fun i j _ _=>y0m _ i j) q p c d] at l;exact l
 exact absurd rfl g
theorem SilOk.fit {D:MD} {sel:Int->Int->Bool} {st:StarO} {e:Nat} (h:SilOk D sel st e) (hn:D.n<=60) (c:serr D sel D.n=0) (hf:∀ k:KK,k.1=D.kind->FitM D.n (fun i j=>wval k (smat D sel i j))):e=0:=by
 rcases h with ⟨_,_,h⟩|⟨_,_,h,_⟩|⟨_,_,_,h⟩
 ·exact h
 ·exact h
 rcases h with h|h|⟨k,d,h⟩
 ·omega
 ·exact absurd c h
 exact absurd (hf k d) h
end
section
open Go.RowKit
section
variable {P:Program} {ops:Array Oper} {Q:Exit->Act->World->Prop}
end
end
section
open Go.RowKit Go.Deep
def addR (k:Int) (l:Nat->ByteArray) (t:Nat) (a b:ByteArray):WS :=
 if (z0g k a b).2≠0 then (l,(z0g k a b).2) else if (z1k k (l t) (z0g k a b).1).2=0 then (updS l t (z1k k (l t) (z0g k a b).1).1,0) else (l,(z1k k (l t) (z0g k a b).1).2)
def arcR (D:MD) (i o:Int) (v:Nat->ByteArray) (q k:Nat) (s:WS):WS:=if s.2≠0 then s else if D.ain q k=i/\D.aout q k=o then addR D.kind s.1 (D.ato q k).toNat (v q) (D.aw q k) else s
def y5p (D:MD) (i o:Int) (v:Nat->ByteArray) (q:Nat):Nat->WS->WS
 | 0,s=>s
 | k+1,s=>arcR D i o v q k (y5p D i o v q k s)
def rowR (D:MD) (i o:Int) (v:Nat->ByteArray) (q:Nat) (s:WS):WS:=if v q=z0z D.kind then s else y5p D i o v q (D.na q) s
def z7e (D:MD) (i o:Int) (v:Nat->ByteArray):Nat->WS->WS
 | 0,s=>s
 | q+1,s=>rowR D i o v q (z7e D i o v q s)
def zerR (k:Int):Nat->ByteArray:=fun _=>z0z k
def sumR (k:Int) (a b:Nat->ByteArray):Nat->WS
 | 0=>(fun _=>⟨#[]⟩,0)
 | i+1=>if (sumR k a b i).2≠0 then sumR k a b i else if (z1k k (a i) (b i)).2≠0 then ((sumR k a b i).1,(z1k k (a i) (b i)).2) else (updS (sumR k a b i).1 i (z1k k (a i) (b i)).1,0)
def finR (D:MD) (v:Nat->ByteArray):Nat->WS
 | 0=>(zerR D.kind,0)
 | q+1=>if (finR D v q).2≠0 then finR D v q else if D.fin q=⟨#[]⟩ then finR D v q else addR D.kind (finR D v q).1 0 (v q) (D.fin q)
theorem x1m {D:MD} {i o:Int} {v:Nat->ByteArray} {q:Nat} {s:WS} (h:s.2≠0):∀ k,y5p D i o v q k s=s
 | 0=>rfl
 | k+1=>by unfold y5p arcR;rw[x1m h k,if_pos h]
theorem v8h {D:MD} {i o:Int} {v:Nat->ByteArray} {q:Nat} {s:WS} (h:s.2≠0):rowR D i o v q s=s:=by unfold rowR;split;rfl;exact x1m h _
theorem x0d {D:MD} {i o:Int} {v:Nat->ByteArray} {s:WS} {m:Nat} (h:(z7e D i o v m s).2≠0):∀ d,z7e D i o v (m+d) s=z7e D i o v m s
 | 0=>rfl
 | d+1=>by show rowR D i o v (m+d) (z7e D i o v (m+d) s)=_;rw[x0d h d,v8h h]
theorem x0e {k:Int} {a b:Nat->ByteArray} {m:Nat} (h:(sumR k a b m).2≠0):∀ d,sumR k a b (m+d)=sumR k a b m
 | 0=>rfl
 | d+1=>by show (if (sumR k a b (m+d)).2≠0 then sumR k a b (m+d) else _)=_;rw[x0e h d,if_pos h]
theorem x0i {D:MD} {v:Nat->ByteArray} {m:Nat} (h:(finR D v m).2≠0):∀ d,finR D v (m+d)=finR D v m
 | 0=>rfl
 | d+1=>by show (if (finR D v (m+d)).2≠0 then finR D v (m+d) else _)=_;rw[x0i h d,if_pos h]
def BxM (w:World) (b:Nat) (D:MD) (sv:Value):Prop:=w.heap[b]?=some (.cells #[.int .i64 D.kind,.int .i64 D.start,.string D.lead,sv] 24 (0,0))
theorem BxM.kept {w c:World} {b:Nat} {D:MD} {sv:Value} {C:Nat->Prop} (h:BxM w b D sv) (hf:Fr C w c) (d:¬ C b):BxM c b D sv:=(hf.block b (lt_of_block h) d).trans h
end
section
open Go.RowKit Go.Deep
structure StI (w0 w:World) (mb vb lb:Nat) (D:MD) (sv:Value) (v l:Nat->ByteArray):Prop where
 bx:BxM w mb D sv
 rv:w.rowIs vb 9 D.n (fun j=>.string (v j))
 rl:w.rowIs lb 9 D.n (fun j=>.string (l j))
 be:Below w0.heap.size w0 w
 ll:w0.heap.size<=lb
 ml:mb≠lb
 vl:vb≠lb
theorem StI.upd {k w g:World} {i vb d:Nat} {D:MD} {sv:Value} {v l m:Nat->ByteArray} (h:StI k w i vb d D sv v l) (hf:Fr (fun q=>q=d) w g) (o:g.rowIs d 9 D.n (fun j=>.string (m j))):StI k g i vb d D sv v m :=
 ⟨h.bx.kept hf h.ml,hf.row h.rv h.vl,o,h.be.trans (hf.below h.be.size (fun c e=>by rw[e];exact h.ll)),h.ll,h.ml,h.vl⟩
end
section
open Go.RowKit Go.Deep
def endR (D:MD) (v:Nat->ByteArray):ByteArray × Nat:=if (finR D v D.n).2≠0 then (⟨#[]⟩,(finR D v D.n).2) else ((finR D v D.n).1 0,0)
end
section
open Go.RowKit Go.Deep
end
section
open Go.RowKit Go.Deep
theorem x0s (w:World) (o:Obj):Below w.heap.size w (w.alloc o):=blr.alloc nlr _
end
section
open Go.RowKit Go.Deep
abbrev TbR:=Nat->Nat->Nat->ByteArray
def updT (X:TbR) (a b:Nat) (v:Nat->ByteArray):TbR:=fun i j=>if i=a/\j=b then v else X i j
def X0R (D:MD):TbR:=fun i j=>if i=0/\j=0 then updS (zerR D.kind) D.start.toNat D.lead else zerR D.kind
def kR (D:MD) (na:Nat) (x:Nat->Int) (nb:Nat) (y:Nat->Int) (i j u v:Nat) (s:TbR × Nat):TbR × Nat :=
 if s.2≠0\/na<i+u\/nb<j+v then s
 else if (z7e D (if u=1 then x i else 0) (if v=1 then y j else 0) (s.1 i j) D.n (zerR D.kind,0)).2≠0 then (s.1,(z7e D (if u=1 then x i else 0) (if v=1 then y j else 0) (s.1 i j) D.n (zerR D.kind,0)).2)
 else if (sumR D.kind (s.1 (i+u) (j+v)) (z7e D (if u=1 then x i else 0) (if v=1 then y j else 0) (s.1 i j) D.n (zerR D.kind,0)).1 D.n).2≠0 then (s.1,(sumR D.kind (s.1 (i+u) (j+v)) (z7e D (if u=1 then x i else 0) (if v=1 then y j else 0) (s.1 i j) D.n (zerR D.kind,0)).1 D.n).2)
 else (updT s.1 (i+u) (j+v) (sumR D.kind (s.1 (i+u) (j+v)) (z7e D (if u=1 then x i else 0) (if v=1 then y j else 0) (s.1 i j) D.n (zerR D.kind,0)).1 D.n).1,0)
def mvR (D:MD) (na:Nat) (x:Nat->Int) (nb:Nat) (y:Nat->Int) (i j:Nat):Nat->TbR × Nat->TbR × Nat
 | 0,s=>s
 | 1,s=>s
 | k+1,s=>kR D na x nb y i j (k % 2) (k / 2) (mvR D na x nb y i j k s)
section
variable {D:MD} {na:Nat} {x:Nat->Int} {nb:Nat} {y:Nat->Int}
theorem u4z {i j u v:Nat} {s:TbR × Nat} (h:s.2≠0):kR D na x nb y i j u v s=s:=if_pos (.inl h)
theorem v4z {i j k:Nat} {s:TbR × Nat} (c:0<k):mvR D na x nb y i j (k+1) s=kR D na x nb y i j (k % 2) (k / 2) (mvR D na x nb y i j k s):=by
 cases k with
 | zero=>omega
 | succ k=>rfl
theorem x6h {i j k:Nat} {s:TbR × Nat} (h:(mvR D na x nb y i j k s).2≠0):∀ d,mvR D na x nb y i j (k+d) s=mvR D na x nb y i j k s
 | 0=>rfl
 | d+1=>by
  by_cases hk:0<k+d
  ·rw[<- Nat.add_assoc,v4z hk,x6h h d,u4z h]
  have:k=0/\d=0:=by omega
  rw[this.1,this.2];rfl
end
def smT (X:TbR):Prop:=∀ i j p,smS (X i j p)
theorem smT.upd {X:TbR} (h:smT X) {a b:Nat} {v:Nat->ByteArray} (c:∀ p,smS (v p)):smT (updT X a b v):=fun i j p=>by
 unfold updT;split
 ·exact c p
 exact h i j p
def dn (k jd q j:Nat):Prop:=q+1<k\/(q+1=k/\j<jd)
instance (k jd q j:Nat):Decidable (dn k jd q j):=inferInstanceAs (Decidable (_\/_))
structure TQ (w:World) (B g n1 n2 n k jd:Nat) (r:Nat->Nat) (s:Nat->Nat->Nat) (z:ByteArray):Prop where
 top:w.rowIs g 75 n1 (fun q=>if q<k then .slice (some ⟨r q,0,none⟩) n2 n2 else .slice none 0 0)
 mid:∀ q,q<k->w.rowIs (r q) 79 n2 (fun j=>if dn k jd q j then .slice (some ⟨s q j,0,none⟩) n n else .slice none 0 0)/\B<=r q
 rinj:∀ q q',q<k->q' < k->r q=r q'->q=q'
 vec:∀ q j,q<k->j<n2->dn k jd q j->w.rowIs (s q j) 9 n (fun _=>.string z)/\B<=s q j
 vinj:∀ q j q' j',q<k->j<n2->dn k jd q j->q' < k->j' < n2->dn k jd q' j'->s q j=s q' j'->q=q'/\j=j'
 base:B<=g
theorem u5w {w:World} {g h:Nat} {t i:TypeId} {n m:Nat} {F G:Nat->Value} (l:w.rowIs g t n F) (j:w.rowIs h i m G) (o:t≠i):g≠h:=fun e=>by
 obtain⟨c,d,_⟩:=l;obtain⟨p,k,_⟩:=j;rw[e,k] at d;simp at d;exact o d.2.symm
namespace TQ
variable {w w':World} {B g n1 n2 n k jd:Nat} {r:Nat->Nat} {s:Nat->Nat->Nat} {z:ByteArray}
theorem made (w:World) (d:B<=w.heap.size) (n1 n2 n:Nat) (z:ByteArray):TQ (w.alloc (.cells (madeCells #[.slice none 0 0] n1) 75)) B w.heap.size n1 n2 n 0 n2 (fun _=>0) (fun _ _=>0) z :=
 ⟨(World.rowIs_made w _ n1 _).congr (fun q _=>by rw[if_neg (Nat.not_lt_zero _)]),fun q c=>absurd c (Nat.not_lt_zero _),fun q _ c=>absurd c (Nat.not_lt_zero _),fun q _ c=>absurd c (Nat.not_lt_zero _),fun q _ _ _ c=>absurd c (Nat.not_lt_zero _),d⟩
end TQ
structure TW (w:World) (B g n1 n2 n:Nat) (r:Nat->Nat) (s:Nat->Nat->Nat) (X:TbR):Prop where
 top:w.rowIs g 75 n1 (fun q=>.slice (some ⟨r q,0,none⟩) n2 n2)
 mid:∀ q,q<n1->w.rowIs (r q) 79 n2 (fun j=>.slice (some ⟨s q j,0,none⟩) n n)/\B<=r q
 rinj:∀ q q',q<n1->q' < n1->r q=r q'->q=q'
 vec:∀ q j,q<n1->j<n2->w.rowIs (s q j) 9 n (fun p=>.string (X q j p))
theorem TQ.whole {w:World} {B g n1 n2 n:Nat} {r:Nat->Nat} {s:Nat->Nat->Nat} {k:Int} (h:TQ w B g n1 n2 n n1 n2 r s (z0z k)):TW w B g n1 n2 n r s (fun _ _=>zerR k) :=
 ⟨h.top.congr (fun q c=>by rw[if_pos c]),fun q c=>⟨(h.mid q c).1.congr (fun j d=>by rw[if_pos (by unfold dn;omega)]),(h.mid q c).2⟩,h.rinj,fun q j c d=>(h.vec q j c d (by unfold dn;omega)).1⟩
theorem TQ.lead {w:World} {B g n1 n2:Nat} {r:Nat->Nat} {s:Nat->Nat->Nat} {D:MD} {st:Nat} (h:TQ w B g n1 n2 D.n n1 n2 r s (z0z D.kind)) (C:D.start=(st:Int)) (o:0<n1) (m:0<n2):TW (w.setCell ⟨s 0 0,st,none⟩ (.string D.lead)) B g n1 n2 D.n r s (X0R D)/\B<=s 0 0:=by
 have d:=h.whole;have u:=d.vec 0 0 o m;have i:Fr (fun c=>c=s 0 0) w (w.setCell ⟨s 0 0,st,none⟩ (.string D.lead)):=(Fr.refl (fun c=>c=s 0 0) w).set (p:=⟨s 0 0,st,none⟩) (.inl rfl) _;refine⟨⟨i.row d.top (fun e=>u5w d.top u (by decide) e),fun q k=>⟨i.row (d.mid q k).1 (fun e=>u5w (d.mid q k).1 u (by decide) e),(d.mid q k).2⟩,d.rinj,fun q j k z=>?_⟩,(h.vec 0 0 o m (by unfold dn;omega)).2⟩;by_cases e:q=0/\j=0
 ·obtain⟨rfl,rfl⟩:=e;refine(u.set st _).congr (fun p _=>?_);have A:X0R D 0 0 p=updS (zerR D.kind) st D.lead p:=by
   unfold X0R;rw[if_pos (show (0:Nat)=0/\(0:Nat)=0 from ⟨rfl,rfl⟩),show D.start.toNat=st by omega]
  show _=Value.string (X0R D 0 0 p);rw[A];unfold updS;by_cases l:p=st
  ·rw[if_pos l,if_pos l]
  rw[if_neg l,if_neg l]
 refine(i.row (d.vec q j k z) (fun l=>e (h.vinj q j 0 0 k z (by unfold dn;omega) o m (by unfold dn;omega) l))).congr (fun p _=>?_);show _=Value.string ((if q=0/\j=0 then updS (zerR D.kind) D.start.toNat D.lead else zerR D.kind) p)
 rw[if_neg e]
namespace TW
variable {w w':World} {B g n1 n2 n:Nat} {r:Nat->Nat} {s:Nat->Nat->Nat} {X:TbR}
end TW
end
section
def rsP8 (k:Int) (S:Nat->Nat->ByteArray) (v:Nat->ByteArray) (q:Nat):Nat->WS->WS
 | 0,s=>s
 | p+1,s=>if (rsP8 k S v q p s).2≠0 then rsP8 k S v q p s else if v q=z0z k\/S q p=z0z k then rsP8 k S v q p s else addR k (rsP8 k S v q p s).1 p (v q) (S q p)
def rsQ8 (k:Int) (S:Nat->Nat->ByteArray) (v:Nat->ByteArray) (n:Nat):Nat->WS->WS
 | 0,s=>s
 | q+1,s=>rsP8 k S v q n (rsQ8 k S v n q s)
def rest8 (k:Int) (n:Nat) (st:StarO) (v:Nat->ByteArray):WS:=match st with
 | none=>(v,0)
 | some S=>rsQ8 k S v n n (zerR k,0)
def rsT (D:MD) (st:StarO) (i j:Nat) (s:TbR × Nat):TbR × Nat :=
 if s.2≠0 then s else if (rest8 D.kind D.n st (s.1 i j)).2≠0 then (s.1,(rest8 D.kind D.n st (s.1 i j)).2) else (updT s.1 i j (rest8 D.kind D.n st (s.1 i j)).1,0)
def y1u (D:MD) (st:StarO) (na:Nat) (x:Nat->Int) (nb:Nat) (y:Nat->Int) (i:Nat):Nat->TbR × Nat->TbR × Nat
 | 0,s=>s
 | j+1,s=>mvR D na x nb y i j 4 (rsT D st i j (y1u D st na x nb y i j s))
def z9d (D:MD) (st:StarO) (na:Nat) (x:Nat->Int) (nb:Nat) (y:Nat->Int):Nat->TbR × Nat->TbR × Nat
 | 0,s=>s
 | i+1,s=>y1u D st na x nb y i (nb+1) (z9d D st na x nb y i s)
def v7d (D:MD) (st:StarO) (na:Nat) (x:Nat->Int) (nb:Nat) (y:Nat->Int):ByteArray × Nat :=
 if (z9d D st na x nb y (na+1) (X0R D,0)).2≠0 then (⟨#[]⟩,(z9d D st na x nb y (na+1) (X0R D,0)).2) else endR D ((z9d D st na x nb y (na+1) (X0R D,0)).1 na nb)
section
variable {D:MD} {st:StarO} {na:Nat} {x:Nat->Int} {nb:Nat} {y:Nat->Int}
theorem x6g {i j:Nat} {s:TbR × Nat} (h:s.2≠0):rsT D st i j s=s:=if_pos h
theorem y1n {i j:Nat} {s:TbR × Nat} (h:(y1u D st na x nb y i j s).2≠0):∀ d,y1u D st na x nb y i (j+d) s=y1u D st na x nb y i j s
 | 0=>rfl
 | d+1=>by
  show mvR D na x nb y i (j+d) 4 (rsT D st i (j+d) (y1u D st na x nb y i (j+d) s))=_;rw[y1n h d,x6g h];exact x6h (k:=0) h 4
theorem y6k {i:Nat} {s:TbR × Nat} (h:(z9d D st na x nb y i s).2≠0):∀ d,z9d D st na x nb y (i+d) s=z9d D st na x nb y i s
 | 0=>rfl
 | d+1=>by
  show y1u D st na x nb y (i+d) (nb+1) (z9d D st na x nb y (i+d) s)=_;rw[y6k h d];have:=y1n (D:=D) (st:=st) (na:=na) (x:=x) (nb:=nb) (y:=y) (i:=i+d) (j:=0) (s:=z9d D st na x nb y i s) h (nb+1);rw[Nat.zero_add] at this;exact this
end
open CSR
section
variable {k:KK} {j0:Int} (hk:k.1=j0)
def Rl8 (k:KK) (n:Nat) (l:Nat->ByteArray) (v:Nat->RK k):Prop:=∀ p,p<n->Sv k (l p) (v p)
include hk
theorem x2y {n t:Nat} {l:Nat->ByteArray} {lv:Nat->RK k} {a b:ByteArray} {x y:RK k} (h:Rl8 k n l lv) (s:t<n) (j:Sv k a x) (hb:Sv k b y) (c:(addR j0 l t a b).2=0):Rl8 k n (addR j0 l t a b).1 (fun p=>if p=t then lv t+x*y else lv p):=by
 subst hk;unfold addR at c ⊢;by_cases i:(z0g k.1 a b).2≠0
 ·rw[if_pos i] at c;exact absurd c i
 rw[if_neg i] at c ⊢;have g:(z0g k.1 a b).2=0:=by omega
 by_cases d:(z1k k.1 (l t) (z0g k.1 a b).1).2=0
 ·rw[if_pos d];have o:=y7t (h t s) (z7s j hb g) d;intro p m;show Sv k (updS l t _ p) (if p=t then lv t+x*y else lv p)
  unfold updS;by_cases e:p=t
  ·rw[if_pos e,if_pos e];exact o
  rw[if_neg e,if_neg e];exact h p m
 rw[if_neg d] at c;exact absurd c d
theorem y5k {s:ByteArray} {x:RK k} (h:Sv k s x):s=z0z j0↔x=zero:=by subst hk;exact h.eq_zero
theorem v0x {n:Nat} {S:Nat->Nat->ByteArray} {M:Nat->Nat->RK k} {v:Nat->ByteArray} {q:Nat} {xq:RK k} (hS:∀ p,p<n->Sv k (S q p) (M q p)) (hv:Sv k (v q) xq):∀ (p:Nat) {s:WS} {lv:Nat->RK k},p<=n->Rl8 k n s.1 lv->(rsP8 j0 S v q p s).2=0->Rl8 k n (rsP8 j0 S v q p s).1 (fun r=>if r<p then lv r+xq*M q r else lv r)
 | 0,s,lv,_,h,_=>fun r hr=>by simp only[Nat.not_lt_zero,if_false];exact h r hr
 | p+1,s,lv,hp,h,he=>by
  have he0:(rsP8 j0 S v q p s).2=0:=by
   by_cases e:(rsP8 j0 S v q p s).2=0
   ·exact e
   unfold rsP8 at he;rw[if_pos e] at he;exact absurd he e
  have ih:=v0x hS hv p (by omega) h he0;unfold rsP8 at he ⊢;rw[if_neg (by omega)] at he ⊢;by_cases hc:v q=z0z j0\/S q p=z0z j0
  ·rw[if_pos hc];have hz:xq*M q p=zero:=by
    rcases hc with h1|h1
    ·rw[(y5k hk hv).1 h1,zm]
    rw[(y5k hk (hS p (by omega))).1 h1,m0]
   intro r hr;have h1:=ih r hr;by_cases e:r<p
   ·simp only[if_pos e] at h1;simp only[if_pos (show r<p+1 by omega)];exact h1
   simp only[if_neg e] at h1;by_cases e2:r=p
   ·subst e2;simp only[if_pos (show r<r+1 by omega)];rw[hz,a0];exact h1
   simp only[if_neg (show ¬ r<p+1 by omega)];exact h1
  rw[if_neg hc] at he ⊢;have h1:=x2y hk ih (show p<n by omega) hv (hS p (by omega)) he;intro r hr;have h2:=h1 r hr;by_cases e2:r=p
  ·subst e2;simp only[if_pos,Nat.lt_irrefl,if_false] at h2;simp only[if_pos (show r<r+1 by omega)];exact h2
  simp only[if_neg e2] at h2;by_cases e:r<p
  ·simp only[if_pos e] at h2;simp only[if_pos (show r<p+1 by omega)];exact h2
  simp only[if_neg e] at h2;simp only[if_neg (show ¬ r<p+1 by omega)];exact h2
omit hk in
theorem x4u {j:Int} {S:Nat->Nat->ByteArray} {v:Nat->ByteArray} {q:Nat}:∀ (p:Nat) {s:WS},(rsP8 j S v q p s).2=0->s.2=0
 | 0,_,h=>h
 | p+1,s,h=>by
  unfold rsP8 at h;by_cases e:(rsP8 j S v q p s).2≠0
  ·rw[if_pos e] at h;exact absurd h e
  have e2:(rsP8 j S v q p s).2=0:=by omega
  exact x4u p e2
theorem v2g {n:Nat} {S:Nat->Nat->ByteArray} {M:Nat->Nat->RK k} {v:Nat->ByteArray} {vv:Nat->RK k} (hS:∀ q p,q<n->p<n->Sv k (S q p) (M q p)) (hv:∀ q,q<n->Sv k (v q) (vv q)):∀ (q:Nat) {s:WS} {lv:Nat->RK k},q<=n->Rl8 k n s.1 lv->(rsQ8 j0 S v n q s).2=0->Rl8 k n (rsQ8 j0 S v n q s).1 (fun r=>lv r+sum (fun q=>vv q*M q r) q)
 | 0,s,lv,_,h,_=>fun r hr=>by show Sv k _ (lv r+zero);rw[a0];exact h r hr
 | q+1,s,lv,hq,h,he=>by
  have he':(rsP8 j0 S v q n (rsQ8 j0 S v n q s)).2=0:=he;have ih:=v2g hS hv q (by omega) h (x4u n he');have h4:=v0x hk (fun p hp=>hS q p (by omega) hp) (hv q (by omega)) n nlr ih he';intro r hr;have h5:=h4 r hr;simp only[if_pos hr] at h5;show Sv k _ (lv r+(sum _ q+_));rw[<- aA];exact h5
end
section
variable {D:MD} (hV:VM D) {k:KK} (hk:k.1=D.kind)
include hV hk
theorem v8p {st:StarO} (c:StOk k D st) {v:Nat->ByteArray} {vv:Nat->RK k} (g:Rl8 k D.n v vv) (j:(rest8 D.kind D.n st v).2=0):Rl8 k D.n (rest8 D.kind D.n st v).1 (rst (sil (rmOf k D)) D.n vv):=by
 cases st with
 | none=>intro p d;rw[x5k c vv d];exact g p d
 | some S =>
  have i:=v2g hk c g D.n (s:=(zerR D.kind,0)) (lv:=fun _=>zero) nlr (fun p _=>by rw[<- hk];exact Sv.zero) j;intro p d;have h:Sv k _ (zero+sum (fun q=>vv q*starM (sil (rmOf k D)) D.n q p) D.n):=i p d;rw[z0] at h;exact h
theorem x0v {i o:Int} {v:Nat->ByteArray} {q:Nat} {xq:RK k} (hq:q<D.n) (hv:Sv k (v q) xq):∀ (d:Nat) {s:WS} {lv:Nat->RK k},d<=D.na q->Rl8 k D.n s.1 lv->(y5p D i o v q d s).2=0->Rl8 k D.n (y5p D i o v q d s).1 (fun p=>lv p+sum (fun d=>if (rmOf k D).ain q d=i/\(rmOf k D).aout q d=o/\(rmOf k D).ato q d=p then xq*(rmOf k D).aw q d else zero) d)
 | 0,s,lv,_,h,_=>fun p hp=>by show Sv k _ (lv p+zero);rw[a0];exact h p hp
 | d+1,s,lv,hd,h,he=>by
  have he0:(y5p D i o v q d s).2=0:=by
   by_cases e:(y5p D i o v q d s).2=0
   ·exact e
   unfold y5p arcR at he;rw[if_pos e] at he;exact absurd he e
  have ih:=x0v hq hv (i:=i) (o:=o) d (by omega) h he0;unfold y5p arcR at he ⊢;rw[if_neg (by omega)] at he ⊢;have ha:=hV.arc q d hq (by omega);have ht:(D.ato q d).toNat<D.n:=by have:=ha.t0;have:=ha.t1;omega
  intro p hp;show Sv k _ (lv p+(sum _ d+(if D.ain q d=i/\D.aout q d=o/\(D.ato q d).toNat=p then xq*wval k (D.aw q d) else zero)))
  by_cases hm:D.ain q d=i/\D.aout q d=o
  ·rw[if_pos hm] at he ⊢;have h1:=x2y hk ih ht hv (z4v hk ha.wt) he p hp;by_cases e:p=(D.ato q d).toNat
   ·simp only[if_pos e] at h1;rw[if_pos ⟨hm.1,hm.2,e.symm⟩,<- aA];subst e;exact h1
   simp only[if_neg e] at h1;rw[if_neg (fun h=>e h.2.2.symm),a0];exact h1
  rw[if_neg hm,if_neg (fun h=>hm ⟨h.1,h.2.1⟩),a0];exact ih p hp
theorem x1i {i o:Int} {v:Nat->ByteArray} {vv:Nat->RK k} (hv:Rl8 k D.n v vv):∀ (q:Nat) {s:WS} {lv:Nat->RK k},q<=D.n->Rl8 k D.n s.1 lv->(z7e D i o v q s).2=0->Rl8 k D.n (z7e D i o v q s).1 (fun p=>lv p+stq (rmOf k D) i o vv q p)
 | 0,s,lv,_,h,_=>fun p hp=>by show Sv k _ (lv p+zero);rw[a0];exact h p hp
 | q+1,s,lv,hq,h,he=>by
  have he0:(z7e D i o v q s).2=0:=by
   by_cases e:(z7e D i o v q s).2=0
   ·exact e
   have h1:z7e D i o v (q+1) s=z7e D i o v q s:=x0d e 1;rw[h1] at he;exact absurd he e
  have ih:=x1i hv (i:=i) (o:=o) q (by omega) h he0;have hvq:=hv q (by omega);unfold z7e rowR at he ⊢;intro p hp;show Sv k _ (lv p+(stq (rmOf k D) i o vv q p+sum _ _));by_cases hz:v q=z0z D.kind
  ·rw[if_pos hz];rw[sum_congr (g:=fun _=>zero) (fun d _=>by split;exact(by rw[(y5k hk hvq).1 hz,zm]);rfl),sum_zero,a0];exact ih p hp
  rw[if_neg hz] at he ⊢;have h1:=x0v hV hk (show q<D.n by omega) hvq (D.na q) nlr ih he p hp;rw[<- aA];exact h1
omit hV in
theorem x4f {n:Nat} {a b:Nat->ByteArray} {av bv:Nat->RK k} (ha:Rl8 k n a av) (hb:Rl8 k n b bv):∀ m,m<=n->(sumR D.kind a b m).2=0->Rl8 k m (sumR D.kind a b m).1 (fun p=>av p+bv p)
 | 0,_,_=>fun p hp=>absurd hp (Nat.not_lt_zero p)
 | m+1,hm,he=>by
  have he0:(sumR D.kind a b m).2=0:=by
   by_cases e:(sumR D.kind a b m).2=0
   ·exact e
   have h1:=x0e (k:=D.kind) (a:=a) (b:=b) e 1;rw[h1] at he;exact absurd he e
  have ih:=x4f ha hb m (by omega) he0;unfold sumR at he ⊢;rw[if_neg (by omega)] at he ⊢;by_cases hp:(z1k D.kind (a m) (b m)).2≠0
  ·rw[if_pos hp] at he;exact absurd he hp
  rw[if_neg hp];intro p hpm;show Sv k (updS _ m _ p) _;unfold updS;by_cases e:p=m
  ·rw[if_pos e,e];have h1:(z1k k.1 (a m) (b m)).2=0:=by
    have h0:(z1k D.kind (a m) (b m)).2=0:=by omega
    exact(congrArg (fun z=>(z1k z (a m) (b m)).2) hk).trans h0
   have h2:=y7t (ha m (by omega)) (hb m (by omega)) h1;have h3:(z1k k.1 (a m) (b m)).1=(z1k D.kind (a m) (b m)).1:=congrArg (fun z=>(z1k z (a m) (b m)).1) hk;rw[<- h3];exact h2
  rw[if_neg e];exact ih p (by omega)
theorem x5n {v:Nat->ByteArray} {vv:Nat->RK k} (hv:Rl8 k D.n v vv):∀ q,q<=D.n->(finR D v q).2=0->Sv k ((finR D v q).1 0) (dot q vv (rmOf k D).fin)
 | 0,_,_=>by show Sv k (z0z D.kind) zero;rw[<- hk];exact Sv.zero
 | q+1,hq,he=>by
  have he0:(finR D v q).2=0:=by
   by_cases e:(finR D v q).2=0
   ·exact e
   have h1:=x0i (D:=D) (v:=v) e 1;rw[h1] at he;exact absurd he e
  have ih:=x5n hv q (by omega) he0;unfold finR at he ⊢;have hd:dot (q+1) vv (rmOf k D).fin=dot q vv (rmOf k D).fin+vv q*(rmOf k D).fin q:=rfl;rw[if_neg (by omega)] at he ⊢;rw[hd];by_cases hf:D.fin q=⟨#[]⟩
  ·rw[if_pos hf];have hz:(rmOf k D).fin q=zero:=if_pos hf;rw[hz,m0,a0];exact ih
  rw[if_neg hf] at he ⊢;have hw:=z4v hk ((hV.fin q (by omega)).resolve_left hf);have hft:(rmOf k D).fin q=wval k (D.fin q):=if_neg hf;have h1:=x2y hk (n:=1) (t:=0) (lv:=fun _=>dot q vv (rmOf k D).fin) (l:=(finR D v q).1) (fun p hp=>by rw[show p=0 by omega];exact ih) (by omega) (hv q (by omega)) hw he 0 (by omega);simp only[if_pos] at h1;rw[hft];exact h1
abbrev TbK (k:KK):=Nat->Nat->Nat->RK k
def z6h {k:KK} (U:TbK k) (a b:Nat) (u:Nat->RK k):TbK k:=fun i j=>if i=a/\j=b then u else U i j
def Rt8 (k:KK) (n:Nat) (X:TbR) (U:TbK k):Prop:=∀ i j,Rl8 k n (X i j) (U i j)
omit hV hk in
theorem Rt8.upd {n:Nat} {X:TbR} {U:TbK k} (h:Rt8 k n X U) {a b:Nat} {v:Nat->ByteArray} {vv:Nat->RK k} (c:Rl8 k n v vv):Rt8 k n (updT X a b v) (z6h U a b vv):=by
 intro i j;unfold updT z6h;by_cases e:i=a/\j=b
 ·rw[if_pos e,if_pos e];exact c
 rw[if_neg e,if_neg e];exact h i j
variable {na:Nat} {x:Nat->Int} {nb:Nat} {y:Nat->Int} {st:StarO}
theorem v2b {i j u v:Nat} {s:TbR × Nat} {U:TbK k} {f:Nat->RK k} (h:Rt8 k D.n s.1 U) (hf:∀ p,p<D.n->U i j p=f p) (c:(kR D na x nb y i j u v s).2=0) :
  s.2=0/\Rt8 k D.n (kR D na x nb y i j u v s).1 (if na<i+u\/nb<j+v then U else z6h U (i+u) (j+v) (fun p=>U (i+u) (j+v) p+stp (rmOf k D) (if u=1 then x i else 0) (if v=1 then y j else 0) f p)):=by
 unfold kR at c ⊢;by_cases B:s.2≠0
 ·rw[if_pos (.inl B)] at c;exact absurd c B
 refine⟨by omega,?_⟩;by_cases z:na<i+u\/nb<j+v
 ·rw[if_pos (.inr z),if_pos z];exact h
 have g:¬ (s.2≠0\/na<i+u\/nb<j+v):=by omega
 rw[if_neg g] at c ⊢;rw[if_neg z];by_cases m:(z7e D (if u=1 then x i else 0) (if v=1 then y j else 0) (s.1 i j) D.n (zerR D.kind,0)).2≠0
 ·rw[if_pos m] at c;exact absurd c m
 rw[if_neg m] at c ⊢;have C:=x1i hV hk (i:=if u=1 then x i else 0) (o:=if v=1 then y j else 0) (vv:=f) (fun p d=>by rw[<- hf p d];exact h i j p d) D.n (s:=(zerR D.kind,0)) (lv:=fun _=>zero) nlr (fun p _=>by rw[<- hk];exact Sv.zero) (by omega)
 by_cases l:(sumR D.kind (s.1 (i+u) (j+v)) (z7e D (if u=1 then x i else 0) (if v=1 then y j else 0) (s.1 i j) D.n (zerR D.kind,0)).1 D.n).2≠0
 ·rw[if_pos l] at c;exact absurd c l
 rw[if_neg l];refine h.upd ?_;have E:=x4f hk (h (i+u) (j+v)) C D.n nlr (by omega);intro p d;have A:Sv k _ (U (i+u) (j+v) p+(zero+stq (rmOf k D) (if u=1 then x i else 0) (if v=1 then y j else 0) f D.n p)):=E p d
 rw[z0] at A;exact A
theorem x8p (G:StOk k D st) {i j:Nat} (hi:i<=na) (W:j<=nb) {s:TbR × Nat} {U:TbK k} (h:Rt8 k D.n s.1 U) (E:(mvR D na x nb y i j 4 (rsT D st i j s)).2=0) :
  s.2=0/\∃ U' f,Rt8 k D.n (mvR D na x nb y i j 4 (rsT D st i j s)).1 U'/\Cell (rmOf k D) na x nb y i j f (U i) (U (i+1)) (U' i) (U' (i+1))/\(∀ p,p<D.n->U' i j p=f p)/\∀ i' j',i'≠i->i'≠i+1->U' i' j'=U i' j':=by
 have R:mvR D na x nb y i j 4 (rsT D st i j s)=kR D na x nb y i j 1 1 (kR D na x nb y i j 0 1 (kR D na x nb y i j 1 0 (rsT D st i j s))):=rfl;rw[R] at E ⊢;have g:∀ {t:TbR × Nat} {u v:Nat},(kR D na x nb y i j u v t).2=0->t.2=0:=fun {t u v} h=>by
  unfold kR at h;by_cases P:t.2≠0
  ·rw[if_pos (.inl P)] at h;exact absurd h P
  omega
 have o:=g E;have m:=g o;have c:=g m;have N:s.2=0:=by
  by_cases e:s.2=0
  ·exact e
  rw[x6g e] at c;exact c
 refine⟨N,?_⟩;obtain⟨f,hf⟩:=exq (rst (sil (rmOf k D)) D.n (U i j));have O:Rt8 k D.n (rsT D st i j s).1 (z6h U i j f):=by
  unfold rsT at c ⊢;rw[if_neg (by omega)] at c ⊢;by_cases l:(rest8 D.kind D.n st (s.1 i j)).2≠0
  ·rw[if_pos l] at c;exact absurd c l
  rw[if_neg l,hf];exact h.upd (v8p hV hk G (h i j) (by omega))
 have K:∀ p,p<D.n->z6h U i j f i j p=f p:=fun p _=>by unfold z6h;rw[if_pos ⟨rfl,rfl⟩]
 have r1:=(v2b hV hk (u:=1) (v:=0) O K m).2;generalize hU1:(if na<i+1\/nb<j+0 then z6h U i j f else z6h (z6h U i j f) (i+1) (j+0) (fun p=>z6h U i j f (i+1) (j+0) p+stp (rmOf k D) (if (1:Nat)=1 then x i else 0) (if (0:Nat)=1 then y j else 0) f p))=U1 at r1
 have C:∀ p,p<D.n->U1 i j p=f p:=fun p d=>by
  rw[<- hU1];split
  ·exact K p d
  unfold z6h;rw[if_neg (by omega),if_pos ⟨rfl,rfl⟩]
 have H:=(v2b hV hk (u:=0) (v:=1) r1 C o).2;generalize hU2:(if na<i+0\/nb<j+1 then U1 else z6h U1 (i+0) (j+1) (fun p=>U1 (i+0) (j+1) p+stp (rmOf k D) (if (0:Nat)=1 then x i else 0) (if (1:Nat)=1 then y j else 0) f p))=U2 at H
 have A:∀ p,p<D.n->U2 i j p=f p:=fun p d=>by
  rw[<- hU2];split
  ·exact C p d
  unfold z6h;rw[if_neg (by omega)];exact C p d
 have J:=(v2b hV hk (u:=1) (v:=1) H A E).2;generalize hU3:(if na<i+1\/nb<j+1 then U2 else z6h U2 (i+1) (j+1) (fun p=>U2 (i+1) (j+1) p+stp (rmOf k D) (if (1:Nat)=1 then x i else 0) (if (1:Nat)=1 then y j else 0) f p))=U3 at J
 have Q:∀ p,p<D.n->U3 i j p=f p:=fun p d=>by
  rw[<- hU3];split
  ·exact A p d
  unfold z6h;rw[if_neg (by omega)];exact A p d
 simp only[Nat.add_zero,if_true,show ((0:Nat)=1)=False by simp,if_false] at hU1 hU2 hU3;refine⟨U3,f,J,⟨fun p d=>by rw[hf];rfl,fun L p d=>?_,fun j' l B F p d=>?_,fun L p d=>?_,fun L S p d=>?_,fun L j' l B F p d=>?_⟩,Q,fun i' j' l B=>?_⟩
 all_goals
  clear r1 H J K C A Q O E m o c g R;subst hU3 hU2 hU1
 ·have c1:¬ nb<j+1:=by omega
  have c2:¬ na<i:=by omega
  have c3:¬ nb<j:=by omega
  by_cases l:na<i+1<;>simp[z6h,c1,c2,c3,l]
 ·have T:j'≠j:=by omega
  have c2:¬ na<i:=by omega
  have c3:¬ nb<j:=by omega
  by_cases I:na<i+1<;>by_cases z:nb<j+1<;>simp[z6h,c2,c3,I,z,T,F]
 ·have c1:¬ na<i+1:=by omega
  have c2:¬ na<i:=by omega
  have c3:¬ nb<j:=by omega
  by_cases z:nb<j+1<;>simp[z6h,c1,c2,c3,z]
 ·have c1:¬ na<i+1:=by omega
  have c2:¬ na<i:=by omega
  have c3:¬ nb<j:=by omega
  have c4:¬ nb<j+1:=by omega
  simp[z6h,c1,c2,c3,c4]
 ·have c1:¬ na<i+1:=by omega
  have c2:¬ na<i:=by omega
  have c3:¬ nb<j:=by omega
  by_cases z:nb<j+1<;>simp[z6h,c1,c2,c3,z,B,F]
 have c2:¬ na<i:=by omega
 have c3:¬ nb<j:=by omega
 by_cases I:na<i+1<;>by_cases z:nb<j+1<;>simp[z6h,c2,c3,I,z,l,B]
theorem x6i (hst:StOk k D st) {i:Nat} (hi:i<=na) (hx:∀ i,i<na->x i≠0) (hy:∀ j,j<nb->y j≠0) {s:TbR × Nat} {U:TbK k} (h:Rt8 k D.n s.1 U):∀ j,j<=nb+1->(y1u D st na x nb y i j s).2=0 ->
  s.2=0/\∃ U',Rt8 k D.n (y1u D st na x nb y i j s).1 U'/\(phi (rmOf k D) na x nb y i 0 (U i) (U (i+1))=(if i=na/\j=nb+1 then dot D.n (U' na nb) (rmOf k D).fin else zero)+phi (rmOf k D) na x nb y i j (U' i) (U' (i+1)))/\∀ i' j',i'≠i->i'≠i+1->U' i' j'=U i' j'
 | 0,_,he=>⟨he,U,h,by rw[if_neg (by omega),z0],fun _ _ _ _=>rfl⟩
 | j+1,hj,he=>by
  have he':(mvR D na x nb y i j 4 (rsT D st i j (y1u D st na x nb y i j s))).2=0:=he;have h0:(y1u D st na x nb y i j s).2=0:=by
   by_cases e:(y1u D st na x nb y i j s).2=0
   ·exact e
   have:=y1n (D:=D) (st:=st) (na:=na) (x:=x) (nb:=nb) (y:=y) e 1;rw[this] at he;exact absurd he e
  obtain⟨hs0,U1,hU1,hphi,hot⟩:=x6i hst hi hx hy h j (by omega) h0;obtain⟨_,U2,f,hU2,hc,hf,hot2⟩:=x8p hV hk hst hi (show j<=nb by omega) hU1 he';refine⟨hs0,U2,hU2,?_,fun i' j' h1 h2=>by rw[hot2 i' j' h1 h2,hot i' j' h1 h2]⟩;rw[hphi,if_neg (by omega),z0,Cell.phi hx hy (hV.inn k) hc hi (by omega)]
  congr 1
  by_cases e:i=na/\j=nb
  ·obtain⟨rfl,rfl⟩:=e;rw[if_pos ⟨rfl,rfl⟩];have hd:=v1d (A:=rmOf k D) (na:=i) (nb:=j) f;rw[hd];exact(z1m (n:=D.n) (fun p hp=>hf p hp) (fun _ _=>rfl)).symm
  rw[if_neg (fun h=>e ⟨h.1,by omega⟩)];exact v3d (A:=rmOf k D) f e
theorem x5s (hst:StOk k D st) (hx:∀ i,i<na->x i≠0) (hy:∀ j,j<nb->y j≠0):∀ m,m<=na+1->(z9d D st na x nb y m (X0R D,0)).2=0 ->
  ∃ U:TbK k,Rt8 k D.n (z9d D st na x nb y m (X0R D,0)).1 U/\(∀ i j,m<i->∀ p,p<D.n->U i j p=zero)/\(if m<=na then phi (rmOf k D) na x nb y m 0 (U m) (U (m+1))=rel (rmOf k D) (ls x na 0) (ls y nb 0) else dot D.n (U na nb) (rmOf k D).fin=rel (rmOf k D) (ls x na 0) (ls y nb 0))
 | 0,_,_=>by
  refine⟨fun i j p=>if i=0/\j=0 then (if p=(rmOf k D).start then (rmOf k D).lead else zero) else zero,fun i j p hp=>?_,fun i j hi p _=>?_,?_⟩
  ·show Sv k (X0R D i j p) _;unfold X0R;by_cases e:i=0/\j=0
   ·rw[if_pos e];simp only[if_pos e];unfold updS;by_cases e2:p=D.start.toNat
    ·rw[if_pos e2,if_pos (show p=(rmOf k D).start from e2)];exact z4v hk hV.lead
    rw[if_neg e2,if_neg (show ¬ p=(rmOf k D).start from e2)];show Sv k (z0z D.kind) zero;rw[<- hk];exact Sv.zero
   rw[if_neg e];simp only[if_neg e];show Sv k (z0z D.kind) zero;rw[<- hk];exact Sv.zero
  ·simp only[if_neg (show ¬ (i=0/\j=0) by omega)]
  rw[if_pos (by omega)];exact x1h (hV.inn k) (hV.stn k) (fun p _=>by simp) (fun j h1 _ p _=>by simp;omega) (fun j _ p _=>by simp)
 | m+1,hm,he=>by
  have he':(y1u D st na x nb y m (nb+1) (z9d D st na x nb y m (X0R D,0))).2=0:=he;have h0:(z9d D st na x nb y m (X0R D,0)).2=0:=by
   by_cases e:(z9d D st na x nb y m (X0R D,0)).2=0
   ·exact e
   have:=y6k (D:=D) (st:=st) (na:=na) (x:=x) (nb:=nb) (y:=y) e 1;rw[this] at he;exact absurd he e
  obtain⟨U,hU,hz,hT⟩:=x5s hst hx hy m (by omega) h0;rw[if_pos (by omega)] at hT;obtain⟨_,U',hU',hphi,hot⟩:=x6i hV hk hst (show m<=na by omega) hx hy hU (nb+1) nlr he';rw[hT] at hphi;have hz':∀ i j,m+1<i->∀ p,p<D.n->U' i j p=zero:=fun i j hi p hp=>by rw[hot i j (by omega) (by omega)];exact hz i j (by omega) p hp
  refine⟨U',hU',hz',?_⟩;by_cases e:m+1<=na
  ·rw[if_pos e];rw[if_neg (by omega),z0,v2t (show m<na by omega) (next':=U' (m+1+1)) (fun j _ p hp=>hz' _ j (by omega) p hp)] at hphi;exact hphi.symm
  rw[if_neg e];have hmn:m=na:=by omega
  rw[if_pos ⟨hmn,rfl⟩,hmn,x3w,a0] at hphi;exact hphi.symm
theorem v8n (h:StOk k D st) (m:∀ i,i<na->x i≠0) (p:∀ j,j<nb->y j≠0) (c:(v7d D st na x nb y).2=0):Sv k (v7d D st na x nb y).1 (rel (rmOf k D) (ls x na 0) (ls y nb 0)):=by
 unfold v7d at c ⊢;by_cases g:(z9d D st na x nb y (na+1) (X0R D,0)).2≠0
 ·rw[if_pos g] at c;exact absurd c g
 rw[if_neg g] at c ⊢;obtain⟨U,o,_,l⟩:=x5s hV hk h m p (na+1) nlr (by omega);rw[if_neg (by omega)] at l;unfold endR at c ⊢;by_cases d:(finR D ((z9d D st na x nb y (na+1) (X0R D,0)).1 na nb) D.n).2≠0
 ·rw[if_pos d] at c;exact absurd c d
 rw[if_neg d];rw[<- l];exact x5n hV hk (o na nb) D.n nlr (by omega)
end
end
section
def lred (s:Int) (x:List Int):Option (List Int):=(red s x.reverse).map List.reverse
theorem z9p {s:Int} (h:s≠0) {x u:List Int}:red s x=some u↔x=s::u :=
 ⟨fun e=>by rcases x6a e with ⟨c,_⟩|⟨_,c⟩;exact absurd c h;exact c,fun e=>by rw[e];exact v8v h u⟩
theorem y0q {s:Int} (h:s≠0) {x u:List Int}:lred s x=some u↔x=u++[s]:=by
 unfold lred;rw[Option.map_eq_some_iff]
 constructor
 ·rintro⟨a,g,rfl⟩;have d:=(z9p h).1 g;have c:=congrArg List.reverse d;rw[List.reverse_reverse,List.reverse_cons] at c;exact c
 rintro rfl;refine⟨u.reverse,(z9p h).2 (by simp),List.reverse_reverse u⟩
theorem y4q (x:List Int):lred 0 x=some x:=by unfold lred;rw[z2b];simp
theorem x4e (s t:Int) (x:List Int):(red s x).bind (lred t)=(lred t x).bind (red s):=by
 by_cases h:s=0
 ·subst h;rw[z2b];show lred t x=_;cases lred t x with
  | none=>rfl
  | some u=>exact(z2b u).symm
 by_cases g:t=0
 ·subst g;rw[y4q];show _=red s x;cases red s x with
  | none=>rfl
  | some u=>exact y4q u
 refine Option.ext fun u=>?_;rw[Option.bind_eq_some_iff,Option.bind_eq_some_iff]
 constructor
 ·rintro⟨a,d,c⟩;rw[z9p h] at d;rw[y0q g] at c;exact⟨s::u,(y0q g).2 (by rw[d,c];rfl),(z9p h).2 rfl⟩
 rintro⟨a,d,c⟩;rw[y0q g] at d;rw[z9p h] at c;exact⟨u++[t],(z9p h).2 (by rw[d,c];rfl),(y0q g).2 rfl⟩
theorem v9t (s:Int) (x:List Int):red s x=some []↔lred s x=some []:=by
 by_cases c:s=0
 ·subst c;rw[z2b,y4q]
 rw[z9p c,y0q c];rfl
theorem v2c (s:Int) (x:List Int):red s x.reverse=(lred s x).map List.reverse:=by
 unfold lred;cases red s x.reverse with
 | none=>rfl
 | some u=>simp
open CSR
section
variable {R:Type} [CSR R]
def evO (f:List Int->List Int->R) (o p:Option (List Int)):R:=match o,p with
 | some a,some b=>f a b
 | _,_=>zero
theorem x4m (f:List Int->List Int->R) (g h:List Int->Option (List Int)) (o p:Option (List Int)):evO (fun a b=>evO f (g a) (h b)) o p=evO f (o.bind g) (p.bind h):=by
 cases o with
 | none=>rfl
 | some a=>cases p with
  | none=>show zero=evO f (g a) none;unfold evO;cases g a<;>rfl
  | some b=>rfl
theorem u2p (f:List Int->List Int->R) (g h:List Int->List Int) (o p:Option (List Int)):evO f (o.map g) (p.map h)=evO (fun a b=>f (g a) (h b)) o p:=by
 cases o<;>cases p<;>rfl
theorem z4x {f g:List Int->List Int->R} (h:∀ a b,f a b=g a b) (o p:Option (List Int)):evO f o p=evO g o p:=by
 cases o<;>cases p<;>first|rfl|exact h _ _
theorem v5a (o p:Option (List Int)):evO (fun _ _=>(zero:R)) o p=zero:=by
 cases o<;>cases p<;>rfl
theorem v0g (c:R) (f:List Int->List Int->R) (o p:Option (List Int)):evO (fun a b=>c*f a b) o p=c*evO f o p:=by
 cases o<;>cases p<;>first|rfl|exact(m0 c).symm
theorem y8y (c:R) (f:List Int->List Int->R) (o p:Option (List Int)):evO (fun a b=>f a b*c) o p=evO f o p*c:=by
 cases o<;>cases p<;>first|rfl|exact(zm c).symm
theorem y4e (f:Nat->List Int->List Int->R) (n:Nat) (o p:Option (List Int)):evO (fun a b=>sum (fun i=>f i a b) n) o p=sum (fun i=>evO (f i) o p) n:=by
 cases o<;>cases p<;>first|rfl|exact(sum_zero n).symm
theorem v1a (c:Prop) [Decidable c] (f:List Int->List Int->R) (o p:Option (List Int)):evO (fun a b=>if c then f a b else zero) o p=if c then evO f o p else zero:=by
 by_cases h:c
 ·simp only[if_pos h]
 simp only[if_neg h];cases o<;>cases p<;>rfl
theorem v1v (o p:Option (List Int)):evO (fun a b=>if a=[]/\b=[] then (one:R) else zero) o p=if o=some []/\p=some [] then one else zero:=by
 cases o<;>cases p<;>simp[evO]
theorem z3k (A:RM R) (f:Nat->List Int->List Int->R) (q k:Nat) (x y:List Int):arcT A f q k x y=A.aw q k*evO (f (A.ato q k)) (red (A.ain q k) x) (red (A.aout q k) y):=by
 unfold arcT evO;cases red (A.ain q k) x<;>cases red (A.aout q k) y<;>first|rfl|exact(m0 _).symm
theorem x5b (f:Nat->R):∀ n,sum f (n+1)=f 0+sum (fun i=>f (i+1)) n
 | 0=>by show zero+f 0=f 0+zero;rw[z0,a0]
 | n+1=>by
  show sum f (n+1)+f (n+1)=f 0+(sum _ n+f (n+1));rw[x5b f n,aA]
def pth (A:RM R) (q:Nat):Nat->Nat->List Int->List Int->R
 | 0,p,x,y=>if p=q/\x=[]/\y=[] then one else zero
 | m+1,p,x,y=>sum (fun k=>A.aw p k*evO (pth A q m (A.ato p k)) (red (A.ain p k) x) (red (A.aout p k) y)) (A.na p)
theorem x0p {A:RM R} (hA:Inn A) (q:Nat):∀ m p,p<A.n->∀ x y,pth A q (m+1) p x y=sum (fun r=>sum (fun k=>if A.ato r k=q then A.aw r k*evO (pth A r m p) (lred (A.ain r k) x) (lred (A.aout r k) y) else zero) (A.na r)) A.n
 | 0,p,hp,x,y=>by
  rw[sum_single _ hp (fun r _ hr=>by
   rw[sum_congr (g:=fun _=>zero) (fun k _=>by
    split
    ·have e0:evO (pth A r 0 p) (lred (A.ain r k) x) (lred (A.aout r k) y)=zero:=(z4x (fun a b=>by
      show (if p=r/\a=[]/\b=[] then one else zero)=zero
      exact if_neg (fun h=>hr h.1.symm)) _ _).trans (v5a _ _)
     rw[e0,m0]
    rfl),sum_zero])]
  refine sum_congr fun k _=>?_;have e1:evO (pth A q 0 (A.ato p k)) (red (A.ain p k) x) (red (A.aout p k) y)=if A.ato p k=q then (if red (A.ain p k) x=some []/\red (A.aout p k) y=some [] then one else zero) else zero:=by
   rw[<- v1v,<- v1a];refine z4x (fun a b=>?_) _ _;show (if A.ato p k=q/\a=[]/\b=[] then one else zero)=_
   by_cases h:A.ato p k=q
   ·simp[h]
   simp[h]
  have e2:evO (pth A p 0 p) (lred (A.ain p k) x) (lred (A.aout p k) y)=if lred (A.ain p k) x=some []/\lred (A.aout p k) y=some [] then one else zero:=by
   rw[<- v1v];refine z4x (fun a b=>?_) _ _;show (if p=p/\a=[]/\b=[] then one else zero)=_
   simp
  rw[e1,e2];simp only[v9t];by_cases h:A.ato p k=q
  ·rw[if_pos h,if_pos h]
  rw[if_neg h,if_neg h,m0]
 | m+1,p,hp,x,y=>by
  have e1:∀ k,k<A.na p->A.aw p k*evO (pth A q (m+1) (A.ato p k)) (red (A.ain p k) x) (red (A.aout p k) y) =
    sum (fun r=>sum (fun l=>if A.ato r l=q then A.aw p k*(A.aw r l*evO (pth A r m (A.ato p k)) ((red (A.ain p k) x).bind (lred (A.ain r l))) ((red (A.aout p k) y).bind (lred (A.aout r l)))) else zero) (A.na r)) A.n:=fun k hk=>by
   rw[z4x (fun a b=>x0p hA q m (A.ato p k) (hA p k hp hk) a b),y4e,mul_sum];refine sum_congr fun r _=>?_;rw[y4e,mul_sum];refine sum_congr fun l _=>?_;rw[v1a,v0g,x4m]
   split
   ·rfl
   exact m0 _
  have e2:∀ r l,(if A.ato r l=q then A.aw r l*evO (pth A r (m+1) p) (lred (A.ain r l) x) (lred (A.aout r l) y) else zero) =
    sum (fun k=>if A.ato r l=q then A.aw p k*(A.aw r l*evO (pth A r m (A.ato p k)) ((red (A.ain p k) x).bind (lred (A.ain r l))) ((red (A.aout p k) y).bind (lred (A.aout r l)))) else zero) (A.na p):=fun r l=>by
   by_cases h:A.ato r l=q
   ·simp only[if_pos h];rw[z4x (f:=pth A r (m+1) p) (g:=fun a b=>sum (fun k=>A.aw p k*evO (pth A r m (A.ato p k)) (red (A.ain p k) a) (red (A.aout p k) b)) (A.na p)) (fun _ _=>rfl),y4e,mul_sum];refine sum_congr fun k _=>?_;rw[v0g,x4m,<- x4e,<- x4e,<- mA,<- mA,mC (A.aw r l)]
   simp only[if_neg h];exact(sum_zero _).symm
  show sum (fun k=>A.aw p k*evO (pth A q (m+1) (A.ato p k)) (red (A.ain p k) x) (red (A.aout p k) y)) (A.na p)=_;rw[sum_congr e1,sum_comm];refine sum_congr fun r _=>?_;rw[sum_comm];exact sum_congr fun l _=>(e2 r l).symm
theorem x3x {A:RM R} (hA:Inn A):∀ N p,p<A.n->∀ x y,unr A N p x y=sum (fun m=>sum (fun q=>pth A q m p x y*A.fin q) A.n) N
 | 0,_,_,_,_=>rfl
 | N+1,p,hp,x,y=>by
  rw[x5b];show endT A p x y+sum (fun k=>arcT A (unr A N) p k x y) (A.na p)=_
  congr 1
  ·rw[sum_single _ hp (fun q _ hq=>by
    show (if p=q/\_ then one else zero)*_=_
    rw[if_neg (fun h=>hq h.1.symm),zm])]
   show (if x=[]/\y=[] then A.fin p else zero)=(if p=p/\x=[]/\y=[] then one else zero)*A.fin p
   by_cases h:x=[]/\y=[]
   ·rw[if_pos h,if_pos ⟨rfl,h⟩,o1]
   rw[if_neg h,if_neg (fun e=>h e.2),zm]
  have e1:∀ k,k<A.na p->arcT A (unr A N) p k x y=sum (fun m=>sum (fun q=>A.aw p k*evO (pth A q m (A.ato p k)) (red (A.ain p k) x) (red (A.aout p k) y)*A.fin q) A.n) N:=fun k hk=>by
   rw[z3k,z4x (fun a b=>x3x hA N (A.ato p k) (hA p k hp hk) a b),y4e,mul_sum];refine sum_congr fun m _=>?_;rw[y4e,mul_sum];refine sum_congr fun q _=>?_;rw[y8y,mA]
  rw[sum_congr e1,sum_comm];refine sum_congr fun m _=>?_;rw[sum_comm];refine sum_congr fun q _=>?_;rw[<- sum_mul];rfl
structure RevOf (A B:RM R):Prop where
 n:B.n=A.n+1
 start:B.start=A.n
 lead:B.lead=A.lead
 fin:∀ q,q<A.n->B.fin q=if q=A.start then one else zero
 finN:B.fin A.n=zero
 arcs:∀ q,q<A.n->∀ f:Int->Int->R->Nat->R,sum (fun k=>f (B.ain q k) (B.aout q k) (B.aw q k) (B.ato q k)) (B.na q)=sum (fun r=>sum (fun k=>if A.ato r k=q then f (A.ain r k) (A.aout r k) (A.aw r k) r else zero) (A.na r)) A.n
 arcN:∀ f:Int->Int->R->Nat->R,(∀ s t q,f s t zero q=zero)->sum (fun k=>f (B.ain A.n k) (B.aout A.n k) (B.aw A.n k) (B.ato A.n k)) (B.na A.n)=sum (fun q=>f 0 0 (A.fin q) q) A.n
theorem RevOf.pth {A B:RM R} (h:RevOf A B) (hA:Inn A):∀ m q p,q<A.n->p<A.n->∀ x y,pth B p m q x.reverse y.reverse=pth A q m p x y
 | 0,q,p,_,_,x,y=>by
  show (if q=p/\x.reverse=[]/\y.reverse=[] then one else zero)=if p=q/\x=[]/\y=[] then one else zero
  simp only[List.reverse_eq_nil_iff];by_cases e:q=p
  ·simp[e]
  simp[e,Ne.symm e]
 | m+1,q,p,hq,hp,x,y=>by
  rw[x0p hA q m p hp];show sum (fun k=>B.aw q k*evO (Go.Proofs.YteappjogmnogcaaGreatDoor.pth B p m (B.ato q k)) (red (B.ain q k) x.reverse) (red (B.aout q k) y.reverse)) (B.na q)=_;rw[h.arcs q hq (fun s t w r=>w*evO (Go.Proofs.YteappjogmnogcaaGreatDoor.pth B p m r) (red s x.reverse) (red t y.reverse))];refine sum_congr fun r hr=>sum_congr fun k _=>?_
  split
  ·rw[v2c,v2c,u2p,z4x (fun a b=>h.pth hA m r p hr hp a b)]
  rfl
variable [CSC R]
theorem RevOf.rel {A B:RM R} (h:RevOf A B) (d:Inn A) (j:Inn B) (c:A.start<A.n) (x y:List Int):rel B x.reverse y.reverse=rel A x y:=by
 have D:∀ N q,q<A.n->unr B N q x.reverse y.reverse=sum (fun m=>Go.Proofs.YteappjogmnogcaaGreatDoor.pth A q m A.start x y) N:=fun N q g=>by
  rw[x3x j N q (by rw[h.n];omega)];refine sum_congr fun m _=>?_;rw[h.n];show sum _ A.n+_*B.fin A.n=_;rw[h.finN,m0,a0,sum_single _ c (fun p u i=>by rw[h.fin p u,if_neg i,m0]),h.fin _ c,if_pos rfl,m1,h.pth d m q A.start g c]
 have z:∀ N,unr B (N+1) A.n x.reverse y.reverse=unr A N A.start x y:=fun N=>by
  show endT B A.n _ _+sum (fun k=>arcT B (unr B N) A.n k _ _) (B.na A.n)=_;have C:endT B A.n x.reverse y.reverse=zero:=by unfold endT;rw[h.finN];split<;>rfl
  rw[C,z0,sum_congr (fun k _=>z3k B (unr B N) A.n k _ _),h.arcN (fun s t w r=>w*evO (unr B N r) (red s x.reverse) (red t y.reverse)) (fun _ _ _=>zm _),x3x d N A.start c,sum_comm];refine sum_congr fun q g=>?_;rw[z2b,z2b];show A.fin q*unr B N q x.reverse y.reverse=_;rw[D N q g,mC,sum_mul]
 have l:=(y5m j (by rw[h.start,h.n];omega) x.reverse y.reverse).shift (fun N=>le_times _ (z7i B N _ _ _)) 1;have o:=y5m d c x y;refine Lub.eq (l.congr (fun N=>?_)) o;show B.lead*unr B (N+1) B.start _ _=_;rw[h.start,h.lead,z]
end
end
section
open CSR
section
variable {R:Type} [CSR R]
def inZ (A:RM R):RM R:={ A with aout:=fun _ _=>0 }
def inR (A:RM R):RM R:={ A with aout:=A.ain }
def outZ (A:RM R):RM R:={ A with ain:=fun _ _=>0 }
theorem x4g (f:List Int->List Int->R) (g:List Int->R) (o:Option (List Int)) (h:∀ a,f a a=g a):evO f o o=evO (fun a _=>g a) o (some []):=by
 cases o with
 | none=>rfl
 | some a=>exact h a
theorem u3h (A:RM R):∀ N q x,unr (inR A) N q x x=unr (inZ A) N q x []
 | 0,_,_=>rfl
 | N+1,q,x=>by
  show endT (inR A) q x x+sum (fun k=>arcT (inR A) (unr (inR A) N) q k x x) (A.na q)=endT (inZ A) q x []+sum (fun k=>arcT (inZ A) (unr (inZ A) N) q k x []) (A.na q)
  congr 1
  ·show (if x=[]/\x=[] then A.fin q else zero)=if x=[]/\[]=[] then A.fin q else zero
   simp
  refine sum_congr fun k _=>?_;rw[z3k,z3k];show A.aw q k*evO (unr (inR A) N (A.ato q k)) (red (A.ain q k) x) (red (A.ain q k) x)=A.aw q k*evO (unr (inZ A) N (A.ato q k)) (red (A.ain q k) x) (red 0 []);rw[z2b,x4g _ (fun a=>unr (inZ A) N (A.ato q k) a []) _ (fun a=>u3h A N _ a)]
  congr 1
  cases red (A.ain q k) x<;>rfl
def AccR (A:RM R):Prop:=∀ q k,q<A.n->k<A.na q->A.aout q k=A.ain q k
theorem u3c {A:RM R} (h:AccR A) (hA:Inn A):∀ N q,q<A.n->∀ x,unr A N q x x=unr (inZ A) N q x []
 | 0,_,_,_=>rfl
 | N+1,q,hq,x=>by
  show endT A q x x+sum (fun k=>arcT A (unr A N) q k x x) (A.na q)=endT (inZ A) q x []+sum (fun k=>arcT (inZ A) (unr (inZ A) N) q k x []) (A.na q)
  congr 1
  ·show (if x=[]/\x=[] then A.fin q else zero)=if x=[]/\[]=[] then A.fin q else zero
   simp
  refine sum_congr fun k hk=>?_;rw[z3k,z3k,h q k hq hk];show A.aw q k*evO (unr A N (A.ato q k)) (red (A.ain q k) x) (red (A.ain q k) x)=A.aw q k*evO (unr (inZ A) N (A.ato q k)) (red (A.ain q k) x) (red 0 []);rw[z2b,x4g _ (fun a=>unr (inZ A) N (A.ato q k) a []) _ (fun a=>u3c h hA N _ (hA q k hq hk) a)]
  congr 1
  cases red (A.ain q k) x<;>rfl
theorem y4p (A:RM R) {x:List Int} (h:x≠[]):∀ N q y,unr (outZ A) N q x y=zero
 | 0,_,_=>rfl
 | N+1,q,y=>by
  show endT (outZ A) q x y+sum (fun k=>arcT (outZ A) (unr (outZ A) N) q k x y) (A.na q)=zero;have e1:endT (outZ A) q x y=zero:=if_neg (fun e=>h e.1);rw[e1,z0,sum_congr (g:=fun _=>zero) (fun k _=>?_),sum_zero];rw[z3k];show A.aw q k*evO (unr (outZ A) N (A.ato q k)) (red 0 x) (red (A.aout q k) y)=zero;rw[z2b];cases red (A.aout q k) y with
  | none=>exact m0 _
  | some b=>show A.aw q k*unr (outZ A) N (A.ato q k) x b=zero;rw[y4p A h N _ b,m0]
structure CatOf (A B C:RM R) (oa ob:Nat):Prop where
 start:C.start=oa+A.start
 lead:C.lead=A.lead*B.lead
 finA:∀ q,q<A.n->C.fin (oa+q)=zero
 finB:∀ p,p<B.n->C.fin (ob+p)=B.fin p
 arcsA:∀ q,q<A.n->∀ f:Int->Int->R->Nat->R,(∀ s t q,f s t zero q=zero)->sum (fun k=>f (C.ain (oa+q) k) (C.aout (oa+q) k) (C.aw (oa+q) k) (C.ato (oa+q) k)) (C.na (oa+q))=sum (fun k=>f (A.ain q k) (A.aout q k) (A.aw q k) (oa+A.ato q k)) (A.na q)+f 0 0 (A.fin q) (ob+B.start)
 arcsB:∀ p,p<B.n->∀ f:Int->Int->R->Nat->R,sum (fun k=>f (C.ain (ob+p) k) (C.aout (ob+p) k) (C.aw (ob+p) k) (C.ato (ob+p) k)) (C.na (ob+p))=sum (fun k=>f (B.ain p k) (B.aout p k) (B.aw p k) (ob+B.ato p k)) (B.na p)
section
variable {A B C:RM R} {oa ob:Nat} (h:CatOf A B C oa ob) (hA:Inn A) (hB:Inn B) (hs:B.start<B.n)
include h
theorem CatOf.unrB (hB:Inn B):∀ N p,p<B.n->∀ x y,unr C N (ob+p) x y=unr B N p x y
 | 0,_,_,_,_=>rfl
 | N+1,p,hp,x,y=>by
  show endT C (ob+p) x y+sum (fun k=>arcT C (unr C N) (ob+p) k x y) (C.na (ob+p))=endT B p x y+sum (fun k=>arcT B (unr B N) p k x y) (B.na p)
  congr 1
  ·unfold endT;rw[h.finB p hp]
  rw[sum_congr (fun k _=>z3k C (unr C N) (ob+p) k x y),h.arcsB p hp (fun s t w r=>w*evO (unr C N r) (red s x) (red t y))];refine sum_congr fun k hk=>?_;rw[z3k,z4x (fun a b=>CatOf.unrB hB N (B.ato p k) (hB p k hp hk) a b)]
theorem CatOf.unrA (N q:Nat) (c:q<A.n) (x y:List Int):unr C (N+1) (oa+q) x y=sum (fun k=>A.aw q k*evO (unr C N (oa+A.ato q k)) (red (A.ain q k) x) (red (A.aout q k) y)) (A.na q)+A.fin q*unr C N (ob+B.start) x y:=by
 show endT C (oa+q) x y+sum (fun k=>arcT C (unr C N) (oa+q) k x y) (C.na (oa+q))=_;have d:endT C (oa+q) x y=zero:=by unfold endT;rw[h.finA q c];split<;>rfl
 rw[d,z0,sum_congr (fun k _=>z3k C (unr C N) (oa+q) k x y),h.arcsA q c (fun s t w r=>w*evO (unr C N r) (red s x) (red t y)) (fun _ _ _=>zm _)]
 congr 1
theorem CatOf.upper (hz:∀ q k,A.aout q k=0) (hzB:∀ p k,B.ain p k=0) (hA:Inn A) (hB:Inn B) (hs:B.start<B.n):∀ N q,q<A.n->∀ x y,le (unr C N (oa+q) x y) (unr A N q x []*unr B N B.start [] y)
 | 0,_,_,_,_=>zero_le _
 | N+1,q,hq,x,y=>by
  have hBz:outZ B=B:=by unfold outZ;cases B;simp only at hzB ⊢;congr;funext p k;exact(hzB p k).symm
  rw[h.unrA N q hq x y];refine le_trans (b:=unr A (N+1) q x []*unr B N B.start [] y) ?_ (le_times _ (z7i B N _ _ _));show le _ ((endT A q x []+sum (fun k=>arcT A (unr A N) q k x []) (A.na q))*_);rw[dM,aC (endT A q x []*_)];refine le_plus ?_ ?_
  ·rw[sum_mul];refine sum_le fun k hk=>?_;rw[z3k,hz q k,z2b,z2b,mA];refine le_times _ ?_;rw[<- y8y];cases h1:red (A.ain q k) x with
   | none=>exact le_refl _
   | some a=>exact CatOf.upper hz hzB hA hB hs N (A.ato q k) (hA q k hq hk) a y
  rw[h.unrB hB N B.start hs x y];by_cases e:x=[]
  ·subst e;have e1:endT A q [] []=A.fin q:=if_pos ⟨rfl,rfl⟩;rw[e1];exact le_refl _
  rw[<- hBz,y4p B e,m0];exact zero_le _
theorem CatOf.lower (hz:∀ q k,A.aout q k=0) (hA:Inn A) (hB:Inn B) (hs:B.start<B.n) (M':Nat) (y:List Int):∀ M q,q<A.n->∀ x,le (unr A M q x []*unr B M' B.start [] y) (unr C (M+M') (oa+q) x y)
 | 0,_,_,_=>by
  show le (zero*_) _;rw[zm];exact zero_le _
 | M+1,q,hq,x=>by
  rw[show M+1+M'=M+M'+1 by omega,h.unrA (M+M') q hq x y];show le ((endT A q x []+sum (fun k=>arcT A (unr A M) q k x []) (A.na q))*_) _;rw[dM,aC (endT A q x []*_)];refine le_plus ?_ ?_
  ·rw[sum_mul];refine sum_le fun k hk=>?_;rw[z3k,hz q k,z2b,z2b,mA];refine le_times _ ?_;rw[<- y8y];cases h1:red (A.ain q k) x with
   | none=>exact le_refl _
   | some a=>exact CatOf.lower hz hA hB hs M' y M (A.ato q k) (hA q k hq hk) a
  by_cases e:x=[]
  ·subst e;have e1:endT A q [] []=A.fin q:=if_pos ⟨rfl,rfl⟩;rw[e1,h.unrB hB _ B.start hs];exact le_times _ ((v6h B B.start [] y).to (Nat.le_add_left _ _))
  have e1:endT A q x []=zero:=if_neg (fun h=>e h.1);rw[e1,zm];exact zero_le _
end
variable [CSC R]
theorem CatOf.inZ {A B C:RM R} {c d:Nat} (h:CatOf A B C c d):CatOf (inZ A) (inZ B) (inZ C) c d :=
 ⟨h.start,h.lead,h.finA,h.finB,fun q g f hf=>h.arcsA q g (fun s t w r=>f s 0 w r) (fun s t q=>hf s 0 q),fun p i f=>h.arcsB p i (fun s t w r=>f s 0 w r)⟩
theorem u4h {A:RM R} (d:∀ q k,A.ain q k=0) (c:∀ q k,A.aout q k=0) (m:Inn A) (h:A.start<A.n):rel A [] []=A.lead*sum (fun j=>starM (fun i j=>sum (fun k=>if A.ato i k=j then A.aw i k else zero) (A.na i)) A.n A.start j*A.fin j) A.n:=by
 show A.lead*vl A A.start [] []=_;rw[x5x m h]
 congr 1
 refine sum_congr fun j l=>?_
 congr 1
 ·refine starM_congr (fun i j _ _=>?_) _ _ h l;unfold sil;refine sum_congr fun k _=>?_;simp[d i k,c i k]
 show endT A j [] []+sum (fun k=>nsT A (vl A) j k [] []) (A.na j)=A.fin j;rw[sum_congr (f:=fun k=>nsT A (vl A) j k [] []) (g:=fun _=>zero) (fun k _=>if_pos ⟨d j k,c j k⟩),sum_zero,a0];exact if_pos ⟨rfl,rfl⟩
theorem CatOf.rel {A B C:RM R} {D E:Nat} (h:CatOf A B C D E) (m:∀ q k,A.aout q k=0) (g:∀ p k,B.ain p k=0) (d:Inn A) (i:Inn B) (s:Inn C) (c:A.start<A.n) (j:B.start<B.n) (l:C.start<C.n) (x y:List Int) :
  rel C x y=rel A x []*rel B [] y:=by
 have o:=y5m s l x y;have z:=(y5m d c x []).mul (y5m i j [] y) (fun N=>le_times _ (z7i A N _ _ _)) (fun N=>le_times _ (z7i B N _ _ _));have e:∀ u v:R,A.lead*u*(B.lead*v)=C.lead*(u*v):=fun u v=>by
  rw[h.lead,mA,mA,<- mA u B.lead v,mC u B.lead,mA]
 refine o.eq_of z (fun N=>⟨N,?_⟩) (fun N=>⟨N+N,?_⟩)
 ·show le (C.lead*unr C N C.start x y) (A.lead*unr A N A.start x []*(B.lead*unr B N B.start [] y));rw[e,h.start];exact le_times _ (h.upper m g d i j N A.start c x y)
 show le (A.lead*unr A N A.start x []*(B.lead*unr B N B.start [] y)) (C.lead*unr C (N+N) C.start x y);rw[e,h.start];exact le_times _ (h.lower m d i j N y N A.start c x)
theorem x7x {A:RM R} (c:Inn A) {na:Nat} {x:Nat->Int} (k:∀ i,i<na->x i≠0) (y:Nat->Int) {i:Nat} (hi:i<na) (v:Nat->R):dot A.n v (cAt A na x 0 y i 0)=dot A.n (stp A (x i) 0 (rst (sil A) A.n v)) (cAt A na x 0 y (i+1) 0):=by
 have h:dot A.n v (cAt A na x 0 y i 0)=dot A.n v (sol (sil A) A.n (fun p=>dT A p (ls x na i) (ls y 0 0))):=z1m (fun _ _=>rfl) (fun q d=>x5x c d _ _);rw[h,x2k,y7s c];refine z1m (fun _ _=>rfl) (fun p l=>?_);rw[y8x k (fun j g=>absurd g (Nat.not_lt_zero j)) (by omega) (Nat.le_refl 0)];unfold fAt gAt;simp[show ¬ i=na by omega,hi,z0,a0]
theorem v2s {A:RM R} (h:Inn A) {na:Nat} {x:Nat->Int} (k:∀ i,i<na->x i≠0) (y:Nat->Int) (v:Nat->R):dot A.n v (cAt A na x 0 y na 0)=dot A.n (rst (sil A) A.n v) A.fin:=by
 have g:dot A.n v (cAt A na x 0 y na 0)=dot A.n v (sol (sil A) A.n (fun p=>dT A p (ls x na na) (ls y 0 0))):=z1m (fun _ _=>rfl) (fun q c=>x5x h c _ _);rw[g,x2k];refine z1m (fun _ _=>rfl) (fun p l=>?_);rw[y8x k (fun j d=>absurd d (Nat.not_lt_zero j)) nlr (Nat.le_refl 0)];unfold fAt gAt;simp[z0,a0]
end
end
section
def MD.inZ (D:MD):MD:={ D with aout:=fun _ _=>0 }
open CSR
section
variable {D:MD} (hV:VM D) {k:KK} (hk:k.1=D.kind)
include hV hk
end
end
section
def selZ (x:Int) (i _:Int):Bool:=decide (i=x)
theorem y9p (D:MD) (x:Int) (v:Nat->ByteArray) (q:Nat):∀ (d:Nat) (s:WS),z3f D.inZ (sel3 x) v q d s=z3f D (selZ x) v q d s
 | 0,_=>rfl
 | d+1,s=>by
  show arcC D.inZ (sel3 x) v q d (z3f D.inZ (sel3 x) v q d s)=arcC D (selZ x) v q d (z3f D (selZ x) v q d s);rw[y9p D x v q d s];have e:sel3 x (D.ain q d) 0=selZ x (D.ain q d) (D.aout q d):=by unfold sel3 selZ;simp
  show (if sel3 x (D.ain q d) 0=true then _ else _)=(if selZ x (D.ain q d) (D.aout q d)=true then _ else _)
  rw[e];rfl
theorem x0w (D:MD) (x:Int) (v:Nat->ByteArray):∀ (q:Nat) (s:WS),z2y D.inZ (sel3 x) v q s=z2y D (selZ x) v q s
 | 0,_=>rfl
 | q+1,s=>by
  show rowC D.inZ (sel3 x) v q (z2y D.inZ (sel3 x) v q s)=rowC D (selZ x) v q (z2y D (selZ x) v q s);rw[x0w D x v q s];unfold rowC
  split
  ·rfl
  exact y9p D x v q _ _
theorem x4w (D:MD) (v:Nat->ByteArray):∀ (q:Nat) (s:ByteArray × Nat),endC D.inZ v q s=endC D v q s
 | 0,_=>rfl
 | q+1,s=>by
  show (if v q=⟨#[]⟩\/D.fin q=⟨#[]⟩ then endC D.inZ v q s else z2e D.kind (endC D.inZ v q s).1 (z0s D.kind (v q) (D.fin q) (endC D.inZ v q s).2).1 (z0s D.kind (v q) (D.fin q) (endC D.inZ v q s).2).2)=_
  rw[x4w D v q s];rfl
theorem v4c (D:MD) (v:Nat->ByteArray) (e:Nat):finC D.inZ v e=finC D v e:=by
 show (if (endC D.inZ v D.n (z0z D.kind,e)).2≠0 then (⟨#[]⟩,(endC D.inZ v D.n (z0z D.kind,e)).2) else ((endC D.inZ v D.n (z0z D.kind,e)).1,0))=_
 rw[x4w];rfl
def dwE (D:MD) (st:StarO) (e0:Nat) (x:Nat->Int):Nat->WS
 | 0=>(z6k D,e0)
 | i+1=>if (dwE D st e0 x i).2≠0 then dwE D st e0 x i
  else z2y D (sel3 (x i)) (z3w D.kind D.n st (dwE D st e0 x i).1 (dwE D st e0 x i).2).1 D.n (z1f,(z3w D.kind D.n st (dwE D st e0 x i).1 (dwE D st e0 x i).2).2)
def domE (D:MD) (st:StarO) (e0 na:Nat) (x:Nat->Int):ByteArray × Nat :=
 finC D (z3w D.kind D.n st (dwE D st e0 x na).1 (dwE D st e0 x na).2).1 (z3w D.kind D.n st (dwE D st e0 x na).1 (dwE D st e0 x na).2).2
theorem y3e {D:MD} {st:StarO} {e0:Nat} {x:Nat->Int} {i:Nat} (h:(dwE D st e0 x i).2≠0):∀ d,dwE D st e0 x (i+d)=dwE D st e0 x i
 | 0=>rfl
 | d+1=>by
  show (if (dwE D st e0 x (i+d)).2≠0 then dwE D st e0 x (i+d) else _)=_
  rw[y3e h d,if_pos h]
theorem x8k {D:MD} {st:StarO} {e0:Nat} {x:Nat->Int} (hl:smS D.lead) (hw:∀ q d,smS (D.aw q d)):∀ i j,smS ((dwE D st e0 x i).1 j)
 | 0,j=>by
  show smS (z6k D j);unfold z6k;split
  ·exact hl
  exact Nat.zero_le _
 | i+1,j=>by
  unfold dwE
  split
  ·exact x8k hl hw i j
  exact z6b (fun q=>y2u (fun q=>x8k hl hw i q) q) _ (fun _=>Nat.zero_le _) j
open CSR
section
variable {D:MD} (hV:VM D) {k:KK} (hk:k.1=D.kind)
include hV hk
theorem v9c {st:StarO} (hst:StOk k D st) {e0:Nat} {na:Nat} {x:Nat->Int} (hx:∀ i,i<na->x i≠0) (y:Nat->Int):∀ i,i<=na->(dwE D st e0 x i).2=0 ->
  e0=0/\∃ vv:Nat->RK k,(∀ q,q<D.n->Pv k ((dwE D st e0 x i).1 q) (vv q))/\dot D.n vv (cAt (rmOf k D) na x 0 y i 0)=rel (rmOf k D) (ls x na 0) []
 | 0,_,he=>by
  refine⟨he,fun p=>if p=(rmOf k D).start then (rmOf k D).lead else zero,fun p hp=>?_,?_⟩
  ·show Pv k (z6k D p) _;unfold z6k;by_cases e2:p=D.start.toNat
   ·rw[if_pos e2];simp only[if_pos (show p=(rmOf k D).start from e2)];exact .inr (z4v hk hV.lead)
   rw[if_neg e2];simp only[if_neg (show ¬ p=(rmOf k D).start from e2)];exact .inl ⟨rfl,rfl⟩
  have hs:=hV.stn k;unfold dot;have e1:sum (fun q=>(if q=(rmOf k D).start then (rmOf k D).lead else zero)*cAt (rmOf k D) na x 0 y 0 0 q) (rmOf k D).n=(if (rmOf k D).start=(rmOf k D).start then (rmOf k D).lead else zero)*cAt (rmOf k D) na x 0 y 0 0 (rmOf k D).start :=
   sum_single _ hs (fun q _ hq=>by rw[if_neg hq,zm])
  rw[if_pos rfl] at e1;exact e1
 | i+1,hi,he=>by
  have h0:(dwE D st e0 x i).2=0:=by
   by_cases e:(dwE D st e0 x i).2=0
   ·exact e
   have:=y3e (D:=D) (st:=st) (x:=x) e 1;rw[this] at he;exact absurd he e
  obtain⟨he0,vv,hvv,hd⟩:=v9c hst hx y i (by omega) h0;refine⟨he0,?_⟩;unfold dwE at he ⊢;rw[if_neg (by omega)] at he ⊢;have h1:=z4f D.n he;have h2:=(y8j hk hst hvv h1).2;have h3:=(y2y hV hk (x5w (x i)) h2 D.n (s:=(z1f,(z3w D.kind D.n st (dwE D st e0 x i).1 (dwE D st e0 x i).2).2)) (lv:=fun _=>zero) nlr (fun p _=>.inl ⟨rfl,rfl⟩) he).2;refine⟨stp (rmOf k D) (x i) 0 (rst (sil (rmOf k D)) D.n vv),fun p hp=>(h3 p hp).eq (z0 _),?_⟩;rw[<- hd];exact(x7x (A:=rmOf k D) (hV.inn k) hx y (by omega) vv).symm
theorem u1u {st:StarO} (c:StOk k D st) {j na:Nat} {x:Nat->Int} (o:∀ i,i<na->x i≠0) (d:(domE D st j na x).2=0):j=0/\Sv k (domE D st j na x).1 (rel (rmOf k D) (ls x na 0) []):=by
 unfold domE at d ⊢;have m:=y0e d;have z:=y4c m;obtain⟨l,h,g,u⟩:=v9c hV hk c o x na nlr z;have s:=(y8j hk c g m).2;have p:dot D.n h (cAt (rmOf k D) na x 0 x na 0)=dot D.n (rst (sil (rmOf k D)) D.n h) (rmOf k D).fin:=v2s (A:=rmOf k D) (hV.inn k) o x h;rw[<- u,p];exact⟨l,(y8p hV hk s d).2⟩
end
def EqS (n:Nat) (S S':Nat->Nat->ByteArray):Prop:=∀ q p,q<n->p<n->S q p=S' q p
theorem v2r {k:Int} {n:Nat} {S S':Nat->Nat->ByteArray} (h:EqS n S S') {v:Nat->ByteArray} {q:Nat} (hq:q<n):∀ (p:Nat) (s:WS),p<=n->rstP k S v q p s=rstP k S' v q p s
 | 0,_,_=>rfl
 | p+1,s,hp=>by unfold rstP;rw[v2r h hq p s (by omega),h q p hq (by omega)]
theorem v0z {k:Int} {n:Nat} {S S':Nat->Nat->ByteArray} (h:EqS n S S') {v:Nat->ByteArray}:∀ (q:Nat) (s:WS),q<=n->rstQ k S v n q s=rstQ k S' v n q s
 | 0,_,_=>rfl
 | q+1,s,hq=>by unfold rstQ;rw[v0z h q s (by omega),v2r h (by omega) n _ nlr]
theorem v8d {k:Int} {n:Nat} {S S':Nat->Nat->ByteArray} (h:EqS n S S') (v:Nat->ByteArray) (e:Nat):z3w k n (some S) v e=z3w k n (some S') v e:=by
 show (if e≠0 then (v,e) else rstQ k S v n n (z1f,e))=if e≠0 then (v,e) else rstQ k S' v n n (z1f,e)
 rw[v0z h n _ nlr]
theorem v7n {D:MD} {S S':Nat->Nat->ByteArray} (h:EqS D.n S S') (na:Nat) (x:Nat->Int) (nb:Nat) (y:Nat->Int) (i j:Nat) (s:RS):y0u D (some S) na x nb y i j s=y0u D (some S') na x nb y i j s:=by
 unfold y0u
 split
 ·rfl
 simp only[v8d h]
theorem v1n {D:MD} {S S':Nat->Nat->ByteArray} (h:EqS D.n S S') (na:Nat) (x:Nat->Int) (nb:Nat) (y:Nat->Int) (i:Nat):∀ (j:Nat) (s:RS),colG D (some S) na x nb y i j s=colG D (some S') na x nb y i j s
 | 0,_=>rfl
 | j+1,s=>by unfold colG;rw[v1n h na x nb y i j s,v7n h]
theorem v1b {D:MD} {S S':Nat->Nat->ByteArray} (h:EqS D.n S S') (na:Nat) (x:Nat->Int) (nb:Nat) (y:Nat->Int):∀ (m i:Nat) (row:Nat->Option VV) (e:Nat),outG D (some S) na x nb y m i row e=outG D (some S') na x nb y m i row e
 | 0,_,_,_=>rfl
 | m+1,i,row,e=>by unfold outG;simp only[v1n h,v1b h]
theorem v3a {D:MD} {S S':Nat->Nat->ByteArray} (h:EqS D.n S S') (c na:Nat) (x:Nat->Int) (nb:Nat) (y:Nat->Int):wgtG D (some S) c na x nb y=wgtG D (some S') c na x nb y:=v1b h na x nb y _ _ _ _
def u0g (k:KK) (D:MD) (sel:Int->Int->Bool) (q p:Nat):ByteArray:=vtxt (starM (fun i j=>wval k (smat D sel i j)) D.n q p).1
theorem SilOk.closed {D:MD} {k:KK} (u:VM D) (d:k.1=D.kind) (hn:D.n<=60) (m:serr D silB D.n=0) (hf:FitM D.n (fun i j=>wval k (smat D silB i j))) {st:StarO} {e:Nat} (h:SilOk D silB st e) {na:Nat} {x:Nat->Int} {nb:Nat} {y:Nat->Int} :
  wgtG D st e na x nb y=wgtG D none 0 na x nb y/\NoSel D silB\/wgtG D st e na x nb y=wgtG D (some (u0g k D silB)) 0 na x nb y/\¬ NoSel D silB:=by
 have l:e=0:=h.fit hn m (fun A g=>by
  have E:A=k:=Subtype.ext (g.trans d.symm);subst E;exact hf)
 rcases h with ⟨c,rfl,_⟩|⟨c,_,_,S,rfl,z⟩|⟨_,c,_⟩
 ·subst l;exact .inl ⟨rfl,c⟩
 ·subst l;refine .inr ⟨v3a (fun q p o s=>?_) 0 na x nb y,c⟩;have C:=z k d q p o s;rw[C.1];unfold u0g
  congr 2
  exact starM_congr (fun i j hi B=>((x2f u d m hi B).val).symm) q p o s
 exact absurd l c
end
section
open Go.RowKit Go.Deep
def gvs (n:Nat) (X:Nat->Value):List Value:=(List.range n).map X
theorem x8z (n:Nat) (X:Nat->Value):(gvs n X).length=n:=by simp[gvs]
theorem v2d (n:Nat) (X:Nat->Value) (i:Nat) (h:i<n):(gvs n X)[i]?=some (X i):=by simp[gvs,h]
theorem x8s {n:Nat} {X Y:Nat->Value} (h:∀ i,i<n->X i=Y i):gvs n X=gvs n Y:=by
 unfold gvs;exact List.map_congr_left fun i hi=>by rw[h i (List.mem_range.1 hi)]
def OwV (w:World) (B:Nat) (e:TypeId) (v:Value) (n:Nat) (X:Nat->Value):Prop:=w.ownsRow B e 1 v n (gvs n X)
theorem OwV.nil (w:World) (B:Nat) (e:TypeId) (X:Nat->Value):OwV w B e (.slice none 0 0) 0 X:=World.ownsRow_nil w B e 1
theorem OwV.congr {w:World} {B:Nat} {e:TypeId} {v:Value} {n:Nat} {X Y:Nat->Value} (h:OwV w B e v n X) (c:∀ i,i<n->X i=Y i):OwV w B e v n Y:=by
 unfold OwV;rw[<- x8s c];exact h
theorem OwV.kept {w c:World} {B:Nat} {e:TypeId} {v:Value} {n:Nat} {X:Nat->Value} {z:Option Nat} (h:OwV w B e v n X) (hb:w.grownBy c z) (d:∀ k,z=some k->k<B):OwV c B e v n X :=
 World.ownsRow.kept h hb (by
  cases g:v.ownBlock with
  | none=>exact .inl rfl
  | some k=>exact .inr (fun e=>by have:=(World.ownsRow.lt h k g).1;have:=d k e.symm;omega))
theorem OwV.set {w:World} {B:Nat} {e:TypeId} {g n cap:Nat} {X:Nat->Value} (h:OwV w B e (.slice (some ⟨g,0,none⟩) n cap) n X) {i:Nat} (hi:i<n) (x:Value) :
  OwV (w.setCell ⟨g,i,none⟩ x) B e (.slice (some ⟨g,0,none⟩) n cap) n (fun j=>if j=i then x else X j):=by
 refine⟨by rw[x8z,Nat.mul_one],?_⟩
 rcases h.2 with ⟨k,_⟩|⟨C,p,d,k,z,l,s,u,m,o⟩
 ·cases k
 cases k;refine .inr ⟨g,cap,d.setIfInBounds i x,rfl,z,by simp[World.setCell,Array.getElem?_modify,l],s,u,by simpa using m,?_⟩;rw[Nat.mul_one] at m o ⊢;refine List.ext_getElem? fun j=>?_;by_cases c:j<n
 ·rw[v2d _ _ _ c,List.getElem?_take_of_lt c,Array.getElem?_toList,Array.getElem?_setIfInBounds];by_cases e:i=j
  ·subst e;rw[if_pos rfl,if_pos (by omega),if_pos rfl]
  rw[if_neg e,if_neg (fun h=>e h.symm)];have:=v2d n X j c;rw[<- o,List.getElem?_take_of_lt c,Array.getElem?_toList] at this;exact this
 rw[List.getElem?_eq_none (by rw[List.length_take];omega),List.getElem?_eq_none (by rw[x8z];omega)]
structure OMV (w:World) (Z:Nat->Prop) (B:Nat) (eR eT:TypeId) (g n:Nat) (R:Nat->Value) (L:Nat->Nat) (X:Nat->Nat->Value):Prop where
 top:w.rowIs g eT n R
 base:B<=g
 zg:¬ Z g
 zlt:∀ b,Z b->b<w.heap.size
 row:∀ i,i<n->OwV w B eR (R i) (L i) (X i)
 far:∀ i,i<n->∀ b,(R i).ownBlock=some b->b≠g/\¬ Z b
 apart:∀ i j,i<n->j<n->i≠j->∀ b,(R i).ownBlock=some b->(R j).ownBlock≠some b
namespace OMV
variable {w w':World} {Z:Nat->Prop} {B:Nat} {eR eT:TypeId} {g n:Nat} {R:Nat->Value} {L:Nat->Nat} {X:Nat->Nat->Value}
theorem kept {z:Option Nat} (h:OMV w Z B eR eT g n R L X) (hb:w.grownBy w' z) (d:∀ k,z=some k->k<B):OMV w' Z B eR eT g n R L X :=
 ⟨h.top.of_block (hb.block g h.top.lt (fun e=>by have:=d g e.symm;have:=h.base;omega)),h.base,h.zg,fun b c=>Nat.lt_of_lt_of_le (h.zlt b c) hb.size,fun i hi=>(h.row i hi).kept hb d,h.far,h.apart⟩
theorem congr {c:Nat->Nat->Value} (h:OMV w Z B eR eT g n R L X) (k:∀ i j,i<n->j<L i->X i j=c i j):OMV w Z B eR eT g n R L c :=
 ⟨h.top,h.base,h.zg,h.zlt,fun i hi=>(h.row i hi).congr fun j d=>k i j hi d,h.far,h.apart⟩
theorem congrL {L':Nat->Nat} (h:OMV w Z B eR eT g n R L X) (c:∀ i,i<n->L i=L' i):OMV w Z B eR eT g n R L' X :=
 ⟨h.top,h.base,h.zg,h.zlt,fun i hi=>by rw[<- c i hi];exact h.row i hi,h.far,h.apart⟩
theorem made (w:World) (Z:Nat->Prop) (d:∀ b,Z b->b<w.heap.size) (B:Nat) (k:B<=w.heap.size) (g c:TypeId) (n:Nat) (X:Nat->Nat->Value) :
  OMV (w.alloc (.cells (madeCells #[.slice none 0 0] n) c)) Z B g c w.heap.size n (fun _=>.slice none 0 0) (fun _=>0) X :=
 ⟨World.rowIs_made w _ n c,k,fun h=>Nat.lt_irrefl _ (d _ h),fun b h=>by have:=d b h;simp;omega,fun i _=>OwV.nil _ _ _ _,fun i _ b h=>by simp[Value.ownBlock] at h,fun i j _ _ _ b h=>by simp[Value.ownBlock] at h⟩
theorem cell (h:OMV w Z B eR eT g n R L X) {i:Nat} (hi:i<n):w.cell? ⟨g,i,none⟩=some (R i):=h.top.cell hi
theorem lt (h:OMV w Z B eR eT g n R L X):g<w.heap.size:=h.top.lt
end OMV
end
section
open Go.RowKit Go.Deep
def cat (c:Nat->List Value) (n:Nat):List Value:=(List.range n).flatMap c
theorem z5f (c:Nat->List Value) (n:Nat):cat c (n+1)=cat c n++c n:=by unfold cat;rw[List.range_succ,List.flatMap_append];simp
theorem z4r {c:Nat->List Value} {s:Nat} (hc:∀ i,(c i).length=s):∀ n,(cat c n).length=n*s
 | 0=>by simp[cat]
 | n+1=>by rw[z5f,List.length_append,z4r hc n,hc n,Nat.add_mul,Nat.one_mul]
theorem z2g {c d:Nat->List Value}:∀ {n:Nat},(∀ i,i<n->c i=d i)->cat c n=cat d n
 | 0,_=>rfl
 | n+1,h=>by rw[z5f,z5f,z2g (fun i hi=>h i (by omega)),h n (by omega)]
theorem z5p {c:Nat->List Value} {s:Nat} (hc:∀ i,(c i).length=s) {i j:Nat} (hj:j<s):∀ {n:Nat},i<n->(cat c n)[i*s+j]?=(c i)[j]?
 | 0,h=>by omega
 | n+1,h=>by
  rw[z5f];by_cases e:i=n
  ·subst e;rw[List.getElem?_append_right (by rw[z4r hc];omega),z4r hc,Nat.add_sub_cancel_left]
  have h1:i<n:=by omega
  have h2:i*s+j<n*s:=Nat.lt_of_lt_of_le (by rw[Nat.add_lt_add_iff_left];exact hj:i*s+j<i*s+s) (by rw[<- Nat.succ_mul];exact Nat.mul_le_mul_right s h1);rw[List.getElem?_append_left (by rw[z4r hc];exact h2)];exact z5p hc hj h1
theorem y1v {c:Nat->List Value} {s:Nat} (hc:∀ i,(c i).length=s) {i j:Nat} (hj:j<s) (x:Value):∀ {n:Nat},i<n->(cat c n).set (i*s+j) x=cat (fun k=>if k=i then (c i).set j x else c k) n
 | 0,h=>by omega
 | n+1,h=>by
  rw[z5f,z5f];by_cases e:i=n
  ·subst e;rw[List.set_append_right _ _ (by rw[z4r hc];omega),z4r hc,Nat.add_sub_cancel_left,if_pos rfl]
   congr 1
   exact z2g fun k hk=>by rw[if_neg (by omega)]
  have h1:i<n:=by omega
  have h2:i*s+j<n*s:=Nat.lt_of_lt_of_le (by rw[Nat.add_lt_add_iff_left];exact hj:i*s+j<i*s+s) (by rw[<- Nat.succ_mul];exact Nat.mul_le_mul_right s h1);rw[List.set_append_left _ _ (by rw[z4r hc];exact h2),y1v hc hj x h1,if_neg (fun e2=>e e2.symm)]
theorem y4s {w:World} {B:Nat} {e:TypeId} {s g n cap:Nat} {xs:List Value} (h:w.ownsRow B e s (.slice (some ⟨g,0,none⟩) n cap) n xs) (o:Nat) (x:Value) :
  (w.setCell ⟨g,o,none⟩ x).ownsRow B e s (.slice (some ⟨g,0,none⟩) n cap) n (xs.set o x):=by
 refine⟨by rw[List.length_set];exact h.1,?_⟩
 rcases h.2 with ⟨d,_⟩|⟨z,j,c,d,u,i,p,m,k,l⟩
 ·cases d
 cases d;refine .inr ⟨g,cap,c.setIfInBounds o x,rfl,u,by simp[World.setCell,Array.getElem?_modify,i],p,m,by simpa using k,?_⟩;rw[Array.toList_setIfInBounds,List.take_set,l]
theorem z6a {w:World} {B:Nat} {e:TypeId} {s g n cap o:Nat} {xs:List Value} {x:Value} (h:w.ownsRow B e s (.slice (some ⟨g,0,none⟩) n cap) n xs) (c:xs[o]?=some x):w.cell? ⟨g,o,none⟩=some x:=by
 have:=World.ownsRow.cells h (g:=g) rfl o _ c;rw[Addr.add_lit,Nat.zero_add] at this;exact this
theorem z5y {w:World} {B:Nat} {e:TypeId} {s g n cap:Nat} {xs:List Value} (h:w.ownsRow B e s (.slice (some ⟨g,0,none⟩) n cap) n xs) (o:Nat):w.frozen? ⟨g,o,none⟩=false:=by
 rcases h.2 with ⟨c,_⟩|⟨l,i,j,c,k,d,_⟩
 ·cases c
 cases c;simp[World.frozen?,d]
theorem z7v {w:World} {B:Nat} {e:TypeId} {s n:Nat} {v:Value} {xs:List Value} (h:w.ownsRow B e s v n xs) (hn:0<n):∃ g cap,v=.slice (some ⟨g,0,none⟩) n cap/\B<=g/\g<w.heap.size/\n<=cap/\cap<=maxLen:=by
 rcases h.2 with ⟨_,d⟩|⟨g,cap,i,rfl,d,c,k,j,_⟩
 ·omega
 exact⟨g,cap,rfl,d,(Array.getElem?_eq_some_iff.1 c).1,k,j⟩
theorem z1h {w:World} {B:Nat} {e:TypeId} {s n:Nat} {v:Value} {xs:List Value} (h:w.ownsRow B e s v n xs):∃ a cap,v=.slice a n cap/\n<=cap/\cap<=maxLen:=by
 rcases h.2 with ⟨rfl,c⟩|⟨g,cap,d,rfl,c,j,k,i,_⟩
 ·exact⟨none,0,by rw[c],by omega,Nat.zero_le _⟩
 exact⟨_,cap,rfl,k,i⟩
theorem v1p {w:World} {B A:Nat} {e e':TypeId} {s o n C:Nat} {v v':Value} {xs d:List Value} (h:w.ownsRow B e s v n xs) (u:w.ownsRow A e' o v' C d) (p:e≠e') {b:Nat} (hb:v.ownBlock=some b):v'.ownBlock≠some b:=by
 rcases h.2 with ⟨rfl,_⟩|⟨g,m,l,rfl,_,i,_⟩
 ·cases hb
 rcases u.2 with ⟨rfl,_⟩|⟨D,k,j,rfl,_,c,_⟩
 ·simp[Value.ownBlock]
 simp[Value.ownBlock] at hb ⊢;intro z;subst hb;subst z;rw[i] at c;simp at c;exact p c.2
theorem z2q {w c:World} {B:Nat} {e:TypeId} {s n:Nat} {v:Value} {xs:List Value} {z:Option Nat} (h:w.ownsRow B e s v n xs) (i:w.grownBy c z) (d:∀ b,v.ownBlock=some b->z≠some b):c.ownsRow B e s v n xs :=
 World.ownsRow.kept h i (by
  cases g:v.ownBlock with
  | none=>exact .inl rfl
  | some b=>exact .inr (fun e=>d b g e.symm))
theorem z5q {w:World} {B:Nat} {e:TypeId} {s n:Nat} {v:Value} {xs:List Value} (h:w.ownsRow B e s v n xs) {p:Addr} (d:v.ownBlock≠some p.block) (x:Value):(w.setCell p x).ownsRow B e s v n xs :=
 z2q h (z:=some p.block) ⟨rfl,rfl,rfl,by simp,fun q _ c=>blk_setCell_other _ _ _ _ (fun e=>c (by rw[e]))⟩ (fun b hb e=>d (by rw[hb,e]))
def arc4 (D:MD) (i k:Nat):List Value:=[.int .i64 (D.ain i k),.int .i64 (D.aout i k),.string (D.aw i k),.int .i64 (D.ato i k)]
def st2 (D:MD) (R:Nat->Value) (i:Nat):List Value:=[.string (D.fin i),R i]
structure OwM (w:World) (B:Nat) (sv:Value) (D:MD) (R:Nat->Value):Prop where
 top:w.ownsRow B 57 2 sv D.n (cat (st2 D R) D.n)
 row:∀ i,i<D.n->w.ownsRow B 59 4 (R i) (D.na i) (cat (arc4 D i) (D.na i))
 apart:∀ i j,i<D.n->j<D.n->i≠j->∀ b,(R i).ownBlock=some b->(R j).ownBlock≠some b
def z1e (kd:Int) (start:Int) (lead:ByteArray):MD:=⟨kd,start,lead,0,fun _=>⟨#[]⟩,fun _=>0,fun _ _=>0,fun _ _=>0,fun _ _=>⟨#[]⟩,fun _ _=>0⟩
def MD.state (D:MD) (f:ByteArray):MD:={ D with n:=D.n+1,fin:=fun i=>if i=D.n then f else D.fin i,na:=fun i=>if i=D.n then 0 else D.na i }
def MD.setFin (D:MD) (q:Nat) (f:ByteArray):MD:={ D with fin:=fun i=>if i=q then f else D.fin i }
def MD.arc (D:MD) (q:Nat) (a b:Int) (x:ByteArray) (t:Int):MD :=
 { D with
  na:=fun i=>if i=q then D.na q+1 else D.na i
  ain:=fun i k=>if i=q/\k=D.na q then a else D.ain i k
  aout:=fun i k=>if i=q/\k=D.na q then b else D.aout i k
  aw:=fun i k=>if i=q/\k=D.na q then x else D.aw i k
  ato:=fun i k=>if i=q/\k=D.na q then t else D.ato i k }
theorem y7d (D:MD) (i k:Nat):(arc4 D i k).length=4:=rfl
theorem z4y (D:MD) (R:Nat->Value) (i:Nat):(st2 D R i).length=2:=rfl
theorem OwM.empty (w:World) (B:Nat) (c st:Int) (d:ByteArray) (R:Nat->Value):OwM w B (.slice none 0 0) (z1e c st d) R :=
 ⟨World.ownsRow_nil w B _ 2,fun _ hi=>absurd hi (Nat.not_lt_zero _),fun _ _ hi=>absurd hi (Nat.not_lt_zero _)⟩
namespace OwM
variable {w w':World} {B:Nat} {sv:Value} {D:MD} {R:Nat->Value}
theorem kept {z:Option Nat} (h:OwM w B sv D R) (c:w.grownBy w' z) (d:∀ k,z=some k->k<B):OwM w' B sv D R :=
 ⟨z2q h.top c (fun b hb e=>by have:=d b e;have:=(World.ownsRow.lt h.top b hb).1;omega),
  fun i hi=>z2q (h.row i hi) c (fun b hb e=>by have:=d b e;have:=(World.ownsRow.lt (h.row i hi) b hb).1;omega),h.apart⟩
theorem other (h:OwM w B sv D R) {p:Addr} (d:sv.ownBlock≠some p.block) (c:∀ i,i<D.n->(R i).ownBlock≠some p.block) (v:Value):OwM (w.setCell p v) B sv D R :=
 ⟨z5q h.top d v,fun i hi=>z5q (h.row i hi) (c i hi) v,h.apart⟩
theorem tne (h:OwM w B sv D R) {i:Nat} (hi:i<D.n) {b:Nat} (hb:(R i).ownBlock=some b):sv.ownBlock≠some b :=
 v1p (h.row i hi) h.top (by decide) hb
theorem fin_cell {g cap:Nat} (h:OwM w B (.slice (some ⟨g,0,none⟩) D.n cap) D R) {i:Nat} (hi:i<D.n):w.cell? ⟨g,i*2,none⟩=some (.string (D.fin i)) :=
 z6a h.top (by have:=z5p (z4y D R) (i:=i) (j:=0) (by omega) hi;rw[Nat.add_zero] at this;rw[this];rfl)
theorem arcs_cell {g cap:Nat} (h:OwM w B (.slice (some ⟨g,0,none⟩) D.n cap) D R) {i:Nat} (hi:i<D.n):w.cell? ⟨g,i*2+1,none⟩=some (R i) :=
 z6a h.top (by rw[z5p (z4y D R) (i:=i) (j:=1) (by omega) hi];rfl)
theorem sts (h:OwM w B sv D R):StS none w sv D:=by
 by_cases p:D.n=0
 ·obtain⟨a,l,m,_,d⟩:=z1h h.top;exact .inl ⟨p,a,l,by rw[m,p],d⟩
 obtain⟨g,l,rfl,_,A,E,C⟩:=z7v h.top (by omega);refine .inr ⟨g,0,l,R,rfl,⟨A,by simp⟩,E,C,fun i hi=>⟨by rw[Nat.zero_add];exact h.fin_cell hi,by rw[Nat.zero_add];exact h.arcs_cell hi,?_⟩⟩;have o:=h.row i hi;by_cases s:D.na i=0
 ·obtain⟨a,c,m,_,d⟩:=z1h o;exact .inl ⟨s,a,c,by rw[m,s],d⟩
 obtain⟨b,c,m,_,hb,H,u⟩:=z7v o (by omega);rw[m] at o;refine .inr ⟨b,0,c,m,⟨hb,by simp⟩,H,u,fun k z=>?_⟩;have d:∀ j x,j<4->(arc4 D i k)[j]?=some x->w.cell? ⟨b,k*4+j,none⟩=some x:=fun j x G F=>z6a o (by rw[z5p (y7d D i) G z];exact F);rw[Nat.zero_add];exact⟨d 0 _ (by omega) rfl,d 1 _ (by omega) rfl,d 2 _ (by omega) rfl,d 3 _ (by omega) rfl⟩
theorem state {d:Value} {o:Obj} {f:ByteArray} (h:OwM w B sv D R) (u:w'.ownsRow B 57 2 d (D.n+1) (cat (st2 D R) D.n++[.string f,.slice none 0 0])) (p:(w.alloc o).grownBy w' sv.ownBlock) :
  OwM w' B d (D.state f) (fun i=>if i=D.n then .slice none 0 0 else R i):=by
 refine⟨?_,fun i hi=>?_,fun i j hi m g b hb=>?_⟩
 ·have e:cat (st2 (D.state f) (fun i=>if i=D.n then .slice none 0 0 else R i)) (D.n+1)=cat (st2 D R) D.n++[.string f,.slice none 0 0]:=by
   rw[z5f]
   congr 1
   ·exact z2g fun i hi=>by simp[st2,MD.state,show i≠D.n by omega]
   simp[st2,MD.state]
  show w'.ownsRow B 57 2 d (D.n+1) (cat _ (D.n+1));rw[e];exact u
 ·by_cases e:i=D.n
  ·subst e;show w'.ownsRow B _ 4 (if D.n=D.n then _ else _) (if D.n=D.n then 0 else D.na D.n) (cat (arc4 (D.state f) D.n) (if D.n=D.n then 0 else D.na D.n))
   rw[if_pos rfl,if_pos rfl];exact World.ownsRow_nil w' B 59 4
  have c:i<D.n:=by have:i<D.n+1:=hi;omega
  show w'.ownsRow B _ 4 (if i=D.n then _ else R i) (if i=D.n then 0 else D.na i) (cat (arc4 D i) (if i=D.n then 0 else D.na i))
  rw[if_neg e,if_neg e];exact z2q (World.ownsRow.alloc (h.row i c) o) p (fun b hb=>h.tne c hb)
 have c:i<D.n+1:=hi;have s:j<D.n+1:=m;by_cases l:i=D.n
 ·simp only[if_pos l] at hb;cases hb
 simp only[if_neg l] at hb;by_cases k:j=D.n
 ·simp only[if_pos k];simp[Value.ownBlock]
 simp only[if_neg k];exact h.apart i j (by omega) (by omega) g b hb
theorem setFin {g cap q:Nat} (h:OwM w B (.slice (some ⟨g,0,none⟩) D.n cap) D R) (j:q<D.n) (f:ByteArray):OwM (w.setCell ⟨g,q*2,none⟩ (.string f)) B (.slice (some ⟨g,0,none⟩) D.n cap) (D.setFin q f) R:=by
 refine⟨?_,fun i hi=>z5q (p:=⟨g,q*2,none⟩) (h.row i hi) (fun e=>h.tne hi e rfl) (.string f),h.apart⟩;have c:=y4s h.top (q*2+0) (.string f);rw[y1v (z4y D R) (by omega) _ j,z2g (d:=st2 (D.setFin q f) R) (fun i hi=>by
  by_cases e:i=q
  ·subst e;rw[if_pos rfl];simp[st2,MD.setFin]
  rw[if_neg e];simp[st2,MD.setFin,e])] at c
 exact c
theorem arc {g cap q:Nat} {v':Value} {o:Obj} {a b t:Int} {x:ByteArray} (h:OwM w B (.slice (some ⟨g,0,none⟩) D.n cap) D R) (A:q<D.n)
  (J:w'.ownsRow B 59 4 v' (D.na q+1) (cat (arc4 D q) (D.na q)++[.int .i64 a,.int .i64 b,.string x,.int .i64 t])) (E:(w.alloc o).grownBy w' (R q).ownBlock)
  (z:∀ c,v'.ownBlock=some c->(R q).ownBlock=some c\/w.heap.size<=c) :
  OwM (w'.setCell ⟨g,q*2+1,none⟩ v') B (.slice (some ⟨g,0,none⟩) D.n cap) (D.arc q a b x t) (fun i=>if i=q then v' else R i):=by
 have L:w'.ownsRow B 57 2 (.slice (some ⟨g,0,none⟩) D.n cap) D.n (cat (st2 D R) D.n):=z2q (World.ownsRow.alloc h.top o) E (fun c l e=>h.tne A e.symm.symm l);have K:v'.ownBlock≠some g:=fun e=>by
  rcases z g e with u|u
  ·exact h.tne A u rfl
  have:=(World.ownsRow.lt h.top g rfl).2;omega
 refine⟨?_,fun i hi=>?_,fun i j hi C s c l=>?_⟩
 ·have F:=y4s L (q*2+1) v';rw[y1v (z4y D R) (by omega) _ A,z2g (d:=st2 (D.arc q a b x t) (fun i=>if i=q then v' else R i)) (fun i hi=>by
   by_cases e:i=q
   ·subst e;rw[if_pos rfl];simp[st2,MD.arc]
   rw[if_neg e];simp[st2,MD.arc,e])] at F
  exact F
 ·by_cases e:i=q
  ·subst e;show World.ownsRow _ B _ 4 (if i=i then v' else R i) (if i=i then D.na i+1 else D.na i) (cat _ (if i=i then D.na i+1 else D.na i))
   rw[if_pos rfl,if_pos rfl,z5f,z2g (d:=arc4 D i) (fun k I=>by simp[arc4,MD.arc,show k≠D.na i by omega])];have m:arc4 (D.arc i a b x t) i (D.na i)=[.int .i64 a,.int .i64 b,.string x,.int .i64 t]:=by simp[arc4,MD.arc]
   rw[m];exact z5q J (by exact K) _
  show World.ownsRow _ B _ 4 (if i=q then v' else R i) (if i=q then D.na q+1 else D.na i) (cat _ (if i=q then D.na q+1 else D.na i))
  rw[if_neg e,if_neg e,z2g (d:=arc4 D i) (fun k I=>by simp[arc4,MD.arc,e])];exact z5q (p:=⟨g,q*2+1,none⟩) (z2q (World.ownsRow.alloc (h.row i hi) o) E (fun c l m=>h.apart i q hi A e c l m)) (fun m=>h.tne hi m rfl) v'
 by_cases H:i=q
 ·subst H;simp only[if_pos] at l;simp only[if_neg (fun e:j=i=>s e.symm)]
  rcases z c l with u|u
  ·exact h.apart i j hi C s c u
  intro m;have:=(World.ownsRow.lt (h.row j C) c m).2;omega
 simp only[if_neg H] at l;by_cases G:j=q
 ·subst G;simp only[if_pos];intro m
  rcases z c m with u|u
  ·exact h.apart i j hi C s c l u
  have:=(World.ownsRow.lt (h.row i hi) c l).2;omega
 simp only[if_neg G];exact h.apart i j hi C s c l
end OwM
end
section
def MD.inv (D:MD):MD:={ D with ain:=D.aout,aout:=D.ain }
def MD.inR (D:MD):MD:={ D with aout:=D.ain }
def MD.outR (D:MD):MD:={ D with ain:=D.aout }
def MD.ren (φ:Int->Int) (D:MD):MD:={ D with ain:=fun q d=>φ (D.ain q d),aout:=fun q d=>φ (D.aout q d) }
def MD.sym (φ:Int->Int->Int × Int) (D:MD):MD:={ D with ain:=fun q d=>(φ (D.ain q d) (D.aout q d)).1,aout:=fun q d=>(φ (D.ain q d) (D.aout q d)).2 }
theorem u2b (D:MD):D.sym (fun i o=>(o,i))=D.inv:=rfl
theorem u3n (D:MD):D.sym (fun i _=>(i,i))=D.inR:=rfl
theorem v5h (D:MD):D.sym (fun _ o=>(o,o))=D.outR:=rfl
theorem u2i (φ:Int->Int) (D:MD):D.sym (fun i o=>(φ i,φ o))=D.ren φ:=rfl
theorem z8k (φ:Int->Int->Int × Int) (D:MD):∀ n,z0f (D.sym φ) n=z0f D n
 | 0=>rfl
 | n+1=>by show z0f (D.sym φ) n+D.na n=z0f D n+D.na n;rw[z8k φ D n]
theorem VM.sym {D:MD} (h:VM D) {φ:Int->Int->Int × Int} (hf:∀ i o,0<=i->i<=500->0<=o->o<=500->0<=(φ i o).1/\(φ i o).1<=500/\0<=(φ i o).2/\(φ i o).2<=500):VM (D.sym φ) :=
 { h with
  arcs:=by rw[z8k];exact h.arcs
  arc:=fun q d c g =>
   let a:=h.arc q d c g
   let b:=hf _ _ a.i0 a.i1 a.o0 a.o1
   { a with i0:=b.1,i1:=b.2.1,o0:=b.2.2.1,o1:=b.2.2.2 } }
def AccD (D:MD):Prop:=∀ q d,q<D.n->d<D.na q->D.aout q d=D.ain q d
theorem AccD.r {D:MD} (h:AccD D) (k:KK):AccR (rmOf k D):=fun q d c g=>h q d c g
end
end Go.Proofs.YteappjogmnogcaaGreatDoor
