/- Parts. -/
import Derived.Test.YteappjogmnogcaaGreatDoorZ11
import Derived.Deep.Light
namespace Go.Proofs.YteappjogmnogcaaGreatDoor
set_option maxRecDepth 100000
set_option linter.all false
set_option maxHeartbeats 16000000
open Go Tryz
section
open Go.RowKit Go.Deep
variable{c e:Nat}{w:World}{k:Int}{a b:ByteArray}{r:ByteArray × Nat}
def SumB(w:World)(sb:Nat)(k:Int)(e:Nat):Prop:=w.heap[sb]?=some (.cells #[.int .i64 k,.int .i64 (e:Int)] 149 (0,0))
def SumB.lt(h:SumB w c k e):c<w.heap.size:=(Array.getElem?_eq_some_iff.1 h).1
theorem SumB.c0(h:SumB w c k e):w.cell? (Ad c 0)=some (.int .i64 k):=by unfold SumB at h;simp[World.cell?,h]
theorem SumB.c1(h:SumB w c k e):w.cell? (Ad c 1)=some (.int .i64 (e:Int)):=by unfold SumB at h;simp[World.cell?,h]
theorem SumB.fz(h:SumB w c k e)(i:Nat):w.frozen? (Ad c i)=false:=by unfold SumB at h;simp[World.frozen?,h]
theorem SumB.set(h:SumB w c k e)(e':Nat):SumB (w.setCell (Ad c 1) (.int .i64 (e':Int))) c k e':=by
 unfold SumB at *;simp[World.setCell,Array.getElem?_modify,h]
theorem SumB.kept{d:World}(h:SumB w c k e)(hb:Below w.heap.size w d):SumB d c k e:=by
 unfold SumB at *;rw[hb.block c (Array.getElem?_eq_some_iff.1 h).1];exact h
def SumE(u:ByteArray)(sb:Nat)(k:Int)(e':Nat)(w:World)(r:Ending)(w':World):Prop:=r=.returned (.string u)/\SumB w' sb k e'/\w.grownBy w' (some sb)
def kpS(k:Int)(r:ByteArray × Nat):ByteArray:=if r.2≠0 then Af k else r.1
def JP(k:Int)(e j:Nat)(c:ByteArray)(n:Nat)(w:World)(g:SumB w j k e):
  Calls prog 156 #[.pointer (some (Ad j 0)),.string c,.int .i64 (n:Int)] w (SumE (kpS k (c,n)) j k (kpE e (c,n)) w):=by
 have C:=g.c0;have D:=g.c1;have hf:=g.fz 1;have m:=λB=>Gy k B;replace m:=qh m;replace g:=qh g;by_cases l:n=0
 ·subst l;unfold kpS kpE;rw[ifn (by simp),ifn (by simp)]
  go_enter func156,ntmps156
  go_wp2;go_ret;exact⟨rfl,g.o,NA _ _⟩
 have z:((n:Int)==0)=false:=by simp;exact l
 unfold kpS kpE;rw[ifp (show (c,n).2≠0 from l)];by_cases o:e=0
 ·subst o;rw[ifp ⟨l,rfl⟩];have i:=Dp (NA w (some j)) (p:=(Ad j 1)) (.inl rfl) (.int .i64 (n:Int));have d:=g.o.set n;have s:=d.c0;replace i:=qh i;replace d:=qh d
  go_enter func156,ntmps156
  go_wp2_with fail
  refine(m.o _).mono ?_;rintro e A⟨rfl,hb⟩;go_wp2;go_ret;exact⟨rfl,d.o.kept hb,AR i.o (Ab hb _)⟩
 have u:((e:Int)==0)=false:=by simp;exact o
 rw[ifn (λh=>o h.2)]
 go_enter func156,ntmps156
 go_wp2_with fail
 refine(m.o _).mono ?_;rintro e A⟨rfl,hb⟩;go_wp2;go_ret;exact⟨rfl,g.o.kept hb,Ab hb _⟩
def Tx(k:Int)(e l:Nat)(a b:ByteArray)(w:World)(p:a.size<=100000)(hb:b.size<=100000)(o:Tab w)(j:SumB w l k e):
  Calls prog 132 #[.pointer (some (Ad l 0)),.string a,.string b] w (SumE (kpS k (Am k a b)) l k (kpE e (Am k a b)) w):=by
 have u:=j.c0;have i:=Qc k a b w (by omega) (by omega) o;clear o p hb;obtain⟨⟨c,n⟩,m⟩:∃r,r=Am k a b:=⟨_,rfl⟩;rw[<-m]at i ⊢;replace i:=qh i;clear m;replace j:=qh j
 go_enter func132,ntmps132
 go_wp2_with fail
 refine i.o.mono ?_;rintro r s⟨rfl,d⟩;replace d:=qh d
 go_wp2_with fail
 refine(JP k e l c n s (j.o.kept d.o)).mono ?_;rintro r z⟨rfl,h,g⟩;replace h:=qh h;replace g:=qh g;go_wp2;go_ret;exact⟨rfl,h.o,AR (Ab d.o _) g.o⟩
def TA(k:Int)(e l:Nat)(a b:ByteArray)(w:World)(p:a.size<=100000)(hb:b.size<=100000)(o:Tab w)(j:SumB w l k e):
  Calls prog 133 #[.pointer (some (Ad l 0)),.string a,.string b] w (SumE (kpS k (Al k a b)) l k (kpE e (Al k a b)) w):=by
 have u:=j.c0;have i:=Ld k a b w (by omega) (by omega) o;clear o p hb;obtain⟨⟨c,n⟩,m⟩:∃r,r=Al k a b:=⟨_,rfl⟩;rw[<-m]at i ⊢;replace i:=qh i;clear m;replace j:=qh j
 go_enter func133,ntmps133
 go_wp2_with fail
 refine i.o.mono ?_;rintro r s⟨rfl,d⟩;replace d:=qh d
 go_wp2_with fail
 refine(JP k e l c n s (j.o.kept d.o)).mono ?_;rintro r z⟨rfl,h,g⟩;replace h:=qh h;replace g:=qh g;go_wp2;go_ret;exact⟨rfl,h.o,AR (Ab d.o _) g.o⟩
def Ty(k:Int)(e l:Nat)(a:ByteArray)(w:World)(p:a.size<=100000)(o:Tab w)(j:SumB w l k e):
  Calls prog 198 #[.pointer (some (Ad l 0)),.string a] w (SumE (kpS k (AL k a)) l k (kpE e (AL k a)) w):=by
 have u:=j.c0;have i:=YK k a w (by omega) o;clear o p;obtain⟨⟨c,n⟩,m⟩:∃r,r=AL k a:=⟨_,rfl⟩;rw[<-m]at i ⊢;replace i:=qh i;clear m;replace j:=qh j
 go_enter func198,ntmps198
 go_wp2_with fail
 refine i.o.mono ?_;rintro r s⟨rfl,d⟩;replace d:=qh d
 go_wp2_with fail
 refine(JP k e l c n s (j.o.kept d.o)).mono ?_;rintro r z⟨rfl,h,g⟩;replace h:=qh h;replace g:=qh g;go_wp2;go_ret;exact⟨rfl,h.o,AR (Ab d.o _) g.o⟩
def OpE{k:KK}(F:Prop)(e sb:Nat)(z:RK k)(w:World)(r:Ending)(w':World):Prop :=
 ∃u e',r=.returned (.string u)/\Is k e' u z/\Er F e'/\(e'=0->e=0)/\SumB w' sb k.1 e'/\w.grownBy w' (some sb)
def JS(h:r.1.size<=802):(kpS k r).size<=100000:=by
 unfold kpS;split
 ·exact GM k
 omega
def JU(h:kpE e r=0):kpS k r=r.1:=by
 unfold kpS;rw[ifn (by rw[(JR h).2];simp)]
theorem ML{k:KK}{F:Prop}{x y:RK k}(h:Is k e a x)(hb:Is k e b y)(o:Er F e)(m:F->fitV (x+y).1)(s:Tab w)(p:SumB w c k.1 e):
  Calls prog 132 #[.pointer (some (Ad c 0)),.string a,.string b] w (OpE F e c (x+y) w):=by
 refine(Tx k.1 e c a b w h.1 hb.1 s p).mono ?_;rintro r u⟨rfl,g,d⟩;obtain⟨i,j,l⟩:=Fq (OX h hb) o m (JS (k:=k.1) (OV k.1 a b)) JU;exact⟨_,_,rfl,i,j,l,g,d⟩
def MM{k:KK}{F:Prop}{x y:RK k}(h:Is k e a x)(hb:Is k e b y)(o:Er F e)(m:F->fitV (x*y).1)(s:Tab w)(p:SumB w c k.1 e):
  Calls prog 133 #[.pointer (some (Ad c 0)),.string a,.string b] w (OpE F e c (x*y) w):=by
 refine(TA k.1 e c a b w h.1 hb.1 s p).mono ?_;rintro r u⟨rfl,g,d⟩;obtain⟨i,j,l⟩:=Fq (QO h hb) o m (JS (k:=k.1) (QL k.1 a b)) JU;exact⟨_,_,rfl,i,j,l,g,d⟩
def Tz{k:KK}{F:Prop}{x:RK k}(h:Is k e a x)(o:Er F e)(m:F->fitV (CSR.star x).1)(s:Tab w)(p:SumB w c k.1 e):
  Calls prog 198 #[.pointer (some (Ad c 0)),.string a] w (OpE F e c (CSR.star x) w):=by
 refine(Ty k.1 e c a w h.1 s p).mono ?_;rintro r u⟨rfl,g,d⟩;obtain⟨i,j,l⟩:=Fq (Qs h) o m (JS (k:=k.1) (Qq k.1 a)) JU;exact⟨_,_,rfl,i,j,l,g,d⟩
end
section
open Go.RowKit Go.Deep
variable{k:KK}{B e i j n p:Nat}
def FX:(prog.info? 9).map (λi=>(i.zero,i.size,i.bytes))=some (some (.string ⟨#[]⟩),1,16):=by kernel_rfl
def Ff:(prog.info? 79).map (λi=>(i.zero,i.size,i.bytes))=some (some (.slice none 0 0),1,24):=by kernel_rfl
def TabB.gr{d:Nat}{w g:World}{z:Option Nat}(h:TabB d w)(c:Gr B z w g)(i:∀k,z=some k->d<=k)(l:d<=B):TabB d g:=λj hb =>
 h j (Below.trans ⟨c.os,c.tape,c.output,c.size,λq m=>c.block q (by omega) (λe=>by have:=i q e.symm;omega)⟩ hb)
structure Tb(w:World)(k:Int)(B tb sb g n e:Nat)(R:Nat->Value)(X:Nat->Nat->ByteArray):Prop where
 tab:w.heap[tb]?=some (.cells #[.pointer (some (Ad sb 0)),.slice (some (Ad g 0)) n n] 184 (0,0))
 sum:SumB w sb k e
 om:OM w (λb=>b=tb) B 9 79 g n R (λ_=>n) X
 sbB:sb<B
 tbB:B<=tb
namespace Tb
variable{w w':World}{k:Int}{B tb sb g n e:Nat}{R:Nat->Value}{X:Nat->Nat->ByteArray}
theorem c0(h:Tb w k B tb sb g n e R X):w.cell? (Ad tb 0)=some (.pointer (some (Ad sb 0))):=by have:=h.tab;simp[World.cell?,this]
theorem c1(h:Tb w k B tb sb g n e R X):w.cell? (Ad tb 1)=some (.slice (some (Ad g 0)) n n):=by have:=h.tab;simp[World.cell?,this]
theorem tbLt(h:Tb w k B tb sb g n e R X):tb<w.heap.size:=(Array.getElem?_eq_some_iff.1 h.tab).1
theorem kept{e':Nat}(h:Tb w k B tb sb g n e R X)(c:w.grownBy w' (some sb))(i:SumB w' sb k e'):Tb w' k B tb sb g n e' R X :=
 ⟨by rw[c.block tb h.tbLt (by simp;have:=h.sbB;have:=h.tbB;omega)];exact h.tab,i,h.om.kept c (λq d=>by cases d;exact h.sbB),h.sbB,h.tbB⟩
theorem below(h:Tb w k B tb sb g n e R X)(hb:Below w.heap.size w w'):Tb w' k B tb sb g n e R X:=h.kept (Ab hb _) (h.sum.kept hb)
theorem stored{i j b cap:Nat}(h:Tb w k B tb sb g n e R X)(hi:i<n)(d:j<n)(c:R i=.slice (some (Ad b 0)) n cap)(x:ByteArray):
  Tb (w.setCell (Ad b j) (.string x)) k B tb sb g n e R (λq l=>if q=i/\l=j then x else X q l):=by
 have hf:=h.om.far i hi b (by rw[c];rfl);have o:=(h.om.rowLt hi b (by rw[c];rfl)).1;refine⟨?_,?_,h.om.stored hi d c x,h.sbB,h.tbB⟩
 ·rw[blk_setCell_other _ _ _ _ (by show tb≠b;exact λe=>hf.2 e.symm)];exact h.tab
 have m:=h.sum;unfold SumB at *;rw[blk_setCell_other _ _ _ _ (by show sb≠b;have:=h.sbB;omega)];exact m
end Tb
theorem MJ{wr wa:World}{Z:Nat->Prop}{g q k cap:Nat}{m:Nat->Value}{X:Nat->Nat->ByteArray}(h:OM wr Z B 9 79 g n m (λl=>if l<q then n else 0) X)(z:q<n)(c:∀l,q<=l->m l=.slice none 0 0)
  (d:wa.ownsRow B 9 1 (.slice (some (Ad k 0)) (0+n) cap) (0+n) ([]++strs n (X q))) (i:wr.drew.grownBy wa (Value.slice none 0 0).ownBlock) (o:(Value.slice none 0 0).ownBlock=some k\/k=wr.heap.size) :
  ∃R3,OM (wa.setCell (Ad g q) (.slice (some (Ad k 0)) n cap)) Z B 9 79 g n R3 (λl=>if l<q+1 then n else 0) X/\∀l,q+1<=l->R3 l=.slice none 0 0:=by
 rw[Nat.zero_add,List.nil_append]at d;have e:=c q nlr;have u:=h.appended z (wa:=wr.drew) ⟨rfl,rfl,rfl,nlr,λ_ _ _=>rfl⟩ d (by rw[e];exact i) (by rw[e];exact o);refine⟨_,(u.congrL λl s=>?_).congr λl j s A=>?_,λl s=>?_⟩
 ·by_cases e:l=q
  ·rw[ifp e,ifp (by omega)]
  rw[ifn e];by_cases p:l<q
  ·rw[ifp p,ifp (by omega)]
  rw[ifn p,ifn (by omega)]
 ·by_cases e:l=q
  ·rw[ifp e,e]
  rw[ifn e]
 show (if l=q then _ else m l)=_
 rw[ifn (by omega)];exact c l (by omega)
def Prog{k:KK}(e p n i j:Nat)(M:Nat->Nat->RK k)(X Y:Nat->Nat->ByteArray):Prop :=
 ∀q l,q<n->l<n->if q<i\/(q=i/\l<j) then Is k e (Y q l) (CSR.elim p M q l) else Y q l=X q l
def MatIs{k:KK}(e n:Nat)(X:Nat->Nat->ByteArray)(M:Nat->Nat->RK k):Prop:=∀q l,q<n->l<n->Is k e (X q l) (M q l)
theorem MatIs.mono{k:KK}{e e' n:Nat}{X:Nat->Nat->ByteArray}{M:Nat->Nat->RK k}(h:MatIs e n X M)(c:e'=0->e=0):MatIs e' n X M:=λq l g d=>(h q l g d).mono c
theorem Prog.start(e p n:Nat)(M:Nat->Nat->RK k)(X:Nat->Nat->ByteArray):Prog e p n 0 0 M X X:=λq l d c=>by rw[ifn (by omega)]
theorem Prog.mono{k:KK}{e e' p n i j:Nat}{M:Nat->Nat->RK k}{X Y:Nat->Nat->ByteArray}(h:Prog e p n i j M X Y)(d:e'=0->e=0):Prog e' p n i j M X Y:=λq l m g=>by
 have:=h q l m g
 split
 ·rename_i c;rw[ifp c]at this;exact this.mono d
 rename_i c;rw[ifn c]at this;exact this
theorem Prog.next{M:Nat->Nat->RK k}{X Y:Nat->Nat->ByteArray}{u:ByteArray}(h:Prog e p n i j M X Y)(o:Is k e u (CSR.elim p M i j)):Prog e p n i (j+1) M X (λq l=>if q=i/\l=j then u else Y q l):=λq l m g=>by
 have:=h q l m g;by_cases c:q=i/\l=j
 ·obtain⟨rfl,rfl⟩:=c;rw[ifp (by omega)];simpa using o
 simp only[ifn c]
 split
 ·rename_i d;rw[ifp (by omega)]at this;exact this
 rename_i d;rw[ifn (by omega)]at this;exact this
theorem Prog.skip{M:Nat->Nat->RK k}{X Y:Nat->Nat->ByteArray}(h:Prog e p n i j M X Y)(hi:i<n)(s:j<n)(o:Is k e (X i j) (CSR.elim p M i j)):Prog e p n i (j+1) M X Y:=λq l m g=>by
 have:=h q l m g;by_cases c:q=i/\l=j
 ·obtain⟨rfl,rfl⟩:=c;rw[ifp (by omega)];rw[ifn (by omega)]at this;rw[this];exact o
 split
 ·rename_i d;rw[ifp (by omega)]at this;exact this
 rename_i d;rw[ifn (by omega)]at this;exact this
theorem Prog.row{M:Nat->Nat->RK k}{X Y:Nat->Nat->ByteArray}(h:Prog e p n i n M X Y):Prog e p n (i+1) 0 M X Y:=λq l g d=>by
 have:=h q l g d
 split
 ·rename_i c;rw[ifp (by omega)]at this;exact this
 rename_i c;rw[ifn (by omega)]at this;exact this
theorem Prog.skipRow{M:Nat->Nat->RK k}{X Y:Nat->Nat->ByteArray}(h:Prog e p n i 0 M X Y)(hi:i<n)(m:∀l,l<n->Is k e (X i l) (CSR.elim p M i l)):Prog e p n (i+1) 0 M X Y:=λq l j c=>by
 have:=h q l j c;by_cases d:q=i
 ·subst d;rw[ifp (by omega)];rw[ifn (by omega)]at this;rw[this];exact m l c
 split
 ·rename_i g;rw[ifp (by omega)]at this;exact this
 rename_i g;rw[ifn (by omega)]at this;exact this
theorem Prog.done{M:Nat->Nat->RK k}{X Y:Nat->Nat->ByteArray}(h:Prog e p n n 0 M X Y):MatIs e n Y (CSR.elim p M):=λq l d c=>by
 have:=h q l d c;rwa [ifp (by omega)]at this
theorem Ur{M:Nat->Nat->RK k}(h:M i p=CSR.zero)(l:Nat):CSR.elim p M i l=M i l:=by
 unfold CSR.elim;rw[h,CSR.zm,CSR.zm,CSR.a0]
theorem Us{M:Nat->Nat->RK k}(h:M p j=CSR.zero)(i:Nat):CSR.elim p M i j=M i j:=by
 unfold CSR.elim;rw[h,CSR.m0,CSR.a0]
theorem Is.elim_l{M:Nat->Nat->RK k}{X:Nat->Nat->ByteArray}(c:MatIs e n X M)(hi:i<n)(j:p<n)(h:X i p=Af k.1):∀l,l<n->Is k e (X i l) (CSR.elim p M i l):=λl d=>by
 refine⟨(c i l hi d).1,λg=>?_⟩;subst g;rw[Ur ((c i p hi j).eq_zero.1 h)];exact(c i l hi d).2 rfl
theorem Is.elim_r{M:Nat->Nat->RK k}{X:Nat->Nat->ByteArray}(c:MatIs e n X M)(hi:i<n)(l:p<n)(d:j<n)(h:X p j=Af k.1):Is k e (X i j) (CSR.elim p M i j):=by
 refine⟨(c i j hi d).1,λg=>?_⟩;subst g;rw[Us ((c p j l d).eq_zero.1 h)];exact(c i j hi d).2 rfl
structure FitE{k:KK}(n p:Nat)(M:Nat->Nat->RK k):Prop where
 star:fitV (CSR.star (M p p)).1
 first:∀i,i<n->fitV (M i p*CSR.star (M p p)).1
 second:∀i j,i<n->j<n->fitV (M i p*CSR.star (M p p)*M p j).1
 sum:∀i j,i<n->j<n->fitV (CSR.elim p M i j).1
def OverE{k:KK}(F:Prop)(B tb sb g n p e:Nat)(R:Nat->Value)(M:Nat->Nat->RK k)(w:World)(r:Ending)(w':World):Prop :=
 ∃e' Y,r=.returned (.tuple #[])/\Tb w' k.1 B tb sb g n e' R Y/\MatIs e' n Y (CSR.elim p M)/\Er F e'/\(e'=0->e=0)/\Gr B (some sb) w w'
end
section
open Go.RowKit Go.Deep
variable{W w wk:World}{r s t u v x y:Value}{e n:Nat}{z:Option Nat}
theorem CY(w:World)(z:Option Nat):w.grownBy w.drew z:=⟨rfl,rfl,rfl,nlr,λ_ _ _=>rfl⟩
theorem TabB.drew{B:Nat}{w:World}(h:TabB B w):TabB B w.drew:=λc hb=>h c ((Below.refl B w).drew.trans hb)
theorem SumB.drew{c:Nat}{k:Int}(h:SumB w c k e):SumB w.drew c k e:=h
theorem keep4{a b c d:Addr}(g:W.grownBy wk z)(h:W.cell? a=some u)(hb:W.cell? b=some v)(i:W.cell? c=some x)(j:W.cell? d=some y)
  (na:some a.block≠z) (nb:some b.block≠z) (k:some c.block≠z) (l:some d.block≠z) :
  W.grownBy wk z/\wk.cell? a=some u/\wk.cell? b=some v/\wk.cell? c=some x/\wk.cell? d=some y :=
 ⟨g,g.cell h na,g.cell hb nb,g.cell i k,g.cell j l⟩
theorem keep7{a b c d f g h:Addr}(i:W.grownBy wk z)(j:W.cell? a=some u)(hb:W.cell? b=some v)(k:W.cell? c=some x)(l:W.cell? d=some y)
  (hf:W.cell? f=some r) (m:W.cell? g=some s) (hi:W.cell? h=some t)
  (na:some a.block≠z) (nb:some b.block≠z) (o:some c.block≠z) (p:some d.block≠z) (nf:some f.block≠z) (A:some g.block≠z) (B:some h.block≠z) :
  wk.cell? a=some u/\wk.cell? b=some v/\wk.cell? c=some x/\wk.cell? d=some y/\wk.cell? f=some r/\wk.cell? g=some s/\wk.cell? h=some t :=
 ⟨i.cell j na,i.cell hb nb,i.cell k o,i.cell l p,i.cell hf nf,i.cell m A,i.cell hi B⟩
theorem keep7s{o:Addr}{q:Value}{a b c d f g h:Addr}
  (A:wk.cell? a=some u/\wk.cell? b=some v/\wk.cell? c=some x/\wk.cell? d=some y/\wk.cell? f=some r/\wk.cell? g=some s/\wk.cell? h=some t)
  (na:o.block≠a.block) (nb:o.block≠b.block) (B:o.block≠c.block) (C:o.block≠d.block) (nf:o.block≠f.block) (D:o.block≠g.block) (E:o.block≠h.block) :
  (wk.setCell o q).cell? a=some u/\(wk.setCell o q).cell? b=some v/\(wk.setCell o q).cell? c=some x/\(wk.setCell o q).cell? d=some y/\(wk.setCell o q).cell? f=some r/\(wk.setCell o q).cell? g=some s/\(wk.setCell o q).cell? h=some t:=by
 obtain⟨i,j,k,l,m,p,z⟩:=A;refine⟨?_,?_,?_,?_,?_,?_,?_⟩
 ·rw[World.cell?_setCell_other _ _ _ _ (λe=>na (by rw[e]))];exact i
 ·rw[World.cell?_setCell_other _ _ _ _ (λe=>nb (by rw[e]))];exact j
 ·rw[World.cell?_setCell_other _ _ _ _ (λe=>B (by rw[e]))];exact k
 ·rw[World.cell?_setCell_other _ _ _ _ (λe=>C (by rw[e]))];exact l
 ·rw[World.cell?_setCell_other _ _ _ _ (λe=>nf (by rw[e]))];exact m
 ·rw[World.cell?_setCell_other _ _ _ _ (λe=>D (by rw[e]))];exact p
 rw[World.cell?_setCell_other _ _ _ _ (λe=>E (by rw[e]))];exact z
theorem Zj{b:Nat}{X:Nat->ByteArray}(h:∀j,j<n->w.cell? (Ad b j)=some (.string (X j))):∀j u,(strs n X)[j]?=some u->w.cell? (((Ad b 0):Addr).add j)=some u:=by
 intro j u c;have g:j<n:=by
  rcases Nat.lt_or_ge j n with d|d
  ·exact d
  rw[List.getElem?_eq_none (by rw[Fz];exact d)]at c;cases c
 rw[Fy _ _ _ g]at c;cases c;rw[Addr.add_lit,Nat.zero_add];exact h j g
theorem toList_eq{a b:ByteArray}(h:(a.toList==b.toList)=true):a=b:=by
 rw[beq_iff_eq,Lib.toList_data,Lib.toList_data]at h;exact ByteArray.ext<|Array.toList_inj.1 h
theorem Xb{k:KK}{F:Prop}{B0 B tb E g p:Nat}{R:Nat->Value}{X:Nat->Nat->ByteArray}{M:Nat->Nat->RK k}(x:Value)(hn:n<=60)(U:p<n)
  (hT:Tb w k.1 B tb E g n e R X) (hX:MatIs e n X M) (he:Er F e) (hF:F->FitE n p M) (ht:TabB B0 w) (hB:B0<=E) :
  Calls prog 183 #[.pointer (some (Ad tb 0)),.int .i64 (p:Int),x] w (OverE F B tb E g n p e R M w):=by
 have t0:=hT.c0;have s0:=hT.sum.c0;have s5:(p:Int)<(n:Int):=by omega
 have p7:(0:Int)<=(p:Int):=by omega
 have D:=qh hT;clear hT;have HX:=qh hX;clear hX;have W:=qh he;clear he;replace hF:=qh hF;have C:=qh ht;clear ht;have hz:=λwx=>Gy k.1 wx;have HZ:=qh hz;clear hz
 go_enter func183,ntmps183
 go_wp2_with fail
 refine(HZ.o _).mono ?_;rintro r w1⟨rfl,b4⟩;clear t0 s0;have I:=D.o.below b4;have c9:TabB B0 w1:=C.o.kept (z:=none) (Ab b4 _) (by simp) (by have:=D.o.sum.lt;omega);have g6:Gr B (some E) w w1:=(Gr.refl _ _ _).more (Ab b4 none) (by have:=D.o.om.lt;have:=D.o.om.base;omega) (by simp);clear b4;have t0:=I.c0;have t1:=I.c1;obtain⟨bp,cp,h4,h8,i4,i3,i6,i8,b5,j5,a9⟩:=I.om.form U (by omega);unfold maxLen at b5;have g0:=I.om.cell U;rw[h4]at g0;have g1:=a9 p U;have sbB:=I.sbB;have tbB:=I.tbB;have gB:=I.om.base;have HK:=qh (λA (hg:w1.grownBy A (some E))=>keep4 hg t0 t1 g0 g1 (by simp;omega) (by simp;omega) (by simp;omega) (by simp;omega));have Z:=qh I;clear I;have a2:=qh c9;clear c9 C;have f4:=qh g6;clear g6 D;have J:=CY w1 (some E);clear a9 i3 i6 i4 j5
 go_wp2_with fail
 go_region_held2 (λA=>w1.grownBy A (some E)/\A.cell? (Ad tb 0)=some (.pointer (some (Ad E 0)))/\A.cell? (Ad tb 1)=some (.slice (some (Ad g 0)) n n)/\
   A.cell? (Ad g p)=some (.slice (some (Ad bp 0)) n cp)/\A.cell? (Ad bp p)=some (.string (X p p)))
  (first|exact HK.o _ (by assumption))
  (first
  |(go_at_call 198;refine(Tz (HX.o p p U U) W.o (λf=>(hF.o f).star) a2.o.drew.tab Z.o.sum.drew).mono ?_;rintro r G⟨lp,e2,rfl,e1,d9,b6,k6,j7⟩;have b7:=AR J j7))
 rename_i hH;clear hH g0 g1 t0 t1;have b3:=Z.o.kept b7 k6;have d1:TabB B0 G:=a2.o.kept b7 (by intro q hq;cases hq;exact hB) (by have:=Z.o.sum.lt;omega);have g7:Gr B (some E) w G:=f4.o.more b7 (by have:=Z.o.tbLt;omega) (λ_ e=>.inl e);have O:=HX.o.mono b6;clear b7 j7 J k6;have t1:=b3.c1;have o3:=b3.om.lt;have N:=qh b3;clear b3 Z HK;have b8:=qh d1;clear d1 a2;have f5:=qh g7;clear g7 f4;replace O:=qh O;clear HX;replace e1:=qh e1;replace d9:=qh d9;clear W;replace b6:=qh b6;clear h4 h8 i8 b5;have m3:=run_make_row' (P:=prog) 75 79 (.slice none 0 0) 24 underlying75 Ff rfl .i64 .i64 n (by omega) (by omega);have b2:OM (G.alloc (.cells (madeCells #[.slice none 0 0] n) 79)) (λ_=>False) G.heap.size 9 79 G.heap.size n (λ_=>.slice none 0 0) (λq=>if q<0 then n else 0) X :=
  (OM.made G (λ_=>False) (by simp) G.heap.size nlr 9 79 n X).congrL (λ_ _=>by simp)
 have H:=qh b2;clear b2;have f2:=qh<|(Below.refl G.heap.size G).alloc nlr (.cells (madeCells #[.slice none 0 0] n) 79)
 go_wp2_with fail
 clear m3 t1
 go_loopw [44] (λi wr=>∃(q:Nat) (R2:Nat->Value),q<=n/\i=.int .i64 (q:Int)/\OM wr (λ_=>False) G.heap.size 9 79 G.heap.size n R2 (λl=>if l<q then n else 0) X/\
  (∀l,q<=l->R2 l=.slice none 0 0)/\Below G.heap.size G wr) (λi _=>n-(intOf i).toNat)
 case atStart=>exact⟨0,_,Nat.zero_le _,rfl,H.o,λ_ _=>rfl,f2.o⟩
 obtain⟨q,R2,hq,rfl,b2,d6,i7⟩:=hrel;clear H f2;have H:=qh b2;clear b2;have d7:=qh d6;clear d6;have K:=qh i7;clear i7;by_cases m:q<n
 ·have s6:(q:Int)<(n:Int):=by omega
  have p8:(0:Int)<=(q:Int):=by omega
  have a7:=N.o.below K.o;obtain⟨bq,cq,l2,h8,i4,i3,i6,i8,b5,j5,a9⟩:=a7.om.form m (by omega);unfold maxLen at b5;have t1:=a7.c1;have g0:=a7.om.cell m;rw[l2]at g0;have o0:=H.o.cell m;rw[d7.o q nlr]at o0;replace a7:=qh a7;have l0:=qh a9;clear a9;have HK:=qh<|λA (hg:wr.grownBy A none)=>keep4 hg t1 g0 o0 o0 (by simp) (by simp) (by simp) (by simp);have J:=CY wr none;have o2:=H.o.lt;have o5:=K.o.size;obtain⟨i0,m2,n6,n7,f1⟩:=info_parts FX
  go_wp2_with fail
  have d0:wr.drew.cell? (Ad G.heap.size q)=some (.slice none 0 0):=o0;have k9:=qh<|show ∀j,j<n->wr.drew.cell? (Ad bq j)=some (.string (X q j)) from l0.o
  go_region_law
   (first
   |(
     refine step_append_lies _ rfl (.tmp 52) (.tmp 59) 79 rfl G.heap.size 9 i0 (.string ⟨#[]⟩) 1 16 underlying79 m2 n6 n7 f1 rfl (by omega) (.slice none 0 0) 0 [] rfl (World.ownsRow_nil _ _ _ _) (Ad bq 0) n cq (strs n (X q)) rfl (by rw[Fz,Nat.mul_one])
      (Zj k9.o) (Qv _ _) (by omega) (by unfold maxLen;omega) (by omega) o5 wr.heap.size rfl ?_
     intro go q7 wa k5 Q l3 p6;have k2:=AR J Q;have r7:=(k2.frozen_far (Ad G.heap.size q) o2 (by simp)).trans (H.o.frozen q);have l5:=k2.cell o0 (by simp)))
  all_goals
   go_wp2;go_roundw
   case rel =>
    obtain⟨R3,h1,h2⟩:=MJ H.o m d7.o k5 Q l3;exact⟨q+1,R3,by omega,by go_num,h1,h2,((K.o.drew).grown Q (by show G.heap.size<=wr.heap.size;omega) (by simp[Value.ownBlock])).setCell nlr _⟩
   simp[intOf];omega
 have m4:q=n:=by omega
 subst m4;have k4:OM wr (λ_=>False) G.heap.size 9 79 G.heap.size q R2 (λ_=>q) X:=H.o.congrL λl hl=>by rw[ifp hl]
 have k0:¬((q:Int)<(q:Int)):=by omega
 clear H d7;have g2:=qh k4;clear k4;have h5:=N.o.below K.o;have d2:TabB B0 wr:=b8.o.kept (z:=none) (Ab K.o _) (by simp) (by have:=N.o.sum.lt;omega);have g8:Gr B (some E) w wr:=f5.o.more (Ab K.o none) (by have:=N.o.tbLt;omega) (by simp);have r8:g<G.heap.size:=o3;have p9:tb<G.heap.size:=N.o.tbLt;have f0:=λ(i:Nat) (hi:i<q) (b:Nat) (hb:(R i).ownBlock=some b)=>(N.o.om.rowLt hi b hb).2;replace f0:=qh f0;have g4:=qh h5;clear h5 N;have b9:=qh d2;clear d2 b8;have f7:=qh g8;clear g8 f5;have s9:=K.o.size;clear K;generalize hB2:G.heap.size=B2 at *;clear hB2;obtain⟨Z0,a8⟩:=exq<|Af k.1;rw[<-a8];replace a8:=qh a8
 go_wp2_with fail
 go_loopw [65] (λi wr=>∃(c e3:Nat) (Y:Nat->Nat->ByteArray),c<=q/\i=.int .i64 (c:Int)/\Tb wr k.1 B tb E g q e3 R Y/\Prog e3 p q c 0 M X Y/\
  OM wr (λ_=>False) B2 9 79 B2 q R2 (λ_=>q) X/\Er F e3/\(e3=0->e2=0)/\TabB B0 wr/\Gr B (some E) w wr) (λi _=>q-(intOf i).toNat)
 case atStart=>exact⟨0,e2,X,Nat.zero_le _,rfl,g4.o,Prog.start _ _ _ _ _,g2.o,d9.o,λh=>h,b9.o,f7.o⟩
 obtain⟨c,e3,Y,r3,rfl,hT,hP,hO,hE,hm,a6,hG⟩:=hrel;clear g4 b9 f7 g2;have D:=qh hT;clear hT;have HP:=qh hP;clear hP;have S:=qh hO;clear hO;have W:=qh hE;clear hE;have L:=qh hm;clear hm;have C:=qh a6;clear a6;have HG:=qh hG;clear hG;by_cases m:c<q
 ·have r4:(c:Int)<(q:Int):=by omega
  have o9:(0:Int)<=(c:Int):=by omega
  obtain⟨oc,uc,a4,q9,l5,r2,_,s7,m8,j4,d8⟩:=S.o.form m (by omega);unfold maxLen at m8;have o0:=S.o.cell m;rw[a4]at o0;have o1:=d8 p U;replace d8:=qh d8;replace j4:=qh j4;replace a4:=qh a4;cases hz:((X c p).toList==Z0.toList)
  ·
   have h7:=D.o;have t0:=h7.c0;have HK:=qh (λA (hg:World.grownBy _ A (some E))=>keep4 hg t0 o0 o1 o1 (by simp;omega) (by simp;omega) (by simp;omega) (by simp;omega));clear h7;have J:=CY wr (some E)
   go_wp2_with fail
   go_region_held2 (λA=>wr.grownBy A (some E)/\A.cell? (Ad tb 0)=some (.pointer (some (Ad E 0)))/\A.cell? (Ad B2 c)=some (.slice (some (Ad oc 0)) q uc)/\
     A.cell? (Ad oc p)=some (.string (X c p))/\A.cell? (Ad oc p)=some (.string (X c p)))
    (first|exact HK.o _ (by assumption))
    (first
    |(go_at_call 133;refine(MM ((O.o c p m U).mono L.o) (e1.o.mono L.o) W.o (λf=>(hF.o f).first c m) C.o.drew.tab D.o.sum.drew).mono ?_;rintro r w4⟨fs,e4,rfl,e0,j2,e8,k7,j8⟩;have b0:=AR J j8))
   rename_i hH;clear hH;have h6:=D.o.kept b0 k7;have d3:TabB B0 w4:=C.o.kept b0 (by intro q hq;cases hq;exact hB) (by have:=D.o.sum.lt;omega);have g9:Gr B (some E) w w4:=HG.o.more b0 (by have:=D.o.tbLt;omega) (λ_ e=>.inl e);have h0:=S.o.kept b0 (by intro k hk;cases hk;omega);have h3:=HP.o.mono e8;have T:e4=0->e2=0:=λh=>L.o (e8 h);clear b0 j8 J k7 e8 t0 o0 o1;have g5:=qh h6;clear h6 D;have c7:=qh d3;clear d3 C;have f8:=qh g9;clear g9 HG;have f9:=qh h0;clear h0 S HK;have g3:=qh h3;clear h3 HP;replace T:=qh T;clear L;have f3:=qh j2;clear j2 W;replace e0:=qh e0
   go_wp2_with fail
   go_loopw [92] (λi wr=>∃(d e5:Nat) (Y:Nat->Nat->ByteArray),d<=q/\i=.int .i64 (d:Int)/\Tb wr k.1 B tb E g q e5 R Y/\Prog e5 p q c d M X Y/\
    OM wr (λ_=>False) B2 9 79 B2 q R2 (λ_=>q) X/\Er F e5/\(e5=0->e4=0)/\TabB B0 wr/\Gr B (some E) w wr) (λi _=>q-(intOf i).toNat)
   case atStart=>exact⟨0,e4,Y,Nat.zero_le _,rfl,g5.o,g3.o,f9.o,f3.o,λh=>h,c7.o,f8.o⟩
   obtain⟨d,e5,Y,r5,rfl,hT,hP,hO,hE,hm,a6,hG⟩:=hrel;clear g5 c7 f8 f9 g3 f3;have D:=qh hT;clear hT;have HP:=qh hP;clear hP;have S:=qh hO;clear hO;have W:=qh hE;clear hE;have L:=qh hm;clear hm;have C:=qh a6;clear a6;have HG:=qh hG;clear hG;by_cases s:d<q
   ·have r6:(d:Int)<(q:Int):=by omega
    have p0:(0:Int)<=(d:Int):=by omega
    obtain⟨op,up,c8,r9,s4,s3,_,s8,n5,j6,d5⟩:=S.o.form U (by omega);unfold maxLen at n5;have o0:=S.o.cell U;rw[c8]at o0;have o1:=d5 d s;clear j6 d5 c8;cases f1:((X p d).toList==Z0.toList)
    ·
     have a0:=S.o.cell m;rw[a4.o]at a0;obtain⟨n9,o4,a5,_,o8,_,_,_,_,_,d4⟩:=S.o.form m (by omega);rw[a4.o]at a5;obtain⟨rfl,rfl⟩:oc=n9/\uc=o4:=by simpa using a5
     have a1:=d4 d s;clear d4 a5;obtain⟨bc,cc,a3,h9,i5,o6,o7,q8,l4,j3,i9⟩:=D.o.om.form m (by omega);unfold maxLen at l4;have r0:=D.o.om.cell m;rw[a3]at r0;have r1:=i9 d s;have rf:=j3 d;have t0:=D.o.c0;have t1:=D.o.c1;have i2:bc<B2:=f0.o c m bc (by rw[a3];rfl);have HK:=qh (λA (hg:World.grownBy _ A (some E))=>keep7 hg t0 t1 r0 a0 a1 o0 o1 (by simp;omega) (by simp;omega) (by simp;omega) (by simp;omega) (by simp;omega) (by simp;omega) (by simp;omega));have l1:=qh (λA u (hg:World.grownBy _ A (some E))=>keep7s (o:=(Ad bc d)) (q:=.string u) (HK.o A hg) (by simp;omega) (by simp;omega) (by simp;omega) (by simp;omega) (by simp;omega) (by simp;omega) (by simp;omega));replace a3:=qh a3;clear j3 i9;have J:=CY wr (some E)
     go_wp2_with fail
     go_region_held2 (λA=>A.cell? (Ad tb 0)=some (.pointer (some (Ad E 0)))/\A.cell? (Ad tb 1)=some (.slice (some (Ad g 0)) q q)/\A.cell? (Ad g c)=some (.slice (some (Ad bc 0)) q cc)/\
       A.cell? (Ad B2 c)=some (.slice (some (Ad oc 0)) q uc)/\A.cell? (Ad oc d)=some (.string (X c d))/\A.cell? (Ad B2 p)=some (.slice (some (Ad op 0)) q up)/\A.cell? (Ad op d)=some (.string (X p d)))
      (first|exact HK.o _ (by assumption)|exact l1.o _ _ (by assumption))
      (first
      |(go_at_call 133;refine(MM (e0.o.mono L.o) ((O.o p d U s).mono (λh=>T.o (L.o h))) W.o (λf=>(hF.o f).second c d m s) C.o.drew.tab D.o.sum.drew).mono ?_;rintro r w5⟨u5,e6,rfl,m9,l6,e9,m5,l8⟩;have k3:=AR J l8)
      |(go_at_call 132;refine(ML ((O.o c d m s).mono (λh=>T.o (L.o (e9 h)))) m9 l6 (λf=>(hF.o f).sum c d m s) (C.o.kept k3 (by intro q hq;cases hq;exact hB) (by have:=D.o.sum.lt;omega)).tab m5).mono ?_;rintro r w6⟨u6,e7,rfl,n3,l7,k1,m7,l9⟩;have b1:=AR k3 l9;have t8:=(b1.frozen_far (Ad bc d) i5 (by simp;omega)).trans rf;have t7:=b1.cell r1 (by simp;omega)))
     rename_i hH;clear hH;go_wp2;go_roundw
     case rel =>
      have j9:=((Gr.refl B (some E) wr).more b1 (by have:=D.o.tbLt;omega) (λ_ e=>.inl e)).set (p:=(Ad bc d)) (.inr h9) (.string u6);exact⟨d+1,e7,_,by omega,by go_num,(D.o.kept b1 m7).stored m s a3.o u6,(HP.o.mono (λh=>e9 (k1 h))).next n3,
       (S.o.kept b1 (by intro k hk;cases hk;omega)).other (.inr i2) _,l7,λh=>L.o (e9 (k1 h)),C.o.gr j9 (by intro q hq;cases hq;exact hB) (by omega),HG.o.trans j9⟩
     simp[intOf];omega
    go_wp2;go_roundw
    case rel =>
     exact⟨d+1,e5,Y,by omega,by go_num,D.o,HP.o.skip m s (Is.elim_r (O.o.mono (λh=>T.o (L.o h))) m U s ((toList_eq f1).trans a8.o)),S.o,W.o,L.o,C.o,HG.o⟩
    simp[intOf];omega
   have j1:d=q:=by omega
   subst j1;have k0:¬((d:Int)<(d:Int)):=by omega
   go_wp2;go_roundw
   case rel =>
    exact⟨c+1,e5,Y,by omega,by go_num,D.o,HP.o.row,S.o,W.o,λh=>T.o (L.o h),C.o,HG.o⟩
   simp[intOf];omega
  go_wp2;go_roundw
  case rel =>
   have hX:=O.o.mono L.o;exact⟨c+1,e3,Y,by omega,by go_num,D.o,HP.o.skipRow m (Is.elim_l hX m U ((toList_eq hz).trans a8.o)),S.o,W.o,L.o,C.o,HG.o⟩
  simp[intOf];omega
 have j0:c=q:=by omega
 subst j0;have k0:¬((c:Int)<(c:Int)):=by omega
 go_wp2_with fail
 go_end0
 exact⟨e3,Y,rfl,D.o,HP.o.done,W.o,λh=>b6.o (L.o h),HG.o⟩
end
end Go.Proofs.YteappjogmnogcaaGreatDoor
