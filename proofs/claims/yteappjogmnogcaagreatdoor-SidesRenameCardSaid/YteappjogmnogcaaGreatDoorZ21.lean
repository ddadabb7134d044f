/- Parts. -/
import Derived.Test.YteappjogmnogcaaGreatDoorZ16
import Derived.Lib.SlBuf
namespace Go.Proofs.YteappjogmnogcaaGreatDoor
set_option maxRecDepth 100000
set_option linter.all false
set_option maxHeartbeats 16000000
open Go Tryz
section
open Go.RowKit Go.Deep
variable{w:World}{c e:Nat}{k:Int}{a:ByteArray}{b:Bool}
def SumR(w:World)(sb:Nat)(k:Int)(e:Nat):Prop:=w.heap[sb]?=some (.cells #[.int .i64 k,.bool (decide (e≠0))] 156 (0,0))
def SumR.lt(h:SumR w c k e):c<w.heap.size:=(Array.getElem?_eq_some_iff.1 h).1
theorem SumR.c0(h:SumR w c k e):w.cell? (Ad c 0)=some (.int .i64 k):=by unfold SumR at h;simp[World.cell?,h]
theorem SumR.c1(h:SumR w c k e)(hb:decide (e≠0)=b):w.cell? (Ad c 1)=some (.bool b):=by unfold SumR at h;rw[hb]at h;simp[World.cell?,h]
theorem SumR.fz(h:SumR w c k e)(i:Nat):w.frozen? (Ad c i)=false:=by unfold SumR at h;simp[World.frozen?,h]
theorem SumR.set{e':Nat}(h:SumR w c k e)(hb:decide (e'≠0)=b):SumR (w.setCell (Ad c 1) (.bool b)) c k e':=by
 unfold SumR at *;rw[hb];simp[World.setCell,Array.getElem?_modify,h]
theorem SumR.kept{d:World}(h:SumR w c k e)(hb:Below w.heap.size w d):SumR d c k e:=by
 unfold SumR at *;rw[hb.block c (Array.getElem?_eq_some_iff.1 h).1];exact h
theorem SumR.drew(h:SumR w c k e):SumR w.drew c k e:=h
def SumR.new(w:World)(k:Int):SumR (w.alloc (.cells #[.int .i64 k,.bool false] 156)) w.heap.size k 0:=han w _
def OpR{k:KK}(F:Prop)(e sb:Nat)(z:RK k)(w:World)(r:Ending)(w':World):Prop :=
 ∃u e',r=.returned (.string u)/\Is k e' u z/\Er F e'/\(e'=0->e=0)/\SumR w' sb k.1 e'/\w.grownBy w' (some sb)
def knF(k:Int)(e:Nat)(c:ByteArray):ByteArray:=if e=0 then c else Af k
def DD(k:Int)(e l:Nat)(c:ByteArray)(w:World)(h:SumR w l k e):
  Calls prog 197 #[.pointer (some (Ad l 0)),.string c] w (λr w'=>r=.returned (.string (knF k e c))/\Below w.heap.size w w'):=by
 have o:=h.c0;by_cases g:e=0
 ·have c1:=h.c1 (b:=false) (by simp;exact g);have i:=qh g;clear g h
  go_enter func197,ntmps197
  go_wp2;go_ret;exact⟨by unfold knF;rw[ifp i.o];rfl,blr⟩
 have c1:=h.c1 (b:=true) (by simp;exact g);have i:=qh g;clear g h;have j:=λm=>DJ k m
 go_enter func197,ntmps197
 go_wp2_with fail
 refine(j _).mono ?_;rintro r p⟨rfl,d⟩;replace d:=qh d;go_wp2;go_ret;exact⟨by unfold knF;rw[ifn i.o];rfl,d.o⟩
def Yu(k:Int)(e o:Nat)(a b:ByteArray)(w:World)(N:a.size<=100000)(hb:b.size<=100000)(G:SumR w o k e):
  Calls prog 170 #[.pointer (some (Ad o 0)),.string a,.string b] w (λr w'=>r=.returned (.string (knF k (kpE e (Am k a b)) (Am k a b).1))/\SumR w' o k (kpE e (Am k a b))/\w.grownBy w' (some o)):=by
 have L:=G.c0;have E:=Ij k a b w (by omega) (by omega);clear N hb;obtain⟨⟨c,n⟩,I⟩:∃r,r=Am k a b:=⟨_,rfl⟩;rw[<-I]at E ⊢;replace E:=qh E;clear I;have H:=qh G;clear G
 go_enter func170,ntmps170
 go_wp2_with fail
 refine E.o.mono ?_;rintro r P⟨rfl,s⟩;have i:=H.o.kept s;clear L H;replace s:=qh s;by_cases B:e=0
 ·subst B;have c1:=i.c1 (b:=false) (by simp);have K:=i.fz 1;by_cases C:n=0
  ·subst C;have d:=i.set (e':=0) (b:=false) (by simp);have j:=qh d;clear d i;have A:=Dp (Ab s.o (some o)) (p:=(Ad o 1)) (.inl rfl) (.bool false);have D:=qh A;clear A
   go_wp2_with fail
   refine(DD k _ o c _ j.o).mono ?_;rintro r J⟨rfl,g⟩;have l:=AR D.o (Ab g (some o));have m:=j.o.kept g;have u:=qh l;clear l g;have z:=qh m;clear m;go_wp2;go_ret;exact⟨rfl,z.o,u.o⟩
  have O:((n:Int) != 0)=true:=by simp;exact C
  have d:=i.set (e':=n) (b:=true) (by simp;exact C);have j:=qh d;clear d i;have A:=Dp (Ab s.o (some o)) (p:=(Ad o 1)) (.inl rfl) (.bool true);have D:=qh A;clear A;replace C:=qh C
  go_wp2_with fail
  refine(DD k _ o c _ j.o).mono ?_;rintro r J⟨rfl,g⟩;have l:=AR D.o (Ab g (some o));have m:=j.o.kept g;have u:=qh l;clear l g;have z:=qh m;clear m;go_wp2;go_ret;have F:kpE 0 (c,n)=n:=by unfold kpE;rw[ifp ⟨C.o,rfl⟩]
  rw[F];exact⟨rfl,z.o,u.o⟩
 have c1:=i.c1 (b:=true) (by simp;exact B);have K:=i.fz 1;have d:=i.set (e':=e) (b:=true) (by simp;exact B);have j:=qh d;clear d i;have A:=Dp (Ab s.o (some o)) (p:=(Ad o 1)) (.inl rfl) (.bool true);have D:=qh A;clear A;replace B:=qh B
 go_wp2_with fail
 refine(DD k _ o c _ j.o).mono ?_;rintro r J⟨rfl,g⟩;have l:=AR D.o (Ab g (some o));have m:=j.o.kept g;have u:=qh l;clear l g;have z:=qh m;clear m;go_wp2;go_ret;have F:kpE e (c,n)=e:=by unfold kpE;rw[ifn (λh=>B.o h.2)]
 rw[F];exact⟨rfl,z.o,u.o⟩
def PI{k:KK}{F:Prop}{b:ByteArray}{x y:RK k}(m:Is k e a x)(hb:Is k e b y)(s:Er F e)(p:F->fitV (x+y).1)(u:SumR w c k.1 e):
  Calls prog 170 #[.pointer (some (Ad c 0)),.string a,.string b] w (OpR F e c (x+y) w):=by
 refine(Yu k.1 e c a b w m.1 hb.1 u).mono ?_;rintro r z⟨rfl,g,d⟩;have i:(knF k.1 (kpE e (Am k.1 a b)) (Am k.1 a b).1).size<=100000:=by
  have j:=OV k.1 a b;have l:=(Is.zero k 0).1;unfold knF;split<;>omega
 obtain⟨j,l,o⟩:=Fq (OX m hb) s p i (λh=>ifp h);exact⟨_,_,rfl,j,l,o,g,d⟩
def YA(k:Int)(e o:Nat)(a b:ByteArray)(w:World)(N:a.size<=100000)(hb:b.size<=100000)(G:SumR w o k e):
  Calls prog 171 #[.pointer (some (Ad o 0)),.string a,.string b] w (λr w'=>r=.returned (.string (knF k (kpE e (Al k a b)) (Al k a b).1))/\SumR w' o k (kpE e (Al k a b))/\w.grownBy w' (some o)):=by
 have L:=G.c0;have E:=Pj k a b w (by omega) (by omega);clear N hb;obtain⟨⟨c,n⟩,I⟩:∃r,r=Al k a b:=⟨_,rfl⟩;rw[<-I]at E ⊢;replace E:=qh E;clear I;have H:=qh G;clear G
 go_enter func171,ntmps171
 go_wp2_with fail
 refine E.o.mono ?_;rintro r P⟨rfl,s⟩;have i:=H.o.kept s;clear L H;replace s:=qh s;by_cases B:e=0
 ·subst B;have c1:=i.c1 (b:=false) (by simp);have K:=i.fz 1;by_cases C:n=0
  ·subst C;have d:=i.set (e':=0) (b:=false) (by simp);have j:=qh d;clear d i;have A:=Dp (Ab s.o (some o)) (p:=(Ad o 1)) (.inl rfl) (.bool false);have D:=qh A;clear A
   go_wp2_with fail
   refine(DD k _ o c _ j.o).mono ?_;rintro r J⟨rfl,g⟩;have l:=AR D.o (Ab g (some o));have m:=j.o.kept g;have u:=qh l;clear l g;have z:=qh m;clear m;go_wp2;go_ret;exact⟨rfl,z.o,u.o⟩
  have O:((n:Int) != 0)=true:=by simp;exact C
  have d:=i.set (e':=n) (b:=true) (by simp;exact C);have j:=qh d;clear d i;have A:=Dp (Ab s.o (some o)) (p:=(Ad o 1)) (.inl rfl) (.bool true);have D:=qh A;clear A;replace C:=qh C
  go_wp2_with fail
  refine(DD k _ o c _ j.o).mono ?_;rintro r J⟨rfl,g⟩;have l:=AR D.o (Ab g (some o));have m:=j.o.kept g;have u:=qh l;clear l g;have z:=qh m;clear m;go_wp2;go_ret;have F:kpE 0 (c,n)=n:=by unfold kpE;rw[ifp ⟨C.o,rfl⟩]
  rw[F];exact⟨rfl,z.o,u.o⟩
 have c1:=i.c1 (b:=true) (by simp;exact B);have K:=i.fz 1;have d:=i.set (e':=e) (b:=true) (by simp;exact B);have j:=qh d;clear d i;have A:=Dp (Ab s.o (some o)) (p:=(Ad o 1)) (.inl rfl) (.bool true);have D:=qh A;clear A;replace B:=qh B
 go_wp2_with fail
 refine(DD k _ o c _ j.o).mono ?_;rintro r J⟨rfl,g⟩;have l:=AR D.o (Ab g (some o));have m:=j.o.kept g;have u:=qh l;clear l g;have z:=qh m;clear m;go_wp2;go_ret;have F:kpE e (c,n)=e:=by unfold kpE;rw[ifn (λh=>B.o h.2)]
 rw[F];exact⟨rfl,z.o,u.o⟩
def PU{k:KK}{F:Prop}{b:ByteArray}{x y:RK k}(m:Is k e a x)(hb:Is k e b y)(s:Er F e)(p:F->fitV (x*y).1)(u:SumR w c k.1 e):
  Calls prog 171 #[.pointer (some (Ad c 0)),.string a,.string b] w (OpR F e c (x*y) w):=by
 refine(YA k.1 e c a b w m.1 hb.1 u).mono ?_;rintro r z⟨rfl,g,d⟩;have i:(knF k.1 (kpE e (Al k.1 a b)) (Al k.1 a b).1).size<=100000:=by
  have j:=QL k.1 a b;have l:=(Is.zero k 0).1;unfold knF;split<;>omega
 obtain⟨j,l,o⟩:=Fq (QO m hb) s p i (λh=>ifp h);exact⟨_,_,rfl,j,l,o,g,d⟩
def Yw(k:Int)(e o:Nat)(a:ByteArray)(w:World)(N:a.size<=100000)(G:SumR w o k e):
  Calls prog 169 #[.pointer (some (Ad o 0)),.string a] w (λr w'=>r=.returned (.string (knF k (kpE e (AL k a)) (AL k a).1))/\SumR w' o k (kpE e (AL k a))/\w.grownBy w' (some o)):=by
 have L:=G.c0;have E:=XD k a w (by omega);clear N;obtain⟨⟨c,n⟩,I⟩:∃r,r=AL k a:=⟨_,rfl⟩;rw[<-I]at E ⊢;replace E:=qh E;clear I;have H:=qh G;clear G
 go_enter func169,ntmps169
 go_wp2_with fail
 refine E.o.mono ?_;rintro r P⟨rfl,s⟩;have i:=H.o.kept s;clear L H;replace s:=qh s;by_cases B:e=0
 ·subst B;have c1:=i.c1 (b:=false) (by simp);have K:=i.fz 1;by_cases C:n=0
  ·subst C;have d:=i.set (e':=0) (b:=false) (by simp);have j:=qh d;clear d i;have A:=Dp (Ab s.o (some o)) (p:=(Ad o 1)) (.inl rfl) (.bool false);have D:=qh A;clear A
   go_wp2_with fail
   refine(DD k _ o c _ j.o).mono ?_;rintro r J⟨rfl,g⟩;have l:=AR D.o (Ab g (some o));have m:=j.o.kept g;have u:=qh l;clear l g;have z:=qh m;clear m;go_wp2;go_ret;exact⟨rfl,z.o,u.o⟩
  have O:((n:Int) != 0)=true:=by simp;exact C
  have d:=i.set (e':=n) (b:=true) (by simp;exact C);have j:=qh d;clear d i;have A:=Dp (Ab s.o (some o)) (p:=(Ad o 1)) (.inl rfl) (.bool true);have D:=qh A;clear A;replace C:=qh C
  go_wp2_with fail
  refine(DD k _ o c _ j.o).mono ?_;rintro r J⟨rfl,g⟩;have l:=AR D.o (Ab g (some o));have m:=j.o.kept g;have u:=qh l;clear l g;have z:=qh m;clear m;go_wp2;go_ret;have F:kpE 0 (c,n)=n:=by unfold kpE;rw[ifp ⟨C.o,rfl⟩]
  rw[F];exact⟨rfl,z.o,u.o⟩
 have c1:=i.c1 (b:=true) (by simp;exact B);have K:=i.fz 1;have d:=i.set (e':=e) (b:=true) (by simp;exact B);have j:=qh d;clear d i;have A:=Dp (Ab s.o (some o)) (p:=(Ad o 1)) (.inl rfl) (.bool true);have D:=qh A;clear A;replace B:=qh B
 go_wp2_with fail
 refine(DD k _ o c _ j.o).mono ?_;rintro r J⟨rfl,g⟩;have l:=AR D.o (Ab g (some o));have m:=j.o.kept g;have u:=qh l;clear l g;have z:=qh m;clear m;go_wp2;go_ret;have F:kpE e (c,n)=e:=by unfold kpE;rw[ifn (λh=>B.o h.2)]
 rw[F];exact⟨rfl,z.o,u.o⟩
def Yy{k:KK}{F:Prop}{x:RK k}(m:Is k e a x)(s:Er F e)(p:F->fitV (CSR.star x).1)(u:SumR w c k.1 e):
  Calls prog 169 #[.pointer (some (Ad c 0)),.string a] w (OpR F e c (CSR.star x) w):=by
 refine(Yw k.1 e c a w m.1 u).mono ?_;rintro r z⟨rfl,g,d⟩;have i:(knF k.1 (kpE e (AL k.1 a)) (AL k.1 a).1).size<=100000:=by
  have j:=Qq k.1 a;have l:=(Is.zero k 0).1;unfold knF;split<;>omega
 obtain⟨j,l,o⟩:=Fq (Qs m) s p i (λh=>ifp h);exact⟨_,_,rfl,j,l,o,g,d⟩
end
section
open Go.RowKit Go.Deep
def news1r{w:World}{b:Nat}{x:Value}(h:w.cell? (Ad b 0)=some x):∀j u,[x][j]?=some u->w.cell? (((Ad b 0):Addr).add j)=some u:=by
 intro j u c
 match j,c with
 |0,c=>simp at c;subst c;exact h
def LR(n c d l:Nat):Nat:=if l<c then n else if l=c then d else 0
def RJ{n c:Nat}(l:Nat):LR n c n l=LR n (c+1) 0 l:=by
 unfold LR;by_cases e:l<c
 ·rw[ifp e,ifp (by omega)]
 by_cases d:l=c
 ·rw[ifn e,ifp d,ifp (by omega)]
 rw[ifn e,ifn d,ifn (by omega)];split<;>rfl
structure Bz(w wr:World)(gB n d m:Nat)(R:Nat->Value)(x:ByteArray):Prop where
 om:OM wr (λ_=>False) gB 9 79 gB n R (LR n d m) (λ_ _=>x)
 gr:Below gB w wr
 wg:w.heap.size<=gB
namespace Bz
variable{w wr w4 wz wa:World}{gB n d m:Nat}{R:Nat->Value}{x:ByteArray}
theorem start(w:World)(x:ByteArray):Bz w (w.alloc (.cells (madeCells #[.slice none 0 0] n) 79)) w.heap.size n 0 0 (λ_=>.slice none 0 0) x :=
 ⟨(OM.made w (λ_=>False) (by simp) w.heap.size nlr 9 79 n _).congrL λl _=>by unfold LR;split<;>(try split)<;>first|rfl|omega,blr.alloc nlr _,nlr⟩
theorem row(h:Bz w wr gB n d n R x):Bz w wr gB n (d+1) 0 R x:=⟨h.om.congrL λl _=>RJ l,h.gr,h.wg⟩
theorem rowz(h:Bz w wr gB n d m R x)(k:d<n)(c:wr.grownBy w4 none)(g:w4.grownBy wz none):OwS wz gB 9 (R d) m (λ_=>x):=by
 have i:=((h.om.kept c (by simp)).kept g (by simp)).row d k;have j:LR n d m d=m:=by unfold LR;simp
 rw[j]at i;exact i
theorem own(h:Bz w wr gB n d m R x)(c:d<n):∀j,(R d).ownBlock=some j->gB<=j/\j<wr.heap.size/\j≠gB:=λj g =>
 ⟨(h.om.rowLt c j g).1,(h.om.rowLt c j g).2,(h.om.far d c j g).1⟩
theorem cellA(h:Bz w wr gB n d m R x)(j:d<n)(c:wz.grownBy wa (R d).ownBlock){g:Addr}{y:Value}(hb:g.block<=gB)(i:wz.cell? g=some y):wa.cell? g=some y :=
 c.cell i (λe=>by have:=h.own j _ e.symm;omega)
theorem frozenA(h:Bz w wr gB n d m R x)(k:d<n)(g:wr.grownBy w4 none)(i:w4.grownBy wz none)(c:wz.grownBy wa (R d).ownBlock):wa.frozen? (Ad gB d)=false:=by
 have j:=h.om.lt;have l:=g.size;have o:=i.size;exact(c.frozen_far (Ad gB d) (by show gB<_;omega) (λe=>(h.own k _ e.symm).2.2 rfl)).trans ((i.frozen_far (Ad gB d) (by show gB<_;omega) (by simp)).trans ((g.frozen_far (Ad gB d) j (by simp)).trans (h.om.frozen d)))
theorem snoc{k cap:Nat}(h:Bz w wr gB n d m R x)(u:d<n)(g:wr.grownBy w4 none)
  (i:w4.grownBy wz none) (o:wa.ownsRow gB 9 1 (.slice (some (Ad k 0)) (m+1) cap) (m+1) (strs m (λ_=>x)++[.string x])) (c:wz.grownBy wa (R d).ownBlock) (s:(R d).ownBlock=some k\/k=wz.heap.size) :
  ∃R3,Bz w (wa.setCell (Ad gB d) (.slice (some (Ad k 0)) (m+1) cap)) gB n d (m+1) R3 x:=by
 have A:=h.om.kept g (by simp);have p:wa.ownsRow gB 9 1 (.slice (some (Ad k 0)) (m+1) cap) (m+1) (strs (m+1) (λ_=>x)):=by
  rw[<-Zm];exact o
 have B:=h.om.lt;have D:=g.size;have E:=i.size;refine⟨_,⟨((A.appended u i p c s).congrL λl C=>?_).congr λl j C z=>?_,?_,h.wg⟩⟩
 ·unfold LR;by_cases e:l=d
  ·subst e;simp
  simp[e]
 ·by_cases e:l=d
  ·subst e;simp
  simp[e]
 exact((h.gr.trans ((Nz g).mono (by omega)) |>.trans ((Nz i).mono (by omega))).grown c (by omega) (λj z=>(h.own u j z).1)).setCell nlr _
end Bz
def ZerE(n:Nat)(x:ByteArray)(w:World)(r:Ending)(w':World):Prop :=
 ∃g R,r=.returned (.slice (some (Ad g 0)) n n)/\OM w' (λ_=>False) g 9 79 g n R (λ_=>n) (λ_ _=>x)/\w.heap.size<=g/\Below w.heap.size w w'
theorem RH(k:Int){n:Nat}(w:World)(hn:n<=60):Calls prog 168 #[.int .i64 k,.int .i64 (n:Int)] w (ZerE n (Af k) w):=by
 have T:=run_make_row' (P:=prog) 75 79 (.slice none 0 0) 24 underlying75 Ff rfl .i64 .i64 n (by omega) (by omega);have Y:=Bz.start (n:=n) w (Af k);have G:=qh Y;clear Y
 go_enter func168,ntmps168
 go_wp2_with fail
 clear T;obtain⟨C,z⟩:=exq<|w.heap.size;rw[<-z]at G;rw[<-z];replace z:=qh z
 go_loopw [6,7] (λi _ wr=>∃(d:Nat) (O:Nat->Value),d<=n/\i=.int .i64 (d:Int)/\Bz w wr C n d 0 O (Af k)) (λi _ _=>n-(intOf i).toNat)
 case atStart=>exact⟨0,_,Nat.zero_le _,rfl,G.o⟩
 obtain⟨d,O,hd,rfl,s⟩:=hrel;clear G;have c:=qh s;clear s;by_cases B:d<n
 ·have b4:(d:Int)<(n:Int):=by omega
  have b0:(0:Int)<=(d:Int):=by omega
  go_wp2_with fail
  go_loopw [7] (λi wr=>∃(m:Nat) (O:Nat->Value),m<=n/\i=.int .i64 (m:Int)/\Bz w wr C n d m O (Af k)) (λi _=>n-(intOf i).toNat)
  case atStart=>exact⟨0,O,Nat.zero_le _,rfl,c.o⟩
  obtain⟨m,R3,b7,rfl,s⟩:=hrel;clear c;have c:=qh s;clear s;by_cases b2:m<n
  ·have b8:(m:Int)<(n:Int):=by omega
   have b3:(0:Int)<=(m:Int):=by omega
   obtain⟨lv,h⟩:=exq<|R3 d;have s1:=c.o.om.cell B;rw[<-h]at s1;obtain⟨i0,a5,a6,a7,a8⟩:=info_parts FX;have b6:=c.o.om.lt;replace h:=qh h;have a4:=CY wr none;have g:wr.drew.cell? (Ad C d)=some lv:=s1;have a3:=λL=>DJ k L
   go_wp2_with fail
   refine Au (λL=>L.cell? (Ad C d)=some lv) 11 (by kernel_rfl) ?_;refine Aa.tm 0 g ?_;refine Aa.tm 1 g ?_;refine Aa.tm 2 g ?_;refine Aa.tm 3 g ?_;refine Aa.tm 4 g ?_;refine Aa.tm 5 g ?_;refine Aa.tm 6 g ?_
   try simp only[Act.put,tryL]
   refine Aa.on 7 λK p=>?_;go_simp;refine(a3 _).mono ?_;rintro r F⟨rfl,a2⟩;have u:wr.grownBy F none:=AR a4 (Ab a2 none);have Q:F.cell? (Ad C d)=some lv:=u.cell s1 (by simp);refine p.out _ _ (.inr Q) ?_;clear p K
   try simp only[Act.put,tryL]
   refine Aa.on 8 λK p=>?_;go_simp;obtain⟨N,o⟩:=exq<|F.alloc (.cells #[.string (Af k)] 9);have E:F.grownBy N none:=by rw[o];exact World.grownBy_alloc F _ none
   have b9:N.heap.size=F.heap.size+1:=by rw[o];simp
   have U:N.cell? (Ad F.heap.size 0)=some (.string (Af k)):=by rw[o];exact CV F _ _ 0 _ rfl
   rw[<-o];replace o:=qh o;have R:=E.cell Q (by simp);refine p.out _ _ (.inr R) ?_;clear p K
   try simp only[Act.put,tryL]
   have X:=c.o.rowz B u E;rw[<-h.o]at X;have Z:C<=N.heap.size:=by have:=u.size;omega
   refine Aa.on 9 λK p=>?_;refine wp_append_lies _ (.tmp 25) (.tmp 28) 79 rfl C 9 i0 (.string ⟨#[]⟩) 1 16 underlying79 a5 a6 a7 a8 rfl (by omega) lv m _ (by simp[Act.eval]) X (Ad F.heap.size 0) 1 1 [.string (Af k)] (by simp[Act.eval]) rfl (news1r U) (WY _) (by omega) (by unfold maxLen;omega) (by omega) Z _ rfl ?_;intro go a9 wa W A a1 b1;have j:N.grownBy wa (R3 d).ownBlock:=by rw[<-h.o];exact A
   have H:=c.o.cellA B j (by first|exact nlr|(apply Nat.le_of_lt;assumption)) (R)
   have b5:=c.o.frozenA B u E j;refine p.out _ _ (.inr H) ?_;clear p K
   try simp only[Act.put,tryL]
   refine Aa.tm 10 H ?_
   try simp only[Act.put,tryL]
   have g0:=H;refine Aa.on 11 λK p=>?_;go_simp;refine p.out _ _ (.inl rfl) (Aa.dn ?_);clear p K;go_wp2;go_roundw
   case rel =>
    obtain⟨R4,D⟩:=c.o.snoc B u E W (by rw[<-h.o];exact A) (by rw[<-h.o];exact a1);exact⟨m+1,R4,by omega,by go_num,D⟩
   simp[intOf];omega
  have J:m=n:=by omega
  have S:¬((m:Int)<(n:Int)):=by omega
  replace J:=qh J;go_wp2;go_roundw
  case rel =>
   refine⟨d+1,R3,by omega,by go_num,?_⟩;have D:=c.o;rw[J.o]at D;exact D.row
  simp[intOf];omega
 have I:d=n:=by omega
 have S:¬((d:Int)<(n:Int)):=by omega
 replace I:=qh I;go_wp2;go_ret;have D:=c.o;rw[I.o]at D;exact⟨C,O,rfl,D.om.congrL λl hl=>(by unfold LR;rw[ifp hl]),D.wg,by have h2:=D.gr;rw[z.o]at h2;exact h2⟩
theorem OM.copied{Z:Nat->Prop}{B g n:Nat}{R:Nat->Value}{i b cap:Nat}(hi:i<n)(hR:R i=.slice (some (Ad b 0)) n cap)(U:Nat->ByteArray):
  ∀(m o:Nat) (w:World) (X:Nat->Nat->ByteArray),o+m=n->OM w Z B 9 79 g n R (λ_=>n) X ->
   OM (w.setCells b o ((List.range' o m).map λj=>.string (U j))) Z B 9 79 g n R (λ_=>n) (λl j=>if l=i/\o<=j then U j else X l j)
 |0,o,w,X,ho,h=>h.congr λl j hl hj=>by rw[ifn (by omega)]
 |m+1,o,w,X,ho,h=>by
  have h1:=h.stored hi (show o<n by omega) hR (U o);have h2:=OM.copied hi hR U m (o+1) _ _ (by omega) h1;refine OM.congr h2 λl j hl hj=>?_;by_cases e:l=i
  ·by_cases e2:j=o
   ·rw[ifn (by omega),ifp ⟨e,e2⟩,ifp (by omega),e2]
   by_cases e3:o<=j
   ·rw[ifp (by omega),ifp ⟨e,e3⟩]
   rw[ifn (by omega),ifn (λh=>e2 h.2),ifn (λh=>e3 h.2)]
  rw[ifn (λh=>e h.1),ifn (λh=>e h.1),ifn (λh=>e h.1)]
end
section
open Go.RowKit Go.Deep
variable{c d e g i n:Nat}{w:World}{k:KK}
def StaR{k:KK}(F:Prop)(sb n e:Nat)(M:Nat->Nat->RK k)(w:World)(r:Ending)(w':World):Prop :=
 ∃v e' Y,r=.returned v/\Mt (some sb) w' v n (λ_=>n) Y/\MatIs e' n Y (CSR.starM M n)/\Er F e'/\(e'=0->e=0)/\SumR w' sb k.1 e'/\w.grownBy w' (some sb)
def Rw1(w:World)(g sb gc n:Nat)(Y:Nat->Nat->ByteArray)(i:Nat):Prop :=
 ∃rb cap,w.cell? (Ad g i)=some (.slice (some (Ad rb 0)) n cap)/\rb<gc/\rb≠sb/\n<=cap/\cap<=9223372036854775807/\∀j,j<n->w.cell? (Ad rb j)=some (.string (Y i j))
theorem OM.rw1{j:Nat}{R:Nat->Value}{Y:Nat->Nat->ByteArray}(h:OM w (λ_=>False) g 9 79 g n R (λ_=>n) Y)(A:j<g)(p:w.heap.size<=d)(hi:i<n):Rw1 w g j d n Y i:=by
 obtain⟨s,c,o,u,z,_,_,k,l,_,m⟩:=h.form hi (by omega);unfold maxLen at l;exact⟨s,c,by rw[<-o];exact h.cell hi,by omega,by omega,k,by omega,m⟩
theorem SumR.other{k:Int}(h:SumR w c k e){p:Addr}(d:c≠p.block)(v:Value):SumR (w.setCell p v) c k e:=by
 unfold SumR at *;rw[blk_setCell_other _ _ _ _ d];exact h
theorem Uq{q m:Nat}{Y:Nat->Nat->ByteArray}{M:Nat->Nat->RK k}(h:MatIs e n Y M)(g:d<n)(i:m<n)(j:q<n)(c:Y d q=Af k.1\/Y q m=Af k.1):Is k e (Y d m) (CSR.elim q M d m):=by
 refine⟨(h d m g i).1,λo=>?_⟩;subst o;have l:CSR.elim q M d m=M d m:=by
  show M d m+M d q*CSR.star (M q q)*M q m=M d m
  rcases c with c|c
  ·rw[((h d q g j).eq_zero).1 c,CSR.zm,CSR.zm,CSR.a0]
  rw[((h q m j i).eq_zero).1 c,CSR.m0,CSR.a0]
 rw[l];exact(h d m g i).2 rfl
theorem Rw1.gr{wr:World}{Y:Nat->Nat->ByteArray}(h:Rw1 w g d c n Y i)(p:Gr c (some d) w wr)(C:g<c)(l:g≠d):Rw1 wr g d c n Y i:=by
 obtain⟨s,k,u,m,o,z,A,B⟩:=h;exact⟨s,k,(World.cell?_of_block (p.block g C (by simp;exact l))).trans u,m,o,z,A,λj D=>(World.cell?_of_block (p.block s m (by simp;exact o))).trans (B j D)⟩
theorem Zf{F:Prop}{L:Nat}{X:Nat->Nat->ByteArray}{M:Nat->Nat->RK k}{v:Value}(w:World)(hn:n<=60)(hs:SumR w L k.1 e)(he:Er F e)(hA:Mt (some L) w v n (λ_=>n) X)(hX:MatIs e n X M)(hF:F->FitM n M):
  Calls prog 137 #[.pointer (some (Ad L 0)),v] w (StaR F L n e M w):=by
 obtain⟨a1,z8,b1,o1,A1,C1,f9,O1,rfl,r0,l8,j4,g3,h0⟩:=hA.open;unfold maxLen at j4;clear hA;have B6:=hs.lt;have s0:=hs.c0;have o4:=qh r0;clear r0;have o5:=qh g3;clear g3;have p8:=qh h0;clear h0;have HX:=qh hX;clear hX;replace he:=qh he;replace hF:=qh hF;have HS:=qh hs;clear hs
 go_enter func137,ntmps137
 go_wp2_with fail
 refine(RH k.1 w hn).mono ?_;rintro r w1⟨g,R,rfl,J,m8,g3⟩;clear s0;have f5:L<g:=by omega
 have E:=qh J;clear J;have k2:=qh g3;clear g3
 go_wp2_with fail
 go_loopw [7] (λi wr=>∃(q:Nat) (Y:Nat->Nat->ByteArray),q<=n/\i=.int .i64 (q:Int)/\OM wr (λ_=>False) g 9 79 g n R (λ_=>n) Y/\(∀l j,l<n->j<n->l<q->Y l j=X l j)/\Below w.heap.size w wr) (λi _=>n-(intOf i).toNat)
 case atStart=>exact⟨0,_,Nat.zero_le _,rfl,E.o,λ_ _ _ _ h=>by omega,k2.o⟩
 obtain⟨q,Y,hq,rfl,J,hy,r3⟩:=hrel;clear E k2;have E:=qh J;clear J;have HY:=qh hy;clear hy;have d9:=qh r3;clear r3;by_cases B:q<n
 ·have x8:(q:Int)<(n:Int):=by omega
  have r8:(0:Int)<=(q:Int):=by omega
  obtain⟨rb,U,e4,j7,n9,r9,_,r4,g4,a9,a8⟩:=E.o.form B (by omega);unfold maxLen at g4;have s1:=E.o.cell B;rw[e4]at s1;obtain rfl:=o4.o (by omega);obtain⟨k1,_,k3,k4,k5,_,k7⟩:=p8.o q B;have t8:=k4 (by omega);have t9:=(k5 (by omega)).1;rw[t8]at k1;unfold maxLen at k3;have w2:(C1 q:Int)<=9223372036854775807:=by omega
  have s2:=(d9.o.cell (p:=(Ad b1 (o1+q))) (o5.o (by omega)).1).trans k1;have l4:∀j (u:Value),((List.range' 0 n).map λj=>Value.string (X q j))[j]?=some u->wr.drew.cell? (((Ad (f9 q) (O1 q)):Addr).add j)=some u:=λj u hu=>by
   rw[List.getElem?_map]at hu;obtain⟨x,hx,rfl⟩:=Option.map_eq_some_iff.1 hu;have T:j<n:=by have:=(List.getElem?_eq_some_iff.1 hx).1;simpa using this
   have y7:x=j:=by have:=(List.getElem?_eq_some_iff.1 hx).2;simp at this;omega
   subst y7;rw[Addr.add_lit];exact(d9.o.cell (p:=(Ad (f9 q) (O1 q+x))) t9).trans (k7 x T)
  have f7:(prog.info? 9).map (·.size)=some 1:=by kernel_rfl
  have m2:=run_copy_cells (P:=prog) wr.drew 79 79 3 9 rb 0 n U (Ad (f9 q) (O1 q)) n (C1 q) ((List.range' 0 n).map λj=>Value.string (X q j)) underlying79 f7 (by simp) l4
   (λj T=>by rw[Nat.zero_add,show wr.drew.cell? (Ad rb j)=some (.string (Y q j)) from a8 j (by simpa using T)];rfl) (λj T=>by rw[Nat.zero_add];exact a9 j) (λu hu=>by obtain⟨x,_,rfl⟩:=List.mem_map.1 hu;rfl)
  have a3:=OM.copied B e4 (X q) n 0 wr.drew Y (by omega) (E.o.kept (CY wr none) (by simp));have Q:=qh a3;clear a3;replace m2:=qh m2;clear k1 k4 k5 k7 t8 t9 a9 a8 l4;have o:wr.drew.cell? (Ad g q)=some (.slice (some (Ad rb 0)) n U)/\wr.drew.cell? (Ad b1 (o1+q))=some (.slice (some (Ad (f9 q) (O1 q))) n (C1 q)):=⟨s1,s2⟩
  go_wp2_with fail
  refine Au (λs=>s.cell? (Ad g q)=some (.slice (some (Ad rb 0)) n U)/\s.cell? (Ad b1 (o1+q))=some (.slice (some (Ad (f9 q) (O1 q))) n (C1 q))) 8 (by kernel_rfl) ?_;refine Aa.tm 0 o ?_;refine Aa.tm 1 o ?_;refine Aa.tm 2 o ?_;refine Aa.tm 3 o ?_;refine Aa.tm 4 o ?_;refine Aa.tm 5 o ?_;refine Aa.tm 6 o ?_;refine Aa.tm 7 o ?_
  try simp only[Act.put,tryL]
  refine Aa.on 8 λK G=>?_;refine Lib.wp_copy_run _ (.tmp 30) (.tmp 34) 79 79 rfl _ _ (by simp[Act.eval]) (by simp[Act.eval]) m2.o ?_;refine G.out _ _ (.inl rfl) (Aa.dn ?_);clear G K;go_wp2;go_roundw
  case rel =>
   refine⟨q+1,_,by omega,by go_num,Q.o,λl j hl T B3=>?_,Lib.below_setCells rb (by omega) _ _ d9.o.drew⟩;by_cases e:l=q
   ·rw[ifp ⟨e,Nat.zero_le _⟩,e]
   rw[ifn (λh=>e h.1)];exact HY.o l j hl T (by omega)
  simp[intOf];omega
 have f4:q=n:=by omega
 have g7:¬((q:Int)<(n:Int)):=by omega
 have h9:MatIs e n Y M:=λl j hl T=>by rw[HY.o l j hl T (by omega)];exact HX.o l j hl T
 have a7:=qh h9;clear h9;have A8:=qh f4;clear f4;have p9:=qh<|HS.o.kept d9.o;clear HS
 go_wp2_with fail
 clear p8 o5 o4 HX
 go_loopw [6,8,9,10,11,12] (λbv i _ _ _ _ wr=>∃(q e' g:Nat) (R:Nat->Value) (Y:Nat->Nat->ByteArray),q<=n/\bv=.slice (some (Ad g 0)) n n/\i=.int .i64 (q:Int)/\
  OM wr (λ_=>False) g 9 79 g n R (λ_=>n) Y/\L<g/\w.heap.size<=g/\MatIs e' n Y (CSR.elims M q)/\Er F e'/\(e'=0->e=0)/\SumR wr L k.1 e'/\Gr w.heap.size (some L) w wr) (λ_ i _ _ _ _ _=>n-(intOf i).toNat)
 case atStart=>exact⟨0,e,g,R,Y,Nat.zero_le _,rfl,rfl,E.o,f5,m8,a7.o,he.o,λh=>h,p9.o,Gr.of (Ab d9.o _) nlr⟩
 clear E HY d9 a7 p9;clear f5 m8;obtain⟨q,e',g,R,Y,hq,rfl,rfl,J,f5,m8,h9,hE,hm,hS,hG⟩:=hrel;have E:=qh J;clear J;have a7:=qh h9;clear h9;have i6:=qh hE;clear hE;have HM:=qh hm;clear hm;have HS:=qh hS;clear hS;have HG:=qh hG;clear hG;by_cases B:q<n
 ·have x8:(q:Int)<(n:Int):=by omega
  have r8:(0:Int)<=(q:Int):=by omega
  have s0:=HS.o.c0
  go_wp2_with fail
  refine(RH k.1 wr hn).mono ?_;rintro r w4⟨gc,Rc,rfl,a3,B2,b9⟩;have x3:=E.o.lt;have A6:=b9.size;have x5:=E.o.kept (Ab b9 none) (by simp);have h7:∀i,i<n->Rw1 w4 g L gc n Y i:=λi hi=>by
   obtain⟨rb,v5,h1,h2,h3,h4,h5,h6⟩:=E.o.rw1 f5 nlr hi;exact⟨rb,v5,(Ab b9 none).cell h1 (by simp),by omega,h3,h4,h5,λj T=>(Ab b9 none).cell (h6 j T) (by simp)⟩
  have s6:=HS.o.kept b9;have q9:=HG.o.more (Ab b9 none) (HG.o.size) (λ_ h=>by cases h);have d8:g<gc:=by omega
  clear s0;have l6:=qh h7;clear h7 x5;have q7:=qh s6;clear s6;have l5:=qh q9;clear q9 b9 HG HS E;have Q:=qh a3;clear a3;obtain⟨rq,cq,p1,p2,p3,p4,p5,p6⟩:=l6.o q B;have p7:=p6 q B;clear p6;have l9:=Yy (F:=F) (a7.o q q B B) i6.o (λf=>((hF.o f).steps q B).star) q7.o;replace l9:=qh l9
  go_wp2_with fail
  refine l9.o.mono ?_;rintro r w5⟨lp,e5,rfl,m9,m4,n6,s7,j3⟩;have h8:L<gc:=by omega
  have a3:=Q.o.kept j3 (by intro j T;cases T;exact h8);have h7:∀i,i<n->Rw1 w5 g L gc n Y i:=λi hi=>(l6.o i hi).gr (Gr.of j3 (by have:=Q.o.lt;omega)) d8 (by omega);clear p1 p2 p3 p4 p5 p7;have l7:=l5.o.more j3 (by have:=l5.o.size;omega) (λ_ h=>.inl h);have g1:=qh h7;clear h7 l6;have k9:=qh a3;clear a3 Q;replace l7:=qh l7;clear l5 j3;have d0:=qh<|a7.o.mono n6;clear a7;replace m9:=qh m9;replace m4:=qh m4;clear i6;have v2:=qh<|show e5=0->e=0 from λh=>HM.o (n6 h);clear n6 HM;have q8:=qh s7;clear s7 q7;have c7:g≠L:=by omega
  go_wp2_with fail
  go_loopw [11,12] (λi _ wr=>∃(d e6:Nat) (Yc:Nat->Nat->ByteArray),d<=n/\i=.int .i64 (d:Int)/\OM wr (λ_=>False) gc 9 79 gc n Rc (λ_=>n) Yc/\
   (∀l j,l<n->j<n->l<d->Is k e6 (Yc l j) (CSR.elim q (CSR.elims M q) l j))/\Er F e6/\(e6=0->e5=0)/\SumR wr L k.1 e6/\Gr gc (some L) w5 wr) (λi _ _=>n-(intOf i).toNat)
  case atStart=>exact⟨0,e5,_,Nat.zero_le _,rfl,k9.o,λ_ _ _ _ h=>by omega,m4.o,λh=>h,q8.o,Gr.refl _ _ _⟩
  obtain⟨d,e6,Yc,hd,rfl,J,i4,hE,hm,hS,hG⟩:=hrel;clear k9 q8;have Q:=qh J;clear J;have b5:=qh i4;clear i4;have b3:=qh hE;clear hE;have a4:=qh hm;clear hm;have b4:=qh hS;clear hS;have a6:=qh hG;clear hG;by_cases D:d<n
  ·have B1:(d:Int)<(n:Int):=by omega
   have A0:(0:Int)<=(d:Int):=by omega
   go_wp2_with fail
   go_loopw [12] (λi wr=>∃(m e6:Nat) (Yc:Nat->Nat->ByteArray),m<=n/\i=.int .i64 (m:Int)/\OM wr (λ_=>False) gc 9 79 gc n Rc (λ_=>n) Yc/\
    (∀l j,l<n->j<n->(l<d\/(l=d/\j<m))->Is k e6 (Yc l j) (CSR.elim q (CSR.elims M q) l j))/\Er F e6/\(e6=0->e5=0)/\SumR wr L k.1 e6/\Gr gc (some L) w5 wr) (λi _=>n-(intOf i).toNat)
   case atStart=>exact⟨0,e6,Yc,Nat.zero_le _,rfl,Q.o,λl j hl T h=>b5.o l j hl T (by omega),b3.o,a4.o,b4.o,a6.o⟩
   obtain⟨m,e6,Yc,B4,rfl,J,i4,hE,hm,hS,hG⟩:=hrel;clear Q b5 b3 a4 b4 a6;have Q:=qh J;clear J;have b5:=qh i4;clear i4;have b3:=qh hE;clear hE;have a4:=qh hm;clear hm;have b4:=qh hS;clear hS;have a6:=qh hG;clear hG;by_cases I:m<n
   ·have B5:(m:Int)<(n:Int):=by omega
    have A3:(0:Int)<=(m:Int):=by omega
    obtain⟨rd,cd,d1,d2,d3,d4,d5,d6⟩:=(g1.o d D).gr a6.o d8 c7;obtain⟨U,cc,b7,j7,n9,r9,_,r4,g4,a9,a8⟩:=Q.o.form D (by omega);unfold maxLen at g4;have s1:=Q.o.cell D;rw[b7]at s1;have s2:=a8 m I;have rf:=a9 m;replace b7:=qh b7;clear a9 a8;obtain⟨y3,f8⟩:=exq<|Y d m;have s4:=d6 m I;rw[<-f8]at s4;replace f8:=qh f8;have o:wr.drew.cell? (Ad gc d)=some (.slice (some (Ad U 0)) n cc)/\wr.drew.cell? (Ad U m)=some (.string (Yc d m))/\wr.drew.cell? (Ad g d)=some (.slice (some (Ad rd 0)) n cd)/\wr.drew.cell? (Ad rd m)=some (.string y3):=⟨s1,s2,d1,s4⟩;have D6:=qh d6;clear d6
    go_wp2_with fail
    refine Au (λs=>s.cell? (Ad gc d)=some (.slice (some (Ad U 0)) n cc)/\s.cell? (Ad U m)=some (.string (Yc d m))/\s.cell? (Ad g d)=some (.slice (some (Ad rd 0)) n cd)/\s.cell? (Ad rd m)=some (.string y3)) 13 (by kernel_rfl) ?_;refine Aa.tm 0 o ?_;refine Aa.tm 1 o ?_;refine Aa.tm 2 o ?_;refine Aa.tm 3 o ?_;refine Aa.tm 4 o ?_;refine Aa.tm 5 o ?_;refine Aa.tm 6 o ?_;refine Aa.tm 7 o ?_;refine Aa.tm 8 o ?_;refine Aa.tm 9 o ?_;refine Aa.tm 10 o ?_;refine Aa.tm 11 o ?_;refine Aa.tm 12 o ?_
    try simp only[Act.put,tryL]
    have g0:=o.2.1;have z3:wr.drew.frozen? (Ad U m)=false:=rf;refine Aa.on 13 λK G=>?_;go_simp;refine G.out _ _ (.inl rfl) (Aa.dn ?_);clear G K;have a2:=(Q.o.stored D I b7.o y3).kept (CY _ none) (by simp);have O:=(a6.o.set (p:=(Ad U m)) (.inr j7) (.string y3)).drew;have c8:=(b4.o.other (p:=(Ad U m)) (by show L≠U;omega) (.string y3)).drew;clear g0 z3 o s1 s2 s4 d1 rf;obtain⟨w6,o2⟩:∃w6,w6=(wr.setCell ⟨U,m,none⟩ (.string y3)).drew:=⟨_,rfl⟩;rw[<-o2]at a2 O c8;rw[<-o2];clear o2 b4 a6 D6;replace a2:=qh a2;replace O:=qh O;replace c8:=qh c8;obtain⟨N,b6,d1,v6,i8,v7,v8,d6⟩:=(g1.o d D).gr O.o d8 c7;obtain⟨rq,cq,q1,q2,q3,q4,q5,q6⟩:=(g1.o q B).gr O.o d8 c7;obtain⟨y1,i2⟩:=exq<|Y d q;obtain⟨y2,i3⟩:=exq<|Y q m;have t2:=d6 q B;have t5:=q6 m I;have t6:=d6 m I;rw[<-i2]at t2;rw[<-i3]at t5;rw[<-f8.o]at t6;have t3:=c8.o.c0;clear d6 q6;have b2:=λs=>DJ k.1 s;replace b2:=qh b2;have i7:=qh (λs (hg:w6.grownBy s (some L))=>(⟨hg.cell d1 (by simp;exact c7),hg.cell t2 (by simp;exact i8),hg.cell q1 (by simp;exact c7),hg.cell t5 (by simp;exact q3)⟩ :
     s.cell? (Ad g d)=some (.slice (some (Ad N 0)) n b6)/\s.cell? (Ad N q)=some (.string y1)/\s.cell? (Ad g q)=some (.slice (some (Ad rq 0)) n cq)/\s.cell? (Ad rq m)=some (.string y2)))
    have e1:=qh (λs (hb:Below w6.heap.size w6 s)=>(⟨(i7.o _ (Ab hb _)).1,(i7.o _ (Ab hb _)).2.1,(c8.o.kept hb).c0,(i7.o _ (Ab hb _)).2.2.1,(i7.o _ (Ab hb _)).2.2.2⟩ :
     s.cell? (Ad g d)=some (.slice (some (Ad N 0)) n b6)/\s.cell? (Ad N q)=some (.string y1)/\s.cell? (Ad L 0)=some (.int .i64 k.1)/\s.cell? (Ad g q)=some (.slice (some (Ad rq 0)) n cq)/\s.cell? (Ad rq m)=some (.string y2)))
    obtain⟨zs,i5⟩:=exq<|Af k.1;rw[<-i5]at b2;replace i5:=qh i5;replace i2:=qh i2;replace i3:=qh i3;have f0:Below w6.heap.size w6 w6.drew:=blr.drew;have o:=e1.o _ f0;cases x6:(y1.toList==zs.toList)
    focus
     cases x7:(y2.toList==zs.toList)
     ·go_wp2_with fail
      refine wp_region_held (S:=λs=>s.cell? (Ad g d)=some (.slice (some (Ad N 0)) n b6)/\s.cell? (Ad N q)=some (.string y1)/\s.cell? (Ad L 0)=some (.int .i64 k.1)/\s.cell? (Ad g q)=some (.slice (some (Ad rq 0)) n cq)/\s.cell? (Ad rq m)=some (.string y2)) (by kernel_rfl) ?_;refine hTm 0 o ?_;refine hTm 1 o ?_;refine hTm 2 o ?_;refine hTm 3 o ?_;refine hTm 4 o ?_;refine hTm 5 o ?_;refine hTm 6 o ?_;refine hTm 7 o ?_;refine hTm 8 o ?_;refine hTm 9 o ?_;refine hTm 10 o ?_
      try simp only[Act.put,tryL]
      refine wpAnyH_ready (rs:=[11]) (by kernel_rfl) (by simp) (AllReadyH.cons rfl (λK G=>?_) AllReadyH.nil);rw[ifp (by kernel_rfl)];go_simp;refine(b2.o _).mono ?_;rintro r z7⟨rfl,d7⟩;have W:=f0.trans d7;have A:=e1.o _ W;refine G.out _ _ A (λ_=>?_);clear G K
      try simp only[Act.put,tryL]
      refine hTm 12 A ?_;refine hTm 13 A ?_;refine hTm 14 A ?_;refine hTm 15 A ?_;refine hTm 16 A ?_;refine hTm 17 A ?_;refine hTm 18 A ?_;refine hTm 19 A ?_;refine hTm 20 A ?_;refine hTm 21 A ?_;refine hTm 22 A ?_;refine hTm 23 A ?_;refine hTm 24 A ?_
      try simp only[Act.put,tryL]
      refine wpAnyH_ready (rs:=[25]) (by kernel_rfl) (by simp) (AllReadyH.cons rfl (λK G=>?_) AllReadyH.nil);rw[ifp (by kernel_rfl)];go_simp;refine(b2.o _).mono ?_;rintro r wz⟨rfl,f1⟩;have H:=W.trans<|f1.mono W.size;have C:=e1.o _ H;refine G.out _ _ C (λ_=>?_);clear G K
      try simp only[Act.put,tryL]
      refine hTm 26 C ?_;refine hTm 27 C ?_
      try simp only[Act.put,tryL]
      refine wpAnyH_done (by kernel_rfl) ?_ _;have a5:=a2.o.kept (Ab H none) (by simp);have i9:=O.o.more (Ab H none) (by have:=O.o.size;have:=a2.o.lt;omega) (λ_ h=>by cases h);have f7:=c8.o.kept H;have k6:=(Ab H none).cell t6 (by simp);clear o A f0 d1 q1 t2 t3 t5 t6;obtain⟨z1,z2,_,z4,z5⟩:=C;obtain⟨B7,A9,l0,A4,s5,A5,_,_,_,l3,l2⟩:=a5.form D (by omega);have e2:=b7.o.symm.trans l0;simp only[Value.slice.injEq,Option.some.injEq,Addr.mk.injEq,and_true,true_and]at e2;obtain⟨e2,e3⟩:=e2;subst e2 e3;clear l0;obtain⟨y0,t7⟩:∃y0,wz.cell? ⟨U,m,none⟩=some (.string y0):=⟨_,l2 m I⟩;have u1:=a5.cell D;rw[b7.o]at u1;have z6:=l3 m;clear l3 l2;have p0:=qh a5;clear a5;have o8:=qh i9;clear i9;have v4:=qh f7;clear f7
      go_wp2_with fail
      have c9:=qh (λs (hg:wz.grownBy s (some L))=>(⟨hg.cell u1 (by simp;omega),hg.cell t7 (by simp;omega),hg.cell z1 (by simp;exact c7),hg.cell k6 (by simp;exact i8),hg.cell z2 (by simp;exact i8),hg.cell z4 (by simp;exact c7),hg.cell z5 (by simp;exact q3)⟩:s.cell? (Ad gc d)=some (.slice (some (Ad U 0)) n cc)/\s.cell? (Ad U m)=some (.string y0)/\s.cell? (Ad g d)=some (.slice (some (Ad N 0)) n b6)/\s.cell? (Ad N m)=some (.string y3)/\s.cell? (Ad N q)=some (.string y1)/\s.cell? (Ad g q)=some (.slice (some (Ad rq 0)) n cq)/\s.cell? (Ad rq m)=some (.string y2)));have j1:=CY wz (some L);have z:=c9.o _ j1;have j4:Is k e6 y1 (CSR.elims M q d q):=by rw[i2.o];exact(d0.o d q D B).mono a4.o
      have n3:Is k e6 y2 (CSR.elims M q q m):=by rw[i3.o];exact(d0.o q m B I).mono a4.o
      have n5:Is k e6 y3 (CSR.elims M q d m):=by rw[f8.o];exact(d0.o d m D I).mono a4.o
      have l8:=PU (F:=F) j4 (m9.o.mono a4.o) b3.o (λf=>((hF.o f).steps q B).first d D) v4.o.drew
      have v0:=qh l8;clear l8;replace n3:=qh n3;clear j4;replace n5:=qh n5;clear f1 d7 W H;refine Au (λs=>s.cell? (Ad gc d)=some (.slice (some (Ad U 0)) n cc)/\s.cell? (Ad U m)=some (.string y0)/\s.cell? (Ad g d)=some (.slice (some (Ad N 0)) n b6)/\s.cell? (Ad N m)=some (.string y3)/\s.cell? (Ad N q)=some (.string y1)/\s.cell? (Ad g q)=some (.slice (some (Ad rq 0)) n cq)/\s.cell? (Ad rq m)=some (.string y2)) 34 (by kernel_rfl) ?_;refine Aa.tm 0 z ?_;refine Aa.tm 1 z ?_;refine Aa.tm 2 z ?_;refine Aa.tm 3 z ?_;refine Aa.tm 4 z ?_;refine Aa.tm 5 z ?_;refine Aa.tm 6 z ?_;refine Aa.tm 7 z ?_;refine Aa.tm 8 z ?_;refine Aa.tm 9 z ?_;refine Aa.tm 10 z ?_;refine Aa.tm 11 z ?_;refine Aa.tm 12 z ?_;refine Aa.tm 13 z ?_;refine Aa.tm 14 z ?_;refine Aa.tm 15 z ?_;refine Aa.tm 16 z ?_;refine Aa.tm 17 z ?_;refine Aa.tm 18 z ?_;refine Aa.tm 19 z ?_;refine Aa.tm 20 z ?_;refine Aa.tm 21 z ?_;refine Aa.tm 22 z ?_;refine Aa.tm 24 z ?_;refine Aa.tm 25 z ?_;refine Aa.tm 26 z ?_;refine Aa.tm 27 z ?_;refine Aa.tm 28 z ?_;refine Aa.tm 29 z ?_;refine Aa.tm 30 z ?_
      try simp only[Act.put,tryL]
      refine Aa.on 23 λK G=>?_;go_simp;refine v0.o.mono ?_;rintro r w7⟨u7,e7,rfl,y4,w3,j5,j8,x1⟩;have f3:=AR j1 x1;have g2:=c9.o _ f3;refine G.out _ _ (.inr g2) ?_;clear G K
      try simp only[Act.put,tryL]
      refine Aa.on 31 λK G=>?_;go_simp;refine(PU (F:=F) y4 (n3.o.mono j5) w3 (λf=>((hF.o f).steps q B).second d m D I) j8).mono ?_;rintro r w8⟨u8,e8,rfl,k0,m5,f2,j9,m7⟩;have b0:=AR f3 m7;have b8:=c9.o _ b0;refine G.out _ _ (.inr b8) ?_;clear G K
      try simp only[Act.put,tryL]
      refine Aa.on 32 λK G=>?_;go_simp;refine(PI (F:=F) (n5.o.mono (λh=>j5 (f2 h))) k0 m5 (λf=>((hF.o f).steps q B).sum d m D I) j9).mono ?_;rintro r w9⟨u9,e9,rfl,y5,x0,r5,x9,x2⟩;have j6:=AR b0 x2;have j0:=c9.o _ j6;refine G.out _ _ (.inr j0) ?_;clear G K
      try simp only[Act.put,tryL]
      refine Aa.tm 33 j0 ?_
      try simp only[Act.put,tryL]
      have g9:=j0.2.1;have y9:w9.frozen? (Ad U m)=false:=(j6.frozen_far (Ad U m) s5 (by simp;omega)).trans z6;refine Aa.on 34 λK G=>?_;go_simp;refine G.out _ _ (.inl rfl) (Aa.dn ?_);clear G K;have r7:=(p0.o.kept j6 (by intro j T;cases T;exact h8)).stored D I b7.o u9;have w0:=(o8.o.more j6 (by have:=o8.o.size;have:=a2.o.lt;have:=O.o.size;have:=p0.o.lt;omega) (λ_ e=>.inl e)).set (p:=(Ad U m)) (.inr j7) (.string u9);have s9:=x9.other (p:=(Ad U m)) (by show L≠U;omega) (.string u9);clear z g2 b8 j0 g9 y9 u1 t7 z1 z2 z4 z5 k6;go_wp2;go_roundw
      case rel =>
       refine⟨m+1,e9,_,by omega,by go_num,r7,λl j hl T x4=>?_,x0,λh=>a4.o (j5 (f2 (r5 h))),s9,w0⟩;by_cases e:l=d/\j=m
       ·rw[ifp e,e.1,e.2];exact y5
       rw[ifn e,ifn e];exact(b5.o l j hl T (by omega)).mono (λh=>j5 (f2 (r5 h)))
      simp[intOf];omega
     have g6:Y d q=Af k.1\/Y q m=Af k.1:=.inr (by rw[<-i3.o,<-i5.o];exact toList_eq x7);have o7:=qh g6;clear g6
     go_wp2_with fail
     refine wp_region_held (S:=λs=>s.cell? (Ad g d)=some (.slice (some (Ad N 0)) n b6)/\s.cell? (Ad N q)=some (.string y1)/\s.cell? (Ad L 0)=some (.int .i64 k.1)/\s.cell? (Ad g q)=some (.slice (some (Ad rq 0)) n cq)/\s.cell? (Ad rq m)=some (.string y2)) (by kernel_rfl) ?_;refine hTm 0 o ?_;refine hTm 1 o ?_;refine hTm 2 o ?_;refine hTm 3 o ?_;refine hTm 4 o ?_;refine hTm 5 o ?_;refine hTm 6 o ?_;refine hTm 7 o ?_;refine hTm 8 o ?_;refine hTm 9 o ?_;refine hTm 10 o ?_
     try simp only[Act.put,tryL]
     refine wpAnyH_ready (rs:=[11]) (by kernel_rfl) (by simp) (AllReadyH.cons rfl (λK G=>?_) AllReadyH.nil);rw[ifp (by kernel_rfl)];go_simp;refine(b2.o _).mono ?_;rintro r z7⟨rfl,d7⟩;have W:=f0.trans d7;have A:=e1.o _ W;refine G.out _ _ A (λ_=>?_);clear G K
     try simp only[Act.put,tryL]
     refine hTm 12 A ?_;refine hTm 13 A ?_;refine hTm 14 A ?_;refine hTm 15 A ?_;refine hTm 16 A ?_;refine hTm 17 A ?_;refine hTm 18 A ?_;refine hTm 19 A ?_;refine hTm 20 A ?_;refine hTm 21 A ?_;refine hTm 22 A ?_;refine hTm 23 A ?_;refine hTm 24 A ?_
     try simp only[Act.put,tryL]
     refine wpAnyH_ready (rs:=[25]) (by kernel_rfl) (by simp) (AllReadyH.cons rfl (λK G=>?_) AllReadyH.nil);rw[ifp (by kernel_rfl)];go_simp;refine(b2.o _).mono ?_;rintro r wz⟨rfl,f1⟩;have H:=W.trans<|f1.mono W.size;have C:=e1.o _ H;refine G.out _ _ C (λ_=>?_);clear G K
     try simp only[Act.put,tryL]
     refine hTm 26 C ?_
    rotate_left
    focus
     have g6:Y d q=Af k.1\/Y q m=Af k.1:=.inl (by rw[<-i2.o,<-i5.o];exact toList_eq x6);have o7:=qh g6;clear g6
     go_wp2_with fail
     refine wp_region_held (S:=λs=>s.cell? (Ad g d)=some (.slice (some (Ad N 0)) n b6)/\s.cell? (Ad N q)=some (.string y1)/\s.cell? (Ad L 0)=some (.int .i64 k.1)/\s.cell? (Ad g q)=some (.slice (some (Ad rq 0)) n cq)/\s.cell? (Ad rq m)=some (.string y2)) (by kernel_rfl) ?_;refine hTm 0 o ?_;refine hTm 1 o ?_;refine hTm 2 o ?_;refine hTm 3 o ?_;refine hTm 4 o ?_;refine hTm 5 o ?_;refine hTm 6 o ?_;refine hTm 7 o ?_;refine hTm 8 o ?_;refine hTm 9 o ?_;refine hTm 10 o ?_
     try simp only[Act.put,tryL]
     refine wpAnyH_ready (rs:=[11]) (by kernel_rfl) (by simp) (AllReadyH.cons rfl (λK G=>?_) AllReadyH.nil);rw[ifp (by kernel_rfl)];go_simp;refine(b2.o _).mono ?_;rintro r wz⟨rfl,f1⟩;have H:=f0.trans f1;have C:=e1.o _ H;refine G.out _ _ C (λ_=>?_);clear G K
     try simp only[Act.put,tryL]
     refine hTm 12 C ?_;refine hTm 13 C ?_;refine hTs 14 C ?_;refine hTs 15 C ?_;refine hTs 16 C ?_;refine hTs 17 C ?_;refine hTs 18 C ?_;refine hTs 19 C ?_;refine hTs 20 C ?_;refine hTs 21 C ?_;refine hTs 22 C ?_;refine hTs 23 C ?_;refine hTs 24 C ?_;refine hTs 25 C ?_;refine hTs 26 C ?_
    all_goals
     refine hTm 27 C ?_
     try simp only[Act.put,tryL]
     refine wpAnyH_done (by kernel_rfl) ?_ _;have a5:=a2.o.kept (Ab H none) (by simp);have i9:=O.o.more (Ab H none) (by have:=O.o.size;have:=a2.o.lt;omega) (λ_ h=>by cases h);have f7:=c8.o.kept H;clear o C f0 d1 v6 i8 v7 v8 q1 q2 q3 q4 q5 t2 t3 t5 t6;go_wp2;go_roundw
     case rel =>
      refine⟨m+1,e6,_,by omega,by go_num,a5,λl j hl T x4=>?_,b3.o,a4.o,f7,i9⟩;by_cases e:l=d/\j=m
      ·rw[ifp e,e.1,e.2,f8.o];exact Uq (d0.o.mono a4.o) D I B o7.o
      rw[ifn e];exact b5.o l j hl T (by omega)
     simp[intOf];omega
   have n7:m=n:=by omega
   have g7:¬((m:Int)<(n:Int)):=by omega
   replace n7:=qh n7;go_wp2;go_roundw
   case rel=>exact⟨d+1,e6,Yc,by omega,by go_num,Q.o,λl j hl T h=>b5.o l j hl T (by have:=n7.o;omega),b3.o,a4.o,b4.o,a6.o⟩
   simp[intOf];omega
  have m3:d=n:=by omega
  have g7:¬((d:Int)<(n:Int)):=by omega
  replace m3:=qh m3;go_wp2;go_roundw
  case rel =>
   refine⟨q+1,e6,gc,Rc,Yc,by omega,rfl,by go_num,Q.o,h8,by omega,λl j hl T=>b5.o l j hl T (by have:=m3.o;omega),b3.o,λh=>v2.o (a4.o h),b4.o,?_⟩;exact l7.o.trans<|a6.o.mono (by omega)
  simp[intOf];omega
 have f4:q=n:=by omega
 have g7:¬((q:Int)<(n:Int)):=by omega
 have g5:Diag e' n 0 Y (CSR.elims M n):=Diag.start (by have h:=a7.o;rw[f4]at h;exact h);have e0:=qh g5;clear g5;have A7:=qh f4;clear f4
 go_wp2_with fail
 go_loopw [13] (λi wr=>∃(c e3:Nat) (Z:Nat->Nat->ByteArray),c<=n/\i=.int .i64 (c:Int)/\OM wr (λ_=>False) g 9 79 g n R (λ_=>n) Z/\Diag e3 n c Z (CSR.elims M n)/\Er F e3/\(e3=0->e'=0)/\SumR wr L k.1 e3/\Gr w.heap.size (some L) w wr) (λi _=>n-(intOf i).toNat)
 case atStart=>exact⟨0,e',Y,Nat.zero_le _,rfl,E.o,e0.o,i6.o,λh=>h,HS.o,HG.o⟩
 clear E e0 i6 HS HG a7;obtain⟨c,e3,Z,w2,rfl,J,g5,hE,hm,hS,hG⟩:=hrel;have E:=qh J;clear J;have e0:=qh g5;clear g5;have o6:=qh hE;clear hE;have o9:=qh hm;clear hm;have HS:=qh hS;clear hS;have HG:=qh hG;clear hG;by_cases B:c<n
 ·have B0:(c:Int)<(n:Int):=by omega
  have z9:(0:Int)<=(c:Int):=by omega
  obtain⟨rb,U,e4,j7,n9,r9,_,r4,g4,a9,a8⟩:=E.o.form B (by omega);unfold maxLen at g4;have s1:=E.o.cell B;rw[e4]at s1;have s2:=a8 c B;have s3:=HS.o.c0;have rf:=a9 c;have v3:=qh e4;clear e4 a9 a8;obtain⟨y,hy⟩:=exq<|Z c c;rw[<-hy]at s2;have o3:Is k e3 y (CSR.elims M n c c):=by have:=e0.o c c B B;rw[ifn (by omega)]at this;rw[hy];exact this
  replace o3:=qh o3;clear hy;have x3:=E.o.lt;have j1:=CY wr (some L);have y6:=HG.o.size;have o:wr.drew.cell? (Ad g c)=some (.slice (some (Ad rb 0)) n U)/\wr.drew.cell? (Ad rb c)=some (.string y)/\wr.drew.cell? (Ad L 0)=some (.int .i64 k.1):=⟨s1,s2,s3⟩
  go_wp2_with fail
  refine Au (λs=>s.cell? (Ad g c)=some (.slice (some (Ad rb 0)) n U)/\s.cell? (Ad rb c)=some (.string y)/\s.cell? (Ad L 0)=some (.int .i64 k.1)) 20 (by kernel_rfl) ?_;refine Aa.tm 0 o ?_;refine Aa.tm 1 o ?_;refine Aa.tm 2 o ?_;refine Aa.tm 3 o ?_;refine Aa.tm 4 o ?_;refine Aa.tm 5 o ?_;refine Aa.tm 6 o ?_;refine Aa.tm 7 o ?_;refine Aa.tm 8 o ?_;refine Aa.tm 9 o ?_;refine Aa.tm 11 o ?_;refine Aa.tm 12 o ?_;refine Aa.tm 13 o ?_;refine Aa.tm 14 o ?_;refine Aa.tm 15 o ?_;refine Aa.tm 16 o ?_;refine Aa.tm 17 o ?_
  try simp only[Act.put,tryL]
  refine Aa.on 10 λK G=>?_;go_simp;refine(Ii k.1 _).mono ?_;rintro r w7⟨rfl,r2⟩;have f3:=AR j1 (Ab r2 (some L));have j8:=HS.o.drew.kept r2;have g2:w7.cell? (Ad g c)=some (.slice (some (Ad rb 0)) n U)/\w7.cell? (Ad rb c)=some (.string y)/\w7.cell? (Ad L 0)=some (.int .i64 k.1):=⟨f3.cell s1 (by simp;omega),f3.cell s2 (by simp;omega),j8.c0⟩;refine G.out _ _ (.inr g2) ?_;clear G K
  try simp only[Act.put,tryL]
  refine Aa.on 18 λK G=>?_;go_simp;refine(PI (F:=F) (Is.one k e3) o3.o o6.o (λf=>by rw[CSR.aC];exact(hF.o f).last c B) j8).mono ?_;rintro r w8⟨u8,e8,rfl,k0,m5,f2,j9,m7⟩;have b0:=AR f3 m7;have b8:w8.cell? (Ad g c)=some (.slice (some (Ad rb 0)) n U)/\w8.cell? (Ad rb c)=some (.string y)/\w8.cell? (Ad L 0)=some (.int .i64 k.1):=⟨b0.cell s1 (by simp;omega),b0.cell s2 (by simp;omega),j9.c0⟩;refine G.out _ _ (.inr b8) ?_;clear G K
  try simp only[Act.put,tryL]
  refine Aa.tm 19 b8 ?_
  try simp only[Act.put,tryL]
  have g8:=b8.2.1;have y8:w8.frozen? (Ad rb c)=false:=(b0.frozen_far (Ad rb c) n9 (by simp;omega)).trans rf;refine Aa.on 20 λK G=>?_;go_simp;refine G.out _ _ (.inl rfl) (Aa.dn ?_);clear G K;have r6:=(E.o.kept b0 (by intro j T;cases T;exact f5)).stored B B v3.o u8;have v9:=(HG.o.more b0 y6 (λ_ e=>.inl e)).set (p:=(Ad rb c)) (.inr (by show _<=rb;omega)) (.string u8);have s8:=j9.other (p:=(Ad rb c)) (by show L≠rb;omega) (.string u8);clear o g2 b8 g8 y8 s1 s2 s3;go_wp2;go_roundw
  case rel =>
   rw[CSR.aC]at k0;exact⟨c+1,e8,_,by omega,by go_num,r6,e0.o.next f2 k0,m5,λh=>o9.o (f2 h),s8,v9⟩
  simp[intOf];omega
 have l1:c=n:=by omega
 have A2:¬((c:Int)<(n:Int)):=by omega
 have j2:=e0.o;rw[l1]at j2;replace j2:=qh j2;clear l1;go_wp2;go_ret;exact⟨_,e3,Z,rfl,E.o.mt (by unfold maxLen;omega) (by intro j T;cases T;exact .inl f5),j2.o.done,o6.o,λh=>HM.o (o9.o h),HS.o,Gr.gb HG.o⟩
def RStarE{k:KK}(n:Nat)(M:Nat->Nat->RK k)(w:World)(r:Ending)(w':World):Prop:=Below w.heap.size w w'/\
 (r=.returned (.tuple #[.slice none 0 0,.int .i64 2])\/∃v Y,r=.returned (.tuple #[v,.int .i64 0])/\n<=60/\Mt none w' v n (λ_=>n) Y/\MatIs 0 n Y (CSR.starM M n))
theorem Yx{k:KK}{n:Nat}{L:Nat->Nat}{X:Nat->Nat->ByteArray}{v:Value}(w:World)(hn:n<=60)(A:Mt none w v n L X)(J:∀i j,(X i j).size<=maxLen)(g:Sq k.1 n L X):
  Calls prog 103 #[.int .i64 k.1,v] w (RStarE n (λi j=>wval k (X i j)) w):=by
 have s:=VW (k0:=k.1) w A J True (by simp only[true_iff];exact⟨(by unfold Ao;have:=k.2;simp;omega),g⟩);obtain⟨a,D,rfl⟩:=A.shape;replace s:=qh s;replace A:=qh A;replace g:=qh g;replace J:=qh J;obtain⟨M,o⟩:∃M:Nat->Nat->RK k,M=λi j=>wval k (X i j):=⟨_,rfl⟩;have G:MatIs 0 n X M:=by rw[o];exact g.o.mat
 rw[<-o];clear o;replace G:=qh G
 go_enter func103,ntmps103
 go_wp2_with fail
 refine s.o.mono ?_;rintro r wr⟨N,rfl,B,c⟩;obtain rfl:N=true:=B.2 trivial;clear B;replace c:=qh c;have K:decide ((60:Int)<(n:Int))=false:=by simp;omega
 obtain⟨z,d⟩:=exq<|wr.heap.size;have u:SumR (wr.alloc (.cells #[.int .i64 k.1,.bool false] 156)) z k.1 0:=by rw[d];exact SumR.new wr _
 have p:Below w.heap.size w (wr.alloc (.cells #[.int .i64 k.1,.bool false] 156)):=c.o.alloc c.o.size _;have I:w.heap.size<=z:=by rw[d];exact c.o.size
 have m:Mt (some z) (wr.alloc (.cells #[.int .i64 k.1,.bool false] 156)) (.slice a n D) n (λ_=>n) X :=
  (((A.o.congr (L':=λ_=>n) (λi hi=>(g.o i hi).1) (λ_ _ _ _=>rfl)).far (k:=z) (by rw[d];exact c.o.size)).kept (Ab c.o _)).kept (World.grownBy_alloc _ _ _)
 replace u:=qh u;replace p:=qh p;replace m:=qh m
 go_wp2_with fail
 rw[<-d];refine(Zf (F:=False) _ hn u.o ⟨.inl rfl,False.elim⟩ m.o G.o False.elim).mono ?_;rintro r R⟨T,S,Y,rfl,P,H,E,_,l,C⟩;have h:Below w.heap.size w R:=p.o.grown C (by simp;have:=c.o.size;omega) (λj Q=>by cases Q;exact I);replace h:=qh h;clear C d
 rcases E.1 with rfl|rfl
 ·have O:=l.c1 (b:=false) (by simp);clear l;go_wp2;go_ret2;exact⟨h.o,.inr ⟨_,Y,rfl,hn,P.any,H⟩⟩
 have O:=l.c1 (b:=true) (by simp);clear l;go_wp2;go_ret2;exact⟨h.o,.inl rfl⟩
end
end Go.Proofs.YteappjogmnogcaaGreatDoor
