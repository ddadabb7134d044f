/- Parts. -/
import Derived.Test.YtpldocnhbdlgfaaGreatDoorPc19
import Derived.Test.YtpldocnhbdlgfaaGreatDoorPc17
import Derived.Lib.SlBuf
namespace Go.Proofs.YtpldocnhbdlgfaaGreatDoor
set_option maxRecDepth 100000
set_option linter.all false
set_option maxHeartbeats 16000000
open Go Tryz
section
open Go.RowKit Go.Deep
variable{w:World}{c e:Nat}{k:Int}{a:ByteArray}{b:Bool}
def SumR(w:World)(sb:Nat)(k:Int)(e:Nat):Prop:=w.heap[sb]?=some (.cells #[.int .i64 k,.bool (decide (e≠0))] 169 (0,0))
def SumR.lt(h:SumR w c k e):c<w.heap.size:=(Array.getElem?_eq_some_iff.1 h).1
theorem SumR.c0(h:SumR w c k e):w.cell? (Ad c 0)=some (.int .i64 k):=by unfold SumR at h;simp[World.cell?,h]
theorem SumR.c1(h:SumR w c k e)(hb:decide (e≠0)=b):w.cell? (Ad c 1)=some (.bool b):=by unfold SumR at h;rw[hb]at h;simp[World.cell?,h]
theorem SumR.fz(h:SumR w c k e)(i:Nat):w.frozen? (Ad c i)=false:=by unfold SumR at h;simp[World.frozen?,h]
theorem SumR.set{e':Nat}(h:SumR w c k e)(hb:decide (e'≠0)=b):SumR (w.setCell (Ad c 1) (.bool b)) c k e':=by
 unfold SumR at *;rw[hb];simp[World.setCell,Array.getElem?_modify,h]
theorem SumR.kept{w':World}(h:SumR w c k e)(hb:Below w.heap.size w w'):SumR w' c k e:=by
 unfold SumR at *;rw[hb.block c (Array.getElem?_eq_some_iff.1 h).1];exact h
theorem SumR.drew(h:SumR w c k e):SumR w.drew c k e:=h
def SumR.new(w:World)(k:Int):SumR (w.alloc (.cells #[.int .i64 k,.bool false] 169)) w.heap.size k 0:=han w _
def OpR{k:KK}(F:Prop)(e sb:Nat)(z:RK k)(w:World)(r:Ending)(w':World):Prop :=
 ∃u e',r=.returned (.string u)/\Is k e' u z/\Er F e'/\(e'=0->e=0)/\SumR w' sb k.1 e'/\w.grownBy w' (some sb)
def knF(k:Int)(e:Nat)(c:ByteArray):ByteArray:=if e=0 then c else Ak k
def Dx(k:Int)(e l:Nat)(c:ByteArray)(w:World)(h:SumR w l k e):
  Calls prog 216 #[.pointer (some (Ad l 0)),.string c] w (λr w'=>r=.returned (.string (knF k e c))/\Below w.heap.size w w'):=by
 have o:=h.c0;by_cases g:e=0
 ·have c1:=h.c1 (b:=false) (by simp;exact g);have i:=qh g;clear g h
  go_enter func216,ntmps216
  go_wp2;go_ret;exact⟨by unfold knF;rw[ifp i.o];rfl,blr⟩
 have c1:=h.c1 (b:=true) (by simp;exact g);have i:=qh g;clear g h;have j:=λm=>Eb k m
 go_enter func216,ntmps216
 go_wp2_with fail
 refine(j _).mono ?_;rintro r p⟨rfl,d⟩;replace d:=qh d;go_wp2;go_ret;exact⟨by unfold knF;rw[ifn i.o];rfl,d.o⟩
def Wj(k:Int)(e o:Nat)(a b:ByteArray)(w:World)(N:a.size<=100000)(hb:b.size<=100000)(G:SumR w o k e):
  Calls prog 187 #[.pointer (some (Ad o 0)),.string a,.string b] w (λr w'=>r=.returned (.string (knF k (kpE e (Ap k a b)) (Ap k a b).1))/\SumR w' o k (kpE e (Ap k a b))/\w.grownBy w' (some o)):=by
 have L:=G.c0;have E:=Hp k a b w (by omega) (by omega);clear N hb;obtain⟨⟨c,n⟩,I⟩:∃r,r=Ap k a b:=⟨_,rfl⟩;rw[<-I]at E ⊢;replace E:=qh E;clear I;have H:=qh G;clear G
 go_enter func187,ntmps187
 go_wp2_with fail
 refine E.o.mono ?_;rintro r P⟨rfl,s⟩;have i:=H.o.kept s;clear L H;replace s:=qh s;by_cases B:e=0
 ·subst B;have c1:=i.c1 (b:=false) (by simp);have K:=i.fz 1;by_cases C:n=0
  ·subst C;have d:=i.set (e':=0) (b:=false) (by simp);have j:=qh d;clear d i;have A:=Dw (Ae s.o (some o)) (p:=(Ad o 1)) (.inl rfl) (.bool false);have D:=qh A;clear A
   go_wp2_with fail
   refine(Dx k _ o c _ j.o).mono ?_;rintro r J⟨rfl,g⟩;have l:=BP D.o (Ae g (some o));have m:=j.o.kept g;have u:=qh l;clear l g;have z:=qh m;clear m;go_wp2;go_ret;exact⟨rfl,z.o,u.o⟩
  have O:((n:Int) != 0)=true:=by simp;exact C
  have d:=i.set (e':=n) (b:=true) (by simp;exact C);have j:=qh d;clear d i;have A:=Dw (Ae s.o (some o)) (p:=(Ad o 1)) (.inl rfl) (.bool true);have D:=qh A;clear A;replace C:=qh C
  go_wp2_with fail
  refine(Dx k _ o c _ j.o).mono ?_;rintro r J⟨rfl,g⟩;have l:=BP D.o (Ae g (some o));have m:=j.o.kept g;have u:=qh l;clear l g;have z:=qh m;clear m;go_wp2;go_ret;have F:kpE 0 (c,n)=n:=by unfold kpE;rw[ifp ⟨C.o,rfl⟩]
  rw[F];exact⟨rfl,z.o,u.o⟩
 have c1:=i.c1 (b:=true) (by simp;exact B);have K:=i.fz 1;have d:=i.set (e':=e) (b:=true) (by simp;exact B);have j:=qh d;clear d i;have A:=Dw (Ae s.o (some o)) (p:=(Ad o 1)) (.inl rfl) (.bool true);have D:=qh A;clear A;replace B:=qh B
 go_wp2_with fail
 refine(Dx k _ o c _ j.o).mono ?_;rintro r J⟨rfl,g⟩;have l:=BP D.o (Ae g (some o));have m:=j.o.kept g;have u:=qh l;clear l g;have z:=qh m;clear m;go_wp2;go_ret;have F:kpE e (c,n)=e:=by unfold kpE;rw[ifn (λh=>B.o h.2)]
 rw[F];exact⟨rfl,z.o,u.o⟩
def Of{k:KK}{F:Prop}{b:ByteArray}{x y:RK k}(m:Is k e a x)(hb:Is k e b y)(s:Er F e)(p:F->fitV (x+y).1)(u:SumR w c k.1 e):
  Calls prog 187 #[.pointer (some (Ad c 0)),.string a,.string b] w (OpR F e c (x+y) w):=by
 refine(Wj k.1 e c a b w m.1 hb.1 u).mono ?_;rintro r z⟨rfl,g,d⟩;have i:(knF k.1 (kpE e (Ap k.1 a b)) (Ap k.1 a b).1).size<=100000:=by
  have j:=Vp k.1 a b;have l:=(Is.zero k 0).1;unfold knF;split<;>omega
 obtain⟨j,l,o⟩:=JJ (Vr m hb) s p i (λh=>ifp h);exact⟨_,_,rfl,j,l,o,g,d⟩
def Wr(k:Int)(e o:Nat)(a b:ByteArray)(w:World)(N:a.size<=100000)(hb:b.size<=100000)(G:SumR w o k e):
  Calls prog 188 #[.pointer (some (Ad o 0)),.string a,.string b] w (λr w'=>r=.returned (.string (knF k (kpE e (Ah k a b)) (Ah k a b).1))/\SumR w' o k (kpE e (Ah k a b))/\w.grownBy w' (some o)):=by
 have L:=G.c0;have E:=NT k a b w (by omega) (by omega);clear N hb;obtain⟨⟨c,n⟩,I⟩:∃r,r=Ah k a b:=⟨_,rfl⟩;rw[<-I]at E ⊢;replace E:=qh E;clear I;have H:=qh G;clear G
 go_enter func188,ntmps188
 go_wp2_with fail
 refine E.o.mono ?_;rintro r P⟨rfl,s⟩;have i:=H.o.kept s;clear L H;replace s:=qh s;by_cases B:e=0
 ·subst B;have c1:=i.c1 (b:=false) (by simp);have K:=i.fz 1;by_cases C:n=0
  ·subst C;have d:=i.set (e':=0) (b:=false) (by simp);have j:=qh d;clear d i;have A:=Dw (Ae s.o (some o)) (p:=(Ad o 1)) (.inl rfl) (.bool false);have D:=qh A;clear A
   go_wp2_with fail
   refine(Dx k _ o c _ j.o).mono ?_;rintro r J⟨rfl,g⟩;have l:=BP D.o (Ae g (some o));have m:=j.o.kept g;have u:=qh l;clear l g;have z:=qh m;clear m;go_wp2;go_ret;exact⟨rfl,z.o,u.o⟩
  have O:((n:Int) != 0)=true:=by simp;exact C
  have d:=i.set (e':=n) (b:=true) (by simp;exact C);have j:=qh d;clear d i;have A:=Dw (Ae s.o (some o)) (p:=(Ad o 1)) (.inl rfl) (.bool true);have D:=qh A;clear A;replace C:=qh C
  go_wp2_with fail
  refine(Dx k _ o c _ j.o).mono ?_;rintro r J⟨rfl,g⟩;have l:=BP D.o (Ae g (some o));have m:=j.o.kept g;have u:=qh l;clear l g;have z:=qh m;clear m;go_wp2;go_ret;have F:kpE 0 (c,n)=n:=by unfold kpE;rw[ifp ⟨C.o,rfl⟩]
  rw[F];exact⟨rfl,z.o,u.o⟩
 have c1:=i.c1 (b:=true) (by simp;exact B);have K:=i.fz 1;have d:=i.set (e':=e) (b:=true) (by simp;exact B);have j:=qh d;clear d i;have A:=Dw (Ae s.o (some o)) (p:=(Ad o 1)) (.inl rfl) (.bool true);have D:=qh A;clear A;replace B:=qh B
 go_wp2_with fail
 refine(Dx k _ o c _ j.o).mono ?_;rintro r J⟨rfl,g⟩;have l:=BP D.o (Ae g (some o));have m:=j.o.kept g;have u:=qh l;clear l g;have z:=qh m;clear m;go_wp2;go_ret;have F:kpE e (c,n)=e:=by unfold kpE;rw[ifn (λh=>B.o h.2)]
 rw[F];exact⟨rfl,z.o,u.o⟩
def Oq{k:KK}{F:Prop}{b:ByteArray}{x y:RK k}(m:Is k e a x)(hb:Is k e b y)(s:Er F e)(p:F->fitV (x*y).1)(u:SumR w c k.1 e):
  Calls prog 188 #[.pointer (some (Ad c 0)),.string a,.string b] w (OpR F e c (x*y) w):=by
 refine(Wr k.1 e c a b w m.1 hb.1 u).mono ?_;rintro r z⟨rfl,g,d⟩;have i:(knF k.1 (kpE e (Ah k.1 a b)) (Ah k.1 a b).1).size<=100000:=by
  have j:=Xx k.1 a b;have l:=(Is.zero k 0).1;unfold knF;split<;>omega
 obtain⟨j,l,o⟩:=JJ (XA m hb) s p i (λh=>ifp h);exact⟨_,_,rfl,j,l,o,g,d⟩
def Wl(k:Int)(e o:Nat)(a:ByteArray)(w:World)(N:a.size<=100000)(G:SumR w o k e):
  Calls prog 186 #[.pointer (some (Ad o 0)),.string a] w (λr w'=>r=.returned (.string (knF k (kpE e (AL k a)) (AL k a).1))/\SumR w' o k (kpE e (AL k a))/\w.grownBy w' (some o)):=by
 have L:=G.c0;have E:=VE k a w (by omega);clear N;obtain⟨⟨c,n⟩,I⟩:∃r,r=AL k a:=⟨_,rfl⟩;rw[<-I]at E ⊢;replace E:=qh E;clear I;have H:=qh G;clear G
 go_enter func186,ntmps186
 go_wp2_with fail
 refine E.o.mono ?_;rintro r P⟨rfl,s⟩;have i:=H.o.kept s;clear L H;replace s:=qh s;by_cases B:e=0
 ·subst B;have c1:=i.c1 (b:=false) (by simp);have K:=i.fz 1;by_cases C:n=0
  ·subst C;have d:=i.set (e':=0) (b:=false) (by simp);have j:=qh d;clear d i;have A:=Dw (Ae s.o (some o)) (p:=(Ad o 1)) (.inl rfl) (.bool false);have D:=qh A;clear A
   go_wp2_with fail
   refine(Dx k _ o c _ j.o).mono ?_;rintro r J⟨rfl,g⟩;have l:=BP D.o (Ae g (some o));have m:=j.o.kept g;have u:=qh l;clear l g;have z:=qh m;clear m;go_wp2;go_ret;exact⟨rfl,z.o,u.o⟩
  have O:((n:Int) != 0)=true:=by simp;exact C
  have d:=i.set (e':=n) (b:=true) (by simp;exact C);have j:=qh d;clear d i;have A:=Dw (Ae s.o (some o)) (p:=(Ad o 1)) (.inl rfl) (.bool true);have D:=qh A;clear A;replace C:=qh C
  go_wp2_with fail
  refine(Dx k _ o c _ j.o).mono ?_;rintro r J⟨rfl,g⟩;have l:=BP D.o (Ae g (some o));have m:=j.o.kept g;have u:=qh l;clear l g;have z:=qh m;clear m;go_wp2;go_ret;have F:kpE 0 (c,n)=n:=by unfold kpE;rw[ifp ⟨C.o,rfl⟩]
  rw[F];exact⟨rfl,z.o,u.o⟩
 have c1:=i.c1 (b:=true) (by simp;exact B);have K:=i.fz 1;have d:=i.set (e':=e) (b:=true) (by simp;exact B);have j:=qh d;clear d i;have A:=Dw (Ae s.o (some o)) (p:=(Ad o 1)) (.inl rfl) (.bool true);have D:=qh A;clear A;replace B:=qh B
 go_wp2_with fail
 refine(Dx k _ o c _ j.o).mono ?_;rintro r J⟨rfl,g⟩;have l:=BP D.o (Ae g (some o));have m:=j.o.kept g;have u:=qh l;clear l g;have z:=qh m;clear m;go_wp2;go_ret;have F:kpE e (c,n)=e:=by unfold kpE;rw[ifn (λh=>B.o h.2)]
 rw[F];exact⟨rfl,z.o,u.o⟩
def Wn{k:KK}{F:Prop}{x:RK k}(m:Is k e a x)(s:Er F e)(p:F->fitV (CSR.star x).1)(u:SumR w c k.1 e):
  Calls prog 186 #[.pointer (some (Ad c 0)),.string a] w (OpR F e c (CSR.star x) w):=by
 refine(Wl k.1 e c a w m.1 u).mono ?_;rintro r z⟨rfl,g,d⟩;have i:(knF k.1 (kpE e (AL k.1 a)) (AL k.1 a).1).size<=100000:=by
  have j:=WO k.1 a;have l:=(Is.zero k 0).1;unfold knF;split<;>omega
 obtain⟨j,l,o⟩:=JJ (WP m) s p i (λh=>ifp h);exact⟨_,_,rfl,j,l,o,g,d⟩
end
section
open Go.RowKit Go.Deep
def news1r{w:World}{b:Nat}{x:Value}(h:w.cell? (Ad b 0)=some x):∀j u,[x][j]?=some u->w.cell? (((Ad b 0):Addr).add j)=some u:=by
 intro j u c
 match j,c with
 |0,c=>simp at c;subst c;exact h
def LR(n c d l:Nat):Nat:=if l<c then n else if l=c then d else 0
def Qf{n c:Nat}(l:Nat):LR n c n l=LR n (c+1) 0 l:=by
 unfold LR;by_cases e:l<c
 ·rw[ifp e,ifp (by omega)]
 by_cases d:l=c
 ·rw[ifn e,ifp d,ifp (by omega)]
 rw[ifn e,ifn d,ifn (by omega)];split<;>rfl
structure Bz(w wr:World)(gB n d m:Nat)(R:Nat->Value)(x:ByteArray):Prop where
 om:OM wr (λ_=>False) gB 9 100 gB n R (LR n d m) (λ_ _=>x)
 gr:Below gB w wr
 wg:w.heap.size<=gB
namespace Bz
variable{w wr w4 wz wa:World}{gB n d m:Nat}{R:Nat->Value}{x:ByteArray}
theorem start(w:World)(x:ByteArray):Bz w (w.alloc (.cells (madeCells #[.slice none 0 0] n) 100)) w.heap.size n 0 0 (λ_=>.slice none 0 0) x :=
 ⟨(OM.made w (λ_=>False) (by simp) w.heap.size nlr 9 100 n _).congrL λl _=>by unfold LR;split<;>(try split)<;>first|rfl|omega,blr.alloc nlr _,nlr⟩
theorem row(h:Bz w wr gB n d n R x):Bz w wr gB n (d+1) 0 R x:=⟨h.om.congrL λl _=>Qf l,h.gr,h.wg⟩
theorem rowz(h:Bz w wr gB n d m R x)(hd:d<n)(c:wr.grownBy w4 none)(g:w4.grownBy wz none):OwS wz gB 9 (R d) m (λ_=>x):=by
 have i:=((h.om.kept c (by simp)).kept g (by simp)).row d hd;have j:LR n d m d=m:=by unfold LR;simp
 rw[j]at i;exact i
theorem own(h:Bz w wr gB n d m R x)(hd:d<n):∀j,(R d).ownBlock=some j->gB<=j/\j<wr.heap.size/\j≠gB:=λj c =>
 ⟨(h.om.rowLt hd j c).1,(h.om.rowLt hd j c).2,(h.om.far d hd j c).1⟩
theorem cellA(h:Bz w wr gB n d m R x)(hd:d<n)(c:wz.grownBy wa (R d).ownBlock){g:Addr}{y:Value}(hb:g.block<=gB)(i:wz.cell? g=some y):wa.cell? g=some y :=
 c.cell i (λe=>by have:=h.own hd _ e.symm;omega)
theorem frozenA(h:Bz w wr gB n d m R x)(hd:d<n)(g:wr.grownBy w4 none)(i:w4.grownBy wz none)(c:wz.grownBy wa (R d).ownBlock):wa.frozen? (Ad gB d)=false:=by
 have j:=h.om.lt;have k:=g.size;have l:=i.size;exact(c.frozen_far (Ad gB d) (by show gB<_;omega) (λe=>(h.own hd _ e.symm).2.2 rfl)).trans ((i.frozen_far (Ad gB d) (by show gB<_;omega) (by simp)).trans ((g.frozen_far (Ad gB d) j (by simp)).trans (h.om.frozen d)))
theorem snoc{k cap:Nat}(h:Bz w wr gB n d m R x)(hd:d<n)(g:wr.grownBy w4 none)
  (i:w4.grownBy wz none) (o:wa.ownsRow gB 9 1 (.slice (some (Ad k 0)) (m+1) cap) (m+1) (strs m (λ_=>x)++[.string x])) (c:wz.grownBy wa (R d).ownBlock) (s:(R d).ownBlock=some k\/k=wz.heap.size) :
  ∃R3,Bz w (wa.setCell (Ad gB d) (.slice (some (Ad k 0)) (m+1) cap)) gB n d (m+1) R3 x:=by
 have z:=h.om.kept g (by simp);have p:wa.ownsRow gB 9 1 (.slice (some (Ad k 0)) (m+1) cap) (m+1) (strs (m+1) (λ_=>x)):=by
  rw[<-WZ];exact o
 have A:=h.om.lt;have C:=g.size;have D:=i.size;refine⟨_,⟨((z.appended hd i p c s).congrL λl B=>?_).congr λl j B u=>?_,?_,h.wg⟩⟩
 ·unfold LR;by_cases e:l=d
  ·subst e;simp
  simp[e]
 ·by_cases e:l=d
  ·subst e;simp
  simp[e]
 exact((h.gr.trans ((Mu g).mono (by omega)) |>.trans ((Mu i).mono (by omega))).grown c (by omega) (λj u=>(h.own hd j u).1)).setCell nlr _
end Bz
def ZerE(n:Nat)(x:ByteArray)(w:World)(r:Ending)(w':World):Prop :=
 ∃g R,r=.returned (.slice (some (Ad g 0)) n n)/\OM w' (λ_=>False) g 9 100 g n R (λ_=>n) (λ_ _=>x)/\w.heap.size<=g/\Below w.heap.size w w'
theorem Qe(k:Int){n:Nat}(w:World)(hn:n<=60):Calls prog 185 #[.int .i64 k,.int .i64 (n:Int)] w (ZerE n (Ak k) w):=by
 have T:=run_make_row' (P:=prog) 96 100 (.slice none 0 0) 24 underlying96 Jk rfl .i64 .i64 n (by omega) (by omega);have Y:=Bz.start (n:=n) w (Ak k);have G:=qh Y;clear Y
 go_enter func185,ntmps185
 go_wp2_with fail
 clear T;obtain⟨C,z⟩:=exq<|w.heap.size;rw[<-z]at G;rw[<-z];replace z:=qh z
 go_loopw [6,7] (λi _ wr=>∃(d:Nat) (O:Nat->Value),d<=n/\i=.int .i64 (d:Int)/\Bz w wr C n d 0 O (Ak k)) (λi _ _=>n-(intOf i).toNat)
 case atStart=>exact⟨0,_,Nat.zero_le _,rfl,G.o⟩
 obtain⟨d,O,hd,rfl,s⟩:=hrel;clear G;have c:=qh s;clear s;by_cases B:d<n
 ·have b5:(d:Int)<(n:Int):=by omega
  have b1:(0:Int)<=(d:Int):=by omega
  go_wp2_with fail
  go_loopw [7] (λi wr=>∃(m:Nat) (O:Nat->Value),m<=n/\i=.int .i64 (m:Int)/\Bz w wr C n d m O (Ak k)) (λi _=>n-(intOf i).toNat)
  case atStart=>exact⟨0,O,Nat.zero_le _,rfl,c.o⟩
  obtain⟨m,R3,b8,rfl,s⟩:=hrel;clear c;have c:=qh s;clear s;by_cases b3:m<n
  ·have b9:(m:Int)<(n:Int):=by omega
   have b4:(0:Int)<=(m:Int):=by omega
   obtain⟨lv,h⟩:=exq<|R3 d;have s1:=c.o.om.cell B;rw[<-h]at s1;obtain⟨i0,a6,a7,a8,a9⟩:=info_parts Jj;have b7:=c.o.om.lt;replace h:=qh h;have a5:=FC wr none;have g:wr.drew.cell? (Ad C d)=some lv:=s1;have a4:=λL=>Eb k L
   go_wp2_with fail
   refine AD (λL=>L.cell? (Ad C d)=some lv) 11 (by kernel_rfl) ?_;refine Aa.tm 0 g ?_;refine Aa.tm 1 g ?_;refine Aa.tm 2 g ?_;refine Aa.tm 3 g ?_;refine Aa.tm 4 g ?_;refine Aa.tm 5 g ?_;refine Aa.tm 6 g ?_
   try simp only[Act.put,tryL]
   refine Aa.on 7 λK p=>?_;go_simp;refine(a4 _).mono ?_;rintro r F⟨rfl,a2⟩;have u:wr.grownBy F none:=BP a5 (Ae a2 none);have Q:F.cell? (Ad C d)=some lv:=u.cell s1 (by simp);refine p.out _ _ (.inr Q) ?_;clear p K
   try simp only[Act.put,tryL]
   refine Aa.on 8 λK p=>?_;go_simp;obtain⟨N,o⟩:=exq<|F.alloc (.cells #[.string (Ak k)] 9);have E:F.grownBy N none:=by rw[o];exact World.grownBy_alloc F _ none
   have d0:N.heap.size=F.heap.size+1:=by rw[o];simp
   have U:N.cell? (Ad F.heap.size 0)=some (.string (Ak k)):=by rw[o];exact IL F _ _ 0 _ rfl
   rw[<-o];replace o:=qh o;have R:=E.cell Q (by simp);refine p.out _ _ (.inr R) ?_;clear p K
   try simp only[Act.put,tryL]
   have X:=c.o.rowz B u E;rw[<-h.o]at X;have Z:C<=N.heap.size:=by have:=u.size;omega
   refine Aa.on 9 λK p=>?_;refine wp_append_lies _ (.tmp 25) (.tmp 28) 100 rfl C 9 i0 (.string ⟨#[]⟩) 1 16 underlying100 a6 a7 a8 a9 rfl (by omega) lv m _ (by simp[Act.eval]) X (Ad F.heap.size 0) 1 1 [.string (Ak k)] (by simp[Act.eval]) rfl (news1r U) (US _) (by omega) (by unfold maxLen;omega) (by omega) Z _ rfl ?_;intro go b0 wa W A a1 b2;have j:N.grownBy wa (R3 d).ownBlock:=by rw[<-h.o];exact A
   have H:=c.o.cellA B j (by first|exact nlr|(apply Nat.le_of_lt;assumption)) (R)
   have b6:=c.o.frozenA B u E j;refine p.out _ _ (.inr H) ?_;clear p K
   try simp only[Act.put,tryL]
   refine Aa.tm 10 H ?_
   try simp only[Act.put,tryL]
   have g0:=H;refine Aa.on 11 λK p=>?_;go_simp;refine p.out _ _ (.inl rfl) (Aa.dn ?_);clear p K;go_wp2;go_roundw
   case rel =>
    obtain⟨R4,D⟩:=c.o.snoc B u E W (by rw[<-h.o];exact A) (by rw[<-h.o];exact a1);exact⟨m+1,R4,by omega,by go_num,D⟩
   simp[intOf];omega
  have J:m=n:=by omega
  have S:¬((m:Int)<(n:Int)):=by omega
  replace J:=qh J;go_wp2;go_roundw
  case rel =>
   refine⟨d+1,R3,by omega,by go_num,?_⟩;have D:=c.o;rw[J.o]at D;exact D.row
  simp[intOf];omega
 have I:d=n:=by omega
 have S:¬((d:Int)<(n:Int)):=by omega
 replace I:=qh I;go_wp2;go_ret;have D:=c.o;rw[I.o]at D;exact⟨C,O,rfl,D.om.congrL λl hl=>(by unfold LR;rw[ifp hl]),D.wg,by have h2:=D.gr;rw[z.o]at h2;exact h2⟩
theorem OM.copied{Z:Nat->Prop}{B g n:Nat}{R:Nat->Value}{i b cap:Nat}(hi:i<n)(hR:R i=.slice (some (Ad b 0)) n cap)(U:Nat->ByteArray):
  ∀(m o:Nat) (w:World) (X:Nat->Nat->ByteArray),o+m=n->OM w Z B 9 100 g n R (λ_=>n) X ->
   OM (w.setCells b o ((List.range' o m).map λj=>.string (U j))) Z B 9 100 g n R (λ_=>n) (λl j=>if l=i/\o<=j then U j else X l j)
 |0,o,w,X,ho,h=>h.congr λl j hl hj=>by rw[ifn (by omega)]
 |m+1,o,w,X,ho,h=>by
  have h1:=h.stored hi (show o<n by omega) hR (U o);have h2:=OM.copied hi hR U m (o+1) _ _ (by omega) h1;refine OM.congr h2 λl j hl hj=>?_;by_cases e:l=i
  ·by_cases e2:j=o
   ·rw[ifn (by omega),ifp ⟨e,e2⟩,ifp (by omega),e2]
   by_cases e3:o<=j
   ·rw[ifp (by omega),ifp ⟨e,e3⟩]
   rw[ifn (by omega),ifn (λh=>e2 h.2),ifn (λh=>e3 h.2)]
  rw[ifn (λh=>e h.1),ifn (λh=>e h.1),ifn (λh=>e h.1)]
end
section
open Go.RowKit Go.Deep
variable{c d e g i n:Nat}{w:World}{k:KK}
def StaR{k:KK}(F:Prop)(sb n e:Nat)(M:Nat->Nat->RK k)(w:World)(r:Ending)(w':World):Prop :=
 ∃v e' Y,r=.returned v/\Mt (some sb) w' v n (λ_=>n) Y/\MatIs e' n Y (CSR.starM M n)/\Er F e'/\(e'=0->e=0)/\SumR w' sb k.1 e'/\w.grownBy w' (some sb)
def Rw1(w:World)(g sb gc n:Nat)(Y:Nat->Nat->ByteArray)(i:Nat):Prop :=
 ∃rb cap,w.cell? (Ad g i)=some (.slice (some (Ad rb 0)) n cap)/\rb<gc/\rb≠sb/\n<=cap/\cap<=9223372036854775807/\∀j,j<n->w.cell? (Ad rb j)=some (.string (Y i j))
theorem OM.rw1{j:Nat}{R:Nat->Value}{Y:Nat->Nat->ByteArray}(h:OM w (λ_=>False) g 9 100 g n R (λ_=>n) Y)(A:j<g)(p:w.heap.size<=d)(hi:i<n):Rw1 w g j d n Y i:=by
 obtain⟨s,c,o,u,z,_,_,k,l,_,m⟩:=h.form hi (by omega);unfold maxLen at l;exact⟨s,c,by rw[<-o];exact h.cell hi,by omega,by omega,k,by omega,m⟩
theorem SumR.other{k:Int}(h:SumR w c k e){p:Addr}(d:c≠p.block)(v:Value):SumR (w.setCell p v) c k e:=by
 unfold SumR at *;rw[blk_setCell_other _ _ _ _ d];exact h
theorem Sw{q m:Nat}{Y:Nat->Nat->ByteArray}{M:Nat->Nat->RK k}(h:MatIs e n Y M)(hd:d<n)(g:m<n)(i:q<n)(c:Y d q=Ak k.1\/Y q m=Ak k.1):Is k e (Y d m) (CSR.elim q M d m):=by
 refine⟨(h d m hd g).1,λl=>?_⟩;subst l;have j:CSR.elim q M d m=M d m:=by
  show M d m+M d q*CSR.star (M q q)*M q m=M d m
  rcases c with c|c
  ·rw[((h d q hd i).eq_zero).1 c,CSR.zm,CSR.zm,CSR.a0]
  rw[((h q m i g).eq_zero).1 c,CSR.m0,CSR.a0]
 rw[j];exact(h d m hd g).2 rfl
theorem Rw1.gr{wr:World}{Y:Nat->Nat->ByteArray}(h:Rw1 w g d c n Y i)(p:Gr c (some d) w wr)(C:g<c)(l:g≠d):Rw1 wr g d c n Y i:=by
 obtain⟨s,k,u,m,o,z,A,B⟩:=h;exact⟨s,k,(World.cell?_of_block (p.block g C (by simp;exact l))).trans u,m,o,z,A,λj D=>(World.cell?_of_block (p.block s m (by simp;exact o))).trans (B j D)⟩
theorem WV{F:Prop}{L:Nat}{X:Nat->Nat->ByteArray}{M:Nat->Nat->RK k}{v:Value}(w:World)(hn:n<=60)(hs:SumR w L k.1 e)(he:Er F e)(hA:Mt (some L) w v n (λ_=>n) X)(hX:MatIs e n X M)(hF:F->FitM n M):
  Calls prog 157 #[.pointer (some (Ad L 0)),v] w (StaR F L n e M w):=by
 obtain⟨a1,A5,b1,o1,A1,C1,g4,O1,rfl,r7,m5,j8,g7,i2⟩:=hA.open;unfold maxLen at j8;clear hA;have C3:=hs.lt;have s0:=hs.c0;have p0:=qh r7;clear r7;have p8:=qh g7;clear g7;have r2:=qh i2;clear i2;have HX:=qh hX;clear hX;replace he:=qh he;replace hF:=qh hF;have HS:=qh hs;clear hs
 go_enter func157,ntmps157
 go_wp2_with fail
 refine(Qe k.1 w hn).mono ?_;rintro r w1⟨g,R,rfl,J,n9,g7⟩;clear s0;have g1:L<g:=by omega
 have E:=qh J;clear J;have l3:=qh g7;clear g7
 go_wp2_with fail
 go_loopw [7] (λi wr=>∃(q:Nat) (Y:Nat->Nat->ByteArray),q<=n/\i=.int .i64 (q:Int)/\OM wr (λ_=>False) g 9 100 g n R (λ_=>n) Y/\(∀l j,l<n->j<n->l<q->Y l j=X l j)/\Below w.heap.size w wr) (λi _=>n-(intOf i).toNat)
 case atStart=>exact⟨0,_,Nat.zero_le _,rfl,E.o,λ_ _ _ _ h=>by omega,l3.o⟩
 obtain⟨q,Y,hq,rfl,J,hy,r9⟩:=hrel;clear E l3;have E:=qh J;clear J;have HY:=qh hy;clear hy;have f0:=qh r9;clear r9;by_cases B:q<n
 ·have y8:(q:Int)<(n:Int):=by omega
  have s9:(0:Int)<=(q:Int):=by omega
  obtain⟨rb,U,f3,k9,o7,t7,_,s5,h0,b0,a9⟩:=E.o.form B (by omega);unfold maxLen at h0;have s1:=E.o.cell B;rw[f3]at s1;obtain rfl:=p0.o (by omega);obtain⟨k1,_,k3,k4,k5,_,k7⟩:=r2.o q B;have v5:=k4 (by omega);have v6:=(k5 (by omega)).1;rw[v5]at k1;unfold maxLen at k3;have x4:(C1 q:Int)<=9223372036854775807:=by omega
  have s2:=(f0.o.cell (p:=(Ad b1 (o1+q))) (p8.o (by omega)).1).trans k1;have l9:∀j (u:Value),((List.range' 0 n).map λj=>Value.string (X q j))[j]?=some u->wr.drew.cell? (((Ad (g4 q) (O1 q)):Addr).add j)=some u:=λj u hu=>by
   rw[List.getElem?_map]at hu;obtain⟨x,hx,rfl⟩:=Option.map_eq_some_iff.1 hu;have T:j<n:=by have:=(List.getElem?_eq_some_iff.1 hx).1;simpa using this
   have z8:x=j:=by have:=(List.getElem?_eq_some_iff.1 hx).2;simp at this;omega
   subst z8;rw[Addr.add_lit];exact(f0.o.cell (p:=(Ad (g4 q) (O1 q+x))) v6).trans (k7 x T)
  have g2:(prog.info? 9).map (·.size)=some 1:=by kernel_rfl
  have m8:=run_copy_cells (P:=prog) wr.drew 100 100 3 9 rb 0 n U (Ad (g4 q) (O1 q)) n (C1 q) ((List.range' 0 n).map λj=>Value.string (X q j)) underlying100 g2 (by simp) l9
   (λj T=>by rw[Nat.zero_add,show wr.drew.cell? (Ad rb j)=some (.string (Y q j)) from a9 j (by simpa using T)];rfl) (λj T=>by rw[Nat.zero_add];exact b0 j) (λu hu=>by obtain⟨x,_,rfl⟩:=List.mem_map.1 hu;rfl)
  have a4:=OM.copied B f3 (X q) n 0 wr.drew Y (by omega) (E.o.kept (FC wr none) (by simp));have Q:=qh a4;clear a4;replace m8:=qh m8;clear k1 k4 k5 k7 v5 v6 b0 a9 l9;have o:wr.drew.cell? (Ad g q)=some (.slice (some (Ad rb 0)) n U)/\wr.drew.cell? (Ad b1 (o1+q))=some (.slice (some (Ad (g4 q) (O1 q))) n (C1 q)):=⟨s1,s2⟩
  go_wp2_with fail
  refine AD (λs=>s.cell? (Ad g q)=some (.slice (some (Ad rb 0)) n U)/\s.cell? (Ad b1 (o1+q))=some (.slice (some (Ad (g4 q) (O1 q))) n (C1 q))) 8 (by kernel_rfl) ?_;refine Aa.tm 0 o ?_;refine Aa.tm 1 o ?_;refine Aa.tm 2 o ?_;refine Aa.tm 3 o ?_;refine Aa.tm 4 o ?_;refine Aa.tm 5 o ?_;refine Aa.tm 6 o ?_;refine Aa.tm 7 o ?_
  try simp only[Act.put,tryL]
  refine Aa.on 8 λK G=>?_;refine Lib.wp_copy_run _ (.tmp 30) (.tmp 34) 100 100 rfl _ _ (by simp[Act.eval]) (by simp[Act.eval]) m8.o ?_;refine G.out _ _ (.inl rfl) (Aa.dn ?_);clear G K;go_wp2;go_roundw
  case rel =>
   refine⟨q+1,_,by omega,by go_num,Q.o,λl j hl T B9=>?_,Lib.below_setCells rb (by omega) _ _ f0.o.drew⟩;by_cases e:l=q
   ·rw[ifp ⟨e,Nat.zero_le _⟩,e]
   rw[ifn (λh=>e h.1)];exact HY.o l j hl T (by omega)
  simp[intOf];omega
 have f9:q=n:=by omega
 have h9:¬((q:Int)<(n:Int)):=by omega
 have i5:MatIs e n Y M:=λl j hl T=>by rw[HY.o l j hl T (by omega)];exact HX.o l j hl T
 have a8:=qh i5;clear i5;have B4:=qh f9;clear f9;have r3:=qh<|HS.o.kept f0.o;clear HS
 go_wp2_with fail
 clear r2 p8 p0 HX
 go_loopw [6,8,9,10,11,12] (λbv i _ _ _ _ wr=>∃(q e' g:Nat) (R:Nat->Value) (Y:Nat->Nat->ByteArray),q<=n/\bv=.slice (some (Ad g 0)) n n/\i=.int .i64 (q:Int)/\
  OM wr (λ_=>False) g 9 100 g n R (λ_=>n) Y/\L<g/\w.heap.size<=g/\MatIs e' n Y (CSR.elims M q)/\Er F e'/\(e'=0->e=0)/\SumR wr L k.1 e'/\Gr w.heap.size (some L) w wr) (λ_ i _ _ _ _ _=>n-(intOf i).toNat)
 case atStart=>exact⟨0,e,g,R,Y,Nat.zero_le _,rfl,rfl,E.o,g1,n9,a8.o,he.o,λh=>h,r3.o,Gr.of (Ae f0.o _) nlr⟩
 clear E HY f0 a8 r3;clear g1 n9;obtain⟨q,e',g,R,Y,hq,rfl,rfl,J,g1,n9,i5,hE,hm,hS,hG⟩:=hrel;have E:=qh J;clear J;have a8:=qh i5;clear i5;have j0:=qh hE;clear hE;have HM:=qh hm;clear hm;have HS:=qh hS;clear hS;have HG:=qh hG;clear hG;by_cases B:q<n
 ·have y8:(q:Int)<(n:Int):=by omega
  have s9:(0:Int)<=(q:Int):=by omega
  have s0:=HS.o.c0
  go_wp2_with fail
  refine(Qe k.1 wr hn).mono ?_;rintro r w4⟨gc,Rc,rfl,a4,B8,d0⟩;have x9:=E.o.lt;have B2:=d0.size;have y5:=E.o.kept (Ae d0 none) (by simp);have i3:∀i,i<n->Rw1 w4 g L gc n Y i:=λi hi=>by
   obtain⟨rb,w2,h1,h2,h3,h4,h5,h6⟩:=E.o.rw1 g1 nlr hi;exact⟨rb,w2,(Ae d0 none).cell h1 (by simp),by omega,h3,h4,h5,λj T=>(Ae d0 none).cell (h6 j T) (by simp)⟩
  have t9:=HS.o.kept d0;have r6:=HG.o.more (Ae d0 none) (HG.o.size) (λ_ h=>by cases h);have e4:g<gc:=by omega
  clear s0;have m3:=qh i3;clear i3 y5;have r4:=qh t9;clear t9;have m2:=qh r6;clear r6 d0 HG HS E;have Q:=qh a4;clear a4;obtain⟨rq,cq,p1,p2,p3,p4,p5,p6⟩:=m3.o q B;have p7:=p6 q B;clear p6;have m7:=Wn (F:=F) (a8.o q q B B) j0.o (λf=>((hF.o f).steps q B).star) r4.o;replace m7:=qh m7
  go_wp2_with fail
  refine m7.o.mono ?_;rintro r w5⟨lp,e5,rfl,o2,n5,o5,v0,j7⟩;have i4:L<gc:=by omega
  have a4:=Q.o.kept j7 (by intro j T;cases T;exact i4);have i3:∀i,i<n->Rw1 w5 g L gc n Y i:=λi hi=>(m3.o i hi).gr (Gr.of j7 (by have:=Q.o.lt;omega)) e4 (by omega);clear p1 p2 p3 p4 p5 p7;have m4:=m2.o.more j7 (by have:=m2.o.size;omega) (λ_ h=>.inl h);have g5:=qh i3;clear i3 m3;have l4:=qh a4;clear a4 Q;replace m4:=qh m4;clear m2 j7;have e0:=qh<|a8.o.mono o5;clear a8;replace o2:=qh o2;replace n5:=qh n5;clear j0;have v8:=qh<|show e5=0->e=0 from λh=>HM.o (o5 h);clear o5 HM;have r5:=qh v0;clear v0 r4;have d7:g≠L:=by omega
  go_wp2_with fail
  go_loopw [11,12] (λi _ wr=>∃(d e6:Nat) (Yc:Nat->Nat->ByteArray),d<=n/\i=.int .i64 (d:Int)/\OM wr (λ_=>False) gc 9 100 gc n Rc (λ_=>n) Yc/\
   (∀l j,l<n->j<n->l<d->Is k e6 (Yc l j) (CSR.elim q (CSR.elims M q) l j))/\Er F e6/\(e6=0->e5=0)/\SumR wr L k.1 e6/\Gr gc (some L) w5 wr) (λi _ _=>n-(intOf i).toNat)
  case atStart=>exact⟨0,e5,_,Nat.zero_le _,rfl,l4.o,λ_ _ _ _ h=>by omega,n5.o,λh=>h,r5.o,Gr.refl _ _ _⟩
  obtain⟨d,e6,Yc,hd,rfl,J,i8,hE,hm,hS,hG⟩:=hrel;clear l4 r5;have Q:=qh J;clear J;have b6:=qh i8;clear i8;have b4:=qh hE;clear hE;have a5:=qh hm;clear hm;have b5:=qh hS;clear hS;have a7:=qh hG;clear hG;by_cases D:d<n
  ·have B7:(d:Int)<(n:Int):=by omega
   have A7:(0:Int)<=(d:Int):=by omega
   go_wp2_with fail
   go_loopw [12] (λi wr=>∃(m e6:Nat) (Yc:Nat->Nat->ByteArray),m<=n/\i=.int .i64 (m:Int)/\OM wr (λ_=>False) gc 9 100 gc n Rc (λ_=>n) Yc/\
    (∀l j,l<n->j<n->(l<d\/(l=d/\j<m))->Is k e6 (Yc l j) (CSR.elim q (CSR.elims M q) l j))/\Er F e6/\(e6=0->e5=0)/\SumR wr L k.1 e6/\Gr gc (some L) w5 wr) (λi _=>n-(intOf i).toNat)
   case atStart=>exact⟨0,e6,Yc,Nat.zero_le _,rfl,Q.o,λl j hl T h=>b6.o l j hl T (by omega),b4.o,a5.o,b5.o,a7.o⟩
   obtain⟨m,e6,Yc,C0,rfl,J,i8,hE,hm,hS,hG⟩:=hrel;clear Q b6 b4 a5 b5 a7;have Q:=qh J;clear J;have b6:=qh i8;clear i8;have b4:=qh hE;clear hE;have a5:=qh hm;clear hm;have b5:=qh hS;clear hS;have a7:=qh hG;clear hG;by_cases I:m<n
   ·have C2:(m:Int)<(n:Int):=by omega
    have A9:(0:Int)<=(m:Int):=by omega
    obtain⟨rd,cd,d1,d2,d3,d4,d5,d6⟩:=(g5.o d D).gr a7.o e4 d7;obtain⟨U,cc,b8,k9,o7,t7,_,s5,h0,b0,a9⟩:=Q.o.form D (by omega);unfold maxLen at h0;have s1:=Q.o.cell D;rw[b8]at s1;have s2:=a9 m I;have rf:=b0 m;replace b8:=qh b8;clear b0 a9;obtain⟨y3,g3⟩:=exq<|Y d m;have s4:=d6 m I;rw[<-g3]at s4;replace g3:=qh g3;have o:wr.drew.cell? (Ad gc d)=some (.slice (some (Ad U 0)) n cc)/\wr.drew.cell? (Ad U m)=some (.string (Yc d m))/\wr.drew.cell? (Ad g d)=some (.slice (some (Ad rd 0)) n cd)/\wr.drew.cell? (Ad rd m)=some (.string y3):=⟨s1,s2,d1,s4⟩;have D6:=qh d6;clear d6
    go_wp2_with fail
    refine AD (λs=>s.cell? (Ad gc d)=some (.slice (some (Ad U 0)) n cc)/\s.cell? (Ad U m)=some (.string (Yc d m))/\s.cell? (Ad g d)=some (.slice (some (Ad rd 0)) n cd)/\s.cell? (Ad rd m)=some (.string y3)) 13 (by kernel_rfl) ?_;refine Aa.tm 0 o ?_;refine Aa.tm 1 o ?_;refine Aa.tm 2 o ?_;refine Aa.tm 3 o ?_;refine Aa.tm 4 o ?_;refine Aa.tm 5 o ?_;refine Aa.tm 6 o ?_;refine Aa.tm 7 o ?_;refine Aa.tm 8 o ?_;refine Aa.tm 9 o ?_;refine Aa.tm 10 o ?_;refine Aa.tm 11 o ?_;refine Aa.tm 12 o ?_
    try simp only[Act.put,tryL]
    have g0:=o.2.1;have A2:wr.drew.frozen? (Ad U m)=false:=rf;refine Aa.on 13 λK G=>?_;go_simp;refine G.out _ _ (.inl rfl) (Aa.dn ?_);clear G K;have a2:=(Q.o.stored D I b8.o y3).kept (FC _ none) (by simp);have O:=(a7.o.set (p:=(Ad U m)) (.inr k9) (.string y3)).drew;have d8:=(b5.o.other (p:=(Ad U m)) (by show L≠U;omega) (.string y3)).drew;clear g0 A2 o s1 s2 s4 d1 rf;obtain⟨w6,o8⟩:∃w6,w6=(wr.setCell ⟨U,m,none⟩ (.string y3)).drew:=⟨_,rfl⟩;rw[<-o8]at a2 O d8;rw[<-o8];clear o8 b5 a7 D6;replace a2:=qh a2;replace O:=qh O;replace d8:=qh d8;obtain⟨N,b7,d1,w3,j2,x0,x1,d6⟩:=(g5.o d D).gr O.o e4 d7;obtain⟨rq,cq,q1,q2,q3,q4,q5,q6⟩:=(g5.o q B).gr O.o e4 d7;obtain⟨y1,i6⟩:=exq<|Y d q;obtain⟨y2,i7⟩:=exq<|Y q m;have t2:=d6 q B;have t5:=q6 m I;have t6:=d6 m I;rw[<-i6]at t2;rw[<-i7]at t5;rw[<-g3.o]at t6;have t3:=d8.o.c0;clear d6 q6;have b3:=λs=>Eb k.1 s;replace b3:=qh b3;have j1:=qh (λs (hg:w6.grownBy s (some L))=>(⟨hg.cell d1 (by simp;exact d7),hg.cell t2 (by simp;exact j2),hg.cell q1 (by simp;exact d7),hg.cell t5 (by simp;exact q3)⟩ :
     s.cell? (Ad g d)=some (.slice (some (Ad N 0)) n b7)/\s.cell? (Ad N q)=some (.string y1)/\s.cell? (Ad g q)=some (.slice (some (Ad rq 0)) n cq)/\s.cell? (Ad rq m)=some (.string y2)))
    have f2:=qh (λs (hb:Below w6.heap.size w6 s)=>(⟨(j1.o _ (Ae hb _)).1,(j1.o _ (Ae hb _)).2.1,(d8.o.kept hb).c0,(j1.o _ (Ae hb _)).2.2.1,(j1.o _ (Ae hb _)).2.2.2⟩ :
     s.cell? (Ad g d)=some (.slice (some (Ad N 0)) n b7)/\s.cell? (Ad N q)=some (.string y1)/\s.cell? (Ad L 0)=some (.int .i64 k.1)/\s.cell? (Ad g q)=some (.slice (some (Ad rq 0)) n cq)/\s.cell? (Ad rq m)=some (.string y2)))
    obtain⟨zs,i9⟩:=exq<|Ak k.1;rw[<-i9]at b3;replace i9:=qh i9;replace i6:=qh i6;replace i7:=qh i7;have f4:Below w6.heap.size w6 w6.drew:=blr.drew;have o:=f2.o _ f4;cases y6:(y1.toList==zs.toList)
    focus
     cases y7:(y2.toList==zs.toList)
     ·go_wp2_with fail
      refine wp_region_held (S:=λs=>s.cell? (Ad g d)=some (.slice (some (Ad N 0)) n b7)/\s.cell? (Ad N q)=some (.string y1)/\s.cell? (Ad L 0)=some (.int .i64 k.1)/\s.cell? (Ad g q)=some (.slice (some (Ad rq 0)) n cq)/\s.cell? (Ad rq m)=some (.string y2)) (by kernel_rfl) ?_;refine hTm 0 o ?_;refine hTm 1 o ?_;refine hTm 2 o ?_;refine hTm 3 o ?_;refine hTm 4 o ?_;refine hTm 5 o ?_;refine hTm 6 o ?_;refine hTm 7 o ?_;refine hTm 8 o ?_;refine hTm 9 o ?_;refine hTm 10 o ?_
      try simp only[Act.put,tryL]
      refine wpAnyH_ready (rs:=[11]) (by kernel_rfl) (by simp) (AllReadyH.cons rfl (λK G=>?_) AllReadyH.nil);rw[ifp (by kernel_rfl)];go_simp;refine(b3.o _).mono ?_;rintro r A4⟨rfl,e1⟩;have W:=f4.trans e1;have A:=f2.o _ W;refine G.out _ _ A (λ_=>?_);clear G K
      try simp only[Act.put,tryL]
      refine hTm 12 A ?_;refine hTm 13 A ?_;refine hTm 14 A ?_;refine hTm 15 A ?_;refine hTm 16 A ?_;refine hTm 17 A ?_;refine hTm 18 A ?_;refine hTm 19 A ?_;refine hTm 20 A ?_;refine hTm 21 A ?_;refine hTm 22 A ?_;refine hTm 23 A ?_;refine hTm 24 A ?_
      try simp only[Act.put,tryL]
      refine wpAnyH_ready (rs:=[25]) (by kernel_rfl) (by simp) (AllReadyH.cons rfl (λK G=>?_) AllReadyH.nil);rw[ifp (by kernel_rfl)];go_simp;refine(b3.o _).mono ?_;rintro r wz⟨rfl,f5⟩;have H:=W.trans<|f5.mono W.size;have C:=f2.o _ H;refine G.out _ _ C (λ_=>?_);clear G K
      try simp only[Act.put,tryL]
      refine hTm 26 C ?_;refine hTm 27 C ?_
      try simp only[Act.put,tryL]
      refine wpAnyH_done (by kernel_rfl) ?_ _;have a6:=a2.o.kept (Ae H none) (by simp);have j3:=O.o.more (Ae H none) (by have:=O.o.size;have:=a2.o.lt;omega) (λ_ h=>by cases h);have g2:=d8.o.kept H;have k6:=(Ae H none).cell t6 (by simp);clear o A f4 d1 q1 t2 t3 t5 t6;obtain⟨z1,z2,_,z4,z5⟩:=C;obtain⟨C4,B5,l5,B0,t8,B1,_,_,_,l8,l7⟩:=a6.form D (by omega);have e2:=b8.o.symm.trans l5;simp only[Value.slice.injEq,Option.some.injEq,Addr.mk.injEq,and_true,true_and]at e2;obtain⟨e2,e3⟩:=e2;subst e2 e3;clear l5;obtain⟨y0,v4⟩:∃y0,wz.cell? ⟨U,m,none⟩=some (.string y0):=⟨_,l7 m I⟩;have u1:=a6.cell D;rw[b8.o]at u1;have A3:=l8 m;clear l8 l7;have r0:=qh a6;clear a6;have q8:=qh j3;clear j3;have w0:=qh g2;clear g2
      go_wp2_with fail
      have d9:=qh (λs (hg:wz.grownBy s (some L))=>(⟨hg.cell u1 (by simp;omega),hg.cell v4 (by simp;omega),hg.cell z1 (by simp;exact d7),hg.cell k6 (by simp;exact j2),hg.cell z2 (by simp;exact j2),hg.cell z4 (by simp;exact d7),hg.cell z5 (by simp;exact q3)⟩:s.cell? (Ad gc d)=some (.slice (some (Ad U 0)) n cc)/\s.cell? (Ad U m)=some (.string y0)/\s.cell? (Ad g d)=some (.slice (some (Ad N 0)) n b7)/\s.cell? (Ad N m)=some (.string y3)/\s.cell? (Ad N q)=some (.string y1)/\s.cell? (Ad g q)=some (.slice (some (Ad rq 0)) n cq)/\s.cell? (Ad rq m)=some (.string y2)));have j5:=FC wz (some L);have z:=d9.o _ j5;have j8:Is k e6 y1 (CSR.elims M q d q):=by rw[i6.o];exact(e0.o d q D B).mono a5.o
      have o3:Is k e6 y2 (CSR.elims M q q m):=by rw[i7.o];exact(e0.o q m B I).mono a5.o
      have o4:Is k e6 y3 (CSR.elims M q d m):=by rw[g3.o];exact(e0.o d m D I).mono a5.o
      have m5:=Oq (F:=F) j8 (o2.o.mono a5.o) b4.o (λf=>((hF.o f).steps q B).first d D) w0.o.drew
      have v7:=qh m5;clear m5;replace o3:=qh o3;clear j8;replace o4:=qh o4;clear f5 e1 W H;refine AD (λs=>s.cell? (Ad gc d)=some (.slice (some (Ad U 0)) n cc)/\s.cell? (Ad U m)=some (.string y0)/\s.cell? (Ad g d)=some (.slice (some (Ad N 0)) n b7)/\s.cell? (Ad N m)=some (.string y3)/\s.cell? (Ad N q)=some (.string y1)/\s.cell? (Ad g q)=some (.slice (some (Ad rq 0)) n cq)/\s.cell? (Ad rq m)=some (.string y2)) 34 (by kernel_rfl) ?_;refine Aa.tm 0 z ?_;refine Aa.tm 1 z ?_;refine Aa.tm 2 z ?_;refine Aa.tm 3 z ?_;refine Aa.tm 4 z ?_;refine Aa.tm 5 z ?_;refine Aa.tm 6 z ?_;refine Aa.tm 7 z ?_;refine Aa.tm 8 z ?_;refine Aa.tm 9 z ?_;refine Aa.tm 10 z ?_;refine Aa.tm 11 z ?_;refine Aa.tm 12 z ?_;refine Aa.tm 13 z ?_;refine Aa.tm 14 z ?_;refine Aa.tm 15 z ?_;refine Aa.tm 16 z ?_;refine Aa.tm 17 z ?_;refine Aa.tm 18 z ?_;refine Aa.tm 19 z ?_;refine Aa.tm 20 z ?_;refine Aa.tm 21 z ?_;refine Aa.tm 22 z ?_;refine Aa.tm 24 z ?_;refine Aa.tm 25 z ?_;refine Aa.tm 26 z ?_;refine Aa.tm 27 z ?_;refine Aa.tm 28 z ?_;refine Aa.tm 29 z ?_;refine Aa.tm 30 z ?_
      try simp only[Act.put,tryL]
      refine Aa.on 23 λK G=>?_;go_simp;refine v7.o.mono ?_;rintro r w7⟨u7,e7,rfl,z3,x5,j9,l0,x7⟩;have f8:=BP j5 x7;have g6:=d9.o _ f8;refine G.out _ _ (.inr g6) ?_;clear G K
      try simp only[Act.put,tryL]
      refine Aa.on 31 λK G=>?_;go_simp;refine(Oq (F:=F) z3 (o3.o.mono j9) x5 (λf=>((hF.o f).steps q B).second d m D I) l0).mono ?_;rintro r w8⟨u8,e8,rfl,l2,n6,f7,l1,n7⟩;have b2:=BP f8 n7;have b9:=d9.o _ b2;refine G.out _ _ (.inr b9) ?_;clear G K
      try simp only[Act.put,tryL]
      refine Aa.on 32 λK G=>?_;go_simp;refine(Of (F:=F) (o4.o.mono (λh=>j9 (f7 h))) l2 n6 (λf=>((hF.o f).steps q B).sum d m D I) l1).mono ?_;rintro r w9⟨u9,e9,rfl,z6,x6,s6,y9,x8⟩;have k0:=BP b2 x8;have j4:=d9.o _ k0;refine G.out _ _ (.inr j4) ?_;clear G K
      try simp only[Act.put,tryL]
      refine Aa.tm 33 j4 ?_
      try simp only[Act.put,tryL]
      have g9:=j4.2.1;have A0:w9.frozen? (Ad U m)=false:=(k0.frozen_far (Ad U m) t8 (by simp;omega)).trans A3;refine Aa.on 34 λK G=>?_;go_simp;refine G.out _ _ (.inl rfl) (Aa.dn ?_);clear G K;have s8:=(r0.o.kept k0 (by intro j T;cases T;exact i4)).stored D I b8.o u9;have x3:=(q8.o.more k0 (by have:=q8.o.size;have:=a2.o.lt;have:=O.o.size;have:=r0.o.lt;omega) (λ_ e=>.inl e)).set (p:=(Ad U m)) (.inr k9) (.string u9);have v3:=y9.other (p:=(Ad U m)) (by show L≠U;omega) (.string u9);clear z g6 b9 j4 g9 A0 u1 v4 z1 z2 z4 z5 k6;go_wp2;go_roundw
      case rel =>
       refine⟨m+1,e9,_,by omega,by go_num,s8,λl j hl T y4=>?_,x6,λh=>a5.o (j9 (f7 (s6 h))),v3,x3⟩;by_cases e:l=d/\j=m
       ·rw[ifp e,e.1,e.2];exact z6
       rw[ifn e,ifn e];exact(b6.o l j hl T (by omega)).mono (λh=>j9 (f7 (s6 h)))
      simp[intOf];omega
     have h8:Y d q=Ak k.1\/Y q m=Ak k.1:=.inr (by rw[<-i7.o,<-i9.o];exact toList_eq y7);have q7:=qh h8;clear h8
     go_wp2_with fail
     refine wp_region_held (S:=λs=>s.cell? (Ad g d)=some (.slice (some (Ad N 0)) n b7)/\s.cell? (Ad N q)=some (.string y1)/\s.cell? (Ad L 0)=some (.int .i64 k.1)/\s.cell? (Ad g q)=some (.slice (some (Ad rq 0)) n cq)/\s.cell? (Ad rq m)=some (.string y2)) (by kernel_rfl) ?_;refine hTm 0 o ?_;refine hTm 1 o ?_;refine hTm 2 o ?_;refine hTm 3 o ?_;refine hTm 4 o ?_;refine hTm 5 o ?_;refine hTm 6 o ?_;refine hTm 7 o ?_;refine hTm 8 o ?_;refine hTm 9 o ?_;refine hTm 10 o ?_
     try simp only[Act.put,tryL]
     refine wpAnyH_ready (rs:=[11]) (by kernel_rfl) (by simp) (AllReadyH.cons rfl (λK G=>?_) AllReadyH.nil);rw[ifp (by kernel_rfl)];go_simp;refine(b3.o _).mono ?_;rintro r A4⟨rfl,e1⟩;have W:=f4.trans e1;have A:=f2.o _ W;refine G.out _ _ A (λ_=>?_);clear G K
     try simp only[Act.put,tryL]
     refine hTm 12 A ?_;refine hTm 13 A ?_;refine hTm 14 A ?_;refine hTm 15 A ?_;refine hTm 16 A ?_;refine hTm 17 A ?_;refine hTm 18 A ?_;refine hTm 19 A ?_;refine hTm 20 A ?_;refine hTm 21 A ?_;refine hTm 22 A ?_;refine hTm 23 A ?_;refine hTm 24 A ?_
     try simp only[Act.put,tryL]
     refine wpAnyH_ready (rs:=[25]) (by kernel_rfl) (by simp) (AllReadyH.cons rfl (λK G=>?_) AllReadyH.nil);rw[ifp (by kernel_rfl)];go_simp;refine(b3.o _).mono ?_;rintro r wz⟨rfl,f5⟩;have H:=W.trans<|f5.mono W.size;have C:=f2.o _ H;refine G.out _ _ C (λ_=>?_);clear G K
     try simp only[Act.put,tryL]
     refine hTm 26 C ?_
    rotate_left
    focus
     have h8:Y d q=Ak k.1\/Y q m=Ak k.1:=.inl (by rw[<-i6.o,<-i9.o];exact toList_eq y6);have q7:=qh h8;clear h8
     go_wp2_with fail
     refine wp_region_held (S:=λs=>s.cell? (Ad g d)=some (.slice (some (Ad N 0)) n b7)/\s.cell? (Ad N q)=some (.string y1)/\s.cell? (Ad L 0)=some (.int .i64 k.1)/\s.cell? (Ad g q)=some (.slice (some (Ad rq 0)) n cq)/\s.cell? (Ad rq m)=some (.string y2)) (by kernel_rfl) ?_;refine hTm 0 o ?_;refine hTm 1 o ?_;refine hTm 2 o ?_;refine hTm 3 o ?_;refine hTm 4 o ?_;refine hTm 5 o ?_;refine hTm 6 o ?_;refine hTm 7 o ?_;refine hTm 8 o ?_;refine hTm 9 o ?_;refine hTm 10 o ?_
     try simp only[Act.put,tryL]
     refine wpAnyH_ready (rs:=[11]) (by kernel_rfl) (by simp) (AllReadyH.cons rfl (λK G=>?_) AllReadyH.nil);rw[ifp (by kernel_rfl)];go_simp;refine(b3.o _).mono ?_;rintro r wz⟨rfl,f5⟩;have H:=f4.trans f5;have C:=f2.o _ H;refine G.out _ _ C (λ_=>?_);clear G K
     try simp only[Act.put,tryL]
     refine hTm 12 C ?_;refine hTm 13 C ?_;refine hTs 14 C ?_;refine hTs 15 C ?_;refine hTs 16 C ?_;refine hTs 17 C ?_;refine hTs 18 C ?_;refine hTs 19 C ?_;refine hTs 20 C ?_;refine hTs 21 C ?_;refine hTs 22 C ?_;refine hTs 23 C ?_;refine hTs 24 C ?_;refine hTs 25 C ?_;refine hTs 26 C ?_
    all_goals
     refine hTm 27 C ?_
     try simp only[Act.put,tryL]
     refine wpAnyH_done (by kernel_rfl) ?_ _;have a6:=a2.o.kept (Ae H none) (by simp);have j3:=O.o.more (Ae H none) (by have:=O.o.size;have:=a2.o.lt;omega) (λ_ h=>by cases h);have g2:=d8.o.kept H;clear o C f4 d1 w3 j2 x0 x1 q1 q2 q3 q4 q5 t2 t3 t5 t6;go_wp2;go_roundw
     case rel =>
      refine⟨m+1,e6,_,by omega,by go_num,a6,λl j hl T y4=>?_,b4.o,a5.o,g2,j3⟩;by_cases e:l=d/\j=m
      ·rw[ifp e,e.1,e.2,g3.o];exact Sw (e0.o.mono a5.o) D I B q7.o
      rw[ifn e];exact b6.o l j hl T (by omega)
     simp[intOf];omega
   have o6:m=n:=by omega
   have h9:¬((m:Int)<(n:Int)):=by omega
   replace o6:=qh o6;go_wp2;go_roundw
   case rel=>exact⟨d+1,e6,Yc,by omega,by go_num,Q.o,λl j hl T h=>b6.o l j hl T (by have:=o6.o;omega),b4.o,a5.o,b5.o,a7.o⟩
   simp[intOf];omega
  have m9:d=n:=by omega
  have h9:¬((d:Int)<(n:Int)):=by omega
  replace m9:=qh m9;go_wp2;go_roundw
  case rel =>
   refine⟨q+1,e6,gc,Rc,Yc,by omega,rfl,by go_num,Q.o,i4,by omega,λl j hl T=>b6.o l j hl T (by have:=m9.o;omega),b4.o,λh=>v8.o (a5.o h),b5.o,?_⟩;exact m4.o.trans<|a7.o.mono (by omega)
  simp[intOf];omega
 have f9:q=n:=by omega
 have h9:¬((q:Int)<(n:Int)):=by omega
 have h7:Diag e' n 0 Y (CSR.elims M n):=Diag.start (by have h:=a8.o;rw[f9]at h;exact h);have f1:=qh h7;clear h7;have B3:=qh f9;clear f9
 go_wp2_with fail
 go_loopw [13] (λi wr=>∃(c e3:Nat) (Z:Nat->Nat->ByteArray),c<=n/\i=.int .i64 (c:Int)/\OM wr (λ_=>False) g 9 100 g n R (λ_=>n) Z/\Diag e3 n c Z (CSR.elims M n)/\Er F e3/\(e3=0->e'=0)/\SumR wr L k.1 e3/\Gr w.heap.size (some L) w wr) (λi _=>n-(intOf i).toNat)
 case atStart=>exact⟨0,e',Y,Nat.zero_le _,rfl,E.o,f1.o,j0.o,λh=>h,HS.o,HG.o⟩
 clear E f1 j0 HS HG a8;obtain⟨c,e3,Z,x4,rfl,J,h7,hE,hm,hS,hG⟩:=hrel;have E:=qh J;clear J;have f1:=qh h7;clear h7;have p9:=qh hE;clear hE;have q9:=qh hm;clear hm;have HS:=qh hS;clear hS;have HG:=qh hG;clear hG;by_cases B:c<n
 ·have B6:(c:Int)<(n:Int):=by omega
  have A6:(0:Int)<=(c:Int):=by omega
  obtain⟨rb,U,f3,k9,o7,t7,_,s5,h0,b0,a9⟩:=E.o.form B (by omega);unfold maxLen at h0;have s1:=E.o.cell B;rw[f3]at s1;have s2:=a9 c B;have s3:=HS.o.c0;have rf:=b0 c;have v9:=qh f3;clear f3 b0 a9;obtain⟨y,hy⟩:=exq<|Z c c;rw[<-hy]at s2;have o9:Is k e3 y (CSR.elims M n c c):=by have:=f1.o c c B B;rw[ifn (by omega)]at this;rw[hy];exact this
  replace o9:=qh o9;clear hy;have x9:=E.o.lt;have j5:=FC wr (some L);have z7:=HG.o.size;have o:wr.drew.cell? (Ad g c)=some (.slice (some (Ad rb 0)) n U)/\wr.drew.cell? (Ad rb c)=some (.string y)/\wr.drew.cell? (Ad L 0)=some (.int .i64 k.1):=⟨s1,s2,s3⟩
  go_wp2_with fail
  refine AD (λs=>s.cell? (Ad g c)=some (.slice (some (Ad rb 0)) n U)/\s.cell? (Ad rb c)=some (.string y)/\s.cell? (Ad L 0)=some (.int .i64 k.1)) 20 (by kernel_rfl) ?_;refine Aa.tm 0 o ?_;refine Aa.tm 1 o ?_;refine Aa.tm 2 o ?_;refine Aa.tm 3 o ?_;refine Aa.tm 4 o ?_;refine Aa.tm 5 o ?_;refine Aa.tm 6 o ?_;refine Aa.tm 7 o ?_;refine Aa.tm 8 o ?_;refine Aa.tm 9 o ?_;refine Aa.tm 11 o ?_;refine Aa.tm 12 o ?_;refine Aa.tm 13 o ?_;refine Aa.tm 14 o ?_;refine Aa.tm 15 o ?_;refine Aa.tm 16 o ?_;refine Aa.tm 17 o ?_
  try simp only[Act.put,tryL]
  refine Aa.on 10 λK G=>?_;go_simp;refine(Ho k.1 _).mono ?_;rintro r w7⟨rfl,r8⟩;have f8:=BP j5 (Ae r8 (some L));have l0:=HS.o.drew.kept r8;have g6:w7.cell? (Ad g c)=some (.slice (some (Ad rb 0)) n U)/\w7.cell? (Ad rb c)=some (.string y)/\w7.cell? (Ad L 0)=some (.int .i64 k.1):=⟨f8.cell s1 (by simp;omega),f8.cell s2 (by simp;omega),l0.c0⟩;refine G.out _ _ (.inr g6) ?_;clear G K
  try simp only[Act.put,tryL]
  refine Aa.on 18 λK G=>?_;go_simp;refine(Of (F:=F) (Is.one k e3) o9.o p9.o (λf=>by rw[CSR.aC];exact(hF.o f).last c B) l0).mono ?_;rintro r w8⟨u8,e8,rfl,l2,n6,f7,l1,n7⟩;have b2:=BP f8 n7;have b9:w8.cell? (Ad g c)=some (.slice (some (Ad rb 0)) n U)/\w8.cell? (Ad rb c)=some (.string y)/\w8.cell? (Ad L 0)=some (.int .i64 k.1):=⟨b2.cell s1 (by simp;omega),b2.cell s2 (by simp;omega),l1.c0⟩;refine G.out _ _ (.inr b9) ?_;clear G K
  try simp only[Act.put,tryL]
  refine Aa.tm 19 b9 ?_
  try simp only[Act.put,tryL]
  have g8:=b9.2.1;have z9:w8.frozen? (Ad rb c)=false:=(b2.frozen_far (Ad rb c) o7 (by simp;omega)).trans rf;refine Aa.on 20 λK G=>?_;go_simp;refine G.out _ _ (.inl rfl) (Aa.dn ?_);clear G K;have s7:=(E.o.kept b2 (by intro j T;cases T;exact g1)).stored B B v9.o u8;have x2:=(HG.o.more b2 z7 (λ_ e=>.inl e)).set (p:=(Ad rb c)) (.inr (by show _<=rb;omega)) (.string u8);have v2:=l1.other (p:=(Ad rb c)) (by show L≠rb;omega) (.string u8);clear o g6 b9 g8 z9 s1 s2 s3;go_wp2;go_roundw
  case rel =>
   rw[CSR.aC]at l2;exact⟨c+1,e8,_,by omega,by go_num,s7,f1.o.next f7 l2,n6,λh=>q9.o (f7 h),v2,x2⟩
  simp[intOf];omega
 have l6:c=n:=by omega
 have A8:¬((c:Int)<(n:Int)):=by omega
 have j6:=f1.o;rw[l6]at j6;replace j6:=qh j6;clear l6;go_wp2;go_ret;exact⟨_,e3,Z,rfl,E.o.mt (by unfold maxLen;omega) (by intro j T;cases T;exact .inl g1),j6.o.done,p9.o,λh=>HM.o (q9.o h),HS.o,Gr.gb HG.o⟩
def RStarE{k:KK}(n:Nat)(M:Nat->Nat->RK k)(w:World)(r:Ending)(w':World):Prop:=Below w.heap.size w w'/\
 (r=.returned (.tuple #[.slice none 0 0,.int .i64 2])\/∃v Y,r=.returned (.tuple #[v,.int .i64 0])/\n<=60/\Mt none w' v n (λ_=>n) Y/\MatIs 0 n Y (CSR.starM M n))
theorem Wm{k:KK}{n:Nat}{L:Nat->Nat}{X:Nat->Nat->ByteArray}{v:Value}(w:World)(hn:n<=60)(A:Mt none w v n L X)(J:∀i j,(X i j).size<=maxLen)(g:Sq k.1 n L X):
  Calls prog 116 #[.int .i64 k.1,v] w (RStarE n (λi j=>wval k (X i j)) w):=by
 have s:=TT (k0:=k.1) w A J True (by simp only[true_iff];exact⟨(by unfold As;have:=k.2;simp;omega),g⟩);obtain⟨a,D,rfl⟩:=A.shape;replace s:=qh s;replace A:=qh A;replace g:=qh g;replace J:=qh J;obtain⟨M,o⟩:∃M:Nat->Nat->RK k,M=λi j=>wval k (X i j):=⟨_,rfl⟩;have G:MatIs 0 n X M:=by rw[o];exact g.o.mat
 rw[<-o];clear o;replace G:=qh G
 go_enter func116,ntmps116
 go_wp2_with fail
 refine s.o.mono ?_;rintro r wr⟨N,rfl,B,c⟩;obtain rfl:N=true:=B.2 trivial;clear B;replace c:=qh c;have K:decide ((60:Int)<(n:Int))=false:=by simp;omega
 obtain⟨z,d⟩:=exq<|wr.heap.size;have u:SumR (wr.alloc (.cells #[.int .i64 k.1,.bool false] 169)) z k.1 0:=by rw[d];exact SumR.new wr _
 have p:Below w.heap.size w (wr.alloc (.cells #[.int .i64 k.1,.bool false] 169)):=c.o.alloc c.o.size _;have I:w.heap.size<=z:=by rw[d];exact c.o.size
 have m:Mt (some z) (wr.alloc (.cells #[.int .i64 k.1,.bool false] 169)) (.slice a n D) n (λ_=>n) X :=
  (((A.o.congr (L':=λ_=>n) (λi hi=>(g.o i hi).1) (λ_ _ _ _=>rfl)).far (k:=z) (by rw[d];exact c.o.size)).kept (Ae c.o _)).kept (World.grownBy_alloc _ _ _)
 replace u:=qh u;replace p:=qh p;replace m:=qh m
 go_wp2_with fail
 rw[<-d];refine(WV (F:=False) _ hn u.o ⟨.inl rfl,False.elim⟩ m.o G.o False.elim).mono ?_;rintro r R⟨T,S,Y,rfl,P,H,E,_,l,C⟩;have h:Below w.heap.size w R:=p.o.grown C (by simp;have:=c.o.size;omega) (λj Q=>by cases Q;exact I);replace h:=qh h;clear C d
 rcases E.1 with rfl|rfl
 ·have O:=l.c1 (b:=false) (by simp);clear l;go_wp2;go_ret2;exact⟨h.o,.inr ⟨_,Y,rfl,hn,P.any,H⟩⟩
 have O:=l.c1 (b:=true) (by simp);clear l;go_wp2;go_ret2;exact⟨h.o,.inl rfl⟩
end
end Go.Proofs.YtpldocnhbdlgfaaGreatDoor
