/- Parts. -/
import Derived.Test.YtpldocnhbdlgfaaGreatDoorPb30
import Derived.Test.YtpldocnhbdlgfaaGreatDoorPb33
namespace Go.Proofs.YtpldocnhbdlgfaaGreatDoor
set_option maxRecDepth 100000
set_option linter.all false
set_option maxHeartbeats 16000000
open Go Tryz
section
open Go CSR
variable{D:MD}
def finB(k:Int)(s:ByteArray):Bool:=decide (s=⟨#[]⟩)||Am k s
def arcB(D:MD)(i k:Nat):Bool:=(decide (0<=D.ain i k)&&decide (D.ain i k<=500))&&(decide (0<=D.aout i k)&&decide (D.aout i k<=500))&&(decide (0<=D.ato i k)&&decide (D.ato i k<(D.n:Int)))&&Am D.kind (D.aw i k)
def vmB(D:MD):Bool:=Au D.kind&&(decide (1<=D.n)&&decide (D.n<=3000))&&(decide (0<=D.start)&&decide (D.start<(D.n:Int)))&&Am D.kind D.lead&&decide (Ah D D.n<=30000)&&((List.range D.n).all λi=>finB D.kind (D.fin i)&&(List.range (D.na i)).all λk=>arcB D i k)
def Dg(h:vmB D=true):VM D:=by
 unfold vmB at h;simp only[Bool.and_eq_true,decide_eq_true_eq,List.all_eq_true,List.mem_range]at h;obtain⟨⟨⟨⟨⟨l,m,o⟩,p,s⟩,u⟩,z⟩,j⟩:=h;refine⟨l,m,o,p,s,u,z,λi hi=>?_,λi k hi A=>?_⟩
 ·have:=(j i hi).1;unfold finB at this
  simpa using this
 have:=(j i hi).2 k A;unfold arcB at this;simp only[Bool.and_eq_true,decide_eq_true_eq]at this;obtain⟨⟨⟨⟨a,b⟩,c,d⟩,e,f⟩,g⟩:=this;exact⟨a,b,c,d,e,f,g⟩
def selB(D:MD):Bool:=(List.range D.n).any λq=>(List.range (D.na q)).any λd=>silB (D.ain q d) (D.aout q d)
def NH:NoSel D silB↔selB D=false:=by
 unfold selB NoSel;simp only[List.any_eq_false,List.mem_range,Bool.not_eq_true];exact⟨λh q c d hd=>h q d c hd,λh q d c hd=>h q c d hd⟩
def VOk8(D:MD)(na:Nat)(x:Nat->Int)(nb:Nat)(y:Nat->Int)(s:ByteArray):Prop:=VM D/\isWord na x=true/\isWord nb y=true/\∀st e,Sil8 D silB st e->(if e≠0 then (⟨#[]⟩,e) else Co D st na x nb y)=(s,0)
def DJ{na:Nat}{x:Nat->Int}{nb:Nat}{y:Nat->Int}{s:ByteArray}(l:VM D)(g:selB D=false)(h:(isWord na x&&isWord nb y&&decide (Co D none na x nb y=(s,0)))=true):VOk8 D na x nb y s:=by
 simp only[Bool.and_eq_true,decide_eq_true_eq]at h;obtain⟨⟨i,j⟩,k⟩:=h;refine⟨l,i,j,λst e d=>?_⟩
 rcases d with⟨_,rfl,rfl⟩|⟨_,rfl,c,S,rfl,m⟩|⟨_,_,c⟩
 ·exact k
 ·exact absurd (NH.2 g) c
 exact absurd (NH.2 g) c
def CmpIs.closed{A B M:MD}{al:Nat->Bool}{n:Nat}(h:CmpIs A B al n M)(n0:Nat)(c:(itP A B al n0).1.length<=n0):M=(itP A B al n0).2:=by
 rw[h.eq,TR (A:=A) (B:=B) (al:=al) (n:=n) (m:=n0) (by rw[h.len];omega) c]
end
section
open Go.RowKit Go.Deep
def CmnE(A B:MD)(w:World)(r:Ending)(w':World):Prop :=
 Below w.heap.size w w'/\((VM A/\VM B/\AccD A/\AccD B/\A.kind=B.kind/\
  ((∃n M,CmpIs A B (alF A) n M/\∃sv R,r=.returned (.tuple #[.agg #[.int .i64 M.kind,.int .i64 M.start,.string M.lead,sv],.int .i64 0])/\OwM w' w.heap.size sv M R)\/(BadC A B/\r=.returned (.tuple #[AQ,.int .i64 2]))))\/
  (VM A/\VM B/\¬(AccD A/\AccD B/\A.kind=B.kind)/\r=.returned (.tuple #[AQ,.int .i64 6]))\/(¬(VM A/\VM B)/\r=.returned (.tuple #[AQ,.int .i64 1])))
def FN{D E:MD}{mv nv:Value}(w:World)(hM:Ma none w mv D)(hN:Ma none w nv E)(T:MSz D)(U:MSz E)(ht:Tab w):Calls prog 19 #[mv,nv] w (CmnE D E w):=by
 obtain⟨sv,rfl,hS⟩:=hM;obtain⟨sw,rfl,a5⟩:=hN;obtain⟨a,cp,_,_,_,_,_,_,b8,_⟩:=hS.open;obtain⟨a2,a4,_,_,_,_,_,_,d9,_⟩:=a5.open;subst b8;subst d9;have Q:∀W,Below w.heap.size w W->Ma none W (.agg #[.int .i64 D.kind,.int .i64 D.start,.string D.lead,.slice a D.n cp]) D:=λW h=>⟨_,rfl,hS.kept (Ag h none)⟩;have s:∀W,Below w.heap.size w W->Ma none W (.agg #[.int .i64 E.kind,.int .i64 E.start,.string E.lead,.slice a2 E.n a4]) E:=λW h=>⟨_,rfl,a5.kept (Ag h none)⟩;have B:∀W,Below w.heap.size w W->Tab W:=λW h=>ht.below h nlr;obtain⟨w1,H⟩:=exq<|w.alloc (.cells #[.int .i64 D.kind,.int .i64 D.start,.string D.lead,.slice a D.n cp] 25);obtain⟨w2,I⟩:=exq<|w1.alloc (.cells #[.int .i64 E.kind,.int .i64 E.start,.string E.lead,.slice a2 E.n a4] 25);obtain⟨Y,X⟩:=exq<|w2.alloc (.cells #[.int .i64 0,.int .i64 0,.string ⟨#[]⟩,.slice none 0 0] 25);have b9:w1.heap.size=w.heap.size+1:=by rw[H];simp
 have d6:w2.heap.size=w.heap.size+1+1:=by rw[I];simp[b9]
 have d5:Fr (λ_=>False) w w1:=by rw[H];exact Fr.alloc _ _
 have b4:Fr (λ_=>False) w1 w2:=by rw[I];exact Fr.alloc _ _
 have a7:Fr (λ_=>False) w2 Y:=by rw[X];exact Fr.alloc _ _
 have b5:w1.heap[w.heap.size]?=some (.cells #[.int .i64 D.kind,.int .i64 D.start,.string D.lead,.slice a D.n cp] 25 (0,0)):=by rw[H];exact han w _
 have j:Y.heap[w.heap.size]?=some (.cells #[.int .i64 D.kind,.int .i64 D.start,.string D.lead,.slice a D.n cp] 25 (0,0)):=(a7.block _ (by omega) (λe=>e)).trans ((b4.block _ (lbk b5) (λe=>e)).trans b5);have a9:w2.heap[w.heap.size+1]?=some (.cells #[.int .i64 E.kind,.int .i64 E.start,.string E.lead,.slice a2 E.n a4] 25 (0,0)):=by rw[<-b9,I];exact han w1 _
 have k:Y.heap[w.heap.size+1]?=some (.cells #[.int .i64 E.kind,.int .i64 E.start,.string E.lead,.slice a2 E.n a4] 25 (0,0)):=(a7.block _ (by omega) (λe=>e)).trans a9;have i:Y.heap[w.heap.size+1+1]?=some (.cells #[.int .i64 0,.int .i64 0,.string ⟨#[]⟩,.slice none 0 0] 25 (0,0)):=by rw[<-d6,X];exact han w2 _
 have a6:Below w.heap.size w Y:=((d5.trans b4).trans a7).below nlr (λ_ e=>e.elim);obtain⟨mb,a8⟩:=exq<|w.heap.size;obtain⟨nb,b6⟩:=exq<|w.heap.size+1;obtain⟨u,b7⟩:=exq<|w.heap.size+1+1;have A:w.heap.size<=u:=by omega
 rw[<-a8]at j;rw[<-b6]at k;rw[<-b7]at i;obtain⟨⟨m0,m1,m2,m3⟩,_⟩:=cells4 j;have d3:=qh<|Fc Y (Q Y a6) T (B Y a6);replace Q:=qh Q;replace s:=qh s;replace B:=qh B;replace ht:=qh ht;have b0:=qh a6;clear a6;have g:=qh j;clear j b5 d5 b4 a7 b9 d6 a9;have d:=qh k;clear k;have c:=qh i;clear i;replace T:=qh T;replace U:=qh U;have e1:=qh hS;have e2:=qh a5;clear hS a5;rw[a8,X,I,H]at m0 m1 m2 m3
 go_enter func19,ntmps19
 go_wp2_with fail
 rw[<-H,<-I,<-X,<-b7,<-b6,<-a8];clear m0 m1 m2 m3 H I X a8 b6 b7;refine d3.o.mono ?_;rintro r w4⟨K,hr⟩;have j:=(K.block _ (lbk g.o)).trans g.o;have k:=(K.block _ (lbk d.o)).trans d.o;have i:=(K.block _ (lbk c.o)).trans c.o;have C:=qh<|b0.o.trans (K.mono b0.o.size);clear K g d c d3 b0;have g:=qh j;clear j;have d:=qh k;clear k;have c:=qh i;clear i
 rcases hr with⟨m,rfl⟩|⟨m,rfl⟩
 rotate_left
 ·have Z:=qh m;clear m;obtain⟨⟨r0,r1,r2,r3⟩,l⟩:=cells4 c.o;have f0:=l 0;have f1:=l 1;have f2:=l 2;have f3:=l 3;clear l
  go_wp2_with fail
  exact bodyPost_ret (AG rfl _ (b:=u) rfl rfl (AE w4 u _ _ _ _ c.o)) rfl ⟨Ay C.o A _ _ _ _,.inr (.inr ⟨λh=>Z.o h.1,rfl⟩)⟩
 have Z:=qh m;clear m;obtain⟨⟨n0,n1,n2,n3⟩,_⟩:=cells4 d.o;have d4:=qh<|Fc w4 (s.o w4 C.o) U.o (B.o w4 C.o)
 go_wp2_with fail
 clear n0 n1 n2 n3;refine d4.o.mono ?_;rintro r w5⟨L,hr⟩;have j:=(L.block _ (lbk g.o)).trans g.o;have k:=(L.block _ (lbk d.o)).trans d.o;have i:=(L.block _ (lbk c.o)).trans c.o;have F:=qh<|C.o.trans (L.mono C.o.size);clear L g d c d4 C;have g:=qh j;clear j;have d:=qh k;clear k;have c:=qh i;clear i
 rcases hr with⟨m,rfl⟩|⟨m,rfl⟩
 rotate_left
 ·have o:=qh m;clear m;obtain⟨⟨r0,r1,r2,r3⟩,l⟩:=cells4 c.o;have f0:=l 0;have f1:=l 1;have f2:=l 2;have f3:=l 3;clear l
  go_wp2_with fail
  exact bodyPost_ret (AG rfl _ (b:=u) rfl rfl (AE w5 u _ _ _ _ c.o)) rfl ⟨Ay F.o A _ _ _ _,.inr (.inr ⟨λh=>o.o h.2,rfl⟩)⟩
 have o:=qh m;clear m;obtain⟨⟨m0,m1,m2,m3⟩,_⟩:=cells4 g.o;have d0:=qh<|No w5 (Q.o w5 F.o) T.o (B.o w5 F.o)
 go_wp2_with fail
 clear m0 m1 m2 m3;refine d0.o.mono ?_;rintro r w6⟨N,hr⟩;have j:=(N.block _ (lbk g.o)).trans g.o;have k:=(N.block _ (lbk d.o)).trans d.o;have i:=(N.block _ (lbk c.o)).trans c.o;have G:=qh<|F.o.trans (N.mono F.o.size);clear N g d c d0 F;have g:=qh j;clear j;have d:=qh k;clear k;have c:=qh i;clear i
 rcases hr with⟨m,rfl⟩|⟨m,rfl⟩
 rotate_left
 ·have HX:=qh m;clear m;obtain⟨⟨r0,r1,r2,r3⟩,l⟩:=cells4 c.o;have f0:=l 0;have f1:=l 1;have f2:=l 2;have f3:=l 3;clear l
  go_wp2_with fail
  exact bodyPost_ret (AG rfl _ (b:=u) rfl rfl (AE w6 u _ _ _ _ c.o)) rfl ⟨Ay G.o A _ _ _ _,.inr (.inl ⟨Z.o,o.o,λh=>HX.o ⟨Z.o,h.1⟩,rfl⟩)⟩
 have HX:=qh m.2;clear m;obtain⟨⟨n0,n1,n2,n3⟩,_⟩:=cells4 d.o;have d1:=qh<|No w6 (s.o w6 G.o) U.o (B.o w6 G.o)
 go_wp2_with fail
 clear n0 n1 n2 n3;refine d1.o.mono ?_;rintro r w7⟨O,hr⟩;have j:=(O.block _ (lbk g.o)).trans g.o;have k:=(O.block _ (lbk d.o)).trans d.o;have i:=(O.block _ (lbk c.o)).trans c.o;have p:=qh<|G.o.trans (O.mono G.o.size);clear O g d c d1 G;have g:=qh j;clear j;have d:=qh k;clear k;have c:=qh i;clear i
 rcases hr with⟨m,rfl⟩|⟨m,rfl⟩
 rotate_left
 ·have a1:=qh m;clear m;obtain⟨⟨r0,r1,r2,r3⟩,l⟩:=cells4 c.o;have f0:=l 0;have f1:=l 1;have f2:=l 2;have f3:=l 3;clear l
  go_wp2_with fail
  exact bodyPost_ret (AG rfl _ (b:=u) rfl rfl (AE w7 u _ _ _ _ c.o)) rfl ⟨Ay p.o A _ _ _ _,.inr (.inl ⟨Z.o,o.o,λh=>a1.o ⟨o.o,h.2.1⟩,rfl⟩)⟩
 have a1:=qh m.2;clear m;obtain⟨⟨m0,m1,m2,m3⟩,_⟩:=cells4 g.o;obtain⟨⟨n0,n1,n2,n3⟩,_⟩:=cells4 d.o;have d2:=qh<|Dn w7 (Q.o w7 p.o) (s.o w7 p.o) T.o U.o (B.o w7 p.o)
 go_wp2_with fail
 clear m0 m1 m2 m3 n0 n1 n2 n3;refine d2.o.mono ?_;rintro r w8⟨b3,hr⟩;have i:=(b3.block _ (lbk c.o)).trans c.o;have b1:=qh<|p.o.trans (b3.mono p.o.size);have e0:=p.o.size;clear b3 g d c d2 p;have c:=qh i;clear i;obtain⟨⟨r0,r1,r2,r3⟩,l⟩:=cells4 c.o;have f0:=l 0;have f1:=l 1;have f2:=l 2;have f3:=l 3;clear l
 rcases hr with⟨_,_,z,⟨n,M,b2,sv,R,rfl,S⟩|⟨P,rfl⟩⟩|⟨_,_,z,rfl⟩|⟨d8,rfl⟩
 ·obtain⟨ta,tc,b8,_,_⟩:=Az S.top;subst b8;have d7:=qh<|Dc (S.box4 c.o (.int .i64 M.kind) (.int .i64 M.start) (.string M.lead) (.slice ta M.n tc)) e0;clear S;replace b2:=qh b2;have J:=qh z;clear z
  go_wp2_with fail
  exact bodyPost_ret (AG rfl _ (b:=u) rfl rfl (AE w8 u _ _ _ _ c.o)) rfl ⟨Ay b1.o A _ _ _ _,.inl ⟨Z.o,o.o,HX.o,a1.o,J.o,.inl ⟨n,M,b2.o,_,R,rfl,d7.o⟩⟩⟩
 ·replace P:=qh P;unfold AQ;have J:=qh z;clear z
  go_wp2_with fail
  exact bodyPost_ret (AG rfl _ (b:=u) rfl rfl (AE w8 u _ _ _ _ c.o)) rfl ⟨Ay b1.o A _ _ _ _,.inl ⟨Z.o,o.o,HX.o,a1.o,J.o,.inr ⟨P.o,rfl⟩⟩⟩
 ·have J:=qh z;clear z;unfold AQ
  go_wp2_with fail
  exact bodyPost_ret (AG rfl _ (b:=u) rfl rfl (AE w8 u _ _ _ _ c.o)) rfl ⟨Ay b1.o A _ _ _ _,.inr (.inl ⟨Z.o,o.o,λh=>J.o h.2.2,rfl⟩)⟩
 exact absurd ⟨Z.o,o.o⟩ d8
end
section
open Go.RowKit Go.Deep
variable{B:Nat}{R:Nat->Value}
def Has(W:World)(b:Nat)(k s:Int)(l:ByteArray)(a:Option Addr)(n c:Nat)(D:MD):Prop :=
 W.heap[b]?=some (.cells #[.int .i64 k,.int .i64 s,.string l,.slice a n c] 25 (0,0))/\(k=D.kind/\s=D.start/\l=D.lead)/\∃R,OwM W 0 (.slice a n c) D R
def DD{w w':World}{sv:Value}{D:MD}(h:OwM w B sv D R)(hb:Below w.heap.size w w'):OwM w' B sv D R :=
 ⟨AJ h.top (Ag hb none) (λ_ _=>by simp),λi hi=>AJ (h.row i hi) (Ag hb none) (λ_ _=>by simp),h.apart⟩
variable{W W':World}{b rb:Nat}{k s:Int}{l:ByteArray}{a:Option Addr}{n c:Nat}{D:MD}
def Has.on(h:Has W b k s l a n c D)(hb:Below W.heap.size W W'):Has W' b k s l a n c D:=⟨(hb.block b (lbk h.1)).trans h.1,h.2.1,by obtain⟨R,d⟩:=h.2.2;exact⟨R,DD d hb⟩⟩
theorem Has.ma(h:Has W b k s l a n c D):Ma none W (.agg #[.int .i64 k,.int .i64 s,.string l,.slice a n c]) D:=by
 obtain⟨_,⟨rfl,rfl,rfl⟩,R,d⟩:=h;exact d.ma blr
def Has.set(h:Has W b k s l a n c D){c0 c1 c2 c3:Value}(m:W.heap[rb]?=some (.cells #[c0,c1,c2,c3] 25 (0,0)))(d:b≠rb)(o p u z:Value):Has ((((W.setCell (Ad rb 0) o).setCell (Ad rb 1) p).setCell (Ad rb 2) u).setCell (Ad rb 3) z) b k s l a n c D:=by
 obtain⟨g,i,R,j⟩:=h;refine⟨?_,i,R,j.box4 m _ _ _ _⟩;rw[AM d,AM d,AM d,AM d];exact g
def Has.new(h:OwM W B (.slice a n c) D R)(e:k=D.kind/\s=D.start/\l=D.lead):Has (W.alloc (.cells #[.int .i64 k,.int .i64 s,.string l,.slice a n c] 25)) W.heap.size k s l a n c D :=
 ⟨han W _,e,R,Dc (DD h ((Below.refl _ W).alloc nlr _)) nzl⟩
theorem Has.put{c0 c1 c2 c3:Value}(h:OwM W B (.slice a n c) D R)(d:W.heap[rb]?=some (.cells #[c0,c1,c2,c3] 25 (0,0)))(e:k=D.kind/\s=D.start/\l=D.lead):Has ((((W.setCell (Ad rb 0) (.int .i64 k)).setCell (Ad rb 1) (.int .i64 s)).setCell (Ad rb 2) (.string l)).setCell (Ad rb 3) (.slice a n c)) rb k s l a n c D :=
 ⟨AE W rb _ _ _ _ d,e,R,Dc (h.box4 d _ _ _ _) nzl⟩
end
section
open Go.RowKit Go.Deep
variable{x y:Nat->Int}{D:MD}{na nb:Nat}
def Wv(D:MD)(na:Nat)(x:Nat->Int)(nb:Nat)(y:Nat->Int)(z:ByteArray × Nat):Prop:=z.2=0->∀k:KK,k.1=D.kind->Sv k z.1 (rel (rmOf k D) (ls x na 0) (ls y nb 0))
def WvE(D:MD)(na:Nat)(x:Nat->Int)(nb:Nat)(y:Nat->Int)(w:World)(r:Ending)(w':World):Prop :=
 Below w.heap.size w w'/\∃z:ByteArray × Nat,r=.returned (.tuple #[.string z.1,.int .i64 (z.2:Int)])/\((VM D/\isWord na x=true/\isWord nb y=true/\Wv D na x nb y z)\/(¬(VM D/\isWord na x=true/\isWord nb y=true)/\z=(⟨#[]⟩,1)))
def isWord.ne{n:Nat}(h:isWord n x=true):∀i,i<n->x i≠0:=λi hi=>by
 unfold isWord at h;rw[Bool.and_eq_true]at h;have c:=Fu.1 h.2 i hi;omega
theorem Wg8G.v{w:World}{r:Ending}{w':World}(h:Wg8G D na x nb y w r w'):WvE D na x nb y w r w':=by
 refine⟨h.1,?_⟩
 rcases h.2 with⟨l,o,p,st,s,z,j,c,i⟩|⟨u,i⟩
 ·refine⟨z,i,.inl ⟨l,o,p,λd k m=>?_⟩⟩;by_cases g:s=0
  ·subst g;rw[ifn (by simp)]at c;rw[c]at d ⊢;exact YH l m (j.st m) (isWord.ne o) (isWord.ne p) d
  rw[ifp g]at c;rw[c]at d;exact absurd d g
 exact⟨(⟨#[]⟩,1),i,.inr ⟨u,rfl⟩⟩
def Qn{d g i:Value}(w:World)(j:Ma none w d D)(c:MSz D)(l:Si none w g na x)(m:Si none w i nb y):
  Calls prog 28 #[d,g,i] w (WvE D na x nb y w):=by
 obtain⟨sv,rfl,k⟩:=j;exact(Qm w k c l m).mono λ_ _ h=>h.v
def DI{D:MD}{K L N:Value}{na nb:Nat}{x y:Nat->Int}{s:ByteArray}(w:World)(O:Ma none w K D)(G:MSz D)(C:Si none w L na x)(E:Si none w N nb y)(c:VOk8 D na x nb y s):
  Calls prog 45 #[K,.int .i64 0,L,N] w (λr w'=>r=.returned (.string s)/\Below w.heap.size w w'):=by
 obtain⟨sv,rfl,u⟩:=O;obtain⟨a,k,_,_,_,_,_,_,B,_⟩:=u.open;obtain⟨Q,S,rfl⟩:=C.shape;obtain⟨R,T,rfl⟩:=E.shape;subst B;obtain⟨j,g⟩:=exq<|w.alloc (.cells #[.int .i64 D.kind,.int .i64 D.start,.string D.lead,.slice a D.n k] 25);have m:Fr (λ_=>False) w j:=by rw[g];exact Fr.alloc _ _
 have d:Below w.heap.size w j:=m.below nlr (λ_ e=>e.elim);have F:=qh<|Qm j (u.kept (Ag d none)) G (C.kept (Ag d none)) (E.kept (Ag d none));have o:j.heap[w.heap.size]?=some (.cells #[.int .i64 D.kind,.int .i64 D.start,.string D.lead,.slice a D.n k] 25 (0,0)):=by rw[g];exact han w _
 obtain⟨⟨m0,m1,I,J⟩,_⟩:=cells4 o;have i:=qh d;clear d m C E u G o;replace c:=qh c;rw[g]at m0 m1 I J
 go_enter func45,ntmps45
 go_wp2_with fail
 rw[<-g];clear g m0 m1 I J;refine F.o.mono ?_;rintro r U⟨l,P⟩;have p:=qh<|i.o.trans (l.mono i.o.size);clear l i F
 rcases P with⟨_,_,_,st,e,z,h,H,rfl⟩|⟨A,_⟩
 rotate_left
 ·exact absurd ⟨c.o.1,c.o.2.1,c.o.2.2.1⟩ A
 rw[c.o.2.2.2 st e h]at H;subst H;clear h;go_wp2;go_ret;exact⟨rfl,p.o⟩
def Wj(e:Int)(lv c:Value)(w:World):Calls prog 16 #[.int .i64 e,.int .i64 e,lv,c] w (TrueB w):=by
 have d:(e==e)=true:=by simp
 go_enter func16,ntmps16
 go_wp2;go_ret;exact⟨rfl,blr⟩
def Wi{n m:Nat}{c:Nat->MD}{na:Nat->Nat}{lv s:Value}(w:World)(k:MsS w lv n c)(p:WsS w s m na)(o:∀i,i<n->MSz (c i))(hn:n<=3)(l:m<=3)(d:∀i,i<n->(c i).n<=12/\Ah (c i) (c i).n<=60)(g:∀i,i<m->na i<=140737488355328)(j:¬LitL n c):
  Calls prog 16 #[.int .i64 2,.int .i64 0,lv,s] w (TrueB w):=by
 have u:=qh<|Uf w k p o hn l d g;have z:=qh j;clear k p o hn l d g j
 go_enter func16,ntmps16
 go_wp2_with fail
 refine u.o.mono ?_;rintro r A⟨hb,b,rfl,h⟩;replace hb:=qh hb;cases b
 ·go_wp2;go_ret;exact⟨rfl,hb.o⟩
 exact absurd (h rfl) z.o
end
section
open CSR
section
variable{D:MD}(hV:VM D){k:KK}(hk:k.1=D.kind)
include hV hk
end
end
section
open Go.RowKit Go.Deep
theorem Ui(φ:Int->Int)(x:Nat->Int):∀m i,lsN (λi=>φ (x i)) m i=(lsN x m i).map φ
 |0,_=>rfl
 |m+1,i=>by show φ (x i)::lsN _ m (i+1)=φ (x i)::(lsN x m (i+1)).map φ;rw[Ui φ x m (i+1)]
theorem Nl{x:Nat->Int}{a:Int}:∀m i,a ∈ lsN x m i->∃j,i<=j/\j<i+m/\a=x j
 |0,_,h=>by cases h
 |m+1,i,h=>by
  rcases List.mem_cons.1 h with h|h
  ·exact⟨i,nlr,by omega,h⟩
  obtain⟨j,h1,h2,h3⟩:=Nl m (i+1) h;exact⟨j,by omega,by omega,h3⟩
def Uk{x:Nat->Int}{a:Int}{n:Nat}(h:a ∈ ls x n 0):∃j,j<n/\a=x j:=by
 obtain⟨j,_,d,c⟩:=Nl _ _ h;exact⟨j,by omega,c⟩
theorem FT(x:Nat->Int):∀m i j,j<m->(lsN x m i)[j]?=some (x (i+j))
 |m+1,i,0,_=>rfl
 |m+1,i,j+1,h=>by
  show (lsN x m (i+1))[j]?=_;rw[FT x m (i+1) j (by omega),show i+1+j=i+(j+1) by omega]
theorem JQ(x:Nat->Int):∀m i,(lsN x m i).length=m
 |0,_=>rfl
 |m+1,i=>by show (lsN x m (i+1)).length+1=_;rw[JQ]
end
section
open CSR
section
variable{D:MD}(hV:VM D){k:KK}(hk:k.1=D.kind)
include hV hk
end
end
section
open Go.RowKit Go.Deep

end
end Go.Proofs.YtpldocnhbdlgfaaGreatDoor
