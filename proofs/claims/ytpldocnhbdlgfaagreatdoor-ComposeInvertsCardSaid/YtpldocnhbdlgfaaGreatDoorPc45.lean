/- Parts. -/
import Derived.Test.YtpldocnhbdlgfaaGreatDoorPc39
import Derived.Test.YtpldocnhbdlgfaaGreatDoorPc44
import Derived.Lib.SmallJoins
import Derived.Deep.SlicePairs
namespace Go.Proofs.YtpldocnhbdlgfaaGreatDoor
set_option maxRecDepth 100000
set_option linter.all false
set_option maxHeartbeats 16000000
open Go Tryz
section
open Go.RowKit Go.Deep
def frkA:MD:=⟨1,0,⟨#[]⟩,1,λ_=>⟨#[]⟩,λ_=>1,λ_ _=>2,λ_ _=>3,λ_ _=>⟨#[50]⟩,λ_ _=>0⟩
def frkD:MD:=(Ab frkA).arc 0 2 4 ⟨#[48]⟩ 1
def SZ(w:World):Calls prog 44 #[] w (LnE frkD w):=by
 obtain⟨U,S⟩:=exq<|w.alloc (.cells #[.int .i64 0,.int .i64 0,.string ⟨#[]⟩,.slice none 0 0] 25);obtain⟨w2,a6⟩:=exq<|U.alloc (.cells #[.int .i64 2,.int .i64 3,.string ⟨#[50]⟩,.int .i64 0] 59);have T:U.heap.size=w.heap.size+1:=by rw[S];simp
 obtain⟨I,d8⟩:=exq<|w.heap.size;obtain⟨xb,e3⟩:=exq<|w.heap.size+1;have e8:Below w.heap.size w U:=by rw[S];exact(Below.refl _ w).alloc nlr _
 have J:Below U.heap.size U w2:=by rw[a6];exact(Below.refl _ U).alloc nlr _
 have d3:U.heap[I]?=some (.cells #[.int .i64 0,.int .i64 0,.string ⟨#[]⟩,.slice none 0 0] 25 (0,0)):=by rw[S,d8];exact han w _
 have f9:=(J.block _ (lbk d3)).trans d3;have g7:w2.heap[xb]?=some (.cells #[.int .i64 2,.int .i64 3,.string ⟨#[50]⟩,.int .i64 0] 59 (0,0)):=by rw[e3,<-T,a6];exact han U _
 have a8:ArS none w2 (.slice (some (Ad xb 0)) 1 1) frkA 0:=Dg (D:=frkA) (i:=0) g7 Bd (lt1 ⟨rfl,rfl,rfl,rfl⟩);have e4:=qh<|DX w2 a8 (by decide);have e9:=e8.trans (J.mono (show w.heap.size<=U.heap.size by omega));have h8:w.heap.size<=I:=by omega
 have b3:=qh f9;have W:=qh e9;clear f9 e9 d3 g7 a8 e8 J
 go_enter func44,ntmps44
 go_wp2_with fail
 rw[<-S,<-a6,<-e3,<-d8];clear S a6 d8 e3 T;refine e4.o.mono ?_;rintro r w3⟨b8,sv,R,rfl,P⟩;have P:=CJ P W.o.size;have a1:=(b8.block _ (lbk b3.o)).trans b3.o;have F:=W.o.trans<|b8.mono W.o.size;obtain⟨g,C,i2⟩:=NF P.top (by decide);subst i2;rw[show (Ab frkA).kind=1 from rfl,show (Ab frkA).start=0 from rfl,show (Ab frkA).lead=⟨#[48]⟩ from rfl,show (Ab frkA).n=2 from rfl];obtain⟨A,a5⟩:=exq<|w3.heap.size;obtain⟨w4,a7⟩:=exq<|w3.alloc (.cells #[.int .i64 1,.int .i64 0,.string ⟨#[48]⟩,.slice (some (Ad g 0)) 2 C] 25);have b9:Below w3.heap.size w3 w4:=by rw[a7];exact(Below.refl _ w3).alloc nlr _
 have d4:w4.heap[A]?=some (.cells #[.int .i64 1,.int .i64 0,.string ⟨#[48]⟩,.slice (some (Ad g 0)) 2 C] 25 (0,0)):=by rw[a7,a5];exact han w3 _
 obtain⟨m,e1⟩:=exq<|w4.drew;have L:Below w4.heap.size w4 m:=by rw[e1];exact(Below.refl _ w4).drew
 have G:Below w3.heap.size w3 m:=b9.trans<|L.mono b9.size;have a4:=(L.block _ (lbk d4)).trans d4;have g0:=(G.block _ (lbk a1)).trans a1;have O:OwM m w.heap.size (.slice (some (Ad g 0)) 2 C) (Ab frkA) R:=P.kept2 (Ae G none) (λ_ _=>by simp) (λ_ _ _ _=>by simp);have u:0<(Ab frkA).n:=by decide
 obtain⟨ra,rc,e0,_,_⟩:=Au<|O.row 0 u;have b7:=O.arcs_cell u;rw[e0]at b7;have h:m.cell? (Ad A 3)=some (.slice (some (Ad g 0)) 2 C)/\m.cell? (Ad g 1)=some (.slice ra 1 rc):=⟨(cells4 a4).1.2.2.2,b7⟩;obtain⟨i0,hi,g8,T,g9⟩:=Dk FH;have f5:g<m.heap.size:=(World.ownsRow.lt O.top g rfl).2;have d5:=lbk a4;have b0:=F.trans<|G.mono F.size;have l:=qh O;have b5:=qh e0;have b4:=qh a4;have X:=qh g0;have b2:=qh b0;have HI:=qh hi;have h4:=qh g8;have h5:=qh T;have h6:=qh g9;have i3:w.heap.size<=A:=by rw[a5];exact F.size
 have i4:I≠A:=by have:=lbk a1;omega
 clear hi g8 T g9 O e0 a4 g0 b0 b7 b9 d4 L G P a1 F b8 e4 b3 W
 go_wp2_with fail
 refine AD (λwk=>wk.cell? (Ad A 3)=some (.slice (some (Ad g 0)) 2 C)/\wk.cell? (Ad g 1)=some (.slice ra 1 rc)) 12 (by kernel_rfl) ?_;rw[<-a5,<-a7,<-e1];clear e1 a7 a5;refine Aa.tm 0 h ?_;refine Aa.tm 1 h ?_;refine Aa.tm 2 h ?_;refine Aa.tm 3 h ?_;refine Aa.tm 4 h ?_;refine Aa.tm 5 h ?_;refine Aa.tm 6 h ?_;refine Aa.tm 7 h ?_
 try simp only[Act.put,tryL]
 refine Aa.on 8 λK hK=>?_;go_simp;obtain⟨Hy,Z⟩:=exq<|m.heap.size;obtain⟨wy,z⟩:=exq<|m.alloc (.cells #[.int .i64 2,.int .i64 4,.string ⟨#[48]⟩,.int .i64 1] 59);have s:Below m.heap.size m wy:=by rw[z];exact(Below.refl _ m).alloc nlr _
 have d7:wy.heap[Hy]?=some (.cells #[.int .i64 2,.int .i64 4,.string ⟨#[48]⟩,.int .i64 1] 59 (0,0)):=by rw[z,Z];exact han m _
 have e6:wy.cell? (Ad A 3)=some (.slice (some (Ad g 0)) 2 C)/\wy.cell? (Ad g 1)=some (.slice ra 1 rc):=⟨(s.cell (p:=(Ad A 3)) d5).trans h.1,(s.cell (p:=(Ad g 1)) f5).trans h.2⟩;have b1:wy.ownsRow w.heap.size 59 4 (.slice ra 1 rc) 1 (cat (arc4 (Ab frkA) 0) 1):=by
  rw[show (.slice ra 1 rc:Value)=R 0 from b5.o.symm,z];exact World.ownsRow.alloc (l.o.row 0 u) _
 have b6:w.heap.size<=wy.heap.size:=Nat.le_trans b2.o.size s.size;rw[<-z,<-Z];replace z:=qh z;replace d7:=qh d7;replace Z:=qh Z;replace s:=qh s;refine hK.out _ _ (.inr e6) ?_;clear hK K
 try simp only[Act.put,tryL]
 refine Aa.on 9 λK hK=>?_;refine wp_append_lies _ (.tmp 11) (.tmp 13) 61 rfl w.heap.size 59 i0 (.agg #[.int .i64 0,.int .i64 0,.string ⟨#[]⟩,.int .i64 0]) 4 40 underlying61 HI.o h4.o h5.o h6.o rfl (by omega) (.slice ra 1 rc) 1 _ (by simp[Act.eval]) b1 (Ad Hy 0) 1 1 [.int .i64 2,.int .i64 4,.string ⟨#[48]⟩,.int .i64 1] (by simp[Act.eval]) rfl (Dl (cs:=#[.int .i64 2,.int .i64 4,.string ⟨#[48]⟩,.int .i64 1]) d7.o) Jh (by omega) (by unfold maxLen;omega) (by omega) b6 _ rfl ?_;intro go cq we Q N e7 h9;have d:wy.grownBy we (R 0).ownBlock:=by rw[b5.o];exact N
 have a9:∀c,(Value.slice (some (Ad go 0)) (1+1) cq).ownBlock=some c->(R 0).ownBlock=some c\/m.heap.size<=c:=λc hc=>by
  have e:go=c:=by simpa [Value.ownBlock] using hc
  subst e
  rcases e7 with Y|Y
  ·exact .inl (by rw[b5.o];exact Y)
  exact .inr (by have:=s.o.size;omega)
 have a2:∀B,B<m.heap.size->(R 0).ownBlock≠some B->we.heap[B]?=m.heap[B]?:=λB Y h2=>(d.block B (Nat.lt_of_lt_of_le Y s.o.size) (λe=>h2 e.symm)).trans (s.o.block B Y);have d2:(R 0).ownBlock≠some g:=λe=>l.o.tne u e rfl;have d1:∀B j,B<m.heap.size->(R 0).ownBlock≠some B->we.cell? (Ad B j)=m.cell? (Ad B j):=λB j Y h2=>by simp only[World.cell?,a2 B Y h2]
 have d6:(R 0).ownBlock≠some A:=Az (l.o.row 0 u) b4.o (by decide);have g6:(R 0).ownBlock≠some I:=Az (l.o.row 0 u) X.o (by decide);have E:we.cell? (Ad A 3)=some (.slice (some (Ad g 0)) 2 C)/\we.cell? (Ad g 1)=some (.slice ra 1 rc):=⟨(d1 A 3 d5 d6).trans h.1,(d1 g _ f5 d2).trans h.2⟩;have h7:we.frozen? (Ad g 1)=false:=by
  have Y:we.ownsRow w.heap.size 63 2 (.slice (some (Ad g 0)) 2 C) 2 (cat (st2 (Ab frkA) R) 2):=AG (by rw[z.o];exact World.ownsRow.alloc l.o.top _) d (λc hc e=>by
   have e2:g=c:=by simpa [Value.ownBlock] using hc
   subst e2;exact d2 e)
  exact DD Y _
 have g3:=OwM.arc (a:=2) (b:=4) (x:=⟨#[48]⟩) (t:=1) l.o u Q (o:=.cells #[.int .i64 2,.int .i64 4,.string ⟨#[48]⟩,.int .i64 1] 59) (by rw[<-z.o];exact d) a9;have f4:w.heap.size<=g:=(World.ownsRow.lt l.o.top g rfl).1;have d0:Below w.heap.size m (we.setCell (Ad g 1) (.slice (some (Ad go 0)) (1+1) cq)):=((s.o.mono b2.o.size).grown d b6 (λk hk=>(World.ownsRow.lt (l.o.row 0 u) k hk).1)).setCell (p:=(Ad g 1)) f4 _;have f7:(Value.slice (some (Ad g 0)) 2 C).ownBlock≠some A:=Az l.o.top b4.o (by decide);have f8:(Value.slice (some (Ad g 0)) 2 C).ownBlock≠some I:=Az l.o.top X.o (by decide);have g2:A≠g:=λe=>f7 (by rw[e];rfl);have g5:I≠g:=λe=>f8 (by rw[e];rfl);obtain⟨wf,H⟩:=exq<|we.setCell ⟨g,1,none⟩ (.slice (some ⟨go,0,none⟩) (1+1) cq);have g1:wf.heap[A]?=some (.cells #[.int .i64 1,.int .i64 0,.string ⟨#[48]⟩,.slice (some (Ad g 0)) 2 C] 25 (0,0)):=by rw[H];exact(Ay (p:=(Ad g 1)) g2 _).trans ((a2 A d5 d6).trans b4.o)
 have d9:wf.heap[I]?=some (.cells #[.int .i64 0,.int .i64 0,.string ⟨#[]⟩,.slice none 0 0] 25 (0,0)):=by rw[H];exact(Ay (p:=(Ad g 1)) g5 _).trans ((a2 I (lbk X.o) g6).trans X.o)
 rw[<-H]at d0;have g4:OwM wf w.heap.size (.slice (some (Ad g 0)) 2 C) frkD (λi=>if i=0 then .slice (some (Ad go 0)) (1+1) cq else R i):=by rw[H];exact g3
 have h3:=qh g4;have h0:=qh<|b2.o.trans d0;have e5:=qh d9;clear Q N d e7 a9 h9 a2 d1 d2 d6 g6 b1 h e6 b6 f4 g3 g4 d0 f7 f8 g2 g5;refine hK.out _ _ (.inr E) ?_;clear hK K
 try simp only[Act.put,tryL]
 refine Aa.tm 10 E ?_;refine Aa.tm 11 E ?_
 try simp only[Act.put,tryL]
 refine Aa.on 12 λK hK=>?_;go_simp;rw[<-H];clear H;refine hK.out _ _ (.inl rfl) (Aa.dn ?_);clear hK K E h7;obtain⟨⟨m0,m1,m2,m3⟩,_⟩:=cells4 g1;obtain⟨⟨r0,r1,r2,r3⟩,rz⟩:=cells4 d9;have f0:=rz 0;have f1:=rz 1;have f2:=rz 2;have f3:=rz 3;clear rz g1 d9
 go_wp2_with fail
 exact bodyPost_ret (Ht rfl _ (b:=I) rfl (AE wf I _ _ _ _ e5.o)) rfl ⟨Ax h0.o h8 _ _ _ _,.slice (some (Ad g 0)) 2 C,_,rfl,h3.o.box4 e5.o (.int .i64 1) (.int .i64 0) (.string ⟨#[48]⟩) (.slice (some (Ad g 0)) 2 C)⟩
def CmnE(A B:MD)(w:World)(r:Ending)(w':World):Prop :=
 Below w.heap.size w w'/\((VM A/\VM B/\AccD A/\AccD B/\A.kind=B.kind/\
  ((∃n M,CmpIs A B (alF A) n M/\∃sv R,r=.returned (.tuple #[.agg #[.int .i64 M.kind,.int .i64 M.start,.string M.lead,sv],.int .i64 0])/\OwM w' w.heap.size sv M R)\/(BadC A B/\r=.returned (.tuple #[AP,.int .i64 2]))))\/
  (VM A/\VM B/\¬(AccD A/\AccD B/\A.kind=B.kind)/\r=.returned (.tuple #[AP,.int .i64 6]))\/(¬(VM A/\VM B)/\r=.returned (.tuple #[AP,.int .i64 1])))
def FJ{D E:MD}{mv nv:Value}(w:World)(hM:Ma none w mv D)(hN:Ma none w nv E)(T:MSz D)(U:MSz E)(ht:Tab w):Calls prog 19 #[mv,nv] w (CmnE D E w):=by
 obtain⟨sv,rfl,hS⟩:=hM;obtain⟨sw,rfl,a5⟩:=hN;obtain⟨a,cp,_,_,_,_,_,_,b8,_⟩:=hS.open;obtain⟨a2,a4,_,_,_,_,_,_,d9,_⟩:=a5.open;subst b8;subst d9;have Q:∀W,Below w.heap.size w W->Ma none W (.agg #[.int .i64 D.kind,.int .i64 D.start,.string D.lead,.slice a D.n cp]) D:=λW h=>⟨_,rfl,hS.kept (Ae h none)⟩;have s:∀W,Below w.heap.size w W->Ma none W (.agg #[.int .i64 E.kind,.int .i64 E.start,.string E.lead,.slice a2 E.n a4]) E:=λW h=>⟨_,rfl,a5.kept (Ae h none)⟩;have B:∀W,Below w.heap.size w W->Tab W:=λW h=>ht.below h nlr;obtain⟨w1,H⟩:=exq<|w.alloc (.cells #[.int .i64 D.kind,.int .i64 D.start,.string D.lead,.slice a D.n cp] 25);obtain⟨w2,I⟩:=exq<|w1.alloc (.cells #[.int .i64 E.kind,.int .i64 E.start,.string E.lead,.slice a2 E.n a4] 25);obtain⟨Y,X⟩:=exq<|w2.alloc (.cells #[.int .i64 0,.int .i64 0,.string ⟨#[]⟩,.slice none 0 0] 25);have b9:w1.heap.size=w.heap.size+1:=by rw[H];simp
 have d6:w2.heap.size=w.heap.size+1+1:=by rw[I];simp[b9]
 have d5:Fr (λ_=>False) w w1:=by rw[H];exact Fr.alloc _ _
 have b4:Fr (λ_=>False) w1 w2:=by rw[I];exact Fr.alloc _ _
 have a7:Fr (λ_=>False) w2 Y:=by rw[X];exact Fr.alloc _ _
 have b5:w1.heap[w.heap.size]?=some (.cells #[.int .i64 D.kind,.int .i64 D.start,.string D.lead,.slice a D.n cp] 25 (0,0)):=by rw[H];exact han w _
 have j:Y.heap[w.heap.size]?=some (.cells #[.int .i64 D.kind,.int .i64 D.start,.string D.lead,.slice a D.n cp] 25 (0,0)):=(a7.block _ (by omega) (λe=>e)).trans ((b4.block _ (lbk b5) (λe=>e)).trans b5);have a9:w2.heap[w.heap.size+1]?=some (.cells #[.int .i64 E.kind,.int .i64 E.start,.string E.lead,.slice a2 E.n a4] 25 (0,0)):=by rw[<-b9,I];exact han w1 _
 have k:Y.heap[w.heap.size+1]?=some (.cells #[.int .i64 E.kind,.int .i64 E.start,.string E.lead,.slice a2 E.n a4] 25 (0,0)):=(a7.block _ (by omega) (λe=>e)).trans a9;have i:Y.heap[w.heap.size+1+1]?=some (.cells #[.int .i64 0,.int .i64 0,.string ⟨#[]⟩,.slice none 0 0] 25 (0,0)):=by rw[<-d6,X];exact han w2 _
 have a6:Below w.heap.size w Y:=((d5.trans b4).trans a7).below nlr (λ_ e=>e.elim);obtain⟨mb,a8⟩:=exq<|w.heap.size;obtain⟨nb,b6⟩:=exq<|w.heap.size+1;obtain⟨u,b7⟩:=exq<|w.heap.size+1+1;have A:w.heap.size<=u:=by omega
 rw[<-a8]at j;rw[<-b6]at k;rw[<-b7]at i;obtain⟨⟨m0,m1,m2,m3⟩,_⟩:=cells4 j;have d3:=qh<|Dz Y (Q Y a6) T (B Y a6);replace Q:=qh Q;replace s:=qh s;replace B:=qh B;replace ht:=qh ht;have b0:=qh a6;clear a6;have g:=qh j;clear j b5 d5 b4 a7 b9 d6 a9;have d:=qh k;clear k;have c:=qh i;clear i;replace T:=qh T;replace U:=qh U;have e1:=qh hS;have e2:=qh a5;clear hS a5;rw[a8,X,I,H]at m0 m1 m2 m3
 go_enter func19,ntmps19
 go_wp2_with fail
 rw[<-H,<-I,<-X,<-b7,<-b6,<-a8];clear m0 m1 m2 m3 H I X a8 b6 b7;refine d3.o.mono ?_;rintro r w4⟨K,hr⟩;have j:=(K.block _ (lbk g.o)).trans g.o;have k:=(K.block _ (lbk d.o)).trans d.o;have i:=(K.block _ (lbk c.o)).trans c.o;have C:=qh<|b0.o.trans (K.mono b0.o.size);clear K g d c d3 b0;have g:=qh j;clear j;have d:=qh k;clear k;have c:=qh i;clear i
 rcases hr with⟨m,rfl⟩|⟨m,rfl⟩
 rotate_left
 ·have Z:=qh m;clear m;obtain⟨⟨r0,r1,r2,r3⟩,l⟩:=cells4 c.o;have f0:=l 0;have f1:=l 1;have f2:=l 2;have f3:=l 3;clear l
  go_wp2_with fail
  exact bodyPost_ret (AJ rfl _ (b:=u) rfl rfl (AE w4 u _ _ _ _ c.o)) rfl ⟨Ax C.o A _ _ _ _,.inr (.inr ⟨λh=>Z.o h.1,rfl⟩)⟩
 have Z:=qh m;clear m;obtain⟨⟨n0,n1,n2,n3⟩,_⟩:=cells4 d.o;have d4:=qh<|Dz w4 (s.o w4 C.o) U.o (B.o w4 C.o)
 go_wp2_with fail
 clear n0 n1 n2 n3;refine d4.o.mono ?_;rintro r w5⟨L,hr⟩;have j:=(L.block _ (lbk g.o)).trans g.o;have k:=(L.block _ (lbk d.o)).trans d.o;have i:=(L.block _ (lbk c.o)).trans c.o;have F:=qh<|C.o.trans (L.mono C.o.size);clear L g d c d4 C;have g:=qh j;clear j;have d:=qh k;clear k;have c:=qh i;clear i
 rcases hr with⟨m,rfl⟩|⟨m,rfl⟩
 rotate_left
 ·have o:=qh m;clear m;obtain⟨⟨r0,r1,r2,r3⟩,l⟩:=cells4 c.o;have f0:=l 0;have f1:=l 1;have f2:=l 2;have f3:=l 3;clear l
  go_wp2_with fail
  exact bodyPost_ret (AJ rfl _ (b:=u) rfl rfl (AE w5 u _ _ _ _ c.o)) rfl ⟨Ax F.o A _ _ _ _,.inr (.inr ⟨λh=>o.o h.2,rfl⟩)⟩
 have o:=qh m;clear m;obtain⟨⟨m0,m1,m2,m3⟩,_⟩:=cells4 g.o;have d0:=qh<|MW w5 (Q.o w5 F.o) T.o (B.o w5 F.o)
 go_wp2_with fail
 clear m0 m1 m2 m3;refine d0.o.mono ?_;rintro r w6⟨N,hr⟩;have j:=(N.block _ (lbk g.o)).trans g.o;have k:=(N.block _ (lbk d.o)).trans d.o;have i:=(N.block _ (lbk c.o)).trans c.o;have G:=qh<|F.o.trans (N.mono F.o.size);clear N g d c d0 F;have g:=qh j;clear j;have d:=qh k;clear k;have c:=qh i;clear i
 rcases hr with⟨m,rfl⟩|⟨m,rfl⟩
 rotate_left
 ·have HX:=qh m;clear m;obtain⟨⟨r0,r1,r2,r3⟩,l⟩:=cells4 c.o;have f0:=l 0;have f1:=l 1;have f2:=l 2;have f3:=l 3;clear l
  go_wp2_with fail
  exact bodyPost_ret (AJ rfl _ (b:=u) rfl rfl (AE w6 u _ _ _ _ c.o)) rfl ⟨Ax G.o A _ _ _ _,.inr (.inl ⟨Z.o,o.o,λh=>HX.o ⟨Z.o,h.1⟩,rfl⟩)⟩
 have HX:=qh m.2;clear m;obtain⟨⟨n0,n1,n2,n3⟩,_⟩:=cells4 d.o;have d1:=qh<|MW w6 (s.o w6 G.o) U.o (B.o w6 G.o)
 go_wp2_with fail
 clear n0 n1 n2 n3;refine d1.o.mono ?_;rintro r w7⟨O,hr⟩;have j:=(O.block _ (lbk g.o)).trans g.o;have k:=(O.block _ (lbk d.o)).trans d.o;have i:=(O.block _ (lbk c.o)).trans c.o;have p:=qh<|G.o.trans (O.mono G.o.size);clear O g d c d1 G;have g:=qh j;clear j;have d:=qh k;clear k;have c:=qh i;clear i
 rcases hr with⟨m,rfl⟩|⟨m,rfl⟩
 rotate_left
 ·have a1:=qh m;clear m;obtain⟨⟨r0,r1,r2,r3⟩,l⟩:=cells4 c.o;have f0:=l 0;have f1:=l 1;have f2:=l 2;have f3:=l 3;clear l
  go_wp2_with fail
  exact bodyPost_ret (AJ rfl _ (b:=u) rfl rfl (AE w7 u _ _ _ _ c.o)) rfl ⟨Ax p.o A _ _ _ _,.inr (.inl ⟨Z.o,o.o,λh=>a1.o ⟨o.o,h.2.1⟩,rfl⟩)⟩
 have a1:=qh m.2;clear m;obtain⟨⟨m0,m1,m2,m3⟩,_⟩:=cells4 g.o;obtain⟨⟨n0,n1,n2,n3⟩,_⟩:=cells4 d.o;have d2:=qh<|Cp w7 (Q.o w7 p.o) (s.o w7 p.o) T.o U.o (B.o w7 p.o)
 go_wp2_with fail
 clear m0 m1 m2 m3 n0 n1 n2 n3;refine d2.o.mono ?_;rintro r w8⟨b3,hr⟩;have i:=(b3.block _ (lbk c.o)).trans c.o;have b1:=qh<|p.o.trans (b3.mono p.o.size);have e0:=p.o.size;clear b3 g d c d2 p;have c:=qh i;clear i;obtain⟨⟨r0,r1,r2,r3⟩,l⟩:=cells4 c.o;have f0:=l 0;have f1:=l 1;have f2:=l 2;have f3:=l 3;clear l
 rcases hr with⟨_,_,z,⟨n,M,b2,sv,R,rfl,S⟩|⟨P,rfl⟩⟩|⟨_,_,z,rfl⟩|⟨d8,rfl⟩
 ·obtain⟨ta,tc,b8,_,_⟩:=Au S.top;subst b8;have d7:=qh<|CJ (S.box4 c.o (.int .i64 M.kind) (.int .i64 M.start) (.string M.lead) (.slice ta M.n tc)) e0;clear S;replace b2:=qh b2;have J:=qh z;clear z
  go_wp2_with fail
  exact bodyPost_ret (AJ rfl _ (b:=u) rfl rfl (AE w8 u _ _ _ _ c.o)) rfl ⟨Ax b1.o A _ _ _ _,.inl ⟨Z.o,o.o,HX.o,a1.o,J.o,.inl ⟨n,M,b2.o,_,R,rfl,d7.o⟩⟩⟩
 ·replace P:=qh P;unfold AP;have J:=qh z;clear z
  go_wp2_with fail
  exact bodyPost_ret (AJ rfl _ (b:=u) rfl rfl (AE w8 u _ _ _ _ c.o)) rfl ⟨Ax b1.o A _ _ _ _,.inl ⟨Z.o,o.o,HX.o,a1.o,J.o,.inr ⟨P.o,rfl⟩⟩⟩
 ·have J:=qh z;clear z;unfold AP
  go_wp2_with fail
  exact bodyPost_ret (AJ rfl _ (b:=u) rfl rfl (AE w8 u _ _ _ _ c.o)) rfl ⟨Ax b1.o A _ _ _ _,.inr (.inl ⟨Z.o,o.o,λh=>J.o h.2.2,rfl⟩)⟩
 exact absurd ⟨Z.o,o.o⟩ d8
end
section
open Go.RowKit Go.Deep Go.ChangeShapes Go.WideShapes
end
section
open Go.RowKit Go.Deep Go.ChangeShapes Go.WideShapes Go.Joins
variable{e t:TypeId}{W:World}{v:Value}
theorem PU{H:Type}{P:Program}{e:TypeId}{d:DataW H}{n:Nat}:∀{ds:List (DataW H)},d ∈ ds->n ∈ d.weights P e->n ∈ DataW.weightsAll P e ds
 |d0::r,h,hn=>by
  simp only[DataW.weightsAll,List.mem_append]
  rcases List.mem_cons.1 h with rfl|h
  ·exact .inl hn
  exact .inr<|PU h hn
def Kq{H:Type}{c d:List (DataW H)}(i:prog.underlying t=some (.slice e))(g:1<=prog.bytesOf e){b:Nat}(hb:∀m ∈ (DataW.slice c d).weights prog t,m<=b):c.length<=b:=by
 have h:=hb ((c.length+d.length)*prog.bytesOf e) (by simp[DataW.weights,i]);have:=Nat.le_mul_of_pos_right (c.length+d.length) g;omega
def Yq{H:Type}{c i:List (DataW H)}{d:DataW H}{m:Nat}(h:prog.underlying t=some (.slice e))(hd:d ∈ c)(g:m ∈ d.weights prog e):m ∈ (DataW.slice c i).weights prog t:=by
 simp only[DataW.weights,h,List.mem_cons,List.mem_append];exact .inr<|.inl (PU hd g)
def QB{H:Type}{enc:TypeId × Value->H}{o:Bool}{l:Nat}{x:DataW H × List MemPlace}(h:DataW.trod enc prog W 0 (λ_=>true) o l 61 [v]=some x):
  ∃(n:Nat) (fi fo ft:Nat->Int) (fw:Nat->ByteArray),(∀(D:MD) (i:Nat),D.na i=n->D.ain i=fi->D.aout i=fo->D.aw i=fw->D.ato i=ft->ArS none W v D i)/\(∀j,(fw j).size<=maxLen)/\
   ∀b,(∀m ∈ x.1.weights prog 61,m<=b)->n<=b:=by
 rcases open_slice underlying61 h with⟨g,_⟩|⟨a,len,X,m,n',D,Pl,g,_,hl,P,s,I,hx⟩
 ·simp only[List.cons.injEq,and_true]at g;exact⟨0,λ_=>0,λ_=>0,λ_=>0,λ_=>⟨#[]⟩,λD i C _ _ _ _=>.inl ⟨C,none,0,g,Nat.zero_le _⟩,λ_=>Nat.zero_le _,λ_ _=>Nat.zero_le _⟩
 simp only[List.cons.injEq,and_true]at g;simp only[if_true]at s;subst s;have c4:prog.cellsOf 59=4:=by kernel_rfl
 have Y:prog.cellsOf 3=1:=by kernel_rfl
 have Z:prog.cellsOf 9=1:=by kernel_rfl
 classical
 have d:∀i,∃t:Int × Int × ByteArray × Int,t.2.2.1.size<=maxLen/\(i<m->W.cell? (a.add (i*4))=some (.int .i64 t.1)/\W.cell? (a.add (i*4+1))=some (.int .i64 t.2.1)/\W.cell? (a.add (i*4+2))=some (.string t.2.2.1)/\W.cell? (a.add (i*4+3))=some (.int .i64 t.2.2.2)):=λi=>by
  by_cases hi:i<m
  ·obtain⟨B,A,E⟩:=hx i hi;rw[c4]at A;obtain⟨_,p,c⟩:=World.cells?_some A;obtain⟨y0,y1,y2,y3,k,_,_,K,L,N,O⟩:=trod_struct4 underlying59 E
   match B,p with
   | [v0,v1,v2,v3],_ =>
    simp only[Y,Z,List.drop_zero,List.drop_succ_cons,List.take_succ_cons,List.take_zero]at K L N O;obtain⟨z0,e0,_⟩:=DataW.trod_int underlying3 K;obtain⟨R,e1,_⟩:=DataW.trod_int underlying3 L;obtain⟨S,e2,_,G⟩:=DataW.trod_string underlying9 N;obtain⟨U,e3,_⟩:=DataW.trod_int underlying3 O;obtain rfl:v0=.int .i64 z0:=by simpa using e0
    obtain rfl:v1=.int .i64 R:=by simpa using e1
    obtain rfl:v2=.string S:=by simpa using e2
    obtain rfl:v3=.int .i64 U:=by simpa using e3
    have z:=c 0 (by omega);have k1:=c 1 (by omega);have k2:=c 2 (by omega);have k3:=c 3 (by omega);rw[add_add]at z k1 k2 k3;exact⟨(z0,R,S,U),G,λ_=>⟨by simpa using z,by simpa using k1,by simpa using k2,by simpa using k3⟩⟩
  exact⟨(0,0,⟨#[]⟩,0),Nat.zero_le _,λh=>absurd h hi⟩
 obtain⟨T,F⟩:∃T:Nat->Int × Int × ByteArray × Int,∀i,(T i).2.2.1.size<=maxLen/\(i<m->W.cell? (a.add (i*4))=some (.int .i64 (T i).1)/\W.cell? (a.add (i*4+1))=some (.int .i64 (T i).2.1)/\W.cell? (a.add (i*4+2))=some (.string (T i).2.2.1)/\W.cell? (a.add (i*4+3))=some (.int .i64 (T i).2.2.2)) :=
  ⟨λi=>Classical.choose (d i),λi=>Classical.choose_spec (d i)⟩
 refine⟨len,λi=>(T i).1,λi=>(T i).2.1,λi=>(T i).2.2.2,λi=>(T i).2.2.1,λD i u A E h3 h4=>?_,λj=>(F j).1,λb hb=>?_⟩
 ·by_cases C:len=0
  ·rw[C]at u g;exact .inl ⟨u,some a,m,g,P⟩
  have c0:=((F 0).2 (by omega)).1;have Q:a.spot=none:=by simpa [Addr.add] using World.cell?_spot c0
  obtain⟨b,J,sp⟩:=a;simp only at Q;subst Q;refine .inr ⟨b,J,m,by rw[u];exact g,⟨?_,by simp⟩,by rw[u];exact hl,P,λj hj=>?_⟩
  ·have:=World.block_lt_of_cell? _ _ c0;rw[Addr.add_lit]at this;exact this
  rw[u]at hj;obtain⟨z,k1,k2,k3⟩:=(F j).2 (by omega);rw[Addr.add_lit]at z k1 k2 k3;rw[A,E,h3,h4];exact⟨z,by rw[Nat.add_assoc];exact k1,by rw[Nat.add_assoc];exact k2,by rw[Nat.add_assoc];exact k3⟩
 rw[I]at hb;have:=Kq underlying61 (by decide +kernel) hb
 simpa using this
def Lu{H:Type}{enc:TypeId × Value->H}{r:Reach}{Q:Nat}{l:Bool}{d:DataW H}{p:List MemPlace}(hv:Value.okWide prog W r Q 25 v)(h:DataW.Trod enc prog W 0 (λ_=>true) l 25 v d p)
  (hw:∀m ∈ d.weights prog 25,m<=reachBytes):∃D,Ma none W v D/\MSz D:=by
 obtain⟨v0,v1,v2,v3,y0,y1,y2,y3,n,rfl,rfl,rfl,t0,t1,t2,t3⟩:=open_agg4 underlying25 (by kernel_rfl) (by kernel_rfl) hv h;obtain⟨z0,S,_,w0⟩:=DataW.trod_int underlying3 t0;obtain⟨I,T,_,w1⟩:=DataW.trod_int underlying3 t1;obtain⟨J,U,_,O⟩:=DataW.trod_string underlying9 t2;obtain rfl:v0=.int .i64 z0:=by simpa using S
 obtain rfl:v1=.int .i64 I:=by simpa using T
 obtain rfl:v2=.string J:=by simpa using U
 have g:∀m ∈ y3.1.weights prog 23,m<=reachBytes:=λm B=>hw m (by
  simp only[DataW.weights,underlying25,DataW.weightsEach,List.map_cons,List.mem_append,List.map_nil];exact .inr (.inr (.inr (.inl B))))
 have z:-9223372036854775808<=z0/\z0<=9223372036854775807:=by
  simp[Lit.wf,IntKind.min,IntKind.max,IntKind.signed,IntKind.bits]at w0;omega
 have L:reachBytes<=140737488355328:=by decide
 rcases open_slice_pairs underlying23 underlying63 (by kernel_rfl) rfl rfl (by kernel_rfl) (by kernel_rfl) t3 with⟨k,_⟩|⟨a,len,R,m,n',P,K,D0,D1,P0,P1,k,_,hl,B,u,A,E⟩
 ·simp only[List.cons.injEq,and_true]at k;exact⟨{ kind:=z0,start:=I,lead:=J,n:=0,fin:=λ_=>⟨#[]⟩,na:=λ_=>0,ain:=λ_ _=>0,aout:=λ_ _=>0,aw:=λ_ _=>⟨#[]⟩,ato:=λ_ _=>0 },⟨_,rfl,.inl ⟨rfl,none,0,k,Nat.zero_le _⟩⟩,
   ⟨O,λ_=>Nat.zero_le _,λ_ _=>Nat.zero_le _,λ_=>Nat.zero_le _,Nat.zero_le _,z⟩⟩
 simp only[List.cons.injEq,and_true]at k;simp only[if_true]at u;subst u
 classical
 have c:∀i,∃t:ByteArray × Nat × (Nat->Int) × (Nat->Int) × (Nat->Int) × (Nat->ByteArray),t.1.size<=maxLen/\(∀j,(t.2.2.2.2.2 j).size<=maxLen)/\t.2.1<=reachBytes/\
   (i<len->P i=.string t.1/\∀(D:MD) (j:Nat),D.na j=t.2.1->D.ain j=t.2.2.1->D.aout j=t.2.2.2.1->D.aw j=t.2.2.2.2.2->D.ato j=t.2.2.2.2.1->ArS none W (K i) D j):=λi=>by
  by_cases hi:i<len
  ·obtain⟨_,_,g0,g1⟩:=E i (by omega);obtain⟨s,e,_,C⟩:=DataW.trod_string underlying9 g0;obtain⟨na,X,Y,Z,fw,h1,h2,h3⟩:=QB g1;refine⟨(s,na,X,Y,Z,fw),C,h2,h3 _ λq hq=>g q ?_,λ_=>⟨by simpa using e,h1⟩⟩;rw[A];refine Yq underlying23 (List.mem_map.2 ⟨i,List.mem_range.2 hi,rfl⟩) ?_;simp only[DataW.weights,underlying63,DataW.weightsEach,List.map_cons,List.mem_append,List.map_nil];exact .inr<|.inl hq
  exact⟨(⟨#[]⟩,0,λ_=>0,λ_=>0,λ_=>0,λ_=>⟨#[]⟩),Nat.zero_le _,λ_=>Nat.zero_le _,Nat.zero_le _,λh=>absurd h hi⟩
 have o:len<=reachBytes:=by
  rw[A]at g;have:=Kq underlying23 (by decide +kernel) g
  simpa using this
 refine⟨{ kind:=z0,start:=I,lead:=J,n:=len,fin:=λi=>(Classical.choose (c i)).1,na:=λi=>(Classical.choose (c i)).2.1,ain:=λi=>(Classical.choose (c i)).2.2.1,aout:=λi=>(Classical.choose (c i)).2.2.2.1,aw:=λi=>(Classical.choose (c i)).2.2.2.2.2,ato:=λi=>(Classical.choose (c i)).2.2.2.2.1 },⟨_,rfl,?_⟩,
  ⟨O,λi=>(Classical.choose_spec (c i)).1,λi=>(Classical.choose_spec (c i)).2.1,λi=>Nat.le_trans (Classical.choose_spec (c i)).2.2.1 L,Nat.le_trans o L,z⟩⟩
 by_cases h0:len=0
 ·subst h0;exact .inl ⟨rfl,some a,m,k,B⟩
 have c0:=(E 0 (by omega)).1;have C:a.spot=none:=by simpa [Addr.add] using World.cell?_spot c0
 obtain⟨b,G,sp⟩:=a;simp only at C;subst C;refine .inr ⟨b,G,m,K,k,⟨?_,by simp⟩,hl,B,λj N=>?_⟩
 ·have:=World.block_lt_of_cell? _ _ c0;rw[Addr.add_lit]at this;exact this
 obtain⟨F,k1,_,_⟩:=E j (by have:j<len:=N;omega);obtain⟨u1,u2⟩:=(Classical.choose_spec (c j)).2.2.2 N;rw[Addr.add_lit]at F k1;rw[u1]at F;exact⟨F,by rw[Nat.add_assoc];exact k1,u2 _ j rfl rfl rfl rfl rfl⟩
end
end Go.Proofs.YtpldocnhbdlgfaaGreatDoor
