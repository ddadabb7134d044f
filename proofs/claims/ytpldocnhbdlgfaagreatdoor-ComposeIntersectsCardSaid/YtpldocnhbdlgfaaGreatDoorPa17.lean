/- Parts. -/
import Derived.Test.YtpldocnhbdlgfaaGreatDoorPa16
import Derived.Test.YtpldocnhbdlgfaaGreatDoorPa15
namespace Go.Proofs.YtpldocnhbdlgfaaGreatDoor
set_option maxRecDepth 100000
set_option linter.all false
set_option maxHeartbeats 16000000
open Go Tryz
section
open Go.RowKit Go.Deep
def frkA:MD:=⟨1,0,⟨#[]⟩,1,λ_=>⟨#[]⟩,λ_=>1,λ_ _=>2,λ_ _=>3,λ_ _=>⟨#[50]⟩,λ_ _=>0⟩
def frkD:MD:=(Ac frkA).arc 0 2 4 ⟨#[48]⟩ 1
def TX(w:World):Calls prog 44 #[] w (LnE frkD w):=by
 obtain⟨U,S⟩:=exq<|w.alloc (.cells #[.int .i64 0,.int .i64 0,.string ⟨#[]⟩,.slice none 0 0] 25);obtain⟨w2,a6⟩:=exq<|U.alloc (.cells #[.int .i64 2,.int .i64 3,.string ⟨#[50]⟩,.int .i64 0] 59);have T:U.heap.size=w.heap.size+1:=by rw[S];simp
 obtain⟨I,d8⟩:=exq<|w.heap.size;obtain⟨xb,e3⟩:=exq<|w.heap.size+1;have e8:Below w.heap.size w U:=by rw[S];exact(Below.refl _ w).alloc nlr _
 have J:Below U.heap.size U w2:=by rw[a6];exact(Below.refl _ U).alloc nlr _
 have d3:U.heap[I]?=some (.cells #[.int .i64 0,.int .i64 0,.string ⟨#[]⟩,.slice none 0 0] 25 (0,0)):=by rw[S,d8];exact han w _
 have f9:=(J.block _ (lbk d3)).trans d3;have g7:w2.heap[xb]?=some (.cells #[.int .i64 2,.int .i64 3,.string ⟨#[50]⟩,.int .i64 0] 59 (0,0)):=by rw[e3,<-T,a6];exact han U _
 have a8:ArS none w2 (.slice (some (Ad xb 0)) 1 1) frkA 0:=Dn (D:=frkA) (i:=0) g7 Bf (lt1 ⟨rfl,rfl,rfl,rfl⟩);have e4:=qh<|DZ w2 a8 (by decide);have e9:=e8.trans (J.mono (show w.heap.size<=U.heap.size by omega));have h8:w.heap.size<=I:=by omega
 have b3:=qh f9;have W:=qh e9;clear f9 e9 d3 g7 a8 e8 J
 go_enter func44,ntmps44
 go_wp2_with fail
 rw[<-S,<-a6,<-e3,<-d8];clear S a6 d8 e3 T;refine e4.o.mono ?_;rintro r w3⟨b8,sv,R,rfl,P⟩;have P:=CJ P W.o.size;have a1:=(b8.block _ (lbk b3.o)).trans b3.o;have F:=W.o.trans<|b8.mono W.o.size;obtain⟨g,C,i2⟩:=Ih P.top (by decide);subst i2;rw[show (Ac frkA).kind=1 from rfl,show (Ac frkA).start=0 from rfl,show (Ac frkA).lead=⟨#[48]⟩ from rfl,show (Ac frkA).n=2 from rfl];obtain⟨A,a5⟩:=exq<|w3.heap.size;obtain⟨w4,a7⟩:=exq<|w3.alloc (.cells #[.int .i64 1,.int .i64 0,.string ⟨#[48]⟩,.slice (some (Ad g 0)) 2 C] 25);have b9:Below w3.heap.size w3 w4:=by rw[a7];exact(Below.refl _ w3).alloc nlr _
 have d4:w4.heap[A]?=some (.cells #[.int .i64 1,.int .i64 0,.string ⟨#[48]⟩,.slice (some (Ad g 0)) 2 C] 25 (0,0)):=by rw[a7,a5];exact han w3 _
 obtain⟨m,e1⟩:=exq<|w4.drew;have L:Below w4.heap.size w4 m:=by rw[e1];exact(Below.refl _ w4).drew
 have G:Below w3.heap.size w3 m:=b9.trans<|L.mono b9.size;have a4:=(L.block _ (lbk d4)).trans d4;have g0:=(G.block _ (lbk a1)).trans a1;have O:OwM m w.heap.size (.slice (some (Ad g 0)) 2 C) (Ac frkA) R:=P.kept2 (Ab G none) (λ_ _=>by simp) (λ_ _ _ _=>by simp);have u:0<(Ac frkA).n:=by decide
 obtain⟨ra,rc,e0,_,_⟩:=Ax<|O.row 0 u;have b7:=O.arcs_cell u;rw[e0]at b7;have h:m.cell? (Ad A 3)=some (.slice (some (Ad g 0)) 2 C)/\m.cell? (Ad g 1)=some (.slice ra 1 rc):=⟨(cells4 a4).1.2.2.2,b7⟩;obtain⟨i0,hi,g8,T,g9⟩:=CY Hq;have f5:g<m.heap.size:=(World.ownsRow.lt O.top g rfl).2;have d5:=lbk a4;have b0:=F.trans<|G.mono F.size;have l:=qh O;have b5:=qh e0;have b4:=qh a4;have X:=qh g0;have b2:=qh b0;have HI:=qh hi;have h4:=qh g8;have h5:=qh T;have h6:=qh g9;have i3:w.heap.size<=A:=by rw[a5];exact F.size
 have i4:I≠A:=by have:=lbk a1;omega
 clear hi g8 T g9 O e0 a4 g0 b0 b7 b9 d4 L G P a1 F b8 e4 b3 W
 go_wp2_with fail
 refine AB (λwk=>wk.cell? (Ad A 3)=some (.slice (some (Ad g 0)) 2 C)/\wk.cell? (Ad g 1)=some (.slice ra 1 rc)) 12 (by kernel_rfl) ?_;rw[<-a5,<-a7,<-e1];clear e1 a7 a5;refine Aa.tm 0 h ?_;refine Aa.tm 1 h ?_;refine Aa.tm 2 h ?_;refine Aa.tm 3 h ?_;refine Aa.tm 4 h ?_;refine Aa.tm 5 h ?_;refine Aa.tm 6 h ?_;refine Aa.tm 7 h ?_
 try simp only[Act.put,tryL]
 refine Aa.on 8 λK hK=>?_;go_simp;obtain⟨Hy,Z⟩:=exq<|m.heap.size;obtain⟨wy,z⟩:=exq<|m.alloc (.cells #[.int .i64 2,.int .i64 4,.string ⟨#[48]⟩,.int .i64 1] 59);have s:Below m.heap.size m wy:=by rw[z];exact(Below.refl _ m).alloc nlr _
 have d7:wy.heap[Hy]?=some (.cells #[.int .i64 2,.int .i64 4,.string ⟨#[48]⟩,.int .i64 1] 59 (0,0)):=by rw[z,Z];exact han m _
 have e6:wy.cell? (Ad A 3)=some (.slice (some (Ad g 0)) 2 C)/\wy.cell? (Ad g 1)=some (.slice ra 1 rc):=⟨(s.cell (p:=(Ad A 3)) d5).trans h.1,(s.cell (p:=(Ad g 1)) f5).trans h.2⟩;have b1:wy.ownsRow w.heap.size 59 4 (.slice ra 1 rc) 1 (cat (arc4 (Ac frkA) 0) 1):=by
  rw[show (.slice ra 1 rc:Value)=R 0 from b5.o.symm,z];exact World.ownsRow.alloc (l.o.row 0 u) _
 have b6:w.heap.size<=wy.heap.size:=Nat.le_trans b2.o.size s.size;rw[<-z,<-Z];replace z:=qh z;replace d7:=qh d7;replace Z:=qh Z;replace s:=qh s;refine hK.out _ _ (.inr e6) ?_;clear hK K
 try simp only[Act.put,tryL]
 refine Aa.on 9 λK hK=>?_;refine wp_append_lies _ (.tmp 11) (.tmp 13) 61 rfl w.heap.size 59 i0 (.agg #[.int .i64 0,.int .i64 0,.string ⟨#[]⟩,.int .i64 0]) 4 40 underlying61 HI.o h4.o h5.o h6.o rfl (by omega) (.slice ra 1 rc) 1 _ (by simp[Act.eval]) b1 (Ad Hy 0) 1 1 [.int .i64 2,.int .i64 4,.string ⟨#[48]⟩,.int .i64 1] (by simp[Act.eval]) rfl (CF (cs:=#[.int .i64 2,.int .i64 4,.string ⟨#[48]⟩,.int .i64 1]) d7.o) Ho (by omega) (by unfold maxLen;omega) (by omega) b6 _ rfl ?_;intro go cq we Q N e7 h9;have d:wy.grownBy we (R 0).ownBlock:=by rw[b5.o];exact N
 have a9:∀c,(Value.slice (some (Ad go 0)) (1+1) cq).ownBlock=some c->(R 0).ownBlock=some c\/m.heap.size<=c:=λc hc=>by
  have e:go=c:=by simpa [Value.ownBlock] using hc
  subst e
  rcases e7 with Y|Y
  ·exact .inl (by rw[b5.o];exact Y)
  exact .inr (by have:=s.o.size;omega)
 have a2:∀B,B<m.heap.size->(R 0).ownBlock≠some B->we.heap[B]?=m.heap[B]?:=λB Y h2=>(d.block B (Nat.lt_of_lt_of_le Y s.o.size) (λe=>h2 e.symm)).trans (s.o.block B Y);have d2:(R 0).ownBlock≠some g:=λe=>l.o.tne u e rfl;have d1:∀B j,B<m.heap.size->(R 0).ownBlock≠some B->we.cell? (Ad B j)=m.cell? (Ad B j):=λB j Y h2=>by simp only[World.cell?,a2 B Y h2]
 have d6:(R 0).ownBlock≠some A:=Ap (l.o.row 0 u) b4.o (by decide);have g6:(R 0).ownBlock≠some I:=Ap (l.o.row 0 u) X.o (by decide);have E:we.cell? (Ad A 3)=some (.slice (some (Ad g 0)) 2 C)/\we.cell? (Ad g 1)=some (.slice ra 1 rc):=⟨(d1 A 3 d5 d6).trans h.1,(d1 g _ f5 d2).trans h.2⟩;have h7:we.frozen? (Ad g 1)=false:=by
  have Y:we.ownsRow w.heap.size 63 2 (.slice (some (Ad g 0)) 2 C) 2 (cat (st2 (Ac frkA) R) 2):=AK (by rw[z.o];exact World.ownsRow.alloc l.o.top _) d (λc hc e=>by
   have e2:g=c:=by simpa [Value.ownBlock] using hc
   subst e2;exact d2 e)
  exact EA Y _
 have g3:=OwM.arc (a:=2) (b:=4) (x:=⟨#[48]⟩) (t:=1) l.o u Q (o:=.cells #[.int .i64 2,.int .i64 4,.string ⟨#[48]⟩,.int .i64 1] 59) (by rw[<-z.o];exact d) a9;have f4:w.heap.size<=g:=(World.ownsRow.lt l.o.top g rfl).1;have d0:Below w.heap.size m (we.setCell (Ad g 1) (.slice (some (Ad go 0)) (1+1) cq)):=((s.o.mono b2.o.size).grown d b6 (λk hk=>(World.ownsRow.lt (l.o.row 0 u) k hk).1)).setCell (p:=(Ad g 1)) f4 _;have f7:(Value.slice (some (Ad g 0)) 2 C).ownBlock≠some A:=Ap l.o.top b4.o (by decide);have f8:(Value.slice (some (Ad g 0)) 2 C).ownBlock≠some I:=Ap l.o.top X.o (by decide);have g2:A≠g:=λe=>f7 (by rw[e];rfl);have g5:I≠g:=λe=>f8 (by rw[e];rfl);obtain⟨wf,H⟩:=exq<|we.setCell ⟨g,1,none⟩ (.slice (some ⟨go,0,none⟩) (1+1) cq);have g1:wf.heap[A]?=some (.cells #[.int .i64 1,.int .i64 0,.string ⟨#[48]⟩,.slice (some (Ad g 0)) 2 C] 25 (0,0)):=by rw[H];exact(AN (p:=(Ad g 1)) g2 _).trans ((a2 A d5 d6).trans b4.o)
 have d9:wf.heap[I]?=some (.cells #[.int .i64 0,.int .i64 0,.string ⟨#[]⟩,.slice none 0 0] 25 (0,0)):=by rw[H];exact(AN (p:=(Ad g 1)) g5 _).trans ((a2 I (lbk X.o) g6).trans X.o)
 rw[<-H]at d0;have g4:OwM wf w.heap.size (.slice (some (Ad g 0)) 2 C) frkD (λi=>if i=0 then .slice (some (Ad go 0)) (1+1) cq else R i):=by rw[H];exact g3
 have h3:=qh g4;have h0:=qh<|b2.o.trans d0;have e5:=qh d9;clear Q N d e7 a9 h9 a2 d1 d2 d6 g6 b1 h e6 b6 f4 g3 g4 d0 f7 f8 g2 g5;refine hK.out _ _ (.inr E) ?_;clear hK K
 try simp only[Act.put,tryL]
 refine Aa.tm 10 E ?_;refine Aa.tm 11 E ?_
 try simp only[Act.put,tryL]
 refine Aa.on 12 λK hK=>?_;go_simp;rw[<-H];clear H;refine hK.out _ _ (.inl rfl) (Aa.dn ?_);clear hK K E h7;obtain⟨⟨m0,m1,m2,m3⟩,_⟩:=cells4 g1;obtain⟨⟨r0,r1,r2,r3⟩,rz⟩:=cells4 d9;have f0:=rz 0;have f1:=rz 1;have f2:=rz 2;have f3:=rz 3;clear rz g1 d9
 go_wp2_with fail
 exact bodyPost_ret (OQ rfl _ (b:=I) rfl (AA wf I _ _ _ _ e5.o)) rfl ⟨Au h0.o h8 _ _ _ _,.slice (some (Ad g 0)) 2 C,_,rfl,h3.o.box4 e5.o (.int .i64 1) (.int .i64 0) (.string ⟨#[48]⟩) (.slice (some (Ad g 0)) 2 C)⟩
def CmnE(A B:MD)(w:World)(r:Ending)(w':World):Prop :=
 Below w.heap.size w w'/\((VM A/\VM B/\AccD A/\AccD B/\A.kind=B.kind/\
  ((∃n M,CmpIs A B (alF A) n M/\∃sv R,r=.returned (.tuple #[.agg #[.int .i64 M.kind,.int .i64 M.start,.string M.lead,sv],.int .i64 0])/\OwM w' w.heap.size sv M R)\/(BadC A B/\r=.returned (.tuple #[AF,.int .i64 2]))))\/
  (VM A/\VM B/\¬(AccD A/\AccD B/\A.kind=B.kind)/\r=.returned (.tuple #[AF,.int .i64 6]))\/(¬(VM A/\VM B)/\r=.returned (.tuple #[AF,.int .i64 1])))
def Fe{D E:MD}{mv nv:Value}(w:World)(hM:Ma none w mv D)(hN:Ma none w nv E)(T:MSz D)(U:MSz E)(ht:Tab w):Calls prog 19 #[mv,nv] w (CmnE D E w):=by
 obtain⟨sv,rfl,hS⟩:=hM;obtain⟨sw,rfl,a5⟩:=hN;obtain⟨a,cp,_,_,_,_,_,_,b8,_⟩:=hS.open;obtain⟨a2,a4,_,_,_,_,_,_,d9,_⟩:=a5.open;subst b8;subst d9;have Q:∀W,Below w.heap.size w W->Ma none W (.agg #[.int .i64 D.kind,.int .i64 D.start,.string D.lead,.slice a D.n cp]) D:=λW h=>⟨_,rfl,hS.kept (Ab h none)⟩;have s:∀W,Below w.heap.size w W->Ma none W (.agg #[.int .i64 E.kind,.int .i64 E.start,.string E.lead,.slice a2 E.n a4]) E:=λW h=>⟨_,rfl,a5.kept (Ab h none)⟩;have B:∀W,Below w.heap.size w W->Tab W:=λW h=>ht.below h nlr;obtain⟨w1,H⟩:=exq<|w.alloc (.cells #[.int .i64 D.kind,.int .i64 D.start,.string D.lead,.slice a D.n cp] 25);obtain⟨w2,I⟩:=exq<|w1.alloc (.cells #[.int .i64 E.kind,.int .i64 E.start,.string E.lead,.slice a2 E.n a4] 25);obtain⟨Y,X⟩:=exq<|w2.alloc (.cells #[.int .i64 0,.int .i64 0,.string ⟨#[]⟩,.slice none 0 0] 25);have b9:w1.heap.size=w.heap.size+1:=by rw[H];simp
 have d6:w2.heap.size=w.heap.size+1+1:=by rw[I];simp[b9]
 have d5:Fr (λ_=>False) w w1:=by rw[H];exact Fr.alloc _ _
 have b4:Fr (λ_=>False) w1 w2:=by rw[I];exact Fr.alloc _ _
 have a7:Fr (λ_=>False) w2 Y:=by rw[X];exact Fr.alloc _ _
 have b5:w1.heap[w.heap.size]?=some (.cells #[.int .i64 D.kind,.int .i64 D.start,.string D.lead,.slice a D.n cp] 25 (0,0)):=by rw[H];exact han w _
 have j:Y.heap[w.heap.size]?=some (.cells #[.int .i64 D.kind,.int .i64 D.start,.string D.lead,.slice a D.n cp] 25 (0,0)):=(a7.block _ (by omega) (λe=>e)).trans ((b4.block _ (lbk b5) (λe=>e)).trans b5);have a9:w2.heap[w.heap.size+1]?=some (.cells #[.int .i64 E.kind,.int .i64 E.start,.string E.lead,.slice a2 E.n a4] 25 (0,0)):=by rw[<-b9,I];exact han w1 _
 have k:Y.heap[w.heap.size+1]?=some (.cells #[.int .i64 E.kind,.int .i64 E.start,.string E.lead,.slice a2 E.n a4] 25 (0,0)):=(a7.block _ (by omega) (λe=>e)).trans a9;have i:Y.heap[w.heap.size+1+1]?=some (.cells #[.int .i64 0,.int .i64 0,.string ⟨#[]⟩,.slice none 0 0] 25 (0,0)):=by rw[<-d6,X];exact han w2 _
 have a6:Below w.heap.size w Y:=((d5.trans b4).trans a7).below nlr (λ_ e=>e.elim);obtain⟨mb,a8⟩:=exq<|w.heap.size;obtain⟨nb,b6⟩:=exq<|w.heap.size+1;obtain⟨u,b7⟩:=exq<|w.heap.size+1+1;have A:w.heap.size<=u:=by omega
 rw[<-a8]at j;rw[<-b6]at k;rw[<-b7]at i;obtain⟨⟨m0,m1,m2,m3⟩,_⟩:=cells4 j;have d3:=qh<|Fi Y (Q Y a6) T (B Y a6);replace Q:=qh Q;replace s:=qh s;replace B:=qh B;replace ht:=qh ht;have b0:=qh a6;clear a6;have g:=qh j;clear j b5 d5 b4 a7 b9 d6 a9;have d:=qh k;clear k;have c:=qh i;clear i;replace T:=qh T;replace U:=qh U;have e1:=qh hS;have e2:=qh a5;clear hS a5;rw[a8,X,I,H]at m0 m1 m2 m3
 go_enter func19,ntmps19
 go_wp2_with fail
 rw[<-H,<-I,<-X,<-b7,<-b6,<-a8];clear m0 m1 m2 m3 H I X a8 b6 b7;refine d3.o.mono ?_;rintro r w4⟨K,hr⟩;have j:=(K.block _ (lbk g.o)).trans g.o;have k:=(K.block _ (lbk d.o)).trans d.o;have i:=(K.block _ (lbk c.o)).trans c.o;have C:=qh<|b0.o.trans (K.mono b0.o.size);clear K g d c d3 b0;have g:=qh j;clear j;have d:=qh k;clear k;have c:=qh i;clear i
 rcases hr with⟨m,rfl⟩|⟨m,rfl⟩
 rotate_left
 ·have Z:=qh m;clear m;obtain⟨⟨r0,r1,r2,r3⟩,l⟩:=cells4 c.o;have f0:=l 0;have f1:=l 1;have f2:=l 2;have f3:=l 3;clear l
  go_wp2_with fail
  exact bodyPost_ret (AE rfl _ (b:=u) rfl rfl (AA w4 u _ _ _ _ c.o)) rfl ⟨Au C.o A _ _ _ _,.inr (.inr ⟨λh=>Z.o h.1,rfl⟩)⟩
 have Z:=qh m;clear m;obtain⟨⟨n0,n1,n2,n3⟩,_⟩:=cells4 d.o;have d4:=qh<|Fi w4 (s.o w4 C.o) U.o (B.o w4 C.o)
 go_wp2_with fail
 clear n0 n1 n2 n3;refine d4.o.mono ?_;rintro r w5⟨L,hr⟩;have j:=(L.block _ (lbk g.o)).trans g.o;have k:=(L.block _ (lbk d.o)).trans d.o;have i:=(L.block _ (lbk c.o)).trans c.o;have F:=qh<|C.o.trans (L.mono C.o.size);clear L g d c d4 C;have g:=qh j;clear j;have d:=qh k;clear k;have c:=qh i;clear i
 rcases hr with⟨m,rfl⟩|⟨m,rfl⟩
 rotate_left
 ·have o:=qh m;clear m;obtain⟨⟨r0,r1,r2,r3⟩,l⟩:=cells4 c.o;have f0:=l 0;have f1:=l 1;have f2:=l 2;have f3:=l 3;clear l
  go_wp2_with fail
  exact bodyPost_ret (AE rfl _ (b:=u) rfl rfl (AA w5 u _ _ _ _ c.o)) rfl ⟨Au F.o A _ _ _ _,.inr (.inr ⟨λh=>o.o h.2,rfl⟩)⟩
 have o:=qh m;clear m;obtain⟨⟨m0,m1,m2,m3⟩,_⟩:=cells4 g.o;have d0:=qh<|NC w5 (Q.o w5 F.o) T.o (B.o w5 F.o)
 go_wp2_with fail
 clear m0 m1 m2 m3;refine d0.o.mono ?_;rintro r w6⟨N,hr⟩;have j:=(N.block _ (lbk g.o)).trans g.o;have k:=(N.block _ (lbk d.o)).trans d.o;have i:=(N.block _ (lbk c.o)).trans c.o;have G:=qh<|F.o.trans (N.mono F.o.size);clear N g d c d0 F;have g:=qh j;clear j;have d:=qh k;clear k;have c:=qh i;clear i
 rcases hr with⟨m,rfl⟩|⟨m,rfl⟩
 rotate_left
 ·have HX:=qh m;clear m;obtain⟨⟨r0,r1,r2,r3⟩,l⟩:=cells4 c.o;have f0:=l 0;have f1:=l 1;have f2:=l 2;have f3:=l 3;clear l
  go_wp2_with fail
  exact bodyPost_ret (AE rfl _ (b:=u) rfl rfl (AA w6 u _ _ _ _ c.o)) rfl ⟨Au G.o A _ _ _ _,.inr (.inl ⟨Z.o,o.o,λh=>HX.o ⟨Z.o,h.1⟩,rfl⟩)⟩
 have HX:=qh m.2;clear m;obtain⟨⟨n0,n1,n2,n3⟩,_⟩:=cells4 d.o;have d1:=qh<|NC w6 (s.o w6 G.o) U.o (B.o w6 G.o)
 go_wp2_with fail
 clear n0 n1 n2 n3;refine d1.o.mono ?_;rintro r w7⟨O,hr⟩;have j:=(O.block _ (lbk g.o)).trans g.o;have k:=(O.block _ (lbk d.o)).trans d.o;have i:=(O.block _ (lbk c.o)).trans c.o;have p:=qh<|G.o.trans (O.mono G.o.size);clear O g d c d1 G;have g:=qh j;clear j;have d:=qh k;clear k;have c:=qh i;clear i
 rcases hr with⟨m,rfl⟩|⟨m,rfl⟩
 rotate_left
 ·have a1:=qh m;clear m;obtain⟨⟨r0,r1,r2,r3⟩,l⟩:=cells4 c.o;have f0:=l 0;have f1:=l 1;have f2:=l 2;have f3:=l 3;clear l
  go_wp2_with fail
  exact bodyPost_ret (AE rfl _ (b:=u) rfl rfl (AA w7 u _ _ _ _ c.o)) rfl ⟨Au p.o A _ _ _ _,.inr (.inl ⟨Z.o,o.o,λh=>a1.o ⟨o.o,h.2.1⟩,rfl⟩)⟩
 have a1:=qh m.2;clear m;obtain⟨⟨m0,m1,m2,m3⟩,_⟩:=cells4 g.o;obtain⟨⟨n0,n1,n2,n3⟩,_⟩:=cells4 d.o;have d2:=qh<|CW w7 (Q.o w7 p.o) (s.o w7 p.o) T.o U.o (B.o w7 p.o)
 go_wp2_with fail
 clear m0 m1 m2 m3 n0 n1 n2 n3;refine d2.o.mono ?_;rintro r w8⟨b3,hr⟩;have i:=(b3.block _ (lbk c.o)).trans c.o;have b1:=qh<|p.o.trans (b3.mono p.o.size);have e0:=p.o.size;clear b3 g d c d2 p;have c:=qh i;clear i;obtain⟨⟨r0,r1,r2,r3⟩,l⟩:=cells4 c.o;have f0:=l 0;have f1:=l 1;have f2:=l 2;have f3:=l 3;clear l
 rcases hr with⟨_,_,z,⟨n,M,b2,sv,R,rfl,S⟩|⟨P,rfl⟩⟩|⟨_,_,z,rfl⟩|⟨d8,rfl⟩
 ·obtain⟨ta,tc,b8,_,_⟩:=Ax S.top;subst b8;have d7:=qh<|CJ (S.box4 c.o (.int .i64 M.kind) (.int .i64 M.start) (.string M.lead) (.slice ta M.n tc)) e0;clear S;replace b2:=qh b2;have J:=qh z;clear z
  go_wp2_with fail
  exact bodyPost_ret (AE rfl _ (b:=u) rfl rfl (AA w8 u _ _ _ _ c.o)) rfl ⟨Au b1.o A _ _ _ _,.inl ⟨Z.o,o.o,HX.o,a1.o,J.o,.inl ⟨n,M,b2.o,_,R,rfl,d7.o⟩⟩⟩
 ·replace P:=qh P;unfold AF;have J:=qh z;clear z
  go_wp2_with fail
  exact bodyPost_ret (AE rfl _ (b:=u) rfl rfl (AA w8 u _ _ _ _ c.o)) rfl ⟨Au b1.o A _ _ _ _,.inl ⟨Z.o,o.o,HX.o,a1.o,J.o,.inr ⟨P.o,rfl⟩⟩⟩
 ·have J:=qh z;clear z;unfold AF
  go_wp2_with fail
  exact bodyPost_ret (AE rfl _ (b:=u) rfl rfl (AA w8 u _ _ _ _ c.o)) rfl ⟨Au b1.o A _ _ _ _,.inr (.inl ⟨Z.o,o.o,λh=>J.o h.2.2,rfl⟩)⟩
 exact absurd ⟨Z.o,o.o⟩ d8
end
section
open Go CSR
def eA:MD:=⟨1,0,⟨#[]⟩,1,λ_=>⟨#[]⟩,λ_=>1,λ_ _=>1,λ_ _=>2,λ_ _=>⟨#[49]⟩,λ_ _=>0⟩
def eN:MD:=⟨1,0,⟨#[]⟩,1,λ_=>⟨#[]⟩,λ_=>2,λ_ _=>1,λ_ k=>if k=0 then 0 else 2,λ_ k=>if k=0 then ⟨#[49]⟩ else ⟨#[48]⟩,λ_ _=>0⟩
def eS:MD:=⟨1,0,⟨#[]⟩,1,λ_=>⟨#[]⟩,λ_=>2,λ_ _=>1,λ_ _=>1,λ_ k=>if k=0 then ⟨#[53]⟩ else ⟨#[48]⟩,λ_ _=>0⟩
def stD:MD:=⟨1,0,⟨#[48]⟩,1,λ_=>⟨#[48]⟩,λ_=>1,λ_ _=>1,λ_ _=>1,λ_ _=>⟨#[49]⟩,λ_ _=>0⟩
def viD:MD:=⟨3,0,⟨#[49]⟩,1,λ_=>⟨#[]⟩,λ_=>0,λ_ _=>0,λ_ _=>0,λ_ _=>⟨#[]⟩,λ_ _=>0⟩
def cst(a:Int):Nat->Int:=λ_=>a
abbrev mM:MD:=(itP (Ac eA) frkD (alF (Ac eA)) 2).2
abbrev nM:MD:=(itP (Ac eN) frkD (alF (Ac eN)) 3).2
abbrev oM:MD:=(itP stD (Ac eS) (alF stD) 3).2
abbrev pM:MD:=(itP (wrd frkD 1 (cst 2)) frkD (alF (wrd frkD 1 (cst 2))) 2).2
abbrev qM:MD:=(itP (wrd frkD 1 (cst 1)) frkD (alF (wrd frkD 1 (cst 1))) 1).2
def FC:VM (Ac eA):=Dh (by decide +kernel)
def Bi:VM frkD:=Dh (by decide +kernel)
def CE:VM (Ac eN):=Dh (by decide +kernel)
def CN:VM (Ac eS):=Dh (by decide +kernel)
def CQ:VM stD:=Dh (by decide +kernel)
def YM:VM viD:=Dh (by decide +kernel)
def Hz{E:MD}(h:E.na 0<=1000)(c:∀k,(E.aw 0 k).size<=9):MSz (Ac E) :=
 ⟨(by decide:(⟨#[48]⟩:ByteArray).size<=9223372036854775807),λi=>by show (if i=E.na 0 then (⟨#[48]⟩:ByteArray) else ⟨#[]⟩).size<=_;split<;>decide,λi k=>Nat.le_trans (show ((Ac E).aw i k).size<=9 from c i) (by omega),λi=>by show (if i<E.na 0 then 1 else 0)<=_;split<;>omega,by show E.na 0+1<=_;omega,by show (-9223372036854775808:Int)<=1/\(1:Int)<=9223372036854775807;omega⟩
def GR:MSz (Ac eA):=Hz (by decide) λk=>(by decide:(⟨#[49]⟩:ByteArray).size<=9)
def Eb:MSz (Ac eN):=Hz (by decide) λk=>by show (if k=0 then (⟨#[49]⟩:ByteArray) else ⟨#[48]⟩).size<=9;split<;>decide
def Eg:MSz (Ac eS):=Hz (by decide) λk=>by show (if k=0 then (⟨#[53]⟩:ByteArray) else ⟨#[48]⟩).size<=9;split<;>decide
def EZ:MSz (Ac frkA):=Hz (by decide) λk=>(by decide:(⟨#[50]⟩:ByteArray).size<=9)
def BU:MSz frkD :=
 ⟨EZ.lead,EZ.fin,λi k=>by show (if i=0/\k=(Ac frkA).na 0 then (⟨#[48]⟩:ByteArray) else (Ac frkA).aw i k).size<=_;split;decide;exact EZ.aw i k,λi=>by
  have c:=EZ.na i;show (if i=0 then (Ac frkA).na 0+1 else (Ac frkA).na i)<=_
  split
  ·decide
  exact c,EZ.n,EZ.kind⟩
def Eh:MSz stD:=⟨(by decide:(⟨#[48]⟩:ByteArray).size<=9223372036854775807),λi=>(by decide:(⟨#[48]⟩:ByteArray).size<=9223372036854775807),λi k=>(by decide:(⟨#[49]⟩:ByteArray).size<=9223372036854775807),λi=>by show 1<=_;omega,by show 1<=_;omega,by show (-9223372036854775808:Int)<=1/\(1:Int)<=9223372036854775807;omega⟩
def YL:MSz viD:=⟨(by decide:(⟨#[49]⟩:ByteArray).size<=9223372036854775807),λi=>(by decide:(⟨#[]⟩:ByteArray).size<=9223372036854775807),λi k=>(by decide:(⟨#[]⟩:ByteArray).size<=9223372036854775807),λi=>by show 0<=_;omega,by show 1<=_;omega,by show (-9223372036854775808:Int)<=3/\(3:Int)<=9223372036854775807;omega⟩
def litB(A B:MD):Bool:=decide (A.n+B.n<=5)&&decide (Ai A A.n+Ai B B.n<=10)&&shB A&&shB B
where shB (D:MD):Bool:=decide (dgn D.lead D.lead.size<=4)&&(List.range D.n).all λi=>decide (dgn (D.fin i) (D.fin i).size<=4)&&(List.range (D.na i)).all λk=>decide (dgn (D.aw i k) (D.aw i k).size<=4)
def Pw{D:MD}(h:litB.shB D=true):ShM D:=by
 unfold litB.shB at h;simp only[Bool.and_eq_true,decide_eq_true_eq,List.all_eq_true,List.mem_range]at h;exact⟨h.1,λi hi=>⟨(h.2 i hi).1,λd hd=>(h.2 i hi).2 d hd⟩⟩
def FV{A B:MD}(h:litB A B=true):LitL 2 (pk3 A B B):=by
 unfold litB at h;simp only[Bool.and_eq_true,decide_eq_true_eq]at h;obtain⟨⟨⟨g,j⟩,c⟩,d⟩:=h;refine⟨?_,?_,λi hi=>?_⟩
 ·show 0+A.n+B.n<=5;omega
 ·show 0+Ai A A.n+Ai B B.n<=10;omega
 rcases (by omega:i=0\/i=1) with rfl|rfl
 ·exact Pw c
 exact Pw d
def UC:LitL 2 (pk3 (Ac eA) frkD frkD):=FV (by decide +kernel)
def HD:LitL 2 (pk3 (Ac eN) frkD frkD):=FV (by decide +kernel)
def HH:LitL 2 (pk3 stD (Ac eS) (Ac eS)):=FV (by decide +kernel)
def Nx(a:Int)(h:a=1\/a=2):LitL 2 (pk3 (wrd frkD 1 (cst a)) frkD frkD):=by
 rcases h with rfl|rfl
 ·exact FV (by decide +kernel)
 exact FV (by decide +kernel)
def GT:AccD stD/\AccD (Ac eS)/\stD.kind=(Ac eS).kind:=by
 have g:∀q,q<stD.n->∀d,d<stD.na q->stD.aout q d=stD.ain q d:=by decide +kernel
 have h:∀q,q<(Ac eS).n->∀d,d<(Ac eS).na q->(Ac eS).aout q d=(Ac eS).ain q d:=by decide +kernel
 exact⟨λq d c hd=>g q c d hd,λq d c hd=>h q c d hd,rfl⟩
def Vj:¬(AccD (Ac eA)/\AccD frkD/\(Ac eA).kind=frkD.kind):=λh=>absurd (h.1 0 0 (by decide +kernel) (by decide +kernel)) (by decide +kernel)
def Uy:(itP (Ac eA) frkD (alF (Ac eA)) 2).1.length<=2:=by decide +kernel
def Hv:(itP (Ac eN) frkD (alF (Ac eN)) 3).1.length<=3:=by decide +kernel
def Hw:(itP stD (Ac eS) (alF stD) 3).1.length<=3:=by decide +kernel
def Uz:(itP (wrd frkD 1 (cst 2)) frkD (alF (wrd frkD 1 (cst 2))) 2).1.length<=2:=by decide +kernel
def UA:(itP (wrd frkD 1 (cst 1)) frkD (alF (wrd frkD 1 (cst 1))) 1).1.length<=1:=by decide +kernel
def infT:ByteArray:=⟨#[105,110,102]⟩
def JZ:VM mM:=Dh (by decide +kernel)
def NO:VM nM:=Dh (by decide +kernel)
def Og:VM oM:=Dh (by decide +kernel)
def VF:VM pM:=Dh (by decide +kernel)
def Wm:VM qM:=Dh (by decide +kernel)
def ev1:VOk8 mM 1 (cst 1) 1 (cst 3) ⟨#[51]⟩:=DN JZ (by decide +kernel) (by decide +kernel)
def ev2:VOk8 mM 1 (cst 1) 1 (cst 4) ⟨#[49]⟩:=DN JZ (by decide +kernel) (by decide +kernel)
def ev3:VOk8 mM 1 (cst 1) 1 (cst 2) infT:=DN JZ (by decide +kernel) (by decide +kernel)
def ev4:VOk8 nM 2 (cst 1) 1 (cst 3) ⟨#[51]⟩:=DN NO (by decide +kernel) (by decide +kernel)
def ev5:VOk8 nM 1 (cst 1) 1 (cst 3) infT:=DN NO (by decide +kernel) (by decide +kernel)
def ev6:VOk8 oM 2 (cst 1) 2 (cst 1) ⟨#[55]⟩:=DN Og (by decide +kernel) (by decide +kernel)
def ev7:VOk8 oM 1 (cst 1) 1 (cst 1) infT:=DN Og (by decide +kernel) (by decide +kernel)
def ev8:VOk8 pM 1 (cst 2) 1 (cst 3) ⟨#[50]⟩:=DN VF (by decide +kernel) (by decide +kernel)
def ev9:VOk8 qM 1 (cst 2) 1 (cst 3) infT:=DN Wm (by decide +kernel) (by decide +kernel)
end
section
open Go.RowKit Go.Deep
noncomputable def CU:Code:=((f11).body).getD .skip
set_option maxRecDepth 1000000 in
theorem VS:Fs 4 CU (seqR 4 CU)=CU:=by kernel_rfl
set_option maxRecDepth 1000000 in
theorem VT:Fs 2 (seqR 4 CU) (seqR 6 CU)=seqR 4 CU:=by kernel_rfl
set_option maxRecDepth 1000000 in
theorem awk5{C1 C2 C3 C4 C5 C6 C7 C8 C9 D0 D1 D2 D3 D4 D5 D6 D7 D8 D9 E0 E1 E2 E3 E4 E5 E6 E7 E8 E9 F0 F1 F2 F3 F4 F5 F6 F7 F8 F9 G0 G1 G2 G3 G4 G5 G6 G7 G8 G9 H0 H1 H2 H3 H4 H5 H6 H7 H8 H9 I0 I1 I2 I3 I4 I5 I6 I7 I8 I9 J0 J1 J2 J3 J4 J5 J6 J7 J8 J9 K0 K1 K2 K3 K4 K5 K6 K7 K8 K9 L0 s4 s5 s6 s7 s8 s9 t7 t8 t9 v0 v2 v3 v4 v5 v6 v7 v8 v9 w0 x0 x1 x2 x3 x4 x5 x6 x7 x8 x9 y0 y1 y2 y3 y4 y5 y6 y8 y9 z1 z2 z3 z4 z5 z6 z7 z8 z9 A0 A1 A2 A3 A4 A5 A6 A7 A8 A9:Value}{w W:World}{bA bB bM bN bO:Nat}{B0 B1 B2 B3 B4:Option Addr}{B5 B6 B7 B8 B9:Nat}{y7:Value}(l2:Hd (∀W,Below w.heap.size w W->Tab W))(c:Hd (Below w.heap.size w W))(k:Hd (Has W bA (Ac eA).kind (Ac eA).start (Ac eA).lead B0 (Ac eA).n B5 (Ac eA)))(i:Hd (Has W bB frkD.kind frkD.start frkD.lead B1 frkD.n B6 frkD))(j:Hd (Has W bM mM.kind mM.start mM.lead B2 mM.n B7 mM))(l:Hd (Has W bN nM.kind nM.start nM.lead B3 nM.n B8 nM))(m:Hd (Has W bO oM.kind oM.start oM.lead B4 oM.n B9 oM))(ZM:Hd (MSz mM))(ZN:Hd (MSz nM))(ZO:Hd (MSz oM)):
  Code.wp prog (seqR 6 CU) (bodyPost prog f11 (TrueB w)) ⟨List.toArray (.bool false::.pointer (some (Ad bA 0))::.pointer (some (Ad bB 0))::.pointer (some (Ad bM 0))::.int .i64 0::.pointer (some (Ad bN 0))::.int .i64 0::y7::.pointer (some (Ad bO 0))::.int .i64 0::C1::C2::C3::C4::C5::C6::C7::C8::C9::D0::D1::D2::D3::D4::D5::D6::D7::D8::D9::E0::E1::E2::E3::E4::E5::E6::E7::E8::E9::F0::F1::F2::F3::F4::F5::F6::F7::F8::F9::G0::G1::G2::G3::G4::G5::G6::G7::G8::G9::H0::H1::H2::H3::H4::H5::H6::H7::H8::H9::I0::I1::I2::I3::I4::I5::I6::I7::I8::I9::J0::J1::J2::J3::J4::J5::J6::J7::J8::J9::K0::K1::K2::K3::K4::K5::K6::K7::K8::K9::L0::s4::s5::s6::s7::s8::s9::t7::t8::t9::v0::v2::v3::v4::v5::v6::v7::v8::v9::w0::x0::x1::x2::x3::x4::x5::x6::x7::x8::x9::y0::y1::y2::y3::y4::y5::y6::y8::y9::z1::z2::z3::z4::z5::z6::z7::z8::z9::A0::A1::A2::A3::A4::A5::A6::A7::A8::A9::[]),[]⟩ W:=by
 conv=>arg 2;whnf
 obtain⟨w1,d2⟩:=exq<|W.alloc (.cells #[.int .i64 2] 3);obtain⟨i1,k0⟩:=exq<|W.heap.size;have r8:w1.heap.size=W.heap.size+1:=by rw[d2];simp
 have hb:Below W.heap.size W w1:=by rw[d2];exact(Below.refl _ W).alloc nlr _
 have u:Si none w1 (.slice (some (Ad i1 0)) 1 1) 1 (cst 2):=by rw[k0,d2];exact Bv (han W _) Bf (lt1 rfl)
 replace k:=ho k hb;replace i:=ho i hb;replace j:=ho j hb;replace l:=ho l hb;replace m:=ho m hb;replace c:=nd c hb;clear hb;have B:=qh u;clear u;have m0:=cellOf i.o.1 0 rfl;have m1:=cellOf i.o.1 1 rfl;have E:=cellOf i.o.1 2 rfl;have F:=cellOf i.o.1 3 rfl;rw[d2]at m0 m1 E F;have g:=qh<|LP w1 B.o i.o.ma (by omega) BU (l2.o w1 c.o);clear B
 go_wp2_with fail
 clear m0 m1 E F;rw[<-k0,<-d2];clear d2 r8 k0;refine g.o.mono ?_;rintro r w2⟨hb,hr⟩;replace k:=ho k hb;replace i:=ho i hb;replace j:=ho j hb;replace l:=ho l hb;replace m:=ho m hb;replace c:=nd c hb;clear hb;clear g;have H:=BN (D:=frkD) (na:=1) (x:=cst 2) (by decide +kernel) (by decide +kernel)
 rcases hr with⟨_,_,⟨n,M,g4,C0,R,rfl,b0⟩|⟨j9,rfl⟩⟩|⟨g5,_⟩
 rotate_left
 ·exact absurd (Nx 2 (by omega)) (j9.not2 H.1 Bi H.2.2.1)
 ·exact absurd ⟨Bi,by decide +kernel⟩ g5
 have l1:=(g4.vm H.1 Bi H.2.2.1 H.2.1 BU).2.1;obtain rfl:M=pM:=g4.closed 2 Uz;clear g4 H;have ZP:=qh l1;clear l1;obtain⟨l6,l8,g6,_,_⟩:=Ax b0.top;have g6:_=Value.slice l6 pM.n l8:=g6;subst g6;obtain⟨w3,d3⟩:=exq<|w2.alloc (.cells #[.int .i64 (pM.kind),.int .i64 (pM.start),.string (pM.lead),.slice l6 pM.n l8] 25);obtain⟨i3,k4⟩:=exq<|w2.heap.size;have k7:w3.heap.size=w2.heap.size+1:=by rw[d3];simp
 have hb:Below w2.heap.size w2 w3:=by rw[d3];exact(Below.refl _ w2).alloc nlr _
 have u:Has w3 i3 (pM.kind) (pM.start) (pM.lead) l6 pM.n l8 (pM):=by rw[k4,d3];exact Has.new b0 ⟨rfl,rfl,rfl⟩
 clear b0;replace k:=ho k hb;replace i:=ho i hb;replace j:=ho j hb;replace l:=ho l hb;replace m:=ho m hb;replace c:=nd c hb;clear hb;have s:=qh u;clear u;obtain⟨bP,m5⟩:∃x,x=i3:=⟨_,rfl⟩;rw[<-m5]at s;obtain⟨w4,d4⟩:=exq<|w3.alloc (.cells #[.int .i64 1] 3);obtain⟨i4,k5⟩:=exq<|w2.heap.size+1;have r9:w4.heap.size=w2.heap.size+1+1:=by rw[d4];simp[k7]
 have hb:Below w3.heap.size w3 w4:=by rw[d4];exact(Below.refl _ w3).alloc nlr _
 have u:Si none w4 (.slice (some (Ad i4 0)) 1 1) 1 (cst 1):=by rw[k5,<-k7,d4];exact Bv (han w3 _) Bf (lt1 rfl)
 replace k:=ho k hb;replace i:=ho i hb;replace j:=ho j hb;replace l:=ho l hb;replace m:=ho m hb;replace s:=ho s hb;replace c:=nd c hb;clear hb;have B:=qh u;clear u;have m0:=cellOf i.o.1 0 rfl;have m1:=cellOf i.o.1 1 rfl;have E:=cellOf i.o.1 2 rfl;have F:=cellOf i.o.1 3 rfl;rw[d4,d3]at m0 m1 E F;have g:=qh<|LP w4 B.o i.o.ma (by omega) BU (l2.o w4 c.o);clear B
 go_wp2_with fail
 clear m0 m1 E F;rw[<-k5,<-k4,<-d3,<-d4];rw[<-m5];clear d3 k7 k4;clear d4 r9 k5;clear m5;refine g.o.mono ?_;rintro r w5⟨hb,hr⟩;replace k:=ho k hb;replace i:=ho i hb;replace j:=ho j hb;replace l:=ho l hb;replace m:=ho m hb;replace s:=ho s hb;replace c:=nd c hb;clear hb;clear g;have H:=BN (D:=frkD) (na:=1) (x:=cst 1) (by decide +kernel) (by decide +kernel)
 rcases hr with⟨_,_,⟨n,M,g4,C0,R,rfl,b0⟩|⟨j9,rfl⟩⟩|⟨g5,_⟩
 rotate_left
 ·exact absurd (Nx 1 (by omega)) (j9.not2 H.1 Bi H.2.2.1)
 ·exact absurd ⟨Bi,by decide +kernel⟩ g5
 have l1:=(g4.vm H.1 Bi H.2.2.1 H.2.1 BU).2.1;obtain rfl:M=qM:=g4.closed 1 UA;clear g4 H;have ZQ:=qh l1;clear l1;obtain⟨l7,l9,g6,_,_⟩:=Ax b0.top;have g6:_=Value.slice l7 qM.n l9:=g6;subst g6;obtain⟨w6,a7⟩:=exq<|w5.alloc (.cells #[.int .i64 (qM.kind),.int .i64 (qM.start),.string (qM.lead),.slice l7 qM.n l9] 25);obtain⟨i6,k6⟩:=exq<|w5.heap.size;have k9:w6.heap.size=w5.heap.size+1:=by rw[a7];simp
 have hb:Below w5.heap.size w5 w6:=by rw[a7];exact(Below.refl _ w5).alloc nlr _
 have u:Has w6 i6 (qM.kind) (qM.start) (qM.lead) l7 qM.n l9 (qM):=by rw[k6,a7];exact Has.new b0 ⟨rfl,rfl,rfl⟩
 clear b0;replace k:=ho k hb;replace i:=ho i hb;replace j:=ho j hb;replace l:=ho l hb;replace m:=ho m hb;replace s:=ho s hb;replace c:=nd c hb;clear hb;have z:=qh u;clear u;obtain⟨bQ,m7⟩:∃x,x=i6:=⟨_,rfl⟩;rw[<-m7]at z;obtain⟨w7,a8⟩:=exq<|w6.alloc (.cells #[.string ⟨#[]⟩,.slice none 0 0] 63);obtain⟨i7,i5⟩:=exq<|w5.heap.size+1;have l0:w7.heap.size=w5.heap.size+1+1:=by rw[a8];simp[k9]
 have hb:Below w6.heap.size w6 w7:=by rw[a8];exact(Below.refl _ w6).alloc nlr _
 have u:w7.heap[i7]?=some (.cells #[.string ⟨#[]⟩,.slice none 0 0] 63 (0,0)):=by rw[i5,<-k9,a8];exact han w6 _
 replace k:=ho k hb;replace i:=ho i hb;replace j:=ho j hb;replace l:=ho l hb;replace m:=ho m hb;replace s:=ho s hb;replace z:=ho z hb;replace c:=nd c hb;clear hb;have d:=qh u;clear u;obtain⟨w8,a9⟩:=exq<|w7.alloc (.cells #[.int .i64 3,.int .i64 0,.string ⟨#[49]⟩,.slice (some (Ad i7 0)) 1 1] 25);obtain⟨i8,i9⟩:=exq<|w5.heap.size+1+1;have s3:w8.heap.size=w5.heap.size+1+1+1:=by rw[a9];simp[l0]
 have hb:Below w7.heap.size w7 w8:=by rw[a9];exact(Below.refl _ w7).alloc nlr _
 have u:w8.heap[i8]?=some (.cells #[.int .i64 3,.int .i64 0,.string ⟨#[49]⟩,.slice (some (Ad i7 0)) 1 1] 25 (0,0)):=by rw[i9,<-l0,a9];exact han w7 _
 replace k:=ho k hb;replace i:=ho i hb;replace j:=ho j hb;replace l:=ho l hb;replace m:=ho m hb;replace s:=ho s hb;replace z:=ho z hb;replace d:=kb d hb;replace c:=nd c hb;clear hb;have h:=qh u;clear u;obtain⟨bV,l3⟩:∃x,x=i8:=⟨_,rfl⟩;rw[<-l3]at h;have m0:=cellOf k.o.1 0 rfl;have m1:=cellOf k.o.1 1 rfl;have E:=cellOf k.o.1 2 rfl;have F:=cellOf k.o.1 3 rfl;rw[a9,a8,a7]at m0 m1 E F;have n0:=cellOf h.o 0 rfl;have n1:=cellOf h.o 1 rfl;have n2:=cellOf h.o 2 rfl;have n3:=cellOf h.o 3 rfl;rw[a9,a8,a7]at n0 n1 n2 n3;rw[l3,i9]at n0 n1 n2 n3;rw[i5]at m0 m1 E F n0 n1 n2 n3;have g:=qh (CW w8 k.o.ma (⟨_,rfl,Gy (D:=viD) (A:=λ_=>.slice none 0 0) d.o (by unfold maxLen;decide) (lt1 ⟨rfl,rfl,Rz w8 rfl⟩)⟩:Ma none w8 (.agg #[.int .i64 viD.kind,.int .i64 viD.start,.string viD.lead,.slice (some (Ad i7 0)) viD.n viD.n]) viD) GR YL (l2.o w8 c.o))
 go_wp2_with fail
 clear m0 m1 E F;clear n0 n1 n2 n3;rw[<-i9,<-i5,<-k6,<-a7,<-a8,<-a9];rw[<-m7];rw[<-l3];clear a7 k9 k6;clear a8 l0 i5;clear a9 s3 i9;clear m7;clear l3;refine g.o.mono ?_;rintro r w9⟨hb,hr⟩;replace k:=ho k hb;replace i:=ho i hb;replace j:=ho j hb;replace l:=ho l hb;replace m:=ho m hb;replace s:=ho s hb;replace z:=ho z hb;replace d:=kb d hb;replace h:=kb h hb;replace c:=nd c hb;clear hb;clear g
 rcases hr with⟨_,_,hk,_⟩|⟨_,_,_,rfl⟩|⟨g5,_⟩
 ·exact absurd hk (by decide +kernel)
 rotate_left
 ·exact absurd ⟨FC,YM⟩ g5
 unfold AF;obtain⟨i2,C⟩:=exq<|w9.alloc (.cells #[.int .i64 0,.int .i64 0,.string ⟨#[]⟩,.slice none 0 0] 25);obtain⟨l4,e3⟩:=exq<|w9.heap.size;have m9:i2.heap.size=w9.heap.size+1:=by rw[C];simp
 have hb:Below w9.heap.size w9 i2:=by rw[C];exact(Below.refl _ w9).alloc nlr _
 have u:i2.heap[l4]?=some (.cells #[.int .i64 0,.int .i64 0,.string ⟨#[]⟩,.slice none 0 0] 25 (0,0)):=by rw[e3,C];exact han w9 _
 replace k:=ho k hb;replace i:=ho i hb;replace j:=ho j hb;replace l:=ho l hb;replace m:=ho m hb;replace s:=ho s hb;replace z:=ho z hb;replace d:=kb d hb;replace h:=kb h hb;replace c:=nd c hb;clear hb;have o:=qh u;clear u;obtain⟨bJ,m4⟩:∃x,x=l4:=⟨_,rfl⟩;rw[<-m4]at o;have m0:=cellOf k.o.1 0 rfl;have m1:=cellOf k.o.1 1 rfl;have E:=cellOf k.o.1 2 rfl;have F:=cellOf k.o.1 3 rfl;rw[C]at m0 m1 E F;have n0:=cellOf i.o.1 0 rfl;have n1:=cellOf i.o.1 1 rfl;have n2:=cellOf i.o.1 2 rfl;have n3:=cellOf i.o.1 3 rfl;rw[C]at n0 n1 n2 n3;have g:=qh<|Fe i2 k.o.ma i.o.ma GR BU (l2.o i2 c.o)
 go_wp2_with fail
 clear m0 m1 E F;clear n0 n1 n2 n3;rw[<-e3,<-C];rw[<-m4];clear C m9 e3;clear m4;refine g.o.mono ?_;rintro r b1⟨hb,hr⟩;replace k:=ho k hb;replace i:=ho i hb;replace j:=ho j hb;replace l:=ho l hb;replace m:=ho m hb;replace s:=ho s hb;replace z:=ho z hb;replace d:=kb d hb;replace h:=kb h hb;replace o:=kb o hb;replace c:=nd c hb;clear hb;clear g
 rcases hr with⟨_,_,h1,h2,h3,_⟩|⟨_,_,_,rfl⟩|⟨g5,_⟩
 ·exact absurd ⟨h1,h2,h3⟩ Vj
 rotate_left
 ·exact absurd ⟨FC,Bi⟩ g5
 unfold AF;obtain⟨b2,G⟩:=exq<|b1.alloc (.cells #[.int .i64 0,.int .i64 0,.string ⟨#[]⟩,.slice none 0 0] 25);obtain⟨l5,e4⟩:=exq<|b1.heap.size;have g7:b2.heap.size=b1.heap.size+1:=by rw[G];simp
 have hb:Below b1.heap.size b1 b2:=by rw[G];exact(Below.refl _ b1).alloc nlr _
 have u:b2.heap[l5]?=some (.cells #[.int .i64 0,.int .i64 0,.string ⟨#[]⟩,.slice none 0 0] 25 (0,0)):=by rw[e4,G];exact han b1 _
 replace k:=ho k hb;replace i:=ho i hb;replace j:=ho j hb;replace l:=ho l hb;replace m:=ho m hb;replace s:=ho s hb;replace z:=ho z hb;replace d:=kb d hb;replace h:=kb h hb;replace o:=kb o hb;replace c:=nd c hb;clear hb;have p:=qh u;clear u;obtain⟨bT,m8⟩:∃x,x=l5:=⟨_,rfl⟩;rw[<-m8]at p;have m0:=cellOf j.o.1 0 rfl;have m1:=cellOf j.o.1 1 rfl;have E:=cellOf j.o.1 2 rfl;have F:=cellOf j.o.1 3 rfl;rw[G]at m0 m1 E F;obtain⟨b3,J⟩:=exq<|b2.alloc (.cells #[.int .i64 1] 3);obtain⟨o7,e5⟩:=exq<|b1.heap.size+1;have g8:b3.heap.size=b1.heap.size+1+1:=by rw[J];simp[g7]
 have hb:Below b2.heap.size b2 b3:=by rw[J];exact(Below.refl _ b2).alloc nlr _
 have u:Si none b3 (.slice (some (Ad o7 0)) 1 1) 1 (cst 1):=by rw[e5,<-g7,J];exact Bv (han b2 _) Bf (lt1 rfl)
 replace k:=ho k hb;replace i:=ho i hb;replace j:=ho j hb;replace l:=ho l hb;replace m:=ho m hb;replace s:=ho s hb;replace z:=ho z hb;replace d:=kb d hb;replace h:=kb h hb;replace o:=kb o hb;replace p:=kb p hb;replace c:=nd c hb;clear hb;have B:=qh u;clear u;obtain⟨j0,K⟩:=exq<|b3.alloc (.cells #[.int .i64 3] 3);obtain⟨o8,e6⟩:=exq<|b1.heap.size+1+1;have n5:j0.heap.size=b1.heap.size+1+1+1:=by rw[K];simp[g8]
 have hb:Below b3.heap.size b3 j0:=by rw[K];exact(Below.refl _ b3).alloc nlr _
 have u:Si none j0 (.slice (some (Ad o8 0)) 1 1) 1 (cst 3):=by rw[e6,<-g8,K];exact Bv (han b3 _) Bf (lt1 rfl)
 replace k:=ho k hb;replace i:=ho i hb;replace j:=ho j hb;replace l:=ho l hb;replace m:=ho m hb;replace s:=ho s hb;replace z:=ho z hb;replace d:=kb d hb;replace h:=kb h hb;replace o:=kb o hb;replace p:=kb p hb;replace B:=qh<|B.o.kept (Ab hb none);replace c:=nd c hb;clear hb;have I:=qh u;clear u;have g:=qh<|DL j0 j.o.ma ZM.o B.o I.o ev1;clear B I
 go_wp2_with fail
 clear m0 m1 E F;rw[<-e6,<-e5,<-e4,<-G,<-J,<-K];rw[<-m8];clear G g7 e4;clear J g8 e5;clear K n5 e6;clear m8;refine g.o.mono ?_;rintro r d5⟨rfl,hb⟩;replace k:=ho k hb;replace i:=ho i hb;replace j:=ho j hb;replace l:=ho l hb;replace m:=ho m hb;replace s:=ho s hb;replace z:=ho z hb;replace d:=kb d hb;replace h:=kb h hb;replace o:=kb o hb;replace p:=kb p hb;replace c:=nd c hb;clear hb;clear g;have m0:=cellOf j.o.1 0 rfl;have m1:=cellOf j.o.1 1 rfl;have E:=cellOf j.o.1 2 rfl;have F:=cellOf j.o.1 3 rfl;obtain⟨b4,L⟩:=exq<|d5.alloc (.cells #[.int .i64 1] 3);obtain⟨o9,e7⟩:=exq<|d5.heap.size;have g9:b4.heap.size=d5.heap.size+1:=by rw[L];simp
 have hb:Below d5.heap.size d5 b4:=by rw[L];exact(Below.refl _ d5).alloc nlr _
 have u:Si none b4 (.slice (some (Ad o9 0)) 1 1) 1 (cst 1):=by rw[e7,L];exact Bv (han d5 _) Bf (lt1 rfl)
 replace k:=ho k hb;replace i:=ho i hb;replace j:=ho j hb;replace l:=ho l hb;replace m:=ho m hb;replace s:=ho s hb;replace z:=ho z hb;replace d:=kb d hb;replace h:=kb h hb;replace o:=kb o hb;replace p:=kb p hb;replace c:=nd c hb;clear hb;have B:=qh u;clear u;obtain⟨j1,N⟩:=exq<|b4.alloc (.cells #[.int .i64 4] 3);obtain⟨p0,e8⟩:=exq<|d5.heap.size+1;have n6:j1.heap.size=d5.heap.size+1+1:=by rw[N];simp[g9]
 have hb:Below b4.heap.size b4 j1:=by rw[N];exact(Below.refl _ b4).alloc nlr _
 have u:Si none j1 (.slice (some (Ad p0 0)) 1 1) 1 (cst 4):=by rw[e8,<-g9,N];exact Bv (han b4 _) Bf (lt1 rfl)
 replace k:=ho k hb;replace i:=ho i hb;replace j:=ho j hb;replace l:=ho l hb;replace m:=ho m hb;replace s:=ho s hb;replace z:=ho z hb;replace d:=kb d hb;replace h:=kb h hb;replace o:=kb o hb;replace p:=kb p hb;replace B:=qh<|B.o.kept (Ab hb none);replace c:=nd c hb;clear hb;have I:=qh u;clear u;have g:=qh<|DL j1 j.o.ma ZM.o B.o I.o ev2;clear B I
 go_wp2_with fail
 clear m0 m1 E F;rw[<-e8,<-e7,<-L,<-N];clear L g9 e7;clear N n6 e8;refine g.o.mono ?_;rintro r d6⟨rfl,hb⟩;replace k:=ho k hb;replace i:=ho i hb;replace j:=ho j hb;replace l:=ho l hb;replace m:=ho m hb;replace s:=ho s hb;replace z:=ho z hb;replace d:=kb d hb;replace h:=kb h hb;replace o:=kb o hb;replace p:=kb p hb;replace c:=nd c hb;clear hb;clear g;have m0:=cellOf j.o.1 0 rfl;have m1:=cellOf j.o.1 1 rfl;have E:=cellOf j.o.1 2 rfl;have F:=cellOf j.o.1 3 rfl;obtain⟨b5,O⟩:=exq<|d6.alloc (.cells #[.int .i64 1] 3);obtain⟨p6,e9⟩:=exq<|d6.heap.size;have h0:b5.heap.size=d6.heap.size+1:=by rw[O];simp
 have hb:Below d6.heap.size d6 b5:=by rw[O];exact(Below.refl _ d6).alloc nlr _
 have u:Si none b5 (.slice (some (Ad p6 0)) 1 1) 1 (cst 1):=by rw[e9,O];exact Bv (han d6 _) Bf (lt1 rfl)
 replace k:=ho k hb;replace i:=ho i hb;replace j:=ho j hb;replace l:=ho l hb;replace m:=ho m hb;replace s:=ho s hb;replace z:=ho z hb;replace d:=kb d hb;replace h:=kb h hb;replace o:=kb o hb;replace p:=kb p hb;replace c:=nd c hb;clear hb;have B:=qh u;clear u;obtain⟨j2,P⟩:=exq<|b5.alloc (.cells #[.int .i64 2] 3);obtain⟨p7,f0⟩:=exq<|d6.heap.size+1;have n7:j2.heap.size=d6.heap.size+1+1:=by rw[P];simp[h0]
 have hb:Below b5.heap.size b5 j2:=by rw[P];exact(Below.refl _ b5).alloc nlr _
 have u:Si none j2 (.slice (some (Ad p7 0)) 1 1) 1 (cst 2):=by rw[f0,<-h0,P];exact Bv (han b5 _) Bf (lt1 rfl)
 replace k:=ho k hb;replace i:=ho i hb;replace j:=ho j hb;replace l:=ho l hb;replace m:=ho m hb;replace s:=ho s hb;replace z:=ho z hb;replace d:=kb d hb;replace h:=kb h hb;replace o:=kb o hb;replace p:=kb p hb;replace B:=qh<|B.o.kept (Ab hb none);replace c:=nd c hb;clear hb;have I:=qh u;clear u;have g:=qh<|DL j2 j.o.ma ZM.o B.o I.o ev3;clear B I;unfold infT at g
 go_wp2_with fail
 clear m0 m1 E F;rw[<-f0,<-e9,<-O,<-P];clear O h0 e9;clear P n7 f0;refine g.o.mono ?_;rintro r d7⟨rfl,hb⟩;replace k:=ho k hb;replace i:=ho i hb;replace j:=ho j hb;replace l:=ho l hb;replace m:=ho m hb;replace s:=ho s hb;replace z:=ho z hb;replace d:=kb d hb;replace h:=kb h hb;replace o:=kb o hb;replace p:=kb p hb;replace c:=nd c hb;clear hb;clear g;have m0:=cellOf l.o.1 0 rfl;have m1:=cellOf l.o.1 1 rfl;have E:=cellOf l.o.1 2 rfl;have F:=cellOf l.o.1 3 rfl;obtain⟨b6,Q⟩:=exq<|d7.alloc (.cells #[.int .i64 1,.int .i64 1] 3);obtain⟨p8,f1⟩:=exq<|d7.heap.size;have h4:b6.heap.size=d7.heap.size+1:=by rw[Q];simp
 have hb:Below d7.heap.size d7 b6:=by rw[Q];exact(Below.refl _ d7).alloc nlr _
 have u:Si none b6 (.slice (some (Ad p8 0)) 2 2) 2 (cst 1):=by rw[f1,Q];exact Bv (han d7 _) EK (lt2 rfl rfl)
 replace k:=ho k hb;replace i:=ho i hb;replace j:=ho j hb;replace l:=ho l hb;replace m:=ho m hb;replace s:=ho s hb;replace z:=ho z hb;replace d:=kb d hb;replace h:=kb h hb;replace o:=kb o hb;replace p:=kb p hb;replace c:=nd c hb;clear hb;have B:=qh u;clear u;obtain⟨j3,S⟩:=exq<|b6.alloc (.cells #[.int .i64 3] 3);obtain⟨p9,f2⟩:=exq<|d7.heap.size+1;have n9:j3.heap.size=d7.heap.size+1+1:=by rw[S];simp[h4]
 have hb:Below b6.heap.size b6 j3:=by rw[S];exact(Below.refl _ b6).alloc nlr _
 have u:Si none j3 (.slice (some (Ad p9 0)) 1 1) 1 (cst 3):=by rw[f2,<-h4,S];exact Bv (han b6 _) Bf (lt1 rfl)
 replace k:=ho k hb;replace i:=ho i hb;replace j:=ho j hb;replace l:=ho l hb;replace m:=ho m hb;replace s:=ho s hb;replace z:=ho z hb;replace d:=kb d hb;replace h:=kb h hb;replace o:=kb o hb;replace p:=kb p hb;replace B:=qh<|B.o.kept (Ab hb none);replace c:=nd c hb;clear hb;have I:=qh u;clear u;have g:=qh<|DL j3 l.o.ma ZN.o B.o I.o ev4;clear B I
 go_wp2_with fail
 clear m0 m1 E F;rw[<-f2,<-f1,<-Q,<-S];clear Q h4 f1;clear S n9 f2;refine g.o.mono ?_;rintro r d8⟨rfl,hb⟩;replace k:=ho k hb;replace i:=ho i hb;replace j:=ho j hb;replace l:=ho l hb;replace m:=ho m hb;replace s:=ho s hb;replace z:=ho z hb;replace d:=kb d hb;replace h:=kb h hb;replace o:=kb o hb;replace p:=kb p hb;replace c:=nd c hb;clear hb;clear g;have m0:=cellOf l.o.1 0 rfl;have m1:=cellOf l.o.1 1 rfl;have E:=cellOf l.o.1 2 rfl;have F:=cellOf l.o.1 3 rfl;obtain⟨b7,T⟩:=exq<|d8.alloc (.cells #[.int .i64 1] 3);obtain⟨q7,f3⟩:=exq<|d8.heap.size;have h5:b7.heap.size=d8.heap.size+1:=by rw[T];simp
 have hb:Below d8.heap.size d8 b7:=by rw[T];exact(Below.refl _ d8).alloc nlr _
 have u:Si none b7 (.slice (some (Ad q7 0)) 1 1) 1 (cst 1):=by rw[f3,T];exact Bv (han d8 _) Bf (lt1 rfl)
 replace k:=ho k hb;replace i:=ho i hb;replace j:=ho j hb;replace l:=ho l hb;replace m:=ho m hb;replace s:=ho s hb;replace z:=ho z hb;replace d:=kb d hb;replace h:=kb h hb;replace o:=kb o hb;replace p:=kb p hb;replace c:=nd c hb;clear hb;have B:=qh u;clear u;obtain⟨j4,U⟩:=exq<|b7.alloc (.cells #[.int .i64 3] 3);obtain⟨q8,f4⟩:=exq<|d8.heap.size+1;have o2:j4.heap.size=d8.heap.size+1+1:=by rw[U];simp[h5]
 have hb:Below b7.heap.size b7 j4:=by rw[U];exact(Below.refl _ b7).alloc nlr _
 have u:Si none j4 (.slice (some (Ad q8 0)) 1 1) 1 (cst 3):=by rw[f4,<-h5,U];exact Bv (han b7 _) Bf (lt1 rfl)
 replace k:=ho k hb;replace i:=ho i hb;replace j:=ho j hb;replace l:=ho l hb;replace m:=ho m hb;replace s:=ho s hb;replace z:=ho z hb;replace d:=kb d hb;replace h:=kb h hb;replace o:=kb o hb;replace p:=kb p hb;replace B:=qh<|B.o.kept (Ab hb none);replace c:=nd c hb;clear hb;have I:=qh u;clear u;have g:=qh<|DL j4 l.o.ma ZN.o B.o I.o ev5;clear B I;unfold infT at g
 go_wp2_with fail
 clear m0 m1 E F;rw[<-f4,<-f3,<-T,<-U];clear T h5 f3;clear U o2 f4;refine g.o.mono ?_;rintro r d9⟨rfl,hb⟩;replace k:=ho k hb;replace i:=ho i hb;replace j:=ho j hb;replace l:=ho l hb;replace m:=ho m hb;replace s:=ho s hb;replace z:=ho z hb;replace d:=kb d hb;replace h:=kb h hb;replace o:=kb o hb;replace p:=kb p hb;replace c:=nd c hb;clear hb;clear g;have m0:=cellOf m.o.1 0 rfl;have m1:=cellOf m.o.1 1 rfl;have E:=cellOf m.o.1 2 rfl;have F:=cellOf m.o.1 3 rfl;obtain⟨b8,X⟩:=exq<|d9.alloc (.cells #[.int .i64 1,.int .i64 1] 3);obtain⟨q9,f5⟩:=exq<|d9.heap.size;have h6:b8.heap.size=d9.heap.size+1:=by rw[X];simp
 have hb:Below d9.heap.size d9 b8:=by rw[X];exact(Below.refl _ d9).alloc nlr _
 have u:Si none b8 (.slice (some (Ad q9 0)) 2 2) 2 (cst 1):=by rw[f5,X];exact Bv (han d9 _) EK (lt2 rfl rfl)
 replace k:=ho k hb;replace i:=ho i hb;replace j:=ho j hb;replace l:=ho l hb;replace m:=ho m hb;replace s:=ho s hb;replace z:=ho z hb;replace d:=kb d hb;replace h:=kb h hb;replace o:=kb o hb;replace p:=kb p hb;replace c:=nd c hb;clear hb;have B:=qh u;clear u;obtain⟨j5,Y⟩:=exq<|b8.alloc (.cells #[.int .i64 1,.int .i64 1] 3);obtain⟨r0,f7⟩:=exq<|d9.heap.size+1;have o3:j5.heap.size=d9.heap.size+1+1:=by rw[Y];simp[h6]
 have hb:Below b8.heap.size b8 j5:=by rw[Y];exact(Below.refl _ b8).alloc nlr _
 have u:Si none j5 (.slice (some (Ad r0 0)) 2 2) 2 (cst 1):=by rw[f7,<-h6,Y];exact Bv (han b8 _) EK (lt2 rfl rfl)
 replace k:=ho k hb;replace i:=ho i hb;replace j:=ho j hb;replace l:=ho l hb;replace m:=ho m hb;replace s:=ho s hb;replace z:=ho z hb;replace d:=kb d hb;replace h:=kb h hb;replace o:=kb o hb;replace p:=kb p hb;replace B:=qh<|B.o.kept (Ab hb none);replace c:=nd c hb;clear hb;have I:=qh u;clear u;have g:=qh<|DL j5 m.o.ma ZO.o B.o I.o ev6;clear B I
 go_wp2_with fail
 clear m0 m1 E F;rw[<-f7,<-f5,<-X,<-Y];clear X h6 f5;clear Y o3 f7;refine g.o.mono ?_;rintro r e0⟨rfl,hb⟩;replace k:=ho k hb;replace i:=ho i hb;replace j:=ho j hb;replace l:=ho l hb;replace m:=ho m hb;replace s:=ho s hb;replace z:=ho z hb;replace d:=kb d hb;replace h:=kb h hb;replace o:=kb o hb;replace p:=kb p hb;replace c:=nd c hb;clear hb;clear g;have m0:=cellOf m.o.1 0 rfl;have m1:=cellOf m.o.1 1 rfl;have E:=cellOf m.o.1 2 rfl;have F:=cellOf m.o.1 3 rfl;obtain⟨b9,Z⟩:=exq<|e0.alloc (.cells #[.int .i64 1] 3);obtain⟨r2,f8⟩:=exq<|e0.heap.size;have h7:b9.heap.size=e0.heap.size+1:=by rw[Z];simp
 have hb:Below e0.heap.size e0 b9:=by rw[Z];exact(Below.refl _ e0).alloc nlr _
 have u:Si none b9 (.slice (some (Ad r2 0)) 1 1) 1 (cst 1):=by rw[f8,Z];exact Bv (han e0 _) Bf (lt1 rfl)
 replace k:=ho k hb;replace i:=ho i hb;replace j:=ho j hb;replace l:=ho l hb;replace m:=ho m hb;replace s:=ho s hb;replace z:=ho z hb;replace d:=kb d hb;replace h:=kb h hb;replace o:=kb o hb;replace p:=kb p hb;replace c:=nd c hb;clear hb;have B:=qh u;clear u;obtain⟨j6,a1⟩:=exq<|b9.alloc (.cells #[.int .i64 1] 3);obtain⟨r3,f9⟩:=exq<|e0.heap.size+1;have o4:j6.heap.size=e0.heap.size+1+1:=by rw[a1];simp[h7]
 have hb:Below b9.heap.size b9 j6:=by rw[a1];exact(Below.refl _ b9).alloc nlr _
 have u:Si none j6 (.slice (some (Ad r3 0)) 1 1) 1 (cst 1):=by rw[f9,<-h7,a1];exact Bv (han b9 _) Bf (lt1 rfl)
 replace k:=ho k hb;replace i:=ho i hb;replace j:=ho j hb;replace l:=ho l hb;replace m:=ho m hb;replace s:=ho s hb;replace z:=ho z hb;replace d:=kb d hb;replace h:=kb h hb;replace o:=kb o hb;replace p:=kb p hb;replace B:=qh<|B.o.kept (Ab hb none);replace c:=nd c hb;clear hb;have I:=qh u;clear u;have g:=qh<|DL j6 m.o.ma ZO.o B.o I.o ev7;clear B I;unfold infT at g
 go_wp2_with fail
 clear m0 m1 E F;rw[<-f9,<-f8,<-Z,<-a1];clear Z h7 f8;clear a1 o4 f9;refine g.o.mono ?_;rintro r e1⟨rfl,hb⟩;replace k:=ho k hb;replace i:=ho i hb;replace j:=ho j hb;replace l:=ho l hb;replace m:=ho m hb;replace s:=ho s hb;replace z:=ho z hb;replace d:=kb d hb;replace h:=kb h hb;replace o:=kb o hb;replace p:=kb p hb;replace c:=nd c hb;clear hb;clear g;have m0:=cellOf s.o.1 0 rfl;have m1:=cellOf s.o.1 1 rfl;have E:=cellOf s.o.1 2 rfl;have F:=cellOf s.o.1 3 rfl;obtain⟨d0,a2⟩:=exq<|e1.alloc (.cells #[.int .i64 2] 3);obtain⟨r4,g0⟩:=exq<|e1.heap.size;have h8:d0.heap.size=e1.heap.size+1:=by rw[a2];simp
 have hb:Below e1.heap.size e1 d0:=by rw[a2];exact(Below.refl _ e1).alloc nlr _
 have u:Si none d0 (.slice (some (Ad r4 0)) 1 1) 1 (cst 2):=by rw[g0,a2];exact Bv (han e1 _) Bf (lt1 rfl)
 replace k:=ho k hb;replace i:=ho i hb;replace j:=ho j hb;replace l:=ho l hb;replace m:=ho m hb;replace s:=ho s hb;replace z:=ho z hb;replace d:=kb d hb;replace h:=kb h hb;replace o:=kb o hb;replace p:=kb p hb;replace c:=nd c hb;clear hb;have B:=qh u;clear u;obtain⟨j7,a4⟩:=exq<|d0.alloc (.cells #[.int .i64 3] 3);obtain⟨r5,g1⟩:=exq<|e1.heap.size+1;have o5:j7.heap.size=e1.heap.size+1+1:=by rw[a4];simp[h8]
 have hb:Below d0.heap.size d0 j7:=by rw[a4];exact(Below.refl _ d0).alloc nlr _
 have u:Si none j7 (.slice (some (Ad r5 0)) 1 1) 1 (cst 3):=by rw[g1,<-h8,a4];exact Bv (han d0 _) Bf (lt1 rfl)
 replace k:=ho k hb;replace i:=ho i hb;replace j:=ho j hb;replace l:=ho l hb;replace m:=ho m hb;replace s:=ho s hb;replace z:=ho z hb;replace d:=kb d hb;replace h:=kb h hb;replace o:=kb o hb;replace p:=kb p hb;replace B:=qh<|B.o.kept (Ab hb none);replace c:=nd c hb;clear hb;have I:=qh u;clear u;have g:=qh<|DL j7 s.o.ma ZP.o B.o I.o ev8;clear B I
 go_wp2_with fail
 clear m0 m1 E F;rw[<-g1,<-g0,<-a2,<-a4];clear a2 h8 g0;clear a4 o5 g1;refine g.o.mono ?_;rintro r e2⟨rfl,hb⟩;replace k:=ho k hb;replace i:=ho i hb;replace j:=ho j hb;replace l:=ho l hb;replace m:=ho m hb;replace s:=ho s hb;replace z:=ho z hb;replace d:=kb d hb;replace h:=kb h hb;replace o:=kb o hb;replace p:=kb p hb;replace c:=nd c hb;clear hb;clear g;have m0:=cellOf z.o.1 0 rfl;have m1:=cellOf z.o.1 1 rfl;have E:=cellOf z.o.1 2 rfl;have F:=cellOf z.o.1 3 rfl;obtain⟨d1,a5⟩:=exq<|e2.alloc (.cells #[.int .i64 2] 3);obtain⟨r6,g2⟩:=exq<|e2.heap.size;have h9:d1.heap.size=e2.heap.size+1:=by rw[a5];simp
 have hb:Below e2.heap.size e2 d1:=by rw[a5];exact(Below.refl _ e2).alloc nlr _
 have u:Si none d1 (.slice (some (Ad r6 0)) 1 1) 1 (cst 2):=by rw[g2,a5];exact Bv (han e2 _) Bf (lt1 rfl)
 replace k:=ho k hb;replace i:=ho i hb;replace j:=ho j hb;replace l:=ho l hb;replace m:=ho m hb;replace s:=ho s hb;replace z:=ho z hb;replace d:=kb d hb;replace h:=kb h hb;replace o:=kb o hb;replace p:=kb p hb;replace c:=nd c hb;clear hb;have B:=qh u;clear u;obtain⟨j8,a6⟩:=exq<|d1.alloc (.cells #[.int .i64 3] 3);obtain⟨r7,g3⟩:=exq<|e2.heap.size+1;have o6:j8.heap.size=e2.heap.size+1+1:=by rw[a6];simp[h9]
 have hb:Below d1.heap.size d1 j8:=by rw[a6];exact(Below.refl _ d1).alloc nlr _
 have u:Si none j8 (.slice (some (Ad r7 0)) 1 1) 1 (cst 3):=by rw[g3,<-h9,a6];exact Bv (han d1 _) Bf (lt1 rfl)
 replace k:=ho k hb;replace i:=ho i hb;replace j:=ho j hb;replace l:=ho l hb;replace m:=ho m hb;replace s:=ho s hb;replace z:=ho z hb;replace d:=kb d hb;replace h:=kb h hb;replace o:=kb o hb;replace p:=kb p hb;replace B:=qh<|B.o.kept (Ab hb none);replace c:=nd c hb;clear hb;have I:=qh u;clear u;have g:=qh<|DL j8 z.o.ma ZQ.o B.o I.o ev9;clear B I;unfold infT at g
 go_wp2_with fail
 clear m0 m1 E F;rw[<-g3,<-g2,<-a5,<-a6];clear a5 h9 g2;clear a6 o6 g3;refine g.o.mono ?_;rintro r L1⟨rfl,hb⟩;replace k:=ho k hb;replace i:=ho i hb;replace j:=ho j hb;replace l:=ho l hb;replace m:=ho m hb;replace s:=ho s hb;replace z:=ho z hb;replace d:=kb d hb;replace h:=kb h hb;replace o:=kb o hb;replace p:=kb p hb;replace c:=nd c hb;clear hb;clear g;go_wp2;go_ret;exact⟨rfl,c.o⟩
end
end Go.Proofs.YtpldocnhbdlgfaaGreatDoor
