/- Parts. -/
import Derived.Test.YtpldocnhbdlgfaaGreatDoorPb38
namespace Go.Proofs.YtpldocnhbdlgfaaGreatDoor
set_option maxRecDepth 100000
set_option linter.all false
set_option maxHeartbeats 16000000
open Go Tryz
section
open Go.RowKit Go.Deep
variable{A B:MD}{n:Nat}
structure Crv(A B:MD)(n:Nat)(S:List Plc × MD)(ac fl:Nat):Prop where
 nd:S.1.Nodup
 kd:S.2.kind=A.kind
 len:S.2.n=S.1.length
 ok:∀x ∈ S.1,x.1<A.n/\x.2.1<B.n
 le:S.1.length<=3001
 na:∀i,S.2.na i<=ac
 ac1:ac<=30001
 nn:n<=S.1.length
 good:fl=0->S=itP A B (λ_=>true) n/\ac=acP A B (λ_=>true) n/\(Ae A.kind A.lead B.lead).2=0/\∀i p q f,i<n->S.1[i]?=some (p,q,f)->PrOk A B p q
def Crv.lvr{S:List Plc × MD}{c:Nat}(h:Crv A B n S c 0)(hn:n<S.1.length):Lvr A B n [] S S c c 0 :=
 ⟨h.nd,h.kd,h.len,h.ok,h.le,h.na,h.ac1,hn,⟨[],by simp⟩,λ_=>⟨rfl,rfl⟩⟩
def Crv.next{S o:List Plc × MD}{u g j p q:Nat}{f:Bool}(h:Crv A B n S u 0)(k:S.1[n]?=some (p,q,f))(c:Lvr A B n (arL A B true p q f) (S.1,finP A B p q n S.2) o u g j)(I:j=0->PrOk A B p q):Crv A B (n+1) o g j:=by
 obtain⟨m,l⟩:=c.pre;have l:o.1=S.1++m:=l;have H:n<S.1.length:=by
  rcases Nat.lt_or_ge n S.1.length with s|s
  ·exact s
  rw[List.getElem?_eq_none s]at k;cases k
 refine⟨c.nd,c.kd,c.len,c.ok,c.le,c.na,c.ac1,c.n1,λe=>?_⟩;obtain⟨z,E,F,G⟩:=h.good rfl;obtain⟨k1,k2⟩:=c.good e;refine⟨?_,?_,F,λi J K D hi d=>?_⟩
 ·rw[k1];show _=Ct A B (λ_=>true) n (itP A B (λ_=>true) n);rw[<-z];unfold Ct;rw[k]
 ·show g=acP A B (λ_=>true) n+match (itP A B (λ_=>true) n).1[n]? with|none=>0|some (p,q,f)=>(arL A B true p q f).length
  rw[<-z,k,k2,E]
 by_cases C:i=n
 ·subst C;rw[l,List.getElem?_append_left H,k]at d;cases d;exact I e
 rw[l,List.getElem?_append_left (by omega)]at d;exact G i J K D (by omega) d
theorem Crv.start{A B:MD}{fl:Nat}(c:VM A)(d:VM B)(h:fl=0->(Ae A.kind A.lead B.lead).2=0):Crv A B 0 (it0 A B) 0 fl:=by
 have:=c.s0;have:=c.s1;have:=d.s0;have:=d.s1;refine⟨by simp[it0],rfl,rfl,λx g=>?_,by simp[it0],λi=>?_,by omega,by omega,λe=>⟨rfl,rfl,h e,λi p q f hi=>by omega⟩⟩
 ·have e:x=(A.start.toNat,B.start.toNat,false):=List.mem_singleton.1 g;subst e;exact⟨by show A.start.toNat<A.n;omega,by show B.start.toNat<B.n;omega⟩
 show (if i=0 then 0 else 0)<=0
 split<;>omega
def Crv.is{S:List Plc × MD}{o:Nat}(d:VM A)(m:VM B)(j:A.kind=B.kind)(g:MSz A)(i:MSz B)(h:Crv A B n S o 0)(hn:n=S.1.length):CmpIr A B n S.2/\MSz S.2:=by
 obtain⟨c,s,u,l⟩:=h.good rfl;obtain⟨k1,k2,k3⟩:=JH d m j g i (al:=λ_=>true) n (by rw[<-c];omega) (by rw[<-c];exact l);refine⟨⟨by rw[<-c];exact hn.symm,by rw[<-c],u,by rw[<-c];exact l⟩,?_⟩;rw[c];rw[<-s]at k1;obtain⟨k,E⟩:=d.kk;obtain⟨z,_⟩:=Jp.it (k:=k) (al:=λ_=>true) d m n (by rw[<-c];omega);obtain⟨C,D,p⟩:=z.hd;exact BOk.msz k1 (by rw[k3];exact d.kind) (by rw[k2,<-c];have:=h.le;omega) (by rw[p];exact Gy _ _ _) (by have:=h.ac1;omega)
def CrL(B0 cb rb:Nat)(A B:MD)(sa sb:Value)(w:World)(n:Nat)(W:World):Prop :=
 ∃(S:List Plc × MD) (R:Nat->Value) (sv qv:Value) (ac fl:Nat),Rps W B0 cb A B sa sb S.1 S.2 R sv qv ac fl/\Crv A B n S ac fl/\Below B0 w W/\FbR cb W sv R S.2.n qv rb/\W.heap[rb]?=some (.cells #[.int .i64 0,.int .i64 0,.string ⟨#[]⟩,.slice none 0 0] 25 (0,0))
def CrE(A B:MD)(w:World)(r:Ending)(w':World):Prop :=
 Below w.heap.size w w'/\((VM A/\VM B/\A.kind=B.kind/\
  ((∃n M,CmpIr A B n M/\VM M/\MSz M/\∃sv R,r=.returned (.tuple #[.agg #[.int .i64 M.kind,.int .i64 M.start,.string M.lead,sv],.int .i64 0])/\OwM w' w.heap.size sv M R)\/r=.returned (.tuple #[AQ,.int .i64 2])))\/
  (VM A/\VM B/\A.kind≠B.kind/\r=.returned (.tuple #[AQ,.int .i64 6]))\/(¬(VM A/\VM B)/\r=.returned (.tuple #[AQ,.int .i64 1])))
def Wg{D E:MD}{mv nv:Value}(w:World)(hM:Ma none w mv D)(hN:Ma none w nv E)(a5:MSz D)(a6:MSz E):Calls prog 15 #[mv,nv] w (CrE D E w):=by
 obtain⟨sv,rfl,hS⟩:=hM;obtain⟨sw,rfl,e4⟩:=hN;obtain⟨a,cp,_,_,_,_,_,_,i9,_⟩:=hS.open;obtain⟨a2,l,_,_,_,_,_,_,s4,_⟩:=e4.open;subst i9;subst s4;have i3:∀W,Below w.heap.size w W->Ma none W (.agg #[.int .i64 D.kind,.int .i64 D.start,.string D.lead,.slice a D.n cp]) D:=λW h=>⟨_,rfl,hS.kept (Ag h none)⟩;have d8:∀W,Below w.heap.size w W->Ma none W (.agg #[.int .i64 E.kind,.int .i64 E.start,.string E.lead,.slice a2 E.n l]) E:=λW h=>⟨_,rfl,e4.kept (Ag h none)⟩;obtain⟨w1,a7⟩:=exq<|w.alloc (.cells #[.int .i64 D.kind,.int .i64 D.start,.string D.lead,.slice a D.n cp] 25);obtain⟨w2,a8⟩:=exq<|w1.alloc (.cells #[.int .i64 E.kind,.int .i64 E.start,.string E.lead,.slice a2 E.n l] 25);obtain⟨w3,e1⟩:=exq<|w2.alloc (.cells #[.int .i64 0,.int .i64 0,.string ⟨#[]⟩,.slice none 0 0] 25);have j0:w1.heap.size=w.heap.size+1:=by rw[a7];simp
 have o4:w2.heap.size=w.heap.size+1+1:=by rw[a8];simp[j0]
 have m5:Fr (λ_=>False) w w1:=by rw[a7];exact Fr.alloc _ _
 have h5:Fr (λ_=>False) w1 w2:=by rw[a8];exact Fr.alloc _ _
 have e6:Fr (λ_=>False) w2 w3:=by rw[e1];exact Fr.alloc _ _
 have i2:w1.heap[w.heap.size]?=some (.cells #[.int .i64 D.kind,.int .i64 D.start,.string D.lead,.slice a D.n cp] 25 (0,0)):=by rw[a7];exact han w _
 have z:w3.heap[w.heap.size]?=some (.cells #[.int .i64 D.kind,.int .i64 D.start,.string D.lead,.slice a D.n cp] 25 (0,0)):=(e6.block _ (by omega) (λe=>e)).trans ((h5.block _ (lbk i2) (λe=>e)).trans i2);have g2:w2.heap[w.heap.size+1]?=some (.cells #[.int .i64 E.kind,.int .i64 E.start,.string E.lead,.slice a2 E.n l] 25 (0,0)):=by rw[<-j0,a8];exact han w1 _
 have G:w3.heap[w.heap.size+1]?=some (.cells #[.int .i64 E.kind,.int .i64 E.start,.string E.lead,.slice a2 E.n l] 25 (0,0)):=(e6.block _ (by omega) (λe=>e)).trans g2;have H:w3.heap[w.heap.size+1+1]?=some (.cells #[.int .i64 0,.int .i64 0,.string ⟨#[]⟩,.slice none 0 0] 25 (0,0)):=by rw[<-o4,e1];exact han w2 _
 have h1:Below w.heap.size w w3:=((m5.trans h5).trans e6).below nlr (λ_ e=>e.elim);obtain⟨mb,e8⟩:=exq<|w.heap.size;obtain⟨nb,i5⟩:=exq<|w.heap.size+1;obtain⟨m,i7⟩:=exq<|w.heap.size+1+1;have a4:w.heap.size<=m:=by omega
 rw[<-e8]at z;rw[<-i5]at G;rw[<-i7]at H;obtain⟨⟨m0,m1,m2,m3⟩,_⟩:=cells4 z;have l1:=qh<|Ei w3 (i3 w3 h1) a5;replace i3:=qh i3;replace d8:=qh d8;have g4:=qh h1;clear h1;have j:=qh z;clear z i2 m5 h5 e6 j0 o4 g2;have d:=qh G;clear G;have c:=qh H;clear H;replace a5:=qh a5;replace a6:=qh a6;have p0:=qh hS;have p6:=qh e4;clear hS e4;rw[e8,e1,a8,a7]at m0 m1 m2 m3
 go_enter func15,ntmps15
 go_wp2_with fail
 rw[<-a7,<-a8,<-e1,<-i7,<-i5,<-e8];clear m0 m1 m2 m3 a7 a8 e1 e8 i5 i7;refine l1.o.mono ?_;rintro r w4⟨b9,hr⟩;have z:=(b9.block _ (lbk j.o)).trans j.o;have G:=(b9.block _ (lbk d.o)).trans d.o;have H:=(b9.block _ (lbk c.o)).trans c.o;have b1:=qh<|g4.o.trans (b9.mono g4.o.size);clear b9 j d c l1 g4;have j:=qh z;clear z;have d:=qh G;clear G;have c:=qh H;clear H
 rcases hr with⟨hv,rfl⟩|⟨hv,rfl⟩
 rotate_left
 ·have HV:=qh hv;clear hv;obtain⟨⟨r0,r1,r2,r3⟩,g⟩:=cells4 c.o;have f0:=g 0;have f1:=g 1;have f2:=g 2;have f3:=g 3;clear g
  go_wp2_with fail
  exact bodyPost_ret (AG rfl _ (b:=m) rfl rfl (AE w4 m _ _ _ _ c.o)) rfl ⟨Ay b1.o a4 _ _ _ _,.inr (.inr ⟨λh=>HV.o h.1,rfl⟩)⟩
 have HV:=qh hv;clear hv;obtain⟨⟨n0,n1,n2,n3⟩,_⟩:=cells4 d.o;have l2:=qh<|Ei w4 (d8.o w4 b1.o) a6.o
 go_wp2_with fail
 clear n0 n1 n2 n3;refine l2.o.mono ?_;rintro r J⟨d0,hr⟩;have z:=(d0.block _ (lbk j.o)).trans j.o;have G:=(d0.block _ (lbk d.o)).trans d.o;have H:=(d0.block _ (lbk c.o)).trans c.o;have b2:=qh<|b1.o.trans (d0.mono b1.o.size);clear d0 j d c l2 b1;have j:=qh z;clear z;have d:=qh G;clear G;have c:=qh H;clear H
 rcases hr with⟨hv,rfl⟩|⟨hv,rfl⟩
 rotate_left
 ·have s:=qh hv;clear hv;obtain⟨⟨r0,r1,r2,r3⟩,g⟩:=cells4 c.o;have f0:=g 0;have f1:=g 1;have f2:=g 2;have f3:=g 3;clear g
  go_wp2_with fail
  exact bodyPost_ret (AG rfl _ (b:=m) rfl rfl (AE J m _ _ _ _ c.o)) rfl ⟨Ay b2.o a4 _ _ _ _,.inr (.inr ⟨λh=>s.o h.2,rfl⟩)⟩
 have s:=qh hv;clear hv;obtain⟨⟨m0,m1,m2,m3⟩,_⟩:=cells4 j.o;obtain⟨⟨n0,n1,n2,n3⟩,_⟩:=cells4 d.o;by_cases P:D.kind=E.kind
 rotate_left
 ·have r5:(D.kind==E.kind)=false:=by simp[P]
  have r6:decide (D.kind=E.kind)=false:=by simp[P]
  have o8:=qh P;clear P;obtain⟨⟨r0,r1,r2,r3⟩,g⟩:=cells4 c.o;have f0:=g 0;have f1:=g 1;have f2:=g 2;have f3:=g 3;clear g
  go_wp2_with fail
  exact bodyPost_ret (AG rfl _ (b:=m) rfl rfl (AE J m _ _ _ _ c.o)) rfl ⟨Ay b2.o a4 _ _ _ _,.inr (.inl ⟨HV.o,s.o,o8.o,rfl⟩)⟩
 have r5:(D.kind==E.kind)=true:=by simp[P]
 have r6:decide (D.kind=E.kind)=true:=by simp[P]
 have b6:=qh P;clear P;obtain⟨u,d4⟩:=exq<|J.heap.size;obtain⟨w6,a9⟩:=exq<|J.alloc (.cells (rcs D E (.slice a D.n cp) (.slice a2 E.n l) (AU 0 0 ⟨#[]⟩) (.slice none 0 0) (.slice none 0 0) 0 0) 79);have s5:w6.heap.size=J.heap.size+1:=by rw[a9];simp
 have h2:Below J.heap.size J w6:=by rw[a9];exact(Below.refl _ J).alloc nlr _
 have d5:w6.heap[u]?=some (.cells (rcs D E (.slice a D.n cp) (.slice a2 E.n l) (AU 0 0 ⟨#[]⟩) (.slice none 0 0) (.slice none 0 0) 0 0) 79 (0,0)):=by rw[d4,a9];exact han J _
 obtain⟨Q,Z⟩:=exq<|J.alloc (.cells (rcs D E (.slice a D.n cp) (.slice a2 E.n l) (AU D.kind 0 ⟨#[]⟩) (.slice none 0 0) (.slice none 0 0) 0 0) 79);have d1:Below J.heap.size J Q:=by rw[Z];exact(Below.refl _ J).alloc nlr _
 have L:Q.heap[u]?=some (.cells (rcs D E (.slice a D.n cp) (.slice a2 E.n l) (AU D.kind 0 ⟨#[]⟩) (.slice none 0 0) (.slice none 0 0) 0 0) 79 (0,0)):=by rw[d4,Z];exact han J _
 have o3:w.heap.size<=J.heap.size:=b2.o.size;have g3:w.heap.size<=u:=by omega
 have h4:Rps Q w.heap.size u D E (.slice a D.n cp) (.slice a2 E.n l) [] (AU D.kind 0 ⟨#[]⟩) (λ_=>.slice none 0 0) (.slice none 0 0) (.slice none 0 0) 0 0 :=
  ⟨L,OwM.empty _ _ _ _ _ _,World.ownsRow_nil Q _ _ 3,g3⟩
 have g1:Below w.heap.size w Q:=b2.o.trans<|d1.mono o3;have c8:Q.cell? (Ad u 8)=some (.int .i64 D.kind):=by have h:=Rcs.c8 L;exact h
 have l0:=qh<|KB (k:=D.kind) Q c8 (Rcs.c14 L) (Rcs.fz L 14) h4.lt D.lead E.lead a5.o.lead a6.o.lead;have i4:mb<J.heap.size:=lbk j.o;have i6:nb<J.heap.size:=lbk d.o;have n9:m<J.heap.size:=lbk c.o;have n6:mb≠u:=by omega
 have n7:nb≠u:=by omega
 have i8:m≠u:=by omega
 have j2:=(h2.block _ i4).trans j.o;have j3:=(h2.block _ i6).trans d.o;have k2:=(d1.block _ i4).trans j.o;have k3:=(d1.block _ i6).trans d.o;have k4:=(d1.block _ n9).trans c.o;have o2:Q.heap.size=J.heap.size+1:=by rw[Z];simp
 have O:FbR u Q (.slice none 0 0) (λ_=>.slice none 0 0) 0 (.slice none 0 0) m:=⟨i8,by omega,by simp[Value.ownBlock],λi hi=>absurd hi (Nat.not_lt_zero _),by simp[Value.ownBlock]⟩;have q0:=(cells4 j2).1.1;have q2:=(cells4 k2).1.2.2.1;have q3:=(cells4 k3).1.2.2.1;have q8:=Rcs.c8 d5;have q9:=Rcs.fz d5 8;have g5:=qh h4;clear h4;have f7:=qh g1;clear g1;have C:=qh O;clear O;have b0:=qh (show w.heap.size<=Q.heap.size by omega);have k6:=qh n6;have k7:=qh n7;have k9:=qh i8;clear c8 h2 d1 d5 L s5 o2 n6 n7 i8 i4 i6 n9 o3 g3 j2 j3;have b3:=qh k2;have b4:=qh k3;have b5:=qh k4;clear k2 k3 k4 j d c b2;unfold rcs AU at a9 Z;unfold AU at q8
 dsimp only at q8
 rw[Z]at q2 q3;rw[a9]at q0 q8 q9;rw[d4]at q8 q9
 go_wp2_with fail
 rw[<-d4,<-Z];clear q0 q2 q3 q8 q9 a9 Z d4 m0 m1 m2 m3 n0 n1 n2 n3;refine l0.o.mono ?_;rintro r w8⟨rfl,v5,A,e2⟩;have r4:∃fl:Nat,Rps w8 w.heap.size u D E (.slice a D.n cp) (.slice a2 E.n l) [] (AU D.kind 0 ⟨#[]⟩) (λ_=>.slice none 0 0) (.slice none 0 0) (.slice none 0 0) 0 fl/\RfK u Q (.slice none 0 0) (λ_=>.slice none 0 0) 0 (.slice none 0 0) w8 (.slice none 0 0) (λ_=>.slice none 0 0) 0 (.slice none 0 0)/\Below w.heap.size Q w8/\(∀b,b<Q.heap.size->b≠u->w8.heap[b]?=Q.heap[b]?)/\(fl=0->(Ae D.kind D.lead E.lead).2=0):=by
  obtain⟨h6,h7⟩:=g5.o.below A;by_cases h8:(Ae D.kind D.lead E.lead).2=0
  ·rw[ifp h8]at e2;subst e2;exact⟨0,h6,h7,A.mono b0.o,λb h0 _=>A.block b h0,λ_=>h8⟩
  rw[ifn h8]at e2;subst e2;obtain⟨h9,q7⟩:=h6.err (((Ae D.kind D.lead E.lead).2:Nat):Int);exact⟨_,h9,h7.trans q7,(A.mono b0.o).setCell (p:=(Ad u 14)) g5.o.low _,λb h0 hn=>(Aw hn).trans (A.block b h0),λe=>e⟩
 obtain⟨fl,d3,m7,l8,e7,m8⟩:=r4;clear A e2;have k2:=(e7 mb (lbk b3.o) k6.o).trans b3.o;have k3:=(e7 nb (lbk b4.o) k7.o).trans b4.o;have k4:=(e7 m (lbk b5.o) k9.o).trans b5.o;have f4:=m7.fb C.o;have j1:=qh<|f7.o.trans l8;clear m7 e7 l8 l0 g5 f7 b3 b4 b5 C b0;have j9:=qh m8;clear m8;have a1:=Rcs.c10 d3.blk;have t8:=Rcs.fz d3.blk 10;unfold AU at a1
 dsimp only at a1
 obtain⟨w9,I⟩:=exq<|w8.setCell ⟨u,10,none⟩ (.string (Ae D.kind D.lead E.lead).1);have e5:=d3.lead (Ae D.kind D.lead E.lead).1;rw[<-I]at e5;have j2:w9.heap[mb]?=_:=(by rw[I];exact Aw k6.o:w9.heap[mb]?=w8.heap[mb]?).trans k2;have j3:w9.heap[nb]?=_:=(by rw[I];exact Aw k7.o:w9.heap[nb]?=w8.heap[nb]?).trans k3;have j4:w9.heap[m]?=_:=(by rw[I];exact Aw k9.o:w9.heap[m]?=w8.heap[m]?).trans k4;have h3:Below w.heap.size w w9:=by rw[I];exact j1.o.setCell (p:=(Ad u 10)) d3.low _
 have f9:FbR u w9 (.slice none 0 0) (λ_=>.slice none 0 0) 0 (.slice none 0 0) m:=⟨f4.1,by rw[I,nblk_setCell];exact f4.2.1,f4.2.2⟩;have m1:=(cells4 j2).1.2.1;have n1:=(cells4 j3).1.2.1;rw[I]at m1 n1;have b7:=qh<|OG w9 e5 rfl h3.size (by simp) (D.start.toNat,E.start.toNat,false);unfold plV at b7
 dsimp only at b7
 rw[Int.toNat_of_nonneg HV.o.s0,Int.toNat_of_nonneg s.o.s0]at b7;have o6:=qh e5;clear e5 d3 k2 k3 k4 f4 j2 j3;have j5:=qh h3;clear h3 j1;have g6:=qh f9;clear f9;have k0:=qh j4;clear j4
 go_wp2_with fail
 rw[<-I];clear a1 t8 m1 n1 I;refine b7.o.mono ?_;rintro r t7⟨rfl,⟨R1,s9,s7,d2,F⟩,g0⟩;have e0:numP ([],({ AU D.kind 0 ⟨#[]⟩ with lead:=(Ae D.kind D.lead E.lead).1 }:MD)) (D.start.toNat,E.start.toNat,false)=it0 D E:=rfl;rw[e0]at d2 F;have l6:CrL w.heap.size u m D E (.slice a D.n cp) (.slice a2 E.n l) w 0 t7:=⟨it0 D E,R1,s9,s7,0,fl,d2,Crv.start HV.o s.o j9.o,j5.o.trans g0,F.fb g6.o,F.bx g6.o k0.o⟩;have k5:=qh l6;clear l6 d2 F g0 o6 j5 g6 k0 b7 e0 j9
 go_wp2_with fail
 go_loopw [7] (λi W=>∃n:Nat,n<=3001/\i=.int .i64 (n:Int)/\CrL w.heap.size u m D E (.slice a D.n cp) (.slice a2 E.n l) w n W) (λi _=>3001-(intOf i).toNat)
 case atStart=>exact⟨0,by omega,rfl,k5.o⟩
 clear k5;obtain⟨n,v0,rfl,S,R,sv,qv,ac,fl,hc,N,U,O,o⟩:=hrel;obtain⟨qa,qc,Y,_,r9⟩:=Az hc.que;have t9:qc<=9223372036854775807:=by unfold maxLen at r9;omega
 have s3:=N.le;have e3:=Rcs.c12 hc.blk;have l5:=Rcs.c14 hc.blk;rw[Y]at e3;obtain⟨ln,X⟩:=exq<|S.1.length;rw[<-X]at e3 s3;by_cases m4:fl=0
 ·subst m4;by_cases r7:n<ln
  ·obtain⟨x,hx⟩:∃x,S.1[n]?=some x:=⟨_,List.getElem?_eq_getElem (by omega)⟩;obtain⟨p,q,f⟩:=x;have j8:=qh<|Wt wr p0.o p6.o U HV.o s.o b6.o a5.o a6.o hc (N.lvr (by omega)) hx;have n5:((n:Int)<(ln:Int)):=by omega
   have HX:=qh hx;clear hx;have j7:=qh N;clear N;have K:=qh U;clear U;have C:=qh O;clear O;have T:=qh o;clear o;have g7:=qh Y;clear Y;replace X:=qh X;clear hc
   go_wp2_with fail
   refine j8.o.mono ?_;rintro r W'⟨rfl,S',p8,p9,⟨⟨R',s8,s6,l9,d6⟩,l7⟩,hL,hz⟩;have d9:CrL w.heap.size u m D E (.slice a D.n cp) (.slice a2 E.n l) w (n+1) W':=⟨S',R',s8,s6,p8,p9,l9,j7.o.next HX.o hL hz,K.o.trans l7,d6.fb C.o,d6.bx C.o T.o⟩;replace d9:=qh d9;clear l9 d6 l7 hL hz j8 j7 HX K C T g7 e3 l5
   go_wp2_with fail
   exact⟨⟨n+1,by omega,by norm_cast,d9.o⟩,by simp[intOf];omega⟩
  have r8:¬((n:Int)<(ln:Int)):=by omega
  obtain⟨m9,e9⟩:=N.is HV.o s.o b6.o a5.o a6.o (by have:=N.nn;omega);clear N;obtain⟨ta,tc,i9,_,_⟩:=Az hc.own.top;subst i9;have g8:=Rcs.c8 hc.blk;have g9:=Rcs.c9 hc.blk;have a1:=Rcs.c10 hc.blk;have l4:=Rcs.c11 hc.blk;have l3:=qh<|Ei wr (hc.own.ma (Below.refl _ wr)) e9;have o7:=qh m9;replace e9:=qh e9;clear m9;have HC:=qh hc;clear hc;have K:=qh U;clear U;have C:=qh O;clear O;have T:=qh o;clear o;have g7:=qh Y;clear Y;replace X:=qh X
  go_wp2_with fail
  clear g8 g9 a1 l4 e3 l5;refine l3.o.mono ?_;rintro r o5⟨b8,hr⟩;obtain⟨B,d7⟩:=HC.o.below b8;have o:=d7.bx C.o T.o;have j6:=qh<|K.o.trans (b8.mono K.o.size);obtain⟨⟨r0,r1,r2,r3⟩,g⟩:=cells4 o;have f0:=g 0;have f1:=g 1;have f2:=g 2;have f3:=g 3;clear g;have g8:=Rcs.c8 B.blk;have g9:=Rcs.c9 B.blk;have a1:=Rcs.c10 B.blk;have l4:=Rcs.c11 B.blk;have o9:=qh<|B.own.box4 o (.int .i64 S.2.kind) (.int .i64 S.2.start) (.string S.2.lead) (.slice ta S.2.n tc);have f8:=qh o;clear o B d7 b8 l3 HC C T K
  rcases hr with⟨f5,rfl⟩|⟨f5,rfl⟩
  ·have p7:=qh f5;clear f5
   go_wp2_with fail
   exact bodyPost_ret (AG rfl _ (b:=m) rfl rfl (AE o5 m _ _ _ _ f8.o)) rfl ⟨Ay j6.o a4 _ _ _ _,.inl ⟨HV.o,s.o,b6.o,.inl ⟨n,S.2,o7.o,p7.o,e9.o,_,R,rfl,o9.o⟩⟩⟩
  clear f5
  go_wp2_with fail
  exact bodyPost_ret (AG rfl _ (b:=m) rfl rfl (AE o5 m _ _ _ _ f8.o)) rfl ⟨Ay j6.o a4 _ _ _ _,.inl ⟨HV.o,s.o,b6.o,.inr rfl⟩⟩
 have v2:¬((fl:Int)=0):=by omega
 have v3:((fl:Int)==0)=false:=by simp;omega
 have v4:decide ((fl:Int)=0)=false:=by simp;omega
 clear N hc m4;obtain⟨⟨r0,r1,r2,r3⟩,g⟩:=cells4 o;have f0:=g 0;have f1:=g 1;have f2:=g 2;have f3:=g 3;clear g;have K:=qh U;clear U;have T:=qh o;clear o;have g7:=qh Y;clear Y;replace X:=qh X;clear O;by_cases r7:n<ln;have n5:((n:Int)<(ln:Int)):=by omega
 rotate_left
 have r8:¬((n:Int)<(ln:Int)):=by omega
 all_goals
  go_wp2_with fail
  exact bodyPost_ret (AG rfl _ (b:=m) rfl rfl (AE wr m _ _ _ _ T.o)) rfl ⟨Ay K.o a4 _ _ _ _,.inl ⟨HV.o,s.o,b6.o,.inr rfl⟩⟩

variable{x:Nat->Int}{D:MD}{na:Nat}
def wrE(D:MD)(na:Nat)(x:Nat->Int):MD:=⟨D.kind,0,oneF D.kind,na+1,λi=>if i=na then oneF D.kind else ⟨#[]⟩,λi=>if i<na then 1 else 0,λi _=>x i,λi _=>x i,λ_ _=>oneF D.kind,λi _=>(i:Int)+1⟩
theorem Qu(D:MD)(na:Nat)(x:Nat->Int):∀n,Ah (wrE D na x) n<=n
 |0=>nlr
 |n+1=>by
  have h:=Qu D na x n;show Ah (wrE D na x) n+(if n<na then 1 else 0)<=n+1
  split<;>omega
def YJ(d:Au D.kind=true)(h:isWord na x=true):VM (wrE D na x)/\MSz (wrE D na x):=by
 obtain⟨p,_⟩:=JF h;have m:∀i,i<na->1<=x i/\x i<=500:=by
  unfold isWord at h;rw[Bool.and_eq_true]at h;exact Fu.1 h.2
 have l:=DZ d;unfold smS at l;refine⟨⟨d,by show 1<=na+1;omega,by show na+1<=3000;omega,by show (0:Int)<=0;omega,by show (0:Int)<((na+1:Nat):Int);omega,Db d,?_,λi _=>?_,λi k hi c=>?_⟩,
  ⟨by show (oneF D.kind).size<=_;omega,λi=>?_,λi k=>by show (oneF D.kind).size<=_;omega,λi=>by show (if i<na then 1 else 0)<=_;split<;>omega,by show na+1<=_;omega,MO d⟩⟩
 ·have:=Qu D na x (na+1);show Ah (wrE D na x) (na+1)<=30000;omega
 ·show (if i=na then oneF D.kind else (⟨#[]⟩:ByteArray))=⟨#[]⟩\/Am D.kind (if i=na then oneF D.kind else (⟨#[]⟩:ByteArray))=true
  split
  ·exact .inr (Db d)
  exact .inl rfl
 ·have c:k<if i<na then 1 else 0:=c
  have j:i<na:=by
   rcases Nat.lt_or_ge i na with g|g
   ·exact g
   rw[ifn (by omega)]at c;omega
  obtain⟨g,o⟩:=m i j;exact⟨by show 0<=x i;omega,by show x i<=500;omega,by show 0<=x i;omega,by show x i<=500;omega,by show 0<=(i:Int)+1;omega,by show (i:Int)+1<((na+1:Nat):Int);omega,Db d⟩
 show (if i=na then oneF D.kind else (⟨#[]⟩:ByteArray)).size<=_
 split
 ·omega
 decide
def KJ{w:World}{a:Option Addr}{n c:Nat}(h:Si none w (.slice a n c) n x){i:Nat}(hi:i<n):∃b o,a=some (Ad b o)/\b<w.heap.size/\w.cell? (Ad b (o+i))=some (.int .i64 (x i)):=by
 obtain⟨g,l,b,o,d,j,_,_,hb,k⟩:=h.open;have e:a=g:=by simp only[Value.slice.injEq]at d;exact d.1
 subst e;exact⟨b,o,j (by omega),(hb (by omega)).1,k i hi⟩
def RwLp(D:MD)(na:Nat)(x:Nat->Int)(w:World)(bA bR bW:Nat)(aaA:Option Addr)(ccA:Nat)(one:ByteArray)(q:Nat)(wr:World):Prop :=
 Below w.heap.size w wr/\wr.heap[bA]?=some (.cells #[.int .i64 D.kind,.int .i64 D.start,.string D.lead,.slice aaA D.n ccA] 25 (0,0))/\wr.heap[bR]?=some (.cells #[.int .i64 0,.int .i64 0,.string ⟨#[]⟩,.slice none 0 0] 25 (0,0))/\
 ∃sv R,wr.heap[bW]?=some (.cells #[.int .i64 D.kind,.int .i64 0,.string one,sv] 25 (0,0))/\OwM wr w.heap.size sv (cpD (wrE D na x) q) R
def RwE(D:MD)(na:Nat)(x:Nat->Int)(w:World)(r:Ending)(w':World):Prop :=
 Below w.heap.size w w'/\((VM D/\isWord na x=true/\∃(k s:Int) (l:ByteArray) (a:Option Addr) (n c e:Nat),r=.returned (.tuple #[.agg #[.int .i64 k,.int .i64 s,.string l,.slice a n c],.int .i64 (e:Int)])/\(e=0\/e=2))\/(¬(VM D/\isWord na x=true)/\r=.returned (.tuple #[AQ,.int .i64 1])))
def Kr{xv mv:Value}(w:World)(hx:Si none w xv na x)(r8:Ma none w mv D)(b7:MSz D):Calls prog 27 #[xv,mv] w (RwE D na x w):=by
 obtain⟨v6,o2,k7⟩:=r8;subst o2;obtain⟨b9,d0,_,_,_,_,_,_,Q,_⟩:=k7.open;subst Q;have l7:=qh<|show ∀W,Below w.heap.size w W->Ma none W (.agg #[.int .i64 D.kind,.int .i64 D.start,.string D.lead,.slice b9 D.n d0]) D from λW h=>⟨_,rfl,k7.kept (Ag h none)⟩;clear k7;replace b7:=qh b7;obtain⟨m5,r7,_,_,s6,_,s3,j0,_,_⟩:=hx.open;subst s6;have l1:(na:Int)<=9223372036854775807:=by unfold maxLen at j0;omega
 clear s3 j0;have h3:=qh<|show ∀W,Below w.heap.size w W->Si none W (.slice m5 na r7) na x from λW h=>hx.kept (Ag h none);clear hx;replace l1:=qh l1;have d:=qh<|Below.refl w.heap.size w;obtain⟨w1,C⟩:=exq<|w.alloc (.cells #[.int .i64 D.kind,.int .i64 D.start,.string D.lead,.slice b9 D.n d0] 25);obtain⟨i1,X⟩:=exq<|w.heap.size;have b8:w1.heap.size=w.heap.size+1:=by rw[C];simp
 have hb:Below w.heap.size w w1:=by rw[C];exact(Below.refl _ w).alloc nlr _
 have hh:w1.heap[i1]?=some (.cells #[.int .i64 D.kind,.int .i64 D.start,.string D.lead,.slice b9 D.n d0] 25 (0,0)):=by rw[X,C];exact han w _
 replace d:=qh<|d.o.trans (hb.mono d.o.size);clear hb;have m:=qh hh;clear hh;obtain⟨bA,f7⟩:∃x,x=i1:=⟨_,rfl⟩;rw[<-f7]at m;obtain⟨w2,E⟩:=exq<|w1.alloc (.cells #[.int .i64 0,.int .i64 0,.string ⟨#[]⟩,.slice none 0 0] 25);obtain⟨i2,Y⟩:=exq<|w.heap.size+1;have j5:w2.heap.size=w.heap.size+1+1:=by rw[E];simp[b8]
 have hb:Below w1.heap.size w1 w2:=by rw[E];exact(Below.refl _ w1).alloc nlr _
 have hh:w2.heap[i2]?=some (.cells #[.int .i64 0,.int .i64 0,.string ⟨#[]⟩,.slice none 0 0] 25 (0,0)):=by rw[Y,<-b8,E];exact han w1 _
 replace m:=qh<|(hb.block _ (lbk m.o)).trans m.o;replace d:=qh<|d.o.trans (hb.mono d.o.size);clear hb;have T:=qh hh;clear hh;obtain⟨L,f8⟩:∃x,x=i2:=⟨_,rfl⟩;rw[<-f8]at T;have g9:=qh (show w.heap.size<=L by omega)
 go_enter func27,ntmps27
 have d5:=Gn w2 (h3.o w2 d.o) l1.o;cases d8:isWord na x
 ·skip
  rw[d8]at d5;have c:=qh d5;clear d5;have j8:=qh d8;clear d8
  go_wp2_with fail
  rw[<-Y,<-X,<-C,<-E];rw[<-f7];rw[<-f8];clear C b8 X;clear E j5 Y;clear f7;clear f8;refine c.o.mono ?_;rintro r w3⟨rfl,rfl⟩;clear c;obtain⟨⟨r0,r1,r2,r3⟩,rz⟩:=cells4 T.o;have f0:=rz 0;have f1:=rz 1;have f2:=rz 2;have f3:=rz 3;clear rz
  go_wp2_with fail
  exact bodyPost_ret (AG rfl _ (b:=L) rfl rfl (AE w3 L _ _ _ _ T.o)) rfl ⟨Ay d.o g9.o _ _ _ _,.inr ⟨λh=>(by have U:=h.2;rw[j8.o]at U;cases U),rfl⟩⟩
 rw[d8]at d5;have c:=qh d5;clear d5;have h0:=qh d8;clear d8
 go_wp2_with fail
 rw[<-Y,<-X,<-C,<-E];rw[<-f7];rw[<-f8];clear C b8 X;clear E j5 Y;clear f7;clear f8;refine c.o.mono ?_;rintro r w4⟨rfl,rfl⟩;clear c;have m0:=cellOf m.o 0 rfl;have m1:=cellOf m.o 1 rfl;have m2:=cellOf m.o 2 rfl;have m3:=cellOf m.o 3 rfl;have c:=qh<|Ei w4 (l7.o w4 d.o) b7.o
 go_wp2_with fail
 clear m0 m1 m2 m3;refine c.o.mono ?_;rintro r w5⟨hb,hr⟩;replace m:=qh<|(hb.block _ (lbk m.o)).trans m.o;replace T:=qh<|(hb.block _ (lbk T.o)).trans T.o;replace d:=qh<|d.o.trans (hb.mono d.o.size);clear hb;clear c
 rcases hr with⟨hv,rfl⟩|⟨hv,rfl⟩
 rotate_left
 ·skip
  have p9:=qh hv;clear hv;obtain⟨⟨r0,r1,r2,r3⟩,rz⟩:=cells4 T.o;have f0:=rz 0;have f1:=rz 1;have f2:=rz 2;have f3:=rz 3;clear rz
  go_wp2_with fail
  exact bodyPost_ret (AG rfl _ (b:=L) rfl rfl (AE w5 L _ _ _ _ T.o)) rfl ⟨Ay d.o g9.o _ _ _ _,.inr ⟨λh=>p9.o h.1,rfl⟩⟩
 have HV:=qh hv;clear hv;have m0:=cellOf m.o 0 rfl;have m1:=cellOf m.o 1 rfl;have m2:=cellOf m.o 2 rfl;have m3:=cellOf m.o 3 rfl;have c:=qh<|Gj D.kind w5
 go_wp2_with fail
 clear m0 m1 m2 m3;refine c.o.mono ?_;rintro r w6⟨rfl,hb⟩;replace m:=qh<|(hb.block _ (lbk m.o)).trans m.o;replace T:=qh<|(hb.block _ (lbk T.o)).trans T.o;replace d:=qh<|d.o.trans (hb.mono d.o.size);clear hb;clear c;obtain⟨one,J⟩:=exq<|oneF D.kind;rw[<-J];replace J:=qh J;have m0:=cellOf m.o 0 rfl;have m1:=cellOf m.o 1 rfl;have m2:=cellOf m.o 2 rfl;have m3:=cellOf m.o 3 rfl;obtain⟨w7,a8⟩:=exq<|w6.alloc (.cells #[.int .i64 D.kind,.int .i64 0,.string one,.slice none 0 0] 25);obtain⟨i7,g1⟩:=exq<|w6.heap.size;have o6:w7.heap.size=w6.heap.size+1:=by rw[a8];simp
 have hb:Below w6.heap.size w6 w7:=by rw[a8];exact(Below.refl _ w6).alloc nlr _
 have hh:w7.heap[i7]?=some (.cells #[.int .i64 D.kind,.int .i64 0,.string one,.slice none 0 0] 25 (0,0)):=by rw[g1,a8];exact han w6 _
 have f4:bA≠i7:=by have:=lbk m.o;omega
 have f5:L≠i7:=by have:=lbk T.o;omega
 have LW:w.heap.size<=i7:=by have:=d.o.size;omega
 replace m:=qh<|(hb.block _ (lbk m.o)).trans m.o;replace T:=qh<|(hb.block _ (lbk T.o)).trans T.o;replace d:=qh<|d.o.trans (hb.mono d.o.size);clear hb;have KW:=qh hh;clear hh;obtain⟨B,k0⟩:∃x,x=i7:=⟨_,rfl⟩;rw[<-k0]at KW f4 f5 LW;replace LW:=qh LW;replace f4:=qh f4;replace f5:=qh f5
 go_wp2_with fail
 clear m0 m1 m2 m3;rw[<-g1,<-a8];rw[<-k0];clear a8 o6 g1;clear k0;have m4:=qh<|show RwLp D na x w bA L B b9 d0 one 0 w7 from ⟨d.o,m.o,T.o,.slice none 0 0,λ_=>.slice none 0 0,KW.o,World.ownsRow_nil _ _ _ _,λi hi=>absurd hi (Nat.not_lt_zero _),λi j hi=>absurd hi (Nat.not_lt_zero _)⟩;clear m T KW d;have p6:=qh<|show na<=200 from (JF h0.o).1;have t8:na<=200:=p6.o
 go_loopw [8] (λi wr=>∃q:Nat,q<=na/\i=.int .i64 (q:Int)/\RwLp D na x w bA L B b9 d0 one q wr) (λi _=>na-(intOf i).toNat)
 case atStart=>exact⟨0,Nat.zero_le _,rfl,m4.o⟩
 clear m4;obtain⟨q,hq,rfl,d4,d6,d7,sv,R,a5,O⟩:=hrel;obtain⟨sa,sc,Q,_,_⟩:=Az O.top;have Q:sv=.slice sa q sc:=Q;subst Q;by_cases g6:q<na
 ·have t7:(q:Int)<(na:Int):=by omega
  have s5:(0:Int)<=(q:Int):=by omega
  have v4:IntKind.i64.wrap ((q:Int)+1)=(q:Int)+1:=by rw[IntKind.wrap_i64];omega
  obtain⟨S,i5⟩:=exq<|wr.drew;have d2:Below wr.heap.size wr S:=by rw[i5];exact(Below.refl _ wr).drew
  have b6:=d4.trans<|d2.mono d4.size;have g5:=(d2.block _ (lbk d6)).trans d6;have I:=(d2.block _ (lbk d7)).trans d7;have a6:=(d2.block _ (lbk a5)).trans a5;have F:=DD O d2;obtain⟨bx,ox,o5,h4,i6⟩:=KJ (h3.o S b6) g6;have r9:m5=some (Ad bx ox):=o5;subst r9;have l:S.cell? (Ad B 3)=some (.slice sa q sc)/\S.cell? (Ad bx (ox+q))=some (.int .i64 (x q)):=⟨cellOf a6 3 rfl,i6⟩;have n5:B<S.heap.size:=lbk a6;obtain⟨i1,g4,b0,b1,b2⟩:=Cs Eo;obtain⟨W1,f9⟩:=exq<|S.alloc (.cells #[.int .i64 (x q),.int .i64 (x q),.string one,.int .i64 ((q:Int)+1)] 59);obtain⟨U,g3⟩:∃h,h=S.heap.size:=⟨_,rfl⟩;have n9:W1.heap.size=U+1:=by rw[f9,g3];simp
  have H:Below S.heap.size S W1:=by rw[f9];exact(Below.refl _ S).alloc nlr _
  obtain⟨W2,g0⟩:=exq<|W1.alloc (.cells #[.string ⟨#[]⟩,.slice (some ⟨U,0,none⟩) 1 1] 63);obtain⟨h2,i3⟩:∃h,h=W1.heap.size:=⟨_,rfl⟩;have i9:Below W1.heap.size W1 W2:=by rw[g0];exact(Below.refl _ W1).alloc nlr _
  have s:Below S.heap.size S W2:=H.trans<|i9.mono H.size;have o3:W1.ownsRow S.heap.size 59 4 (.slice (some (Ad U 0)) 1 1) 1 [.int .i64 (x q),.int .i64 (x q),.string one,.int .i64 ((q:Int)+1)] :=
   ⟨rfl,.inr ⟨U,1,#[.int .i64 (x q),.int .i64 (x q),.string one,.int .i64 ((q:Int)+1)],rfl,by omega,by rw[f9,g3];exact han S _,nlr,by unfold maxLen;omega,rfl,rfl⟩⟩
  have n7:W2.heap[h2]?=some (.cells #[.string ⟨#[]⟩,.slice (some (Ad U 0)) 1 1] 63 (0,0)):=by rw[g0,i3];exact han W1 _
  have k4:W1.cell? (Ad B 3)=some (.slice sa q sc)/\W1.cell? (Ad bx (ox+q))=some (.int .i64 (x q)):=⟨(H.cell (p:=(Ad B _)) n5).trans l.1,(H.cell (p:=(Ad bx _)) h4).trans l.2⟩;have k5:W2.cell? (Ad B 3)=some (.slice sa q sc)/\W2.cell? (Ad bx (ox+q))=some (.int .i64 (x q)):=⟨(s.cell (p:=(Ad B _)) n5).trans l.1,(s.cell (p:=(Ad bx _)) h4).trans l.2⟩;have a9:W2.ownsRow w.heap.size 63 2 (.slice sa q sc) q (cat (st2 (wrE D na x) R) q):=AJ F.top (Ag s none) (λ_ _=>by simp);have n6:(Value.slice sa q sc).ownBlock≠some B:=Ao F.top a6 (by decide);have j2:(Value.slice sa q sc).ownBlock≠some L:=Ao F.top I (by decide);have j1:(Value.slice sa q sc).ownBlock≠some bA:=Ao F.top g5 (by decide);have o4:bx≠B/\(Value.slice sa q sc).ownBlock≠some bx:=⟨λe=>by
   have e1:=h3.o w blr;obtain⟨j9,s9,g8,m8,_⟩:=KJ e1 g6;have e2:j9=bx:=by have:=g8;simp at this;exact this.1.symm
   have:=LW.o;omega,λe=>by
   have e1:=h3.o w blr;obtain⟨j9,s9,g8,m8,_⟩:=KJ e1 g6;have e2:j9=bx:=by have:=g8;simp at this;exact this.1.symm
   have:=(World.ownsRow.lt F.top bx e).1;omega⟩
  have t9:=qh g3;have v0:=qh i3;have v2:=qh n9;have b5:=qh s;have q8:=qh o3;have j8:=qh n7;have e6:=qh a9;have e0:=qh g5;have e4:=qh I;have e3:=qh a6;have e5:=qh F;have d9:=qh b6;have p7:=qh n6;have p8:=qh j2;have l9:=qh j1;have r4:=qh o4;have l6:=qh h4;have o7:=qh H;have j4:w.heap.size<=W2.heap.size:=Nat.le_trans b6.size s.size;have j7:=qh g4;have e7:=qh b0;have e8:=qh b1;have e9:=qh b2;have m3:=cellOf a5 3 rfl;have y0:wr.cell? (Ad bx (ox+q))=some (.int .i64 (x q)):=by rw[i5]at i6;exact i6
  clear g4 b0 b1 b2 d4 d2 d6 d7 a5 O g5 I a6 F b6 o3 n7 a9 n6 j2 j1 o4 h4 i6 o5 H i9 s n9
  go_wp2_with fail
  clear m3 y0;refine AC (λwk=>wk.cell? (Ad B 3)=some (.slice sa q sc)/\wk.cell? (Ad bx (ox+q))=some (.int .i64 (x q))) 19 (by kernel_rfl) ?_;rw[<-i5];clear i5;refine Aa.tm 0 l ?_;refine Aa.tm 1 l ?_;refine Aa.tm 2 l ?_;refine Aa.tm 3 l ?_;refine Aa.tm 4 l ?_;refine Aa.tm 5 l ?_;refine Aa.tm 6 l ?_;refine Aa.tm 7 l ?_;refine Aa.tm 8 l ?_;refine Aa.tm 9 l ?_;refine Aa.tm 10 l ?_;refine Aa.tm 11 l ?_;refine Aa.tm 12 l ?_;refine Aa.tm 13 l ?_
  try simp only[Act.put,tryL]
  refine Aa.on 14 λK hK=>?_;go_simp;rw[<-f9,<-g3];clear g3 f9;refine hK.out _ _ (.inr k4) ?_;clear hK K l
  try simp only[Act.put,tryL]
  refine Aa.tm 15 k4 ?_
  try simp only[Act.put,tryL]
  refine Aa.on 16 λK hK=>?_;go_simp;rw[<-g0,<-i3];have q9:=qh g0;clear i3 g0;refine hK.out _ _ (.inr k5) ?_;clear hK K k4
  try simp only[Act.put,tryL]
  refine Aa.on 17 λK hK=>?_;refine wp_append_lies _ (.tmp 32) (.tmp 47) 23 rfl w.heap.size 63 i1 (.agg #[.string ⟨#[]⟩,.slice none 0 0]) 2 40 underlying23 j7.o e7.o e8.o e9.o rfl (by omega) (.slice sa q sc) q _ (by simp[Act.eval]) e6.o (Ad h2 0) 1 1 [.string ⟨#[]⟩,.slice (some (Ad U 0)) 1 1] (by simp[Act.eval]) rfl (Cj (cs:=#[.string ⟨#[]⟩,.slice (some (Ad U 0)) 1 1]) j8.o) (by intro u hu;simp at hu;rcases hu with rfl|rfl<;>rfl) (by omega) (by unfold maxLen;omega) (by omega) j4 _ rfl ?_
  intro g2 cp wf G g k9 g7;have Z:∀bb,bb<S.heap.size->(Value.slice sa q sc).ownBlock≠some bb->wf.heap[bb]?=S.heap[bb]?:=λbb U h2=>(g.block bb (Nat.lt_of_lt_of_le U b5.o.size) (λe=>h2 e.symm)).trans (b5.o.block bb U);have z:=(Z B (lbk e3.o) p7.o).trans e3.o;have k6:wf.cell? (Ad B 3)=some (.slice sa q sc)/\wf.cell? (Ad bx (ox+q))=some (.int .i64 (x q)) :=
   ⟨cellOf z 3 rfl,by have h5:=Z bx l6.o r4.o.2;have h6:=k5.2;have h7:=b5.o.block bx l6.o;simp only[World.cell?,h5,<-h7];exact h6⟩
  have s4:wf.frozen? (Ad B 3)=false:=(cells4 z).2 3;have i4:(wrE D na x).na q=1:=ifp g6;have h8:(wrE D na x).fin q=⟨#[]⟩:=ifn (by omega);have P:=OwM.push (D:=wrE D na x) (wr:=S) (w1:=W1) (o:=.cells #[.string ⟨#[]⟩,.slice (some (Ad U 0)) 1 1] 63) e5.o d9.o.size (Ag o7.o none) (v:=.slice (some (Ad U 0)) 1 1) (by rw[i4];have h9:=q8.o;rw[J.o]at h9;exact h9) (by rw[h8];exact G) (by rw[<-q9.o];exact g);have b4:=P.other (p:=(Ad B 3)) (Ao P.top z (by decide)) (λj hj=>Ao (P.row j hj) z (by decide)) (.slice (some (Ad g2 0)) (q+1) cp);obtain⟨wg,A⟩:=exq<|wf.setCell ⟨B,3,none⟩ (.slice (some ⟨g2,0,none⟩) (q+1) cp);rw[<-A]at b4;have d3:Below w.heap.size w wg:=by
   rw[A];exact((d9.o.trans (b5.o.mono d9.o.size)).grown g j4 (λk hk=>(World.ownsRow.lt e5.o.top k hk).1)).setCell (p:=(Ad B 3)) LW.o _
  have b3:RwLp D na x w bA L B b9 d0 one (q+1) wg:=⟨d3,by rw[A];exact(Aw f4.o).trans ((Z bA (lbk e0.o) l9.o).trans e0.o),by rw[A];exact(Aw f5.o).trans ((Z L (lbk e4.o) p8.o).trans e4.o),_,_,by rw[A];simp[World.setCell,Array.getElem?_modify,z],b4⟩;replace b3:=qh b3;clear b4 P d3 Z G g k9 g7;refine hK.out _ _ (.inr k6) ?_;clear hK K k5
  try simp only[Act.put,tryL]
  refine Aa.tm 18 k6 ?_
  try simp only[Act.put,tryL]
  refine Aa.on 19 λK hK=>?_;go_simp;rw[<-A];clear A;refine hK.out _ _ (.inl rfl) (Aa.dn ?_);clear hK K k6 s4 z;go_wp2;go_roundw
  case rel=>exact⟨q+1,by omega,by go_num,b3.o⟩
  simp[intOf];omega
 have v3:¬((q:Int)<(na:Int)):=by omega
 have s7:q=na:=by omega
 subst s7;obtain⟨⟨m0,m1,m2,m3⟩,mz⟩:=cells4 a5;have s8:=mz 3;clear mz;obtain⟨i1,g4,b0,b1,b2⟩:=Cs Eo;have a9:wr.ownsRow w.heap.size 63 2 (.slice sa q sc) q (cat (st2 (wrE D q x) R) q):=O.top;have Z:∀o wf,(wr.alloc o).grownBy wf (Value.slice sa q sc).ownBlock->∀bb,bb<wr.heap.size->(Value.slice sa q sc).ownBlock≠some bb->wf.heap[bb]?=wr.heap[bb]?:=λo wf hg bb U h2 =>
  (hg.block bb (by simp;omega) (λe=>h2 e.symm)).trans (blk_alloc_lt _ _ _ U)
 have m7:w.heap.size<=wr.heap.size:=d4.size;have j6:=qh Z;clear Z;have e6:=qh a9;clear a9;have o8:=qh<|Ao O.top a5 (by decide);have o9:=qh<|Ao O.top d7 (by decide);have l8:=qh<|Ao O.top d6 (by decide);have d:=qh d4;clear d4;have e4:=qh d7;clear d7;have e0:=qh d6;clear d6;have e3:=qh a5;clear a5;have e5:=qh O;clear O;have j7:=qh g4;have e7:=qh b0;have e8:=qh b1;have e9:=qh b2;clear g4 b0 b1 b2 g6
 go_wp2_with (at_builtin;refine wpList_append_lies _ rfl (.tmp 51) (.tmp 54) 23 rfl w.heap.size 63 i1 (.agg #[.string ⟨#[]⟩,.slice none 0 0]) 2 40 underlying23 j7.o e7.o e8.o e9.o rfl (by omega) (.slice sa q sc) q _ (by first|rfl|simp[Act.eval,Act.put]) (World.ownsRow.alloc e6.o _) (Ad wr.heap.size 0) 1 1 [.string one,.slice none 0 0] (by first|rfl|simp[Act.eval,Act.put]) rfl (Cj (cs:=#[.string one,.slice none 0 0]) (han wr _)) GB (by omega) (by unfold maxLen;omega) (by omega) (by simp;omega) _ rfl ?_;intro g2 cp wf G g k9 g7;have z:=(j6.o _ wf g B (lbk e3.o) o8.o).trans e3.o;have f3:=(cells4 z).2 3;have n3:=cellOf z 3 rfl;have a4:(wf.setCell (Ad B 3) (.slice (some (Ad g2 0)) (q+1) cp)).heap[B]?=some (.cells #[.int .i64 D.kind,.int .i64 0,.string one,.slice (some (Ad g2 0)) (q+1) cp] 25 (0,0)):=(by simp[World.setCell,Array.getElem?_modify,z]);have p0:=cellOf a4 0 rfl;have p1:=cellOf a4 1 rfl;have p2:=cellOf a4 2 rfl;have p3:=cellOf a4 3 rfl;have d1:=(Aw (w:=wf) (v:=.slice (some (Ad g2 0)) (q+1) cp) (j:=3) f4.o).trans ((j6.o _ wf g bA (lbk e0.o) l8.o).trans e0.o);have a0:=cellOf d1 0 rfl;have a1:=cellOf d1 1 rfl;have a2:=cellOf d1 2 rfl;have a3:=cellOf d1 3 rfl)
 clear p0 p1 p2 p3 a0 a1 a2 a3 f3 n3;have i4:(wrE D q x).na q=0:=ifn (by omega);have h8:(wrE D q x).fin q=oneF D.kind:=ifp rfl;have m9:wr.grownBy wr none:=⟨rfl,rfl,rfl,nlr,λ_ _ _=>rfl⟩;have P:=OwM.push (D:=wrE D q x) e5.o m7 m9 (v:=.slice none 0 0) (by rw[i4];exact World.ownsRow_nil _ _ _ _) (by rw[h8,<-J.o];exact G) g;have b4:=P.other (p:=(Ad B 3)) (Ao P.top z (by decide)) (λj hj=>Ao (P.row j hj) z (by decide)) (.slice (some (Ad g2 0)) (q+1) cp);obtain⟨wg,A⟩:=exq<|wf.setCell ⟨B,3,none⟩ (.slice (some ⟨g2,0,none⟩) (q+1) cp);rw[<-A]at b4 d1;have d3:Below w.heap.size w wg:=by
  rw[A];exact((d.o.trans ((Below.refl w.heap.size wr).alloc m7 (.cells #[.string one,.slice none 0 0] 63))).grown g (by simp;omega) (λk hk=>(World.ownsRow.lt e5.o.top k hk).1)).setCell (p:=(Ad B 3)) LW.o _
 have I:wg.heap[L]?=_:=(by rw[A];exact Aw f5.o:wg.heap[L]?=wf.heap[L]?).trans ((j6.o _ wf g L (lbk e4.o) o9.o).trans e4.o);have l3:=YJ (x:=x) (na:=q) HV.o.kind h0.o;have c:=qh (Wg wg (show Ma none wg (.agg #[.int .i64 D.kind,.int .i64 0,.string one,.slice (some (Ad g2 0)) (q+1) cp]) (wrE D q x) by rw[J.o];exact⟨_,rfl,b4.sts⟩) (l7.o wg d3) l3.2 b7.o);have q7:=qh l3;have l5:=qh d3;have i8:=qh I;rw[<-A];clear A l3 d3 I b4 P m9 i4 h8 G g k9 g7 z a4 d1 m0 m1 m2 m3 s8;refine c.o.mono ?_;rintro r w9⟨l0,hr⟩;have l4:=qh<|l5.o.trans (l0.mono l5.o.size);have a7:=(l0.block _ (lbk i8.o)).trans i8.o;obtain⟨⟨r0,r1,r2,r3⟩,rz⟩:=cells4 a7;have f0:=rz 0;have f1:=rz 1;have f2:=rz 2;have f3:=rz 3;clear rz;replace a7:=qh a7;clear l0 c
 rcases hr with⟨-,-,-,⟨n',N,-,-,-,v5,R',rfl,j3⟩|rfl⟩|⟨-,-,l2,-⟩|⟨l2,-⟩
 ·obtain⟨r5,r6,Q,_,_⟩:=Az j3.top;have Q:_=Value.slice r5 N.n r6:=Q;subst Q;clear j3
  go_wp2_with fail
  exact bodyPost_ret (AG rfl _ (b:=L) rfl rfl (AE w9 L _ _ _ _ a7.o)) rfl ⟨Ay l4.o g9.o _ _ _ _,.inl ⟨HV.o,h0.o,_,_,_,_,_,_,0,rfl,.inl rfl⟩⟩
 ·unfold AQ
  go_wp2_with fail
  exact bodyPost_ret (AG rfl _ (b:=L) rfl rfl (AE w9 L _ _ _ _ a7.o)) rfl ⟨Ay l4.o g9.o _ _ _ _,.inl ⟨HV.o,h0.o,_,_,_,_,_,_,2,rfl,.inr rfl⟩⟩
 ·exact absurd rfl l2
 exact absurd ⟨q7.o.1,HV.o⟩ l2
end
end Go.Proofs.YtpldocnhbdlgfaaGreatDoor
