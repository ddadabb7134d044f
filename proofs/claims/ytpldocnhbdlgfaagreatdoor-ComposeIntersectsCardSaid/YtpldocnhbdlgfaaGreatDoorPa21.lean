/- Parts. -/
import Derived.Test.YtpldocnhbdlgfaaGreatDoorPa20
namespace Go.Proofs.YtpldocnhbdlgfaaGreatDoor
set_option maxRecDepth 100000
set_option linter.all false
set_option maxHeartbeats 16000000
open Go Tryz
section
open Go.RowKit Go.Deep
variable{A B:MD}{n:Nat}
structure Crv(A B:MD)(n:Nat)(S:List Plc × MD)(ac fl:Nat):Prop where
 nd:S.1.Nodup
 kd:S.2.kind=A.kind
 len:S.2.n=S.1.length
 ok:∀x ∈ S.1,x.1<A.n/\x.2.1<B.n
 le:S.1.length<=3001
 na:∀i,S.2.na i<=ac
 ac1:ac<=30001
 nn:n<=S.1.length
 good:fl=0->S=itP A B (λ_=>true) n/\ac=acP A B (λ_=>true) n/\(Ae A.kind A.lead B.lead).2=0/\∀i p q f,i<n->S.1[i]?=some (p,q,f)->PrOk A B p q
def Crv.lvr{S:List Plc × MD}{c:Nat}(h:Crv A B n S c 0)(hn:n<S.1.length):Lvr A B n [] S S c c 0 :=
 ⟨h.nd,h.kd,h.len,h.ok,h.le,h.na,h.ac1,hn,⟨[],by simp⟩,λ_=>⟨rfl,rfl⟩⟩
def Crv.next{S o:List Plc × MD}{u g j p q:Nat}{f:Bool}(h:Crv A B n S u 0)(k:S.1[n]?=some (p,q,f))(c:Lvr A B n (arL A B true p q f) (S.1,finP A B p q n S.2) o u g j)(I:j=0->PrOk A B p q):Crv A B (n+1) o g j:=by
 obtain⟨m,l⟩:=c.pre;have l:o.1=S.1++m:=l;have H:n<S.1.length:=by
  rcases Nat.lt_or_ge n S.1.length with s|s
  ·exact s
  rw[List.getElem?_eq_none s]at k;cases k
 refine⟨c.nd,c.kd,c.len,c.ok,c.le,c.na,c.ac1,c.n1,λe=>?_⟩;obtain⟨z,E,F,G⟩:=h.good rfl;obtain⟨k1,k2⟩:=c.good e;refine⟨?_,?_,F,λi J K D hi d=>?_⟩
 ·rw[k1];show _=BX A B (λ_=>true) n (itP A B (λ_=>true) n);rw[<-z];unfold BX;rw[k]
 ·show g=acP A B (λ_=>true) n+match (itP A B (λ_=>true) n).1[n]? with|none=>0|some (p,q,f)=>(arL A B true p q f).length
  rw[<-z,k,k2,E]
 by_cases C:i=n
 ·subst C;rw[l,List.getElem?_append_left H,k]at d;cases d;exact I e
 rw[l,List.getElem?_append_left (by omega)]at d;exact G i J K D (by omega) d
theorem Crv.start{A B:MD}{fl:Nat}(c:VM A)(d:VM B)(h:fl=0->(Ae A.kind A.lead B.lead).2=0):Crv A B 0 (it0 A B) 0 fl:=by
 have:=c.s0;have:=c.s1;have:=d.s0;have:=d.s1;refine⟨by simp[it0],rfl,rfl,λx g=>?_,by simp[it0],λi=>?_,by omega,by omega,λe=>⟨rfl,rfl,h e,λi p q f hi=>by omega⟩⟩
 ·have e:x=(A.start.toNat,B.start.toNat,false):=List.mem_singleton.1 g;subst e;exact⟨by show A.start.toNat<A.n;omega,by show B.start.toNat<B.n;omega⟩
 show (if i=0 then 0 else 0)<=0
 split<;>omega
def Crv.is{S:List Plc × MD}{o:Nat}(d:VM A)(m:VM B)(j:A.kind=B.kind)(g:MSz A)(i:MSz B)(h:Crv A B n S o 0)(hn:n=S.1.length):CmpIr A B n S.2/\MSz S.2:=by
 obtain⟨c,s,u,l⟩:=h.good rfl;obtain⟨k1,k2,k3⟩:=JP d m j g i (al:=λ_=>true) n (by rw[<-c];omega) (by rw[<-c];exact l);refine⟨⟨by rw[<-c];exact hn.symm,by rw[<-c],u,by rw[<-c];exact l⟩,?_⟩;rw[c];rw[<-s]at k1;obtain⟨k,E⟩:=d.kk;obtain⟨z,_⟩:=Jp.it (k:=k) (al:=λ_=>true) d m n (by rw[<-c];omega);obtain⟨C,D,p⟩:=z.hd;exact BOk.msz k1 (by rw[k3];exact d.kind) (by rw[k2,<-c];have:=h.le;omega) (by rw[p];exact GC _ _ _) (by have:=h.ac1;omega)
theorem CmpIr.kind{M:MD}(c:VM A)(d:VM B)(h:CmpIr A B n M):M.kind=A.kind:=by
 obtain⟨k,i⟩:=c.kk;obtain⟨g,_⟩:=Jp.it (k:=k) (al:=λ_=>true) c d n (by rw[h.len];omega);rw[h.eq];exact g.hd.1
def CrL(B0 cb rb:Nat)(A B:MD)(sa sb:Value)(w:World)(n:Nat)(W:World):Prop :=
 ∃(S:List Plc × MD) (R:Nat->Value) (sv qv:Value) (ac fl:Nat),Rps W B0 cb A B sa sb S.1 S.2 R sv qv ac fl/\Crv A B n S ac fl/\Below B0 w W/\FbR cb W sv R S.2.n qv rb/\W.heap[rb]?=some (.cells #[.int .i64 0,.int .i64 0,.string ⟨#[]⟩,.slice none 0 0] 25 (0,0))
def CrE(A B:MD)(w:World)(r:Ending)(w':World):Prop :=
 Below w.heap.size w w'/\((VM A/\VM B/\A.kind=B.kind/\
  ((∃n M,CmpIr A B n M/\VM M/\MSz M/\∃sv R,r=.returned (.tuple #[.agg #[.int .i64 M.kind,.int .i64 M.start,.string M.lead,sv],.int .i64 0])/\OwM w' w.heap.size sv M R)\/r=.returned (.tuple #[AF,.int .i64 2])))\/
  (VM A/\VM B/\A.kind≠B.kind/\r=.returned (.tuple #[AF,.int .i64 6]))\/(¬(VM A/\VM B)/\r=.returned (.tuple #[AF,.int .i64 1])))
def Gm{D E:MD}{mv nv:Value}(w:World)(hM:Ma none w mv D)(hN:Ma none w nv E)(a5:MSz D)(a6:MSz E):Calls prog 15 #[mv,nv] w (CrE D E w):=by
 obtain⟨sv,rfl,hS⟩:=hM;obtain⟨sw,rfl,e4⟩:=hN;obtain⟨a,cp,_,_,_,_,_,_,i9,_⟩:=hS.open;obtain⟨a2,l,_,_,_,_,_,_,s4,_⟩:=e4.open;subst i9;subst s4;have i3:∀W,Below w.heap.size w W->Ma none W (.agg #[.int .i64 D.kind,.int .i64 D.start,.string D.lead,.slice a D.n cp]) D:=λW h=>⟨_,rfl,hS.kept (Ab h none)⟩;have d8:∀W,Below w.heap.size w W->Ma none W (.agg #[.int .i64 E.kind,.int .i64 E.start,.string E.lead,.slice a2 E.n l]) E:=λW h=>⟨_,rfl,e4.kept (Ab h none)⟩;obtain⟨w1,a7⟩:=exq<|w.alloc (.cells #[.int .i64 D.kind,.int .i64 D.start,.string D.lead,.slice a D.n cp] 25);obtain⟨w2,a8⟩:=exq<|w1.alloc (.cells #[.int .i64 E.kind,.int .i64 E.start,.string E.lead,.slice a2 E.n l] 25);obtain⟨w3,e1⟩:=exq<|w2.alloc (.cells #[.int .i64 0,.int .i64 0,.string ⟨#[]⟩,.slice none 0 0] 25);have j0:w1.heap.size=w.heap.size+1:=by rw[a7];simp
 have o4:w2.heap.size=w.heap.size+1+1:=by rw[a8];simp[j0]
 have m5:Fr (λ_=>False) w w1:=by rw[a7];exact Fr.alloc _ _
 have h5:Fr (λ_=>False) w1 w2:=by rw[a8];exact Fr.alloc _ _
 have e6:Fr (λ_=>False) w2 w3:=by rw[e1];exact Fr.alloc _ _
 have i2:w1.heap[w.heap.size]?=some (.cells #[.int .i64 D.kind,.int .i64 D.start,.string D.lead,.slice a D.n cp] 25 (0,0)):=by rw[a7];exact han w _
 have z:w3.heap[w.heap.size]?=some (.cells #[.int .i64 D.kind,.int .i64 D.start,.string D.lead,.slice a D.n cp] 25 (0,0)):=(e6.block _ (by omega) (λe=>e)).trans ((h5.block _ (lbk i2) (λe=>e)).trans i2);have g2:w2.heap[w.heap.size+1]?=some (.cells #[.int .i64 E.kind,.int .i64 E.start,.string E.lead,.slice a2 E.n l] 25 (0,0)):=by rw[<-j0,a8];exact han w1 _
 have G:w3.heap[w.heap.size+1]?=some (.cells #[.int .i64 E.kind,.int .i64 E.start,.string E.lead,.slice a2 E.n l] 25 (0,0)):=(e6.block _ (by omega) (λe=>e)).trans g2;have H:w3.heap[w.heap.size+1+1]?=some (.cells #[.int .i64 0,.int .i64 0,.string ⟨#[]⟩,.slice none 0 0] 25 (0,0)):=by rw[<-o4,e1];exact han w2 _
 have h1:Below w.heap.size w w3:=((m5.trans h5).trans e6).below nlr (λ_ e=>e.elim);obtain⟨mb,e8⟩:=exq<|w.heap.size;obtain⟨nb,i5⟩:=exq<|w.heap.size+1;obtain⟨m,i7⟩:=exq<|w.heap.size+1+1;have a4:w.heap.size<=m:=by omega
 rw[<-e8]at z;rw[<-i5]at G;rw[<-i7]at H;obtain⟨⟨m0,m1,m2,m3⟩,_⟩:=cells4 z;have l1:=qh<|Em w3 (i3 w3 h1) a5;replace i3:=qh i3;replace d8:=qh d8;have g4:=qh h1;clear h1;have j:=qh z;clear z i2 m5 h5 e6 j0 o4 g2;have d:=qh G;clear G;have c:=qh H;clear H;replace a5:=qh a5;replace a6:=qh a6;have p0:=qh hS;have p6:=qh e4;clear hS e4;rw[e8,e1,a8,a7]at m0 m1 m2 m3
 go_enter func15,ntmps15
 go_wp2_with fail
 rw[<-a7,<-a8,<-e1,<-i7,<-i5,<-e8];clear m0 m1 m2 m3 a7 a8 e1 e8 i5 i7;refine l1.o.mono ?_;rintro r w4⟨b9,hr⟩;have z:=(b9.block _ (lbk j.o)).trans j.o;have G:=(b9.block _ (lbk d.o)).trans d.o;have H:=(b9.block _ (lbk c.o)).trans c.o;have b1:=qh<|g4.o.trans (b9.mono g4.o.size);clear b9 j d c l1 g4;have j:=qh z;clear z;have d:=qh G;clear G;have c:=qh H;clear H
 rcases hr with⟨hv,rfl⟩|⟨hv,rfl⟩
 rotate_left
 ·have HV:=qh hv;clear hv;obtain⟨⟨r0,r1,r2,r3⟩,g⟩:=cells4 c.o;have f0:=g 0;have f1:=g 1;have f2:=g 2;have f3:=g 3;clear g
  go_wp2_with fail
  exact bodyPost_ret (AE rfl _ (b:=m) rfl rfl (AA w4 m _ _ _ _ c.o)) rfl ⟨Au b1.o a4 _ _ _ _,.inr (.inr ⟨λh=>HV.o h.1,rfl⟩)⟩
 have HV:=qh hv;clear hv;obtain⟨⟨n0,n1,n2,n3⟩,_⟩:=cells4 d.o;have l2:=qh<|Em w4 (d8.o w4 b1.o) a6.o
 go_wp2_with fail
 clear n0 n1 n2 n3;refine l2.o.mono ?_;rintro r J⟨d0,hr⟩;have z:=(d0.block _ (lbk j.o)).trans j.o;have G:=(d0.block _ (lbk d.o)).trans d.o;have H:=(d0.block _ (lbk c.o)).trans c.o;have b2:=qh<|b1.o.trans (d0.mono b1.o.size);clear d0 j d c l2 b1;have j:=qh z;clear z;have d:=qh G;clear G;have c:=qh H;clear H
 rcases hr with⟨hv,rfl⟩|⟨hv,rfl⟩
 rotate_left
 ·have s:=qh hv;clear hv;obtain⟨⟨r0,r1,r2,r3⟩,g⟩:=cells4 c.o;have f0:=g 0;have f1:=g 1;have f2:=g 2;have f3:=g 3;clear g
  go_wp2_with fail
  exact bodyPost_ret (AE rfl _ (b:=m) rfl rfl (AA J m _ _ _ _ c.o)) rfl ⟨Au b2.o a4 _ _ _ _,.inr (.inr ⟨λh=>s.o h.2,rfl⟩)⟩
 have s:=qh hv;clear hv;obtain⟨⟨m0,m1,m2,m3⟩,_⟩:=cells4 j.o;obtain⟨⟨n0,n1,n2,n3⟩,_⟩:=cells4 d.o;by_cases P:D.kind=E.kind
 rotate_left
 ·have r5:(D.kind==E.kind)=false:=by simp[P]
  have r6:decide (D.kind=E.kind)=false:=by simp[P]
  have o8:=qh P;clear P;obtain⟨⟨r0,r1,r2,r3⟩,g⟩:=cells4 c.o;have f0:=g 0;have f1:=g 1;have f2:=g 2;have f3:=g 3;clear g
  go_wp2_with fail
  exact bodyPost_ret (AE rfl _ (b:=m) rfl rfl (AA J m _ _ _ _ c.o)) rfl ⟨Au b2.o a4 _ _ _ _,.inr (.inl ⟨HV.o,s.o,o8.o,rfl⟩)⟩
 have r5:(D.kind==E.kind)=true:=by simp[P]
 have r6:decide (D.kind=E.kind)=true:=by simp[P]
 have b6:=qh P;clear P;obtain⟨u,d4⟩:=exq<|J.heap.size;obtain⟨w6,a9⟩:=exq<|J.alloc (.cells (rcs D E (.slice a D.n cp) (.slice a2 E.n l) (AV 0 0 ⟨#[]⟩) (.slice none 0 0) (.slice none 0 0) 0 0) 79);have s5:w6.heap.size=J.heap.size+1:=by rw[a9];simp
 have h2:Below J.heap.size J w6:=by rw[a9];exact(Below.refl _ J).alloc nlr _
 have d5:w6.heap[u]?=some (.cells (rcs D E (.slice a D.n cp) (.slice a2 E.n l) (AV 0 0 ⟨#[]⟩) (.slice none 0 0) (.slice none 0 0) 0 0) 79 (0,0)):=by rw[d4,a9];exact han J _
 obtain⟨Q,Z⟩:=exq<|J.alloc (.cells (rcs D E (.slice a D.n cp) (.slice a2 E.n l) (AV D.kind 0 ⟨#[]⟩) (.slice none 0 0) (.slice none 0 0) 0 0) 79);have d1:Below J.heap.size J Q:=by rw[Z];exact(Below.refl _ J).alloc nlr _
 have L:Q.heap[u]?=some (.cells (rcs D E (.slice a D.n cp) (.slice a2 E.n l) (AV D.kind 0 ⟨#[]⟩) (.slice none 0 0) (.slice none 0 0) 0 0) 79 (0,0)):=by rw[d4,Z];exact han J _
 have o3:w.heap.size<=J.heap.size:=b2.o.size;have g3:w.heap.size<=u:=by omega
 have h4:Rps Q w.heap.size u D E (.slice a D.n cp) (.slice a2 E.n l) [] (AV D.kind 0 ⟨#[]⟩) (λ_=>.slice none 0 0) (.slice none 0 0) (.slice none 0 0) 0 0 :=
  ⟨L,OwM.empty _ _ _ _ _ _,World.ownsRow_nil Q _ _ 3,g3⟩
 have g1:Below w.heap.size w Q:=b2.o.trans<|d1.mono o3;have c8:Q.cell? (Ad u 8)=some (.int .i64 D.kind):=by have h:=Rcs.c8 L;exact h
 have l0:=qh<|KQ (k:=D.kind) Q c8 (Rcs.c14 L) (Rcs.fz L 14) h4.lt D.lead E.lead a5.o.lead a6.o.lead;have i4:mb<J.heap.size:=lbk j.o;have i6:nb<J.heap.size:=lbk d.o;have n9:m<J.heap.size:=lbk c.o;have n6:mb≠u:=by omega
 have n7:nb≠u:=by omega
 have i8:m≠u:=by omega
 have j2:=(h2.block _ i4).trans j.o;have j3:=(h2.block _ i6).trans d.o;have k2:=(d1.block _ i4).trans j.o;have k3:=(d1.block _ i6).trans d.o;have k4:=(d1.block _ n9).trans c.o;have o2:Q.heap.size=J.heap.size+1:=by rw[Z];simp
 have O:FbR u Q (.slice none 0 0) (λ_=>.slice none 0 0) 0 (.slice none 0 0) m:=⟨i8,by omega,by simp[Value.ownBlock],λi hi=>absurd hi (Nat.not_lt_zero _),by simp[Value.ownBlock]⟩;have q0:=(cells4 j2).1.1;have q2:=(cells4 k2).1.2.2.1;have q3:=(cells4 k3).1.2.2.1;have q8:=Rcs.c8 d5;have q9:=Rcs.fz d5 8;have g5:=qh h4;clear h4;have f7:=qh g1;clear g1;have C:=qh O;clear O;have b0:=qh (show w.heap.size<=Q.heap.size by omega);have k6:=qh n6;have k7:=qh n7;have k9:=qh i8;clear c8 h2 d1 d5 L s5 o2 n6 n7 i8 i4 i6 n9 o3 g3 j2 j3;have b3:=qh k2;have b4:=qh k3;have b5:=qh k4;clear k2 k3 k4 j d c b2;unfold rcs AV at a9 Z;unfold AV at q8
 dsimp only at q8
 rw[Z]at q2 q3;rw[a9]at q0 q8 q9;rw[d4]at q8 q9
 go_wp2_with fail
 rw[<-d4,<-Z];clear q0 q2 q3 q8 q9 a9 Z d4 m0 m1 m2 m3 n0 n1 n2 n3;refine l0.o.mono ?_;rintro r w8⟨rfl,v5,A,e2⟩;have r4:∃fl:Nat,Rps w8 w.heap.size u D E (.slice a D.n cp) (.slice a2 E.n l) [] (AV D.kind 0 ⟨#[]⟩) (λ_=>.slice none 0 0) (.slice none 0 0) (.slice none 0 0) 0 fl/\RfK u Q (.slice none 0 0) (λ_=>.slice none 0 0) 0 (.slice none 0 0) w8 (.slice none 0 0) (λ_=>.slice none 0 0) 0 (.slice none 0 0)/\Below w.heap.size Q w8/\(∀b,b<Q.heap.size->b≠u->w8.heap[b]?=Q.heap[b]?)/\(fl=0->(Ae D.kind D.lead E.lead).2=0):=by
  obtain⟨h6,h7⟩:=g5.o.below A;by_cases h8:(Ae D.kind D.lead E.lead).2=0
  ·rw[ifp h8]at e2;subst e2;exact⟨0,h6,h7,A.mono b0.o,λb h0 _=>A.block b h0,λ_=>h8⟩
  rw[ifn h8]at e2;subst e2;obtain⟨h9,q7⟩:=h6.err (((Ae D.kind D.lead E.lead).2:Nat):Int);exact⟨_,h9,h7.trans q7,(A.mono b0.o).setCell (p:=(Ad u 14)) g5.o.low _,λb h0 hn=>(Ay hn).trans (A.block b h0),λe=>e⟩
 obtain⟨fl,d3,m7,l8,e7,m8⟩:=r4;clear A e2;have k2:=(e7 mb (lbk b3.o) k6.o).trans b3.o;have k3:=(e7 nb (lbk b4.o) k7.o).trans b4.o;have k4:=(e7 m (lbk b5.o) k9.o).trans b5.o;have f4:=m7.fb C.o;have j1:=qh<|f7.o.trans l8;clear m7 e7 l8 l0 g5 f7 b3 b4 b5 C b0;have j9:=qh m8;clear m8;have a1:=Rcs.c10 d3.blk;have t8:=Rcs.fz d3.blk 10;unfold AV at a1
 dsimp only at a1
 obtain⟨w9,I⟩:=exq<|w8.setCell ⟨u,10,none⟩ (.string (Ae D.kind D.lead E.lead).1);have e5:=d3.lead (Ae D.kind D.lead E.lead).1;rw[<-I]at e5;have j2:w9.heap[mb]?=_:=(by rw[I];exact Ay k6.o:w9.heap[mb]?=w8.heap[mb]?).trans k2;have j3:w9.heap[nb]?=_:=(by rw[I];exact Ay k7.o:w9.heap[nb]?=w8.heap[nb]?).trans k3;have j4:w9.heap[m]?=_:=(by rw[I];exact Ay k9.o:w9.heap[m]?=w8.heap[m]?).trans k4;have h3:Below w.heap.size w w9:=by rw[I];exact j1.o.setCell (p:=(Ad u 10)) d3.low _
 have f9:FbR u w9 (.slice none 0 0) (λ_=>.slice none 0 0) 0 (.slice none 0 0) m:=⟨f4.1,by rw[I,nblk_setCell];exact f4.2.1,f4.2.2⟩;have m1:=(cells4 j2).1.2.1;have n1:=(cells4 j3).1.2.1;rw[I]at m1 n1;have b7:=qh<|OV w9 e5 rfl h3.size (by simp) (D.start.toNat,E.start.toNat,false);unfold plV at b7
 dsimp only at b7
 rw[Int.toNat_of_nonneg HV.o.s0,Int.toNat_of_nonneg s.o.s0]at b7;have o6:=qh e5;clear e5 d3 k2 k3 k4 f4 j2 j3;have j5:=qh h3;clear h3 j1;have g6:=qh f9;clear f9;have k0:=qh j4;clear j4
 go_wp2_with fail
 rw[<-I];clear a1 t8 m1 n1 I;refine b7.o.mono ?_;rintro r t7⟨rfl,⟨R1,s9,s7,d2,F⟩,g0⟩;have e0:numP ([],({ AV D.kind 0 ⟨#[]⟩ with lead:=(Ae D.kind D.lead E.lead).1 }:MD)) (D.start.toNat,E.start.toNat,false)=it0 D E:=rfl;rw[e0]at d2 F;have l6:CrL w.heap.size u m D E (.slice a D.n cp) (.slice a2 E.n l) w 0 t7:=⟨it0 D E,R1,s9,s7,0,fl,d2,Crv.start HV.o s.o j9.o,j5.o.trans g0,F.fb g6.o,F.bx g6.o k0.o⟩;have k5:=qh l6;clear l6 d2 F g0 o6 j5 g6 k0 b7 e0 j9
 go_wp2_with fail
 go_loopw [7] (λi W=>∃n:Nat,n<=3001/\i=.int .i64 (n:Int)/\CrL w.heap.size u m D E (.slice a D.n cp) (.slice a2 E.n l) w n W) (λi _=>3001-(intOf i).toNat)
 case atStart=>exact⟨0,by omega,rfl,k5.o⟩
 clear k5;obtain⟨n,v0,rfl,S,R,sv,qv,ac,fl,hc,N,U,O,o⟩:=hrel;obtain⟨qa,qc,Y,_,r9⟩:=Ax hc.que;have t9:qc<=9223372036854775807:=by unfold maxLen at r9;omega
 have s3:=N.le;have e3:=Rcs.c12 hc.blk;have l5:=Rcs.c14 hc.blk;rw[Y]at e3;obtain⟨ln,X⟩:=exq<|S.1.length;rw[<-X]at e3 s3;by_cases m4:fl=0
 ·subst m4;by_cases r7:n<ln
  ·obtain⟨x,hx⟩:∃x,S.1[n]?=some x:=⟨_,List.getElem?_eq_getElem (by omega)⟩;obtain⟨p,q,f⟩:=x;have j8:=qh<|WO wr p0.o p6.o U HV.o s.o b6.o a5.o a6.o hc (N.lvr (by omega)) hx;have n5:((n:Int)<(ln:Int)):=by omega
   have HX:=qh hx;clear hx;have j7:=qh N;clear N;have K:=qh U;clear U;have C:=qh O;clear O;have T:=qh o;clear o;have g7:=qh Y;clear Y;replace X:=qh X;clear hc
   go_wp2_with fail
   refine j8.o.mono ?_;rintro r W'⟨rfl,S',p8,p9,⟨⟨R',s8,s6,l9,d6⟩,l7⟩,hL,hz⟩;have d9:CrL w.heap.size u m D E (.slice a D.n cp) (.slice a2 E.n l) w (n+1) W':=⟨S',R',s8,s6,p8,p9,l9,j7.o.next HX.o hL hz,K.o.trans l7,d6.fb C.o,d6.bx C.o T.o⟩;replace d9:=qh d9;clear l9 d6 l7 hL hz j8 j7 HX K C T g7 e3 l5
   go_wp2_with fail
   exact⟨⟨n+1,by omega,by norm_cast,d9.o⟩,by simp[intOf];omega⟩
  have r8:¬((n:Int)<(ln:Int)):=by omega
  obtain⟨m9,e9⟩:=N.is HV.o s.o b6.o a5.o a6.o (by have:=N.nn;omega);clear N;obtain⟨ta,tc,i9,_,_⟩:=Ax hc.own.top;subst i9;have g8:=Rcs.c8 hc.blk;have g9:=Rcs.c9 hc.blk;have a1:=Rcs.c10 hc.blk;have l4:=Rcs.c11 hc.blk;have l3:=qh<|Em wr (hc.own.ma (Below.refl _ wr)) e9;have o7:=qh m9;replace e9:=qh e9;clear m9;have HC:=qh hc;clear hc;have K:=qh U;clear U;have C:=qh O;clear O;have T:=qh o;clear o;have g7:=qh Y;clear Y;replace X:=qh X
  go_wp2_with fail
  clear g8 g9 a1 l4 e3 l5;refine l3.o.mono ?_;rintro r o5⟨b8,hr⟩;obtain⟨B,d7⟩:=HC.o.below b8;have o:=d7.bx C.o T.o;have j6:=qh<|K.o.trans (b8.mono K.o.size);obtain⟨⟨r0,r1,r2,r3⟩,g⟩:=cells4 o;have f0:=g 0;have f1:=g 1;have f2:=g 2;have f3:=g 3;clear g;have g8:=Rcs.c8 B.blk;have g9:=Rcs.c9 B.blk;have a1:=Rcs.c10 B.blk;have l4:=Rcs.c11 B.blk;have o9:=qh<|B.own.box4 o (.int .i64 S.2.kind) (.int .i64 S.2.start) (.string S.2.lead) (.slice ta S.2.n tc);have f8:=qh o;clear o B d7 b8 l3 HC C T K
  rcases hr with⟨f5,rfl⟩|⟨f5,rfl⟩
  ·have p7:=qh f5;clear f5
   go_wp2_with fail
   exact bodyPost_ret (AE rfl _ (b:=m) rfl rfl (AA o5 m _ _ _ _ f8.o)) rfl ⟨Au j6.o a4 _ _ _ _,.inl ⟨HV.o,s.o,b6.o,.inl ⟨n,S.2,o7.o,p7.o,e9.o,_,R,rfl,o9.o⟩⟩⟩
  clear f5
  go_wp2_with fail
  exact bodyPost_ret (AE rfl _ (b:=m) rfl rfl (AA o5 m _ _ _ _ f8.o)) rfl ⟨Au j6.o a4 _ _ _ _,.inl ⟨HV.o,s.o,b6.o,.inr rfl⟩⟩
 have v2:¬((fl:Int)=0):=by omega
 have v3:((fl:Int)==0)=false:=by simp;omega
 have v4:decide ((fl:Int)=0)=false:=by simp;omega
 clear N hc m4;obtain⟨⟨r0,r1,r2,r3⟩,g⟩:=cells4 o;have f0:=g 0;have f1:=g 1;have f2:=g 2;have f3:=g 3;clear g;have K:=qh U;clear U;have T:=qh o;clear o;have g7:=qh Y;clear Y;replace X:=qh X;clear O;by_cases r7:n<ln;have n5:((n:Int)<(ln:Int)):=by omega
 rotate_left
 have r8:¬((n:Int)<(ln:Int)):=by omega
 all_goals
  go_wp2_with fail
  exact bodyPost_ret (AE rfl _ (b:=m) rfl rfl (AA wr m _ _ _ _ T.o)) rfl ⟨Au K.o a4 _ _ _ _,.inl ⟨HV.o,s.o,b6.o,.inr rfl⟩⟩
end
section
open Go CSR
variable{A B M:MD}{n q:Nat}{x:Nat->Int}
def svsz{k:KK}{s:ByteArray}{x:RK k}(h:Sv k s x):(s.size:Int)<=9223372036854775807:=by
 have d:=DY h.2;have c:=FU x.1;rw[d]at c;have g:s=vtxt x.1:=h.1;rw[g];have i:(vtxt x.1).size<=802:=c;omega
def YP(h:isWord n x=true):Wd 500 (ls x n 0):=λa c=>by
 unfold isWord at h;rw[Bool.and_eq_true]at h;obtain⟨j,d,rfl⟩:=UG c;have g:=GK.1 h.2 j d;exact⟨(x j-1).toNat,by omega,by omega⟩
section
variable{A B M:MD}(hA:VM A)(hB:VM B)(hkk:A.kind=B.kind)(hSA:MSz A)(hSB:MSz B){al:Nat->Bool}{n:Nat}(h:CmpIs A B al n M)
include hA hB hkk hSA hSB h
end
structure WIO(M:MD):Prop where
 io:∀i d,d<M.na i->M.aout i d=M.ain i d
theorem WIO.put{a t:Int}{x:ByteArray}(h:WIO M):WIO (M.arc q a a x t):=⟨λi d hd=>by
 have c:d<if i=q then M.na q+1 else M.na i:=hd
 show (if i=q/\d=M.na q then a else M.aout i d)=(if i=q/\d=M.na q then a else M.ain i d)
 by_cases e:i=q/\d=M.na q
 ·rw[ifp e,ifp e]
 rw[ifn e,ifn e];refine h.io i d ?_;by_cases g:i=q
 ·rw[ifp g]at c;subst g;have:d≠M.na i:=λj=>e ⟨rfl,j⟩;omega
 rw[ifn g]at c;exact c⟩
theorem WIO.state(h:WIO M):WIO (M.state ⟨#[]⟩):=⟨λi d hd=>h.io i d (Nat.lt_of_lt_of_le hd (by show (if i=M.n then 0 else M.na i)<=_;split<;>omega))⟩
theorem Rr(g:AccD A)(j:AccD B){al f:Bool}{p:Nat}(l:p<A.n)(o:q<B.n):∀r ∈ arL A B al p q f,r.2.1=r.1:=by
 have s:∀i,i<A.na p->∀m,m<=B.na q->∀r ∈ mtL A B p q i m,r.2.1=r.1:=λi hi m=>by
  induction m with
  |zero=>intro _ r c;cases c
  |succ m ih =>
   intro k r c
   rcases List.mem_append.1 c with h|h
   ·exact ih (by omega) r h
   split at h
   ·rename_i C;have e:=List.mem_singleton.1 h;rw[e];show B.aout q m=A.ain p i;rw[j q m o (by omega),C,g p i l hi]
   cases h
 have u:∀m,m<=A.na p->∀r ∈ lfL A B p q f m,r.2.1=r.1:=λm=>by
  induction m with
  |zero=>intro _ r c;cases c
  |succ m ih =>
   intro k r c
   rcases List.mem_append.1 c with h|h
   ·exact ih (by omega) r h
   split at h
   ·rename_i d
    split at h
    ·cases h
    have e:=List.mem_singleton.1 h;rw[e];show (0:Int)=A.ain p m;rw[<-g p m l (by omega),d]
   exact s m (by omega) _ nlr r h
 have z:∀m,m<=B.na q->∀r ∈ rtL B al p q m,r.2.1=r.1:=λm=>by
  induction m with
  |zero=>intro _ r c;cases c
  |succ m ih =>
   intro k r c
   rcases List.mem_append.1 c with h|h
   ·exact ih (by omega) r h
   split at h
   ·rename_i d;have e:=List.mem_singleton.1 h;rw[e];show B.aout q m=0;rw[j q m o (by omega),d]
   cases h
 intro r c
 rcases List.mem_append.1 c with h|h
 ·exact u _ nlr r h
 exact z _ nlr r h
theorem LJ{n:Nat}:∀(L:List ArP) {S:List Plc × MD},WIO S.2->(∀r ∈ L,r.2.1=r.1)->WIO (addL n S L).2
 | [],S,h,_=>h
 |r::t,S,h,hr=>LJ t (by
   have hb:WIO (numP S r.2.2.2).2:=by
    unfold numP;split
    ·exact h
    exact h.state
   show WIO ((numP S r.2.2.2).2.arc n r.1 r.2.1 r.2.2.1 _);rw[hr r (by simp)];exact hb.put) (λr' hr'=>hr r' (by simp[hr']))
theorem Nb{A B:MD}(hA:VM A)(hB:VM B)(hAA:AccD A)(hAB:AccD B){al:Nat->Bool}:∀n,n<=(itP A B al n).1.length->WIO (itP A B al n).2
 |0,_=>⟨λi d hd=>absurd hd (by show ¬d<(if i=0 then 0 else 0);split<;>omega)⟩
 |n+1,hn=>by
  have hn':n<(itP A B al n).1.length:=by
   rcases Nat.lt_or_ge n (itP A B al n).1.length with h|h
   ·exact h
   have e:itP A B al (n+1)=itP A B al n:=Ff (A:=A) (B:=B) (al:=al) h 1;rw[e]at hn;omega
  obtain⟨k,hk⟩:=hA.kk;have ih:=Nb hA hB hAA hAB (al:=al) n (by omega);show WIO (BX A B al n (itP A B al n)).2;unfold BX;cases hx:(itP A B al n).1[n]? with
  |none=>exact ih
  |some x =>
   obtain⟨p,q,f⟩:=x;obtain⟨hp,hq⟩:=(Jp.it (k:=k) (al:=al) hA hB n (by omega)).1.ok _ (List.mem_of_getElem? hx)
   dsimp only at hp hq ⊢
   refine LJ _ ?_ (Rr hAA hAB hp hq);unfold finP
   split
   ·exact ih
   exact⟨ih.io⟩
theorem CmpIs.acc(j:VM A)(k:VM B){al:Nat->Bool}(h:CmpIs A B al n M)(c:AccD A)(g:AccD B):AccD M:=by
 have i:=Nb j k c g (al:=al) n (by rw[h.len];omega);rw[<-h.eq]at i;exact λq d _ hd=>i.io q d hd
theorem Wv.inter(c:VM A)(l:VM B)(g:A.kind=B.kind)(m:MSz A)(o:MSz B){al:Nat->Bool}(z:∀p,al p=true\/∀k,k<A.na p->A.aout p k≠0)(h:CmpIs A B al n M)(d:AccD A)(j:AccD B){na:Nat}{u v t:ByteArray × Nat}(T:isWord na x=true)
  (R:Dv A na x u) (S:Dv B na x v) (Q:Dv M na x t) (N:u.2=0) (O:v.2=0) (P:t.2=0) (G:(Ae A.kind u.1 v.1).2=0):(Ae A.kind u.1 v.1).1=t.1:=by
 obtain⟨k,i⟩:=c.kk;obtain⟨H,_,C,_⟩:=h.vm c l g m o;have E:=R N k i;have F:=S O k (i.trans g);have s:=Q P k (i.trans C.symm);have I:rel (rmOf k A.inZ) (ls x na 0) []=_:=(KH (d.r k) (c.inn k) (c.stn k) (ls x na 0)).symm;have J:rel (rmOf k B.inZ) (ls x na 0) []=_:=(KH (j.r k) (l.inn k) (l.stn k) (ls x na 0)).symm;have a3:rel (rmOf k M.inZ) (ls x na 0) []=_:=(KH ((h.acc c l d j).r k) (H.inn k) (H.stn k) (ls x na 0)).symm;rw[I]at E;rw[J]at F;rw[a3]at s;rw[<-i]at G;have K:=IK E F G;rw[<-i];have L:=(h.cmp c l g m o z i (ls x na 0) (ls x na 0)).alone (YP T) (λU D=>WH (d.r k) (c.inn k) (c.stn k) (λe=>D e.symm));rw[L]at s;exact K.text s
section
variable{D M:MD}(hD:VM D)(hSD:MSz D){na:Nat}{x:Nat->Int}(hx:isWord na x=true){al:Nat->Bool}(hal:∀p,al p=true\/∀k,k<(wrd D na x).na p->(wrd D na x).aout p k≠0){n:Nat}(h:CmpIs (wrd D na x) D al n M)
include hD hSD hx hal h
end
end
section
open Go.RowKit Go.Deep
def Ed{D:MD}{mv:Value}(w:World)(hM:Ma none w mv D)(a7:MSz D):Calls prog 21 #[mv] w (TstM (VM D/\AccD D) w):=by
 obtain⟨sv,rfl,hS⟩:=hM;obtain⟨a,W,b,R,A,C,BB,O,b3,ha,hc,hm,hb,u⟩:=hS.open;subst b3;unfold maxLen at hm;obtain⟨S,z⟩:=exq<|w.alloc (.cells #[.int .i64 D.kind,.int .i64 D.start,.string D.lead,.slice a D.n W] 25);have L:Below w.heap.size w S:=by rw[z];exact(Below.refl _ w).alloc nlr _
 obtain⟨mb,E⟩:=exq<|w.heap.size;have P:S.heap[mb]?=some (.cells #[.int .i64 D.kind,.int .i64 D.start,.string D.lead,.slice a D.n W] 25 (0,0)):=by rw[z,E];exact han w _
 obtain⟨⟨m0,m1,m2,H⟩,_⟩:=cells4 P;have U:=qh<|Em S (⟨_,rfl,hS.kept (Ab L none)⟩:Ma none S (.agg #[.int .i64 D.kind,.int .i64 D.start,.string D.lead,.slice a D.n W]) D) a7;have I:=qh L;clear L;have K:=qh P;clear P a7;replace hS:=qh hS;replace ha:=qh ha;replace hb:=qh hb;replace u:=qh u;rw[z,E]at m0 m1 m2 H
 go_enter func21,ntmps21
 go_wp2_with fail
 rw[<-z,<-E];clear m0 m1 m2 H z E;refine U.o.mono ?_;rintro r w2⟨N,hr⟩;have a4:=(N.block _ (lbk K.o)).trans K.o;have J:=qh<|I.o.trans (N.mono I.o.size);clear N U I K;have B:=qh a4;clear a4
 rcases hr with⟨Q,rfl⟩|⟨Q,rfl⟩
 rotate_left
 ·have HV:=qh Q;clear Q;go_wp2;go_ret;exact⟨J.o,.inr ⟨λh=>HV.o h.1,rfl⟩⟩
 have b1:=Q.n1;have b2:=Q.n2;have HV:=qh Q;clear Q;obtain rfl:=ha.o (by omega);obtain⟨n,hn⟩:=exq<|D.n;rw[<-hn]at b1 b2 hc;have T:=qh hn;rw[<-hn];clear hn
 go_wp2_with fail
 go_loopw [3] (λv3 wr=>∃i:Nat,i<=n/\v3=.int .i64 (i:Int)/\Below w.heap.size w wr/\wr.heap[mb]?=some (.cells #[.int .i64 D.kind,.int .i64 D.start,.string D.lead,.slice (some (Ad b R)) D.n W] 25 (0,0))/\∀j,j<i->∀d,d<D.na j->D.aout j d=D.ain j d) (λv3 _=>n-(intOf v3).toNat)
 case atStart=>exact⟨0,Nat.zero_le _,rfl,J.o,B.o,λj hj=>by omega⟩
 obtain⟨i,hi,rfl,o,s,G⟩:=hrel;clear J B;replace G:=qh G;have c:=qh o;clear o;have g:=qh s;clear s;have H:=(cells4 g.o).1.2.2.2;rw[<-T.o]at H;by_cases b8:i<n
 ·have b7:(i:Int)<(n:Int):=by omega
  have b5:(0:Int)<=(i:Int):=by omega
  have a2:i<D.n:=by have:=T.o;omega
  have a8:=(hb.o (by have:=T.o;omega)).1;obtain⟨k1,k2,k3,k4,k5,k6,k7⟩:=u.o i a2;have a6:D.na i<=30000:=by have h1:=Nat.le_trans (En D (show i+1<=D.n by omega)) HV.o.arcs;have h2:Ai D (i+1)=Ai D i+D.na i:=rfl;omega
  have B:=qh k2;clear k1 k2;obtain⟨ni,k⟩:=exq<|D.na i;rw[<-k]at a6 k3 k5 k6 k7;replace k:=qh k;unfold maxLen at k4;replace k5:=qh k5;replace k6:=qh k6;replace k7:=qh k7
  go_wp2_with fail
  clear H
  go_loopw [4] (λv4 wr=>∃d:Nat,d<=ni/\v4=.int .i64 (d:Int)/\Below w.heap.size w wr/\wr.heap[mb]?=some (.cells #[.int .i64 D.kind,.int .i64 D.start,.string D.lead,.slice (some (Ad b R)) D.n W] 25 (0,0))/\∀e,e<d->D.aout i e=D.ain i e) (λv4 _=>ni-(intOf v4).toNat)
  case atStart=>exact⟨0,Nat.zero_le _,rfl,c.o,g.o,λj hj=>by omega⟩
  obtain⟨d,hd,rfl,o,s,F⟩:=hrel;clear c g;replace F:=qh F;have c:=qh o;clear o;have g:=qh s;clear s;have H:=(cells4 g.o).1.2.2.2;rw[<-T.o]at H;have t1:=(c.o.cell (p:=(Ad b (R+i*2+1))) a8).trans B.o;rw[<-k.o]at t1;by_cases Z:d<ni
  ·have b6:(d:Int)<(ni:Int):=by omega
   have b4:(0:Int)<=(d:Int):=by omega
   have Y:=(k6.o (by omega)).1;obtain⟨u0,u1,u2,u3⟩:=k7.o d Z;have X:=k5.o (by omega);rw[X]at t1;have c0:=(c.o.cell (p:=(Ad (BB i) (O i+d*4))) Y).trans u0;have c1:=(c.o.cell (p:=(Ad (BB i) (O i+d*4+1))) Y).trans u1;clear u0 u1 u2 u3 X;obtain⟨a0,l⟩:=exq<|D.ain i d;obtain⟨a1,m⟩:=exq<|D.aout i d;rw[<-l]at c0;rw[<-m]at c1;replace l:=qh l;replace m:=qh m;by_cases he:a0=a1
   ·have HE:=qh he;subst he
    go_wp2_with fail
    go_quiet (fail)
    go_wp2;go_roundw
    case rel=>exact⟨d+1,by omega,by go_num,below_drewN c.o _,g.o,λe he=>by
     by_cases h:e=d
     ·subst h;rw[<-l.o,<-m.o]
     exact F.o e (by omega)⟩
    simp[intOf];omega
   have HE:=qh he
   go_wp2_with fail
   go_quiet (fail)
   go_wp2;go_ret;exact⟨below_drewN c.o _,.inr ⟨λh=>HE.o (by rw[l.o,m.o];exact(h.2 i d a2 (by rw[<-k.o];exact Z)).symm),rfl⟩⟩
  have a9:ni=d:=by omega
  subst a9;have a5:¬((ni:Int)<(ni:Int)):=by omega
  go_wp2_with fail
  clear H t1;go_roundw
  case rel=>exact⟨i+1,by omega,by go_num,c.o,g.o,λj hj d hd=>by
   by_cases e:j=i
   ·subst e;exact F.o d (by rw[k.o];exact hd)
   exact G.o j (by omega) d hd⟩
  simp[intOf];omega
 have b0:n=i:=by omega
 subst b0;have a5:¬((n:Int)<(n:Int)):=by omega
 go_wp2;go_ret;exact⟨c.o,.inl ⟨⟨HV.o,λq d hq hd=>G.o q (by rw[T.o];exact hq) d hd⟩,rfl⟩⟩
variable{D:MD}{mv xv:Value}{na:Nat}{x:Nat->Int}
def WC(w:World)(hM:Ma none w mv D)(m:MSz D)(X:Si none w xv na x)(a2:(na:Int)<=9223372036854775807):
  Calls prog 55 #[mv,xv] w (DomE D na x w):=by
 obtain⟨sv,rfl,hS⟩:=hM;obtain⟨a,Y,b,a6,A,C,BB,O,a4,_⟩:=hS.open;subst a4;obtain⟨ax,cx,rfl⟩:=X.shape;obtain⟨J,o⟩:=exq<|w.alloc (.cells #[.int .i64 D.kind,.int .i64 D.start,.string D.lead,.slice a D.n Y] 25);have E:Below w.heap.size w J:=by rw[o];exact(Below.refl _ w).alloc nlr _
 obtain⟨mb,p⟩:=exq<|w.heap.size;have H:J.heap[mb]?=some (.cells #[.int .i64 D.kind,.int .i64 D.start,.string D.lead,.slice a D.n Y] 25 (0,0)):=by rw[o,p];exact han w _
 obtain⟨⟨m0,m1,K,L⟩,_⟩:=cells4 H;have j:∀W,Below w.heap.size w W->StS none W (.slice a D.n Y) D:=λW h=>hS.kept (Ab h none);have Q:=qh<|Em J (⟨_,rfl,j J E⟩:Ma none J (.agg #[.int .i64 D.kind,.int .i64 D.start,.string D.lead,.slice a D.n Y]) D) m;replace j:=qh j;clear hS;have s:=qh E;clear E;have u:=qh H;clear H;replace m:=qh m;replace X:=qh X;rw[o,p]at m0 m1 K L
 go_enter func55,ntmps55
 go_wp2_with fail
 rw[<-o,<-p];clear m0 m1 K L o p;refine Q.o.mono ?_;rintro r w2⟨F,hr⟩;have I:=(F.block _ (lbk u.o)).trans u.o;have c:=qh<|s.o.trans (F.mono s.o.size);clear F Q s u;obtain⟨⟨m0,m1,K,L⟩,_⟩:=cells4 I;have z:=qh I;clear I
 rcases hr with⟨U,rfl⟩|⟨U,rfl⟩
 rotate_left
 ·have B:=qh U;clear U;go_wp2;go_ret2;exact⟨c.o,(⟨#[]⟩,1),rfl,.inr ⟨λh=>B.o h.1,rfl⟩⟩
 have B:=qh U;clear U;have HW:=qh<|EB w2 (X.o.kept (Ab c.o none)) a2
 go_wp2_with fail
 refine HW.o.mono ?_;rintro r w3⟨rfl,rfl⟩;cases d:isWord na x
 ·go_wp2;go_ret2;exact⟨c.o,(⟨#[]⟩,1),rfl,.inr ⟨λh=>absurd h.2 (by rw[d];simp),rfl⟩⟩
 have T:=Lx d;replace d:=qh d;clear HW;have P:=qh<|Py (lo:=true) w3 B.o (j.o w3 c.o) (λq k=>m.o.aw q k)
 go_wp2_with fail
 refine P.o.mono ?_;rintro r w4⟨G,v,st,e,rfl,l,i⟩;have S:=(G.block _ (lbk z.o)).trans z.o;clear m0 m1 K L;have g:=qh<|c.o.trans (G.mono c.o.size);clear G P c z;obtain⟨⟨m0,m1,K,L⟩,_⟩:=cells4 S;clear S;replace l:=qh l;replace i:=qh i;by_cases Z:e=0
 ·subst Z;have N:=qh<|Rn w4 B.o (j.o w4 g.o) m.o (X.o.kept (Ab g.o none)) T l.o
  go_wp2_with fail
  clear m0 m1 K L;refine N.o.mono ?_;rintro r w5⟨rfl,R⟩;have a1:=qh<|g.o.trans (R.mono g.o.size);clear R g N;go_wp2;go_ret2;refine⟨a1.o,_,rfl,.inl ⟨B.o,d.o,λhz k hk=>?_⟩⟩;exact Tl B.o.inZ hk (i.o.stZ hk) (isWord.ne d.o) (λ_ _=>rfl) hz
 have a5:¬((e:Int)=0):=by omega
 replace Z:=qh Z;go_wp2;go_ret2;exact⟨g.o,(⟨#[]⟩,e),rfl,.inl ⟨B.o,d.o,λhz=>absurd hz Z.o⟩⟩
def Kx(w:World)(hM:Ma none w mv D)(i:MSz D)(U:Si none w xv na x)(R:(na:Int)<=9223372036854775807):
  Calls prog 22 #[mv,xv] w (AccE D na x w):=by
 obtain⟨sv,rfl,hS⟩:=hM;obtain⟨a,Z,b,a2,A,C,BB,O,a1,_⟩:=hS.open;subst a1;obtain⟨ax,cx,rfl⟩:=U.shape;obtain⟨I,j⟩:=exq<|w.alloc (.cells #[.int .i64 D.kind,.int .i64 D.start,.string D.lead,.slice a D.n Z] 25);have s:Below w.heap.size w I:=by rw[j];exact(Below.refl _ w).alloc nlr _
 obtain⟨mb,l⟩:=exq<|w.heap.size;have E:I.heap[mb]?=some (.cells #[.int .i64 D.kind,.int .i64 D.start,.string D.lead,.slice a D.n Z] 25 (0,0)):=by rw[j,l];exact han w _
 obtain⟨⟨m0,m1,G,H⟩,_⟩:=cells4 E;have g:∀W,Below w.heap.size w W->Ma none W (.agg #[.int .i64 D.kind,.int .i64 D.start,.string D.lead,.slice a D.n Z]) D:=λW h=>⟨_,rfl,hS.kept (Ab h none)⟩;have N:=qh<|Em I (g I s) i;replace g:=qh g;clear hS;have m:=qh s;clear s;have o:=qh E;clear E;replace i:=qh i;replace U:=qh U;rw[j,l]at m0 m1 G H
 go_enter func22,ntmps22
 go_wp2_with fail
 rw[<-j,<-l];clear m0 m1 G H j l;refine N.o.mono ?_;rintro r w2⟨u,hr⟩;have F:=(u.block _ (lbk o.o)).trans o.o;have c:=qh<|m.o.trans (u.mono m.o.size);clear u N m o;obtain⟨⟨m0,m1,G,H⟩,_⟩:=cells4 F;have p:=qh F;clear F
 rcases hr with⟨T,rfl⟩|⟨T,rfl⟩
 rotate_left
 ·have L:=qh T;clear T;go_wp2;go_ret2;exact⟨c.o,(⟨#[]⟩,1),rfl,.inr (.inr ⟨λh=>L.o h.1,rfl⟩)⟩
 have L:=qh T;clear T;have HW:=qh<|EB w2 (U.o.kept (Ab c.o none)) R
 go_wp2_with fail
 refine HW.o.mono ?_;rintro r w3⟨rfl,rfl⟩;cases k:isWord na x
 ·go_wp2;go_ret2;exact⟨c.o,(⟨#[]⟩,1),rfl,.inr (.inr ⟨λh=>absurd h.2 (by rw[k];simp),rfl⟩)⟩
 replace k:=qh k;clear HW;have J:=qh<|Ed w3 (g.o w3 c.o) i.o
 go_wp2_with fail
 refine J.o.mono ?_;rintro r w4⟨B,hr⟩;have Q:=(B.block _ (lbk p.o)).trans p.o;clear m0 m1 G H;have d:=qh<|c.o.trans (B.mono c.o.size);clear B J c p;obtain⟨⟨m0,m1,G,H⟩,_⟩:=cells4 Q;clear Q
 rcases hr with⟨S,rfl⟩|⟨S,rfl⟩
 rotate_left
 ·have Y:=qh S;clear S;go_wp2;go_ret2;exact⟨d.o,(⟨#[]⟩,6),rfl,.inr (.inl ⟨L.o,k.o,λh=>Y.o ⟨L.o,h⟩,rfl⟩)⟩
 have Y:=qh S;clear S;have K:=qh<|WC w4 (g.o w4 d.o) i.o (U.o.kept (Ab d.o none)) R
 go_wp2_with fail
 clear m0 m1 G H;refine K.o.mono ?_;rintro r w5⟨P,z,rfl,hz⟩;have X:=qh<|d.o.trans (P.mono d.o.size);clear P d K;replace hz:=qh hz;go_wp2;go_ret2;refine⟨X.o,z,rfl,?_⟩
 rcases hz.o with⟨h1,h2,h3⟩|⟨h1,_⟩
 ·exact .inl ⟨h1,h2,Y.o.2,h3⟩
 exact absurd ⟨L.o,k.o⟩ h1
end
end Go.Proofs.YtpldocnhbdlgfaaGreatDoor
