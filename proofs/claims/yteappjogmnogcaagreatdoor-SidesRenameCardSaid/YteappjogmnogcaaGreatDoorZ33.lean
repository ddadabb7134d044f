/- Parts. -/
import Derived.Test.YteappjogmnogcaaGreatDoorZ24
import Derived.Test.YteappjogmnogcaaGreatDoorZ25
namespace Go.Proofs.YteappjogmnogcaaGreatDoor
set_option maxRecDepth 100000
set_option linter.all false
set_option maxHeartbeats 16000000
open Go Tryz
section
open Go.RowKit Go.Deep
def BlS.old{F:Nat->Prop}{B db:Nat}{D:MD}{one:ByteArray}{ac fl:Int}{w:World}(h:BlS F B db D one ac fl w)(g:B<=w.heap.size):BlS (λb=>b<B) B db D one ac fl w:=by
 obtain⟨R,sv,c,d⟩:=h;refine⟨R,sv,c,λb hb=>⟨by have:=c.low;omega,by omega,λe=>?_,λi hi e=>?_⟩⟩
 ·have:=(World.ownsRow.lt c.own.top b e).1;omega
 have:=(World.ownsRow.lt (c.own.row i hi) b e).1;omega
def catA(D E:MD):Int:=(cpX E none E.n:Int)+(cpX D (some E.start.toNat) D.n:Int)
def CatE(D E:MD)(w:World)(r:Ending)(w':World):Prop :=
 Below w.heap.size w w'/\((VM D/\VM E/\D.kind=E.kind/\
  ((
   dnOk (tmF (Al D.kind D.lead E.lead) 0) (E.n+D.n) (catA D E)/\∃sv R,r=.returned (.tuple #[.agg #[.int .i64 D.kind,.int .i64 ((E.n:Int)+D.start),.string (Al D.kind D.lead E.lead).1,sv],.int .i64 0])/\OwM w' w.heap.size sv (catD D E (Al D.kind D.lead E.lead).1) R)\/
   (¬dnOk (tmF (Al D.kind D.lead E.lead) 0) (E.n+D.n) (catA D E)/\r=.returned (.tuple #[AE,.int .i64 2]))))\/
  (VM D/\VM E/\D.kind≠E.kind/\r=.returned (.tuple #[AE,.int .i64 6]))\/(¬(VM D/\VM E)/\r=.returned (.tuple #[AE,.int .i64 1])))
def Tu{D E:MD}{mv nv:Value}(w:World)(hM:Ma none w mv D)(hN:Ma none w nv E)(b2:MSz D)(T:MSz E)(ht:Tab w)(g:E.n+D.n<=1000)(S:Ac D D.n+Ac E E.n<=1000):Calls prog 65 #[mv,nv] w (CatE D E w):=by
 have hT:=λW (hb:Below w.heap.size w W)=>SR (D:=D) (E:=E) (mv:=mv) (nv:=nv) W ⟨_,hM.choose_spec.1,hM.choose_spec.2.kept (Ab hb none)⟩ ⟨_,hN.choose_spec.1,hN.choose_spec.2.kept (Ab hb none)⟩ b2 T (ht.below hb nlr);obtain⟨sv,rfl,hS⟩:=hM;obtain⟨sw,rfl,f7⟩:=hN;obtain⟨a,cp,_,_,_,_,_,_,l3,_⟩:=hS.open;obtain⟨a2,j8,_,_,_,_,_,_,r4,_⟩:=f7.open;subst l3;subst r4;obtain⟨w1,Z⟩:=exq<|w.alloc (.cells #[.int .i64 D.kind,.int .i64 D.start,.string D.lead,.slice a D.n cp] 24);obtain⟨w2,a1⟩:=exq<|w1.alloc (.cells #[.int .i64 E.kind,.int .i64 E.start,.string E.lead,.slice a2 E.n j8] 24);obtain⟨w3,b3⟩:=exq<|w2.alloc (.cells #[.int .i64 0,.int .i64 0,.string ⟨#[]⟩,.slice none 0 0] 24);have b6:w1.heap.size=w.heap.size+1:=by rw[Z];simp
 have p6:w2.heap.size=w.heap.size+1+1:=by rw[a1];simp[b6]
 have o4:Fr (λ_=>False) w w1:=by rw[Z];exact Fr.alloc _ _
 have k4:Fr (λ_=>False) w1 w2:=by rw[a1];exact Fr.alloc _ _
 have f8:Fr (λ_=>False) w2 w3:=by rw[b3];exact Fr.alloc _ _
 have b0:w1.heap[w.heap.size]?=some (.cells #[.int .i64 D.kind,.int .i64 D.start,.string D.lead,.slice a D.n cp] 24 (0,0)):=by rw[Z];exact han w _
 have l:w3.heap[w.heap.size]?=some (.cells #[.int .i64 D.kind,.int .i64 D.start,.string D.lead,.slice a D.n cp] 24 (0,0)):=(f8.block _ (by omega) (λe=>e)).trans ((k4.block _ (lbk b0) (λe=>e)).trans b0);have i7:w2.heap[w.heap.size+1]?=some (.cells #[.int .i64 E.kind,.int .i64 E.start,.string E.lead,.slice a2 E.n j8] 24 (0,0)):=by rw[<-b6,a1];exact han w1 _
 have Y:w3.heap[w.heap.size+1]?=some (.cells #[.int .i64 E.kind,.int .i64 E.start,.string E.lead,.slice a2 E.n j8] 24 (0,0)):=(f8.block _ (by omega) (λe=>e)).trans i7;have b1:w3.heap[w.heap.size+1+1]?=some (.cells #[.int .i64 0,.int .i64 0,.string ⟨#[]⟩,.slice none 0 0] 24 (0,0)):=by rw[<-p6,b3];exact han w2 _
 have k0:Below w.heap.size w w3:=((o4.trans k4).trans f8).below nlr (λ_ e=>e.elim);obtain⟨mb,g0⟩:=exq<|w.heap.size;obtain⟨nb,g3⟩:=exq<|w.heap.size+1;obtain⟨H,l1⟩:=exq<|w.heap.size+1+1;have f9:w.heap.size<=H:=by omega
 have r9:mb≠H:=by omega
 have s3:nb≠H:=by omega
 have r7:w.heap.size<=mb:=by omega
 have r8:w.heap.size<=nb:=by omega
 rw[<-g0]at l;rw[<-g3]at Y;rw[<-l1]at b1;obtain⟨⟨m0,m1,m2,m3⟩,_⟩:=cells4 l;obtain⟨⟨n0,n1,n2,n3⟩,_⟩:=cells4 Y;have n5:=qh<|hT w3 k0;clear hT;have j2:=qh k0;clear k0;have i:=qh l;clear l b0 o4 k4 f8 b6 p6 i7;have I:=qh Y;clear Y;have j:=qh b1;clear b1;replace hS:=qh hS;replace f7:=qh f7;replace ht:=qh ht;replace b2:=qh b2;replace T:=qh T;have c7:=qh g;clear g;replace S:=qh S;rw[g0,b3,a1,Z]at m0 m1 m2 m3;rw[g3,b3,a1,Z]at n0 n1 n2 n3
 go_enter func65,ntmps65
 go_wp2_with fail
 rw[<-Z,<-a1,<-b3,<-l1,<-g3,<-g0];clear m0 m1 m2 m3 n0 n1 n2 n3 Z a1 b3 g0 g3 l1;refine n5.o.mono ?_;rintro r w4⟨d4,e,rfl,he⟩;have O:=j2.o.trans<|d4.mono j2.o.size;have l:=(d4.block _ (lbk i.o)).trans i.o;have Y:=(d4.block _ (lbk I.o)).trans I.o;have b1:=(d4.block _ (lbk j.o)).trans j.o;clear d4 i I j n5 j2;have X:=qh O;clear O;have i:=qh l;clear l;have I:=qh Y;clear Y;have j:=qh b1;clear b1;obtain⟨⟨r0,r1,r2,r3⟩,rz⟩:=cells4 j.o;have f0:=rz 0;have f1:=rz 1;have f2:=rz 2;have f3:=rz 3;clear rz;unfold twoN at he
 rcases he with⟨hv,e8,hk,rfl⟩|⟨hv,e8,hk,rfl⟩|⟨hv,rfl⟩
 rotate_left
 ·have j1:=qh hv;have p8:=qh e8;have p9:=qh hk;clear hv e8 hk
  go_wp2_with fail
  exact bodyPost_ret (AH rfl _ (b:=H) rfl rfl (AG w4 H _ _ _ _ j.o)) rfl ⟨AF X.o f9 _ _ _ _,.inr (.inl ⟨j1.o,p8.o,p9.o,rfl⟩)⟩
 ·have j1:=qh hv;clear hv
  go_wp2_with fail
  exact bodyPost_ret (AH rfl _ (b:=H) rfl rfl (AG w4 H _ _ _ _ j.o)) rfl ⟨AF X.o f9 _ _ _ _,.inr (.inr ⟨j1.o,rfl⟩)⟩
 clear r0 r1 r2 r3 f0 f1 f2 f3;have HV:=qh hv;clear hv;have J:=qh e8;clear e8;have a5:=qh hk;clear hk;have m0:=(cells4 i.o).1.1;have a4:=Mp D.kind w4;have h5:=qh a4;clear a4
 go_wp2_with fail
 refine h5.o.mono ?_;rintro r w5⟨db,rfl,k1,G,a9⟩;clear m0 h5;obtain⟨B,d⟩:=exq<|w4.heap.size;rw[<-d]at k1 G a9;have l5:w.heap.size<=B:=by rw[d];exact X.o.size
 have q9:B<=w5.heap.size:=by rw[d];rw[d]at G;exact G.size
 have h8:=k1.old q9;have p0:smS D.lead:=b2.o.lead;have b6:smS E.lead:=T.o.lead;have O:Below w.heap.size w w5:=X.o.trans<|G.mono l5;have l4:Calls prog 109 #[.pointer (some (Ad db 0)),.string D.lead,.string E.lead] w5 (TmE (λb=>b<B) B db (AJ D.kind 0 (oneF D.kind)) (oneF D.kind) 0 0 (Al D.kind D.lead E.lead) w5):=SQ D.lead E.lead w5 h8 p0 b6 (ht.o.below O nlr);obtain⟨z,hz⟩:=exq<|Al D.kind D.lead E.lead;rw[<-hz]at l4;have m9:=qh l4;clear l4 p0 b6 k1 h8 O;have m2:=(cells4 ((G.block mb (by rw[d];exact lbk i.o)).trans i.o)).1.2.2.1;have n2:=(cells4 ((G.block nb (by rw[d];exact lbk I.o)).trans I.o)).1.2.2.1;replace G:=qh G;replace d:=qh d;replace hz:=qh hz;replace a9:=qh a9
 go_wp2_with fail
 refine m9.o.mono ?_;rintro r w6⟨rfl,g2⟩;clear m2 n2 m9;have h6:=G.o.trans g2.2.2;obtain⟨⟨v1,j6⟩,j7,c9⟩:=g2.1.cells;have q8:=c9 2;clear c9 j6;obtain⟨w7,e9⟩:=exq<|w6.setCell ⟨db,2,none⟩ (.string z.1);have h9:BlS (λb=>b<B) B db (AJ D.kind 0 z.1) (oneF D.kind) 0 (tmF z 0) w7:=by rw[e9];exact g2.1.lead z.1
 have a3:Below B w4 w7:=by rw[e9];exact h6.setCell (p:=(Ad db 2)) a9.o _
 have n9:=f7.o.kept<|Ab X.o none;have j9:=hS.o.kept<|Ab X.o none;have a8:cpC E none E.n=Ac E E.n:=by unfold cpC;simp
 have a7:cpC D (some E.start.toNat) D.n=Ac D D.n+D.n:=by unfold cpC;simp
 have d0:=c7.o;have d1:=S.o;have b5:=FQ E none E.n;have b4:=FQ D (some E.start.toNat) D.n;have e2:=Mk (F:=λb=>b<B) (db:=db) (N:=E.n+D.n) (c:=0) (D:=E) (M:=AJ D.kind 0 z.1) (o:=none) (P:=λ_=>True) (one:=oneF D.kind) (ac:=0) (fl:=tmF z 0) w4 w7 J.o T.o n9 (by rw[<-d.o];exact a3) (by rw[<-d.o];exact h9) a5.o (BOk.empty _ _ _ _) (show 0+E.n<=E.n+D.n by omega) (by omega) (λ_ h=>by cases h) (by omega) (Int.le_refl _) (by omega) (by rw[<-d.o];exact VP B db) trivial (λ_ _ _ _=>trivial);rw[<-d.o]at e2;have g9:=qh e2;clear e2;obtain⟨⟨n0,n1,n2,n3⟩,_⟩:=cells4 ((a3.block nb (by rw[d.o];exact lbk I.o)).trans I.o);have g6:=qh a3;clear a3 h6 g2 h9;replace j9:=qh j9;clear n9;rw[e9]at n0 n1 n2 n3
 go_wp2_with fail
 rw[<-e9];clear n0 n1 n2 n3 e9 j7 q8;refine g9.o.mono ?_;rintro r w8⟨rfl,k9⟩;clear g9;obtain⟨se,l2⟩:∃se:Nat,E.start=(se:Int):=⟨E.start.toNat,by have:=J.o.s0;omega⟩;have u:E.start.toNat=se:=by omega
 rw[show (((AJ D.kind 0 z.1).n:Nat):Int)+E.start=(se:Int) by rw[l2];show ((0:Nat):Int)+(se:Int)=_;omega];have Q:Below B w4 w8:=g6.o.trans k9.2.2;have k5:=(Q.block mb (by rw[d.o];exact lbk i.o)).trans i.o;have l0:=(Q.block H (by rw[d.o];exact lbk j.o)).trans j.o;obtain⟨wd,l6⟩:=exq<|w8.drew;have o5:Fr (λ_=>False) w8 wd:=by rw[l6];exact(Fr.refl _ _).drew
 have d9:Below w8.heap.size w8 wd:=o5.below nlr (λ_ e=>e.elim);have i2:=k9.1.kept d9;have h7:Below B w4 wd:=Q.trans (d9.mono (by rw[d.o];exact Q.size));have k7:=(d9.block _ (lbk k5)).trans k5;have o8:=(d9.block _ (lbk l0)).trans l0;have a6:=(cells4 k7).1;have m4:=qh<|SI db se wd;have r6:se<E.n:=by have:=J.o.s1;omega
 replace u:=qh u;replace l2:=qh l2;have g8:=qh i2;clear i2 k9 Q o5 d9;have b8:=qh h7;clear h7 g6;have j3:=qh k7;clear k7 k5;have j5:=qh o8;clear o8 l0;have l8:=qh a8;clear a8;have l7:=qh a7;clear a7;have n7:=qh b5;clear b5;have n6:=qh b4;clear b4;clear d0 d1
 go_wp2_with fail
 refine Au (λwk=>wk.cell? (Ad mb 0)=some (.int .i64 D.kind)/\wk.cell? (Ad mb 1)=some (.int .i64 D.start)/\wk.cell? (Ad mb 2)=some (.string D.lead)/\wk.cell? (Ad mb 3)=some (.slice a D.n cp)) 10 (by kernel_rfl) ?_;rw[<-l6];clear l6;refine Aa.tm 0 a6 ?_;refine Aa.tm 1 a6 ?_;refine Aa.tm 2 a6 ?_;refine Aa.tm 3 a6 ?_;refine Aa.tm 4 a6 ?_
 try simp only[Act.put,tryL]
 refine Aa.on 5 λK hK=>?_;go_simp;refine m4.o.mono ?_;rintro r w9⟨cx,tx,rfl,g4,o3,o9,d8⟩;have k6:=(d8.block _ (lbk j3.o)).trans j3.o;have o7:=(d8.block _ (lbk j5.o)).trans j5.o;have o2:=(cells4 k6).1;have e1:=g8.o.grown d8;obtain⟨F1,d2⟩:∃F1:Nat->Prop,F1=λb=>b<B\/(wd.heap.size<=b/\b<w9.heap.size):=⟨_,rfl⟩;rw[<-d2]at e1;have i5:F1 cx:=by rw[d2];exact .inr ⟨o3,lbk g4.1⟩
 have i6:F1 tx:=by rw[d2];exact .inr ⟨o9,lbk g4.2⟩
 have e4:∀b,b<B->F1 b:=λb hb=>by rw[d2];exact .inl hb
 have d7:Below B w4 w9:=b8.o.trans (d8.mono (by rw[d.o];exact b8.o.size));have d0:=c7.o;have d1:=S.o;have a8:=l8.o;have a7:=l7.o;have b5:=n7.o;have b4:=n6.o;have g1:(AV E none (AJ D.kind 0 z.1)).n=E.n:=by
  unfold AV;rw[(CX _ _ _ _ _).2.2.2,EK];exact Nat.zero_add _
 have l:(AV E none (AJ D.kind 0 z.1)).kind=D.kind:=by
  unfold AV;rw[(CX _ _ _ _ _).1,(DO _ _ _).1];rfl
 have i8:BOk (AV E none (AJ D.kind 0 z.1)) (E.n+D.n) (0+cpC E none E.n):=by
  unfold AV;exact EX (o:=none) (low:=0) (M:=stsD E E.n (AJ D.kind 0 z.1)) (c:=0) J.o T.o (λ_ h=>by cases h) (show 0+E.n<=E.n+D.n by omega) ((DO _ _ _).1.trans a5.o) (GD (M:=AJ D.kind 0 z.1) J.o T.o a5.o (BOk.empty _ _ _ _) E.n nlr) E.n nlr
 have e3:=Mk (F:=F1) (db:=db) (N:=E.n+D.n) (c:=0+cpC E none E.n) (D:=D) (M:=AV E none (AJ D.kind 0 z.1)) (o:=some se) (P:=PLk db cx tx se) (one:=oneF D.kind) (ac:=0+(cpX E none E.n:Int)) (fl:=tmF z 0) w4 w9 HV.o b2.o j9.o (by rw[<-d.o];exact d7) (by rw[<-d.o];exact e1) l i8 (by rw[g1];omega) (by omega) (λt h=>by cases h;omega) (by rw[<-u.o];omega) (by omega) (by rw[<-u.o];omega) (by rw[<-d.o];exact VQ B db cx tx se) g4 (λwa wb h hF=>⟨(hF cx i5).trans h.1,(hF tx i6).trans h.2⟩);rw[<-d.o]at e3;refine hK.out _ _ (.inr o2) ?_;clear hK K a6 m4 d0 d1 a8 a7 b5 b4 g4 o3 o9 d8;have h0:=qh e3;clear e3;have g7:=qh d7;clear d7 b8;have m5:=qh k6;clear k6 j3;have m8:=qh o7;clear o7 j5;replace g1:=qh g1;have r5:=qh l;clear l i8 e1 g8;have f5:=qh e4;clear e4 d2 i5 i6
 try simp only[Act.put,tryL]
 refine Aa.on 6 λK hK=>?_;go_simp;refine h0.o.mono ?_;rintro r p7⟨rfl,g⟩;have d5:Below B w4 p7:=g7.o.trans g.2.2;have e5:=(g.2.1 mb (f5.o mb (by rw[d.o];exact lbk i.o))).trans m5.o;have i9:=(g.2.1 H (f5.o H (by rw[d.o];exact lbk j.o))).trans m8.o;have L:=(cells4 e5).1;obtain⟨⟨v1,j6⟩,j7,c9⟩:=g.1.cells;have q7:=c9 1;clear c9 j7;have e0:=(g.1.start ((E.n:Int)+D.start)).sub f5.o;rw[g1.o];refine hK.out _ _ (.inr L) ?_;clear hK K o2 h0 g;have b7:=qh d5;clear d5 g7;replace e5:=qh e5;clear m5;have h4:=qh i9;clear i9 m8;have b9:=qh e0;clear e0 f5
 try simp only[Act.put,tryL]
 refine Aa.tm 7 L ?_;refine Aa.tm 8 L ?_;refine Aa.tm 9 L ?_
 try simp only[Act.put,tryL]
 refine Aa.on 10 λK hK=>?_;go_simp;refine hK.out _ _ (.inl rfl) (Aa.dn ?_);clear hK K L j6 q7;obtain⟨f4,U⟩:=exq<|p7.setCell ⟨db,1,none⟩ (.int .i64 ((E.n:Int)+D.start));rw[<-U];have k:=b9.o;rw[<-U]at k;have i3:({ AV D (some se) (AV E none (AJ D.kind 0 z.1)) with start:=(E.n:Int)+D.start }:MD)=catD D E z.1:=by rw[<-u.o];rfl
 rw[i3]at k;have i4:mb≠db/\H≠db:=by
  have h1:=a9.o;have h2:=lbk i.o;have h3:=lbk j.o;rw[<-d.o]at h2 h3;exact⟨by omega,by omega⟩
 have C:Below B w4 f4:=by rw[U];exact b7.o.setCell (p:=(Ad db 1)) a9.o _
 have j0:f4.heap[H]?=some (.cells #[.int .i64 0,.int .i64 0,.string ⟨#[]⟩,.slice none 0 0] 24 (0,0)):=by rw[U,Ar (show H≠db from i4.2)];exact h4.o
 have m:=MA HV.o b2.o J.o T.o a5.o.symm z.1;have hx:0+(cpX E none E.n:Int)+(cpX D (some se) D.n:Int)=catA D E:=by unfold catA;rw[u.o,Int.zero_add]
 rw[hx]at k;have d1:=S.o;have d0:=c7.o;have a8:=l8.o;have a7:=l7.o;have b5:=n7.o;have b4:=n6.o;have k2:catA D E<=1000000/\0<=catA D E:=by unfold catA;omega
 have k3:=Ml f4 k (by rw[m.2.1];omega) k2.1 k2.2;rw[m.2.1]at k3;have l9:=qh k3;clear k3 k2 d1 d0 a8 a7 b5 b4 hx i3 U k b9 i4;replace C:=qh C;clear b7;have c8:=qh j0;clear j0 h4;replace m:=qh m
 go_wp2_with fail
 refine l9.o.mono ?_;rintro r g5⟨d3,hr⟩;have d6:Below B w4 g5:=C.o.trans (d3.mono (by rw[d.o];exact C.o.size));have s:=(d3.block _ (lbk c8.o)).trans c8.o;have A:Below w.heap.size w g5:=X.o.trans<|d6.mono l5;clear d3 d6 l9;replace A:=qh A;replace s:=qh s;clear c8;obtain⟨⟨r0,r1,r2,r3⟩,rz⟩:=cells4 s.o;have f0:=rz 0;have f1:=rz 1;have f2:=rz 2;have f3:=rz 3;clear rz;unfold AE at hr
 rcases hr with⟨e6,s4,R,rfl,e7⟩|⟨e6,rfl⟩
 ·have o6:=m.o.2.2.1;have b0:=m.o.2.2.2;rw[o6,b0];rw[show (catD D E z.1).start=(E.n:Int)+D.start from rfl];obtain⟨sa,sc,l3,_,_⟩:=AC e7.top;subst l3;have m7:=qh<|DI (e7.box4 s.o (.int .i64 D.kind) (.int .i64 ((E.n:Int)+D.start)) (.string z.1) (.slice sa (catD D E z.1).n sc)) l5;clear e7 o6 b0;have j4:=qh e6;clear e6
  go_wp2_with fail
  refine bodyPost_ret (AH rfl _ (b:=H) rfl rfl (AG g5 H _ _ _ _ s.o)) rfl ⟨AF A.o f9 _ _ _ _,.inl ⟨HV.o,J.o,a5.o,.inl ⟨?_,.slice sa (catD D E z.1).n sc,R,?_,?_⟩⟩⟩
  ·rw[<-hz.o];exact j4.o
  ·rw[<-hz.o];rfl
  rw[<-hz.o];exact m7.o
 have j4:=qh e6;clear e6
 go_wp2_with fail
 refine bodyPost_ret (AH rfl _ (b:=H) rfl rfl (AG g5 H _ _ _ _ s.o)) rfl ⟨AF A.o f9 _ _ _ _,.inl ⟨HV.o,J.o,a5.o,.inr ⟨?_,rfl⟩⟩⟩;rw[<-hz.o];exact j4.o
variable{x:Nat->Int}{n:Nat}{v:Value}
def Ux:∀args w,(callFunc 126 args).run prog w=.ok (.enter 126 args) w:=λargs w=>by kernel_rfl
def SP(w:World)(s:Int):Calls prog 127 #[.int .i64 s] w (λr w'=>r=.returned (.bool (!offI 500 s))/\w'=w):=by
 by_cases g:1<=s
 ·go_enter func127,ntmps127
  go_wp2;go_ret;exact⟨Az (by
   unfold offI;rw[show decide (s<1)=false by simp;omega];by_cases c:s<=500
   ·simp[c]
   simp[c];omega),rfl⟩
 have d:decide (1<=s)=false:=by simp;omega
 go_enter func127,ntmps127
 go_wp2;go_ret;exact⟨Az (by unfold offI;rw[show decide (s<1)=true by simp;omega];rfl),rfl⟩
def SX(w:World)(s:Int):Calls prog 126 #[.int .i64 s] w (λr w'=>r=.returned (.bool (offI 500 s))/\w'=w):=by
 have c:=qh<|SP w s
 go_enter func126,ntmps126
 go_wp2_with fail
 refine c.o.mono ?_;rintro r d⟨rfl,rfl⟩;go_wp2;go_ret;exact⟨Az (by simp),rfl⟩
def Mx(w:World)(d:Si none w v n x)(hn:(n:Int)<=9223372036854775807):
  Calls prog 89 #[v] w (λr w'=>r=.returned (.bool (isWord n x))/\w'=w):=by
 have c:=MI w d hn (show TstF 126 #[] (offI 500) w from ⟨Ux,λs=>by
  rw[show ∀a:Value,(#[a]++#[]:Array Value)=#[a] from λ_=>rfl];exact SX w s⟩)
 obtain⟨a,g,rfl⟩:=d.shape;replace c:=qh c;clear d;by_cases h:(n:Int)<=200
 ·go_enter func89,ntmps89
  go_wp2_with fail
  refine c.o.mono ?_;rintro r j⟨rfl,rfl⟩;go_wp2;go_ret;exact⟨Az (by unfold isWord DC;rw[show decide (n<=200)=true by simp;omega];simp),rfl⟩
 have i:decide ((n:Int)<=200)=false:=by simp;omega
 go_enter func89,ntmps89
 go_wp2;go_ret;exact⟨Az (by unfold isWord;rw[show decide (n<=200)=false by simp;omega];rfl),rfl⟩
def Mj{i:Nat}(w:World)(j:Si none w v n x):Calls prog 93 #[v,.int .i64 (i:Int)] w (λr w'=>r=.returned (.int .i64 (atW n x i))/\w'=w):=by
 obtain⟨a,l,b,s,rfl,g,u,m,hb,c⟩:=j.open;unfold maxLen at m;by_cases h:i<n
 ·have o:(i:Int)<(n:Int):=by omega
  have p:(0:Int)<=(i:Int):=by omega
  obtain rfl:=g (by omega);have c0:=c i h;have e:atW n x i=x i:=ifp h;rw[e];obtain⟨k,d⟩:=exq<|x i;rw[<-d]at c0;rw[<-d];clear c j hb g e d
  go_enter func93,ntmps93
  go_wp2;go_ret;exact⟨rfl,rfl⟩
 have o:¬((i:Int)<(n:Int)):=by omega
 have e:atW n x i=0:=ifn h;rw[e];clear c j hb g e
 go_enter func93,ntmps93
 go_wp2;go_ret;exact⟨rfl,rfl⟩
theorem Dj(kind:Int)(na:Nat)(x:Nat->Int)(nb:Nat)(y:Nat->Int)(v:ByteArray):∀i,(AU kind na x nb y v i).n=i+1
 |0=>rfl
 |i+1=>by
  show (AU kind na x nb y v i).n+1=_;rw[Dj kind na x nb y v i]
theorem Rz(kind:Int)(na:Nat)(x:Nat->Int)(nb:Nat)(y:Nat->Int)(v:ByteArray):∀i p,(AU kind na x nb y v i).na p<=i
 |0,p=>by show (if p=0 then 0 else 0)<=0;split<;>omega
 |i+1,p=>by
  have h1:=Rz kind na x nb y v i;show (if p=i then (if i=(AU kind na x nb y v i).n then 0 else (AU kind na x nb y v i).na i)+1 else (if p=(AU kind na x nb y v i).n then 0 else (AU kind na x nb y v i).na p))<=i+1
  have h2:=h1 i;have h3:=h1 p
  split<;>split<;>omega
theorem IU(kind:Int)(na:Nat)(x:Nat->Int)(nb:Nat)(y:Nat->Int)(v:ByteArray):∀i,(AU kind na x nb y v i).kind=kind/\(AU kind na x nb y v i).start=0/\(AU kind na x nb y v i).lead=v
 |0=>⟨rfl,rfl,rfl⟩
 |i+1=>IU kind na x nb y v i
def z1t(kind:Int)(na:Nat)(x:Nat->Int)(nb:Nat)(y:Nat->Int)(v:ByteArray):Prop:=isWord na x=true/\isWord nb y=true/\Aw kind v=true
theorem Bld.c4{w:World}{B db:Nat}{D:MD}{R:Nat->Value}{sv:Value}{one:ByteArray}{ac fl:Int}(h:Bld w B db D R sv one ac fl):w.cell? (Ad db 4)=some (.string one):=BlkB.c4 h.blk
theorem BlS.one{F:Nat->Prop}{B db:Nat}{D:MD}{one:ByteArray}{ac fl:Int}{w:World}(h:BlS F B db D one ac fl w):w.cell? (Ad db 4)=some (.string one):=by
 obtain⟨R,sv,c,d⟩:=h;exact c.c4
def GU{kind:Int}{xv yv:Value}{na nb:Nat}{y:Nat->Int}{v:ByteArray}(w:World)(hx:Si none w xv na x)(hy:Si none w yv nb y)(i6:(na:Int)<=9223372036854775807)(i7:(nb:Int)<=9223372036854775807)(hv:smS v)(ht:Tab w)(Y:z1t kind na x nb y v):
  Calls prog 40 #[.int .i64 kind,xv,yv,.string v] w (λr w'=>Below w.heap.size w w'/\∃sv R,r=.returned (.tuple #[.agg #[.int .i64 kind,.int .i64 0,.string v,sv],.int .i64 0])/\OwM w' w.heap.size sv (BY kind na x nb y v) R):=by
 obtain⟨ax,cx,rfl⟩:=hx.shape;obtain⟨ay,cy,rfl⟩:=hy.shape;obtain⟨a4,a5,h2⟩:=Y;have j1:na<=200:=by unfold isWord at a4;simp at a4;exact a4.1
 have j2:nb<=200:=by unfold isWord at a5;simp at a5;exact a5.1
 obtain⟨w1,b1⟩:=exq<|w.alloc (.cells #[.int .i64 0,.int .i64 0,.string ⟨#[]⟩,.slice none 0 0] 24);obtain⟨rb,e1⟩:=exq<|w.heap.size;have O:Below w.heap.size w w1:=by rw[b1];exact(Below.refl _ w).alloc nlr _
 have g5:w1.heap[rb]?=some (.cells #[.int .i64 0,.int .i64 0,.string ⟨#[]⟩,.slice none 0 0] 24 (0,0)):=by rw[b1,e1];exact han w _
 have i5:w.heap.size<=rb:=by omega
 have a9:∀W,Below w.heap.size w W->Si none W (.slice ax na cx) na x:=λW h=>hx.kept (Ab h none);have b0:∀W,Below w.heap.size w W->Si none W (.slice ay nb cy) nb y:=λW h=>hy.kept (Ab h none);have d2:=qh<|Mx w1 (a9 w1 O) i6;have d5:=qh<|Mx w1 (b0 w1 O) i7;have e4:=Iv kind v w1 hv (ht.below O nlr);rw[h2]at e4;rw[a4]at d2;rw[a5]at d5;have f7:=qh e4;clear e4 a4 a5 h2 ht;replace a9:=qh a9;clear hx;replace b0:=qh b0;clear hy;have d0:=qh O;clear O;have d1:=qh g5;clear g5
 go_enter func40,ntmps40
 go_wp2_with fail
 rw[<-b1,<-e1];clear b1 e1;refine d2.o.mono ?_;rintro r k1⟨rfl,rfl⟩
 go_wp2_with fail
 refine d5.o.mono ?_;rintro r j3⟨rfl,rfl⟩
 go_wp2_with fail
 refine f7.o.mono ?_;rintro r w2⟨rfl,d6⟩;have u:=d0.o.trans<|d6.mono d0.o.size;have a7:=(d6.block _ (lbk d1.o)).trans d1.o;have b6:=qh<|Mp kind w2;replace u:=qh u;clear d6 d0 d2 d5 f7;replace a7:=qh a7;clear d1
 go_wp2_with fail
 refine b6.o.mono ?_;rintro r w3⟨H,rfl,d7,Q,g4⟩;obtain⟨B,c⟩:=exq<|w2.heap.size;rw[<-c]at d7 Q g4;have e3:w.heap.size<=B:=by rw[c];exact u.o.size
 have h7:B<=w3.heap.size:=by rw[c];rw[c]at Q;exact Q.size
 have S:=d7.old h7;obtain⟨⟨v1,h4⟩,h5,f8⟩:=S.cells;have h6:=f8 2;clear f8 h4;obtain⟨w4,b2⟩:=exq<|w3.setCell ⟨H,2,none⟩ (.string v);have b7:BlS (λb=>b<B) B H (AJ kind 0 v) (oneF kind) 0 0 w4:=by rw[b2];exact S.lead v
 have E:Below B w2 w4:=by rw[b2];exact Q.setCell (p:=(Ad H 2)) g4 _
 have h8:B<=w4.heap.size:=by rw[c];rw[c]at E;exact E.size
 have I:=qh (Ji ⟨#[]⟩ w4 b7 h8 (by show 0<=100000;omega));have b4:=qh E;clear E Q d7 S b7 b6;replace c:=qh c
 go_wp2_with fail
 rw[<-b2];clear b2 h5 h6;refine I.o.mono ?_;rintro r w5⟨rfl,a8⟩;have g8:(AJ kind 0 v).state ⟨#[]⟩=AU kind na x nb y v 0:=rfl;rw[g8]at a8;have b8:BlN (λb=>b<B) B H (AU kind na x nb y v 0) (oneF kind) ((0:Nat):Int) 0 w5 w5:=BlN.refl a8.1;have z:=b4.o.trans a8.2.2;have b5:=qh b8;clear b8 a8 g8 I;replace z:=qh z;clear b4;obtain⟨m,hm⟩:=exq<|max na nb;have j9:m<=200:=by omega
 have g6:max (na:Int) (nb:Int)=(m:Int):=by omega
 replace hm:=qh hm
 go_wp2_with fail
 clear g6
 go_loopw [11,43] (λi8 e7 wr=>∃i:Nat,i<=m/\i8=.int .i64 (i:Int)/\e7=.int .i64 (i:Int)/\BlN (λb=>b<B) B H (AU kind na x nb y v i) (oneF kind) (i:Int) 0 w5 wr) (λ_ e7 _=>m-(intOf e7).toNat)
 case atStart=>exact⟨0,Nat.zero_le _,rfl,rfl,b5.o⟩
 obtain⟨i,hi,rfl,rfl,g3⟩:=hrel;clear b5;have G:=qh g3;clear g3;have T:=z.o.trans G.o.2.2;have f9:B<=wr.heap.size:=by rw[c.o];rw[c.o]at T;exact T.size
 have j5:B<=w5.heap.size:=by have h:=z.o;rw[c.o];rw[c.o]at h;exact h.size
 by_cases j8:i<m
 ·have j7:(i:Int)<(m:Int):=by omega
  have e2:=Ji ⟨#[]⟩ wr G.o.1 f9 (by rw[Dj];omega);rw[Dj]at e2;have I:=qh e2;clear e2 T
  go_wp2_with fail
  refine I.o.mono ?_;rintro r w6⟨rfl,g7⟩;obtain⟨o,D⟩:=exq<|w6.drew;have U:Fr (λ_=>False) w6 o:=by rw[D];exact(Fr.refl _ _).drew
  have j:Below w6.heap.size w6 o:=U.below nlr (λ_ e=>e.elim);have A:BlN (λb=>b<B) B H ((AU kind na x nb y v i).state ⟨#[]⟩) (oneF kind) (i:Int) 0 w5 o:=by
   have h1:=G.o.trans g7;exact⟨h1.1.kept j,λb hb=>(j.block b (h1.1.lt.2.2 b hb)).trans (h1.2.1 b hb),h1.2.2.trans (j.mono (by have:=h1.2.2.size;omega))⟩
  have l:Below B w2 o:=z.o.trans A.2.2;have N:Below w.heap.size w o:=u.o.trans<|l.mono e3;have c4:=A.1.one;have h9:B<=o.heap.size:=by rw[c.o];rw[c.o]at l;exact l.size
  have c8:=qh<|Mj (i:=i) o (a9.o o N);have c9:=qh<|Mj (i:=i) o (b0.o o N);have e0:((AU kind na x nb y v i).state ⟨#[]⟩).n=i+2:=by show (AU kind na x nb y v i).n+1=_;rw[Dj]
  have c7:((AU kind na x nb y v i).state ⟨#[]⟩).na i<=100000:=by
   show (if i=(AU kind na x nb y v i).n then 0 else (AU kind na x nb y v i).na i)<=100000
   have:=Rz kind na x nb y v i i
   split<;>omega
  have s:=Jg (q:=i) (atW na x i) (atW nb y i) ((i+1:Nat):Int) (oneF kind) o A.1 (by omega) (by omega) h9 (by rw[e0];omega) (by rw[e0];omega) c7;rw[show ((AU kind na x nb y v i).state ⟨#[]⟩).arc i (atW na x i) (atW nb y i) (oneF kind) ((i+1:Nat):Int)=AU kind na x nb y v (i+1) from rfl,show (i:Int)+1=((i+1:Nat):Int) by omega]at s;obtain⟨on,C⟩:=exq<|oneF kind;rw[<-C]at c4 s;obtain⟨xi,e5⟩:=exq<|atW na x i;obtain⟨yi,e6⟩:=exq<|atW nb y i;rw[<-e5,<-e6]at s;rw[<-e5]at c8;rw[<-e6]at c9;have f4:=qh C;clear C;clear e5 e6;have b3:=qh s;clear s;have e9:=qh A;clear A g7 I G U j e0 c7 l N
  go_wp2_with fail
  refine Au (λwk=>wk.cell? (Ad H 4)=some (.string on)) 14 (by kernel_rfl) ?_;rw[<-D];clear D;refine Aa.tm 0 c4 ?_;refine Aa.tm 1 c4 ?_;refine Aa.tm 2 c4 ?_;refine Aa.tm 3 c4 ?_;refine Aa.tm 5 c4 ?_;refine Aa.tm 6 c4 ?_;refine Aa.tm 8 c4 ?_;refine Aa.tm 9 c4 ?_;refine Aa.tm 10 c4 ?_;refine Aa.tm 11 c4 ?_;refine Aa.tm 12 c4 ?_
  try simp only[Act.put,tryL]
  refine Aa.on 4 λK J=>?_;go_simp;refine c8.o.mono ?_;rintro r k2⟨rfl,rfl⟩;refine J.out _ _ (.inr c4) ?_;clear J K
  try simp only[Act.put,tryL]
  refine Aa.on 7 λK J=>?_;go_simp;refine c9.o.mono ?_;rintro r j4⟨rfl,rfl⟩;refine J.out _ _ (.inr c4) ?_;clear J K
  try simp only[Act.put,tryL]
  refine Aa.tm 13 c4 ?_
  try simp only[Act.put,tryL]
  refine Aa.on 14 λK J=>?_;go_simp;refine b3.o.mono ?_;rintro r w7⟨rfl,d9⟩;refine J.out _ _ (.inl rfl) (Aa.dn ?_);clear J K c4;rw[f4.o]at d9;have h3:=qh<|e9.o.trans d9;clear d9 b3 e9 c8 c9;go_wp2;go_roundw
  case rel=>exact⟨i+1,by omega,by go_num,by go_num,h3.o⟩
  simp[intOf];omega
 have i4:m=i:=by omega
 subst i4;have i9:¬((m:Int)<(m:Int)):=by omega
 obtain⟨o,D⟩:=exq<|wr.drew;have U:Fr (λ_=>False) wr o:=by rw[D];exact(Fr.refl _ _).drew
 have j:Below wr.heap.size wr o:=U.below nlr (λ_ e=>e.elim);have g2:=G.o.1.kept j;have l:Below B w2 o:=T.trans<|j.mono f9;obtain⟨R,sv,k,a6⟩:=g2;obtain⟨g,cp,rfl,i3,j6,_,_⟩:=DL k.own.top (by rw[Dj];omega);have d3:=BlkB.c3 k.blk;have d4:=BlkB.c4 k.blk;have g0:=k.own.fin_cell (i:=m) (by rw[Dj];omega);have fg:=DK k.own.top (m*2);have g9:=k.own.setFin (q:=m) (by rw[Dj];omega) (oneF kind);rw[Dj]at d3;have i2:H≠g:=λe=>Bj k.own.top k.blk (by decide) (by rw[e];rfl);obtain⟨w8,a1⟩:=exq<|o.setCell ⟨g,m*2,none⟩ (.string (oneF kind));have b9:BlS (λb=>b<B) B H (BY kind na x nb y v) (oneF kind) (m:Int) 0 w8:=by
  have e:BY kind na x nb y v=(AU kind na x nb y v m).setFin m (oneF kind):=by unfold BY;rw[<-hm.o]
  rw[e,a1];refine⟨R,_,⟨by rw[Ar i2];exact k.blk,g9,k.low⟩,λb hb=>⟨(a6 b hb).1,by rw[nblk_setCell];exact(a6 b hb).2.1,(a6 b hb).2.2⟩⟩
 have F:Below B w2 w8:=by rw[a1];exact l.setCell (p:=(Ad g (m*2))) i3 _
 have d:o.cell? (Ad H 3)=some (.slice (some (Ad g 0)) (m+1) cp)/\o.cell? (Ad H 4)=some (.string (oneF kind)):=⟨d3,d4⟩;have a3:(BY kind na x nb y v).n=m+1:=by unfold BY;rw[<-hm.o];exact Dj kind na x nb y v m
 have a2:(BY kind na x nb y v).kind=kind/\(BY kind na x nb y v).start=0/\(BY kind na x nb y v).lead=v:=by unfold BY;exact IU kind na x nb y v _
 have d8:=Ml w8 b9 (by rw[a3];omega) (by omega) (by omega);rw[a3]at d8;have e8:=qh d8;clear d8 b9;have g6:(m:Int)<(m:Int)+1:=by omega
 have j0:(0:Int)<=(m:Int):=by omega
 obtain⟨on,C⟩:=exq<|oneF kind;rw[<-C]at d a1;have f4:=qh C;clear C;replace F:=qh F;clear l T;replace a2:=qh a2;replace a3:=qh a3;clear d3 d4 k a6 g9 G U j
 go_wp2_with fail
 refine Au (λwk=>wk.cell? (Ad H 3)=some (.slice (some (Ad g 0)) (m+1) cp)/\wk.cell? (Ad H 4)=some (.string on)) 12 (by kernel_rfl) ?_;rw[<-D];clear D;refine Aa.tm 0 d ?_;refine Aa.tm 1 d ?_;refine Aa.tm 2 d ?_;refine Aa.tm 3 d ?_;refine Aa.tm 4 d ?_;refine Aa.tm 5 d ?_;refine Aa.tm 6 d ?_;refine Aa.tm 7 d ?_;refine Aa.tm 8 d ?_;refine Aa.tm 9 d ?_;refine Aa.tm 10 d ?_;refine Aa.tm 11 d ?_
 try simp only[Act.put,tryL]
 refine Aa.on 12 λK J=>?_;go_simp;refine J.out _ _ (.inl rfl) (Aa.dn ?_);clear J K d g0 fg;rw[<-a1];clear a1
 go_wp2_with fail
 refine e8.o.mono ?_;rintro r w9⟨g1,hr⟩;have P:Below B w2 w9:=F.o.trans (g1.mono (by have h:=F.o;rw[c.o];rw[c.o]at h;exact h.size));have X:=(P.block _ (by rw[c.o];exact lbk a7.o)).trans a7.o;have L:=u.o.trans<|P.mono e3;clear g1 P e8;replace L:=qh L;replace X:=qh X;obtain⟨⟨r0,r1,r2,r3⟩,rz⟩:=cells4 X.o;have f0:=rz 0;have f1:=rz 1;have f2:=rz 2;have f3:=rz 3;clear rz
 rcases hr with⟨Y,k0,R',rfl,Z⟩|⟨Y,rfl⟩
 rotate_left
 ·exact absurd (show dnOk 0 (m+1) (m:Int) from ⟨rfl,by omega,by omega⟩) Y
 rw[a2.o.1,a2.o.2.1,a2.o.2.2];obtain⟨sa,sc,h0,_,_⟩:=AC Z.top;rw[a3.o]at h0;subst h0;have f5:=qh<|DI (Z.box4 X.o (.int .i64 kind) (.int .i64 0) (.string v) (.slice sa (m+1) sc)) e3;clear Z Y
 go_wp2_with fail
 exact bodyPost_ret (AH rfl _ (b:=rb) rfl rfl (AG w9 rb _ _ _ _ X.o)) rfl ⟨AF L.o i5 _ _ _ _,_,R',rfl,f5.o⟩
end
end Go.Proofs.YteappjogmnogcaaGreatDoor
