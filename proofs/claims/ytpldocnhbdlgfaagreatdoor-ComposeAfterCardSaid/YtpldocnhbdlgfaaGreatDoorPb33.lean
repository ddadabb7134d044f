/- Parts. -/
import Derived.Test.YtpldocnhbdlgfaaGreatDoorPb31
namespace Go.Proofs.YtpldocnhbdlgfaaGreatDoor
set_option maxRecDepth 100000
set_option linter.all false
set_option maxHeartbeats 16000000
open Go Tryz
section
open Go.RowKit Go.Deep
def Dn{D E:MD}{mv nv:Value}(w:World)(hM:Ma none w mv D)(hN:Ma none w nv E)(d5:MSz D)(d6:MSz E)(ht:Tab w):Calls prog 14 #[mv,nv] w (CmE D E w):=by
 obtain⟨sv,rfl,hS⟩:=hM;obtain⟨sw,rfl,e5⟩:=hN;obtain⟨a,cp,_,_,_,_,_,_,i9,_⟩:=hS.open;obtain⟨a2,s,_,_,_,_,_,_,q9,_⟩:=e5.open;subst i9;subst q9;have i3:∀W,Below w.heap.size w W->Ma none W (.agg #[.int .i64 D.kind,.int .i64 D.start,.string D.lead,.slice a D.n cp]) D:=λW h=>⟨_,rfl,hS.kept (Ag h none)⟩;have d3:∀W,Below w.heap.size w W->Ma none W (.agg #[.int .i64 E.kind,.int .i64 E.start,.string E.lead,.slice a2 E.n s]) E:=λW h=>⟨_,rfl,e5.kept (Ag h none)⟩;have d7:∀W,Below w.heap.size w W->Tab W:=λW h=>ht.below h nlr;obtain⟨w1,a7⟩:=exq<|w.alloc (.cells #[.int .i64 D.kind,.int .i64 D.start,.string D.lead,.slice a D.n cp] 25);obtain⟨w2,a8⟩:=exq<|w1.alloc (.cells #[.int .i64 E.kind,.int .i64 E.start,.string E.lead,.slice a2 E.n s] 25);obtain⟨w3,d8⟩:=exq<|w2.alloc (.cells #[.int .i64 0,.int .i64 0,.string ⟨#[]⟩,.slice none 0 0] 25);have j0:w1.heap.size=w.heap.size+1:=by rw[a7];simp
 have m9:w2.heap.size=w.heap.size+1+1:=by rw[a8];simp[j0]
 have l7:Fr (λ_=>False) w w1:=by rw[a7];exact Fr.alloc _ _
 have b9:Fr (λ_=>False) w1 w2:=by rw[a8];exact Fr.alloc _ _
 have e9:Fr (λ_=>False) w2 w3:=by rw[d8];exact Fr.alloc _ _
 have i2:w1.heap[w.heap.size]?=some (.cells #[.int .i64 D.kind,.int .i64 D.start,.string D.lead,.slice a D.n cp] 25 (0,0)):=by rw[a7];exact han w _
 have z:w3.heap[w.heap.size]?=some (.cells #[.int .i64 D.kind,.int .i64 D.start,.string D.lead,.slice a D.n cp] 25 (0,0)):=(e9.block _ (by omega) (λe=>e)).trans ((b9.block _ (lbk i2) (λe=>e)).trans i2);have g4:w2.heap[w.heap.size+1]?=some (.cells #[.int .i64 E.kind,.int .i64 E.start,.string E.lead,.slice a2 E.n s] 25 (0,0)):=by rw[<-j0,a8];exact han w1 _
 have H:w3.heap[w.heap.size+1]?=some (.cells #[.int .i64 E.kind,.int .i64 E.start,.string E.lead,.slice a2 E.n s] 25 (0,0)):=(e9.block _ (by omega) (λe=>e)).trans g4;have I:w3.heap[w.heap.size+1+1]?=some (.cells #[.int .i64 0,.int .i64 0,.string ⟨#[]⟩,.slice none 0 0] 25 (0,0)):=by rw[<-m9,d8];exact han w2 _
 have e6:Below w.heap.size w w3:=((l7.trans b9).trans e9).below nlr (λ_ e=>e.elim);obtain⟨mb,f7⟩:=exq<|w.heap.size;obtain⟨nb,i4⟩:=exq<|w.heap.size+1;obtain⟨k,i6⟩:=exq<|w.heap.size+1+1;have d1:w.heap.size<=k:=by omega
 rw[<-f7]at z;rw[<-i4]at H;rw[<-i6]at I;obtain⟨⟨m0,m1,m2,m3⟩,_⟩:=cells4 z;have l1:=qh<|Fc w3 (i3 w3 e6) d5 (d7 w3 e6);replace i3:=qh i3;replace d3:=qh d3;replace d7:=qh d7;replace ht:=qh ht;have g7:=qh e6;clear e6;have l:=qh z;clear z i2 l7 b9 e9 j0 m9 g4;have d:=qh H;clear H;have c:=qh I;clear I;replace d5:=qh d5;replace d6:=qh d6;have o4:=qh hS;have o5:=qh e5;clear hS e5;rw[f7,d8,a8,a7]at m0 m1 m2 m3
 go_enter func14,ntmps14
 go_wp2_with fail
 rw[<-a7,<-a8,<-d8,<-i6,<-i4,<-f7];clear m0 m1 m2 m3 a7 a8 d8 f7 i4 i6;refine l1.o.mono ?_;rintro r w4⟨b5,hr⟩;have z:=(b5.block _ (lbk l.o)).trans l.o;have H:=(b5.block _ (lbk d.o)).trans d.o;have I:=(b5.block _ (lbk c.o)).trans c.o;have a4:=qh<|g7.o.trans (b5.mono g7.o.size);clear b5 l d c l1 g7;have l:=qh z;clear z;have d:=qh H;clear H;have c:=qh I;clear I
 rcases hr with⟨hv,rfl⟩|⟨hv,rfl⟩
 rotate_left
 ·have HV:=qh hv;clear hv;obtain⟨⟨r0,r1,r2,r3⟩,j⟩:=cells4 c.o;have f0:=j 0;have f1:=j 1;have f2:=j 2;have f3:=j 3;clear j
  go_wp2_with fail
  exact bodyPost_ret (AG rfl _ (b:=k) rfl rfl (AE w4 k _ _ _ _ c.o)) rfl ⟨Ay a4.o d1 _ _ _ _,.inr (.inr ⟨λh=>HV.o h.1,rfl⟩)⟩
 have HV:=qh hv;clear hv;obtain⟨⟨n0,n1,n2,n3⟩,_⟩:=cells4 d.o;have l2:=qh<|Fc w4 (d3.o w4 a4.o) d6.o (d7.o w4 a4.o)
 go_wp2_with fail
 clear n0 n1 n2 n3;refine l2.o.mono ?_;rintro r X⟨b6,hr⟩;have z:=(b6.block _ (lbk l.o)).trans l.o;have H:=(b6.block _ (lbk d.o)).trans d.o;have I:=(b6.block _ (lbk c.o)).trans c.o;have b0:=qh<|a4.o.trans (b6.mono a4.o.size);clear b6 l d c l2 a4;have l:=qh z;clear z;have d:=qh H;clear H;have c:=qh I;clear I
 rcases hr with⟨hv,rfl⟩|⟨hv,rfl⟩
 rotate_left
 ·have m:=qh hv;clear hv;obtain⟨⟨r0,r1,r2,r3⟩,j⟩:=cells4 c.o;have f0:=j 0;have f1:=j 1;have f2:=j 2;have f3:=j 3;clear j
  go_wp2_with fail
  exact bodyPost_ret (AG rfl _ (b:=k) rfl rfl (AE X k _ _ _ _ c.o)) rfl ⟨Ay b0.o d1 _ _ _ _,.inr (.inr ⟨λh=>m.o h.2,rfl⟩)⟩
 have m:=qh hv;clear hv;obtain⟨⟨m0,m1,m2,m3⟩,_⟩:=cells4 l.o;obtain⟨⟨n0,n1,n2,n3⟩,_⟩:=cells4 d.o;by_cases Q:D.kind=E.kind
 rotate_left
 ·have p0:(D.kind==E.kind)=false:=by simp[Q]
  have p6:decide (D.kind=E.kind)=false:=by simp[Q]
  have o2:=qh Q;clear Q;obtain⟨⟨r0,r1,r2,r3⟩,j⟩:=cells4 c.o;have f0:=j 0;have f1:=j 1;have f2:=j 2;have f3:=j 3;clear j
  go_wp2_with fail
  exact bodyPost_ret (AG rfl _ (b:=k) rfl rfl (AE X k _ _ _ _ c.o)) rfl ⟨Ay b0.o d1 _ _ _ _,.inr (.inl ⟨HV.o,m.o,o2.o,rfl⟩)⟩
 have p0:(D.kind==E.kind)=true:=by simp[Q]
 have p6:decide (D.kind=E.kind)=true:=by simp[Q]
 have e2:=qh Q;clear Q;obtain⟨pb,i5⟩:=exq<|X.heap.size;obtain⟨A,h7⟩:=exq<|X.heap.size+1;obtain⟨w6,a9⟩:=exq<|X.alloc (.map #[] 0);obtain⟨w7,U⟩:=exq<|w6.alloc (.cells (ccs D E (.slice a D.n cp) (.slice a2 E.n s) (AU D.kind 0 ⟨#[]⟩) (.slice none 0 0) pb (.slice none 0 0) 0 0) 70);have j1:w6.heap.size=X.heap.size+1:=by rw[a9];simp
 have r4:w7.heap.size=X.heap.size+1+1:=by rw[U];simp[j1]
 have h3:Below X.heap.size X w6:=by rw[a9];exact(Below.refl _ X).alloc nlr _
 have e7:Below w6.heap.size w6 w7:=by rw[U];exact(Below.refl _ w6).alloc nlr _
 have g6:MpP w6 pb []:=by rw[a9,i5];exact MpP.made X
 have P:w7.heap[A]?=some (.cells (ccs D E (.slice a D.n cp) (.slice a2 E.n s) (AU D.kind 0 ⟨#[]⟩) (.slice none 0 0) pb (.slice none 0 0) 0 0) 70 (0,0)):=by rw[h7,<-j1,U];exact han w6 _
 have m8:w.heap.size<=X.heap.size:=b0.o.size;have h6:Cps w7 w.heap.size A D E (.slice a D.n cp) (.slice a2 E.n s) [] [] (AU D.kind 0 ⟨#[]⟩) (λ_=>.slice none 0 0) (.slice none 0 0) pb (.slice none 0 0) 0 0 :=
  ⟨P,OwM.empty _ _ _ _ _ _,World.ownsRow_nil w7 _ _ 3,g6.kept (e7.block pb (by omega)),by omega,by omega⟩
 have b7:Below w.heap.size w w7:=b0.o.trans<|(h3.mono m8).trans (e7.mono (by omega));have C:Below X.heap.size X w7:=h3.trans<|e7.mono (by omega);have l0:=qh<|Jg w7 (Ccs.c0 P) (Ccs.c15 P) (Ccs.fz P 15) h6.lt D.lead E.lead d5.o.lead d6.o.lead (d7.o w7 b7);have k2:=(C.block _ (lbk l.o)).trans l.o;have k3:=(C.block _ (lbk d.o)).trans d.o;have k4:=(C.block _ (lbk c.o)).trans c.o;have p7:mb<X.heap.size:=lbk l.o;have p8:nb<X.heap.size:=lbk d.o;have q8:k<X.heap.size:=lbk c.o;have l9:mb≠A:=by omega
 have m4:nb≠A:=by omega
 have i7:k≠A:=by omega
 have m7:k≠pb:=by omega
 have F:Fb A w7 (.slice none 0 0) (λ_=>.slice none 0 0) 0 pb (.slice none 0 0) k:=⟨i7,by omega,m7,by simp[Value.ownBlock],λi hi=>absurd hi (Nat.not_lt_zero _),by simp[Value.ownBlock]⟩;have q2:=(cells4 k2).1.2.2.1;have q3:=(cells4 k3).1.2.2.1;have j7:=qh h6;clear h6;have g1:=qh b7;clear b7;have g2:w.heap.size<=w7.heap.size:=by omega
 have o:=qh F;clear F;have g0:=qh g2;clear g2;have k6:=qh l9;have k7:=qh m4;have k9:=qh i7;clear C h3 e7 g6 P j1 l9 m4 i7 m7 p7 p8 q8 r4 m8;have b1:=qh k2;have b2:=qh k3;have b3:=qh k4;clear k2 k3 k4 l d c b0;rw[U,a9]at q2 q3;unfold ccs AU at U q2 q3;rw[i5]at U q2 q3;have s6:=@run_makeMap prog
 go_wp2_with fail
 rw[<-a9,<-U,<-h7];clear q2 q3 a9 U h7 i5 m0 m1 m2 m3 n0 n1 n2 n3;refine l0.o.mono ?_;rintro r w8 l6;obtain⟨rfl,fl,b8,h4,f5,l8⟩:=j7.o.times g0.o (Cu HV.o.lead) (Cu (by rw[e2.o];exact m.o.lead)) l6;have k2:=(f5 mb (lbk b1.o) k6.o).trans b1.o;have k3:=(f5 nb (lbk b2.o) k7.o).trans b2.o;have k4:=(f5 k (lbk b3.o) k9.o).trans b3.o;have f4:Fb A w8 (.slice none 0 0) (λ_=>.slice none 0 0) 0 pb (.slice none 0 0) k:=⟨o.o.1,Nat.lt_of_lt_of_le o.o.2.1 h4.size,o.o.2.2⟩;have j5:=qh<|g1.o.trans h4;clear l6 f5 h4 l0 j7 g1 b1 b2 b3 o g0;have j9:=qh l8;clear l8;have e3:=Ccs.c10 b8.blk;have s3:=Ccs.fz b8.blk 10;unfold AU at e3
 dsimp only at e3
 obtain⟨w9,O⟩:=exq<|w8.setCell ⟨A,10,none⟩ (.string (tmS D D.lead E.lead));have e8:=b8.lead<|tmS D D.lead E.lead;rw[<-O]at e8;have j2:w9.heap[mb]?=_:=(by rw[O];exact Aw k6.o:w9.heap[mb]?=w8.heap[mb]?).trans k2;have j3:w9.heap[nb]?=_:=(by rw[O];exact Aw k7.o:w9.heap[nb]?=w8.heap[nb]?).trans k3;have j4:w9.heap[k]?=_:=(by rw[O];exact Aw k9.o:w9.heap[k]?=w8.heap[k]?).trans k4;have h5:Below w.heap.size w w9:=by rw[O];exact j5.o.setCell (p:=(Ad A 10)) b8.low _
 have f9:Fb A w9 (.slice none 0 0) (λ_=>.slice none 0 0) 0 pb (.slice none 0 0) k:=⟨f4.1,by rw[O,nblk_setCell];exact f4.2.1,f4.2.2⟩;have m1:=(cells4 j2).1.2.1;have n1:=(cells4 j3).1.2.1;rw[O]at m1 n1;have b4:=qh (Mm (x:=(D.start.toNat,E.start.toNat,false)) w9 e8 rfl h5.size (by simp) ⟨by have:=HV.o.s0;have:=HV.o.s1;have:=HV.o.n2;show D.start.toNat<=1000000;omega,by have:=m.o.s0;have:=m.o.s1;have:=m.o.n2;show E.start.toNat<=1000000;omega⟩);unfold plV at b4
 dsimp only at b4
 rw[Int.toNat_of_nonneg HV.o.s0,Int.toNat_of_nonneg m.o.s0]at b4;have n6:=qh e8;clear e8 b8 k2 k3 k4 f4 j2 j3;have j6:=qh h5;clear h5 j5;have h0:=qh f9;clear f9;have k0:=qh j4;clear j4
 go_wp2_with fail
 rw[<-O];clear e3 s3 m1 n1 O;refine b4.o.mono ?_;rintro r r9⟨rfl,⟨R1,r8,r6,a1,G⟩,g3⟩;have e0:numP ([],({ AU D.kind 0 ⟨#[]⟩ with lead:=tmS D D.lead E.lead }:MD)) (D.start.toNat,E.start.toNat,false)=it0 D E:=rfl;rw[e0]at a1 G;have e1:erN (it0 D E).2.n (fl:Int)=(fl:Int):=Ha (by show ¬3000<0+1;omega);rw[e1]at a1;have l3:CmL w.heap.size A pb k D E (.slice a D.n cp) (.slice a2 E.n s) w 0 r9:=⟨it0 D E,R1,r8,r6,0,fl,a1,Cvi.start HV.o m.o j9.o,j6.o.trans g3,G.fb h0.o,G.bx h0.o k0.o⟩;have k5:=qh l3;clear l3 a1 G g3 n6 j6 h0 k0 b4 e0 e1 j9
 go_wp2_with fail
 go_loopw [7] (λi W=>∃n:Nat,n<=3001/\i=.int .i64 (n:Int)/\CmL w.heap.size A pb k D E (.slice a D.n cp) (.slice a2 E.n s) w n W) (λi _=>3001-(intOf i).toNat)
 case atStart=>exact⟨0,by omega,rfl,k5.o⟩
 clear k5;obtain⟨n,s7,rfl,S,R,sv,qv,ac,fl,Z,u,Y,F,J⟩:=hrel;obtain⟨qa,qc,N,_,p9⟩:=Az Z.que;have s4:qc<=9223372036854775807:=by unfold maxLen at p9;omega
 have i8:=u.le;have e4:=Ccs.c13 Z.blk;have B:=Ccs.c15 Z.blk;rw[N]at e4;by_cases h8:fl=0
 ·subst h8;by_cases d2:n<S.1.length
  ·obtain⟨x,hx⟩:∃x,S.1[n]?=some x:=⟨_,List.getElem?_eq_getElem d2⟩;obtain⟨p,q,f⟩:=x;obtain⟨g,o7,h9⟩:=HA Z.que (by omega);have q7:qa=some (Ad g 0)/\qc=o7:=by rw[N]at h9;simpa using h9
   obtain⟨rfl,rfl⟩:=q7;have T:=Z.que;rw[N]at T;obtain⟨x0,x1,x2⟩:=HD S.1 n (p,q,f) hx;have y0:=CN T x0;have y1:=CN T x1;have y2:=CN T x2
   dsimp only at y0 y1 y2
   have d9:=qh<|RO wr o4.o o5.o Y HV.o m.o e2.o d5.o d6.o ht.o Z (u.lvi d2) hx;unfold plV at d9
   dsimp only at d9
   have g5:((n:Int)<(S.1.length:Int)):=by omega
   obtain⟨ln,L⟩:=exq<|S.1.length;rw[<-L]at g5 i8;have n9:=qh L;clear L;rw[<-n9.o]at e4;have HX:=qh hx;clear hx h9 T x0 x1 x2;have j8:=qh u;clear u;have a5:=qh Y;clear Y;have o:=qh F;clear F;have a6:=qh J;clear J;have h2:=qh N;clear N;clear Z d2
   go_wp2_with fail
   refine d9.o.mono ?_;rintro r W'⟨rfl,S',o6,o8,⟨⟨R',r7,r5,l5,d0⟩,l4⟩,hL,hz⟩;have d4:CmL w.heap.size A pb k D E (.slice a D.n cp) (.slice a2 E.n s) w (n+1) W':=⟨S',R',r7,r5,o6,o8,l5,j8.o.next (al:=alF D) HX.o hL hz,a5.o.trans l4,d0.fb o.o,d0.bx o.o a6.o⟩;replace d4:=qh d4;clear l5 d0 l4 hL hz d9 j8 HX a5 o a6 h2
   go_wp2_with fail
   exact⟨⟨n+1,by omega,by norm_cast,d4.o⟩,by simp[intOf];omega⟩
  have m5:¬((n:Int)<(S.1.length:Int)):=by omega
  have n7:=qh (u.is (by have:=u.nn;omega));clear u;obtain⟨ta,tc,i9,_,_⟩:=Az Z.own.top;subst i9;have g8:=Ccs.c8 Z.blk;have g9:=Ccs.c9 Z.blk;have e3:=Ccs.c10 Z.blk;have s5:=Ccs.c11 Z.blk;obtain⟨⟨r0,r1,r2,r3⟩,j⟩:=cells4 J;have f0:=j 0;have f1:=j 1;have f2:=j 2;have f3:=j 3;clear j;have o3:=qh<|Z.own.box4 J (.int .i64 S.2.kind) (.int .i64 S.2.start) (.string S.2.lead) (.slice ta S.2.n tc);clear Z;obtain⟨ln,L⟩:=exq<|S.1.length;rw[<-L]at m5 i8 e4;clear d2 L;have a5:=qh Y;clear Y;have o:=qh F;clear F;have a6:=qh J;clear J;have h2:=qh N;clear N
  go_wp2_with fail
  exact bodyPost_ret (AG rfl _ (b:=k) rfl rfl (AE wr k _ _ _ _ a6.o)) rfl ⟨Ay a5.o d1 _ _ _ _,.inl ⟨HV.o,m.o,e2.o,.inl ⟨n,S.2,n7.o,_,R,rfl,o3.o⟩⟩⟩
 have b9:fl=2:=u.fl2.resolve_left h8;subst b9;have n5:=qh<|u.badC rfl;clear u;obtain⟨⟨r0,r1,r2,r3⟩,j⟩:=cells4 J;have f0:=j 0;have f1:=j 1;have f2:=j 2;have f3:=j 3;clear j;obtain⟨ln,L⟩:=exq<|S.1.length;rw[<-L]at i8 e4;clear L Z h8;have a5:=qh Y;clear Y;have o:=qh F;clear F;have a6:=qh J;clear J;have h2:=qh N;clear N;have o9:(wr.drew.setCells k 0 [.int .i64 0,.int .i64 0,.string ⟨#[]⟩,.slice none 0 0]).cell? (Ad A 15)=some (.int .i64 2):=by
  have f8:=o.o.1;have h1:(wr.drew.setCells k 0 [.int .i64 0,.int .i64 0,.string ⟨#[]⟩,.slice none 0 0]).heap[A]?=wr.heap[A]?:=(Aw (Ne.symm f8)).trans ((Aw (Ne.symm f8)).trans ((Aw (Ne.symm f8)).trans (Aw (Ne.symm f8))));unfold World.cell? at B ⊢;rw[h1];exact B
 have B:wr.cell? (Ad A 15)=some (.int .i64 2):=B;by_cases d2:n<ln;have g5:((n:Int)<(ln:Int)):=by omega
 rotate_left
 have m5:¬((n:Int)<(ln:Int)):=by omega
 all_goals
  go_wp2_with fail
  refine AC (λwk=>wk.cell? (Ad A 15)=some (.int .i64 2)) 6 (by kernel_rfl) ?_;refine Aa.tm 0 B ?_;refine Aa.tm 1 B ?_;refine Aa.tm 2 B ?_;refine Aa.tm 3 B ?_;refine Aa.tm 4 B ?_
  try simp only[Act.put,tryL]
  refine Aa.on 5 λK hK=>?_;go_simp;refine hK.out _ _ (.inr o9) ?_;clear hK K
  try simp only[Act.put,tryL]
  refine Aa.on 6 λK hK=>?_;go_simp;refine hK.out _ _ (.inl rfl) (Aa.dn ?_);clear hK K
  go_wp2_with fail
  exact bodyPost_ret (AG rfl _ (b:=k) rfl rfl (AE wr.drew k _ _ _ _ a6.o)) rfl ⟨Ay a5.o.drew d1 _ _ _ _,.inl ⟨HV.o,m.o,e2.o,.inr ⟨n5.o,rfl⟩⟩⟩
end
end Go.Proofs.YtpldocnhbdlgfaaGreatDoor
