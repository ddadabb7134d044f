/- Parts. -/
import Derived.Test.YtpldocnhbdlgfaaGreatDoorPc38
namespace Go.Proofs.YtpldocnhbdlgfaaGreatDoor
set_option maxRecDepth 100000
set_option linter.all false
set_option maxHeartbeats 16000000
open Go Tryz
section
open Go.RowKit Go.Deep
def Rn{j J n d p q:Nat}{f:Bool}{A B:MD}{sa sb:Value}{S:List Plc × MD}{R:Nat->Value}{sv qv:Value}{i:World}(w:World)(hA:StS none i sa A)(hB:StS none i sb B)(h0:Below i.heap.size i w)(d3:VM A)(d4:VM B)(e0:A.kind=B.kind)(d1:MSz A)(d2:MSz B)(ht:Tab i)
  (h:Cps w i.heap.size j A B sa sb S.1 S.1 S.2 R sv J qv d (0:Nat)) (hL:Lvi A B n [] S S d d 0) (hx:S.1[n]?=some (p,q,f)) :
  Calls prog 48 #[.pointer (some (Ad j 0)),.int .i64 (n:Int),plV (p,q,f)] w
   (CvE i.heap.size j J n A B sa sb (arL A B ((List.range (A.na p)).any λk=>A.aout p k==0) p q f) (S.1,finP A B p q n S.2) d w R S.2.n sv qv (PrOk A B p q)):=by
 obtain⟨P,T⟩:=hL.ok _ (List.mem_of_getElem? hx)
 dsimp only at P T
 obtain⟨aA,cA,bA,oA,A1,C1,B1,O1,rfl,j8,p6,q9,k0,m3⟩:=hA.open;obtain⟨aB,cB,bB,oB,A2,C2,B2,O2,rfl,j9,p7,r0,k9,e9⟩:=hB.open;obtain rfl:=j8 (by omega);obtain rfl:=j9 (by omega);have g4:=(k0 (by omega)).1;have g5:=(k9 (by omega)).1;obtain⟨k1,k2,k3,k4,k5,k6,k7⟩:=m3 p P;obtain⟨l1,l2,l3,l4,l5,l6,l7⟩:=e9 q T;clear m3 e9 j8 j9 k0 k9;unfold plV
 dsimp only
 obtain⟨N,u⟩:=exq<|A.fin p;obtain⟨O,z⟩:=exq<|B.fin q;obtain⟨nP,G⟩:=exq<|A.na p;obtain⟨nQ,H⟩:=exq<|B.na q;obtain⟨aP,g2⟩:=exq<|A1 p;obtain⟨aQ,g3⟩:=exq<|A2 q;obtain⟨cP,d8⟩:=exq<|C1 p;obtain⟨cQ,d9⟩:=exq<|C2 q;obtain⟨bP,d6⟩:=exq<|B1 p;obtain⟨bQ,d7⟩:=exq<|B2 q;obtain⟨oP,i4⟩:=exq<|O1 p;obtain⟨oQ,i5⟩:=exq<|O2 q;rw[<-u]at k1;rw[<-g2,<-G,<-d8]at k2;rw[<-G,<-d8]at k3;rw[<-d8]at k4;rw[<-G,<-g2,<-d6,<-i4]at k5;rw[<-G,<-d6]at k6;rw[<-z]at l1;rw[<-g3,<-H,<-d9]at l2;rw[<-H,<-d9]at l3;rw[<-d9]at l4;rw[<-H,<-g3,<-d7,<-i5]at l5;rw[<-H,<-d7]at l6;have m8:∀k,k<nP->i.cell? (Ad bP (oP+k*4))=some (.int .i64 (A.ain p k))/\i.cell? (Ad bP (oP+k*4+1))=some (.int .i64 (A.aout p k))/\i.cell? (Ad bP (oP+k*4+2))=some (.string (A.aw p k))/\i.cell? (Ad bP (oP+k*4+3))=some (.int .i64 (A.ato p k)):=λk hk=>by
  rw[d6,i4];exact k7 k (by rw[<-G];exact hk)
 have m9:∀k,k<nQ->i.cell? (Ad bQ (oQ+k*4))=some (.int .i64 (B.ain q k))/\i.cell? (Ad bQ (oQ+k*4+1))=some (.int .i64 (B.aout q k))/\i.cell? (Ad bQ (oQ+k*4+2))=some (.string (B.aw q k))/\i.cell? (Ad bQ (oQ+k*4+3))=some (.int .i64 (B.ato q k)):=λk hk=>by
  rw[d7,i5];exact l7 k (by rw[<-H];exact hk)
 clear k7 l7 d6 d7 i4 i5 g2 g3 d8 d9;obtain⟨xb,i6⟩:=exq<|w.heap.size;obtain⟨nb,i3⟩:=exq<|w.heap.size+1;obtain⟨yb,i7⟩:=exq<|w.heap.size+1+1;obtain⟨w1,a9⟩:=exq<|w.alloc (.cells #[.pointer (some ⟨j,0,none⟩)] 66);obtain⟨w2,b0⟩:=exq<|w1.alloc (.cells #[.int .i64 (n:Int)] 3);obtain⟨m,b4⟩:=exq<|w2.alloc (.cells #[.int .i64 (p:Int),.int .i64 (q:Int),.bool f] 74);have i8:w1.heap.size=w.heap.size+1:=by rw[a9];simp
 have i9:w2.heap.size=w.heap.size+1+1:=by rw[b0];simp[i8]
 have r3:m.heap.size=w.heap.size+1+1+1:=by rw[b4];simp[i9]
 have b1:Below w.heap.size w w1:=by rw[a9];exact(Below.refl _ w).alloc nlr _
 have b2:Below w1.heap.size w1 w2:=by rw[b0];exact(Below.refl _ w1).alloc nlr _
 have b3:Below w2.heap.size w2 m:=by rw[b4];exact(Below.refl _ w2).alloc nlr _
 have e6:Bx m xb 66 (.pointer (some (Ad j 0))):=by
  rw[i6];exact(b3.block _ (by omega)).trans ((b2.block _ (by omega)).trans (by rw[a9];exact han w _))
 have i2:Bx m nb 3 (.int .i64 (n:Int)):=by
  rw[i3,<-i8];exact(b3.block _ (by omega)).trans (by rw[b0];exact han w1 _)
 have m7:m.heap[yb]?=some (.cells #[.int .i64 (p:Int),.int .i64 (q:Int),.bool f] 74 (0,0)):=by
  rw[i7,<-i9,b4];exact han w2 _
 have b8:Below w.heap.size w m:=b1.trans<|(b2.mono (by omega)).trans (b3.mono (by omega));obtain⟨g7,e8⟩:=h.below b8;have a8:Fb j m sv R S.2.n J qv xb:=h.fb_new (by omega) (by omega);have g1:Fb j m sv R S.2.n J qv nb:=h.fb_new (by omega) (by omega);have j6:Fb j m sv R S.2.n J qv yb:=h.fb_new (by omega) (by omega);have F:Below i.heap.size w m:=b8.mono h0.size;obtain⟨l,D⟩:=exq<|m.drew;have j7:i.heap.size<=m.heap.size:=Nat.le_trans h0.size F.size;have a4:Cps l i.heap.size j A B (.slice (some (Ad bA oA)) A.n cA) (.slice (some (Ad bB oB)) B.n cB) S.1 S.1 S.2 R sv J qv d (0:Nat)/\FrPK j m sv R S.2.n J qv l sv R S.2.n qv:=g7.below (by rw[D];exact(Below.refl _ m).drew);have a1:Below i.heap.size m l:=by rw[D];exact(Below.refl _ m).drew
 have b9:∀(L:List ArP) (S0:List Plc × MD) (Q:Prop) (bx:Nat) (o:Obj) (W:World),Lvm i.heap.size j J n A B (.slice (some (Ad bA oA)) A.n cA) (.slice (some (Ad bB oB)) B.n cB) L S0 d m R S.2.n sv qv Q bx o W->LvS j xb nb yb bA oA bB oB A.n cA B.n cB n p q f N O aP aQ nP cP nQ cQ W:=λL S0 Q bx o W hl=>by
  have hx:=hl.old a8 e6;have hn:=hl.old g1 i2;have hy:=hl.old j6 m7;obtain⟨_,_,_,_,_,hc⟩:=hl.blk;have hb:=(h0.trans F).trans hl.be;exact⟨cellOf hx 0 rfl,cellOf hn 0 rfl,cellOf hy 0 rfl,cellOf hy 1 rfl,cellOf hy 2 rfl,Ccs.c3 hc,Ccs.c7 hc,(hb.cell (p:=(Ad bA _)) g4).trans k1,(hb.cell (p:=(Ad bA _)) g4).trans k2,(hb.cell (p:=(Ad bB _)) g5).trans l1,(hb.cell (p:=(Ad bB _)) g5).trans l2⟩
 have Z:∀(L:List ArP) (S0:List Plc × MD) (Q:Prop) (bx:Nat) (o:Obj) (W:World),Lvm i.heap.size j J n A B (.slice (some (Ad bA oA)) A.n cA) (.slice (some (Ad bB oB)) B.n cB) L S0 d m R S.2.n sv qv Q bx o W->Below i.heap.size i W:=λL S0 Q bx o W hl=>(h0.trans F).trans hl.be;have g9:Lvm i.heap.size j J n A B (.slice (some (Ad bA oA)) A.n cA) (.slice (some (Ad bB oB)) B.n cB) [] S d m R S.2.n sv qv True xb (.cells #[.pointer (some (Ad j 0))] 66 (0,0)) l:=⟨S,R,sv,qv,d,0,a4.1,hL,a4.2,a1,λ_=>trivial,a4.2.fb a8,a4.2.bx a8 e6⟩;have c:=b9 _ _ _ _ _ _ g9;have s3:(p:Int)<(A.n:Int):=by omega
 have r5:(0:Int)<=(p:Int):=by omega
 have s4:(q:Int)<(B.n:Int):=by omega
 have r6:(0:Int)<=(q:Int):=by omega
 have e4:n<S.2.n:=by rw[hL.len];exact hL.n1
 obtain⟨g,cp,I,_,l9,_,_⟩:=Ed h.own.top (by omega);have r4:(n:Int)<(S.2.n:Int):=by omega
 have r2:(0:Int)<=(n:Int):=by omega
 have f4:=qh<|a4.1;clear a4;have f3:=qh (show FrPK j m sv R S.2.n J qv l sv R S.2.n qv from (g7.below (w':=l) (by rw[D];exact(Below.refl _ m).drew)).2);replace a1:=qh a1;replace e4:=qh e4;replace I:=qh I;replace l9:=qh l9;have r7:=qh (show w.heap.size<=l.heap.size by rw[D];exact b8.size);have j5:=qh<|Z _ _ _ _ _ _ g9;replace b9:=qh b9;replace Z:=qh Z;clear g9;replace hL:=qh hL;replace P:=qh P;replace T:=qh T;replace d3:=qh d3;replace d4:=qh d4;replace e0:=qh e0;replace d1:=qh d1;replace d2:=qh d2;replace ht:=qh ht;replace u:=qh u;replace z:=qh z;replace G:=qh G;replace H:=qh H;have n5:=qh k3;have n6:=qh k4;have n7:=qh k5;have n9:=qh k6;have o2:=qh m8;have o3:=qh l3;have o4:=qh l4;have j3:=qh l5;have o5:=qh l6;have o6:=qh m9;have g0:=qh e6;have j4:=qh i2;have a6:=qh a8;have f0:=qh g1;have j2:=qh e8;have j1:=qh F;have j0:=qh j7;clear k1 k2 k3 k4 k5 k6 m8 l1 l2 l3 l4 l5 l6 m9 e6 i2 m7 a8 g1 j6 g7 e8 F h0 i8 i9 r3 b1 b2 b3 b8 hA hB g4 g5 p6 q9 p7 r0 j7 h hx;have a7:=qh (λ(wf:World) (D':MD) (fl:Nat) (hD:D'=finP A B p q n S.2) (h1:Cps wf i.heap.size j A B (.slice (some (Ad bA oA)) A.n cA) (.slice (some (Ad bB oB)) B.n cB) S.1 S.1 D' R sv J qv d fl) (h2:Lvi A B n [] (S.1,D') (S.1,D') d d fl) (h3:FrPK j m sv R S.2.n J qv wf sv R D'.n qv) (h4:Below i.heap.size m wf) (h5:fl=0->PrQ A B p q 0 0)=>(show Lvm i.heap.size j J n A B (.slice (some (Ad bA oA)) A.n cA) (.slice (some (Ad bB oB)) B.n cB) [] (S.1,finP A B p q n S.2) d m R S.2.n sv qv (PrQ A B p q 0 0) xb (.cells #[.pointer (some (Ad j 0))] 66 (0,0)) wf from by
  subst hD;exact⟨(S.1,finP A B p q n S.2),R,sv,qv,d,fl,h1,h2,h3,h4,h5,h3.fb a6.o,h3.bx a6.o g0.o⟩))
 go_enter func48,ntmps48
 obtain⟨X,hX⟩:=exq<|seqR 3 Ff;have hp:=Vl;rw[<-hX]at hp;change Code.wp prog Ff _ _ _;rw[<-hp];replace hX:=qh hX;clear hp
 conv=>arg 2;whnf
 conv=>arg 2;arg 2;whnf
 conv=>arg 2;arg 2;arg 2;whnf
 conv=>arg 2;arg 2;arg 2;arg 2;whnf
 go_wp2_with fail
 refine AD (LvS j xb nb yb bA oA bB oB A.n cA B.n cB n p q f N O aP aQ nP cP nQ cQ) 21 (by kernel_rfl) ?_;rw[<-a9,<-b0,<-b4,<-D,<-i7,<-i3,<-i6];clear a9 b0 b4 D i7 i3 i6;refine Aa.tm 0 c ?_;refine Aa.tm 1 c ?_;refine Aa.tm 2 c ?_;refine Aa.tm 3 c ?_;refine Aa.tm 4 c ?_;refine Aa.tm 5 c ?_;refine Aa.tm 6 c ?_;refine Aa.tm 7 c ?_;refine Aa.tm 8 c ?_;refine Aa.tm 9 c ?_;refine Aa.tm 10 c ?_;refine Aa.tm 11 c ?_;refine Aa.tm 12 c ?_;refine Aa.tm 13 c ?_;refine Aa.tm 14 c ?_;refine Aa.tm 15 c ?_;refine Aa.tm 16 c ?_;refine Aa.tm 17 c ?_;refine Aa.tm 18 c ?_;refine Aa.tm 19 c ?_
 try simp only[Act.put,tryL]
 refine Aa.on 20 λK hK=>?_;go_simp;refine hK.out _ _ (.inr c) ?_;clear hK K
 try simp only[Act.put,tryL]
 refine Aa.on 21 λK hK=>?_;go_simp;refine hK.out _ _ (.inl rfl) (Aa.dn ?_);clear hK K;by_cases e1:N=⟨#[]⟩;have f7:=qh<|show S.2=finP A B p q n S.2 from (ifp (.inl (u.o.symm.trans e1))).symm;have f9:=qh (show PrQ A B p q 0 0 from ⟨λh=>absurd (u.o.symm.trans e1) h,λk' j' h=>by omega⟩);have f8:=qh<|a7.o l S.2 0 f7.o f4.o hL.o f3.o a1.o (λ_=>f9.o);clear c;subst e1
 rotate_left
 have f1:(N.toList==[])=false:=by
  cases hE:(N.toList==[])
  ·rfl
  exact absurd (Jb hE) e1
 by_cases e2:O=⟨#[]⟩;have f7:=qh<|show S.2=finP A B p q n S.2 from (ifp (.inr (z.o.symm.trans e2))).symm;have f9:=qh (show PrQ A B p q 0 0 from ⟨λ_ h=>absurd (z.o.symm.trans e2) h,λk' j' h=>by omega⟩);have f8:=qh<|a7.o l S.2 0 f7.o f4.o hL.o f3.o a1.o (λ_=>f9.o);have b6:=qh e1;clear c e1;subst e2
 rotate_left
 focus
  have f2:(O.toList==[])=false:=by
   cases hE:(O.toList==[])
   ·rfl
   exact absurd (Jb hE) e2
  have b6:=qh e1;clear e1;replace e2:=qh e2;have o8:=qh (show Am A.kind N=true by rw[u.o];exact(d3.o.fin p P.o).resolve_left (by rw[<-u.o];exact b6.o));have o9:=qh (show Am A.kind O=true by rw[z.o,e0.o];exact(d4.o.fin q T.o).resolve_left (by rw[<-z.o];exact e2.o));obtain⟨wz,a5⟩:=exq<|l.drew;obtain⟨E,l8⟩:=f4.o.below (w':=wz) (by rw[a5];exact(Below.refl _ l).drew);have g6:Below i.heap.size l wz:=by rw[a5];exact(Below.refl _ l).drew
  have m4:wz.cell? (Ad xb 0)=some (.pointer (some (Ad j 0))):=by rw[a5];exact c.1
  have m5:wz.cell? (Ad nb 0)=some (.int .i64 (n:Int)):=by rw[a5];exact c.2.1
  have C:wz.cell? (Ad xb 0)=some (.pointer (some (Ad j 0)))/\wz.cell? (Ad nb 0)=some (.int .i64 (n:Int))/\wz.cell? (Ad j 11)=some (.slice (some (Ad g 0)) S.2.n cp):=⟨m4,m5,by rw[Ccs.c11 E.blk,I.o]⟩;have o7:=qh (IN wz (Ccs.c0 E.blk) (Ccs.c15 E.blk) (Ccs.fz E.blk 15) E.lt N O (by rw[u.o];exact d1.o.fin p) (by rw[z.o];exact d2.o.fin q) (ht.o.below (j5.o.trans g6) nlr));replace E:=qh E;have b7:=qh<|f3.o.trans l8;clear l8;have f5:=qh<|a1.o.trans g6;have r9:=qh<|b7.o.fb a6.o;have r8:=qh<|b7.o.fb f0.o;clear g6 m4 m5 c
  go_wp2_with fail
  refine AD (λwk=>wk.cell? (Ad xb 0)=some (.pointer (some (Ad j 0)))/\wk.cell? (Ad nb 0)=some (.int .i64 (n:Int))/\wk.cell? (Ad j 11)=some (.slice (some (Ad g 0)) S.2.n cp)) 12 (by kernel_rfl) ?_;rw[<-a5];clear a5 f1 f2;refine Aa.tm 0 C ?_;refine Aa.tm 1 C ?_;refine Aa.tm 2 C ?_;refine Aa.tm 3 C ?_;refine Aa.tm 4 C ?_;refine Aa.tm 5 C ?_;refine Aa.tm 6 C ?_;refine Aa.tm 7 C ?_;refine Aa.tm 8 C ?_
  try simp only[Act.put,tryL]
  refine Aa.on 9 λK hK=>?_;go_simp;refine o7.o.mono ?_;rintro r w6⟨rfl,w5,d5,U⟩;have e7:i.heap.size<=wz.heap.size:=Nat.le_trans j0.o f5.o.size;obtain⟨zt,b5⟩:=exq<|Ah A.kind N O;have p8:∃fl:Nat,Cps w6 i.heap.size j A B (.slice (some (Ad bA oA)) A.n cA) (.slice (some (Ad bB oB)) B.n cB) S.1 S.1 S.2 R sv J qv d fl/\FrPK j m sv R S.2.n J qv w6 sv R S.2.n qv/\Below i.heap.size m w6/\((fl=0/\zt.2=0)\/(fl=2/\zt.2≠0)):=by
   obtain⟨h6,h7⟩:=E.o.below d5;rw[<-b5]at U;by_cases h8:zt.2=0
   ·rw[ifp h8]at U;subst U;exact⟨0,h6,b7.o.trans h7,f5.o.trans (d5.mono e7),.inl ⟨rfl,h8⟩⟩
   rw[ifn h8]at U;have e3:zt.2=2:=by
    have:=KG (DL o8.o) (DL o9.o);rw[<-b5]at this;omega
   rw[e3]at U;subst U;obtain⟨h9,p0⟩:=h6.err ((2:Nat):Int);exact⟨2,h9,(b7.o.trans h7).trans p0,(f5.o.trans (d5.mono e7)).setCell (p:=(Ad j 15)) E.o.low _,.inr ⟨rfl,h8⟩⟩
  obtain⟨fl,a2,Y,l0,g8⟩:=p8;have d0:w6.cell? (Ad xb 0)=some (.pointer (some (Ad j 0)))/\w6.cell? (Ad nb 0)=some (.int .i64 (n:Int))/\w6.cell? (Ad j 11)=some (.slice (some (Ad g 0)) S.2.n cp) :=
   ⟨cellOf (Y.bx a6.o g0.o) 0 rfl,cellOf (Y.bx f0.o j4.o) 0 rfl,by rw[Ccs.c11 a2.blk,I.o]⟩
  have q8:w6.frozen? (Ad g (n*2))=false:=DD (by have h1:=a2.own.top;rw[I.o]at h1;exact h1) _;have q7:w6.cell? (Ad g (n*2))=some (.string (S.2.fin n)):=(show OwM w6 i.heap.size (.slice (some (Ad g 0)) S.2.n cp) S.2 R by rw[<-I.o];exact a2.own).fin_cell e4.o;obtain⟨w7,e5⟩:=exq<|w6.setCell ⟨g,n*2,none⟩ (.string (Ah A.kind N O).1);have m2:Lvm i.heap.size j J n A B (.slice (some (Ad bA oA)) A.n cA) (.slice (some (Ad bB oB)) B.n cB) [] (S.1,finP A B p q n S.2) d m R S.2.n sv qv (PrQ A B p q 0 0) xb (.cells #[.pointer (some (Ad j 0))] 66 (0,0)) w7:=by
   obtain⟨h1,h2⟩:=a2.setFin (s:=(Ah A.kind N O).1) e4.o I.o;rw[<-e5]at h1 h2;have hD:S.2.setFin n (Ah A.kind N O).1=finP A B p q n S.2:=by
    unfold finP;rw[ifn (λe=>e.elim (by rw[<-u.o];exact b6.o) (by rw[<-z.o];exact e2.o)),u.o,z.o];rfl
   have h3:Lvi A B n [] (S.1,S.2.setFin n (Ah A.kind N O).1) (S.1,S.2.setFin n (Ah A.kind N O).1) d d 0:=by rw[hD];exact hL.o.fin0
   have p9:Below i.heap.size m w7:=by
    rw[e5];exact l0.setCell (p:=(Ad g (n*2))) (World.ownsRow.lt a2.own.top g (by rw[I.o];rfl)).1 _
   refine a7.o w7 _ fl hD h1 ?_ (Y.trans h2) p9 (λe=>⟨λ_ _=>?_,λk' j' h=>by omega⟩)
   ·rcases g8 with⟨rfl,_⟩|⟨rfl,h8⟩
    ·exact h3
    exact h3.wrong ⟨N,O,.inr (.inl ⟨p,P.o,u.o,by rw[<-u.o];exact b6.o⟩),.inr (.inl ⟨q,T.o,z.o,by rw[<-z.o];exact e2.o⟩),by rw[<-b5];exact h8⟩
   rcases g8 with⟨_,h8⟩|⟨h8,_⟩
   ·rw[<-u.o,<-z.o,<-b5];exact h8
   rw[h8]at e;cases e
  have f8:=qh m2;clear m2 a2 Y l0 g8 b5 zt U d5;refine hK.out _ _ (.inr d0) ?_;clear hK K C
  try simp only[Act.put,tryL]
  refine Aa.tm 10 d0 ?_;refine Aa.tm 11 d0 ?_
  try simp only[Act.put,tryL]
  refine Aa.on 12 λK hK=>?_;go_simp;rw[<-e5];clear e5;refine hK.out _ _ (.inl rfl) (Aa.dn ?_);clear hK K d0 q8 q7
 all_goals
  go_wp2_with fail
  rw[hX.o];exact Rm j2 j1 j0 b9 Z P T d3 d4 e0 d1 d2 ht G H n5 n6 n7 n9 o2 o3 o4 j3 o5 o6 g0 j4 a6 f0 f8
end
end Go.Proofs.YtpldocnhbdlgfaaGreatDoor
