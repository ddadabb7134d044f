/- Parts. -/
import Derived.Test.YtpldocnhbdlgfaaGreatDoorPb34
import Derived.Test.YtpldocnhbdlgfaaGreatDoorPb35
import Derived.Test.YtpldocnhbdlgfaaGreatDoorPb36
namespace Go.Proofs.YtpldocnhbdlgfaaGreatDoor
set_option maxRecDepth 100000
set_option linter.all false
set_option maxHeartbeats 16000000
open Go Tryz
section
open Go.RowKit Go.Deep
variable{cP l n p q yb:Nat}{f:Bool}{A B:MD}{e4 e5 e6 e7 e8 e9 f0 f3 f4 f5 f7 f8 f9 g0 i2 i3 i4 i5 i6 i7 i8 i9 j0 j1 j2 j3 j4 j5 j6 j7 j8 j9 k0 k4 k9 l0 l1 l2 l3 o5 o6 o7 o8 o9 p6 p7 p8 p9 q7 q8 q9 r0 r2 r3 r4 r5 r6 r7 r8 r9 s3 s4 s5 s6 s7 s8 s9 sa sb sv t7 t8 t9 v0 v2 v3 v4 v5 v6 v7 v8 v9 w1 w2 w4 x y y2 y3 y7 y8 y9:Value}{R:Nat->Value}{w:World}{aP aQ:Option Addr}{t:TypeId}
set_option maxRecDepth 1000000 in
def WK{w8 w9 x0 x1 x2 x3 x4 x5 x6 x7 x8 x9 y0 y1 y4 y5 y6 z1 z2 z3 z4 z5 z6 z7 z8 z9 A0 A1 A2 A3 A4 A5 A6 A7 A8 A9 B0 B1 B2 B3 B4 B5 B6 B7 B8 B9 C0 g1 g2 g3 g4 g5 g6 g7 g8 g9 h0 k5 k6 k7:Value}{c:Nat}{pb qb nP nQ cQ bP oP bQ oQ:Nat}{C D:ByteArray}{S:List Plc × MD}{qv:Value}{d i:World}
  (b6:Hd (RfK l w sv R S.2.n qv i sv R S.2.n qv)) (b5:Hd (Below d.heap.size w i)) (b4:Hd (d.heap.size<=i.heap.size))
  (l6:Hd (∀(L:List ArP) (S0:List Plc × MD) (Q:Prop) (bx:Nat) (o:Obj) (W:World),Lvx d.heap.size l n A B sa sb L S0 c i R S.2.n sv qv Q bx o W->LrS yb pb qb p q f C D aP aQ nP cP nQ cQ W)) (b9:Hd (∀(L:List ArP) (S0:List Plc × MD) (Q:Prop) (bx:Nat) (o:Obj) (W:World),Lvx d.heap.size l n A B sa sb L S0 c i R S.2.n sv qv Q bx o W->Below d.heap.size d W))
  (d1:Hd (p<A.n)) (d3:Hd (q<B.n)) (d6:Hd (VM A)) (d7:Hd (VM B)) (b7:Hd (A.kind=B.kind)) (d4:Hd (MSz A)) (d5:Hd (MSz B)) (m4:Hd (nP=A.na p)) (m5:Hd (nQ=B.na q))
  (l7:Hd (0<nP->aP=some (Ad bP oP))) (l8:Hd (0<nP->bP<d.heap.size/\some bP≠none))
  (l9:Hd (∀k,k<nP->d.cell? (Ad bP (oP+k*4))=some (.int .i64 (A.ain p k))/\d.cell? (Ad bP (oP+k*4+1))=some (.int .i64 (A.aout p k))/\d.cell? (Ad bP (oP+k*4+2))=some (.string (A.aw p k))/\d.cell? (Ad bP (oP+k*4+3))=some (.int .i64 (A.ato p k))))
  (b8:Hd (0<nQ->aQ=some (Ad bQ oQ))) (m2:Hd (0<nQ->bQ<d.heap.size/\some bQ≠none))
  (m3:Hd (∀k,k<nQ->d.cell? (Ad bQ (oQ+k*4))=some (.int .i64 (B.ain q k))/\d.cell? (Ad bQ (oQ+k*4+1))=some (.int .i64 (B.aout q k))/\d.cell? (Ad bQ (oQ+k*4+2))=some (.string (B.aw q k))/\d.cell? (Ad bQ (oQ+k*4+3))=some (.int .i64 (B.ato q k))))
  (d8:Hd (i.heap[yb]?=some (.cells #[.int .i64 (p:Int),.int .i64 (q:Int),.bool f] 82 (0,0)))) (a8:Hd (FbR l i sv R S.2.n qv yb)) (U:Hd (Rps i d.heap.size l A B sa sb S.1 S.2 R sv qv c (0:Nat))) (H:Hd (Lvr A B n [] S S c c 0)) (u:Hd (C=A.fin p)) (z:Hd (D=B.fin q)) (d0:Hd (i.heap[pb]?=some (.cells #[.string C,.slice aP nP cP] 63 (0,0)))) (d2:Hd (i.heap[qb]?=some (.cells #[.string D,.slice aQ nQ cQ] 63 (0,0)))) (l4:Hd (FbR l i sv R S.2.n qv pb)) (l5:Hd (FbR l i sv R S.2.n qv qb)) :
  Code.wp prog (seqR 2 CQ) (bodyPost prog f51 (RsE d.heap.size l n A B sa sb (arL A B true p q f) (S.1,finP A B p q n S.2) c w R S.2.n sv qv (PrOk A B p q))) ⟨List.toArray (.pointer (some (Ad l 0))::.int .i64 (n:Int)::y2::y3::.pointer (some (Ad yb 0))::.pointer (some (Ad pb 0))::.pointer (some (Ad qb 0))::y7::y8::y9::o5::o6::o7::o8::o9::p6::p7::p8::p9::q7::q8::q9::r0::r2::r3::r4::r5::r6::r7::r8::r9::s3::s4::s5::s6::s7::s8::s9::t7::t8::t9::v0::v2::v3::v4::v5::v6::v7::v8::v9::w1::w2::w4::w8::w9::x0::x1::x2::x3::x4::x5::x6::x7::x8::x9::y0::y1::y4::y5::y6::z1::z2::z3::z4::z5::z6::z7::z8::z9::A0::A1::A2::A3::A4::A5::A6::A7::A8::A9::B0::B1::B2::B3::B4::B5::B6::B7::B8::B9::C0::e4::e5::e6::e7::e8::e9::f0::f3::f4::f5::f7::f8::f9::g0::g1::g2::g3::g4::g5::g6::g7::g8::g9::h0::i2::i3::i4::i5::i6::i7::i8::i9::j0::j1::j2::j3::j4::j5::j6::j7::j8::j9::k0::k4::k5::k6::k7::k9::l0::l1::l2::l3::[]),[]⟩ i:=by
 have a4:n<S.2.n:=by rw[H.o.len];exact H.o.n1
 obtain⟨g,cp,E,_,o3,_,_⟩:=DF U.o.own.top (by omega);have C1:(n:Int)<(S.2.n:Int):=by omega
 have o4:(0:Int)<=(n:Int):=by omega
 replace a4:=qh a4;replace E:=qh E;clear o3;have N:=qh (λ(wf:World) (D':MD) (P:Nat) (hD:D'=finP A B p q n S.2) (h1:Rps wf d.heap.size l A B sa sb S.1 D' R sv qv c P) (h2:Lvr A B n [] (S.1,D') (S.1,D') c c P) (h3:RfK l i sv R S.2.n qv wf sv R D'.n qv) (h4:Below d.heap.size i wf) (h5:P=0->PrQ A B p q 0 0)=>(show Lvx d.heap.size l n A B sa sb [] (S.1,finP A B p q n S.2) c i R S.2.n sv qv (PrQ A B p q 0 0) yb (.cells #[.int .i64 (p:Int),.int .i64 (q:Int),.bool f] 82 (0,0)) wf from by
  subst hD;exact⟨(S.1,finP A B p q n S.2),R,sv,qv,c,P,h1,h2,h3,h4,h5,h3.fb a8.o,h3.bx a8.o d8.o⟩))
 have p0:=cellOf d0.o 0 rfl;have q0:=cellOf d2.o 0 rfl;obtain⟨X,hX⟩:=exq<|seqR 3 CQ;have hp:=VA;rw[<-hX]at hp;rw[<-hp];replace hX:=qh hX;clear hp
 conv=>arg 2;whnf
 conv=>arg 2;arg 2;whnf
 by_cases e1:C=⟨#[]⟩
 focus
  have b0:=qh<|show S.2=finP A B p q n S.2 from (ifp (.inl (u.o.symm.trans e1))).symm;have b2:=qh (show PrQ A B p q 0 0 from ⟨λh=>absurd (u.o.symm.trans e1) h,λk' j' h=>by omega⟩);have b1:=qh<|N.o i S.2 0 b0.o U.o H.o (λb _ hf=>⟨hf,rfl⟩) blr (λ_=>b2.o);subst e1
  go_wp2_with fail
  clear p0 q0
 rotate_left
 have f1:(C.toList==[])=false:=by
  cases hE:(C.toList==[])
  ·rfl
  exact absurd (FI hE) e1
 by_cases e2:D=⟨#[]⟩
 focus
  have b0:=qh<|show S.2=finP A B p q n S.2 from (ifp (.inr (z.o.symm.trans e2))).symm;have b2:=qh (show PrQ A B p q 0 0 from ⟨λ_ h=>absurd (z.o.symm.trans e2) h,λk' j' h=>by omega⟩);have b1:=qh<|N.o i S.2 0 b0.o U.o H.o (λb _ hf=>⟨hf,rfl⟩) blr (λ_=>b2.o);have a9:=qh e1;clear e1;subst e2
  go_wp2_with fail
  clear p0 q0
 rotate_left
 focus
  have f2:(D.toList==[])=false:=by
   cases hE:(D.toList==[])
   ·rfl
   exact absurd (FI hE) e2
  have a9:=qh e1;clear e1;replace e2:=qh e2;have m8:=qh (show Am A.kind C=true by rw[u.o];exact(d6.o.fin p d1.o).resolve_left (by rw[<-u.o];exact a9.o));have m9:=qh (show Am A.kind D=true by rw[z.o,b7.o];exact(d7.o.fin q d3.o).resolve_left (by rw[<-z.o];exact e2.o));obtain⟨wz,J⟩:=exq<|i.drew;obtain⟨m,a2⟩:=U.o.below (w':=wz) (by rw[J];exact(Below.refl _ i).drew);have O:Below d.heap.size i wz:=by rw[J];exact(Below.refl _ i).drew
  have j:wz.cell? (Ad l 11)=some (.slice (some (Ad g 0)) S.2.n cp)/\wz.cell? (Ad pb 0)=some (.string C)/\wz.cell? (Ad qb 0)=some (.string D):=⟨by rw[Rcs.c11 m.blk,E.o],by rw[J];exact p0,by rw[J];exact q0⟩;have c8:=Rcs.c8 m.blk;rw[H.o.kd]at c8;have m7:=qh (KB wz c8 (Rcs.c14 m.blk) (Rcs.fz m.blk 14) m.lt C D (by rw[u.o];exact d4.o.fin p) (by rw[z.o];exact d5.o.fin q));clear c8;replace m:=qh m;replace a2:=qh a2;replace O:=qh O
  go_wp2_with fail
  refine AC (λwk=>wk.cell? (Ad l 11)=some (.slice (some (Ad g 0)) S.2.n cp)/\wk.cell? (Ad pb 0)=some (.string C)/\wk.cell? (Ad qb 0)=some (.string D)) 14 (by kernel_rfl) ?_;rw[<-J];clear J f1 f2 p0 q0;refine Aa.tm 0 j ?_;refine Aa.tm 1 j ?_;refine Aa.tm 2 j ?_;refine Aa.tm 3 j ?_;refine Aa.tm 4 j ?_;refine Aa.tm 5 j ?_;refine Aa.tm 6 j ?_;refine Aa.tm 7 j ?_;refine Aa.tm 8 j ?_;refine Aa.tm 9 j ?_;refine Aa.tm 10 j ?_
  try simp only[Act.put,tryL]
  refine Aa.on 11 λK hK=>?_;go_simp;refine m7.o.mono ?_;rintro r T⟨rfl,w5,a1,F⟩;have a7:d.heap.size<=wz.heap.size:=Nat.le_trans b4.o O.o.size;obtain⟨zt,a6⟩:=exq<|Ae A.kind C D;have n6:∃P:Nat,Rps T d.heap.size l A B sa sb S.1 S.2 R sv qv c P/\RfK l i sv R S.2.n qv T sv R S.2.n qv/\Below d.heap.size i T/\((P=0/\zt.2=0)\/(P=2/\zt.2≠0)):=by
   obtain⟨h6,h7⟩:=m.o.below a1;rw[<-a6]at F;by_cases Y:zt.2=0
   ·rw[ifp Y]at F;subst F;exact⟨0,h6,a2.o.trans h7,O.o.trans (a1.mono a7),.inl ⟨rfl,Y⟩⟩
   rw[ifn Y]at F;have e3:zt.2=2:=by
    have:=Gz (Cu m8.o) (Cu m9.o);rw[<-a6]at this;omega
   rw[e3]at F;subst F;obtain⟨h9,n5⟩:=h6.err ((2:Nat):Int);exact⟨2,h9,(a2.o.trans h7).trans n5,(O.o.trans (a1.mono a7)).setCell (p:=(Ad l 14)) m.o.low _,.inr ⟨rfl,Y⟩⟩
  obtain⟨P,I,G,d9,b3⟩:=n6;have Z:T.cell? (Ad l 11)=some (.slice (some (Ad g 0)) S.2.n cp)/\T.cell? (Ad pb 0)=some (.string C)/\T.cell? (Ad qb 0)=some (.string D):=⟨by rw[Rcs.c11 I.blk,E.o],cellOf (G.bx l4.o d0.o) 0 rfl,cellOf (G.bx l5.o d2.o) 0 rfl⟩;have o2:T.frozen? (Ad g (n*2))=false:=Ex (by have h1:=I.own.top;rw[E.o]at h1;exact h1) _;have n9:T.cell? (Ad g (n*2))=some (.string (S.2.fin n)):=(show OwM T d.heap.size (.slice (some (Ad g 0)) S.2.n cp) S.2 R by rw[<-E.o];exact I.own).fin_cell a4.o;obtain⟨w7,a5⟩:=exq<|T.setCell ⟨g,n*2,none⟩ (.string (Ae A.kind C D).1);have e0:Lvx d.heap.size l n A B sa sb [] (S.1,finP A B p q n S.2) c i R S.2.n sv qv (PrQ A B p q 0 0) yb (.cells #[.int .i64 (p:Int),.int .i64 (q:Int),.bool f] 82 (0,0)) w7:=by
   obtain⟨h1,h2⟩:=I.setFin (s:=(Ae A.kind C D).1) a4.o E.o;rw[<-a5]at h1 h2;have hD:S.2.setFin n (Ae A.kind C D).1=finP A B p q n S.2:=by
    unfold finP;rw[ifn (λe=>e.elim (by rw[<-u.o];exact a9.o) (by rw[<-z.o];exact e2.o)),u.o,z.o];rfl
   have h3:Lvr A B n [] (S.1,S.2.setFin n (Ae A.kind C D).1) (S.1,S.2.setFin n (Ae A.kind C D).1) c c 0:=by rw[hD];exact H.o.fin0
   have n7:Below d.heap.size i w7:=by
    rw[a5];exact d9.setCell (p:=(Ad g (n*2))) (World.ownsRow.lt I.own.top g (by rw[E.o];rfl)).1 _
   refine N.o w7 _ P hD h1 ?_ (G.trans h2) n7 (λe=>⟨λ_ _=>?_,λk' j' h=>by omega⟩)
   ·rcases b3 with⟨rfl,_⟩|⟨rfl,Y⟩
    ·exact h3
    exact h3.wrong
   rcases b3 with⟨_,Y⟩|⟨Y,_⟩
   ·rw[<-u.o,<-z.o,<-a6];exact Y
   rw[Y]at e;cases e
  have b1:=qh e0;clear e0 I G d9 b3 a6 zt F a1;refine hK.out _ _ (.inr Z) ?_;clear hK K j
  try simp only[Act.put,tryL]
  refine Aa.tm 12 Z ?_;refine Aa.tm 13 Z ?_
  try simp only[Act.put,tryL]
  refine Aa.on 14 λK hK=>?_;go_simp;rw[<-a5];clear a5;refine hK.out _ _ (.inl rfl) (Aa.dn ?_);clear hK K Z o2 n9
  go_wp2_with fail
 all_goals
  rw[hX.o];exact WL b6 b5 b4 l6 b9 d1 d3 d6 d7 b7 d4 d5 m4 m5 l7 l8 l9 b8 m2 m3 d8 a8 b1
def OQ{h6 h7 h8 h9 l4 l8 l9 m2 m3 m4 m5 m7 m8 m9 n5 n6 n7 n9 o2 o3 o4 p0 U X Y Z a1 a2 a4 a5 a6 a7 a8 a9 b0 b1 b2 b3 b4 b5 b6 b7 b8 b9 d0 d1 d2 d3 d4 d5 d6 d7 d8 d9 e0 e1 e2 e3 f1 f2:Value}{j d:Nat}{P T u z cQ N m O:Nat}{fA gB:ByteArray}{S:List Plc × MD}{qv:Value}{c g:World}
  (g5:Hd (VM A)) (g6:Hd (VM B)) (h1:Hd (A.kind=B.kind)) (g3:Hd (MSz A)) (g4:Hd (MSz B)) (h:Hd (Rps w c.heap.size j A B sa sb S.1 S.2 R sv qv d (0:Nat))) (hL:Hd (Lvr A B n [] S S d d 0)) (h0:Hd (Below c.heap.size c w)) (h4:Hd (p<A.n)) (h5:Hd (q<B.n)) (g8:Hd (fA=A.fin p)) (g9:Hd (gB=B.fin q)) (h2:Hd (u=A.na p)) (h3:Hd (z=B.na q))
  (k5:Hd (0<u->aP=some (Ad l N))) (k6:Hd (0<u->l<c.heap.size/\some l≠none))
  (k7:Hd (∀k,k<u->c.cell? (Ad l (N+k*4))=some (.int .i64 (A.ain p k))/\c.cell? (Ad l (N+k*4+1))=some (.int .i64 (A.aout p k))/\c.cell? (Ad l (N+k*4+2))=some (.string (A.aw p k))/\c.cell? (Ad l (N+k*4+3))=some (.int .i64 (A.ato p k))))
  (l5:Hd (0<z->aQ=some (Ad m O))) (l6:Hd (0<z->m<c.heap.size/\some m≠none))
  (l7:Hd (∀k,k<z->c.cell? (Ad m (O+k*4))=some (.int .i64 (B.ain q k))/\c.cell? (Ad m (O+k*4+1))=some (.int .i64 (B.aout q k))/\c.cell? (Ad m (O+k*4+2))=some (.string (B.aw q k))/\c.cell? (Ad m (O+k*4+3))=some (.int .i64 (B.ato q k))))
  (hb:Below w.heap.size w g) (hy:g.heap[yb]?=some (.cells #[.int .i64 (p:Int),.int .i64 (q:Int),.bool f] 82 (0,0))) (hp:g.heap[P]?=some (.cells #[.string fA,.slice aP u cP] 63 (0,0))) (hq:g.heap[T]?=some (.cells #[.string gB,.slice aQ z cQ] 63 (0,0))) (ly:w.heap.size<=yb) (lp:w.heap.size<=P) (lq:w.heap.size<=T) :
  Code.wp prog (seqR 2 CQ) (bodyPost prog f51 (RsE c.heap.size j n A B sa sb (arL A B true p q f) (S.1,finP A B p q n S.2) d w R S.2.n sv qv (PrOk A B p q))) ⟨List.toArray (.pointer (some (Ad j 0))::.int .i64 (n:Int)::y2::y3::.pointer (some (Ad yb 0))::.pointer (some (Ad P 0))::.pointer (some (Ad T 0))::y7::y8::y9::h6::h7::h8::h9::i2::i3::i4::i5::i6::i7::i8::i9::j0::j1::j2::j3::j4::j5::j6::j7::j8::j9::k0::k4::k9::l0::l1::l2::l3::l4::l8::l9::m2::m3::m4::m5::m7::m8::m9::n5::n6::n7::n9::o2::o3::o4::o5::o6::o7::o8::o9::p0::p6::p7::p8::p9::q7::q8::q9::r0::r2::r3::r4::r5::r6::r7::r8::r9::s3::s4::s5::s6::s7::s8::s9::t7::t8::t9::v0::v2::v3::v4::v5::v6::v7::v8::v9::w1::w2::w4::U::X::Y::Z::a1::a2::a4::a5::a6::a7::a8::a9::b0::b1::b2::b3::b4::b5::b6::b7::b8::b9::d0::d1::d2::d3::d4::d5::d6::d7::d8::d9::e0::e1::e2::e3::e4::e5::e6::e7::e8::e9::f0::f1::f2::f3::f4::f5::f7::f8::f9::g0::[]),[]⟩ g:=by
 obtain⟨g7,G⟩:=h.o.below hb;have F:FbR j g sv R S.2.n qv yb:=h.o.fb_new ly (lbk hy);have D:FbR j g sv R S.2.n qv P:=h.o.fb_new lp (lbk hp);have E:FbR j g sv R S.2.n qv T:=h.o.fb_new lq (lbk hq);have i:Below c.heap.size w g:=hb.mono h0.o.size;have g1:c.heap.size<=g.heap.size:=Nat.le_trans h0.o.size i.size;have g2:∀(L:List ArP) (C:List Plc × MD) (Q:Prop) (bx:Nat) (o:Obj) (W:World),Lvx c.heap.size j n A B sa sb L C d g R S.2.n sv qv Q bx o W->LrS yb P T p q f fA gB aP aQ u cP z cQ W:=λL C Q bx o W H=>by
  have s:=H.old F hy;have J:=H.old D hp;have K:=H.old E hq;exact⟨cellOf s 0 rfl,cellOf s 1 rfl,cellOf s 2 rfl,cellOf J 0 rfl,cellOf J 1 rfl,cellOf K 0 rfl,cellOf K 1 rfl⟩
 have I:∀(L:List ArP) (C:List Plc × MD) (Q:Prop) (bx:Nat) (o:Obj) (W:World),Lvx c.heap.size j n A B sa sb L C d g R S.2.n sv qv Q bx o W->Below c.heap.size c W:=λL C Q bx o W H=>(h0.o.trans i).trans H.be;exact WK (qh G) (qh i) (qh g1) (qh g2) (qh I) h4 h5 g5 g6 h1 g3 g4 h2 h3 k5 k6 k7 l5 l6 l7 (qh hy) (qh F) (qh g7) hL g8 g9 (qh hp) (qh hq) (qh D) (qh E)
def DO{b:Nat}(h:w.heap[b]?=some (.cells #[x,y] t (0,0)))(j:Nat):w.frozen? (Ad b j)=false:=by simp[World.frozen?,h]
theorem GQ(w:World)(b:Nat)(c d:Value)(h:w.heap[b]?=some (.cells #[x,y] t (0,0))):((w.setCell (Ad b 0) c).setCell (Ad b 1) d).heap[b]?=some (.cells #[c,d] t (0,0)):=by
 simp[World.setCell,Array.getElem?_modify,h]
set_option maxRecDepth 1000000 in
theorem Wt{cb b1:Nat}{S:List Plc × MD}{qv:Value}{w0:World}(w:World)(hA:StS none w0 sa A)(hB:StS none w0 sb B)(h0:Below w0.heap.size w0 w)(h3:VM A)(h4:VM B)(i2:A.kind=B.kind)(h1:MSz A)(h2:MSz B)
  (h:Rps w w0.heap.size cb A B sa sb S.1 S.2 R sv qv b1 (0:Nat)) (hL:Lvr A B n [] S S b1 b1 0) (G:S.1[n]?=some (p,q,f)) :
  Calls prog 51 #[.pointer (some (Ad cb 0)),.int .i64 (n:Int)] w (RsE w0.heap.size cb n A B sa sb (arL A B true p q f) (S.1,finP A B p q n S.2) b1 w R S.2.n sv qv (PrOk A B p q)):=by
 obtain⟨b6,b7⟩:=hL.ok _ (List.mem_of_getElem? G)
 dsimp only at b6 b7
 obtain⟨aA,cA,bA,oA,A1,C1,B1,O1,rfl,h5,i5,i7,Q,i4⟩:=hA.open;obtain⟨aB,cB,bB,oB,A2,C2,B2,O2,rfl,h6,i6,i8,h7,d6⟩:=hB.open;obtain rfl:=h5 (by omega);obtain rfl:=h6 (by omega);have b2:=(Q (by omega)).1;have b3:=(h7 (by omega)).1;obtain⟨k1,k2,k3,k4,k5,k6,k7⟩:=i4 p b6;obtain⟨l1,l2,l3,l4,l5,l6,l7⟩:=d6 q b7;clear i4 d6 h5 h6 Q h7;obtain⟨fA,d9⟩:=exq<|A.fin p;obtain⟨gB,e0⟩:=exq<|B.fin q;obtain⟨nP,a1⟩:=exq<|A.na p;obtain⟨nQ,a2⟩:=exq<|B.na q;obtain⟨aP,d7⟩:=exq<|A1 p;obtain⟨aQ,d8⟩:=exq<|A2 q;obtain⟨cP,h8⟩:=exq<|C1 p;obtain⟨cQ,h9⟩:=exq<|C2 q;obtain⟨bP,b4⟩:=exq<|B1 p;obtain⟨bQ,b5⟩:=exq<|B2 q;obtain⟨oP,e1⟩:=exq<|O1 p;obtain⟨oQ,e2⟩:=exq<|O2 q;rw[<-d9]at k1;rw[<-d7,<-a1,<-h8]at k2;rw[<-a1,<-d7,<-b4,<-e1]at k5;rw[<-a1,<-b4]at k6;rw[<-a1,<-b4,<-e1]at k7;rw[<-e0]at l1;rw[<-d8,<-a2,<-h9]at l2;rw[<-a2,<-d8,<-b5,<-e2]at l5;rw[<-a2,<-b5]at l6;rw[<-a2,<-b5,<-e2]at l7;have e7:=qh k5;have e8:=qh k6;have e9:=qh k7;have f3:=qh l5;have f4:=qh l6;have f5:=qh l7;clear k3 k4 k5 k6 k7 l3 l4 l5 l6 l7 b4 b5 e1 e2 d7 d8 h8 h9;have d5:n<S.1.length:=hL.n1;obtain⟨gq,cq,e3⟩:=HA h.que (by omega);have c12:=Rcs.c12 h.blk;rw[e3]at c12;have L:=h.que;rw[e3]at L;obtain⟨x0,x1,x2⟩:=HD S.1 n (p,q,f) G;have y0:=CN L x0;have y1:=CN L x1;have y2:=CN L x2
 dsimp only at y0 y1 y2
 obtain⟨_,_,_,_,j4⟩:=DF L (by omega);clear x0 x1 x2 L G;obtain⟨ln,i3⟩:=exq<|S.1.length;rw[<-i3]at c12 d5;have j2:(n:Int)<(ln:Int):=by omega
 have i9:(0:Int)<=(n:Int):=by omega
 obtain⟨yb,d4⟩:=exq<|w.heap.size;obtain⟨w1,d2⟩:=exq<|w.alloc (.cells #[.int .i64 (p:Int),.int .i64 (q:Int),.bool f] 82);obtain⟨D,d3⟩:=exq<|w1.drew;have Q:Below w.heap.size w D:=by rw[d3,d2];exact((Below.refl _ w).alloc nlr _).drew
 have hy:D.heap[yb]?=some (.cells #[.int .i64 (p:Int),.int .i64 (q:Int),.bool f] 82 (0,0)):=by
  rw[d4,d3,d2];exact han w _
 obtain⟨a6,_⟩:=h.below Q;have P:=h0.trans<|Q.mono h0.size;have a4:bA<D.heap.size:=Nat.lt_of_lt_of_le b2 P.size;have a5:bB<D.heap.size:=Nat.lt_of_lt_of_le b3 P.size;have j3:(p:Int)<(A.n:Int):=by omega
 have j0:(0:Int)<=(p:Int):=by omega
 have j5:(q:Int)<(B.n:Int):=by omega
 have j1:(0:Int)<=(q:Int):=by omega
 have O:=qh (show ∀W,Below D.heap.size D W->W.cell? (Ad cb 3)=some (.slice (some (Ad bA oA)) A.n cA)/\W.cell? (Ad cb 7)=some (.slice (some (Ad bB oB)) B.n cB)/\W.cell? (Ad yb 0)=some (.int .i64 (p:Int))/\W.cell? (Ad yb 1)=some (.int .i64 (q:Int))/\W.cell? (Ad bA (oA+p*2))=some (.string fA)/\W.cell? (Ad bA (oA+p*2+1))=some (.slice aP nP cP)/\W.cell? (Ad bB (oB+q*2))=some (.string gB)/\W.cell? (Ad bB (oB+q*2+1))=some (.slice aQ nQ cQ) from λW hb =>
  ⟨(hb.cell (p:=(Ad cb _)) a6.lt).trans (Rcs.c3 a6.blk),(hb.cell (p:=(Ad cb _)) a6.lt).trans (Rcs.c7 a6.blk),cellOf ((hb.block _ (lbk hy)).trans hy) 0 rfl,cellOf ((hb.block _ (lbk hy)).trans hy) 1 rfl,
   ((hb.cell (p:=(Ad bA _)) a4).trans (P.cell (p:=(Ad bA _)) b2)).trans k1,((hb.cell (p:=(Ad bA _)) a4).trans (P.cell (p:=(Ad bA _)) b2)).trans k2,((hb.cell (p:=(Ad bB _)) a5).trans (P.cell (p:=(Ad bB _)) b3)).trans l1,((hb.cell (p:=(Ad bB _)) a5).trans (P.cell (p:=(Ad bB _)) b3)).trans l2⟩)
 have o:=O.o _ (Below.refl _ D);have m:=qh<|Below.refl D.heap.size D;have N:=qh Q;clear Q;have HY:=qh hy;have g8:=qh<|lbk hy;clear hy;have g9:=qh<|Nat.le_of_eq d4.symm;have g6:=qh h3;have g7:=qh h4;have f2:=qh i2;have g4:=qh h1;have g5:=qh h2;have HC:=qh h;have f7:=qh hL;have e4:=qh h0;have g2:=qh b6;have g3:=qh b7;have e5:=qh d9;have e6:=qh e0;have f8:=qh a1;have f9:=qh a2;clear h3 h4 i2 h1 h2 h hL h0 b6 b7 d9 e0 a1 a2 hA hB b2 b3 a4 a5 P a6 k1 k2 l1 l2 i5 i7 i6 i8 i3 e3 d5
 go_enter func51,ntmps51
 obtain⟨X,hX⟩:=exq<|seqR 2 CQ;have hp:=Vz;rw[<-hX]at hp;change Code.wp prog CQ _ _ _;rw[<-hp];replace hX:=qh hX;clear hp
 conv=>arg 2;whnf
 conv=>arg 2;arg 2;whnf
 conv=>arg 2;arg 2;arg 2;whnf
 go_wp2_with fail
 refine AC (λwk=>wk.cell? (Ad cb 3)=some (.slice (some (Ad bA oA)) A.n cA)/\wk.cell? (Ad cb 7)=some (.slice (some (Ad bB oB)) B.n cB)/\wk.cell? (Ad yb 0)=some (.int .i64 (p:Int))/\wk.cell? (Ad yb 1)=some (.int .i64 (q:Int))/\wk.cell? (Ad bA (oA+p*2))=some (.string fA)/\wk.cell? (Ad bA (oA+p*2+1))=some (.slice aP nP cP)/\wk.cell? (Ad bB (oB+q*2))=some (.string gB)/\wk.cell? (Ad bB (oB+q*2+1))=some (.slice aQ nQ cQ)) 21 (by kernel_rfl) ?_;rw[<-d2,<-d3,<-d4];clear d2 d3 d4 c12 y0 y1 y2;refine Aa.tm 0 o ?_;refine Aa.tm 1 o ?_;refine Aa.tm 2 o ?_;refine Aa.tm 3 o ?_;refine Aa.tm 4 o ?_;refine Aa.tm 5 o ?_;refine Aa.tm 6 o ?_;refine Aa.tm 7 o ?_;refine Aa.tm 8 o ?_;refine Aa.tm 9 o ?_;refine Aa.tm 10 o ?_;refine Aa.tm 11 o ?_;refine Aa.tm 12 o ?_;refine Aa.tm 13 o ?_;refine Aa.tm 14 o ?_;refine Aa.tm 15 o ?_;refine Aa.tm 16 o ?_;refine Aa.tm 17 o ?_
 try simp only[Act.put,tryL]
 clear o;refine Aa.pair (i:=18) (j:=19) (by kernel_rfl) (Bl rfl rfl λK J=>?_) (Bl rfl rfl λK J=>?_)
 ·skip
  go_simp;obtain⟨v1,b8⟩:=exq<|D.alloc (.cells #[.string ⟨#[]⟩,.slice none 0 0] 63);obtain⟨E,T⟩:=exq<|D.heap.size;have hb:Below D.heap.size D v1:=by rw[b8];exact(Below.refl _ D).alloc nlr _
  have G:v1.heap[E]?=some (.cells #[.string ⟨#[]⟩,.slice none 0 0] 63 (0,0)):=by rw[b8,T];exact han D _
  have c:=qh G;clear G;have s:=qh<|show E<v1.heap.size from lbk c.o;have Y:D.heap.size<=E:=by have:=m.o.size;omega
  have l:=qh<|m.o.trans (hb.mono m.o.size);clear m hb;have m:=l;clear l;rw[<-b8,<-T];clear b8 T;refine J _ _ ⟨.inr (O.o _ m.o),?_⟩;clear J K
  try simp only[Act.put,tryL]
  refine Aa.on 19 λK J=>?_;go_simp;obtain⟨v2,b9⟩:=exq<|v1.alloc (.cells #[.string ⟨#[]⟩,.slice none 0 0] 63);obtain⟨F,U⟩:=exq<|v1.heap.size;have hb:Below v1.heap.size v1 v2:=by rw[b9];exact(Below.refl _ v1).alloc nlr _
  have G:v2.heap[F]?=some (.cells #[.string ⟨#[]⟩,.slice none 0 0] 63 (0,0)):=by rw[b9,U];exact han v1 _
  have H:=qh<|(hb.block _ (lbk c.o)).trans c.o;clear c;have c:=H;clear H;have C:F≠E:=by have:=s.o;omega
  have d:=qh G;clear G;have u:=qh<|show F<v2.heap.size from lbk d.o;have g:=qh<|show E<v2.heap.size from lbk c.o;clear s;have s:=g;clear g;have Z:D.heap.size<=F:=by have:=m.o.size;omega
  have l:=qh<|m.o.trans (hb.mono m.o.size);clear m hb;have m:=l;clear l;rw[<-b9,<-U];clear b9 U;refine J.out _ _ (.inr (O.o _ m.o)) ?_;clear J K
  try simp only[Act.put,tryL]
  have f0:=DO c.o 0;have f1:=DO c.o 1;have g0:=cellOf c.o 0 rfl;have g1:=cellOf c.o 1 rfl;refine Aa.on 20 λK J=>?_;go_simp;obtain⟨v3,a7⟩:∃v3,v3=(v2.setCell ⟨E,0,none⟩ (.string fA)).setCell (Ad E 1) (.slice aP nP cP):=⟨_,rfl⟩;have G:v3.heap[E]?=some (.cells #[.string fA,.slice aP nP cP] 63 (0,0)):=by rw[a7];exact GQ v2 E _ _ c.o
  have I:=qh ((show v3.heap[F]?=v2.heap[F]? from by rw[a7];exact(Aw (by first|exact z.symm|exact C)).trans (Aw (by first|exact z.symm|exact C))).trans d.o);clear d;have d:=I;clear I
  clear c;have c:=qh G;clear G;have l:=qh (show Below D.heap.size D v3 from by rw[a7];exact(m.o.setCell (p:=(Ad E 0)) Y _).setCell (p:=(Ad E 1)) Y _);clear m;have m:=l;clear l;have g:=qh<|show E<v3.heap.size from lbk c.o;clear s;have s:=g;clear g;have k:=qh<|show F<v3.heap.size from lbk d.o;clear u;have u:=k;clear k;rw[<-a7];clear a7 f0 f1 g0 g1;refine J.out _ _ (.inr (O.o _ m.o)) ?_;clear J K
  try simp only[Act.put,tryL]
  have f0:=DO d.o 0;have f1:=DO d.o 1;have g0:=cellOf d.o 0 rfl;have g1:=cellOf d.o 1 rfl;refine Aa.on 21 λK J=>?_;go_simp;obtain⟨v4,a8⟩:∃v4,v4=(v3.setCell ⟨F,0,none⟩ (.string gB)).setCell (Ad F 1) (.slice aQ nQ cQ):=⟨_,rfl⟩;have G:v4.heap[F]?=some (.cells #[.string gB,.slice aQ nQ cQ] 63 (0,0)):=by rw[a8];exact GQ v3 F _ _ d.o
  have H:=qh ((show v4.heap[E]?=v3.heap[E]? from by rw[a8];exact(Aw (by first|exact C.symm|exact z)).trans (Aw (by first|exact C.symm|exact z))).trans c.o);clear c;have c:=H;clear H
  clear d;have d:=qh G;clear G;have l:=qh (show Below D.heap.size D v4 from by rw[a8];exact(m.o.setCell (p:=(Ad F 0)) Z _).setCell (p:=(Ad F 1)) Z _);clear m;have m:=l;clear l;have g:=qh<|show E<v4.heap.size from lbk c.o;clear s;have s:=g;clear g;have k:=qh<|show F<v4.heap.size from lbk d.o;clear u;have u:=k;clear k;rw[<-a8];clear a8 f0 f1 g0 g1;refine J.out _ _ (.inl rfl) (Aa.dn ?_);clear J K
  go_wp2_with fail
  rw[hX.o];exact OQ g6 g7 f2 g4 g5 HC f7 e4 g2 g3 e5 e6 f8 f9 e7 e8 e9 f3 f4 f5 (N.o.trans (m.o.mono N.o.size)) ((m.o.block _ g8.o).trans HY.o) c.o d.o g9.o (Nat.le_trans N.o.size Y) (Nat.le_trans N.o.size Z)
 skip
 go_simp;obtain⟨v5,d0⟩:=exq<|D.alloc (.cells #[.string ⟨#[]⟩,.slice none 0 0] 63);obtain⟨F,U⟩:=exq<|D.heap.size;have hb:Below D.heap.size D v5:=by rw[d0];exact(Below.refl _ D).alloc nlr _
 have G:v5.heap[F]?=some (.cells #[.string ⟨#[]⟩,.slice none 0 0] 63 (0,0)):=by rw[d0,U];exact han D _
 have d:=qh G;clear G;have u:=qh<|show F<v5.heap.size from lbk d.o;have Z:D.heap.size<=F:=by have:=m.o.size;omega
 have l:=qh<|m.o.trans (hb.mono m.o.size);clear m hb;have m:=l;clear l;rw[<-d0,<-U];clear d0 U;refine J _ _ ⟨.inr (O.o _ m.o),?_⟩;clear J K
 try simp only[Act.put,tryL]
 refine Aa.on 18 λK J=>?_;go_simp;obtain⟨v6,d1⟩:=exq<|v5.alloc (.cells #[.string ⟨#[]⟩,.slice none 0 0] 63);obtain⟨E,T⟩:=exq<|v5.heap.size;have hb:Below v5.heap.size v5 v6:=by rw[d1];exact(Below.refl _ v5).alloc nlr _
 have G:v6.heap[E]?=some (.cells #[.string ⟨#[]⟩,.slice none 0 0] 63 (0,0)):=by rw[d1,T];exact han v5 _
 have I:=qh<|(hb.block _ (lbk d.o)).trans d.o;clear d;have d:=I;clear I;have z:E≠F:=by have:=u.o;omega
 have c:=qh G;clear G;have s:=qh<|show E<v6.heap.size from lbk c.o;have k:=qh<|show F<v6.heap.size from lbk d.o;clear u;have u:=k;clear k;have Y:D.heap.size<=E:=by have:=m.o.size;omega
 have l:=qh<|m.o.trans (hb.mono m.o.size);clear m hb;have m:=l;clear l;rw[<-d1,<-T];clear d1 T;refine J.out _ _ (.inr (O.o _ m.o)) ?_;clear J K
 try simp only[Act.put,tryL]
 have f0:=DO c.o 0;have f1:=DO c.o 1;have g0:=cellOf c.o 0 rfl;have g1:=cellOf c.o 1 rfl;refine Aa.on 20 λK J=>?_;go_simp;obtain⟨v7,a9⟩:∃v7,v7=(v6.setCell ⟨E,0,none⟩ (.string fA)).setCell (Ad E 1) (.slice aP nP cP):=⟨_,rfl⟩;have G:v7.heap[E]?=some (.cells #[.string fA,.slice aP nP cP] 63 (0,0)):=by rw[a9];exact GQ v6 E _ _ c.o
 have I:=qh ((show v7.heap[F]?=v6.heap[F]? from by rw[a9];exact(Aw (by first|exact z.symm|exact C)).trans (Aw (by first|exact z.symm|exact C))).trans d.o);clear d;have d:=I;clear I
 clear c;have c:=qh G;clear G;have l:=qh (show Below D.heap.size D v7 from by rw[a9];exact(m.o.setCell (p:=(Ad E 0)) Y _).setCell (p:=(Ad E 1)) Y _);clear m;have m:=l;clear l;have k:=qh<|show F<v7.heap.size from lbk d.o;clear u;have u:=k;clear k;have g:=qh<|show E<v7.heap.size from lbk c.o;clear s;have s:=g;clear g;rw[<-a9];clear a9 f0 f1 g0 g1;refine J.out _ _ (.inr (O.o _ m.o)) ?_;clear J K
 try simp only[Act.put,tryL]
 have f0:=DO d.o 0;have f1:=DO d.o 1;have g0:=cellOf d.o 0 rfl;have g1:=cellOf d.o 1 rfl;refine Aa.on 21 λK J=>?_;go_simp;obtain⟨v8,b0⟩:∃v8,v8=(v7.setCell ⟨F,0,none⟩ (.string gB)).setCell (Ad F 1) (.slice aQ nQ cQ):=⟨_,rfl⟩;have G:v8.heap[F]?=some (.cells #[.string gB,.slice aQ nQ cQ] 63 (0,0)):=by rw[b0];exact GQ v7 F _ _ d.o
 have H:=qh ((show v8.heap[E]?=v7.heap[E]? from by rw[b0];exact(Aw (by first|exact C.symm|exact z)).trans (Aw (by first|exact C.symm|exact z))).trans c.o);clear c;have c:=H;clear H
 clear d;have d:=qh G;clear G;have l:=qh (show Below D.heap.size D v8 from by rw[b0];exact(m.o.setCell (p:=(Ad F 0)) Z _).setCell (p:=(Ad F 1)) Z _);clear m;have m:=l;clear l;have k:=qh<|show F<v8.heap.size from lbk d.o;clear u;have u:=k;clear k;have g:=qh<|show E<v8.heap.size from lbk c.o;clear s;have s:=g;clear g;rw[<-b0];clear b0 f0 f1 g0 g1;refine J.out _ _ (.inl rfl) (Aa.dn ?_);clear J K
 go_wp2_with fail
 rw[hX.o];exact OQ g6 g7 f2 g4 g5 HC f7 e4 g2 g3 e5 e6 f8 f9 e7 e8 e9 f3 f4 f5 (N.o.trans (m.o.mono N.o.size)) ((m.o.block _ g8.o).trans HY.o) c.o d.o g9.o (Nat.le_trans N.o.size Y) (Nat.le_trans N.o.size Z)
end
section
open Go CSR
variable{x y z:Nat->Int}{n nb nc:Nat}{u:ByteArray × Nat}
def YA(h:isWord n x=true):Wd 500 (ls x n 0):=λa c=>by
 unfold isWord at h;rw[Bool.and_eq_true]at h;obtain⟨j,d,rfl⟩:=Uk c;have g:=Fu.1 h.2 j d;exact⟨(x j-1).toNat,by omega,by omega⟩
section
variable{A B M:MD}(hA:VM A)(hB:VM B)(hkk:A.kind=B.kind)(hSA:MSz A)(hSB:MSz B){al:Nat->Bool}{n:Nat}(h:CmpIs A B al n M)
include hA hB hkk hSA hSB h
end
theorem Lo(kd:Int)(na:Nat)(x:Nat->Int)(v:ByteArray):∀i,(∀q,(An kd na x na x v i).fin q=⟨#[]⟩)/\(An kd na x na x v i).na i=0/\∀q,q<i->(An kd na x na x v i).na q=1/\(An kd na x na x v i).ain q 0=atW na x q/\(An kd na x na x v i).aout q 0=atW na x q/\(An kd na x na x v i).aw q 0=oneF kd/\(An kd na x na x v i).ato q 0=((q+1:Nat):Int)
 |0=>⟨λq=>by show (if q=0 then (⟨#[]⟩:ByteArray) else ⟨#[]⟩)=_;split<;>rfl,by show (if 0=0 then 0 else 0)=0;rfl,λq h=>absurd h (Nat.not_lt_zero _)⟩
 |i+1=>by
  obtain⟨h1,h2,h3⟩:=Lo kd na x v i;have hn:=Cp kd na x na x v i;have hs:∀j,((An kd na x na x v i).state ⟨#[]⟩).na j=if j=i+1 then 0 else (An kd na x na x v i).na j:=λj=>by
   show (if j=(An kd na x na x v i).n then 0 else _)=_
   rw[hn]
  have hsi:((An kd na x na x v i).state ⟨#[]⟩).na i=0:=by rw[hs,ifn (by omega)];exact h2
  refine⟨λq=>?_,?_,λq hq=>?_⟩
  ·show (if q=(An kd na x na x v i).n then (⟨#[]⟩:ByteArray) else (An kd na x na x v i).fin q)=_
   split
   ·rfl
   exact h1 q
  ·show (if i+1=i then _ else ((An kd na x na x v i).state ⟨#[]⟩).na (i+1))=0
   rw[ifn (by omega),hs,ifp rfl]
  show (if q=i then ((An kd na x na x v i).state ⟨#[]⟩).na i+1 else ((An kd na x na x v i).state ⟨#[]⟩).na q)=1/\(if q=i/\0=((An kd na x na x v i).state ⟨#[]⟩).na i then atW na x i else (An kd na x na x v i).ain q 0)=_/\
   (if q=i/\0=((An kd na x na x v i).state ⟨#[]⟩).na i then atW na x i else (An kd na x na x v i).aout q 0)=_/\(if q=i/\0=((An kd na x na x v i).state ⟨#[]⟩).na i then oneF kd else (An kd na x na x v i).aw q 0)=_/\
   (if q=i/\0=((An kd na x na x v i).state ⟨#[]⟩).na i then ((i+1:Nat):Int) else (An kd na x na x v i).ato q 0)=_
  rw[hsi];by_cases e:q=i
  ·subst e;simp only[if_pos,and_self]
  have h4:=h3 q (by omega);rw[ifn e,hs,ifn (by omega)];simp only[e,false_and,if_false];exact h4
theorem Qv{D:MD}{na:Nat}{k:KK}(j:k.1=D.kind):LineR (rmOf k (wrd D na x)) x na:=by
 have u:max na na=na:=Nat.max_self na;obtain⟨p,s,i⟩:=Lo D.kind na x (oneF D.kind) na;have c:wval k (oneF D.kind)=CSR.one:=by rw[<-j];exact(Is.one k 0).val
 have g:oneF D.kind≠⟨#[]⟩:=by rw[<-j];exact(Sv.one (k:=k)).ne
 obtain⟨q1,q2,q3⟩:=Fv D.kind na x na x (oneF D.kind) na;have e:wrd D na x=(An D.kind na x na x (oneF D.kind) na).setFin na (oneF D.kind):=by show BN _ _ _ _ _ _=_;unfold BN;rw[u]
 rw[e];refine⟨Cp _ _ _ _ _ _ na,?_,?_,λq d=>?_,?_,λq d=>(i q d).1,s,λq d=>?_⟩
 ·show (An D.kind na x na x (oneF D.kind) na).start.toNat=0;rw[q2];rfl
 ·show wval k (An D.kind na x na x (oneF D.kind) na).lead=CSR.one;rw[q3];exact c
 ·show (if (if q=na then oneF D.kind else (An D.kind na x na x (oneF D.kind) na).fin q)=⟨#[]⟩ then CSR.zero else _)=CSR.zero
  rw[ifn (show ¬q=na by omega),ifp (p q)]
 ·show (if (if na=na then oneF D.kind else (An D.kind na x na x (oneF D.kind) na).fin na)=⟨#[]⟩ then CSR.zero else wval k (if na=na then oneF D.kind else (An D.kind na x na x (oneF D.kind) na).fin na))=CSR.one
  rw[ifp rfl,ifn g];exact c
 obtain⟨_,l,m,a3,o⟩:=i q d;have h:atW na x q=x q:=ifp d;refine⟨l.trans h,m.trans h,?_,?_⟩
 ·show wval k ((An D.kind na x na x (oneF D.kind) na).aw q 0)=CSR.one;rw[a3];exact c
 show ((An D.kind na x na x (oneF D.kind) na).ato q 0).toNat=q+1;rw[o];rfl
theorem Uj{m:Nat}(h:ls x n 0=ls y m 0):n=m/\∀i,i<n->x i=y i:=by
 have d:∀(f:Nat->Int) j,(ls f j 0).length=j:=λf j=>JQ f _ _;have e:n=m:=by rw[<-d x n,h,d]
 subst e;refine⟨rfl,λi hi=>?_⟩;have c:(ls x n 0)[i]?=some (x (0+i)):=FT x (n-0) 0 i (by omega);have g:(ls y n 0)[i]?=some (y (0+i)):=FT y (n-0) 0 i (by omega);rw[h,g]at c;have:=Option.some.inj c;rw[Nat.zero_add]at this;exact this.symm
section
variable{D M:MD}(hD:VM D)(hSD:MSz D){na:Nat}{x:Nat->Int}(hx:isWord na x=true){al:Nat->Bool}(hal:∀p,al p=true\/∀k,k<(wrd D na x).na p->(wrd D na x).aout p k≠0){n:Nat}(h:CmpIs (wrd D na x) D al n M)
include hD hSD hx hal h
theorem Wv.after{v:ByteArray × Nat}(I:nc=na/\∀i,i<nc->z i=x i)(J:Wv M nc z nb y u)(K:Wv D na x nb y v)(F:u.2=0)(G:v.2=0):u.1=v.1:=by
 obtain⟨j,d,c,_⟩:=Bs hD.kind hx;obtain⟨k,g⟩:=hD.kk;obtain⟨N,_,l,_⟩:=h.vm j hD c d hSD;have o:=J F k (g.trans (l.trans c).symm);have E:=K G k g;have s:=Qv (D:=D) (na:=na) (x:=x) g;have L:ls z nc 0=ls x na 0:=by
  obtain⟨rfl,H⟩:=I;refine List.ext_getElem? λi=>?_;by_cases hi:i<nc
  ·have B:(ls z nc 0)[i]?=some (z (0+i)):=FT z (nc-0) 0 i (by omega);have C:(ls x nc 0)[i]?=some (x (0+i)):=FT x (nc-0) 0 i (by omega);rw[B,C,Nat.zero_add,H i hi]
  have A:∀(f:Nat->Int),(ls f nc 0).length=nc:=λf=>JQ f _ _;rw[List.getElem?_eq_none (by rw[A];omega),List.getElem?_eq_none (by rw[A];omega)]
 have p:=(h.cmp j hD c d hSD hal (g.trans c.symm) (ls z nc 0) (ls y nb 0)).alone (z:=ls x na 0) (YA hx) (λO m=>by
  rw[s.rel (isWord.ne hx) (j.inn k),ifn (λe=>m e.2)])
 rw[s.rel (isWord.ne hx) (j.inn k),ifp ⟨L,rfl⟩,o1]at p;rw[p]at o;exact o.text E
theorem Wv.after0(A:¬(nc=na/\∀i,i<nc->z i=x i))(B:Wv M nc z nb y u)(p:u.2=0):u.1=Aj D.kind:=by
 obtain⟨l,d,c,_⟩:=Bs hD.kind hx;obtain⟨k,g⟩:=hD.kk;obtain⟨C,_,j,_⟩:=h.vm l hD c d hSD;have m:=B p k (g.trans (j.trans c).symm);have s:=Qv (D:=D) (na:=na) (x:=x) g;have o:=(h.cmp l hD c d hSD hal (g.trans c.symm) (ls z nc 0) (ls y nb 0)).none (λE=>by
  rw[s.rel (isWord.ne hx) (l.inn k),ifn (λe=>A (Uj e.1))])
 rw[o]at m;rw[<-g];exact m.text Sv.zero
end
end
section
open Go CSR
set_option exponentiation.threshold 2000
variable{D:MD}{na:Nat}{x:Nat->Int}
def Vd{k:KK}:Bdv k.1 10000 (oneF k.1):=by
 have h:dgn (oneF k.1) (oneF k.1).size<=4:=by
  rcases k.2 with h|h|h<;>rw[h]<;>decide +kernel
 exact GP (Db (by rcases k.2 with h|h|h<;>rw[h]<;>rfl)) h
def YL:Ah (wrd D na x) (na+1)=na/\∀i,i<na+1->((wrd D na x).fin i=⟨#[]⟩\/(wrd D na x).fin i=oneF D.kind)/\∀d,d<(wrd D na x).na i->(wrd D na x).aw i d=oneF D.kind:=by
 have o:max na na=na:=Nat.max_self na;obtain⟨l,j,k⟩:=Lo D.kind na x (oneF D.kind) na;have e:wrd D na x=(An D.kind na x na x (oneF D.kind) na).setFin na (oneF D.kind):=by show BN _ _ _ _ _ _=_;unfold BN;rw[o]
 rw[e];have m:∀q,q<=na->Ah ((An D.kind na x na x (oneF D.kind) na).setFin na (oneF D.kind)) q=q:=λq=>by
  induction q with
  |zero=>intro _;rfl
  |succ q ih =>
   intro p;have g:Ah ((An D.kind na x na x (oneF D.kind) na).setFin na (oneF D.kind)) (q+1)=Ah ((An D.kind na x na x (oneF D.kind) na).setFin na (oneF D.kind)) q+(An D.kind na x na x (oneF D.kind) na).na q:=rfl;rw[g,ih (by omega),(k q (by omega)).1]
 refine⟨?_,λi hi=>⟨?_,λd hd=>?_⟩⟩
 ·have g:Ah ((An D.kind na x na x (oneF D.kind) na).setFin na (oneF D.kind)) (na+1)=Ah ((An D.kind na x na x (oneF D.kind) na).setFin na (oneF D.kind)) na+(An D.kind na x na x (oneF D.kind) na).na na:=rfl;rw[g,m na nlr,j];rfl
 ·show (if i=na then oneF D.kind else (An D.kind na x na x (oneF D.kind) na).fin i)=_\/(if i=na then oneF D.kind else (An D.kind na x na x (oneF D.kind) na).fin i)=_
  split
  ·exact .inr rfl
  exact .inl<|l i
 have c:d<(An D.kind na x na x (oneF D.kind) na).na i:=hd;show (An D.kind na x na x (oneF D.kind) na).aw i d=_;by_cases h:i=na
 ·rw[h,j]at c;exact absurd c (Nat.not_lt_zero _)
 obtain⟨a0,_,_,a3,_⟩:=k i (by omega);rw[a0]at c;obtain rfl:d=0:=by omega
 exact a3
def BadC.not1(j:VM D)(O:isWord na x=true)(K:na<=8)(h:BadC (wrd D na x) D):¬LitL 1 (pk3 D D D):=λJ=>by
 obtain⟨B,C,E⟩:=J;have u:sM (λi=>(pk3 D D D i).n) 1=0+D.n:=rfl;have z:sM (λi=>Ah (pk3 D D D i) (pk3 D D D i).n) 1=0+Ah D D.n:=rfl;rw[u]at B;rw[z]at C;have L:ShM D:=E 0 (by omega);obtain⟨S,_,g,_,l,m⟩:=Bs j.kind O;obtain⟨k,I⟩:=j.kk;obtain⟨s,p⟩:=YL (D:=D) (na:=na) (x:=x);have c:Bdv D.kind 10000 (oneF D.kind):=by rw[<-I];exact Vd
 have H:WBd 10000 (wrd D na x):=λv N=>by
  rw[g]
  rcases N with rfl|⟨i,hi,rfl,o⟩|⟨i,d,hi,hd,rfl⟩
  ·rw[l];exact c
  ·rw[((p i (by rw[m]at hi;exact hi)).1).resolve_left o];exact c
  rw[(p i (by rw[m]at hi;exact hi)).2 d hd];exact c
 rcases h with h|h|h
 ·exact H.bad (L.bdv j) g (by omega) (by omega) ten8 h
 ·have F:(wrd D na x).n*D.n<=9*5:=Nat.mul_le_mul (by omega) (by omega);omega
 have F:(wrd D na x).n*D.n<=9*5:=Nat.mul_le_mul (by omega) (by omega);have P:Ah (wrd D na x) (wrd D na x).n=na:=by rw[m];exact s
 have Q:Ah (wrd D na x) (wrd D na x).n*Ah D D.n<=8*10:=Nat.mul_le_mul (by omega) (by omega);have G:bnd (wrd D na x) D<=98:=by unfold bnd;omega
 have R:2*((wrd D na x).n*D.n)*bnd (wrd D na x) D<=90*98:=Nat.mul_le_mul (by omega) G;omega
end
end Go.Proofs.YtpldocnhbdlgfaaGreatDoor
