/- Parts. -/
import Derived.Test.YteappjogmnogcaaGreatDoorZ22
namespace Go.Proofs.YteappjogmnogcaaGreatDoor
set_option maxRecDepth 100000
set_option linter.all false
set_option maxHeartbeats 16000000
open Go Tryz
section
open Go.RowKit Go.Deep
def seqQ:Nat->Code->Code
 |n+1,.seq _ b=>seqQ n b
 |_,c=>c
def OS:Nat->Code->Code->Code
 |0,_,x=>x
 |n+1,.seq a b,x=>.seq a (OS n b x)
 |_,c,_=>c
def fstQ:Code->Code
 | .seq a _=>a
 |c=>c
def sndQ:Code->Code
 | .seq _ b=>b
 |c=>c
def blkQ(n:Nat):Code->Option Code
 | .block m c=>if m==n then some c else blkQ n c
 | .seq a b=>(blkQ n a).or (blkQ n b)
 | .cond _ a b=>(blkQ n a).or (blkQ n b)
 | .loop c=>blkQ n c
 | .scope c=>blkQ n c
 |_=>none
def VK:Code->Code
 | .loop c=>c
 |_=>.skip
noncomputable def w8B(n:Nat):Code:=(((f19).body.bind (blkQ n)).getD .skip)
noncomputable def kB:Code:=seqQ 5 (w8B 9)
set_option maxRecDepth 1000000 in
theorem kmove{D:MD}{na nb:Nat}{x y:Nat->Int}{w wr:World}{mb g n1 n2 i j u v vs cp cx cy:Nat}{a ax ay:Option Addr}{r:Nat->Nat}{s:Nat->Nat->Nat}{X:TbR}{V:Nat->ByteArray}{a1 b1:Int}{Q0:Exit->Act->World->Prop}{u0 u4 u5 u6 u7 u8 u9 r6 r7 r8 r9 J1 J2 s3 s4 s5 s6 s7 s8 s9 t7 t8 t9 v0 v2 v3 v4 v5 v6 v7 v8 v9 w0 w1 w2 w3 w4 w8 w9 x0 x1 x2 x3 x4 x5 x6 x7 x8 x9 y0 y1 y2 y3 y4 y5 y6 y7 y8 y9 z1 z2 z3 z4 z5 z6 z7 z8 z9 A0 A1 A2 A3 A4 A5 A6 A7 A8 A9 B0 B1 B2 B3 B4 B5 B6 B7 B8 B9 C0 a5 a6 a7 a8 a9 b0 b2 b3 b4 b5 b6 b7 b8 b9 c7 c8 c9 d0 d1 d2 d3 d4 d5 d6 d7 d8 d9 e0 e1 e2 e3 e4 e5 e6 e7 e8 e9 f0 f1 f2 f3 f4 f5 f7 f8 f9 g0 g1 g2 g3 g4 g5 g6 g7 g8 D8 D9 E0 E1 E2 E3 E4 E5 E6 E7 E8 E9 F0 F1 F2 F3 F4 F5 F6 F7 F8 F9 G0 G1 G2 G3 G4 G5 G6 G7 G8 G9 H0 H1 H2 H3 H4 H5 H6 H7 H8 H9 g9 h0 h3 h4 h5 h6 h7 h8 h9 i2 i3 i4 i5:Value}
  (HV:Hd (VM D)) (I1:Hd (∀W,Below w.heap.size w W->StS none W (.slice a D.n cp) D)) (I2:Hd (MSz D)) (I6:D.n<=3000) (J8:n1<=201) (J9:n2<=201) (K2:i<n1) (K3:j<n2) (I:i+u<n1) (r2:j+v<n2) (K4:0<u+v)
  (C4:Hd (kR D na x nb y i j u v (X,0)=if (Ak D a1 b1 V D.n (zerR D.kind,0)).2≠0 then (X,(Ak D a1 b1 V D.n (zerR D.kind,0)).2) else if (sumR D.kind (X (i+u) (j+v)) (Ak D a1 b1 V D.n (zerR D.kind,0)).1 D.n).2≠0 then (X,(sumR D.kind (X (i+u) (j+v)) (Ak D a1 b1 V D.n (zerR D.kind,0)).1 D.n).2) else (updT X (i+u) (j+v) (sumR D.kind (X (i+u) (j+v)) (Ak D a1 b1 V D.n (zerR D.kind,0)).1 D.n).1,0)))
  (D0:Hd (X i j=V)) (p8:Hd (smT X)) (B:Hd (TW wr w.heap.size g n1 n2 D.n r s X)) (p9:Hd (wr.rowIs vs 9 D.n (λp=>.string (V p)))) (L:Hd (BxM wr mb D (.slice a D.n cp))) (o2:Hd (Below w.heap.size w wr))
  (l:Hd (∀(e:List PanicEntry) (a:Act) (d:Option Tmp) (v:Value) (w':World),Q0 (.panic e) (a.put d v) w'->Q0 (.panic e) a w'))
  (p0:Hd (∀(C1 C2 i6 i7 i8 i9 j0 j1 j2 j3 j4 j5 j6 j7 j8 j9 k0 k1 k2 k3 k4 k5 k6 k7 k9 l0 l1 l2 l3 l4 l5 l6 l7 l8 l9 m4 m5 m7 m8 m9 n3 n5 n6 n7:Value) (w':World) (s':Nat->Nat->Nat) (X':TbR),kR D na x nb y i j u v (X,0)=(X',0)->smT X'->TW w' w.heap.size g n1 n2 D.n r s' X'->X' i j=V->w'.rowIs vs 9 D.n (λp=>.string (V p))->BxM w' mb D (.slice a D.n cp)->Below w.heap.size w w'->Q0 .normal ⟨List.toArray (u0::.slice ax na cx::.slice ay nb cy::.pointer (some ⟨mb,0,none⟩)::u4::u5::u6::u7::u8::u9::.slice (some ⟨g,0,none⟩) n1 n1::r6::r7::.int .i64 (i:Int)::.int .i64 (j:Int)::.slice (some ⟨vs,0,none⟩) D.n D.n::r8::r9::.int .i64 (u:Int)::.int .i64 (v:Int)::.int .i64 a1::.int .i64 b1::C1::C2::s3::s4::s5::s6::s7::s8::s9::t7::t8::t9::v0::v2::v3::v4::v5::v6::v7::v8::v9::w0::w1::w2::w3::w4::w8::w9::x0::x1::x2::x3::x4::x5::x6::x7::x8::x9::y0::y1::y2::y3::y4::y5::y6::y7::y8::y9::z1::z2::z3::z4::z5::z6::z7::z8::z9::A0::A1::A2::A3::A4::A5::A6::A7::A8::A9::B0::B1::B2::B3::B4::B5::B6::B7::B8::B9::C0::a5::a6::a7::a8::a9::b0::b2::b3::b4::b5::b6::b7::b8::b9::c7::c8::c9::d0::d1::d2::d3::d4::d5::d6::d7::d8::d9::e0::e1::e2::e3::e4::e5::e6::e7::e8::e9::f0::f1::f2::f3::f4::f5::f7::f8::f9::g0::g1::g2::g3::g4::g5::g6::g7::g8::i6::i7::i8::i9::j0::j1::j2::j3::j4::j5::j6::j7::j8::j9::k0::k1::k2::k3::k4::k5::k6::k7::k9::l0::l1::l2::l3::l4::l5::l6::l7::l8::l9::m4::m5::m7::m8::m9::n3::n5::n6::n7::g9::h0::h3::h4::h5::h6::h7::h8::h9::i2::i3::i4::i5::[]),[]⟩ w'))
  (o6:Hd (∀(C1 C2 i6 i7 i8 i9 j0 j1 j2 j3 j4 j5 j6 j7 j8 j9 k0 k1 k2 k3 k4 k5 k6 k7 k9 l0 l1 l2 l3 l4 l5 l6 l7 l8 l9 m4 m5 m7 m8 m9 n3 n5 n6 n7:Value) (w':World) (e:Nat),(kR D na x nb y i j u v (X,0)).2=e->e≠0->Below w.heap.size w w'->Q0 .ret ⟨List.toArray (u0::.slice ax na cx::.slice ay nb cy::.pointer (some ⟨mb,0,none⟩)::u4::u5::.string ⟨#[]⟩::.int .i64 (e:Int)::u8::u9::.slice (some ⟨g,0,none⟩) n1 n1::r6::r7::.int .i64 (i:Int)::.int .i64 (j:Int)::.slice (some ⟨vs,0,none⟩) D.n D.n::r8::r9::.int .i64 (u:Int)::.int .i64 (v:Int)::.int .i64 a1::.int .i64 b1::C1::C2::s3::s4::s5::s6::s7::s8::s9::t7::t8::t9::v0::v2::v3::v4::v5::v6::v7::v8::v9::w0::w1::w2::w3::w4::w8::w9::x0::x1::x2::x3::x4::x5::x6::x7::x8::x9::y0::y1::y2::y3::y4::y5::y6::y7::y8::y9::z1::z2::z3::z4::z5::z6::z7::z8::z9::A0::A1::A2::A3::A4::A5::A6::A7::A8::A9::B0::B1::B2::B3::B4::B5::B6::B7::B8::B9::C0::a5::a6::a7::a8::a9::b0::b2::b3::b4::b5::b6::b7::b8::b9::c7::c8::c9::d0::d1::d2::d3::d4::d5::d6::d7::d8::d9::e0::e1::e2::e3::e4::e5::e6::e7::e8::e9::f0::f1::f2::f3::f4::f5::f7::f8::f9::g0::g1::g2::g3::g4::g5::g6::g7::g8::i6::i7::i8::i9::j0::j1::j2::j3::j4::j5::j6::j7::j8::j9::k0::k1::k2::k3::k4::k5::k6::k7::k9::l0::l1::l2::l3::l4::l5::l6::l7::l8::l9::m4::m5::m7::m8::m9::n3::n5::n6::n7::g9::h0::h3::h4::h5::h6::h7::h8::h9::i2::i3::i4::i5::[]),[]⟩ w')) :
  Code.wp prog kB Q0 ⟨List.toArray (u0::.slice ax na cx::.slice ay nb cy::.pointer (some ⟨mb,0,none⟩)::u4::u5::u6::u7::u8::u9::.slice (some ⟨g,0,none⟩) n1 n1::r6::r7::.int .i64 (i:Int)::.int .i64 (j:Int)::.slice (some ⟨vs,0,none⟩) D.n D.n::r8::r9::.int .i64 (u:Int)::.int .i64 (v:Int)::.int .i64 a1::.int .i64 b1::J1::J2::s3::s4::s5::s6::s7::s8::s9::t7::t8::t9::v0::v2::v3::v4::v5::v6::v7::v8::v9::w0::w1::w2::w3::w4::w8::w9::x0::x1::x2::x3::x4::x5::x6::x7::x8::x9::y0::y1::y2::y3::y4::y5::y6::y7::y8::y9::z1::z2::z3::z4::z5::z6::z7::z8::z9::A0::A1::A2::A3::A4::A5::A6::A7::A8::A9::B0::B1::B2::B3::B4::B5::B6::B7::B8::B9::C0::a5::a6::a7::a8::a9::b0::b2::b3::b4::b5::b6::b7::b8::b9::c7::c8::c9::d0::d1::d2::d3::d4::d5::d6::d7::d8::d9::e0::e1::e2::e3::e4::e5::e6::e7::e8::e9::f0::f1::f2::f3::f4::f5::f7::f8::f9::g0::g1::g2::g3::g4::g5::g6::g7::g8::D8::D9::E0::E1::E2::E3::E4::E5::E6::E7::E8::E9::F0::F1::F2::F3::F4::F5::F6::F7::F8::F9::G0::G1::G2::G3::G4::G5::G6::G7::G8::G9::H0::H1::H2::H3::H4::H5::H6::H7::H8::H9::g9::h0::h3::h4::h5::h6::h7::h8::h9::i2::i3::i4::i5::[]),[]⟩ wr:=by
 conv=>arg 2;whnf
 have K5:IntKind.i64.wrap ((i:Int)+(u:Int))=((i:Int)+(u:Int)):=by rw[IntKind.wrap_i64];omega
 have K6:IntKind.i64.wrap ((j:Int)+(v:Int))=((j:Int)+(v:Int)):=by rw[IntKind.wrap_i64];omega
 have K0:((i:Int)+(u:Int))<(n1:Int):=by omega
 have K1:((j:Int)+(v:Int))<(n2:Int):=by omega
 have J3:(0:Int)<=((i:Int)+(u:Int)):=by omega
 have J5:(0:Int)<=((j:Int)+(v:Int)):=by omega
 have J4:((i:Int)+(u:Int)).toNat=i+u:=by omega
 have J6:((j:Int)+(v:Int)).toNat=j+v:=by omega
 obtain⟨z,hz⟩:=exq<|Ak D a1 b1 V D.n (zerR D.kind,0);have r5:∀p,smS (z.1 p):=by rw[hz];exact GC D.n (λ_=>Dk _)
 have a3:=Zh (i:=a1) (o:=b1) wr HV.o (I1.o wr o2.o) p9.o (λp=>by rw[<-D0.o];exact p8.o i j p) (λq k=>by have:=I2.o.aw q k;unfold smS;unfold maxLen at this;omega);rw[<-hz]at a3;have C6:=qh a3;clear a3;have r0:=C4.o;rw[<-hz]at r0;have p6:=qh r0;clear r0 C4 hz;replace r5:=qh r5;have m0:=cellOf L.o 0 rfl;have m1:=cellOf L.o 1 rfl;have m2:=cellOf L.o 2 rfl;have m3:=cellOf L.o 3 rfl
 go_wp2_with fail
 refine C6.o.mono ?_;rintro rr w5⟨q9,I7⟩;have Q:=qh<|Fr.of_below (C:=λ_=>False) q9;have P:=qh<|o2.o.trans (q9.mono o2.o.size);clear q9 C6 m0 m1 m2 m3
 rcases I7 with⟨U,gv,rfl,I4,o7⟩|⟨U,rfl⟩
 rotate_left
 ·have D7:¬((z.2:Int)=0):=by omega
  have I9:((z.2:Int)==0)=false:=by simp;omega
  have J0:decide ((z.2:Int)=0)=false:=by simp;omega
  have hw:(kR D na x nb y i j u v (X,0)).2=z.2:=by rw[p6.o,ifp U]
  have HW:=qh hw;clear hw;have D2:=qh U;clear U
  go_wp2_with fail
  exact o6.o _ _ _ _ _ _ _ _ _ _ _ _ _ _ _ _ _ _ _ _ _ _ _ _ _ _ _ _ _ _ _ _ _ _ _ _ _ _ _ _ _ _ _ _ _ _ HW.o D2.o P.o
 have p7:=qh<|p6.o.trans (ifn (by omega));clear p6;have D2:=qh U;have C5:=qh o7;have J7:=qh (show w.heap.size<=gv by have:=o2.o.size;omega);have K7:(z.2:Int)=0:=by omega
 clear U o7 I4;obtain⟨z',o5⟩:=exq<|sumR D.kind (X (i+u) (j+v)) z.1 D.n;have a4:∀p,smS (z'.1 p):=by rw[o5];exact Qz _
 obtain⟨G,F⟩:=exq<|r (i+u);obtain⟨sq,r3⟩:=exq<|s (i+u) (j+v);have o9:∀W,Fr (λ_=>False) w5 W->Calls prog 56 #[.int .i64 D.kind,.slice (some ⟨sq,0,none⟩) D.n D.n,.slice (some ⟨gv,0,none⟩) D.n D.n] W (VerE D.n z' W):=λW hf=>by
  rw[o5,r3];exact Zs W I6 ((B.o.new (Q.o.trans hf)).vec _ _ I r2) (hf.row C5.o (λe=>e)) (λp=>p8.o _ _ p) r5.o
 have C7:=qh o9;clear o9;rw[<-o5]at p7;have o4:∀W,Fr (λ_=>False) w5 W->(λwk:World=>wk.cell? (Ad g (i+u))=some (.slice (some ⟨G,0,none⟩) n2 n2)/\wk.cell? (Ad mb 0)=some (.int .i64 D.kind)) W:=λW hf=>⟨by rw[F];exact(B.o.new (Q.o.trans hf)).top.cell I,cellOf (L.o.kept (Q.o.trans hf) (λe=>e)) 0 rfl⟩;replace o4:=qh o4;have Y:∀W,Fr (λ_=>False) w5 W->W.cell? (Ad G (j+v))=some (.slice (some ⟨sq,0,none⟩) D.n D.n)/\W.frozen? (Ad G (j+v))=false:=λW hf=>by
  have h1:=((B.o.new (Q.o.trans hf)).mid _ I).1;rw[F,r3];exact⟨h1.cell r2,h1.frozen _⟩
 replace Y:=qh Y;replace F:=qh F;replace a4:=qh a4;clear r3 o5;obtain⟨wd,r4⟩:=exq<|w5.drew;have o3:=qh (show Fr (λ_=>False) w5 wd by rw[r4];exact Fr.of_below ((Below.refl w5.heap.size w5).drew))
 go_wp2_with fail
 have m:=o4.o wd o3.o;refine Au (λwk:World=>wk.cell? (Ad g (i+u))=some (.slice (some ⟨G,0,none⟩) n2 n2)/\wk.cell? (Ad mb 0)=some (.int .i64 D.kind)) 29 (by kernel_rfl) ?_;rw[<-r4];clear r4;refine Aa.tm 0 m ?_ (hQ:=λ_ _ _ h=>l.o _ _ _ _ _ h);refine Aa.tm 1 m ?_ (hQ:=λ_ _ _ h=>l.o _ _ _ _ _ h);refine Aa.tm 2 m ?_ (hQ:=λ_ _ _ h=>l.o _ _ _ _ _ h);refine Aa.tm 3 m ?_ (hQ:=λ_ _ _ h=>l.o _ _ _ _ _ h);refine Aa.tm 4 m ?_ (hQ:=λ_ _ _ h=>l.o _ _ _ _ _ h);refine Aa.tm 5 m ?_ (hQ:=λ_ _ _ h=>l.o _ _ _ _ _ h);refine Aa.tm 6 m ?_ (hQ:=λ_ _ _ h=>l.o _ _ _ _ _ h);refine Aa.tm 7 m ?_ (hQ:=λ_ _ _ h=>l.o _ _ _ _ _ h);refine Aa.tm 8 m ?_ (hQ:=λ_ _ _ h=>l.o _ _ _ _ _ h);refine Aa.tm 9 m ?_ (hQ:=λ_ _ _ h=>l.o _ _ _ _ _ h);refine Aa.tm 10 m ?_ (hQ:=λ_ _ _ h=>l.o _ _ _ _ _ h);refine Aa.tm 11 m ?_ (hQ:=λ_ _ _ h=>l.o _ _ _ _ _ h);refine Aa.tm 12 m ?_ (hQ:=λ_ _ _ h=>l.o _ _ _ _ _ h);refine Aa.tm 13 m ?_ (hQ:=λ_ _ _ h=>l.o _ _ _ _ _ h);refine Aa.tm 14 m ?_ (hQ:=λ_ _ _ h=>l.o _ _ _ _ _ h);refine Aa.tm 15 m ?_ (hQ:=λ_ _ _ h=>l.o _ _ _ _ _ h);refine Aa.tm 16 m ?_ (hQ:=λ_ _ _ h=>l.o _ _ _ _ _ h);refine Aa.tm 17 m ?_ (hQ:=λ_ _ _ h=>l.o _ _ _ _ _ h);refine Aa.tm 18 m ?_ (hQ:=λ_ _ _ h=>l.o _ _ _ _ _ h);refine Aa.tm 19 m ?_ (hQ:=λ_ _ _ h=>l.o _ _ _ _ _ h);refine Aa.tm 20 m ?_ (hQ:=λ_ _ _ h=>l.o _ _ _ _ _ h)
 try simp only[Act.put,tryL]
 refine Aa.tm 22 m ?_ (hQ:=λ_ _ _ h=>l.o _ _ _ _ _ h)
 try simp only[Act.put,tryL]
 have I3:=(Y.o wd o3.o).1;refine Aa.on 21 λK E=>?_;go_simp;refine E.out _ _ (.inr m) ?_;clear E K I3
 try simp only[Act.put,tryL]
 refine Aa.on 23 λK E=>?_;go_simp;refine(C7.o wd o3.o).mono ?_;rintro rr w6⟨D4,I8⟩;have J:=qh<|o3.o.trans (Fr.of_below D4);have A:=o4.o w6 J.o;clear D4 m C7
 rcases I8 with⟨O,gw,rfl,I5,o8⟩|⟨O,rfl⟩
 rotate_left
 ·refine E.out _ _ (.inr A) ?_;clear E K
  try simp only[Act.put,tryL]
  refine Aa.on 24 λK E=>?_;go_simp;refine E.out _ _ (.inr A) ?_;clear E K
  try simp only[Act.put,tryL]
  refine Aa.tm 25 A ?_ (hQ:=λ_ _ _ h=>l.o _ _ _ _ _ h);refine Aa.tm 26 A ?_ (hQ:=λ_ _ _ h=>l.o _ _ _ _ _ h);refine Aa.tm 27 A ?_ (hQ:=λ_ _ _ h=>l.o _ _ _ _ _ h)
  try simp only[Act.put,tryL]
  obtain⟨q7,q8⟩:=Y.o w6 J.o;refine Aa.on 28 λK E=>?_;go_simp;have Z:w.heap.size<=G:=by rw[F.o];exact(B.o.mid _ I).2
  have a2:g≠G:=by rw[F.o];exact Cp B.o.top (B.o.mid _ I).1 (by decide)
  have T:mb≠G:=λe=>by
   obtain⟨c,h1,_⟩:=(B.o.mid _ I).1;have h2:=L.o;unfold BxM at h2;rw[e,F.o,h1]at h2;simp at h2
  have H:Fr (λc=>c=G) w6 (w6.setCell (Ad G (j+v)) (.slice none 0 0)):=(Fr.refl (λc=>c=G) w6).set (p:=(Ad G (j+v))) (.inl rfl) _;have S:(λwk:World=>wk.cell? (Ad g (i+u))=some (.slice (some ⟨G,0,none⟩) n2 n2)/\wk.cell? (Ad mb 0)=some (.int .i64 D.kind)) (w6.setCell (Ad G (j+v)) (.slice none 0 0)):=⟨H.cell A.1 a2,H.cell A.2 T⟩;have n9:=qh ((P.o.trans (J.o.below P.o.size (λ_ e=>e.elim))).trans (H.below (Nat.le_trans P.o.size J.o.size) (λc e=>by rw[e];exact Z)));obtain⟨w7,N⟩:=exq<|w6.setCell ⟨G,j+v,none⟩ (.slice none 0 0);rw[<-N]at S n9;rw[<-N];clear N H a2 T Z q7 q8;refine E.out _ _ (.inr S) ?_;clear E K
  try simp only[Act.put,tryL]
  refine Aa.on 29 λK E=>?_;go_simp;refine E.out _ _ (.inl rfl) (Aa.dn ?_);clear E K S;have D7:¬((z'.2:Int)=0):=by omega
  have I9:((z'.2:Int)==0)=false:=by simp;omega
  have J0:decide ((z'.2:Int)=0)=false:=by simp;omega
  have hw:(kR D na x nb y i j u v (X,0)).2=z'.2:=by rw[p7.o,ifp O]
  have HW:=qh hw;clear hw;have D3:=qh O;clear O
  go_wp2_with fail
  exact o6.o _ _ _ _ _ _ _ _ _ _ _ _ _ _ _ _ _ _ _ _ _ _ _ _ _ _ _ _ _ _ _ _ _ _ _ _ _ _ _ _ _ _ _ _ _ _ HW.o D3.o n9.o
 refine E.out _ _ (.inr A) ?_;clear E K
 try simp only[Act.put,tryL]
 refine Aa.on 24 λK E=>?_;go_simp;refine E.out _ _ (.inr A) ?_;clear E K
 try simp only[Act.put,tryL]
 refine Aa.tm 25 A ?_ (hQ:=λ_ _ _ h=>l.o _ _ _ _ _ h);refine Aa.tm 26 A ?_ (hQ:=λ_ _ _ h=>l.o _ _ _ _ _ h);refine Aa.tm 27 A ?_ (hQ:=λ_ _ _ h=>l.o _ _ _ _ _ h)
 try simp only[Act.put,tryL]
 obtain⟨q7,q8⟩:=Y.o w6 J.o;refine Aa.on 28 λK E=>?_;go_simp;have Z:w.heap.size<=G:=by rw[F.o];exact(B.o.mid _ I).2
 have a2:g≠G:=by rw[F.o];exact Cp B.o.top (B.o.mid _ I).1 (by decide)
 have T:mb≠G:=λe=>by
  obtain⟨c,h1,_⟩:=(B.o.mid _ I).1;have h2:=L.o;unfold BxM at h2;rw[e,F.o,h1]at h2;simp at h2
 have D5:vs≠G:=by rw[F.o];exact Cp p9.o (B.o.mid _ I).1 (by decide)
 have R:=(B.o.new (Q.o.trans J.o)).put I r2 o8;rw[<-F.o]at R;obtain⟨w7,N⟩:=exq<|w6.setCell ⟨G,j+v,none⟩ (.slice (some ⟨gw,0,none⟩) D.n D.n);have H:Fr (λc=>c=G) w6 w7:=by rw[N];exact(Fr.refl (λc=>c=G) w6).set (p:=(Ad G (j+v))) (.inl rfl) _
 have S:(λwk:World=>wk.cell? (Ad g (i+u))=some (.slice (some ⟨G,0,none⟩) n2 n2)/\wk.cell? (Ad mb 0)=some (.int .i64 D.kind)) w7:=⟨H.cell A.1 a2,H.cell A.2 T⟩;rw[<-N]at R;have C8:=qh R;have n9:=qh ((P.o.trans (J.o.below P.o.size (λ_ e=>e.elim))).trans (H.below (Nat.le_trans P.o.size J.o.size) (λc e=>by rw[e];exact Z)));have C3:=qh<|(L.o.kept (Q.o.trans J.o) (λe=>e)).kept H T;have C9:=qh<|H.row ((Q.o.trans J.o).row p9.o (λe=>e)) D5;rw[<-N];clear N H a2 T Z D5 R o8 q7 q8 I5;refine E.out _ _ (.inr S) ?_;clear E K
 try simp only[Act.put,tryL]
 refine Aa.on 29 λK E=>?_;go_simp;refine E.out _ _ (.inl rfl) (Aa.dn ?_);clear E K S;have D7:(z'.2:Int)=0:=by omega
 have I0:=qh<|p7.o.trans (ifn (by omega));have D6:updT X (i+u) (j+v) z'.1 i j=V:=by unfold updT;rw[ifn (by omega)];exact D0.o
 have D1:=qh D6;clear O D6
 go_wp2_with fail
 exact p0.o _ _ _ _ _ _ _ _ _ _ _ _ _ _ _ _ _ _ _ _ _ _ _ _ _ _ _ _ _ _ _ _ _ _ _ _ _ _ _ _ _ _ _ _ _ _ _ I0.o (p8.o.upd a4.o) C8.o D1.o C9.o C3.o n9.o
noncomputable def kLG:Code:=VK<|w8B 8
set_option maxRecDepth 1000000 in
theorem Xo:Code.seq (fstQ kLG) (Code.seq (.block 9 (OS 5 (w8B 9) kB)) (sndQ (sndQ kLG)))=kLG:=by kernel_rfl
set_option maxRecDepth 1000000 in
theorem VC{D:MD}{na nb:Nat}{x y:Nat->Int}{w wr:World}{mb g n1 n2 i j vs cp cx cy bx ox e3 oy:Nat}{a ax ay:Option Addr}{r:Nat->Nat}{s:Nat->Nat->Nat}{X:TbR}{V:Nat->ByteArray}{z2:TbR × Nat}{E:Nat->Prop}{Q0:Exit->Act->World->Prop}{u0 u4 u5 u6 u7 u8 u9 r5 r6 r7 M3 M4 M5 M6 M7 M8 r8 r9 s3 s4 s5 s6 s7 s8 s9 t7 t8 t9 v0 v2 v3 v4 v5 v8 v9 w0 w1 w3 w4 w5 w6 w7 w8 w9 x0 x1 x2 x3 x4 x5 x6 x7 x8 x9 y0 y1 y2 y3 y4 y5 y6 y7 y8 y9 z1 z3 z4 z5 z6 z7 z8 z9 A0 A1 A2 A3 A4 A5 A6 A7 A8 A9 B0 B1 B2 B3 B4 B5 B6 B7 B8 B9 g0 g1 g2 g3 g4 g5 g6 g7 g8 g9 h0 h8 h9 i2 i3 i4 i5 i6 i7 i8 i9 E1 E2 E3 E4 E5 E6 E7 E8 E9 F0 F1 F2 F3 F4 F5 F6 F7 F8 F9 G0 G1 G2 G3 G4 G5 G6 G7 G8 G9 H0 H1 H8 H9 I0 I1 I2 I3 I4 I5 I6 I7 I8 I9 J0 J1 J2 J3 J4 J5 J6 J7 J8 J9 K0 K1 K2 K3 K4 K5 K6 K7 K8 K9 L0 L1 L2 L3 L4 L5 L6 L7 L8 L9 M0 M1 M2 j0 j1 j2 j3 j4 j5 j6 j7 j8 j9 k0 k1 k2:Value}
  (HV:Hd (VM D)) (p6:Hd (∀W,Below w.heap.size w W->StS none W (.slice a D.n cp) D)) (p7:Hd (MSz D)) (r2:D.n<=3000) (o8:Hd (n1=na+1)) (o9:Hd (n2=nb+1)) (q9:n1<=201) (r0:n2<=201) (r3:i<n1) (r4:j<n2)
  (C4:Hd (0<na->ax=some ⟨bx,ox,none⟩)) (C6:Hd (0<na->bx<w.heap.size/\some bx≠none)) (C7:Hd (∀i,i<na->w.cell? (Ad bx (ox+i))=some (.int .i64 (x i)))) (C5:Hd (0<nb->ay=some ⟨e3,oy,none⟩)) (C8:Hd (0<nb->e3<w.heap.size/\some e3≠none)) (C9:Hd (∀i,i<nb->w.cell? (Ad e3 (oy+i))=some (.int .i64 (y i))))
  (e5:Hd (∀k e,k<=4->(mvR D na x nb y i j k z2).2=e->e≠0->E e)) (d9:Hd (z2=(X,0)))
  (o:Hd (X i j=V)) (d1:Hd (smT X)) (d2:Hd (TW wr w.heap.size g n1 n2 D.n r s X)) (d3:Hd (wr.rowIs vs 9 D.n (λp=>.string (V p)))) (d0:Hd (BxM wr mb D (.slice a D.n cp))) (l:Hd (Below w.heap.size w wr))
  (e8:Hd (∀(e:List PanicEntry) (a:Act) (d:Option Tmp) (v:Value) (w':World),Q0 (.panic e) (a.put d v) w'->Q0 (.panic e) a w'))
  (p0:Hd (∀(v6 v7 e2 C0 C1 C2 C3 d6 d7 k3 k4 k5 k6 k7 k9 l0 l1 l2 l3 l4 l5 l6 l7 l8 l9 m2 m3 m4 m5 m7 m8 m9 n3 n5 n6 n7 n9 o2 o3 o4 o5 o6 o7 A B C F G H I J K L N O P Q R S T U Y Z a1 a2 a3 a4 a5 a6 a7 a8 a9 b0 b1 b2 b3 b4 b5 b6 b7 b8 b9 c7 c8 c9:Value) (w':World) (s':Nat->Nat->Nat) (X':TbR),mvR D na x nb y i j 4 z2=(X',0)->smT X'->TW w' w.heap.size g n1 n2 D.n r s' X'->BxM w' mb D (.slice a D.n cp)->Below w.heap.size w w'->Q0 (.exit 8) ⟨List.toArray (u0::.slice ax na cx::.slice ay nb cy::.pointer (some ⟨mb,0,none⟩)::u4::u5::v6::v7::u8::u9::.slice (some ⟨g,0,none⟩) n1 n1::r5::r6::.int .i64 (i:Int)::.int .i64 (j:Int)::.slice (some ⟨vs,0,none⟩) D.n D.n::r7::e2::C0::C1::C2::C3::d6::d7::r8::r9::s3::s4::s5::s6::s7::s8::s9::t7::t8::t9::v0::v2::v3::v4::v5::v8::v9::w0::w1::w3::w4::w5::w6::w7::w8::w9::x0::x1::x2::x3::x4::x5::x6::x7::x8::x9::y0::y1::y2::y3::y4::y5::y6::y7::y8::y9::z1::z3::z4::z5::z6::z7::z8::z9::A0::A1::A2::A3::A4::A5::A6::A7::A8::A9::B0::B1::B2::B3::B4::B5::B6::B7::B8::B9::g0::g1::g2::g3::g4::g5::g6::g7::g8::g9::h0::h8::h9::i2::i3::i4::i5::i6::i7::i8::i9::k3::k4::k5::k6::k7::k9::l0::l1::l2::l3::l4::l5::l6::l7::l8::l9::m2::m3::m4::m5::m7::m8::m9::n3::n5::n6::n7::n9::o2::o3::o4::o5::o6::o7::A::B::C::F::G::H::I::J::K::L::N::O::P::Q::R::S::T::U::Y::Z::a1::a2::a3::a4::a5::a6::a7::a8::a9::b0::b1::b2::b3::b4::b5::b6::b7::b8::b9::c7::c8::c9::j0::j1::j2::j3::j4::j5::j6::j7::j8::j9::k0::k1::k2::[]),[]⟩ w'))
  (e9:Hd (∀(e2 C0 C1 C2 C3 d6 d7 k3 k4 k5 k6 k7 k9 l0 l1 l2 l3 l4 l5 l6 l7 l8 l9 m2 m3 m4 m5 m7 m8 m9 n3 n5 n6 n7 n9 o2 o3 o4 o5 o6 o7 A B C F G H I J K L N O P Q R S T U Y Z a1 a2 a3 a4 a5 a6 a7 a8 a9 b0 b1 b2 b3 b4 b5 b6 b7 b8 b9 c7 c8 c9:Value) (w':World) (e:Nat),E e->Below w.heap.size w w'->Q0 .ret ⟨List.toArray (u0::.slice ax na cx::.slice ay nb cy::.pointer (some ⟨mb,0,none⟩)::u4::u5::.string ⟨#[]⟩::.int .i64 (e:Int)::u8::u9::.slice (some ⟨g,0,none⟩) n1 n1::r5::r6::.int .i64 (i:Int)::.int .i64 (j:Int)::.slice (some ⟨vs,0,none⟩) D.n D.n::r7::e2::C0::C1::C2::C3::d6::d7::r8::r9::s3::s4::s5::s6::s7::s8::s9::t7::t8::t9::v0::v2::v3::v4::v5::v8::v9::w0::w1::w3::w4::w5::w6::w7::w8::w9::x0::x1::x2::x3::x4::x5::x6::x7::x8::x9::y0::y1::y2::y3::y4::y5::y6::y7::y8::y9::z1::z3::z4::z5::z6::z7::z8::z9::A0::A1::A2::A3::A4::A5::A6::A7::A8::A9::B0::B1::B2::B3::B4::B5::B6::B7::B8::B9::g0::g1::g2::g3::g4::g5::g6::g7::g8::g9::h0::h8::h9::i2::i3::i4::i5::i6::i7::i8::i9::k3::k4::k5::k6::k7::k9::l0::l1::l2::l3::l4::l5::l6::l7::l8::l9::m2::m3::m4::m5::m7::m8::m9::n3::n5::n6::n7::n9::o2::o3::o4::o5::o6::o7::A::B::C::F::G::H::I::J::K::L::N::O::P::Q::R::S::T::U::Y::Z::a1::a2::a3::a4::a5::a6::a7::a8::a9::b0::b1::b2::b3::b4::b5::b6::b7::b8::b9::c7::c8::c9::j0::j1::j2::j3::j4::j5::j6::j7::j8::j9::k0::k1::k2::[]),[]⟩ w')) :
  Code.wp prog (Code.loop kLG) Q0 ⟨List.toArray (u0::.slice ax na cx::.slice ay nb cy::.pointer (some ⟨mb,0,none⟩)::u4::u5::u6::u7::u8::u9::.slice (some ⟨g,0,none⟩) n1 n1::r5::r6::.int .i64 (i:Int)::.int .i64 (j:Int)::.slice (some ⟨vs,0,none⟩) D.n D.n::r7::.int .i64 1::M3::M4::M5::M6::M7::M8::r8::r9::s3::s4::s5::s6::s7::s8::s9::t7::t8::t9::v0::v2::v3::v4::v5::v8::v9::w0::w1::w3::w4::w5::w6::w7::w8::w9::x0::x1::x2::x3::x4::x5::x6::x7::x8::x9::y0::y1::y2::y3::y4::y5::y6::y7::y8::y9::z1::z3::z4::z5::z6::z7::z8::z9::A0::A1::A2::A3::A4::A5::A6::A7::A8::A9::B0::B1::B2::B3::B4::B5::B6::B7::B8::B9::g0::g1::g2::g3::g4::g5::g6::g7::g8::g9::h0::h8::h9::i2::i3::i4::i5::i6::i7::i8::i9::E1::E2::E3::E4::E5::E6::E7::E8::E9::F0::F1::F2::F3::F4::F5::F6::F7::F8::F9::G0::G1::G2::G3::G4::G5::G6::G7::G8::G9::H0::H1::H8::H9::I0::I1::I2::I3::I4::I5::I6::I7::I8::I9::J0::J1::J2::J3::J4::J5::J6::J7::J8::J9::K0::K1::K2::K3::K4::K5::K6::K7::K8::K9::L0::L1::L2::L3::L4::L5::L6::L7::L8::L9::M0::M1::M2::j0::j1::j2::j3::j4::j5::j6::j7::j8::j9::k0::k1::k2::[]),[]⟩ wr:=by
 conv=>arg 2;arg 1;whnf
 go_loopw [17] (λe2 wr=>∃m:Nat,1<=m/\m<=4/\e2=.int .i64 (m:Int)/\(∃s X,mvR D na x nb y i j m z2=(X,0)/\smT X/\TW wr w.heap.size g n1 n2 D.n r s X/\X i j=V)/\wr.rowIs vs 9 D.n (λp=>.string (V p))/\BxM wr mb D (.slice a D.n cp)/\Below w.heap.size w wr) (λe2 _=>4-(intOf e2).toNat)
 case atStart=>exact⟨1,nlr,by omega,rfl,⟨s,X,d9.o,d1.o,d2.o,o.o⟩,d3.o,d0.o,l.o⟩
 obtain⟨m,N3,N4,rfl,⟨s,X,D0,D7,D8,E0⟩,D9,D2,D1⟩:=hrel;clear d2 d9 d1 o d3 d0 l;have d2:=qh D8;clear D8;have d9:=qh D0;clear D0;have d1:=qh D7;clear D7;have o:=qh E0;clear E0;have d3:=qh D9;clear D9;have d0:=qh D2;clear D2;have l:=qh D1;clear D1;have N5:IntKind.i64.wrap ((i:Int)+1)=(i:Int)+1:=by rw[IntKind.wrap_i64];omega
 have N6:IntKind.i64.wrap ((j:Int)+1)=(j:Int)+1:=by rw[IntKind.wrap_i64];omega
 have N1:IntKind.i64.wrap (i:Int)=(i:Int):=by rw[IntKind.wrap_i64];omega
 have N2:IntKind.i64.wrap (j:Int)=(j:Int):=by rw[IntKind.wrap_i64];omega
 have M9:i<=na:=by have:=o8.o;omega
 have N0:j<=nb:=by have:=o9.o;omega
 change Code.wp prog kLG _ _ _;rw[<-Xo];obtain⟨XX,e4⟩:=exq<|kB;rw[<-e4];replace e4:=qh e4
 conv=>arg 2;arg 1;whnf
 conv=>arg 2;arg 2;arg 1;arg 2;whnf
 conv=>arg 2;arg 2;arg 1;arg 2;arg 2;whnf
 conv=>arg 2;arg 2;arg 1;arg 2;arg 2;arg 2;whnf
 conv=>arg 2;arg 2;arg 1;arg 2;arg 2;arg 2;arg 2;whnf
 conv=>arg 2;arg 2;arg 1;arg 2;arg 2;arg 2;arg 2;arg 2;whnf
 conv=>arg 2;arg 2;arg 1;arg 2;arg 2;arg 2;arg 2;arg 2;arg 2;whnf
 conv=>arg 2;arg 2;arg 2;whnf
 rcases (show m=1\/m=2\/m=3\/m=4 by omega) with rfl|rfl|rfl|rfl
 ·skip
  have f0:bits .and .i64 (1:Int) 1=1:=by decide +kernel
  have d5:mvR D na x nb y i j 2 z2=kR D na x nb y i j 1 0 (mvR D na x nb y i j 1 z2):=rfl;rw[d9.o]at d5;have z:=qh d5;clear d5;by_cases f8:na<i+1
  ·have c:=z.o.trans<|ifp (.inr (.inl f8));have d4:=qh c;clear c;have f1:decide ((na:Int)<((i:Int)+1))=true:=by simp;omega
   have f2:(na:Int)<((i:Int)+1):=by omega
   go_wp2;go_roundw
   case rel=>exact⟨2,by omega,by omega,by go_num,⟨s,X,d4.o,d1.o,d2.o,o.o⟩,d3.o,d0.o,l.o⟩
   simp[intOf]
  have f1:decide ((na:Int)<((i:Int)+1))=false:=by simp;omega
  have f2:¬((na:Int)<((i:Int)+1)):=by omega
  by_cases f9:nb<j+0
  ·have c:=z.o.trans<|ifp (.inr (.inr f9));have d4:=qh c;clear c;have f3:decide ((nb:Int)<(j:Int))=true:=by simp;omega
   have f4:(nb:Int)<(j:Int):=by omega
   go_wp2;go_roundw
   case rel=>exact⟨2,by omega,by omega,by go_num,⟨s,X,d4.o,d1.o,d2.o,o.o⟩,d3.o,d0.o,l.o⟩
   simp[intOf]
  have f3:decide ((nb:Int)<(j:Int))=false:=by simp;omega
  have f4:¬((nb:Int)<(j:Int)):=by omega
  have f5:i+1<n1:=by have:=o8.o;omega
  have f7:j+0<n2:=by have:=o9.o;omega
  obtain rfl:=C4.o (by omega);have q7:=(l.o.cell (p:=(Ad bx (ox+i))) (C6.o (by omega)).1).trans (C7.o i (by omega));have D4:(i:Int)<(na:Int):=by omega
  have D3:(0:Int)<=(i:Int):=by omega
  obtain⟨xi,e0⟩:=exq<|x i;rw[<-e0]at q7;have p8:=qh e0;clear e0;have d8:kR D na x nb y i j 1 0 (X,0)=if (Ak D xi 0 V D.n (zerR D.kind,0)).2≠0 then (X,(Ak D xi 0 V D.n (zerR D.kind,0)).2) else if (sumR D.kind (X (i+1) (j+0)) (Ak D xi 0 V D.n (zerR D.kind,0)).1 D.n).2≠0 then (X,(sumR D.kind (X (i+1) (j+0)) (Ak D xi 0 V D.n (zerR D.kind,0)).1 D.n).2) else (updT X (i+1) (j+0) (sumR D.kind (X (i+1) (j+0)) (Ak D xi 0 V D.n (zerR D.kind,0)).1 D.n).1,0):=by
   unfold kR;rw[ifn (show ¬((0:Nat)≠0\/na<i+1\/nb<j+0) by omega)];rw[p8.o];rw[<-o.o];rfl
  have e7:=qh d8;clear d8
  go_wp2_with fail
  rw[e4.o];refine kmove (u:=1) (v:=0) HV p6 p7 r2 q9 r0 r3 r4 f5 f7 (by omega) e7 o d1 d2 d3 d0 l (qh ?xd) (qh ?xa) (qh ?xh)
  case xd=>exact λe a d v w h=>e8.o e a d v w h
  case xa =>
   intro d6 d7 A B C F G H I J K L N O P Q R S T U Y Z a1 a2 a3 a4 a5 a6 a7 a8 a9 b0 b1 b2 b3 b4 b5 b6 b7 b8 b9 c7 c8 c9 w2 s2 X2 h1 h2 h3 h4 h5 h6 h7;have e6:=qh<|z.o.trans h1;clear h1;have H2:=qh h2;clear h2;have H3:=qh h3;clear h3;have H4:=qh h4;clear h4;have H5:=qh h5;clear h5;have H6:=qh h6;clear h6;have H7:=qh h7;clear h7;go_wp2;go_roundw
   case rel=>exact⟨2,by omega,by omega,by go_num,⟨s2,X2,e6.o,H2.o,H3.o,H4.o⟩,H5.o,H6.o,H7.o⟩
   simp[intOf]
  case xh =>
   intro d6 d7 A B C F G H I J K L N O P Q R S T U Y Z a1 a2 a3 a4 a5 a6 a7 a8 a9 b0 b1 b2 b3 b4 b5 b6 b7 b8 b9 c7 c8 c9 w2 e h1 h2 h3;have hw:=e5.o 2 e (by omega) (by rw[z.o];exact h1) h2;exact e9.o _ _ _ _ _ _ _ _ _ _ _ _ _ _ _ _ _ _ _ _ _ _ _ _ _ _ _ _ _ _ _ _ _ _ _ _ _ _ _ _ _ _ _ _ _ _ _ _ _ _ _ _ _ _ _ _ _ _ _ _ _ _ _ _ _ _ _ _ _ _ _ _ _ _ _ _ _ _ _ _ _ _ _ _ _ hw h3
 ·skip
  have f0:bits .and .i64 (2:Int) 1=0:=by decide +kernel
  have d5:mvR D na x nb y i j 3 z2=kR D na x nb y i j 0 1 (mvR D na x nb y i j 2 z2):=rfl;rw[d9.o]at d5;have z:=qh d5;clear d5;by_cases f8:na<i+0
  ·have c:=z.o.trans<|ifp (.inr (.inl f8));have d4:=qh c;clear c;have f1:decide ((na:Int)<(i:Int))=true:=by simp;omega
   have f2:(na:Int)<(i:Int):=by omega
   go_wp2;go_roundw
   case rel=>exact⟨3,by omega,by omega,by go_num,⟨s,X,d4.o,d1.o,d2.o,o.o⟩,d3.o,d0.o,l.o⟩
   simp[intOf]
  have f1:decide ((na:Int)<(i:Int))=false:=by simp;omega
  have f2:¬((na:Int)<(i:Int)):=by omega
  by_cases f9:nb<j+1
  ·have c:=z.o.trans<|ifp (.inr (.inr f9));have d4:=qh c;clear c;have f3:decide ((nb:Int)<((j:Int)+1))=true:=by simp;omega
   have f4:(nb:Int)<((j:Int)+1):=by omega
   go_wp2;go_roundw
   case rel=>exact⟨3,by omega,by omega,by go_num,⟨s,X,d4.o,d1.o,d2.o,o.o⟩,d3.o,d0.o,l.o⟩
   simp[intOf]
  have f3:decide ((nb:Int)<((j:Int)+1))=false:=by simp;omega
  have f4:¬((nb:Int)<((j:Int)+1)):=by omega
  have f5:i+0<n1:=by have:=o8.o;omega
  have f7:j+1<n2:=by have:=o9.o;omega
  obtain rfl:=C5.o (by omega);have q8:=(l.o.cell (p:=(Ad e3 (oy+j))) (C8.o (by omega)).1).trans (C9.o j (by omega));have D6:(j:Int)<(nb:Int):=by omega
  have D5:(0:Int)<=(j:Int):=by omega
  obtain⟨yj,e1⟩:=exq<|y j;rw[<-e1]at q8;have p9:=qh e1;clear e1;have d8:kR D na x nb y i j 0 1 (X,0)=if (Ak D 0 yj V D.n (zerR D.kind,0)).2≠0 then (X,(Ak D 0 yj V D.n (zerR D.kind,0)).2) else if (sumR D.kind (X (i+0) (j+1)) (Ak D 0 yj V D.n (zerR D.kind,0)).1 D.n).2≠0 then (X,(sumR D.kind (X (i+0) (j+1)) (Ak D 0 yj V D.n (zerR D.kind,0)).1 D.n).2) else (updT X (i+0) (j+1) (sumR D.kind (X (i+0) (j+1)) (Ak D 0 yj V D.n (zerR D.kind,0)).1 D.n).1,0):=by
   unfold kR;rw[ifn (show ¬((0:Nat)≠0\/na<i+0\/nb<j+1) by omega)];rw[p9.o];rw[<-o.o];rfl
  have e7:=qh d8;clear d8
  go_wp2_with fail
  rw[e4.o];refine kmove (u:=0) (v:=1) HV p6 p7 r2 q9 r0 r3 r4 f5 f7 (by omega) e7 o d1 d2 d3 d0 l (qh ?xf) (qh ?xb) (qh ?xj)
  case xf=>exact λe a d v w h=>e8.o e a d v w h
  case xb =>
   intro d6 d7 A B C F G H I J K L N O P Q R S T U Y Z a1 a2 a3 a4 a5 a6 a7 a8 a9 b0 b1 b2 b3 b4 b5 b6 b7 b8 b9 c7 c8 c9 w2 s2 X2 h1 h2 h3 h4 h5 h6 h7;have e6:=qh<|z.o.trans h1;clear h1;have H2:=qh h2;clear h2;have H3:=qh h3;clear h3;have H4:=qh h4;clear h4;have H5:=qh h5;clear h5;have H6:=qh h6;clear h6;have H7:=qh h7;clear h7;go_wp2;go_roundw
   case rel=>exact⟨3,by omega,by omega,by go_num,⟨s2,X2,e6.o,H2.o,H3.o,H4.o⟩,H5.o,H6.o,H7.o⟩
   simp[intOf]
  case xj =>
   intro d6 d7 A B C F G H I J K L N O P Q R S T U Y Z a1 a2 a3 a4 a5 a6 a7 a8 a9 b0 b1 b2 b3 b4 b5 b6 b7 b8 b9 c7 c8 c9 w2 e h1 h2 h3;have hw:=e5.o 3 e (by omega) (by rw[z.o];exact h1) h2;exact e9.o _ _ _ _ _ _ _ _ _ _ _ _ _ _ _ _ _ _ _ _ _ _ _ _ _ _ _ _ _ _ _ _ _ _ _ _ _ _ _ _ _ _ _ _ _ _ _ _ _ _ _ _ _ _ _ _ _ _ _ _ _ _ _ _ _ _ _ _ _ _ _ _ _ _ _ _ _ _ _ _ _ _ _ _ _ hw h3
 ·skip
  have f0:bits .and .i64 (3:Int) 1=1:=by decide +kernel
  have d5:mvR D na x nb y i j 4 z2=kR D na x nb y i j 1 1 (mvR D na x nb y i j 3 z2):=rfl;rw[d9.o]at d5;have z:=qh d5;clear d5;by_cases f8:na<i+1
  ·have c:=z.o.trans<|ifp (.inr (.inl f8));have d4:=qh c;clear c;have f1:decide ((na:Int)<((i:Int)+1))=true:=by simp;omega
   have f2:(na:Int)<((i:Int)+1):=by omega
   go_wp2;go_roundw
   case rel=>exact⟨4,by omega,by omega,by go_num,⟨s,X,d4.o,d1.o,d2.o,o.o⟩,d3.o,d0.o,l.o⟩
   simp[intOf]
  have f1:decide ((na:Int)<((i:Int)+1))=false:=by simp;omega
  have f2:¬((na:Int)<((i:Int)+1)):=by omega
  by_cases f9:nb<j+1
  ·have c:=z.o.trans<|ifp (.inr (.inr f9));have d4:=qh c;clear c;have f3:decide ((nb:Int)<((j:Int)+1))=true:=by simp;omega
   have f4:(nb:Int)<((j:Int)+1):=by omega
   go_wp2;go_roundw
   case rel=>exact⟨4,by omega,by omega,by go_num,⟨s,X,d4.o,d1.o,d2.o,o.o⟩,d3.o,d0.o,l.o⟩
   simp[intOf]
  have f3:decide ((nb:Int)<((j:Int)+1))=false:=by simp;omega
  have f4:¬((nb:Int)<((j:Int)+1)):=by omega
  have f5:i+1<n1:=by have:=o8.o;omega
  have f7:j+1<n2:=by have:=o9.o;omega
  obtain rfl:=C4.o (by omega);have q7:=(l.o.cell (p:=(Ad bx (ox+i))) (C6.o (by omega)).1).trans (C7.o i (by omega));have D4:(i:Int)<(na:Int):=by omega
  have D3:(0:Int)<=(i:Int):=by omega
  obtain⟨xi,e0⟩:=exq<|x i;rw[<-e0]at q7;have p8:=qh e0;clear e0;obtain rfl:=C5.o (by omega);have q8:=(l.o.cell (p:=(Ad e3 (oy+j))) (C8.o (by omega)).1).trans (C9.o j (by omega));have D6:(j:Int)<(nb:Int):=by omega
  have D5:(0:Int)<=(j:Int):=by omega
  obtain⟨yj,e1⟩:=exq<|y j;rw[<-e1]at q8;have p9:=qh e1;clear e1;have d8:kR D na x nb y i j 1 1 (X,0)=if (Ak D xi yj V D.n (zerR D.kind,0)).2≠0 then (X,(Ak D xi yj V D.n (zerR D.kind,0)).2) else if (sumR D.kind (X (i+1) (j+1)) (Ak D xi yj V D.n (zerR D.kind,0)).1 D.n).2≠0 then (X,(sumR D.kind (X (i+1) (j+1)) (Ak D xi yj V D.n (zerR D.kind,0)).1 D.n).2) else (updT X (i+1) (j+1) (sumR D.kind (X (i+1) (j+1)) (Ak D xi yj V D.n (zerR D.kind,0)).1 D.n).1,0):=by
   unfold kR;rw[ifn (show ¬((0:Nat)≠0\/na<i+1\/nb<j+1) by omega)];rw[p8.o];rw[p9.o];rw[<-o.o];rfl
  have e7:=qh d8;clear d8
  go_wp2_with fail
  rw[e4.o];refine kmove (u:=1) (v:=1) HV p6 p7 r2 q9 r0 r3 r4 f5 f7 (by omega) e7 o d1 d2 d3 d0 l (qh ?xg) (qh ?xc) (qh ?xk)
  case xg=>exact λe a d v w h=>e8.o e a d v w h
  case xc =>
   intro d6 d7 A B C F G H I J K L N O P Q R S T U Y Z a1 a2 a3 a4 a5 a6 a7 a8 a9 b0 b1 b2 b3 b4 b5 b6 b7 b8 b9 c7 c8 c9 w2 s2 X2 h1 h2 h3 h4 h5 h6 h7;have e6:=qh<|z.o.trans h1;clear h1;have H2:=qh h2;clear h2;have H3:=qh h3;clear h3;have H4:=qh h4;clear h4;have H5:=qh h5;clear h5;have H6:=qh h6;clear h6;have H7:=qh h7;clear h7;go_wp2;go_roundw
   case rel=>exact⟨4,by omega,by omega,by go_num,⟨s2,X2,e6.o,H2.o,H3.o,H4.o⟩,H5.o,H6.o,H7.o⟩
   simp[intOf]
  case xk =>
   intro d6 d7 A B C F G H I J K L N O P Q R S T U Y Z a1 a2 a3 a4 a5 a6 a7 a8 a9 b0 b1 b2 b3 b4 b5 b6 b7 b8 b9 c7 c8 c9 w2 e h1 h2 h3;have hw:=e5.o 4 e (by omega) (by rw[z.o];exact h1) h2;exact e9.o _ _ _ _ _ _ _ _ _ _ _ _ _ _ _ _ _ _ _ _ _ _ _ _ _ _ _ _ _ _ _ _ _ _ _ _ _ _ _ _ _ _ _ _ _ _ _ _ _ _ _ _ _ _ _ _ _ _ _ _ _ _ _ _ _ _ _ _ _ _ _ _ _ _ _ _ _ _ _ _ _ _ _ _ _ hw h3
 go_wp2_with fail
 exact p0.o _ _ _ _ _ _ _ _ _ _ _ _ _ _ _ _ _ _ _ _ _ _ _ _ _ _ _ _ _ _ _ _ _ _ _ _ _ _ _ _ _ _ _ _ _ _ _ _ _ _ _ _ _ _ _ _ _ _ _ _ _ _ _ _ _ _ _ _ _ _ _ _ _ _ _ _ _ _ _ _ _ _ _ _ _ _ _ _ d9.o d1.o d2.o d0.o l.o
end
end Go.Proofs.YteappjogmnogcaaGreatDoor
