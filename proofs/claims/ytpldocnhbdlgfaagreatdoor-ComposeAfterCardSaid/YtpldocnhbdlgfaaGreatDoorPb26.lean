/- Parts. -/
import Derived.Test.YtpldocnhbdlgfaaGreatDoorPb21
import Derived.Test.YtpldocnhbdlgfaaGreatDoorPb24
namespace Go.Proofs.YtpldocnhbdlgfaaGreatDoor
set_option maxRecDepth 100000
set_option linter.all false
set_option maxHeartbeats 16000000
open Go Tryz
section
open Go.RowKit Go.Deep
def seqQ:Nat->Code->Code
 |n+1,.seq _ b=>seqQ n b
 |_,c=>c
def Oa:Nat->Code->Code->Code
 |0,_,x=>x
 |n+1,.seq a b,x=>.seq a (Oa n b x)
 |_,c,_=>c
def fstQ:Code->Code
 | .seq a _=>a
 |c=>c
def sndQ:Code->Code
 | .seq _ b=>b
 |c=>c
def blkQ(n:Nat):Code->Option Code
 | .block m c=>if m==n then some c else blkQ n c
 | .seq a b=>(blkQ n a).or (blkQ n b)
 | .cond _ a b=>(blkQ n a).or (blkQ n b)
 | .loop c=>blkQ n c
 | .scope c=>blkQ n c
 |_=>none
def Ug:Code->Code
 | .loop c=>c
 |_=>.skip
noncomputable def w8B(n:Nat):Code:=(((f28).body.bind (blkQ n)).getD .skip)
noncomputable def kB:Code:=seqQ 5 (w8B 9)
set_option maxRecDepth 1000000 in
theorem kmove{D:MD}{na nb:Nat}{x y:Nat->Int}{w wr:World}{mb g n1 n2 i j u v vs cp cx cy:Nat}{a ax ay:Option Addr}{r:Nat->Nat}{s:Nat->Nat->Nat}{X:TbR}{V:Nat->ByteArray}{a1 b1:Int}{Q0:Exit->Act->World->Prop}{u0 u4 u5 u6 u7 u8 u9 s7 s8 s9 t7 J9 K0 t8 t9 v0 v2 v3 v4 v5 v6 v7 v8 v9 w0 w1 w2 w3 w4 w8 w9 x0 x1 x2 x3 x4 x5 x6 x7 x8 x9 y0 y1 y2 y3 y4 y5 y6 y7 y8 y9 z1 z2 z3 z4 z5 z6 z7 z8 z9 A0 A1 A2 A3 A4 A5 A6 A7 A8 A9 B0 B1 B2 B3 B4 B5 B6 B7 B8 B9 C0 C1 C2 C3 C4 C5 C6 C7 C8 a6 a7 a8 a9 b0 b2 b3 b4 b5 b6 b7 b8 b9 d0 d1 d2 d3 d4 d5 d6 d7 d8 d9 e0 e1 e2 e3 e4 e5 e6 e7 e8 e9 f0 f1 f2 f3 f4 f5 f7 f8 f9 g0 g1 g2 g3 g4 g5 g6 g7 g8 g9 h0 h3 h4 E6 E7 E8 E9 F0 F1 F2 F3 F4 F5 F6 F7 F8 F9 G0 G1 G2 G3 G4 G5 G6 G7 G8 G9 H0 H1 H2 H3 H4 H5 H6 H7 H8 H9 I0 I1 I2 I3 I4 I5 I6 I7 h5 h6 h7 h8 h9 i2 i3 i4 i5 i6 i7 i8 i9:Value}
  (HV:Hd (VM D)) (I9:Hd (∀W,Below w.heap.size w W->StS none W (.slice a D.n cp) D)) (J0:Hd (MSz D)) (J4:D.n<=3000) (K6:n1<=201) (K7:n2<=201) (L0:i<n1) (L1:j<n2) (I:i+u<n1) (s3:j+v<n2) (L2:0<u+v)
  (D2:Hd (kR D na x nb y i j u v (X,0)=if (Ax D a1 b1 V D.n (zerR D.kind,0)).2≠0 then (X,(Ax D a1 b1 V D.n (zerR D.kind,0)).2) else if (sumR D.kind (X (i+u) (j+v)) (Ax D a1 b1 V D.n (zerR D.kind,0)).1 D.n).2≠0 then (X,(sumR D.kind (X (i+u) (j+v)) (Ax D a1 b1 V D.n (zerR D.kind,0)).1 D.n).2) else (updT X (i+u) (j+v) (sumR D.kind (X (i+u) (j+v)) (Ax D a1 b1 V D.n (zerR D.kind,0)).1 D.n).1,0)))
  (D8:Hd (X i j=V)) (r4:Hd (smT X)) (B:Hd (TW wr w.heap.size g n1 n2 D.n r s X)) (r5:Hd (wr.rowIs vs 9 D.n (λp=>.string (V p)))) (L:Hd (BxM wr mb D (.slice a D.n cp))) (p0:Hd (Below w.heap.size w wr))
  (l:Hd (∀(e:List PanicEntry) (a:Act) (d:Option Tmp) (v:Value) (w':World),Q0 (.panic e) (a.put d v) w'->Q0 (.panic e) a w'))
  (r0:Hd (∀(C9 D0 j0 j1 j2 j3 j4 j5 j6 j7 j8 j9 k0 k4 k5 k6 k7 k9 l0 l1 l2 l3 l4 l5 l6 l7 l8 l9 m4 m5 m7 m8 m9 n5 n6 n7 n9 o2 o3 o4 o5 o6 o7 o8:Value) (w':World) (s':Nat->Nat->Nat) (X':TbR),kR D na x nb y i j u v (X,0)=(X',0)->smT X'->TW w' w.heap.size g n1 n2 D.n r s' X'->X' i j=V->w'.rowIs vs 9 D.n (λp=>.string (V p))->BxM w' mb D (.slice a D.n cp)->Below w.heap.size w w'->Q0 .normal ⟨List.toArray (u0::.slice ax na cx::.slice ay nb cy::.pointer (some ⟨mb,0,none⟩)::u4::u5::u6::u7::u8::u9::.slice (some ⟨g,0,none⟩) n1 n1::s7::s8::.int .i64 (i:Int)::.int .i64 (j:Int)::.slice (some ⟨vs,0,none⟩) D.n D.n::s9::t7::.int .i64 (u:Int)::.int .i64 (v:Int)::.int .i64 a1::.int .i64 b1::C9::D0::t8::t9::v0::v2::v3::v4::v5::v6::v7::v8::v9::w0::w1::w2::w3::w4::w8::w9::x0::x1::x2::x3::x4::x5::x6::x7::x8::x9::y0::y1::y2::y3::y4::y5::y6::y7::y8::y9::z1::z2::z3::z4::z5::z6::z7::z8::z9::A0::A1::A2::A3::A4::A5::A6::A7::A8::A9::B0::B1::B2::B3::B4::B5::B6::B7::B8::B9::C0::C1::C2::C3::C4::C5::C6::C7::C8::a6::a7::a8::a9::b0::b2::b3::b4::b5::b6::b7::b8::b9::d0::d1::d2::d3::d4::d5::d6::d7::d8::d9::e0::e1::e2::e3::e4::e5::e6::e7::e8::e9::f0::f1::f2::f3::f4::f5::f7::f8::f9::g0::g1::g2::g3::g4::g5::g6::g7::g8::g9::h0::h3::h4::j0::j1::j2::j3::j4::j5::j6::j7::j8::j9::k0::k4::k5::k6::k7::k9::l0::l1::l2::l3::l4::l5::l6::l7::l8::l9::m4::m5::m7::m8::m9::n5::n6::n7::n9::o2::o3::o4::o5::o6::o7::o8::h5::h6::h7::h8::h9::i2::i3::i4::i5::i6::i7::i8::i9::[]),[]⟩ w'))
  (p9:Hd (∀(C9 D0 j0 j1 j2 j3 j4 j5 j6 j7 j8 j9 k0 k4 k5 k6 k7 k9 l0 l1 l2 l3 l4 l5 l6 l7 l8 l9 m4 m5 m7 m8 m9 n5 n6 n7 n9 o2 o3 o4 o5 o6 o7 o8:Value) (w':World) (e:Nat),(kR D na x nb y i j u v (X,0)).2=e->e≠0->Below w.heap.size w w'->Q0 .ret ⟨List.toArray (u0::.slice ax na cx::.slice ay nb cy::.pointer (some ⟨mb,0,none⟩)::u4::u5::.string ⟨#[]⟩::.int .i64 (e:Int)::u8::u9::.slice (some ⟨g,0,none⟩) n1 n1::s7::s8::.int .i64 (i:Int)::.int .i64 (j:Int)::.slice (some ⟨vs,0,none⟩) D.n D.n::s9::t7::.int .i64 (u:Int)::.int .i64 (v:Int)::.int .i64 a1::.int .i64 b1::C9::D0::t8::t9::v0::v2::v3::v4::v5::v6::v7::v8::v9::w0::w1::w2::w3::w4::w8::w9::x0::x1::x2::x3::x4::x5::x6::x7::x8::x9::y0::y1::y2::y3::y4::y5::y6::y7::y8::y9::z1::z2::z3::z4::z5::z6::z7::z8::z9::A0::A1::A2::A3::A4::A5::A6::A7::A8::A9::B0::B1::B2::B3::B4::B5::B6::B7::B8::B9::C0::C1::C2::C3::C4::C5::C6::C7::C8::a6::a7::a8::a9::b0::b2::b3::b4::b5::b6::b7::b8::b9::d0::d1::d2::d3::d4::d5::d6::d7::d8::d9::e0::e1::e2::e3::e4::e5::e6::e7::e8::e9::f0::f1::f2::f3::f4::f5::f7::f8::f9::g0::g1::g2::g3::g4::g5::g6::g7::g8::g9::h0::h3::h4::j0::j1::j2::j3::j4::j5::j6::j7::j8::j9::k0::k4::k5::k6::k7::k9::l0::l1::l2::l3::l4::l5::l6::l7::l8::l9::m4::m5::m7::m8::m9::n5::n6::n7::n9::o2::o3::o4::o5::o6::o7::o8::h5::h6::h7::h8::h9::i2::i3::i4::i5::i6::i7::i8::i9::[]),[]⟩ w')) :
  Code.wp prog kB Q0 ⟨List.toArray (u0::.slice ax na cx::.slice ay nb cy::.pointer (some ⟨mb,0,none⟩)::u4::u5::u6::u7::u8::u9::.slice (some ⟨g,0,none⟩) n1 n1::s7::s8::.int .i64 (i:Int)::.int .i64 (j:Int)::.slice (some ⟨vs,0,none⟩) D.n D.n::s9::t7::.int .i64 (u:Int)::.int .i64 (v:Int)::.int .i64 a1::.int .i64 b1::J9::K0::t8::t9::v0::v2::v3::v4::v5::v6::v7::v8::v9::w0::w1::w2::w3::w4::w8::w9::x0::x1::x2::x3::x4::x5::x6::x7::x8::x9::y0::y1::y2::y3::y4::y5::y6::y7::y8::y9::z1::z2::z3::z4::z5::z6::z7::z8::z9::A0::A1::A2::A3::A4::A5::A6::A7::A8::A9::B0::B1::B2::B3::B4::B5::B6::B7::B8::B9::C0::C1::C2::C3::C4::C5::C6::C7::C8::a6::a7::a8::a9::b0::b2::b3::b4::b5::b6::b7::b8::b9::d0::d1::d2::d3::d4::d5::d6::d7::d8::d9::e0::e1::e2::e3::e4::e5::e6::e7::e8::e9::f0::f1::f2::f3::f4::f5::f7::f8::f9::g0::g1::g2::g3::g4::g5::g6::g7::g8::g9::h0::h3::h4::E6::E7::E8::E9::F0::F1::F2::F3::F4::F5::F6::F7::F8::F9::G0::G1::G2::G3::G4::G5::G6::G7::G8::G9::H0::H1::H2::H3::H4::H5::H6::H7::H8::H9::I0::I1::I2::I3::I4::I5::I6::I7::h5::h6::h7::h8::h9::i2::i3::i4::i5::i6::i7::i8::i9::[]),[]⟩ wr:=by
 conv=>arg 2;whnf
 have L3:IntKind.i64.wrap ((i:Int)+(u:Int))=((i:Int)+(u:Int)):=by rw[IntKind.wrap_i64];omega
 have L4:IntKind.i64.wrap ((j:Int)+(v:Int))=((j:Int)+(v:Int)):=by rw[IntKind.wrap_i64];omega
 have K8:((i:Int)+(u:Int))<(n1:Int):=by omega
 have K9:((j:Int)+(v:Int))<(n2:Int):=by omega
 have K1:(0:Int)<=((i:Int)+(u:Int)):=by omega
 have K3:(0:Int)<=((j:Int)+(v:Int)):=by omega
 have K2:((i:Int)+(u:Int)).toNat=i+u:=by omega
 have K4:((j:Int)+(v:Int)).toNat=j+v:=by omega
 obtain⟨z,hz⟩:=exq<|Ax D a1 b1 V D.n (zerR D.kind,0);have s6:∀p,smS (z.1 p):=by rw[hz];exact KR D.n (λ_=>Ej _)
 have a4:=Xr (i:=a1) (o:=b1) wr HV.o (I9.o wr p0.o) r5.o (λp=>by rw[<-D8.o];exact r4.o i j p) (λq k=>by have:=J0.o.aw q k;unfold smS;unfold maxLen at this;omega);rw[<-hz]at a4;have D4:=qh a4;clear a4;have r9:=D2.o;rw[<-hz]at r9;have r2:=qh r9;clear r9 D2 hz;replace s6:=qh s6;have m0:=cellOf L.o 0 rfl;have m1:=cellOf L.o 1 rfl;have m2:=cellOf L.o 2 rfl;have m3:=cellOf L.o 3 rfl
 go_wp2_with fail
 refine D4.o.mono ?_;rintro rr w5⟨r8,J5⟩;have Q:=qh<|Fr.of_below (C:=λ_=>False) r8;have P:=qh<|p0.o.trans (r8.mono p0.o.size);clear r8 D4 m0 m1 m2 m3
 rcases J5 with⟨U,gv,rfl,J2,q7⟩|⟨U,rfl⟩
 rotate_left
 ·have E5:¬((z.2:Int)=0):=by omega
  have J7:((z.2:Int)==0)=false:=by simp;omega
  have J8:decide ((z.2:Int)=0)=false:=by simp;omega
  have hw:(kR D na x nb y i j u v (X,0)).2=z.2:=by rw[r2.o,ifp U]
  have HW:=qh hw;clear hw;have E0:=qh U;clear U
  go_wp2_with fail
  exact p9.o _ _ _ _ _ _ _ _ _ _ _ _ _ _ _ _ _ _ _ _ _ _ _ _ _ _ _ _ _ _ _ _ _ _ _ _ _ _ _ _ _ _ _ _ _ _ HW.o E0.o P.o
 have r3:=qh<|r2.o.trans (ifn (by omega));clear r2;have E0:=qh U;have D3:=qh q7;have K5:=qh (show w.heap.size<=gv by have:=p0.o.size;omega);have L5:(z.2:Int)=0:=by omega
 clear U q7 J2;obtain⟨z',p8⟩:=exq<|sumR D.kind (X (i+u) (j+v)) z.1 D.n;have a5:∀p,smS (z'.1 p):=by rw[p8];exact Pu _
 obtain⟨G,F⟩:=exq<|r (i+u);obtain⟨sq,s4⟩:=exq<|s (i+u) (j+v);have q9:∀W,Fr (λ_=>False) w5 W->Calls prog 66 #[.int .i64 D.kind,.slice (some ⟨sq,0,none⟩) D.n D.n,.slice (some ⟨gv,0,none⟩) D.n D.n] W (VerE D.n z' W):=λW hf=>by
  rw[p8,s4];exact XA W J4 ((B.o.new (Q.o.trans hf)).vec _ _ I s3) (hf.row D3.o (λe=>e)) (λp=>r4.o _ _ p) s6.o
 have D5:=qh q9;clear q9;rw[<-p8]at r3;have p7:∀W,Fr (λ_=>False) w5 W->(λwk:World=>wk.cell? (Ad g (i+u))=some (.slice (some ⟨G,0,none⟩) n2 n2)/\wk.cell? (Ad mb 0)=some (.int .i64 D.kind)) W:=λW hf=>⟨by rw[F];exact(B.o.new (Q.o.trans hf)).top.cell I,cellOf (L.o.kept (Q.o.trans hf) (λe=>e)) 0 rfl⟩;replace p7:=qh p7;have Y:∀W,Fr (λ_=>False) w5 W->W.cell? (Ad G (j+v))=some (.slice (some ⟨sq,0,none⟩) D.n D.n)/\W.frozen? (Ad G (j+v))=false:=λW hf=>by
  have h1:=((B.o.new (Q.o.trans hf)).mid _ I).1;rw[F,s4];exact⟨h1.cell s3,h1.frozen _⟩
 replace Y:=qh Y;replace F:=qh F;replace a5:=qh a5;clear s4 p8;obtain⟨wd,s5⟩:=exq<|w5.drew;have p6:=qh (show Fr (λ_=>False) w5 wd by rw[s5];exact Fr.of_below ((Below.refl w5.heap.size w5).drew))
 go_wp2_with fail
 have m:=p7.o wd p6.o;refine AC (λwk:World=>wk.cell? (Ad g (i+u))=some (.slice (some ⟨G,0,none⟩) n2 n2)/\wk.cell? (Ad mb 0)=some (.int .i64 D.kind)) 29 (by kernel_rfl) ?_;rw[<-s5];clear s5;refine Aa.tm 0 m ?_ (hQ:=λ_ _ _ h=>l.o _ _ _ _ _ h);refine Aa.tm 1 m ?_ (hQ:=λ_ _ _ h=>l.o _ _ _ _ _ h);refine Aa.tm 2 m ?_ (hQ:=λ_ _ _ h=>l.o _ _ _ _ _ h);refine Aa.tm 3 m ?_ (hQ:=λ_ _ _ h=>l.o _ _ _ _ _ h);refine Aa.tm 4 m ?_ (hQ:=λ_ _ _ h=>l.o _ _ _ _ _ h);refine Aa.tm 5 m ?_ (hQ:=λ_ _ _ h=>l.o _ _ _ _ _ h);refine Aa.tm 6 m ?_ (hQ:=λ_ _ _ h=>l.o _ _ _ _ _ h);refine Aa.tm 7 m ?_ (hQ:=λ_ _ _ h=>l.o _ _ _ _ _ h);refine Aa.tm 8 m ?_ (hQ:=λ_ _ _ h=>l.o _ _ _ _ _ h);refine Aa.tm 9 m ?_ (hQ:=λ_ _ _ h=>l.o _ _ _ _ _ h);refine Aa.tm 10 m ?_ (hQ:=λ_ _ _ h=>l.o _ _ _ _ _ h);refine Aa.tm 11 m ?_ (hQ:=λ_ _ _ h=>l.o _ _ _ _ _ h);refine Aa.tm 12 m ?_ (hQ:=λ_ _ _ h=>l.o _ _ _ _ _ h);refine Aa.tm 13 m ?_ (hQ:=λ_ _ _ h=>l.o _ _ _ _ _ h);refine Aa.tm 14 m ?_ (hQ:=λ_ _ _ h=>l.o _ _ _ _ _ h);refine Aa.tm 15 m ?_ (hQ:=λ_ _ _ h=>l.o _ _ _ _ _ h);refine Aa.tm 16 m ?_ (hQ:=λ_ _ _ h=>l.o _ _ _ _ _ h);refine Aa.tm 17 m ?_ (hQ:=λ_ _ _ h=>l.o _ _ _ _ _ h);refine Aa.tm 18 m ?_ (hQ:=λ_ _ _ h=>l.o _ _ _ _ _ h);refine Aa.tm 19 m ?_ (hQ:=λ_ _ _ h=>l.o _ _ _ _ _ h);refine Aa.tm 20 m ?_ (hQ:=λ_ _ _ h=>l.o _ _ _ _ _ h)
 try simp only[Act.put,tryL]
 refine Aa.tm 22 m ?_ (hQ:=λ_ _ _ h=>l.o _ _ _ _ _ h)
 try simp only[Act.put,tryL]
 have J1:=(Y.o wd p6.o).1;refine Aa.on 21 λK E=>?_;go_simp;refine E.out _ _ (.inr m) ?_;clear E K J1
 try simp only[Act.put,tryL]
 refine Aa.on 23 λK E=>?_;go_simp;refine(D5.o wd p6.o).mono ?_;rintro rr w6⟨E2,J6⟩;have J:=qh<|p6.o.trans (Fr.of_below E2);have A:=p7.o w6 J.o;clear E2 m D5
 rcases J6 with⟨O,gw,rfl,J3,q8⟩|⟨O,rfl⟩
 rotate_left
 ·refine E.out _ _ (.inr A) ?_;clear E K
  try simp only[Act.put,tryL]
  refine Aa.on 24 λK E=>?_;go_simp;refine E.out _ _ (.inr A) ?_;clear E K
  try simp only[Act.put,tryL]
  refine Aa.tm 25 A ?_ (hQ:=λ_ _ _ h=>l.o _ _ _ _ _ h);refine Aa.tm 26 A ?_ (hQ:=λ_ _ _ h=>l.o _ _ _ _ _ h);refine Aa.tm 27 A ?_ (hQ:=λ_ _ _ h=>l.o _ _ _ _ _ h)
  try simp only[Act.put,tryL]
  obtain⟨r6,r7⟩:=Y.o w6 J.o;refine Aa.on 28 λK E=>?_;go_simp;have Z:w.heap.size<=G:=by rw[F.o];exact(B.o.mid _ I).2
  have a2:g≠G:=by rw[F.o];exact Ck B.o.top (B.o.mid _ I).1 (by decide)
  have T:mb≠G:=λe=>by
   obtain⟨c,h1,_⟩:=(B.o.mid _ I).1;have h2:=L.o;unfold BxM at h2;rw[e,F.o,h1]at h2;simp at h2
  have H:Fr (λc=>c=G) w6 (w6.setCell (Ad G (j+v)) (.slice none 0 0)):=(Fr.refl (λc=>c=G) w6).set (p:=(Ad G (j+v))) (.inl rfl) _;have S:(λwk:World=>wk.cell? (Ad g (i+u))=some (.slice (some ⟨G,0,none⟩) n2 n2)/\wk.cell? (Ad mb 0)=some (.int .i64 D.kind)) (w6.setCell (Ad G (j+v)) (.slice none 0 0)):=⟨H.cell A.1 a2,H.cell A.2 T⟩;have o9:=qh ((P.o.trans (J.o.below P.o.size (λ_ e=>e.elim))).trans (H.below (Nat.le_trans P.o.size J.o.size) (λc e=>by rw[e];exact Z)));obtain⟨w7,N⟩:=exq<|w6.setCell ⟨G,j+v,none⟩ (.slice none 0 0);rw[<-N]at S o9;rw[<-N];clear N H a2 T Z r6 r7;refine E.out _ _ (.inr S) ?_;clear E K
  try simp only[Act.put,tryL]
  refine Aa.on 29 λK E=>?_;go_simp;refine E.out _ _ (.inl rfl) (Aa.dn ?_);clear E K S;have E5:¬((z'.2:Int)=0):=by omega
  have J7:((z'.2:Int)==0)=false:=by simp;omega
  have J8:decide ((z'.2:Int)=0)=false:=by simp;omega
  have hw:(kR D na x nb y i j u v (X,0)).2=z'.2:=by rw[r3.o,ifp O]
  have HW:=qh hw;clear hw;have E1:=qh O;clear O
  go_wp2_with fail
  exact p9.o _ _ _ _ _ _ _ _ _ _ _ _ _ _ _ _ _ _ _ _ _ _ _ _ _ _ _ _ _ _ _ _ _ _ _ _ _ _ _ _ _ _ _ _ _ _ HW.o E1.o o9.o
 refine E.out _ _ (.inr A) ?_;clear E K
 try simp only[Act.put,tryL]
 refine Aa.on 24 λK E=>?_;go_simp;refine E.out _ _ (.inr A) ?_;clear E K
 try simp only[Act.put,tryL]
 refine Aa.tm 25 A ?_ (hQ:=λ_ _ _ h=>l.o _ _ _ _ _ h);refine Aa.tm 26 A ?_ (hQ:=λ_ _ _ h=>l.o _ _ _ _ _ h);refine Aa.tm 27 A ?_ (hQ:=λ_ _ _ h=>l.o _ _ _ _ _ h)
 try simp only[Act.put,tryL]
 obtain⟨r6,r7⟩:=Y.o w6 J.o;refine Aa.on 28 λK E=>?_;go_simp;have Z:w.heap.size<=G:=by rw[F.o];exact(B.o.mid _ I).2
 have a2:g≠G:=by rw[F.o];exact Ck B.o.top (B.o.mid _ I).1 (by decide)
 have T:mb≠G:=λe=>by
  obtain⟨c,h1,_⟩:=(B.o.mid _ I).1;have h2:=L.o;unfold BxM at h2;rw[e,F.o,h1]at h2;simp at h2
 have E3:vs≠G:=by rw[F.o];exact Ck r5.o (B.o.mid _ I).1 (by decide)
 have R:=(B.o.new (Q.o.trans J.o)).put I s3 q8;rw[<-F.o]at R;obtain⟨w7,N⟩:=exq<|w6.setCell ⟨G,j+v,none⟩ (.slice (some ⟨gw,0,none⟩) D.n D.n);have H:Fr (λc=>c=G) w6 w7:=by rw[N];exact(Fr.refl (λc=>c=G) w6).set (p:=(Ad G (j+v))) (.inl rfl) _
 have S:(λwk:World=>wk.cell? (Ad g (i+u))=some (.slice (some ⟨G,0,none⟩) n2 n2)/\wk.cell? (Ad mb 0)=some (.int .i64 D.kind)) w7:=⟨H.cell A.1 a2,H.cell A.2 T⟩;rw[<-N]at R;have D6:=qh R;have o9:=qh ((P.o.trans (J.o.below P.o.size (λ_ e=>e.elim))).trans (H.below (Nat.le_trans P.o.size J.o.size) (λc e=>by rw[e];exact Z)));have D1:=qh<|(L.o.kept (Q.o.trans J.o) (λe=>e)).kept H T;have D7:=qh<|H.row ((Q.o.trans J.o).row r5.o (λe=>e)) E3;rw[<-N];clear N H a2 T Z E3 R q8 r6 r7 J3;refine E.out _ _ (.inr S) ?_;clear E K
 try simp only[Act.put,tryL]
 refine Aa.on 29 λK E=>?_;go_simp;refine E.out _ _ (.inl rfl) (Aa.dn ?_);clear E K S;have E5:(z'.2:Int)=0:=by omega
 have I8:=qh<|r3.o.trans (ifn (by omega));have E4:updT X (i+u) (j+v) z'.1 i j=V:=by unfold updT;rw[ifn (by omega)];exact D8.o
 have D9:=qh E4;clear O E4
 go_wp2_with fail
 exact r0.o _ _ _ _ _ _ _ _ _ _ _ _ _ _ _ _ _ _ _ _ _ _ _ _ _ _ _ _ _ _ _ _ _ _ _ _ _ _ _ _ _ _ _ _ _ _ _ I8.o (r4.o.upd a5.o) D6.o D9.o D7.o D1.o o9.o
noncomputable def kLG:Code:=Ug<|w8B 8
set_option maxRecDepth 1000000 in
theorem Vx:Code.seq (fstQ kLG) (Code.seq (.block 9 (Oa 5 (w8B 9) kB)) (sndQ (sndQ kLG)))=kLG:=by kernel_rfl
set_option maxRecDepth 1000000 in
theorem TT{D:MD}{na nb:Nat}{x y:Nat->Int}{w wr:World}{mb g n1 n2 i j vs cp cx cy bx ox e7 oy:Nat}{a ax ay:Option Addr}{r:Nat->Nat}{s:Nat->Nat->Nat}{X:TbR}{V:Nat->ByteArray}{z2:TbR × Nat}{E:Nat->Prop}{Q0:Exit->Act->World->Prop}{u0 u4 u5 u6 u7 u8 u9 s6 s7 s8 N1 N2 N3 N4 N5 N6 s9 t7 t8 t9 v0 v2 v3 v4 v5 v8 v9 w0 w1 w3 w4 w5 w6 w7 w8 w9 x0 x1 x2 x3 x4 x5 x6 x7 x8 x9 y0 y1 y2 y3 y4 y5 y6 y7 y8 y9 z1 z3 z4 z5 z6 z7 z8 z9 A0 A1 A2 A3 A4 A5 A6 A7 A8 A9 B0 B1 B2 B3 B4 B5 B6 B7 B8 B9 C0 C1 C2 C3 C4 C5 C6 C7 g4 g5 g6 g7 g8 g9 h0 h8 h9 i2 i3 i4 i5 i6 i7 i8 i9 j0 j1 j2 j3 E9 F0 F1 F2 F3 F4 F5 F6 F7 F8 F9 G0 G1 G2 G3 G4 G5 G6 G7 G8 G9 H0 H1 H8 H9 I0 I1 I2 I3 I4 I5 I6 I7 I8 I9 J0 J1 J2 J3 J4 J5 J6 J7 J8 J9 K0 K1 K2 K3 K4 K5 K6 K7 K8 K9 L0 L1 L2 L3 L4 L5 L6 L7 L8 L9 M0 M1 M2 M3 M4 M5 M6 M7 M8 M9 N0 j4 j5 j6 j7 j8 j9 k0 k4 k5 k6 k7 k9 l0:Value}
  (HV:Hd (VM D)) (r2:Hd (∀W,Below w.heap.size w W->StS none W (.slice a D.n cp) D)) (r3:Hd (MSz D)) (s3:D.n<=3000) (q8:Hd (n1=na+1)) (q9:Hd (n2=nb+1)) (r8:n1<=201) (r9:n2<=201) (s4:i<n1) (s5:j<n2)
  (D2:Hd (0<na->ax=some ⟨bx,ox,none⟩)) (D4:Hd (0<na->bx<w.heap.size/\some bx≠none)) (D5:Hd (∀i,i<na->w.cell? (Ad bx (ox+i))=some (.int .i64 (x i)))) (D3:Hd (0<nb->ay=some ⟨e7,oy,none⟩)) (D6:Hd (0<nb->e7<w.heap.size/\some e7≠none)) (D7:Hd (∀i,i<nb->w.cell? (Ad e7 (oy+i))=some (.int .i64 (y i))))
  (e9:Hd (∀k e,k<=4->(mvR D na x nb y i j k z2).2=e->e≠0->E e)) (e3:Hd (z2=(X,0)))
  (o:Hd (X i j=V)) (d5:Hd (smT X)) (d6:Hd (TW wr w.heap.size g n1 n2 D.n r s X)) (d7:Hd (wr.rowIs vs 9 D.n (λp=>.string (V p)))) (d4:Hd (BxM wr mb D (.slice a D.n cp))) (l:Hd (Below w.heap.size w wr))
  (f2:Hd (∀(e:List PanicEntry) (a:Act) (d:Option Tmp) (v:Value) (w':World),Q0 (.panic e) (a.put d v) w'->Q0 (.panic e) a w'))
  (r0:Hd (∀(v6 v7 e6 C8 C9 D0 D1 e0 e1 l1 l2 l3 l4 l5 l6 l7 l8 l9 m2 m3 m4 m5 m7 m8 m9 n5 n6 n7 n9 o2 o3 o4 o5 o6 o7 o8 o9 p0 p6 p7 p8 p9 q7 A B C F G H I J K L N O P Q R S T U Y Z a1 a2 a4 a5 a6 a7 a8 a9 b0 b1 b2 b3 b4 b5 b6 b7 b8 b9 d0 d1 d2 d3:Value) (w':World) (s':Nat->Nat->Nat) (X':TbR),mvR D na x nb y i j 4 z2=(X',0)->smT X'->TW w' w.heap.size g n1 n2 D.n r s' X'->BxM w' mb D (.slice a D.n cp)->Below w.heap.size w w'->Q0 (.exit 8) ⟨List.toArray (u0::.slice ax na cx::.slice ay nb cy::.pointer (some ⟨mb,0,none⟩)::u4::u5::v6::v7::u8::u9::.slice (some ⟨g,0,none⟩) n1 n1::s6::s7::.int .i64 (i:Int)::.int .i64 (j:Int)::.slice (some ⟨vs,0,none⟩) D.n D.n::s8::e6::C8::C9::D0::D1::e0::e1::s9::t7::t8::t9::v0::v2::v3::v4::v5::v8::v9::w0::w1::w3::w4::w5::w6::w7::w8::w9::x0::x1::x2::x3::x4::x5::x6::x7::x8::x9::y0::y1::y2::y3::y4::y5::y6::y7::y8::y9::z1::z3::z4::z5::z6::z7::z8::z9::A0::A1::A2::A3::A4::A5::A6::A7::A8::A9::B0::B1::B2::B3::B4::B5::B6::B7::B8::B9::C0::C1::C2::C3::C4::C5::C6::C7::g4::g5::g6::g7::g8::g9::h0::h8::h9::i2::i3::i4::i5::i6::i7::i8::i9::j0::j1::j2::j3::l1::l2::l3::l4::l5::l6::l7::l8::l9::m2::m3::m4::m5::m7::m8::m9::n5::n6::n7::n9::o2::o3::o4::o5::o6::o7::o8::o9::p0::p6::p7::p8::p9::q7::A::B::C::F::G::H::I::J::K::L::N::O::P::Q::R::S::T::U::Y::Z::a1::a2::a4::a5::a6::a7::a8::a9::b0::b1::b2::b3::b4::b5::b6::b7::b8::b9::d0::d1::d2::d3::j4::j5::j6::j7::j8::j9::k0::k4::k5::k6::k7::k9::l0::[]),[]⟩ w'))
  (f3:Hd (∀(e6 C8 C9 D0 D1 e0 e1 l1 l2 l3 l4 l5 l6 l7 l8 l9 m2 m3 m4 m5 m7 m8 m9 n5 n6 n7 n9 o2 o3 o4 o5 o6 o7 o8 o9 p0 p6 p7 p8 p9 q7 A B C F G H I J K L N O P Q R S T U Y Z a1 a2 a4 a5 a6 a7 a8 a9 b0 b1 b2 b3 b4 b5 b6 b7 b8 b9 d0 d1 d2 d3:Value) (w':World) (e:Nat),E e->Below w.heap.size w w'->Q0 .ret ⟨List.toArray (u0::.slice ax na cx::.slice ay nb cy::.pointer (some ⟨mb,0,none⟩)::u4::u5::.string ⟨#[]⟩::.int .i64 (e:Int)::u8::u9::.slice (some ⟨g,0,none⟩) n1 n1::s6::s7::.int .i64 (i:Int)::.int .i64 (j:Int)::.slice (some ⟨vs,0,none⟩) D.n D.n::s8::e6::C8::C9::D0::D1::e0::e1::s9::t7::t8::t9::v0::v2::v3::v4::v5::v8::v9::w0::w1::w3::w4::w5::w6::w7::w8::w9::x0::x1::x2::x3::x4::x5::x6::x7::x8::x9::y0::y1::y2::y3::y4::y5::y6::y7::y8::y9::z1::z3::z4::z5::z6::z7::z8::z9::A0::A1::A2::A3::A4::A5::A6::A7::A8::A9::B0::B1::B2::B3::B4::B5::B6::B7::B8::B9::C0::C1::C2::C3::C4::C5::C6::C7::g4::g5::g6::g7::g8::g9::h0::h8::h9::i2::i3::i4::i5::i6::i7::i8::i9::j0::j1::j2::j3::l1::l2::l3::l4::l5::l6::l7::l8::l9::m2::m3::m4::m5::m7::m8::m9::n5::n6::n7::n9::o2::o3::o4::o5::o6::o7::o8::o9::p0::p6::p7::p8::p9::q7::A::B::C::F::G::H::I::J::K::L::N::O::P::Q::R::S::T::U::Y::Z::a1::a2::a4::a5::a6::a7::a8::a9::b0::b1::b2::b3::b4::b5::b6::b7::b8::b9::d0::d1::d2::d3::j4::j5::j6::j7::j8::j9::k0::k4::k5::k6::k7::k9::l0::[]),[]⟩ w')) :
  Code.wp prog (Code.loop kLG) Q0 ⟨List.toArray (u0::.slice ax na cx::.slice ay nb cy::.pointer (some ⟨mb,0,none⟩)::u4::u5::u6::u7::u8::u9::.slice (some ⟨g,0,none⟩) n1 n1::s6::s7::.int .i64 (i:Int)::.int .i64 (j:Int)::.slice (some ⟨vs,0,none⟩) D.n D.n::s8::.int .i64 1::N1::N2::N3::N4::N5::N6::s9::t7::t8::t9::v0::v2::v3::v4::v5::v8::v9::w0::w1::w3::w4::w5::w6::w7::w8::w9::x0::x1::x2::x3::x4::x5::x6::x7::x8::x9::y0::y1::y2::y3::y4::y5::y6::y7::y8::y9::z1::z3::z4::z5::z6::z7::z8::z9::A0::A1::A2::A3::A4::A5::A6::A7::A8::A9::B0::B1::B2::B3::B4::B5::B6::B7::B8::B9::C0::C1::C2::C3::C4::C5::C6::C7::g4::g5::g6::g7::g8::g9::h0::h8::h9::i2::i3::i4::i5::i6::i7::i8::i9::j0::j1::j2::j3::E9::F0::F1::F2::F3::F4::F5::F6::F7::F8::F9::G0::G1::G2::G3::G4::G5::G6::G7::G8::G9::H0::H1::H8::H9::I0::I1::I2::I3::I4::I5::I6::I7::I8::I9::J0::J1::J2::J3::J4::J5::J6::J7::J8::J9::K0::K1::K2::K3::K4::K5::K6::K7::K8::K9::L0::L1::L2::L3::L4::L5::L6::L7::L8::L9::M0::M1::M2::M3::M4::M5::M6::M7::M8::M9::N0::j4::j5::j6::j7::j8::j9::k0::k4::k5::k6::k7::k9::l0::[]),[]⟩ wr:=by
 conv=>arg 2;arg 1;whnf
 go_loopw [17] (λe6 wr=>∃m:Nat,1<=m/\m<=4/\e6=.int .i64 (m:Int)/\(∃s X,mvR D na x nb y i j m z2=(X,0)/\smT X/\TW wr w.heap.size g n1 n2 D.n r s X/\X i j=V)/\wr.rowIs vs 9 D.n (λp=>.string (V p))/\BxM wr mb D (.slice a D.n cp)/\Below w.heap.size w wr) (λe6 _=>4-(intOf e6).toNat)
 case atStart=>exact⟨1,nlr,by omega,rfl,⟨s,X,e3.o,d5.o,d6.o,o.o⟩,d7.o,d4.o,l.o⟩
 obtain⟨m,O1,O2,rfl,⟨s,X,D8,E5,E6,E8⟩,E7,E0,D9⟩:=hrel;clear d6 e3 d5 o d7 d4 l;have d6:=qh E6;clear E6;have e3:=qh D8;clear D8;have d5:=qh E5;clear E5;have o:=qh E8;clear E8;have d7:=qh E7;clear E7;have d4:=qh E0;clear E0;have l:=qh D9;clear D9;have O3:IntKind.i64.wrap ((i:Int)+1)=(i:Int)+1:=by rw[IntKind.wrap_i64];omega
 have O4:IntKind.i64.wrap ((j:Int)+1)=(j:Int)+1:=by rw[IntKind.wrap_i64];omega
 have N9:IntKind.i64.wrap (i:Int)=(i:Int):=by rw[IntKind.wrap_i64];omega
 have O0:IntKind.i64.wrap (j:Int)=(j:Int):=by rw[IntKind.wrap_i64];omega
 have N7:i<=na:=by have:=q8.o;omega
 have N8:j<=nb:=by have:=q9.o;omega
 change Code.wp prog kLG _ _ _;rw[<-Vx];obtain⟨XX,e8⟩:=exq<|kB;rw[<-e8];replace e8:=qh e8
 conv=>arg 2;arg 1;whnf
 conv=>arg 2;arg 2;arg 1;arg 2;whnf
 conv=>arg 2;arg 2;arg 1;arg 2;arg 2;whnf
 conv=>arg 2;arg 2;arg 1;arg 2;arg 2;arg 2;whnf
 conv=>arg 2;arg 2;arg 1;arg 2;arg 2;arg 2;arg 2;whnf
 conv=>arg 2;arg 2;arg 1;arg 2;arg 2;arg 2;arg 2;arg 2;whnf
 conv=>arg 2;arg 2;arg 1;arg 2;arg 2;arg 2;arg 2;arg 2;arg 2;whnf
 conv=>arg 2;arg 2;arg 2;whnf
 rcases (show m=1\/m=2\/m=3\/m=4 by omega) with rfl|rfl|rfl|rfl
 ·skip
  have f4:bits .and .i64 (1:Int) 1=1:=by decide +kernel
  have d9:mvR D na x nb y i j 2 z2=kR D na x nb y i j 1 0 (mvR D na x nb y i j 1 z2):=rfl;rw[e3.o]at d9;have z:=qh d9;clear d9;by_cases g2:na<i+1
  ·have c:=z.o.trans<|ifp (.inr (.inl g2));have d8:=qh c;clear c;have f5:decide ((na:Int)<((i:Int)+1))=true:=by simp;omega
   have f7:(na:Int)<((i:Int)+1):=by omega
   go_wp2;go_roundw
   case rel=>exact⟨2,by omega,by omega,by go_num,⟨s,X,d8.o,d5.o,d6.o,o.o⟩,d7.o,d4.o,l.o⟩
   simp[intOf]
  have f5:decide ((na:Int)<((i:Int)+1))=false:=by simp;omega
  have f7:¬((na:Int)<((i:Int)+1)):=by omega
  by_cases g3:nb<j+0
  ·have c:=z.o.trans<|ifp (.inr (.inr g3));have d8:=qh c;clear c;have f8:decide ((nb:Int)<(j:Int))=true:=by simp;omega
   have f9:(nb:Int)<(j:Int):=by omega
   go_wp2;go_roundw
   case rel=>exact⟨2,by omega,by omega,by go_num,⟨s,X,d8.o,d5.o,d6.o,o.o⟩,d7.o,d4.o,l.o⟩
   simp[intOf]
  have f8:decide ((nb:Int)<(j:Int))=false:=by simp;omega
  have f9:¬((nb:Int)<(j:Int)):=by omega
  have g0:i+1<n1:=by have:=q8.o;omega
  have g1:j+0<n2:=by have:=q9.o;omega
  obtain rfl:=D2.o (by omega);have r6:=(l.o.cell (p:=(Ad bx (ox+i))) (D4.o (by omega)).1).trans (D5.o i (by omega));have E2:(i:Int)<(na:Int):=by omega
  have E1:(0:Int)<=(i:Int):=by omega
  obtain⟨xi,e4⟩:=exq<|x i;rw[<-e4]at r6;have r4:=qh e4;clear e4;have e2:kR D na x nb y i j 1 0 (X,0)=if (Ax D xi 0 V D.n (zerR D.kind,0)).2≠0 then (X,(Ax D xi 0 V D.n (zerR D.kind,0)).2) else if (sumR D.kind (X (i+1) (j+0)) (Ax D xi 0 V D.n (zerR D.kind,0)).1 D.n).2≠0 then (X,(sumR D.kind (X (i+1) (j+0)) (Ax D xi 0 V D.n (zerR D.kind,0)).1 D.n).2) else (updT X (i+1) (j+0) (sumR D.kind (X (i+1) (j+0)) (Ax D xi 0 V D.n (zerR D.kind,0)).1 D.n).1,0):=by
   unfold kR;rw[ifn (show ¬((0:Nat)≠0\/na<i+1\/nb<j+0) by omega)];rw[r4.o];rw[<-o.o];rfl
  have f1:=qh e2;clear e2
  go_wp2_with fail
  rw[e8.o];refine kmove (u:=1) (v:=0) HV r2 r3 s3 r8 r9 s4 s5 g0 g1 (by omega) f1 o d5 d6 d7 d4 l (qh ?xd) (qh ?xa) (qh ?xh)
  case xd=>exact λe a d v w h=>f2.o e a d v w h
  case xa =>
   intro e0 e1 A B C F G H I J K L N O P Q R S T U Y Z a1 a2 a4 a5 a6 a7 a8 a9 b0 b1 b2 b3 b4 b5 b6 b7 b8 b9 d0 d1 d2 d3 w2 s2 X2 h1 h2 h3 h4 h5 h6 h7;have f0:=qh<|z.o.trans h1;clear h1;have H2:=qh h2;clear h2;have H3:=qh h3;clear h3;have H4:=qh h4;clear h4;have H5:=qh h5;clear h5;have H6:=qh h6;clear h6;have H7:=qh h7;clear h7;go_wp2;go_roundw
   case rel=>exact⟨2,by omega,by omega,by go_num,⟨s2,X2,f0.o,H2.o,H3.o,H4.o⟩,H5.o,H6.o,H7.o⟩
   simp[intOf]
  case xh =>
   intro e0 e1 A B C F G H I J K L N O P Q R S T U Y Z a1 a2 a4 a5 a6 a7 a8 a9 b0 b1 b2 b3 b4 b5 b6 b7 b8 b9 d0 d1 d2 d3 w2 e h1 h2 h3;have hw:=e9.o 2 e (by omega) (by rw[z.o];exact h1) h2;exact f3.o _ _ _ _ _ _ _ _ _ _ _ _ _ _ _ _ _ _ _ _ _ _ _ _ _ _ _ _ _ _ _ _ _ _ _ _ _ _ _ _ _ _ _ _ _ _ _ _ _ _ _ _ _ _ _ _ _ _ _ _ _ _ _ _ _ _ _ _ _ _ _ _ _ _ _ _ _ _ _ _ _ _ _ _ _ hw h3
 ·skip
  have f4:bits .and .i64 (2:Int) 1=0:=by decide +kernel
  have d9:mvR D na x nb y i j 3 z2=kR D na x nb y i j 0 1 (mvR D na x nb y i j 2 z2):=rfl;rw[e3.o]at d9;have z:=qh d9;clear d9;by_cases g2:na<i+0
  ·have c:=z.o.trans<|ifp (.inr (.inl g2));have d8:=qh c;clear c;have f5:decide ((na:Int)<(i:Int))=true:=by simp;omega
   have f7:(na:Int)<(i:Int):=by omega
   go_wp2;go_roundw
   case rel=>exact⟨3,by omega,by omega,by go_num,⟨s,X,d8.o,d5.o,d6.o,o.o⟩,d7.o,d4.o,l.o⟩
   simp[intOf]
  have f5:decide ((na:Int)<(i:Int))=false:=by simp;omega
  have f7:¬((na:Int)<(i:Int)):=by omega
  by_cases g3:nb<j+1
  ·have c:=z.o.trans<|ifp (.inr (.inr g3));have d8:=qh c;clear c;have f8:decide ((nb:Int)<((j:Int)+1))=true:=by simp;omega
   have f9:(nb:Int)<((j:Int)+1):=by omega
   go_wp2;go_roundw
   case rel=>exact⟨3,by omega,by omega,by go_num,⟨s,X,d8.o,d5.o,d6.o,o.o⟩,d7.o,d4.o,l.o⟩
   simp[intOf]
  have f8:decide ((nb:Int)<((j:Int)+1))=false:=by simp;omega
  have f9:¬((nb:Int)<((j:Int)+1)):=by omega
  have g0:i+0<n1:=by have:=q8.o;omega
  have g1:j+1<n2:=by have:=q9.o;omega
  obtain rfl:=D3.o (by omega);have r7:=(l.o.cell (p:=(Ad e7 (oy+j))) (D6.o (by omega)).1).trans (D7.o j (by omega));have E4:(j:Int)<(nb:Int):=by omega
  have E3:(0:Int)<=(j:Int):=by omega
  obtain⟨yj,e5⟩:=exq<|y j;rw[<-e5]at r7;have r5:=qh e5;clear e5;have e2:kR D na x nb y i j 0 1 (X,0)=if (Ax D 0 yj V D.n (zerR D.kind,0)).2≠0 then (X,(Ax D 0 yj V D.n (zerR D.kind,0)).2) else if (sumR D.kind (X (i+0) (j+1)) (Ax D 0 yj V D.n (zerR D.kind,0)).1 D.n).2≠0 then (X,(sumR D.kind (X (i+0) (j+1)) (Ax D 0 yj V D.n (zerR D.kind,0)).1 D.n).2) else (updT X (i+0) (j+1) (sumR D.kind (X (i+0) (j+1)) (Ax D 0 yj V D.n (zerR D.kind,0)).1 D.n).1,0):=by
   unfold kR;rw[ifn (show ¬((0:Nat)≠0\/na<i+0\/nb<j+1) by omega)];rw[r5.o];rw[<-o.o];rfl
  have f1:=qh e2;clear e2
  go_wp2_with fail
  rw[e8.o];refine kmove (u:=0) (v:=1) HV r2 r3 s3 r8 r9 s4 s5 g0 g1 (by omega) f1 o d5 d6 d7 d4 l (qh ?xf) (qh ?xb) (qh ?xj)
  case xf=>exact λe a d v w h=>f2.o e a d v w h
  case xb =>
   intro e0 e1 A B C F G H I J K L N O P Q R S T U Y Z a1 a2 a4 a5 a6 a7 a8 a9 b0 b1 b2 b3 b4 b5 b6 b7 b8 b9 d0 d1 d2 d3 w2 s2 X2 h1 h2 h3 h4 h5 h6 h7;have f0:=qh<|z.o.trans h1;clear h1;have H2:=qh h2;clear h2;have H3:=qh h3;clear h3;have H4:=qh h4;clear h4;have H5:=qh h5;clear h5;have H6:=qh h6;clear h6;have H7:=qh h7;clear h7;go_wp2;go_roundw
   case rel=>exact⟨3,by omega,by omega,by go_num,⟨s2,X2,f0.o,H2.o,H3.o,H4.o⟩,H5.o,H6.o,H7.o⟩
   simp[intOf]
  case xj =>
   intro e0 e1 A B C F G H I J K L N O P Q R S T U Y Z a1 a2 a4 a5 a6 a7 a8 a9 b0 b1 b2 b3 b4 b5 b6 b7 b8 b9 d0 d1 d2 d3 w2 e h1 h2 h3;have hw:=e9.o 3 e (by omega) (by rw[z.o];exact h1) h2;exact f3.o _ _ _ _ _ _ _ _ _ _ _ _ _ _ _ _ _ _ _ _ _ _ _ _ _ _ _ _ _ _ _ _ _ _ _ _ _ _ _ _ _ _ _ _ _ _ _ _ _ _ _ _ _ _ _ _ _ _ _ _ _ _ _ _ _ _ _ _ _ _ _ _ _ _ _ _ _ _ _ _ _ _ _ _ _ hw h3
 ·skip
  have f4:bits .and .i64 (3:Int) 1=1:=by decide +kernel
  have d9:mvR D na x nb y i j 4 z2=kR D na x nb y i j 1 1 (mvR D na x nb y i j 3 z2):=rfl;rw[e3.o]at d9;have z:=qh d9;clear d9;by_cases g2:na<i+1
  ·have c:=z.o.trans<|ifp (.inr (.inl g2));have d8:=qh c;clear c;have f5:decide ((na:Int)<((i:Int)+1))=true:=by simp;omega
   have f7:(na:Int)<((i:Int)+1):=by omega
   go_wp2;go_roundw
   case rel=>exact⟨4,by omega,by omega,by go_num,⟨s,X,d8.o,d5.o,d6.o,o.o⟩,d7.o,d4.o,l.o⟩
   simp[intOf]
  have f5:decide ((na:Int)<((i:Int)+1))=false:=by simp;omega
  have f7:¬((na:Int)<((i:Int)+1)):=by omega
  by_cases g3:nb<j+1
  ·have c:=z.o.trans<|ifp (.inr (.inr g3));have d8:=qh c;clear c;have f8:decide ((nb:Int)<((j:Int)+1))=true:=by simp;omega
   have f9:(nb:Int)<((j:Int)+1):=by omega
   go_wp2;go_roundw
   case rel=>exact⟨4,by omega,by omega,by go_num,⟨s,X,d8.o,d5.o,d6.o,o.o⟩,d7.o,d4.o,l.o⟩
   simp[intOf]
  have f8:decide ((nb:Int)<((j:Int)+1))=false:=by simp;omega
  have f9:¬((nb:Int)<((j:Int)+1)):=by omega
  have g0:i+1<n1:=by have:=q8.o;omega
  have g1:j+1<n2:=by have:=q9.o;omega
  obtain rfl:=D2.o (by omega);have r6:=(l.o.cell (p:=(Ad bx (ox+i))) (D4.o (by omega)).1).trans (D5.o i (by omega));have E2:(i:Int)<(na:Int):=by omega
  have E1:(0:Int)<=(i:Int):=by omega
  obtain⟨xi,e4⟩:=exq<|x i;rw[<-e4]at r6;have r4:=qh e4;clear e4;obtain rfl:=D3.o (by omega);have r7:=(l.o.cell (p:=(Ad e7 (oy+j))) (D6.o (by omega)).1).trans (D7.o j (by omega));have E4:(j:Int)<(nb:Int):=by omega
  have E3:(0:Int)<=(j:Int):=by omega
  obtain⟨yj,e5⟩:=exq<|y j;rw[<-e5]at r7;have r5:=qh e5;clear e5;have e2:kR D na x nb y i j 1 1 (X,0)=if (Ax D xi yj V D.n (zerR D.kind,0)).2≠0 then (X,(Ax D xi yj V D.n (zerR D.kind,0)).2) else if (sumR D.kind (X (i+1) (j+1)) (Ax D xi yj V D.n (zerR D.kind,0)).1 D.n).2≠0 then (X,(sumR D.kind (X (i+1) (j+1)) (Ax D xi yj V D.n (zerR D.kind,0)).1 D.n).2) else (updT X (i+1) (j+1) (sumR D.kind (X (i+1) (j+1)) (Ax D xi yj V D.n (zerR D.kind,0)).1 D.n).1,0):=by
   unfold kR;rw[ifn (show ¬((0:Nat)≠0\/na<i+1\/nb<j+1) by omega)];rw[r4.o];rw[r5.o];rw[<-o.o];rfl
  have f1:=qh e2;clear e2
  go_wp2_with fail
  rw[e8.o];refine kmove (u:=1) (v:=1) HV r2 r3 s3 r8 r9 s4 s5 g0 g1 (by omega) f1 o d5 d6 d7 d4 l (qh ?xg) (qh ?xc) (qh ?xk)
  case xg=>exact λe a d v w h=>f2.o e a d v w h
  case xc =>
   intro e0 e1 A B C F G H I J K L N O P Q R S T U Y Z a1 a2 a4 a5 a6 a7 a8 a9 b0 b1 b2 b3 b4 b5 b6 b7 b8 b9 d0 d1 d2 d3 w2 s2 X2 h1 h2 h3 h4 h5 h6 h7;have f0:=qh<|z.o.trans h1;clear h1;have H2:=qh h2;clear h2;have H3:=qh h3;clear h3;have H4:=qh h4;clear h4;have H5:=qh h5;clear h5;have H6:=qh h6;clear h6;have H7:=qh h7;clear h7;go_wp2;go_roundw
   case rel=>exact⟨4,by omega,by omega,by go_num,⟨s2,X2,f0.o,H2.o,H3.o,H4.o⟩,H5.o,H6.o,H7.o⟩
   simp[intOf]
  case xk =>
   intro e0 e1 A B C F G H I J K L N O P Q R S T U Y Z a1 a2 a4 a5 a6 a7 a8 a9 b0 b1 b2 b3 b4 b5 b6 b7 b8 b9 d0 d1 d2 d3 w2 e h1 h2 h3;have hw:=e9.o 4 e (by omega) (by rw[z.o];exact h1) h2;exact f3.o _ _ _ _ _ _ _ _ _ _ _ _ _ _ _ _ _ _ _ _ _ _ _ _ _ _ _ _ _ _ _ _ _ _ _ _ _ _ _ _ _ _ _ _ _ _ _ _ _ _ _ _ _ _ _ _ _ _ _ _ _ _ _ _ _ _ _ _ _ _ _ _ _ _ _ _ _ _ _ _ _ _ _ _ _ hw h3
 go_wp2_with fail
 exact r0.o _ _ _ _ _ _ _ _ _ _ _ _ _ _ _ _ _ _ _ _ _ _ _ _ _ _ _ _ _ _ _ _ _ _ _ _ _ _ _ _ _ _ _ _ _ _ _ _ _ _ _ _ _ _ _ _ _ _ _ _ _ _ _ _ _ _ _ _ _ _ _ _ _ _ _ _ _ _ _ _ _ _ _ _ _ _ _ _ e3.o d5.o d6.o d4.o l.o
variable{x:Nat->Int}{n:Nat}{v:Value}
def Td:∀args w,(callFunc 153 args).run prog w=.ok (.enter 153 args) w:=λargs w=>by kernel_rfl
def Rx(w:World)(s:Int):Calls prog 154 #[.int .i64 s] w (λr w'=>r=.returned (.bool (!offI 500 s))/\w'=w):=by
 by_cases g:1<=s
 ·go_enter func154,ntmps154
  go_wp2;go_ret;exact⟨AI (by
   unfold offI;rw[show decide (s<1)=false by simp;omega];by_cases c:s<=500
   ·simp[c]
   simp[c];omega),rfl⟩
 have d:decide (1<=s)=false:=by simp;omega
 go_enter func154,ntmps154
 go_wp2;go_ret;exact⟨AI (by unfold offI;rw[show decide (s<1)=true by simp;omega];rfl),rfl⟩
def RB(w:World)(s:Int):Calls prog 153 #[.int .i64 s] w (λr w'=>r=.returned (.bool (offI 500 s))/\w'=w):=by
 have c:=qh<|Rx w s
 go_enter func153,ntmps153
 go_wp2_with fail
 refine c.o.mono ?_;rintro r d⟨rfl,rfl⟩;go_wp2;go_ret;exact⟨AI (by simp),rfl⟩
def Jb(w:World)(d:Si none w v n x)(hn:(n:Int)<=9223372036854775807):
  Calls prog 109 #[v] w (λr w'=>r=.returned (.bool (isWord n x))/\w'=w):=by
 have c:=Sa w d hn (show TstF 153 #[] (offI 500) w from ⟨Td,λs=>by
  rw[show ∀a:Value,(#[a]++#[]:Array Value)=#[a] from λ_=>rfl];exact RB w s⟩)
 obtain⟨a,g,rfl⟩:=d.shape;replace c:=qh c;clear d;by_cases h:(n:Int)<=200
 ·go_enter func109,ntmps109
  go_wp2_with fail
  refine c.o.mono ?_;rintro r j⟨rfl,rfl⟩;go_wp2;go_ret;exact⟨AI (by unfold isWord DK;rw[show decide (n<=200)=true by simp;omega];simp),rfl⟩
 have i:decide ((n:Int)<=200)=false:=by simp;omega
 go_enter func109,ntmps109
 go_wp2;go_ret;exact⟨AI (by unfold isWord;rw[show decide (n<=200)=false by simp;omega];rfl),rfl⟩
def LQ{i:Nat}(w:World)(j:Si none w v n x):Calls prog 113 #[v,.int .i64 (i:Int)] w (λr w'=>r=.returned (.int .i64 (atW n x i))/\w'=w):=by
 obtain⟨a,l,b,s,rfl,g,u,m,hb,c⟩:=j.open;unfold maxLen at m;by_cases h:i<n
 ·have o:(i:Int)<(n:Int):=by omega
  have p:(0:Int)<=(i:Int):=by omega
  obtain rfl:=g (by omega);have c0:=c i h;have e:atW n x i=x i:=ifp h;rw[e];obtain⟨k,d⟩:=exq<|x i;rw[<-d]at c0;rw[<-d];clear c j hb g e d
  go_enter func113,ntmps113
  go_wp2;go_ret;exact⟨rfl,rfl⟩
 have o:¬((i:Int)<(n:Int)):=by omega
 have e:atW n x i=0:=ifn h;rw[e];clear c j hb g e
 go_enter func113,ntmps113
 go_wp2;go_ret;exact⟨rfl,rfl⟩
theorem Cp(kind:Int)(na:Nat)(x:Nat->Int)(nb:Nat)(y:Nat->Int)(v:ByteArray):∀i,(An kind na x nb y v i).n=i+1
 |0=>rfl
 |i+1=>by
  show (An kind na x nb y v i).n+1=_;rw[Cp kind na x nb y v i]
theorem Qs(kind:Int)(na:Nat)(x:Nat->Int)(nb:Nat)(y:Nat->Int)(v:ByteArray):∀i p,(An kind na x nb y v i).na p<=i
 |0,p=>by show (if p=0 then 0 else 0)<=0;split<;>omega
 |i+1,p=>by
  have h1:=Qs kind na x nb y v i;show (if p=i then (if i=(An kind na x nb y v i).n then 0 else (An kind na x nb y v i).na i)+1 else (if p=(An kind na x nb y v i).n then 0 else (An kind na x nb y v i).na p))<=i+1
  have h2:=h1 i;have h3:=h1 p
  split<;>split<;>omega
theorem Fv(kind:Int)(na:Nat)(x:Nat->Int)(nb:Nat)(y:Nat->Int)(v:ByteArray):∀i,(An kind na x nb y v i).kind=kind/\(An kind na x nb y v i).start=0/\(An kind na x nb y v i).lead=v
 |0=>⟨rfl,rfl,rfl⟩
 |i+1=>Fv kind na x nb y v i
def YK(kind:Int)(na:Nat)(x:Nat->Int)(nb:Nat)(y:Nat->Int)(v:ByteArray):Prop:=isWord na x=true/\isWord nb y=true/\Am kind v=true
theorem Bld.c4{w:World}{B db:Nat}{D:MD}{R:Nat->Value}{sv:Value}{one:ByteArray}{c fl:Int}(h:Bld w B db D R sv one c fl):w.cell? (Ad db 4)=some (.string one):=BlkB.c4 h.blk
theorem BlS.one{F:Nat->Prop}{B db:Nat}{D:MD}{one:ByteArray}{c fl:Int}{w:World}(h:BlS F B db D one c fl w):w.cell? (Ad db 4)=some (.string one):=by
 obtain⟨R,sv,d,g⟩:=h;exact d.c4
def IX{kind:Int}{xv yv:Value}{na nb:Nat}{y:Nat->Int}{v:ByteArray}(w:World)(hx:Si none w xv na x)(hy:Si none w yv nb y)(j0:(na:Int)<=9223372036854775807)(j1:(nb:Int)<=9223372036854775807)(hv:smS v)(ht:Tab w)(Y:YK kind na x nb y v):
  Calls prog 59 #[.int .i64 kind,xv,yv,.string v] w (λr w'=>Below w.heap.size w w'/\∃sv R,r=.returned (.tuple #[.agg #[.int .i64 kind,.int .i64 0,.string v,sv],.int .i64 0])/\OwM w' w.heap.size sv (BN kind na x nb y v) R):=by
 obtain⟨ax,cx,rfl⟩:=hx.shape;obtain⟨ay,cy,rfl⟩:=hy.shape;obtain⟨a5,a6,h6⟩:=Y;have j5:na<=200:=by unfold isWord at a5;simp at a5;exact a5.1
 have j6:nb<=200:=by unfold isWord at a6;simp at a6;exact a6.1
 obtain⟨w1,b2⟩:=exq<|w.alloc (.cells #[.int .i64 0,.int .i64 0,.string ⟨#[]⟩,.slice none 0 0] 25);obtain⟨rb,e5⟩:=exq<|w.heap.size;have O:Below w.heap.size w w1:=by rw[b2];exact(Below.refl _ w).alloc nlr _
 have g9:w1.heap[rb]?=some (.cells #[.int .i64 0,.int .i64 0,.string ⟨#[]⟩,.slice none 0 0] 25 (0,0)):=by rw[b2,e5];exact han w _
 have i9:w.heap.size<=rb:=by omega
 have b0:∀W,Below w.heap.size w W->Si none W (.slice ax na cx) na x:=λW h=>hx.kept (Ag h none);have b1:∀W,Below w.heap.size w W->Si none W (.slice ay nb cy) nb y:=λW h=>hy.kept (Ag h none);have d8:=qh<|Jb w1 (b0 w1 O) j0;have d9:=qh<|Jb w1 (b1 w1 O) j1;have e8:=Io kind v w1 hv (ht.below O nlr);rw[h6]at e8;rw[a5]at d8;rw[a6]at d9;have g2:=qh e8;clear e8 a5 a6 h6 ht;replace b0:=qh b0;clear hx;replace b1:=qh b1;clear hy;have d6:=qh O;clear O;have d7:=qh g9;clear g9
 go_enter func59,ntmps59
 go_wp2_with fail
 rw[<-b2,<-e5];clear b2 e5;refine d8.o.mono ?_;rintro r k9⟨rfl,rfl⟩
 go_wp2_with fail
 refine d9.o.mono ?_;rintro r j7⟨rfl,rfl⟩
 go_wp2_with fail
 refine g2.o.mono ?_;rintro r w2⟨rfl,e0⟩;have u:=d6.o.trans<|e0.mono d6.o.size;have a8:=(e0.block _ (lbk d7.o)).trans d7.o;have b7:=qh<|Rv kind w2;replace u:=qh u;clear e0 d6 d8 d9 g2;replace a8:=qh a8;clear d7
 go_wp2_with fail
 refine b7.o.mono ?_;rintro r w3⟨H,rfl,e1,Q,g8⟩;obtain⟨B,c⟩:=exq<|w2.heap.size;rw[<-c]at e1 Q g8;have e7:w.heap.size<=B:=by rw[c];exact u.o.size
 have i3:B<=w3.heap.size:=by rw[c];rw[c]at Q;exact Q.size
 have S:=e1.old i3;obtain⟨⟨v1,h8⟩,h9,g3⟩:=S.cells;have i2:=g3 2;clear g3 h8;obtain⟨w4,b3⟩:=exq<|w3.setCell ⟨H,2,none⟩ (.string v);have b8:BlS (λb=>b<B) B H (AU kind 0 v) (oneF kind) 0 0 w4:=by rw[b3];exact S.lead v
 have E:Below B w2 w4:=by rw[b3];exact Q.setCell (p:=(Ad H 2)) g8 _
 have i4:B<=w4.heap.size:=by rw[c];rw[c]at E;exact E.size
 have I:=qh (LX ⟨#[]⟩ w4 b8 i4 (by show 0<=100000;omega));have b5:=qh E;clear E Q e1 S b8 b7;replace c:=qh c
 go_wp2_with fail
 rw[<-b3];clear b3 h9 i2;refine I.o.mono ?_;rintro r w5⟨rfl,a9⟩;have h3:(AU kind 0 v).state ⟨#[]⟩=An kind na x nb y v 0:=rfl;rw[h3]at a9;have b9:BlN (λb=>b<B) B H (An kind na x nb y v 0) (oneF kind) ((0:Nat):Int) 0 w5 w5:=BlN.refl a9.1;have z:=b5.o.trans a9.2.2;have b6:=qh b9;clear b9 a9 h3 I;replace z:=qh z;clear b5;obtain⟨m,hm⟩:=exq<|max na nb;have k6:m<=200:=by omega
 have h0:max (na:Int) (nb:Int)=(m:Int):=by omega
 replace hm:=qh hm
 go_wp2_with fail
 clear h0
 go_loopw [11,43] (λj2 f5 wr=>∃i:Nat,i<=m/\j2=.int .i64 (i:Int)/\f5=.int .i64 (i:Int)/\BlN (λb=>b<B) B H (An kind na x nb y v i) (oneF kind) (i:Int) 0 w5 wr) (λ_ f5 _=>m-(intOf f5).toNat)
 case atStart=>exact⟨0,Nat.zero_le _,rfl,rfl,b6.o⟩
 obtain⟨i,hi,rfl,rfl,g7⟩:=hrel;clear b6;have G:=qh g7;clear g7;have T:=z.o.trans G.o.2.2;have g4:B<=wr.heap.size:=by rw[c.o];rw[c.o]at T;exact T.size
 have j9:B<=w5.heap.size:=by have h:=z.o;rw[c.o];rw[c.o]at h;exact h.size
 by_cases k5:i<m
 ·have k4:(i:Int)<(m:Int):=by omega
  have e6:=LX ⟨#[]⟩ wr G.o.1 g4 (by rw[Cp];omega);rw[Cp]at e6;have I:=qh e6;clear e6 T
  go_wp2_with fail
  refine I.o.mono ?_;rintro r w6⟨rfl,h2⟩;obtain⟨o,D⟩:=exq<|w6.drew;have U:Fr (λ_=>False) w6 o:=by rw[D];exact(Fr.refl _ _).drew
  have j:Below w6.heap.size w6 o:=U.below nlr (λ_ e=>e.elim);have A:BlN (λb=>b<B) B H ((An kind na x nb y v i).state ⟨#[]⟩) (oneF kind) (i:Int) 0 w5 o:=by
   have h1:=G.o.trans h2;exact⟨h1.1.kept j,λb hb=>(j.block b (h1.1.lt.2.2 b hb)).trans (h1.2.1 b hb),h1.2.2.trans (j.mono (by have:=h1.2.2.size;omega))⟩
  have l:Below B w2 o:=z.o.trans A.2.2;have N:Below w.heap.size w o:=u.o.trans<|l.mono e7;have c4:=A.1.one;have i5:B<=o.heap.size:=by rw[c.o];rw[c.o]at l;exact l.size
  have d2:=qh<|LQ (i:=i) o (b0.o o N);have d5:=qh<|LQ (i:=i) o (b1.o o N);have e4:((An kind na x nb y v i).state ⟨#[]⟩).n=i+2:=by show (An kind na x nb y v i).n+1=_;rw[Cp]
  have d1:((An kind na x nb y v i).state ⟨#[]⟩).na i<=100000:=by
   show (if i=(An kind na x nb y v i).n then 0 else (An kind na x nb y v i).na i)<=100000
   have:=Qs kind na x nb y v i i
   split<;>omega
  have s:=Rl (q:=i) (atW na x i) (atW nb y i) ((i+1:Nat):Int) (oneF kind) o A.1 (by omega) (by omega) i5 (by rw[e4];omega) (by rw[e4];omega) d1;rw[show ((An kind na x nb y v i).state ⟨#[]⟩).arc i (atW na x i) (atW nb y i) (oneF kind) ((i+1:Nat):Int)=An kind na x nb y v (i+1) from rfl,show (i:Int)+1=((i+1:Nat):Int) by omega]at s;obtain⟨on,C⟩:=exq<|oneF kind;rw[<-C]at c4 s;obtain⟨xi,e9⟩:=exq<|atW na x i;obtain⟨yi,f4⟩:=exq<|atW nb y i;rw[<-e9,<-f4]at s;rw[<-e9]at d2;rw[<-f4]at d5;have f9:=qh C;clear C;clear e9 f4;have b4:=qh s;clear s;have f8:=qh A;clear A h2 I G U j e4 d1 l N
  go_wp2_with fail
  refine AC (λwk=>wk.cell? (Ad H 4)=some (.string on)) 14 (by kernel_rfl) ?_;rw[<-D];clear D;refine Aa.tm 0 c4 ?_;refine Aa.tm 1 c4 ?_;refine Aa.tm 2 c4 ?_;refine Aa.tm 3 c4 ?_;refine Aa.tm 5 c4 ?_;refine Aa.tm 6 c4 ?_;refine Aa.tm 8 c4 ?_;refine Aa.tm 9 c4 ?_;refine Aa.tm 10 c4 ?_;refine Aa.tm 11 c4 ?_;refine Aa.tm 12 c4 ?_
  try simp only[Act.put,tryL]
  refine Aa.on 4 λK J=>?_;go_simp;refine d2.o.mono ?_;rintro r l0⟨rfl,rfl⟩;refine J.out _ _ (.inr c4) ?_;clear J K
  try simp only[Act.put,tryL]
  refine Aa.on 7 λK J=>?_;go_simp;refine d5.o.mono ?_;rintro r j8⟨rfl,rfl⟩;refine J.out _ _ (.inr c4) ?_;clear J K
  try simp only[Act.put,tryL]
  refine Aa.tm 13 c4 ?_
  try simp only[Act.put,tryL]
  refine Aa.on 14 λK J=>?_;go_simp;refine b4.o.mono ?_;rintro r w7⟨rfl,e3⟩;refine J.out _ _ (.inl rfl) (Aa.dn ?_);clear J K c4;rw[f9.o]at e3;have h7:=qh<|f8.o.trans e3;clear e3 b4 f8 d2 d5;go_wp2;go_roundw
  case rel=>exact⟨i+1,by omega,by go_num,by go_num,h7.o⟩
  simp[intOf];omega
 have i8:m=i:=by omega
 subst i8;have j3:¬((m:Int)<(m:Int)):=by omega
 obtain⟨o,D⟩:=exq<|wr.drew;have U:Fr (λ_=>False) wr o:=by rw[D];exact(Fr.refl _ _).drew
 have j:Below wr.heap.size wr o:=U.below nlr (λ_ e=>e.elim);have g6:=G.o.1.kept j;have l:Below B w2 o:=T.trans<|j.mono g4;obtain⟨R,sv,k,a7⟩:=g6;obtain⟨g,cp,rfl,i7,k0,_,_⟩:=DF k.own.top (by rw[Cp];omega);have d3:=BlkB.c3 k.blk;have d4:=BlkB.c4 k.blk;have g0:=k.own.fin_cell (i:=m) (by rw[Cp];omega);have fg:=Ex k.own.top (m*2);have h4:=k.own.setFin (q:=m) (by rw[Cp];omega) (oneF kind);rw[Cp]at d3;have i6:H≠g:=λe=>Ao k.own.top k.blk (by decide) (by rw[e];rfl);obtain⟨w8,a1⟩:=exq<|o.setCell ⟨g,m*2,none⟩ (.string (oneF kind));have d0:BlS (λb=>b<B) B H (BN kind na x nb y v) (oneF kind) (m:Int) 0 w8:=by
  have e:BN kind na x nb y v=(An kind na x nb y v m).setFin m (oneF kind):=by unfold BN;rw[<-hm.o]
  rw[e,a1];refine⟨R,_,⟨by rw[AM i6];exact k.blk,h4,k.low⟩,λb hb=>⟨(a7 b hb).1,by rw[nblk_setCell];exact(a7 b hb).2.1,(a7 b hb).2.2⟩⟩
 have F:Below B w2 w8:=by rw[a1];exact l.setCell (p:=(Ad g (m*2))) i7 _
 have d:o.cell? (Ad H 3)=some (.slice (some (Ad g 0)) (m+1) cp)/\o.cell? (Ad H 4)=some (.string (oneF kind)):=⟨d3,d4⟩;have a4:(BN kind na x nb y v).n=m+1:=by unfold BN;rw[<-hm.o];exact Cp kind na x nb y v m
 have a2:(BN kind na x nb y v).kind=kind/\(BN kind na x nb y v).start=0/\(BN kind na x nb y v).lead=v:=by unfold BN;exact Fv kind na x nb y v _
 have e2:=Rp w8 d0 (by rw[a4];omega) (by omega) (by omega);rw[a4]at e2;have f7:=qh e2;clear e2 d0;have h0:(m:Int)<(m:Int)+1:=by omega
 have j4:(0:Int)<=(m:Int):=by omega
 obtain⟨on,C⟩:=exq<|oneF kind;rw[<-C]at d a1;have f9:=qh C;clear C;replace F:=qh F;clear l T;replace a2:=qh a2;replace a4:=qh a4;clear d3 d4 k a7 h4 G U j
 go_wp2_with fail
 refine AC (λwk=>wk.cell? (Ad H 3)=some (.slice (some (Ad g 0)) (m+1) cp)/\wk.cell? (Ad H 4)=some (.string on)) 12 (by kernel_rfl) ?_;rw[<-D];clear D;refine Aa.tm 0 d ?_;refine Aa.tm 1 d ?_;refine Aa.tm 2 d ?_;refine Aa.tm 3 d ?_;refine Aa.tm 4 d ?_;refine Aa.tm 5 d ?_;refine Aa.tm 6 d ?_;refine Aa.tm 7 d ?_;refine Aa.tm 8 d ?_;refine Aa.tm 9 d ?_;refine Aa.tm 10 d ?_;refine Aa.tm 11 d ?_
 try simp only[Act.put,tryL]
 refine Aa.on 12 λK J=>?_;go_simp;refine J.out _ _ (.inl rfl) (Aa.dn ?_);clear J K d g0 fg;rw[<-a1];clear a1
 go_wp2_with fail
 refine f7.o.mono ?_;rintro r w9⟨g5,hr⟩;have P:Below B w2 w9:=F.o.trans (g5.mono (by have h:=F.o;rw[c.o];rw[c.o]at h;exact h.size));have X:=(P.block _ (by rw[c.o];exact lbk a8.o)).trans a8.o;have L:=u.o.trans<|P.mono e7;clear g5 P f7;replace L:=qh L;replace X:=qh X;obtain⟨⟨r0,r1,r2,r3⟩,rz⟩:=cells4 X.o;have f0:=rz 0;have f1:=rz 1;have f2:=rz 2;have f3:=rz 3;clear rz
 rcases hr with⟨Y,k7,R',rfl,Z⟩|⟨Y,rfl⟩
 rotate_left
 ·exact absurd (show dnOk 0 (m+1) (m:Int) from ⟨rfl,by omega,by omega⟩) Y
 rw[a2.o.1,a2.o.2.1,a2.o.2.2];obtain⟨sa,sc,h5,_,_⟩:=Az Z.top;rw[a4.o]at h5;subst h5;have g1:=qh<|Dc (Z.box4 X.o (.int .i64 kind) (.int .i64 0) (.string v) (.slice sa (m+1) sc)) e7;clear Z Y
 go_wp2_with fail
 exact bodyPost_ret (AG rfl _ (b:=rb) rfl rfl (AE w9 rb _ _ _ _ X.o)) rfl ⟨Ay L.o i9 _ _ _ _,_,R',rfl,g1.o⟩
variable{w:World}{b i:Nat}{c:Array Value}{t:TypeId}{f:Nat × Nat}{p:Nat->Prop}{D:MD}
def Bw{n:Nat}(h:w.heap[b]?=some (.cells c t f))(hn:n<=maxLen)(d:∀i,i<n->c[i]?=some (.int .i64 (x i))):Si none w (.slice (some (Ad b 0)) n n) n x :=
 .inr ⟨b,0,n,rfl,⟨lbk h,by simp⟩,nlr,hn,λi hi=>by rw[Nat.zero_add];exact cellOf h i (d i hi)⟩
def lt1(h:p 0):∀i,i<1->p i:=λi hi=>by
 have:i=0:=by omega
 subst this;exact h
def lt2(h:p 0)(c:p 1):∀i,i<2->p i:=λi hi=>by
 have:i=0\/i=1:=by omega
 rcases this with rfl|rfl<;>assumption
def lt3(h:p 0)(c:p 1)(d:p 2):∀i,i<3->p i:=λi hi=>by
 have:i=0\/i=1\/i=2:=by omega
 rcases this with rfl|rfl|rfl<;>assumption
def Be:1<=maxLen:=by unfold maxLen;omega
def EG:2<=maxLen:=by unfold maxLen;omega
def Dk(h:w.heap[b]?=some (.cells c t f))(hn:D.na i<=maxLen)
  (d:∀k,k<D.na i->c[k*4]?=some (.int .i64 (D.ain i k))/\c[k*4+1]?=some (.int .i64 (D.aout i k))/\c[k*4+2]?=some (.string (D.aw i k))/\c[k*4+3]?=some (.int .i64 (D.ato i k))):ArS none w (.slice (some (Ad b 0)) (D.na i) (D.na i)) D i :=
 .inr ⟨b,0,D.na i,rfl,⟨lbk h,by simp⟩,nlr,hn,λk g=>by
  obtain⟨c1,c2,c3,c4⟩:=d k g;rw[Nat.zero_add];exact⟨cellOf h _ c1,cellOf h _ c2,cellOf h _ c3,cellOf h _ c4⟩⟩
def Rh(w:World)(h:D.na i=0):ArS none w (.slice none 0 0) D i:=.inl ⟨h,none,0,rfl,Nat.zero_le _⟩
def Gu{A:Nat->Value}(h:w.heap[b]?=some (.cells c t f))(hn:D.n<=maxLen)
  (d:∀i,i<D.n->c[i*2]?=some (.string (D.fin i))/\c[i*2+1]?=some (A i)/\ArS none w (A i) D i):StS none w (.slice (some (Ad b 0)) D.n D.n) D :=
 .inr ⟨b,0,D.n,A,rfl,⟨lbk h,by simp⟩,nlr,hn,λi hi=>by
  obtain⟨c1,c2,c3⟩:=d i hi;rw[Nat.zero_add];exact⟨cellOf h _ c1,cellOf h _ c2,c3⟩⟩
theorem Lp{kind:Int}{na:Nat}{x:Nat->Int}{nb:Nat}{y:Nat->Int}{v:ByteArray}(hk:Au kind=true)(hx:∀i,0<=atW na x i/\atW na x i<=500)(hy:∀i,0<=atW nb y i/\atW nb y i<=500){N:Nat}:∀i,i<N->BOk (An kind na x nb y v i) N i
 |0,_=>(BOk.empty kind 0 v N).state (.inl rfl) nzl
 |i+1,hi=>by
  have ih:=Lp (v:=v) hk hx hy i (N:=N) (by omega);have hkk:((An kind na x nb y v i).state ⟨#[]⟩).kind=kind:=(Fv kind na x nb y v i).1;exact(ih.state (s:=⟨#[]⟩) (.inl rfl) nzl).put (hx i) (hy i) (by constructor<;>omega) (by rw[hkk];exact Db hk) (DZ hk)
def YI{kind:Int}{na:Nat}{nb:Nat}{y:Nat->Int}{v:ByteArray}(c:Au kind=true)(k:∀i,0<=atW na x i/\atW na x i<=500)(l:∀i,0<=atW nb y i/\atW nb y i<=500)(j:smS v)(hn:max na nb<=1000):MSz (BN kind na x nb y v):=by
 have d:=(Fv kind na x nb y v (max na nb));have g:=(Lp (v:=v) c k l (N:=max na nb+1) (max na nb) (by omega)).setFin (q:=max na nb) (s:=oneF kind) (.inr (by rw[d.1];exact Db c)) (DZ c);have h:(BN kind na x nb y v).n=max na nb+1:=Cp kind na x nb y v _;exact g.msz (by show Au (An kind na x nb y v (max na nb)).kind=true;rw[d.1];exact c) (by show (An kind na x nb y v (max na nb)).n<=_;rw[Cp];omega) (by show smS (An kind na x nb y v (max na nb)).lead;rw[d.2.2];exact j) (by omega)
def TrueB(w:World)(r:Ending)(w':World):Prop:=r=.returned (.bool true)/\Below w.heap.size w w'
def Ab(E:MD):MD:=⟨1,0,⟨#[48]⟩,E.na 0+1,λi=>if i=E.na 0 then ⟨#[48]⟩ else ⟨#[]⟩,λi=>if i<E.na 0 then 1 else 0,λi _=>E.ain 0 i,λi _=>E.aout 0 i,λi _=>E.aw 0 i,λi _=>(i:Int)+1⟩
def LnE(D:MD)(w:World)(r:Ending)(w':World):Prop:=Below w.heap.size w w'/\∃sv R,r=.returned (.agg #[.int .i64 D.kind,.int .i64 D.start,.string D.lead,sv])/\OwM w' w.heap.size sv D R
def LnI(E:MD)(w:World)(rb mb:Nat)(i:Nat)(wr:World):Prop :=
 Below w.heap.size w wr/\wr.heap[rb]?=some (.cells #[.int .i64 0,.int .i64 0,.string ⟨#[]⟩,.slice none 0 0] 25 (0,0))/\
 ∃sv R,wr.heap[mb]?=some (.cells #[.int .i64 1,.int .i64 0,.string ⟨#[48]⟩,sv] 25 (0,0))/\OwM wr w.heap.size sv (cpD (Ab E) i) R
def DW{E:MD}{v:Value}(w:World)(hA:ArS none w v E 0)(hn:E.na 0<=1000):Calls prog 43 #[v] w (LnE (Ab E) w):=by
 obtain⟨n,B⟩:=exq<|E.na 0;have g7:∃a c,v=.slice a n c/\n<=c/\c<=maxLen/\(0<n->∃b o,a=some (Ad b o)/\b<w.heap.size/\∀k,k<n->w.cell? (Ad b (o+k*4))=some (.int .i64 (E.ain 0 k))/\w.cell? (Ad b (o+k*4+1))=some (.int .i64 (E.aout 0 k))/\w.cell? (Ad b (o+k*4+2))=some (.string (E.aw 0 k))/\w.cell? (Ad b (o+k*4+3))=some (.int .i64 (E.ato 0 k))):=by
  rcases hA with⟨h0,a,c,hv,hc⟩|⟨b,o,c,hv,h1,h2,h3,h4⟩
  ·exact⟨a,c,by rw[hv,B,h0],by omega,hc,λh=>by omega⟩
  exact⟨_,c,by rw[hv,B],by omega,h3,λ_=>⟨b,o,rfl,h1.1,λk hk=>h4 k (by omega)⟩⟩
 obtain⟨a,c,rfl,g9,g3,I⟩:=g7;unfold maxLen at g3;rw[<-B]at hn;replace I:=qh I;clear hA;obtain⟨w1,a5⟩:=exq<|w.alloc (.cells #[.int .i64 0,.int .i64 0,.string ⟨#[]⟩,.slice none 0 0] 25);obtain⟨w2,b0⟩:=exq<|w1.alloc (.cells #[.int .i64 1,.int .i64 0,.string ⟨#[48]⟩,.slice none 0 0] 25);have f8:w1.heap.size=w.heap.size+1:=by rw[a5];simp
 obtain⟨L,d8⟩:=exq<|w.heap.size;obtain⟨s,d3⟩:=exq<|w.heap.size+1;have e8:Below w.heap.size w w1:=by rw[a5];exact(Below.refl _ w).alloc nlr _
 have Z:Below w1.heap.size w1 w2:=by rw[b0];exact(Below.refl _ w1).alloc nlr _
 have d1:w1.heap[L]?=some (.cells #[.int .i64 0,.int .i64 0,.string ⟨#[]⟩,.slice none 0 0] 25 (0,0)):=by rw[a5,d8];exact han w _
 have e9:=(Z.block _ (lbk d1)).trans d1;have f2:w2.heap[s]?=some (.cells #[.int .i64 1,.int .i64 0,.string ⟨#[48]⟩,.slice none 0 0] 25 (0,0)):=by rw[d3,<-f8,b0];exact han w1 _
 have h0:LnI E w L s 0 w2:=⟨e8.trans (Z.mono (by omega)),e9,.slice none 0 0,λ_=>.slice none 0 0,f2,World.ownsRow_nil _ _ _ _,λi hi=>absurd hi (Nat.not_lt_zero _),λi j hi=>absurd hi (Nat.not_lt_zero _)⟩;have H0:=qh h0;clear h0 d1 e9 f2 e8 Z;have f7:L≠s:=by omega
 have g5:w.heap.size<=L:=by omega
 have f0:w.heap.size<=s:=by omega
 have Q:=qh B;clear B
 go_enter func43,ntmps43
 go_wp2_with fail
 rw[<-a5,<-b0,<-d3,<-d8];clear a5 b0 d8 d3 f8
 go_loopw [4] (λi wr=>∃q:Nat,q<=n/\i=.int .i64 (q:Int)/\LnI E w L s q wr) (λi _=>n-(intOf i).toNat)
 case atStart=>exact⟨0,Nat.zero_le _,rfl,H0.o⟩
 clear H0;obtain⟨q,hq,rfl,m,A,sv,R,l,g⟩:=hrel;by_cases d2:q<n
 ·have g8:(q:Int)<(n:Int):=by omega
  obtain⟨b,o,rfl,a8,hc⟩:=I.o (by omega);obtain⟨k0,k1,k2,k3⟩:=hc q d2;have y0:=(m.cell (p:=(Ad b (o+q*4))) a8).trans k0;have y1:=(m.cell (p:=(Ad b (o+q*4+1))) a8).trans k1;have y2:=(m.cell (p:=(Ad b (o+q*4+2))) a8).trans k2;have y3:=(m.cell (p:=(Ad b (o+q*4+3))) a8).trans k3;clear k0 k1 k2 k3 hc;obtain⟨sa,sc,e6,_,_⟩:=Az g.top;subst e6;have m3:=(cells4 l).1.2.2.2;have mz:=(cells4 l).2 3;have d4:s<wr.heap.size:=lbk l;have d9:L<wr.heap.size:=lbk A;obtain⟨i1,a4,D,F,G⟩:=Cs Eo;obtain⟨W1,a6⟩:=exq<|wr.alloc (.cells #[.int .i64 (E.ain 0 q),.int .i64 (E.aout 0 q),.string (E.aw 0 q),.int .i64 ((q:Int)+1)] 59);obtain⟨O,Y⟩:=exq<|W1.alloc (.cells #[.int .i64 (E.ain 0 q),.int .i64 (E.aout 0 q),.string (E.aw 0 q),.int .i64 ((q:Int)+1)] 59);have e3:W1.heap.size=wr.heap.size+1:=by rw[a6];simp
  have e5:O.heap.size=wr.heap.size+1+1:=by rw[Y];simp[e3]
  have a9:wr.grownBy O none:=by
   have h1:Below wr.heap.size wr O:=by rw[Y,a6];exact((Below.refl _ wr).alloc nlr _).alloc (by simp) _
   exact Ag h1 none
  have a7:Below wr.heap.size wr O:=by rw[Y,a6];exact((Below.refl _ wr).alloc nlr _).alloc (by simp) _
  have e7:O.ownsRow wr.heap.size 59 4 (.slice (some (Ad (wr.heap.size+1) 0)) 1 1) 1 [.int .i64 (E.ain 0 q),.int .i64 (E.aout 0 q),.string (E.aw 0 q),.int .i64 ((q:Int)+1)] :=
   ⟨rfl,.inr ⟨wr.heap.size+1,1,#[.int .i64 (E.ain 0 q),.int .i64 (E.aout 0 q),.string (E.aw 0 q),.int .i64 ((q:Int)+1)],rfl,by omega,by rw[<-e3,Y];exact han W1 _,nlr,by unfold maxLen;omega,rfl,rfl⟩⟩
  have d6:∀o,(O.alloc o).heap[wr.heap.size+1+1]?=some o:=λo=>by rw[<-e5];exact han O o
  have C:O.ownsRow w.heap.size 63 2 (.slice sa q sc) q (cat (st2 (Ab E) R) q):=AJ g.top a9 (λ_ _=>by simp);have B:(Value.slice sa q sc).ownBlock≠some s:=Ao g.top l (by decide);have b1:(Value.slice sa q sc).ownBlock≠some L:=Ao g.top A (by decide);have a2:∀o H,(O.alloc o).grownBy H (Value.slice sa q sc).ownBlock->∀N,N<wr.heap.size->(Value.slice sa q sc).ownBlock≠some N->H.heap[N]?=wr.heap[N]?:=λo H hg N h1 h2 =>
   (hg.block N (by simp;omega) (λe=>h2 e.symm)).trans ((blk_alloc_lt _ _ _ (by omega)).trans (a7.block N h1))
  have a1:w.heap.size<=wr.heap.size:=m.size;have P:=qh a2;clear a2;have T:=qh C;clear C;replace e7:=qh e7;replace a9:=qh a9;replace d6:=qh d6;have b2:=qh m;clear m;replace a7:=qh a7;have b5:=qh A;clear A;have b4:=qh l;clear l;have S:=qh g;clear g;have b6:=qh B;have b7:=qh b1;clear B b1;have b3:=qh a4;have U:=qh D;have W:=qh F;have X:=qh G;clear a4 D F G;have b8:=qh e5;have f9:=qh a6;have g0:=qh Y;clear e3 e5
  go_wp2_with (at_builtin;rw[<-f9.o,<-g0.o];refine wpList_append_lies _ rfl (.tmp 21) (.tmp 25) 23 rfl w.heap.size 63 i1 (.agg #[.string ⟨#[]⟩,.slice none 0 0]) 2 40 underlying23 b3.o U.o W.o X.o rfl (by omega) (.slice sa q sc) q _ (by first|rfl|simp[Act.eval,Act.put]) (World.ownsRow.alloc T.o _) (Ad (wr.heap.size+1+1) 0) 1 1 [.string ⟨#[]⟩,.slice (some (Ad (wr.heap.size+1) 0)) 1 1] (by first|rfl|simp[Act.eval,Act.put]) rfl (Cj (cs:=#[.string ⟨#[]⟩,.slice (some (Ad (wr.heap.size+1) 0)) 1 1]) (d6.o _)) (by intro u hu;simp at hu;rcases hu with rfl|rfl<;>rfl) (by omega) (by unfold maxLen;omega) (by omega) (by have:=b8.o;simp;omega) _ rfl ?_;intro g2 cp H J d g1 f1;have z:=(P.o _ H d s d4 b6.o).trans b4.o;have e4:=(cells4 z).1.2.2.2;have f4:=(cells4 z).2 3)
  have d5:(Ab E).na q=1:=ifp (by rw[<-Q.o];exact d2);have d0:(Ab E).fin q=⟨#[]⟩:=ifn (by rw[<-Q.o];omega);have K:=OwM.push S.o a1 a9.o (v:=.slice (some (Ad (wr.heap.size+1) 0)) 1 1) (by rw[d5];exact e7.o) (by rw[d0];exact J) d;have d7:=K.other (p:=(Ad s 3)) (Ao K.top z (by decide)) (λj hj=>Ao (K.row j hj) z (by decide)) (.slice (some (Ad g2 0)) (q+1) cp);have b9:Below w.heap.size O (H.setCell (Ad s 3) (.slice (some (Ad g2 0)) (q+1) cp)):=(((Below.refl w.heap.size O).alloc (by have:=b8.o;omega) (.cells #[.string ⟨#[]⟩,.slice (some (Ad (wr.heap.size+1) 0)) 1 1] 63)).grown d (by have:=b8.o;simp;omega) (λk hk=>(World.ownsRow.lt S.o.top k hk).1)).setCell (p:=(Ad s 3)) f0 _;refine⟨⟨q+1,by omega,by norm_cast,(b2.o.trans (a7.o.mono a1)).trans b9,?_,_,_,?_,d7⟩,by simp[intOf];omega⟩
  ·exact(AM (p:=(Ad s 3)) f7 _).trans ((P.o _ H d L d9 b7.o).trans b5.o)
  simp[World.setCell,Array.getElem?_modify,z]
 have h5:¬((q:Int)<(n:Int)):=by omega
 have g6:q=n:=by omega
 subst g6;obtain⟨sa,sc,e6,_,_⟩:=Az g.top;subst e6;obtain⟨⟨m0,m1,m2,m3⟩,mz⟩:=cells4 l;have h6:=mz 3;clear mz;have d4:s<wr.heap.size:=lbk l;have d9:L<wr.heap.size:=lbk A;obtain⟨i1,a4,D,F,G⟩:=Cs Eo;have C:wr.ownsRow w.heap.size 63 2 (.slice sa q sc) q (cat (st2 (Ab E) R) q):=g.top;have a2:∀o H,(wr.alloc o).grownBy H (Value.slice sa q sc).ownBlock->∀N,N<wr.heap.size->(Value.slice sa q sc).ownBlock≠some N->H.heap[N]?=wr.heap[N]?:=λo H hg N h1 h2 =>
  (hg.block N (by simp;omega) (λe=>h2 e.symm)).trans (blk_alloc_lt _ _ _ h1)
 have a1:w.heap.size<=wr.heap.size:=m.size;have P:=qh a2;clear a2;have T:=qh C;clear C;have b6:=qh<|Ao g.top l (by decide);have b7:=qh<|Ao g.top A (by decide);have b2:=qh m;clear m;have b5:=qh A;clear A;have b4:=qh l;clear l;have S:=qh g;clear g;have b3:=qh a4;have U:=qh D;have W:=qh F;have X:=qh G;clear a4 D F G d2
 go_wp2_with (at_builtin;refine wpList_append_lies _ rfl (.tmp 29) (.tmp 31) 23 rfl w.heap.size 63 i1 (.agg #[.string ⟨#[]⟩,.slice none 0 0]) 2 40 underlying23 b3.o U.o W.o X.o rfl (by omega) (.slice sa q sc) q _ (by first|rfl|simp[Act.eval,Act.put]) (World.ownsRow.alloc T.o _) (Ad wr.heap.size 0) 1 1 [.string ⟨#[48]⟩,.slice none 0 0] (by first|rfl|simp[Act.eval,Act.put]) rfl (Cj (cs:=#[.string ⟨#[48]⟩,.slice none 0 0]) (han wr _)) (by intro u hu;simp at hu;rcases hu with rfl|rfl<;>rfl) (by omega) (by unfold maxLen;omega) (by omega) (by simp;omega) _ rfl ?_;intro g2 cp H J d g1 f1;have z:=(P.o _ H d s d4 b6.o).trans b4.o;have f3:=(P.o _ H d L d9 b7.o).trans b5.o;obtain⟨⟨e0,e1,e2,e4⟩,ez⟩:=cells4 z;have f4:=ez 3;obtain⟨⟨r0,r1,r2,r3⟩,rz⟩:=cells4 f3;have s0:=rz 0;have s1:=rz 1;have s2:=rz 2;have s3:=rz 3;clear ez rz)
 have d5:(Ab E).na q=0:=ifn (by rw[<-Q.o];omega);have d0:(Ab E).fin q=⟨#[48]⟩:=ifp Q.o;have g4:wr.grownBy wr none:=⟨rfl,rfl,rfl,nlr,λ_ _ _=>rfl⟩;have K:=OwM.push S.o a1 g4 (v:=.slice none 0 0) (by rw[d5];exact World.ownsRow_nil _ _ _ _) (by rw[d0];exact J) d;have d7:=K.other (p:=(Ad s 3)) (Ao K.top z (by decide)) (λj hj=>Ao (K.row j hj) z (by decide)) (.slice (some (Ad g2 0)) (q+1) cp);have b9:Below w.heap.size wr (H.setCell (Ad s 3) (.slice (some (Ad g2 0)) (q+1) cp)):=(((Below.refl w.heap.size wr).alloc a1 (.cells #[.string ⟨#[48]⟩,.slice none 0 0] 63)).grown d (by simp;omega) (λk hk=>(World.ownsRow.lt S.o.top k hk).1)).setCell (p:=(Ad s 3)) f0 _;have f5:(H.setCell (Ad s 3) (.slice (some (Ad g2 0)) (q+1) cp)).heap[L]?=some (.cells #[.int .i64 0,.int .i64 0,.string ⟨#[]⟩,.slice none 0 0] 25 (0,0)):=(AM (p:=(Ad s 3)) f7 _).trans f3;have h9:=d7.box4 f5 (.int .i64 1) (.int .i64 0) (.string ⟨#[48]⟩) (.slice (some (Ad g2 0)) (q+1) cp);rw[show cpD (Ab E) (q+1)=Ab E by rw[Q.o];rfl]at h9;exact bodyPost_ret (Oz rfl _ (b:=L) rfl (AE _ L _ _ _ _ f5)) rfl ⟨Ay (b2.o.trans b9) g5 _ _ _ _,.slice (some (Ad g2 0)) (q+1) cp,_,rfl,h9⟩
end
end Go.Proofs.YtpldocnhbdlgfaaGreatDoor
