/- Parts. -/
import Derived.Test.YtpldocnhbdlgfaaGreatDoorPc28
namespace Go.Proofs.YtpldocnhbdlgfaaGreatDoor
set_option maxRecDepth 100000
set_option linter.all false
set_option maxHeartbeats 16000000
open Go Tryz
section
open Go.RowKit Go.Deep
def seqQ:Nat->Code->Code
 |n+1,.seq _ b=>seqQ n b
 |_,c=>c
def NJ:Nat->Code->Code->Code
 |0,_,x=>x
 |n+1,.seq a b,x=>.seq a (NJ n b x)
 |_,c,_=>c
def fstQ:Code->Code
 | .seq a _=>a
 |c=>c
def sndQ:Code->Code
 | .seq _ b=>b
 |c=>c
def blkQ(n:Nat):Code->Option Code
 | .block m c=>if m==n then some c else blkQ n c
 | .seq a b=>(blkQ n a).or (blkQ n b)
 | .cond _ a b=>(blkQ n a).or (blkQ n b)
 | .loop c=>blkQ n c
 | .scope c=>blkQ n c
 |_=>none
def TN:Code->Code
 | .loop c=>c
 |_=>.skip
noncomputable def w8B(n:Nat):Code:=(((f28).body.bind (blkQ n)).getD .skip)
noncomputable def kB:Code:=seqQ 5 (w8B 9)
set_option maxRecDepth 1000000 in
theorem kmove{D:MD}{na nb:Nat}{x y:Nat->Int}{w wr:World}{mb g n1 n2 i j u v vs cp cx cy:Nat}{a ax ay:Option Addr}{r:Nat->Nat}{s:Nat->Nat->Nat}{X:TbR}{V:Nat->ByteArray}{a1 b1:Int}{Q0:Exit->Act->World->Prop}{u0 u4 u5 u6 u7 u8 u9 s7 s8 s9 t7 J9 K0 t8 t9 v0 v2 v3 v4 v5 v6 v7 v8 v9 w0 w1 w2 w3 w4 w8 w9 x0 x1 x2 x3 x4 x5 x6 x7 x8 x9 y0 y1 y2 y3 y4 y5 y6 y7 y8 y9 z1 z2 z3 z4 z5 z6 z7 z8 z9 A0 A1 A2 A3 A4 A5 A6 A7 A8 A9 B0 B1 B2 B3 B4 B5 B6 B7 B8 B9 C0 C1 C2 C3 C4 C5 C6 C7 C8 a6 a7 a8 a9 b0 b2 b3 b4 b5 b6 b7 b8 b9 d0 d1 d2 d3 d4 d5 d6 d7 d8 d9 e0 e1 e2 e3 e4 e5 e6 e7 e8 e9 f0 f1 f2 f3 f4 f5 f7 f8 f9 g0 g1 g2 g3 g4 g5 g6 g7 g8 g9 h0 h3 h4 E6 E7 E8 E9 F0 F1 F2 F3 F4 F5 F6 F7 F8 F9 G0 G1 G2 G3 G4 G5 G6 G7 G8 G9 H0 H1 H2 H3 H4 H5 H6 H7 H8 H9 I0 I1 I2 I3 I4 I5 I6 I7 h5 h6 h7 h8 h9 i2 i3 i4 i5 i6 i7 i8 i9:Value}
  (HV:Hd (VM D)) (I9:Hd (∀W,Below w.heap.size w W->StS none W (.slice a D.n cp) D)) (J0:Hd (MSz D)) (J4:D.n<=3000) (K6:n1<=201) (K7:n2<=201) (L0:i<n1) (L1:j<n2) (I:i+u<n1) (s3:j+v<n2) (L2:0<u+v)
  (D2:Hd (kR D na x nb y i j u v (X,0)=if (Av D a1 b1 V D.n (zerR D.kind,0)).2≠0 then (X,(Av D a1 b1 V D.n (zerR D.kind,0)).2) else if (sumR D.kind (X (i+u) (j+v)) (Av D a1 b1 V D.n (zerR D.kind,0)).1 D.n).2≠0 then (X,(sumR D.kind (X (i+u) (j+v)) (Av D a1 b1 V D.n (zerR D.kind,0)).1 D.n).2) else (updT X (i+u) (j+v) (sumR D.kind (X (i+u) (j+v)) (Av D a1 b1 V D.n (zerR D.kind,0)).1 D.n).1,0)))
  (D8:Hd (X i j=V)) (r4:Hd (smT X)) (B:Hd (TW wr w.heap.size g n1 n2 D.n r s X)) (r5:Hd (wr.rowIs vs 9 D.n (λp=>.string (V p)))) (L:Hd (BxM wr mb D (.slice a D.n cp))) (p0:Hd (Below w.heap.size w wr))
  (l:Hd (∀(e:List PanicEntry) (a:Act) (d:Option Tmp) (v:Value) (w':World),Q0 (.panic e) (a.put d v) w'->Q0 (.panic e) a w'))
  (r0:Hd (∀(C9 D0 j0 j1 j2 j3 j4 j5 j6 j7 j8 j9 k0 k4 k5 k6 k7 k9 l0 l1 l2 l3 l4 l5 l6 l7 l8 l9 m4 m5 m7 m8 m9 n5 n6 n7 n9 o2 o3 o4 o5 o6 o7 o8:Value) (w':World) (s':Nat->Nat->Nat) (X':TbR),kR D na x nb y i j u v (X,0)=(X',0)->smT X'->TW w' w.heap.size g n1 n2 D.n r s' X'->X' i j=V->w'.rowIs vs 9 D.n (λp=>.string (V p))->BxM w' mb D (.slice a D.n cp)->Below w.heap.size w w'->Q0 .normal ⟨List.toArray (u0::.slice ax na cx::.slice ay nb cy::.pointer (some ⟨mb,0,none⟩)::u4::u5::u6::u7::u8::u9::.slice (some ⟨g,0,none⟩) n1 n1::s7::s8::.int .i64 (i:Int)::.int .i64 (j:Int)::.slice (some ⟨vs,0,none⟩) D.n D.n::s9::t7::.int .i64 (u:Int)::.int .i64 (v:Int)::.int .i64 a1::.int .i64 b1::C9::D0::t8::t9::v0::v2::v3::v4::v5::v6::v7::v8::v9::w0::w1::w2::w3::w4::w8::w9::x0::x1::x2::x3::x4::x5::x6::x7::x8::x9::y0::y1::y2::y3::y4::y5::y6::y7::y8::y9::z1::z2::z3::z4::z5::z6::z7::z8::z9::A0::A1::A2::A3::A4::A5::A6::A7::A8::A9::B0::B1::B2::B3::B4::B5::B6::B7::B8::B9::C0::C1::C2::C3::C4::C5::C6::C7::C8::a6::a7::a8::a9::b0::b2::b3::b4::b5::b6::b7::b8::b9::d0::d1::d2::d3::d4::d5::d6::d7::d8::d9::e0::e1::e2::e3::e4::e5::e6::e7::e8::e9::f0::f1::f2::f3::f4::f5::f7::f8::f9::g0::g1::g2::g3::g4::g5::g6::g7::g8::g9::h0::h3::h4::j0::j1::j2::j3::j4::j5::j6::j7::j8::j9::k0::k4::k5::k6::k7::k9::l0::l1::l2::l3::l4::l5::l6::l7::l8::l9::m4::m5::m7::m8::m9::n5::n6::n7::n9::o2::o3::o4::o5::o6::o7::o8::h5::h6::h7::h8::h9::i2::i3::i4::i5::i6::i7::i8::i9::[]),[]⟩ w'))
  (p9:Hd (∀(C9 D0 j0 j1 j2 j3 j4 j5 j6 j7 j8 j9 k0 k4 k5 k6 k7 k9 l0 l1 l2 l3 l4 l5 l6 l7 l8 l9 m4 m5 m7 m8 m9 n5 n6 n7 n9 o2 o3 o4 o5 o6 o7 o8:Value) (w':World) (e:Nat),(kR D na x nb y i j u v (X,0)).2=e->e≠0->Below w.heap.size w w'->Q0 .ret ⟨List.toArray (u0::.slice ax na cx::.slice ay nb cy::.pointer (some ⟨mb,0,none⟩)::u4::u5::.string ⟨#[]⟩::.int .i64 (e:Int)::u8::u9::.slice (some ⟨g,0,none⟩) n1 n1::s7::s8::.int .i64 (i:Int)::.int .i64 (j:Int)::.slice (some ⟨vs,0,none⟩) D.n D.n::s9::t7::.int .i64 (u:Int)::.int .i64 (v:Int)::.int .i64 a1::.int .i64 b1::C9::D0::t8::t9::v0::v2::v3::v4::v5::v6::v7::v8::v9::w0::w1::w2::w3::w4::w8::w9::x0::x1::x2::x3::x4::x5::x6::x7::x8::x9::y0::y1::y2::y3::y4::y5::y6::y7::y8::y9::z1::z2::z3::z4::z5::z6::z7::z8::z9::A0::A1::A2::A3::A4::A5::A6::A7::A8::A9::B0::B1::B2::B3::B4::B5::B6::B7::B8::B9::C0::C1::C2::C3::C4::C5::C6::C7::C8::a6::a7::a8::a9::b0::b2::b3::b4::b5::b6::b7::b8::b9::d0::d1::d2::d3::d4::d5::d6::d7::d8::d9::e0::e1::e2::e3::e4::e5::e6::e7::e8::e9::f0::f1::f2::f3::f4::f5::f7::f8::f9::g0::g1::g2::g3::g4::g5::g6::g7::g8::g9::h0::h3::h4::j0::j1::j2::j3::j4::j5::j6::j7::j8::j9::k0::k4::k5::k6::k7::k9::l0::l1::l2::l3::l4::l5::l6::l7::l8::l9::m4::m5::m7::m8::m9::n5::n6::n7::n9::o2::o3::o4::o5::o6::o7::o8::h5::h6::h7::h8::h9::i2::i3::i4::i5::i6::i7::i8::i9::[]),[]⟩ w')) :
  Code.wp prog kB Q0 ⟨List.toArray (u0::.slice ax na cx::.slice ay nb cy::.pointer (some ⟨mb,0,none⟩)::u4::u5::u6::u7::u8::u9::.slice (some ⟨g,0,none⟩) n1 n1::s7::s8::.int .i64 (i:Int)::.int .i64 (j:Int)::.slice (some ⟨vs,0,none⟩) D.n D.n::s9::t7::.int .i64 (u:Int)::.int .i64 (v:Int)::.int .i64 a1::.int .i64 b1::J9::K0::t8::t9::v0::v2::v3::v4::v5::v6::v7::v8::v9::w0::w1::w2::w3::w4::w8::w9::x0::x1::x2::x3::x4::x5::x6::x7::x8::x9::y0::y1::y2::y3::y4::y5::y6::y7::y8::y9::z1::z2::z3::z4::z5::z6::z7::z8::z9::A0::A1::A2::A3::A4::A5::A6::A7::A8::A9::B0::B1::B2::B3::B4::B5::B6::B7::B8::B9::C0::C1::C2::C3::C4::C5::C6::C7::C8::a6::a7::a8::a9::b0::b2::b3::b4::b5::b6::b7::b8::b9::d0::d1::d2::d3::d4::d5::d6::d7::d8::d9::e0::e1::e2::e3::e4::e5::e6::e7::e8::e9::f0::f1::f2::f3::f4::f5::f7::f8::f9::g0::g1::g2::g3::g4::g5::g6::g7::g8::g9::h0::h3::h4::E6::E7::E8::E9::F0::F1::F2::F3::F4::F5::F6::F7::F8::F9::G0::G1::G2::G3::G4::G5::G6::G7::G8::G9::H0::H1::H2::H3::H4::H5::H6::H7::H8::H9::I0::I1::I2::I3::I4::I5::I6::I7::h5::h6::h7::h8::h9::i2::i3::i4::i5::i6::i7::i8::i9::[]),[]⟩ wr:=by
 conv=>arg 2;whnf
 have L3:IntKind.i64.wrap ((i:Int)+(u:Int))=((i:Int)+(u:Int)):=by rw[IntKind.wrap_i64];omega
 have L4:IntKind.i64.wrap ((j:Int)+(v:Int))=((j:Int)+(v:Int)):=by rw[IntKind.wrap_i64];omega
 have K8:((i:Int)+(u:Int))<(n1:Int):=by omega
 have K9:((j:Int)+(v:Int))<(n2:Int):=by omega
 have K1:(0:Int)<=((i:Int)+(u:Int)):=by omega
 have K3:(0:Int)<=((j:Int)+(v:Int)):=by omega
 have K2:((i:Int)+(u:Int)).toNat=i+u:=by omega
 have K4:((j:Int)+(v:Int)).toNat=j+v:=by omega
 obtain⟨z,hz⟩:=exq<|Av D a1 b1 V D.n (zerR D.kind,0);have s6:∀p,smS (z.1 p):=by rw[hz];exact Ku D.n (λ_=>El _)
 have a4:=WW (i:=a1) (o:=b1) wr HV.o (I9.o wr p0.o) r5.o (λp=>by rw[<-D8.o];exact r4.o i j p) (λq k=>by have:=J0.o.aw q k;unfold smS;unfold maxLen at this;omega);rw[<-hz]at a4;have D4:=qh a4;clear a4;have r9:=D2.o;rw[<-hz]at r9;have r2:=qh r9;clear r9 D2 hz;replace s6:=qh s6;have m0:=cellOf L.o 0 rfl;have m1:=cellOf L.o 1 rfl;have m2:=cellOf L.o 2 rfl;have m3:=cellOf L.o 3 rfl
 go_wp2_with fail
 refine D4.o.mono ?_;rintro rr w5⟨r8,J5⟩;have Q:=qh<|Fr.of_below (C:=λ_=>False) r8;have P:=qh<|p0.o.trans (r8.mono p0.o.size);clear r8 D4 m0 m1 m2 m3
 rcases J5 with⟨U,gv,rfl,J2,q7⟩|⟨U,rfl⟩
 rotate_left
 ·have E5:¬((z.2:Int)=0):=by omega
  have J7:((z.2:Int)==0)=false:=by simp;omega
  have J8:decide ((z.2:Int)=0)=false:=by simp;omega
  have hw:(kR D na x nb y i j u v (X,0)).2=z.2:=by rw[r2.o,ifp U]
  have HW:=qh hw;clear hw;have E0:=qh U;clear U
  go_wp2_with fail
  exact p9.o _ _ _ _ _ _ _ _ _ _ _ _ _ _ _ _ _ _ _ _ _ _ _ _ _ _ _ _ _ _ _ _ _ _ _ _ _ _ _ _ _ _ _ _ _ _ HW.o E0.o P.o
 have r3:=qh<|r2.o.trans (ifn (by omega));clear r2;have E0:=qh U;have D3:=qh q7;have K5:=qh (show w.heap.size<=gv by have:=p0.o.size;omega);have L5:(z.2:Int)=0:=by omega
 clear U q7 J2;obtain⟨z',p8⟩:=exq<|sumR D.kind (X (i+u) (j+v)) z.1 D.n;have a5:∀p,smS (z'.1 p):=by rw[p8];exact OV _
 obtain⟨G,F⟩:=exq<|r (i+u);obtain⟨sq,s4⟩:=exq<|s (i+u) (j+v);have q9:∀W,Fr (λ_=>False) w5 W->Calls prog 66 #[.int .i64 D.kind,.slice (some ⟨sq,0,none⟩) D.n D.n,.slice (some ⟨gv,0,none⟩) D.n D.n] W (VerE D.n z' W):=λW hf=>by
  rw[p8,s4];exact Xf W J4 ((B.o.new (Q.o.trans hf)).vec _ _ I s3) (hf.row D3.o (λe=>e)) (λp=>r4.o _ _ p) s6.o
 have D5:=qh q9;clear q9;rw[<-p8]at r3;have p7:∀W,Fr (λ_=>False) w5 W->(λwk:World=>wk.cell? (Ad g (i+u))=some (.slice (some ⟨G,0,none⟩) n2 n2)/\wk.cell? (Ad mb 0)=some (.int .i64 D.kind)) W:=λW hf=>⟨by rw[F];exact(B.o.new (Q.o.trans hf)).top.cell I,cellOf (L.o.kept (Q.o.trans hf) (λe=>e)) 0 rfl⟩;replace p7:=qh p7;have Y:∀W,Fr (λ_=>False) w5 W->W.cell? (Ad G (j+v))=some (.slice (some ⟨sq,0,none⟩) D.n D.n)/\W.frozen? (Ad G (j+v))=false:=λW hf=>by
  have h1:=((B.o.new (Q.o.trans hf)).mid _ I).1;rw[F,s4];exact⟨h1.cell s3,h1.frozen _⟩
 replace Y:=qh Y;replace F:=qh F;replace a5:=qh a5;clear s4 p8;obtain⟨wd,s5⟩:=exq<|w5.drew;have p6:=qh (show Fr (λ_=>False) w5 wd by rw[s5];exact Fr.of_below ((Below.refl w5.heap.size w5).drew))
 go_wp2_with fail
 have m:=p7.o wd p6.o;refine AD (λwk:World=>wk.cell? (Ad g (i+u))=some (.slice (some ⟨G,0,none⟩) n2 n2)/\wk.cell? (Ad mb 0)=some (.int .i64 D.kind)) 29 (by kernel_rfl) ?_;rw[<-s5];clear s5;refine Aa.tm 0 m ?_ (hQ:=λ_ _ _ h=>l.o _ _ _ _ _ h);refine Aa.tm 1 m ?_ (hQ:=λ_ _ _ h=>l.o _ _ _ _ _ h);refine Aa.tm 2 m ?_ (hQ:=λ_ _ _ h=>l.o _ _ _ _ _ h);refine Aa.tm 3 m ?_ (hQ:=λ_ _ _ h=>l.o _ _ _ _ _ h);refine Aa.tm 4 m ?_ (hQ:=λ_ _ _ h=>l.o _ _ _ _ _ h);refine Aa.tm 5 m ?_ (hQ:=λ_ _ _ h=>l.o _ _ _ _ _ h);refine Aa.tm 6 m ?_ (hQ:=λ_ _ _ h=>l.o _ _ _ _ _ h);refine Aa.tm 7 m ?_ (hQ:=λ_ _ _ h=>l.o _ _ _ _ _ h);refine Aa.tm 8 m ?_ (hQ:=λ_ _ _ h=>l.o _ _ _ _ _ h);refine Aa.tm 9 m ?_ (hQ:=λ_ _ _ h=>l.o _ _ _ _ _ h);refine Aa.tm 10 m ?_ (hQ:=λ_ _ _ h=>l.o _ _ _ _ _ h);refine Aa.tm 11 m ?_ (hQ:=λ_ _ _ h=>l.o _ _ _ _ _ h);refine Aa.tm 12 m ?_ (hQ:=λ_ _ _ h=>l.o _ _ _ _ _ h);refine Aa.tm 13 m ?_ (hQ:=λ_ _ _ h=>l.o _ _ _ _ _ h);refine Aa.tm 14 m ?_ (hQ:=λ_ _ _ h=>l.o _ _ _ _ _ h);refine Aa.tm 15 m ?_ (hQ:=λ_ _ _ h=>l.o _ _ _ _ _ h);refine Aa.tm 16 m ?_ (hQ:=λ_ _ _ h=>l.o _ _ _ _ _ h);refine Aa.tm 17 m ?_ (hQ:=λ_ _ _ h=>l.o _ _ _ _ _ h);refine Aa.tm 18 m ?_ (hQ:=λ_ _ _ h=>l.o _ _ _ _ _ h);refine Aa.tm 19 m ?_ (hQ:=λ_ _ _ h=>l.o _ _ _ _ _ h);refine Aa.tm 20 m ?_ (hQ:=λ_ _ _ h=>l.o _ _ _ _ _ h)
 try simp only[Act.put,tryL]
 refine Aa.tm 22 m ?_ (hQ:=λ_ _ _ h=>l.o _ _ _ _ _ h)
 try simp only[Act.put,tryL]
 have J1:=(Y.o wd p6.o).1;refine Aa.on 21 λK E=>?_;go_simp;refine E.out _ _ (.inr m) ?_;clear E K J1
 try simp only[Act.put,tryL]
 refine Aa.on 23 λK E=>?_;go_simp;refine(D5.o wd p6.o).mono ?_;rintro rr w6⟨E2,J6⟩;have J:=qh<|p6.o.trans (Fr.of_below E2);have A:=p7.o w6 J.o;clear E2 m D5
 rcases J6 with⟨O,gw,rfl,J3,q8⟩|⟨O,rfl⟩
 rotate_left
 ·refine E.out _ _ (.inr A) ?_;clear E K
  try simp only[Act.put,tryL]
  refine Aa.on 24 λK E=>?_;go_simp;refine E.out _ _ (.inr A) ?_;clear E K
  try simp only[Act.put,tryL]
  refine Aa.tm 25 A ?_ (hQ:=λ_ _ _ h=>l.o _ _ _ _ _ h);refine Aa.tm 26 A ?_ (hQ:=λ_ _ _ h=>l.o _ _ _ _ _ h);refine Aa.tm 27 A ?_ (hQ:=λ_ _ _ h=>l.o _ _ _ _ _ h)
  try simp only[Act.put,tryL]
  obtain⟨r6,r7⟩:=Y.o w6 J.o;refine Aa.on 28 λK E=>?_;go_simp;have Z:w.heap.size<=G:=by rw[F.o];exact(B.o.mid _ I).2
  have a2:g≠G:=by rw[F.o];exact Cj B.o.top (B.o.mid _ I).1 (by decide)
  have T:mb≠G:=λe=>by
   obtain⟨c,h1,_⟩:=(B.o.mid _ I).1;have h2:=L.o;unfold BxM at h2;rw[e,F.o,h1]at h2;simp at h2
  have H:Fr (λc=>c=G) w6 (w6.setCell (Ad G (j+v)) (.slice none 0 0)):=(Fr.refl (λc=>c=G) w6).set (p:=(Ad G (j+v))) (.inl rfl) _;have S:(λwk:World=>wk.cell? (Ad g (i+u))=some (.slice (some ⟨G,0,none⟩) n2 n2)/\wk.cell? (Ad mb 0)=some (.int .i64 D.kind)) (w6.setCell (Ad G (j+v)) (.slice none 0 0)):=⟨H.cell A.1 a2,H.cell A.2 T⟩;have o9:=qh ((P.o.trans (J.o.below P.o.size (λ_ e=>e.elim))).trans (H.below (Nat.le_trans P.o.size J.o.size) (λc e=>by rw[e];exact Z)));obtain⟨w7,N⟩:=exq<|w6.setCell ⟨G,j+v,none⟩ (.slice none 0 0);rw[<-N]at S o9;rw[<-N];clear N H a2 T Z r6 r7;refine E.out _ _ (.inr S) ?_;clear E K
  try simp only[Act.put,tryL]
  refine Aa.on 29 λK E=>?_;go_simp;refine E.out _ _ (.inl rfl) (Aa.dn ?_);clear E K S;have E5:¬((z'.2:Int)=0):=by omega
  have J7:((z'.2:Int)==0)=false:=by simp;omega
  have J8:decide ((z'.2:Int)=0)=false:=by simp;omega
  have hw:(kR D na x nb y i j u v (X,0)).2=z'.2:=by rw[r3.o,ifp O]
  have HW:=qh hw;clear hw;have E1:=qh O;clear O
  go_wp2_with fail
  exact p9.o _ _ _ _ _ _ _ _ _ _ _ _ _ _ _ _ _ _ _ _ _ _ _ _ _ _ _ _ _ _ _ _ _ _ _ _ _ _ _ _ _ _ _ _ _ _ HW.o E1.o o9.o
 refine E.out _ _ (.inr A) ?_;clear E K
 try simp only[Act.put,tryL]
 refine Aa.on 24 λK E=>?_;go_simp;refine E.out _ _ (.inr A) ?_;clear E K
 try simp only[Act.put,tryL]
 refine Aa.tm 25 A ?_ (hQ:=λ_ _ _ h=>l.o _ _ _ _ _ h);refine Aa.tm 26 A ?_ (hQ:=λ_ _ _ h=>l.o _ _ _ _ _ h);refine Aa.tm 27 A ?_ (hQ:=λ_ _ _ h=>l.o _ _ _ _ _ h)
 try simp only[Act.put,tryL]
 obtain⟨r6,r7⟩:=Y.o w6 J.o;refine Aa.on 28 λK E=>?_;go_simp;have Z:w.heap.size<=G:=by rw[F.o];exact(B.o.mid _ I).2
 have a2:g≠G:=by rw[F.o];exact Cj B.o.top (B.o.mid _ I).1 (by decide)
 have T:mb≠G:=λe=>by
  obtain⟨c,h1,_⟩:=(B.o.mid _ I).1;have h2:=L.o;unfold BxM at h2;rw[e,F.o,h1]at h2;simp at h2
 have E3:vs≠G:=by rw[F.o];exact Cj r5.o (B.o.mid _ I).1 (by decide)
 have R:=(B.o.new (Q.o.trans J.o)).put I s3 q8;rw[<-F.o]at R;obtain⟨w7,N⟩:=exq<|w6.setCell ⟨G,j+v,none⟩ (.slice (some ⟨gw,0,none⟩) D.n D.n);have H:Fr (λc=>c=G) w6 w7:=by rw[N];exact(Fr.refl (λc=>c=G) w6).set (p:=(Ad G (j+v))) (.inl rfl) _
 have S:(λwk:World=>wk.cell? (Ad g (i+u))=some (.slice (some ⟨G,0,none⟩) n2 n2)/\wk.cell? (Ad mb 0)=some (.int .i64 D.kind)) w7:=⟨H.cell A.1 a2,H.cell A.2 T⟩;rw[<-N]at R;have D6:=qh R;have o9:=qh ((P.o.trans (J.o.below P.o.size (λ_ e=>e.elim))).trans (H.below (Nat.le_trans P.o.size J.o.size) (λc e=>by rw[e];exact Z)));have D1:=qh<|(L.o.kept (Q.o.trans J.o) (λe=>e)).kept H T;have D7:=qh<|H.row ((Q.o.trans J.o).row r5.o (λe=>e)) E3;rw[<-N];clear N H a2 T Z E3 R q8 r6 r7 J3;refine E.out _ _ (.inr S) ?_;clear E K
 try simp only[Act.put,tryL]
 refine Aa.on 29 λK E=>?_;go_simp;refine E.out _ _ (.inl rfl) (Aa.dn ?_);clear E K S;have E5:(z'.2:Int)=0:=by omega
 have I8:=qh<|r3.o.trans (ifn (by omega));have E4:updT X (i+u) (j+v) z'.1 i j=V:=by unfold updT;rw[ifn (by omega)];exact D8.o
 have D9:=qh E4;clear O E4
 go_wp2_with fail
 exact r0.o _ _ _ _ _ _ _ _ _ _ _ _ _ _ _ _ _ _ _ _ _ _ _ _ _ _ _ _ _ _ _ _ _ _ _ _ _ _ _ _ _ _ _ _ _ _ _ I8.o (r4.o.upd a5.o) D6.o D9.o D7.o D1.o o9.o
noncomputable def kLG:Code:=TN<|w8B 8
set_option maxRecDepth 1000000 in
theorem Vk:Code.seq (fstQ kLG) (Code.seq (.block 9 (NJ 5 (w8B 9) kB)) (sndQ (sndQ kLG)))=kLG:=by kernel_rfl
set_option maxRecDepth 1000000 in
theorem Tx{D:MD}{na nb:Nat}{x y:Nat->Int}{w wr:World}{mb g n1 n2 i j vs cp cx cy bx ox e7 oy:Nat}{a ax ay:Option Addr}{r:Nat->Nat}{s:Nat->Nat->Nat}{X:TbR}{V:Nat->ByteArray}{z2:TbR × Nat}{E:Nat->Prop}{Q0:Exit->Act->World->Prop}{u0 u4 u5 u6 u7 u8 u9 s6 s7 s8 N1 N2 N3 N4 N5 N6 s9 t7 t8 t9 v0 v2 v3 v4 v5 v8 v9 w0 w1 w3 w4 w5 w6 w7 w8 w9 x0 x1 x2 x3 x4 x5 x6 x7 x8 x9 y0 y1 y2 y3 y4 y5 y6 y7 y8 y9 z1 z3 z4 z5 z6 z7 z8 z9 A0 A1 A2 A3 A4 A5 A6 A7 A8 A9 B0 B1 B2 B3 B4 B5 B6 B7 B8 B9 C0 C1 C2 C3 C4 C5 C6 C7 g4 g5 g6 g7 g8 g9 h0 h8 h9 i2 i3 i4 i5 i6 i7 i8 i9 j0 j1 j2 j3 E9 F0 F1 F2 F3 F4 F5 F6 F7 F8 F9 G0 G1 G2 G3 G4 G5 G6 G7 G8 G9 H0 H1 H8 H9 I0 I1 I2 I3 I4 I5 I6 I7 I8 I9 J0 J1 J2 J3 J4 J5 J6 J7 J8 J9 K0 K1 K2 K3 K4 K5 K6 K7 K8 K9 L0 L1 L2 L3 L4 L5 L6 L7 L8 L9 M0 M1 M2 M3 M4 M5 M6 M7 M8 M9 N0 j4 j5 j6 j7 j8 j9 k0 k4 k5 k6 k7 k9 l0:Value}
  (HV:Hd (VM D)) (r2:Hd (∀W,Below w.heap.size w W->StS none W (.slice a D.n cp) D)) (r3:Hd (MSz D)) (s3:D.n<=3000) (q8:Hd (n1=na+1)) (q9:Hd (n2=nb+1)) (r8:n1<=201) (r9:n2<=201) (s4:i<n1) (s5:j<n2)
  (D2:Hd (0<na->ax=some ⟨bx,ox,none⟩)) (D4:Hd (0<na->bx<w.heap.size/\some bx≠none)) (D5:Hd (∀i,i<na->w.cell? (Ad bx (ox+i))=some (.int .i64 (x i)))) (D3:Hd (0<nb->ay=some ⟨e7,oy,none⟩)) (D6:Hd (0<nb->e7<w.heap.size/\some e7≠none)) (D7:Hd (∀i,i<nb->w.cell? (Ad e7 (oy+i))=some (.int .i64 (y i))))
  (e9:Hd (∀k e,k<=4->(mvR D na x nb y i j k z2).2=e->e≠0->E e)) (e3:Hd (z2=(X,0)))
  (o:Hd (X i j=V)) (d5:Hd (smT X)) (d6:Hd (TW wr w.heap.size g n1 n2 D.n r s X)) (d7:Hd (wr.rowIs vs 9 D.n (λp=>.string (V p)))) (d4:Hd (BxM wr mb D (.slice a D.n cp))) (l:Hd (Below w.heap.size w wr))
  (f2:Hd (∀(e:List PanicEntry) (a:Act) (d:Option Tmp) (v:Value) (w':World),Q0 (.panic e) (a.put d v) w'->Q0 (.panic e) a w'))
  (r0:Hd (∀(v6 v7 e6 C8 C9 D0 D1 e0 e1 l1 l2 l3 l4 l5 l6 l7 l8 l9 m2 m3 m4 m5 m7 m8 m9 n5 n6 n7 n9 o2 o3 o4 o5 o6 o7 o8 o9 p0 p6 p7 p8 p9 q7 A B C F G H I J K L N O P Q R S T U Y Z a1 a2 a4 a5 a6 a7 a8 a9 b0 b1 b2 b3 b4 b5 b6 b7 b8 b9 d0 d1 d2 d3:Value) (w':World) (s':Nat->Nat->Nat) (X':TbR),mvR D na x nb y i j 4 z2=(X',0)->smT X'->TW w' w.heap.size g n1 n2 D.n r s' X'->BxM w' mb D (.slice a D.n cp)->Below w.heap.size w w'->Q0 (.exit 8) ⟨List.toArray (u0::.slice ax na cx::.slice ay nb cy::.pointer (some ⟨mb,0,none⟩)::u4::u5::v6::v7::u8::u9::.slice (some ⟨g,0,none⟩) n1 n1::s6::s7::.int .i64 (i:Int)::.int .i64 (j:Int)::.slice (some ⟨vs,0,none⟩) D.n D.n::s8::e6::C8::C9::D0::D1::e0::e1::s9::t7::t8::t9::v0::v2::v3::v4::v5::v8::v9::w0::w1::w3::w4::w5::w6::w7::w8::w9::x0::x1::x2::x3::x4::x5::x6::x7::x8::x9::y0::y1::y2::y3::y4::y5::y6::y7::y8::y9::z1::z3::z4::z5::z6::z7::z8::z9::A0::A1::A2::A3::A4::A5::A6::A7::A8::A9::B0::B1::B2::B3::B4::B5::B6::B7::B8::B9::C0::C1::C2::C3::C4::C5::C6::C7::g4::g5::g6::g7::g8::g9::h0::h8::h9::i2::i3::i4::i5::i6::i7::i8::i9::j0::j1::j2::j3::l1::l2::l3::l4::l5::l6::l7::l8::l9::m2::m3::m4::m5::m7::m8::m9::n5::n6::n7::n9::o2::o3::o4::o5::o6::o7::o8::o9::p0::p6::p7::p8::p9::q7::A::B::C::F::G::H::I::J::K::L::N::O::P::Q::R::S::T::U::Y::Z::a1::a2::a4::a5::a6::a7::a8::a9::b0::b1::b2::b3::b4::b5::b6::b7::b8::b9::d0::d1::d2::d3::j4::j5::j6::j7::j8::j9::k0::k4::k5::k6::k7::k9::l0::[]),[]⟩ w'))
  (f3:Hd (∀(e6 C8 C9 D0 D1 e0 e1 l1 l2 l3 l4 l5 l6 l7 l8 l9 m2 m3 m4 m5 m7 m8 m9 n5 n6 n7 n9 o2 o3 o4 o5 o6 o7 o8 o9 p0 p6 p7 p8 p9 q7 A B C F G H I J K L N O P Q R S T U Y Z a1 a2 a4 a5 a6 a7 a8 a9 b0 b1 b2 b3 b4 b5 b6 b7 b8 b9 d0 d1 d2 d3:Value) (w':World) (e:Nat),E e->Below w.heap.size w w'->Q0 .ret ⟨List.toArray (u0::.slice ax na cx::.slice ay nb cy::.pointer (some ⟨mb,0,none⟩)::u4::u5::.string ⟨#[]⟩::.int .i64 (e:Int)::u8::u9::.slice (some ⟨g,0,none⟩) n1 n1::s6::s7::.int .i64 (i:Int)::.int .i64 (j:Int)::.slice (some ⟨vs,0,none⟩) D.n D.n::s8::e6::C8::C9::D0::D1::e0::e1::s9::t7::t8::t9::v0::v2::v3::v4::v5::v8::v9::w0::w1::w3::w4::w5::w6::w7::w8::w9::x0::x1::x2::x3::x4::x5::x6::x7::x8::x9::y0::y1::y2::y3::y4::y5::y6::y7::y8::y9::z1::z3::z4::z5::z6::z7::z8::z9::A0::A1::A2::A3::A4::A5::A6::A7::A8::A9::B0::B1::B2::B3::B4::B5::B6::B7::B8::B9::C0::C1::C2::C3::C4::C5::C6::C7::g4::g5::g6::g7::g8::g9::h0::h8::h9::i2::i3::i4::i5::i6::i7::i8::i9::j0::j1::j2::j3::l1::l2::l3::l4::l5::l6::l7::l8::l9::m2::m3::m4::m5::m7::m8::m9::n5::n6::n7::n9::o2::o3::o4::o5::o6::o7::o8::o9::p0::p6::p7::p8::p9::q7::A::B::C::F::G::H::I::J::K::L::N::O::P::Q::R::S::T::U::Y::Z::a1::a2::a4::a5::a6::a7::a8::a9::b0::b1::b2::b3::b4::b5::b6::b7::b8::b9::d0::d1::d2::d3::j4::j5::j6::j7::j8::j9::k0::k4::k5::k6::k7::k9::l0::[]),[]⟩ w')) :
  Code.wp prog (Code.loop kLG) Q0 ⟨List.toArray (u0::.slice ax na cx::.slice ay nb cy::.pointer (some ⟨mb,0,none⟩)::u4::u5::u6::u7::u8::u9::.slice (some ⟨g,0,none⟩) n1 n1::s6::s7::.int .i64 (i:Int)::.int .i64 (j:Int)::.slice (some ⟨vs,0,none⟩) D.n D.n::s8::.int .i64 1::N1::N2::N3::N4::N5::N6::s9::t7::t8::t9::v0::v2::v3::v4::v5::v8::v9::w0::w1::w3::w4::w5::w6::w7::w8::w9::x0::x1::x2::x3::x4::x5::x6::x7::x8::x9::y0::y1::y2::y3::y4::y5::y6::y7::y8::y9::z1::z3::z4::z5::z6::z7::z8::z9::A0::A1::A2::A3::A4::A5::A6::A7::A8::A9::B0::B1::B2::B3::B4::B5::B6::B7::B8::B9::C0::C1::C2::C3::C4::C5::C6::C7::g4::g5::g6::g7::g8::g9::h0::h8::h9::i2::i3::i4::i5::i6::i7::i8::i9::j0::j1::j2::j3::E9::F0::F1::F2::F3::F4::F5::F6::F7::F8::F9::G0::G1::G2::G3::G4::G5::G6::G7::G8::G9::H0::H1::H8::H9::I0::I1::I2::I3::I4::I5::I6::I7::I8::I9::J0::J1::J2::J3::J4::J5::J6::J7::J8::J9::K0::K1::K2::K3::K4::K5::K6::K7::K8::K9::L0::L1::L2::L3::L4::L5::L6::L7::L8::L9::M0::M1::M2::M3::M4::M5::M6::M7::M8::M9::N0::j4::j5::j6::j7::j8::j9::k0::k4::k5::k6::k7::k9::l0::[]),[]⟩ wr:=by
 conv=>arg 2;arg 1;whnf
 go_loopw [17] (λe6 wr=>∃m:Nat,1<=m/\m<=4/\e6=.int .i64 (m:Int)/\(∃s X,mvR D na x nb y i j m z2=(X,0)/\smT X/\TW wr w.heap.size g n1 n2 D.n r s X/\X i j=V)/\wr.rowIs vs 9 D.n (λp=>.string (V p))/\BxM wr mb D (.slice a D.n cp)/\Below w.heap.size w wr) (λe6 _=>4-(intOf e6).toNat)
 case atStart=>exact⟨1,nlr,by omega,rfl,⟨s,X,e3.o,d5.o,d6.o,o.o⟩,d7.o,d4.o,l.o⟩
 obtain⟨m,O1,O2,rfl,⟨s,X,D8,E5,E6,E8⟩,E7,E0,D9⟩:=hrel;clear d6 e3 d5 o d7 d4 l;have d6:=qh E6;clear E6;have e3:=qh D8;clear D8;have d5:=qh E5;clear E5;have o:=qh E8;clear E8;have d7:=qh E7;clear E7;have d4:=qh E0;clear E0;have l:=qh D9;clear D9;have O3:IntKind.i64.wrap ((i:Int)+1)=(i:Int)+1:=by rw[IntKind.wrap_i64];omega
 have O4:IntKind.i64.wrap ((j:Int)+1)=(j:Int)+1:=by rw[IntKind.wrap_i64];omega
 have N9:IntKind.i64.wrap (i:Int)=(i:Int):=by rw[IntKind.wrap_i64];omega
 have O0:IntKind.i64.wrap (j:Int)=(j:Int):=by rw[IntKind.wrap_i64];omega
 have N7:i<=na:=by have:=q8.o;omega
 have N8:j<=nb:=by have:=q9.o;omega
 change Code.wp prog kLG _ _ _;rw[<-Vk];obtain⟨XX,e8⟩:=exq<|kB;rw[<-e8];replace e8:=qh e8
 conv=>arg 2;arg 1;whnf
 conv=>arg 2;arg 2;arg 1;arg 2;whnf
 conv=>arg 2;arg 2;arg 1;arg 2;arg 2;whnf
 conv=>arg 2;arg 2;arg 1;arg 2;arg 2;arg 2;whnf
 conv=>arg 2;arg 2;arg 1;arg 2;arg 2;arg 2;arg 2;whnf
 conv=>arg 2;arg 2;arg 1;arg 2;arg 2;arg 2;arg 2;arg 2;whnf
 conv=>arg 2;arg 2;arg 1;arg 2;arg 2;arg 2;arg 2;arg 2;arg 2;whnf
 conv=>arg 2;arg 2;arg 2;whnf
 rcases (show m=1\/m=2\/m=3\/m=4 by omega) with rfl|rfl|rfl|rfl
 ·skip
  have f4:bits .and .i64 (1:Int) 1=1:=by decide +kernel
  have d9:mvR D na x nb y i j 2 z2=kR D na x nb y i j 1 0 (mvR D na x nb y i j 1 z2):=rfl;rw[e3.o]at d9;have z:=qh d9;clear d9;by_cases g2:na<i+1
  ·have c:=z.o.trans<|ifp (.inr (.inl g2));have d8:=qh c;clear c;have f5:decide ((na:Int)<((i:Int)+1))=true:=by simp;omega
   have f7:(na:Int)<((i:Int)+1):=by omega
   go_wp2;go_roundw
   case rel=>exact⟨2,by omega,by omega,by go_num,⟨s,X,d8.o,d5.o,d6.o,o.o⟩,d7.o,d4.o,l.o⟩
   simp[intOf]
  have f5:decide ((na:Int)<((i:Int)+1))=false:=by simp;omega
  have f7:¬((na:Int)<((i:Int)+1)):=by omega
  by_cases g3:nb<j+0
  ·have c:=z.o.trans<|ifp (.inr (.inr g3));have d8:=qh c;clear c;have f8:decide ((nb:Int)<(j:Int))=true:=by simp;omega
   have f9:(nb:Int)<(j:Int):=by omega
   go_wp2;go_roundw
   case rel=>exact⟨2,by omega,by omega,by go_num,⟨s,X,d8.o,d5.o,d6.o,o.o⟩,d7.o,d4.o,l.o⟩
   simp[intOf]
  have f8:decide ((nb:Int)<(j:Int))=false:=by simp;omega
  have f9:¬((nb:Int)<(j:Int)):=by omega
  have g0:i+1<n1:=by have:=q8.o;omega
  have g1:j+0<n2:=by have:=q9.o;omega
  obtain rfl:=D2.o (by omega);have r6:=(l.o.cell (p:=(Ad bx (ox+i))) (D4.o (by omega)).1).trans (D5.o i (by omega));have E2:(i:Int)<(na:Int):=by omega
  have E1:(0:Int)<=(i:Int):=by omega
  obtain⟨xi,e4⟩:=exq<|x i;rw[<-e4]at r6;have r4:=qh e4;clear e4;have e2:kR D na x nb y i j 1 0 (X,0)=if (Av D xi 0 V D.n (zerR D.kind,0)).2≠0 then (X,(Av D xi 0 V D.n (zerR D.kind,0)).2) else if (sumR D.kind (X (i+1) (j+0)) (Av D xi 0 V D.n (zerR D.kind,0)).1 D.n).2≠0 then (X,(sumR D.kind (X (i+1) (j+0)) (Av D xi 0 V D.n (zerR D.kind,0)).1 D.n).2) else (updT X (i+1) (j+0) (sumR D.kind (X (i+1) (j+0)) (Av D xi 0 V D.n (zerR D.kind,0)).1 D.n).1,0):=by
   unfold kR;rw[ifn (show ¬((0:Nat)≠0\/na<i+1\/nb<j+0) by omega)];rw[r4.o];rw[<-o.o];rfl
  have f1:=qh e2;clear e2
  go_wp2_with fail
  rw[e8.o];refine kmove (u:=1) (v:=0) HV r2 r3 s3 r8 r9 s4 s5 g0 g1 (by omega) f1 o d5 d6 d7 d4 l (qh ?xd) (qh ?xa) (qh ?xh)
  case xd=>exact λe a d v w h=>f2.o e a d v w h
  case xa =>
   intro e0 e1 A B C F G H I J K L N O P Q R S T U Y Z a1 a2 a4 a5 a6 a7 a8 a9 b0 b1 b2 b3 b4 b5 b6 b7 b8 b9 d0 d1 d2 d3 w2 s2 X2 h1 h2 h3 h4 h5 h6 h7;have f0:=qh<|z.o.trans h1;clear h1;have H2:=qh h2;clear h2;have H3:=qh h3;clear h3;have H4:=qh h4;clear h4;have H5:=qh h5;clear h5;have H6:=qh h6;clear h6;have H7:=qh h7;clear h7;go_wp2;go_roundw
   case rel=>exact⟨2,by omega,by omega,by go_num,⟨s2,X2,f0.o,H2.o,H3.o,H4.o⟩,H5.o,H6.o,H7.o⟩
   simp[intOf]
  case xh =>
   intro e0 e1 A B C F G H I J K L N O P Q R S T U Y Z a1 a2 a4 a5 a6 a7 a8 a9 b0 b1 b2 b3 b4 b5 b6 b7 b8 b9 d0 d1 d2 d3 w2 e h1 h2 h3;have hw:=e9.o 2 e (by omega) (by rw[z.o];exact h1) h2;exact f3.o _ _ _ _ _ _ _ _ _ _ _ _ _ _ _ _ _ _ _ _ _ _ _ _ _ _ _ _ _ _ _ _ _ _ _ _ _ _ _ _ _ _ _ _ _ _ _ _ _ _ _ _ _ _ _ _ _ _ _ _ _ _ _ _ _ _ _ _ _ _ _ _ _ _ _ _ _ _ _ _ _ _ _ _ _ hw h3
 ·skip
  have f4:bits .and .i64 (2:Int) 1=0:=by decide +kernel
  have d9:mvR D na x nb y i j 3 z2=kR D na x nb y i j 0 1 (mvR D na x nb y i j 2 z2):=rfl;rw[e3.o]at d9;have z:=qh d9;clear d9;by_cases g2:na<i+0
  ·have c:=z.o.trans<|ifp (.inr (.inl g2));have d8:=qh c;clear c;have f5:decide ((na:Int)<(i:Int))=true:=by simp;omega
   have f7:(na:Int)<(i:Int):=by omega
   go_wp2;go_roundw
   case rel=>exact⟨3,by omega,by omega,by go_num,⟨s,X,d8.o,d5.o,d6.o,o.o⟩,d7.o,d4.o,l.o⟩
   simp[intOf]
  have f5:decide ((na:Int)<(i:Int))=false:=by simp;omega
  have f7:¬((na:Int)<(i:Int)):=by omega
  by_cases g3:nb<j+1
  ·have c:=z.o.trans<|ifp (.inr (.inr g3));have d8:=qh c;clear c;have f8:decide ((nb:Int)<((j:Int)+1))=true:=by simp;omega
   have f9:(nb:Int)<((j:Int)+1):=by omega
   go_wp2;go_roundw
   case rel=>exact⟨3,by omega,by omega,by go_num,⟨s,X,d8.o,d5.o,d6.o,o.o⟩,d7.o,d4.o,l.o⟩
   simp[intOf]
  have f8:decide ((nb:Int)<((j:Int)+1))=false:=by simp;omega
  have f9:¬((nb:Int)<((j:Int)+1)):=by omega
  have g0:i+0<n1:=by have:=q8.o;omega
  have g1:j+1<n2:=by have:=q9.o;omega
  obtain rfl:=D3.o (by omega);have r7:=(l.o.cell (p:=(Ad e7 (oy+j))) (D6.o (by omega)).1).trans (D7.o j (by omega));have E4:(j:Int)<(nb:Int):=by omega
  have E3:(0:Int)<=(j:Int):=by omega
  obtain⟨yj,e5⟩:=exq<|y j;rw[<-e5]at r7;have r5:=qh e5;clear e5;have e2:kR D na x nb y i j 0 1 (X,0)=if (Av D 0 yj V D.n (zerR D.kind,0)).2≠0 then (X,(Av D 0 yj V D.n (zerR D.kind,0)).2) else if (sumR D.kind (X (i+0) (j+1)) (Av D 0 yj V D.n (zerR D.kind,0)).1 D.n).2≠0 then (X,(sumR D.kind (X (i+0) (j+1)) (Av D 0 yj V D.n (zerR D.kind,0)).1 D.n).2) else (updT X (i+0) (j+1) (sumR D.kind (X (i+0) (j+1)) (Av D 0 yj V D.n (zerR D.kind,0)).1 D.n).1,0):=by
   unfold kR;rw[ifn (show ¬((0:Nat)≠0\/na<i+0\/nb<j+1) by omega)];rw[r5.o];rw[<-o.o];rfl
  have f1:=qh e2;clear e2
  go_wp2_with fail
  rw[e8.o];refine kmove (u:=0) (v:=1) HV r2 r3 s3 r8 r9 s4 s5 g0 g1 (by omega) f1 o d5 d6 d7 d4 l (qh ?xf) (qh ?xb) (qh ?xj)
  case xf=>exact λe a d v w h=>f2.o e a d v w h
  case xb =>
   intro e0 e1 A B C F G H I J K L N O P Q R S T U Y Z a1 a2 a4 a5 a6 a7 a8 a9 b0 b1 b2 b3 b4 b5 b6 b7 b8 b9 d0 d1 d2 d3 w2 s2 X2 h1 h2 h3 h4 h5 h6 h7;have f0:=qh<|z.o.trans h1;clear h1;have H2:=qh h2;clear h2;have H3:=qh h3;clear h3;have H4:=qh h4;clear h4;have H5:=qh h5;clear h5;have H6:=qh h6;clear h6;have H7:=qh h7;clear h7;go_wp2;go_roundw
   case rel=>exact⟨3,by omega,by omega,by go_num,⟨s2,X2,f0.o,H2.o,H3.o,H4.o⟩,H5.o,H6.o,H7.o⟩
   simp[intOf]
  case xj =>
   intro e0 e1 A B C F G H I J K L N O P Q R S T U Y Z a1 a2 a4 a5 a6 a7 a8 a9 b0 b1 b2 b3 b4 b5 b6 b7 b8 b9 d0 d1 d2 d3 w2 e h1 h2 h3;have hw:=e9.o 3 e (by omega) (by rw[z.o];exact h1) h2;exact f3.o _ _ _ _ _ _ _ _ _ _ _ _ _ _ _ _ _ _ _ _ _ _ _ _ _ _ _ _ _ _ _ _ _ _ _ _ _ _ _ _ _ _ _ _ _ _ _ _ _ _ _ _ _ _ _ _ _ _ _ _ _ _ _ _ _ _ _ _ _ _ _ _ _ _ _ _ _ _ _ _ _ _ _ _ _ hw h3
 ·skip
  have f4:bits .and .i64 (3:Int) 1=1:=by decide +kernel
  have d9:mvR D na x nb y i j 4 z2=kR D na x nb y i j 1 1 (mvR D na x nb y i j 3 z2):=rfl;rw[e3.o]at d9;have z:=qh d9;clear d9;by_cases g2:na<i+1
  ·have c:=z.o.trans<|ifp (.inr (.inl g2));have d8:=qh c;clear c;have f5:decide ((na:Int)<((i:Int)+1))=true:=by simp;omega
   have f7:(na:Int)<((i:Int)+1):=by omega
   go_wp2;go_roundw
   case rel=>exact⟨4,by omega,by omega,by go_num,⟨s,X,d8.o,d5.o,d6.o,o.o⟩,d7.o,d4.o,l.o⟩
   simp[intOf]
  have f5:decide ((na:Int)<((i:Int)+1))=false:=by simp;omega
  have f7:¬((na:Int)<((i:Int)+1)):=by omega
  by_cases g3:nb<j+1
  ·have c:=z.o.trans<|ifp (.inr (.inr g3));have d8:=qh c;clear c;have f8:decide ((nb:Int)<((j:Int)+1))=true:=by simp;omega
   have f9:(nb:Int)<((j:Int)+1):=by omega
   go_wp2;go_roundw
   case rel=>exact⟨4,by omega,by omega,by go_num,⟨s,X,d8.o,d5.o,d6.o,o.o⟩,d7.o,d4.o,l.o⟩
   simp[intOf]
  have f8:decide ((nb:Int)<((j:Int)+1))=false:=by simp;omega
  have f9:¬((nb:Int)<((j:Int)+1)):=by omega
  have g0:i+1<n1:=by have:=q8.o;omega
  have g1:j+1<n2:=by have:=q9.o;omega
  obtain rfl:=D2.o (by omega);have r6:=(l.o.cell (p:=(Ad bx (ox+i))) (D4.o (by omega)).1).trans (D5.o i (by omega));have E2:(i:Int)<(na:Int):=by omega
  have E1:(0:Int)<=(i:Int):=by omega
  obtain⟨xi,e4⟩:=exq<|x i;rw[<-e4]at r6;have r4:=qh e4;clear e4;obtain rfl:=D3.o (by omega);have r7:=(l.o.cell (p:=(Ad e7 (oy+j))) (D6.o (by omega)).1).trans (D7.o j (by omega));have E4:(j:Int)<(nb:Int):=by omega
  have E3:(0:Int)<=(j:Int):=by omega
  obtain⟨yj,e5⟩:=exq<|y j;rw[<-e5]at r7;have r5:=qh e5;clear e5;have e2:kR D na x nb y i j 1 1 (X,0)=if (Av D xi yj V D.n (zerR D.kind,0)).2≠0 then (X,(Av D xi yj V D.n (zerR D.kind,0)).2) else if (sumR D.kind (X (i+1) (j+1)) (Av D xi yj V D.n (zerR D.kind,0)).1 D.n).2≠0 then (X,(sumR D.kind (X (i+1) (j+1)) (Av D xi yj V D.n (zerR D.kind,0)).1 D.n).2) else (updT X (i+1) (j+1) (sumR D.kind (X (i+1) (j+1)) (Av D xi yj V D.n (zerR D.kind,0)).1 D.n).1,0):=by
   unfold kR;rw[ifn (show ¬((0:Nat)≠0\/na<i+1\/nb<j+1) by omega)];rw[r4.o];rw[r5.o];rw[<-o.o];rfl
  have f1:=qh e2;clear e2
  go_wp2_with fail
  rw[e8.o];refine kmove (u:=1) (v:=1) HV r2 r3 s3 r8 r9 s4 s5 g0 g1 (by omega) f1 o d5 d6 d7 d4 l (qh ?xg) (qh ?xc) (qh ?xk)
  case xg=>exact λe a d v w h=>f2.o e a d v w h
  case xc =>
   intro e0 e1 A B C F G H I J K L N O P Q R S T U Y Z a1 a2 a4 a5 a6 a7 a8 a9 b0 b1 b2 b3 b4 b5 b6 b7 b8 b9 d0 d1 d2 d3 w2 s2 X2 h1 h2 h3 h4 h5 h6 h7;have f0:=qh<|z.o.trans h1;clear h1;have H2:=qh h2;clear h2;have H3:=qh h3;clear h3;have H4:=qh h4;clear h4;have H5:=qh h5;clear h5;have H6:=qh h6;clear h6;have H7:=qh h7;clear h7;go_wp2;go_roundw
   case rel=>exact⟨4,by omega,by omega,by go_num,⟨s2,X2,f0.o,H2.o,H3.o,H4.o⟩,H5.o,H6.o,H7.o⟩
   simp[intOf]
  case xk =>
   intro e0 e1 A B C F G H I J K L N O P Q R S T U Y Z a1 a2 a4 a5 a6 a7 a8 a9 b0 b1 b2 b3 b4 b5 b6 b7 b8 b9 d0 d1 d2 d3 w2 e h1 h2 h3;have hw:=e9.o 4 e (by omega) (by rw[z.o];exact h1) h2;exact f3.o _ _ _ _ _ _ _ _ _ _ _ _ _ _ _ _ _ _ _ _ _ _ _ _ _ _ _ _ _ _ _ _ _ _ _ _ _ _ _ _ _ _ _ _ _ _ _ _ _ _ _ _ _ _ _ _ _ _ _ _ _ _ _ _ _ _ _ _ _ _ _ _ _ _ _ _ _ _ _ _ _ _ _ _ _ hw h3
 go_wp2_with fail
 exact r0.o _ _ _ _ _ _ _ _ _ _ _ _ _ _ _ _ _ _ _ _ _ _ _ _ _ _ _ _ _ _ _ _ _ _ _ _ _ _ _ _ _ _ _ _ _ _ _ _ _ _ _ _ _ _ _ _ _ _ _ _ _ _ _ _ _ _ _ _ _ _ _ _ _ _ _ _ _ _ _ _ _ _ _ _ _ _ _ _ e3.o d5.o d6.o d4.o l.o
end
end Go.Proofs.YtpldocnhbdlgfaaGreatDoor
