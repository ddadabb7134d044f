/- Parts of a proof: W8F W8G W8H EdQ EdW EdA. -/
import Derived.Test.YtjekapjbigfkbaaGreatDoorT16
import Derived.Test.YtjekapjbigfkbaaGreatDoorT10
import Derived.Test.YtjekapjbigfkbaaGreatDoorT14
import Derived.Test.YtjekapjbigfkbaaGreatDoorT12
import Derived.Test.YtjekapjbigfkbaaGreatDoorT08
namespace Go.Proofs.YtjekapjbigfkbaaGreatDoor
set_option maxRecDepth 100000
set_option linter.unusedSimpArgs false
set_option linter.unusedVariables false
set_option linter.unusedSectionVars false
set_option maxHeartbeats 16000000
open Go Tryz
section
open Go.RowKit Go.Deep
def seqQ:Nat->Code->Code
 | n+1,.seq _ b=>seqQ n b
 | _,c=>c
def u4s:Nat->Code->Code->Code
 | 0,_,x=>x
 | n+1,.seq a b,x=>.seq a (u4s n b x)
 | _,c,_=>c
def fstQ:Code->Code
 | .seq a _=>a
 | c=>c
def sndQ:Code->Code
 | .seq _ b=>b
 | c=>c
def blkQ (n:Nat):Code->Option Code
 | .block m c=>if m==n then some c else blkQ n c
 | .seq a b=>(blkQ n a).or (blkQ n b)
 | .cond _ a b=>(blkQ n a).or (blkQ n b)
 | .loop c=>blkQ n c
 | .scope c=>blkQ n c
 | _=>none
def u5s:Code->Code
 | .loop c=>c
 | _=>.skip
noncomputable def w8B (n:Nat):Code:=(((f26).body.bind (blkQ n)).getD .skip)
noncomputable def kB:Code:=seqQ 5 (w8B 9)
set_option maxRecDepth 1000000 in
theorem kmove {D:MD} {na nb:Nat} {x y:Nat->Int} {w wr:World} {mb g n1 n2 i j u v vs cp cx cy:Nat} {a ax ay:Option Addr} {r:Nat->Nat} {s:Nat->Nat->Nat} {X:TbR} {V:Nat->ByteArray} {a1 b1:Int} {Q0:Exit->Act->World->Prop} {u0 u4 u5 u6 u7 u8 u9 A7 v7 u3 x9 J0 J1 v9 u2 x5 z4 z1 s6 A2 z8 B3 B6 s3 x0 v0 y5 r8 A8 p9 v3 y1 s9 A5 v5 C3 r7 z9 u1 z5 r0 A4 x8 v4 s8 A9 w0 y6 q8 B5 r1 s5 A0 t7 v6 v8 z7 B8 y8 y9 v2 C0 s4 r5 r3 s7 B4 x7 C2 r9 w8 q7 x4 B7 x3 r6 w1 B0 y4 r2 A6 w2 B9 A3 r4 y0 y3 x1 x6 e0 d1 h4 l5 e7 n0 d3 b7 d2 k2 b6 b3 i7 k6 a4 j7 h9 i8 h6 k9 m9 f9 l9 k7 a7 h7 m8 h3 f4 e9 d8 j6 d7 k1 e8 j9 e5 a2 g5 h0 b8 k4 e3 a9 a8 b5 l8 j1 g6 d6 c8 i2 a5 e1 m5 C8 D8 H5 E2 G7 D5 H2 D9 H9 G1 H3 G8 C9 G6 E4 I1 E7 E9 F4 F9 H7 H4 E6 G9 E1 D3 D6 D4 I4 E8 D7 G4 G0 G3 E5 E3 F1 F5 C7 F3 F7 D0 n6 k5 c7 i4 e6 l7 b2 f0 j2 i5 f5 n9 g1:Value}
  (HV:Hid (VM D)) (J2:Hid (∀ W,Below w.heap.size w W->StS none W (.slice a D.n cp) D)) (J6:Hid (MSz D)) (J7:D.n<=3000) (L2:n1<=201) (L5:n2<=201) (L0:i<n1) (K7:j<n2) (I:i+u<n1) (z2:j+v<n2) (L1:0<u+v)
  (D1:Hid (kR D na x nb y i j u v (X,0)=if (z2c D a1 b1 V D.n (zerR D.kind,0)).2≠0 then (X,(z2c D a1 b1 V D.n (zerR D.kind,0)).2) else if (sumR D.kind (X (i+u) (j+v)) (z2c D a1 b1 V D.n (zerR D.kind,0)).1 D.n).2≠0 then (X,(sumR D.kind (X (i+u) (j+v)) (z2c D a1 b1 V D.n (zerR D.kind,0)).1 D.n).2) else (updT X (i+u) (j+v) (sumR D.kind (X (i+u) (j+v)) (z2c D a1 b1 V D.n (zerR D.kind,0)).1 D.n).1,0)))
  (E0:Hid (X i j=V)) (t8:Hid (smT X)) (F:Hid (TW wr w.heap.size g n1 n2 D.n r s X)) (t9:Hid (wr.rowIs vs 9 D.n (fun p=>.string (V p)))) (Q:Hid (BxM wr mb D (.slice a D.n cp))) (o4:Hid (Below w.heap.size w wr))
  (l:Hid (∀ (e:List PanicEntry) (a:Act) (d:Option Tmp) (v:Value) (w':World),Q0 (.panic e) (a.put d v) w'->Q0 (.panic e) a w'))
  (C4:Hid (∀ (y7 z3 b4 c6 g8 k3 c9 j0 g7 d9 k0 f7 e4 f1 b9 l0 f8 a3 g3 g9 i6 d4 a6 o3 d0 l6 h5 j3 f2 i3 g0 j4 i9 j8 n3 n7 d5 m7 m4 h8 j5 b0 n5 l4:Value) (w':World) (s':Nat->Nat->Nat) (X':TbR),kR D na x nb y i j u v (X,0)=(X',0)->smT X'->TW w' w.heap.size g n1 n2 D.n r s' X'->X' i j=V->w'.rowIs vs 9 D.n (fun p=>.string (V p))->BxM w' mb D (.slice a D.n cp)->Below w.heap.size w w'->Q0 .normal ⟨List.toArray (u0::.slice ax na cx::.slice ay nb cy::.pointer (some ⟨mb,0,none⟩)::u4::u5::u6::u7::u8::u9::.slice (some ⟨g,0,none⟩) n1 n1::A7::v7::.int .i64 (i:Int)::.int .i64 (j:Int)::.slice (some ⟨vs,0,none⟩) D.n D.n::u3::x9::.int .i64 (u:Int)::.int .i64 (v:Int)::.int .i64 a1::.int .i64 b1::y7::z3::v9::u2::x5::z4::z1::s6::A2::z8::B3::B6::s3::x0::v0::y5::r8::A8::p9::v3::y1::s9::A5::v5::C3::r7::z9::u1::z5::r0::A4::x8::v4::s8::A9::w0::y6::q8::B5::r1::s5::A0::t7::v6::v8::z7::B8::y8::y9::v2::C0::s4::r5::r3::s7::B4::x7::C2::r9::w8::q7::x4::B7::x3::r6::w1::B0::y4::r2::A6::w2::B9::A3::r4::y0::y3::x1::x6::e0::d1::h4::l5::e7::n0::d3::b7::d2::k2::b6::b3::i7::k6::a4::j7::h9::i8::h6::k9::m9::f9::l9::k7::a7::h7::m8::h3::f4::e9::d8::j6::d7::k1::e8::j9::e5::a2::g5::h0::b8::k4::e3::a9::a8::b5::l8::j1::g6::d6::c8::i2::a5::e1::m5::b4::c6::g8::k3::c9::j0::g7::d9::k0::f7::e4::f1::b9::l0::f8::a3::g3::g9::i6::d4::a6::o3::d0::l6::h5::j3::f2::i3::g0::j4::i9::j8::n3::n7::d5::m7::m4::h8::j5::b0::n5::l4::n6::k5::c7::i4::e6::l7::b2::f0::j2::i5::f5::n9::g1::[]),[]⟩ w'))
  (o9:Hid (∀ (y7 z3 b4 c6 g8 k3 c9 j0 g7 d9 k0 f7 e4 f1 b9 l0 f8 a3 g3 g9 i6 d4 a6 o3 d0 l6 h5 j3 f2 i3 g0 j4 i9 j8 n3 n7 d5 m7 m4 h8 j5 b0 n5 l4:Value) (w':World) (e:Nat),(kR D na x nb y i j u v (X,0)).2=e->e≠0->Below w.heap.size w w'->Q0 .ret ⟨List.toArray (u0::.slice ax na cx::.slice ay nb cy::.pointer (some ⟨mb,0,none⟩)::u4::u5::.string ⟨#[]⟩::.int .i64 (e:Int)::u8::u9::.slice (some ⟨g,0,none⟩) n1 n1::A7::v7::.int .i64 (i:Int)::.int .i64 (j:Int)::.slice (some ⟨vs,0,none⟩) D.n D.n::u3::x9::.int .i64 (u:Int)::.int .i64 (v:Int)::.int .i64 a1::.int .i64 b1::y7::z3::v9::u2::x5::z4::z1::s6::A2::z8::B3::B6::s3::x0::v0::y5::r8::A8::p9::v3::y1::s9::A5::v5::C3::r7::z9::u1::z5::r0::A4::x8::v4::s8::A9::w0::y6::q8::B5::r1::s5::A0::t7::v6::v8::z7::B8::y8::y9::v2::C0::s4::r5::r3::s7::B4::x7::C2::r9::w8::q7::x4::B7::x3::r6::w1::B0::y4::r2::A6::w2::B9::A3::r4::y0::y3::x1::x6::e0::d1::h4::l5::e7::n0::d3::b7::d2::k2::b6::b3::i7::k6::a4::j7::h9::i8::h6::k9::m9::f9::l9::k7::a7::h7::m8::h3::f4::e9::d8::j6::d7::k1::e8::j9::e5::a2::g5::h0::b8::k4::e3::a9::a8::b5::l8::j1::g6::d6::c8::i2::a5::e1::m5::b4::c6::g8::k3::c9::j0::g7::d9::k0::f7::e4::f1::b9::l0::f8::a3::g3::g9::i6::d4::a6::o3::d0::l6::h5::j3::f2::i3::g0::j4::i9::j8::n3::n7::d5::m7::m4::h8::j5::b0::n5::l4::n6::k5::c7::i4::e6::l7::b2::f0::j2::i5::f5::n9::g1::[]),[]⟩ w')) :
  Code.wp prog kB Q0 ⟨List.toArray (u0::.slice ax na cx::.slice ay nb cy::.pointer (some ⟨mb,0,none⟩)::u4::u5::u6::u7::u8::u9::.slice (some ⟨g,0,none⟩) n1 n1::A7::v7::.int .i64 (i:Int)::.int .i64 (j:Int)::.slice (some ⟨vs,0,none⟩) D.n D.n::u3::x9::.int .i64 (u:Int)::.int .i64 (v:Int)::.int .i64 a1::.int .i64 b1::J0::J1::v9::u2::x5::z4::z1::s6::A2::z8::B3::B6::s3::x0::v0::y5::r8::A8::p9::v3::y1::s9::A5::v5::C3::r7::z9::u1::z5::r0::A4::x8::v4::s8::A9::w0::y6::q8::B5::r1::s5::A0::t7::v6::v8::z7::B8::y8::y9::v2::C0::s4::r5::r3::s7::B4::x7::C2::r9::w8::q7::x4::B7::x3::r6::w1::B0::y4::r2::A6::w2::B9::A3::r4::y0::y3::x1::x6::e0::d1::h4::l5::e7::n0::d3::b7::d2::k2::b6::b3::i7::k6::a4::j7::h9::i8::h6::k9::m9::f9::l9::k7::a7::h7::m8::h3::f4::e9::d8::j6::d7::k1::e8::j9::e5::a2::g5::h0::b8::k4::e3::a9::a8::b5::l8::j1::g6::d6::c8::i2::a5::e1::m5::C8::D8::H5::E2::G7::D5::H2::D9::H9::G1::H3::G8::C9::G6::E4::I1::E7::E9::F4::F9::H7::H4::E6::G9::E1::D3::D6::D4::I4::E8::D7::G4::G0::G3::E5::E3::F1::F5::C7::F3::F7::D0::n6::k5::c7::i4::e6::l7::b2::f0::j2::i5::f5::n9::g1::[]),[]⟩ wr:=by
 conv=>arg 2;whnf
 have L3:IntKind.i64.wrap ((i:Int)+(u:Int))=((i:Int)+(u:Int)):=by rw[IntKind.wrap_i64];omega
 have K6:IntKind.i64.wrap ((j:Int)+(v:Int))=((j:Int)+(v:Int)):=by rw[IntKind.wrap_i64];omega
 have L4:((i:Int)+(u:Int))<(n1:Int):=by omega
 have K9:((j:Int)+(v:Int))<(n2:Int):=by omega
 have K3:(0:Int)<=((i:Int)+(u:Int)):=by omega
 have K4:(0:Int)<=((j:Int)+(v:Int)):=by omega
 have K1:((i:Int)+(u:Int)).toNat=i+u:=by omega
 have K2:((j:Int)+(v:Int)).toNat=j+v:=by omega
 obtain⟨z,hz⟩:=exq (z2c D a1 b1 V D.n (zerR D.kind,0));have H1:∀ p,smS (z.1 p):=by rw[hz];exact y8y D.n (fun _=>y1y _)
 have o2:=v3e (i:=a1) (o:=b1) wr HV.out (J2.out wr o4.out) t9.out (fun p=>by rw[<- E0.out];exact t8.out i j p) (fun q k=>by have:=J6.out.aw q k;unfold smS;unfold maxLen at this;omega);rw[<- hz] at o2;have D2:=qh o2;clear o2;have z6:=D1.out;rw[<- hz] at z6;have A1:=qh z6;clear z6 D1 hz;have I7:=qh H1;clear H1;have m0:=cell_of Q.out 0 rfl;have m1:=cell_of Q.out 1 rfl;have m2:=cell_of Q.out 2 rfl;have m3:=cell_of Q.out 3 rfl
 go_wp2_with fail
 refine D2.out.mono ?_;rintro rr w5 ⟨w4,J8⟩;have R:=qh (Fr.of_below (C:=fun _=>False) w4);have S:=qh (o4.out.trans (w4.mono o4.out.size));clear w4 D2 m0 m1 m2 m3
 rcases J8 with ⟨Z,gv,rfl,I9,p7⟩|⟨Z,rfl⟩
 rotate_left
 ·have H8:¬ ((z.2:Int)=0):=by omega
  have K0:((z.2:Int)==0)=false:=by simp;omega
  have I8:decide ((z.2:Int)=0)=false:=by simp;omega
  have hw:(kR D na x nb y i j u v (X,0)).2=z.2:=by rw[A1.out,if_pos Z]
  have HW:=qh hw;clear hw;have F8:=qh Z;clear Z
  go_wp2_with fail
  exact o9.out _ _ _ _ _ _ _ _ _ _ _ _ _ _ _ _ _ _ _ _ _ _ _ _ _ _ _ _ _ _ _ _ _ _ _ _ _ _ _ _ _ _ _ _ _ _ HW.out F8.out S.out
 have w3:=qh (A1.out.trans (if_neg (by omega)));clear A1;have F8:=qh Z;have F2:=qh p7;have K5:=qh (show w.heap.size<=gv by have:=o4.out.size;omega);have K8:(z.2:Int)=0:=by omega
 clear Z p7 I9;obtain⟨z',o5⟩:=exq (sumR D.kind (X (i+u) (j+v)) z.1 D.n);have p0:∀ p,smS (z'.1 p):=by rw[o5];exact v2p _
 obtain⟨G,o8⟩:=exq (r (i+u));obtain⟨sq,q9⟩:=exq (s (i+u) (j+v));have p6:∀ W,Fr (fun _=>False) w5 W->Calls prog 59 #[.int .i64 D.kind,.slice (some ⟨sq,0,none⟩) D.n D.n,.slice (some ⟨gv,0,none⟩) D.n D.n] W (VerE D.n z' W):=fun W hf=>by
  rw[o5,q9];exact v6r W J7 ((F.out.new (R.out.trans hf)).vec _ _ I z2) (hf.row F2.out (fun e=>e)) (fun p=>t8.out _ _ p) I7.out
 have I0:=qh p6;clear p6;rw[<- o5] at w3;have G5:∀ W,Fr (fun _=>False) w5 W->(fun B:World=>B.cell? ⟨g,i+u,none⟩=some (.slice (some ⟨G,0,none⟩) n2 n2)/\B.cell? ⟨mb,0,none⟩=some (.int .i64 D.kind)) W:=fun W hf=>⟨by rw[o8];exact(F.out.new (R.out.trans hf)).top.cell I,cell_of (Q.out.kept (R.out.trans hf) (fun e=>e)) 0 rfl⟩;have I2:=qh G5;clear G5;have C6:∀ W,Fr (fun _=>False) w5 W->W.cell? ⟨G,j+v,none⟩=some (.slice (some ⟨sq,0,none⟩) D.n D.n)/\W.frozen? ⟨G,j+v,none⟩=false:=fun W hf=>by
  have h1:=((F.out.new (R.out.trans hf)).mid _ I).1;rw[o8,q9];exact⟨h1.cell z2,h1.frozen _⟩
 have B2:=qh C6;clear C6;have O:=qh o8;clear o8;have J3:=qh p0;clear p0 q9 o5;obtain⟨wd,B1⟩:=exq (w5.drew);have o7:=qh (show Fr (fun _=>False) w5 wd by rw[B1];exact Fr.of_below ((Below.refl w5.heap.size w5).drew))
 go_wp2_with fail
 have A:=I2.out wd o7.out;refine z0g (fun B:World=>B.cell? ⟨g,i+u,none⟩=some (.slice (some ⟨G,0,none⟩) n2 n2)/\B.cell? ⟨mb,0,none⟩=some (.int .i64 D.kind)) 29 (by kernel_rfl) ?_;rw[<- B1];clear B1;refine z0b.tk (i:=0) (v:=?Xd) rfl (by kernel_rfl) A (Or.inl ⟨by kernel_rfl,?yf⟩) ?zb (hQ:=fun _ _ _ h=>l.out _ _ _ _ _ h)
 case yf=>rintro B ⟨s1,s2⟩;go_simp;try with_reducible rfl
 refine z0b.tk (i:=1) (v:=?Xe) rfl (by kernel_rfl) A (Or.inl ⟨by kernel_rfl,?xw⟩) ?yx (hQ:=fun _ _ _ h=>l.out _ _ _ _ _ h)
 case xw=>rintro B ⟨s1,s2⟩;go_simp;try with_reducible rfl
 refine z0b.tk (i:=2) (v:=?Xj) rfl (by kernel_rfl) A (Or.inl ⟨by kernel_rfl,?yb⟩) ?yy (hQ:=fun _ _ _ h=>l.out _ _ _ _ _ h)
 case yb=>rintro B ⟨s1,s2⟩;go_simp;try with_reducible rfl
 refine z0b.tk (i:=3) (v:=?Xc) rfl (by kernel_rfl) A (Or.inl ⟨by kernel_rfl,?yh⟩) ?yz (hQ:=fun _ _ _ h=>l.out _ _ _ _ _ h)
 case yh=>rintro B ⟨s1,s2⟩;go_simp;try with_reducible rfl
 refine z0b.tk (i:=4) (v:=?Xh) rfl (by kernel_rfl) A (Or.inl ⟨by kernel_rfl,?yc⟩) ?za (hQ:=fun _ _ _ h=>l.out _ _ _ _ _ h)
 case yc=>rintro B ⟨s1,s2⟩;go_simp;try with_reducible rfl
 refine z0b.tk (i:=5) (v:=?Xg) rfl (by kernel_rfl) A (Or.inl ⟨by kernel_rfl,?yr⟩) ?zf (hQ:=fun _ _ _ h=>l.out _ _ _ _ _ h)
 case yr=>rintro B ⟨s1,s2⟩;go_simp;try with_reducible rfl
 refine z0b.tk (i:=6) (v:=?Xb) rfl (by kernel_rfl) A (Or.inl ⟨by kernel_rfl,?yd⟩) ?ze (hQ:=fun _ _ _ h=>l.out _ _ _ _ _ h)
 case yd=>rintro B ⟨s1,s2⟩;go_simp;try with_reducible rfl
 refine z0b.tk (i:=7) (v:=?Xk) rfl (by kernel_rfl) A (Or.inl ⟨by kernel_rfl,?yq⟩) ?zc (hQ:=fun _ _ _ h=>l.out _ _ _ _ _ h)
 case yq=>rintro B ⟨s1,s2⟩;go_simp;try with_reducible rfl
 refine z0b.tk (i:=8) (v:=?Xf) rfl (by kernel_rfl) A (Or.inl ⟨by kernel_rfl,?yl⟩) ?zh (hQ:=fun _ _ _ h=>l.out _ _ _ _ _ h)
 case yl=>rintro B ⟨s1,s2⟩;go_simp;try with_reducible rfl
 refine z0b.tk (i:=9) (v:=?Xi) rfl (by kernel_rfl) A (Or.inl ⟨by kernel_rfl,?yo⟩) ?zd (hQ:=fun _ _ _ h=>l.out _ _ _ _ _ h)
 case yo=>rintro B ⟨s1,s2⟩;go_simp;try with_reducible rfl
 refine z0b.tk (i:=10) (v:=?zy) rfl (by kernel_rfl) A (Or.inl ⟨by kernel_rfl,?xl⟩) ?ym (hQ:=fun _ _ _ h=>l.out _ _ _ _ _ h)
 case xl=>rintro B ⟨s1,s2⟩;go_simp;try with_reducible rfl
 refine z0b.tk (i:=11) (v:=?zn) rfl (by kernel_rfl) A (Or.inl ⟨by kernel_rfl,?xg⟩) ?yi (hQ:=fun _ _ _ h=>l.out _ _ _ _ _ h)
 case xg=>rintro B ⟨s1,s2⟩;go_simp;try with_reducible rfl
 refine z0b.tk (i:=12) (v:=?zx) rfl (by kernel_rfl) A (Or.inl ⟨by kernel_rfl,?xa⟩) ?ya (hQ:=fun _ _ _ h=>l.out _ _ _ _ _ h)
 case xa=>rintro B ⟨s1,s2⟩;go_simp;try with_reducible rfl
 refine z0b.tk (i:=13) (v:=?zr) rfl (by kernel_rfl) A (Or.inl ⟨by kernel_rfl,?xh⟩) ?xz (hQ:=fun _ _ _ h=>l.out _ _ _ _ _ h)
 case xh=>rintro B ⟨s1,s2⟩;go_simp;try with_reducible rfl
 refine z0b.tk (i:=14) (v:=?zj) rfl (by kernel_rfl) A (Or.inl ⟨by kernel_rfl,?xk⟩) ?yk (hQ:=fun _ _ _ h=>l.out _ _ _ _ _ h)
 case xk=>rintro B ⟨s1,s2⟩;go_simp;try with_reducible rfl
 refine z0b.tk (i:=15) (v:=?zl) rfl (by kernel_rfl) A (Or.inl ⟨by kernel_rfl,?xb⟩) ?yj (hQ:=fun _ _ _ h=>l.out _ _ _ _ _ h)
 case xb=>rintro B ⟨s1,s2⟩;go_simp;try with_reducible rfl
 refine z0b.tk (i:=16) (v:=?zk) rfl (by kernel_rfl) A (Or.inl ⟨by kernel_rfl,?xc⟩) ?yw (hQ:=fun _ _ _ h=>l.out _ _ _ _ _ h)
 case xc=>rintro B ⟨s1,s2⟩;go_simp;try with_reducible rfl
 refine z0b.tk (i:=17) (v:=?zi) rfl (by kernel_rfl) A (Or.inl ⟨by kernel_rfl,?xq⟩) ?yv (hQ:=fun _ _ _ h=>l.out _ _ _ _ _ h)
 case xq=>rintro B ⟨s1,s2⟩;go_simp;try with_reducible rfl
 refine z0b.tk (i:=18) (v:=?Xa) rfl (by kernel_rfl) A (Or.inl ⟨by kernel_rfl,?xs⟩) ?yt (hQ:=fun _ _ _ h=>l.out _ _ _ _ _ h)
 case xs=>rintro B ⟨s1,s2⟩;go_simp;try with_reducible rfl
 refine z0b.tk (i:=19) (v:=?zw) rfl (by kernel_rfl) A (Or.inl ⟨by kernel_rfl,?xj⟩) ?xu (hQ:=fun _ _ _ h=>l.out _ _ _ _ _ h)
 case xj=>rintro B ⟨s1,s2⟩;go_simp;try with_reducible rfl
 refine z0b.tk (i:=20) (v:=?zt) rfl (by kernel_rfl) A (Or.inl ⟨by kernel_rfl,?xd⟩) ?xx (hQ:=fun _ _ _ h=>l.out _ _ _ _ _ h)
 case xd=>rintro B ⟨s1,s2⟩;go_simp;try with_reducible rfl
 try simp only[Act.put,tryL]
 refine z0b.tk (i:=22) (v:=?zz) rfl (by kernel_rfl) A (Or.inl ⟨by kernel_rfl,?xr⟩) ?yu (hQ:=fun _ _ _ h=>l.out _ _ _ _ _ h)
 case xr=>rintro B ⟨s1,s2⟩;go_simp;try with_reducible rfl
 try simp only[Act.put,tryL]
 have J5:=(B2.out wd o7.out).1;refine z0b.on 21 fun K H=>?_;go_simp;refine H.out _ _ (.inr A) ?_;clear H K J5
 try simp only[Act.put,tryL]
 refine z0b.on 23 fun K H=>?_;go_simp;refine(I0.out wd o7.out).mono ?_;rintro rr w6 ⟨I3,J9⟩;have L:=qh (o7.out.trans (Fr.of_below I3));have E:=I2.out w6 L.out;clear I3 A I0
 rcases J9 with ⟨P,gw,rfl,J4,p8⟩|⟨P,rfl⟩
 rotate_left
 ·refine H.out _ _ (.inr E) ?_;clear H K
  try simp only[Act.put,tryL]
  refine z0b.on 24 fun K H=>?_;go_simp;refine H.out _ _ (.inr E) ?_;clear H K
  try simp only[Act.put,tryL]
  refine z0b.tk (i:=25) (v:=?zu) rfl (by kernel_rfl) E (Or.inl ⟨by kernel_rfl,?xo⟩) ?xv (hQ:=fun _ _ _ h=>l.out _ _ _ _ _ h)
  case xo=>rintro B ⟨s1,s2⟩;go_simp;try with_reducible rfl
  refine z0b.tk (i:=26) (v:=?zp) rfl (by kernel_rfl) E (Or.inl ⟨by kernel_rfl,?xp⟩) ?xt (hQ:=fun _ _ _ h=>l.out _ _ _ _ _ h)
  case xp=>rintro B ⟨s1,s2⟩;go_simp;try with_reducible rfl
  refine z0b.tk (i:=27) (v:=?zq) rfl (by kernel_rfl) E (Or.inl ⟨by kernel_rfl,?xf⟩) ?ys (hQ:=fun _ _ _ h=>l.out _ _ _ _ _ h)
  case xf=>rintro B ⟨s1,s2⟩;go_simp;try with_reducible rfl
  try simp only[Act.put,tryL]
  obtain⟨C1,w9⟩:=B2.out w6 L.out;refine z0b.on 28 fun K H=>?_;go_simp;have g4:w.heap.size<=G:=by rw[O.out];exact(F.out.mid _ I).2
  have g2:g≠G:=by rw[O.out];exact y1z F.out.top (F.out.mid _ I).1 (by decide)
  have U:mb≠G:=fun e=>by
   obtain⟨c,h1,_⟩:=(F.out.mid _ I).1;have h2:=Q.out;unfold BxM at h2;rw[e,O.out,h1] at h2;simp at h2
  have J:Fr (fun c=>c=G) w6 (w6.setCell ⟨G,j+v,none⟩ (.slice none 0 0)):=(Fr.refl (fun c=>c=G) w6).set (p:=⟨G,j+v,none⟩) (.inl rfl) _;have Y:(fun B:World=>B.cell? ⟨g,i+u,none⟩=some (.slice (some ⟨G,0,none⟩) n2 n2)/\B.cell? ⟨mb,0,none⟩=some (.int .i64 D.kind)) (w6.setCell ⟨G,j+v,none⟩ (.slice none 0 0)):=⟨J.cell E.1 g2,J.cell E.2 U⟩;have o6:=qh ((S.out.trans (L.out.below S.out.size (fun _ e=>e.elim))).trans (J.below (Nat.le_trans S.out.size L.out.size) (fun c e=>by rw[e];exact g4)));obtain⟨w7,N⟩:=exq (w6.setCell ⟨G,j+v,none⟩ (.slice none 0 0));rw[<- N] at Y o6;rw[<- N];clear N J g2 U g4 C1 w9;refine H.out _ _ (.inr Y) ?_;clear H K
  try simp only[Act.put,tryL]
  refine z0b.on 29 fun K H=>?_;go_simp;refine H.out _ _ (.inl rfl) (z0b.done (by kernel_rfl) ?_ _);clear H K Y;have H8:¬ ((z'.2:Int)=0):=by omega
  have K0:((z'.2:Int)==0)=false:=by simp;omega
  have I8:decide ((z'.2:Int)=0)=false:=by simp;omega
  have hw:(kR D na x nb y i j u v (X,0)).2=z'.2:=by rw[w3.out,if_pos P]
  have HW:=qh hw;clear hw;have H6:=qh P;clear P
  go_wp2_with fail
  exact o9.out _ _ _ _ _ _ _ _ _ _ _ _ _ _ _ _ _ _ _ _ _ _ _ _ _ _ _ _ _ _ _ _ _ _ _ _ _ _ _ _ _ _ _ _ _ _ HW.out H6.out o6.out
 refine H.out _ _ (.inr E) ?_;clear H K
 try simp only[Act.put,tryL]
 refine z0b.on 24 fun K H=>?_;go_simp;refine H.out _ _ (.inr E) ?_;clear H K
 try simp only[Act.put,tryL]
 refine z0b.tk (i:=25) (v:=?zs) rfl (by kernel_rfl) E (Or.inl ⟨by kernel_rfl,?xn⟩) ?yg (hQ:=fun _ _ _ h=>l.out _ _ _ _ _ h)
 case xn=>rintro B ⟨s1,s2⟩;go_simp;try with_reducible rfl
 refine z0b.tk (i:=26) (v:=?zv) rfl (by kernel_rfl) E (Or.inl ⟨by kernel_rfl,?xi⟩) ?yn (hQ:=fun _ _ _ h=>l.out _ _ _ _ _ h)
 case xi=>rintro B ⟨s1,s2⟩;go_simp;try with_reducible rfl
 refine z0b.tk (i:=27) (v:=?zo) rfl (by kernel_rfl) E (Or.inl ⟨by kernel_rfl,?xm⟩) ?yp (hQ:=fun _ _ _ h=>l.out _ _ _ _ _ h)
 case xm=>rintro B ⟨s1,s2⟩;go_simp;try with_reducible rfl
 try simp only[Act.put,tryL]
 obtain⟨C1,w9⟩:=B2.out w6 L.out;refine z0b.on 28 fun K H=>?_;go_simp;have g4:w.heap.size<=G:=by rw[O.out];exact(F.out.mid _ I).2
 have g2:g≠G:=by rw[O.out];exact y1z F.out.top (F.out.mid _ I).1 (by decide)
 have U:mb≠G:=fun e=>by
  obtain⟨c,h1,_⟩:=(F.out.mid _ I).1;have h2:=Q.out;unfold BxM at h2;rw[e,O.out,h1] at h2;simp at h2
 have F0:vs≠G:=by rw[O.out];exact y1z t9.out (F.out.mid _ I).1 (by decide)
 have T:=(F.out.new (R.out.trans L.out)).put I z2 p8;rw[<- O.out] at T;obtain⟨w7,N⟩:=exq (w6.setCell ⟨G,j+v,none⟩ (.slice (some ⟨gw,0,none⟩) D.n D.n));have J:Fr (fun c=>c=G) w6 w7:=by rw[N];exact(Fr.refl (fun c=>c=G) w6).set (p:=⟨G,j+v,none⟩) (.inl rfl) _
 have Y:(fun B:World=>B.cell? ⟨g,i+u,none⟩=some (.slice (some ⟨G,0,none⟩) n2 n2)/\B.cell? ⟨mb,0,none⟩=some (.int .i64 D.kind)) w7:=⟨J.cell E.1 g2,J.cell E.2 U⟩;rw[<- N] at T;have C5:=qh T;have o6:=qh ((S.out.trans (L.out.below S.out.size (fun _ e=>e.elim))).trans (J.below (Nat.le_trans S.out.size L.out.size) (fun c e=>by rw[e];exact g4)));have F6:=qh ((Q.out.kept (R.out.trans L.out) (fun e=>e)).kept J U);have H0:=qh (J.row ((R.out.trans L.out).row t9.out (fun e=>e)) F0);rw[<- N];clear N J g2 U g4 F0 T p8 C1 w9 J4;refine H.out _ _ (.inr Y) ?_;clear H K
 try simp only[Act.put,tryL]
 refine z0b.on 29 fun K H=>?_;go_simp;refine H.out _ _ (.inl rfl) (z0b.done (by kernel_rfl) ?_ _);clear H K Y;have H8:(z'.2:Int)=0:=by omega
 have I6:=qh (w3.out.trans (if_neg (by omega)));have G2:updT X (i+u) (j+v) z'.1 i j=V:=by unfold updT;rw[if_neg (by omega)];exact E0.out
 have I5:=qh G2;clear P G2
 go_wp2_with fail
 exact C4.out _ _ _ _ _ _ _ _ _ _ _ _ _ _ _ _ _ _ _ _ _ _ _ _ _ _ _ _ _ _ _ _ _ _ _ _ _ _ _ _ _ _ _ _ _ _ _ I6.out (t8.out.upd J3.out) C5.out I5.out H0.out F6.out o6.out
end
section
open Go.RowKit Go.Deep
noncomputable def kL:Code:=u5s (w8B 8)
set_option maxRecDepth 1000000 in
theorem u5p:Code.seq (fstQ kL) (Code.seq (.block 9 (u4s 5 (w8B 9) kB)) (sndQ (sndQ kL)))=kL:=by kernel_rfl
set_option maxRecDepth 1000000 in
theorem kloop {D:MD} {na nb:Nat} {x y:Nat->Int} {w wr:World} {mb g n1 n2 i j vs cp cx cy bx ox e1 oy:Nat} {a ax ay:Option Addr} {r:Nat->Nat} {s:Nat->Nat->Nat} {X:TbR} {V:Nat->ByteArray} {z1 z2:TbR × Nat} {Q0:Exit->Act->World->Prop} {u0 u4 u5 u6 u7 u8 u9 B2 w0 t9 N1 N2 N3 N0 M8 M9 w1 s9 x5 z8 z7 s4 A6 A3 B8 C1 r7 w9 u1 y9 r5 B3 p6 u3 y6 s7 B0 v4 C7 r4 A4 t7 A0 p9 A9 y4 v0 s6 B4 w4 z4 p8 C0 q7 s3 A5 s8 v5 v9 A1 C3 z5 z6 u2 C5 r8 r3 r0 s5 B9 y1 C6 r6 w8 p7 x4 C2 x1 r2 w5 B5 y8 q9 B1 w6 C4 A7 r1 y5 y7 x0 x9 i2 g5 j4 m9 i4 n7 g8 f5 g6 l7 f1 e9 k5 m3 e3 l4 j9 k7 j5 m5 n6 I0 L7 L1 D1 J2 M1 J1 H0 G8 G0 K3 F7 K6 G6 K4 G5 C9 I4 I8 E4 K8 G3 D4 D2 D9 L6 K1 I7 F6 E9 J5 D0 G2 M0 D5 E6 L9 F0 K7 E2 L4 E7 M4 J3 L5 K9 D6 K5 F3 M5 F8 G9 I3 I9 M3 L8 F5 L0 E8 E0 E3 E1 M7 G7 E5 K2 J0 K0 F4 F2 H8 I5 D3 I1 I6 D7 o4 l8 g2 k1 i3 n3 e6 i6 l0 k3 i8 o6 j0:Value}
  (HV:Hid (VM D)) (w7:Hid (∀ W,Below w.heap.size w W->StS none W (.slice a D.n cp) D)) (x6:Hid (MSz D)) (y3:D.n<=3000) (o9:Hid (n1=na+1)) (p0:Hid (n2=nb+1)) (A8:n1<=201) (B6:n2<=201) (A2:i<n1) (v8:j<n2)
  (G4:Hid (0<na->ax=some ⟨bx,ox,none⟩)) (H1:Hid (0<na->bx<w.heap.size/\some bx≠none)) (L3:Hid (∀ i,i<na->w.cell? ⟨bx,ox+i,none⟩=some (.int .i64 (x i)))) (J7:Hid (0<nb->ay=some ⟨e1,oy,none⟩)) (D8:Hid (0<nb->e1<w.heap.size/\some e1≠none)) (M2:Hid (∀ i,i<nb->w.cell? ⟨e1,oy+i,none⟩=some (.int .i64 (y i))))
  (y0:Hid (z1=tabR D na x nb y i (X0R D,0))) (r9:Hid (z2=colR D na x nb y i j z1)) (d7:Hid (z2=(X,0)))
  (o:Hid (X i j=V)) (c8:Hid (smT X)) (c9:Hid (TW wr w.heap.size g n1 n2 D.n r s X)) (d1:Hid (wr.rowIs vs 9 D.n (fun p=>.string (V p)))) (d0:Hid (BxM wr mb D (.slice a D.n cp))) (l:Hid (Below w.heap.size w wr))
  (g7:Hid (∀ (e:List PanicEntry) (a:Act) (d:Option Tmp) (v:Value) (w':World),Q0 (.panic e) (a.put d v) w'->Q0 (.panic e) a w'))
  (C8:Hid (∀ (v6 v7 d9 x3 B7 x8 z9 d4 d5 i9 n5 m7 k4 g4 o3 k2 l6 j1 m8 o2 k0 j2 i7 o7 m4 n0 f2 j6 f8 e4 j7 i5 e8 j3 g3 f7 k6 j8 h8 k9 o5 g0 o8 C F U b1 G a5 T J b0 P K L E b2 O z S Y a3 c6 A c7 H b4 Z a6 N a2 Q a7 a4 a9 b7 b9 I b6 b5 a1 a8 B b8 b3:Value) (w':World) (s':Nat->Nat->Nat) (X':TbR),mvR D na x nb y i j 4 z2=(X',0)->smT X'->TW w' w.heap.size g n1 n2 D.n r s' X'->BxM w' mb D (.slice a D.n cp)->Below w.heap.size w w'->Q0 (.exit 8) ⟨List.toArray (u0::.slice ax na cx::.slice ay nb cy::.pointer (some ⟨mb,0,none⟩)::u4::u5::v6::v7::u8::u9::.slice (some ⟨g,0,none⟩) n1 n1::B2::w0::.int .i64 (i:Int)::.int .i64 (j:Int)::.slice (some ⟨vs,0,none⟩) D.n D.n::t9::d9::x3::B7::x8::z9::d4::d5::w1::s9::x5::z8::z7::s4::A6::A3::B8::C1::r7::w9::u1::y9::r5::B3::p6::u3::y6::s7::B0::v4::C7::r4::A4::t7::A0::p9::A9::y4::v0::s6::B4::w4::z4::p8::C0::q7::s3::A5::s8::v5::v9::A1::C3::z5::z6::u2::C5::r8::r3::r0::s5::B9::y1::C6::r6::w8::p7::x4::C2::x1::r2::w5::B5::y8::q9::B1::w6::C4::A7::r1::y5::y7::x0::x9::i2::g5::j4::m9::i4::n7::g8::f5::g6::l7::f1::e9::k5::m3::e3::l4::j9::k7::j5::m5::n6::i9::n5::m7::k4::g4::o3::k2::l6::j1::m8::o2::k0::j2::i7::o7::m4::n0::f2::j6::f8::e4::j7::i5::e8::j3::g3::f7::k6::j8::h8::k9::o5::g0::o8::C::F::U::b1::G::a5::T::J::b0::P::K::L::E::b2::O::z::S::Y::a3::c6::A::c7::H::b4::Z::a6::N::a2::Q::a7::a4::a9::b7::b9::I::b6::b5::a1::a8::B::b8::b3::o4::l8::g2::k1::i3::n3::e6::i6::l0::k3::i8::o6::j0::[]),[]⟩ w'))
  (e5:Hid (∀ (d9 x3 B7 x8 z9 d4 d5 i9 n5 m7 k4 g4 o3 k2 l6 j1 m8 o2 k0 j2 i7 o7 m4 n0 f2 j6 f8 e4 j7 i5 e8 j3 g3 f7 k6 j8 h8 k9 o5 g0 o8 C F U b1 G a5 T J b0 P K L E b2 O z S Y a3 c6 A c7 H b4 Z a6 N a2 Q a7 a4 a9 b7 b9 I b6 b5 a1 a8 B b8 b3:Value) (w':World) (e:Nat),wgtR D na x nb y=(⟨#[]⟩,e)->Below w.heap.size w w'->Q0 .ret ⟨List.toArray (u0::.slice ax na cx::.slice ay nb cy::.pointer (some ⟨mb,0,none⟩)::u4::u5::.string ⟨#[]⟩::.int .i64 (e:Int)::u8::u9::.slice (some ⟨g,0,none⟩) n1 n1::B2::w0::.int .i64 (i:Int)::.int .i64 (j:Int)::.slice (some ⟨vs,0,none⟩) D.n D.n::t9::d9::x3::B7::x8::z9::d4::d5::w1::s9::x5::z8::z7::s4::A6::A3::B8::C1::r7::w9::u1::y9::r5::B3::p6::u3::y6::s7::B0::v4::C7::r4::A4::t7::A0::p9::A9::y4::v0::s6::B4::w4::z4::p8::C0::q7::s3::A5::s8::v5::v9::A1::C3::z5::z6::u2::C5::r8::r3::r0::s5::B9::y1::C6::r6::w8::p7::x4::C2::x1::r2::w5::B5::y8::q9::B1::w6::C4::A7::r1::y5::y7::x0::x9::i2::g5::j4::m9::i4::n7::g8::f5::g6::l7::f1::e9::k5::m3::e3::l4::j9::k7::j5::m5::n6::i9::n5::m7::k4::g4::o3::k2::l6::j1::m8::o2::k0::j2::i7::o7::m4::n0::f2::j6::f8::e4::j7::i5::e8::j3::g3::f7::k6::j8::h8::k9::o5::g0::o8::C::F::U::b1::G::a5::T::J::b0::P::K::L::E::b2::O::z::S::Y::a3::c6::A::c7::H::b4::Z::a6::N::a2::Q::a7::a4::a9::b7::b9::I::b6::b5::a1::a8::B::b8::b3::o4::l8::g2::k1::i3::n3::e6::i6::l0::k3::i8::o6::j0::[]),[]⟩ w')) :
  Code.wp prog (Code.loop kL) Q0 ⟨List.toArray (u0::.slice ax na cx::.slice ay nb cy::.pointer (some ⟨mb,0,none⟩)::u4::u5::u6::u7::u8::u9::.slice (some ⟨g,0,none⟩) n1 n1::B2::w0::.int .i64 (i:Int)::.int .i64 (j:Int)::.slice (some ⟨vs,0,none⟩) D.n D.n::t9::.int .i64 1::N1::N2::N3::N0::M8::M9::w1::s9::x5::z8::z7::s4::A6::A3::B8::C1::r7::w9::u1::y9::r5::B3::p6::u3::y6::s7::B0::v4::C7::r4::A4::t7::A0::p9::A9::y4::v0::s6::B4::w4::z4::p8::C0::q7::s3::A5::s8::v5::v9::A1::C3::z5::z6::u2::C5::r8::r3::r0::s5::B9::y1::C6::r6::w8::p7::x4::C2::x1::r2::w5::B5::y8::q9::B1::w6::C4::A7::r1::y5::y7::x0::x9::i2::g5::j4::m9::i4::n7::g8::f5::g6::l7::f1::e9::k5::m3::e3::l4::j9::k7::j5::m5::n6::I0::L7::L1::D1::J2::M1::J1::H0::G8::G0::K3::F7::K6::G6::K4::G5::C9::I4::I8::E4::K8::G3::D4::D2::D9::L6::K1::I7::F6::E9::J5::D0::G2::M0::D5::E6::L9::F0::K7::E2::L4::E7::M4::J3::L5::K9::D6::K5::F3::M5::F8::G9::I3::I9::M3::L8::F5::L0::E8::E0::E3::E1::M7::G7::E5::K2::J0::K0::F4::F2::H8::I5::D3::I1::I6::D7::o4::l8::g2::k1::i3::n3::e6::i6::l0::k3::i8::o6::j0::[]),[]⟩ wr:=by
 conv=>arg 2;arg 1;whnf
 go_loopw [17] (fun d9 wr=>∃ m:Nat,1<=m/\m<=4/\d9=.int .i64 (m:Int)/\(∃ s X,mvR D na x nb y i j m z2=(X,0)/\smT X/\TW wr w.heap.size g n1 n2 D.n r s X/\X i j=V)/\wr.rowIs vs 9 D.n (fun p=>.string (V p))/\BxM wr mb D (.slice a D.n cp)/\Below w.heap.size w wr) (fun d9 _=>4-(intOf d9).toNat)
 case atStart=>exact⟨1,Nat.le_refl _,by omega,rfl,⟨s,X,d7.out,c8.out,c9.out,o.out⟩,d1.out,d0.out,l.out⟩
 obtain⟨m,O1,N9,rfl,⟨s,X,H9,F9,F1,J6⟩,G1,J8,M6⟩:=hrel;clear c9 d7 c8 o d1 d0 l;have c9:=qh F1;clear F1;have d7:=qh H9;clear H9;have c8:=qh F9;clear F9;have o:=qh J6;clear J6;have d1:=qh G1;clear G1;have d0:=qh J8;clear J8;have l:=qh M6;clear M6;have O0:IntKind.i64.wrap ((i:Int)+1)=(i:Int)+1:=by rw[IntKind.wrap_i64];omega
 have N8:IntKind.i64.wrap ((j:Int)+1)=(j:Int)+1:=by rw[IntKind.wrap_i64];omega
 have N4:IntKind.i64.wrap (i:Int)=(i:Int):=by rw[IntKind.wrap_i64];omega
 have N7:IntKind.i64.wrap (j:Int)=(j:Int):=by rw[IntKind.wrap_i64];omega
 have N6:i<=na:=by have:=o9.out;omega
 have N5:j<=nb:=by have:=p0.out;omega
 change Code.wp prog kL _ _ _;rw[<- u5p];obtain⟨XX,w3⟩:=exq (kB);rw[<- w3];have t8:=qh w3;clear w3
 conv=>arg 2;arg 1;whnf
 conv=>arg 2;arg 2;arg 1;arg 2;whnf
 conv=>arg 2;arg 2;arg 1;arg 2;arg 2;whnf
 conv=>arg 2;arg 2;arg 1;arg 2;arg 2;arg 2;whnf
 conv=>arg 2;arg 2;arg 1;arg 2;arg 2;arg 2;arg 2;whnf
 conv=>arg 2;arg 2;arg 1;arg 2;arg 2;arg 2;arg 2;arg 2;whnf
 conv=>arg 2;arg 2;arg 1;arg 2;arg 2;arg 2;arg 2;arg 2;arg 2;whnf
 conv=>arg 2;arg 2;arg 2;whnf
 rcases (show m=1\/m=2\/m=3\/m=4 by omega) with rfl|rfl|rfl|rfl
 ·skip
  have n9:bits .and .i64 (1:Int) 1=1:=by decide +kernel
  have d2:mvR D na x nb y i j 2 z2=kR D na x nb y i j 1 0 (mvR D na x nb y i j 1 z2):=rfl;rw[d7.out] at d2;have R:=qh d2;clear d2;by_cases f9:na<i+1
  ·have c:=R.out.trans (if_pos (.inr (.inl f9)));have d3:=qh c;clear c;have g1:decide ((na:Int)<((i:Int)+1))=true:=by simp;omega
   have g9:(na:Int)<((i:Int)+1):=by omega
   go_wp2_with fail
   go_roundw
   case rel=>exact⟨2,by omega,by omega,by go_num,⟨s,X,d3.out,c8.out,c9.out,o.out⟩,d1.out,d0.out,l.out⟩
   simp[intOf]
  have g1:decide ((na:Int)<((i:Int)+1))=false:=by simp;omega
  have g9:¬ ((na:Int)<((i:Int)+1)):=by omega
  by_cases h9:nb<j+0
  ·have c:=R.out.trans (if_pos (.inr (.inr h9)));have d3:=qh c;clear c;have l5:decide ((nb:Int)<(j:Int))=true:=by simp;omega
   have h0:(nb:Int)<(j:Int):=by omega
   go_wp2_with fail
   go_roundw
   case rel=>exact⟨2,by omega,by omega,by go_num,⟨s,X,d3.out,c8.out,c9.out,o.out⟩,d1.out,d0.out,l.out⟩
   simp[intOf]
  have l5:decide ((nb:Int)<(j:Int))=false:=by simp;omega
  have h0:¬ ((nb:Int)<(j:Int)):=by omega
  have e7:i+1<n1:=by have:=o9.out;omega
  have l9:j+0<n2:=by have:=p0.out;omega
  obtain rfl:=G4.out (by omega);have v2:=(l.out.cell (p:=⟨bx,ox+i,none⟩) (H1.out (by omega)).1).trans (L3.out i (by omega));have J9:(i:Int)<(na:Int):=by omega
  have L2:(0:Int)<=(i:Int):=by omega
  obtain⟨xi,d8⟩:=exq (x i);rw[<- d8] at v2;have q8:=qh d8;clear d8;have d6:kR D na x nb y i j 1 0 (X,0)=if (z2c D xi 0 V D.n (zerR D.kind,0)).2≠0 then (X,(z2c D xi 0 V D.n (zerR D.kind,0)).2) else if (sumR D.kind (X (i+1) (j+0)) (z2c D xi 0 V D.n (zerR D.kind,0)).1 D.n).2≠0 then (X,(sumR D.kind (X (i+1) (j+0)) (z2c D xi 0 V D.n (zerR D.kind,0)).1 D.n).2) else (updT X (i+1) (j+0) (sumR D.kind (X (i+1) (j+0)) (z2c D xi 0 V D.n (zerR D.kind,0)).1 D.n).1,0):=by
   unfold kR;rw[if_neg (show ¬ ((0:Nat)≠0\/na<i+1\/nb<j+0) by omega)];rw[q8.out];rw[<- o.out];rfl
  have f0:=qh d6;clear d6
  go_wp2_with fail
  rw[t8.out];refine kmove (u:=1) (v:=0) HV w7 x6 y3 A8 B6 A2 v8 e7 l9 (by omega) f0 o c8 c9 d1 d0 l (qh ?xf) (qh ?xc) (qh ?xh)
  case xf=>exact fun e a d v w h=>g7.out e a d v w h
  case xc =>
   intro d4 d5 C F U b1 G a5 T J b0 P K L E b2 O z S Y a3 c6 A c7 H b4 Z a6 N a2 Q a7 a4 a9 b7 b9 I b6 b5 a1 a8 B b8 b3 w2 s2 X2 h1 h2 h3 h4 h5 h6 h7;have f4:=qh (R.out.trans h1);clear h1;have H2:=qh h2;clear h2;have H3:=qh h3;clear h3;have H4:=qh h4;clear h4;have H5:=qh h5;clear h5;have H6:=qh h6;clear h6;have H7:=qh h7;clear h7
   go_wp2_with fail
   go_roundw
   case rel=>exact⟨2,by omega,by omega,by go_num,⟨s2,X2,f4.out,H2.out,H3.out,H4.out⟩,H5.out,H6.out,H7.out⟩
   simp[intOf]
  case xh =>
   intro d4 d5 C F U b1 G a5 T J b0 P K L E b2 O z S Y a3 c6 A c7 H b4 Z a6 N a2 Q a7 a4 a9 b7 b9 I b6 b5 a1 a8 B b8 b3 w2 e h1 h2 h3;have hw:=y9e (D:=D) (na:=na) (x:=x) (nb:=nb) (y:=y) (z3:=z2) (k:=2) y0.out r9.out R.out (by rw[h1];exact h2) (by omega) (by omega) (by omega);rw[h1] at hw;exact e5.out _ _ _ _ _ _ _ _ _ _ _ _ _ _ _ _ _ _ _ _ _ _ _ _ _ _ _ _ _ _ _ _ _ _ _ _ _ _ _ _ _ _ _ _ _ _ _ _ _ _ _ _ _ _ _ _ _ _ _ _ _ _ _ _ _ _ _ _ _ _ _ _ _ _ _ _ _ _ _ _ _ _ _ _ _ hw h3
 ·skip
  have n9:bits .and .i64 (2:Int) 1=0:=by decide +kernel
  have d2:mvR D na x nb y i j 3 z2=kR D na x nb y i j 0 1 (mvR D na x nb y i j 2 z2):=rfl;rw[d7.out] at d2;have R:=qh d2;clear d2;by_cases f9:na<i+0
  ·have c:=R.out.trans (if_pos (.inr (.inl f9)));have d3:=qh c;clear c;have g1:decide ((na:Int)<(i:Int))=true:=by simp;omega
   have g9:(na:Int)<(i:Int):=by omega
   go_wp2_with fail
   go_roundw
   case rel=>exact⟨3,by omega,by omega,by go_num,⟨s,X,d3.out,c8.out,c9.out,o.out⟩,d1.out,d0.out,l.out⟩
   simp[intOf]
  have g1:decide ((na:Int)<(i:Int))=false:=by simp;omega
  have g9:¬ ((na:Int)<(i:Int)):=by omega
  by_cases h9:nb<j+1
  ·have c:=R.out.trans (if_pos (.inr (.inr h9)));have d3:=qh c;clear c;have l5:decide ((nb:Int)<((j:Int)+1))=true:=by simp;omega
   have h0:(nb:Int)<((j:Int)+1):=by omega
   go_wp2_with fail
   go_roundw
   case rel=>exact⟨3,by omega,by omega,by go_num,⟨s,X,d3.out,c8.out,c9.out,o.out⟩,d1.out,d0.out,l.out⟩
   simp[intOf]
  have l5:decide ((nb:Int)<((j:Int)+1))=false:=by simp;omega
  have h0:¬ ((nb:Int)<((j:Int)+1)):=by omega
  have e7:i+0<n1:=by have:=o9.out;omega
  have l9:j+1<n2:=by have:=p0.out;omega
  obtain rfl:=J7.out (by omega);have x7:=(l.out.cell (p:=⟨e1,oy+j,none⟩) (D8.out (by omega)).1).trans (M2.out j (by omega));have I2:(j:Int)<(nb:Int):=by omega
  have J4:(0:Int)<=(j:Int):=by omega
  obtain⟨yj,e0⟩:=exq (y j);rw[<- e0] at x7;have v3:=qh e0;clear e0;have d6:kR D na x nb y i j 0 1 (X,0)=if (z2c D 0 yj V D.n (zerR D.kind,0)).2≠0 then (X,(z2c D 0 yj V D.n (zerR D.kind,0)).2) else if (sumR D.kind (X (i+0) (j+1)) (z2c D 0 yj V D.n (zerR D.kind,0)).1 D.n).2≠0 then (X,(sumR D.kind (X (i+0) (j+1)) (z2c D 0 yj V D.n (zerR D.kind,0)).1 D.n).2) else (updT X (i+0) (j+1) (sumR D.kind (X (i+0) (j+1)) (z2c D 0 yj V D.n (zerR D.kind,0)).1 D.n).1,0):=by
   unfold kR;rw[if_neg (show ¬ ((0:Nat)≠0\/na<i+0\/nb<j+1) by omega)];rw[v3.out];rw[<- o.out];rfl
  have f0:=qh d6;clear d6
  go_wp2_with fail
  rw[t8.out];refine kmove (u:=0) (v:=1) HV w7 x6 y3 A8 B6 A2 v8 e7 l9 (by omega) f0 o c8 c9 d1 d0 l (qh ?xj) (qh ?xb) (qh ?xk)
  case xj=>exact fun e a d v w h=>g7.out e a d v w h
  case xb =>
   intro d4 d5 C F U b1 G a5 T J b0 P K L E b2 O z S Y a3 c6 A c7 H b4 Z a6 N a2 Q a7 a4 a9 b7 b9 I b6 b5 a1 a8 B b8 b3 w2 s2 X2 h1 h2 h3 h4 h5 h6 h7;have f4:=qh (R.out.trans h1);clear h1;have H2:=qh h2;clear h2;have H3:=qh h3;clear h3;have H4:=qh h4;clear h4;have H5:=qh h5;clear h5;have H6:=qh h6;clear h6;have H7:=qh h7;clear h7
   go_wp2_with fail
   go_roundw
   case rel=>exact⟨3,by omega,by omega,by go_num,⟨s2,X2,f4.out,H2.out,H3.out,H4.out⟩,H5.out,H6.out,H7.out⟩
   simp[intOf]
  case xk =>
   intro d4 d5 C F U b1 G a5 T J b0 P K L E b2 O z S Y a3 c6 A c7 H b4 Z a6 N a2 Q a7 a4 a9 b7 b9 I b6 b5 a1 a8 B b8 b3 w2 e h1 h2 h3;have hw:=y9e (D:=D) (na:=na) (x:=x) (nb:=nb) (y:=y) (z3:=z2) (k:=3) y0.out r9.out R.out (by rw[h1];exact h2) (by omega) (by omega) (by omega);rw[h1] at hw;exact e5.out _ _ _ _ _ _ _ _ _ _ _ _ _ _ _ _ _ _ _ _ _ _ _ _ _ _ _ _ _ _ _ _ _ _ _ _ _ _ _ _ _ _ _ _ _ _ _ _ _ _ _ _ _ _ _ _ _ _ _ _ _ _ _ _ _ _ _ _ _ _ _ _ _ _ _ _ _ _ _ _ _ _ _ _ _ hw h3
 ·skip
  have n9:bits .and .i64 (3:Int) 1=1:=by decide +kernel
  have d2:mvR D na x nb y i j 4 z2=kR D na x nb y i j 1 1 (mvR D na x nb y i j 3 z2):=rfl;rw[d7.out] at d2;have R:=qh d2;clear d2;by_cases f9:na<i+1
  ·have c:=R.out.trans (if_pos (.inr (.inl f9)));have d3:=qh c;clear c;have g1:decide ((na:Int)<((i:Int)+1))=true:=by simp;omega
   have g9:(na:Int)<((i:Int)+1):=by omega
   go_wp2_with fail
   go_roundw
   case rel=>exact⟨4,by omega,by omega,by go_num,⟨s,X,d3.out,c8.out,c9.out,o.out⟩,d1.out,d0.out,l.out⟩
   simp[intOf]
  have g1:decide ((na:Int)<((i:Int)+1))=false:=by simp;omega
  have g9:¬ ((na:Int)<((i:Int)+1)):=by omega
  by_cases h9:nb<j+1
  ·have c:=R.out.trans (if_pos (.inr (.inr h9)));have d3:=qh c;clear c;have l5:decide ((nb:Int)<((j:Int)+1))=true:=by simp;omega
   have h0:(nb:Int)<((j:Int)+1):=by omega
   go_wp2_with fail
   go_roundw
   case rel=>exact⟨4,by omega,by omega,by go_num,⟨s,X,d3.out,c8.out,c9.out,o.out⟩,d1.out,d0.out,l.out⟩
   simp[intOf]
  have l5:decide ((nb:Int)<((j:Int)+1))=false:=by simp;omega
  have h0:¬ ((nb:Int)<((j:Int)+1)):=by omega
  have e7:i+1<n1:=by have:=o9.out;omega
  have l9:j+1<n2:=by have:=p0.out;omega
  obtain rfl:=G4.out (by omega);have v2:=(l.out.cell (p:=⟨bx,ox+i,none⟩) (H1.out (by omega)).1).trans (L3.out i (by omega));have J9:(i:Int)<(na:Int):=by omega
  have L2:(0:Int)<=(i:Int):=by omega
  obtain⟨xi,d8⟩:=exq (x i);rw[<- d8] at v2;have q8:=qh d8;clear d8;obtain rfl:=J7.out (by omega);have x7:=(l.out.cell (p:=⟨e1,oy+j,none⟩) (D8.out (by omega)).1).trans (M2.out j (by omega));have I2:(j:Int)<(nb:Int):=by omega
  have J4:(0:Int)<=(j:Int):=by omega
  obtain⟨yj,e0⟩:=exq (y j);rw[<- e0] at x7;have v3:=qh e0;clear e0;have d6:kR D na x nb y i j 1 1 (X,0)=if (z2c D xi yj V D.n (zerR D.kind,0)).2≠0 then (X,(z2c D xi yj V D.n (zerR D.kind,0)).2) else if (sumR D.kind (X (i+1) (j+1)) (z2c D xi yj V D.n (zerR D.kind,0)).1 D.n).2≠0 then (X,(sumR D.kind (X (i+1) (j+1)) (z2c D xi yj V D.n (zerR D.kind,0)).1 D.n).2) else (updT X (i+1) (j+1) (sumR D.kind (X (i+1) (j+1)) (z2c D xi yj V D.n (zerR D.kind,0)).1 D.n).1,0):=by
   unfold kR;rw[if_neg (show ¬ ((0:Nat)≠0\/na<i+1\/nb<j+1) by omega)];rw[q8.out];rw[v3.out];rw[<- o.out];rfl
  have f0:=qh d6;clear d6
  go_wp2_with fail
  rw[t8.out];refine kmove (u:=1) (v:=1) HV w7 x6 y3 A8 B6 A2 v8 e7 l9 (by omega) f0 o c8 c9 d1 d0 l (qh ?xd) (qh ?xa) (qh ?xg)
  case xd=>exact fun e a d v w h=>g7.out e a d v w h
  case xa =>
   intro d4 d5 C F U b1 G a5 T J b0 P K L E b2 O z S Y a3 c6 A c7 H b4 Z a6 N a2 Q a7 a4 a9 b7 b9 I b6 b5 a1 a8 B b8 b3 w2 s2 X2 h1 h2 h3 h4 h5 h6 h7;have f4:=qh (R.out.trans h1);clear h1;have H2:=qh h2;clear h2;have H3:=qh h3;clear h3;have H4:=qh h4;clear h4;have H5:=qh h5;clear h5;have H6:=qh h6;clear h6;have H7:=qh h7;clear h7
   go_wp2_with fail
   go_roundw
   case rel=>exact⟨4,by omega,by omega,by go_num,⟨s2,X2,f4.out,H2.out,H3.out,H4.out⟩,H5.out,H6.out,H7.out⟩
   simp[intOf]
  case xg =>
   intro d4 d5 C F U b1 G a5 T J b0 P K L E b2 O z S Y a3 c6 A c7 H b4 Z a6 N a2 Q a7 a4 a9 b7 b9 I b6 b5 a1 a8 B b8 b3 w2 e h1 h2 h3;have hw:=y9e (D:=D) (na:=na) (x:=x) (nb:=nb) (y:=y) (z3:=z2) (k:=4) y0.out r9.out R.out (by rw[h1];exact h2) (by omega) (by omega) (by omega);rw[h1] at hw;exact e5.out _ _ _ _ _ _ _ _ _ _ _ _ _ _ _ _ _ _ _ _ _ _ _ _ _ _ _ _ _ _ _ _ _ _ _ _ _ _ _ _ _ _ _ _ _ _ _ _ _ _ _ _ _ _ _ _ _ _ _ _ _ _ _ _ _ _ _ _ _ _ _ _ _ _ _ _ _ _ _ _ _ _ _ _ _ hw h3
 go_wp2_with fail
 exact C8.out _ _ _ _ _ _ _ _ _ _ _ _ _ _ _ _ _ _ _ _ _ _ _ _ _ _ _ _ _ _ _ _ _ _ _ _ _ _ _ _ _ _ _ _ _ _ _ _ _ _ _ _ _ _ _ _ _ _ _ _ _ _ _ _ _ _ _ _ _ _ _ _ _ _ _ _ _ _ _ _ _ _ _ _ _ _ _ _ d7.out c8.out c9.out d0.out l.out
end
section
open Go.RowKit Go.Deep
def Wg8 (D:MD) (na:Nat) (x:Nat->Int) (nb:Nat) (y:Nat->Int) (w:World) (r:Ending) (w':World):Prop :=
 Below w.heap.size w w'/\((VM D/\isWord na x=true/\isWord nb y=true/\r=.returned (.tuple #[.string (wgtR D na x nb y).1,.int .i64 ((wgtR D na x nb y).2:Int)]))\/(¬ (VM D/\isWord na x=true/\isWord nb y=true)/\r=.returned (.tuple #[.string ⟨#[]⟩,.int .i64 1])))
theorem y4v {n:Nat} {x:Nat->Int} (h:isWord n x=true):n<=200:=by
 unfold isWord at h;rw[Bool.and_eq_true] at h;exact of_decide_eq_true h.1
set_option maxRecDepth 1000000 in
theorem x3h {D:MD} {sv xv yv:Value} {na nb:Nat} {x y:Nat->Int} (w:World) (hD:StS none w sv D) (hs:MSz D) (C0:NoSil D) (hx:Si none w xv na x) (hy:Si none w yv nb y) :
  Calls prog 26 #[.agg #[.int .i64 D.kind,.int .i64 D.start,.string D.lead,sv],xv,yv] w (Wg8 D na x nb y w):=by
 obtain⟨a,cp,_,_,_,_,_,_,E7,_⟩:=hD.open;subst E7;have E3:=z3t hx;have C9:=z3t hy;obtain⟨ax,cx,bx,ox,rfl,z5,_,_,i2,u2⟩:=hx.open;obtain⟨ay,cy,I0,oy,rfl,x1,_,_,h7,k3⟩:=hy.open;obtain⟨w1,e1⟩:=exq (w.alloc (.cells #[.int .i64 D.kind,.int .i64 D.start,.string D.lead,.slice a D.n cp] 36));obtain⟨A,g0⟩:=exq (w.heap.size);have x0:Fr (fun _=>False) w w1:=by rw[e1];exact Fr.alloc _ _
 have F:BxM w1 A D (.slice a D.n cp):=by rw[e1,g0];exact BxM.new w D _
 have f9:=qh (show Below w.heap.size w w1 from x0.below (Nat.le_refl _) (fun _ e=>e.elim));have z:=qh F;have I2:=qh (show A<w.heap.size+1 by omega);have b9:∀ W,Below w.heap.size w W->StS none W (.slice a D.n cp) D:=fun W h=>hD.kept (z0c h none);have C3:=fun W (h:Below w.heap.size w W)=>y8h W (⟨_,rfl,b9 W h⟩:Ma none W (.agg #[.int .i64 D.kind,.int .i64 D.start,.string D.lead,.slice a D.n cp]) D) hs;have z9:=fun W (h:Below w.heap.size w W)=>z6i W (hx.kept (z0c h none)) E3;have C2:=fun W (h:Below w.heap.size w W)=>z6i W (hy.kept (z0c h none)) C9;have y9:=fun W (h:Below w.heap.size w W) (hV:VM D)=>x0i W hV (b9 W h) C0;have y8:=fun W (hV:VM D)=>y2j (D:=D) (a:=a) (cap:=cp) W hV.n2;have r3:=fun W v=>v2i (D:=D) (sv:=.slice a D.n cp) (vv:=.slice (some ⟨v,0,none⟩) D.n D.n) W rfl rfl;have s9:=qh b9;clear b9;have o2:=qh C3;clear C3;have u5:=qh z9;clear z9;have A7:=qh C2;clear C2;have k9:=qh y9;clear y9;have G1:=qh y8;clear y8;have F4:=qh r3;clear r3;have j4:=qh hs;clear hs;have D5:=qh z5;clear z5;have D8:=qh i2;clear i2;have F6:=qh u2;clear u2;have E4:=qh x1;clear x1;have D0:=qh h7;clear h7;have F9:=qh k3;clear k3;have m0:=cell_of F 0 rfl;have m1:=cell_of F 1 rfl;have m2:=cell_of F 2 rfl;have m3:=cell_of F 3 rfl;have l0:=m0;have l1:=m1;have l2:=m2;have l3:=m3;rw[e1,g0] at l0 l1 l2 l3;clear hD hx hy C0 x0 F
 go_enter func26,ntmps26
 go_wp2_with fail
 rw[<- e1,<- g0];clear e1 g0 l0 l1 l2 l3 m0 m1 m2 m3;refine(o2.out w1 f9.out).mono ?_;rintro rr w2 ⟨f7,u3⟩;obtain⟨bv,rfl,j7⟩:∃ bv,rr=.returned (.bool bv)/\(VM D↔bv=true):=by
  rcases u3 with ⟨h,rfl⟩|⟨h,rfl⟩
  ·exact⟨true,rfl,by simp[h]⟩
  exact⟨false,rfl,by simp[h]⟩
 have U:=qh (f9.out.trans (f7.mono f9.out.size));have a4:=qh (z.out.kept (Fr.of_below (C:=fun _=>False) f7) (fun e=>e));clear f7 u3 f9 z o2;cases bv
 ·have e6:=qh (show ¬ (VM D/\isWord na x=true/\isWord nb y=true) from fun h=>by have:=j7.1 h.1;cases this)
  go_wp2_with fail
  go_ret2;exact⟨U.out,.inr ⟨e6.out,rfl⟩⟩
 have HV:=qh (j7.2 rfl);clear j7
 go_wp2_with fail
 refine(u5.out w2 U.out).mono ?_;rintro rr w3 ⟨rfl,rfl⟩;clear u5;cases g6:isWord na x
 ·have e6:=qh (show ¬ (VM D/\isWord na x=true/\isWord nb y=true) from fun h=>by rw[g6] at h;cases h.2.1)
  go_wp2_with fail
  go_ret2;exact⟨U.out,.inr ⟨e6.out,rfl⟩⟩
 have H1:=y4v g6;have p0:=qh g6;clear g6
 go_wp2_with fail
 refine(A7.out w3 U.out).mono ?_;rintro rr w4 ⟨rfl,rfl⟩;clear A7;cases f8:isWord nb y
 ·have e6:=qh (show ¬ (VM D/\isWord na x=true/\isWord nb y=true) from fun h=>by rw[f8] at h;cases h.2.2)
  go_wp2_with fail
  go_ret2;exact⟨U.out,.inr ⟨e6.out,rfl⟩⟩
 have G7:=y4v f8;have r9:=qh f8;clear f8;have E8:D.n<=3000:=HV.out.n2;have m0:=cell_of a4.out 0 rfl;have m1:=cell_of a4.out 1 rfl;have m2:=cell_of a4.out 2 rfl;have m3:=cell_of a4.out 3 rfl
 go_wp2_with fail
 refine(k9.out w4 U.out HV.out).mono ?_;rintro rr w5 ⟨rfl,a2⟩;have d8:=qh (U.out.trans (a2.mono U.out.size));have f5:=qh (a4.out.kept (Fr.of_below (C:=fun _=>False) a2) (fun e=>e));clear a2 U a4 k9 m0 m1 m2 m3;obtain⟨n1,l4⟩:=exq (na+1);obtain⟨n2,p8⟩:=exq (nb+1);have G9:IntKind.i64.wrap ((na:Int)+1)=(n1:Int):=by rw[IntKind.wrap_i64];omega
 have G5:IntKind.i64.wrap ((nb:Int)+1)=(n2:Int):=by rw[IntKind.wrap_i64];omega
 have k5:=run_make_row' (P:=prog) 63 66 (.slice none 0 0) 24 underlying63 y3c rfl .i64 .i64 n1 (by omega) (by omega);have A9:=run_make_row' (P:=prog) 66 67 (.slice none 0 0) 24 underlying66 y1d rfl .i64 .i64 n2 (by omega) (by omega);have a6:=qh l4;have b0:=qh p8;have F7:n1<=201:=by omega
 have f7:n2<=201:=by omega
 obtain⟨w6,a8⟩:=exq (w5.alloc (.cells (madeCells #[.slice none 0 0] n1) 66));obtain⟨g,hg⟩:=exq (w5.heap.size);have b2:Fr (fun _=>False) w5 w6:=by rw[a8];exact Fr.alloc _ _
 have H:=qh (show TQ w6 w.heap.size g n1 n2 D.n 0 n2 (fun _=>0) (fun _ _=>0) (z2b D.kind) by rw[a8,hg];exact TQ.made w5 d8.out.size n1 n2 D.n _);have d6:=qh (f5.out.kept b2 (fun e=>e));have m8:=qh (d8.out.trans (b2.below d8.out.size (fun _ e=>e.elim)));have F5:=qh (show A≠g by have:=lt_of_block f5.out;omega);clear b2 d8 f5 l4 p8
 go_wp2_with fail
 rw[<- a8,<- hg];clear a8 hg k5
 go_loopw [11] (fun j3 wr=>∃ k:Nat,k<=n1/\j3=.int .i64 (k:Int)/\(∃ r s,TQ wr w.heap.size g n1 n2 D.n k n2 r s (z2b D.kind))/\BxM wr A D (.slice a D.n cp)/\Below w.heap.size w wr) (fun j3 _=>n1-(intOf j3).toNat)
 case atStart=>exact⟨0,Nat.zero_le _,rfl,⟨_,_,H.out⟩,d6.out,m8.out⟩
 obtain⟨k,hk,rfl,⟨r,s,e3⟩,F,Z⟩:=hrel;clear H d6 m8;have H:=qh e3;clear e3;have z:=qh F;clear F;have u:=qh Z;clear Z;by_cases C4:k<n1
 ·have H9:(k:Int)<=(na:Int):=by have:=a6.out;omega
  have G8:(k:Int)<(n1:Int):=by omega
  have H0:(0:Int)<=(k:Int):=by omega
  have c0:=H.out.top.cell C4;rw[if_neg (Nat.lt_irrefl k)] at c0;have f0:=H.out.top.frozen k;have F1:=H.out.top.lt;obtain⟨w7,g1⟩:∃ w7,w7=(wr.setCell ⟨g,k,none⟩ (.slice (some ⟨wr.heap.size,0,none⟩) n2 n2)).alloc (.cells (madeCells #[.slice none 0 0] n2) 67):=⟨_,rfl⟩;have e9:=H.out.addRow u.out.size;rw[<- g1] at e9;have u8:=qh e9;clear e9;have i8:Fr (fun c=>c=g) wr w7:=by rw[g1];exact((Fr.refl (fun c=>c=g) wr).set (p:=⟨g,k,none⟩) (.inl rfl) _).trans (Fr.alloc _ _)
  have h8:=qh (z.out.kept i8 F5.out);have u0:=qh (u.out.trans (i8.below u.out.size (fun c e=>by rw[e];exact H.out.base)));clear i8
  go_wp2_with fail
  rw[<- g1];clear g1 c0 f0 F1
  go_loopw [12] (fun j6 wr=>∃ j:Nat,j<=n2/\j6=.int .i64 (j:Int)/\(∃ r s,TQ wr w.heap.size g n1 n2 D.n (k+1) j r s (z2b D.kind))/\BxM wr A D (.slice a D.n cp)/\Below w.heap.size w wr) (fun j6 _=>n2-(intOf j6).toNat)
  case atStart=>exact⟨0,Nat.zero_le _,rfl,⟨_,_,u8.out⟩,h8.out,u0.out⟩
  obtain⟨j,hj,rfl,⟨r,s,e3⟩,F,Z⟩:=hrel;clear u8 h8 u0 H z u;have H:=qh e3;clear e3;have z:=qh F;clear F;have u:=qh Z;clear Z;by_cases d2:j<n2
  ·have D9:(j:Int)<=(nb:Int):=by have:=b0.out;omega
   have o6:(j:Int)<(n2:Int):=by omega
   have r2:(0:Int)<=(j:Int):=by omega
   obtain⟨rk,i7⟩:=exq (r k);have Y:∀ W,Fr (fun _=>False) wr W->(fun l:World=>l.cell? ⟨g,k,none⟩=some (.slice (some ⟨rk,0,none⟩) n2 n2)/\l.cell? ⟨A,0,none⟩=some (.int .i64 D.kind)/\l.cell? ⟨A,1,none⟩=some (.int .i64 D.start)/\l.cell? ⟨A,2,none⟩=some (.string D.lead)/\l.cell? ⟨A,3,none⟩=some (.slice a D.n cp)) W:=fun W hf=>by
    have h1:=(H.out.new hf).top.cell C4;rw[if_pos (Nat.lt_succ_self k)] at h1;have J:=z.out.kept hf (fun e=>e);exact⟨by rw[i7];exact h1,cell_of J 0 rfl,cell_of J 1 rfl,cell_of J 2 rfl,cell_of J 3 rfl⟩
   have a9:=qh Y;clear Y;have k0:=qh i7;clear i7;obtain⟨Q,G⟩:=exq (wr.drew);have R:=qh (show Fr (fun _=>False) wr Q by rw[G];exact Fr.of_below ((Below.refl wr.heap.size wr).drew))
   go_wp2_with fail
   have o:=a9.out Q R.out;refine z0g (fun l:World=>l.cell? ⟨g,k,none⟩=some (.slice (some ⟨rk,0,none⟩) n2 n2)/\l.cell? ⟨A,0,none⟩=some (.int .i64 D.kind)/\l.cell? ⟨A,1,none⟩=some (.int .i64 D.start)/\l.cell? ⟨A,2,none⟩=some (.string D.lead)/\l.cell? ⟨A,3,none⟩=some (.slice a D.n cp)) 8 (by kernel_rfl) ?_;rw[<- G];clear G;refine z0b.tl 0 o (v:=?Yn) ?xx ?Xb
   case xx=>rintro l ⟨s1,s2,E,B,I⟩;go_simp;try with_reducible rfl
   refine z0b.tl 1 o (v:=?Yt) ?yn ?Xc
   case yn=>rintro l ⟨s1,s2,E,B,I⟩;go_simp;try with_reducible rfl
   refine z0b.tl 2 o (v:=?Xz) ?xp ?Xn
   case xp=>rintro l ⟨s1,s2,E,B,I⟩;go_simp;try with_reducible rfl
   refine z0b.tl 3 o (v:=?Yo) ?yg ?Xl
   case yg=>rintro l ⟨s1,s2,E,B,I⟩;go_simp;try with_reducible rfl
   refine z0b.tl 4 o (v:=?Ya) ?xj ?Xm
   case xj=>rintro l ⟨s1,s2,E,B,I⟩;go_simp;try with_reducible rfl
   refine z0b.tl 5 o (v:=?Xw) ?yq ?zw
   case yq=>rintro l ⟨s1,s2,E,B,I⟩;go_simp;try with_reducible rfl
   try simp only[Act.put,tryL]
   refine z0b.on 6 fun K N=>?_;go_simp;refine(G1.out Q HV.out).mono ?_;rintro rr w8 ⟨A0,vg,rfl,D3,o9⟩;have c9:=qh (R.out.trans (Fr.of_below A0));have j0:=a9.out w8 c9.out;have D4:=qh o9;have C8:=qh (show wr.heap.size<=vg by have:=R.out.size;omega);clear A0 D3 o9 o;refine N.out _ _ (.inr j0) ?_;clear N K
   try simp only[Act.put,tryL]
   refine z0b.tl 7 j0 (v:=?Yv) ?yr ?Xf
   case yr=>rintro l ⟨s1,s2,E,B,I⟩;go_simp;try with_reducible rfl
   try simp only[Act.put,tryL]
   have b5:=((H.out.new c9.out).mid k (Nat.lt_succ_self k)).1;rw[<- k0.out] at b5;have c0:=b5.cell d2;rw[if_neg (by unfold dn;omega)] at c0;have f0:=b5.frozen j;refine z0b.on 8 fun K N=>?_;go_simp;refine N.out _ _ (.inl rfl) (z0b.done (by kernel_rfl) ?_ _);clear N K j0 c0 f0;have g3:=H.out.addVec d2 c9.out D4.out u.out.size C8.out;rw[<- k0.out] at g3;have h6:A≠rk:=fun e=>by
    obtain⟨c,h1,_⟩:=b5;have J:=z.out.kept c9.out (fun e=>e);unfold BxM at J;rw[e,h1] at J;simp at J
   have f1:w.heap.size<=rk:=by rw[k0.out];exact(H.out.mid k (Nat.lt_succ_self k)).2
   obtain⟨w9,b1⟩:=exq (w8.setCell ⟨rk,j,none⟩ (.slice (some ⟨vg,0,none⟩) D.n D.n));have b7:Fr (fun c=>c=rk) w8 w9:=by rw[b1];exact(Fr.refl (fun c=>c=rk) w8).set (p:=⟨rk,j,none⟩) (.inl rfl) _
   rw[<- b1] at g3;have D7:=qh g3;have d3:=qh ((z.out.kept c9.out (fun e=>e)).kept b7 h6);have g5:=qh ((u.out.trans (c9.out.below u.out.size (fun _ e=>e.elim))).trans (b7.below (Nat.le_trans u.out.size c9.out.size) (fun c e=>by rw[e];exact f1)));clear g3 b5 h6 f1 b7
   go_wp2_with fail
   rw[<- b1];go_roundw
   case rel=>exact⟨j+1,by omega,by go_num,⟨_,_,D7.out⟩,d3.out,g5.out⟩
   simp[intOf];omega
  have e5:j=n2:=by omega
  have i6:¬ ((j:Int)<=(nb:Int)):=by have:=b0.out;omega
  have ht:=H.out;rw[e5] at ht;have c6:=qh ht;clear ht e5
  go_wp2_with fail
  go_roundw
  case rel=>exact⟨k+1,by omega,by go_num,⟨_,_,c6.out⟩,z.out,u.out⟩
  simp[intOf];omega
 have t9:k=n1:=by omega
 have i6:¬ ((k:Int)<=(na:Int)):=by have:=a6.out;omega
 have ht:=H.out;rw[t9] at ht;have c6:=qh ht;clear ht t9 H A9;obtain⟨st,b9⟩:∃ st:Nat,D.start=(st:Int):=⟨D.start.toNat,by have:=HV.out.s0;omega⟩;have C6:st<D.n:=by have:=HV.out.s1;omega
 have G2:(st:Int)<(D.n:Int):=by omega
 have C7:(0:Int)<=(st:Int):=by omega
 have g4:0<n1:=by have:=a6.out;omega
 have i4:0<n2:=by have:=b0.out;omega
 obtain⟨r0,k1⟩:=exq (r 0);obtain⟨s0,g2⟩:=exq (s 0 0);have Y:(fun l:World=>l.cell? ⟨g,0,none⟩=some (.slice (some ⟨r0,0,none⟩) n2 n2)/\l.cell? ⟨r0,0,none⟩=some (.slice (some ⟨s0,0,none⟩) D.n D.n)/\l.cell? ⟨A,1,none⟩=some (.int .i64 (st:Int))/\l.cell? ⟨A,2,none⟩=some (.string D.lead)) wr:=by
  have h1:=c6.out.whole.top.cell g4;have J:=(c6.out.whole.mid 0 g4).1.cell i4;refine⟨by rw[k1];exact h1,by rw[k1,g2];exact J,?_,cell_of z.out 2 rfl⟩;rw[<- b9];exact cell_of z.out 1 rfl
 have b8:=c6.out.whole.vec 0 0 g4 i4;rw[<- g2] at b8;have c0:=b8.cell C6;have f0:=b8.frozen st;obtain⟨a1,j2⟩:=c6.out.lead b9 g4 i4;rw[<- g2] at a1 j2;have b6:A≠s0:=v9s z.out b8;obtain⟨w9,b1⟩:=exq (wr.setCell ⟨s0,st,none⟩ (.string D.lead));have b7:Fr (fun c=>c=s0) wr w9:=by rw[b1];exact(Fr.refl (fun c=>c=s0) wr).set (p:=⟨s0,st,none⟩) (.inl rfl) _
 rw[<- b1] at a1;obtain⟨Q,G⟩:=exq (wr.drew);obtain⟨D6,f4⟩:∃ w,w=Q.setCell ⟨s0,st,none⟩ (.string D.lead):=⟨_,rfl⟩;have d4:Fr (fun _=>False) w9 D6:=by rw[b1,f4,G];exact⟨rfl,rfl,rfl,Nat.le_refl _,fun q _ _=>rfl⟩
 have L:=qh (a1.new d4);have d3:=qh ((z.out.kept b7 b6).kept d4 (fun e=>e));have g5:=qh ((u.out.trans (b7.below u.out.size (fun c e=>by rw[e];exact j2))).trans (d4.below (Nat.le_trans u.out.size b7.size) (fun _ e=>e.elim)));have o:(fun l:World=>l.cell? ⟨g,0,none⟩=some (.slice (some ⟨r0,0,none⟩) n2 n2)/\l.cell? ⟨r0,0,none⟩=some (.slice (some ⟨s0,0,none⟩) D.n D.n)/\l.cell? ⟨A,1,none⟩=some (.int .i64 (st:Int))/\l.cell? ⟨A,2,none⟩=some (.string D.lead)) Q:=by rw[G];exact Y
 have d0:Q.cell? ⟨s0,st,none⟩=some (.string (zerR D.kind st)):=by rw[G];exact c0
 have e0:Q.frozen? ⟨s0,st,none⟩=false:=by rw[G];exact f0
 have e4:(0:Int)<(n1:Int):=by omega
 have e7:(0:Int)<(n2:Int):=by omega
 clear Y b8 c0 f0 a1 j2 b6 b7 d4 b1 k1 g2 b9 c6
 go_wp2_with fail
 refine z0g (fun l:World=>l.cell? ⟨g,0,none⟩=some (.slice (some ⟨r0,0,none⟩) n2 n2)/\l.cell? ⟨r0,0,none⟩=some (.slice (some ⟨s0,0,none⟩) D.n D.n)/\l.cell? ⟨A,1,none⟩=some (.int .i64 (st:Int))/\l.cell? ⟨A,2,none⟩=some (.string D.lead)) 10 (by kernel_rfl) ?_;rw[<- G];clear G;refine z0b.tl 0 o (v:=?Yy) ?ym ?zr
 case ym=>rintro l ⟨s1,s2,E,B⟩;go_simp;try with_reducible rfl
 refine z0b.tl 1 o (v:=?Yg) ?yz ?zd
 case yz=>rintro l ⟨s1,s2,E,B⟩;go_simp;try with_reducible rfl
 refine z0b.tl 2 o (v:=?Za) ?xo ?Xj
 case xo=>rintro l ⟨s1,s2,E,B⟩;go_simp;try with_reducible rfl
 refine z0b.tl 3 o (v:=?Ye) ?yb ?Xh
 case yb=>rintro l ⟨s1,s2,E,B⟩;go_simp;try with_reducible rfl
 refine z0b.tl 4 o (v:=?Zd) ?yu ?Xk
 case yu=>rintro l ⟨s1,s2,E,B⟩;go_simp;try with_reducible rfl
 refine z0b.tl 5 o (v:=?Zc) ?yl ?Xe
 case yl=>rintro l ⟨s1,s2,E,B⟩;go_simp;try with_reducible rfl
 refine z0b.tl 6 o (v:=?Xy) ?xl ?zp
 case xl=>rintro l ⟨s1,s2,E,B⟩;go_simp;try with_reducible rfl
 refine z0b.tl 7 o (v:=?Yf) ?yk ?zo
 case yk=>rintro l ⟨s1,s2,E,B⟩;go_simp;try with_reducible rfl
 refine z0b.tl 8 o (v:=?Yr) ?xu ?zy
 case xu=>rintro l ⟨s1,s2,E,B⟩;go_simp;try with_reducible rfl
 refine z0b.tl 9 o (v:=?Yz) ?za ?zj
 case za=>rintro l ⟨s1,s2,E,B⟩;go_simp;try with_reducible rfl
 try simp only[Act.put,tryL]
 refine z0b.on 10 fun K N=>?_;go_simp;refine N.out _ _ (.inl rfl) (z0b.done (by kernel_rfl) ?_ _);clear N K o d0 e0;rw[<- f4];clear f4;have r1:=qh (u4m (D:=D) (by have:=j4.out.lead;unfold smS;unfold maxLen at this;omega))
 go_wp2_with fail
 go_loopw [13] (fun i3 wr=>∃ i:Nat,i<=n1/\i3=.int .i64 (i:Int)/\(∃ r s X,tabR D na x nb y i (X0R D,0)=(X,0)/\smT X/\TW wr w.heap.size g n1 n2 D.n r s X)/\BxM wr A D (.slice a D.n cp)/\Below w.heap.size w wr) (fun i3 _=>n1-(intOf i3).toNat)
 case atStart=>exact⟨0,Nat.zero_le _,rfl,⟨_,_,_,rfl,r1.out,L.out⟩,d3.out,g5.out⟩
 obtain⟨i,hi,rfl,⟨r,s,X,e8,b6,a1⟩,F,Z⟩:=hrel;clear L d3 g5 r1;have L:=qh a1;clear a1;have a7:=qh e8;clear e8;have c7:=qh b6;clear b6;have z:=qh F;clear F;have u:=qh Z;clear Z;by_cases a5:i<n1
 ·have I1:(i:Int)<=(na:Int):=by have:=a6.out;omega
  have H8:(i:Int)<(n1:Int):=by omega
  have G6:(0:Int)<=(i:Int):=by omega
  have H6:i<=na:=by have:=a6.out;omega
  obtain⟨z1,e4⟩:=exq (tabR D na x nb y i (X0R D,0));have E6:=qh e4;have B9:=qh (show tabR D na x nb y (i+1) (X0R D,0)=colR D na x nb y i (nb+1) z1 by rw[e4];rfl);rw[<- e4] at a7;clear e4
  go_wp2_with fail
  go_loopw [14] (fun j5 wr=>∃ j:Nat,j<=n2/\j5=.int .i64 (j:Int)/\(∃ r s X,colR D na x nb y i j z1=(X,0)/\smT X/\TW wr w.heap.size g n1 n2 D.n r s X)/\BxM wr A D (.slice a D.n cp)/\Below w.heap.size w wr) (fun j5 _=>n2-(intOf j5).toNat)
  case atStart=>exact⟨0,Nat.zero_le _,rfl,⟨_,_,_,a7.out,c7.out,L.out⟩,z.out,u.out⟩
  obtain⟨j,hj,rfl,⟨r,s,X,e8,b6,a1⟩,F,Z⟩:=hrel;clear L z u a7 c7;have L:=qh a1;clear a1;have a7:=qh e8;clear e8;have c7:=qh b6;clear b6;have z:=qh F;clear F;have u:=qh Z;clear Z;by_cases d2:j<n2
  ·have D9:(j:Int)<=(nb:Int):=by have:=b0.out;omega
   have o6:(j:Int)<(n2:Int):=by omega
   have r2:(0:Int)<=(j:Int):=by omega
   have G4:j<=nb:=by have:=b0.out;omega
   obtain⟨z2,e7⟩:=exq (colR D na x nb y i j z1);have D2:=qh e7;have A3:=qh (show colR D na x nb y i (j+1) z1=mvR D na x nb y i j 4 z2 by rw[e7];rfl);rw[<- e7] at a7;clear e7;obtain⟨rq,d7⟩:=exq (r i);obtain⟨vs,d1⟩:=exq (s i j);have Y:∀ W,Fr (fun _=>False) wr W->(fun l:World=>l.cell? ⟨g,i,none⟩=some (.slice (some ⟨rq,0,none⟩) n2 n2)/\l.cell? ⟨rq,j,none⟩=some (.slice (some ⟨vs,0,none⟩) D.n D.n)/\l.cell? ⟨A,0,none⟩=some (.int .i64 D.kind)/\l.cell? ⟨A,1,none⟩=some (.int .i64 D.start)/\l.cell? ⟨A,2,none⟩=some (.string D.lead)/\l.cell? ⟨A,3,none⟩=some (.slice a D.n cp)) W:=fun W hf=>by
    have h1:=L.out.new hf;have J:=z.out.kept hf (fun e=>e);rw[d7,d1];exact⟨h1.top.cell a5,(h1.mid i a5).1.cell d2,cell_of J 0 rfl,cell_of J 1 rfl,cell_of J 2 rfl,cell_of J 3 rfl⟩
   have a9:=qh Y;clear Y;have d9:=qh d7;clear d7;have j1:=qh d1;clear d1;obtain⟨Q,G⟩:=exq (wr.drew);have R:=qh (show Fr (fun _=>False) wr Q by rw[G];exact Fr.of_below ((Below.refl wr.heap.size wr).drew))
   go_wp2_with fail
   have o:=a9.out Q R.out;refine z0g (fun l:World=>l.cell? ⟨g,i,none⟩=some (.slice (some ⟨rq,0,none⟩) n2 n2)/\l.cell? ⟨rq,j,none⟩=some (.slice (some ⟨vs,0,none⟩) D.n D.n)/\l.cell? ⟨A,0,none⟩=some (.int .i64 D.kind)/\l.cell? ⟨A,1,none⟩=some (.int .i64 D.start)/\l.cell? ⟨A,2,none⟩=some (.string D.lead)/\l.cell? ⟨A,3,none⟩=some (.slice a D.n cp)) 14 (by kernel_rfl) ?_;rw[<- G];clear G;refine z0b.tl 0 o (v:=?Yw) ?ys ?zx
   case ys=>rintro l ⟨s1,s2,E,B,I,S⟩;go_simp;try with_reducible rfl
   refine z0b.tl 1 o (v:=?Xx) ?yi ?zl
   case yi=>rintro l ⟨s1,s2,E,B,I,S⟩;go_simp;try with_reducible rfl
   refine z0b.tl 2 o (v:=?Yl) ?xs ?zv
   case xs=>rintro l ⟨s1,s2,E,B,I,S⟩;go_simp;try with_reducible rfl
   refine z0b.tl 3 o (v:=?Yc) ?yh ?zs
   case yh=>rintro l ⟨s1,s2,E,B,I,S⟩;go_simp;try with_reducible rfl
   refine z0b.tl 4 o (v:=?Yi) ?yy ?Xo
   case yy=>rintro l ⟨s1,s2,E,B,I,S⟩;go_simp;try with_reducible rfl
   refine z0b.tl 5 o (v:=?Yu) ?yd ?zu
   case yd=>rintro l ⟨s1,s2,E,B,I,S⟩;go_simp;try with_reducible rfl
   refine z0b.tl 6 o (v:=?Yh) ?xw ?ze
   case xw=>rintro l ⟨s1,s2,E,B,I,S⟩;go_simp;try with_reducible rfl
   refine z0b.tl 7 o (v:=?Xv) ?xn ?Xg
   case xn=>rintro l ⟨s1,s2,E,B,I,S⟩;go_simp;try with_reducible rfl
   refine z0b.tl 8 o (v:=?Yd) ?yj ?zf
   case yj=>rintro l ⟨s1,s2,E,B,I,S⟩;go_simp;try with_reducible rfl
   try simp only[Act.put,tryL]
   refine z0b.on 9 fun K N=>?_;go_simp;refine(F4.out Q vs).mono ?_;rintro rr w5 ⟨rfl,a2⟩;have b3:=qh (R.out.trans (Fr.of_below a2));have O:=a9.out w5 b3.out;clear a2 o;refine N.out _ _ (.inr O) ?_;clear N K
   try simp only[Act.put,tryL]
   refine z0b.tl 10 O (v:=?Xt) ?xa ?yc
   case xa=>rintro l ⟨s1,s2,E,B,I,S⟩;go_simp;try with_reducible rfl
   refine z0b.tl 11 O (v:=?Xp) ?xg ?xh
   case xg=>rintro l ⟨s1,s2,E,B,I,S⟩;go_simp;try with_reducible rfl
   refine z0b.tl 12 O (v:=?Xs) ?xd ?yw
   case xd=>rintro l ⟨s1,s2,E,B,I,S⟩;go_simp;try with_reducible rfl
   try simp only[Act.put,tryL]
   refine z0b.on 13 fun K N=>?_;go_simp;refine N.out _ _ (.inr O) ?_;clear N K
   try simp only[Act.put,tryL]
   refine z0b.on 14 fun K N=>?_;go_simp;refine N.out _ _ (.inl rfl) (z0b.done (by kernel_rfl) ?_ _);clear N K;obtain⟨c1,c2,_,_,_,_⟩:=O;have b4:=L.out.new b3.out;have f2:w5.frozen? ⟨rq,j,none⟩=false:=by rw[d9.out];exact(b4.mid i a5).1.frozen j
   have a3:=b4.vec i j a5 d2;have T:=b4.put a5 d2 a3;rw[v1p,<- j1.out,<- d9.out] at T;rw[<- j1.out] at a3;obtain⟨w6,a8⟩:=exq (w5.setCell ⟨rq,j,none⟩ (.slice (some ⟨vs,0,none⟩) D.n D.n));have b2:Fr (fun c=>c=rq) w5 w6:=by rw[a8];exact(Fr.refl (fun c=>c=rq) w5).set (p:=⟨rq,j,none⟩) (.inl rfl) _
   have f1:w.heap.size<=rq:=by rw[d9.out];exact(L.out.mid i a5).2
   have m7:A≠rq:=fun e=>by
    obtain⟨c,h1,_⟩:=(L.out.mid i a5).1;have J:=z.out;unfold BxM at J;rw[e,d9.out,h1] at J;simp at J
   have r4:vs≠rq:=by rw[d9.out];exact y1z a3 (b4.mid i a5).1 (by decide)
   rw[<- a8] at T;obtain⟨V,hV⟩:=exq (X i j);rw[<- hV] at a3;have HI:=qh (show (∃ r s X',mvR D na x nb y i j 1 z2=(X',0)/\smT X'/\TW w6 w.heap.size g n1 n2 D.n r s X'/\X' i j=V)/\w6.rowIs vs 9 D.n (fun p=>.string (V p))/\BxM w6 A D (.slice a D.n cp)/\Below w.heap.size w w6 from
    ⟨⟨_,_,X,a7.out,c7.out,T,hV.symm⟩,b2.row a3 r4,(z.out.kept b3.out (fun e=>e)).kept b2 m7,(u.out.trans (b3.out.below u.out.size (fun _ e=>e.elim))).trans (b2.below (Nat.le_trans u.out.size b3.out.size) (fun c e=>by rw[e];exact f1))⟩)
   clear b4 T a3 b2 f1 m7 r4 hV a9 R b3
   go_wp2_with fail
   rw[<- a8];clear a8 c1 c2 f2 L a7 c7 z u d9 j1
   conv=>arg 2;whnf
   obtain⟨⟨r6,S,X6,l6,g7,T,h0⟩,h9,g9,g8⟩:=HI.out;have E5:=qh (show z2=(X6,0) from l6);clear l6;have p9:=qh g7;clear g7;have y0:=qh T;clear T;have o7:=qh h0;clear h0;have p7:=qh h9;clear h9;have d6:=qh g9;clear g9;have z3:=qh g8;clear g8 HI
   trace_state
   refine kloop HV s9 j4 E8 a6 b0 F7 f7 a5 d2 D5 D8 F6 E4 D0 F9 E6 D2 E5 o7 p9 y0 p7 d6 z3 (qh ?zb) (qh ?xc) (qh ?xm)
   case zb=>exact fun _ _ d _ _ h=>by cases d<;>exact h
   case xc =>
    intro v6 v7 E9 E0 G0 E2 F3 F0 F2 s8 A6 z7 x3 n7 B4 w0 y6 t7 z8 B2 v8 u1 r5 B8 z4 A5 l9 v2 m9 k6 v3 q7 l5 u4 n6 m5 x5 v5 o5 x8 B7 n3 C1 l8 n0 u7 y7 n5 x7 u6 o8 y5 r8 p6 q9 m4 z6 r7 k2 t8 u9 x4 o3 k4 C5 n9 A4 v0 x9 q8 v9 s7 y1 x6 y4 B3 B6 o4 B0 A8 v4 y3 k7 B5 A1 w2 s2 X2 h1 J h3 h4 h5;rw[<- A3.out] at h1;have j9:=qh h1;clear h1;have H2:=qh J;clear J;have H3:=qh h3;clear h3;have H4:=qh h4;clear h4;have H5:=qh h5;clear h5
    go_wp2_with fail
    go_roundw
    case rel=>exact⟨j+1,by omega,by go_num,⟨_,s2,X2,j9.out,H2.out,H3.out⟩,H4.out,H5.out⟩
    simp[intOf];omega
   case xm =>
    intro E9 E0 G0 E2 F3 F0 F2 s8 A6 z7 x3 n7 B4 w0 y6 t7 z8 B2 v8 u1 r5 B8 z4 A5 l9 v2 m9 k6 v3 q7 l5 u4 n6 m5 x5 v5 o5 x8 B7 n3 C1 l8 n0 u7 y7 n5 x7 u6 o8 y5 r8 p6 q9 m4 z6 r7 k2 t8 u9 x4 o3 k4 C5 n9 A4 v0 x9 q8 v9 s7 y1 x6 y4 B3 B6 o4 B0 A8 v4 y3 k7 B5 A1 w2 e h1 J;have U:=qh J;clear J;have HW:=qh h1;clear h1
    go_wp2_with fail
    go_ret2;exact⟨U.out,.inl ⟨HV.out,p0.out,r9.out,by rw[HW.out];rfl⟩⟩
  have e5:j=n2:=by omega
  have i6:¬ ((j:Int)<=(nb:Int)):=by have:=b0.out;omega
  have c8:=a7.out;rw[e5,b0.out,<- B9.out] at c8;have j9:=qh c8;clear c8 e5
  go_wp2_with fail
  go_roundw
  case rel=>exact⟨i+1,by omega,by go_num,⟨r,s,X,j9.out,c7.out,L.out⟩,z.out,u.out⟩
  simp[intOf];omega
 have B1:i=n1:=by omega
 have i6:¬ ((i:Int)<=(na:Int)):=by have:=a6.out;omega
 have c8:=a7.out;rw[B1,a6.out] at c8;have l7:wgtR D na x nb y=endR D (X na nb):=by unfold wgtR;rw[c8,if_neg (by simp)]
 have F8:=qh l7;clear l7 c8 B1;have i9:na<n1:=by have:=a6.out;omega
 have A2:nb<n2:=by have:=b0.out;omega
 have G3:(na:Int)<(n1:Int):=by omega
 have H7:(nb:Int)<(n2:Int):=by omega
 obtain⟨rq,d7⟩:=exq (r na);obtain⟨vs,d1⟩:=exq (s na nb);have Y:∀ W,Fr (fun _=>False) wr W->(fun l:World=>l.cell? ⟨g,na,none⟩=some (.slice (some ⟨rq,0,none⟩) n2 n2)/\l.cell? ⟨rq,nb,none⟩=some (.slice (some ⟨vs,0,none⟩) D.n D.n)/\l.cell? ⟨A,0,none⟩=some (.int .i64 D.kind)/\l.cell? ⟨A,1,none⟩=some (.int .i64 D.start)/\l.cell? ⟨A,2,none⟩=some (.string D.lead)/\l.cell? ⟨A,3,none⟩=some (.slice a D.n cp)) W:=fun W hf=>by
  have h1:=L.out.new hf;have J:=z.out.kept hf (fun e=>e);rw[d7,d1];exact⟨h1.top.cell i9,(h1.mid na i9).1.cell A2,cell_of J 0 rfl,cell_of J 1 rfl,cell_of J 2 rfl,cell_of J 3 rfl⟩
 have a9:=qh Y;clear Y;obtain⟨Q,G⟩:=exq (wr.drew);have R:=qh (show Fr (fun _=>False) wr Q by rw[G];exact Fr.of_below ((Below.refl wr.heap.size wr).drew));have i5:=qh (u.out.trans (R.out.below u.out.size (fun _ e=>e.elim)));have d5:=x3v Q HV.out (s9.out Q i5.out) (by rw[d1];exact(L.out.new R.out).vec na nb i9 A2) (c7.out na nb) (fun q=>by have:=j4.out.fin q;unfold smS;unfold maxLen at this;omega) (vb:=vs) (v:=X na nb);rw[<- F8.out] at d5;obtain⟨zz,j8⟩:=exq (wgtR D na x nb y);rw[<- j8] at d5;have E1:=qh j8;clear j8;have D1:=qh d5;clear d5 d7 d1
 go_wp2_with fail
 have o:=a9.out Q R.out;refine z0g (fun l:World=>l.cell? ⟨g,na,none⟩=some (.slice (some ⟨rq,0,none⟩) n2 n2)/\l.cell? ⟨rq,nb,none⟩=some (.slice (some ⟨vs,0,none⟩) D.n D.n)/\l.cell? ⟨A,0,none⟩=some (.int .i64 D.kind)/\l.cell? ⟨A,1,none⟩=some (.int .i64 D.start)/\l.cell? ⟨A,2,none⟩=some (.string D.lead)/\l.cell? ⟨A,3,none⟩=some (.slice a D.n cp)) 14 (by kernel_rfl) ?_;rw[<- G];clear G;refine z0b.tl 0 o (v:=?Yq) ?xr ?Xd
 case xr=>rintro l ⟨s1,s2,E,B,I,S⟩;go_simp;try with_reducible rfl
 refine z0b.tl 1 o (v:=?Yb) ?yo ?zh
 case yo=>rintro l ⟨s1,s2,E,B,I,S⟩;go_simp;try with_reducible rfl
 refine z0b.tl 2 o (v:=?Yx) ?ya ?Xa
 case ya=>rintro l ⟨s1,s2,E,B,I,S⟩;go_simp;try with_reducible rfl
 refine z0b.tl 3 o (v:=?Xu) ?yp ?zk
 case yp=>rintro l ⟨s1,s2,E,B,I,S⟩;go_simp;try with_reducible rfl
 refine z0b.tl 4 o (v:=?Ym) ?xq ?zn
 case xq=>rintro l ⟨s1,s2,E,B,I,S⟩;go_simp;try with_reducible rfl
 refine z0b.tl 5 o (v:=?Zb) ?xz ?zt
 case xz=>rintro l ⟨s1,s2,E,B,I,S⟩;go_simp;try with_reducible rfl
 refine z0b.tl 6 o (v:=?Ys) ?yt ?Xi
 case yt=>rintro l ⟨s1,s2,E,B,I,S⟩;go_simp;try with_reducible rfl
 refine z0b.tl 7 o (v:=?Yp) ?yf ?zq
 case yf=>rintro l ⟨s1,s2,E,B,I,S⟩;go_simp;try with_reducible rfl
 refine z0b.tl 8 o (v:=?Yj) ?xt ?zc
 case xt=>rintro l ⟨s1,s2,E,B,I,S⟩;go_simp;try with_reducible rfl
 refine z0b.tl 9 o (v:=?Yk) ?yx ?zi
 case yx=>rintro l ⟨s1,s2,E,B,I,S⟩;go_simp;try with_reducible rfl
 try simp only[Act.put,tryL]
 refine z0b.on 10 fun K N=>?_;go_simp;refine D1.out.mono ?_;rintro rr w5 ⟨rfl,a2⟩;have b3:=qh (R.out.trans (Fr.of_below a2));have d8:=qh (i5.out.trans (a2.mono i5.out.size));have O:=a9.out w5 b3.out;clear a2 o;refine N.out _ _ (.inr O) ?_;clear N K
 try simp only[Act.put,tryL]
 refine z0b.tl 11 O (v:=?Xq) ?xf ?xk
 case xf=>rintro l ⟨s1,s2,E,B,I,S⟩;go_simp;try with_reducible rfl
 refine z0b.tl 12 O (v:=?Xr) ?xb ?xi
 case xb=>rintro l ⟨s1,s2,E,B,I,S⟩;go_simp;try with_reducible rfl
 try simp only[Act.put,tryL]
 refine z0b.on 13 fun K N=>?_;go_simp;refine N.out _ _ (.inr O) ?_;clear N K
 try simp only[Act.put,tryL]
 refine z0b.on 14 fun K N=>?_;go_simp;refine N.out _ _ (.inl rfl) (z0b.done (by kernel_rfl) ?_ _);clear N K O
 go_wp2_with fail
 go_ret2;exact⟨d8.out,.inl ⟨HV.out,p0.out,r9.out,by rw[<- E1.out];rfl⟩⟩
end
section
def bttC (a b:ByteArray):ByteArray:=if z1a 1 b a<0 then b else a
def RelI (X:XT) (T:TbE):Prop:=∀ k i j,X k i j=y0f (T (k,i,j))/\fitO (T (k,i,j))
def RI (X:XT):Prop:=∃ T,RelI X T
def deI (X:XT):XT:=fun k i j=>if X k i j=infS then ⟨#[]⟩ else X k i j
theorem u3f {c:Rat} (h:fitQ c):txt c≠infS:=fun e=>by have:=z1e h;rw[e,y0z] at this;cases this
theorem RelI.de {X:XT} {T:TbE} (h:RelI X T):RelX (deI X) T:=by
 intro k i j;obtain⟨d,g⟩:=h k i j;cases l:T (k,i,j) with
 | none=>exact .inl ⟨rfl,by unfold deI;rw[if_pos (by rw[d,l];rfl)]⟩
 | some c =>
  rw[l] at d g;exact .inr ⟨c,rfl,by unfold deI;rw[if_neg (by rw[d];exact u3f g)];exact d,g⟩
theorem RelX.only {X p:XT} {T:TbE} (h:RelX X T) (r:RelX p T):X=p:=by
 funext k i j
 rcases h k i j with ⟨g,o⟩|⟨c,g,o,_⟩<;>rcases r k i j with ⟨d,l⟩|⟨s,d,l,_⟩
 ·rw[o,l]
 ·rw[g] at d;cases d
 ·rw[g] at d;cases d
 rw[g] at d;cases d;rw[o,l]
theorem y9y {X:XT} (h:RI X) {k i j:Nat}:deI X k i j=⟨#[]⟩↔X k i j=infS:=by
 obtain⟨T,h⟩:=h;obtain⟨d,l⟩:=h k i j;unfold deI;by_cases e:X k i j=infS
 ·rw[if_pos e];exact⟨fun _=>e,fun _=>rfl⟩
 rw[if_neg e];refine⟨fun g=>?_,fun g=>absurd g e⟩;cases o:T (k,i,j) with
 | none=>rw[o] at d;exact absurd d e
 | some c=>rw[o] at d l;rw[g] at d;exact absurd d.symm (y5j l)
theorem x5j {o o':Option Rat} (h:fitO o) (c:fitO o'):bttC (y0f o) (y0f o')=y0f (if cmpV (oV o') (oV o)<0 then o' else o):=by
 unfold bttC;rw[x2s c h];split<;>rfl
theorem RelI.upd {X:XT} {T:TbE} (h:RelI X T) {q:Pl} {v:Rat} (l:fitQ v):RelI (updX X q.1 q.2.1 q.2.2 (bttC (X q.1 q.2.1 q.2.2) (txt v))) (relx T q v):=by
 intro k i j;unfold updX;by_cases e:(k,i,j)=q
 ·subst e;obtain⟨p,c⟩:=h k i j;have hb:=x5j (o:=T (k,i,j)) (o':=some v) c l;rw[if_pos ⟨rfl,rfl,rfl⟩];show bttC (X k i j) (txt v)=_/\_;rw[p];rw[show y0f (some v)=txt v from rfl] at hb;rw[hb];unfold relx;rw[if_pos rfl];cases z:T (k,i,j) with
  | none=>exact⟨rfl,l⟩
  | some u =>
   rw[z] at c;have r:cmpV (oV (some v)) (oV (some u))=cmpQ v u:=rfl;rw[r]
   rcases z1c v u with ⟨d,g⟩|⟨d,g⟩|⟨d,g⟩
   ·rw[g];simp[d];exact l
   ·rw[g];subst d;simp;exact c
   rw[g];simp[Rat.not_lt.2 (Rat.le_of_lt d)];exact c
 have e2:¬ (k=q.1/\i=q.2.1/\j=q.2.2):=fun h=>e (by obtain⟨p,c,s⟩:=h;rw[p,c,s]);rw[if_neg e2,y9d e];exact h k i j
theorem RelI.at {X:XT} {T:TbE} (h:RelI X T) {p:Pl} (j:X p.1 p.2.1 p.2.2≠infS):∃ c,T p=some c/\X p.1 p.2.1 p.2.2=txt c/\fitQ c:=by
 obtain⟨d,g⟩:=h p.1 p.2.1 p.2.2;rw[show (p.1,p.2.1,p.2.2)=p from rfl] at d g;cases i:T p with
 | none=>rw[i] at d;exact absurd d j
 | some c=>rw[i] at d g;exact⟨c,rfl,d,g⟩
theorem RI.rea {X:XT} (h:RI X) {e:Nat} {p q:Pl} {d:Rat} {wt:ByteArray} (u:X p.1 p.2.1 p.2.2≠infS) (i:prs wt=some d) :
  ((z2m (X p.1 p.2.1 p.2.2) wt).2=0/\reaC (deI X) e p q wt=(deI (updX X q.1 q.2.1 q.2.2 (bttC (X q.1 q.2.1 q.2.2) (z2m (X p.1 p.2.1 p.2.2) wt).1)),e)/\RI (updX X q.1 q.2.1 q.2.2 (bttC (X q.1 q.2.1 q.2.2) (z2m (X p.1 p.2.1 p.2.2) wt).1))) \/
  ((z2m (X p.1 p.2.1 p.2.2) wt)=(⟨#[]⟩,2)/\reaC (deI X) e p q wt=(deI X,2)):=by
 obtain⟨T,h⟩:=h;obtain⟨c,l,o,k⟩:=h.at u;by_cases g:fitQ (c+d)
 ·left
  have r:z2m (X p.1 p.2.1 p.2.2) wt=(txt (c+d),0):=by unfold z2m;rw[o,z1e k,i];exact z9x g
  rw[r];have j:=h.upd (q:=q) g;obtain⟨z,s,v⟩:=x3u h.de (e:=e) (q:=q) l i g;refine⟨rfl,?_,⟨_,j⟩⟩;rw[s,v.only j.de]
 right
 refine⟨by unfold z2m;rw[o,z1e k,i];exact y1h g,x6k h.de (e:=e) (q:=q) l i g⟩
theorem RI.copy {X:XT} (h:RI X) {e:Nat} {p q:Pl} (l:X p.1 p.2.1 p.2.2≠infS) :
  reaC (deI X) e p q ⟨#[48]⟩=(deI (updX X q.1 q.2.1 q.2.2 (bttC (X q.1 q.2.1 q.2.2) (X p.1 p.2.1 p.2.2))),e)/\RI (updX X q.1 q.2.1 q.2.2 (bttC (X q.1 q.2.1 q.2.2) (X p.1 p.2.1 p.2.2))):=by
 obtain⟨T,h⟩:=h;obtain⟨c,o,r,i⟩:=h.at l;have d:c+0=c:=Rat.add_zero c;obtain⟨s,k,j⟩:=x3u h.de (e:=e) (q:=q) o v9j (by rw[d];exact i);have g:=h.upd (q:=q) i;rw[d] at j;rw[r];exact⟨by rw[k,j.only g.de],⟨_,g⟩⟩
theorem v9r {X:XT} {e:Nat} {p q:Pl} {wt:ByteArray} (h:e≠0):(reaC X e p q wt).2≠0:=by
 unfold reaC;split
 ·assumption
 split<;>exact h
theorem y1j {P:EP} {p:Pl} {s:ST} {e:Nat} (h:(z2s P p e s).2≠0):∀ d,(z2s P p (e+d) s).2≠0
 | 0=>h
 | d+1=>by
  show (z2s P p (e+d+1) s).2≠0;unfold z2s;split
  ·exact v9r (y1j h d)
  exact y1j h d
theorem u4u {P:EP} {p:Pl} {s:ST} (h:s.2≠0):(cpC P p s).2≠0:=by
 unfold cpC;split
 ·exact v9r h
 exact h
theorem u5f {P:EP} {p:Pl} {s:ST} (h:s.2≠0):(stpC P p s).2≠0:=by
 unfold stpC;split
 ·exact h
 split
 ·exact u4u h
 have:=y1j (P:=P) (p:=p) (s:=cpC P p s) (e:=0) (u4u h) P.M.n;rw[Nat.zero_add] at this;exact this
theorem v3j {P:EP} {k i j:Nat} {s:ST} (h:(colP P k i j s).2≠0):∀ d,(colP P k i (j+d) s).2≠0
 | 0=>h
 | d+1=>u5f (v3j h d)
theorem v0z {P:EP} {k i:Nat} {s:ST} (h:(rowP P k i s).2≠0):∀ d,(rowP P k (i+d) s).2≠0
 | 0=>h
 | d+1=>by
  have:=v3j (P:=P) (k:=k) (i:=i+d) (j:=0) (s:=rowP P k (i+d) s) (v0z h d) (P.b+1);rw[Nat.zero_add] at this;exact this
theorem v9t {P:EP} {k:Nat} {s:ST} (h:(tabP P k s).2≠0):∀ d,(tabP P (k+d) s).2≠0
 | 0=>h
 | d+1=>by
  have:=v0z (P:=P) (k:=k+d) (i:=0) (s:=tabP P (k+d) s) (v9t h d) (P.a+1);rw[Nat.zero_add] at this;exact this
theorem u3d {P:EP} (r:0<=P.M.most) (g:∀ i,i<P.M.n->EdOk (P.M.e i)) {k i j:Nat} (s:(k:Int)<=P.M.most) (hi:i<=P.a) (u:j<=P.b) (h:(colP P k i (j+1) (rowP P k i (tabP P k (X0,0)))).2≠0):z6a P=(⟨#[]⟩,2):=by
 have l:(rowP P k (i+1) (tabP P k (X0,0))).2≠0:=by
  have:=v3j h (P.b-j);rw[show j+1+(P.b-j)=P.b+1 by omega] at this;exact this
 have p:(tabP P (k+1) (X0,0)).2≠0:=by
  have:=v0z l (P.a-i);rw[show i+1+(P.a-i)=P.a+1 by omega] at this;exact this
 have d:=v9t p (P.M.most.toNat-k);rw[show k+1+(P.M.most.toNat-k)=P.M.most.toNat+1 by omega] at d
 rcases y2i r g with ⟨o,_,_,c⟩|⟨_,c⟩
 ·exfalso
  unfold z6a at c;rw[if_pos d] at c;exact d (congrArg Prod.snd c)
 exact c
theorem u5d {P:EP} {k i j:Nat} {s:ST} (d:s.1 k i j≠⟨#[]⟩) (g:(k:Int)≠P.M.most) {e:Nat} (l:e<=P.M.n) (h:(z2s P (k,i,j) e (cpC P (k,i,j) s)).2≠0):(stpC P (k,i,j) s).2≠0:=by
 have c:=y1j h (P.M.n-e);rw[show e+(P.M.n-e)=P.M.n by omega] at c;unfold stpC;rw[if_neg d,if_neg g];exact c
def lstB (X:XT) (a b:Nat):Nat->ByteArray
 | 0=>infS
 | m+1=>bttC (lstB X a b m) (X m a b)
theorem v2y (T:TbE) (a b m:Nat):(if cmpV (oV (T (m,a,b))) (oV (lstO T a b m))<0 then T (m,a,b) else lstO T a b m)=lstO T a b (m+1):=by
 show _=(match lstO T a b m,T (m,a,b) with|o,none=>o|none,some v=>some v|some u,some v=>if v<u then some v else some u)
 cases i:T (m,a,b) with
 | none=>cases g:lstO T a b m<;>rfl
 | some v =>
  cases g:lstO T a b m with
  | none=>rfl
  | some u =>
   have h:cmpV (oV (some v)) (oV (some u))=cmpQ v u:=rfl;rw[h]
   rcases z1c v u with ⟨c,d⟩|⟨c,d⟩|⟨c,d⟩
   ·rw[d];simp[c]
   ·rw[d];subst c;simp
   rw[d];simp[Rat.not_lt.2 (Rat.le_of_lt c)]
theorem u2d {X:XT} (h:RI X) (a b m:Nat):lstB X a b m=lstS (deI X) a b m:=by
 obtain⟨T,h⟩:=h;have c:∀ m,lstB X a b m=y0f (lstO T a b m):=fun m=>by
  induction m with
  | zero=>rfl
  | succ m ih =>
   show bttC (lstB X a b m) (X m a b)=_;rw[ih,(h m a b).1,x5j (x0f h.de a b m).1 (h m a b).2,v2y]
 rw[c,(x0f h.de a b m).2]
def XI0:XT:=fun k i j=>if k=0/\i=0/\j=0 then ⟨#[48]⟩ else infS
theorem u4c:RI XI0:=by
 refine⟨fun p=>if p=(0,0,0) then some 0 else none,fun k i j=>?_⟩
 unfold XI0;by_cases e:k=0/\i=0/\j=0
 ·obtain⟨rfl,rfl,rfl⟩:=e;exact⟨by simp;decide +kernel,by simp;exact x6h.2 ((show szQ 1 0 from ⟨by decide,by decide⟩).mono (by omega))⟩
 have c:(fun p:Pl=>if p=(0,0,0) then some (0:Rat) else none) (k,i,j)=none:=if_neg (fun h=>e (by simpa using h))
 rw[if_neg e,c];exact⟨rfl,trivial⟩
theorem u3q:deI XI0=X0:=by
 funext k i j
 unfold deI XI0 X0;by_cases e:k=0/\i=0/\j=0
 ·rw[if_pos e,if_neg (by decide),if_pos e]
 rw[if_neg e,if_pos rfl,if_neg e]
end
section
open Go.RowKit Go.Deep
theorem y0s (a b:ByteArray) (w:World) (j:smS a) (hb:smS b):Calls prog 46 #[.string a,.string b] w (fun r w'=>r=.returned (.string (bttC a b))/\Below w.heap.size w w'):=by
 have i:=qh (z8n 1 b a w hb j);obtain⟨z,h⟩:=exq (z1a 1 b a);have g:bttC a b=if z<0 then b else a:=by rw[h];rfl
 rw[<- h] at i;rw[g];clear h g j hb;by_cases k:z<0
 ·rw[if_pos k]
  go_enter func46,ntmps46
  go_wp2_with fail
  refine i.out.mono ?_;rintro r l ⟨rfl,c⟩;have d:=qh c;clear c
  go_wp2_with fail
  go_ret;exact⟨rfl,d.out⟩
 rw[if_neg k]
 go_enter func46,ntmps46
 go_wp2_with fail
 refine i.out.mono ?_;rintro r l ⟨rfl,c⟩;have d:=qh c;clear c
 go_wp2_with fail
 go_ret;exact⟨rfl,d.out⟩
def bgI (a:Nat) (x:Nat->Int) (i n:Nat) (u:Nat->Int):Bool:=decide (i+n<=a)&&(List.range n).all (fun k=>x (i+k)==u k)
theorem v6f (P:EP) (p:Pl) (e:Nat):canB P p e=(bgI P.a P.x p.2.1 (P.M.e e).nf (P.M.e e).f&&bgI P.b P.y p.2.2 (P.M.e e).nt (P.M.e e).t):=rfl
theorem y6r {a n i:Nat} {v v':Value} {x u:Nat->Int} (w:World) (hx:Si none w v a x) (hu:Si none w v' n u) (ha:a<=200) (hn:n<=6) (hi:i<=a) :
  Calls prog 47 #[v,.int .i64 (i:Int),v'] w (fun r w'=>r=.returned (.bool (bgI a x i n u))/\Below w.heap.size w w'):=by
 obtain⟨aa,b0,b,S,rfl,hA,hc,hm,hb,g⟩:=hx.open;obtain⟨a8,a4,b',I,rfl,N,Z,R,L,c⟩:=hu.open;clear hx hu hc hm Z R;have HA:=qh hA;clear hA;have a2:=qh N;clear N;have HB:=qh hb;clear hb;have a1:=qh L;clear L;have HX:=qh g;clear g;have HU:=qh c;clear c;by_cases hl:(a:Int)<(i:Int)+(n:Int)
 ·have D:bgI a x i n u=false:=by unfold bgI;rw[show decide (i+n<=a)=false by simp;omega];rfl
  rw[D];clear D
  go_enter func47,ntmps47
  go_wp2_with fail
  go_ret;exact⟨rfl,Below.refl _ _⟩
 have b1:decide ((a:Int)<(i:Int)+(n:Int))=false:=by simp;omega
 have F:bgI a x i n u=(List.range n).all (fun k=>x (i+k)==u k):=by unfold bgI;rw[show decide (i+n<=a)=true by simp;omega];rfl
 rw[F];clear F;obtain⟨z,P⟩:∃ z,z=(List.range n).all (fun k=>x (i+k)==u k):=⟨_,rfl⟩;rw[<- P];have HZ:=qh P;clear P
 go_enter func47,ntmps47
 go_wp2_with fail
 go_loopw [7] (fun T wr=>∃ q:Nat,q<=n/\T=.int .i64 (q:Int)/\(∀ j,j<q->x (i+j)=u j)/\Below w.heap.size w wr) (fun T _=>n-(intOf T).toNat)
 case atStart=>exact⟨0,Nat.zero_le _,rfl,fun j O=>absurd O (Nat.not_lt_zero _),Below.refl _ _⟩
 obtain⟨q,hq,rfl,G,K⟩:=hrel;have J:=qh G;clear G;have d:=qh K;clear K;by_cases s:q<n
 ·have a6:(q:Int)<(n:Int):=by omega
  have a5:(0:Int)<=(q:Int):=by omega
  obtain rfl:=HA.out (by omega);obtain rfl:=a2.out (by omega);have c0:=(d.out.cell (p:=⟨b,S+(i+q),none⟩) (HB.out (by omega)).1).trans (HX.out (i+q) (by omega));have c1:=(d.out.cell (p:=⟨b',I+q,none⟩) (a1.out (by omega)).1).trans (HU.out q s);have b2:(i:Int)+(q:Int)<(a:Int):=by omega
  have a3:(0:Int)<=(i:Int)+(q:Int):=by omega
  have hw:IntKind.i64.wrap ((i:Int)+(q:Int))=(i:Int)+(q:Int):=by rw[IntKind.wrap_i64];omega
  have a7:((i:Int)+(q:Int)).toNat=i+q:=by omega
  obtain⟨X,l⟩:=exq (x (i+q));obtain⟨Y,h⟩:=exq (u q);rw[<- l] at c0;rw[<- h] at c1;have o:=qh l;clear l;have C:=qh h;clear h;cases H:(X==Y)
  ·have B:z=false:=by
    rw[HZ.out];cases E:(List.range n).all (fun k=>x (i+k)==u k)
    ·rfl
    have:=List.all_eq_true.1 E q (List.mem_range.2 s);rw[<- o.out,<- C.out,H] at this;cases this
   have U:=qh B;clear B
   go_wp2_with fail
   go_quiet (fail)
   go_wp2_with fail
   go_ret;exact⟨z0k U.out.symm,below_drewN d.out _⟩
  have HE:=qh (eq_of_beq H)
  go_wp2_with fail
  go_quiet (fail)
  go_wp2_with fail
  go_roundw
  case rel =>
   refine⟨q+1,by omega,by go_num,fun j O=>?_,below_drewN d.out _⟩;by_cases e:j=q
   ·subst e;rw[<- o.out,<- C.out];exact HE.out
   exact J.out j (by omega)
  simp[intOf];omega
 have W:q=n:=by omega
 have a9:¬ ((q:Int)<(n:Int)):=by omega
 have A:z=true:=by
  rw[HZ.out];refine List.all_eq_true.2 fun j O=>?_;rw[J.out j (by have:=List.mem_range.1 O;omega)];simp
 have Q:=qh A;clear A W
 go_wp2_with fail
 go_ret;exact⟨z0k Q.out.symm,d.out⟩
end
section
open Go.RowKit Go.Deep
structure Tq (w:World) (B g n1 n2 k:Nat) (r:Nat->Nat) (S:Nat->Nat->Value) (L:Nat->Nat->Nat):Prop where
 top:w.rowIs g 66 n1 (fun q=>if q<k then .slice (some ⟨r q,0,none⟩) n2 n2 else .slice none 0 0)
 base:B<=g
 mid:∀ q,q<k->w.rowIs (r q) 67 n2 (S q)/\B<=r q
 rinj:∀ q q',q<k->q' < k->r q=r q'->q=q'
 row:∀ q i,q<k->i<n2->w.ownsRow B 9 1 (S q i) (L q i) (strs (L q i) (fun _=>infS))
 apart:∀ q i q' i',q<k->i<n2->q' < k->i' < n2->¬ (q=q'/\i=i')->∀ b,(S q i).ownBlock=some b->(S q' i').ownBlock≠some b
namespace Tq
variable {w w':World} {B g n1 n2 k:Nat} {r:Nat->Nat} {S:Nat->Nat->Value} {L:Nat->Nat->Nat}
theorem kept {C:Nat->Prop} (h:Tq w B g n1 n2 k r S L) (l:Fr C w w') (v:¬ C g) (u:∀ q,q<k->¬ C (r q)) (D:∀ q i b,q<k->i<n2->(S q i).ownBlock=some b->¬ C b):Tq w' B g n1 n2 k r S L:=by
 refine⟨l.row h.top v,h.base,fun q c=>⟨l.row (h.mid q c).1 (u q c),(h.mid q c).2⟩,h.rinj,fun q i c hi=>?_,h.apart⟩;refine⟨(h.row q i c hi).1,?_⟩
 rcases (h.row q i c hi).2 with A|⟨j,o,p,s,E,d,z⟩
 ·exact .inl A
 exact .inr ⟨j,o,p,s,E,(l.block j (lt_of_block d) (D q i j c hi (by rw[s];rfl))).trans d,z⟩
theorem new (h:Tq w B g n1 n2 k r S L) (c:Fr (fun _=>False) w w'):Tq w' B g n1 n2 k r S L:=h.kept c (fun e=>e) (fun _ _ e=>e) (fun _ _ _ _ _ _ e=>e)
theorem made (w:World) (d:B<=w.heap.size) (n1 n2:Nat):Tq (w.alloc (.cells (madeCells #[.slice none 0 0] n1) 66)) B w.heap.size n1 n2 0 (fun _=>0) (fun _ _=>.slice none 0 0) (fun _ _=>0):=by
 refine⟨(World.rowIs_made w _ n1 _).congr (fun q _=>?_),d,fun q c=>absurd c (Nat.not_lt_zero _),fun q _ c=>absurd c (Nat.not_lt_zero _),fun q _ c=>absurd c (Nat.not_lt_zero _),fun q _ _ _ c=>absurd c (Nat.not_lt_zero _)⟩;rw[if_neg (Nat.not_lt_zero _)]
theorem addRow (h:Tq w B g n1 n2 k r S L) (K:B<=w.heap.size) :
  Tq ((w.setCell ⟨g,k,none⟩ (.slice (some ⟨w.heap.size,0,none⟩) n2 n2)).alloc (.cells (madeCells #[.slice none 0 0] n2) 67)) B g n1 n2 (k+1) (fun q=>if q=k then w.heap.size else r q) (fun q=>if q=k then fun _=>.slice none 0 0 else S q) (fun q=>if q=k then fun _=>0 else L q):=by
 have C:=h.top.lt;rw[<- World.setCell_alloc_past _ _ _ _ C];obtain⟨o,G⟩:=exq (Obj.cells (madeCells #[.slice none 0 0] n2) 67);have I:=World.rowIs_made w (.slice none 0 0) n2 67;rw[<- G] at I;rw[<- G];have E:=h.new (Fr.alloc w o);have H:Fr (fun q=>q=g) (w.alloc o) ((w.alloc o).setCell ⟨g,k,none⟩ (.slice (some ⟨w.heap.size,0,none⟩) n2 n2)):=(Fr.refl (fun q=>q=g) _).set (p:=⟨g,k,none⟩) (.inl rfl) _;have s:∀ q,q<k->r q≠g:=fun q c=>z7u (h.mid q c).1 h.top (by decide);have u:∀ q i b,q<k->i<n2->(S q i).ownBlock=some b->b≠g:=fun q i b c hi hb e=>y6n (h.row q i c hi) h.top (by decide) (by rw[hb,e]);refine⟨(E.top.set k _).congr (fun q c=>?_),h.base,fun q c=>?_,fun q d c v l=>?_,fun q i c hi=>?_,fun q i d J c hi v F D b hb=>?_⟩
 ·by_cases e:q=k
  ·subst e;simp
  simp only[if_neg e];by_cases e2:q<k
  ·rw[if_pos e2,if_pos (by omega)]
  rw[if_neg e2,if_neg (by omega)]
 ·by_cases e:q=k
  ·simp only[if_pos e];exact⟨I.setOther (by show w.heap.size≠g;omega) _,K⟩
  simp only[if_neg e];exact⟨H.row (E.mid q (by omega)).1 (s q (by omega)),(h.mid q (by omega)).2⟩
 ·by_cases e:q=k
  ·by_cases j:d=k
   ·omega
   simp only[if_pos e,if_neg j] at l;have:=(h.mid d (by omega)).1.lt;omega
  by_cases j:d=k
  ·simp only[if_neg e,if_pos j] at l;have:=(h.mid q (by omega)).1.lt;omega
  simp only[if_neg e,if_neg j] at l;exact h.rinj q d (by omega) (by omega) l
 ·by_cases e:q=k
  ·simp only[if_pos e];exact World.ownsRow_nil _ _ _ _
  simp only[if_neg e];exact z2g (E.row q i (by omega) hi) (z:=some g) (Fr.gb (H.mono (fun q _ e=>by rw[e]))) (fun b hb e=>u q i b (by omega) hi hb (Option.some.inj e).symm)
 by_cases e:q=k
 ·simp only[if_pos e] at hb;cases hb
 simp only[if_neg e] at hb;by_cases j:d=k
 ·simp only[if_pos j];intro N;cases N
 simp only[if_neg j];exact h.apart q i d J (by omega) hi (by omega) F D b hb
theorem app {K E:World} {q i go cp:Nat} (h:Tq w B g n1 n2 k r S L) (N:q<k) (hi:i<n2) (hf:Fr (fun _=>False) w K)
  (O:E.ownsRow B 9 1 (.slice (some ⟨go,0,none⟩) (L q i+1) cp) (L q i+1) (strs (L q i) (fun _=>infS)++[.string infS])) (hg:K.grownBy E (S q i).ownBlock) (G:(S q i).ownBlock=some go\/go=K.heap.size) :
  Tq (E.setCell ⟨r q,i,none⟩ (.slice (some ⟨go,0,none⟩) (L q i+1) cp)) B g n1 n2 k r (fun a b=>if a=q/\b=i then .slice (some ⟨go,0,none⟩) (L q i+1) cp else S a b) (fun a b=>if a=q/\b=i then L q i+1 else L a b):=by
 have s:=h.new hf;have Q:Fr (fun b=>(S q i).ownBlock=some b) K E:=Fr.of_gb hg (fun _ e=>e);have o:∀ {b m:Nat} {t:TypeId} {F:Nat->Value},K.rowIs b t m F->t≠9->(S q i).ownBlock≠some b:=fun R Y e=>y6n (s.row q i N hi) R Y e;have W:∀ a,a<k->r a≠g:=fun a d=>z7u (h.mid a d).1 h.top (by decide);have X:∀ {b m:Nat} {t:TypeId} {F:Nat->Value},K.rowIs b t m F->t≠9->b≠go:=fun R Y e=>by
  rcases G with e2|e2
  ·exact o R Y (by rw[e];exact e2)
  have:=R.lt;omega
 have P:E.rowIs g 66 n1 _:=Q.row s.top (o s.top (by decide));have l:∀ a,a<k->E.rowIs (r a) 67 n2 (S a):=fun a d=>Q.row (s.mid a d).1 (o (s.mid a d).1 (by decide));have C:Fr (fun b=>b=r q) E (E.setCell ⟨r q,i,none⟩ (.slice (some ⟨go,0,none⟩) (L q i+1) cp)):=(Fr.refl (fun b=>b=r q) _).set (p:=⟨r q,i,none⟩) (.inl rfl) _;refine⟨C.row P (fun e=>W q N e.symm),h.base,fun a d=>⟨?_,(h.mid a d).2⟩,h.rinj,fun a b d hb=>?_,fun a b J I d hb D v u c j=>?_⟩
 ·by_cases e:a=q
  ·subst e;exact((l a d).set i _).congr fun b _=>by
    by_cases e:b=i
    ·simp[e]
    simp[e]
  exact(C.row (l a d) (fun e2=>e (h.rinj a q d N e2))).congr fun b _=>by simp[e]
 ·by_cases e:a=q/\b=i
  ·obtain⟨rfl,rfl⟩:=e;simp only[and_self,if_true];have:=z2g O (z:=some (r a)) (Fr.gb (C.mono (fun b _ e=>by rw[e]))) (fun c j e2=>by
    have H:go=c:=by simpa [Value.ownBlock] using j
    exact X (s.mid a d).1 (by decide) (by rw[H];exact Option.some.inj e2))
   rw[v3b (L a b) (fun _=>infS)] at this;exact this
  simp only[if_neg e];have Z:=z2g (s.row a b d hb) hg (fun c j e2=>h.apart a b q i d hb N hi e c j e2);exact z2g Z (z:=some (r q)) (Fr.gb (C.mono (fun b _ e=>by rw[e]))) (fun c j e2=>y6n Z (l q N) (by decide) (by rw[j,<- e2]))
 by_cases e:a=q/\b=i
 ·obtain⟨rfl,rfl⟩:=e;simp only[and_self,if_true] at j;have U:go=c:=by simpa [Value.ownBlock] using j
  have e2:¬ (J=a/\I=b):=fun h=>u ⟨h.1.symm,h.2.symm⟩;simp only[if_neg e2]
  rcases G with H|H
  ·rw[<- U];exact h.apart a b J I d hb D v u go H
  intro T;have:=(World.ownsRow.lt (s.row J I D v) c T).2;omega
 simp only[if_neg e] at j;by_cases e2:J=q/\I=i
 ·obtain⟨rfl,rfl⟩:=e2;simp only[and_self,if_true];intro T;have e5:go=c:=by simpa [Value.ownBlock] using T
  rcases G with H|H
  ·exact h.apart a b J I d hb D v u c j (by rw[H,e5])
  have:=(World.ownsRow.lt (s.row a b d hb) c j).2;omega
 simp only[if_neg e2];exact h.apart a b J I d hb D v u c j
end Tq
structure Cv (w:World) (B g n1 n2 n3:Nat) (r:Nat->Nat) (s c:Nat->Nat->Nat) (X:XT):Prop where
 top:w.rowIs g 66 n1 (fun q=>.slice (some ⟨r q,0,none⟩) n2 n2)
 mid:∀ q,q<n1->w.rowIs (r q) 67 n2 (fun i=>.slice (some ⟨s q i,0,none⟩) n3 (c q i))
 row:∀ q i,q<n1->i<n2->w.ownsRow B 9 1 (.slice (some ⟨s q i,0,none⟩) n3 (c q i)) n3 (strs n3 (X q i))
 inj:∀ q i q' i',q<n1->i<n2->q' < n1->i' < n2->s q i=s q' i'->q=q'/\i=i'
 sm:∀ q i j,smS (X q i j)
theorem v1e:smS infS:=by unfold smS;decide
theorem Tq.cv {w:World} {B g n1 n2 l:Nat} {r:Nat->Nat} {S:Nat->Nat->Value} {L:Nat->Nat->Nat} (h:Tq w B g n1 n2 n1 r S L) (A:∀ q i,q<n1->i<n2->L q i=l) (D:0<l):∃ s c,Cv w B g n1 n2 l r s c (fun _ _ _=>infS):=by
 classical
 have j:∀ q i,∃ t:Nat × Nat,q<n1->i<n2->S q i=.slice (some ⟨t.1,0,none⟩) l t.2:=fun q i=>by
  by_cases d:q<n1/\i<n2
  ·obtain⟨b,cp,F,_⟩:=y1w (h.row q i d.1 d.2) (by rw[A q i d.1 d.2];exact D);exact⟨(b,cp),fun C z=>by rw[F,A q i C z]⟩
  exact⟨(0,0),fun C z=>absurd ⟨C,z⟩ d⟩
 obtain⟨T,p⟩:∃ T:Nat->Nat->Nat × Nat,∀ q i,q<n1->i<n2->S q i=.slice (some ⟨(T q i).1,0,none⟩) l (T q i).2:=⟨fun q i=>Classical.choose (j q i),fun q i=>Classical.choose_spec (j q i)⟩;refine⟨fun q i=>(T q i).1,fun q i=>(T q i).2,h.top.congr (fun q d=>if_pos d),fun q d=>(h.mid q d).1.congr (fun i hi=>p q i d hi),fun q i d hi=>?_,fun q i v u d hi k o E=>?_,fun _ _ _=>v1e⟩
 ·have:=h.row q i d hi;rw[A q i d hi,p q i d hi] at this;exact this
 by_cases e:q=v/\i=u
 ·exact e
 exfalso
 refine h.apart q i v u d hi k o e (T q i).1 (by rw[p q i d hi];rfl) (by rw[p v u k o,E];rfl)
namespace Cv
variable {w w':World} {B g n1 n2 n3:Nat} {r:Nat->Nat} {s c:Nat->Nat->Nat} {X:XT}
theorem c1 (h:Cv w B g n1 n2 n3 r s c X) {k:Nat} (d:k<n1):w.cell? ⟨g,k,none⟩=some (.slice (some ⟨r k,0,none⟩) n2 n2):=h.top.cell d
theorem c2 (h:Cv w B g n1 n2 n3 r s c X) {k i:Nat} (d:k<n1) (hi:i<n2):w.cell? ⟨r k,i,none⟩=some (.slice (some ⟨s k i,0,none⟩) n3 (c k i)):=(h.mid k d).cell hi
theorem c3 (h:Cv w B g n1 n2 n3 r s c X) {k i j:Nat} (d:k<n1) (hi:i<n2) (l:j<n3):w.cell? ⟨s k i,j,none⟩=some (.string (X k i j)):=z9k (h.row k i d hi) (y9m n3 (X k i) j l)
theorem f3 (h:Cv w B g n1 n2 n3 r s c X) {k i:Nat} (d:k<n1) (hi:i<n2) (j:Nat):w.frozen? ⟨s k i,j,none⟩=false:=x4p (h.row k i d hi) j
theorem slt (h:Cv w B g n1 n2 n3 r s c X) {k i:Nat} (d:k<n1) (hi:i<n2):B<=s k i/\s k i<w.heap.size:=World.ownsRow.lt (h.row k i d hi) _ rfl
theorem blk (h:Cv w B g n1 n2 n3 r s c X) {k i:Nat} (o:k<n1) (hi:i<n2):∃ cs,w.heap[s k i]?=some (.cells cs 9 (0,0)):=by
 rcases (h.row k i o hi).2 with ⟨d,_⟩|⟨u,p,j,d,z,l,v⟩
 ·cases d
 cases d;exact⟨j,l⟩
theorem kept {C:Nat->Prop} (h:Cv w B g n1 n2 n3 r s c X) (k:Fr C w w') (z:¬ C g) (v:∀ q,q<n1->¬ C (r q)) (E:∀ q i,q<n1->i<n2->¬ C (s q i)):Cv w' B g n1 n2 n3 r s c X:=by
 refine⟨k.row h.top z,fun q d=>k.row (h.mid q d) (v q d),fun q i d hi=>⟨(h.row q i d hi).1,?_⟩,h.inj,h.sm⟩
 rcases (h.row q i d hi).2 with D|⟨p,l,o,u,F,j,A⟩
 ·exact .inl D
 refine .inr ⟨p,l,o,u,F,(k.block p (lt_of_block j) ?_).trans j,A⟩;cases u;exact E q i d hi
theorem new (h:Cv w B g n1 n2 n3 r s c X) (d:Fr (fun _=>False) w w'):Cv w' B g n1 n2 n3 r s c X:=h.kept d (fun e=>e) (fun _ _ e=>e) (fun _ _ _ _ e=>e)
theorem set (h:Cv w B g n1 n2 n3 r s c X) {k i j:Nat} {v:ByteArray} (D:k<n1) (hi:i<n2) (G:j<n3) (F:smS v):Cv (w.setCell ⟨s k i,j,none⟩ (.string v)) B g n1 n2 n3 r s c (updX X k i j v):=by
 obtain⟨H,hb⟩:=h.blk D hi;have C:Fr (fun q=>q=s k i) w (w.setCell ⟨s k i,j,none⟩ (.string v)):=(Fr.refl (fun q=>q=s k i) w).set (p:=⟨s k i,j,none⟩) (.inl rfl) _;refine⟨C.row h.top (z0e h.top hb (by decide)),fun q o=>C.row (h.mid q o) (z0e (h.mid q o) hb (by decide)),fun q d o l=>?_,h.inj,fun q d u=>?_⟩
 ·by_cases e:q=k/\d=i
  ·obtain⟨rfl,rfl⟩:=e;have A:=OwS.set (show OwS w B 9 _ n3 (X q d) from h.row q d o l) G v;exact OwS.congr A (fun u _=>by
    unfold updX;by_cases e:u=j
    ·simp[e]
    simp[e])
  have A:=z2g (h.row q d o l) (z:=some (s k i)) (Fr.gb (C.mono (fun q _ e=>by rw[e]))) (fun b hb e2=>by
   have E:s q d=b:=by simpa [Value.ownBlock] using hb
   exact e (h.inj q d k i o l D hi (by rw[E];exact(Option.some.inj e2).symm)))
  rw[y8f (Y:=updX X k i j v q d) (fun u _=>by unfold updX;rw[if_neg (fun h=>e ⟨h.1,h.2.1⟩)])] at A;exact A
 unfold updX;split
 ·exact F
 exact h.sm q d u
end Cv
end
end Go.Proofs.YtjekapjbigfkbaaGreatDoor
