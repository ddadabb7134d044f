/- Parts of a proof: EdRB EdRJ EdRC EdLi LE0. -/
import Derived.Test.YtjekapjbigfkbaaGreatDoorT17
import Derived.Test.YtjekapjbigfkbaaGreatDoorT15
namespace Go.Proofs.YtjekapjbigfkbaaGreatDoor
set_option maxRecDepth 100000
set_option linter.unusedSimpArgs false
set_option linter.unusedVariables false
set_option linter.unusedSectionVars false
set_option maxHeartbeats 16000000
open Go Tryz
section
open Go.RowKit Go.Deep
theorem news1c {w:World} {b:Nat} {x:Value} (h:w.cell? ⟨b,0,none⟩=some x):∀ j u,[x][j]?=some u->w.cell? ((⟨b,0,none⟩:Addr).add j)=some u:=by
 intro j u c;cases j with
 | zero=>simp at c;subst c;simpa [Addr.add] using h
 | succ j=>simp at c
theorem v7z:updX (fun _ _ _=>infS) 0 0 0 ⟨#[48]⟩=XI0:=by funext k i j;rfl
theorem v0q {a b:ByteArray} (c:smS a) (hb:smS b):smS (bttC a b):=by unfold bttC;split;exact hb;exact c
theorem v3q {X:XT} (h:∀ k i j,smS (X k i j)) (a b:Nat):∀ m,smS (lstB X a b m)
 | 0=>v1e
 | m+1=>v0q (v3q h a b m) (h _ _ _)
def LL (n2 n3 k i j:Nat) (L:Nat->Nat->Nat):Prop:=(∀ q i',q<k->i' < n2->L q i'=n3)/\∀ i',i' < n2->L k i'=if i' < i then n3 else if i'=i then j else 0
theorem LL.app {n2 g k i j:Nat} {L:Nat->Nat->Nat} (h:LL n2 g k i j L) (hi:i<n2):LL n2 g k i (j+1) (fun a b=>if a=k/\b=i then L k i+1 else L a b):=by
 have o:L k i=j:=by rw[h.2 i hi,if_neg (Nat.lt_irrefl i),if_pos rfl]
 refine⟨fun q d l c=>?_,fun d c=>?_⟩
 ·show (if q=k/\d=i then _ else _)=_
  rw[if_neg (fun h=>by omega)];exact h.1 q d l c
 show (if k=k/\d=i then _ else _)=_
 by_cases e:d=i
 ·rw[if_pos ⟨rfl,e⟩,if_neg (by omega),if_pos e,o]
 rw[if_neg (fun h=>e h.2),h.2 d c,if_neg e,if_neg e]
theorem LL.next {n2 d k i:Nat} {L:Nat->Nat->Nat} (h:LL n2 d k i d L):LL n2 d k (i+1) 0 L:=by
 refine⟨h.1,fun c g=>?_⟩;rw[h.2 c g];by_cases e:c<i
 ·rw[if_pos e,if_pos (by omega)]
 by_cases e2:c=i
 ·rw[if_neg e,if_pos e2,if_pos (by omega)]
 rw[if_neg e,if_neg e2,if_neg (by omega)];split<;>rfl
theorem LL.row {n2 d k:Nat} {L:Nat->Nat->Nat} (h:∀ q i',q<k->i' < n2->L q i'=d):LL n2 d k 0 0 (fun q=>if q=k then fun _=>0 else L q):=by
 refine⟨fun q i' g c=>?_,fun i' c=>?_⟩
 ·show (if q=k then _ else _:Nat->Nat) i'=_
  rw[if_neg (by omega)];exact h q i' g c
 show (if k=k then _ else _:Nat->Nat) i'=_
 rw[if_pos rfl];simp
theorem LL.full {n2 d k:Nat} {L:Nat->Nat->Nat} (h:LL n2 d k n2 0 L):∀ q i',q<k+1->i' < n2->L q i'=d:=fun q i' g c=>by
 by_cases e:q=k
 ·subst e;rw[h.2 i' c,if_pos c]
 exact h.1 q i' (by omega) c
structure RcI (w0 w:World) (mb g n1 n2 n3:Nat) (M:EM) (sv:Value) (r:Nat->Nat) (s c:Nat->Nat->Nat) (X:XT):Prop where
 cv:Cv w w0.heap.size g n1 n2 n3 r s c X
 bm:BoxE w mb M sv
 be:Below w0.heap.size w0 w
theorem RcI.new {j w k:World} {d g n1 n2 l:Nat} {M:EM} {sv:Value} {r:Nat->Nat} {s c:Nat->Nat->Nat} {X:XT} (h:RcI j w d g n1 n2 l M sv r s c X) (i:Fr (fun _=>False) w k):RcI j k d g n1 n2 l M sv r s c X :=
 ⟨h.cv.new i,(i.block d h.bm.lt (fun e=>e)).trans h.bm,h.be.trans (i.below h.be.size (fun _ e=>e.elim))⟩
theorem RcI.set {u w:World} {z g n1 n2 o:Nat} {M:EM} {sv:Value} {r:Nat->Nat} {s c:Nat->Nat->Nat} {X:XT} (h:RcI u w z g n1 n2 o M sv r s c X) {k i j:Nat} {v:ByteArray} (l:k<n1) (hi:i<n2) (B:j<o) (A:smS v):RcI u (w.setCell ⟨s k i,j,none⟩ (.string v)) z g n1 n2 o M sv r s c (updX X k i j v):=by
 refine⟨h.cv.set l hi B A,?_,h.be.setCell (p:=⟨s k i,j,none⟩) (h.cv.slt l hi).1 _⟩;obtain⟨C,hb⟩:=h.cv.blk l hi;refine(blk_setCell_other _ _ _ _ (fun e=>?_)).trans h.bm;have d:=h.bm;unfold BoxE at d;rw[e] at d;simp only[] at d;rw[hb] at d;simp at d
def y9b (n:Nat):Code->Option Code
 | .block m c=>if m==n then some c else y9b n c
 | .seq a b=>(y9b n a).or (y9b n b)
 | .cond _ a b=>(y9b n a).or (y9b n b)
 | .loop c=>y9b n c
 | .scope c=>y9b n c
 | _=>none
def v9a:Code->Code
 | .loop c=>c
 | _=>.skip
noncomputable def u5c:Code:=v9a (((f18).body.bind (y9b 12)).getD .skip)
set_option maxRecDepth 1000000 in
theorem edloop {M:EM} {na nb:Nat} {x y:Nat->Int} {P:EP} {w wr:World} {mb g n1 n2 n3 mn k i j be oe cap cx cy:Nat} {a ax ay:Option Addr} {EA A7:Nat->Option Addr} {EC B2:Nat->Nat} {r:Nat->Nat} {s c:Nat->Nat->Nat} {X X1:XT} {zc:ST} {W:ByteArray} {Q0:Exit->Act->World->Prop} {u0 u4 u5 u6 u7 u8 G2 I0 K9 ab al ao Z9 ai L1 L0 F2 L6 M5 M4 E9 N0 M9 I4 I7 K0 L4 K5 H4 J9 I1 J1 F4 H2 F0 H9 F7 J0 J8 H7 K4 M7 E2 N2 H0 F6 K3 N4 G0 H5 E1 I6 J3 E8 H8 F1 K6 F9 M8 I8 H6 M3 F3 N7 E7 J7 J5 K2 I5 G9 N8 E6 L3 J2 G6 N6 G4 E5 L2 I2 M0 E3 N3 G1 I9 N1 J6 L8 L9 G3 L7 r0 p6 g4 j5 r3 l6 d6 b6 d0 w5 b1 a9 v3 i8 m9 w3 g8 v4 u1 x6 l5 f1 y6 j0 a5 g7 l4 t8 r8 r6 q9 w1 d8 w4 r5 i5 r2 m5 f8 s9 o4 w6 r1 a7 a6 o2 y5 h7 g2 q8 o9 h0 n0 e5 y7 n7 o5 k7 d4 i6 o3 y1 b9 z5 g9 y4 w7 O2 T2 Q3 T7 V4 R0 S2 S7 T6 T5 V2 Y3 P5 O8 P0 O9 U0 Q9 U9 Y0 S8 X7 Q4 P9 R6 S3 O0 W2 W8 U6 Z2 Y4 P6 X4 V6 Y9 U4 V8 X9 S9 R8 T9 S0 P1 U3 T3 U1 W5 W1 T8 R7 Y7 S5 V7 R1 Y2 X8 P2 U8 O6 P7 S6 Y1 R5 Q7 Z6 Z5 Z3 P3 W0 Q2 P4 U7 Q5 R9 o6 n6 f0 l9 x3 j4 z2 f5 j9 x0 z6 g1 x4 b0 p9 k9 t7 c6 f9 A0 e8 e3:Value}
  (HP:Hid (P=⟨M,na,x,nb,y⟩)) (HV:Hid (VE M)) (aa:Hid (ESz M)) (A4:Hid (M.most=(mn:Int))) (A5:Hid (n1=mn+1)) (B4:Hid (n2=na+1)) (A9:Hid (n3=nb+1))
  (HX:Hid (Si none w (.slice ax na cx) na x)) (HY:Hid (Si none w (.slice ay nb cy) nb y)) (ar:Hid (0<M.n->a=some ⟨be,oe,none⟩)) (Z7:Hid (0<M.n->be<w.heap.size/\some be≠none))
  (O7:Hid (∀ i,i<M.n->w.cell? ⟨be,oe+i*3,none⟩=some (.slice (EA i) (M.e i).nf (EC i))/\w.cell? ⟨be,oe+i*3+1,none⟩=some (.slice (A7 i) (M.e i).nt (B2 i))/\w.cell? ⟨be,oe+i*3+2,none⟩=some (.string (M.e i).w)/\Si none w (.slice (EA i) (M.e i).nf (EC i)) (M.e i).nf (M.e i).f/\Si none w (.slice (A7 i) (M.e i).nt (B2 i)) (M.e i).nt (M.e i).t))
  (W9:na<=200) (S1:nb<=200) (bn:M.n<=400) (au:mn<=6) (bj:k<n1) (ba:i<n2) (bh:j<n3)
  (HW:Hid (W=X k i j)) (B1:Hid (W≠infS)) (R2:Hid (smS W)) (e9:Hid (RI X)) (M1:Hid (zc=cpC P (k,i,j) (deI X,0)))
  (Q8:Hid ((stpC P (k,i,j) (deI X,0)).2≠0->z6a P=(⟨#[]⟩,2)))
  (D6:Hid (X1 k i j=W)) (C5:Hid (RI X1)) (U5:Hid ((deI X1,0)=zc)) (B8:Hid (RcI w wr mb g n1 n2 n3 M (.slice a M.n cap) r s c X1))
  (l:Hid (∀ (e:List PanicEntry) (a:Act) (d:Option Tmp) (v:Value) (w':World),Q0 (.panic e) (a.put d v) w'->Q0 (.panic e) a w'))
  (A3:Hid (∀ (v6 v7 O G5 I3 G8 M6 M2 b7 x8 s4 m7 s6 g3 v2 A2 a4 m4 p0 j6 g5 v9 e7 u9 f2 h8 h6 i4 z3 z9 q7 y8 k0 u3 h9 a8 l8 j2 s7 r9 d5 g6 n5 i9 e6 v0 b3 z7 s5 y0 a2 v8 v5 z1 l0 j8 A1 j3 m3 s8 z8 l7 i7 c9 e4 m8 b8 i2 n9 w0 d9 c8 k6 p8 u2 y9 j1 b5 o8 b4 x5 f7 o7:Value) (w':World) (N:XT),RI N->stpC P (k,i,j) (deI X,0)=(deI N,0)->RcI w w' mb g n1 n2 n3 M (.slice a M.n cap) r s c N->Q0 (.exit 12) ⟨List.toArray (u0::.slice ax na cx::.slice ay nb cy::.pointer (some ⟨mb,0,none⟩)::u4::u5::v6::v7::u8::.slice (some ⟨g,0,none⟩) n1 n1::G2::I0::K9::.int .i64 (k:Int)::.int .i64 (i:Int)::.int .i64 (j:Int)::.string W::O::G5::I3::G8::M6::M2::L1::L0::F2::L6::M5::M4::E9::N0::M9::I4::I7::K0::L4::K5::H4::J9::I1::J1::F4::H2::F0::H9::F7::J0::J8::H7::K4::M7::E2::N2::H0::F6::K3::N4::G0::H5::E1::I6::J3::E8::H8::F1::K6::F9::M8::I8::H6::M3::F3::N7::E7::J7::J5::K2::I5::G9::N8::E6::L3::J2::G6::N6::G4::E5::L2::I2::M0::E3::N3::G1::I9::N1::J6::L8::L9::G3::L7::r0::p6::g4::j5::r3::l6::d6::b6::d0::w5::b1::a9::v3::i8::m9::w3::g8::v4::u1::x6::l5::f1::y6::j0::a5::g7::l4::t8::r8::r6::q9::w1::d8::w4::r5::i5::r2::m5::f8::s9::o4::w6::r1::a7::a6::o2::y5::h7::g2::q8::o9::h0::n0::e5::y7::n7::o5::k7::d4::i6::o3::y1::b9::z5::g9::y4::w7::b7::x8::s4::m7::s6::g3::v2::A2::a4::m4::p0::j6::g5::v9::e7::u9::f2::h8::h6::i4::z3::z9::q7::y8::k0::u3::h9::a8::l8::j2::s7::r9::d5::g6::n5::i9::e6::v0::b3::z7::s5::y0::a2::v8::v5::z1::l0::j8::A1::j3::m3::s8::z8::l7::i7::c9::e4::m8::b8::i2::n9::w0::d9::c8::k6::p8::u2::y9::j1::b5::o8::b4::x5::f7::o7::o6::n6::f0::l9::x3::j4::z2::f5::j9::x0::z6::g1::x4::b0::p9::k9::t7::c6::f9::A0::e8::e3::[]),[]⟩ w'))
  (O1:Hid (∀ (O G5 I3 G8 M6 M2 b7 x8 s4 m7 s6 g3 v2 A2 a4 m4 p0 j6 g5 v9 e7 u9 f2 h8 h6 i4 z3 z9 q7 y8 k0 u3 h9 a8 l8 j2 s7 r9 d5 g6 n5 i9 e6 v0 b3 z7 s5 y0 a2 v8 v5 z1 l0 j8 A1 j3 m3 s8 z8 l7 i7 c9 e4 m8 b8 i2 n9 w0 d9 c8 k6 p8 u2 y9 j1 b5 o8 b4 x5 f7 o7:Value) (w':World),Below w.heap.size w w'->z6a P=(⟨#[]⟩,2)->Q0 .ret ⟨List.toArray (u0::.slice ax na cx::.slice ay nb cy::.pointer (some ⟨mb,0,none⟩)::u4::u5::.string ⟨#[]⟩::.int .i64 2::u8::.slice (some ⟨g,0,none⟩) n1 n1::G2::I0::K9::.int .i64 (k:Int)::.int .i64 (i:Int)::.int .i64 (j:Int)::.string W::O::G5::I3::G8::M6::M2::L1::L0::F2::L6::M5::M4::E9::N0::M9::I4::I7::K0::L4::K5::H4::J9::I1::J1::F4::H2::F0::H9::F7::J0::J8::H7::K4::M7::E2::N2::H0::F6::K3::N4::G0::H5::E1::I6::J3::E8::H8::F1::K6::F9::M8::I8::H6::M3::F3::N7::E7::J7::J5::K2::I5::G9::N8::E6::L3::J2::G6::N6::G4::E5::L2::I2::M0::E3::N3::G1::I9::N1::J6::L8::L9::G3::L7::r0::p6::g4::j5::r3::l6::d6::b6::d0::w5::b1::a9::v3::i8::m9::w3::g8::v4::u1::x6::l5::f1::y6::j0::a5::g7::l4::t8::r8::r6::q9::w1::d8::w4::r5::i5::r2::m5::f8::s9::o4::w6::r1::a7::a6::o2::y5::h7::g2::q8::o9::h0::n0::e5::y7::n7::o5::k7::d4::i6::o3::y1::b9::z5::g9::y4::w7::b7::x8::s4::m7::s6::g3::v2::A2::a4::m4::p0::j6::g5::v9::e7::u9::f2::h8::h6::i4::z3::z9::q7::y8::k0::u3::h9::a8::l8::j2::s7::r9::d5::g6::n5::i9::e6::v0::b3::z7::s5::y0::a2::v8::v5::z1::l0::j8::A1::j3::m3::s8::z8::l7::i7::c9::e4::m8::b8::i2::n9::w0::d9::c8::k6::p8::u2::y9::j1::b5::o8::b4::x5::f7::o7::o6::n6::f0::l9::x3::j4::z2::f5::j9::x0::z6::g1::x4::b0::p9::k9::t7::c6::f9::A0::e8::e3::[]),[]⟩ w')) :
  Code.wp prog (Code.loop u5c) Q0 ⟨List.toArray (u0::.slice ax na cx::.slice ay nb cy::.pointer (some ⟨mb,0,none⟩)::u4::u5::u6::u7::u8::.slice (some ⟨g,0,none⟩) n1 n1::G2::I0::K9::.int .i64 (k:Int)::.int .i64 (i:Int)::.int .i64 (j:Int)::.string W::.int .i64 0::ab::al::ao::Z9::ai::L1::L0::F2::L6::M5::M4::E9::N0::M9::I4::I7::K0::L4::K5::H4::J9::I1::J1::F4::H2::F0::H9::F7::J0::J8::H7::K4::M7::E2::N2::H0::F6::K3::N4::G0::H5::E1::I6::J3::E8::H8::F1::K6::F9::M8::I8::H6::M3::F3::N7::E7::J7::J5::K2::I5::G9::N8::E6::L3::J2::G6::N6::G4::E5::L2::I2::M0::E3::N3::G1::I9::N1::J6::L8::L9::G3::L7::r0::p6::g4::j5::r3::l6::d6::b6::d0::w5::b1::a9::v3::i8::m9::w3::g8::v4::u1::x6::l5::f1::y6::j0::a5::g7::l4::t8::r8::r6::q9::w1::d8::w4::r5::i5::r2::m5::f8::s9::o4::w6::r1::a7::a6::o2::y5::h7::g2::q8::o9::h0::n0::e5::y7::n7::o5::k7::d4::i6::o3::y1::b9::z5::g9::y4::w7::O2::T2::Q3::T7::V4::R0::S2::S7::T6::T5::V2::Y3::P5::O8::P0::O9::U0::Q9::U9::Y0::S8::X7::Q4::P9::R6::S3::O0::W2::W8::U6::Z2::Y4::P6::X4::V6::Y9::U4::V8::X9::S9::R8::T9::S0::P1::U3::T3::U1::W5::W1::T8::R7::Y7::S5::V7::R1::Y2::X8::P2::U8::O6::P7::S6::Y1::R5::Q7::Z6::Z5::Z3::P3::W0::Q2::P4::U7::Q5::R9::o6::n6::f0::l9::x3::j4::z2::f5::j9::x0::z6::g1::x4::b0::p9::k9::t7::c6::f9::A0::e8::e3::[]),[]⟩ wr:=by
 have bg:n1<=7:=by have:=A5.out;omega
 have br:n2<=201:=by have:=B4.out;omega
 have bd:n3<=201:=by have:=A9.out;omega
 have bk:(k:Int)<=(mn:Int):=by have:=A5.out;omega
 have bq:(i:Int)<=(na:Int):=by have:=B4.out;omega
 have bo:(j:Int)<=(nb:Int):=by have:=A9.out;omega
 conv=>arg 2;arg 1;whnf
 go_loopw [17] (fun O wr=>∃ e:Nat,e<=M.n/\O=.int .i64 (e:Int)/\(k=mn->e=0)/\∃ X,RI X/\(deI X,0)=z2s P (k,i,j) e zc/\X k i j=W/\RcI w wr mb g n1 n2 n3 M (.slice a M.n cap) r s c X) (fun O _=>M.n-(intOf O).toNat)
 case atStart=>exact⟨0,Nat.zero_le _,rfl,fun _=>rfl,X1,C5.out,U5.out,D6.out,B8.out⟩
 obtain⟨e,he,rfl,O4,N,W3,D,Y8,Z1⟩:=hrel;clear B8 C5 U5 D6;have b2:=qh W3;clear W3;have N5:=qh D;clear D;have x7:=qh Y8;clear Y8;have I:=qh Z1;clear Z1;have ag:=qh O4;clear O4;have m0:=I.out.bm.c0;have m1:=I.out.bm.c1;rw[A4.out] at m1;by_cases bi:(k:Int)<(mn:Int)
 ·by_cases F8:e<M.n
  ·have bl:(e:Int)<(M.n:Int):=by omega
   have av:(0:Int)<=(e:Int):=by omega
   obtain rfl:=ar.out (by omega);have L5:=(Z7.out (by omega)).1;obtain⟨k1,k2,k3,k4,k5⟩:=O7.out e F8;have q0:=(I.out.be.cell (p:=⟨be,oe+e*3,none⟩) L5).trans k1;have q1:=(I.out.be.cell (p:=⟨be,oe+e*3+1,none⟩) L5).trans k2;have q2:=(I.out.be.cell (p:=⟨be,oe+e*3+2,none⟩) L5).trans k3;clear k1 k2 k3;obtain⟨nf,h5⟩:∃ nf,nf=(M.e e).nf:=⟨_,rfl⟩;obtain⟨nt,r4⟩:∃ nt,nt=(M.e e).nt:=⟨_,rfl⟩;obtain⟨df,J4⟩:∃ df,df=(M.e e).f:=⟨_,rfl⟩;obtain⟨dt,K8⟩:∃ dt,dt=(M.e e).t:=⟨_,rfl⟩;obtain⟨wt,r7⟩:∃ wt,wt=(M.e e).w:=⟨_,rfl⟩;have B0:=HV.out.ok e F8;have Z4:nf<=6:=by rw[h5];exact B0.f6
   have Q1:nt<=6:=by rw[r4];exact B0.t6
   have D5:prs wt=some (qv wt):=by rw[r7];exact B0.q
   have D8:smS wt:=by rw[r7];have:=aa.out.w e;unfold smS;omega
   rw[<- h5] at q0 k4;rw[<- r4] at q1 k5;rw[<- r7] at q2;rw[<- J4] at k4;rw[<- K8] at k5;have C3:canB P (k,i,j) e=(bgI na x i nf df&&bgI nb y j nt dt):=by rw[v6f,HP.out,h5,r4,J4,K8]
   have X3:toP P (k,i,j) e=(k+1,i+nf,j+nt):=by unfold toP;rw[HP.out,h5,r4]
   have V3:(P.M.e e).w=wt:=by rw[HP.out,r7]
   have E4:z2s P (k,i,j) (e+1) zc=if canB P (k,i,j) e=true then reaC (z2s P (k,i,j) e zc).1 (z2s P (k,i,j) e zc).2 (k,i,j) (toP P (k,i,j) e) (P.M.e e).w else z2s P (k,i,j) e zc:=rfl
   rw[C3,X3,V3,<- N5.out] at E4;clear h5 r4 J4 K8 r7 B0 C3 X3 V3;have x1:=qh E4;clear E4;have W6:=qh D5;clear D5;have V9:=qh D8;clear D8;have an:=qh k4;clear k4;have ac:=qh k5;clear k5;obtain⟨w8,A6⟩:=exq (wr.alloc (.cells #[.slice (EA e) nf (EC e),.slice (A7 e) nt (B2 e),.string wt] 50));obtain⟨eb,F5⟩:=exq (wr.heap.size);have G7:Fr (fun _=>False) wr w8:=by rw[A6];exact Fr.alloc _ _
   have i3:w8.heap[eb]?=some (.cells #[.slice (EA e) nf (EC e),.slice (A7 e) nt (B2 e),.string wt] 50 (0,0)):=by rw[A6,F5];exact heap_alloc_new wr _
   have Q:=I.out.new G7;have C1:=qh (y6r (i:=i) w8 (HX.out.kept (z0c Q.be none)) (an.out.kept (z0c Q.be none)) W9 Z4 (by have:=B4.out;omega));have e0:=cell_of i3 0 rfl;have D2:=qh i3;clear i3;have R3:=qh Q;clear Q;have bf:=qh G7;clear G7
   go_wp2_with fail
   rw[<- A6,<- F5];clear A6 F5 q0 q1 q2 m0 m1;refine C1.out.mono ?_;rintro rr w9 ⟨rfl,Y5⟩;have B3:Fr (fun _=>False) w8 w9:=Fr.of_below Y5;have U:=(B3.block eb (lt_of_block D2.out) (fun e=>e)).trans D2.out;have S:=qh (R3.out.new B3);clear e0 Y5 C1;cases y3:bgI na x i nf df
   ·have A:=x1.out;rw[y3,if_neg (by simp)] at A;have HN:=qh A;clear A y3 U B3
    go_wp2_with fail
    go_roundw
    case rel=>exact⟨e+1,by omega,by go_num,fun h=>by omega,N,b2.out,HN.out.symm,x7.out,S.out⟩
    simp[intOf];omega
   have a3:=qh y3;have e1:=cell_of U 1 rfl;have C9:=qh U;clear U;have D9:=qh (y6r (i:=j) w9 (HY.out.kept (z0c S.out.be none)) (ac.out.kept (z0c S.out.be none)) S1 Q1 (by have:=A9.out;omega));clear B3
   go_wp2_with fail
   refine D9.out.mono ?_;rintro rr K7 ⟨rfl,C8⟩;have R:Fr (fun _=>False) w9 K7:=Fr.of_below C8;have F:=(R.block eb (lt_of_block C9.out) (fun e=>e)).trans C9.out;have j7:=qh (S.out.new R);clear e1 C8 D9;cases Z:bgI nb y j nt dt
   ·have A:=x1.out;rw[a3.out,Z,if_neg (by simp)] at A;have HN:=qh A;clear A Z F R y3
    go_wp2_with fail
    go_roundw
    case rel=>exact⟨e+1,by omega,by go_num,fun h=>by omega,N,b2.out,HN.out.symm,x7.out,j7.out⟩
    simp[intOf];omega
   have A:=x1.out;rw[a3.out,Z,if_pos (by rfl)] at A;have HN:=qh A;clear A;have a1:i+nf<n2:=by have:=a3.out;unfold bgI at this;simp at this;have:=B4.out;omega
   have Q6:j+nt<n3:=by unfold bgI at Z;simp at Z;have:=A9.out;omega
   have L:k+1<n1:=by have:=A5.out;omega
   have e2:=cell_of F 2 rfl;have x9:=qh F;clear F R;have d7:=b2.out.rea (e:=0) (p:=(k,i,j)) (q:=(k+1,i+nf,j+nt)) (d:=qv wt) (wt:=wt) (by show N k i j≠infS;rw[x7.out];exact B1.out) W6.out;rw[show N (k,i,j).1 (k,i,j).2.1 (k,i,j).2.2=W from x7.out] at d7;have D7:=qh d7;clear d7;have Z0:=qh (y8m W wt K7 R2.out V9.out);clear y3 Z
   go_wp2_with fail
   refine Z0.out.mono ?_;rintro rr w2 ⟨rfl,D1⟩;have f4:Fr (fun _=>False) K7 w2:=Fr.of_below D1;have E:=(f4.block eb (lt_of_block x9.out) (fun e=>e)).trans x9.out;have t9:=qh (j7.out.new f4);clear e2 D1 f4 Z0;obtain⟨ad,A8⟩:=exq (z2m W wt);rw[<- A8] at D7;rw[<- A8];have D0:smS ad.1:=by rw[A8];exact x6z _ _
   have C4:=qh D0;clear D0 A8
   rcases D7.out with ⟨p7,hr,C6⟩|⟨ha,hr⟩
   ·have B6:(ad.2:Int)=0:=by omega
    have bc:=qh p7;clear p7;have HR:=qh hr;clear hr;have T0:=qh C6;clear C6;have e0:=cell_of E 0 rfl;have e1:=cell_of E 1 rfl;clear E;have aq:IntKind.i64.wrap ((i:Int)+(nf:Int))=(i:Int)+(nf:Int):=by rw[IntKind.wrap_i64];omega
    have Z8:IntKind.i64.wrap ((j:Int)+(nt:Int))=(j:Int)+(nt:Int):=by rw[IntKind.wrap_i64];omega
    have ap:IntKind.i64.wrap ((k:Int)+1)=(k:Int)+1:=by rw[IntKind.wrap_i64];omega
    have V1:(0:Int)<=(i:Int)+(nf:Int):=by omega
    have X6:(0:Int)<=(j:Int)+(nt:Int):=by omega
    have V0:(0:Int)<=(k:Int)+1:=by omega
    have O5:(i:Int)+(nf:Int)<(n2:Int):=by omega
    have X5:(j:Int)+(nt:Int)<(n3:Int):=by omega
    have N9:(k:Int)+1<(n1:Int):=by omega
    have am:((i:Int)+(nf:Int)).toNat=i+nf:=by omega
    have ae:((j:Int)+(nt:Int)).toNat=j+nt:=by omega
    have ak:((k:Int)+1).toNat=k+1:=by omega
    go_wp2_with fail
    go_quiet (fail)
    go_wp2_with fail
    have B5:Fr (fun _=>False) w2 (w2.drewN nq):=Fr.of_below (below_drewN (Below.refl _ w2) nq);have u:=t9.out.new B5;obtain⟨H,E0⟩:=exq (w2.drewN nq);rw[<- E0] at u ⊢;clear e0 e1 E0 B5;have d1:=u.cv.c1 L;have d2:=u.cv.c2 L a1;have d3:=u.cv.c3 L a1 Q6;have f3:=u.cv.f3 L a1 (j+nt);have U2:=(u.cv.slt L a1).2;obtain⟨Y,C0⟩:∃ z,z=r (k+1):=⟨_,rfl⟩;obtain⟨G,T⟩:∃ z,z=s (k+1) (i+nf):=⟨_,rfl⟩;obtain⟨H3,C7⟩:∃ z,z=c (k+1) (i+nf):=⟨_,rfl⟩;obtain⟨xo,c7⟩:∃ z,z=N (k+1) (i+nf) (j+nt):=⟨_,rfl⟩;rw[<- C0] at d1 d2;rw[<- T] at d2 d3 f3 U2;rw[<- C7] at d2;rw[<- c7] at d3;have h4:smS xo:=by rw[c7];exact u.cv.sm _ _ _
    have B7:∀ W',Fr (fun _=>False) H W'->RcI w (W'.setCell ⟨G,j+nt,none⟩ (.string (bttC xo ad.1))) mb g n1 n2 n3 M (.slice (some ⟨be,oe,none⟩) M.n cap) r s c (updX N (k+1) (i+nf) (j+nt) (bttC xo ad.1))/\(W'.cell? ⟨g,k+1,none⟩=some (.slice (some ⟨Y,0,none⟩) n2 n2)/\W'.cell? ⟨Y,i+nf,none⟩=some (.slice (some ⟨G,0,none⟩) n3 H3)/\W'.cell? ⟨G,j+nt,none⟩=some (.string xo))/\W'.frozen? ⟨G,j+nt,none⟩=false:=fun W' hf=>by
     have h1:=u.new hf;have h2:=h1.set (v:=bttC xo ad.1) L a1 Q6 (v0q h4 C4.out);rw[<- T] at h2;have h3:=h1.cv.f3 L a1 (j+nt);rw[<- T] at h3;exact⟨h2,⟨hf.cell d1 (fun e=>e),hf.cell d2 (fun e=>e),hf.cell d3 (fun e=>e)⟩,h3⟩
    have R4:updX N (k+1) (i+nf) (j+nt) (bttC xo ad.1) k i j=W:=by unfold updX;rw[if_neg (fun h=>by omega)];exact x7.out
    have C2:(deI (updX N (k+1) (i+nf) (j+nt) (bttC xo ad.1)),0)=z2s P (k,i,j) (e+1) zc:=by rw[c7];exact(HN.out.trans HR.out).symm
    have D3:RI (updX N (k+1) (i+nf) (j+nt) (bttC xo ad.1)):=by rw[c7];exact T0.out
    have B9:=qh B7;clear B7;have ah:=qh R4;clear R4;have T1:=qh C2;clear C2;have O3:=qh D3;clear D3;have W7:=qh (y0s xo ad.1);have P8:=qh h4;clear h4 C0 T C7 c7;have o:H.drew.cell? ⟨g,k+1,none⟩=some (.slice (some ⟨Y,0,none⟩) n2 n2)/\H.drew.cell? ⟨Y,i+nf,none⟩=some (.slice (some ⟨G,0,none⟩) n3 H3)/\H.drew.cell? ⟨G,j+nt,none⟩=some (.string xo):=⟨d1,d2,d3⟩;clear u;refine z0g (fun B=>B.cell? ⟨g,k+1,none⟩=some (.slice (some ⟨Y,0,none⟩) n2 n2)/\B.cell? ⟨Y,i+nf,none⟩=some (.slice (some ⟨G,0,none⟩) n3 H3)/\B.cell? ⟨G,j+nt,none⟩=some (.string xo)) 23 (by kernel_rfl) ?_;refine z0b.tk (i:=0) (v:=?zq) rfl (by kernel_rfl) o (Or.inl ⟨by kernel_rfl,?ya⟩) ?ys (hQ:=fun _ _ _ h=>l.out _ _ _ _ _ h)
    case ya=>rintro B ⟨s1,s2,C⟩;go_simp;try with_reducible rfl
    refine z0b.tk (i:=1) (v:=?zp) rfl (by kernel_rfl) o (Or.inl ⟨by kernel_rfl,?xz⟩) ?yt (hQ:=fun _ _ _ h=>l.out _ _ _ _ _ h)
    case xz=>rintro B ⟨s1,s2,C⟩;go_simp;try with_reducible rfl
    refine z0b.tk (i:=2) (v:=?zs) rfl (by kernel_rfl) o (Or.inl ⟨by kernel_rfl,?xp⟩) ?ym (hQ:=fun _ _ _ h=>l.out _ _ _ _ _ h)
    case xp=>rintro B ⟨s1,s2,C⟩;go_simp;try with_reducible rfl
    refine z0b.tk (i:=3) (v:=?zo) rfl (by kernel_rfl) o (Or.inl ⟨by kernel_rfl,?yk⟩) ?yo (hQ:=fun _ _ _ h=>l.out _ _ _ _ _ h)
    case yk=>rintro B ⟨s1,s2,C⟩;go_simp;try with_reducible rfl
    refine z0b.tk (i:=4) (v:=?zu) rfl (by kernel_rfl) o (Or.inl ⟨by kernel_rfl,?yh⟩) ?yu (hQ:=fun _ _ _ h=>l.out _ _ _ _ _ h)
    case yh=>rintro B ⟨s1,s2,C⟩;go_simp;try with_reducible rfl
    refine z0b.tk (i:=5) (v:=?zn) rfl (by kernel_rfl) o (Or.inl ⟨by kernel_rfl,?xx⟩) ?yr (hQ:=fun _ _ _ h=>l.out _ _ _ _ _ h)
    case xx=>rintro B ⟨s1,s2,C⟩;go_simp;try with_reducible rfl
    refine z0b.tk (i:=6) (v:=?zl) rfl (by kernel_rfl) o (Or.inl ⟨by kernel_rfl,?yj⟩) ?yq (hQ:=fun _ _ _ h=>l.out _ _ _ _ _ h)
    case yj=>rintro B ⟨s1,s2,C⟩;go_simp;try with_reducible rfl
    refine z0b.tk (i:=7) (v:=?zt) rfl (by kernel_rfl) o (Or.inl ⟨by kernel_rfl,?yl⟩) ?yp (hQ:=fun _ _ _ h=>l.out _ _ _ _ _ h)
    case yl=>rintro B ⟨s1,s2,C⟩;go_simp;try with_reducible rfl
    refine z0b.tk (i:=8) (v:=?zk) rfl (by kernel_rfl) o (Or.inl ⟨by kernel_rfl,?yb⟩) ?yv (hQ:=fun _ _ _ h=>l.out _ _ _ _ _ h)
    case yb=>rintro B ⟨s1,s2,C⟩;go_simp;try with_reducible rfl
    refine z0b.tk (i:=9) (v:=?zr) rfl (by kernel_rfl) o (Or.inl ⟨by kernel_rfl,?xq⟩) ?yn (hQ:=fun _ _ _ h=>l.out _ _ _ _ _ h)
    case xq=>rintro B ⟨s1,s2,C⟩;go_simp;try with_reducible rfl
    refine z0b.tk (i:=10) (v:=?zh) rfl (by kernel_rfl) o (Or.inl ⟨by kernel_rfl,?xc⟩) ?xs (hQ:=fun _ _ _ h=>l.out _ _ _ _ _ h)
    case xc=>rintro B ⟨s1,s2,C⟩;go_simp;try with_reducible rfl
    refine z0b.tk (i:=11) (v:=?zd) rfl (by kernel_rfl) o (Or.inl ⟨by kernel_rfl,?xd⟩) ?yg (hQ:=fun _ _ _ h=>l.out _ _ _ _ _ h)
    case xd=>rintro B ⟨s1,s2,C⟩;go_simp;try with_reducible rfl
    refine z0b.tk (i:=12) (v:=?zi) rfl (by kernel_rfl) o (Or.inl ⟨by kernel_rfl,?xi⟩) ?xw (hQ:=fun _ _ _ h=>l.out _ _ _ _ _ h)
    case xi=>rintro B ⟨s1,s2,C⟩;go_simp;try with_reducible rfl
    refine z0b.tk (i:=13) (v:=?za) rfl (by kernel_rfl) o (Or.inl ⟨by kernel_rfl,?xl⟩) ?yd (hQ:=fun _ _ _ h=>l.out _ _ _ _ _ h)
    case xl=>rintro B ⟨s1,s2,C⟩;go_simp;try with_reducible rfl
    refine z0b.tk (i:=14) (v:=?zj) rfl (by kernel_rfl) o (Or.inl ⟨by kernel_rfl,?xj⟩) ?yf (hQ:=fun _ _ _ h=>l.out _ _ _ _ _ h)
    case xj=>rintro B ⟨s1,s2,C⟩;go_simp;try with_reducible rfl
    refine z0b.tk (i:=15) (v:=?zb) rfl (by kernel_rfl) o (Or.inl ⟨by kernel_rfl,?xa⟩) ?yc (hQ:=fun _ _ _ h=>l.out _ _ _ _ _ h)
    case xa=>rintro B ⟨s1,s2,C⟩;go_simp;try with_reducible rfl
    refine z0b.tk (i:=16) (v:=?yz) rfl (by kernel_rfl) o (Or.inl ⟨by kernel_rfl,?xg⟩) ?xv (hQ:=fun _ _ _ h=>l.out _ _ _ _ _ h)
    case xg=>rintro B ⟨s1,s2,C⟩;go_simp;try with_reducible rfl
    refine z0b.tk (i:=17) (v:=?yy) rfl (by kernel_rfl) o (Or.inl ⟨by kernel_rfl,?xm⟩) ?xn (hQ:=fun _ _ _ h=>l.out _ _ _ _ _ h)
    case xm=>rintro B ⟨s1,s2,C⟩;go_simp;try with_reducible rfl
    refine z0b.tk (i:=18) (v:=?zf) rfl (by kernel_rfl) o (Or.inl ⟨by kernel_rfl,?xk⟩) ?xu (hQ:=fun _ _ _ h=>l.out _ _ _ _ _ h)
    case xk=>rintro B ⟨s1,s2,C⟩;go_simp;try with_reducible rfl
    refine z0b.tk (i:=19) (v:=?yw) rfl (by kernel_rfl) o (Or.inl ⟨by kernel_rfl,?xf⟩) ?xr (hQ:=fun _ _ _ h=>l.out _ _ _ _ _ h)
    case xf=>rintro B ⟨s1,s2,C⟩;go_simp;try with_reducible rfl
    refine z0b.tk (i:=20) (v:=?ze) rfl (by kernel_rfl) o (Or.inl ⟨by kernel_rfl,?xh⟩) ?xt (hQ:=fun _ _ _ h=>l.out _ _ _ _ _ h)
    case xh=>rintro B ⟨s1,s2,C⟩;go_simp;try with_reducible rfl
    try simp only[Act.put,tryL]
    clear o d1 d2 d3 f3;refine z0b.on 21 fun K hK=>?_;go_simp;refine(W7.out H.drew P8.out C4.out).mono ?_;rintro rr af ⟨rfl,D4⟩;obtain⟨h1,h2,h3⟩:=B9.out af ((Fr.refl (fun _=>False) H).drew.trans (Fr.of_below D4));have H1:=qh h1;clear h1 D4 B9;refine hK.out _ _ (.inr h2) ?_;clear hK K
    try simp only[Act.put,tryL]
    refine z0b.tk (i:=22) (v:=?yx) rfl (by kernel_rfl) h2 (Or.inl ⟨by kernel_rfl,?xb⟩) ?yi (hQ:=fun _ _ _ h=>l.out _ _ _ _ _ h)
    case xb=>rintro B ⟨s1,s2,C⟩;go_simp;try with_reducible rfl
    try simp only[Act.put,tryL]
    have g0:=h2.2.2;refine z0b.on 23 fun K hK=>?_;go_simp;refine hK.out _ _ (.inl rfl) (z0b.done (by kernel_rfl) ?_ _);clear hK K g0 h2 h3;clear aq Z8 ap V1 X6 V0 O5 X5 N9 am ae ak
    go_wp2_with fail
    go_roundw
    case rel=>exact⟨e+1,by omega,by go_num,fun h=>by omega,_,O3.out,T1.out,ah.out,H1.out⟩
    simp[intOf];omega
   have p7:ad.2=2:=by rw[ha]
   have B6:¬ ((ad.2:Int)=0):=by omega
   have T4:z6a P=(⟨#[]⟩,2):=by
    refine Q8.out ?_;have h1:(z2s P (k,i,j) (e+1) zc).2≠0:=by rw[HN.out,hr];simp
    rw[M1.out] at h1;exact u5d (by rw[show ((deI X,0):ST).1 k i j=deI X k i j from rfl];exact fun h=>B1.out (by rw[HW.out];exact(y9y e9.out).1 h)) (by rw[HP.out];show (k:Int)≠M.most;rw[A4.out];omega) (by rw[HP.out];exact F8) h1
   have aj:=qh T4;clear T4 hr ha E;rw[p7] at B6 ⊢;clear p7
   go_wp2_with fail
   exact O1.out _ _ _ _ _ _ _ _ _ _ _ _ _ _ _ _ _ _ _ _ _ _ _ _ _ _ _ _ _ _ _ _ _ _ _ _ _ _ _ _ _ _ _ _ _ _ _ _ _ _ _ _ _ _ _ _ _ _ _ _ _ _ _ _ _ _ _ _ _ _ _ _ _ _ _ _ _ _ _ _ _ _ t9.out.be aj.out
  have V5:e=M.n:=by omega
  have bb:¬ ((e:Int)<(M.n:Int)):=by omega
  have D:=N5.out;rw[V5] at D;have J:stpC P (k,i,j) (deI X,0)=(deI N,0):=by
   rw[D,M1.out,u0r (P:=P) (fun h=>B1.out (by rw[HW.out];exact(y9y e9.out).1 h)) (by rw[HP.out];show (k:Int)≠M.most;rw[A4.out];omega),HP.out]
  have z4:=qh J;clear J D V5
  go_wp2_with fail
  exact A3.out _ _ _ _ _ _ _ _ _ _ _ _ _ _ _ _ _ _ _ _ _ _ _ _ _ _ _ _ _ _ _ _ _ _ _ _ _ _ _ _ _ _ _ _ _ _ _ _ _ _ _ _ _ _ _ _ _ _ _ _ _ _ _ _ _ _ _ _ _ _ _ _ _ _ _ _ _ _ _ _ _ _ _ _ _ b2.out z4.out I.out
 have az:decide ((k:Int)<(mn:Int))=false:=by simp;omega
 have K1:k=mn:=by have:=A5.out;omega
 have Y6:=ag.out K1;have D:=N5.out;rw[Y6] at D;have J:stpC P (k,i,j) (deI X,0)=(deI N,0):=by
  rw[D,M1.out,v0c (P:=P) (fun h=>B1.out (by rw[HW.out];exact(y9y e9.out).1 h)) (by rw[HP.out];show (k:Int)=M.most;rw[A4.out,K1])];rfl
 have z4:=qh J;clear J D Y6 K1
 go_wp2_with fail
 exact A3.out _ _ _ _ _ _ _ _ _ _ _ _ _ _ _ _ _ _ _ _ _ _ _ _ _ _ _ _ _ _ _ _ _ _ _ _ _ _ _ _ _ _ _ _ _ _ _ _ _ _ _ _ _ _ _ _ _ _ _ _ _ _ _ _ _ _ _ _ _ _ _ _ _ _ _ _ _ _ _ _ _ _ _ _ _ b2.out z4.out I.out
end
section
open Go.RowKit Go.Deep
noncomputable def u5k:Code:=v9a (((f18).body.bind (y9b 10)).getD .skip)
set_option maxRecDepth 1000000 in
theorem jloop {M:EM} {na nb:Nat} {x y:Nat->Int} {P:EP} {w wr:World} {mb g n1 n2 n3 mn k i be oe cap cx cy bx ox p8 oy:Nat} {a ax ay:Option Addr} {EA O7:Nat->Option Addr} {EC V7:Nat->Nat} {r:Nat->Nat} {s c:Nat->Nat->Nat} {X:XT} {z1 z2:ST} {Q0:Exit->Act->World->Prop} {u0 u4 u5 u6 u7 F4 G8 J6 bi br bq cf ci bn cd J8 J7 E5 K2 L1 L0 E2 L5 L4 H2 H5 I8 K1 J3 G2 I7 G9 H9 E7 G0 E3 G7 E9 H8 I6 G5 J2 L2 D6 L7 F9 E8 J0 L9 F2 G3 D5 H4 I1 E1 G6 E4 J5 F1 L3 H6 G4 K9 E6 M1 E0 I4 I2 I9 H3 F8 M2 D9 K0 I0 F7 M0 F6 D8 J9 H0 K7 D7 L8 F3 H7 L6 I3 K5 K6 F5 K4 x7 x3 S1 T6 X7 U2 P0 N7 O8 ag N4 N0 Z5 T3 V0 ac S3 Z6 Z2 am U1 R0 au T5 M4 S2 U0 Z1 Y2 Y0 X3 ab P8 af X9 T0 X5 U9 R4 Z0 W1 ah X4 M7 M5 V6 ar S9 R8 W8 W6 S6 V1 Q1 av V3 W5 T9 O9 T2 V9 an O2 ba S5 ap ai M9 T1 P5 U4 W9 Q3 R3 R9 U3 T8 W7 aj O4 N3 N6 N5 U7 Q2 W3 aa S0 Z7 P6 P2 Q6 R5 M6 Y5 Y9 V5 bc ak O5 Z4 X6 aq V4 Y1 Z9 S8 Q8 U6 R1 N8 V2 T4 U8 Y8 Y4 U5 Q7 al R6 X8 Q4 ae Z8 O0 W2 N1 O6 R7 ad Q5 P9 bg bf bd O1 Y3 P3 O3 V8 P7 Q9 w6 v8 r0 v0 A2 u1 A9 r3 u2 A0 B0 r7 A3 n9 x5 u8 y6 o4 r6 B4 q9 p9:Value}
  (HP:Hid (P=⟨M,na,x,nb,y⟩)) (HV:Hid (VE M)) (B6:Hid (ESz M)) (n0:Hid (M.most=(mn:Int))) (m7:Hid (n1=mn+1)) (l0:Hid (n2=na+1)) (k1:Hid (n3=nb+1))
  (HX:Hid (Si none w (.slice ax na cx) na x)) (HY:Hid (Si none w (.slice ay nb cy) nb y)) (B9:Hid (0<M.n->a=some ⟨be,oe,none⟩)) (B5:Hid (0<M.n->be<w.heap.size/\some be≠none))
  (l5:Hid (∀ i,i<M.n->w.cell? ⟨be,oe+i*3,none⟩=some (.slice (EA i) (M.e i).nf (EC i))/\w.cell? ⟨be,oe+i*3+1,none⟩=some (.slice (O7 i) (M.e i).nt (V7 i))/\w.cell? ⟨be,oe+i*3+2,none⟩=some (.string (M.e i).w)/\Si none w (.slice (EA i) (M.e i).nf (EC i)) (M.e i).nf (M.e i).f/\Si none w (.slice (O7 i) (M.e i).nt (V7 i)) (M.e i).nt (M.e i).t))
  (m3:na<=200) (l8:nb<=200) (B8:M.n<=400) (l9:mn<=6) (i5:k<n1) (m5:i<n2)
  (bj:Hid (0<na->ax=some ⟨bx,ox,none⟩)) (bk:Hid (0<na->bx<w.heap.size/\some bx≠none)) (bs:Hid (∀ i,i<na->w.cell? ⟨bx,ox+i,none⟩=some (.int .i64 (x i))))
  (bo:Hid (0<nb->ay=some ⟨p8,oy,none⟩)) (bz:Hid (0<nb->p8<w.heap.size/\some p8≠none)) (bv:Hid (∀ i,i<nb->w.cell? ⟨p8,oy+i,none⟩=some (.int .i64 (y i))))
  (ce:Hid (z1=tabP P k (X0,0))) (ca:Hid (z2=rowP P k i z1)) (h9:Hid (RI X)) (B1:Hid ((deI X,0)=z2)) (A:Hid (RcI w wr mb g n1 n2 n3 M (.slice a M.n cap) r s c X))
  (l:Hid (∀ (e:List PanicEntry) (a:Act) (d:Option Tmp) (v:Value) (w':World),Q0 (.panic e) (a.put d v) w'->Q0 (.panic e) a w'))
  (M3:Hid (∀ (v6 v7 k6 K3 j4 i8 j1 i9 j6 j5 x8 w8 z5 p6 x4 A1 v9 r4 o9 p0 w1 A7 t9 s4 B3 n5 z7 z6 o2 r1 u3 t8 y9 o7 B2 s6 s9 y3 A5 A8 s5 r5 y1 v3 t7 A6 o3 y7 w5 v5 r9 q8 n6 y4 o6 w4 z3 y8 p7 s8 v2 x1 v4 n7 w9 y5 z9 o5 z4 r8 x6 z8 r2 q7 x9 J g3 e5 c9 e7 a1 f5 h6 D c8 d8 b4 a2 f9 U f2 Y a5 a4 a8 g8 h4 e0 g5 b6 f1 a6 E c6 b2 e8 e4 Q a3 d4 b0 T f4 G g9 e6 g4 C f8 f7 g7 b8 b5 h5 b3 c7 e9 h0 b9 a9 O S d0 L a7 d5 g1 R N b7 d9 f0 g6 b1 I d7 H g2 Z d6:Value) (w':World) (X2:XT),RI X2->(deI X2,0)=colP P k i (P.b+1) z2->RcI w w' mb g n1 n2 n3 M (.slice a M.n cap) r s c X2->Q0 (.exit 10) ⟨List.toArray (u0::.slice ax na cx::.slice ay nb cy::.pointer (some ⟨mb,0,none⟩)::u4::u5::v6::v7::.string infS::.slice (some ⟨g,0,none⟩) n1 n1::F4::G8::J6::.int .i64 (k:Int)::.int .i64 (i:Int)::k6::K3::j4::i8::j1::i9::j6::j5::J8::J7::E5::K2::L1::L0::E2::L5::L4::H2::H5::I8::K1::J3::G2::I7::G9::H9::E7::G0::E3::G7::E9::H8::I6::G5::J2::L2::D6::L7::F9::E8::J0::L9::F2::G3::D5::H4::I1::E1::G6::E4::J5::F1::L3::H6::G4::K9::E6::M1::E0::I4::I2::I9::H3::F8::M2::D9::K0::I0::F7::M0::F6::D8::J9::H0::K7::D7::L8::F3::H7::L6::I3::K5::K6::F5::K4::x7::x3::x8::w8::z5::p6::x4::A1::v9::r4::o9::p0::w1::A7::t9::s4::B3::n5::z7::z6::o2::r1::u3::t8::y9::o7::B2::s6::s9::y3::A5::A8::s5::r5::y1::v3::t7::A6::o3::y7::w5::v5::r9::q8::n6::y4::o6::w4::z3::y8::p7::s8::v2::x1::v4::n7::w9::y5::z9::o5::z4::r8::x6::z8::r2::q7::x9::J::g3::e5::c9::e7::a1::f5::h6::D::c8::d8::b4::a2::f9::U::f2::Y::a5::a4::a8::g8::h4::e0::g5::b6::f1::a6::E::c6::b2::e8::e4::Q::a3::d4::b0::T::f4::G::g9::e6::g4::C::f8::f7::g7::b8::b5::h5::b3::c7::e9::h0::b9::a9::O::S::d0::L::a7::d5::g1::R::N::b7::d9::f0::g6::b1::I::d7::H::g2::Z::d6::w6::v8::r0::v0::A2::u1::A9::r3::u2::A0::B0::r7::A3::n9::x5::u8::y6::o4::r6::B4::q9::p9::[]),[]⟩ w'))
  (l4:Hid (∀ (k6 K3 j4 i8 j1 i9 j6 j5 x8 w8 z5 p6 x4 A1 v9 r4 o9 p0 w1 A7 t9 s4 B3 n5 z7 z6 o2 r1 u3 t8 y9 o7 B2 s6 s9 y3 A5 A8 s5 r5 y1 v3 t7 A6 o3 y7 w5 v5 r9 q8 n6 y4 o6 w4 z3 y8 p7 s8 v2 x1 v4 n7 w9 y5 z9 o5 z4 r8 x6 z8 r2 q7 x9 J g3 e5 c9 e7 a1 f5 h6 D c8 d8 b4 a2 f9 U f2 Y a5 a4 a8 g8 h4 e0 g5 b6 f1 a6 E c6 b2 e8 e4 Q a3 d4 b0 T f4 G g9 e6 g4 C f8 f7 g7 b8 b5 h5 b3 c7 e9 h0 b9 a9 O S d0 L a7 d5 g1 R N b7 d9 f0 g6 b1 I d7 H g2 Z d6:Value) (w':World),Below w.heap.size w w'->z6a P=(⟨#[]⟩,2)->Q0 .ret ⟨List.toArray (u0::.slice ax na cx::.slice ay nb cy::.pointer (some ⟨mb,0,none⟩)::u4::u5::.string ⟨#[]⟩::.int .i64 2::.string infS::.slice (some ⟨g,0,none⟩) n1 n1::F4::G8::J6::.int .i64 (k:Int)::.int .i64 (i:Int)::k6::K3::j4::i8::j1::i9::j6::j5::J8::J7::E5::K2::L1::L0::E2::L5::L4::H2::H5::I8::K1::J3::G2::I7::G9::H9::E7::G0::E3::G7::E9::H8::I6::G5::J2::L2::D6::L7::F9::E8::J0::L9::F2::G3::D5::H4::I1::E1::G6::E4::J5::F1::L3::H6::G4::K9::E6::M1::E0::I4::I2::I9::H3::F8::M2::D9::K0::I0::F7::M0::F6::D8::J9::H0::K7::D7::L8::F3::H7::L6::I3::K5::K6::F5::K4::x7::x3::x8::w8::z5::p6::x4::A1::v9::r4::o9::p0::w1::A7::t9::s4::B3::n5::z7::z6::o2::r1::u3::t8::y9::o7::B2::s6::s9::y3::A5::A8::s5::r5::y1::v3::t7::A6::o3::y7::w5::v5::r9::q8::n6::y4::o6::w4::z3::y8::p7::s8::v2::x1::v4::n7::w9::y5::z9::o5::z4::r8::x6::z8::r2::q7::x9::J::g3::e5::c9::e7::a1::f5::h6::D::c8::d8::b4::a2::f9::U::f2::Y::a5::a4::a8::g8::h4::e0::g5::b6::f1::a6::E::c6::b2::e8::e4::Q::a3::d4::b0::T::f4::G::g9::e6::g4::C::f8::f7::g7::b8::b5::h5::b3::c7::e9::h0::b9::a9::O::S::d0::L::a7::d5::g1::R::N::b7::d9::f0::g6::b1::I::d7::H::g2::Z::d6::w6::v8::r0::v0::A2::u1::A9::r3::u2::A0::B0::r7::A3::n9::x5::u8::y6::o4::r6::B4::q9::p9::[]),[]⟩ w')) :
  Code.wp prog (Code.loop u5k) Q0 ⟨List.toArray (u0::.slice ax na cx::.slice ay nb cy::.pointer (some ⟨mb,0,none⟩)::u4::u5::u6::u7::.string infS::.slice (some ⟨g,0,none⟩) n1 n1::F4::G8::J6::.int .i64 (k:Int)::.int .i64 (i:Int)::.int .i64 0::bi::br::bq::cf::ci::bn::cd::J8::J7::E5::K2::L1::L0::E2::L5::L4::H2::H5::I8::K1::J3::G2::I7::G9::H9::E7::G0::E3::G7::E9::H8::I6::G5::J2::L2::D6::L7::F9::E8::J0::L9::F2::G3::D5::H4::I1::E1::G6::E4::J5::F1::L3::H6::G4::K9::E6::M1::E0::I4::I2::I9::H3::F8::M2::D9::K0::I0::F7::M0::F6::D8::J9::H0::K7::D7::L8::F3::H7::L6::I3::K5::K6::F5::K4::x7::x3::S1::T6::X7::U2::P0::N7::O8::ag::N4::N0::Z5::T3::V0::ac::S3::Z6::Z2::am::U1::R0::au::T5::M4::S2::U0::Z1::Y2::Y0::X3::ab::P8::af::X9::T0::X5::U9::R4::Z0::W1::ah::X4::M7::M5::V6::ar::S9::R8::W8::W6::S6::V1::Q1::av::V3::W5::T9::O9::T2::V9::an::O2::ba::S5::ap::ai::M9::T1::P5::U4::W9::Q3::R3::R9::U3::T8::W7::aj::O4::N3::N6::N5::U7::Q2::W3::aa::S0::Z7::P6::P2::Q6::R5::M6::Y5::Y9::V5::bc::ak::O5::Z4::X6::aq::V4::Y1::Z9::S8::Q8::U6::R1::N8::V2::T4::U8::Y8::Y4::U5::Q7::al::R6::X8::Q4::ae::Z8::O0::W2::N1::O6::R7::ad::Q5::P9::bg::bf::bd::O1::Y3::P3::O3::V8::P7::Q9::w6::v8::r0::v0::A2::u1::A9::r3::u2::A0::B0::r7::A3::n9::x5::u8::y6::o4::r6::B4::q9::p9::[]),[]⟩ wr:=by
 have cz:n1<=7:=by have:=m7.out;omega
 have dc:n2<=201:=by have:=l0.out;omega
 have ct:n3<=201:=by have:=k1.out;omega
 have bw:(k:Int)<=(mn:Int):=by have:=m7.out;omega
 have co:(k:Int)<(n1:Int):=by omega
 have cq:(0:Int)<=(k:Int):=by omega
 have db:(i:Int)<=(na:Int):=by have:=l0.out;omega
 have cr:(i:Int)<(n2:Int):=by omega
 have cn:(0:Int)<=(i:Int):=by omega
 conv=>arg 2;arg 1;whnf
 go_loopw [15] (fun k6 wr=>∃ j:Nat,j<=n3/\k6=.int .i64 (j:Int)/\∃ X,RI X/\(deI X,0)=colP P k i j z2/\RcI w wr mb g n1 n2 n3 M (.slice a M.n cap) r s c X) (fun k6 _=>n3-(intOf k6).toNat)
 case atStart=>exact⟨0,Nat.zero_le _,rfl,X,h9.out,B1.out,A.out⟩
 obtain⟨j,hj,rfl,X,Y7,m9,bb⟩:=hrel;clear A h9 B1;have h9:=qh Y7;clear Y7;have B1:=qh m9;clear m9;have A:=qh bb;clear bb;by_cases u9:j<n3
 ·have da:(j:Int)<=(nb:Int):=by have:=k1.out;omega
  have cl:(j:Int)<(n3:Int):=by omega
  have cm:(0:Int)<=(j:Int):=by omega
  have d1:=A.out.cv.c1 i5;have d2:=A.out.cv.c2 i5 m5;have d3:=A.out.cv.c3 i5 m5 u9;obtain⟨rk,I5⟩:=exq (r k);obtain⟨sk,F0⟩:=exq (s k i);obtain⟨ck,K8⟩:=exq (c k i);obtain⟨W,hW⟩:=exq (X k i j);rw[<- I5] at d1 d2;rw[<- F0] at d2 d3;rw[<- K8] at d2;rw[<- hW] at d3;have HW:=qh hW;clear hW;have dg:=qh I5;clear I5;have dd:=qh F0;clear F0;have df:=qh K8;clear K8;have N2:colP P k i (j+1) z2=stpC P (k,i,j) (deI X,0):=by rw[B1.out];rfl
  have j9:=qh N2;clear N2;have D0:(stpC P (k,i,j) (deI X,0)).2≠0->z6a P=(⟨#[]⟩,2):=fun h=>by
   have hP:=HP.out;rw[<- j9.out,ca.out,ce.out] at h;exact u3d (by rw[hP];exact HV.out.m0) (by rw[hP];exact HV.out.ok) (by rw[hP];show (k:Int)<=M.most;rw[n0.out];exact bw) (by rw[hP];show i<=na;omega) (by rw[hP];show j<=nb;omega) h
  have l6:=qh D0;clear D0;have j8:=qh (show smS W by rw[HW.out];exact A.out.cv.sm _ _ _);cases hO:(W.toList==infS.toList)
  ·have S7:W≠infS:=fun e=>by rw[e] at hO;simp at hO
   have w0:=qh S7;clear S7
   go_wp2_with fail
   have l7:=qh h9.out;clear d1 d2 d3;by_cases k9:i<na
   ·have A4:(i:Int)<(na:Int):=by omega
    obtain rfl:=bj.out (by omega);have x0:=(A.out.be.cell (p:=⟨bx,ox+i,none⟩) (bk.out (by omega)).1).trans (bs.out i k9);by_cases k0:j<nb
    ·have D2:(j:Int)<(nb:Int):=by omega
     obtain rfl:=bo.out (by omega);have y0:=(A.out.be.cell (p:=⟨p8,oy+j,none⟩) (bz.out (by omega)).1).trans (bv.out j k0);cases J1:(x i==y j)
     ·skip
      have F:(deI X,0)=cpC P (k,i,j) (deI X,0):=(y8e (by rw[HP.out];exact fun h=>by have h2:x i=y j:=h.2.2;rw[h2] at J1;simp at J1)).symm;obtain⟨zc,i2⟩:=exq (cpC P (k,i,j) (deI X,0));rw[<- i2] at F;have k7:=qh i2;clear i2;have i4:=qh F;clear F
      go_wp2_with fail
      go_quiet (fail)
      go_wp2_with fail
      clear x0 y0 A4 D2 k9 k0;have h8:=i4.out;have B:=h9.out;have i3:=HW.out.symm;have u:=A.out.new (Fr.of_below (below_drewN (Below.refl _ wr) nq));clear i4 h9 A;obtain⟨X1,i7⟩:=exq (X);rw[<- i7] at h8 B i3 u;clear i7;have h7:=qh (show X1 k i j=W from i3);clear i3;have j2:=qh B;clear B;have k5:=qh h8;clear h8;have i6:=qh u;clear u
      go_wp2_with fail
      refine edloop (P:=P) (zc:=zc) (X:=X) (X1:=X1) HP HV B6 n0 m7 l0 k1 HX HY B9 B5 l5 m3 l8 B8 l9 i5 m5 u9 HW w0 j8 l7 k7 l6 h7 j2 k5 i6 (qh ?xr) (qh ?xd) (qh ?xh)
      case xr=>exact fun e a d v w h=>l.out e a d v w h
      case xd =>
       intro v6 v7 j4 i8 j1 i9 j6 j5 J g3 e5 c9 e7 a1 f5 h6 D c8 d8 b4 a2 f9 U f2 Y a5 a4 a8 g8 h4 e0 g5 b6 f1 a6 E c6 b2 e8 e4 Q a3 d4 b0 T f4 G g9 e6 g4 C f8 f7 g7 b8 b5 h5 b3 c7 e9 h0 b9 a9 O S d0 L a7 d5 g1 R N b7 d9 f0 g6 b1 I d7 H g2 Z d6 w2 X2 h1 h2 h3;have j3:=qh h1;clear h1;have j7:=qh (j9.out.trans h2);clear h2;have j0:=qh h3;clear h3
       go_wp2_with fail
       go_roundw
       case rel=>exact⟨j+1,by omega,by go_num,X2,j3.out,j7.out.symm,j0.out⟩
       simp[intOf];omega
      case xh =>
       intro j4 i8 j1 i9 j6 j5 J g3 e5 c9 e7 a1 f5 h6 D c8 d8 b4 a2 f9 U f2 Y a5 a4 a8 g8 h4 e0 g5 b6 f1 a6 E c6 b2 e8 e4 Q a3 d4 b0 T f4 G g9 e6 g4 C f8 f7 g7 b8 b5 h5 b3 c7 e9 h0 b9 a9 O S d0 L a7 d5 g1 R N b7 d9 f0 g6 b1 I d7 H g2 Z d6 w2 k4 k3;exact l4.out _ _ _ _ _ _ _ _ _ _ _ _ _ _ _ _ _ _ _ _ _ _ _ _ _ _ _ _ _ _ _ _ _ _ _ _ _ _ _ _ _ _ _ _ _ _ _ _ _ _ _ _ _ _ _ _ _ _ _ _ _ _ _ _ _ _ _ _ _ _ _ _ _ _ _ _ _ _ _ _ _ _ _ _ _ _ _ _ _ _ _ _ _ _ _ _ _ _ _ _ _ _ _ _ _ _ _ _ _ _ _ _ _ _ _ _ _ _ _ _ _ _ _ _ _ _ _ _ _ _ _ _ _ _ _ _ _ _ _ _ _ _ _ _ _ _ _ _ _ k4 k3
     have B7:i+1<n2:=by have:=l0.out;omega
     have N9:j+1<n3:=by have:=k1.out;omega
     have C9:=v2j (P:=P) (p:=(k,i,j)) (s:=(deI X,0)) (by rw[HP.out];exact⟨k9,k0,eq_of_beq J1⟩);have P4:=h9.out.copy (e:=0) (p:=(k,i,j)) (q:=(k,i+1,j+1)) (by show X k i j≠infS;rw[<- HW.out];exact w0.out);rw[show X (k,i,j).1 (k,i,j).2.1 (k,i,j).2.2=W from HW.out.symm] at P4;obtain⟨C7,C8⟩:=P4;have e1:=A.out.cv.c1 i5;have e2:=A.out.cv.c2 i5 B7;have e3:=A.out.cv.c3 i5 B7 N9;obtain⟨m8,C3⟩:∃ z,z=r k:=⟨_,rfl⟩;obtain⟨k2,m4⟩:∃ z,z=s k (i+1):=⟨_,rfl⟩;obtain⟨G1,D1⟩:∃ z,z=c k (i+1):=⟨_,rfl⟩;obtain⟨xo,o8⟩:∃ z,z=X k (i+1) (j+1):=⟨_,rfl⟩;rw[<- C3] at e1 e2;rw[<- m4] at e2 e3;rw[<- D1] at e2;rw[<- o8] at e3;have s7:smS xo:=by rw[o8];exact A.out.cv.sm _ _ _
     have C1:∀ W',Fr (fun _=>False) wr W'->RcI w (W'.setCell ⟨k2,j+1,none⟩ (.string (bttC xo W))) mb g n1 n2 n3 M (.slice a M.n cap) r s c (updX X k (i+1) (j+1) (bttC xo W))/\(W'.cell? ⟨g,k,none⟩=some (.slice (some ⟨m8,0,none⟩) n2 n2)/\W'.cell? ⟨m8,i+1,none⟩=some (.slice (some ⟨k2,0,none⟩) n3 G1)/\W'.cell? ⟨k2,j+1,none⟩=some (.string xo))/\W'.frozen? ⟨k2,j+1,none⟩=false:=fun W' hf=>by
      have h1:=A.out.new hf;have h2:=h1.set (v:=bttC xo W) i5 B7 N9 (v0q s7 j8.out);rw[<- m4] at h2;have h3:=h1.cv.f3 i5 B7 (j+1);rw[<- m4] at h3;exact⟨h2,⟨hf.cell e1 (fun e=>e),hf.cell e2 (fun e=>e),hf.cell e3 (fun e=>e)⟩,h3⟩
     have C2:=qh C1;clear C1;obtain⟨zc,i2⟩:=exq (cpC P (k,i,j) (deI X,0));have C6:(deI (updX X k (i+1) (j+1) (bttC xo W)),0)=zc:=by rw[i2,C9,o8];exact C7.symm
     have C0:RI (updX X k (i+1) (j+1) (bttC xo W)):=by rw[o8];exact C8
     have D4:updX X k (i+1) (j+1) (bttC xo W) k i j=W:=by unfold updX;rw[if_neg (fun h=>by omega)];exact HW.out.symm
     have k7:=qh i2;clear i2 C9 C7 C8;have C4:=qh C6;clear C6;have C5:=qh C0;clear C0;have h7:=qh D4;clear D4;have P1:=qh s7;clear s7 C3 m4 D1 o8;have cj:IntKind.i64.wrap ((i:Int)+1)=(i:Int)+1:=by rw[IntKind.wrap_i64];omega
     have bh:IntKind.i64.wrap ((j:Int)+1)=(j:Int)+1:=by rw[IntKind.wrap_i64];omega
     have M8:(0:Int)<=(i:Int)+1:=by omega
     have az:(0:Int)<=(j:Int)+1:=by omega
     have T7:(i:Int)+1<(n2:Int):=by omega
     have Z3:(j:Int)+1<(n3:Int):=by omega
     have cg:((i:Int)+1).toNat=i+1:=by omega
     have bu:((j:Int)+1).toNat=j+1:=by omega
     go_wp2_with fail
     go_quiet (fail)
     go_wp2_with fail
     clear x0 y0 A4 D2 k9 k0;obtain⟨w7,J4⟩:=exq (wr.drewN nq);have w3:Fr (fun _=>False) wr w7:=by rw[J4];exact Fr.of_below (below_drewN (Below.refl _ wr) nq)
     rw[<- J4];have o:w7.drew.cell? ⟨g,k,none⟩=some (.slice (some ⟨m8,0,none⟩) n2 n2)/\w7.drew.cell? ⟨m8,i+1,none⟩=some (.slice (some ⟨k2,0,none⟩) n3 G1)/\w7.drew.cell? ⟨k2,j+1,none⟩=some (.string xo):=⟨w3.drew.cell e1 (fun e=>e),w3.drew.cell e2 (fun e=>e),w3.drew.cell e3 (fun e=>e)⟩;clear e1 e2 e3 J4;refine z0g (fun wk=>wk.cell? ⟨g,k,none⟩=some (.slice (some ⟨m8,0,none⟩) n2 n2)/\wk.cell? ⟨m8,i+1,none⟩=some (.slice (some ⟨k2,0,none⟩) n3 G1)/\wk.cell? ⟨k2,j+1,none⟩=some (.string xo)) 25 (by kernel_rfl) ?_;refine z0b.tk (i:=0) (v:=?Xf) rfl (by kernel_rfl) o (Or.inl ⟨by kernel_rfl,?yw⟩) ?zk (hQ:=fun _ _ _ h=>l.out _ _ _ _ _ h)
     case yw=>rintro wk ⟨s1,s2,s3⟩;go_simp;try with_reducible rfl
     refine z0b.tk (i:=1) (v:=?Xh) rfl (by kernel_rfl) o (Or.inl ⟨by kernel_rfl,?yn⟩) ?zd (hQ:=fun _ _ _ h=>l.out _ _ _ _ _ h)
     case yn=>rintro wk ⟨s1,s2,s3⟩;go_simp;try with_reducible rfl
     refine z0b.tk (i:=2) (v:=?Xk) rfl (by kernel_rfl) o (Or.inl ⟨by kernel_rfl,?yi⟩) ?zn (hQ:=fun _ _ _ h=>l.out _ _ _ _ _ h)
     case yi=>rintro wk ⟨s1,s2,s3⟩;go_simp;try with_reducible rfl
     refine z0b.tk (i:=3) (v:=?Xe) rfl (by kernel_rfl) o (Or.inl ⟨by kernel_rfl,?yl⟩) ?zf (hQ:=fun _ _ _ h=>l.out _ _ _ _ _ h)
     case yl=>rintro wk ⟨s1,s2,s3⟩;go_simp;try with_reducible rfl
     refine z0b.tk (i:=4) (v:=?Xm) rfl (by kernel_rfl) o (Or.inl ⟨by kernel_rfl,?yz⟩) ?zo (hQ:=fun _ _ _ h=>l.out _ _ _ _ _ h)
     case yz=>rintro wk ⟨s1,s2,s3⟩;go_simp;try with_reducible rfl
     refine z0b.tk (i:=5) (v:=?Xl) rfl (by kernel_rfl) o (Or.inl ⟨by kernel_rfl,?ym⟩) ?zl (hQ:=fun _ _ _ h=>l.out _ _ _ _ _ h)
     case ym=>rintro wk ⟨s1,s2,s3⟩;go_simp;try with_reducible rfl
     refine z0b.tk (i:=6) (v:=?Xd) rfl (by kernel_rfl) o (Or.inl ⟨by kernel_rfl,?yf⟩) ?zj (hQ:=fun _ _ _ h=>l.out _ _ _ _ _ h)
     case yf=>rintro wk ⟨s1,s2,s3⟩;go_simp;try with_reducible rfl
     refine z0b.tk (i:=7) (v:=?Xg) rfl (by kernel_rfl) o (Or.inl ⟨by kernel_rfl,?yv⟩) ?zi (hQ:=fun _ _ _ h=>l.out _ _ _ _ _ h)
     case yv=>rintro wk ⟨s1,s2,s3⟩;go_simp;try with_reducible rfl
     refine z0b.tk (i:=8) (v:=?Xi) rfl (by kernel_rfl) o (Or.inl ⟨by kernel_rfl,?yk⟩) ?ze (hQ:=fun _ _ _ h=>l.out _ _ _ _ _ h)
     case yk=>rintro wk ⟨s1,s2,s3⟩;go_simp;try with_reducible rfl
     refine z0b.tk (i:=9) (v:=?Xj) rfl (by kernel_rfl) o (Or.inl ⟨by kernel_rfl,?yo⟩) ?zh (hQ:=fun _ _ _ h=>l.out _ _ _ _ _ h)
     case yo=>rintro wk ⟨s1,s2,s3⟩;go_simp;try with_reducible rfl
     refine z0b.tk (i:=10) (v:=?zu) rfl (by kernel_rfl) o (Or.inl ⟨by kernel_rfl,?xx⟩) ?yh (hQ:=fun _ _ _ h=>l.out _ _ _ _ _ h)
     case xx=>rintro wk ⟨s1,s2,s3⟩;go_simp;try with_reducible rfl
     refine z0b.tk (i:=11) (v:=?zs) rfl (by kernel_rfl) o (Or.inl ⟨by kernel_rfl,?xw⟩) ?yq (hQ:=fun _ _ _ h=>l.out _ _ _ _ _ h)
     case xw=>rintro wk ⟨s1,s2,s3⟩;go_simp;try with_reducible rfl
     refine z0b.tk (i:=12) (v:=?zq) rfl (by kernel_rfl) o (Or.inl ⟨by kernel_rfl,?xk⟩) ?zb (hQ:=fun _ _ _ h=>l.out _ _ _ _ _ h)
     case xk=>rintro wk ⟨s1,s2,s3⟩;go_simp;try with_reducible rfl
     refine z0b.tk (i:=13) (v:=?zp) rfl (by kernel_rfl) o (Or.inl ⟨by kernel_rfl,?xp⟩) ?yy (hQ:=fun _ _ _ h=>l.out _ _ _ _ _ h)
     case xp=>rintro wk ⟨s1,s2,s3⟩;go_simp;try with_reducible rfl
     refine z0b.tk (i:=14) (v:=?zz) rfl (by kernel_rfl) o (Or.inl ⟨by kernel_rfl,?xv⟩) ?yp (hQ:=fun _ _ _ h=>l.out _ _ _ _ _ h)
     case xv=>rintro wk ⟨s1,s2,s3⟩;go_simp;try with_reducible rfl
     refine z0b.tk (i:=15) (v:=?zw) rfl (by kernel_rfl) o (Or.inl ⟨by kernel_rfl,?xu⟩) ?ys (hQ:=fun _ _ _ h=>l.out _ _ _ _ _ h)
     case xu=>rintro wk ⟨s1,s2,s3⟩;go_simp;try with_reducible rfl
     refine z0b.tk (i:=16) (v:=?zv) rfl (by kernel_rfl) o (Or.inl ⟨by kernel_rfl,?xz⟩) ?yx (hQ:=fun _ _ _ h=>l.out _ _ _ _ _ h)
     case xz=>rintro wk ⟨s1,s2,s3⟩;go_simp;try with_reducible rfl
     refine z0b.tk (i:=17) (v:=?zx) rfl (by kernel_rfl) o (Or.inl ⟨by kernel_rfl,?xs⟩) ?yt (hQ:=fun _ _ _ h=>l.out _ _ _ _ _ h)
     case xs=>rintro wk ⟨s1,s2,s3⟩;go_simp;try with_reducible rfl
     refine z0b.tk (i:=18) (v:=?zt) rfl (by kernel_rfl) o (Or.inl ⟨by kernel_rfl,?yc⟩) ?yu (hQ:=fun _ _ _ h=>l.out _ _ _ _ _ h)
     case yc=>rintro wk ⟨s1,s2,s3⟩;go_simp;try with_reducible rfl
     refine z0b.tk (i:=19) (v:=?Xb) rfl (by kernel_rfl) o (Or.inl ⟨by kernel_rfl,?xj⟩) ?za (hQ:=fun _ _ _ h=>l.out _ _ _ _ _ h)
     case xj=>rintro wk ⟨s1,s2,s3⟩;go_simp;try with_reducible rfl
     refine z0b.tk (i:=20) (v:=?Xc) rfl (by kernel_rfl) o (Or.inl ⟨by kernel_rfl,?xf⟩) ?yd (hQ:=fun _ _ _ h=>l.out _ _ _ _ _ h)
     case xf=>rintro wk ⟨s1,s2,s3⟩;go_simp;try with_reducible rfl
     refine z0b.tk (i:=21) (v:=?Xa) rfl (by kernel_rfl) o (Or.inl ⟨by kernel_rfl,?xg⟩) ?yj (hQ:=fun _ _ _ h=>l.out _ _ _ _ _ h)
     case xg=>rintro wk ⟨s1,s2,s3⟩;go_simp;try with_reducible rfl
     refine z0b.tk (i:=22) (v:=?zr) rfl (by kernel_rfl) o (Or.inl ⟨by kernel_rfl,?xn⟩) ?yr (hQ:=fun _ _ _ h=>l.out _ _ _ _ _ h)
     case xn=>rintro wk ⟨s1,s2,s3⟩;go_simp;try with_reducible rfl
     try simp only[Act.put,tryL]
     clear o;refine z0b.on 23 fun K hK=>?_;go_simp;refine(y0s xo W w7.drew P1.out j8.out).mono ?_;rintro rr cb ⟨rfl,D3⟩;obtain⟨h1,h2,h3⟩:=C2.out cb (w3.drew.trans (Fr.of_below D3));have H1:=qh h1;clear h1 D3 C2;refine hK.out _ _ (.inr h2) ?_;clear hK K
     try simp only[Act.put,tryL]
     refine z0b.tk (i:=24) (v:=?zy) rfl (by kernel_rfl) h2 (Or.inl ⟨by kernel_rfl,?xi⟩) ?yg (hQ:=fun _ _ _ h=>l.out _ _ _ _ _ h)
     case xi=>rintro wk ⟨s1,s2,s3⟩;go_simp;try with_reducible rfl
     try simp only[Act.put,tryL]
     have g0:=h2.2.2;refine z0b.on 25 fun K hK=>?_;go_simp;refine hK.out _ _ (.inl rfl) (z0b.done (by kernel_rfl) ?_ _);clear hK K g0 h2 h3 w3;clear cj bh M8 az T7 Z3 cg bu
     go_wp2_with fail
     have h8:=C4.out;have B:=C5.out;have i3:=h7.out;have u:=H1.out;clear C4 C5 h7 H1 h9 A;obtain⟨X1,i7⟩:=exq (updX X k (i+1) (j+1) (bttC xo W));rw[<- i7] at h8 B i3 u;clear i7;have h7:=qh (show X1 k i j=W from i3);clear i3;have j2:=qh B;clear B;have k5:=qh h8;clear h8;have i6:=qh u;clear u
     go_wp2_with fail
     refine edloop (P:=P) (zc:=zc) (X:=X) (X1:=X1) HP HV B6 n0 m7 l0 k1 HX HY B9 B5 l5 m3 l8 B8 l9 i5 m5 u9 HW w0 j8 l7 k7 l6 h7 j2 k5 i6 (qh ?xq) (qh ?xa) (qh ?yb)
     case xq=>exact fun e a d v w h=>l.out e a d v w h
     case xa =>
      intro v6 v7 j4 i8 j1 i9 j6 j5 J g3 e5 c9 e7 a1 f5 h6 D c8 d8 b4 a2 f9 U f2 Y a5 a4 a8 g8 h4 e0 g5 b6 f1 a6 E c6 b2 e8 e4 Q a3 d4 b0 T f4 G g9 e6 g4 C f8 f7 g7 b8 b5 h5 b3 c7 e9 h0 b9 a9 O S d0 L a7 d5 g1 R N b7 d9 f0 g6 b1 I d7 H g2 Z d6 w2 X2 h1 h2 h3;have j3:=qh h1;clear h1;have j7:=qh (j9.out.trans h2);clear h2;have j0:=qh h3;clear h3
      go_wp2_with fail
      go_roundw
      case rel=>exact⟨j+1,by omega,by go_num,X2,j3.out,j7.out.symm,j0.out⟩
      simp[intOf];omega
     case yb =>
      intro j4 i8 j1 i9 j6 j5 J g3 e5 c9 e7 a1 f5 h6 D c8 d8 b4 a2 f9 U f2 Y a5 a4 a8 g8 h4 e0 g5 b6 f1 a6 E c6 b2 e8 e4 Q a3 d4 b0 T f4 G g9 e6 g4 C f8 f7 g7 b8 b5 h5 b3 c7 e9 h0 b9 a9 O S d0 L a7 d5 g1 R N b7 d9 f0 g6 b1 I d7 H g2 Z d6 w2 k4 k3;exact l4.out _ _ _ _ _ _ _ _ _ _ _ _ _ _ _ _ _ _ _ _ _ _ _ _ _ _ _ _ _ _ _ _ _ _ _ _ _ _ _ _ _ _ _ _ _ _ _ _ _ _ _ _ _ _ _ _ _ _ _ _ _ _ _ _ _ _ _ _ _ _ _ _ _ _ _ _ _ _ _ _ _ _ _ _ _ _ _ _ _ _ _ _ _ _ _ _ _ _ _ _ _ _ _ _ _ _ _ _ _ _ _ _ _ _ _ _ _ _ _ _ _ _ _ _ _ _ _ _ _ _ _ _ _ _ _ _ _ _ _ _ _ _ _ _ _ _ _ _ _ k4 k3
    have Y6:decide ((j:Int)<(nb:Int))=false:=by simp;omega
    have F:(deI X,0)=cpC P (k,i,j) (deI X,0):=(y8e (by rw[HP.out];exact fun h=>k0 h.2.1)).symm;obtain⟨zc,i2⟩:=exq (cpC P (k,i,j) (deI X,0));rw[<- i2] at F;have k7:=qh i2;clear i2;have i4:=qh F;clear F
    go_wp2_with fail
    go_quiet (fail)
    go_wp2_with fail
    clear x0 A4 k9 k0 Y6;have h8:=i4.out;have B:=h9.out;have i3:=HW.out.symm;have u:=A.out.new (Fr.of_below (below_drewN (Below.refl _ wr) nq));clear i4 h9 A;obtain⟨X1,i7⟩:=exq (X);rw[<- i7] at h8 B i3 u;clear i7;have h7:=qh (show X1 k i j=W from i3);clear i3;have j2:=qh B;clear B;have k5:=qh h8;clear h8;have i6:=qh u;clear u
    go_wp2_with fail
    refine edloop (P:=P) (zc:=zc) (X:=X) (X1:=X1) HP HV B6 n0 m7 l0 k1 HX HY B9 B5 l5 m3 l8 B8 l9 i5 m5 u9 HW w0 j8 l7 k7 l6 h7 j2 k5 i6 (qh ?xm) (qh ?xc) (qh ?xl)
    case xm=>exact fun e a d v w h=>l.out e a d v w h
    case xc =>
     intro v6 v7 j4 i8 j1 i9 j6 j5 J g3 e5 c9 e7 a1 f5 h6 D c8 d8 b4 a2 f9 U f2 Y a5 a4 a8 g8 h4 e0 g5 b6 f1 a6 E c6 b2 e8 e4 Q a3 d4 b0 T f4 G g9 e6 g4 C f8 f7 g7 b8 b5 h5 b3 c7 e9 h0 b9 a9 O S d0 L a7 d5 g1 R N b7 d9 f0 g6 b1 I d7 H g2 Z d6 w2 X2 h1 h2 h3;have j3:=qh h1;clear h1;have j7:=qh (j9.out.trans h2);clear h2;have j0:=qh h3;clear h3
     go_wp2_with fail
     go_roundw
     case rel=>exact⟨j+1,by omega,by go_num,X2,j3.out,j7.out.symm,j0.out⟩
     simp[intOf];omega
    case xl =>
     intro j4 i8 j1 i9 j6 j5 J g3 e5 c9 e7 a1 f5 h6 D c8 d8 b4 a2 f9 U f2 Y a5 a4 a8 g8 h4 e0 g5 b6 f1 a6 E c6 b2 e8 e4 Q a3 d4 b0 T f4 G g9 e6 g4 C f8 f7 g7 b8 b5 h5 b3 c7 e9 h0 b9 a9 O S d0 L a7 d5 g1 R N b7 d9 f0 g6 b1 I d7 H g2 Z d6 w2 k4 k3;exact l4.out _ _ _ _ _ _ _ _ _ _ _ _ _ _ _ _ _ _ _ _ _ _ _ _ _ _ _ _ _ _ _ _ _ _ _ _ _ _ _ _ _ _ _ _ _ _ _ _ _ _ _ _ _ _ _ _ _ _ _ _ _ _ _ _ _ _ _ _ _ _ _ _ _ _ _ _ _ _ _ _ _ _ _ _ _ _ _ _ _ _ _ _ _ _ _ _ _ _ _ _ _ _ _ _ _ _ _ _ _ _ _ _ _ _ _ _ _ _ _ _ _ _ _ _ _ _ _ _ _ _ _ _ _ _ _ _ _ _ _ _ _ _ _ _ _ _ _ _ _ k4 k3
   have W0:decide ((i:Int)<(na:Int))=false:=by simp;omega
   have F:(deI X,0)=cpC P (k,i,j) (deI X,0):=(y8e (by rw[HP.out];exact fun h=>k9 h.1)).symm;obtain⟨zc,i2⟩:=exq (cpC P (k,i,j) (deI X,0));rw[<- i2] at F;have k7:=qh i2;clear i2;have i4:=qh F;clear F
   go_wp2_with fail
   go_quiet (fail)
   go_wp2_with fail
   clear k9 W0;have h8:=i4.out;have B:=h9.out;have i3:=HW.out.symm;have u:=A.out.new (Fr.of_below (below_drewN (Below.refl _ wr) nq));clear i4 h9 A;obtain⟨X1,i7⟩:=exq (X);rw[<- i7] at h8 B i3 u;clear i7;have h7:=qh (show X1 k i j=W from i3);clear i3;have j2:=qh B;clear B;have k5:=qh h8;clear h8;have i6:=qh u;clear u
   go_wp2_with fail
   refine edloop (P:=P) (zc:=zc) (X:=X) (X1:=X1) HP HV B6 n0 m7 l0 k1 HX HY B9 B5 l5 m3 l8 B8 l9 i5 m5 u9 HW w0 j8 l7 k7 l6 h7 j2 k5 i6 (qh ?ya) (qh ?xb) (qh ?xt)
   case ya=>exact fun e a d v w h=>l.out e a d v w h
   case xb =>
    intro v6 v7 j4 i8 j1 i9 j6 j5 J g3 e5 c9 e7 a1 f5 h6 D c8 d8 b4 a2 f9 U f2 Y a5 a4 a8 g8 h4 e0 g5 b6 f1 a6 E c6 b2 e8 e4 Q a3 d4 b0 T f4 G g9 e6 g4 C f8 f7 g7 b8 b5 h5 b3 c7 e9 h0 b9 a9 O S d0 L a7 d5 g1 R N b7 d9 f0 g6 b1 I d7 H g2 Z d6 w2 X2 h1 h2 h3;have j3:=qh h1;clear h1;have j7:=qh (j9.out.trans h2);clear h2;have j0:=qh h3;clear h3
    go_wp2_with fail
    go_roundw
    case rel=>exact⟨j+1,by omega,by go_num,X2,j3.out,j7.out.symm,j0.out⟩
    simp[intOf];omega
   case xt =>
    intro j4 i8 j1 i9 j6 j5 J g3 e5 c9 e7 a1 f5 h6 D c8 d8 b4 a2 f9 U f2 Y a5 a4 a8 g8 h4 e0 g5 b6 f1 a6 E c6 b2 e8 e4 Q a3 d4 b0 T f4 G g9 e6 g4 C f8 f7 g7 b8 b5 h5 b3 c7 e9 h0 b9 a9 O S d0 L a7 d5 g1 R N b7 d9 f0 g6 b1 I d7 H g2 Z d6 w2 k4 k3;exact l4.out _ _ _ _ _ _ _ _ _ _ _ _ _ _ _ _ _ _ _ _ _ _ _ _ _ _ _ _ _ _ _ _ _ _ _ _ _ _ _ _ _ _ _ _ _ _ _ _ _ _ _ _ _ _ _ _ _ _ _ _ _ _ _ _ _ _ _ _ _ _ _ _ _ _ _ _ _ _ _ _ _ _ _ _ _ _ _ _ _ _ _ _ _ _ _ _ _ _ _ _ _ _ _ _ _ _ _ _ _ _ _ _ _ _ _ _ _ _ _ _ _ _ _ _ _ _ _ _ _ _ _ _ _ _ _ _ _ _ _ _ _ _ _ _ _ _ _ _ _ k4 k3
  have hw:X k i j=infS:=by rw[<- HW.out];exact toList_eq hO
  have R2:stpC P (k,i,j) (deI X,0)=(deI X,0):=x4n ((y9y h9.out).2 hw);have bl:=qh (j9.out.trans R2);clear hw R2
  go_wp2_with fail
  clear d1 d2 d3;go_roundw
  case rel=>exact⟨j+1,by omega,by go_num,X,h9.out,bl.out.symm,A.out⟩
  simp[intOf];omega
 have k0:j=n3:=by omega
 have cs:¬ ((j:Int)<=(nb:Int)):=by have:=k1.out;omega
 have m9:=B1.out;have ao:n3=P.b+1:=by rw[HP.out];exact k1.out
 rw[k0,ao] at m9;have cc:=qh m9;clear m9 ao k0
 go_wp2_with fail
 exact M3.out _ _ _ _ _ _ _ _ _ _ _ _ _ _ _ _ _ _ _ _ _ _ _ _ _ _ _ _ _ _ _ _ _ _ _ _ _ _ _ _ _ _ _ _ _ _ _ _ _ _ _ _ _ _ _ _ _ _ _ _ _ _ _ _ _ _ _ _ _ _ _ _ _ _ _ _ _ _ _ _ _ _ _ _ _ _ _ _ _ _ _ _ _ _ _ _ _ _ _ _ _ _ _ _ _ _ _ _ _ _ _ _ _ _ _ _ _ _ _ _ _ _ _ _ _ _ _ _ _ _ _ _ _ _ _ _ _ _ _ _ _ _ _ _ _ _ _ _ _ _ _ _ h9.out cc.out A.out
end
section
open Go.RowKit Go.Deep
theorem x8k {M:EM} {mv xv yv:Value} {na nb:Nat} {x y:Nat->Int} (w:World) (hM:Em none w mv M) (hs:ESz M) (hx:Si none w xv na x) (hy:Si none w yv nb y) :
  Calls prog 18 #[mv,xv,yv] w (CosE M na x nb y w):=by
 obtain⟨sv,rfl,hS⟩:=hM;obtain⟨a,z,be,oe,EA,O8,EC,O7,M4,l0,M5,x1,I,g1⟩:=hS.open;have L9:=z3t hx;have J1:=z3t hy;obtain⟨ax,cx,bx,ox,M2,E0,J6,K2,A5,x7⟩:=hx.open;obtain⟨ay,cy,P0,oy,K4,A7,N2,F7,C5,k3⟩:=hy.open;subst M4 M2 K4;clear J6 K2 N2 F7 M5 x1;obtain⟨w1,d7⟩:=exq (w.alloc (.cells #[.slice a M.n z,.int .i64 M.most] 24));obtain⟨H,d9⟩:=exq (w.heap.size);have Z:Fr (fun _=>False) w w1:=by rw[d7];exact Fr.alloc _ _
 have E:BoxE w1 H M (.slice a M.n z):=by rw[d7,d9];exact BoxE.new w M _
 have Q:Below w.heap.size w w1:=Z.below (Nat.le_refl _) (fun _ e=>e.elim);have r6:=qh (y6v w1 (⟨_,rfl,hS.kept (z0c Q none)⟩:Em none w1 (.agg #[.slice a M.n z,.int .i64 M.most]) M) hs);have m0:=E.c0;have m1:=E.c1;have h7:=qh Q;clear Q Z;have u:=qh E;clear E;have L6:=qh hs;clear hs;have HX:=qh hx;clear hx;have HY:=qh hy;clear hy;have K3:=qh A5;clear A5;have J2:=qh C5;clear C5;have N5:=qh x7;clear x7;have N7:=qh k3;clear k3;have J8:=qh E0;clear E0;have M1:=qh A7;clear A7;have O0:=qh l0;clear l0;have J4:=qh I;clear I;have m8:=qh g1;clear g1;clear hS
 go_enter func18,ntmps18
 go_wp2_with fail
 rw[<- d7,<- d9];clear d7;have P6:=qh d9;clear d9;refine r6.out.mono ?_;rintro rr w2 ⟨b8,J7⟩;have N:=qh (h7.out.trans (b8.mono h7.out.size));have c6:=qh (show BoxE w2 H M (.slice a M.n z) from (b8.block H u.out.lt).trans u.out);clear b8 r6 m0 m1 u h7
 rcases J7 with ⟨hv,rfl⟩|⟨hv,rfl⟩
 rotate_left
 ·have HV:=qh hv;clear hv
  go_wp2_with fail
  go_ret2;exact⟨N.out,.inr ⟨fun h=>HV.out h.1,rfl⟩⟩
 have HV:=qh hv;clear hv;have y1:=qh (z6i w2 (HX.out.kept (z0c N.out none)) L9)
 go_wp2_with fail
 refine y1.out.mono ?_;rintro rr w3 ⟨rfl,rfl⟩;cases a9:isWord na x
 ·have HN:=qh a9;clear a9
  go_wp2_with fail
  go_ret2;exact⟨N.out,.inr ⟨fun h=>by rw[HN.out] at h;exact absurd h.2.1 (by simp),rfl⟩⟩
 have z3:na<=200:=by unfold isWord at a9;simp at a9;exact a9.1
 have f8:=qh a9;clear a9 y1;have F9:=qh (z6i w3 (HY.out.kept (z0c N.out none)) J1)
 go_wp2_with fail
 refine F9.out.mono ?_;rintro rr w4 ⟨rfl,rfl⟩;cases b0:isWord nb y
 ·have HN:=qh b0;clear b0
  go_wp2_with fail
  go_ret2;exact⟨N.out,.inr ⟨fun h=>by rw[HN.out] at h;exact absurd h.2.2 (by simp),rfl⟩⟩
 have v9:nb<=200:=by unfold isWord at b0;simp at b0;exact b0.1
 have f5:=qh b0;clear b0 F9;obtain⟨mn,i3⟩:∃ mn:Nat,M.most=(mn:Int):=⟨M.most.toNat,by have:=HV.out.m0;omega⟩;have I5:mn<=6:=by have:=HV.out.m6;omega
 have K5:M.n<=400:=HV.out.n4;obtain⟨n1,l9⟩:=exq (mn+1);obtain⟨n2,t8⟩:=exq (na+1);obtain⟨R,B1⟩:=exq (nb+1);have P5:n1<=7:=by omega
 have P3:n2<=201:=by omega
 have O9:R<=201:=by omega
 have f2:=run_make_row' (P:=prog) 63 66 (.slice none 0 0) 24 underlying63 y3c rfl .i64 .i64 n1 (by omega) (by omega);have g6:=run_make_row' (P:=prog) 66 67 (.slice none 0 0) 24 underlying66 y1d rfl .i64 .i64 n2 (by omega) (by omega);have a6:((n1:Nat):Int)=(mn:Int)+1:=by omega
 have a7:((n2:Nat):Int)=(na:Int)+1:=by omega
 rw[a6] at f2;rw[a7] at g6;clear a6 a7;have O:=qh l9;clear l9;have a4:=qh t8;clear t8;have b7:=qh B1;clear B1;have a8:=fun W=>z5e 1 W;rw[show z2b 1=infS from rfl] at a8;have d0:=qh a8;clear a8
 go_wp2_with fail
 refine(d0.out _).mono ?_;rintro rr w5 ⟨rfl,i9⟩;have e3:=qh (N.out.trans (i9.mono N.out.size));have b1:BoxE w5 H M (.slice a M.n z):=(i9.block H c6.out.lt).trans c6.out;clear i9 N c6 d0;have b9:=qh i3;have m1:=b1.c1;rw[i3] at m1;clear i3;obtain⟨w6,e0⟩:=exq (w5.alloc (.cells (madeCells #[.slice none 0 0] n1) 66));obtain⟨g,hg⟩:=exq (w5.heap.size);have h6:Fr (fun _=>False) w5 w6:=by rw[e0];exact Fr.alloc _ _
 have A:Tq w6 w.heap.size g n1 n2 0 (fun _=>0) (fun _ _=>.slice none 0 0) (fun _ _=>0):=by rw[e0,hg];exact Tq.made w5 e3.out.size n1 n2
 have l:=qh A;clear A;have g7:=qh (show BoxE w6 H M (.slice a M.n z) from (h6.block H b1.lt (fun e=>e)).trans b1);have o6:=qh (e3.out.trans (h6.below e3.out.size (fun _ e=>e.elim)));clear h6 b1 e3
 go_wp2_with fail
 rw[<- e0,<- hg];clear e0 hg m1 f2;have g3:infS.size<=9223372036854775807:=v1e;have O5:=qh g3;clear g3;obtain⟨i0,D7,r8,x9,C7⟩:=z4u y4g;have N0:=qh D7;clear D7;have K6:=qh r8;clear r8;have N9:=qh x9;clear x9;have M6:=qh C7;clear C7
 go_loopw [10] (fun j6 wr=>∃ k:Nat,k<=n1/\j6=.int .i64 (k:Int)/\(∃ r S L,Tq wr w.heap.size g n1 n2 k r S L/\∀ q i',q<k->i' < n2->L q i'=R)/\BoxE wr H M (.slice a M.n z)/\Below w.heap.size w wr) (fun j6 _=>n1-(intOf j6).toNat)
 case atStart=>exact⟨0,Nat.zero_le _,rfl,⟨_,_,_,l.out,fun q i' hq=>absurd hq (Nat.not_lt_zero _)⟩,g7.out,o6.out⟩
 obtain⟨k,hk,rfl,⟨r,S,L,A,hL⟩,E,I⟩:=hrel;clear l g7 o6;have l:=qh A;clear A;have HL:=qh hL;clear hL;have u:=qh E;clear E;have B:=qh I;clear I;have m1:=u.out.c1;rw[b9.out] at m1;by_cases d4:k<n1
 ·skip
  have I9:(k:Int)<=(mn:Int):=by have:=O.out;omega
  have w0:(k:Int)<(n1:Int):=by omega
  have y8:(0:Int)<=(k:Int):=by omega
  obtain⟨wo,rfl⟩:∃ wo:World,wo=wr:=⟨_,rfl⟩;have m7:g<wo.heap.size:=l.out.top.lt;have c0:=l.out.top.cell d4;rw[if_neg (Nat.lt_irrefl k)] at c0;have f0:=l.out.top.frozen k;obtain⟨w7,e1⟩:∃ w7,w7=(wo.setCell ⟨g,k,none⟩ (.slice (some ⟨wo.heap.size,0,none⟩) n2 n2)).alloc (.cells (madeCells #[.slice none 0 0] n2) 67):=⟨_,rfl⟩;have N6:w.heap.size<=g:=l.out.base;have L2:H≠g:=fun e=>z0e l.out.top u.out (by decide) e.symm;have i7:Fr (fun q=>q=g) wo w7:=by rw[e1];exact((Fr.refl (fun q=>q=g) wo).set (p:=⟨g,k,none⟩) (.inl rfl) _).trans (Fr.alloc _ _)
  have c8:=l.out.addRow B.out.size;rw[<- e1] at c8;have g8:=qh c8;clear c8;have g4:=qh (show BoxE w7 H M (.slice a M.n z) from (i7.block H u.out.lt L2).trans u.out);have x5:=qh (B.out.trans (i7.below B.out.size (fun q e=>by rw[e];exact N6)));have F2:=qh (LL.row HL.out);clear i7 l u B HL
  go_wp2_with fail
  rw[<- e1];clear e1 c0 f0 m1 m7
  go_loopw [11] (fun j0 wr=>∃ i:Nat,i<=n2/\j0=.int .i64 (i:Int)/\(∃ r S L,Tq wr w.heap.size g n1 n2 (k+1) r S L/\LL n2 R k i 0 L)/\BoxE wr H M (.slice a M.n z)/\Below w.heap.size w wr) (fun j0 _=>n2-(intOf j0).toNat)
  case atStart=>exact⟨0,Nat.zero_le _,rfl,⟨_,_,_,g8.out,F2.out⟩,g4.out,x5.out⟩
  obtain⟨i,hi,rfl,⟨r,S,L,A,hL⟩,E,I⟩:=hrel;clear g8 g4 x5 F2;have l:=qh A;clear A;have HL:=qh hL;clear hL;have u:=qh E;clear E;have B:=qh I;clear I;by_cases U:i<n2
  ·have L1:(i:Int)<=(na:Int):=by have:=a4.out;omega
   have H3:(i:Int)<(n2:Int):=by omega
   have v4:(0:Int)<=(i:Int):=by omega
   go_wp2_with fail
   go_loopw [12] (fun j4 wr=>∃ j:Nat,j<=R/\j4=.int .i64 (j:Int)/\(∃ r S L,Tq wr w.heap.size g n1 n2 (k+1) r S L/\LL n2 R k i j L)/\BoxE wr H M (.slice a M.n z)/\Below w.heap.size w wr) (fun j4 _=>R-(intOf j4).toNat)
   case atStart=>exact⟨0,Nat.zero_le _,rfl,⟨_,_,_,l.out,HL.out⟩,u.out,B.out⟩
   obtain⟨j,hj,rfl,⟨r,S,L,A,hL⟩,E,I⟩:=hrel;clear l u B HL;have l:=qh A;clear A;have HL:=qh hL;clear hL;have u:=qh E;clear E;have B:=qh I;clear I;by_cases P7:j<R
   ·have P1:(j:Int)<=(nb:Int):=by have:=b7.out;omega
    have T:k<k+1:=Nat.lt_succ_self k;have c0:=l.out.top.cell d4;rw[if_pos T] at c0;have c1:=(l.out.mid k T).1.cell U;have j7:L k i=j:=by have:=HL.out.2 i U;rw[if_neg (Nat.lt_irrefl i),if_pos rfl] at this;exact this
    obtain⟨av,cv,e5,_,_⟩:=z5r (l.out.row k i T U);rw[j7] at e5;rw[e5] at c1;have f1:=(l.out.mid k T).1.frozen i;obtain⟨rk,h9⟩:=exq (r k);rw[<- h9] at c0 c1 f1;have j8:=qh e5;clear e5;have e7:=qh j7;clear j7;have j9:=qh h9;clear h9;have C:wr.drew.cell? ⟨g,k,none⟩=some (.slice (some ⟨rk,0,none⟩) n2 n2)/\wr.drew.cell? ⟨rk,i,none⟩=some (.slice av j cv):=⟨c0,c1⟩;obtain⟨wz,b3⟩:∃ wz,wz=(wr.alloc (.cells #[.string infS] 9)).drew:=⟨_,rfl⟩;have a1:Fr (fun _=>False) wr wz:=by rw[b3];exact(Fr.alloc _ _).drew
    have H0:wz.heap.size=wr.heap.size+1:=by rw[b3];simp
    have g5:wz.cell? ⟨wr.heap.size,0,none⟩=some (.string infS):=by rw[b3];exact z3i wr _ _ 0 _ rfl
    have d8:wz.cell? ⟨g,k,none⟩=some (.slice (some ⟨rk,0,none⟩) n2 n2)/\wz.cell? ⟨rk,i,none⟩=some (.slice av j cv):=⟨a1.cell c0 (fun e=>e),a1.cell c1 (fun e=>e)⟩;have e8:=(l.out.new a1).row k i T U;rw[j8.out,e7.out] at e8;have D4:w.heap.size<=wz.heap.size:=by have:=B.out.size;omega
    have a2:∀ (wa:World) (go cp:Nat),wa.ownsRow w.heap.size 9 1 (.slice (some ⟨go,0,none⟩) (j+1) cp) (j+1) (strs j (fun _=>infS)++[.string infS])->wz.grownBy wa (Value.slice av j cv).ownBlock->((Value.slice av j cv).ownBlock=some go\/go=wz.heap.size) ->
      (∃ r S L,Tq (wa.setCell ⟨rk,i,none⟩ (.slice (some ⟨go,0,none⟩) (j+1) cp)) w.heap.size g n1 n2 (k+1) r S L/\LL n2 R k i (j+1) L)/\(wa.cell? ⟨g,k,none⟩=some (.slice (some ⟨rk,0,none⟩) n2 n2)/\wa.cell? ⟨rk,i,none⟩=some (.slice av j cv))/\wa.frozen? ⟨rk,i,none⟩=false /\
      BoxE (wa.setCell ⟨rk,i,none⟩ (.slice (some ⟨go,0,none⟩) (j+1) cp)) H M (.slice a M.n z)/\Below w.heap.size w (wa.setCell ⟨rk,i,none⟩ (.slice (some ⟨go,0,none⟩) (j+1) cp)):=fun wa go cp h1 h2 h3=>by
     have ht:=l.out.new a1;have a5:=e8;have i2:∀ {b m:Nat} {t:TypeId} {F:Nat->Value},wz.rowIs b t m F->t≠9->¬ ((Value.slice av j cv).ownBlock=some b):=fun hr K0=>y6n a5 hr K0;have Z:Fr (fun b=>(Value.slice av j cv).ownBlock=some b) wz wa:=Fr.of_gb h2 (fun _ e=>e);have i5:wz.rowIs rk 67 n2 (S k):=by rw[j9.out];exact(ht.mid k T).1
     have v3:=Z.row i5 (i2 i5 (by decide));have j2:BoxE wz H M (.slice a M.n z):=(a1.block H u.out.lt (fun e=>e)).trans u.out;have x3:BoxE wa H M (.slice a M.n z):=(Z.block H j2.lt (z3d a5 j2 (by decide))).trans j2;have A6:w.heap.size<=rk:=by rw[j9.out];exact(l.out.mid k T).2
     have a2:=l.out.app (q:=k) (i:=i) (go:=go) (cp:=cp) T U a1 (by rw[e7.out];exact h1) (by rw[j8.out];exact h2) (by rw[j8.out];exact h3);rw[e7.out,<- j9.out] at a2;have J:=HL.out.app U;rw[e7.out] at J;refine⟨⟨_,_,_,a2,J⟩,⟨Z.cell d8.1 (i2 ht.top (by decide)),Z.cell d8.2 (i2 i5 (by decide))⟩,v3.frozen i,?_,?_⟩
     ·refine(blk_setCell_other _ _ _ _ (fun e=>?_)).trans x3;exact z0e v3 x3 (by decide) e.symm
     have Q:=B.out.trans (a1.below B.out.size (fun _ e=>e.elim));exact((Q.trans (Z.below Q.size (fun q e=>(World.ownsRow.lt a5 q e).1))).setCell (p:=⟨rk,i,none⟩) A6 _)
    have g2:=qh a2;clear a2;have J3:=qh e8;clear e8;have D3:=qh g5;clear g5;have P2:=qh H0;clear H0 a1
    go_wp2_with fail
    refine z0g (fun wk=>wk.cell? ⟨g,k,none⟩=some (.slice (some ⟨rk,0,none⟩) n2 n2)/\wk.cell? ⟨rk,i,none⟩=some (.slice av j cv)) 16 (by kernel_rfl) ?_;refine z0b.tl 0 C (v:=?yt) ?xo ?ya
    case xo=>rintro wk ⟨s1,s2⟩;go_simp;try with_reducible rfl
    refine z0b.tl 1 C (v:=?yw) ?xs ?yc
    case xs=>rintro wk ⟨s1,s2⟩;go_simp;try with_reducible rfl
    refine z0b.tl 2 C (v:=?yo) ?xm ?yi
    case xm=>rintro wk ⟨s1,s2⟩;go_simp;try with_reducible rfl
    refine z0b.tl 3 C (v:=?yu) ?xr ?yg
    case xr=>rintro wk ⟨s1,s2⟩;go_simp;try with_reducible rfl
    refine z0b.tl 4 C (v:=?yp) ?xh ?yh
    case xh=>rintro wk ⟨s1,s2⟩;go_simp;try with_reducible rfl
    refine z0b.tl 5 C (v:=?yn) ?xu ?xz
    case xu=>rintro wk ⟨s1,s2⟩;go_simp;try with_reducible rfl
    refine z0b.tl 6 C (v:=?yr) ?xj ?yd
    case xj=>rintro wk ⟨s1,s2⟩;go_simp;try with_reducible rfl
    refine z0b.tl 7 C (v:=?ys) ?xt ?xx
    case xt=>rintro wk ⟨s1,s2⟩;go_simp;try with_reducible rfl
    refine z0b.tl 8 C (v:=?yq) ?xg ?yb
    case xg=>rintro wk ⟨s1,s2⟩;go_simp;try with_reducible rfl
    refine z0b.tl 9 C (v:=?yx) ?xk ?yf
    case xk=>rintro wk ⟨s1,s2⟩;go_simp;try with_reducible rfl
    refine z0b.tl 10 C (v:=?yl) ?xb ?xq
    case xb=>rintro wk ⟨s1,s2⟩;go_simp;try with_reducible rfl
    refine z0b.tl 11 C (v:=?yj) ?xf ?xi
    case xf=>rintro wk ⟨s1,s2⟩;go_simp;try with_reducible rfl
    refine z0b.tl 12 C (v:=?yk) ?xc ?xp
    case xc=>rintro wk ⟨s1,s2⟩;go_simp;try with_reducible rfl
    try simp only[Act.put,tryL]
    clear c0 c1 f1 C;refine z0b.on 13 fun K hK=>?_;go_simp;rw[<- b3];have P4:=qh b3;clear b3;refine hK.out _ _ (.inr d8) ?_;clear hK K
    try simp only[Act.put,tryL]
    refine z0b.on 14 fun K hK=>?_;refine wp_append_lies _ (.tmp 79) (.tmp 81) 67 rfl w.heap.size 9 i0 (.string ⟨#[]⟩) 1 16 underlying67 N0.out K6.out N9.out M6.out rfl (by omega) (.slice av j cv) j _ (by simp[Act.eval]) J3.out ⟨wr.heap.size,0,none⟩ 1 1 [.string infS] (by simp[Act.eval]) rfl (news1c D3.out) (u3k _) (by omega) (by unfold maxLen;omega) (by omega) D4 _ rfl ?_;intro go cp wa f9 d5 C6 u0;obtain⟨h1,h2,h3,h4,h5⟩:=g2.out wa go cp f9 d5 C6;have H1:=qh h1;clear h1;have H4:=qh h4;clear h4;have H5:=qh h5;clear h5;clear f9 d5 C6 u0 d8 g2;refine hK.out _ _ (.inr h2) ?_;clear hK K
    try simp only[Act.put,tryL]
    refine z0b.tl 15 h2 (v:=?ym) ?xd ?xn
    case xd=>rintro wk ⟨s1,s2⟩;go_simp;try with_reducible rfl
    try simp only[Act.put,tryL]
    have g0:=h2.2;refine z0b.on 16 fun K hK=>?_;go_simp;refine hK.out _ _ (.inl rfl) (z0b.done (by kernel_rfl) ?_ _);clear hK K g0 h2 h3
    go_wp2_with fail
    go_roundw
    case rel=>exact⟨j+1,by omega,by go_num,H1.out,H4.out,H5.out⟩
    simp[intOf];omega
   have s6:j=R:=by omega
   have b5:¬ ((j:Int)<=(nb:Int)):=by have:=b7.out;omega
   have J:=HL.out;rw[s6] at J;have g9:=qh J.next;clear J s6
   go_wp2_with fail
   go_roundw
   case rel=>exact⟨i+1,by omega,by go_num,⟨_,_,_,l.out,g9.out⟩,u.out,B.out⟩
   simp[intOf];omega
  have d6:i=n2:=by omega
  have b5:¬ ((i:Int)<=(na:Int)):=by have:=a4.out;omega
  have J:=HL.out;rw[d6] at J;have g9:=qh J.full;clear J d6
  go_wp2_with fail
  go_roundw
  case rel=>exact⟨k+1,by omega,by go_num,⟨_,_,_,l.out,g9.out⟩,u.out,B.out⟩
  simp[intOf];omega
 have e6:k=n1:=by omega
 have b5:¬ ((k:Int)<=(mn:Int)):=by have:=O.out;omega
 have A:=l.out;have hL:=HL.out;rw[e6] at A hL;obtain⟨s,c,b2⟩:=A.cv hL (by have:=b7.out;omega);clear A hL e6;have b6:0<n1:=by have:=O.out;omega
 have c7:0<n2:=by have:=a4.out;omega
 have i6:0<R:=by have:=b7.out;omega
 have f4:RcI w wr H g n1 n2 R M (.slice a M.n z) r s c (fun _ _ _=>infS):=⟨b2,u.out,B.out⟩;have D:=f4.set (k:=0) (i:=0) (j:=0) (v:=⟨#[48]⟩) b6 c7 i6 (by unfold smS;decide);rw[v7z] at D;have d1:=b2.c1 b6;have d2:=b2.c2 b6 c7;have d3:=b2.c3 b6 c7 i6;have f3:=b2.f3 b6 c7 0;have L5:(0:Int)<(n1:Int):=by omega
 have M7:(0:Int)<(n2:Int):=by omega
 have K7:(0:Int)<(R:Int):=by omega
 obtain⟨r0,I7⟩:=exq (r 0);obtain⟨s0,y7⟩:=exq (s 0 0);rw[<- I7] at d1 d2;rw[<- y7] at d2 d3 f3 D;obtain⟨wa,i4⟩:=exq (wr.setCell ⟨s0,0,none⟩ (.string ⟨#[48]⟩));rw[<- i4] at D;have o:=qh D;clear D f4 b2 I7 y7 u B HL l b6 c7 i6;obtain⟨P,hP⟩:∃ P:EP,P=⟨M,na,x,nb,y⟩:=⟨_,rfl⟩;have HP:=qh hP;clear hP
 go_wp2_with fail
 rw[<- i4];clear i4 d1 d2 d3 f3 L5 M7 K7 m1 d4 b5 g6
 go_loopw [13] (fun h0 wr=>∃ k:Nat,k<=n1/\h0=.int .i64 (k:Int)/\∃ X,RI X/\(deI X,0)=tabP P k (X0,0)/\RcI w wr H g n1 n2 R M (.slice a M.n z) r s c X) (fun h0 _=>n1-(intOf h0).toNat)
 case atStart=>exact⟨0,Nat.zero_le _,rfl,XI0,u4c,by rw[u3q];rfl,o.out⟩
 obtain⟨k,hk,rfl,X,c9,G,D⟩:=hrel;clear o;have b4:=qh c9;clear c9;have a3:=qh G;clear G;have o:=qh D;clear D;have m1:=o.out.bm.c1;rw[b9.out] at m1;by_cases d4:k<n1
 ·have I9:(k:Int)<=(mn:Int):=by have:=O.out;omega
  have w0:(k:Int)<(n1:Int):=by omega
  have y8:(0:Int)<=(k:Int):=by omega
  obtain⟨z1,a6⟩:=exq (tabP P k (X0,0));have Y:tabP P (k+1) (X0,0)=rowP P k (P.a+1) z1:=by rw[a6];rfl
  have K8:=qh Y;clear Y;rw[<- a6] at a3;have M3:=qh a6;clear a6
  go_wp2_with fail
  clear m1
  go_loopw [14] (fun j1 wr=>∃ i:Nat,i<=n2/\j1=.int .i64 (i:Int)/\∃ X,RI X/\(deI X,0)=rowP P k i z1/\RcI w wr H g n1 n2 R M (.slice a M.n z) r s c X) (fun j1 _=>n2-(intOf j1).toNat)
  case atStart=>exact⟨0,Nat.zero_le _,rfl,X,b4.out,a3.out,o.out⟩
  obtain⟨i,hi,rfl,X,c9,G,D⟩:=hrel;clear o b4 a3;have b4:=qh c9;clear c9;have a3:=qh G;clear G;have o:=qh D;clear D;by_cases U:i<n2
  ·have L1:(i:Int)<=(na:Int):=by have:=a4.out;omega
   have H3:(i:Int)<(n2:Int):=by omega
   have v4:(0:Int)<=(i:Int):=by omega
   obtain⟨z2,a7⟩:=exq (rowP P k i z1);have Y:rowP P k (i+1) z1=colP P k i (P.b+1) z2:=by rw[a7];rfl
   have l7:=qh Y;clear Y;rw[<- a7] at a3;have J5:=qh a7;clear a7
   go_wp2_with fail
   refine jloop (P:=P) (z1:=z1) (z2:=z2) (X:=X) HP HV L6 b9 O a4 b7 HX HY O0 J4 m8 z3 v9 K5 I5 d4 U J8 K3 N5 M1 J2 N7 M3 J5 b4 a3 o (qh ?xw) (qh ?xa) (qh ?xl)
   case xw=>exact fun _ _ d _ _ h=>by cases d<;>exact h
   case xa =>
    intro v6 v7 L4 L3 M8 L0 N8 L8 N4 N1 t9 o8 C2 s4 r5 D6 m4 x4 r2 r3 n9 F8 F0 z6 I2 k0 C8 C4 n0 v2 F6 E3 A9 q7 H6 A4 D1 v5 E5 G7 A1 x6 u8 I1 D9 F3 n6 z4 o7 l5 z5 u4 m3 y0 p9 o5 B0 A0 s5 B6 I0 p0 I4 m5 o9 y4 D2 p8 B3 y3 s8 D0 u9 t7 u6 o3 E4 u2 k1 x0 y5 C3 r9 k6 I8 q8 F1 y9 B7 u5 A2 v0 B8 B2 C9 G8 H9 s3 G3 G0 z9 C0 l6 H7 E7 x8 u7 r4 z7 k9 D8 u1 A3 n5 H2 v8 E9 k4 B5 B4 G6 G5 F4 I6 E8 I3 y6 H8 G9 D5 r1 s9 k2 o4 C1 l8 B9 s7 q9 G2 r7 z8 G4 E2 o2 p7 n7 E1 w9 p6 w2 X2 h1 h2 h3;have u3:=qh h1;clear h1;have i8:=qh (h2.trans l7.out.symm);clear h2;have A8:=qh h3;clear h3
    go_wp2_with fail
    go_roundw
    case rel=>exact⟨i+1,by omega,by go_num,X2,u3.out,i8.out,A8.out⟩
    simp[intOf];omega
   case xl =>
    intro L4 L3 M8 L0 N8 L8 N4 N1 t9 o8 C2 s4 r5 D6 m4 x4 r2 r3 n9 F8 F0 z6 I2 k0 C8 C4 n0 v2 F6 E3 A9 q7 H6 A4 D1 v5 E5 G7 A1 x6 u8 I1 D9 F3 n6 z4 o7 l5 z5 u4 m3 y0 p9 o5 B0 A0 s5 B6 I0 p0 I4 m5 o9 y4 D2 p8 B3 y3 s8 D0 u9 t7 u6 o3 E4 u2 k1 x0 y5 C3 r9 k6 I8 q8 F1 y9 B7 u5 A2 v0 B8 B2 C9 G8 H9 s3 G3 G0 z9 C0 l6 H7 E7 x8 u7 r4 z7 k9 D8 u1 A3 n5 H2 v8 E9 k4 B5 B4 G6 G5 F4 I6 E8 I3 y6 H8 G9 D5 r1 s9 k2 o4 C1 l8 B9 s7 q9 G2 r7 z8 G4 E2 o2 p7 n7 E1 w9 p6 w2 b8 F5;have N:=qh b8;clear b8;have f7:z6a ⟨M,na,x,nb,y⟩=(⟨#[]⟩,2):=by rw[<- HP.out];exact F5
    have M0:=qh f7;clear F5 f7
    go_wp2_with fail
    go_ret2;exact⟨N.out,.inl ⟨HV.out,f8.out,f5.out,by rw[M0.out];rfl⟩⟩
  have d6:i=n2:=by omega
  have b5:¬ ((i:Int)<=(na:Int)):=by have:=a4.out;omega
  have G:=a3.out;have Q:n2=P.a+1:=by rw[HP.out];exact a4.out
  rw[d6,Q,<- K8.out] at G;have i8:=qh G;clear G Q d6
  go_wp2_with fail
  go_roundw
  case rel=>exact⟨k+1,by omega,by go_num,X,b4.out,i8.out,o.out⟩
  simp[intOf];omega
 have e6:k=n1:=by omega
 have b5:¬ ((k:Int)<=(mn:Int)):=by have:=O.out;omega
 have G:=a3.out;rw[e6] at G;have m9:z6a ⟨M,na,x,nb,y⟩=(lstB X na nb n1,0):=by
  have h1:M.most.toNat+1=n1:=by rw[b9.out,O.out];rfl
  have h2:=HP.out;unfold z6a;rw[show (⟨M,na,x,nb,y⟩:EP).M.most.toNat+1=n1 from h1,<- h2,<- G,if_neg (by simp),u2d b4.out];rw[h2]
 have M9:=qh m9;clear m9 G
 go_wp2_with fail
 clear m1
 go_loopw [24,23] (fun j3 N3 wr=>∃ q:Nat,q<=n1/\j3=.int .i64 (q:Int)/\N3=.string (lstB X na nb q)/\RcI w wr H g n1 n2 R M (.slice a M.n z) r s c X) (fun j3 _ _=>n1-(intOf j3).toNat)
 case atStart=>exact⟨0,Nat.zero_le _,rfl,rfl,o.out⟩
 obtain⟨q,hq,rfl,rfl,D⟩:=hrel;clear o;have o:=qh D;clear D;have m1:=o.out.bm.c1;rw[b9.out] at m1;by_cases j5:q<n1
 ·have O6:(q:Int)<=(mn:Int):=by have:=O.out;omega
  have O3:(q:Int)<(n1:Int):=by omega
  have O2:(0:Int)<=(q:Int):=by omega
  have k5:na<n2:=by have:=a4.out;omega
  have K9:nb<R:=by have:=b7.out;omega
  have O4:(na:Int)<(n2:Int):=by omega
  have O1:(nb:Int)<(R:Int):=by omega
  have L7:(0:Int)<=(na:Int):=by omega
  have J0:(0:Int)<=(nb:Int):=by omega
  have d1:=o.out.cv.c1 j5;have d2:=o.out.cv.c2 j5 k5;have d3:=o.out.cv.c3 j5 k5 K9;obtain⟨rq,k7⟩:=exq (r q);obtain⟨sq,l4⟩:=exq (s q na);obtain⟨cq,G1⟩:=exq (c q na);obtain⟨XX,e4⟩:=exq (X q na nb);obtain⟨LB,e9⟩:=exq (lstB X na nb q);rw[<- k7] at d1 d2;rw[<- l4] at d2 d3;rw[<- G1] at d2;rw[<- e4] at d3;rw[<- e9];have Y:lstB X na nb (q+1)=bttC LB XX:=by rw[e9,e4];rfl
  have h8:=qh (y0s LB XX wr (by rw[e9];exact v3q o.out.cv.sm _ _ _) (by rw[e4];exact o.out.cv.sm _ _ _));rw[<- Y] at h8;clear k7 l4 G1 e4 e9 Y
  go_wp2_with fail
  refine h8.out.mono ?_;rintro rr w8 ⟨rfl,E6⟩;have K1:=qh (o.out.new (Fr.of_below E6));clear E6 h8;clear d1 d2 d3 m1
  go_wp2_with fail
  go_roundw
  case rel=>exact⟨q+1,by omega,by go_num,rfl,K1.out⟩
  simp[intOf];omega
 have J9:q=n1:=by omega
 have b5:¬ ((q:Int)<=(mn:Int)):=by have:=O.out;omega
 rw[J9]
 go_wp2_with fail
 go_ret2;exact⟨o.out.be,.inl ⟨HV.out,f8.out,f5.out,Eq.trans (b:=Ending.returned (.tuple #[.string (lstB X na nb n1),.int .i64 0])) rfl (by rw[M9.out];rfl)⟩⟩
end
section
open Go.RowKit Go.Deep
def dgc (s:ByteArray) (i:Nat):Nat:=((bts s).take i).countP dgt
theorem x0v (n:Nat):(dec n).countP dgt=(dec n).length:=List.countP_eq_length.2 fun a c=>List.all_eq_true.1 (z3b n) a c
theorem u5a {q:Rat} (h:(txtL q).countP dgt<=4):szQ 5 q:=by
 unfold txtL at h;have d:(if negQ q then [45] else []:List UInt8).countP dgt=0:=by cases negQ q<;>decide
 rw[List.countP_append,List.countP_append,d,x0v] at h;refine⟨(z1p.1 (show (dec q.num.natAbs).length<=5 by omega)).1,?_⟩;by_cases c:q.den=1
 ·rw[c];decide
 rw[if_neg c,List.countP_cons,x0v] at h;exact(z1p.1 (show (dec q.den).length<=5 by omega)).1
theorem u3w {s:ByteArray} {q:Rat} (h:prs s=some q) (c:dgc s s.size<=4):szQ 5 q:=by
 obtain⟨rfl,_⟩:=z3f h;refine u5a ?_;have d:bts (txt q)=txtL q:=z1f _;unfold dgc at c;rw[List.take_of_length_le (by rw[z0j];exact Nat.le_refl _),d] at c;exact c
def TestP (p:Prop) (w:World) (r:Ending) (w':World):Prop:=∃ b:Bool,r=.returned (.bool b)/\(b=true↔p)/\Below w.heap.size w w'
def LitE (M:EM):Prop:=∀ i,i<M.n->dgc (M.e i).w (M.e i).w.size<=4
theorem LitE.fit {P:EP} (c:VE P.M) (h:LitE P.M):¬ TooL P:=x8d c.m0 c.m6 fun i hi=>u3w (c.ok i hi).q (h i hi)
theorem x3c {M:EM} {sv:Value} (w:World) (p:EdS none w sv M) :
  Calls prog 15 #[.agg #[sv,.int .i64 M.most]] w (fun r w'=>r=.returned (.bool (decide ((60:Int)<(M.n:Int))))/\Below w.heap.size w w'):=by
 obtain⟨a,i,_,_,_,_,_,_,rfl,_⟩:=p.open;clear p;obtain⟨j,d⟩:=exq (w.alloc (.cells #[.slice a M.n i,.int .i64 M.most] 24));obtain⟨l,c⟩:=exq (w.heap.size);have g:BoxE j l M (.slice a M.n i):=by rw[d,c];exact BoxE.new w M _
 have h:Below w.heap.size w j:=by rw[d];exact(Below.refl _ _).alloc (Nat.le_refl _) _
 have m0:=g.c0;have o:=qh h;clear h g
 go_enter func15,ntmps15
 go_wp2_with fail
 rw[<- d,<- c];have k:=qh c;clear d c
 go_wp2_with fail
 go_ret;exact⟨rfl,k.out ▸ o.out⟩
theorem x9j {n:Nat} {b:Nat} {V:Nat->Value} {L:Nat->Nat} (w:World) (hn:n<=10) (A:∀ i,i<n->w.cell? ⟨b,i,none⟩=some (V i)/\∃ x,Si none w (V i) (L i) x) (z:∀ i,i<n->(L i:Int)<=9223372036854775807) :
  Calls prog 16 #[.slice (some ⟨b,0,none⟩) n n] w (TestP (∃ i,i<n/\12<L i) w):=by
 have E:=qh A;clear A;have G:=qh z;clear z
 go_enter func16,ntmps16
 go_wp2_with fail
 go_loopw [3] (fun i wr=>∃ q:Nat,q<=n/\i=.int .i64 (q:Int)/\(∀ j,j<q->L j<=12)/\wr=w) (fun i _=>n-(intOf i).toNat)
 case atStart=>exact⟨0,Nat.zero_le _,rfl,fun j H=>by omega,rfl⟩
 obtain⟨q,J,rfl,g,rfl⟩:=hrel;have k:=qh g;clear g;by_cases d:q<n
 ·have I:(q:Int)<(n:Int):=by omega
  have u:(0:Int)<=(q:Int):=by omega
  obtain⟨c0,x,r⟩:=E.out q d;obtain⟨a,F,r⟩:=r.shape;rw[r] at c0;have s:=G.out q d;obtain⟨p,c⟩:=exq (L q);rw[<- c] at c0 s;have l:=qh c;clear c r;by_cases B:(12:Int)<(p:Int)
  ·go_wp2_with fail
   go_ret;exact⟨true,rfl,⟨fun _=>⟨q,d,by rw[<- l.out];omega⟩,fun _=>rfl⟩,Below.refl _ _⟩
  have v:decide ((12:Int)<(p:Int))=false:=by simp;omega
  go_wp2_with fail
  go_roundw
  case rel =>
   refine⟨q+1,by omega,by go_num,fun j H=>?_,by first|rfl|trivial⟩
   by_cases e:j=q
   ·rw[e,<- l.out];omega
   exact k.out j (by omega)
  simp[intOf];omega
 have o:q=n:=by omega
 have C:¬ ((q:Int)<(n:Int)):=by omega
 have D:=qh o;clear o
 go_wp2_with fail
 go_ret;exact⟨false,rfl,⟨(fun h=>by cases h),fun ⟨i,hi,h⟩=>by have:=k.out i (by rw[D.out];exact hi);omega⟩,Below.refl _ _⟩
end
section
open Go.RowKit Go.Deep
def cosR (M:EM) (na:Nat) (x:Nat->Int) (nb:Nat) (y:Nat->Int) (W:ByteArray) (E:Int):Prop:=(VE M/\isWord na x=true/\isWord nb y=true/\W=(z6a ⟨M,na,x,nb,y⟩).1/\E=((z6a ⟨M,na,x,nb,y⟩).2:Int))\/(¬ (VE M/\isWord na x=true/\isWord nb y=true)/\W=⟨#[]⟩/\E=1)
theorem CosE.val {M:EM} {na nb:Nat} {x y:Nat->Int} {w g:World} {i:Ending} (h:CosE M na x nb y w i g):∃ W E,i=.returned (.tuple #[.string W,.int .i64 E])/\cosR M na x nb y W E/\Below w.heap.size w g:=by
 obtain⟨hb,⟨c,d,j,k⟩|⟨c,d⟩⟩:=h
 ·exact⟨_,_,k,.inl ⟨c,d,j,rfl,rfl⟩,hb⟩
 exact⟨_,_,d,.inr ⟨c,rfl,rfl⟩,hb⟩
theorem cosR.eq {M:EM} {na nb:Nat} {x y:Nat->Int} {W l:ByteArray} {E o:Int} (h:cosR M na x nb y W E) (r:cosR M na x nb y l o):W=l/\E=o:=by
 rcases h with ⟨g,c,k,v,u⟩|⟨g,c,k⟩<;>rcases r with ⟨i,d,j,s,p⟩|⟨i,d,j⟩
 ·exact⟨v.trans s.symm,u.trans p.symm⟩
 ·exact absurd ⟨g,c,k⟩ i
 ·exact absurd ⟨i,d,j⟩ g
 exact⟨c.trans d.symm,k.trans j.symm⟩
theorem cosR.ok {M:EM} {na nb:Nat} {x y:Nat->Int} {W:ByteArray} {E:Int} (h:cosR M na x nb y W E) (j:E=0):VE M/\isWord na x=true/\isWord nb y=true/\∃ o,IsCost ⟨M,na,x,nb,y⟩ o/\fitO o/\W=y0f o:=by
 rcases h with ⟨c,l,g,k,i⟩|⟨_,_,g⟩
 ·rcases y2i (P:=⟨M,na,x,nb,y⟩) c.m0 c.ok with ⟨o,p,r,d⟩|⟨_,d⟩
  ·rw[d] at k;exact⟨c,l,g,o,p,r,k⟩
  rw[d] at i;subst i;cases j
 subst g;cases j
theorem cosR.val {M:EM} {na nb:Nat} {x y:Nat->Int} {W:ByteArray} {E:Int} (h:cosR M na x nb y W E) (l:VE M) (k:isWord na x=true) (j:isWord nb y=true):E=0\/(E=2/\TooL ⟨M,na,x,nb,y⟩):=by
 rcases h with ⟨g,p,r,u,c⟩|⟨h,_⟩
 ·rcases y2i (P:=⟨M,na,x,nb,y⟩) g.m0 g.ok with ⟨o,i,s,d⟩|⟨i,d⟩
  ·rw[d] at c;exact .inl c
  rw[d] at c;exact .inr ⟨c,i⟩
 exact absurd ⟨l,k,j⟩ h
end
end Go.Proofs.YtjekapjbigfkbaaGreatDoor
