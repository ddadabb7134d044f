/- Parts. -/
import Derived.Test.YtpldocnhbdlgfaaGreatDoorPb36
import Derived.Test.YtpldocnhbdlgfaaGreatDoorPb32
import Derived.Test.YtpldocnhbdlgfaaGreatDoorPb35
namespace Go.Proofs.YtpldocnhbdlgfaaGreatDoor
set_option maxRecDepth 100000
set_option linter.all false
set_option maxHeartbeats 16000000
open Go Tryz
section
open Go CSR
def eA:MD:=⟨1,0,⟨#[]⟩,1,λ_=>⟨#[]⟩,λ_=>1,λ_ _=>1,λ_ _=>2,λ_ _=>⟨#[49]⟩,λ_ _=>0⟩
def eN:MD:=⟨1,0,⟨#[]⟩,1,λ_=>⟨#[]⟩,λ_=>2,λ_ _=>1,λ_ k=>if k=0 then 0 else 2,λ_ k=>if k=0 then ⟨#[49]⟩ else ⟨#[48]⟩,λ_ _=>0⟩
def eS:MD:=⟨1,0,⟨#[]⟩,1,λ_=>⟨#[]⟩,λ_=>2,λ_ _=>1,λ_ _=>1,λ_ k=>if k=0 then ⟨#[53]⟩ else ⟨#[48]⟩,λ_ _=>0⟩
def stD:MD:=⟨1,0,⟨#[48]⟩,1,λ_=>⟨#[48]⟩,λ_=>1,λ_ _=>1,λ_ _=>1,λ_ _=>⟨#[49]⟩,λ_ _=>0⟩
def viD:MD:=⟨3,0,⟨#[49]⟩,1,λ_=>⟨#[]⟩,λ_=>0,λ_ _=>0,λ_ _=>0,λ_ _=>⟨#[]⟩,λ_ _=>0⟩
def cst(a:Int):Nat->Int:=λ_=>a
abbrev mM:MD:=(itP (Ab eA) frkD (alF (Ab eA)) 2).2
abbrev nM:MD:=(itP (Ab eN) frkD (alF (Ab eN)) 3).2
abbrev oM:MD:=(itP stD (Ab eS) (alF stD) 3).2
abbrev pM:MD:=(itP (wrd frkD 1 (cst 2)) frkD (alF (wrd frkD 1 (cst 2))) 2).2
abbrev qM:MD:=(itP (wrd frkD 1 (cst 1)) frkD (alF (wrd frkD 1 (cst 1))) 1).2
def Fz:VM (Ab eA):=Dg (by decide +kernel)
def Bh:VM frkD:=Dg (by decide +kernel)
def CH:VM (Ab eN):=Dg (by decide +kernel)
def CO:VM (Ab eS):=Dg (by decide +kernel)
def CR:VM stD:=Dg (by decide +kernel)
def Yv:VM viD:=Dg (by decide +kernel)
def Hl{E:MD}(h:E.na 0<=1000)(c:∀k,(E.aw 0 k).size<=9):MSz (Ab E) :=
 ⟨(by decide:(⟨#[48]⟩:ByteArray).size<=9223372036854775807),λi=>by show (if i=E.na 0 then (⟨#[48]⟩:ByteArray) else ⟨#[]⟩).size<=_;split<;>decide,λi k=>Nat.le_trans (show ((Ab E).aw i k).size<=9 from c i) (by omega),λi=>by show (if i<E.na 0 then 1 else 0)<=_;split<;>omega,by show E.na 0+1<=_;omega,by show (-9223372036854775808:Int)<=1/\(1:Int)<=9223372036854775807;omega⟩
def GK:MSz (Ab eA):=Hl (by decide) λk=>(by decide:(⟨#[49]⟩:ByteArray).size<=9)
def DX:MSz (Ab eN):=Hl (by decide) λk=>by show (if k=0 then (⟨#[49]⟩:ByteArray) else ⟨#[48]⟩).size<=9;split<;>decide
def Ec:MSz (Ab eS):=Hl (by decide) λk=>by show (if k=0 then (⟨#[53]⟩:ByteArray) else ⟨#[48]⟩).size<=9;split<;>decide
def EW:MSz (Ab frkA):=Hl (by decide) λk=>(by decide:(⟨#[50]⟩:ByteArray).size<=9)
def BS:MSz frkD :=
 ⟨EW.lead,EW.fin,λi k=>by show (if i=0/\k=(Ab frkA).na 0 then (⟨#[48]⟩:ByteArray) else (Ab frkA).aw i k).size<=_;split;decide;exact EW.aw i k,λi=>by
  have c:=EW.na i;show (if i=0 then (Ab frkA).na 0+1 else (Ab frkA).na i)<=_
  split
  ·decide
  exact c,EW.n,EW.kind⟩
def Ed:MSz stD:=⟨(by decide:(⟨#[48]⟩:ByteArray).size<=9223372036854775807),λi=>(by decide:(⟨#[48]⟩:ByteArray).size<=9223372036854775807),λi k=>(by decide:(⟨#[49]⟩:ByteArray).size<=9223372036854775807),λi=>by show 1<=_;omega,by show 1<=_;omega,by show (-9223372036854775808:Int)<=1/\(1:Int)<=9223372036854775807;omega⟩
def Yu:MSz viD:=⟨(by decide:(⟨#[49]⟩:ByteArray).size<=9223372036854775807),λi=>(by decide:(⟨#[]⟩:ByteArray).size<=9223372036854775807),λi k=>(by decide:(⟨#[]⟩:ByteArray).size<=9223372036854775807),λi=>by show 0<=_;omega,by show 1<=_;omega,by show (-9223372036854775808:Int)<=3/\(3:Int)<=9223372036854775807;omega⟩
def litB(A B:MD):Bool:=decide (A.n+B.n<=5)&&decide (Ah A A.n+Ah B B.n<=10)&&shB A&&shB B
where shB (D:MD):Bool:=decide (dgn D.lead D.lead.size<=4)&&(List.range D.n).all λi=>decide (dgn (D.fin i) (D.fin i).size<=4)&&(List.range (D.na i)).all λk=>decide (dgn (D.aw i k) (D.aw i k).size<=4)
def Pf{D:MD}(h:litB.shB D=true):ShM D:=by
 unfold litB.shB at h;simp only[Bool.and_eq_true,decide_eq_true_eq,List.all_eq_true,List.mem_range]at h;exact⟨h.1,λi hi=>⟨(h.2 i hi).1,λd hd=>(h.2 i hi).2 d hd⟩⟩
def FS{A B:MD}(h:litB A B=true):LitL 2 (pk3 A B B):=by
 unfold litB at h;simp only[Bool.and_eq_true,decide_eq_true_eq]at h;obtain⟨⟨⟨g,j⟩,c⟩,d⟩:=h;refine⟨?_,?_,λi hi=>?_⟩
 ·show 0+A.n+B.n<=5;omega
 ·show 0+Ah A A.n+Ah B B.n<=10;omega
 rcases (by omega:i=0\/i=1) with rfl|rfl
 ·exact Pf c
 exact Pf d
def Ue:LitL 2 (pk3 (Ab eA) frkD frkD):=FS (by decide +kernel)
def Hn:LitL 2 (pk3 (Ab eN) frkD frkD):=FS (by decide +kernel)
def Ho:LitL 2 (pk3 stD (Ab eS) (Ab eS)):=FS (by decide +kernel)
def Nk(a:Int)(h:a=1\/a=2):LitL 2 (pk3 (wrd frkD 1 (cst a)) frkD frkD):=by
 rcases h with rfl|rfl
 ·exact FS (by decide +kernel)
 exact FS (by decide +kernel)
def GL:AccD stD/\AccD (Ab eS)/\stD.kind=(Ab eS).kind:=by
 have g:∀q,q<stD.n->∀d,d<stD.na q->stD.aout q d=stD.ain q d:=by decide +kernel
 have h:∀q,q<(Ab eS).n->∀d,d<(Ab eS).na q->(Ab eS).aout q d=(Ab eS).ain q d:=by decide +kernel
 exact⟨λq d c hd=>g q c d hd,λq d c hd=>h q c d hd,rfl⟩
def UM:¬(AccD (Ab eA)/\AccD frkD/\(Ab eA).kind=frkD.kind):=λh=>absurd (h.1 0 0 (by decide +kernel) (by decide +kernel)) (by decide +kernel)
def Ua:(itP (Ab eA) frkD (alF (Ab eA)) 2).1.length<=2:=by decide +kernel
def Hi:(itP (Ab eN) frkD (alF (Ab eN)) 3).1.length<=3:=by decide +kernel
def Hj:(itP stD (Ab eS) (alF stD) 3).1.length<=3:=by decide +kernel
def Ub:(itP (wrd frkD 1 (cst 2)) frkD (alF (wrd frkD 1 (cst 2))) 2).1.length<=2:=by decide +kernel
def Uc:(itP (wrd frkD 1 (cst 1)) frkD (alF (wrd frkD 1 (cst 1))) 1).1.length<=1:=by decide +kernel
def infT:ByteArray:=⟨#[105,110,102]⟩
def JU:VM mM:=Dg (by decide +kernel)
def NA:VM nM:=Dg (by decide +kernel)
def NR:VM oM:=Dg (by decide +kernel)
def Vk:VM pM:=Dg (by decide +kernel)
def VN:VM qM:=Dg (by decide +kernel)
def ev1:VOk8 mM 1 (cst 1) 1 (cst 3) ⟨#[51]⟩:=DJ JU (by decide +kernel) (by decide +kernel)
def ev2:VOk8 mM 1 (cst 1) 1 (cst 4) ⟨#[49]⟩:=DJ JU (by decide +kernel) (by decide +kernel)
def ev3:VOk8 mM 1 (cst 1) 1 (cst 2) infT:=DJ JU (by decide +kernel) (by decide +kernel)
def ev4:VOk8 nM 2 (cst 1) 1 (cst 3) ⟨#[51]⟩:=DJ NA (by decide +kernel) (by decide +kernel)
def ev5:VOk8 nM 1 (cst 1) 1 (cst 3) infT:=DJ NA (by decide +kernel) (by decide +kernel)
def ev6:VOk8 oM 2 (cst 1) 2 (cst 1) ⟨#[55]⟩:=DJ NR (by decide +kernel) (by decide +kernel)
def ev7:VOk8 oM 1 (cst 1) 1 (cst 1) infT:=DJ NR (by decide +kernel) (by decide +kernel)
def ev8:VOk8 pM 1 (cst 2) 1 (cst 3) ⟨#[50]⟩:=DJ Vk (by decide +kernel) (by decide +kernel)
def ev9:VOk8 qM 1 (cst 2) 1 (cst 3) infT:=DJ VN (by decide +kernel) (by decide +kernel)
end
section
open Go.RowKit Go.Deep
noncomputable def CU:Code:=((f11).body).getD .skip
set_option maxRecDepth 1000000 in
theorem Vv:Fj 4 CU (seqR 4 CU)=CU:=by kernel_rfl
set_option maxRecDepth 1000000 in
theorem Vw:Fj 2 (seqR 4 CU) (seqR 6 CU)=seqR 4 CU:=by kernel_rfl
set_option maxRecDepth 1000000 in
theorem awk5{C1 C2 C3 C4 C5 C6 C7 C8 C9 D0 D1 D2 D3 D4 D5 D6 D7 D8 D9 E0 E1 E2 E3 E4 E5 E6 E7 E8 E9 F0 F1 F2 F3 F4 F5 F6 F7 F8 F9 G0 G1 G2 G3 G4 G5 G6 G7 G8 G9 H0 H1 H2 H3 H4 H5 H6 H7 H8 H9 I0 I1 I2 I3 I4 I5 I6 I7 I8 I9 J0 J1 J2 J3 J4 J5 J6 J7 J8 J9 K0 K1 K2 K3 K4 K5 K6 K7 K8 K9 L0 s4 s5 s6 s7 s8 s9 t7 t8 t9 v0 v2 v3 v4 v5 v6 v7 v8 v9 w0 x0 x1 x2 x3 x4 x5 x6 x7 x8 x9 y0 y1 y2 y3 y4 y5 y6 y8 y9 z1 z2 z3 z4 z5 z6 z7 z8 z9 A0 A1 A2 A3 A4 A5 A6 A7 A8 A9:Value}{w W:World}{bA bB bM bN bO:Nat}{B0 B1 B2 B3 B4:Option Addr}{B5 B6 B7 B8 B9:Nat}{y7:Value}(l2:Hd (∀W,Below w.heap.size w W->Tab W))(c:Hd (Below w.heap.size w W))(k:Hd (Has W bA (Ab eA).kind (Ab eA).start (Ab eA).lead B0 (Ab eA).n B5 (Ab eA)))(i:Hd (Has W bB frkD.kind frkD.start frkD.lead B1 frkD.n B6 frkD))(j:Hd (Has W bM mM.kind mM.start mM.lead B2 mM.n B7 mM))(l:Hd (Has W bN nM.kind nM.start nM.lead B3 nM.n B8 nM))(m:Hd (Has W bO oM.kind oM.start oM.lead B4 oM.n B9 oM))(ZM:Hd (MSz mM))(ZN:Hd (MSz nM))(ZO:Hd (MSz oM)):
  Code.wp prog (seqR 6 CU) (bodyPost prog f11 (TrueB w)) ⟨List.toArray (.bool false::.pointer (some (Ad bA 0))::.pointer (some (Ad bB 0))::.pointer (some (Ad bM 0))::.int .i64 0::.pointer (some (Ad bN 0))::.int .i64 0::y7::.pointer (some (Ad bO 0))::.int .i64 0::C1::C2::C3::C4::C5::C6::C7::C8::C9::D0::D1::D2::D3::D4::D5::D6::D7::D8::D9::E0::E1::E2::E3::E4::E5::E6::E7::E8::E9::F0::F1::F2::F3::F4::F5::F6::F7::F8::F9::G0::G1::G2::G3::G4::G5::G6::G7::G8::G9::H0::H1::H2::H3::H4::H5::H6::H7::H8::H9::I0::I1::I2::I3::I4::I5::I6::I7::I8::I9::J0::J1::J2::J3::J4::J5::J6::J7::J8::J9::K0::K1::K2::K3::K4::K5::K6::K7::K8::K9::L0::s4::s5::s6::s7::s8::s9::t7::t8::t9::v0::v2::v3::v4::v5::v6::v7::v8::v9::w0::x0::x1::x2::x3::x4::x5::x6::x7::x8::x9::y0::y1::y2::y3::y4::y5::y6::y8::y9::z1::z2::z3::z4::z5::z6::z7::z8::z9::A0::A1::A2::A3::A4::A5::A6::A7::A8::A9::[]),[]⟩ W:=by
 conv=>arg 2;whnf
 obtain⟨w1,d2⟩:=exq<|W.alloc (.cells #[.int .i64 2] 3);obtain⟨i1,k0⟩:=exq<|W.heap.size;have r8:w1.heap.size=W.heap.size+1:=by rw[d2];simp
 have hb:Below W.heap.size W w1:=by rw[d2];exact(Below.refl _ W).alloc nlr _
 have u:Si none w1 (.slice (some (Ad i1 0)) 1 1) 1 (cst 2):=by rw[k0,d2];exact Bw (han W _) Be (lt1 rfl)
 replace k:=qh<|k.o.on hb;replace i:=qh<|i.o.on hb;replace j:=qh<|j.o.on hb;replace l:=qh<|l.o.on hb;replace m:=qh<|m.o.on hb;replace c:=qh<|c.o.trans (hb.mono c.o.size);clear hb;have B:=qh u;clear u;have m0:=cellOf i.o.1 0 rfl;have m1:=cellOf i.o.1 1 rfl;have E:=cellOf i.o.1 2 rfl;have F:=cellOf i.o.1 3 rfl;rw[d2]at m0 m1 E F;have g:=qh<|IR w1 B.o i.o.ma (by omega) BS (l2.o w1 c.o);clear B
 go_wp2_with fail
 clear m0 m1 E F;rw[<-k0,<-d2];clear d2 r8 k0;refine g.o.mono ?_;rintro r w2⟨hb,hr⟩;replace k:=qh<|k.o.on hb;replace i:=qh<|i.o.on hb;replace j:=qh<|j.o.on hb;replace l:=qh<|l.o.on hb;replace m:=qh<|m.o.on hb;replace c:=qh<|c.o.trans (hb.mono c.o.size);clear hb;clear g;have H:=Bs (D:=frkD) (na:=1) (x:=cst 2) (by decide +kernel) (by decide +kernel)
 rcases hr with⟨_,_,⟨n,M,g4,C0,R,rfl,b0⟩|⟨j9,rfl⟩⟩|⟨g5,_⟩
 rotate_left
 ·exact absurd (Nk 2 (by omega)) (j9.not2 H.1 Bh H.2.2.1)
 ·exact absurd ⟨Bh,by decide +kernel⟩ g5
 have l1:=(g4.vm H.1 Bh H.2.2.1 H.2.1 BS).2.1;obtain rfl:M=pM:=g4.closed 2 Ub;clear g4 H;have ZP:=qh l1;clear l1;obtain⟨l6,l8,g6,_,_⟩:=Az b0.top;have g6:_=Value.slice l6 pM.n l8:=g6;subst g6;obtain⟨w3,d3⟩:=exq<|w2.alloc (.cells #[.int .i64 (pM.kind),.int .i64 (pM.start),.string (pM.lead),.slice l6 pM.n l8] 25);obtain⟨i3,k4⟩:=exq<|w2.heap.size;have k7:w3.heap.size=w2.heap.size+1:=by rw[d3];simp
 have hb:Below w2.heap.size w2 w3:=by rw[d3];exact(Below.refl _ w2).alloc nlr _
 have u:Has w3 i3 (pM.kind) (pM.start) (pM.lead) l6 pM.n l8 (pM):=by rw[k4,d3];exact Has.new b0 ⟨rfl,rfl,rfl⟩
 clear b0;replace k:=qh<|k.o.on hb;replace i:=qh<|i.o.on hb;replace j:=qh<|j.o.on hb;replace l:=qh<|l.o.on hb;replace m:=qh<|m.o.on hb;replace c:=qh<|c.o.trans (hb.mono c.o.size);clear hb;have s:=qh u;clear u;obtain⟨bP,m5⟩:∃x,x=i3:=⟨_,rfl⟩;rw[<-m5]at s;obtain⟨w4,d4⟩:=exq<|w3.alloc (.cells #[.int .i64 1] 3);obtain⟨i4,k5⟩:=exq<|w2.heap.size+1;have r9:w4.heap.size=w2.heap.size+1+1:=by rw[d4];simp[k7]
 have hb:Below w3.heap.size w3 w4:=by rw[d4];exact(Below.refl _ w3).alloc nlr _
 have u:Si none w4 (.slice (some (Ad i4 0)) 1 1) 1 (cst 1):=by rw[k5,<-k7,d4];exact Bw (han w3 _) Be (lt1 rfl)
 replace k:=qh<|k.o.on hb;replace i:=qh<|i.o.on hb;replace j:=qh<|j.o.on hb;replace l:=qh<|l.o.on hb;replace m:=qh<|m.o.on hb;replace s:=qh<|s.o.on hb;replace c:=qh<|c.o.trans (hb.mono c.o.size);clear hb;have B:=qh u;clear u;have m0:=cellOf i.o.1 0 rfl;have m1:=cellOf i.o.1 1 rfl;have E:=cellOf i.o.1 2 rfl;have F:=cellOf i.o.1 3 rfl;rw[d4,d3]at m0 m1 E F;have g:=qh<|IR w4 B.o i.o.ma (by omega) BS (l2.o w4 c.o);clear B
 go_wp2_with fail
 clear m0 m1 E F;rw[<-k5,<-k4,<-d3,<-d4];rw[<-m5];clear d3 k7 k4;clear d4 r9 k5;clear m5;refine g.o.mono ?_;rintro r w5⟨hb,hr⟩;replace k:=qh<|k.o.on hb;replace i:=qh<|i.o.on hb;replace j:=qh<|j.o.on hb;replace l:=qh<|l.o.on hb;replace m:=qh<|m.o.on hb;replace s:=qh<|s.o.on hb;replace c:=qh<|c.o.trans (hb.mono c.o.size);clear hb;clear g;have H:=Bs (D:=frkD) (na:=1) (x:=cst 1) (by decide +kernel) (by decide +kernel)
 rcases hr with⟨_,_,⟨n,M,g4,C0,R,rfl,b0⟩|⟨j9,rfl⟩⟩|⟨g5,_⟩
 rotate_left
 ·exact absurd (Nk 1 (by omega)) (j9.not2 H.1 Bh H.2.2.1)
 ·exact absurd ⟨Bh,by decide +kernel⟩ g5
 have l1:=(g4.vm H.1 Bh H.2.2.1 H.2.1 BS).2.1;obtain rfl:M=qM:=g4.closed 1 Uc;clear g4 H;have ZQ:=qh l1;clear l1;obtain⟨l7,l9,g6,_,_⟩:=Az b0.top;have g6:_=Value.slice l7 qM.n l9:=g6;subst g6;obtain⟨w6,a7⟩:=exq<|w5.alloc (.cells #[.int .i64 (qM.kind),.int .i64 (qM.start),.string (qM.lead),.slice l7 qM.n l9] 25);obtain⟨i6,k6⟩:=exq<|w5.heap.size;have k9:w6.heap.size=w5.heap.size+1:=by rw[a7];simp
 have hb:Below w5.heap.size w5 w6:=by rw[a7];exact(Below.refl _ w5).alloc nlr _
 have u:Has w6 i6 (qM.kind) (qM.start) (qM.lead) l7 qM.n l9 (qM):=by rw[k6,a7];exact Has.new b0 ⟨rfl,rfl,rfl⟩
 clear b0;replace k:=qh<|k.o.on hb;replace i:=qh<|i.o.on hb;replace j:=qh<|j.o.on hb;replace l:=qh<|l.o.on hb;replace m:=qh<|m.o.on hb;replace s:=qh<|s.o.on hb;replace c:=qh<|c.o.trans (hb.mono c.o.size);clear hb;have z:=qh u;clear u;obtain⟨bQ,m7⟩:∃x,x=i6:=⟨_,rfl⟩;rw[<-m7]at z;obtain⟨w7,a8⟩:=exq<|w6.alloc (.cells #[.string ⟨#[]⟩,.slice none 0 0] 63);obtain⟨i7,i5⟩:=exq<|w5.heap.size+1;have l0:w7.heap.size=w5.heap.size+1+1:=by rw[a8];simp[k9]
 have hb:Below w6.heap.size w6 w7:=by rw[a8];exact(Below.refl _ w6).alloc nlr _
 have u:w7.heap[i7]?=some (.cells #[.string ⟨#[]⟩,.slice none 0 0] 63 (0,0)):=by rw[i5,<-k9,a8];exact han w6 _
 replace k:=qh<|k.o.on hb;replace i:=qh<|i.o.on hb;replace j:=qh<|j.o.on hb;replace l:=qh<|l.o.on hb;replace m:=qh<|m.o.on hb;replace s:=qh<|s.o.on hb;replace z:=qh<|z.o.on hb;replace c:=qh<|c.o.trans (hb.mono c.o.size);clear hb;have d:=qh u;clear u;obtain⟨w8,a9⟩:=exq<|w7.alloc (.cells #[.int .i64 3,.int .i64 0,.string ⟨#[49]⟩,.slice (some (Ad i7 0)) 1 1] 25);obtain⟨i8,i9⟩:=exq<|w5.heap.size+1+1;have s3:w8.heap.size=w5.heap.size+1+1+1:=by rw[a9];simp[l0]
 have hb:Below w7.heap.size w7 w8:=by rw[a9];exact(Below.refl _ w7).alloc nlr _
 have u:w8.heap[i8]?=some (.cells #[.int .i64 3,.int .i64 0,.string ⟨#[49]⟩,.slice (some (Ad i7 0)) 1 1] 25 (0,0)):=by rw[i9,<-l0,a9];exact han w7 _
 replace k:=qh<|k.o.on hb;replace i:=qh<|i.o.on hb;replace j:=qh<|j.o.on hb;replace l:=qh<|l.o.on hb;replace m:=qh<|m.o.on hb;replace s:=qh<|s.o.on hb;replace z:=qh<|z.o.on hb;replace d:=qh<|(hb.block _ (lbk d.o)).trans d.o;replace c:=qh<|c.o.trans (hb.mono c.o.size);clear hb;have h:=qh u;clear u;obtain⟨bV,l3⟩:∃x,x=i8:=⟨_,rfl⟩;rw[<-l3]at h;have m0:=cellOf k.o.1 0 rfl;have m1:=cellOf k.o.1 1 rfl;have E:=cellOf k.o.1 2 rfl;have F:=cellOf k.o.1 3 rfl;rw[a9,a8,a7]at m0 m1 E F;have n0:=cellOf h.o 0 rfl;have n1:=cellOf h.o 1 rfl;have n2:=cellOf h.o 2 rfl;have n3:=cellOf h.o 3 rfl;rw[a9,a8,a7]at n0 n1 n2 n3;rw[l3,i9]at n0 n1 n2 n3;rw[i5]at m0 m1 E F n0 n1 n2 n3;have g:=qh (Dn w8 k.o.ma (⟨_,rfl,Gu (D:=viD) (A:=λ_=>.slice none 0 0) d.o (by unfold maxLen;decide) (lt1 ⟨rfl,rfl,Rh w8 rfl⟩)⟩:Ma none w8 (.agg #[.int .i64 viD.kind,.int .i64 viD.start,.string viD.lead,.slice (some (Ad i7 0)) viD.n viD.n]) viD) GK Yu (l2.o w8 c.o))
 go_wp2_with fail
 clear m0 m1 E F;clear n0 n1 n2 n3;rw[<-i9,<-i5,<-k6,<-a7,<-a8,<-a9];rw[<-m7];rw[<-l3];clear a7 k9 k6;clear a8 l0 i5;clear a9 s3 i9;clear m7;clear l3;refine g.o.mono ?_;rintro r w9⟨hb,hr⟩;replace k:=qh<|k.o.on hb;replace i:=qh<|i.o.on hb;replace j:=qh<|j.o.on hb;replace l:=qh<|l.o.on hb;replace m:=qh<|m.o.on hb;replace s:=qh<|s.o.on hb;replace z:=qh<|z.o.on hb;replace d:=qh<|(hb.block _ (lbk d.o)).trans d.o;replace h:=qh<|(hb.block _ (lbk h.o)).trans h.o;replace c:=qh<|c.o.trans (hb.mono c.o.size);clear hb;clear g
 rcases hr with⟨_,_,hk,_⟩|⟨_,_,_,rfl⟩|⟨g5,_⟩
 ·exact absurd hk (by decide +kernel)
 rotate_left
 ·exact absurd ⟨Fz,Yv⟩ g5
 unfold AQ;obtain⟨i2,C⟩:=exq<|w9.alloc (.cells #[.int .i64 0,.int .i64 0,.string ⟨#[]⟩,.slice none 0 0] 25);obtain⟨l4,e3⟩:=exq<|w9.heap.size;have m9:i2.heap.size=w9.heap.size+1:=by rw[C];simp
 have hb:Below w9.heap.size w9 i2:=by rw[C];exact(Below.refl _ w9).alloc nlr _
 have u:i2.heap[l4]?=some (.cells #[.int .i64 0,.int .i64 0,.string ⟨#[]⟩,.slice none 0 0] 25 (0,0)):=by rw[e3,C];exact han w9 _
 replace k:=qh<|k.o.on hb;replace i:=qh<|i.o.on hb;replace j:=qh<|j.o.on hb;replace l:=qh<|l.o.on hb;replace m:=qh<|m.o.on hb;replace s:=qh<|s.o.on hb;replace z:=qh<|z.o.on hb;replace d:=qh<|(hb.block _ (lbk d.o)).trans d.o;replace h:=qh<|(hb.block _ (lbk h.o)).trans h.o;replace c:=qh<|c.o.trans (hb.mono c.o.size);clear hb;have o:=qh u;clear u;obtain⟨bJ,m4⟩:∃x,x=l4:=⟨_,rfl⟩;rw[<-m4]at o;have m0:=cellOf k.o.1 0 rfl;have m1:=cellOf k.o.1 1 rfl;have E:=cellOf k.o.1 2 rfl;have F:=cellOf k.o.1 3 rfl;rw[C]at m0 m1 E F;have n0:=cellOf i.o.1 0 rfl;have n1:=cellOf i.o.1 1 rfl;have n2:=cellOf i.o.1 2 rfl;have n3:=cellOf i.o.1 3 rfl;rw[C]at n0 n1 n2 n3;have g:=qh<|FN i2 k.o.ma i.o.ma GK BS (l2.o i2 c.o)
 go_wp2_with fail
 clear m0 m1 E F;clear n0 n1 n2 n3;rw[<-e3,<-C];rw[<-m4];clear C m9 e3;clear m4;refine g.o.mono ?_;rintro r b1⟨hb,hr⟩;replace k:=qh<|k.o.on hb;replace i:=qh<|i.o.on hb;replace j:=qh<|j.o.on hb;replace l:=qh<|l.o.on hb;replace m:=qh<|m.o.on hb;replace s:=qh<|s.o.on hb;replace z:=qh<|z.o.on hb;replace d:=qh<|(hb.block _ (lbk d.o)).trans d.o;replace h:=qh<|(hb.block _ (lbk h.o)).trans h.o;replace o:=qh<|(hb.block _ (lbk o.o)).trans o.o;replace c:=qh<|c.o.trans (hb.mono c.o.size);clear hb;clear g
 rcases hr with⟨_,_,h1,h2,h3,_⟩|⟨_,_,_,rfl⟩|⟨g5,_⟩
 ·exact absurd ⟨h1,h2,h3⟩ UM
 rotate_left
 ·exact absurd ⟨Fz,Bh⟩ g5
 unfold AQ;obtain⟨b2,G⟩:=exq<|b1.alloc (.cells #[.int .i64 0,.int .i64 0,.string ⟨#[]⟩,.slice none 0 0] 25);obtain⟨l5,e4⟩:=exq<|b1.heap.size;have g7:b2.heap.size=b1.heap.size+1:=by rw[G];simp
 have hb:Below b1.heap.size b1 b2:=by rw[G];exact(Below.refl _ b1).alloc nlr _
 have u:b2.heap[l5]?=some (.cells #[.int .i64 0,.int .i64 0,.string ⟨#[]⟩,.slice none 0 0] 25 (0,0)):=by rw[e4,G];exact han b1 _
 replace k:=qh<|k.o.on hb;replace i:=qh<|i.o.on hb;replace j:=qh<|j.o.on hb;replace l:=qh<|l.o.on hb;replace m:=qh<|m.o.on hb;replace s:=qh<|s.o.on hb;replace z:=qh<|z.o.on hb;replace d:=qh<|(hb.block _ (lbk d.o)).trans d.o;replace h:=qh<|(hb.block _ (lbk h.o)).trans h.o;replace o:=qh<|(hb.block _ (lbk o.o)).trans o.o;replace c:=qh<|c.o.trans (hb.mono c.o.size);clear hb;have p:=qh u;clear u;obtain⟨bT,m8⟩:∃x,x=l5:=⟨_,rfl⟩;rw[<-m8]at p;have m0:=cellOf j.o.1 0 rfl;have m1:=cellOf j.o.1 1 rfl;have E:=cellOf j.o.1 2 rfl;have F:=cellOf j.o.1 3 rfl;rw[G]at m0 m1 E F;obtain⟨b3,J⟩:=exq<|b2.alloc (.cells #[.int .i64 1] 3);obtain⟨o7,e5⟩:=exq<|b1.heap.size+1;have g8:b3.heap.size=b1.heap.size+1+1:=by rw[J];simp[g7]
 have hb:Below b2.heap.size b2 b3:=by rw[J];exact(Below.refl _ b2).alloc nlr _
 have u:Si none b3 (.slice (some (Ad o7 0)) 1 1) 1 (cst 1):=by rw[e5,<-g7,J];exact Bw (han b2 _) Be (lt1 rfl)
 replace k:=qh<|k.o.on hb;replace i:=qh<|i.o.on hb;replace j:=qh<|j.o.on hb;replace l:=qh<|l.o.on hb;replace m:=qh<|m.o.on hb;replace s:=qh<|s.o.on hb;replace z:=qh<|z.o.on hb;replace d:=qh<|(hb.block _ (lbk d.o)).trans d.o;replace h:=qh<|(hb.block _ (lbk h.o)).trans h.o;replace o:=qh<|(hb.block _ (lbk o.o)).trans o.o;replace p:=qh<|(hb.block _ (lbk p.o)).trans p.o;replace c:=qh<|c.o.trans (hb.mono c.o.size);clear hb;have B:=qh u;clear u;obtain⟨j0,K⟩:=exq<|b3.alloc (.cells #[.int .i64 3] 3);obtain⟨o8,e6⟩:=exq<|b1.heap.size+1+1;have n5:j0.heap.size=b1.heap.size+1+1+1:=by rw[K];simp[g8]
 have hb:Below b3.heap.size b3 j0:=by rw[K];exact(Below.refl _ b3).alloc nlr _
 have u:Si none j0 (.slice (some (Ad o8 0)) 1 1) 1 (cst 3):=by rw[e6,<-g8,K];exact Bw (han b3 _) Be (lt1 rfl)
 replace k:=qh<|k.o.on hb;replace i:=qh<|i.o.on hb;replace j:=qh<|j.o.on hb;replace l:=qh<|l.o.on hb;replace m:=qh<|m.o.on hb;replace s:=qh<|s.o.on hb;replace z:=qh<|z.o.on hb;replace d:=qh<|(hb.block _ (lbk d.o)).trans d.o;replace h:=qh<|(hb.block _ (lbk h.o)).trans h.o;replace o:=qh<|(hb.block _ (lbk o.o)).trans o.o;replace p:=qh<|(hb.block _ (lbk p.o)).trans p.o;replace B:=qh<|B.o.kept (Ag hb none);replace c:=qh<|c.o.trans (hb.mono c.o.size);clear hb;have I:=qh u;clear u;have g:=qh<|DI j0 j.o.ma ZM.o B.o I.o ev1;clear B I
 go_wp2_with fail
 clear m0 m1 E F;rw[<-e6,<-e5,<-e4,<-G,<-J,<-K];rw[<-m8];clear G g7 e4;clear J g8 e5;clear K n5 e6;clear m8;refine g.o.mono ?_;rintro r d5⟨rfl,hb⟩;replace k:=qh<|k.o.on hb;replace i:=qh<|i.o.on hb;replace j:=qh<|j.o.on hb;replace l:=qh<|l.o.on hb;replace m:=qh<|m.o.on hb;replace s:=qh<|s.o.on hb;replace z:=qh<|z.o.on hb;replace d:=qh<|(hb.block _ (lbk d.o)).trans d.o;replace h:=qh<|(hb.block _ (lbk h.o)).trans h.o;replace o:=qh<|(hb.block _ (lbk o.o)).trans o.o;replace p:=qh<|(hb.block _ (lbk p.o)).trans p.o;replace c:=qh<|c.o.trans (hb.mono c.o.size);clear hb;clear g;have m0:=cellOf j.o.1 0 rfl;have m1:=cellOf j.o.1 1 rfl;have E:=cellOf j.o.1 2 rfl;have F:=cellOf j.o.1 3 rfl;obtain⟨b4,L⟩:=exq<|d5.alloc (.cells #[.int .i64 1] 3);obtain⟨o9,e7⟩:=exq<|d5.heap.size;have g9:b4.heap.size=d5.heap.size+1:=by rw[L];simp
 have hb:Below d5.heap.size d5 b4:=by rw[L];exact(Below.refl _ d5).alloc nlr _
 have u:Si none b4 (.slice (some (Ad o9 0)) 1 1) 1 (cst 1):=by rw[e7,L];exact Bw (han d5 _) Be (lt1 rfl)
 replace k:=qh<|k.o.on hb;replace i:=qh<|i.o.on hb;replace j:=qh<|j.o.on hb;replace l:=qh<|l.o.on hb;replace m:=qh<|m.o.on hb;replace s:=qh<|s.o.on hb;replace z:=qh<|z.o.on hb;replace d:=qh<|(hb.block _ (lbk d.o)).trans d.o;replace h:=qh<|(hb.block _ (lbk h.o)).trans h.o;replace o:=qh<|(hb.block _ (lbk o.o)).trans o.o;replace p:=qh<|(hb.block _ (lbk p.o)).trans p.o;replace c:=qh<|c.o.trans (hb.mono c.o.size);clear hb;have B:=qh u;clear u;obtain⟨j1,N⟩:=exq<|b4.alloc (.cells #[.int .i64 4] 3);obtain⟨p0,e8⟩:=exq<|d5.heap.size+1;have n6:j1.heap.size=d5.heap.size+1+1:=by rw[N];simp[g9]
 have hb:Below b4.heap.size b4 j1:=by rw[N];exact(Below.refl _ b4).alloc nlr _
 have u:Si none j1 (.slice (some (Ad p0 0)) 1 1) 1 (cst 4):=by rw[e8,<-g9,N];exact Bw (han b4 _) Be (lt1 rfl)
 replace k:=qh<|k.o.on hb;replace i:=qh<|i.o.on hb;replace j:=qh<|j.o.on hb;replace l:=qh<|l.o.on hb;replace m:=qh<|m.o.on hb;replace s:=qh<|s.o.on hb;replace z:=qh<|z.o.on hb;replace d:=qh<|(hb.block _ (lbk d.o)).trans d.o;replace h:=qh<|(hb.block _ (lbk h.o)).trans h.o;replace o:=qh<|(hb.block _ (lbk o.o)).trans o.o;replace p:=qh<|(hb.block _ (lbk p.o)).trans p.o;replace B:=qh<|B.o.kept (Ag hb none);replace c:=qh<|c.o.trans (hb.mono c.o.size);clear hb;have I:=qh u;clear u;have g:=qh<|DI j1 j.o.ma ZM.o B.o I.o ev2;clear B I
 go_wp2_with fail
 clear m0 m1 E F;rw[<-e8,<-e7,<-L,<-N];clear L g9 e7;clear N n6 e8;refine g.o.mono ?_;rintro r d6⟨rfl,hb⟩;replace k:=qh<|k.o.on hb;replace i:=qh<|i.o.on hb;replace j:=qh<|j.o.on hb;replace l:=qh<|l.o.on hb;replace m:=qh<|m.o.on hb;replace s:=qh<|s.o.on hb;replace z:=qh<|z.o.on hb;replace d:=qh<|(hb.block _ (lbk d.o)).trans d.o;replace h:=qh<|(hb.block _ (lbk h.o)).trans h.o;replace o:=qh<|(hb.block _ (lbk o.o)).trans o.o;replace p:=qh<|(hb.block _ (lbk p.o)).trans p.o;replace c:=qh<|c.o.trans (hb.mono c.o.size);clear hb;clear g;have m0:=cellOf j.o.1 0 rfl;have m1:=cellOf j.o.1 1 rfl;have E:=cellOf j.o.1 2 rfl;have F:=cellOf j.o.1 3 rfl;obtain⟨b5,O⟩:=exq<|d6.alloc (.cells #[.int .i64 1] 3);obtain⟨p6,e9⟩:=exq<|d6.heap.size;have h0:b5.heap.size=d6.heap.size+1:=by rw[O];simp
 have hb:Below d6.heap.size d6 b5:=by rw[O];exact(Below.refl _ d6).alloc nlr _
 have u:Si none b5 (.slice (some (Ad p6 0)) 1 1) 1 (cst 1):=by rw[e9,O];exact Bw (han d6 _) Be (lt1 rfl)
 replace k:=qh<|k.o.on hb;replace i:=qh<|i.o.on hb;replace j:=qh<|j.o.on hb;replace l:=qh<|l.o.on hb;replace m:=qh<|m.o.on hb;replace s:=qh<|s.o.on hb;replace z:=qh<|z.o.on hb;replace d:=qh<|(hb.block _ (lbk d.o)).trans d.o;replace h:=qh<|(hb.block _ (lbk h.o)).trans h.o;replace o:=qh<|(hb.block _ (lbk o.o)).trans o.o;replace p:=qh<|(hb.block _ (lbk p.o)).trans p.o;replace c:=qh<|c.o.trans (hb.mono c.o.size);clear hb;have B:=qh u;clear u;obtain⟨j2,P⟩:=exq<|b5.alloc (.cells #[.int .i64 2] 3);obtain⟨p7,f0⟩:=exq<|d6.heap.size+1;have n7:j2.heap.size=d6.heap.size+1+1:=by rw[P];simp[h0]
 have hb:Below b5.heap.size b5 j2:=by rw[P];exact(Below.refl _ b5).alloc nlr _
 have u:Si none j2 (.slice (some (Ad p7 0)) 1 1) 1 (cst 2):=by rw[f0,<-h0,P];exact Bw (han b5 _) Be (lt1 rfl)
 replace k:=qh<|k.o.on hb;replace i:=qh<|i.o.on hb;replace j:=qh<|j.o.on hb;replace l:=qh<|l.o.on hb;replace m:=qh<|m.o.on hb;replace s:=qh<|s.o.on hb;replace z:=qh<|z.o.on hb;replace d:=qh<|(hb.block _ (lbk d.o)).trans d.o;replace h:=qh<|(hb.block _ (lbk h.o)).trans h.o;replace o:=qh<|(hb.block _ (lbk o.o)).trans o.o;replace p:=qh<|(hb.block _ (lbk p.o)).trans p.o;replace B:=qh<|B.o.kept (Ag hb none);replace c:=qh<|c.o.trans (hb.mono c.o.size);clear hb;have I:=qh u;clear u;have g:=qh<|DI j2 j.o.ma ZM.o B.o I.o ev3;clear B I;unfold infT at g
 go_wp2_with fail
 clear m0 m1 E F;rw[<-f0,<-e9,<-O,<-P];clear O h0 e9;clear P n7 f0;refine g.o.mono ?_;rintro r d7⟨rfl,hb⟩;replace k:=qh<|k.o.on hb;replace i:=qh<|i.o.on hb;replace j:=qh<|j.o.on hb;replace l:=qh<|l.o.on hb;replace m:=qh<|m.o.on hb;replace s:=qh<|s.o.on hb;replace z:=qh<|z.o.on hb;replace d:=qh<|(hb.block _ (lbk d.o)).trans d.o;replace h:=qh<|(hb.block _ (lbk h.o)).trans h.o;replace o:=qh<|(hb.block _ (lbk o.o)).trans o.o;replace p:=qh<|(hb.block _ (lbk p.o)).trans p.o;replace c:=qh<|c.o.trans (hb.mono c.o.size);clear hb;clear g;have m0:=cellOf l.o.1 0 rfl;have m1:=cellOf l.o.1 1 rfl;have E:=cellOf l.o.1 2 rfl;have F:=cellOf l.o.1 3 rfl;obtain⟨b6,Q⟩:=exq<|d7.alloc (.cells #[.int .i64 1,.int .i64 1] 3);obtain⟨p8,f1⟩:=exq<|d7.heap.size;have h4:b6.heap.size=d7.heap.size+1:=by rw[Q];simp
 have hb:Below d7.heap.size d7 b6:=by rw[Q];exact(Below.refl _ d7).alloc nlr _
 have u:Si none b6 (.slice (some (Ad p8 0)) 2 2) 2 (cst 1):=by rw[f1,Q];exact Bw (han d7 _) EG (lt2 rfl rfl)
 replace k:=qh<|k.o.on hb;replace i:=qh<|i.o.on hb;replace j:=qh<|j.o.on hb;replace l:=qh<|l.o.on hb;replace m:=qh<|m.o.on hb;replace s:=qh<|s.o.on hb;replace z:=qh<|z.o.on hb;replace d:=qh<|(hb.block _ (lbk d.o)).trans d.o;replace h:=qh<|(hb.block _ (lbk h.o)).trans h.o;replace o:=qh<|(hb.block _ (lbk o.o)).trans o.o;replace p:=qh<|(hb.block _ (lbk p.o)).trans p.o;replace c:=qh<|c.o.trans (hb.mono c.o.size);clear hb;have B:=qh u;clear u;obtain⟨j3,S⟩:=exq<|b6.alloc (.cells #[.int .i64 3] 3);obtain⟨p9,f2⟩:=exq<|d7.heap.size+1;have n9:j3.heap.size=d7.heap.size+1+1:=by rw[S];simp[h4]
 have hb:Below b6.heap.size b6 j3:=by rw[S];exact(Below.refl _ b6).alloc nlr _
 have u:Si none j3 (.slice (some (Ad p9 0)) 1 1) 1 (cst 3):=by rw[f2,<-h4,S];exact Bw (han b6 _) Be (lt1 rfl)
 replace k:=qh<|k.o.on hb;replace i:=qh<|i.o.on hb;replace j:=qh<|j.o.on hb;replace l:=qh<|l.o.on hb;replace m:=qh<|m.o.on hb;replace s:=qh<|s.o.on hb;replace z:=qh<|z.o.on hb;replace d:=qh<|(hb.block _ (lbk d.o)).trans d.o;replace h:=qh<|(hb.block _ (lbk h.o)).trans h.o;replace o:=qh<|(hb.block _ (lbk o.o)).trans o.o;replace p:=qh<|(hb.block _ (lbk p.o)).trans p.o;replace B:=qh<|B.o.kept (Ag hb none);replace c:=qh<|c.o.trans (hb.mono c.o.size);clear hb;have I:=qh u;clear u;have g:=qh<|DI j3 l.o.ma ZN.o B.o I.o ev4;clear B I
 go_wp2_with fail
 clear m0 m1 E F;rw[<-f2,<-f1,<-Q,<-S];clear Q h4 f1;clear S n9 f2;refine g.o.mono ?_;rintro r d8⟨rfl,hb⟩;replace k:=qh<|k.o.on hb;replace i:=qh<|i.o.on hb;replace j:=qh<|j.o.on hb;replace l:=qh<|l.o.on hb;replace m:=qh<|m.o.on hb;replace s:=qh<|s.o.on hb;replace z:=qh<|z.o.on hb;replace d:=qh<|(hb.block _ (lbk d.o)).trans d.o;replace h:=qh<|(hb.block _ (lbk h.o)).trans h.o;replace o:=qh<|(hb.block _ (lbk o.o)).trans o.o;replace p:=qh<|(hb.block _ (lbk p.o)).trans p.o;replace c:=qh<|c.o.trans (hb.mono c.o.size);clear hb;clear g;have m0:=cellOf l.o.1 0 rfl;have m1:=cellOf l.o.1 1 rfl;have E:=cellOf l.o.1 2 rfl;have F:=cellOf l.o.1 3 rfl;obtain⟨b7,T⟩:=exq<|d8.alloc (.cells #[.int .i64 1] 3);obtain⟨q7,f3⟩:=exq<|d8.heap.size;have h5:b7.heap.size=d8.heap.size+1:=by rw[T];simp
 have hb:Below d8.heap.size d8 b7:=by rw[T];exact(Below.refl _ d8).alloc nlr _
 have u:Si none b7 (.slice (some (Ad q7 0)) 1 1) 1 (cst 1):=by rw[f3,T];exact Bw (han d8 _) Be (lt1 rfl)
 replace k:=qh<|k.o.on hb;replace i:=qh<|i.o.on hb;replace j:=qh<|j.o.on hb;replace l:=qh<|l.o.on hb;replace m:=qh<|m.o.on hb;replace s:=qh<|s.o.on hb;replace z:=qh<|z.o.on hb;replace d:=qh<|(hb.block _ (lbk d.o)).trans d.o;replace h:=qh<|(hb.block _ (lbk h.o)).trans h.o;replace o:=qh<|(hb.block _ (lbk o.o)).trans o.o;replace p:=qh<|(hb.block _ (lbk p.o)).trans p.o;replace c:=qh<|c.o.trans (hb.mono c.o.size);clear hb;have B:=qh u;clear u;obtain⟨j4,U⟩:=exq<|b7.alloc (.cells #[.int .i64 3] 3);obtain⟨q8,f4⟩:=exq<|d8.heap.size+1;have o2:j4.heap.size=d8.heap.size+1+1:=by rw[U];simp[h5]
 have hb:Below b7.heap.size b7 j4:=by rw[U];exact(Below.refl _ b7).alloc nlr _
 have u:Si none j4 (.slice (some (Ad q8 0)) 1 1) 1 (cst 3):=by rw[f4,<-h5,U];exact Bw (han b7 _) Be (lt1 rfl)
 replace k:=qh<|k.o.on hb;replace i:=qh<|i.o.on hb;replace j:=qh<|j.o.on hb;replace l:=qh<|l.o.on hb;replace m:=qh<|m.o.on hb;replace s:=qh<|s.o.on hb;replace z:=qh<|z.o.on hb;replace d:=qh<|(hb.block _ (lbk d.o)).trans d.o;replace h:=qh<|(hb.block _ (lbk h.o)).trans h.o;replace o:=qh<|(hb.block _ (lbk o.o)).trans o.o;replace p:=qh<|(hb.block _ (lbk p.o)).trans p.o;replace B:=qh<|B.o.kept (Ag hb none);replace c:=qh<|c.o.trans (hb.mono c.o.size);clear hb;have I:=qh u;clear u;have g:=qh<|DI j4 l.o.ma ZN.o B.o I.o ev5;clear B I;unfold infT at g
 go_wp2_with fail
 clear m0 m1 E F;rw[<-f4,<-f3,<-T,<-U];clear T h5 f3;clear U o2 f4;refine g.o.mono ?_;rintro r d9⟨rfl,hb⟩;replace k:=qh<|k.o.on hb;replace i:=qh<|i.o.on hb;replace j:=qh<|j.o.on hb;replace l:=qh<|l.o.on hb;replace m:=qh<|m.o.on hb;replace s:=qh<|s.o.on hb;replace z:=qh<|z.o.on hb;replace d:=qh<|(hb.block _ (lbk d.o)).trans d.o;replace h:=qh<|(hb.block _ (lbk h.o)).trans h.o;replace o:=qh<|(hb.block _ (lbk o.o)).trans o.o;replace p:=qh<|(hb.block _ (lbk p.o)).trans p.o;replace c:=qh<|c.o.trans (hb.mono c.o.size);clear hb;clear g;have m0:=cellOf m.o.1 0 rfl;have m1:=cellOf m.o.1 1 rfl;have E:=cellOf m.o.1 2 rfl;have F:=cellOf m.o.1 3 rfl;obtain⟨b8,X⟩:=exq<|d9.alloc (.cells #[.int .i64 1,.int .i64 1] 3);obtain⟨q9,f5⟩:=exq<|d9.heap.size;have h6:b8.heap.size=d9.heap.size+1:=by rw[X];simp
 have hb:Below d9.heap.size d9 b8:=by rw[X];exact(Below.refl _ d9).alloc nlr _
 have u:Si none b8 (.slice (some (Ad q9 0)) 2 2) 2 (cst 1):=by rw[f5,X];exact Bw (han d9 _) EG (lt2 rfl rfl)
 replace k:=qh<|k.o.on hb;replace i:=qh<|i.o.on hb;replace j:=qh<|j.o.on hb;replace l:=qh<|l.o.on hb;replace m:=qh<|m.o.on hb;replace s:=qh<|s.o.on hb;replace z:=qh<|z.o.on hb;replace d:=qh<|(hb.block _ (lbk d.o)).trans d.o;replace h:=qh<|(hb.block _ (lbk h.o)).trans h.o;replace o:=qh<|(hb.block _ (lbk o.o)).trans o.o;replace p:=qh<|(hb.block _ (lbk p.o)).trans p.o;replace c:=qh<|c.o.trans (hb.mono c.o.size);clear hb;have B:=qh u;clear u;obtain⟨j5,Y⟩:=exq<|b8.alloc (.cells #[.int .i64 1,.int .i64 1] 3);obtain⟨r0,f7⟩:=exq<|d9.heap.size+1;have o3:j5.heap.size=d9.heap.size+1+1:=by rw[Y];simp[h6]
 have hb:Below b8.heap.size b8 j5:=by rw[Y];exact(Below.refl _ b8).alloc nlr _
 have u:Si none j5 (.slice (some (Ad r0 0)) 2 2) 2 (cst 1):=by rw[f7,<-h6,Y];exact Bw (han b8 _) EG (lt2 rfl rfl)
 replace k:=qh<|k.o.on hb;replace i:=qh<|i.o.on hb;replace j:=qh<|j.o.on hb;replace l:=qh<|l.o.on hb;replace m:=qh<|m.o.on hb;replace s:=qh<|s.o.on hb;replace z:=qh<|z.o.on hb;replace d:=qh<|(hb.block _ (lbk d.o)).trans d.o;replace h:=qh<|(hb.block _ (lbk h.o)).trans h.o;replace o:=qh<|(hb.block _ (lbk o.o)).trans o.o;replace p:=qh<|(hb.block _ (lbk p.o)).trans p.o;replace B:=qh<|B.o.kept (Ag hb none);replace c:=qh<|c.o.trans (hb.mono c.o.size);clear hb;have I:=qh u;clear u;have g:=qh<|DI j5 m.o.ma ZO.o B.o I.o ev6;clear B I
 go_wp2_with fail
 clear m0 m1 E F;rw[<-f7,<-f5,<-X,<-Y];clear X h6 f5;clear Y o3 f7;refine g.o.mono ?_;rintro r e0⟨rfl,hb⟩;replace k:=qh<|k.o.on hb;replace i:=qh<|i.o.on hb;replace j:=qh<|j.o.on hb;replace l:=qh<|l.o.on hb;replace m:=qh<|m.o.on hb;replace s:=qh<|s.o.on hb;replace z:=qh<|z.o.on hb;replace d:=qh<|(hb.block _ (lbk d.o)).trans d.o;replace h:=qh<|(hb.block _ (lbk h.o)).trans h.o;replace o:=qh<|(hb.block _ (lbk o.o)).trans o.o;replace p:=qh<|(hb.block _ (lbk p.o)).trans p.o;replace c:=qh<|c.o.trans (hb.mono c.o.size);clear hb;clear g;have m0:=cellOf m.o.1 0 rfl;have m1:=cellOf m.o.1 1 rfl;have E:=cellOf m.o.1 2 rfl;have F:=cellOf m.o.1 3 rfl;obtain⟨b9,Z⟩:=exq<|e0.alloc (.cells #[.int .i64 1] 3);obtain⟨r2,f8⟩:=exq<|e0.heap.size;have h7:b9.heap.size=e0.heap.size+1:=by rw[Z];simp
 have hb:Below e0.heap.size e0 b9:=by rw[Z];exact(Below.refl _ e0).alloc nlr _
 have u:Si none b9 (.slice (some (Ad r2 0)) 1 1) 1 (cst 1):=by rw[f8,Z];exact Bw (han e0 _) Be (lt1 rfl)
 replace k:=qh<|k.o.on hb;replace i:=qh<|i.o.on hb;replace j:=qh<|j.o.on hb;replace l:=qh<|l.o.on hb;replace m:=qh<|m.o.on hb;replace s:=qh<|s.o.on hb;replace z:=qh<|z.o.on hb;replace d:=qh<|(hb.block _ (lbk d.o)).trans d.o;replace h:=qh<|(hb.block _ (lbk h.o)).trans h.o;replace o:=qh<|(hb.block _ (lbk o.o)).trans o.o;replace p:=qh<|(hb.block _ (lbk p.o)).trans p.o;replace c:=qh<|c.o.trans (hb.mono c.o.size);clear hb;have B:=qh u;clear u;obtain⟨j6,a1⟩:=exq<|b9.alloc (.cells #[.int .i64 1] 3);obtain⟨r3,f9⟩:=exq<|e0.heap.size+1;have o4:j6.heap.size=e0.heap.size+1+1:=by rw[a1];simp[h7]
 have hb:Below b9.heap.size b9 j6:=by rw[a1];exact(Below.refl _ b9).alloc nlr _
 have u:Si none j6 (.slice (some (Ad r3 0)) 1 1) 1 (cst 1):=by rw[f9,<-h7,a1];exact Bw (han b9 _) Be (lt1 rfl)
 replace k:=qh<|k.o.on hb;replace i:=qh<|i.o.on hb;replace j:=qh<|j.o.on hb;replace l:=qh<|l.o.on hb;replace m:=qh<|m.o.on hb;replace s:=qh<|s.o.on hb;replace z:=qh<|z.o.on hb;replace d:=qh<|(hb.block _ (lbk d.o)).trans d.o;replace h:=qh<|(hb.block _ (lbk h.o)).trans h.o;replace o:=qh<|(hb.block _ (lbk o.o)).trans o.o;replace p:=qh<|(hb.block _ (lbk p.o)).trans p.o;replace B:=qh<|B.o.kept (Ag hb none);replace c:=qh<|c.o.trans (hb.mono c.o.size);clear hb;have I:=qh u;clear u;have g:=qh<|DI j6 m.o.ma ZO.o B.o I.o ev7;clear B I;unfold infT at g
 go_wp2_with fail
 clear m0 m1 E F;rw[<-f9,<-f8,<-Z,<-a1];clear Z h7 f8;clear a1 o4 f9;refine g.o.mono ?_;rintro r e1⟨rfl,hb⟩;replace k:=qh<|k.o.on hb;replace i:=qh<|i.o.on hb;replace j:=qh<|j.o.on hb;replace l:=qh<|l.o.on hb;replace m:=qh<|m.o.on hb;replace s:=qh<|s.o.on hb;replace z:=qh<|z.o.on hb;replace d:=qh<|(hb.block _ (lbk d.o)).trans d.o;replace h:=qh<|(hb.block _ (lbk h.o)).trans h.o;replace o:=qh<|(hb.block _ (lbk o.o)).trans o.o;replace p:=qh<|(hb.block _ (lbk p.o)).trans p.o;replace c:=qh<|c.o.trans (hb.mono c.o.size);clear hb;clear g;have m0:=cellOf s.o.1 0 rfl;have m1:=cellOf s.o.1 1 rfl;have E:=cellOf s.o.1 2 rfl;have F:=cellOf s.o.1 3 rfl;obtain⟨d0,a2⟩:=exq<|e1.alloc (.cells #[.int .i64 2] 3);obtain⟨r4,g0⟩:=exq<|e1.heap.size;have h8:d0.heap.size=e1.heap.size+1:=by rw[a2];simp
 have hb:Below e1.heap.size e1 d0:=by rw[a2];exact(Below.refl _ e1).alloc nlr _
 have u:Si none d0 (.slice (some (Ad r4 0)) 1 1) 1 (cst 2):=by rw[g0,a2];exact Bw (han e1 _) Be (lt1 rfl)
 replace k:=qh<|k.o.on hb;replace i:=qh<|i.o.on hb;replace j:=qh<|j.o.on hb;replace l:=qh<|l.o.on hb;replace m:=qh<|m.o.on hb;replace s:=qh<|s.o.on hb;replace z:=qh<|z.o.on hb;replace d:=qh<|(hb.block _ (lbk d.o)).trans d.o;replace h:=qh<|(hb.block _ (lbk h.o)).trans h.o;replace o:=qh<|(hb.block _ (lbk o.o)).trans o.o;replace p:=qh<|(hb.block _ (lbk p.o)).trans p.o;replace c:=qh<|c.o.trans (hb.mono c.o.size);clear hb;have B:=qh u;clear u;obtain⟨j7,a4⟩:=exq<|d0.alloc (.cells #[.int .i64 3] 3);obtain⟨r5,g1⟩:=exq<|e1.heap.size+1;have o5:j7.heap.size=e1.heap.size+1+1:=by rw[a4];simp[h8]
 have hb:Below d0.heap.size d0 j7:=by rw[a4];exact(Below.refl _ d0).alloc nlr _
 have u:Si none j7 (.slice (some (Ad r5 0)) 1 1) 1 (cst 3):=by rw[g1,<-h8,a4];exact Bw (han d0 _) Be (lt1 rfl)
 replace k:=qh<|k.o.on hb;replace i:=qh<|i.o.on hb;replace j:=qh<|j.o.on hb;replace l:=qh<|l.o.on hb;replace m:=qh<|m.o.on hb;replace s:=qh<|s.o.on hb;replace z:=qh<|z.o.on hb;replace d:=qh<|(hb.block _ (lbk d.o)).trans d.o;replace h:=qh<|(hb.block _ (lbk h.o)).trans h.o;replace o:=qh<|(hb.block _ (lbk o.o)).trans o.o;replace p:=qh<|(hb.block _ (lbk p.o)).trans p.o;replace B:=qh<|B.o.kept (Ag hb none);replace c:=qh<|c.o.trans (hb.mono c.o.size);clear hb;have I:=qh u;clear u;have g:=qh<|DI j7 s.o.ma ZP.o B.o I.o ev8;clear B I
 go_wp2_with fail
 clear m0 m1 E F;rw[<-g1,<-g0,<-a2,<-a4];clear a2 h8 g0;clear a4 o5 g1;refine g.o.mono ?_;rintro r e2⟨rfl,hb⟩;replace k:=qh<|k.o.on hb;replace i:=qh<|i.o.on hb;replace j:=qh<|j.o.on hb;replace l:=qh<|l.o.on hb;replace m:=qh<|m.o.on hb;replace s:=qh<|s.o.on hb;replace z:=qh<|z.o.on hb;replace d:=qh<|(hb.block _ (lbk d.o)).trans d.o;replace h:=qh<|(hb.block _ (lbk h.o)).trans h.o;replace o:=qh<|(hb.block _ (lbk o.o)).trans o.o;replace p:=qh<|(hb.block _ (lbk p.o)).trans p.o;replace c:=qh<|c.o.trans (hb.mono c.o.size);clear hb;clear g;have m0:=cellOf z.o.1 0 rfl;have m1:=cellOf z.o.1 1 rfl;have E:=cellOf z.o.1 2 rfl;have F:=cellOf z.o.1 3 rfl;obtain⟨d1,a5⟩:=exq<|e2.alloc (.cells #[.int .i64 2] 3);obtain⟨r6,g2⟩:=exq<|e2.heap.size;have h9:d1.heap.size=e2.heap.size+1:=by rw[a5];simp
 have hb:Below e2.heap.size e2 d1:=by rw[a5];exact(Below.refl _ e2).alloc nlr _
 have u:Si none d1 (.slice (some (Ad r6 0)) 1 1) 1 (cst 2):=by rw[g2,a5];exact Bw (han e2 _) Be (lt1 rfl)
 replace k:=qh<|k.o.on hb;replace i:=qh<|i.o.on hb;replace j:=qh<|j.o.on hb;replace l:=qh<|l.o.on hb;replace m:=qh<|m.o.on hb;replace s:=qh<|s.o.on hb;replace z:=qh<|z.o.on hb;replace d:=qh<|(hb.block _ (lbk d.o)).trans d.o;replace h:=qh<|(hb.block _ (lbk h.o)).trans h.o;replace o:=qh<|(hb.block _ (lbk o.o)).trans o.o;replace p:=qh<|(hb.block _ (lbk p.o)).trans p.o;replace c:=qh<|c.o.trans (hb.mono c.o.size);clear hb;have B:=qh u;clear u;obtain⟨j8,a6⟩:=exq<|d1.alloc (.cells #[.int .i64 3] 3);obtain⟨r7,g3⟩:=exq<|e2.heap.size+1;have o6:j8.heap.size=e2.heap.size+1+1:=by rw[a6];simp[h9]
 have hb:Below d1.heap.size d1 j8:=by rw[a6];exact(Below.refl _ d1).alloc nlr _
 have u:Si none j8 (.slice (some (Ad r7 0)) 1 1) 1 (cst 3):=by rw[g3,<-h9,a6];exact Bw (han d1 _) Be (lt1 rfl)
 replace k:=qh<|k.o.on hb;replace i:=qh<|i.o.on hb;replace j:=qh<|j.o.on hb;replace l:=qh<|l.o.on hb;replace m:=qh<|m.o.on hb;replace s:=qh<|s.o.on hb;replace z:=qh<|z.o.on hb;replace d:=qh<|(hb.block _ (lbk d.o)).trans d.o;replace h:=qh<|(hb.block _ (lbk h.o)).trans h.o;replace o:=qh<|(hb.block _ (lbk o.o)).trans o.o;replace p:=qh<|(hb.block _ (lbk p.o)).trans p.o;replace B:=qh<|B.o.kept (Ag hb none);replace c:=qh<|c.o.trans (hb.mono c.o.size);clear hb;have I:=qh u;clear u;have g:=qh<|DI j8 z.o.ma ZQ.o B.o I.o ev9;clear B I;unfold infT at g
 go_wp2_with fail
 clear m0 m1 E F;rw[<-g3,<-g2,<-a5,<-a6];clear a5 h9 g2;clear a6 o6 g3;refine g.o.mono ?_;rintro r L1⟨rfl,hb⟩;replace k:=qh<|k.o.on hb;replace i:=qh<|i.o.on hb;replace j:=qh<|j.o.on hb;replace l:=qh<|l.o.on hb;replace m:=qh<|m.o.on hb;replace s:=qh<|s.o.on hb;replace z:=qh<|z.o.on hb;replace d:=qh<|(hb.block _ (lbk d.o)).trans d.o;replace h:=qh<|(hb.block _ (lbk h.o)).trans h.o;replace o:=qh<|(hb.block _ (lbk o.o)).trans o.o;replace p:=qh<|(hb.block _ (lbk p.o)).trans p.o;replace c:=qh<|c.o.trans (hb.mono c.o.size);clear hb;clear g;go_wp2;go_ret;exact⟨rfl,c.o⟩
end
end Go.Proofs.YtpldocnhbdlgfaaGreatDoor
