/- Parts. -/
import Derived.Test.YtpldocnhbdlgfaaGreatDoorPc47
import Derived.Test.YtpldocnhbdlgfaaGreatDoorPc48
import Derived.Test.YtpldocnhbdlgfaaGreatDoorPc37
import Derived.Test.YtpldocnhbdlgfaaGreatDoorPc40
namespace Go.Proofs.YtpldocnhbdlgfaaGreatDoor
set_option maxRecDepth 100000
set_option linter.all false
set_option maxHeartbeats 16000000
open Go Tryz
section
open Go.RowKit Go.Deep
set_option maxRecDepth 1000000 in
theorem awk3{y7 y8 y9 p9 q7 q8 q9 r4 r5 r6 r7 r8 r9 s3 s4 s5 s6 s7 s8 s9 t7 t8 t9 v0 v2 v3 v4 v5 v6 v7 v8 v9 w0 x0 x1 x2 x3 x4 x5 x6 x7 x8 x9 y0 y1 y2 y3 y4 y5 y6 z1 z2 z3 z4 z5 z6 z7 z8 z9 A0 A1 A2 A3 A4 A5 A6 A7 A8 A9 B0 B1 B2 B3 B4 B5 B6 B7 B8 B9 C0 C1 C2 C3 C4 C5 C6 C7 C8 C9 D0 D1 D2 D3 g7 g8 g9 h0 h1 h2 h3 h4 h5 h6 h7 h8 h9 i5 i6 i8 j0 j1 j2 j3 j4 j5 j6 j7 j8 j9 k0 k4 k5 k6 k7 k9 l0 l1 l2 l3 l4 l5 l6 l7 l8 l9 m2 m3 m4 m5 m7 m8 m9 n5 n6 n7 n9 o2 o3 o4 o5:Value}{w W:World}{bA bB bM bN:Nat}{o6 o7 o8 o9:Option Addr}{p0 p6 p7 p8:Nat}(b5:Hd (∀W,Below w.heap.size w W->Tab W))(c:Hd (Below w.heap.size w W))(z:Hd (Has W bA (Ab eA).kind (Ab eA).start (Ab eA).lead o6 (Ab eA).n p0 (Ab eA)))(B:Hd (Has W bB frkD.kind frkD.start frkD.lead o7 frkD.n p6 frkD))(C:Hd (Has W bM mM.kind mM.start mM.lead o8 mM.n p7 mM))(E:Hd (Has W bN nM.kind nM.start nM.lead o9 nM.n p8 nM))(ZM:Hd (MSz mM))(ZN:Hd (MSz nM)):
  Code.wp prog (seqR 4 CR) (bodyPost prog f11 (TrueB w)) ⟨List.toArray (.bool false::.pointer (some (Ad bA 0))::.pointer (some (Ad bB 0))::.pointer (some (Ad bM 0))::.int .i64 0::.pointer (some (Ad bN 0))::.int .i64 0::y7::y8::y9::p9::q7::q8::q9::r4::r5::r6::r7::r8::r9::s3::s4::s5::s6::s7::s8::s9::t7::t8::t9::v0::v2::v3::v4::v5::v6::v7::v8::v9::w0::x0::x1::x2::x3::x4::x5::x6::x7::x8::x9::y0::y1::y2::y3::y4::y5::y6::z1::z2::z3::z4::z5::z6::z7::z8::z9::A0::A1::A2::A3::A4::A5::A6::A7::A8::A9::B0::B1::B2::B3::B4::B5::B6::B7::B8::B9::C0::C1::C2::C3::C4::C5::C6::C7::C8::C9::D0::D1::D2::D3::g7::g8::g9::h0::h1::h2::h3::h4::h5::h6::h7::h8::h9::i5::i6::i8::j0::j1::j2::j3::j4::j5::j6::j7::j8::j9::k0::k4::k5::k6::k7::k9::l0::l1::l2::l3::l4::l5::l6::l7::l8::l9::m2::m3::m4::m5::m7::m8::m9::n5::n6::n7::n9::o2::o3::o4::o5::[]),[]⟩ W:=by
 obtain⟨X,hX⟩:=exq<|seqR 6 CR;have hp:=Vj;rw[<-hX]at hp;rw[<-hp];replace hX:=qh hX;clear hp
 conv=>arg 2;whnf
 conv=>arg 2;arg 2;whnf
 conv=>arg 2;arg 2;arg 2;whnf
 obtain⟨w1,b7⟩:=exq<|W.alloc (.cells #[.int .i64 1,.int .i64 1,.string ⟨#[49]⟩,.int .i64 0] 59);obtain⟨i1,d9⟩:=exq<|W.heap.size;have e5:w1.heap.size=W.heap.size+1:=by rw[b7];simp
 have hb:Below W.heap.size W w1:=by rw[b7];exact(Below.refl _ W).alloc nlr _
 have hh:w1.heap[i1]?=some (.cells #[.int .i64 1,.int .i64 1,.string ⟨#[49]⟩,.int .i64 0] 59 (0,0)):=by rw[d9,b7];exact han W _
 replace z:=qh<|z.o.on hb;replace B:=qh<|B.o.on hb;replace C:=qh<|C.o.on hb;replace E:=qh<|E.o.on hb;replace c:=qh<|c.o.trans (hb.mono c.o.size);clear hb;have g:=qh hh;clear hh;obtain⟨w2,b8⟩:=exq<|w1.alloc (.cells #[.string ⟨#[48]⟩,.slice (some (Ad i1 0)) 1 1] 63);obtain⟨i2,e0⟩:=exq<|W.heap.size+1;have e6:w2.heap.size=W.heap.size+1+1:=by rw[b8];simp[e5]
 have hb:Below w1.heap.size w1 w2:=by rw[b8];exact(Below.refl _ w1).alloc nlr _
 have hh:w2.heap[i2]?=some (.cells #[.string ⟨#[48]⟩,.slice (some (Ad i1 0)) 1 1] 63 (0,0)):=by rw[e0,<-e5,b8];exact han w1 _
 replace z:=qh<|z.o.on hb;replace B:=qh<|B.o.on hb;replace C:=qh<|C.o.on hb;replace E:=qh<|E.o.on hb;replace g:=qh<|(hb.block _ (lbk g.o)).trans g.o;replace c:=qh<|c.o.trans (hb.mono c.o.size);clear hb;have h:=qh hh;clear hh;obtain⟨w3,b9⟩:=exq<|w2.alloc (.cells #[.int .i64 1,.int .i64 0,.string ⟨#[48]⟩,.slice (some (Ad i2 0)) 1 1] 25);obtain⟨i3,e1⟩:=exq<|W.heap.size+1+1;have g0:w3.heap.size=W.heap.size+1+1+1:=by rw[b9];simp[e6]
 have hb:Below w2.heap.size w2 w3:=by rw[b9];exact(Below.refl _ w2).alloc nlr _
 have hh:w3.heap[i3]?=some (.cells #[.int .i64 1,.int .i64 0,.string ⟨#[48]⟩,.slice (some (Ad i2 0)) 1 1] 25 (0,0)):=by rw[e1,<-e6,b9];exact han w2 _
 replace z:=qh<|z.o.on hb;replace B:=qh<|B.o.on hb;replace C:=qh<|C.o.on hb;replace E:=qh<|E.o.on hb;replace g:=qh<|(hb.block _ (lbk g.o)).trans g.o;replace h:=qh<|(hb.block _ (lbk h.o)).trans h.o;replace c:=qh<|c.o.trans (hb.mono c.o.size);clear hb;have m:=qh hh;clear hh;obtain⟨bS,e9⟩:∃x,x=i3:=⟨_,rfl⟩;rw[<-e9]at m;obtain⟨wd,f4⟩:=exq<|w3.drew;have hb:Below w3.heap.size w3 wd:=by rw[f4];exact(Below.refl _ w3).drew
 replace z:=qh<|z.o.on hb;replace B:=qh<|B.o.on hb;replace C:=qh<|C.o.on hb;replace E:=qh<|E.o.on hb;replace g:=qh<|(hb.block _ (lbk g.o)).trans g.o;replace h:=qh<|(hb.block _ (lbk h.o)).trans h.o;replace m:=qh<|(hb.block _ (lbk m.o)).trans m.o;replace c:=qh<|c.o.trans (hb.mono c.o.size);clear hb;have k:=(cells4 m.o).1
 go_wp2_with fail
 refine AD (λwk=>wk.cell? (Ad bS 0)=some (.int .i64 1)/\wk.cell? (Ad bS 1)=some (.int .i64 0)/\wk.cell? (Ad bS 2)=some (.string ⟨#[48]⟩)/\wk.cell? (Ad bS 3)=some (.slice (some (Ad i2 0)) 1 1)) 11 (by kernel_rfl) ?_;rw[<-e1,<-e0,<-d9,<-b7,<-b8,<-b9];rw[<-e9];clear b7 e5 d9;clear b8 e6 e0;clear b9 g0 e1;clear e9;rw[<-f4];clear f4;refine Aa.tm 0 k ?_;refine Aa.tm 1 k ?_;refine Aa.tm 2 k ?_
 try simp only[Act.put,tryL]
 refine Aa.pair (i:=3) (j:=9) (by kernel_rfl) (Bt rfl rfl λK o=>?_) (Bt rfl rfl λK o=>?_)
 ·skip
  go_simp;obtain⟨w4,d0⟩:=exq<|wd.alloc (.cells #[.int .i64 1,.int .i64 1,.string ⟨#[53]⟩,.int .i64 0,.int .i64 1,.int .i64 1,.string ⟨#[48]⟩,.int .i64 0] 59);obtain⟨i4,e2⟩:=exq<|wd.heap.size;have g1:w4.heap.size=wd.heap.size+1:=by rw[d0];simp
  have hb:Below wd.heap.size wd w4:=by rw[d0];exact(Below.refl _ wd).alloc nlr _
  have b6:ArS none w4 (.slice (some (Ad i4 0)) 2 2) eS 0:=Dg (D:=eS) (i:=0) (by rw[e2,d0];exact han wd _) EI (lt2 ⟨rfl,rfl,rfl,rfl⟩ ⟨rfl,rfl,rfl,rfl⟩);replace z:=qh<|z.o.on hb;replace B:=qh<|B.o.on hb;replace C:=qh<|C.o.on hb;replace E:=qh<|E.o.on hb;replace g:=qh<|(hb.block _ (lbk g.o)).trans g.o;replace h:=qh<|(hb.block _ (lbk h.o)).trans h.o;replace m:=qh<|(hb.block _ (lbk m.o)).trans m.o;replace c:=qh<|c.o.trans (hb.mono c.o.size);clear hb;have Ra:=qh b6;clear b6;rw[<-e2,<-d0];clear d0 g1 e2;have d:=(cells4 m.o).1;refine o _ _ ⟨.inr d,?_⟩;clear o K k;have k:=d;clear d
  try simp only[Act.put,tryL]
  refine Aa.pair (i:=4) (j:=9) (by kernel_rfl) (Bt rfl rfl λK o=>?_) (Bt rfl rfl λK o=>?_)
  ·skip
   go_simp;have l:=qh<|DX w4 Ra.o (by decide);clear Ra;refine l.o.mono ?_;rintro r w5⟨hb,d6,R,rfl,p⟩;replace z:=qh<|z.o.on hb;replace B:=qh<|B.o.on hb;replace C:=qh<|C.o.on hb;replace E:=qh<|E.o.on hb;replace g:=qh<|(hb.block _ (lbk g.o)).trans g.o;replace h:=qh<|(hb.block _ (lbk h.o)).trans h.o;replace m:=qh<|(hb.block _ (lbk m.o)).trans m.o;replace c:=qh<|c.o.trans (hb.mono c.o.size);clear hb;clear l;have Ol:=qh p;clear p;obtain⟨b0,b1,s,_,_⟩:=Au Ol.o.top;have s:_=Value.slice b0 ((Ab eS).n) b1:=s;subst s;have d:=(cells4 m.o).1;refine o _ _ ⟨.inr d,?_⟩;clear o K k;have k:=d;clear d
   try simp only[Act.put,tryL]
   refine Aa.pair (i:=5) (j:=9) (by kernel_rfl) (Bt rfl rfl λK o=>?_) (Bt rfl rfl λK o=>?_)
   ·skip
    go_simp;have l:=qh (FJ w5 (⟨_,rfl,Gj (D:=stD) (A:=λ_=>.slice (some (Ad i1 0)) 1 1) h.o (by unfold maxLen;decide) (lt1 ⟨rfl,rfl,Dg (D:=stD) (i:=0) g.o Bd (lt1 ⟨rfl,rfl,rfl,rfl⟩)⟩)⟩:Ma none w5 (.agg #[.int .i64 stD.kind,.int .i64 stD.start,.string stD.lead,.slice (some (Ad i2 0)) stD.n stD.n]) stD) (⟨_,rfl,Ol.o.sts⟩:Ma none w5 (.agg #[.int .i64 (Ab eS).kind,.int .i64 (Ab eS).start,.string (Ab eS).lead,.slice b0 (Ab eS).n b1]) (Ab eS)) Ef Ee (b5.o w5 c.o));clear Ol;refine l.o.mono ?_;rintro r w6⟨hb,hr⟩;replace z:=qh<|z.o.on hb;replace B:=qh<|B.o.on hb;replace C:=qh<|C.o.on hb;replace E:=qh<|E.o.on hb;replace g:=qh<|(hb.block _ (lbk g.o)).trans g.o;replace h:=qh<|(hb.block _ (lbk h.o)).trans h.o;replace m:=qh<|(hb.block _ (lbk m.o)).trans m.o;replace c:=qh<|c.o.trans (hb.mono c.o.size);clear hb;clear l
    rcases hr with⟨_,_,_,_,_,⟨n,M,L,d6,R,rfl,p⟩|⟨a2,rfl⟩⟩|⟨_,_,N,_⟩|⟨N,_⟩
    rotate_left
    ·exact absurd GZ (a2.not2 CO CM rfl)
    ·exact absurd GA N
    ·exact absurd ⟨CO,CM⟩ N
    have a7:=(L.vm CO CM rfl Ef Ee).2.1;obtain rfl:M=oM:=L.closed 3 GU;clear L;have ZO:=qh a7;clear a7;have Oc:=qh p;clear p;obtain⟨Y,a1,s,_,_⟩:=Au Oc.o.top;have s:_=Value.slice Y (oM.n) a1:=s;subst s;have d:=(cells4 m.o).1;refine o _ _ ⟨.inr d,?_⟩;clear o K k;have k:=d;clear d
    try simp only[Act.put,tryL]
    refine Aa.tm 6 k ?_;refine Aa.tm 7 k ?_;refine Aa.tm 8 k ?_
    try simp only[Act.put,tryL]
    refine Aa.on 9 λK o=>?_;go_simp;obtain⟨w7,d1⟩:=exq<|w6.alloc (.cells #[.int .i64 0,.int .i64 0,.string ⟨#[]⟩,.slice none 0 0] 25);obtain⟨i7,e3⟩:=exq<|w6.heap.size;have g2:w7.heap.size=w6.heap.size+1:=by rw[d1];simp
    have hb:Below w6.heap.size w6 w7:=by rw[d1];exact(Below.refl _ w6).alloc nlr _
    have hh:w7.heap[i7]?=some (.cells #[.int .i64 0,.int .i64 0,.string ⟨#[]⟩,.slice none 0 0] 25 (0,0)):=by rw[e3,d1];exact han w6 _
    have Q:bA≠i7:=by have:=lbk z.o.1;omega
    have S:bB≠i7:=by have:=lbk B.o.1;omega
    have T:bM≠i7:=by have:=lbk C.o.1;omega
    have U:bN≠i7:=by have:=lbk E.o.1;omega
    have F:bS≠i7:=by have:=lbk m.o;omega
    have LO:w.heap.size<=i7:=by have:=c.o.size;omega
    replace Oc:=qh<|Ea Oc.o hb;replace z:=qh<|z.o.on hb;replace B:=qh<|B.o.on hb;replace C:=qh<|C.o.on hb;replace E:=qh<|E.o.on hb;replace g:=qh<|(hb.block _ (lbk g.o)).trans g.o;replace h:=qh<|(hb.block _ (lbk h.o)).trans h.o;replace m:=qh<|(hb.block _ (lbk m.o)).trans m.o;replace c:=qh<|c.o.trans (hb.mono c.o.size);clear hb;have u:=qh hh;clear hh;obtain⟨Z,J⟩:∃x,x=i7:=⟨_,rfl⟩;rw[<-J]at u Q S T U F LO;rw[<-e3,<-d1];rw[<-J];clear d1 g2 e3;clear J;have d:=(cells4 m.o).1;refine o.out _ _ (.inr d) ?_;clear o K k;have k:=d;clear d
    try simp only[Act.put,tryL]
    refine Aa.on 10 λK o=>?_;obtain⟨⟨r0,r1,r2,r3⟩,rz⟩:=cells4 u.o;have f0:=rz 0;have f1:=rz 1;have f2:=rz 2;have f3:=rz 3;clear rz;go_simp;clear g;clear h;obtain⟨w8,O⟩:∃w8,w8=(((w7.setCell ⟨Z,0,none⟩ (.int .i64 (oM.kind))).setCell (Ad Z 1) (.int .i64 (oM.start))).setCell (Ad Z 2) (.string (oM.lead))).setCell (Ad Z 3) (.slice Y oM.n a1):=⟨_,rfl⟩;replace z:=qh (show Has w8 bA _ _ _ _ _ _ _ from by rw[O];exact z.o.set u.o Q _ _ _ _);replace B:=qh (show Has w8 bB _ _ _ _ _ _ _ from by rw[O];exact B.o.set u.o S _ _ _ _);replace C:=qh (show Has w8 bM _ _ _ _ _ _ _ from by rw[O];exact C.o.set u.o T _ _ _ _);replace E:=qh (show Has w8 bN _ _ _ _ _ _ _ from by rw[O];exact E.o.set u.o U _ _ _ _);replace m:=qh ((show w8.heap[bS]?=w7.heap[bS]? from by rw[O,Ay F,Ay F,Ay F,Ay F]).trans m.o);replace c:=qh (show Below w.heap.size w w8 from by rw[O];exact Ax c.o LO _ _ _ _);have HO:=qh (show Has w8 Z _ _ _ _ _ _ oM from by rw[O];exact Has.put Oc.o u.o ⟨rfl,rfl,rfl⟩);clear u Oc;rw[<-O];clear O r0 r1 r2 r3 f0 f1 f2 f3;have d:=(cells4 m.o).1;refine o.out _ _ (.inr d) ?_;clear o K k;have k:=d;clear d
    try simp only[Act.put,tryL]
    refine Aa.on 11 λK o=>?_;go_simp;refine o.out _ _ (.inl rfl) (Aa.dn ?_);clear o K k
    go_wp2_with fail
    rw[hX.o];exact awk5 b5 c z B C E HO ZM ZN ZO
   skip
   go_simp;obtain⟨w9,d2⟩:=exq<|w5.alloc (.cells #[.int .i64 0,.int .i64 0,.string ⟨#[]⟩,.slice none 0 0] 25);obtain⟨i9,e4⟩:=exq<|w5.heap.size;have g3:w9.heap.size=w5.heap.size+1:=by rw[d2];simp
   have hb:Below w5.heap.size w5 w9:=by rw[d2];exact(Below.refl _ w5).alloc nlr _
   have hh:w9.heap[i9]?=some (.cells #[.int .i64 0,.int .i64 0,.string ⟨#[]⟩,.slice none 0 0] 25 (0,0)):=by rw[e4,d2];exact han w5 _
   have Q:bA≠i9:=by have:=lbk z.o.1;omega
   have S:bB≠i9:=by have:=lbk B.o.1;omega
   have T:bM≠i9:=by have:=lbk C.o.1;omega
   have U:bN≠i9:=by have:=lbk E.o.1;omega
   have F:bS≠i9:=by have:=lbk m.o;omega
   have LO:w.heap.size<=i9:=by have:=c.o.size;omega
   replace Ol:=qh<|Ea Ol.o hb;replace z:=qh<|z.o.on hb;replace B:=qh<|B.o.on hb;replace C:=qh<|C.o.on hb;replace E:=qh<|E.o.on hb;replace g:=qh<|(hb.block _ (lbk g.o)).trans g.o;replace h:=qh<|(hb.block _ (lbk h.o)).trans h.o;replace m:=qh<|(hb.block _ (lbk m.o)).trans m.o;replace c:=qh<|c.o.trans (hb.mono c.o.size);clear hb;have u:=qh hh;clear hh;obtain⟨Z,J⟩:∃x,x=i9:=⟨_,rfl⟩;rw[<-J]at u Q S T U F LO;rw[<-e4,<-d2];rw[<-J];clear d2 g3 e4;clear J;have d:=(cells4 m.o).1;refine o _ _ ⟨.inr d,?_⟩;clear o K k;have k:=d;clear d
   try simp only[Act.put,tryL]
   refine Aa.on 5 λK o=>?_;go_simp;have l:=qh (FJ w9 (⟨_,rfl,Gj (D:=stD) (A:=λ_=>.slice (some (Ad i1 0)) 1 1) h.o (by unfold maxLen;decide) (lt1 ⟨rfl,rfl,Dg (D:=stD) (i:=0) g.o Bd (lt1 ⟨rfl,rfl,rfl,rfl⟩)⟩)⟩:Ma none w9 (.agg #[.int .i64 stD.kind,.int .i64 stD.start,.string stD.lead,.slice (some (Ad i2 0)) stD.n stD.n]) stD) (⟨_,rfl,Ol.o.sts⟩:Ma none w9 (.agg #[.int .i64 (Ab eS).kind,.int .i64 (Ab eS).start,.string (Ab eS).lead,.slice b0 (Ab eS).n b1]) (Ab eS)) Ef Ee (b5.o w9 c.o));clear Ol;refine l.o.mono ?_;rintro r g4⟨hb,hr⟩;replace z:=qh<|z.o.on hb;replace B:=qh<|B.o.on hb;replace C:=qh<|C.o.on hb;replace E:=qh<|E.o.on hb;replace g:=qh<|(hb.block _ (lbk g.o)).trans g.o;replace h:=qh<|(hb.block _ (lbk h.o)).trans h.o;replace m:=qh<|(hb.block _ (lbk m.o)).trans m.o;replace u:=qh<|(hb.block _ (lbk u.o)).trans u.o;replace c:=qh<|c.o.trans (hb.mono c.o.size);clear hb;clear l
   rcases hr with⟨_,_,_,_,_,⟨n,M,L,d6,R,rfl,p⟩|⟨a2,rfl⟩⟩|⟨_,_,N,_⟩|⟨N,_⟩
   rotate_left
   ·exact absurd GZ (a2.not2 CO CM rfl)
   ·exact absurd GA N
   ·exact absurd ⟨CO,CM⟩ N
   have a7:=(L.vm CO CM rfl Ef Ee).2.1;obtain rfl:M=oM:=L.closed 3 GU;clear L;have ZO:=qh a7;clear a7;have Oc:=qh p;clear p;obtain⟨Y,a1,s,_,_⟩:=Au Oc.o.top;have s:_=Value.slice Y (oM.n) a1:=s;subst s;have d:=(cells4 m.o).1;refine o.out _ _ (.inr d) ?_;clear o K k;have k:=d;clear d
   try simp only[Act.put,tryL]
   refine Aa.tm 6 k ?_;refine Aa.tm 7 k ?_;refine Aa.tm 8 k ?_
   try simp only[Act.put,tryL]
   refine Aa.on 10 λK o=>?_;obtain⟨⟨r0,r1,r2,r3⟩,rz⟩:=cells4 u.o;have f0:=rz 0;have f1:=rz 1;have f2:=rz 2;have f3:=rz 3;clear rz;go_simp;clear g;clear h;obtain⟨b2,G⟩:∃b2,b2=(((g4.setCell ⟨Z,0,none⟩ (.int .i64 (oM.kind))).setCell (Ad Z 1) (.int .i64 (oM.start))).setCell (Ad Z 2) (.string (oM.lead))).setCell (Ad Z 3) (.slice Y oM.n a1):=⟨_,rfl⟩;replace z:=qh (show Has b2 bA _ _ _ _ _ _ _ from by rw[G];exact z.o.set u.o Q _ _ _ _);replace B:=qh (show Has b2 bB _ _ _ _ _ _ _ from by rw[G];exact B.o.set u.o S _ _ _ _);replace C:=qh (show Has b2 bM _ _ _ _ _ _ _ from by rw[G];exact C.o.set u.o T _ _ _ _);replace E:=qh (show Has b2 bN _ _ _ _ _ _ _ from by rw[G];exact E.o.set u.o U _ _ _ _);replace m:=qh ((show b2.heap[bS]?=g4.heap[bS]? from by rw[G,Ay F,Ay F,Ay F,Ay F]).trans m.o);replace c:=qh (show Below w.heap.size w b2 from by rw[G];exact Ax c.o LO _ _ _ _);have HO:=qh (show Has b2 Z _ _ _ _ _ _ oM from by rw[G];exact Has.put Oc.o u.o ⟨rfl,rfl,rfl⟩);clear u Oc;rw[<-G];clear G r0 r1 r2 r3 f0 f1 f2 f3;have d:=(cells4 m.o).1;refine o.out _ _ (.inr d) ?_;clear o K k;have k:=d;clear d
   try simp only[Act.put,tryL]
   refine Aa.on 11 λK o=>?_;go_simp;refine o.out _ _ (.inl rfl) (Aa.dn ?_);clear o K k
   go_wp2_with fail
   rw[hX.o];exact awk5 b5 c z B C E HO ZM ZN ZO
  skip
  go_simp;obtain⟨d7,a4⟩:=exq<|w4.alloc (.cells #[.int .i64 0,.int .i64 0,.string ⟨#[]⟩,.slice none 0 0] 25);obtain⟨a8,d3⟩:=exq<|w4.heap.size;have f5:d7.heap.size=w4.heap.size+1:=by rw[a4];simp
  have hb:Below w4.heap.size w4 d7:=by rw[a4];exact(Below.refl _ w4).alloc nlr _
  have hh:d7.heap[a8]?=some (.cells #[.int .i64 0,.int .i64 0,.string ⟨#[]⟩,.slice none 0 0] 25 (0,0)):=by rw[d3,a4];exact han w4 _
  have Q:bA≠a8:=by have:=lbk z.o.1;omega
  have S:bB≠a8:=by have:=lbk B.o.1;omega
  have T:bM≠a8:=by have:=lbk C.o.1;omega
  have U:bN≠a8:=by have:=lbk E.o.1;omega
  have F:bS≠a8:=by have:=lbk m.o;omega
  have LO:w.heap.size<=a8:=by have:=c.o.size;omega
  replace Ra:=qh<|Ra.o.kept (Ae hb none);replace z:=qh<|z.o.on hb;replace B:=qh<|B.o.on hb;replace C:=qh<|C.o.on hb;replace E:=qh<|E.o.on hb;replace g:=qh<|(hb.block _ (lbk g.o)).trans g.o;replace h:=qh<|(hb.block _ (lbk h.o)).trans h.o;replace m:=qh<|(hb.block _ (lbk m.o)).trans m.o;replace c:=qh<|c.o.trans (hb.mono c.o.size);clear hb;have u:=qh hh;clear hh;obtain⟨Z,J⟩:∃x,x=a8:=⟨_,rfl⟩;rw[<-J]at u Q S T U F LO;rw[<-d3,<-a4];rw[<-J];clear a4 f5 d3;clear J;have d:=(cells4 m.o).1;refine o _ _ ⟨.inr d,?_⟩;clear o K k;have k:=d;clear d
  try simp only[Act.put,tryL]
  refine Aa.on 4 λK o=>?_;go_simp;have l:=qh<|DX d7 Ra.o (by decide);clear Ra;refine l.o.mono ?_;rintro r e7⟨hb,d6,R,rfl,p⟩;replace z:=qh<|z.o.on hb;replace B:=qh<|B.o.on hb;replace C:=qh<|C.o.on hb;replace E:=qh<|E.o.on hb;replace g:=qh<|(hb.block _ (lbk g.o)).trans g.o;replace h:=qh<|(hb.block _ (lbk h.o)).trans h.o;replace m:=qh<|(hb.block _ (lbk m.o)).trans m.o;replace u:=qh<|(hb.block _ (lbk u.o)).trans u.o;replace c:=qh<|c.o.trans (hb.mono c.o.size);clear hb;clear l;have Ol:=qh p;clear p;obtain⟨b0,b1,s,_,_⟩:=Au Ol.o.top;have s:_=Value.slice b0 ((Ab eS).n) b1:=s;subst s;have d:=(cells4 m.o).1;refine o.out _ _ (.inr d) ?_;clear o K k;have k:=d;clear d
  try simp only[Act.put,tryL]
  refine Aa.on 5 λK o=>?_;go_simp;have l:=qh (FJ e7 (⟨_,rfl,Gj (D:=stD) (A:=λ_=>.slice (some (Ad i1 0)) 1 1) h.o (by unfold maxLen;decide) (lt1 ⟨rfl,rfl,Dg (D:=stD) (i:=0) g.o Bd (lt1 ⟨rfl,rfl,rfl,rfl⟩)⟩)⟩:Ma none e7 (.agg #[.int .i64 stD.kind,.int .i64 stD.start,.string stD.lead,.slice (some (Ad i2 0)) stD.n stD.n]) stD) (⟨_,rfl,Ol.o.sts⟩:Ma none e7 (.agg #[.int .i64 (Ab eS).kind,.int .i64 (Ab eS).start,.string (Ab eS).lead,.slice b0 (Ab eS).n b1]) (Ab eS)) Ef Ee (b5.o e7 c.o));clear Ol;refine l.o.mono ?_;rintro r g5⟨hb,hr⟩;replace z:=qh<|z.o.on hb;replace B:=qh<|B.o.on hb;replace C:=qh<|C.o.on hb;replace E:=qh<|E.o.on hb;replace g:=qh<|(hb.block _ (lbk g.o)).trans g.o;replace h:=qh<|(hb.block _ (lbk h.o)).trans h.o;replace m:=qh<|(hb.block _ (lbk m.o)).trans m.o;replace u:=qh<|(hb.block _ (lbk u.o)).trans u.o;replace c:=qh<|c.o.trans (hb.mono c.o.size);clear hb;clear l
  rcases hr with⟨_,_,_,_,_,⟨n,M,L,d6,R,rfl,p⟩|⟨a2,rfl⟩⟩|⟨_,_,N,_⟩|⟨N,_⟩
  rotate_left
  ·exact absurd GZ (a2.not2 CO CM rfl)
  ·exact absurd GA N
  ·exact absurd ⟨CO,CM⟩ N
  have a7:=(L.vm CO CM rfl Ef Ee).2.1;obtain rfl:M=oM:=L.closed 3 GU;clear L;have ZO:=qh a7;clear a7;have Oc:=qh p;clear p;obtain⟨Y,a1,s,_,_⟩:=Au Oc.o.top;have s:_=Value.slice Y (oM.n) a1:=s;subst s;have d:=(cells4 m.o).1;refine o.out _ _ (.inr d) ?_;clear o K k;have k:=d;clear d
  try simp only[Act.put,tryL]
  refine Aa.tm 6 k ?_;refine Aa.tm 7 k ?_;refine Aa.tm 8 k ?_
  try simp only[Act.put,tryL]
  refine Aa.on 10 λK o=>?_;obtain⟨⟨r0,r1,r2,r3⟩,rz⟩:=cells4 u.o;have f0:=rz 0;have f1:=rz 1;have f2:=rz 2;have f3:=rz 3;clear rz;go_simp;clear g;clear h;obtain⟨b3,H⟩:∃b3,b3=(((g5.setCell ⟨Z,0,none⟩ (.int .i64 (oM.kind))).setCell (Ad Z 1) (.int .i64 (oM.start))).setCell (Ad Z 2) (.string (oM.lead))).setCell (Ad Z 3) (.slice Y oM.n a1):=⟨_,rfl⟩;replace z:=qh (show Has b3 bA _ _ _ _ _ _ _ from by rw[H];exact z.o.set u.o Q _ _ _ _);replace B:=qh (show Has b3 bB _ _ _ _ _ _ _ from by rw[H];exact B.o.set u.o S _ _ _ _);replace C:=qh (show Has b3 bM _ _ _ _ _ _ _ from by rw[H];exact C.o.set u.o T _ _ _ _);replace E:=qh (show Has b3 bN _ _ _ _ _ _ _ from by rw[H];exact E.o.set u.o U _ _ _ _);replace m:=qh ((show b3.heap[bS]?=g5.heap[bS]? from by rw[H,Ay F,Ay F,Ay F,Ay F]).trans m.o);replace c:=qh (show Below w.heap.size w b3 from by rw[H];exact Ax c.o LO _ _ _ _);have HO:=qh (show Has b3 Z _ _ _ _ _ _ oM from by rw[H];exact Has.put Oc.o u.o ⟨rfl,rfl,rfl⟩);clear u Oc;rw[<-H];clear H r0 r1 r2 r3 f0 f1 f2 f3;have d:=(cells4 m.o).1;refine o.out _ _ (.inr d) ?_;clear o K k;have k:=d;clear d
  try simp only[Act.put,tryL]
  refine Aa.on 11 λK o=>?_;go_simp;refine o.out _ _ (.inl rfl) (Aa.dn ?_);clear o K k
  go_wp2_with fail
  rw[hX.o];exact awk5 b5 c z B C E HO ZM ZN ZO
 skip
 go_simp;obtain⟨P,a5⟩:=exq<|wd.alloc (.cells #[.int .i64 0,.int .i64 0,.string ⟨#[]⟩,.slice none 0 0] 25);obtain⟨a9,d4⟩:=exq<|wd.heap.size;have f7:P.heap.size=wd.heap.size+1:=by rw[a5];simp
 have hb:Below wd.heap.size wd P:=by rw[a5];exact(Below.refl _ wd).alloc nlr _
 have hh:P.heap[a9]?=some (.cells #[.int .i64 0,.int .i64 0,.string ⟨#[]⟩,.slice none 0 0] 25 (0,0)):=by rw[d4,a5];exact han wd _
 have Q:bA≠a9:=by have:=lbk z.o.1;omega
 have S:bB≠a9:=by have:=lbk B.o.1;omega
 have T:bM≠a9:=by have:=lbk C.o.1;omega
 have U:bN≠a9:=by have:=lbk E.o.1;omega
 have F:bS≠a9:=by have:=lbk m.o;omega
 have LO:w.heap.size<=a9:=by have:=c.o.size;omega
 replace z:=qh<|z.o.on hb;replace B:=qh<|B.o.on hb;replace C:=qh<|C.o.on hb;replace E:=qh<|E.o.on hb;replace g:=qh<|(hb.block _ (lbk g.o)).trans g.o;replace h:=qh<|(hb.block _ (lbk h.o)).trans h.o;replace m:=qh<|(hb.block _ (lbk m.o)).trans m.o;replace c:=qh<|c.o.trans (hb.mono c.o.size);clear hb;have u:=qh hh;clear hh;obtain⟨Z,J⟩:∃x,x=a9:=⟨_,rfl⟩;rw[<-J]at u Q S T U F LO;rw[<-d4,<-a5];rw[<-J];clear a5 f7 d4;clear J;have d:=(cells4 m.o).1;refine o _ _ ⟨.inr d,?_⟩;clear o K k;have k:=d;clear d
 try simp only[Act.put,tryL]
 refine Aa.on 3 λK o=>?_;go_simp;obtain⟨d8,a6⟩:=exq<|P.alloc (.cells #[.int .i64 1,.int .i64 1,.string ⟨#[53]⟩,.int .i64 0,.int .i64 1,.int .i64 1,.string ⟨#[48]⟩,.int .i64 0] 59);obtain⟨f9,d5⟩:=exq<|P.heap.size;have f8:d8.heap.size=P.heap.size+1:=by rw[a6];simp
 have hb:Below P.heap.size P d8:=by rw[a6];exact(Below.refl _ P).alloc nlr _
 have b6:ArS none d8 (.slice (some (Ad f9 0)) 2 2) eS 0:=Dg (D:=eS) (i:=0) (by rw[d5,a6];exact han P _) EI (lt2 ⟨rfl,rfl,rfl,rfl⟩ ⟨rfl,rfl,rfl,rfl⟩);replace z:=qh<|z.o.on hb;replace B:=qh<|B.o.on hb;replace C:=qh<|C.o.on hb;replace E:=qh<|E.o.on hb;replace g:=qh<|(hb.block _ (lbk g.o)).trans g.o;replace h:=qh<|(hb.block _ (lbk h.o)).trans h.o;replace m:=qh<|(hb.block _ (lbk m.o)).trans m.o;replace u:=qh<|(hb.block _ (lbk u.o)).trans u.o;replace c:=qh<|c.o.trans (hb.mono c.o.size);clear hb;have Ra:=qh b6;clear b6;rw[<-d5,<-a6];clear a6 f8 d5;have d:=(cells4 m.o).1;refine o.out _ _ (.inr d) ?_;clear o K k;have k:=d;clear d
 try simp only[Act.put,tryL]
 refine Aa.on 4 λK o=>?_;go_simp;have l:=qh<|DX d8 Ra.o (by decide);clear Ra;refine l.o.mono ?_;rintro r e8⟨hb,d6,R,rfl,p⟩;replace z:=qh<|z.o.on hb;replace B:=qh<|B.o.on hb;replace C:=qh<|C.o.on hb;replace E:=qh<|E.o.on hb;replace g:=qh<|(hb.block _ (lbk g.o)).trans g.o;replace h:=qh<|(hb.block _ (lbk h.o)).trans h.o;replace m:=qh<|(hb.block _ (lbk m.o)).trans m.o;replace u:=qh<|(hb.block _ (lbk u.o)).trans u.o;replace c:=qh<|c.o.trans (hb.mono c.o.size);clear hb;clear l;have Ol:=qh p;clear p;obtain⟨b0,b1,s,_,_⟩:=Au Ol.o.top;have s:_=Value.slice b0 ((Ab eS).n) b1:=s;subst s;have d:=(cells4 m.o).1;refine o.out _ _ (.inr d) ?_;clear o K k;have k:=d;clear d
 try simp only[Act.put,tryL]
 refine Aa.on 5 λK o=>?_;go_simp;have l:=qh (FJ e8 (⟨_,rfl,Gj (D:=stD) (A:=λ_=>.slice (some (Ad i1 0)) 1 1) h.o (by unfold maxLen;decide) (lt1 ⟨rfl,rfl,Dg (D:=stD) (i:=0) g.o Bd (lt1 ⟨rfl,rfl,rfl,rfl⟩)⟩)⟩:Ma none e8 (.agg #[.int .i64 stD.kind,.int .i64 stD.start,.string stD.lead,.slice (some (Ad i2 0)) stD.n stD.n]) stD) (⟨_,rfl,Ol.o.sts⟩:Ma none e8 (.agg #[.int .i64 (Ab eS).kind,.int .i64 (Ab eS).start,.string (Ab eS).lead,.slice b0 (Ab eS).n b1]) (Ab eS)) Ef Ee (b5.o e8 c.o));clear Ol;refine l.o.mono ?_;rintro r g6⟨hb,hr⟩;replace z:=qh<|z.o.on hb;replace B:=qh<|B.o.on hb;replace C:=qh<|C.o.on hb;replace E:=qh<|E.o.on hb;replace g:=qh<|(hb.block _ (lbk g.o)).trans g.o;replace h:=qh<|(hb.block _ (lbk h.o)).trans h.o;replace m:=qh<|(hb.block _ (lbk m.o)).trans m.o;replace u:=qh<|(hb.block _ (lbk u.o)).trans u.o;replace c:=qh<|c.o.trans (hb.mono c.o.size);clear hb;clear l
 rcases hr with⟨_,_,_,_,_,⟨n,M,L,d6,R,rfl,p⟩|⟨a2,rfl⟩⟩|⟨_,_,N,_⟩|⟨N,_⟩
 rotate_left
 ·exact absurd GZ (a2.not2 CO CM rfl)
 ·exact absurd GA N
 ·exact absurd ⟨CO,CM⟩ N
 have a7:=(L.vm CO CM rfl Ef Ee).2.1;obtain rfl:M=oM:=L.closed 3 GU;clear L;have ZO:=qh a7;clear a7;have Oc:=qh p;clear p;obtain⟨Y,a1,s,_,_⟩:=Au Oc.o.top;have s:_=Value.slice Y (oM.n) a1:=s;subst s;have d:=(cells4 m.o).1;refine o.out _ _ (.inr d) ?_;clear o K k;have k:=d;clear d
 try simp only[Act.put,tryL]
 refine Aa.tm 6 k ?_;refine Aa.tm 7 k ?_;refine Aa.tm 8 k ?_
 try simp only[Act.put,tryL]
 refine Aa.on 10 λK o=>?_;obtain⟨⟨r0,r1,r2,r3⟩,rz⟩:=cells4 u.o;have f0:=rz 0;have f1:=rz 1;have f2:=rz 2;have f3:=rz 3;clear rz;go_simp;clear g;clear h;obtain⟨b4,I⟩:∃b4,b4=(((g6.setCell ⟨Z,0,none⟩ (.int .i64 (oM.kind))).setCell (Ad Z 1) (.int .i64 (oM.start))).setCell (Ad Z 2) (.string (oM.lead))).setCell (Ad Z 3) (.slice Y oM.n a1):=⟨_,rfl⟩;replace z:=qh (show Has b4 bA _ _ _ _ _ _ _ from by rw[I];exact z.o.set u.o Q _ _ _ _);replace B:=qh (show Has b4 bB _ _ _ _ _ _ _ from by rw[I];exact B.o.set u.o S _ _ _ _);replace C:=qh (show Has b4 bM _ _ _ _ _ _ _ from by rw[I];exact C.o.set u.o T _ _ _ _);replace E:=qh (show Has b4 bN _ _ _ _ _ _ _ from by rw[I];exact E.o.set u.o U _ _ _ _);replace m:=qh ((show b4.heap[bS]?=g6.heap[bS]? from by rw[I,Ay F,Ay F,Ay F,Ay F]).trans m.o);replace c:=qh (show Below w.heap.size w b4 from by rw[I];exact Ax c.o LO _ _ _ _);have HO:=qh (show Has b4 Z _ _ _ _ _ _ oM from by rw[I];exact Has.put Oc.o u.o ⟨rfl,rfl,rfl⟩);clear u Oc;rw[<-I];clear I r0 r1 r2 r3 f0 f1 f2 f3;have d:=(cells4 m.o).1;refine o.out _ _ (.inr d) ?_;clear o K k;have k:=d;clear d
 try simp only[Act.put,tryL]
 refine Aa.on 11 λK o=>?_;go_simp;refine o.out _ _ (.inl rfl) (Aa.dn ?_);clear o K k
 go_wp2_with fail
 rw[hX.o];exact awk5 b5 c z B C E HO ZM ZN ZO
set_option maxRecDepth 1000000 in
theorem EN(w:World)(ht:Tab w):Calls prog 11 #[] w (TrueB w):=by
 have a7:=qh<|show ∀W,Below w.heap.size w W->Tab W from λW h=>ht.below h nlr;clear ht;have c:=qh<|Below.refl w.heap.size w
 go_enter func11,ntmps11
 obtain⟨X,hX⟩:=exq<|seqR 4 CR;have hp:=Vi;rw[<-hX]at hp;change Code.wp prog CR _ _ _;rw[<-hp];replace hX:=qh hX;clear hp
 conv=>arg 2;whnf
 conv=>arg 2;arg 2;whnf
 conv=>arg 2;arg 2;arg 2;whnf
 conv=>arg 2;arg 2;arg 2;arg 2;whnf
 conv=>arg 2;arg 2;arg 2;arg 2;arg 2;whnf
 obtain⟨w1,b0⟩:=exq<|w.alloc (.cells #[.int .i64 1,.int .i64 2,.string ⟨#[49]⟩,.int .i64 0] 59);obtain⟨i1,e4⟩:=exq<|w.heap.size;have h1:w1.heap.size=w.heap.size+1:=by rw[b0];simp
 have hb:Below w.heap.size w w1:=by rw[b0];exact(Below.refl _ w).alloc nlr _
 have L:ArS none w1 (.slice (some (Ad i1 0)) 1 1) eA 0:=Dg (D:=eA) (i:=0) (by rw[e4,b0];exact han w _) Bd (lt1 ⟨rfl,rfl,rfl,rfl⟩);replace c:=qh<|c.o.trans (hb.mono c.o.size);clear hb;have Ra:=qh L;clear L;have g:=qh<|DX w1 Ra.o (by decide);clear Ra
 go_wp2_with fail
 rw[<-e4,<-b0];clear b0 h1 e4;refine g.o.mono ?_;rintro r w2⟨hb,b7,R,rfl,k⟩;replace c:=qh<|c.o.trans (hb.mono c.o.size);clear hb;clear g;have OA:=qh k;clear k;have g:=qh<|SZ w2
 go_wp2_with fail
 refine g.o.mono ?_;rintro r w3⟨hb,h8,R2,rfl,k⟩;replace OA:=qh<|Ea OA.o hb;replace c:=qh<|c.o.trans (hb.mono c.o.size);clear hb;clear g;have OB:=qh k;clear k;have k:=OA.o;clear OA;obtain⟨f7,f9,m,_,_⟩:=Au k.top;have m:_=Value.slice f7 (Ab eA).n f9:=m;subst m;obtain⟨w4,a5⟩:=exq<|w3.alloc (.cells #[.int .i64 ((Ab eA).kind),.int .i64 ((Ab eA).start),.string ((Ab eA).lead),.slice f7 (Ab eA).n f9] 25);obtain⟨i4,d9⟩:=exq<|w3.heap.size;have e7:w4.heap.size=w3.heap.size+1:=by rw[a5];simp
 have hb:Below w3.heap.size w3 w4:=by rw[a5];exact(Below.refl _ w3).alloc nlr _
 have hh:Has w4 i4 ((Ab eA).kind) ((Ab eA).start) ((Ab eA).lead) f7 (Ab eA).n f9 ((Ab eA)):=by rw[d9,a5];exact Has.new k ⟨rfl,rfl,rfl⟩
 clear k;replace OB:=qh<|Ea OB.o hb;replace c:=qh<|c.o.trans (hb.mono c.o.size);clear hb;have s:=qh hh;clear hh;obtain⟨bA,f4⟩:∃x,x=i4:=⟨_,rfl⟩;rw[<-f4]at s;have k:=OB.o;clear OB;obtain⟨e8,e9,m,_,_⟩:=Au k.top;have m:_=Value.slice e8 frkD.n e9:=m;subst m;obtain⟨w5,a6⟩:=exq<|w4.alloc (.cells #[.int .i64 (frkD.kind),.int .i64 (frkD.start),.string (frkD.lead),.slice e8 frkD.n e9] 25);obtain⟨i5,e0⟩:=exq<|w3.heap.size+1;have h2:w5.heap.size=w3.heap.size+1+1:=by rw[a6];simp[e7]
 have hb:Below w4.heap.size w4 w5:=by rw[a6];exact(Below.refl _ w4).alloc nlr _
 have hh:Has w5 i5 (frkD.kind) (frkD.start) (frkD.lead) e8 frkD.n e9 (frkD):=by rw[e0,<-e7,a6];exact Has.new k ⟨rfl,rfl,rfl⟩
 clear k;replace s:=qh<|s.o.on hb;replace c:=qh<|c.o.trans (hb.mono c.o.size);clear hb;have o:=qh hh;clear hh;obtain⟨bB,f5⟩:∃x,x=i5:=⟨_,rfl⟩;rw[<-f5]at o;have m0:=cellOf s.o.1 0 rfl;have m1:=cellOf s.o.1 1 rfl;have m2:=cellOf s.o.1 2 rfl;have m3:=cellOf s.o.1 3 rfl;rw[a6,a5]at m0 m1 m2 m3;rw[f4,d9]at m0 m1 m2 m3;have n0:=cellOf o.o.1 0 rfl;have n1:=cellOf o.o.1 1 rfl;have n2:=cellOf o.o.1 2 rfl;have n3:=cellOf o.o.1 3 rfl;rw[a6,a5]at n0 n1 n2 n3;rw[f5,e0]at n0 n1 n2 n3;have g:=qh<|Cp w5 s.o.ma o.o.ma Gz BU (a7.o w5 c.o)
 go_wp2_with fail
 clear m0 m1 m2 m3;clear n0 n1 n2 n3;rw[<-e0,<-d9,<-a5,<-a6];rw[<-f4];rw[<-f5];clear a5 e7 d9;clear a6 h2 e0;clear f4;clear f5;refine g.o.mono ?_;rintro r w6⟨hb,hr⟩;replace s:=qh<|s.o.on hb;replace o:=qh<|o.o.on hb;replace c:=qh<|c.o.trans (hb.mono c.o.size);clear hb;clear g
 rcases hr with⟨_,_,_,⟨n,M,A,b7,R,rfl,k⟩|⟨I,rfl⟩⟩|⟨_,_,B,_⟩|⟨B,_⟩
 rotate_left
 ·exact absurd TM (I.not2 Fw Bg rfl)
 ·exact absurd rfl B
 ·exact absurd ⟨Fw,Bg⟩ B
 have J:=(A.vm Fw Bg rfl Gz BU).2.1;obtain rfl:M=mM:=A.closed 2 TF;clear A;have ZM:=qh J;clear J;obtain⟨f8,g0,m,_,_⟩:=Au k.top;have m:_=Value.slice f8 mM.n g0:=m;subst m;obtain⟨w7,b1⟩:=exq<|w6.alloc (.cells #[.int .i64 (mM.kind),.int .i64 (mM.start),.string (mM.lead),.slice f8 mM.n g0] 25);obtain⟨i7,e5⟩:=exq<|w6.heap.size;have h3:w7.heap.size=w6.heap.size+1:=by rw[b1];simp
 have hb:Below w6.heap.size w6 w7:=by rw[b1];exact(Below.refl _ w6).alloc nlr _
 have hh:Has w7 i7 (mM.kind) (mM.start) (mM.lead) f8 mM.n g0 (mM):=by rw[e5,b1];exact Has.new k ⟨rfl,rfl,rfl⟩
 clear k;replace s:=qh<|s.o.on hb;replace o:=qh<|o.o.on hb;replace c:=qh<|c.o.trans (hb.mono c.o.size);clear hb;have z:=qh hh;clear hh;obtain⟨bM,g1⟩:∃x,x=i7:=⟨_,rfl⟩;rw[<-g1]at z;obtain⟨wd,g2⟩:=exq<|w7.drew;have hb:Below w7.heap.size w7 wd:=by rw[g2];exact(Below.refl _ w7).drew
 replace s:=qh<|s.o.on hb;replace o:=qh<|o.o.on hb;replace z:=qh<|z.o.on hb;replace c:=qh<|c.o.trans (hb.mono c.o.size);clear hb;have l:=(cells4 o.o.1).1
 go_wp2_with fail
 refine AD (λwk=>wk.cell? (Ad bB 0)=some (.int .i64 frkD.kind)/\wk.cell? (Ad bB 1)=some (.int .i64 frkD.start)/\wk.cell? (Ad bB 2)=some (.string frkD.lead)/\wk.cell? (Ad bB 3)=some (.slice e8 frkD.n e9)) 11 (by kernel_rfl) ?_;rw[<-e5,<-b1];rw[<-g1];clear b1 h3 e5;clear g1;rw[<-g2];clear g2;refine Aa.tm 0 l ?_;refine Aa.tm 1 l ?_;refine Aa.tm 4 l ?_
 try simp only[Act.put,tryL]
 refine Aa.pair (i:=2) (j:=9) (by kernel_rfl) (Bt rfl rfl λK p=>?_) (Bt rfl rfl λK p=>?_)
 ·skip
  go_simp;obtain⟨w8,b2⟩:=exq<|wd.alloc (.cells #[.int .i64 1,.int .i64 0,.string ⟨#[49]⟩,.int .i64 0,.int .i64 1,.int .i64 2,.string ⟨#[48]⟩,.int .i64 0] 59);obtain⟨i8,e6⟩:=exq<|wd.heap.size;have h4:w8.heap.size=wd.heap.size+1:=by rw[b2];simp
  have hb:Below wd.heap.size wd w8:=by rw[b2];exact(Below.refl _ wd).alloc nlr _
  have L:ArS none w8 (.slice (some (Ad i8 0)) 2 2) eN 0:=Dg (D:=eN) (i:=0) (by rw[e6,b2];exact han wd _) EI (lt2 ⟨rfl,rfl,rfl,rfl⟩ ⟨rfl,rfl,rfl,rfl⟩);replace s:=qh<|s.o.on hb;replace o:=qh<|o.o.on hb;replace z:=qh<|z.o.on hb;replace c:=qh<|c.o.trans (hb.mono c.o.size);clear hb;have Ra:=qh L;clear L;rw[<-e6,<-b2];clear b2 h4 e6;have d:=(cells4 o.o.1).1;refine p _ _ ⟨.inr d,?_⟩;clear p K l;have l:=d;clear d
  try simp only[Act.put,tryL]
  refine Aa.pair (i:=3) (j:=9) (by kernel_rfl) (Bt rfl rfl λK p=>?_) (Bt rfl rfl λK p=>?_)
  ·skip
   go_simp;have g:=qh<|DX w8 Ra.o (by decide);clear Ra;refine g.o.mono ?_;rintro r w9⟨hb,b7,R,rfl,k⟩;replace s:=qh<|s.o.on hb;replace o:=qh<|o.o.on hb;replace z:=qh<|z.o.on hb;replace c:=qh<|c.o.trans (hb.mono c.o.size);clear hb;clear g;have Ol:=qh k;clear k;obtain⟨a8,a9,m,_,_⟩:=Au Ol.o.top;have m:_=Value.slice a8 ((Ab eN).n) a9:=m;subst m;have d:=(cells4 o.o.1).1;refine p _ _ ⟨.inr d,?_⟩;clear p K l;have l:=d;clear d
   try simp only[Act.put,tryL]
   refine Aa.pair (i:=5) (j:=9) (by kernel_rfl) (Bt rfl rfl λK p=>?_) (Bt rfl rfl λK p=>?_)
   ·skip
    go_simp;have g:=qh<|Cp w9 (⟨_,rfl,Ol.o.sts⟩:Ma none w9 (.agg #[.int .i64 (Ab eN).kind,.int .i64 (Ab eN).start,.string (Ab eN).lead,.slice a8 (Ab eN).n a9]) (Ab eN)) o.o.ma DY BU (a7.o w9 c.o);clear Ol;refine g.o.mono ?_;rintro r d4⟨hb,hr⟩;replace s:=qh<|s.o.on hb;replace o:=qh<|o.o.on hb;replace z:=qh<|z.o.on hb;replace c:=qh<|c.o.trans (hb.mono c.o.size);clear hb;clear g
    rcases hr with⟨_,_,_,⟨n,M,A,b7,R,rfl,k⟩|⟨I,rfl⟩⟩|⟨_,_,B,_⟩|⟨B,_⟩
    rotate_left
    ·exact absurd GY (I.not2 CF Bg rfl)
    ·exact absurd rfl B
    ·exact absurd ⟨CF,Bg⟩ B
    have J:=(A.vm CF Bg rfl DY BU).2.1;obtain rfl:M=nM:=A.closed 3 GT;clear A;have ZN:=qh J;clear J;have Oc:=qh k;clear k;obtain⟨S,U,m,_,_⟩:=Au Oc.o.top;have m:_=Value.slice S (nM.n) U:=m;subst m;have d:=(cells4 o.o.1).1;refine p _ _ ⟨.inr d,?_⟩;clear p K l;have l:=d;clear d
    try simp only[Act.put,tryL]
    refine Aa.tm 6 l ?_;refine Aa.tm 7 l ?_;refine Aa.tm 8 l ?_
    try simp only[Act.put,tryL]
    refine Aa.on 9 λK p=>?_;go_simp;obtain⟨e1,Y⟩:=exq<|d4.alloc (.cells #[.int .i64 0,.int .i64 0,.string ⟨#[]⟩,.slice none 0 0] 25);obtain⟨b3,b9⟩:=exq<|d4.heap.size;have g3:e1.heap.size=d4.heap.size+1:=by rw[Y];simp
    have hb:Below d4.heap.size d4 e1:=by rw[Y];exact(Below.refl _ d4).alloc nlr _
    have hh:e1.heap[b3]?=some (.cells #[.int .i64 0,.int .i64 0,.string ⟨#[]⟩,.slice none 0 0] 25 (0,0)):=by rw[b9,Y];exact han d4 _
    have O:bA≠b3:=by have:=lbk s.o.1;omega
    have P:bB≠b3:=by have:=lbk o.o.1;omega
    have Q:bM≠b3:=by have:=lbk z.o.1;omega
    have LN:w.heap.size<=b3:=by have:=c.o.size;omega
    replace Oc:=qh<|Ea Oc.o hb;replace s:=qh<|s.o.on hb;replace o:=qh<|o.o.on hb;replace z:=qh<|z.o.on hb;replace c:=qh<|c.o.trans (hb.mono c.o.size);clear hb;have u:=qh hh;clear hh;obtain⟨T,C⟩:∃x,x=b3:=⟨_,rfl⟩;rw[<-C]at u O P Q LN;rw[<-b9,<-Y];rw[<-C];clear Y g3 b9;clear C;have d:=(cells4 o.o.1).1;refine p.out _ _ (.inr d) ?_;clear p K l;have l:=d;clear d
    try simp only[Act.put,tryL]
    refine Aa.on 10 λK p=>?_;obtain⟨⟨r0,r1,r2,r3⟩,rz⟩:=cells4 u.o;have f0:=rz 0;have f1:=rz 1;have f2:=rz 2;have f3:=rz 3;clear rz;go_simp;obtain⟨d5,E⟩:∃d5,d5=(((e1.setCell ⟨T,0,none⟩ (.int .i64 (nM.kind))).setCell (Ad T 1) (.int .i64 (nM.start))).setCell (Ad T 2) (.string (nM.lead))).setCell (Ad T 3) (.slice S nM.n U):=⟨_,rfl⟩;replace s:=qh (show Has d5 bA _ _ _ _ _ _ _ from by rw[E];exact s.o.set u.o O _ _ _ _);replace o:=qh (show Has d5 bB _ _ _ _ _ _ _ from by rw[E];exact o.o.set u.o P _ _ _ _);replace z:=qh (show Has d5 bM _ _ _ _ _ _ _ from by rw[E];exact z.o.set u.o Q _ _ _ _);replace c:=qh (show Below w.heap.size w d5 from by rw[E];exact Ax c.o LN _ _ _ _);have HN:=qh (show Has d5 T _ _ _ _ _ _ nM from by rw[E];exact Has.put Oc.o u.o ⟨rfl,rfl,rfl⟩);clear u Oc;rw[<-E];clear E r0 r1 r2 r3 f0 f1 f2 f3;have d:=(cells4 o.o.1).1;refine p.out _ _ (.inr d) ?_;clear p K l;have l:=d;clear d
    try simp only[Act.put,tryL]
    refine Aa.on 11 λK p=>?_;go_simp;refine p.out _ _ (.inl rfl) (Aa.dn ?_);clear p K l
    go_wp2_with fail
    rw[hX.o];exact awk3 a7 c s o z HN ZM ZN
   skip
   go_simp;obtain⟨b8,Z⟩:=exq<|w9.alloc (.cells #[.int .i64 0,.int .i64 0,.string ⟨#[]⟩,.slice none 0 0] 25);obtain⟨b4,d0⟩:=exq<|w9.heap.size;have g4:b8.heap.size=w9.heap.size+1:=by rw[Z];simp
   have hb:Below w9.heap.size w9 b8:=by rw[Z];exact(Below.refl _ w9).alloc nlr _
   have hh:b8.heap[b4]?=some (.cells #[.int .i64 0,.int .i64 0,.string ⟨#[]⟩,.slice none 0 0] 25 (0,0)):=by rw[d0,Z];exact han w9 _
   have O:bA≠b4:=by have:=lbk s.o.1;omega
   have P:bB≠b4:=by have:=lbk o.o.1;omega
   have Q:bM≠b4:=by have:=lbk z.o.1;omega
   have LN:w.heap.size<=b4:=by have:=c.o.size;omega
   replace Ol:=qh<|Ea Ol.o hb;replace s:=qh<|s.o.on hb;replace o:=qh<|o.o.on hb;replace z:=qh<|z.o.on hb;replace c:=qh<|c.o.trans (hb.mono c.o.size);clear hb;have u:=qh hh;clear hh;obtain⟨T,C⟩:∃x,x=b4:=⟨_,rfl⟩;rw[<-C]at u O P Q LN;rw[<-d0,<-Z];rw[<-C];clear Z g4 d0;clear C;have d:=(cells4 o.o.1).1;refine p _ _ ⟨.inr d,?_⟩;clear p K l;have l:=d;clear d
   try simp only[Act.put,tryL]
   refine Aa.on 5 λK p=>?_;go_simp;have g:=qh<|Cp b8 (⟨_,rfl,Ol.o.sts⟩:Ma none b8 (.agg #[.int .i64 (Ab eN).kind,.int .i64 (Ab eN).start,.string (Ab eN).lead,.slice a8 (Ab eN).n a9]) (Ab eN)) o.o.ma DY BU (a7.o b8 c.o);clear Ol;refine g.o.mono ?_;rintro r h5⟨hb,hr⟩;replace s:=qh<|s.o.on hb;replace o:=qh<|o.o.on hb;replace z:=qh<|z.o.on hb;replace u:=qh<|(hb.block _ (lbk u.o)).trans u.o;replace c:=qh<|c.o.trans (hb.mono c.o.size);clear hb;clear g
   rcases hr with⟨_,_,_,⟨n,M,A,b7,R,rfl,k⟩|⟨I,rfl⟩⟩|⟨_,_,B,_⟩|⟨B,_⟩
   rotate_left
   ·exact absurd GY (I.not2 CF Bg rfl)
   ·exact absurd rfl B
   ·exact absurd ⟨CF,Bg⟩ B
   have J:=(A.vm CF Bg rfl DY BU).2.1;obtain rfl:M=nM:=A.closed 3 GT;clear A;have ZN:=qh J;clear J;have Oc:=qh k;clear k;obtain⟨S,U,m,_,_⟩:=Au Oc.o.top;have m:_=Value.slice S (nM.n) U:=m;subst m;have d:=(cells4 o.o.1).1;refine p.out _ _ (.inr d) ?_;clear p K l;have l:=d;clear d
   try simp only[Act.put,tryL]
   refine Aa.tm 6 l ?_;refine Aa.tm 7 l ?_;refine Aa.tm 8 l ?_
   try simp only[Act.put,tryL]
   refine Aa.on 10 λK p=>?_;obtain⟨⟨r0,r1,r2,r3⟩,rz⟩:=cells4 u.o;have f0:=rz 0;have f1:=rz 1;have f2:=rz 2;have f3:=rz 3;clear rz;go_simp;obtain⟨d6,F⟩:∃d6,d6=(((h5.setCell ⟨T,0,none⟩ (.int .i64 (nM.kind))).setCell (Ad T 1) (.int .i64 (nM.start))).setCell (Ad T 2) (.string (nM.lead))).setCell (Ad T 3) (.slice S nM.n U):=⟨_,rfl⟩;replace s:=qh (show Has d6 bA _ _ _ _ _ _ _ from by rw[F];exact s.o.set u.o O _ _ _ _);replace o:=qh (show Has d6 bB _ _ _ _ _ _ _ from by rw[F];exact o.o.set u.o P _ _ _ _);replace z:=qh (show Has d6 bM _ _ _ _ _ _ _ from by rw[F];exact z.o.set u.o Q _ _ _ _);replace c:=qh (show Below w.heap.size w d6 from by rw[F];exact Ax c.o LN _ _ _ _);have HN:=qh (show Has d6 T _ _ _ _ _ _ nM from by rw[F];exact Has.put Oc.o u.o ⟨rfl,rfl,rfl⟩);clear u Oc;rw[<-F];clear F r0 r1 r2 r3 f0 f1 f2 f3;have d:=(cells4 o.o.1).1;refine p.out _ _ (.inr d) ?_;clear p K l;have l:=d;clear d
   try simp only[Act.put,tryL]
   refine Aa.on 11 λK p=>?_;go_simp;refine p.out _ _ (.inl rfl) (Aa.dn ?_);clear p K l
   go_wp2_with fail
   rw[hX.o];exact awk3 a7 c s o z HN ZM ZN
  skip
  go_simp;obtain⟨e2,a1⟩:=exq<|w8.alloc (.cells #[.int .i64 0,.int .i64 0,.string ⟨#[]⟩,.slice none 0 0] 25);obtain⟨b5,d1⟩:=exq<|w8.heap.size;have g5:e2.heap.size=w8.heap.size+1:=by rw[a1];simp
  have hb:Below w8.heap.size w8 e2:=by rw[a1];exact(Below.refl _ w8).alloc nlr _
  have hh:e2.heap[b5]?=some (.cells #[.int .i64 0,.int .i64 0,.string ⟨#[]⟩,.slice none 0 0] 25 (0,0)):=by rw[d1,a1];exact han w8 _
  have O:bA≠b5:=by have:=lbk s.o.1;omega
  have P:bB≠b5:=by have:=lbk o.o.1;omega
  have Q:bM≠b5:=by have:=lbk z.o.1;omega
  have LN:w.heap.size<=b5:=by have:=c.o.size;omega
  replace Ra:=qh<|Ra.o.kept (Ae hb none);replace s:=qh<|s.o.on hb;replace o:=qh<|o.o.on hb;replace z:=qh<|z.o.on hb;replace c:=qh<|c.o.trans (hb.mono c.o.size);clear hb;have u:=qh hh;clear hh;obtain⟨T,C⟩:∃x,x=b5:=⟨_,rfl⟩;rw[<-C]at u O P Q LN;rw[<-d1,<-a1];rw[<-C];clear a1 g5 d1;clear C;have d:=(cells4 o.o.1).1;refine p _ _ ⟨.inr d,?_⟩;clear p K l;have l:=d;clear d
  try simp only[Act.put,tryL]
  refine Aa.on 3 λK p=>?_;go_simp;have g:=qh<|DX e2 Ra.o (by decide);clear Ra;refine g.o.mono ?_;rintro r g9⟨hb,b7,R,rfl,k⟩;replace s:=qh<|s.o.on hb;replace o:=qh<|o.o.on hb;replace z:=qh<|z.o.on hb;replace u:=qh<|(hb.block _ (lbk u.o)).trans u.o;replace c:=qh<|c.o.trans (hb.mono c.o.size);clear hb;clear g;have Ol:=qh k;clear k;obtain⟨a8,a9,m,_,_⟩:=Au Ol.o.top;have m:_=Value.slice a8 ((Ab eN).n) a9:=m;subst m;have d:=(cells4 o.o.1).1;refine p.out _ _ (.inr d) ?_;clear p K l;have l:=d;clear d
  try simp only[Act.put,tryL]
  refine Aa.on 5 λK p=>?_;go_simp;have g:=qh<|Cp g9 (⟨_,rfl,Ol.o.sts⟩:Ma none g9 (.agg #[.int .i64 (Ab eN).kind,.int .i64 (Ab eN).start,.string (Ab eN).lead,.slice a8 (Ab eN).n a9]) (Ab eN)) o.o.ma DY BU (a7.o g9 c.o);clear Ol;refine g.o.mono ?_;rintro r h6⟨hb,hr⟩;replace s:=qh<|s.o.on hb;replace o:=qh<|o.o.on hb;replace z:=qh<|z.o.on hb;replace u:=qh<|(hb.block _ (lbk u.o)).trans u.o;replace c:=qh<|c.o.trans (hb.mono c.o.size);clear hb;clear g
  rcases hr with⟨_,_,_,⟨n,M,A,b7,R,rfl,k⟩|⟨I,rfl⟩⟩|⟨_,_,B,_⟩|⟨B,_⟩
  rotate_left
  ·exact absurd GY (I.not2 CF Bg rfl)
  ·exact absurd rfl B
  ·exact absurd ⟨CF,Bg⟩ B
  have J:=(A.vm CF Bg rfl DY BU).2.1;obtain rfl:M=nM:=A.closed 3 GT;clear A;have ZN:=qh J;clear J;have Oc:=qh k;clear k;obtain⟨S,U,m,_,_⟩:=Au Oc.o.top;have m:_=Value.slice S (nM.n) U:=m;subst m;have d:=(cells4 o.o.1).1;refine p.out _ _ (.inr d) ?_;clear p K l;have l:=d;clear d
  try simp only[Act.put,tryL]
  refine Aa.tm 6 l ?_;refine Aa.tm 7 l ?_;refine Aa.tm 8 l ?_
  try simp only[Act.put,tryL]
  refine Aa.on 10 λK p=>?_;obtain⟨⟨r0,r1,r2,r3⟩,rz⟩:=cells4 u.o;have f0:=rz 0;have f1:=rz 1;have f2:=rz 2;have f3:=rz 3;clear rz;go_simp;obtain⟨d7,G⟩:∃d7,d7=(((h6.setCell ⟨T,0,none⟩ (.int .i64 (nM.kind))).setCell (Ad T 1) (.int .i64 (nM.start))).setCell (Ad T 2) (.string (nM.lead))).setCell (Ad T 3) (.slice S nM.n U):=⟨_,rfl⟩;replace s:=qh (show Has d7 bA _ _ _ _ _ _ _ from by rw[G];exact s.o.set u.o O _ _ _ _);replace o:=qh (show Has d7 bB _ _ _ _ _ _ _ from by rw[G];exact o.o.set u.o P _ _ _ _);replace z:=qh (show Has d7 bM _ _ _ _ _ _ _ from by rw[G];exact z.o.set u.o Q _ _ _ _);replace c:=qh (show Below w.heap.size w d7 from by rw[G];exact Ax c.o LN _ _ _ _);have HN:=qh (show Has d7 T _ _ _ _ _ _ nM from by rw[G];exact Has.put Oc.o u.o ⟨rfl,rfl,rfl⟩);clear u Oc;rw[<-G];clear G r0 r1 r2 r3 f0 f1 f2 f3;have d:=(cells4 o.o.1).1;refine p.out _ _ (.inr d) ?_;clear p K l;have l:=d;clear d
  try simp only[Act.put,tryL]
  refine Aa.on 11 λK p=>?_;go_simp;refine p.out _ _ (.inl rfl) (Aa.dn ?_);clear p K l
  go_wp2_with fail
  rw[hX.o];exact awk3 a7 c s o z HN ZM ZN
 skip
 go_simp;obtain⟨N,a2⟩:=exq<|wd.alloc (.cells #[.int .i64 0,.int .i64 0,.string ⟨#[]⟩,.slice none 0 0] 25);obtain⟨b6,d2⟩:=exq<|wd.heap.size;have g6:N.heap.size=wd.heap.size+1:=by rw[a2];simp
 have hb:Below wd.heap.size wd N:=by rw[a2];exact(Below.refl _ wd).alloc nlr _
 have hh:N.heap[b6]?=some (.cells #[.int .i64 0,.int .i64 0,.string ⟨#[]⟩,.slice none 0 0] 25 (0,0)):=by rw[d2,a2];exact han wd _
 have O:bA≠b6:=by have:=lbk s.o.1;omega
 have P:bB≠b6:=by have:=lbk o.o.1;omega
 have Q:bM≠b6:=by have:=lbk z.o.1;omega
 have LN:w.heap.size<=b6:=by have:=c.o.size;omega
 replace s:=qh<|s.o.on hb;replace o:=qh<|o.o.on hb;replace z:=qh<|z.o.on hb;replace c:=qh<|c.o.trans (hb.mono c.o.size);clear hb;have u:=qh hh;clear hh;obtain⟨T,C⟩:∃x,x=b6:=⟨_,rfl⟩;rw[<-C]at u O P Q LN;rw[<-d2,<-a2];rw[<-C];clear a2 g6 d2;clear C;have d:=(cells4 o.o.1).1;refine p _ _ ⟨.inr d,?_⟩;clear p K l;have l:=d;clear d
 try simp only[Act.put,tryL]
 refine Aa.on 2 λK p=>?_;go_simp;obtain⟨e3,a4⟩:=exq<|N.alloc (.cells #[.int .i64 1,.int .i64 0,.string ⟨#[49]⟩,.int .i64 0,.int .i64 1,.int .i64 2,.string ⟨#[48]⟩,.int .i64 0] 59);obtain⟨g8,d3⟩:=exq<|N.heap.size;have g7:e3.heap.size=N.heap.size+1:=by rw[a4];simp
 have hb:Below N.heap.size N e3:=by rw[a4];exact(Below.refl _ N).alloc nlr _
 have L:ArS none e3 (.slice (some (Ad g8 0)) 2 2) eN 0:=Dg (D:=eN) (i:=0) (by rw[d3,a4];exact han N _) EI (lt2 ⟨rfl,rfl,rfl,rfl⟩ ⟨rfl,rfl,rfl,rfl⟩);replace s:=qh<|s.o.on hb;replace o:=qh<|o.o.on hb;replace z:=qh<|z.o.on hb;replace u:=qh<|(hb.block _ (lbk u.o)).trans u.o;replace c:=qh<|c.o.trans (hb.mono c.o.size);clear hb;have Ra:=qh L;clear L;rw[<-d3,<-a4];clear a4 g7 d3;have d:=(cells4 o.o.1).1;refine p.out _ _ (.inr d) ?_;clear p K l;have l:=d;clear d
 try simp only[Act.put,tryL]
 refine Aa.on 3 λK p=>?_;go_simp;have g:=qh<|DX e3 Ra.o (by decide);clear Ra;refine g.o.mono ?_;rintro r h0⟨hb,b7,R,rfl,k⟩;replace s:=qh<|s.o.on hb;replace o:=qh<|o.o.on hb;replace z:=qh<|z.o.on hb;replace u:=qh<|(hb.block _ (lbk u.o)).trans u.o;replace c:=qh<|c.o.trans (hb.mono c.o.size);clear hb;clear g;have Ol:=qh k;clear k;obtain⟨a8,a9,m,_,_⟩:=Au Ol.o.top;have m:_=Value.slice a8 ((Ab eN).n) a9:=m;subst m;have d:=(cells4 o.o.1).1;refine p.out _ _ (.inr d) ?_;clear p K l;have l:=d;clear d
 try simp only[Act.put,tryL]
 refine Aa.on 5 λK p=>?_;go_simp;have g:=qh<|Cp h0 (⟨_,rfl,Ol.o.sts⟩:Ma none h0 (.agg #[.int .i64 (Ab eN).kind,.int .i64 (Ab eN).start,.string (Ab eN).lead,.slice a8 (Ab eN).n a9]) (Ab eN)) o.o.ma DY BU (a7.o h0 c.o);clear Ol;refine g.o.mono ?_;rintro r h7⟨hb,hr⟩;replace s:=qh<|s.o.on hb;replace o:=qh<|o.o.on hb;replace z:=qh<|z.o.on hb;replace u:=qh<|(hb.block _ (lbk u.o)).trans u.o;replace c:=qh<|c.o.trans (hb.mono c.o.size);clear hb;clear g
 rcases hr with⟨_,_,_,⟨n,M,A,b7,R,rfl,k⟩|⟨I,rfl⟩⟩|⟨_,_,B,_⟩|⟨B,_⟩
 rotate_left
 ·exact absurd GY (I.not2 CF Bg rfl)
 ·exact absurd rfl B
 ·exact absurd ⟨CF,Bg⟩ B
 have J:=(A.vm CF Bg rfl DY BU).2.1;obtain rfl:M=nM:=A.closed 3 GT;clear A;have ZN:=qh J;clear J;have Oc:=qh k;clear k;obtain⟨S,U,m,_,_⟩:=Au Oc.o.top;have m:_=Value.slice S (nM.n) U:=m;subst m;have d:=(cells4 o.o.1).1;refine p.out _ _ (.inr d) ?_;clear p K l;have l:=d;clear d
 try simp only[Act.put,tryL]
 refine Aa.tm 6 l ?_;refine Aa.tm 7 l ?_;refine Aa.tm 8 l ?_
 try simp only[Act.put,tryL]
 refine Aa.on 10 λK p=>?_;obtain⟨⟨r0,r1,r2,r3⟩,rz⟩:=cells4 u.o;have f0:=rz 0;have f1:=rz 1;have f2:=rz 2;have f3:=rz 3;clear rz;go_simp;obtain⟨d8,H⟩:∃d8,d8=(((h7.setCell ⟨T,0,none⟩ (.int .i64 (nM.kind))).setCell (Ad T 1) (.int .i64 (nM.start))).setCell (Ad T 2) (.string (nM.lead))).setCell (Ad T 3) (.slice S nM.n U):=⟨_,rfl⟩;replace s:=qh (show Has d8 bA _ _ _ _ _ _ _ from by rw[H];exact s.o.set u.o O _ _ _ _);replace o:=qh (show Has d8 bB _ _ _ _ _ _ _ from by rw[H];exact o.o.set u.o P _ _ _ _);replace z:=qh (show Has d8 bM _ _ _ _ _ _ _ from by rw[H];exact z.o.set u.o Q _ _ _ _);replace c:=qh (show Below w.heap.size w d8 from by rw[H];exact Ax c.o LN _ _ _ _);have HN:=qh (show Has d8 T _ _ _ _ _ _ nM from by rw[H];exact Has.put Oc.o u.o ⟨rfl,rfl,rfl⟩);clear u Oc;rw[<-H];clear H r0 r1 r2 r3 f0 f1 f2 f3;have d:=(cells4 o.o.1).1;refine p.out _ _ (.inr d) ?_;clear p K l;have l:=d;clear d
 try simp only[Act.put,tryL]
 refine Aa.on 11 λK p=>?_;go_simp;refine p.out _ _ (.inl rfl) (Aa.dn ?_);clear p K l
 go_wp2_with fail
 rw[hX.o];exact awk3 a7 c s o z HN ZM ZN
def MV{w:World}{k s:Int}{l:ByteArray}{sv:Value}{D:MD}(h:Ma none w (.agg #[.int .i64 k,.int .i64 s,.string l,sv]) D):StS none w sv D:=by
 obtain⟨c,e,g⟩:=h;have d:sv=c:=by
  simp only[Value.agg.injEq,Array.mk.injEq,List.cons.injEq]at e;exact e.2.2.2.1
 rw[d];exact g
def Rx{D E:MD}{mv nv xv yv zv:Value}{na nb nc:Nat}{x y z:Nat->Int}(w:World)(s7:Ma none w mv D)(B:MSz D)(s8:Ma none w nv E)(C:MSz E)(hx:Si none w xv na x)(n7:na<=140737488355328)(hy:Si none w yv nb y)(n9:nb<=140737488355328)(hz:Si none w zv nc z)(r2:nc<=140737488355328)(ht:Tab w):
  Calls prog 8 #[mv,nv,.agg #[xv,yv,zv]] w (TrueB w):=by
 obtain⟨t9,j8,n5⟩:=s7;subst j8;obtain⟨i9,j1,_,_,_,_,_,_,o,_⟩:=n5.open;subst o;have i7:=qh<|show ∀W,Below w.heap.size w W->Ma none W (.agg #[.int .i64 D.kind,.int .i64 D.start,.string D.lead,.slice i9 D.n j1]) D from λW h=>⟨_,rfl,n5.kept (Ae h none)⟩;clear n5;replace B:=qh B;obtain⟨v0,j8,n6⟩:=s8;subst j8;obtain⟨j0,j2,_,_,_,_,_,_,o,_⟩:=n6.open;subst o;have i8:=qh<|show ∀W,Below w.heap.size w W->Ma none W (.agg #[.int .i64 E.kind,.int .i64 E.start,.string E.lead,.slice j0 E.n j2]) E from λW h=>⟨_,rfl,n6.kept (Ae h none)⟩;clear n6;replace C:=qh C;obtain⟨b5,b7,_,_,j7,_,j5,Z,_,_⟩:=hx.open;subst j7;have r4:(na:Int)<=9223372036854775807:=by unfold maxLen at Z;omega
 clear j5 Z;have s4:=qh<|show ∀W,Below w.heap.size w W->Si none W (.slice b5 na b7) na x from λW h=>hx.kept (Ae h none);clear hx;replace r4:=qh r4;replace n7:=qh n7;obtain⟨b6,b8,_,_,j7,_,j5,Z,_,_⟩:=hy.open;subst j7;have r5:(nb:Int)<=9223372036854775807:=by unfold maxLen at Z;omega
 clear j5 Z;have s5:=qh<|show ∀W,Below w.heap.size w W->Si none W (.slice b6 nb b8) nb y from λW h=>hy.kept (Ae h none);clear hy;replace r5:=qh r5;replace n9:=qh n9;obtain⟨l9,m4,_,_,j7,_,j5,Z,_,_⟩:=hz.open;subst j7;have r6:(nc:Int)<=9223372036854775807:=by unfold maxLen at Z;omega
 clear j5 Z;have t8:=qh<|show ∀W,Below w.heap.size w W->Si none W (.slice l9 nc m4) nc z from λW h=>hz.kept (Ae h none);clear hz;replace r6:=qh r6;replace r2:=qh r2;have G:=qh<|show ∀W,Below w.heap.size w W->Tab W from λW h=>ht.below h nlr;clear ht;have c:=qh<|Below.refl w.heap.size w;obtain⟨w1,a4⟩:=exq<|w.alloc (.cells #[.int .i64 D.kind,.int .i64 D.start,.string D.lead,.slice i9 D.n j1] 25);obtain⟨i1,h5⟩:=exq<|w.heap.size;have j9:w1.heap.size=w.heap.size+1:=by rw[a4];simp
 have hb:Below w.heap.size w w1:=by rw[a4];exact(Below.refl _ w).alloc nlr _
 have A:w1.heap[i1]?=some (.cells #[.int .i64 D.kind,.int .i64 D.start,.string D.lead,.slice i9 D.n j1] 25 (0,0)):=by rw[h5,a4];exact han w _
 replace c:=qh<|c.o.trans (hb.mono c.o.size);clear hb;have g:=qh A;clear A;obtain⟨bA,k6⟩:∃x,x=i1:=⟨_,rfl⟩;rw[<-k6]at g;obtain⟨w2,a5⟩:=exq<|w1.alloc (.cells #[.int .i64 E.kind,.int .i64 E.start,.string E.lead,.slice j0 E.n j2] 25);obtain⟨i2,h6⟩:=exq<|w.heap.size+1;have k0:w2.heap.size=w.heap.size+1+1:=by rw[a5];simp[j9]
 have hb:Below w1.heap.size w1 w2:=by rw[a5];exact(Below.refl _ w1).alloc nlr _
 have A:w2.heap[i2]?=some (.cells #[.int .i64 E.kind,.int .i64 E.start,.string E.lead,.slice j0 E.n j2] 25 (0,0)):=by rw[h6,<-j9,a5];exact han w1 _
 replace g:=qh<|(hb.block _ (lbk g.o)).trans g.o;replace c:=qh<|c.o.trans (hb.mono c.o.size);clear hb;have j:=qh A;clear A;obtain⟨bB,k7⟩:∃x,x=i2:=⟨_,rfl⟩;rw[<-k7]at j;obtain⟨w3,a6⟩:=exq<|w2.alloc (.cells #[.slice b5 na b7,.slice b6 nb b8,.slice l9 nc m4] 28);obtain⟨i3,h7⟩:=exq<|w.heap.size+1+1;have k4:w3.heap.size=w.heap.size+1+1+1:=by rw[a6];simp[k0]
 have hb:Below w2.heap.size w2 w3:=by rw[a6];exact(Below.refl _ w2).alloc nlr _
 have A:w3.heap[i3]?=some (.cells #[.slice b5 na b7,.slice b6 nb b8,.slice l9 nc m4] 28 (0,0)):=by rw[h7,<-k0,a6];exact han w2 _
 replace g:=qh<|(hb.block _ (lbk g.o)).trans g.o;replace j:=qh<|(hb.block _ (lbk j.o)).trans j.o;replace c:=qh<|c.o.trans (hb.mono c.o.size);clear hb;have l:=qh A;clear A;obtain⟨bW,k9⟩:∃x,x=i3:=⟨_,rfl⟩;rw[<-k9]at l
 go_enter func8,ntmps8
 have m0:=cellOf g.o 0 rfl;have m1:=cellOf g.o 1 rfl;have L:=cellOf g.o 2 rfl;have O:=cellOf g.o 3 rfl;rw[a6,a5,a4]at m0 m1 L O;rw[k6,h5]at m0 m1 L O;have n0:=cellOf j.o 0 rfl;have n1:=cellOf j.o 1 rfl;have n2:=cellOf j.o 2 rfl;have n3:=cellOf j.o 3 rfl;rw[a6,a5,a4]at n0 n1 n2 n3;rw[k7,h6]at n0 n1 n2 n3;obtain⟨w4,b9⟩:=exq<|w3.alloc (.cells #[.int .i64 D.kind,.int .i64 D.start,.string D.lead,.slice i9 D.n j1,.int .i64 E.kind,.int .i64 E.start,.string E.lead,.slice j0 E.n j2] 25);obtain⟨i4,j3⟩:=exq<|w.heap.size+1+1+1;have k5:w4.heap.size=w.heap.size+1+1+1+1:=by rw[b9];simp[k4]
 have hb:Below w3.heap.size w3 w4:=by rw[b9];exact(Below.refl _ w3).alloc nlr _
 have A:w4.heap[i4]?=some (.cells #[.int .i64 D.kind,.int .i64 D.start,.string D.lead,.slice i9 D.n j1,.int .i64 E.kind,.int .i64 E.start,.string E.lead,.slice j0 E.n j2] 25 (0,0)):=by rw[j3,<-k4,b9];exact han w3 _
 replace g:=qh<|(hb.block _ (lbk g.o)).trans g.o;replace j:=qh<|(hb.block _ (lbk j.o)).trans j.o;replace l:=qh<|(hb.block _ (lbk l.o)).trans l.o;replace c:=qh<|c.o.trans (hb.mono c.o.size);clear hb;have KL:=qh A;clear A;obtain⟨bL,m5⟩:∃x,x=i4:=⟨_,rfl⟩;rw[<-m5]at KL;have q0:=cellOf l.o 0 rfl;have q1:=cellOf l.o 1 rfl;have q2:=cellOf l.o 2 rfl;rw[b9,a6,a5,a4]at q0 q1 q2;rw[k9,h7]at q0 q1 q2;obtain⟨w5,d8⟩:=exq<|w4.alloc (.cells #[.slice b5 na b7,.slice b6 nb b8] 26);obtain⟨i5,j4⟩:=exq<|w.heap.size+1+1+1+1;have r8:w5.heap.size=w.heap.size+1+1+1+1+1:=by rw[d8];simp[k5]
 have hb:Below w4.heap.size w4 w5:=by rw[d8];exact(Below.refl _ w4).alloc nlr _
 have A:w5.heap[i5]?=some (.cells #[.slice b5 na b7,.slice b6 nb b8] 26 (0,0)):=by rw[j4,<-k5,d8];exact han w4 _
 replace g:=qh<|(hb.block _ (lbk g.o)).trans g.o;replace j:=qh<|(hb.block _ (lbk j.o)).trans j.o;replace l:=qh<|(hb.block _ (lbk l.o)).trans l.o;replace KL:=qh<|(hb.block _ (lbk KL.o)).trans KL.o;replace c:=qh<|c.o.trans (hb.mono c.o.size);clear hb;have KV:=qh A;clear A;obtain⟨bV,m7⟩:∃x,x=i5:=⟨_,rfl⟩;rw[<-m7]at KV;have d:=qh<|Ty w5 (MsS.two KL.o (MV (i7.o w5 c.o)) (MV (i8.o w5 c.o))) (WsS.two KV.o) (lt2 (p:=λi=>MSz (pk3 D E E i)) B.o C.o) (by omega) (lt2 (p:=λi=>pk3 na nb nb i<=140737488355328) n7.o n9.o)
 go_wp2_with fail
 clear m0 m1 L O;clear n0 n1 n2 n3;clear q0 q1 q2;rw[<-j4,<-j3,<-h7,<-h6,<-h5,<-a4,<-a5,<-a6,<-b9,<-d8];rw[<-k6];rw[<-k7];rw[<-k9];rw[<-m5];rw[<-m7];clear a4 j9 h5;clear a5 k0 h6;clear a6 k4 h7;clear b9 k5 j3;clear d8 r8 j4;clear k6;clear k7;clear k9;clear m5;clear m7;refine d.o.mono ?_;rintro r w6⟨hb,bl,rfl,o2⟩;replace g:=qh<|(hb.block _ (lbk g.o)).trans g.o;replace j:=qh<|(hb.block _ (lbk j.o)).trans j.o;replace l:=qh<|(hb.block _ (lbk l.o)).trans l.o;replace KL:=qh<|(hb.block _ (lbk KL.o)).trans KL.o;replace KV:=qh<|(hb.block _ (lbk KV.o)).trans KV.o;replace c:=qh<|c.o.trans (hb.mono c.o.size);clear hb;clear d;cases bl
 rotate_left
 ·skip
  clear o2;have d:=qh<|EN w6 (G.o w6 c.o)
  go_wp2_with fail
  refine d.o.mono ?_;rintro r w7⟨rfl,hb⟩;replace g:=qh<|(hb.block _ (lbk g.o)).trans g.o;replace j:=qh<|(hb.block _ (lbk j.o)).trans j.o;replace l:=qh<|(hb.block _ (lbk l.o)).trans l.o;replace KL:=qh<|(hb.block _ (lbk KL.o)).trans KL.o;replace KV:=qh<|(hb.block _ (lbk KV.o)).trans KV.o;replace c:=qh<|c.o.trans (hb.mono c.o.size);clear hb;clear d;go_wp2;go_ret;exact⟨rfl,c.o⟩
 have t7:=qh<|o2 rfl;clear o2;clear KL KV;have m0:=cellOf g.o 0 rfl;have m1:=cellOf g.o 1 rfl;have L:=cellOf g.o 2 rfl;have O:=cellOf g.o 3 rfl;have d:=qh<|Dz w6 (i7.o w6 c.o) B.o (G.o w6 c.o)
 go_wp2_with fail
 clear m0 m1 L O;refine d.o.mono ?_;rintro r w8⟨hb,U⟩;replace g:=qh<|(hb.block _ (lbk g.o)).trans g.o;replace j:=qh<|(hb.block _ (lbk j.o)).trans j.o;replace l:=qh<|(hb.block _ (lbk l.o)).trans l.o;replace c:=qh<|c.o.trans (hb.mono c.o.size);clear hb;clear d
 rcases U with⟨hv,rfl⟩|⟨hv,rfl⟩
 rotate_left
 ·skip
  have d:=qh<|EN w8 (G.o w8 c.o)
  go_wp2_with fail
  refine d.o.mono ?_;rintro r w9⟨rfl,hb⟩;replace g:=qh<|(hb.block _ (lbk g.o)).trans g.o;replace j:=qh<|(hb.block _ (lbk j.o)).trans j.o;replace l:=qh<|(hb.block _ (lbk l.o)).trans l.o;replace c:=qh<|c.o.trans (hb.mono c.o.size);clear hb;clear d;go_wp2;go_ret;exact⟨rfl,c.o⟩
 have e4:=qh hv;clear hv;have m0:=cellOf j.o 0 rfl;have m1:=cellOf j.o 1 rfl;have L:=cellOf j.o 2 rfl;have O:=cellOf j.o 3 rfl;have d:=qh<|Dz w8 (i8.o w8 c.o) C.o (G.o w8 c.o)
 go_wp2_with fail
 clear m0 m1 L O;refine d.o.mono ?_;rintro r i6⟨hb,U⟩;replace g:=qh<|(hb.block _ (lbk g.o)).trans g.o;replace j:=qh<|(hb.block _ (lbk j.o)).trans j.o;replace l:=qh<|(hb.block _ (lbk l.o)).trans l.o;replace c:=qh<|c.o.trans (hb.mono c.o.size);clear hb;clear d
 rcases U with⟨hv,rfl⟩|⟨hv,rfl⟩
 rotate_left
 ·skip
  have d:=qh<|EN i6 (G.o i6 c.o)
  go_wp2_with fail
  refine d.o.mono ?_;rintro r v3⟨rfl,hb⟩;replace g:=qh<|(hb.block _ (lbk g.o)).trans g.o;replace j:=qh<|(hb.block _ (lbk j.o)).trans j.o;replace l:=qh<|(hb.block _ (lbk l.o)).trans l.o;replace c:=qh<|c.o.trans (hb.mono c.o.size);clear hb;clear d;go_wp2;go_ret;exact⟨rfl,c.o⟩
 have e5:=qh hv;clear hv;have m0:=cellOf g.o 0 rfl;have m1:=cellOf g.o 1 rfl;have L:=cellOf g.o 2 rfl;have O:=cellOf g.o 3 rfl;have n0:=cellOf j.o 0 rfl;have n1:=cellOf j.o 1 rfl;have n2:=cellOf j.o 2 rfl;have n3:=cellOf j.o 3 rfl;have d:=qh<|((Cp i6 (i7.o i6 c.o) (i8.o i6 c.o) B.o C.o (G.o i6 c.o)).mono λ_ _ h=>h.two e4.o e5.o)
 go_wp2_with fail
 clear m0 m1 L O;clear n0 n1 n2 n3;refine d.o.mono ?_;rintro r X⟨hb,U⟩;replace g:=qh<|(hb.block _ (lbk g.o)).trans g.o;replace j:=qh<|(hb.block _ (lbk j.o)).trans j.o;replace l:=qh<|(hb.block _ (lbk l.o)).trans l.o;replace c:=qh<|c.o.trans (hb.mono c.o.size);clear hb;clear d
 rcases U with⟨h9,n,M,g1,g3,R,rfl,m⟩|⟨e,he,rfl⟩
 rotate_left
 ·skip
  unfold AP;obtain⟨d9,P⟩:=exq<|X.alloc (.cells #[.int .i64 0,.int .i64 0,.string ⟨#[]⟩,.slice none 0 0] 25);obtain⟨l0,f3⟩:=exq<|X.heap.size;have o7:d9.heap.size=X.heap.size+1:=by rw[P];simp
  have hb:Below X.heap.size X d9:=by rw[P];exact(Below.refl _ X).alloc nlr _
  have A:d9.heap[l0]?=some (.cells #[.int .i64 0,.int .i64 0,.string ⟨#[]⟩,.slice none 0 0] 25 (0,0)):=by rw[f3,P];exact han X _
  replace g:=qh<|(hb.block _ (lbk g.o)).trans g.o;replace j:=qh<|(hb.block _ (lbk j.o)).trans j.o;replace l:=qh<|(hb.block _ (lbk l.o)).trans l.o;replace c:=qh<|c.o.trans (hb.mono c.o.size);clear hb;have KM:=qh A;clear A;obtain⟨bM,f1⟩:∃x,x=l0:=⟨_,rfl⟩;rw[<-f1]at KM;have m0:=cellOf g.o 0 rfl;have m1:=cellOf g.o 1 rfl;have L:=cellOf g.o 2 rfl;have O:=cellOf g.o 3 rfl;rw[P]at m0 m1 L O;have d:=qh<|GP (D:=D) d9 (i7.o d9 c.o) B.o (G.o d9 c.o)
  go_wp2_with fail
  clear m0 m1 L O;rw[<-f3,<-P];rw[<-f1];clear P o7 f3;clear f1;refine d.o.mono ?_;rintro r g4⟨hb,U⟩;replace g:=qh<|(hb.block _ (lbk g.o)).trans g.o;replace j:=qh<|(hb.block _ (lbk j.o)).trans j.o;replace l:=qh<|(hb.block _ (lbk l.o)).trans l.o;replace KM:=qh<|(hb.block _ (lbk KM.o)).trans KM.o;replace c:=qh<|c.o.trans (hb.mono c.o.size);clear hb;clear d;have U:(VM D/\∃sv R,r=.returned (.tuple #[.agg #[.int .i64 D.kind,.int .i64 D.start,.string D.lead,sv],.int .i64 0])/\OwM g4 _ sv D.inv R)\/(¬VM D/\r=.returned (.tuple #[AP,.int .i64 1])):=U
  rcases U with⟨_,g3,R,rfl,m⟩|⟨g2,_⟩
  rotate_left
  ·exact absurd e4.o g2
  obtain⟨e6,e8,o,_,_⟩:=Au m.top;have o:_=Value.slice e6 D.n e8:=o;subst o;obtain⟨e0,Q⟩:=exq<|g4.alloc (.cells #[.int .i64 (D.kind),.int .i64 (D.start),.string (D.lead),.slice e6 D.n e8] 25);obtain⟨l1,f4⟩:=exq<|g4.heap.size;have o8:e0.heap.size=g4.heap.size+1:=by rw[Q];simp
  have hb:Below g4.heap.size g4 e0:=by rw[Q];exact(Below.refl _ g4).alloc nlr _
  have A:Has e0 l1 (D.kind) (D.start) (D.lead) e6 D.n e8 (D.inv):=by rw[f4,Q];exact Has.new m ⟨rfl,rfl,rfl⟩
  clear m;replace g:=qh<|(hb.block _ (lbk g.o)).trans g.o;replace j:=qh<|(hb.block _ (lbk j.o)).trans j.o;replace l:=qh<|(hb.block _ (lbk l.o)).trans l.o;replace KM:=qh<|(hb.block _ (lbk KM.o)).trans KM.o;replace c:=qh<|c.o.trans (hb.mono c.o.size);clear hb;have u:=qh A;clear A;obtain⟨bC,f0⟩:∃x,x=l1:=⟨_,rfl⟩;rw[<-f0]at u;have m0:=cellOf j.o 0 rfl;have m1:=cellOf j.o 1 rfl;have L:=cellOf j.o 2 rfl;have O:=cellOf j.o 3 rfl;rw[Q]at m0 m1 L O;have d:=qh<|GP (D:=E) e0 (i8.o e0 c.o) C.o (G.o e0 c.o)
  go_wp2_with fail
  clear m0 m1 L O;rw[<-f4,<-Q];rw[<-f0];clear Q o8 f4;clear f0;refine d.o.mono ?_;rintro r g5⟨hb,U⟩;replace u:=qh<|u.o.on hb;replace g:=qh<|(hb.block _ (lbk g.o)).trans g.o;replace j:=qh<|(hb.block _ (lbk j.o)).trans j.o;replace l:=qh<|(hb.block _ (lbk l.o)).trans l.o;replace KM:=qh<|(hb.block _ (lbk KM.o)).trans KM.o;replace c:=qh<|c.o.trans (hb.mono c.o.size);clear hb;clear d;have U:(VM E/\∃sv R,r=.returned (.tuple #[.agg #[.int .i64 E.kind,.int .i64 E.start,.string E.lead,sv],.int .i64 0])/\OwM g5 _ sv E.inv R)\/(¬VM E/\r=.returned (.tuple #[AP,.int .i64 1])):=U
  rcases U with⟨_,g3,R,rfl,m⟩|⟨g2,_⟩
  rotate_left
  ·exact absurd e5.o g2
  obtain⟨e7,e9,o,_,_⟩:=Au m.top;have o:_=Value.slice e7 E.n e9:=o;subst o;obtain⟨g6,H⟩:=exq<|g5.alloc (.cells #[.int .i64 (E.kind),.int .i64 (E.start),.string (E.lead),.slice e7 E.n e9] 25);obtain⟨l2,d1⟩:=exq<|g5.heap.size;have o9:g6.heap.size=g5.heap.size+1:=by rw[H];simp
  have hb:Below g5.heap.size g5 g6:=by rw[H];exact(Below.refl _ g5).alloc nlr _
  have A:Has g6 l2 (E.kind) (E.start) (E.lead) e7 E.n e9 (E.inv):=by rw[d1,H];exact Has.new m ⟨rfl,rfl,rfl⟩
  clear m;replace u:=qh<|u.o.on hb;replace g:=qh<|(hb.block _ (lbk g.o)).trans g.o;replace j:=qh<|(hb.block _ (lbk j.o)).trans j.o;replace l:=qh<|(hb.block _ (lbk l.o)).trans l.o;replace KM:=qh<|(hb.block _ (lbk KM.o)).trans KM.o;replace c:=qh<|c.o.trans (hb.mono c.o.size);clear hb;have F:=qh A;clear A;obtain⟨bI,d0⟩:∃x,x=l2:=⟨_,rfl⟩;rw[<-d0]at F;have m0:=cellOf F.o.1 0 rfl;have m1:=cellOf F.o.1 1 rfl;have L:=cellOf F.o.1 2 rfl;have O:=cellOf F.o.1 3 rfl;rw[H]at m0 m1 L O;rw[d0,d1]at m0 m1 L O;have n0:=cellOf u.o.1 0 rfl;have n1:=cellOf u.o.1 1 rfl;have n2:=cellOf u.o.1 2 rfl;have n3:=cellOf u.o.1 3 rfl;rw[H]at n0 n1 n2 n3;have d:=qh<|((Cp (D:=E.inv) (E:=D.inv) g6 F.o.ma u.o.ma (show MSz E.inv from { C.o with }) (show MSz D.inv from { B.o with }) (G.o g6 c.o)).mono λ_ _ h=>h.raw)
  go_wp2_with fail
  clear m0 m1 L O;clear n0 n1 n2 n3;rw[<-d1,<-H];rw[<-d0];clear H o9 d1;clear d0;refine d.o.mono ?_;rintro r g7⟨hb,rk,rs,rl,ra,rn,rc,e2,rfl⟩;replace u:=qh<|u.o.on hb;replace F:=qh<|F.o.on hb;replace g:=qh<|(hb.block _ (lbk g.o)).trans g.o;replace j:=qh<|(hb.block _ (lbk j.o)).trans j.o;replace l:=qh<|(hb.block _ (lbk l.o)).trans l.o;replace KM:=qh<|(hb.block _ (lbk KM.o)).trans KM.o;replace c:=qh<|c.o.trans (hb.mono c.o.size);clear hb;clear d;obtain⟨g8,a8⟩:=exq<|g7.alloc (.cells #[.int .i64 rk,.int .i64 rs,.string rl,.slice ra rn rc] 25);obtain⟨l3,f5⟩:=exq<|g7.heap.size;have p0:g8.heap.size=g7.heap.size+1:=by rw[a8];simp
  have hb:Below g7.heap.size g7 g8:=by rw[a8];exact(Below.refl _ g7).alloc nlr _
  have A:g8.heap[l3]?=some (.cells #[.int .i64 rk,.int .i64 rs,.string rl,.slice ra rn rc] 25 (0,0)):=by rw[f5,a8];exact han g7 _
  replace u:=qh<|u.o.on hb;replace F:=qh<|F.o.on hb;replace g:=qh<|(hb.block _ (lbk g.o)).trans g.o;replace j:=qh<|(hb.block _ (lbk j.o)).trans j.o;replace l:=qh<|(hb.block _ (lbk l.o)).trans l.o;replace KM:=qh<|(hb.block _ (lbk KM.o)).trans KM.o;replace c:=qh<|c.o.trans (hb.mono c.o.size);clear hb;have KN:=qh A;clear A;obtain⟨bN,a7⟩:∃x,x=l3:=⟨_,rfl⟩;rw[<-a7]at KN;have d:=qh<|EN g8 (G.o g8 c.o)
  go_wp2_with fail
  rw[<-f5,<-a8];rw[<-a7];clear a8 p0 f5;clear a7;refine d.o.mono ?_;rintro r v4⟨rfl,hb⟩;replace u:=qh<|u.o.on hb;replace F:=qh<|F.o.on hb;replace g:=qh<|(hb.block _ (lbk g.o)).trans g.o;replace j:=qh<|(hb.block _ (lbk j.o)).trans j.o;replace l:=qh<|(hb.block _ (lbk l.o)).trans l.o;replace KM:=qh<|(hb.block _ (lbk KM.o)).trans KM.o;replace KN:=qh<|(hb.block _ (lbk KN.o)).trans KN.o;replace c:=qh<|c.o.trans (hb.mono c.o.size);clear hb;clear d;go_wp2;go_ret;exact⟨rfl,c.o⟩
 replace h9:=qh h9;obtain⟨r7,o5,h8,-,-,-⟩:=g1.vm e4.o e5.o h9.o B.o C.o;rw[h8];have s3:=qh g1;clear g1;replace r7:=qh r7;replace o5:=qh o5;obtain⟨d4,d6,o,_,_⟩:=Au m.top;have o:_=Value.slice d4 M.n d6:=o;subst o;obtain⟨e1,S⟩:=exq<|X.alloc (.cells #[.int .i64 (D.kind),.int .i64 (M.start),.string (M.lead),.slice d4 M.n d6] 25);obtain⟨l4,f7⟩:=exq<|X.heap.size;have p6:e1.heap.size=X.heap.size+1:=by rw[S];simp
 have hb:Below X.heap.size X e1:=by rw[S];exact(Below.refl _ X).alloc nlr _
 have A:Has e1 l4 (D.kind) (M.start) (M.lead) d4 M.n d6 (M):=by rw[f7,S];exact Has.new m ⟨h8.symm,rfl,rfl⟩
 clear m;replace g:=qh<|(hb.block _ (lbk g.o)).trans g.o;replace j:=qh<|(hb.block _ (lbk j.o)).trans j.o;replace l:=qh<|(hb.block _ (lbk l.o)).trans l.o;replace c:=qh<|c.o.trans (hb.mono c.o.size);clear hb;have J:=qh A;clear A;obtain⟨bM,f1⟩:∃x,x=l4:=⟨_,rfl⟩;rw[<-f1]at J;replace h8:=qh h8;have m0:=cellOf g.o 0 rfl;have m1:=cellOf g.o 1 rfl;have L:=cellOf g.o 2 rfl;have O:=cellOf g.o 3 rfl;rw[S]at m0 m1 L O;have d:=qh<|GP (D:=D) e1 (i7.o e1 c.o) B.o (G.o e1 c.o)
 go_wp2_with fail
 clear m0 m1 L O;rw[<-f7,<-S];rw[<-f1];clear S p6 f7;clear f1;refine d.o.mono ?_;rintro r g9⟨hb,U⟩;replace J:=qh<|J.o.on hb;replace g:=qh<|(hb.block _ (lbk g.o)).trans g.o;replace j:=qh<|(hb.block _ (lbk j.o)).trans j.o;replace l:=qh<|(hb.block _ (lbk l.o)).trans l.o;replace c:=qh<|c.o.trans (hb.mono c.o.size);clear hb;clear d;have U:(VM D/\∃sv R,r=.returned (.tuple #[.agg #[.int .i64 D.kind,.int .i64 D.start,.string D.lead,sv],.int .i64 0])/\OwM g9 _ sv D.inv R)\/(¬VM D/\r=.returned (.tuple #[AP,.int .i64 1])):=U
 rcases U with⟨_,g3,R,rfl,m⟩|⟨g2,_⟩
 rotate_left
 ·exact absurd e4.o g2
 obtain⟨e6,e8,o,_,_⟩:=Au m.top;have o:_=Value.slice e6 D.n e8:=o;subst o;obtain⟨e3,T⟩:=exq<|g9.alloc (.cells #[.int .i64 (D.kind),.int .i64 (D.start),.string (D.lead),.slice e6 D.n e8] 25);obtain⟨l5,f8⟩:=exq<|g9.heap.size;have p7:e3.heap.size=g9.heap.size+1:=by rw[T];simp
 have hb:Below g9.heap.size g9 e3:=by rw[T];exact(Below.refl _ g9).alloc nlr _
 have A:Has e3 l5 (D.kind) (D.start) (D.lead) e6 D.n e8 (D.inv):=by rw[f8,T];exact Has.new m ⟨rfl,rfl,rfl⟩
 clear m;replace J:=qh<|J.o.on hb;replace g:=qh<|(hb.block _ (lbk g.o)).trans g.o;replace j:=qh<|(hb.block _ (lbk j.o)).trans j.o;replace l:=qh<|(hb.block _ (lbk l.o)).trans l.o;replace c:=qh<|c.o.trans (hb.mono c.o.size);clear hb;have u:=qh A;clear A;obtain⟨bC,f0⟩:∃x,x=l5:=⟨_,rfl⟩;rw[<-f0]at u;have m0:=cellOf j.o 0 rfl;have m1:=cellOf j.o 1 rfl;have L:=cellOf j.o 2 rfl;have O:=cellOf j.o 3 rfl;rw[T]at m0 m1 L O;have d:=qh<|GP (D:=E) e3 (i8.o e3 c.o) C.o (G.o e3 c.o)
 go_wp2_with fail
 clear m0 m1 L O;rw[<-f8,<-T];rw[<-f0];clear T p7 f8;clear f0;refine d.o.mono ?_;rintro r h1⟨hb,U⟩;replace J:=qh<|J.o.on hb;replace u:=qh<|u.o.on hb;replace g:=qh<|(hb.block _ (lbk g.o)).trans g.o;replace j:=qh<|(hb.block _ (lbk j.o)).trans j.o;replace l:=qh<|(hb.block _ (lbk l.o)).trans l.o;replace c:=qh<|c.o.trans (hb.mono c.o.size);clear hb;clear d;have U:(VM E/\∃sv R,r=.returned (.tuple #[.agg #[.int .i64 E.kind,.int .i64 E.start,.string E.lead,sv],.int .i64 0])/\OwM h1 _ sv E.inv R)\/(¬VM E/\r=.returned (.tuple #[AP,.int .i64 1])):=U
 rcases U with⟨_,g3,R,rfl,m⟩|⟨g2,_⟩
 rotate_left
 ·exact absurd e5.o g2
 obtain⟨e7,e9,o,_,_⟩:=Au m.top;have o:_=Value.slice e7 E.n e9:=o;subst o;obtain⟨h2,I⟩:=exq<|h1.alloc (.cells #[.int .i64 (E.kind),.int .i64 (E.start),.string (E.lead),.slice e7 E.n e9] 25);obtain⟨l6,d2⟩:=exq<|h1.heap.size;have p8:h2.heap.size=h1.heap.size+1:=by rw[I];simp
 have hb:Below h1.heap.size h1 h2:=by rw[I];exact(Below.refl _ h1).alloc nlr _
 have A:Has h2 l6 (E.kind) (E.start) (E.lead) e7 E.n e9 (E.inv):=by rw[d2,I];exact Has.new m ⟨rfl,rfl,rfl⟩
 clear m;replace J:=qh<|J.o.on hb;replace u:=qh<|u.o.on hb;replace g:=qh<|(hb.block _ (lbk g.o)).trans g.o;replace j:=qh<|(hb.block _ (lbk j.o)).trans j.o;replace l:=qh<|(hb.block _ (lbk l.o)).trans l.o;replace c:=qh<|c.o.trans (hb.mono c.o.size);clear hb;have F:=qh A;clear A;obtain⟨bI,d0⟩:∃x,x=l6:=⟨_,rfl⟩;rw[<-d0]at F;have m0:=cellOf F.o.1 0 rfl;have m1:=cellOf F.o.1 1 rfl;have L:=cellOf F.o.1 2 rfl;have O:=cellOf F.o.1 3 rfl;rw[I]at m0 m1 L O;rw[d0,d2]at m0 m1 L O;have n0:=cellOf u.o.1 0 rfl;have n1:=cellOf u.o.1 1 rfl;have n2:=cellOf u.o.1 2 rfl;have n3:=cellOf u.o.1 3 rfl;rw[I]at n0 n1 n2 n3;have d:=qh<|((Cp (D:=E.inv) (E:=D.inv) h2 F.o.ma u.o.ma (show MSz E.inv from { C.o with }) (show MSz D.inv from { B.o with }) (G.o h2 c.o)).mono λ_ _ h=>h.two (Ek e5.o) (Ek e4.o))
 go_wp2_with fail
 clear m0 m1 L O;clear n0 n1 n2 n3;rw[<-d2,<-I];rw[<-d0];clear I p8 d2;clear d0;refine d.o.mono ?_;rintro r Y⟨hb,U⟩;replace J:=qh<|J.o.on hb;replace u:=qh<|u.o.on hb;replace F:=qh<|F.o.on hb;replace g:=qh<|(hb.block _ (lbk g.o)).trans g.o;replace j:=qh<|(hb.block _ (lbk j.o)).trans j.o;replace l:=qh<|(hb.block _ (lbk l.o)).trans l.o;replace c:=qh<|c.o.trans (hb.mono c.o.size);clear hb;clear d
 rcases U with⟨_,n',N,g1,g3,R,rfl,m⟩|⟨e,he,rfl⟩
 rotate_left
 ·skip
  unfold AP;obtain⟨h3,a9⟩:=exq<|Y.alloc (.cells #[.int .i64 0,.int .i64 0,.string ⟨#[]⟩,.slice none 0 0] 25);obtain⟨l7,f9⟩:=exq<|Y.heap.size;have p9:h3.heap.size=Y.heap.size+1:=by rw[a9];simp
  have hb:Below Y.heap.size Y h3:=by rw[a9];exact(Below.refl _ Y).alloc nlr _
  have A:h3.heap[l7]?=some (.cells #[.int .i64 0,.int .i64 0,.string ⟨#[]⟩,.slice none 0 0] 25 (0,0)):=by rw[f9,a9];exact han Y _
  replace J:=qh<|J.o.on hb;replace u:=qh<|u.o.on hb;replace F:=qh<|F.o.on hb;replace g:=qh<|(hb.block _ (lbk g.o)).trans g.o;replace j:=qh<|(hb.block _ (lbk j.o)).trans j.o;replace l:=qh<|(hb.block _ (lbk l.o)).trans l.o;replace c:=qh<|c.o.trans (hb.mono c.o.size);clear hb;have KN:=qh A;clear A;obtain⟨bN,a7⟩:∃x,x=l7:=⟨_,rfl⟩;rw[<-a7]at KN;have d:=qh<|EN h3 (G.o h3 c.o)
  go_wp2_with fail
  rw[<-f9,<-a9];rw[<-a7];clear a9 p9 f9;clear a7;refine d.o.mono ?_;rintro r v5⟨rfl,hb⟩;replace J:=qh<|J.o.on hb;replace u:=qh<|u.o.on hb;replace F:=qh<|F.o.on hb;replace g:=qh<|(hb.block _ (lbk g.o)).trans g.o;replace j:=qh<|(hb.block _ (lbk j.o)).trans j.o;replace l:=qh<|(hb.block _ (lbk l.o)).trans l.o;replace KN:=qh<|(hb.block _ (lbk KN.o)).trans KN.o;replace c:=qh<|c.o.trans (hb.mono c.o.size);clear hb;clear d;go_wp2;go_ret;exact⟨rfl,c.o⟩
 obtain⟨o3,o6,r3,-,-,-⟩:=g1.vm (Ek e5.o) (Ek e4.o) h9.o.symm (show MSz E.inv from { C.o with }) (show MSz D.inv from { B.o with });have j6:N.kind=D.kind:=r3.trans h9.o.symm;clear r3;rw[j6];have r9:=qh g1;clear g1;replace o3:=qh o3;replace o6:=qh o6;obtain⟨d5,d7,o,_,_⟩:=Au m.top;have o:_=Value.slice d5 N.n d7:=o;subst o;obtain⟨d3,b4⟩:=exq<|Y.alloc (.cells #[.int .i64 (D.kind),.int .i64 (N.start),.string (N.lead),.slice d5 N.n d7] 25);obtain⟨l8,g0⟩:=exq<|Y.heap.size;have q7:d3.heap.size=Y.heap.size+1:=by rw[b4];simp
 have hb:Below Y.heap.size Y d3:=by rw[b4];exact(Below.refl _ Y).alloc nlr _
 have A:Has d3 l8 (D.kind) (N.start) (N.lead) d5 N.n d7 (N):=by rw[g0,b4];exact Has.new m ⟨j6.symm,rfl,rfl⟩
 clear m;replace J:=qh<|J.o.on hb;replace u:=qh<|u.o.on hb;replace F:=qh<|F.o.on hb;replace g:=qh<|(hb.block _ (lbk g.o)).trans g.o;replace j:=qh<|(hb.block _ (lbk j.o)).trans j.o;replace l:=qh<|(hb.block _ (lbk l.o)).trans l.o;replace c:=qh<|c.o.trans (hb.mono c.o.size);clear hb;have HN:=qh A;clear A;obtain⟨bN,a7⟩:∃x,x=l8:=⟨_,rfl⟩;rw[<-a7]at HN;replace j6:=qh j6;obtain⟨wd,o4⟩:=exq<|d3.drew;have hb:Below d3.heap.size d3 wd:=by rw[o4];exact(Below.refl _ d3).drew
 replace J:=qh<|J.o.on hb;replace u:=qh<|u.o.on hb;replace F:=qh<|F.o.on hb;replace HN:=qh<|HN.o.on hb;replace g:=qh<|(hb.block _ (lbk g.o)).trans g.o;replace j:=qh<|(hb.block _ (lbk j.o)).trans j.o;replace l:=qh<|(hb.block _ (lbk l.o)).trans l.o;replace c:=qh<|c.o.trans (hb.mono c.o.size);clear hb;have f2:(λs:World=>s.cell? (Ad bM 0)=some (.int .i64 D.kind)/\s.cell? (Ad bM 1)=some (.int .i64 M.start)/\s.cell? (Ad bM 2)=some (.string M.lead)/\s.cell? (Ad bM 3)=some (.slice d4 M.n d6)/\s.cell? (Ad bN 0)=some (.int .i64 D.kind)/\s.cell? (Ad bN 1)=some (.int .i64 N.start)/\s.cell? (Ad bN 2)=some (.string N.lead)/\s.cell? (Ad bN 3)=some (.slice d5 N.n d7)/\s.cell? (Ad bW 0)=some (.slice b5 na b7)/\s.cell? (Ad bW 1)=some (.slice b6 nb b8)) wd:=by
  obtain⟨⟨a0,a1,a2,a3⟩,_⟩:=cells4 J.o.1;obtain⟨⟨b0,b1,b2,b3⟩,_⟩:=cells4 HN.o.1;exact⟨a0,a1,a2,a3,b0,b1,b2,b3,cellOf l.o 0 rfl,cellOf l.o 1 rfl⟩
 go_wp2_with fail
 rw[<-g0,<-b4];rw[<-a7];clear b4 q7 g0;clear a7;refine AD (λs=>s.cell? (Ad bM 0)=some (.int .i64 D.kind)/\s.cell? (Ad bM 1)=some (.int .i64 M.start)/\s.cell? (Ad bM 2)=some (.string M.lead)/\s.cell? (Ad bM 3)=some (.slice d4 M.n d6)/\s.cell? (Ad bN 0)=some (.int .i64 D.kind)/\s.cell? (Ad bN 1)=some (.int .i64 N.start)/\s.cell? (Ad bN 2)=some (.string N.lead)/\s.cell? (Ad bN 3)=some (.slice d5 N.n d7)/\s.cell? (Ad bW 0)=some (.slice b5 na b7)/\s.cell? (Ad bW 1)=some (.slice b6 nb b8)) 11 (by kernel_rfl) ?_;rw[<-o4];clear o4;refine Aa.tm 0 f2 ?_;refine Aa.tm 1 f2 ?_;refine Aa.tm 3 f2 ?_;refine Aa.tm 4 f2 ?_;refine Aa.tm 5 f2 ?_;refine Aa.tm 6 f2 ?_
 try simp only[Act.put,tryL]
 refine Aa.on 2 λK hK=>?_;go_simp;refine(Xk (D:=N) wd HN.o.ma o3.o).mono ?_;rintro r h4⟨hb,U⟩;have U:∃sv R,r=.returned (.agg #[.int .i64 N.kind,.int .i64 N.start,.string N.lead,sv])/\OwM h4 wd.heap.size sv N.inv R:=U;obtain⟨g3,R,rfl,ho⟩:=U;have q9:=qh<|show Ma none h4 (.agg #[.int .i64 N.kind,.int .i64 N.start,.string N.lead,g3]) N.inv from ho.ma (Below.refl _ h4);clear ho;replace J:=qh<|J.o.on hb;replace u:=qh<|u.o.on hb;replace F:=qh<|F.o.on hb;replace HN:=qh<|HN.o.on hb;replace g:=qh<|(hb.block _ (lbk g.o)).trans g.o;replace j:=qh<|(hb.block _ (lbk j.o)).trans j.o;replace l:=qh<|(hb.block _ (lbk l.o)).trans l.o;replace c:=qh<|c.o.trans (hb.mono c.o.size);clear hb;have r0:(λs:World=>s.cell? (Ad bM 0)=some (.int .i64 D.kind)/\s.cell? (Ad bM 1)=some (.int .i64 M.start)/\s.cell? (Ad bM 2)=some (.string M.lead)/\s.cell? (Ad bM 3)=some (.slice d4 M.n d6)/\s.cell? (Ad bN 0)=some (.int .i64 D.kind)/\s.cell? (Ad bN 1)=some (.int .i64 N.start)/\s.cell? (Ad bN 2)=some (.string N.lead)/\s.cell? (Ad bN 3)=some (.slice d5 N.n d7)/\s.cell? (Ad bW 0)=some (.slice b5 na b7)/\s.cell? (Ad bW 1)=some (.slice b6 nb b8)) h4:=by
  obtain⟨⟨a0,a1,a2,a3⟩,_⟩:=cells4 J.o.1;obtain⟨⟨b0,b1,b2,b3⟩,_⟩:=cells4 HN.o.1;exact⟨a0,a1,a2,a3,b0,b1,b2,b3,cellOf l.o 0 rfl,cellOf l.o 1 rfl⟩
 refine hK.out _ _ (.inr r0) ?_;clear hK K f2
 try simp only[Act.put,tryL]
 refine Aa.on 7 λK hK=>?_;go_simp;refine(SG (D:=M) (E:=N.inv) h4 J.o.ma q9.o o5.o (show MSz N.inv from { o6.o with }) (s4.o h4 c.o) (s5.o h4 c.o) (λz z' v1 v2 x1 y1 k1 k2 h0 s6=>Wv.eq k1 k2 v1 (show N.kind=M.kind from j6.o.trans h8.o.symm) (λk hk=>VP e4.o e5.o h9.o B.o C.o s3.o r9.o (hk.trans h8.o) _ _) h0 s6)).mono ?_;rintro r q8⟨rfl,hb⟩;clear q9;replace J:=qh<|J.o.on hb;replace u:=qh<|u.o.on hb;replace F:=qh<|F.o.on hb;replace HN:=qh<|HN.o.on hb;replace g:=qh<|(hb.block _ (lbk g.o)).trans g.o;replace j:=qh<|(hb.block _ (lbk j.o)).trans j.o;replace l:=qh<|(hb.block _ (lbk l.o)).trans l.o;replace c:=qh<|c.o.trans (hb.mono c.o.size);clear hb;have m8:(λs:World=>s.cell? (Ad bM 0)=some (.int .i64 D.kind)/\s.cell? (Ad bM 1)=some (.int .i64 M.start)/\s.cell? (Ad bM 2)=some (.string M.lead)/\s.cell? (Ad bM 3)=some (.slice d4 M.n d6)/\s.cell? (Ad bN 0)=some (.int .i64 D.kind)/\s.cell? (Ad bN 1)=some (.int .i64 N.start)/\s.cell? (Ad bN 2)=some (.string N.lead)/\s.cell? (Ad bN 3)=some (.slice d5 N.n d7)/\s.cell? (Ad bW 0)=some (.slice b5 na b7)/\s.cell? (Ad bW 1)=some (.slice b6 nb b8)) q8:=by
  obtain⟨⟨a0,a1,a2,a3⟩,_⟩:=cells4 J.o.1;obtain⟨⟨b0,b1,b2,b3⟩,_⟩:=cells4 HN.o.1;exact⟨a0,a1,a2,a3,b0,b1,b2,b3,cellOf l.o 0 rfl,cellOf l.o 1 rfl⟩
 refine hK.out _ _ (.inr m8) ?_;clear hK K r0
 try simp only[Act.put,tryL]
 refine Aa.tm 8 m8 ?_
 try simp only[Act.put,tryL]
 refine Aa.on 9 λK hK=>?_;go_simp;refine(EN q8 (G.o q8 c.o)).mono ?_;rintro r s9⟨rfl,hb⟩;replace J:=qh<|J.o.on hb;replace u:=qh<|u.o.on hb;replace F:=qh<|F.o.on hb;replace HN:=qh<|HN.o.on hb;replace g:=qh<|(hb.block _ (lbk g.o)).trans g.o;replace j:=qh<|(hb.block _ (lbk j.o)).trans j.o;replace l:=qh<|(hb.block _ (lbk l.o)).trans l.o;replace c:=qh<|c.o.trans (hb.mono c.o.size);clear hb;have m9:(λs:World=>s.cell? (Ad bM 0)=some (.int .i64 D.kind)/\s.cell? (Ad bM 1)=some (.int .i64 M.start)/\s.cell? (Ad bM 2)=some (.string M.lead)/\s.cell? (Ad bM 3)=some (.slice d4 M.n d6)/\s.cell? (Ad bN 0)=some (.int .i64 D.kind)/\s.cell? (Ad bN 1)=some (.int .i64 N.start)/\s.cell? (Ad bN 2)=some (.string N.lead)/\s.cell? (Ad bN 3)=some (.slice d5 N.n d7)/\s.cell? (Ad bW 0)=some (.slice b5 na b7)/\s.cell? (Ad bW 1)=some (.slice b6 nb b8)) s9:=by
  obtain⟨⟨a0,a1,a2,a3⟩,_⟩:=cells4 J.o.1;obtain⟨⟨b0,b1,b2,b3⟩,_⟩:=cells4 HN.o.1;exact⟨a0,a1,a2,a3,b0,b1,b2,b3,cellOf l.o 0 rfl,cellOf l.o 1 rfl⟩
 refine hK.out _ _ (.inr m9) ?_;clear hK K m8
 try simp only[Act.put,tryL]
 refine Aa.tm 10 m9 ?_
 try simp only[Act.put,tryL]
 refine Aa.on 11 λK hK=>?_;go_simp;refine hK.out _ _ (.inl rfl) (Aa.dn ?_);clear hK K m9;go_wp2;go_ret;exact⟨rfl,c.o⟩
end
end Go.Proofs.YtpldocnhbdlgfaaGreatDoor
