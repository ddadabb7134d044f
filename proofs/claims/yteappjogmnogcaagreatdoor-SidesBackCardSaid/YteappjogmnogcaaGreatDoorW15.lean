/- Parts of a proof: ExW ArcW LwC PutW SidV HasW L10Back AM ArgI. -/
import Derived.Test.YteappjogmnogcaaGreatDoorW14
import Derived.Test.YteappjogmnogcaaGreatDoorW06
import Derived.Test.YteappjogmnogcaaGreatDoorW07
import Derived.Test.YteappjogmnogcaaGreatDoorW13
import Derived.Test.YteappjogmnogcaaGreatDoorW10
import Derived.Deep.Slices
import Derived.SliceStrings
import Derived.ChangeSlices
import Derived.Lib.SmallJoins
import Derived.Deep.SlicePairs
import Derived.SizedLaws
namespace Go.Proofs.YteappjogmnogcaaGreatDoor
set_option maxRecDepth 100000
set_option linter.unusedSimpArgs false
set_option linter.unusedVariables false
set_option linter.unusedSectionVars false
set_option maxHeartbeats 16000000
open Go Tryz
section
open Go.RowKit Go.Deep
def Has (W:World) (b:Nat) (k s:Int) (l:ByteArray) (a:Option Addr) (n c:Nat) (D:MD):Prop :=
 W.heap[b]?=some (.cells #[.int .i64 k,.int .i64 s,.string l,.slice a n c] 24 (0,0))/\(k=D.kind/\s=D.start/\l=D.lead)/\∃ R,OwM W 0 (.slice a n c) D R
theorem x3y {w c:World} {sv:Value} {D:MD} {B:Nat} {R:Nat->Value} (h:OwM w B sv D R) (hb:Below w.heap.size w c):OwM c B sv D R :=
 ⟨z2j h.top (z0b hb none) (fun _ _=>by simp),fun i hi=>z2j (h.row i hi) (z0b hb none) (fun _ _=>by simp),h.apart⟩
variable {W W':World} {b rb:Nat} {k s:Int} {l:ByteArray} {a:Option Addr} {n c:Nat} {D:MD}
theorem Has.on (h:Has W b k s l a n c D) (hb:Below W.heap.size W W'):Has W' b k s l a n c D:=⟨(hb.block b (lt_of_block h.1)).trans h.1,h.2.1,by obtain⟨R,d⟩:=h.2.2;exact⟨R,x3y d hb⟩⟩
theorem Has.ma (h:Has W b k s l a n c D):Ma none W (.agg #[.int .i64 k,.int .i64 s,.string l,.slice a n c]) D:=by
 obtain⟨_,⟨rfl,rfl,rfl⟩,R,d⟩:=h;exact d.ma blr
theorem Has.set (h:Has W b k s l a n c D) {c0 c1 c2 c3:Value} (m:W.heap[rb]?=some (.cells #[c0,c1,c2,c3] 24 (0,0))) (d:b≠rb) (u p j o:Value):Has ((((W.setCell ⟨rb,0,none⟩ u).setCell ⟨rb,1,none⟩ p).setCell ⟨rb,2,none⟩ j).setCell ⟨rb,3,none⟩ o) b k s l a n c D:=by
 obtain⟨g,z,R,i⟩:=h;refine⟨?_,z,R,i.box4 m _ _ _ _⟩;rw[z0g d,z0g d,z0g d,z0g d];exact g
theorem Has.new {B:Nat} {R:Nat->Value} (h:OwM W B (.slice a n c) D R) (e:k=D.kind/\s=D.start/\l=D.lead):Has (W.alloc (.cells #[.int .i64 k,.int .i64 s,.string l,.slice a n c] 24)) W.heap.size k s l a n c D :=
 ⟨heap_alloc_new W _,e,R,z3z (x3y h ((Below.refl _ W).alloc nlr _)) (Nat.zero_le _)⟩
theorem Has.put {B:Nat} {R:Nat->Value} {c0 c1 c2 c3:Value} (h:OwM W B (.slice a n c) D R) (d:W.heap[rb]?=some (.cells #[c0,c1,c2,c3] 24 (0,0))) (e:k=D.kind/\s=D.start/\l=D.lead):Has ((((W.setCell ⟨rb,0,none⟩ (.int .i64 k)).setCell ⟨rb,1,none⟩ (.int .i64 s)).setCell ⟨rb,2,none⟩ (.string l)).setCell ⟨rb,3,none⟩ (.slice a n c)) rb k s l a n c D :=
 ⟨z0w W rb _ _ _ _ d,e,R,z3z (h.box4 d _ _ _ _) (Nat.zero_le _)⟩
theorem v8z:AccD abD:=by
 have h:∀ q,q<abD.n->∀ d,d<abD.na q->abD.aout q d=abD.ain q d:=by decide +kernel
 exact fun q d g c=>h q g d c
theorem u2u:AccD kD:=by
 have h:∀ q,q<kD.n->∀ d,d<kD.na q->kD.aout q d=kD.ain q d:=by decide +kernel
 exact fun q d g c=>h q g d c
theorem u5d:dnOk (tmF (z0n abD.kind abD.lead kD.lead) 0) (kD.n+abD.n) (catA abD.inZ kD.outZ):=by unfold dnOk;decide +kernel
theorem z0y (w:World) (ht:Tab w):Calls prog 15 #[] w (TrueB w):=by
 have B:=qh (show ∀ W,Below w.heap.size w W->Tab W from fun W h=>ht.below h nlr);clear ht;have c:=qh (Below.refl w.heap.size w)
 go_enter func15,ntmps15
 go_wp2_with fail
 refine(v6q w).mono ?_;rintro r w1 ⟨hb,sv,rfl,hS⟩;replace c:=qh (c.out.trans (hb.mono c.out.size));clear hb;have d:=qh (x6n w1 (⟨_,rfl,hS⟩:Ma none w1 (.agg #[.int .i64 mD.kind,.int .i64 mD.start,.string mD.lead,sv]) mD) y6w (B.out w1 c.out));clear hS
 go_wp2_with fail
 refine d.out.mono ?_;rintro r w2 ⟨hb,hr⟩;replace c:=qh (c.out.trans (hb.mono c.out.size));clear hb;clear d
 rcases hr with ⟨_,J,R,rfl,g⟩|⟨u,_⟩
 rotate_left
 ·exact absurd v3n u
 obtain⟨n6,m8,z,_,_⟩:=z1e g.top;subst z;obtain⟨w3,b8⟩:=exq (w2.alloc (.cells #[.int .i64 (mD.inv.kind),.int .i64 (mD.inv.start),.string (mD.inv.lead),.slice n6 (mD.inv).n m8] 24));obtain⟨i3,g8⟩:=exq (w2.heap.size);have p8:w3.heap.size=w2.heap.size+1:=by rw[b8];simp
 have hb:Below w2.heap.size w2 w3:=by rw[b8];exact(Below.refl _ w2).alloc nlr _
 have m:Has w3 i3 (mD.inv.kind) (mD.inv.start) (mD.inv.lead) n6 (mD.inv).n m8 (mD.inv):=by rw[g8,b8];exact Has.new g ⟨rfl,rfl,rfl⟩
 clear g;replace c:=qh (c.out.trans (hb.mono c.out.size));clear hb;have i:=qh m;clear m;obtain⟨bA,l2⟩:∃ x,x=i3:=⟨_,rfl⟩;rw[<- l2] at i
 go_wp2_with fail
 rw[<- g8,<- b8];rw[<- l2];clear b8 p8 g8;clear l2;refine(v6q w3).mono ?_;rintro r w4 ⟨hb,sv,rfl,hS⟩;replace i:=qh (i.out.on hb);replace c:=qh (c.out.trans (hb.mono c.out.size));clear hb;have d:=qh (v3d w4 (⟨_,rfl,hS⟩:Ma none w4 (.agg #[.int .i64 mD.kind,.int .i64 mD.start,.string mD.lead,sv]) mD) y6w (B.out w4 c.out));clear hS
 go_wp2_with fail
 refine d.out.mono ?_;rintro r w5 ⟨hb,hr⟩;replace i:=qh (i.out.on hb);replace c:=qh (c.out.trans (hb.mono c.out.size));clear hb;clear d
 rcases hr with ⟨_,J,R,rfl,g⟩|⟨u,_⟩
 rotate_left
 ·exact absurd v3n u
 obtain⟨n5,p0,z,_,_⟩:=z1e g.top;subst z;obtain⟨w6,b9⟩:=exq (w5.alloc (.cells #[.int .i64 (mD.inR.kind),.int .i64 (mD.inR.start),.string (mD.inR.lead),.slice n5 (mD.inR).n p0] 24));obtain⟨i6,g9⟩:=exq (w5.heap.size);have p7:w6.heap.size=w5.heap.size+1:=by rw[b9];simp
 have hb:Below w5.heap.size w5 w6:=by rw[b9];exact(Below.refl _ w5).alloc nlr _
 have m:Has w6 i6 (mD.inR.kind) (mD.inR.start) (mD.inR.lead) n5 (mD.inR).n p0 (mD.inR):=by rw[g9,b9];exact Has.new g ⟨rfl,rfl,rfl⟩
 clear g;replace i:=qh (i.out.on hb);replace c:=qh (c.out.trans (hb.mono c.out.size));clear hb;have j:=qh m;clear m;obtain⟨bB,l1⟩:∃ x,x=i6:=⟨_,rfl⟩;rw[<- l1] at j
 go_wp2_with fail
 rw[<- g9,<- b9];rw[<- l1];clear b9 p7 g9;clear l1;refine(v6q w6).mono ?_;rintro r w7 ⟨hb,sv,rfl,hS⟩;replace i:=qh (i.out.on hb);replace j:=qh (j.out.on hb);replace c:=qh (c.out.trans (hb.mono c.out.size));clear hb;have d:=qh (x6t w7 (⟨_,rfl,hS⟩:Ma none w7 (.agg #[.int .i64 mD.kind,.int .i64 mD.start,.string mD.lead,sv]) mD) y6w (B.out w7 c.out));clear hS
 go_wp2_with fail
 refine d.out.mono ?_;rintro r w8 ⟨hb,hr⟩;replace i:=qh (i.out.on hb);replace j:=qh (j.out.on hb);replace c:=qh (c.out.trans (hb.mono c.out.size));clear hb;clear d
 rcases hr with ⟨_,J,R,rfl,g⟩|⟨u,_⟩
 rotate_left
 ·exact absurd v3n u
 obtain⟨o6,l5,z,_,_⟩:=z1e g.top;subst z;obtain⟨w9,b7⟩:=exq (w8.alloc (.cells #[.int .i64 (mD.outR.kind),.int .i64 (mD.outR.start),.string (mD.outR.lead),.slice o6 (mD.outR).n l5] 24));obtain⟨i9,h1⟩:=exq (w8.heap.size);have h0:w9.heap.size=w8.heap.size+1:=by rw[b7];simp
 have hb:Below w8.heap.size w8 w9:=by rw[b7];exact(Below.refl _ w8).alloc nlr _
 have m:Has w9 i9 (mD.outR.kind) (mD.outR.start) (mD.outR.lead) o6 (mD.outR).n l5 (mD.outR):=by rw[h1,b7];exact Has.new g ⟨rfl,rfl,rfl⟩
 clear g;replace i:=qh (i.out.on hb);replace j:=qh (j.out.on hb);replace c:=qh (c.out.trans (hb.mono c.out.size));clear hb;have k:=qh m;clear m;obtain⟨bC,j5⟩:∃ x,x=i9:=⟨_,rfl⟩;rw[<- j5] at k;obtain⟨a5,T⟩:=exq (w9.alloc (.cells #[.int .i64 1,.int .i64 2] 3));obtain⟨k7,e8⟩:=exq (w8.heap.size+1);have g1:a5.heap.size=w8.heap.size+1+1:=by rw[T];simp[h0]
 have hb:Below w9.heap.size w9 a5:=by rw[T];exact(Below.refl _ w9).alloc nlr _
 have m:Si none a5 (.slice (some ⟨k7,0,none⟩) 2 2) 2 y12:=by rw[e8,<- h0,T];exact z7q (heap_alloc_new w9 _) y3p (lt2 rfl rfl)
 replace i:=qh (i.out.on hb);replace j:=qh (j.out.on hb);replace k:=qh (k.out.on hb);replace c:=qh (c.out.trans (hb.mono c.out.size));clear hb;have Sx:=qh m;clear m;obtain⟨e0,a2⟩:=exq (a5.alloc (.cells #[.int .i64 3] 3));obtain⟨j3,d6⟩:=exq (w8.heap.size+1+1);have i7:e0.heap.size=w8.heap.size+1+1+1:=by rw[a2];simp[g1]
 have hb:Below a5.heap.size a5 e0:=by rw[a2];exact(Below.refl _ a5).alloc nlr _
 have m:Si none e0 (.slice (some ⟨j3,0,none⟩) 1 1) 1 c3:=by rw[d6,<- g1,a2];exact z7q (heap_alloc_new a5 _) y0k (lt1 rfl)
 replace i:=qh (i.out.on hb);replace j:=qh (j.out.on hb);replace k:=qh (k.out.on hb);replace Sx:=qh (Sx.out.kept (z0b hb none));replace c:=qh (c.out.trans (hb.mono c.out.size));clear hb;have Sy:=qh m;clear m;have d:=qh (y3v (kind:=1) (v:=⟨#[51]⟩) e0 Sx.out Sy.out (by decide) (by decide) (by unfold smS;decide) (B.out e0 c.out) ⟨by decide +kernel,by decide +kernel,by decide +kernel⟩);clear Sx Sy
 go_wp2_with fail
 rw[<- d6,<- e8,<- h1,<- b7,<- T,<- a2];rw[<- j5];clear b7 h0 h1;clear T g1 e8;clear a2 i7 d6;clear j5;refine d.out.mono ?_;rintro r d7 ⟨hb,hr⟩;replace i:=qh (i.out.on hb);replace j:=qh (j.out.on hb);replace k:=qh (k.out.on hb);replace c:=qh (c.out.trans (hb.mono c.out.size));clear hb;clear d;obtain⟨J,R,rfl,g⟩:=hr;have g:OwM d7 _ J dD R:=g;obtain⟨p9,o8,z,_,_⟩:=z1e g.top;subst z;obtain⟨d4,H⟩:=exq (d7.alloc (.cells #[.int .i64 (1),.int .i64 (0),.string (⟨#[51]⟩),.slice p9 (dD).n o8] 24));obtain⟨b6,b5⟩:=exq (d7.heap.size);have i8:d4.heap.size=d7.heap.size+1:=by rw[H];simp
 have hb:Below d7.heap.size d7 d4:=by rw[H];exact(Below.refl _ d7).alloc nlr _
 have m:Has d4 b6 (1) (0) (⟨#[51]⟩) p9 (dD).n o8 (dD):=by rw[b5,H];exact Has.new g ⟨by decide +kernel,by decide +kernel,by decide +kernel⟩
 clear g;have l7:bA≠b6:=by have:=lt_of_block i.out.1;omega
 have m7:bB≠b6:=by have:=lt_of_block j.out.1;omega
 have o4:bC≠b6:=by have:=lt_of_block k.out.1;omega
 have LD:w.heap.size<=b6:=by have:=c.out.size;omega
 replace i:=qh (i.out.on hb);replace j:=qh (j.out.on hb);replace k:=qh (k.out.on hb);replace c:=qh (c.out.trans (hb.mono c.out.size));clear hb;have l:=qh m;clear m;obtain⟨bD,h3⟩:∃ x,x=b6:=⟨_,rfl⟩;rw[<- h3] at l l7 m7 o4 LD;obtain⟨⟨m0,m1,m2,m3⟩,_⟩:=cells4 l.out.1;rw[H] at m0 m1 m2 m3;rw[h3,b5] at m0 m1 m2 m3;have d:=qh (x1m d4 l.out.ma u4m (B.out d4 c.out))
 go_wp2_with fail
 clear m0 m1 m2 m3;rw[<- b5,<- H];rw[<- h3];clear H i8 b5;clear h3;refine d.out.mono ?_;rintro r g7 ⟨hb,hr⟩;replace i:=qh (i.out.on hb);replace j:=qh (j.out.on hb);replace k:=qh (k.out.on hb);replace l:=qh (l.out.on hb);replace c:=qh (c.out.trans (hb.mono c.out.size));clear hb;clear d
 rcases hr with ⟨_,_,J,R,rfl,g⟩|⟨_,u,_⟩|⟨u,_⟩
 rotate_left
 ·exact absurd u3m u
 ·exact absurd u3c u
 obtain⟨h8,h9,z,_,_⟩:=z1e g.top;subst z;obtain⟨⟨r0,r1,r2,r3⟩,rz⟩:=cells4 l.out.1;have f0:=rz 0;have f1:=rz 1;have f2:=rz 2;have f3:=rz 3;clear rz;obtain⟨D,A⟩:∃ D,D=(((g7.setCell ⟨bD,0,none⟩ (.int .i64 (dD.kind))).setCell ⟨bD,1,none⟩ (.int .i64 ((dD.n:Int)))).setCell ⟨bD,2,none⟩ (.string (dD.lead))).setCell ⟨bD,3,none⟩ (.slice h8 (revD dD).n h9):=⟨_,rfl⟩;have g6:D.heap.size=g7.heap.size:=by rw[A];simp[World.setCell]
 replace i:=qh (show Has D bA _ _ _ _ _ _ _ from by rw[A];exact i.out.set l.out.1 l7 _ _ _ _);replace j:=qh (show Has D bB _ _ _ _ _ _ _ from by rw[A];exact j.out.set l.out.1 m7 _ _ _ _);replace k:=qh (show Has D bC _ _ _ _ _ _ _ from by rw[A];exact k.out.set l.out.1 o4 _ _ _ _);replace c:=qh (show Below w.heap.size w D from by rw[A];exact z0d c.out LD _ _ _ _);replace l:=qh (show Has D bD (dD.kind) ((dD.n:Int)) (dD.lead) h8 (revD dD).n h9 (revD dD) from by rw[A];exact Has.put g l.out.1 ⟨by decide +kernel,by decide +kernel,by decide +kernel⟩);clear g;obtain⟨b0,S⟩:=exq (D.alloc (.cells #[.int .i64 1,.int .i64 2] 3));obtain⟨j9,c7⟩:=exq (g7.heap.size);have d0:b0.heap.size=g7.heap.size+1:=by rw[S];simp[g6]
 have hb:Below D.heap.size D b0:=by rw[S];exact(Below.refl _ D).alloc nlr _
 have m:Si none b0 (.slice (some ⟨j9,0,none⟩) 2 2) 2 y12:=by rw[c7,<- g6,S];exact z7q (heap_alloc_new D _) y3p (lt2 rfl rfl)
 replace i:=qh (i.out.on hb);replace j:=qh (j.out.on hb);replace k:=qh (k.out.on hb);replace l:=qh (l.out.on hb);replace c:=qh (c.out.trans (hb.mono c.out.size));clear hb;have Sx:=qh m;clear m;obtain⟨f5,X⟩:=exq (b0.alloc (.cells #[.int .i64 1,.int .i64 2] 3));obtain⟨k2,e9⟩:=exq (g7.heap.size+1);have j1:f5.heap.size=g7.heap.size+1+1:=by rw[X];simp[d0]
 have hb:Below b0.heap.size b0 f5:=by rw[X];exact(Below.refl _ b0).alloc nlr _
 have m:Si none f5 (.slice (some ⟨k2,0,none⟩) 2 2) 2 y12:=by rw[e9,<- d0,X];exact z7q (heap_alloc_new b0 _) y3p (lt2 rfl rfl)
 replace i:=qh (i.out.on hb);replace j:=qh (j.out.on hb);replace k:=qh (k.out.on hb);replace l:=qh (l.out.on hb);replace Sx:=qh (Sx.out.kept (z0b hb none));replace c:=qh (c.out.trans (hb.mono c.out.size));clear hb;have Sy:=qh m;clear m;have d:=qh (y3v (kind:=1) (v:=⟨#[49]⟩) f5 Sx.out Sy.out (by decide) (by decide) (by unfold smS;decide) (B.out f5 c.out) ⟨by decide +kernel,by decide +kernel,by decide +kernel⟩);clear Sx Sy
 go_wp2_with fail
 rw[<- e9,<- c7,<- A,<- S,<- X];clear A g6;clear S d0 c7;clear X j1 e9;refine d.out.mono ?_;rintro r Z ⟨hb,hr⟩;replace i:=qh (i.out.on hb);replace j:=qh (j.out.on hb);replace k:=qh (k.out.on hb);replace l:=qh (l.out.on hb);replace c:=qh (c.out.trans (hb.mono c.out.size));clear hb;clear d;obtain⟨J,R,rfl,g⟩:=hr;have g:OwM Z _ J abD R:=g;obtain⟨o5,m9,z,_,_⟩:=z1e g.top;subst z;obtain⟨b2,Y⟩:=exq (Z.alloc (.cells #[.int .i64 (1),.int .i64 (0),.string (⟨#[49]⟩),.slice o5 (abD).n m9] 24));obtain⟨h4,g0⟩:=exq (Z.heap.size);have f7:b2.heap.size=Z.heap.size+1:=by rw[Y];simp
 have hb:Below Z.heap.size Z b2:=by rw[Y];exact(Below.refl _ Z).alloc nlr _
 have m:Has b2 h4 (1) (0) (⟨#[49]⟩) o5 (abD).n m9 (abD):=by rw[g0,Y];exact Has.new g ⟨by decide +kernel,by decide +kernel,by decide +kernel⟩
 clear g;replace i:=qh (i.out.on hb);replace j:=qh (j.out.on hb);replace k:=qh (k.out.on hb);replace l:=qh (l.out.on hb);replace c:=qh (c.out.trans (hb.mono c.out.size));clear hb;have o:=qh m;clear m;obtain⟨bG,l0⟩:∃ x,x=h4:=⟨_,rfl⟩;rw[<- l0] at o;obtain⟨a6,Q⟩:=exq (b2.alloc (.cells #[.int .i64 3] 3));obtain⟨k0,e5⟩:=exq (Z.heap.size+1);have d1:a6.heap.size=Z.heap.size+1+1:=by rw[Q];simp[f7]
 have hb:Below b2.heap.size b2 a6:=by rw[Q];exact(Below.refl _ b2).alloc nlr _
 have m:Si none a6 (.slice (some ⟨k0,0,none⟩) 1 1) 1 c3:=by rw[e5,<- f7,Q];exact z7q (heap_alloc_new b2 _) y0k (lt1 rfl)
 replace i:=qh (i.out.on hb);replace j:=qh (j.out.on hb);replace k:=qh (k.out.on hb);replace l:=qh (l.out.on hb);replace o:=qh (o.out.on hb);replace c:=qh (c.out.trans (hb.mono c.out.size));clear hb;have Sx:=qh m;clear m;obtain⟨e1,a3⟩:=exq (a6.alloc (.cells #[.int .i64 3] 3));obtain⟨j6,g4⟩:=exq (Z.heap.size+1+1);have l3:e1.heap.size=Z.heap.size+1+1+1:=by rw[a3];simp[d1]
 have hb:Below a6.heap.size a6 e1:=by rw[a3];exact(Below.refl _ a6).alloc nlr _
 have m:Si none e1 (.slice (some ⟨j6,0,none⟩) 1 1) 1 c3:=by rw[g4,<- d1,a3];exact z7q (heap_alloc_new a6 _) y0k (lt1 rfl)
 replace i:=qh (i.out.on hb);replace j:=qh (j.out.on hb);replace k:=qh (k.out.on hb);replace l:=qh (l.out.on hb);replace o:=qh (o.out.on hb);replace Sx:=qh (Sx.out.kept (z0b hb none));replace c:=qh (c.out.trans (hb.mono c.out.size));clear hb;have Sy:=qh m;clear m;have d:=qh (y3v (kind:=1) (v:=⟨#[50]⟩) e1 Sx.out Sy.out (by decide) (by decide) (by unfold smS;decide) (B.out e1 c.out) ⟨by decide +kernel,by decide +kernel,by decide +kernel⟩);clear Sx Sy
 go_wp2_with fail
 rw[<- g4,<- e5,<- g0,<- Y,<- Q,<- a3];rw[<- l0];clear Y f7 g0;clear Q d1 e5;clear a3 l3 g4;clear l0;refine d.out.mono ?_;rintro r g2 ⟨hb,hr⟩;replace i:=qh (i.out.on hb);replace j:=qh (j.out.on hb);replace k:=qh (k.out.on hb);replace l:=qh (l.out.on hb);replace o:=qh (o.out.on hb);replace c:=qh (c.out.trans (hb.mono c.out.size));clear hb;clear d;obtain⟨J,R,rfl,g⟩:=hr;have g:OwM g2 _ J kD R:=g;obtain⟨m4,l8,z,_,_⟩:=z1e g.top;subst z;obtain⟨g3,C⟩:=exq (g2.alloc (.cells #[.int .i64 (1),.int .i64 (0),.string (⟨#[50]⟩),.slice m4 (kD).n l8] 24));obtain⟨b1,b4⟩:=exq (g2.heap.size);have k3:g3.heap.size=g2.heap.size+1:=by rw[C];simp
 have hb:Below g2.heap.size g2 g3:=by rw[C];exact(Below.refl _ g2).alloc nlr _
 have m:Has g3 b1 (1) (0) (⟨#[50]⟩) m4 (kD).n l8 (kD):=by rw[b4,C];exact Has.new g ⟨by decide +kernel,by decide +kernel,by decide +kernel⟩
 clear g;have p6:bA≠b1:=by have:=lt_of_block i.out.1;omega
 have o2:bB≠b1:=by have:=lt_of_block j.out.1;omega
 have o7:bC≠b1:=by have:=lt_of_block k.out.1;omega
 have m5:bD≠b1:=by have:=lt_of_block l.out.1;omega
 have o9:bG≠b1:=by have:=lt_of_block o.out.1;omega
 have LK:w.heap.size<=b1:=by have:=c.out.size;omega
 replace i:=qh (i.out.on hb);replace j:=qh (j.out.on hb);replace k:=qh (k.out.on hb);replace l:=qh (l.out.on hb);replace o:=qh (o.out.on hb);replace c:=qh (c.out.trans (hb.mono c.out.size));clear hb;have p:=qh m;clear m;obtain⟨bK,h5⟩:∃ x,x=b1:=⟨_,rfl⟩;rw[<- h5] at p p6 o2 o7 m5 o9 LK;obtain⟨⟨m0,m1,m2,m3⟩,_⟩:=cells4 o.out.1;rw[C] at m0 m1 m2 m3;obtain⟨⟨n0,n1,n2,n3⟩,_⟩:=cells4 p.out.1;rw[C] at n0 n1 n2 n3;rw[h5,b4] at n0 n1 n2 n3;have d:=qh (x7t g3 o.out.ma p.out.ma v7y u4z (B.out g3 c.out) (by decide +kernel) (by decide +kernel))
 go_wp2_with fail
 clear m0 m1 m2 m3;clear n0 n1 n2 n3;rw[<- b4,<- C];rw[<- h5];clear C k3 b4;clear h5;refine d.out.mono ?_;rintro r i2 ⟨hb,hr⟩;replace i:=qh (i.out.on hb);replace j:=qh (j.out.on hb);replace k:=qh (k.out.on hb);replace l:=qh (l.out.on hb);replace o:=qh (o.out.on hb);replace p:=qh (p.out.on hb);replace c:=qh (c.out.trans (hb.mono c.out.size));clear hb;clear d
 rcases hr with ⟨_,_,_,⟨_,J,R,rfl,g⟩|⟨u,_⟩⟩|⟨_,_,u,_⟩|⟨u,_⟩
 rotate_left
 ·exact absurd u5d u
 ·exact absurd ⟨v8z,u2u,by decide +kernel⟩ u
 ·exact absurd ⟨v8q,u3z⟩ u
 have g:OwM i2 _ J cD R:=g;obtain⟨h7,h6,z,_,_⟩:=z1e g.top;subst z;obtain⟨⟨r0,r1,r2,r3⟩,rz⟩:=cells4 p.out.1;have f0:=rz 0;have f1:=rz 1;have f2:=rz 2;have f3:=rz 3;clear rz;obtain⟨a4,s⟩:∃ a4,a4=(((i2.setCell ⟨bK,0,none⟩ (.int .i64 (abD.kind))).setCell ⟨bK,1,none⟩ (.int .i64 (((kD.n:Int)+abD.start)))).setCell ⟨bK,2,none⟩ (.string ((z0n abD.kind abD.lead kD.lead).1))).setCell ⟨bK,3,none⟩ (.slice h7 (cD).n h6):=⟨_,rfl⟩;have j7:a4.heap.size=i2.heap.size:=by rw[s];simp[World.setCell]
 replace i:=qh (show Has a4 bA _ _ _ _ _ _ _ from by rw[s];exact i.out.set p.out.1 p6 _ _ _ _);replace j:=qh (show Has a4 bB _ _ _ _ _ _ _ from by rw[s];exact j.out.set p.out.1 o2 _ _ _ _);replace k:=qh (show Has a4 bC _ _ _ _ _ _ _ from by rw[s];exact k.out.set p.out.1 o7 _ _ _ _);replace l:=qh (show Has a4 bD _ _ _ _ _ _ _ from by rw[s];exact l.out.set p.out.1 m5 _ _ _ _);replace o:=qh (show Has a4 bG _ _ _ _ _ _ _ from by rw[s];exact o.out.set p.out.1 o9 _ _ _ _);replace c:=qh (show Below w.heap.size w a4 from by rw[s];exact z0d c.out LK _ _ _ _);replace p:=qh (show Has a4 bK (abD.kind) (((kD.n:Int)+abD.start)) ((z0n abD.kind abD.lead kD.lead).1) h7 (cD).n h6 (cD) from by rw[s];exact Has.put g p.out.1 ⟨by decide +kernel,by decide +kernel,by decide +kernel⟩);clear g
 go_wp2_with fail
 rw[<- s];clear s j7;clear r0 r1 r2 r3 f0 f1 f2 f3;refine(v6q a4).mono ?_;rintro r e4 ⟨hb,sv,rfl,hS⟩;replace i:=qh (i.out.on hb);replace j:=qh (j.out.on hb);replace k:=qh (k.out.on hb);replace l:=qh (l.out.on hb);replace o:=qh (o.out.on hb);replace p:=qh (p.out.on hb);replace c:=qh (c.out.trans (hb.mono c.out.size));clear hb;obtain⟨b3,U⟩:=exq (e4.alloc (.cells #[.int .i64 2,.int .i64 3] 50));obtain⟨j2,d9⟩:=exq (e4.heap.size);have i4:b3.heap.size=e4.heap.size+1:=by rw[U];simp
 have hb:Below e4.heap.size e4 b3:=by rw[U];exact(Below.refl _ e4).alloc nlr _
 have hP:PrS none b3 (.slice (some ⟨j2,0,none⟩) 1 1) 1 c2 c3:=by rw[d9,U];exact x2s (heap_alloc_new e4 _) y0k (lt1 ⟨rfl,rfl⟩)
 have hS:StS none b3 sv mD:=hS.kept (z0b hb none);replace i:=qh (i.out.on hb);replace j:=qh (j.out.on hb);replace k:=qh (k.out.on hb);replace l:=qh (l.out.on hb);replace o:=qh (o.out.on hb);replace p:=qh (p.out.on hb);replace c:=qh (c.out.trans (hb.mono c.out.size));clear hb;have d:=qh (y1h b3 (⟨_,rfl,hS⟩:Ma none b3 (.agg #[.int .i64 mD.kind,.int .i64 mD.start,.string mD.lead,sv]) mD) y6w hP (by decide) (B.out b3 c.out));clear hS hP
 go_wp2_with fail
 rw[<- d9,<- U];clear U i4 d9;refine d.out.mono ?_;rintro r E ⟨hb,hr⟩;replace i:=qh (i.out.on hb);replace j:=qh (j.out.on hb);replace k:=qh (k.out.on hb);replace l:=qh (l.out.on hb);replace o:=qh (o.out.on hb);replace p:=qh (p.out.on hb);replace c:=qh (c.out.trans (hb.mono c.out.size));clear hb;clear d
 rcases hr with ⟨_,J,R,rfl,g⟩|⟨u,_⟩
 rotate_left
 ·exact absurd ⟨v3n,lt1 ⟨by decide,by decide,by decide,by decide⟩⟩ u
 have g:OwM E _ J nD R:=g;obtain⟨l4,l6,z,_,_⟩:=z1e g.top;subst z;obtain⟨a9,F⟩:=exq (E.alloc (.cells #[.int .i64 ((mD.ren (mapF 1 c2 c3)).kind),.int .i64 ((mD.ren (mapF 1 c2 c3)).start),.string ((mD.ren (mapF 1 c2 c3)).lead),.slice l4 (nD).n l6] 24));obtain⟨h2,d3⟩:=exq (E.heap.size);have e3:a9.heap.size=E.heap.size+1:=by rw[F];simp
 have hb:Below E.heap.size E a9:=by rw[F];exact(Below.refl _ E).alloc nlr _
 have m:Has a9 h2 ((mD.ren (mapF 1 c2 c3)).kind) ((mD.ren (mapF 1 c2 c3)).start) ((mD.ren (mapF 1 c2 c3)).lead) l4 (nD).n l6 (nD):=by rw[d3,F];exact Has.new g ⟨rfl,rfl,rfl⟩
 clear g;replace i:=qh (i.out.on hb);replace j:=qh (j.out.on hb);replace k:=qh (k.out.on hb);replace l:=qh (l.out.on hb);replace o:=qh (o.out.on hb);replace p:=qh (p.out.on hb);replace c:=qh (c.out.trans (hb.mono c.out.size));clear hb;have L:=qh m;clear m;obtain⟨bE,k1⟩:∃ x,x=h2:=⟨_,rfl⟩;rw[<- k1] at L;obtain⟨a8,G⟩:=exq (a9.alloc (.cells #[.int .i64 1] 3));obtain⟨k5,d8⟩:=exq (E.heap.size+1);have d5:a8.heap.size=E.heap.size+1+1:=by rw[G];simp[e3]
 have hb:Below a9.heap.size a9 a8:=by rw[G];exact(Below.refl _ a9).alloc nlr _
 have m:Si none a8 (.slice (some ⟨k5,0,none⟩) 1 1) 1 c1:=by rw[d8,<- e3,G];exact z7q (heap_alloc_new a9 _) y0k (lt1 rfl)
 replace i:=qh (i.out.on hb);replace j:=qh (j.out.on hb);replace k:=qh (k.out.on hb);replace l:=qh (l.out.on hb);replace o:=qh (o.out.on hb);replace p:=qh (p.out.on hb);replace L:=qh (L.out.on hb);replace c:=qh (c.out.trans (hb.mono c.out.size));clear hb;have I:=qh m;clear m;obtain⟨a7,N⟩:=exq (a8.alloc (.cells #[.int .i64 2] 3));obtain⟨j0,d2⟩:=exq (E.heap.size+1+1);have c9:a7.heap.size=E.heap.size+1+1+1:=by rw[N];simp[d5]
 have hb:Below a8.heap.size a8 a7:=by rw[N];exact(Below.refl _ a8).alloc nlr _
 have m:Si none a7 (.slice (some ⟨j0,0,none⟩) 1 1) 1 c2:=by rw[d2,<- d5,N];exact z7q (heap_alloc_new a8 _) y0k (lt1 rfl)
 replace i:=qh (i.out.on hb);replace j:=qh (j.out.on hb);replace k:=qh (k.out.on hb);replace l:=qh (l.out.on hb);replace o:=qh (o.out.on hb);replace p:=qh (p.out.on hb);replace L:=qh (L.out.on hb);replace I:=qh (I.out.kept (z0b hb none));replace c:=qh (c.out.trans (hb.mono c.out.size));clear hb;have S2:=qh m;clear m;obtain⟨f9,K⟩:=exq (a7.alloc (.cells #[.int .i64 3] 3));obtain⟨j4,e7⟩:=exq (E.heap.size+1+1+1);have k4:f9.heap.size=E.heap.size+1+1+1+1:=by rw[K];simp[c9]
 have hb:Below a7.heap.size a7 f9:=by rw[K];exact(Below.refl _ a7).alloc nlr _
 have m:Si none f9 (.slice (some ⟨j4,0,none⟩) 1 1) 1 c3:=by rw[e7,<- c9,K];exact z7q (heap_alloc_new a7 _) y0k (lt1 rfl)
 replace i:=qh (i.out.on hb);replace j:=qh (j.out.on hb);replace k:=qh (k.out.on hb);replace l:=qh (l.out.on hb);replace o:=qh (o.out.on hb);replace p:=qh (p.out.on hb);replace L:=qh (L.out.on hb);replace I:=qh (I.out.kept (z0b hb none));replace S2:=qh (S2.out.kept (z0b hb none));replace c:=qh (c.out.trans (hb.mono c.out.size));clear hb;have P:=qh m;clear m;obtain⟨⟨m0,m1,m2,m3⟩,_⟩:=cells4 i.out.1;rw[K,N,G,F] at m0 m1 m2 m3;have d:=qh (z5u f9 i.out.ma { y6w with } (B.out f9 c.out) S2.out I.out (by decide) (by decide) u5k)
 go_wp2_with fail
 clear m0 m1 m2 m3;rw[<- e7,<- d2,<- d8,<- d3,<- F,<- G,<- N,<- K];rw[<- k1];clear F e3 d3;clear G d5 d8;clear N c9 d2;clear K k4 e7;clear k1;refine d.out.mono ?_;rintro r l9 ⟨rfl,hb⟩;replace i:=qh (i.out.on hb);replace j:=qh (j.out.on hb);replace k:=qh (k.out.on hb);replace l:=qh (l.out.on hb);replace o:=qh (o.out.on hb);replace p:=qh (p.out.on hb);replace L:=qh (L.out.on hb);replace I:=qh (I.out.kept (z0b hb none));replace S2:=qh (S2.out.kept (z0b hb none));replace P:=qh (P.out.kept (z0b hb none));replace c:=qh (c.out.trans (hb.mono c.out.size));clear hb;clear d;obtain⟨⟨m0,m1,m2,m3⟩,_⟩:=cells4 i.out.1;have d:=qh (z5u l9 i.out.ma { y6w with } (B.out l9 c.out) I.out S2.out (by decide) (by decide) u5q)
 go_wp2_with fail
 clear m0 m1 m2 m3;refine d.out.mono ?_;rintro r n9 ⟨rfl,hb⟩;replace i:=qh (i.out.on hb);replace j:=qh (j.out.on hb);replace k:=qh (k.out.on hb);replace l:=qh (l.out.on hb);replace o:=qh (o.out.on hb);replace p:=qh (p.out.on hb);replace L:=qh (L.out.on hb);replace I:=qh (I.out.kept (z0b hb none));replace S2:=qh (S2.out.kept (z0b hb none));replace P:=qh (P.out.kept (z0b hb none));replace c:=qh (c.out.trans (hb.mono c.out.size));clear hb;clear d;obtain⟨⟨m0,m1,m2,m3⟩,_⟩:=cells4 j.out.1;have d:=qh (z5u n9 j.out.ma { y6w with } (B.out n9 c.out) I.out I.out (by decide) (by decide) ex_b)
 go_wp2_with fail
 clear m0 m1 m2 m3;refine d.out.mono ?_;rintro r o3 ⟨rfl,hb⟩;replace i:=qh (i.out.on hb);replace j:=qh (j.out.on hb);replace k:=qh (k.out.on hb);replace l:=qh (l.out.on hb);replace o:=qh (o.out.on hb);replace p:=qh (p.out.on hb);replace L:=qh (L.out.on hb);replace I:=qh (I.out.kept (z0b hb none));replace S2:=qh (S2.out.kept (z0b hb none));replace P:=qh (P.out.kept (z0b hb none));replace c:=qh (c.out.trans (hb.mono c.out.size));clear hb;clear d;obtain⟨⟨m0,m1,m2,m3⟩,_⟩:=cells4 k.out.1;have d:=qh (z5u o3 k.out.ma { y6w with } (B.out o3 c.out) P.out P.out (by decide) (by decide) ex_c)
 go_wp2_with fail
 clear m0 m1 m2 m3;refine d.out.mono ?_;rintro r f4 ⟨rfl,hb⟩;replace i:=qh (i.out.on hb);replace j:=qh (j.out.on hb);replace k:=qh (k.out.on hb);replace l:=qh (l.out.on hb);replace o:=qh (o.out.on hb);replace p:=qh (p.out.on hb);replace L:=qh (L.out.on hb);replace I:=qh (I.out.kept (z0b hb none));replace S2:=qh (S2.out.kept (z0b hb none));replace P:=qh (P.out.kept (z0b hb none));replace c:=qh (c.out.trans (hb.mono c.out.size));clear hb;clear d;obtain⟨⟨m0,m1,m2,m3⟩,_⟩:=cells4 l.out.1;obtain⟨g5,O⟩:=exq (f4.alloc (.cells #[.int .i64 2,.int .i64 1] 3));obtain⟨j8,f8⟩:=exq (f4.heap.size);have k6:g5.heap.size=f4.heap.size+1:=by rw[O];simp
 have hb:Below f4.heap.size f4 g5:=by rw[O];exact(Below.refl _ f4).alloc nlr _
 have m:Si none g5 (.slice (some ⟨j8,0,none⟩) 2 2) 2 y21:=by rw[f8,O];exact z7q (heap_alloc_new f4 _) y3p (lt2 rfl rfl)
 replace i:=qh (i.out.on hb);replace j:=qh (j.out.on hb);replace k:=qh (k.out.on hb);replace l:=qh (l.out.on hb);replace o:=qh (o.out.on hb);replace p:=qh (p.out.on hb);replace L:=qh (L.out.on hb);replace I:=qh (I.out.kept (z0b hb none));replace S2:=qh (S2.out.kept (z0b hb none));replace P:=qh (P.out.kept (z0b hb none));replace c:=qh (c.out.trans (hb.mono c.out.size));clear hb;have Sz:=qh m;clear m;have d:=qh (z5u g5 l.out.ma u5i (B.out g5 c.out) Sz.out P.out (by decide) (by decide) ex_d)
 go_wp2_with fail
 clear m0 m1 m2 m3;rw[<- f8,<- O];clear O k6 f8;refine d.out.mono ?_;rintro r c8 ⟨rfl,hb⟩;replace i:=qh (i.out.on hb);replace j:=qh (j.out.on hb);replace k:=qh (k.out.on hb);replace l:=qh (l.out.on hb);replace o:=qh (o.out.on hb);replace p:=qh (p.out.on hb);replace L:=qh (L.out.on hb);replace I:=qh (I.out.kept (z0b hb none));replace S2:=qh (S2.out.kept (z0b hb none));replace P:=qh (P.out.kept (z0b hb none));replace Sz:=qh (Sz.out.kept (z0b hb none));replace c:=qh (c.out.trans (hb.mono c.out.size));clear hb;clear d Sz;obtain⟨⟨m0,m1,m2,m3⟩,_⟩:=cells4 p.out.1;obtain⟨e2,a1⟩:=exq (c8.alloc (.cells #[.int .i64 1,.int .i64 2] 3));obtain⟨i5,e6⟩:=exq (c8.heap.size);have k9:e2.heap.size=c8.heap.size+1:=by rw[a1];simp
 have hb:Below c8.heap.size c8 e2:=by rw[a1];exact(Below.refl _ c8).alloc nlr _
 have m:Si none e2 (.slice (some ⟨i5,0,none⟩) 2 2) 2 y12:=by rw[e6,a1];exact z7q (heap_alloc_new c8 _) y3p (lt2 rfl rfl)
 replace i:=qh (i.out.on hb);replace j:=qh (j.out.on hb);replace k:=qh (k.out.on hb);replace l:=qh (l.out.on hb);replace o:=qh (o.out.on hb);replace p:=qh (p.out.on hb);replace L:=qh (L.out.on hb);replace I:=qh (I.out.kept (z0b hb none));replace S2:=qh (S2.out.kept (z0b hb none));replace P:=qh (P.out.kept (z0b hb none));replace c:=qh (c.out.trans (hb.mono c.out.size));clear hb;have Sz:=qh m;clear m;have d:=qh (z5u e2 p.out.ma u5m (B.out e2 c.out) Sz.out P.out (by decide) (by decide) ex_k)
 go_wp2_with fail
 clear m0 m1 m2 m3;rw[<- e6,<- a1];clear a1 k9 e6;refine d.out.mono ?_;rintro r n7 ⟨rfl,hb⟩;replace i:=qh (i.out.on hb);replace j:=qh (j.out.on hb);replace k:=qh (k.out.on hb);replace l:=qh (l.out.on hb);replace o:=qh (o.out.on hb);replace p:=qh (p.out.on hb);replace L:=qh (L.out.on hb);replace I:=qh (I.out.kept (z0b hb none));replace S2:=qh (S2.out.kept (z0b hb none));replace P:=qh (P.out.kept (z0b hb none));replace Sz:=qh (Sz.out.kept (z0b hb none));replace c:=qh (c.out.trans (hb.mono c.out.size));clear hb;clear d Sz;obtain⟨⟨m0,m1,m2,m3⟩,_⟩:=cells4 L.out.1;have d:=qh (z5u n7 L.out.ma { y6w with } (B.out n7 c.out) I.out P.out (by decide) (by decide) ex_n)
 go_wp2_with fail
 clear m0 m1 m2 m3;refine d.out.mono ?_;rintro r q7 ⟨rfl,hb⟩;replace i:=qh (i.out.on hb);replace j:=qh (j.out.on hb);replace k:=qh (k.out.on hb);replace l:=qh (l.out.on hb);replace o:=qh (o.out.on hb);replace p:=qh (p.out.on hb);replace L:=qh (L.out.on hb);replace I:=qh (I.out.kept (z0b hb none));replace S2:=qh (S2.out.kept (z0b hb none));replace P:=qh (P.out.kept (z0b hb none));replace c:=qh (c.out.trans (hb.mono c.out.size));clear hb;clear d;go_wp2;go_ret;exact⟨rfl,c.out⟩
end
section
open Go.RowKit Go.Deep
theorem x0q {D:MD} (hs:MSz D):∀ q,z0f D q<=q*140737488355328
 | 0=>nlr
 | q+1=>by
  have h:=x0q hs q;have h2:=hs.na q;show z0f D q+D.na q<=_;omega
theorem v3h {D:MD} {v:Value} (w:World) (hM:Ma none w v D) (X:MSz D) (hn:D.n<=100):Calls prog 45 #[v] w (fun r w'=>r=.returned (.int .i64 (z0f D D.n:Nat))/\Below w.heap.size w w'):=by
 obtain⟨sv,rfl,hS⟩:=hM;obtain⟨a,l,b,L,A,C,BB,O,rfl,ha,hc,hm,hb,o⟩:=hS.open;unfold maxLen at hm;clear hS;have s:=BoxM.new w D (.slice a D.n l);have u:=y9i w (.cells #[.int .i64 D.kind,.int .i64 D.start,.string D.lead,.slice a D.n l] 24);have P:=qh (fun q=>x0q X q);have T:=qh X.na;clear X;have HA:=qh ha;clear ha;have HB:=qh hb;clear hb;have HR:=qh o;clear o;have d:=qh s;clear s;have z:=qh u;clear u
 go_enter func45,ntmps45
 go_wp2_with fail
 obtain⟨wm,h⟩:=exq (w.alloc (.cells #[.int .i64 D.kind,.int .i64 D.start,.string D.lead,.slice a D.n l] 24));obtain⟨N,E⟩:=exq (w.heap.size);rw[<- h,<- E] at d;rw[<- h] at z;rw[<- h,<- E];clear h E
 go_loopw [3,4] (fun c i wr=>∃ q k:Nat,q<=D.n/\i=.int .i64 (q:Int)/\c=.int .i64 (k:Int)/\k=z0f D q/\BoxM wr N D (.slice a D.n l)/\Below w.heap.size w wr) (fun _ i _=>D.n-(intOf i).toNat)
 case atStart=>exact⟨0,0,Nat.zero_le _,rfl,rfl,rfl,d.out,z.out⟩
 obtain⟨q,k,hq,rfl,rfl,g,B,H⟩:=hrel;clear d z;have m3:=B.c3;have d:=qh B;clear B;have j:=qh H;clear H;by_cases J:q<D.n
 ·have a3:(q:Int)<(D.n:Int):=by omega
  have Z:(0:Int)<=(q:Int):=by omega
  obtain rfl:=HA.out (by omega);have K:=(HB.out (by omega)).1;obtain⟨k1,U,k3,k4,_⟩:=HR.out q J;generalize A q=aq at U;have c1:=(j.out.cell (p:=⟨b,L+q*2+1,none⟩) K).trans U;clear k1 U;have G:=P.out q;have S:=T.out q;have R:k<=100*140737488355328:=Nat.le_trans (Nat.le_of_eq g) (Nat.le_trans G (Nat.mul_le_mul_right _ (by omega)));clear G;have Q:IntKind.i64.wrap ((k:Int)+(D.na q:Int))=(k:Int)+(D.na q:Int):=by rw[IntKind.wrap_i64];omega
  have I:k+D.na q=z0f D (q+1):=by rw[g];rfl
  have a1:(D.na q:Int)<=9223372036854775807:=by omega
  have W:=qh I;clear I g R S;go_wp2;go_roundw
  case rel=>exact⟨q+1,k+D.na q,by omega,by go_num,by go_num,W.out,d.out,j.out⟩
  simp[intOf];omega
 have F:q=D.n:=by omega
 have a2:¬ ((q:Int)<(D.n:Int)):=by omega
 have m:k=z0f D D.n:=by rw[g,F]
 have Y:=qh m;clear m g;have a4:=qh F;clear F;go_wp2;go_ret
 first|exact⟨rfl,j.out⟩|exact⟨z5k (by rw[Y.out]),j.out⟩
end
section
open Go.RowKit Go.Deep
def TestP (p:Prop) (w:World) (r:Ending) (w':World):Prop:=∃ b:Bool,r=.returned (.bool b)/\(b=true↔p)/\Below w.heap.size w w'
theorem x2g {D:MD} {mv:Value} (w:World) (I:Ma none w mv D) (F:MSz D):Calls prog 13 #[mv] w (TestP (8<D.n\/30<z0f D D.n) w):=by
 obtain⟨sv,rfl,u⟩:=I;obtain⟨a,i,_,_,_,_,_,_,s,_,_,B,_⟩:=u.open;subst s;unfold maxLen at B;obtain⟨d,c⟩:=exq (w.alloc (.cells #[.int .i64 D.kind,.int .i64 D.start,.string D.lead,.slice a D.n i] 24));have l:Fr (fun _=>False) w d:=by rw[c];exact Fr.alloc _ _
 have g:Below w.heap.size w d:=l.below nlr (fun _ e=>e.elim);have m:d.heap[w.heap.size]?=some (.cells #[.int .i64 D.kind,.int .i64 D.start,.string D.lead,.slice a D.n i] 24 (0,0)):=by rw[c];exact heap_alloc_new w _
 obtain⟨⟨m0,m1,G,E⟩,_⟩:=cells4 m;have z:=qh (⟨_,rfl,u.kept (z0b g none)⟩:Ma none d (.agg #[.int .i64 D.kind,.int .i64 D.start,.string D.lead,.slice a D.n i]) D);have A:=qh F;clear F;have j:=qh g;clear g l m u;have K:(0:Int)<=(D.n:Int):=by omega
 obtain⟨n,H⟩:=exq (D.n);rw[c] at m0 m1 G E;by_cases O:(8:Int)<(D.n:Int)
 ·have k:=qh (show 8<D.n\/30<z0f D D.n from .inl (by omega))
  go_enter func13,ntmps13
  go_wp2;go_ret;exact⟨true,rfl,⟨fun _=>k.out,fun _=>rfl⟩,by rw[<- c];exact j.out⟩
 have J:decide ((8:Int)<(D.n:Int))=false:=by simp;omega
 have P:=qh (v3h d z.out A.out (by omega));have C:=qh (show ¬ 8<D.n by omega);clear O H
 go_enter func13,ntmps13
 go_wp2_with fail
 rw[<- c];clear c m0 m1 G E;refine P.out.mono ?_;rintro r Q ⟨rfl,p⟩;have o:=qh (j.out.trans (p.mono j.out.size));clear p;by_cases N:(30:Int)<((z0f D D.n:Nat):Int)
 ·have k:=qh (show 8<D.n\/30<z0f D D.n from .inr (by omega));go_wp2;go_ret;exact⟨true,rfl,⟨fun _=>k.out,fun _=>rfl⟩,o.out⟩
 have L:decide ((30:Int)<((z0f D D.n:Nat):Int))=false:=by simp;omega
 have k:=qh (show ¬ (8<D.n\/30<z0f D D.n) from fun h=>by rcases h with h|h;exact C.out h;omega)
 clear N;go_wp2;go_ret;exact⟨false,rfl,⟨(fun h=>by cases h),fun h=>absurd h k.out⟩,o.out⟩
theorem v0h {n:Nat} {b:Nat} {V:Nat->Value} {L:Nat->Nat} {X:Nat->Nat->Int} (w:World) (hn:n<=10) (E:∀ i,i<n->w.cell? ⟨b,i,none⟩=some (V i)/\Si none w (V i) (L i) (X i)) (F:∀ i,i<n->(L i:Int)<=9223372036854775807) :
  Calls prog 14 #[.slice (some ⟨b,0,none⟩) n n] w (TestP (∃ i,i<n/\(6<L i\/isWord (L i) (X i)=false)) w):=by
 have P:=qh E;clear E;have H:=qh F;clear F
 go_enter func14,ntmps14
 go_wp2_with fail
 go_loopw [3] (fun i wr=>∃ q:Nat,q<=n/\i=.int .i64 (q:Int)/\(∀ j,j<q->L j<=6/\isWord (L j) (X j)=true)/\wr=w) (fun i _=>n-(intOf i).toNat)
 case atStart=>exact⟨0,Nat.zero_le _,rfl,fun j I=>by omega,rfl⟩
 obtain⟨q,U,rfl,z,rfl⟩:=hrel;have u:=qh z;clear z;by_cases g:q<n
 ·have K:(q:Int)<(n:Int):=by omega
  have D:(0:Int)<=(q:Int):=by omega
  obtain⟨c0,p⟩:=P.out q g;have d:=p;obtain⟨a,Q,p⟩:=p.shape;rw[p] at c0 d;have o:=H.out q g;obtain⟨l,c⟩:=exq (L q);rw[<- c] at c0 o d;have k:=qh c;clear c p;by_cases R:(6:Int)<(l:Int)
  ·have B:=qh (show ∃ i,i<n/\(6<L i\/isWord (L i) (X i)=false) from ⟨q,g,.inl (by rw[<- k.out];omega)⟩);clear d;go_wp2;go_ret;exact⟨true,rfl,⟨fun _=>B.out,fun _=>rfl⟩,blr⟩
  have S:decide ((6:Int)<(l:Int))=false:=by simp;omega
  have A:=qh (x8w wr d o);have C:=qh (show ¬ 6<l by omega);clear R d;cases m:isWord l (X q)
  ·have B:=qh (show ∃ i,i<n/\(6<L i\/isWord (L i) (X i)=false) from ⟨q,g,.inr (by rw[<- k.out];exact m)⟩);rw[m] at A;clear m
   go_wp2_with fail
   refine A.out.mono ?_;rintro r J ⟨rfl,rfl⟩;go_wp2;go_ret;exact⟨true,rfl,⟨fun _=>B.out,fun _=>rfl⟩,blr⟩
  rw[m] at A;have N:=qh m;clear m
  go_wp2_with fail
  refine A.out.mono ?_;rintro r J ⟨rfl,rfl⟩;go_wp2;go_roundw
  case rel =>
   refine⟨q+1,by omega,by go_num,fun j I=>?_,by first|rfl|trivial⟩
   by_cases e:j=q
   ·rw[e,<- k.out];exact⟨Nat.le_of_not_lt C.out,N.out⟩
   exact u.out j (by omega)
  simp[intOf];omega
 have s:q=n:=by omega
 have G:¬ ((q:Int)<(n:Int)):=by omega
 have T:=qh s;clear s;go_wp2;go_ret;exact⟨false,rfl,⟨(fun h=>by cases h),fun ⟨i,hi,h⟩=>by
  obtain⟨W,O⟩:=u.out i (by rw[T.out];exact hi)
  rcases h with h|h
  ·omega
  rw[O] at h;cases h⟩,blr⟩
def pk {α:Type} (a b:α) (i:Nat):α:=if i=0 then a else b
theorem v9j {na nb:Nat} {x y:Nat->Int} (h:¬ ∃ i,i<2/\(6<pk na nb i\/isWord (pk na nb i) (pk x y i)=false)):(na<=6/\isWord na x=true)/\(nb<=6/\isWord nb y=true):=by
 refine⟨⟨?_,?_⟩,?_,?_⟩
 ·exact Nat.le_of_not_lt fun c=>h ⟨0,by omega,.inl c⟩
 ·cases e:isWord na x
  ·exact absurd ⟨0,by omega,.inr e⟩ h
  rfl
 ·exact Nat.le_of_not_lt fun c=>h ⟨1,by omega,.inl c⟩
 cases e:isWord nb y
 ·exact absurd ⟨1,by omega,.inr e⟩ h
 rfl
theorem v3s {na nb b:Nat} {g d:Value} {x y:Nat->Int} (w:World) (c0:w.cell? ⟨b,0,none⟩=some g) (c1:w.cell? ⟨b,1,none⟩=some d) (k:Si none w g na x) (j:Si none w d nb y) (h:(na:Int)<=9223372036854775807) (c:(nb:Int)<=9223372036854775807) :
  Calls prog 14 #[.slice (some ⟨b,0,none⟩) 2 2] w (TestP (∃ i,i<2/\(6<pk na nb i\/isWord (pk na nb i) (pk x y i)=false)) w) :=
 v0h (V:=pk g d) w (by omega) (lt2 ⟨c0,k⟩ ⟨c1,j⟩) (lt2 h c)
end
section
open Go.RowKit Go.Deep
def ivs (n:Nat) (y:Nat->Int):List Value:=(List.range n).map fun i=>Value.int .i64 (y i)
theorem v9s {n:Nat} {y:Nat->Int} {i:Nat} (h:i<n):(ivs n y)[i]?=some (.int .i64 (y i)):=by simp[ivs,h]
theorem v8a {w:World} {B n:Nat} {v:Value} {y:Nat->Int} (h:w.ownsRow B 3 1 v n (ivs n y)):Si none w v n y:=by
 rcases h.2 with ⟨c,l⟩|⟨g,d,k,c,u,o,j,m,s,p⟩
 ·exact .inl ⟨l,none,0,by rw[c],Nat.zero_le _⟩
 refine .inr ⟨g,0,d,c,⟨lt_of_block o,by simp⟩,j,m,fun i hi=>?_⟩;rw[c] at h;rw[Nat.zero_add];exact z5c h (v9s hi)
theorem x9x:(prog.info? 3).map (fun i=>(i.zero,i.size,i.bytes))=some (some (.int .i64 0),1,8):=by kernel_rfl
theorem v6f (n:Nat) (y:Nat->Int):ivs (n+1) y=ivs n y++[.int .i64 (y n)]:=by unfold ivs;rw[List.range_succ,List.map_append];rfl
def putX (s t:Int) (x:Nat->Int) (i:Nat):Int:=if x i=s then t else x i
def NewI (n:Nat) (y:Nat->Int) (w:World) (r:Ending) (w':World):Prop:=Below w.heap.size w w'/\∃ v,r=.returned v/\w'.ownsRow w.heap.size 3 1 v n (ivs n y)
theorem v4z {w g wr:World} {B:Nat} {v:Value} {n:Nat} {xs:List Value} {o:Obj} (hb:Below B w wr) (k:B<=wr.heap.size) (c:wr.ownsRow B 3 1 v n xs) (i:(wr.alloc o).grownBy g v.ownBlock):Below B w g:=by
 refine hb.trans ?_;have h:wr.grownBy (wr.alloc o) v.ownBlock:=World.grownBy_alloc wr o _;have d:=z2y h i;exact⟨d.os,d.tape,d.output,d.size,fun q l=>d.block q (by omega) (fun e=>by
  obtain⟨j,m⟩:=World.ownsRow.lt c q e.symm;omega)⟩
theorem x0i {na:Nat} {xv:Value} {x:Nat->Int} (w:World) (hx:Si none w xv na x) (hn:na<=1000) (s t:Int):Calls prog 37 #[xv,.int .i64 s,.int .i64 t] w (NewI na (putX s t x) w):=by
 obtain⟨ax,cx,bx,ox,rfl,O,Y,a3,K,j⟩:=hx.open;clear hx Y a3;obtain⟨i0,J,L,S,F⟩:=z6m x9x;have G:=qh J;clear J;have P:=qh L;clear L;have I:=qh S;clear S;have N:=qh F;clear F;have a1:=qh O;clear O;have X:=qh K;clear K;have a2:=qh j;clear j
 go_enter func37,ntmps37
 go_wp2_with fail
 go_loopw [7,8] (fun v7 v8 wr=>∃ q:Nat,q<=na/\v8=.int .i64 (q:Int)/\Below w.heap.size w wr/\wr.ownsRow w.heap.size 3 1 v7 q (ivs q (putX s t x))) (fun _ v8 _=>na-(intOf v8).toNat)
 case atStart=>exact⟨0,Nat.zero_le _,rfl,blr,World.ownsRow_nil _ _ _ _⟩
 obtain⟨q,hq,rfl,H,k⟩:=hrel;obtain⟨U,T,Z,_,_⟩:=z1e k;subst Z;have h:=qh H;clear H;have g:=qh k;clear k;by_cases i:q<na
 ·have a7:(q:Int)<(na:Int):=by omega
  have a4:(0:Int)<=(q:Int):=by omega
  obtain rfl:=a1.out (by omega);have c0:=(h.out.cell (p:=⟨bx,ox+q,none⟩) (X.out (by omega)).1).trans (a2.out q i);obtain⟨C,B⟩:=exq (x q);rw[<- B] at c0;have D:=qh B;clear B;have a5:=h.out.size;have m:∀ (z:Int),z=putX s t x q->∀ (l:World) (E u:Nat),l.ownsRow w.heap.size 3 1 (.slice (some ⟨E,0,none⟩) (q+1) u) (q+1) (ivs q (putX s t x)++[.int .i64 z])->(wr.alloc (.cells #[.int .i64 z] 3)).grownBy l (Value.slice U q T).ownBlock ->
    Below w.heap.size w l/\l.ownsRow w.heap.size 3 1 (.slice (some ⟨E,0,none⟩) (q+1) u) (q+1) (ivs (q+1) (putX s t x)):=fun z hz l E u h1 h2 =>
   ⟨v4z h.out h.out.size g.out h2,by rw[v6f,<- hz];exact h1⟩
  have o:=qh m;clear m;by_cases he:C=s
  ·have W:=qh (show t=putX s t x q by unfold putX;rw[if_pos (by rw[<- D.out];exact he)]);subst he
   go_wp2_with (at_builtin;refine wpList_append_lies _ rfl (.tmp 21) (.tmp 23) 25 rfl w.heap.size 3 i0 (.int .i64 0) 1 8 underlying25 G.out P.out I.out N.out rfl (by omega) (.slice U q T) q _ (by first|rfl|simp[Act.eval,Act.put]) (World.ownsRow.alloc g.out _) ⟨wr.heap.size,0,none⟩ 1 1 [.int .i64 t] (by first|rfl|simp[Act.eval,Act.put]) rfl (y1c (cs:=#[.int .i64 t]) (heap_alloc_new wr _)) (one_cell _ _) (by omega) (by unfold maxLen;omega) (by omega) (by simp;omega) _ rfl ?_;intro E u l d c A i;have R:=qh (o.out t W.out l E u d c);clear d c A i)
   go_roundw
   case rel=>exact⟨q+1,by omega,by go_num,R.out.1,R.out.2⟩
   simp[intOf];omega
  have W:=qh (show C=putX s t x q by unfold putX;rw[if_neg (by rw[<- D.out];exact he)];exact D.out)
  go_wp2_with (at_builtin;refine wpList_append_lies _ rfl (.tmp 25) (.tmp 30) 25 rfl w.heap.size 3 i0 (.int .i64 0) 1 8 underlying25 G.out P.out I.out N.out rfl (by omega) (.slice U q T) q _ (by first|rfl|simp[Act.eval,Act.put]) (World.ownsRow.alloc g.out _) ⟨wr.heap.size,0,none⟩ 1 1 [.int .i64 C] (by first|rfl|simp[Act.eval,Act.put]) rfl (y1c (cs:=#[.int .i64 C]) (heap_alloc_new wr _)) (one_cell _ _) (by omega) (by unfold maxLen;omega) (by omega) (by simp;omega) _ rfl ?_;intro E u l d c A i;have R:=qh (o.out C W.out l E u d c);clear d c A i)
  go_roundw
  case rel=>exact⟨q+1,by omega,by go_num,R.out.1,R.out.2⟩
  simp[intOf];omega
 have Q:q=na:=by omega
 have a6:¬ ((q:Int)<(na:Int)):=by omega
 have HR:=qh (show wr.ownsRow w.heap.size 3 1 (.slice U q T) na (ivs na (putX s t x)) by rw[<- Q];exact g.out);clear Q;go_wp2;go_ret;exact⟨h.out,_,rfl,HR.out⟩
theorem x3j {na:Nat} {G:Value} {x:Nat->Int} (w:World) (H:Si none w G na x) (hn:na<=1000) (s:Int):Calls prog 38 #[G,.int .i64 s] w (TestP (∃ i,i<na/\x i=s) w):=by
 obtain⟨Q,S,bx,R,rfl,k,u,D,N,c⟩:=H.open;clear H u D;have A:=qh k;clear k;have B:=qh c;clear c
 go_enter func38,ntmps38
 go_wp2_with fail
 go_loopw [5] (fun C wr=>∃ q:Nat,q<=na/\C=.int .i64 (q:Int)/\(∀ j,j<q->x j≠s)/\wr=w) (fun C _=>na-(intOf C).toNat)
 case atStart=>exact⟨0,Nat.zero_le _,rfl,fun j I=>by omega,rfl⟩
 obtain⟨q,T,rfl,p,rfl⟩:=hrel;have o:=qh p;clear p;by_cases g:q<na
 ·have L:(q:Int)<(na:Int):=by omega
  have F:(0:Int)<=(q:Int):=by omega
  obtain rfl:=A.out (by omega);have c0:=B.out q g;obtain⟨E,d⟩:=exq (x q);rw[<- d] at c0;have m:=qh d;clear d;by_cases z:E=s
  ·have J:=qh (show ∃ i,i<na/\x i=s from ⟨q,g,by rw[<- m.out];exact z⟩);subst z;go_wp2;go_ret;exact⟨true,rfl,⟨fun _=>J.out,fun _=>rfl⟩,blr⟩
  have P:=qh z;go_wp2;go_roundw
  case rel =>
   refine⟨q+1,by omega,by go_num,fun j I=>?_,by first|rfl|trivial⟩
   by_cases e:j=q
   ·rw[e,<- m.out];exact P.out
   exact o.out j (by omega)
  simp[intOf];omega
 have l:q=na:=by omega
 have K:¬ ((q:Int)<(na:Int)):=by omega
 have O:=qh l;clear l;go_wp2;go_ret;exact⟨false,rfl,⟨(fun h=>by cases h),fun ⟨i,hi,h⟩=>absurd h (o.out i (by rw[O.out];exact hi))⟩,blr⟩
end
section
open Go CSR
theorem Dv.eq {D:MD} {na:Nat} {x:Nat->Int} {z d:ByteArray × Nat} (i:VM D) (h:Dv D na x z) (l:Dv D na x d) (j:z.2=0) (c:d.2=0):z.1=d.1:=by
 obtain⟨k,g⟩:=i.kk;exact(h j k g).text (l c k g)
theorem x0y {k:KK} {A B:RM (RK k)} (hn:B.n=A.n) (hf:B.fin=A.fin) (hna:B.na=A.na) (hw:B.aw=A.aw) (ht:B.ato=A.ato) (hA:Inn A) (hi:∀ q d,q<A.n->d<A.na q->B.ain q d=A.ain q d/\B.aout q d=A.aout q d) :
  ∀ N q,q<A.n->∀ x y,unr B N q x y=unr A N q x y
 | 0,_,_,_,_=>rfl
 | N+1,q,hq,x,y=>by
  show endT B q x y+sum (fun d=>arcT B (unr B N) q d x y) (B.na q)=endT A q x y+sum (fun d=>arcT A (unr A N) q d x y) (A.na q);have he:endT B q x y=endT A q x y:=by unfold endT;rw[hf]
  rw[he,hna]
  congr 1
  refine sum_congr fun d hd=>?_;obtain⟨h1,h2⟩:=hi q d hq hd;have ih:∀ x y,unr B N (A.ato q d) x y=unr A N (A.ato q d) x y:=x0y hn hf hna hw ht hA hi N _ (hA q d hq hd);unfold arcT;rw[h1,h2,hw,ht]
  split
  ·rw[ih]
  rfl
theorem y4x {k:KK} {A B:RM (RK k)} (i:B.start=A.start) (o:B.lead=A.lead) (hn:B.n=A.n) (hf:B.fin=A.fin) (g:B.na=A.na) (j:B.aw=A.aw) (l:B.ato=A.ato) (h:Inn A) (p:Inn B) (c:A.start<A.n) (hi:∀ q d,q<A.n->d<A.na q->B.ain q d=A.ain q d/\B.aout q d=A.aout q d) (x y:List Int):rel B x y=rel A x y:=by
 have s:=z6p p (by rw[i,hn];exact c) x y;have m:=z6p h c x y;have e:∀ N,B.lead*unr B N B.start x y=A.lead*unr A N A.start x y:=fun N=>by rw[o,i,x0y hn hf g j l h hi N _ c]
 exact s.eq_of m (fun N=>⟨N,by rw[e N];exact le_refl _⟩) (fun N=>⟨N,by rw[e N];exact le_refl _⟩)
def MD.cln (D:MD):MD:={ D with ain:=fun q d=>if q<D.n/\d<D.na q then D.ain q d else 0,aout:=fun q d=>if q<D.n/\d<D.na q then D.aout q d else 0 }
end
section
open Go.RowKit Go.Deep
def HasS (D:MD) (s:Int):Prop:=∃ q d,q<D.n/\d<D.na q/\(D.ain q d=s\/D.aout q d=s)
theorem v0i {D:MD} {mv:Value} (w:World) (hM:Ma none w mv D) (hv:VM D) (s:Int):Calls prog 36 #[mv,.int .i64 s] w (TestP (HasS D s) w):=by
 obtain⟨sv,rfl,hS⟩:=hM;obtain⟨a,cp,b,K,A,C,BB,O,b1,ha,hc,hm,hb,B⟩:=hS.open;subst b1;unfold maxLen at hm;obtain⟨w1,u⟩:=exq (w.alloc (.cells #[.int .i64 D.kind,.int .i64 D.start,.string D.lead,.slice a D.n cp] 24));have N:Below w.heap.size w w1:=by rw[u];exact(Below.refl _ w).alloc nlr _
 obtain⟨P,I⟩:=exq (w.heap.size);have R:w1.heap[P]?=some (.cells #[.int .i64 D.kind,.int .i64 D.start,.string D.lead,.slice a D.n cp] 24 (0,0)):=by rw[u,I];exact heap_alloc_new w _
 have T:=qh N;clear N;have X:=qh R;clear R;have d1:=qh hS;clear hS;have HA:=qh ha;clear ha;have HB:=qh hb;clear hb;have HR:=qh B;clear B;have a4:=T;clear T;have z:=X;clear X;have b2:=hv.n1;have b3:=hv.n2;have HV:=qh hv;clear hv;obtain rfl:=HA.out (by omega);obtain⟨n,hn⟩:=exq (D.n);rw[<- hn] at b2 b3 hc;have HN:=qh hn;clear hn
 go_enter func36,ntmps36
 go_wp2_with fail
 rw[<- u,<- I];clear u I
 go_loopw [5] (fun v3 wr=>∃ i:Nat,i<=n/\v3=.int .i64 (i:Int)/\Below w.heap.size w wr/\wr.heap[P]?=some (.cells #[.int .i64 D.kind,.int .i64 D.start,.string D.lead,.slice (some ⟨b,K,none⟩) D.n cp] 24 (0,0))/\∀ j,j<i->∀ d,d<D.na j->¬ (D.ain j d=s\/D.aout j d=s)) (fun v3 _=>n-(intOf v3).toNat)
 case atStart=>exact⟨0,Nat.zero_le _,rfl,a4.out,z.out,fun j hj=>by omega⟩
 obtain⟨i,hi,rfl,k,m,U⟩:=hrel;clear a4 z;have a7:=qh U;clear U;have c:=qh k;clear k;have g:=qh m;clear m;have Z:=(cells4 g.out).1.2.2.2;rw[<- HN.out] at Z;by_cases c9:i<n
 ·have d2:(i:Int)<(n:Int):=by omega
  have c7:(0:Int)<=(i:Int):=by omega
  have E:i<D.n:=by have:=HN.out;omega
  have b0:=(HB.out (by have:=HN.out;omega)).1;obtain⟨k1,k2,k3,k4,k5,k6,k7⟩:=HR.out i E;have Y:D.na i<=30000:=by have h1:=Nat.le_trans (z1t D (show i+1<=D.n by omega)) HV.out.arcs;have h2:z0f D (i+1)=z0f D i+D.na i:=rfl;omega
  have z:=qh k2;clear k1 k2;obtain⟨ni,F⟩:=exq (D.na i);rw[<- F] at Y k3 k5 k6 k7;have o:=qh F;clear F;unfold maxLen at k4;have b4:=qh k5;clear k5;have a9:=qh k6;clear k6;have a8:=qh k7;clear k7
  go_wp2_with fail
  clear Z
  go_loopw [6] (fun v4 wr=>∃ d:Nat,d<=ni/\v4=.int .i64 (d:Int)/\Below w.heap.size w wr/\wr.heap[P]?=some (.cells #[.int .i64 D.kind,.int .i64 D.start,.string D.lead,.slice (some ⟨b,K,none⟩) D.n cp] 24 (0,0))/\∀ e,e<d->¬ (D.ain i e=s\/D.aout i e=s)) (fun v4 _=>ni-(intOf v4).toNat)
  case atStart=>exact⟨0,Nat.zero_le _,rfl,c.out,g.out,fun j hj=>by omega⟩
  obtain⟨d,hd,rfl,k,m,a5⟩:=hrel;clear c g;have Q:=qh a5;clear a5;have c:=qh k;clear k;have g:=qh m;clear m;have Z:=(cells4 g.out).1.2.2.2;rw[<- HN.out] at Z;have t1:=(c.out.cell (p:=⟨b,K+i*2+1,none⟩) b0).trans z.out;rw[<- o.out] at t1;by_cases H:d<ni
  ·have c8:(d:Int)<(ni:Int):=by omega
   have b9:(0:Int)<=(d:Int):=by omega
   have a6:=(a9.out (by omega)).1;obtain⟨uu0,uu1,uu2,uu3⟩:=a8.out d H;have a3:=b4.out (by omega);rw[a3] at t1;have c0:=(c.out.cell (p:=⟨BB i,O i+d*4,none⟩) a6).trans uu0;have c1:=(c.out.cell (p:=⟨BB i,O i+d*4+1,none⟩) a6).trans uu1;clear uu0 uu1 uu2 uu3 a3;obtain⟨a0,G⟩:=exq (D.ain i d);obtain⟨a1,J⟩:=exq (D.aout i d);rw[<- G] at c0;rw[<- J] at c1;have a2:=qh G;clear G;have W:=qh J;clear J;by_cases he:a0=s
   ·have HP:=qh (show HasS D s from ⟨i,d,E,by rw[<- o.out];exact H,.inl (by rw[<- a2.out];exact he)⟩);subst he;go_wp2;go_ret;exact⟨true,rfl,⟨fun _=>HP.out,fun _=>rfl⟩,c.out⟩
   have b6:=qh he;have d0:(a0==s)=false:=by simp[he]
   by_cases l:a1=s
   ·have HP:=qh (show HasS D s from ⟨i,d,E,by rw[<- o.out];exact H,.inr (by rw[<- W.out];exact l)⟩);have S:(a1==s)=true:=by simp[l]
    clear l;go_wp2;go_ret;exact⟨true,rfl,⟨fun _=>HP.out,fun _=>rfl⟩,c.out⟩
   have b5:=qh l;have S:(a1==s)=false:=by simp[l]
   go_wp2;go_roundw
   case rel=>exact⟨d+1,by omega,by go_num,c.out,g.out,fun e he=>by
    by_cases h:e=d
    ·subst h;rw[<- a2.out,<- W.out];exact fun h=>h.elim b6.out b5.out
    exact Q.out e (by omega)⟩
   simp[intOf];omega
  have b7:ni=d:=by omega
  subst b7;have L:¬ ((ni:Int)<(ni:Int)):=by omega
  go_wp2_with fail
  clear Z t1;go_roundw
  case rel=>exact⟨i+1,by omega,by go_num,c.out,g.out,fun j hj d hd=>by
   by_cases e:j=i
   ·subst e;exact Q.out d (by rw[o.out];exact hd)
   exact a7.out j (by omega) d hd⟩
  simp[intOf];omega
 have b8:n=i:=by omega
 subst b8;have L:¬ ((n:Int)<(n:Int)):=by omega
 go_wp2;go_ret;exact⟨false,rfl,⟨(fun h=>by cases h),fun ⟨q,d,hq,hd,h⟩=>absurd h (a7.out q (by rw[HN.out];exact hq) d hd)⟩,c.out⟩
theorem y6m {n:Nat} {x:Nat->Int} {s t:Int} (h:isWord n x=true) (c:1<=t/\t<=500):isWord n (putX s t x)=true:=by
 unfold isWord at h ⊢;rw[Bool.and_eq_true] at h ⊢;refine⟨h.1,z7k.2 fun i hi=>?_⟩;have d:=z7k.1 h.2 i hi;unfold putX
 split
 ·exact c
 exact d
theorem z6n (s t a:Int):mapF 1 (fun _=>s) (fun _=>t) a=if a=s then t else a:=by
 unfold mapF mpO mpO;by_cases e:s=a
 ·subst e;simp
 simp[e,show ¬ a=s from fun h=>e h.symm]
theorem z9x {s t:Int} (c:1<=s/\s<=500) (d:1<=t/\t<=500):RenOk 1 (fun _=>s) (fun _=>t):=fun _ _=>⟨c.1,c.2,Int.le_trans (by decide) d.1,d.2⟩
theorem Wv.back {D:MD} {na nb:Nat} {x y:Nat->Int} {s t:Int} {z i:ByteArray × Nat} (l:VM D) (I:1<=s/\s<=500) (H:1<=t/\t<=500) (c:¬ HasS D t) (j:VM ((D.ren (mapF 1 (fun _=>s) (fun _=>t))).ren (mapF 1 (fun _=>t) (fun _=>s))))
  (h:Wv ((D.ren (mapF 1 (fun _=>s) (fun _=>t))).ren (mapF 1 (fun _=>t) (fun _=>s))) na x nb y z) (u:Wv D na x nb y i) (p:z.2=0) (g:i.2=0):z.1=i.1:=by
 refine h.eq u j rfl (fun k G=>?_) p g;refine y4x (A:=rmOf k D) (B:=rmOf k ((D.ren (mapF 1 (fun _=>s) (fun _=>t))).ren (mapF 1 (fun _=>t) (fun _=>s)))) rfl rfl rfl rfl rfl rfl rfl (l.inn k) (j.inn k) (l.stn k) (fun q d m o=>?_) _ _;have C:D.ain q d≠t:=fun e=>c ⟨q,d,m,o,.inl e⟩;have F:D.aout q d≠t:=fun e=>c ⟨q,d,m,o,.inr e⟩;have hb:∀ a:Int,a≠t->mapF 1 (fun _=>t) (fun _=>s) (mapF 1 (fun _=>s) (fun _=>t) a)=a:=fun a E=>by
  rw[z6n,z6n];by_cases e:a=s
  ·rw[if_pos e,if_pos rfl,e]
  rw[if_neg e,if_neg E]
 exact⟨hb _ C,hb _ F⟩
theorem Wv.forth {D:MD} {na nb:Nat} {x y:Nat->Int} {s t:Int} {z F:ByteArray × Nat} (u:VM D) (T:1<=s/\s<=500) (S:1<=t/\t<=500) (p:¬ HasS D t) (G:VM (D.ren (mapF 1 (fun _=>s) (fun _=>t)))) (C:¬ ∃ i,i<na/\x i=t) (I:¬ ∃ i,i<nb/\y i=t)
  (h:Wv (D.ren (mapF 1 (fun _=>s) (fun _=>t))) na (putX s t x) nb (putX s t y) z) (N:Wv D na x nb y F) (L:z.2=0) (E:F.2=0):z.1=F.1:=by
 refine h.eq N G rfl (fun k R=>?_) L E;have H:∀ x:Nat->Int,putX s t x=fun i=>mapF 1 (fun _=>s) (fun _=>t) (x i):=fun x=>funext fun i=>(z6n s t (x i)).symm;rw[H x,H y,v7z,v7z];have Q:mapF 1 (fun _=>s) (fun _=>t) 0=0:=by rw[z6n,if_neg (by omega)]
 have K:∀ a:Int,a≠0->mapF 1 (fun _=>s) (fun _=>t) a≠0:=fun a c=>by
  rw[z6n];split
  ·omega
  exact c
 have keep:∀ (n:Nat) (x:Nat->Int),(¬ ∃ i,i<n/\x i=t)->∀ a ∈ ls x n 0,∀ b:Int,b≠t->mapF 1 (fun _=>s) (fun _=>t) a=mapF 1 (fun _=>s) (fun _=>t) b->a=b:=fun n x C a c b hb e=>by
  obtain⟨i,hi,rfl⟩:=u3p c;have J:x i≠t:=fun e=>C ⟨i,hi,e⟩;rw[z6n,z6n] at e
  split at e<;>split at e<;>omega
 have j:Inn (rmOf k D.cln):=u.inn k;have P:∀ x y,rel (rmOf k D) x y=rel (rmOf k D.cln) x y:=fun x y=>(y4x (A:=rmOf k D) (B:=rmOf k D.cln) rfl rfl rfl rfl rfl rfl rfl (u.inn k) j (u.stn k) (fun q d o m=>⟨if_pos ⟨o,m⟩,if_pos ⟨o,m⟩⟩) x y).symm;have l:∀ x y,rel (rmOf k (D.ren (mapF 1 (fun _=>s) (fun _=>t)))) x y=rel (renR (mapF 1 (fun _=>s) (fun _=>t)) (rmOf k D.cln)) x y:=fun x y =>
  (y4x (A:=rmOf k (D.ren (mapF 1 (fun _=>s) (fun _=>t)))) (B:=renR (mapF 1 (fun _=>s) (fun _=>t)) (rmOf k D.cln)) rfl rfl rfl rfl rfl rfl rfl (G.inn k) j (G.stn k) (fun q d o m=>by
   have J:(rmOf k D.cln).ain q d=D.ain q d:=if_pos ⟨o,m⟩;have O:(rmOf k D.cln).aout q d=D.aout q d:=if_pos ⟨o,m⟩;show mapF 1 _ _ ((rmOf k D.cln).ain q d)=mapF 1 _ _ (D.ain q d)/\mapF 1 _ _ ((rmOf k D.cln).aout q d)=mapF 1 _ _ (D.aout q d);rw[J,O];exact⟨rfl,rfl⟩) x y).symm
 have g:∀ q d,D.cln.ain q d≠t/\D.cln.aout q d≠t:=fun q d=>by
  show (if q<D.n/\d<D.na q then D.ain q d else 0)≠t/\(if q<D.n/\d<D.na q then D.aout q d else 0)≠t
  by_cases e:q<D.n/\d<D.na q
  ·rw[if_pos e,if_pos e];exact⟨fun l=>p ⟨q,d,e.1,e.2,.inl l⟩,fun l=>p ⟨q,d,e.1,e.2,.inr l⟩⟩
  rw[if_neg e,if_neg e];omega
 rw[P,l];exact u0h Q K j (u.stn k) (fun a c q d=>⟨fun _ e=>keep na x C a c _ (g q d).1 e,fun _ e=>keep na x C a c _ (g q d).2 e⟩) (fun a c q d=>⟨fun _ e=>keep nb y I a c _ (g q d).1 e,fun _ e=>keep nb y I a c _ (g q d).2 e⟩)
end
section
open Go.RowKit Go.Deep
theorem y8j {D:MD} {mv xv yv:Value} {na nb:Nat} {x y:Nat->Int} {s t:Int} (w:World) (k3:Ma none w mv D) (e1:MSz D) (hx:Si none w xv na x) (hy:Si none w yv nb y) (ht:Tab w) :
  Calls prog 9 #[mv,.int .i64 s,.int .i64 t,xv,yv] w (TrueB w):=by
 obtain⟨l9,i8,e4⟩:=k3;subst i8;obtain⟨f7,f1,_,_,_,_,_,_,H,_⟩:=e4.open;subst H;have b9:=qh (show ∀ W,Below w.heap.size w W->Ma none W (.agg #[.int .i64 D.kind,.int .i64 D.start,.string D.lead,.slice f7 D.n f1]) D from fun W h=>⟨_,rfl,e4.kept (z0b h none)⟩);clear e4;have c8:=qh e1;clear e1;obtain⟨f2,g4,_,_,e2,_,e9,T,_,_⟩:=hx.open;subst e2;have j3:(na:Int)<=9223372036854775807:=by unfold maxLen at T;omega
 clear e9 T;have d0:=qh (show ∀ W,Below w.heap.size w W->Si none W (.slice f2 na g4) na x from fun W h=>hx.kept (z0b h none));clear hx;have k5:=qh j3;clear j3;obtain⟨e6,f4,_,_,e2,_,e9,T,_,_⟩:=hy.open;subst e2;have h7:(nb:Int)<=9223372036854775807:=by unfold maxLen at T;omega
 clear e9 T;have c7:=qh (show ∀ W,Below w.heap.size w W->Si none W (.slice e6 nb f4) nb y from fun W h=>hy.kept (z0b h none));clear hy;have k2:=qh h7;clear h7;have j:=qh (show ∀ W,Below w.heap.size w W->Tab W from fun W h=>ht.below h nlr);clear ht;have c:=qh (Below.refl w.heap.size w);obtain⟨w1,F⟩:=exq (w.alloc (.cells #[.int .i64 D.kind,.int .i64 D.start,.string D.lead,.slice f7 D.n f1] 24));obtain⟨i1,a8⟩:=exq (w.heap.size);have h9:w1.heap.size=w.heap.size+1:=by rw[F];simp
 have hb:Below w.heap.size w w1:=by rw[F];exact(Below.refl _ w).alloc nlr _
 have hh:w1.heap[i1]?=some (.cells #[.int .i64 D.kind,.int .i64 D.start,.string D.lead,.slice f7 D.n f1] 24 (0,0)):=by rw[a8,F];exact heap_alloc_new w _
 replace c:=qh (c.out.trans (hb.mono c.out.size));clear hb;have g:=qh hh;clear hh;obtain⟨bA,d8⟩:∃ x,x=i1:=⟨_,rfl⟩;rw[<- d8] at g
 go_enter func9,ntmps9
 obtain⟨⟨m0,m1,L,N⟩,_⟩:=cells4 g.out;rw[F] at m0 m1 L N;rw[d8,a8] at m0 m1 L N;have d:=qh (x2g w1 (b9.out w1 c.out) c8.out)
 go_wp2_with fail
 clear m0 m1 L N;rw[<- a8,<- F];rw[<- d8];clear F h9 a8;clear d8;refine d.out.mono ?_;rintro r w2 ⟨k4,rfl,g3,hb⟩;replace g:=qh ((hb.block _ (lt_of_block g.out)).trans g.out);replace c:=qh (c.out.trans (hb.mono c.out.size));clear hb;clear d;cases k4
 rotate_left
 ·skip
  clear g3;have d:=qh (z0y w2 (j.out w2 c.out))
  go_wp2_with fail
  refine d.out.mono ?_;rintro r w3 ⟨rfl,hb⟩;replace g:=qh ((hb.block _ (lt_of_block g.out)).trans g.out);replace c:=qh (c.out.trans (hb.mono c.out.size));clear hb;clear d;go_wp2;go_ret;exact⟨rfl,c.out⟩
 have l2:=qh (show ¬ (8<D.n\/30<z0f D D.n) from fun h=>by cases g3.2 h);clear g3;obtain⟨w4,O⟩:=exq (w2.alloc (.cells #[.slice f2 na g4,.slice e6 nb f4] 25));obtain⟨i4,c9⟩:=exq (w2.heap.size);have j2:w4.heap.size=w2.heap.size+1:=by rw[O];simp
 have hb:Below w2.heap.size w2 w4:=by rw[O];exact(Below.refl _ w2).alloc nlr _
 have hk:w4.heap[i4]?=some (.cells #[.slice f2 na g4,.slice e6 nb f4] 25 (0,0)):=by rw[c9,O];exact heap_alloc_new w2 _
 replace g:=qh ((hb.block _ (lt_of_block g.out)).trans g.out);replace c:=qh (c.out.trans (hb.mono c.out.size));clear hb;have HF:=qh (v3s w4 (cellOf hk 0 rfl) (cellOf hk 1 rfl) (d0.out w4 c.out) (c7.out w4 c.out) k5.out k2.out);clear hk;have d:=qh (HF.out)
 go_wp2_with fail
 rw[<- c9,<- O];clear O j2 c9;refine d.out.mono ?_;rintro r w5 ⟨bf,rfl,f9,hb⟩;replace g:=qh ((hb.block _ (lt_of_block g.out)).trans g.out);replace c:=qh (c.out.trans (hb.mono c.out.size));clear hb;clear d;clear HF;cases bf
 rotate_left
 ·skip
  clear f9;have d:=qh (z0y w5 (j.out w5 c.out))
  go_wp2_with fail
  refine d.out.mono ?_;rintro r w6 ⟨rfl,hb⟩;replace g:=qh ((hb.block _ (lt_of_block g.out)).trans g.out);replace c:=qh (c.out.trans (hb.mono c.out.size));clear hb;clear d;go_wp2;go_ret;exact⟨rfl,c.out⟩
 have l:=qh (v9j fun h=>by cases f9.2 h);clear f9;obtain⟨⟨m0,m1,L,N⟩,_⟩:=cells4 g.out;have d:=qh (z2d w5 (b9.out w5 c.out) c8.out (j.out w5 c.out))
 go_wp2_with fail
 clear m0 m1 L N;refine d.out.mono ?_;rintro r w7 ⟨hb,hr⟩;replace g:=qh ((hb.block _ (lt_of_block g.out)).trans g.out);replace c:=qh (c.out.trans (hb.mono c.out.size));clear hb;clear d
 rcases hr with ⟨hv,rfl⟩|⟨hv,rfl⟩
 rotate_left
 ·skip
  have d:=qh (z0y w7 (j.out w7 c.out))
  go_wp2_with fail
  refine d.out.mono ?_;rintro r w8 ⟨rfl,hb⟩;replace g:=qh ((hb.block _ (lt_of_block g.out)).trans g.out);replace c:=qh (c.out.trans (hb.mono c.out.size));clear hb;clear d;go_wp2;go_ret;exact⟨rfl,c.out⟩
 have HV:=qh hv;clear hv;by_cases hc:s<1
 ·skip
  have d:=qh (z0y w7 (j.out w7 c.out))
  go_wp2_with fail
  refine d.out.mono ?_;rintro r w9 ⟨rfl,hb⟩;replace g:=qh ((hb.block _ (lt_of_block g.out)).trans g.out);replace c:=qh (c.out.trans (hb.mono c.out.size));clear hb;clear d;go_wp2;go_ret;exact⟨rfl,c.out⟩
 have h8:=qh hc;have m7:decide (s<1)=false:=by simp;omega
 clear hc;by_cases hc:(500:Int)<s
 ·skip
  have d:=qh (z0y w7 (j.out w7 c.out))
  go_wp2_with fail
  refine d.out.mono ?_;rintro r l3 ⟨rfl,hb⟩;replace g:=qh ((hb.block _ (lt_of_block g.out)).trans g.out);replace c:=qh (c.out.trans (hb.mono c.out.size));clear hb;clear d;go_wp2;go_ret;exact⟨rfl,c.out⟩
 have h0:=qh hc;have m8:decide ((500:Int)<s)=false:=by simp;omega
 clear hc;by_cases hc:t<1
 ·skip
  have d:=qh (z0y w7 (j.out w7 c.out))
  go_wp2_with fail
  refine d.out.mono ?_;rintro r m4 ⟨rfl,hb⟩;replace g:=qh ((hb.block _ (lt_of_block g.out)).trans g.out);replace c:=qh (c.out.trans (hb.mono c.out.size));clear hb;clear d;go_wp2;go_ret;exact⟨rfl,c.out⟩
 have g8:=qh hc;have n5:decide (t<1)=false:=by simp;omega
 clear hc;by_cases hc:(500:Int)<t
 ·skip
  have d:=qh (z0y w7 (j.out w7 c.out))
  go_wp2_with fail
  refine d.out.mono ?_;rintro r l6 ⟨rfl,hb⟩;replace g:=qh ((hb.block _ (lt_of_block g.out)).trans g.out);replace c:=qh (c.out.trans (hb.mono c.out.size));clear hb;clear d;go_wp2;go_ret;exact⟨rfl,c.out⟩
 have h4:=qh hc;have n7:decide ((500:Int)<t)=false:=by simp;omega
 clear hc;by_cases hc:s=t
 ·skip
  subst hc;have d:=qh (z0y w7 (j.out w7 c.out))
  go_wp2_with fail
  refine d.out.mono ?_;rintro r l4 ⟨rfl,hb⟩;replace g:=qh ((hb.block _ (lt_of_block g.out)).trans g.out);replace c:=qh (c.out.trans (hb.mono c.out.size));clear hb;clear d;go_wp2;go_ret;exact⟨rfl,c.out⟩
 have l1:=qh hc;have n9:(s==t)=false:=by simp[hc]
 clear hc;have b0:=qh (show 1<=s/\s<=500 by have:=h8.out;have:=h0.out;omega);have Q:=qh (show 1<=t/\t<=500 by have:=g8.out;have:=h4.out;omega);obtain⟨⟨m0,m1,L,N⟩,_⟩:=cells4 g.out;have d:=qh (v0i w7 (b9.out w7 c.out) HV.out t)
 go_wp2_with fail
 clear m0 m1 L N;refine d.out.mono ?_;rintro r I ⟨bh,rfl,g1,hb⟩;replace g:=qh ((hb.block _ (lt_of_block g.out)).trans g.out);replace c:=qh (c.out.trans (hb.mono c.out.size));clear hb;clear d;cases bh
 rotate_left
 ·skip
  clear g1;have d:=qh (z0y I (j.out I c.out))
  go_wp2_with fail
  refine d.out.mono ?_;rintro r l5 ⟨rfl,hb⟩;replace g:=qh ((hb.block _ (lt_of_block g.out)).trans g.out);replace c:=qh (c.out.trans (hb.mono c.out.size));clear hb;clear d;go_wp2;go_ret;exact⟨rfl,c.out⟩
 have g9:=qh (show ¬ HasS D t from fun h=>by cases g1.2 h);clear g1;obtain⟨⟨m0,m1,L,N⟩,_⟩:=cells4 g.out;obtain⟨S,z⟩:=exq (I.alloc (.cells #[.int .i64 s,.int .i64 t] 50));obtain⟨f8,a1⟩:=exq (I.heap.size);have e3:S.heap.size=I.heap.size+1:=by rw[z];simp
 have hb:Below I.heap.size I S:=by rw[z];exact(Below.refl _ I).alloc nlr _
 have hP:PrS none S (.slice (some ⟨f8,0,none⟩) 1 1) 1 (fun _=>s) (fun _=>t):=by rw[a1,z];exact x2s (heap_alloc_new I _) y0k (lt1 ⟨rfl,rfl⟩)
 have b4:=qh hP;clear hP;replace g:=qh ((hb.block _ (lt_of_block g.out)).trans g.out);replace c:=qh (c.out.trans (hb.mono c.out.size));clear hb;have d:=qh (y1h (D:=D) S (b9.out S c.out) c8.out b4.out (by decide) (j.out S c.out))
 go_wp2_with fail
 clear m0 m1 L N;rw[<- a1,<- z];clear z e3 a1;refine d.out.mono ?_;rintro r U ⟨hb,hr⟩;replace g:=qh ((hb.block _ (lt_of_block g.out)).trans g.out);replace c:=qh (c.out.trans (hb.mono c.out.size));clear hb;clear d;clear b4;obtain⟨E,b7⟩:=exq (D.ren (mapF 1 (fun _=>s) (fun _=>t)));rw[<- b7] at hr;have a9:=qh (show VM E by rw[b7];exact VM.ren HV.out (z9x b0.out Q.out));have b5:=qh (show MSz E by rw[b7];exact { c8.out with });have a7:=qh b7;clear b7
 rcases hr with ⟨_,k9,R,rfl,u⟩|⟨G,_⟩
 rotate_left
 ·exact absurd ⟨HV.out,(z9x b0.out Q.out)⟩ G
 obtain⟨d7,d5,H,_,_⟩:=z1e u.top;have H:_=Value.slice d7 (E).n d5:=H;subst H;obtain⟨C,o⟩:=exq (U.alloc (.cells #[.int .i64 (E.kind),.int .i64 (E.start),.string (E.lead),.slice d7 (E).n d5] 24));obtain⟨d2,J⟩:=exq (U.heap.size);have a6:C.heap.size=U.heap.size+1:=by rw[o];simp
 have hb:Below U.heap.size U C:=by rw[o];exact(Below.refl _ U).alloc nlr _
 have hh:Has C d2 (E.kind) (E.start) (E.lead) d7 (E).n d5 (E):=by rw[J,o];exact Has.new u ⟨rfl,rfl,rfl⟩
 clear u;replace g:=qh ((hb.block _ (lt_of_block g.out)).trans g.out);replace c:=qh (c.out.trans (hb.mono c.out.size));clear hb;have k:=qh hh;clear hh;obtain⟨bN,d4⟩:∃ x,x=d2:=⟨_,rfl⟩;rw[<- d4] at k;obtain⟨⟨m0,m1,L,N⟩,_⟩:=cells4 k.out.1;rw[o] at m0 m1 L N;rw[d4,J] at m0 m1 L N;obtain⟨a4,A⟩:=exq (C.alloc (.cells #[.int .i64 t,.int .i64 s] 50));obtain⟨f5,a3⟩:=exq (U.heap.size+1);have g0:a4.heap.size=U.heap.size+1+1:=by rw[A];simp[a6]
 have hb:Below C.heap.size C a4:=by rw[A];exact(Below.refl _ C).alloc nlr _
 have hP:PrS none a4 (.slice (some ⟨f5,0,none⟩) 1 1) 1 (fun _=>t) (fun _=>s):=by rw[a3,<- a6,A];exact x2s (heap_alloc_new C _) y0k (lt1 ⟨rfl,rfl⟩)
 have b4:=qh hP;clear hP;replace k:=qh (k.out.on hb);replace g:=qh ((hb.block _ (lt_of_block g.out)).trans g.out);replace c:=qh (c.out.trans (hb.mono c.out.size));clear hb;have d:=qh (y1h (D:=E) a4 k.out.ma b5.out b4.out (by decide) (j.out a4 c.out))
 go_wp2_with fail
 clear m0 m1 L N;rw[<- a3,<- J,<- o,<- A];rw[<- d4];clear o a6 J;clear A g0 a3;clear d4;refine d.out.mono ?_;rintro r b1 ⟨hb,hr⟩;replace k:=qh (k.out.on hb);replace g:=qh ((hb.block _ (lt_of_block g.out)).trans g.out);replace c:=qh (c.out.trans (hb.mono c.out.size));clear hb;clear d;clear b4;obtain⟨D2,b6⟩:=exq (E.ren (mapF 1 (fun _=>t) (fun _=>s)));rw[<- b6] at hr;have e0:=qh (show VM D2 by rw[b6];exact VM.ren a9.out (z9x Q.out b0.out));have j6:=qh (show MSz D2 by rw[b6];exact { b5.out with });have d9:=qh b6;clear b6
 rcases hr with ⟨_,k9,R,rfl,u⟩|⟨G,_⟩
 rotate_left
 ·exact absurd ⟨a9.out,(z9x Q.out b0.out)⟩ G
 obtain⟨f3,e8,H,_,_⟩:=z1e u.top;have H:_=Value.slice f3 (D2).n e8:=H;subst H;obtain⟨B,p⟩:=exq (b1.alloc (.cells #[.int .i64 (D2.kind),.int .i64 (D2.start),.string (D2.lead),.slice f3 (D2).n e8] 24));obtain⟨d3,a5⟩:=exq (b1.heap.size);have f0:B.heap.size=b1.heap.size+1:=by rw[p];simp
 have hb:Below b1.heap.size b1 B:=by rw[p];exact(Below.refl _ b1).alloc nlr _
 have hh:Has B d3 (D2.kind) (D2.start) (D2.lead) f3 (D2).n e8 (D2):=by rw[a5,p];exact Has.new u ⟨rfl,rfl,rfl⟩
 clear u;replace k:=qh (k.out.on hb);replace g:=qh ((hb.block _ (lt_of_block g.out)).trans g.out);replace c:=qh (c.out.trans (hb.mono c.out.size));clear hb;have m:=qh hh;clear hh;obtain⟨bP,g2⟩:∃ x,x=d3:=⟨_,rfl⟩;rw[<- g2] at m;obtain⟨⟨m0,m1,L,N⟩,_⟩:=cells4 g.out;rw[p] at m0 m1 L N;have d:=qh (z9r (D:=D) B (b9.out B c.out) c8.out (j.out B c.out) (d0.out B c.out) (c7.out B c.out) (by have:=l.out.1.1;omega) (by have:=l.out.2.1;omega))
 go_wp2_with fail
 clear m0 m1 L N;rw[<- a5,<- p];rw[<- g2];clear p f0 a5;clear g2;refine d.out.mono ?_;rintro r d6 ⟨hb,⟨g7,i6⟩,rfl,hz⟩;replace k:=qh (k.out.on hb);replace m:=qh (m.out.on hb);replace g:=qh ((hb.block _ (lt_of_block g.out)).trans g.out);replace c:=qh (c.out.trans (hb.mono c.out.size));clear hb;clear d
 rcases hz with ⟨_,_,_,X⟩|⟨G,_⟩
 rotate_left
 ·exact absurd ⟨HV.out,l.out.1.2,l.out.2.2⟩ G
 have h3:=qh X;clear X;obtain⟨⟨m0,m1,L,N⟩,_⟩:=cells4 m.out.1;have d:=qh (z9r (D:=D2) d6 m.out.ma j6.out (j.out d6 c.out) (d0.out d6 c.out) (c7.out d6 c.out) (by have:=l.out.1.1;omega) (by have:=l.out.2.1;omega))
 go_wp2_with fail
 clear m0 m1 L N;refine d.out.mono ?_;rintro r Z ⟨hb,⟨l0,j0⟩,rfl,hz⟩;replace k:=qh (k.out.on hb);replace m:=qh (m.out.on hb);replace g:=qh ((hb.block _ (lt_of_block g.out)).trans g.out);replace c:=qh (c.out.trans (hb.mono c.out.size));clear hb;clear d
 rcases hz with ⟨_,_,_,X⟩|⟨G,_⟩
 rotate_left
 ·exact absurd ⟨e0.out,l.out.1.2,l.out.2.2⟩ G
 have i3:=qh X;clear X;by_cases Y:i6=0
 ·skip
  subst Y;by_cases Y:j0=0
  ·skip
   subst Y;have i9:g7=l0:=by
    have h1:=i3.out;rw[d9.out,a7.out] at h1;have h2:=e0.out;rw[d9.out,a7.out] at h2;exact(Wv.back HV.out b0.out Q.out g9.out h2 h1 h3.out rfl rfl).symm
   subst i9;clear i3;obtain⟨wd,e5⟩:=exq (Z.drew);have hb:Below Z.heap.size Z wd:=by rw[e5];exact(Below.refl _ Z).drew
   replace k:=qh (k.out.on hb);replace m:=qh (m.out.on hb);replace g:=qh ((hb.block _ (lt_of_block g.out)).trans g.out);replace c:=qh (c.out.trans (hb.mono c.out.size));clear hb;have P:=(cells4 k.out.1).1
   go_wp2_with fail
   refine z0e (fun wk=>wk.cell? ⟨bN,0,none⟩=some (.int .i64 E.kind)/\wk.cell? ⟨bN,1,none⟩=some (.int .i64 E.start)/\wk.cell? ⟨bN,2,none⟩=some (.string E.lead)/\wk.cell? ⟨bN,3,none⟩=some (.slice d7 E.n d5)) 14 (by kernel_rfl) ?_;rw[<- e5];clear e5;refine z0c.tm 0 P ?_;refine z0c.tm 1 P ?_;refine z0c.tm 2 P ?_;refine z0c.tm 3 P ?_;refine z0c.tm 5 P ?_;refine z0c.tm 6 P ?_;refine z0c.tm 7 P ?_
   try simp only[Act.put,tryL]
   refine z0c.on 4 fun K hK=>?_;go_simp;refine(x0i wd (d0.out wd c.out) (by have:=l.out.1.1;omega) s t).mono ?_;rintro r g6 ⟨hb,v1,rfl,b8⟩;have h6:=qh b8;clear b8;replace k:=qh (k.out.on hb);replace m:=qh (m.out.on hb);replace g:=qh ((hb.block _ (lt_of_block g.out)).trans g.out);replace c:=qh (c.out.trans (hb.mono c.out.size));clear hb;have g5:=(cells4 k.out.1).1;refine hK.out _ _ (.inr g5) ?_;clear hK K P
   try simp only[Act.put,tryL]
   refine z0c.on 8 fun K hK=>?_;go_simp;refine(x0i g6 (c7.out g6 c.out) (by have:=l.out.2.1;omega) s t).mono ?_;rintro r j4 ⟨hb,v2,rfl,j1⟩;have b8:=z2j h6.out (z0b hb none) (fun _ _=>by simp);have h5:=qh b8;clear b8;have j7:=qh j1;clear j1;replace k:=qh (k.out.on hb);replace m:=qh (m.out.on hb);replace g:=qh ((hb.block _ (lt_of_block g.out)).trans g.out);replace c:=qh (c.out.trans (hb.mono c.out.size));clear hb;have j5:=(cells4 k.out.1).1;refine hK.out _ _ (.inr j5) ?_;clear hK K g5
   try simp only[Act.put,tryL]
   refine z0c.on 9 fun K hK=>?_;go_simp;refine(z9r (D:=E) j4 k.out.ma b5.out (j.out j4 c.out) (v8a h5.out) (v8a j7.out) (by have:=l.out.1.1;omega) (by have:=l.out.2.1;omega)).mono ?_;rintro r i7 ⟨hb,⟨k7,i2⟩,rfl,hz⟩;clear h6 j7 h5;replace k:=qh (k.out.on hb);replace m:=qh (m.out.on hb);replace g:=qh ((hb.block _ (lt_of_block g.out)).trans g.out);replace c:=qh (c.out.trans (hb.mono c.out.size));clear hb;have b3:=(cells4 k.out.1).1;refine hK.out _ _ (.inr b3) ?_;clear hK K j5
   try simp only[Act.put,tryL]
   rcases hz with ⟨_,_,_,X⟩|⟨G,_⟩
   rotate_left
   ·exact absurd ⟨a9.out,y6m l.out.1.2 Q.out,y6m l.out.2.2 Q.out⟩ G
   have j8:=qh X;clear X;refine z0c.tm 10 b3 ?_;refine z0c.tm 11 b3 ?_;refine z0c.tm 12 b3 ?_
   try simp only[Act.put,tryL]
   refine z0c.on 13 fun K hK=>?_;go_simp;refine hK.out _ _ (.inr b3) ?_;clear hK K
   try simp only[Act.put,tryL]
   refine z0c.on 14 fun K hK=>?_;go_simp;refine hK.out _ _ (.inl rfl) (z0c.dn ?_);clear hK K b3;have d:=qh (x3j i7 (d0.out i7 c.out) (by have:=l.out.1.1;omega) t)
   go_wp2_with fail
   refine d.out.mono ?_;rintro r d1 ⟨j9,rfl,a2,hb⟩;replace k:=qh (k.out.on hb);replace m:=qh (m.out.on hb);replace g:=qh ((hb.block _ (lt_of_block g.out)).trans g.out);replace c:=qh (c.out.trans (hb.mono c.out.size));clear hb;clear d;cases j9
   rotate_left
   ·skip
    clear a2;have d:=qh (z0y d1 (j.out d1 c.out))
    go_wp2_with fail
    refine d.out.mono ?_;rintro r l7 ⟨rfl,hb⟩;replace k:=qh (k.out.on hb);replace m:=qh (m.out.on hb);replace g:=qh ((hb.block _ (lt_of_block g.out)).trans g.out);replace c:=qh (c.out.trans (hb.mono c.out.size));clear hb;clear d;go_wp2;go_ret;exact⟨rfl,c.out⟩
   have k1:=qh (show ¬ ∃ i,i<na/\x i=t from fun h=>by cases a2.2 h);clear a2;have d:=qh (x3j d1 (c7.out d1 c.out) (by have:=l.out.2.1;omega) t)
   go_wp2_with fail
   refine d.out.mono ?_;rintro r b2 ⟨k0,rfl,a2,hb⟩;replace k:=qh (k.out.on hb);replace m:=qh (m.out.on hb);replace g:=qh ((hb.block _ (lt_of_block g.out)).trans g.out);replace c:=qh (c.out.trans (hb.mono c.out.size));clear hb;clear d;cases k0
   rotate_left
   ·skip
    clear a2;have d:=qh (z0y b2 (j.out b2 c.out))
    go_wp2_with fail
    refine d.out.mono ?_;rintro r m9 ⟨rfl,hb⟩;replace k:=qh (k.out.on hb);replace m:=qh (m.out.on hb);replace g:=qh ((hb.block _ (lt_of_block g.out)).trans g.out);replace c:=qh (c.out.trans (hb.mono c.out.size));clear hb;clear d;go_wp2;go_ret;exact⟨rfl,c.out⟩
   have k6:=qh (show ¬ ∃ i,i<nb/\y i=t from fun h=>by cases a2.2 h);clear a2;by_cases Y:i2=0
   ·skip
    subst Y;have e7:g7=k7:=by
     have h1:=j8.out;rw[a7.out] at h1;have h2:=a9.out;rw[a7.out] at h2;exact(Wv.forth HV.out b0.out Q.out g9.out h2 k1.out k6.out h1 h3.out rfl rfl).symm
    subst e7;have d:=qh (z0y b2 (j.out b2 c.out))
    go_wp2_with fail
    refine d.out.mono ?_;rintro r m5 ⟨rfl,hb⟩;replace k:=qh (k.out.on hb);replace m:=qh (m.out.on hb);replace g:=qh ((hb.block _ (lt_of_block g.out)).trans g.out);replace c:=qh (c.out.trans (hb.mono c.out.size));clear hb;clear d;go_wp2;go_ret;exact⟨rfl,c.out⟩
   skip
   have i5:¬ ((i2:Int)=0):=by omega
   clear Y;have d:=qh (z0y b2 (j.out b2 c.out))
   go_wp2_with fail
   refine d.out.mono ?_;rintro r n6 ⟨rfl,hb⟩;replace k:=qh (k.out.on hb);replace m:=qh (m.out.on hb);replace g:=qh ((hb.block _ (lt_of_block g.out)).trans g.out);replace c:=qh (c.out.trans (hb.mono c.out.size));clear hb;clear d;go_wp2;go_ret;exact⟨rfl,c.out⟩
  skip
  have i5:¬ ((j0:Int)=0):=by omega
  clear Y;have d:=qh (z0y Z (j.out Z c.out))
  go_wp2_with fail
  refine d.out.mono ?_;rintro r l8 ⟨rfl,hb⟩;replace k:=qh (k.out.on hb);replace m:=qh (m.out.on hb);replace g:=qh ((hb.block _ (lt_of_block g.out)).trans g.out);replace c:=qh (c.out.trans (hb.mono c.out.size));clear hb;clear d;go_wp2;go_ret;exact⟨rfl,c.out⟩
 skip
 have i5:¬ ((i6:Int)=0):=by omega
 clear Y;have d:=qh (z0y Z (j.out Z c.out))
 go_wp2_with fail
 refine d.out.mono ?_;rintro r n3 ⟨rfl,hb⟩;replace k:=qh (k.out.on hb);replace m:=qh (m.out.on hb);replace g:=qh ((hb.block _ (lt_of_block g.out)).trans g.out);replace c:=qh (c.out.trans (hb.mono c.out.size));clear hb;clear d;go_wp2;go_ret;exact⟨rfl,c.out⟩
end
section
open Go.RowKit Go.Deep Go.ChangeShapes Go.WideShapes
end
section
open Go.RowKit Go.Deep Go.ChangeShapes Go.WideShapes Go.Joins
theorem z8z {H:Type} {P:Program} {e:TypeId} {d:DataW H} {n:Nat}:∀ {ds:List (DataW H)},d ∈ ds->n ∈ d.weights P e->n ∈ DataW.weightsAll P e ds
 | d0::r,h,hn=>by
  simp only[DataW.weightsAll,List.mem_append]
  rcases List.mem_cons.1 h with rfl|h
  ·exact .inl hn
  exact .inr (z8z h hn)
theorem y2h {H:Type} {t e:TypeId} {c d:List (DataW H)} (g:prog.underlying t=some (.slice e)) (i:1<=prog.bytesOf e) {b:Nat} (hb:∀ m ∈ (DataW.slice c d).weights prog t,m<=b):c.length<=b:=by
 have h:=hb ((c.length+d.length)*prog.bytesOf e) (by simp[DataW.weights,g]);have:=Nat.le_mul_of_pos_right (c.length+d.length) i;omega
theorem x0w {H:Type} {t e:TypeId} {c g:List (DataW H)} {d:DataW H} {m:Nat} (i:prog.underlying t=some (.slice e)) (h:d ∈ c) (j:m ∈ d.weights prog e):m ∈ (DataW.slice c g).weights prog t:=by
 simp only[DataW.weights,i,List.mem_cons,List.mem_append];exact .inr (.inl (z8z h j))
theorem v5p {H:Type} {enc:TypeId × Value->H} {W:World} {u:Bool} {C:Nat} {v:Value} {x:DataW H × List MemPlace} (h:DataW.trod enc prog W 0 (fun _=>true) u C 55 [v]=some x) :
  ∃ (n:Nat) (fi fo ft:Nat->Int) (fw:Nat->ByteArray),(∀ (D:MD) (i:Nat),D.na i=n->D.ain i=fi->D.aout i=fo->D.aw i=fw->D.ato i=ft->ArS none W v D i)/\(∀ j,(fw j).size<=maxLen) /\
   ∀ b,(∀ m ∈ x.1.weights prog 55,m<=b)->n<=b:=by
 rcases open_slice underlying55 h with ⟨g,_⟩|⟨a,len,a1,m,n',D,Pl,g,_,hl,S,z,F,hx⟩
 ·simp only[List.cons.injEq,and_true] at g;exact⟨0,fun _=>0,fun _=>0,fun _=>0,fun _=>⟨#[]⟩,fun D i L _ _ _ _=>.inl ⟨L,none,0,g,Nat.zero_le _⟩,fun _=>Nat.zero_le _,fun _ _=>Nat.zero_le _⟩
 simp only[List.cons.injEq,and_true] at g;simp only[if_true] at z;subst z;have c4:prog.cellsOf 59=4:=by kernel_rfl
 have ci:prog.cellsOf 3=1:=by kernel_rfl
 have cs:prog.cellsOf 9=1:=by kernel_rfl
 classical
 have d:∀ i,∃ t:Int × Int × ByteArray × Int,t.2.2.1.size<=maxLen/\(i<m->W.cell? (a.add (i*4))=some (.int .i64 t.1)/\W.cell? (a.add (i*4+1))=some (.int .i64 t.2.1)/\W.cell? (a.add (i*4+2))=some (.string t.2.2.1)/\W.cell? (a.add (i*4+3))=some (.int .i64 t.2.2.2)):=fun i=>by
  by_cases hi:i<m
  ·obtain⟨J,E,I⟩:=hx i hi;rw[c4] at E;obtain⟨_,s,c⟩:=World.cells?_some E;obtain⟨y0,y1,y2,y3,k,_,_,U,O,R,Q⟩:=trod_struct4 underlying59 I
   match J,s with
   | [v0,v1,v2,v3],_ =>
    simp only[ci,cs,List.drop_zero,List.drop_succ_cons,List.take_succ_cons,List.take_zero] at U O R Q;obtain⟨z0,e0,_⟩:=DataW.trod_int underlying3 U;obtain⟨X,e1,_⟩:=DataW.trod_int underlying3 O;obtain⟨Y,e2,_,K⟩:=DataW.trod_string underlying9 R;obtain⟨P,e3,_⟩:=DataW.trod_int underlying3 Q;obtain rfl:v0=.int .i64 z0:=by simpa using e0
    obtain rfl:v1=.int .i64 X:=by simpa using e1
    obtain rfl:v2=.string Y:=by simpa using e2
    obtain rfl:v3=.int .i64 P:=by simpa using e3
    have p:=c 0 (by omega);have o:=c 1 (by omega);have B:=c 2 (by omega);have A:=c 3 (by omega);rw[add_add] at p o B A;exact⟨(z0,X,Y,P),K,fun _=>⟨by simpa using p,by simpa using o,by simpa using B,by simpa using A⟩⟩
  exact⟨(0,0,⟨#[]⟩,0),Nat.zero_le _,fun h=>absurd h hi⟩
 obtain⟨T,N⟩:∃ T:Nat->Int × Int × ByteArray × Int,∀ i,(T i).2.2.1.size<=maxLen/\(i<m->W.cell? (a.add (i*4))=some (.int .i64 (T i).1)/\W.cell? (a.add (i*4+1))=some (.int .i64 (T i).2.1)/\W.cell? (a.add (i*4+2))=some (.string (T i).2.2.1)/\W.cell? (a.add (i*4+3))=some (.int .i64 (T i).2.2.2)) :=
  ⟨fun i=>Classical.choose (d i),fun i=>Classical.choose_spec (d i)⟩
 refine⟨len,fun i=>(T i).1,fun i=>(T i).2.1,fun i=>(T i).2.2.2,fun i=>(T i).2.2.1,fun D i l E I h3 h4=>?_,fun j=>(N j).1,fun b hb=>?_⟩
 ·by_cases L:len=0
  ·rw[L] at l g;exact .inl ⟨l,some a,m,g,S⟩
  have c0:=((N 0).2 (by omega)).1;have Z:a.spot=none:=by simpa [Addr.add] using World.cell?_spot c0
  obtain⟨b,G,sp⟩:=a;simp only at Z;subst Z;refine .inr ⟨b,G,m,by rw[l];exact g,⟨?_,by simp⟩,by rw[l];exact hl,S,fun j hj=>?_⟩
  ·have:=World.block_lt_of_cell? _ _ c0;rw[Addr.add_lit] at this;exact this
  rw[l] at hj;obtain⟨p,o,B,A⟩:=(N j).2 (by omega);rw[Addr.add_lit] at p o B A;rw[E,I,h3,h4];exact⟨p,by rw[Nat.add_assoc];exact o,by rw[Nat.add_assoc];exact B,by rw[Nat.add_assoc];exact A⟩
 rw[F] at hb;have:=y2h underlying55 (by decide +kernel) hb
 simpa using this
theorem u3r {H:Type} {enc:TypeId × Value->H} {W:World} {r:Reach} {b0:Nat} {o:Bool} {v:Value} {d:DataW H} {p:List MemPlace} (hv:Value.okWide prog W r b0 24 v) (h:DataW.Trod enc prog W 0 (fun _=>true) o 24 v d p)
  (hw:∀ m ∈ d.weights prog 24,m<=reachBytes):∃ D,Ma none W v D/\MSz D:=by
 obtain⟨v0,v1,v2,v3,y0,y1,y2,R,n,rfl,rfl,rfl,t0,t1,t2,t3⟩:=open_agg4 underlying24 (by kernel_rfl) (by kernel_rfl) hv h;obtain⟨z0,S,_,Y⟩:=DataW.trod_int underlying3 t0;obtain⟨F,e1,_,w1⟩:=DataW.trod_int underlying3 t1;obtain⟨G,e2,_,P⟩:=DataW.trod_string underlying9 t2;obtain rfl:v0=.int .i64 z0:=by simpa using S
 obtain rfl:v1=.int .i64 F:=by simpa using e1
 obtain rfl:v2=.string G:=by simpa using e2
 have g:∀ m ∈ R.1.weights prog 22,m<=reachBytes:=fun m B=>hw m (by
  simp only[DataW.weights,underlying24,DataW.weightsEach,List.map_cons,List.mem_append,List.map_nil];exact .inr (.inr (.inr (.inl B))))
 have A:-9223372036854775808<=z0/\z0<=9223372036854775807:=by
  simp[Lit.wf,IntKind.min,IntKind.max,IntKind.signed,IntKind.bits] at Y;omega
 have L:reachBytes<=140737488355328:=by decide
 rcases open_slice_pairs underlying22 underlying57 (by kernel_rfl) rfl rfl (by kernel_rfl) (by kernel_rfl) t3 with ⟨k,_⟩|⟨a,len,a1,m,n',V0,K,D0,D1,P0,P1,k,_,X,B,z,u,I⟩
 ·simp only[List.cons.injEq,and_true] at k;exact⟨{ kind:=z0,start:=F,lead:=G,n:=0,fin:=fun _=>⟨#[]⟩,na:=fun _=>0,ain:=fun _ _=>0,aout:=fun _ _=>0,aw:=fun _ _=>⟨#[]⟩,ato:=fun _ _=>0 },⟨_,rfl,.inl ⟨rfl,none,0,k,Nat.zero_le _⟩⟩,
   ⟨P,fun _=>Nat.zero_le _,fun _ _=>Nat.zero_le _,fun _=>Nat.zero_le _,Nat.zero_le _,A⟩⟩
 simp only[List.cons.injEq,and_true] at k;simp only[if_true] at z;subst z
 classical
 have c:∀ i,∃ t:ByteArray × Nat × (Nat->Int) × (Nat->Int) × (Nat->Int) × (Nat->ByteArray),t.1.size<=maxLen/\(∀ j,(t.2.2.2.2.2 j).size<=maxLen)/\t.2.1<=reachBytes /\
   (i<len->V0 i=.string t.1/\∀ (D:MD) (j:Nat),D.na j=t.2.1->D.ain j=t.2.2.1->D.aout j=t.2.2.2.1->D.aw j=t.2.2.2.2.2->D.ato j=t.2.2.2.2.1->ArS none W (K i) D j):=fun i=>by
  by_cases hi:i<len
  ·obtain⟨_,_,g0,g1⟩:=I i (by omega);obtain⟨s,e,_,C⟩:=DataW.trod_string underlying9 g0;obtain⟨na,T,fo,Q,fw,h1,U,h3⟩:=v5p g1;refine⟨(s,na,T,fo,Q,fw),C,U,h3 _ fun q Z=>g q ?_,fun _=>⟨by simpa using e,h1⟩⟩;rw[u];refine x0w underlying22 (List.mem_map.2 ⟨i,List.mem_range.2 hi,rfl⟩) ?_;simp only[DataW.weights,underlying57,DataW.weightsEach,List.map_cons,List.mem_append,List.map_nil];exact .inr (.inl Z)
  exact⟨(⟨#[]⟩,0,fun _=>0,fun _=>0,fun _=>0,fun _=>⟨#[]⟩),Nat.zero_le _,fun _=>Nat.zero_le _,Nat.zero_le _,fun h=>absurd h hi⟩
 have l:len<=reachBytes:=by
  rw[u] at g;have:=y2h underlying22 (by decide +kernel) g
  simpa using this
 refine⟨{ kind:=z0,start:=F,lead:=G,n:=len,fin:=fun i=>(Classical.choose (c i)).1,na:=fun i=>(Classical.choose (c i)).2.1,ain:=fun i=>(Classical.choose (c i)).2.2.1,aout:=fun i=>(Classical.choose (c i)).2.2.2.1,aw:=fun i=>(Classical.choose (c i)).2.2.2.2.2,ato:=fun i=>(Classical.choose (c i)).2.2.2.2.1 },⟨_,rfl,?_⟩,
  ⟨P,fun i=>(Classical.choose_spec (c i)).1,fun i=>(Classical.choose_spec (c i)).2.1,fun i=>Nat.le_trans (Classical.choose_spec (c i)).2.2.1 L,Nat.le_trans l L,A⟩⟩
 by_cases h0:len=0
 ·subst h0;exact .inl ⟨rfl,some a,m,k,B⟩
 have c0:=(I 0 (by omega)).1;have C:a.spot=none:=by simpa [Addr.add] using World.cell?_spot c0
 obtain⟨b,J,sp⟩:=a;simp only at C;subst C;refine .inr ⟨b,J,m,K,k,⟨?_,by simp⟩,X,B,fun j O=>?_⟩
 ·have:=World.block_lt_of_cell? _ _ c0;rw[Addr.add_lit] at this;exact this
 obtain⟨E,N,_,_⟩:=I j (by have:j<len:=O;omega);obtain⟨uu1,uu2⟩:=(Classical.choose_spec (c j)).2.2.2 O;rw[Addr.add_lit] at E N;rw[uu1] at E;exact⟨E,by rw[Nat.add_assoc];exact N,uu2 _ j rfl rfl rfl rfl rfl⟩
end
section
open Go.RowKit Go.Deep Go.ChangeShapes Go.WideShapes
theorem x3m {H:Type} {enc:TypeId × Value->H} {W:World} {g:Bool} {l:Nat} {v:Value} {x:DataW H × List MemPlace} (h:DataW.trod enc prog W 0 (fun _=>true) g l 25 [v]=some x) :
  ∃ (n:Nat) (F:Nat->Int),Rd none W v n fun i=>.int .i64 (F i):=by
 rcases open_slice1 underlying25 (by kernel_rfl) h with ⟨d,_⟩|⟨a,len,B,m,I,V,D,Pl,d,_,A,s,k,_,o⟩
 ·simp only[List.cons.injEq,and_true] at d;exact⟨0,fun _=>0,.inl ⟨rfl,none,0,d,Nat.zero_le _⟩⟩
 simp only[List.cons.injEq,and_true] at d;simp only[if_true] at k;subst k
 classical
 have c:∀ i,∃ z:Int,i<m->V i=.int .i64 z:=fun i=>by
  by_cases hi:i<m
  ·obtain⟨z,C,_⟩:=DataW.trod_int underlying3 (o i hi).2;exact⟨z,fun _=>by simpa using C⟩
  exact⟨0,fun h=>absurd h hi⟩
 refine⟨len,fun i=>Classical.choose (c i),?_⟩;by_cases E:len=0
 ·subst E;exact .inl ⟨rfl,some a,m,d,s⟩
 have c0:=(o 0 (by omega)).1;have u:a.spot=none:=by simpa [Addr.add] using World.cell?_spot c0
 obtain⟨b,p,G⟩:=a;simp only at u;subst u;refine .inr ⟨b,p,m,d,⟨?_,by simp⟩,A,s,fun j J=>?_⟩
 ·have:=World.block_lt_of_cell? _ _ c0;rw[Addr.add_lit] at this;exact this
 have:=(o j (by omega)).1;rw[Addr.add_lit,Classical.choose_spec (c j) (by omega)] at this;exact this
end
end Go.Proofs.YteappjogmnogcaaGreatDoor
