/- Parts of a proof: ExW ArcW LwC SidV C8 C9 SidT. -/
import Derived.Test.YteappjogmnogcaaGreatDoorV14
import Derived.Test.YteappjogmnogcaaGreatDoorV06
import Derived.Test.YteappjogmnogcaaGreatDoorV07
import Derived.Test.YteappjogmnogcaaGreatDoorV13
import Derived.Test.YteappjogmnogcaaGreatDoorV10
import Derived.Deep.RegionLaw
namespace Go.Proofs.YteappjogmnogcaaGreatDoor
set_option maxRecDepth 100000
set_option linter.unusedSimpArgs false
set_option linter.unusedVariables false
set_option linter.unusedSectionVars false
set_option maxHeartbeats 16000000
open Go Tryz
section
open Go.RowKit Go.Deep
def Has (W:World) (b:Nat) (k s:Int) (l:ByteArray) (a:Option Addr) (n c:Nat) (D:MD):Prop :=
 W.heap[b]?=some (.cells #[.int .i64 k,.int .i64 s,.string l,.slice a n c] 24 (0,0))/\(k=D.kind/\s=D.start/\l=D.lead)/\∃ R,OwM W 0 (.slice a n c) D R
theorem x5z {w c:World} {sv:Value} {D:MD} {B:Nat} {R:Nat->Value} (h:OwM w B sv D R) (hb:Below w.heap.size w c):OwM c B sv D R :=
 ⟨z2q h.top (z0b hb none) (fun _ _=>by simp),fun i hi=>z2q (h.row i hi) (z0b hb none) (fun _ _=>by simp),h.apart⟩
variable {W W':World} {b rb:Nat} {k s:Int} {l:ByteArray} {a:Option Addr} {n c:Nat} {D:MD}
theorem Has.on (h:Has W b k s l a n c D) (hb:Below W.heap.size W W'):Has W' b k s l a n c D:=⟨(hb.block b (lt_of_block h.1)).trans h.1,h.2.1,by obtain⟨R,d⟩:=h.2.2;exact⟨R,x5z d hb⟩⟩
theorem Has.ma (h:Has W b k s l a n c D):Ma none W (.agg #[.int .i64 k,.int .i64 s,.string l,.slice a n c]) D:=by
 obtain⟨_,⟨rfl,rfl,rfl⟩,R,d⟩:=h;exact d.ma blr
theorem Has.set (h:Has W b k s l a n c D) {c0 c1 c2 c3:Value} (i:W.heap[rb]?=some (.cells #[c0,c1,c2,c3] 24 (0,0))) (d:b≠rb) (m g j z:Value):Has ((((W.setCell ⟨rb,0,none⟩ m).setCell ⟨rb,1,none⟩ g).setCell ⟨rb,2,none⟩ j).setCell ⟨rb,3,none⟩ z) b k s l a n c D:=by
 obtain⟨u,o,R,p⟩:=h;refine⟨?_,o,R,p.box4 i _ _ _ _⟩;rw[z0e d,z0e d,z0e d,z0e d];exact u
theorem Has.new {B:Nat} {R:Nat->Value} (h:OwM W B (.slice a n c) D R) (e:k=D.kind/\s=D.start/\l=D.lead):Has (W.alloc (.cells #[.int .i64 k,.int .i64 s,.string l,.slice a n c] 24)) W.heap.size k s l a n c D :=
 ⟨heap_alloc_new W _,e,R,z4j (x5z h ((Below.refl _ W).alloc nlr _)) (Nat.zero_le _)⟩
theorem Has.put {B:Nat} {R:Nat->Value} {c0 c1 c2 c3:Value} (h:OwM W B (.slice a n c) D R) (d:W.heap[rb]?=some (.cells #[c0,c1,c2,c3] 24 (0,0))) (e:k=D.kind/\s=D.start/\l=D.lead):Has ((((W.setCell ⟨rb,0,none⟩ (.int .i64 k)).setCell ⟨rb,1,none⟩ (.int .i64 s)).setCell ⟨rb,2,none⟩ (.string l)).setCell ⟨rb,3,none⟩ (.slice a n c)) rb k s l a n c D :=
 ⟨z0w W rb _ _ _ _ d,e,R,z4j (h.box4 d _ _ _ _) (Nat.zero_le _)⟩
theorem u1j:AccD abD:=by
 have h:∀ q,q<abD.n->∀ d,d<abD.na q->abD.aout q d=abD.ain q d:=by decide +kernel
 exact fun q d c g=>h q c d g
theorem u4r:AccD kD:=by
 have h:∀ q,q<kD.n->∀ d,d<kD.na q->kD.aout q d=kD.ain q d:=by decide +kernel
 exact fun q d c g=>h q c d g
theorem u6i:dnOk (tmF (z0g abD.kind abD.lead kD.lead) 0) (kD.n+abD.n) (catA abD.inZ kD.outZ):=by unfold dnOk;decide +kernel
theorem z0y (w:World) (ht:Tab w):Calls prog 15 #[] w (TrueB w):=by
 have B:=qh (show ∀ W,Below w.heap.size w W->Tab W from fun W h=>ht.below h nlr);clear ht;have c:=qh (Below.refl w.heap.size w)
 go_enter func15,ntmps15
 go_wp2_with fail
 refine(v5e w).mono ?_;rintro r w1 ⟨hb,sv,rfl,hS⟩;replace c:=qh (c.out.trans (hb.mono c.out.size));clear hb;have d:=qh (x8c w1 (⟨_,rfl,hS⟩:Ma none w1 (.agg #[.int .i64 mD.kind,.int .i64 mD.start,.string mD.lead,sv]) mD) y8f (B.out w1 c.out));clear hS
 go_wp2_with fail
 refine d.out.mono ?_;rintro r w2 ⟨hb,hr⟩;replace c:=qh (c.out.trans (hb.mono c.out.size));clear hb;clear d
 rcases hr with ⟨_,H,R,rfl,g⟩|⟨A,_⟩
 rotate_left
 ·exact absurd v6w A
 obtain⟨p8,l9,u,_,_⟩:=z1h g.top;subst u;obtain⟨w3,b8⟩:=exq (w2.alloc (.cells #[.int .i64 (mD.inv.kind),.int .i64 (mD.inv.start),.string (mD.inv.lead),.slice p8 (mD.inv).n l9] 24));obtain⟨i3,g7⟩:=exq (w2.heap.size);have n6:w3.heap.size=w2.heap.size+1:=by rw[b8];simp
 have hb:Below w2.heap.size w2 w3:=by rw[b8];exact(Below.refl _ w2).alloc nlr _
 have m:Has w3 i3 (mD.inv.kind) (mD.inv.start) (mD.inv.lead) p8 (mD.inv).n l9 (mD.inv):=by rw[g7,b8];exact Has.new g ⟨rfl,rfl,rfl⟩
 clear g;replace c:=qh (c.out.trans (hb.mono c.out.size));clear hb;have i:=qh m;clear m;obtain⟨bA,j0⟩:∃ x,x=i3:=⟨_,rfl⟩;rw[<- j0] at i
 go_wp2_with fail
 rw[<- g7,<- b8];rw[<- j0];clear b8 n6 g7;clear j0;refine(v5e w3).mono ?_;rintro r w4 ⟨hb,sv,rfl,hS⟩;replace i:=qh (i.out.on hb);replace c:=qh (c.out.trans (hb.mono c.out.size));clear hb;have d:=qh (x0g w4 (⟨_,rfl,hS⟩:Ma none w4 (.agg #[.int .i64 mD.kind,.int .i64 mD.start,.string mD.lead,sv]) mD) y8f (B.out w4 c.out));clear hS
 go_wp2_with fail
 refine d.out.mono ?_;rintro r w5 ⟨hb,hr⟩;replace i:=qh (i.out.on hb);replace c:=qh (c.out.trans (hb.mono c.out.size));clear hb;clear d
 rcases hr with ⟨_,H,R,rfl,g⟩|⟨A,_⟩
 rotate_left
 ·exact absurd v6w A
 obtain⟨o5,m4,u,_,_⟩:=z1h g.top;subst u;obtain⟨w6,b6⟩:=exq (w5.alloc (.cells #[.int .i64 (mD.inR.kind),.int .i64 (mD.inR.start),.string (mD.inR.lead),.slice o5 (mD.inR).n m4] 24));obtain⟨i6,h0⟩:=exq (w5.heap.size);have o6:w6.heap.size=w5.heap.size+1:=by rw[b6];simp
 have hb:Below w5.heap.size w5 w6:=by rw[b6];exact(Below.refl _ w5).alloc nlr _
 have m:Has w6 i6 (mD.inR.kind) (mD.inR.start) (mD.inR.lead) o5 (mD.inR).n m4 (mD.inR):=by rw[h0,b6];exact Has.new g ⟨rfl,rfl,rfl⟩
 clear g;replace i:=qh (i.out.on hb);replace c:=qh (c.out.trans (hb.mono c.out.size));clear hb;have j:=qh m;clear m;obtain⟨bB,k3⟩:∃ x,x=i6:=⟨_,rfl⟩;rw[<- k3] at j
 go_wp2_with fail
 rw[<- h0,<- b6];rw[<- k3];clear b6 o6 h0;clear k3;refine(v5e w6).mono ?_;rintro r w7 ⟨hb,sv,rfl,hS⟩;replace i:=qh (i.out.on hb);replace j:=qh (j.out.on hb);replace c:=qh (c.out.trans (hb.mono c.out.size));clear hb;have d:=qh (x7y w7 (⟨_,rfl,hS⟩:Ma none w7 (.agg #[.int .i64 mD.kind,.int .i64 mD.start,.string mD.lead,sv]) mD) y8f (B.out w7 c.out));clear hS
 go_wp2_with fail
 refine d.out.mono ?_;rintro r w8 ⟨hb,hr⟩;replace i:=qh (i.out.on hb);replace j:=qh (j.out.on hb);replace c:=qh (c.out.trans (hb.mono c.out.size));clear hb;clear d
 rcases hr with ⟨_,H,R,rfl,g⟩|⟨A,_⟩
 rotate_left
 ·exact absurd v6w A
 obtain⟨o2,m7,u,_,_⟩:=z1h g.top;subst u;obtain⟨w9,b7⟩:=exq (w8.alloc (.cells #[.int .i64 (mD.outR.kind),.int .i64 (mD.outR.start),.string (mD.outR.lead),.slice o2 (mD.outR).n m7] 24));obtain⟨i9,g9⟩:=exq (w8.heap.size);have g8:w9.heap.size=w8.heap.size+1:=by rw[b7];simp
 have hb:Below w8.heap.size w8 w9:=by rw[b7];exact(Below.refl _ w8).alloc nlr _
 have m:Has w9 i9 (mD.outR.kind) (mD.outR.start) (mD.outR.lead) o2 (mD.outR).n m7 (mD.outR):=by rw[g9,b7];exact Has.new g ⟨rfl,rfl,rfl⟩
 clear g;replace i:=qh (i.out.on hb);replace j:=qh (j.out.on hb);replace c:=qh (c.out.trans (hb.mono c.out.size));clear hb;have k:=qh m;clear m;obtain⟨bC,i4⟩:∃ x,x=i9:=⟨_,rfl⟩;rw[<- i4] at k;obtain⟨b1,X⟩:=exq (w9.alloc (.cells #[.int .i64 1,.int .i64 2] 3));obtain⟨l0,b9⟩:=exq (w8.heap.size+1);have d6:b1.heap.size=w8.heap.size+1+1:=by rw[X];simp[g8]
 have hb:Below w9.heap.size w9 b1:=by rw[X];exact(Below.refl _ w9).alloc nlr _
 have m:Si none b1 (.slice (some ⟨l0,0,none⟩) 2 2) 2 y12:=by rw[b9,<- g8,X];exact z7p (heap_alloc_new w9 _) y4t (lt2 rfl rfl)
 replace i:=qh (i.out.on hb);replace j:=qh (j.out.on hb);replace k:=qh (k.out.on hb);replace c:=qh (c.out.trans (hb.mono c.out.size));clear hb;have Sx:=qh m;clear m;obtain⟨g2,T⟩:=exq (b1.alloc (.cells #[.int .i64 3] 3));obtain⟨i7,g0⟩:=exq (w8.heap.size+1+1);have j4:g2.heap.size=w8.heap.size+1+1+1:=by rw[T];simp[d6]
 have hb:Below b1.heap.size b1 g2:=by rw[T];exact(Below.refl _ b1).alloc nlr _
 have m:Si none g2 (.slice (some ⟨i7,0,none⟩) 1 1) 1 c3:=by rw[g0,<- d6,T];exact z7p (heap_alloc_new b1 _) y4h (lt1 rfl)
 replace i:=qh (i.out.on hb);replace j:=qh (j.out.on hb);replace k:=qh (k.out.on hb);replace Sx:=qh (Sx.out.kept (z0b hb none));replace c:=qh (c.out.trans (hb.mono c.out.size));clear hb;have Sy:=qh m;clear m;have d:=qh (y4v (kind:=1) (v:=⟨#[51]⟩) g2 Sx.out Sy.out (by decide) (by decide) (by unfold smS;decide) (B.out g2 c.out) ⟨by decide +kernel,by decide +kernel,by decide +kernel⟩);clear Sx Sy
 go_wp2_with fail
 rw[<- g0,<- b9,<- g9,<- b7,<- X,<- T];rw[<- i4];clear b7 g8 g9;clear X d6 b9;clear T j4 g0;clear i4;refine d.out.mono ?_;rintro r f4 ⟨hb,hr⟩;replace i:=qh (i.out.on hb);replace j:=qh (j.out.on hb);replace k:=qh (k.out.on hb);replace c:=qh (c.out.trans (hb.mono c.out.size));clear hb;clear d;obtain⟨H,R,rfl,g⟩:=hr;have g:OwM f4 _ H dD R:=g;obtain⟨p0,n9,u,_,_⟩:=z1h g.top;subst u;obtain⟨g4,K⟩:=exq (f4.alloc (.cells #[.int .i64 (1),.int .i64 (0),.string (⟨#[51]⟩),.slice p0 (dD).n n9] 24));obtain⟨b5,b2⟩:=exq (f4.heap.size);have j5:g4.heap.size=f4.heap.size+1:=by rw[K];simp
 have hb:Below f4.heap.size f4 g4:=by rw[K];exact(Below.refl _ f4).alloc nlr _
 have m:Has g4 b5 (1) (0) (⟨#[51]⟩) p0 (dD).n n9 (dD):=by rw[b2,K];exact Has.new g ⟨by decide +kernel,by decide +kernel,by decide +kernel⟩
 clear g;have n7:bA≠b5:=by have:=lt_of_block i.out.1;omega
 have l7:bB≠b5:=by have:=lt_of_block j.out.1;omega
 have l4:bC≠b5:=by have:=lt_of_block k.out.1;omega
 have LD:w.heap.size<=b5:=by have:=c.out.size;omega
 replace i:=qh (i.out.on hb);replace j:=qh (j.out.on hb);replace k:=qh (k.out.on hb);replace c:=qh (c.out.trans (hb.mono c.out.size));clear hb;have l:=qh m;clear m;obtain⟨bD,h1⟩:∃ x,x=b5:=⟨_,rfl⟩;rw[<- h1] at l n7 l7 l4 LD;obtain⟨⟨m0,m1,m2,m3⟩,_⟩:=cells4 l.out.1;rw[K] at m0 m1 m2 m3;rw[h1,b2] at m0 m1 m2 m3;have d:=qh (x2n g4 l.out.ma u4d (B.out g4 c.out))
 go_wp2_with fail
 clear m0 m1 m2 m3;rw[<- b2,<- K];rw[<- h1];clear K j5 b2;clear h1;refine d.out.mono ?_;rintro r g6 ⟨hb,hr⟩;replace i:=qh (i.out.on hb);replace j:=qh (j.out.on hb);replace k:=qh (k.out.on hb);replace l:=qh (l.out.on hb);replace c:=qh (c.out.trans (hb.mono c.out.size));clear hb;clear d
 rcases hr with ⟨_,_,H,R,rfl,g⟩|⟨_,A,_⟩|⟨A,_⟩
 rotate_left
 ·exact absurd u5a A
 ·exact absurd u5q A
 obtain⟨h8,h5,u,_,_⟩:=z1h g.top;subst u;obtain⟨⟨r0,r1,r2,r3⟩,rz⟩:=cells4 l.out.1;have f0:=rz 0;have f1:=rz 1;have f2:=rz 2;have f3:=rz 3;clear rz;obtain⟨F,z⟩:∃ F,F=(((g6.setCell ⟨bD,0,none⟩ (.int .i64 (dD.kind))).setCell ⟨bD,1,none⟩ (.int .i64 ((dD.n:Int)))).setCell ⟨bD,2,none⟩ (.string (dD.lead))).setCell ⟨bD,3,none⟩ (.slice h8 (revD dD).n h5):=⟨_,rfl⟩;have e5:F.heap.size=g6.heap.size:=by rw[z];simp[World.setCell]
 replace i:=qh (show Has F bA _ _ _ _ _ _ _ from by rw[z];exact i.out.set l.out.1 n7 _ _ _ _);replace j:=qh (show Has F bB _ _ _ _ _ _ _ from by rw[z];exact j.out.set l.out.1 l7 _ _ _ _);replace k:=qh (show Has F bC _ _ _ _ _ _ _ from by rw[z];exact k.out.set l.out.1 l4 _ _ _ _);replace c:=qh (show Below w.heap.size w F from by rw[z];exact z0d c.out LD _ _ _ _);replace l:=qh (show Has F bD (dD.kind) ((dD.n:Int)) (dD.lead) h8 (revD dD).n h5 (revD dD) from by rw[z];exact Has.put g l.out.1 ⟨by decide +kernel,by decide +kernel,by decide +kernel⟩);clear g;obtain⟨a6,P⟩:=exq (F.alloc (.cells #[.int .i64 1,.int .i64 2] 3));obtain⟨j6,f7⟩:=exq (g6.heap.size);have c7:a6.heap.size=g6.heap.size+1:=by rw[P];simp[e5]
 have hb:Below F.heap.size F a6:=by rw[P];exact(Below.refl _ F).alloc nlr _
 have m:Si none a6 (.slice (some ⟨j6,0,none⟩) 2 2) 2 y12:=by rw[f7,<- e5,P];exact z7p (heap_alloc_new F _) y4t (lt2 rfl rfl)
 replace i:=qh (i.out.on hb);replace j:=qh (j.out.on hb);replace k:=qh (k.out.on hb);replace l:=qh (l.out.on hb);replace c:=qh (c.out.trans (hb.mono c.out.size));clear hb;have Sx:=qh m;clear m;obtain⟨g1,O⟩:=exq (a6.alloc (.cells #[.int .i64 1,.int .i64 2] 3));obtain⟨k1,g5⟩:=exq (g6.heap.size+1);have j3:g1.heap.size=g6.heap.size+1+1:=by rw[O];simp[c7]
 have hb:Below a6.heap.size a6 g1:=by rw[O];exact(Below.refl _ a6).alloc nlr _
 have m:Si none g1 (.slice (some ⟨k1,0,none⟩) 2 2) 2 y12:=by rw[g5,<- c7,O];exact z7p (heap_alloc_new a6 _) y4t (lt2 rfl rfl)
 replace i:=qh (i.out.on hb);replace j:=qh (j.out.on hb);replace k:=qh (k.out.on hb);replace l:=qh (l.out.on hb);replace Sx:=qh (Sx.out.kept (z0b hb none));replace c:=qh (c.out.trans (hb.mono c.out.size));clear hb;have Sy:=qh m;clear m;have d:=qh (y4v (kind:=1) (v:=⟨#[49]⟩) g1 Sx.out Sy.out (by decide) (by decide) (by unfold smS;decide) (B.out g1 c.out) ⟨by decide +kernel,by decide +kernel,by decide +kernel⟩);clear Sx Sy
 go_wp2_with fail
 rw[<- g5,<- f7,<- z,<- P,<- O];clear z e5;clear P c7 f7;clear O j3 g5;refine d.out.mono ?_;rintro r a3 ⟨hb,hr⟩;replace i:=qh (i.out.on hb);replace j:=qh (j.out.on hb);replace k:=qh (k.out.on hb);replace l:=qh (l.out.on hb);replace c:=qh (c.out.trans (hb.mono c.out.size));clear hb;clear d;obtain⟨H,R,rfl,g⟩:=hr;have g:OwM a3 _ H abD R:=g;obtain⟨p6,m9,u,_,_⟩:=z1h g.top;subst u;obtain⟨b0,a2⟩:=exq (a3.alloc (.cells #[.int .i64 (1),.int .i64 (0),.string (⟨#[49]⟩),.slice p6 (abD).n m9] 24));obtain⟨h3,d5⟩:=exq (a3.heap.size);have e4:b0.heap.size=a3.heap.size+1:=by rw[a2];simp
 have hb:Below a3.heap.size a3 b0:=by rw[a2];exact(Below.refl _ a3).alloc nlr _
 have m:Has b0 h3 (1) (0) (⟨#[49]⟩) p6 (abD).n m9 (abD):=by rw[d5,a2];exact Has.new g ⟨by decide +kernel,by decide +kernel,by decide +kernel⟩
 clear g;replace i:=qh (i.out.on hb);replace j:=qh (j.out.on hb);replace k:=qh (k.out.on hb);replace l:=qh (l.out.on hb);replace c:=qh (c.out.trans (hb.mono c.out.size));clear hb;have o:=qh m;clear m;obtain⟨bG,l2⟩:∃ x,x=h3:=⟨_,rfl⟩;rw[<- l2] at o;obtain⟨a8,Q⟩:=exq (b0.alloc (.cells #[.int .i64 3] 3));obtain⟨k7,g3⟩:=exq (a3.heap.size+1);have d1:a8.heap.size=a3.heap.size+1+1:=by rw[Q];simp[e4]
 have hb:Below b0.heap.size b0 a8:=by rw[Q];exact(Below.refl _ b0).alloc nlr _
 have m:Si none a8 (.slice (some ⟨k7,0,none⟩) 1 1) 1 c3:=by rw[g3,<- e4,Q];exact z7p (heap_alloc_new b0 _) y4h (lt1 rfl)
 replace i:=qh (i.out.on hb);replace j:=qh (j.out.on hb);replace k:=qh (k.out.on hb);replace l:=qh (l.out.on hb);replace o:=qh (o.out.on hb);replace c:=qh (c.out.trans (hb.mono c.out.size));clear hb;have Sx:=qh m;clear m;obtain⟨d3,U⟩:=exq (a8.alloc (.cells #[.int .i64 3] 3));obtain⟨k9,c8⟩:=exq (a3.heap.size+1+1);have k4:d3.heap.size=a3.heap.size+1+1+1:=by rw[U];simp[d1]
 have hb:Below a8.heap.size a8 d3:=by rw[U];exact(Below.refl _ a8).alloc nlr _
 have m:Si none d3 (.slice (some ⟨k9,0,none⟩) 1 1) 1 c3:=by rw[c8,<- d1,U];exact z7p (heap_alloc_new a8 _) y4h (lt1 rfl)
 replace i:=qh (i.out.on hb);replace j:=qh (j.out.on hb);replace k:=qh (k.out.on hb);replace l:=qh (l.out.on hb);replace o:=qh (o.out.on hb);replace Sx:=qh (Sx.out.kept (z0b hb none));replace c:=qh (c.out.trans (hb.mono c.out.size));clear hb;have Sy:=qh m;clear m;have d:=qh (y4v (kind:=1) (v:=⟨#[50]⟩) d3 Sx.out Sy.out (by decide) (by decide) (by unfold smS;decide) (B.out d3 c.out) ⟨by decide +kernel,by decide +kernel,by decide +kernel⟩);clear Sx Sy
 go_wp2_with fail
 rw[<- c8,<- g3,<- d5,<- a2,<- Q,<- U];rw[<- l2];clear a2 e4 d5;clear Q d1 g3;clear U k4 c8;clear l2;refine d.out.mono ?_;rintro r f8 ⟨hb,hr⟩;replace i:=qh (i.out.on hb);replace j:=qh (j.out.on hb);replace k:=qh (k.out.on hb);replace l:=qh (l.out.on hb);replace o:=qh (o.out.on hb);replace c:=qh (c.out.trans (hb.mono c.out.size));clear hb;clear d;obtain⟨H,R,rfl,g⟩:=hr;have g:OwM f8 _ H kD R:=g;obtain⟨l6,m8,u,_,_⟩:=z1h g.top;subst u;obtain⟨c9,C⟩:=exq (f8.alloc (.cells #[.int .i64 (1),.int .i64 (0),.string (⟨#[50]⟩),.slice l6 (kD).n m8] 24));obtain⟨a5,b4⟩:=exq (f8.heap.size);have i5:c9.heap.size=f8.heap.size+1:=by rw[C];simp
 have hb:Below f8.heap.size f8 c9:=by rw[C];exact(Below.refl _ f8).alloc nlr _
 have m:Has c9 a5 (1) (0) (⟨#[50]⟩) l6 (kD).n m8 (kD):=by rw[b4,C];exact Has.new g ⟨by decide +kernel,by decide +kernel,by decide +kernel⟩
 clear g;have l3:bA≠a5:=by have:=lt_of_block i.out.1;omega
 have l8:bB≠a5:=by have:=lt_of_block j.out.1;omega
 have o3:bC≠a5:=by have:=lt_of_block k.out.1;omega
 have p7:bD≠a5:=by have:=lt_of_block l.out.1;omega
 have o8:bG≠a5:=by have:=lt_of_block o.out.1;omega
 have LK:w.heap.size<=a5:=by have:=c.out.size;omega
 replace i:=qh (i.out.on hb);replace j:=qh (j.out.on hb);replace k:=qh (k.out.on hb);replace l:=qh (l.out.on hb);replace o:=qh (o.out.on hb);replace c:=qh (c.out.trans (hb.mono c.out.size));clear hb;have p:=qh m;clear m;obtain⟨bK,h2⟩:∃ x,x=a5:=⟨_,rfl⟩;rw[<- h2] at p l3 l8 o3 p7 o8 LK;obtain⟨⟨m0,m1,m2,m3⟩,_⟩:=cells4 o.out.1;rw[C] at m0 m1 m2 m3;obtain⟨⟨n0,n1,n2,n3⟩,_⟩:=cells4 p.out.1;rw[C] at n0 n1 n2 n3;rw[h2,b4] at n0 n1 n2 n3;have d:=qh (x0f c9 o.out.ma p.out.ma v8q u3u (B.out c9 c.out) (by decide +kernel) (by decide +kernel))
 go_wp2_with fail
 clear m0 m1 m2 m3;clear n0 n1 n2 n3;rw[<- b4,<- C];rw[<- h2];clear C i5 b4;clear h2;refine d.out.mono ?_;rintro r k2 ⟨hb,hr⟩;replace i:=qh (i.out.on hb);replace j:=qh (j.out.on hb);replace k:=qh (k.out.on hb);replace l:=qh (l.out.on hb);replace o:=qh (o.out.on hb);replace p:=qh (p.out.on hb);replace c:=qh (c.out.trans (hb.mono c.out.size));clear hb;clear d
 rcases hr with ⟨_,_,_,⟨_,H,R,rfl,g⟩|⟨A,_⟩⟩|⟨_,_,A,_⟩|⟨A,_⟩
 rotate_left
 ·exact absurd u6i A
 ·exact absurd ⟨u1j,u4r,by decide +kernel⟩ A
 ·exact absurd ⟨v9i,u5n⟩ A
 have g:OwM k2 _ H cD R:=g;obtain⟨h6,h7,u,_,_⟩:=z1h g.top;subst u;obtain⟨⟨r0,r1,r2,r3⟩,rz⟩:=cells4 p.out.1;have f0:=rz 0;have f1:=rz 1;have f2:=rz 2;have f3:=rz 3;clear rz;obtain⟨Z,s⟩:∃ Z,Z=(((k2.setCell ⟨bK,0,none⟩ (.int .i64 (abD.kind))).setCell ⟨bK,1,none⟩ (.int .i64 (((kD.n:Int)+abD.start)))).setCell ⟨bK,2,none⟩ (.string ((z0g abD.kind abD.lead kD.lead).1))).setCell ⟨bK,3,none⟩ (.slice h6 (cD).n h7):=⟨_,rfl⟩;have h9:Z.heap.size=k2.heap.size:=by rw[s];simp[World.setCell]
 replace i:=qh (show Has Z bA _ _ _ _ _ _ _ from by rw[s];exact i.out.set p.out.1 l3 _ _ _ _);replace j:=qh (show Has Z bB _ _ _ _ _ _ _ from by rw[s];exact j.out.set p.out.1 l8 _ _ _ _);replace k:=qh (show Has Z bC _ _ _ _ _ _ _ from by rw[s];exact k.out.set p.out.1 o3 _ _ _ _);replace l:=qh (show Has Z bD _ _ _ _ _ _ _ from by rw[s];exact l.out.set p.out.1 p7 _ _ _ _);replace o:=qh (show Has Z bG _ _ _ _ _ _ _ from by rw[s];exact o.out.set p.out.1 o8 _ _ _ _);replace c:=qh (show Below w.heap.size w Z from by rw[s];exact z0d c.out LK _ _ _ _);replace p:=qh (show Has Z bK (abD.kind) (((kD.n:Int)+abD.start)) ((z0g abD.kind abD.lead kD.lead).1) h6 (cD).n h7 (cD) from by rw[s];exact Has.put g p.out.1 ⟨by decide +kernel,by decide +kernel,by decide +kernel⟩);clear g
 go_wp2_with fail
 rw[<- s];clear s h9;clear r0 r1 r2 r3 f0 f1 f2 f3;refine(v5e Z).mono ?_;rintro r d9 ⟨hb,sv,rfl,hS⟩;replace i:=qh (i.out.on hb);replace j:=qh (j.out.on hb);replace k:=qh (k.out.on hb);replace l:=qh (l.out.on hb);replace o:=qh (o.out.on hb);replace p:=qh (p.out.on hb);replace c:=qh (c.out.trans (hb.mono c.out.size));clear hb;obtain⟨b3,S⟩:=exq (d9.alloc (.cells #[.int .i64 2,.int .i64 3] 50));obtain⟨l1,d8⟩:=exq (d9.heap.size);have i8:b3.heap.size=d9.heap.size+1:=by rw[S];simp
 have hb:Below d9.heap.size d9 b3:=by rw[S];exact(Below.refl _ d9).alloc nlr _
 have hP:PrS none b3 (.slice (some ⟨l1,0,none⟩) 1 1) 1 c2 c3:=by rw[d8,S];exact u0u (heap_alloc_new d9 _) y4h (lt1 ⟨rfl,rfl⟩)
 have hS:StS none b3 sv mD:=hS.kept (z0b hb none);replace i:=qh (i.out.on hb);replace j:=qh (j.out.on hb);replace k:=qh (k.out.on hb);replace l:=qh (l.out.on hb);replace o:=qh (o.out.on hb);replace p:=qh (p.out.on hb);replace c:=qh (c.out.trans (hb.mono c.out.size));clear hb;have d:=qh (x6r b3 (⟨_,rfl,hS⟩:Ma none b3 (.agg #[.int .i64 mD.kind,.int .i64 mD.start,.string mD.lead,sv]) mD) y8f hP (by decide) (B.out b3 c.out));clear hS hP
 go_wp2_with fail
 rw[<- d8,<- S];clear S i8 d8;refine d.out.mono ?_;rintro r J ⟨hb,hr⟩;replace i:=qh (i.out.on hb);replace j:=qh (j.out.on hb);replace k:=qh (k.out.on hb);replace l:=qh (l.out.on hb);replace o:=qh (o.out.on hb);replace p:=qh (p.out.on hb);replace c:=qh (c.out.trans (hb.mono c.out.size));clear hb;clear d
 rcases hr with ⟨_,H,R,rfl,g⟩|⟨A,_⟩
 rotate_left
 ·exact absurd ⟨v6w,lt1 ⟨by decide,by decide,by decide,by decide⟩⟩ A
 have g:OwM J _ H nD R:=g;obtain⟨n5,m5,u,_,_⟩:=z1h g.top;subst u;obtain⟨a4,G⟩:=exq (J.alloc (.cells #[.int .i64 ((mD.ren (mapF 1 c2 c3)).kind),.int .i64 ((mD.ren (mapF 1 c2 c3)).start),.string ((mD.ren (mapF 1 c2 c3)).lead),.slice n5 (nD).n m5] 24));obtain⟨h4,d4⟩:=exq (J.heap.size);have e9:a4.heap.size=J.heap.size+1:=by rw[G];simp
 have hb:Below J.heap.size J a4:=by rw[G];exact(Below.refl _ J).alloc nlr _
 have m:Has a4 h4 ((mD.ren (mapF 1 c2 c3)).kind) ((mD.ren (mapF 1 c2 c3)).start) ((mD.ren (mapF 1 c2 c3)).lead) n5 (nD).n m5 (nD):=by rw[d4,G];exact Has.new g ⟨rfl,rfl,rfl⟩
 clear g;replace i:=qh (i.out.on hb);replace j:=qh (j.out.on hb);replace k:=qh (k.out.on hb);replace l:=qh (l.out.on hb);replace o:=qh (o.out.on hb);replace p:=qh (p.out.on hb);replace c:=qh (c.out.trans (hb.mono c.out.size));clear hb;have L:=qh m;clear m;obtain⟨bE,j7⟩:∃ x,x=h4:=⟨_,rfl⟩;rw[<- j7] at L;obtain⟨a9,D⟩:=exq (a4.alloc (.cells #[.int .i64 1] 3));obtain⟨k0,d0⟩:=exq (J.heap.size+1);have e2:a9.heap.size=J.heap.size+1+1:=by rw[D];simp[e9]
 have hb:Below a4.heap.size a4 a9:=by rw[D];exact(Below.refl _ a4).alloc nlr _
 have m:Si none a9 (.slice (some ⟨k0,0,none⟩) 1 1) 1 c1:=by rw[d0,<- e9,D];exact z7p (heap_alloc_new a4 _) y4h (lt1 rfl)
 replace i:=qh (i.out.on hb);replace j:=qh (j.out.on hb);replace k:=qh (k.out.on hb);replace l:=qh (l.out.on hb);replace o:=qh (o.out.on hb);replace p:=qh (p.out.on hb);replace L:=qh (L.out.on hb);replace c:=qh (c.out.trans (hb.mono c.out.size));clear hb;have I:=qh m;clear m;obtain⟨a7,E⟩:=exq (a9.alloc (.cells #[.int .i64 2] 3));obtain⟨j9,e3⟩:=exq (J.heap.size+1+1);have e8:a7.heap.size=J.heap.size+1+1+1:=by rw[E];simp[e2]
 have hb:Below a9.heap.size a9 a7:=by rw[E];exact(Below.refl _ a9).alloc nlr _
 have m:Si none a7 (.slice (some ⟨j9,0,none⟩) 1 1) 1 c2:=by rw[e3,<- e2,E];exact z7p (heap_alloc_new a9 _) y4h (lt1 rfl)
 replace i:=qh (i.out.on hb);replace j:=qh (j.out.on hb);replace k:=qh (k.out.on hb);replace l:=qh (l.out.on hb);replace o:=qh (o.out.on hb);replace p:=qh (p.out.on hb);replace L:=qh (L.out.on hb);replace I:=qh (I.out.kept (z0b hb none));replace c:=qh (c.out.trans (hb.mono c.out.size));clear hb;have S2:=qh m;clear m;obtain⟨e1,N⟩:=exq (a7.alloc (.cells #[.int .i64 3] 3));obtain⟨j1,e6⟩:=exq (J.heap.size+1+1+1);have j2:e1.heap.size=J.heap.size+1+1+1+1:=by rw[N];simp[e8]
 have hb:Below a7.heap.size a7 e1:=by rw[N];exact(Below.refl _ a7).alloc nlr _
 have m:Si none e1 (.slice (some ⟨j1,0,none⟩) 1 1) 1 c3:=by rw[e6,<- e8,N];exact z7p (heap_alloc_new a7 _) y4h (lt1 rfl)
 replace i:=qh (i.out.on hb);replace j:=qh (j.out.on hb);replace k:=qh (k.out.on hb);replace l:=qh (l.out.on hb);replace o:=qh (o.out.on hb);replace p:=qh (p.out.on hb);replace L:=qh (L.out.on hb);replace I:=qh (I.out.kept (z0b hb none));replace S2:=qh (S2.out.kept (z0b hb none));replace c:=qh (c.out.trans (hb.mono c.out.size));clear hb;have S3:=qh m;clear m;obtain⟨⟨m0,m1,m2,m3⟩,_⟩:=cells4 i.out.1;rw[N,E,D,G] at m0 m1 m2 m3;have d:=qh (z5n e1 i.out.ma { y8f with } (B.out e1 c.out) S2.out I.out (by decide) (by decide) u6w)
 go_wp2_with fail
 clear m0 m1 m2 m3;rw[<- e6,<- e3,<- d0,<- d4,<- G,<- D,<- E,<- N];rw[<- j7];clear G e9 d4;clear D e2 d0;clear E e8 e3;clear N j2 e6;clear j7;refine d.out.mono ?_;rintro r o4 ⟨rfl,hb⟩;replace i:=qh (i.out.on hb);replace j:=qh (j.out.on hb);replace k:=qh (k.out.on hb);replace l:=qh (l.out.on hb);replace o:=qh (o.out.on hb);replace p:=qh (p.out.on hb);replace L:=qh (L.out.on hb);replace I:=qh (I.out.kept (z0b hb none));replace S2:=qh (S2.out.kept (z0b hb none));replace S3:=qh (S3.out.kept (z0b hb none));replace c:=qh (c.out.trans (hb.mono c.out.size));clear hb;clear d;obtain⟨⟨m0,m1,m2,m3⟩,_⟩:=cells4 i.out.1;have d:=qh (z5n o4 i.out.ma { y8f with } (B.out o4 c.out) I.out S2.out (by decide) (by decide) u7a)
 go_wp2_with fail
 clear m0 m1 m2 m3;refine d.out.mono ?_;rintro r l5 ⟨rfl,hb⟩;replace i:=qh (i.out.on hb);replace j:=qh (j.out.on hb);replace k:=qh (k.out.on hb);replace l:=qh (l.out.on hb);replace o:=qh (o.out.on hb);replace p:=qh (p.out.on hb);replace L:=qh (L.out.on hb);replace I:=qh (I.out.kept (z0b hb none));replace S2:=qh (S2.out.kept (z0b hb none));replace S3:=qh (S3.out.kept (z0b hb none));replace c:=qh (c.out.trans (hb.mono c.out.size));clear hb;clear d;obtain⟨⟨m0,m1,m2,m3⟩,_⟩:=cells4 j.out.1;have d:=qh (z5n l5 j.out.ma { y8f with } (B.out l5 c.out) I.out I.out (by decide) (by decide) ex_b)
 go_wp2_with fail
 clear m0 m1 m2 m3;refine d.out.mono ?_;rintro r o7 ⟨rfl,hb⟩;replace i:=qh (i.out.on hb);replace j:=qh (j.out.on hb);replace k:=qh (k.out.on hb);replace l:=qh (l.out.on hb);replace o:=qh (o.out.on hb);replace p:=qh (p.out.on hb);replace L:=qh (L.out.on hb);replace I:=qh (I.out.kept (z0b hb none));replace S2:=qh (S2.out.kept (z0b hb none));replace S3:=qh (S3.out.kept (z0b hb none));replace c:=qh (c.out.trans (hb.mono c.out.size));clear hb;clear d;obtain⟨⟨m0,m1,m2,m3⟩,_⟩:=cells4 k.out.1;have d:=qh (z5n o7 k.out.ma { y8f with } (B.out o7 c.out) S3.out S3.out (by decide) (by decide) ex_c)
 go_wp2_with fail
 clear m0 m1 m2 m3;refine d.out.mono ?_;rintro r f5 ⟨rfl,hb⟩;replace i:=qh (i.out.on hb);replace j:=qh (j.out.on hb);replace k:=qh (k.out.on hb);replace l:=qh (l.out.on hb);replace o:=qh (o.out.on hb);replace p:=qh (p.out.on hb);replace L:=qh (L.out.on hb);replace I:=qh (I.out.kept (z0b hb none));replace S2:=qh (S2.out.kept (z0b hb none));replace S3:=qh (S3.out.kept (z0b hb none));replace c:=qh (c.out.trans (hb.mono c.out.size));clear hb;clear d;obtain⟨⟨m0,m1,m2,m3⟩,_⟩:=cells4 l.out.1;obtain⟨d2,Y⟩:=exq (f5.alloc (.cells #[.int .i64 2,.int .i64 1] 3));obtain⟨j8,e7⟩:=exq (f5.heap.size);have k5:d2.heap.size=f5.heap.size+1:=by rw[Y];simp
 have hb:Below f5.heap.size f5 d2:=by rw[Y];exact(Below.refl _ f5).alloc nlr _
 have m:Si none d2 (.slice (some ⟨j8,0,none⟩) 2 2) 2 y21:=by rw[e7,Y];exact z7p (heap_alloc_new f5 _) y4t (lt2 rfl rfl)
 replace i:=qh (i.out.on hb);replace j:=qh (j.out.on hb);replace k:=qh (k.out.on hb);replace l:=qh (l.out.on hb);replace o:=qh (o.out.on hb);replace p:=qh (p.out.on hb);replace L:=qh (L.out.on hb);replace I:=qh (I.out.kept (z0b hb none));replace S2:=qh (S2.out.kept (z0b hb none));replace S3:=qh (S3.out.kept (z0b hb none));replace c:=qh (c.out.trans (hb.mono c.out.size));clear hb;have Sz:=qh m;clear m;have d:=qh (z5n d2 l.out.ma u6z (B.out d2 c.out) Sz.out S3.out (by decide) (by decide) ex_d)
 go_wp2_with fail
 clear m0 m1 m2 m3;rw[<- e7,<- Y];clear Y k5 e7;refine d.out.mono ?_;rintro r d7 ⟨rfl,hb⟩;replace i:=qh (i.out.on hb);replace j:=qh (j.out.on hb);replace k:=qh (k.out.on hb);replace l:=qh (l.out.on hb);replace o:=qh (o.out.on hb);replace p:=qh (p.out.on hb);replace L:=qh (L.out.on hb);replace I:=qh (I.out.kept (z0b hb none));replace S2:=qh (S2.out.kept (z0b hb none));replace S3:=qh (S3.out.kept (z0b hb none));replace Sz:=qh (Sz.out.kept (z0b hb none));replace c:=qh (c.out.trans (hb.mono c.out.size));clear hb;clear d Sz;obtain⟨⟨m0,m1,m2,m3⟩,_⟩:=cells4 p.out.1;obtain⟨e0,a1⟩:=exq (d7.alloc (.cells #[.int .i64 1,.int .i64 2] 3));obtain⟨i2,f9⟩:=exq (d7.heap.size);have k6:e0.heap.size=d7.heap.size+1:=by rw[a1];simp
 have hb:Below d7.heap.size d7 e0:=by rw[a1];exact(Below.refl _ d7).alloc nlr _
 have m:Si none e0 (.slice (some ⟨i2,0,none⟩) 2 2) 2 y12:=by rw[f9,a1];exact z7p (heap_alloc_new d7 _) y4t (lt2 rfl rfl)
 replace i:=qh (i.out.on hb);replace j:=qh (j.out.on hb);replace k:=qh (k.out.on hb);replace l:=qh (l.out.on hb);replace o:=qh (o.out.on hb);replace p:=qh (p.out.on hb);replace L:=qh (L.out.on hb);replace I:=qh (I.out.kept (z0b hb none));replace S2:=qh (S2.out.kept (z0b hb none));replace S3:=qh (S3.out.kept (z0b hb none));replace c:=qh (c.out.trans (hb.mono c.out.size));clear hb;have Sz:=qh m;clear m;have d:=qh (z5n e0 p.out.ma u6n (B.out e0 c.out) Sz.out S3.out (by decide) (by decide) ex_k)
 go_wp2_with fail
 clear m0 m1 m2 m3;rw[<- f9,<- a1];clear a1 k6 f9;refine d.out.mono ?_;rintro r o9 ⟨rfl,hb⟩;replace i:=qh (i.out.on hb);replace j:=qh (j.out.on hb);replace k:=qh (k.out.on hb);replace l:=qh (l.out.on hb);replace o:=qh (o.out.on hb);replace p:=qh (p.out.on hb);replace L:=qh (L.out.on hb);replace I:=qh (I.out.kept (z0b hb none));replace S2:=qh (S2.out.kept (z0b hb none));replace S3:=qh (S3.out.kept (z0b hb none));replace Sz:=qh (Sz.out.kept (z0b hb none));replace c:=qh (c.out.trans (hb.mono c.out.size));clear hb;clear d Sz;obtain⟨⟨m0,m1,m2,m3⟩,_⟩:=cells4 L.out.1;have d:=qh (z5n o9 L.out.ma { y8f with } (B.out o9 c.out) I.out S3.out (by decide) (by decide) ex_n)
 go_wp2_with fail
 clear m0 m1 m2 m3;refine d.out.mono ?_;rintro r p9 ⟨rfl,hb⟩;replace i:=qh (i.out.on hb);replace j:=qh (j.out.on hb);replace k:=qh (k.out.on hb);replace l:=qh (l.out.on hb);replace o:=qh (o.out.on hb);replace p:=qh (p.out.on hb);replace L:=qh (L.out.on hb);replace I:=qh (I.out.kept (z0b hb none));replace S2:=qh (S2.out.kept (z0b hb none));replace S3:=qh (S3.out.kept (z0b hb none));replace c:=qh (c.out.trans (hb.mono c.out.size));clear hb;clear d;go_wp2;go_ret;exact⟨rfl,c.out⟩
end
section
open Go.RowKit Go.Deep
theorem x0z {D:MD} (hs:MSz D):∀ q,z0f D q<=q*140737488355328
 | 0=>nlr
 | q+1=>by
  have h:=x0z hs q;have h2:=hs.na q;show z0f D q+D.na q<=_;omega
theorem v1g {D:MD} {v:Value} (w:World) (hM:Ma none w v D) (W:MSz D) (hn:D.n<=100):Calls prog 45 #[v] w (fun r w'=>r=.returned (.int .i64 (z0f D D.n:Nat))/\Below w.heap.size w w'):=by
 obtain⟨sv,rfl,hS⟩:=hM;obtain⟨a,j,b,J,A,C,BB,O,rfl,Z,hc,hm,hb,m⟩:=hS.open;unfold maxLen at hm;clear hS;have s:=BoxM.new w D (.slice a D.n j);have o:=x0s w (.cells #[.int .i64 D.kind,.int .i64 D.start,.string D.lead,.slice a D.n j] 24);have K:=qh (fun q=>x0z W q);have X:=qh W.na;clear W;have HA:=qh Z;clear Z;have HB:=qh hb;clear hb;have HR:=qh m;clear m;have g:=qh s;clear s;have B:=qh o;clear o
 go_enter func45,ntmps45
 go_wp2_with fail
 obtain⟨wm,h⟩:=exq (w.alloc (.cells #[.int .i64 D.kind,.int .i64 D.start,.string D.lead,.slice a D.n j] 24));obtain⟨Y,E⟩:=exq (w.heap.size);rw[<- h,<- E] at g;rw[<- h] at B;rw[<- h,<- E];clear h E
 go_loopw [3,4] (fun c i wr=>∃ q k:Nat,q<=D.n/\i=.int .i64 (q:Int)/\c=.int .i64 (k:Int)/\k=z0f D q/\BoxM wr Y D (.slice a D.n j)/\Below w.heap.size w wr) (fun _ i _=>D.n-(intOf i).toNat)
 case atStart=>exact⟨0,0,Nat.zero_le _,rfl,rfl,rfl,g.out,B.out⟩
 obtain⟨q,k,hq,rfl,rfl,d,F,H⟩:=hrel;clear g B;have m3:=F.c3;have g:=qh F;clear F;have l:=qh H;clear H;by_cases S:q<D.n
 ·have a3:(q:Int)<(D.n:Int):=by omega
  have a1:(0:Int)<=(q:Int):=by omega
  obtain rfl:=HA.out (by omega);have N:=(HB.out (by omega)).1;obtain⟨k1,P,k3,k4,_⟩:=HR.out q S;generalize A q=aq at P;have c1:=(l.out.cell (p:=⟨b,J+q*2+1,none⟩) N).trans P;clear k1 P;have G:=K.out q;have T:=X.out q;have U:k<=100*140737488355328:=Nat.le_trans (Nat.le_of_eq d) (Nat.le_trans G (Nat.mul_le_mul_right _ (by omega)));clear G;have R:IntKind.i64.wrap ((k:Int)+(D.na q:Int))=(k:Int)+(D.na q:Int):=by rw[IntKind.wrap_i64];omega
  have I:k+D.na q=z0f D (q+1):=by rw[d];rfl
  have a2:(D.na q:Int)<=9223372036854775807:=by omega
  have Q:=qh I;clear I d U T;go_wp2;go_roundw
  case rel=>exact⟨q+1,k+D.na q,by omega,by go_num,by go_num,Q.out,g.out,l.out⟩
  simp[intOf];omega
 have z:q=D.n:=by omega
 have a5:¬ ((q:Int)<(D.n:Int)):=by omega
 have u:k=z0f D D.n:=by rw[d,z]
 have L:=qh u;clear u d;have a4:=qh z;clear z;go_wp2;go_ret
 first|exact⟨rfl,l.out⟩|exact⟨z5v (by rw[L.out]),l.out⟩
end
section
open Go.RowKit Go.Deep
def TestP (p:Prop) (w:World) (r:Ending) (w':World):Prop:=∃ b:Bool,r=.returned (.bool b)/\(b=true↔p)/\Below w.heap.size w w'
theorem y4m {D:MD} {mv:Value} (w:World) (L:Ma none w mv D) (G:MSz D):Calls prog 13 #[mv] w (TestP (8<D.n\/30<z0f D D.n) w):=by
 obtain⟨sv,rfl,A⟩:=L;obtain⟨a,g,_,_,_,_,_,_,s,_,_,C,_⟩:=A.open;subst s;unfold maxLen at C;obtain⟨d,c⟩:=exq (w.alloc (.cells #[.int .i64 D.kind,.int .i64 D.start,.string D.lead,.slice a D.n g] 24));have p:Fr (fun _=>False) w d:=by rw[c];exact Fr.alloc _ _
 have i:Below w.heap.size w d:=p.below nlr (fun _ e=>e.elim);have m:d.heap[w.heap.size]?=some (.cells #[.int .i64 D.kind,.int .i64 D.start,.string D.lead,.slice a D.n g] 24 (0,0)):=by rw[c];exact heap_alloc_new w _
 obtain⟨⟨m0,m1,F,E⟩,_⟩:=cells4 m;have z:=qh (⟨_,rfl,A.kept (z0b i none)⟩:Ma none d (.agg #[.int .i64 D.kind,.int .i64 D.start,.string D.lead,.slice a D.n g]) D);have B:=qh G;clear G;have j:=qh i;clear i p m A;have K:(0:Int)<=(D.n:Int):=by omega
 obtain⟨n,O⟩:=exq (D.n);rw[c] at m0 m1 F E;by_cases N:(8:Int)<(D.n:Int)
 ·have k:=qh (show 8<D.n\/30<z0f D D.n from .inl (by omega))
  go_enter func13,ntmps13
  go_wp2;go_ret;exact⟨true,rfl,⟨fun _=>k.out,fun _=>rfl⟩,by rw[<- c];exact j.out⟩
 have I:decide ((8:Int)<(D.n:Int))=false:=by simp;omega
 have H:=qh (v1g d z.out B.out (by omega));have u:=qh (show ¬ 8<D.n by omega);clear N O
 go_enter func13,ntmps13
 go_wp2_with fail
 rw[<- c];clear c m0 m1 F E;refine H.out.mono ?_;rintro r Q ⟨rfl,o⟩;have l:=qh (j.out.trans (o.mono j.out.size));clear o;by_cases J:(30:Int)<((z0f D D.n:Nat):Int)
 ·have k:=qh (show 8<D.n\/30<z0f D D.n from .inr (by omega));go_wp2;go_ret;exact⟨true,rfl,⟨fun _=>k.out,fun _=>rfl⟩,l.out⟩
 have P:decide ((30:Int)<((z0f D D.n:Nat):Int))=false:=by simp;omega
 have k:=qh (show ¬ (8<D.n\/30<z0f D D.n) from fun h=>by rcases h with h|h;exact u.out h;omega)
 clear J;go_wp2;go_ret;exact⟨false,rfl,⟨(fun h=>by cases h),fun h=>absurd h k.out⟩,l.out⟩
theorem v1m {n:Nat} {b:Nat} {V:Nat->Value} {L:Nat->Nat} {X:Nat->Nat->Int} (w:World) (hn:n<=10) (E:∀ i,i<n->w.cell? ⟨b,i,none⟩=some (V i)/\Si none w (V i) (L i) (X i)) (F:∀ i,i<n->(L i:Int)<=9223372036854775807) :
  Calls prog 14 #[.slice (some ⟨b,0,none⟩) n n] w (TestP (∃ i,i<n/\(6<L i\/isWord (L i) (X i)=false)) w):=by
 have R:=qh E;clear E;have N:=qh F;clear F
 go_enter func14,ntmps14
 go_wp2_with fail
 go_loopw [3] (fun i wr=>∃ q:Nat,q<=n/\i=.int .i64 (q:Int)/\(∀ j,j<q->L j<=6/\isWord (L j) (X j)=true)/\wr=w) (fun i _=>n-(intOf i).toNat)
 case atStart=>exact⟨0,Nat.zero_le _,rfl,fun j S=>by omega,rfl⟩
 obtain⟨q,W,rfl,s,rfl⟩:=hrel;have o:=qh s;clear s;by_cases g:q<n
 ·have G:(q:Int)<(n:Int):=by omega
  have D:(0:Int)<=(q:Int):=by omega
  obtain⟨c0,z⟩:=R.out q g;have d:=z;obtain⟨a,J,z⟩:=z.shape;rw[z] at c0 d;have p:=N.out q g;obtain⟨m,c⟩:=exq (L q);rw[<- c] at c0 p d;have k:=qh c;clear c z;by_cases Q:(6:Int)<(m:Int)
  ·have B:=qh (show ∃ i,i<n/\(6<L i\/isWord (L i) (X i)=false) from ⟨q,g,.inl (by rw[<- k.out];omega)⟩);clear d;go_wp2;go_ret;exact⟨true,rfl,⟨fun _=>B.out,fun _=>rfl⟩,blr⟩
  have O:decide ((6:Int)<(m:Int))=false:=by simp;omega
  have A:=qh (x9j wr d p);have C:=qh (show ¬ 6<m by omega);clear Q d;cases l:isWord m (X q)
  ·have B:=qh (show ∃ i,i<n/\(6<L i\/isWord (L i) (X i)=false) from ⟨q,g,.inr (by rw[<- k.out];exact l)⟩);rw[l] at A;clear l
   go_wp2_with fail
   refine A.out.mono ?_;rintro r K ⟨rfl,rfl⟩;go_wp2;go_ret;exact⟨true,rfl,⟨fun _=>B.out,fun _=>rfl⟩,blr⟩
  rw[l] at A;have I:=qh l;clear l
  go_wp2_with fail
  refine A.out.mono ?_;rintro r K ⟨rfl,rfl⟩;go_wp2;go_roundw
  case rel =>
   refine⟨q+1,by omega,by go_num,fun j S=>?_,by first|rfl|trivial⟩
   by_cases e:j=q
   ·rw[e,<- k.out];exact⟨Nat.le_of_not_lt C.out,I.out⟩
   exact o.out j (by omega)
  simp[intOf];omega
 have u:q=n:=by omega
 have T:¬ ((q:Int)<(n:Int)):=by omega
 have P:=qh u;clear u;go_wp2;go_ret;exact⟨false,rfl,⟨(fun h=>by cases h),fun ⟨i,hi,h⟩=>by
  obtain⟨U,H⟩:=o.out i (by rw[P.out];exact hi)
  rcases h with h|h
  ·omega
  rw[H] at h;cases h⟩,blr⟩
def pk {α:Type} (a b:α) (i:Nat):α:=if i=0 then a else b
theorem u3b {na:Nat} {x:Nat->Int} (h:¬ ∃ i,i<1/\(6<pk na na i\/isWord (pk na na i) (pk x x i)=false)):na<=6/\isWord na x=true:=by
 refine⟨?_,?_⟩
 ·exact Nat.le_of_not_lt fun c=>h ⟨0,by omega,.inl c⟩
 cases e:isWord na x
 ·exact absurd ⟨0,by omega,.inr e⟩ h
 rfl
theorem v8j {na b:Nat} {c:Value} {x:Nat->Int} (w:World) (c0:w.cell? ⟨b,0,none⟩=some c) (g:Si none w c na x) (d:(na:Int)<=9223372036854775807) :
  Calls prog 14 #[.slice (some ⟨b,0,none⟩) 1 1] w (TestP (∃ i,i<1/\(6<pk na na i\/isWord (pk na na i) (pk x x i)=false)) w) :=
 v1m (V:=pk c c) w (by omega) (lt1 ⟨c0,g⟩) (lt1 d)
end
section
open Go CSR
theorem VM.inR {D:MD} (h:VM D):VM D.inR:=h.sym (φ:=fun i _=>(i,i)) fun i o d c g j=>⟨d,c,d,c⟩
theorem v9q (D:MD):AccD D.inR:=fun q d _ _=>rfl
theorem Dv.eq {D:MD} {na:Nat} {x:Nat->Int} {z d:ByteArray × Nat} (j:VM D) (h:Dv D na x z) (l:Dv D na x d) (i:z.2=0) (c:d.2=0):z.1=d.1:=by
 obtain⟨k,g⟩:=j.kk;exact(h i k g).text (l c k g)
end
section
open Go.RowKit Go.Deep
def FilE (n:Nat) (x:ByteArray) (w:World) (r:Ending) (w':World):Prop :=
 r=.returned (.slice (some ⟨w.heap.size,0,none⟩) n n)/\OwS w' w.heap.size 9 (.slice (some ⟨w.heap.size,0,none⟩) n n) n (fun _=>x)/\Below w.heap.size w w'
theorem v3f (n:Nat):(madeCells #[Value.string ⟨#[]⟩] n).toList=strs n (fun _=>⟨#[]⟩):=by
 refine List.ext_getElem? fun i=>?_;by_cases h:i<n
 ·rw[z4t _ _ _ h,Array.getElem?_toList];simp[madeCells,h,Nat.mod_one]
 rw[List.getElem?_eq_none (l:=strs n _) (by rw[z5h];omega),List.getElem?_eq_none (by rw[Array.length_toList,size_madeCells];omega)]
theorem y6p (n:Nat) (x:ByteArray) (w:World) (hn:n<=3000):Calls prog 131 #[.int .i64 (n:Int),.string x] w (FilE n x w):=by
 have s:=run_make_row' (P:=prog) 79 9 (.string ⟨#[]⟩) 16 underlying79 y9a rfl .i64 .i64 n (by omega) (by omega);have c:OwS (w.alloc (.cells (madeCells #[.string ⟨#[]⟩] n) 9)) w.heap.size 9 (.slice (some ⟨w.heap.size,0,none⟩) n n) n (fun j=>if j<0 then x else ⟨#[]⟩):=by
  refine⟨by rw[z5h,Nat.mul_one],.inr ⟨w.heap.size,n,_,rfl,nlr,heap_alloc_new w _,nlr,by unfold maxLen;omega,by rw[size_madeCells,Nat.mul_one],?_⟩⟩;rw[Nat.mul_one,v3f,y5u (Y:=fun _=>⟨#[]⟩) (fun i _=>by simp)];exact List.take_of_length_le (by rw[z5h];exact nlr)
 have o:Below w.heap.size w (w.alloc (.cells (madeCells #[.string ⟨#[]⟩] n) 9)):=blr.alloc nlr _;have d:=qh c;clear c;have k:=qh o;clear o
 go_enter func131,ntmps131
 go_wp2_with fail
 clear s;obtain⟨g,p⟩:=exq (w.heap.size);rw[<- p] at d;rw[<- p];have B:=qh p;clear p
 go_loopw [11] (fun i wr=>∃ q:Nat,q<=n/\i=.int .i64 (q:Int)/\OwS wr g 9 (.slice (some ⟨g,0,none⟩) n n) n (fun j=>if j<q then x else ⟨#[]⟩)/\Below w.heap.size w wr) (fun i _=>n-(intOf i).toNat)
 case atStart=>exact⟨0,Nat.zero_le _,rfl,d.out,k.out⟩
 obtain⟨q,L,rfl,c,l⟩:=hrel;clear d k;have d:=qh c;clear c;have k:=qh l;clear l;by_cases m:q<n
 ·have E:(q:Int)<(n:Int):=by omega
  have A:(0:Int)<=(q:Int):=by omega
  have c0:wr.cell? ⟨g,q,none⟩=some (.string ⟨#[]⟩):=by
   have:=World.ownsRow.cells d.out (g:=g) rfl q _ (z4t n _ q m);rw[Addr.add_lit,Nat.zero_add,if_neg (by omega)] at this;exact this
  have J:wr.frozen? ⟨g,q,none⟩=false:=by
   rcases d.out.2 with ⟨h,_⟩|⟨K,G,F,H,_,z,_⟩
   ·cases h
   cases H;simp[World.frozen?,z]
  go_wp2;go_roundw
  case rel=>exact⟨q+1,by omega,by go_num,(d.out.set m x).congr (fun j D=>by
    by_cases e:j=q
    ·subst e;rw[if_pos rfl,if_pos (by omega)]
    rw[if_neg e];by_cases C:j<q
    ·rw[if_pos C,if_pos (by omega)]
    rw[if_neg C,if_neg (by omega)]),k.out.setCell (by show w.heap.size<=g;rw[B.out];exact nlr) _⟩
  simp[intOf];omega
 have u:q=n:=by omega
 subst u;have I:¬ ((q:Int)<(q:Int)):=by omega
 go_wp2;go_ret;rw[B.out] at d ⊢;exact⟨rfl,d.out.congr (fun j D=>by rw[if_pos D]),k.out⟩
end
section
open Go.RowKit Go.Deep
def arcV {k:KK} (D:MD) (W:Nat->Nat->RK k) (i:Nat):Nat->Nat->RK k
 | 0,_=>CSR.zero
 | d+1,j=>if D.ato i d=(j:Int) then arcV D W i d j+W i d else arcV D W i d j
def arcM {k:KK} (D:MD) (W:Nat->Nat->RK k):Nat->Nat->RK k:=fun i j=>arcV D W i (D.na i) j
def WtIs {k:KK} (D:MD) (W:Nat->Nat->RK k):Prop:=(W=fun i d=>wval k (D.aw i d))/\∀ i d,i<D.n->d<D.na i->Is k 0 (D.aw i d) (W i d)
structure FitP {k:KK} (D:MD) (W:Nat->Nat->RK k):Prop where
 arcs:∀ i d j,i<D.n->d<D.na i->j<D.n->D.ato i d=(j:Int)->fitV (arcV D W i d j+W i d).1
 pow:FitM D.n (arcM D W)
theorem VM.wts {D:MD} (h:VM D) {k:KK} (g:k.1=D.kind):∃ W:Nat->Nat->RK k,WtIs D W :=
 ⟨_,rfl,fun i d hi c=>y3w (by rw[g];exact y0j (h.arc i d hi c).wt)⟩
theorem VM.kkP {D:MD} (h:VM D):∃ k:KK,k.1=D.kind:=by
 have:=h.kind;unfold z3v at this;simp at this;exact⟨⟨D.kind,by omega⟩,rfl⟩
def MatTo {k:KK} (e:Nat) (D:MD) (W:Nat->Nat->RK k) (i d:Nat) (X:Nat->Nat->ByteArray):Prop :=
 ∀ q l,q<D.n->l<D.n->(q<i->Is k e (X q l) (arcM D W q l))/\(q=i->Is k e (X q l) (arcV D W q d l))
theorem MatTo.next {k:KK} {e e':Nat} {D:MD} {W:Nat->Nat->RK k} {i d t:Nat} {X:Nat->Nat->ByteArray} {u:ByteArray} (h:MatTo e D W i d X) (o:e'=0->e=0) (p:D.ato i d=(t:Int)) (s:Is k e' u (arcV D W i d t+W i d)) :
  MatTo e' D W i (d+1) (fun q l=>if q=i/\l=t then u else X q l):=fun q l j m=>by
 refine⟨fun c=>?_,fun c=>?_⟩
 ·simp only[if_neg (show ¬ (q=i/\l=t) by omega)];exact((h q l j m).1 c).mono o
 subst c;by_cases g:l=t
 ·subst g;show Is k e' (if q=q/\l=l then u else X q l) (if D.ato q d=(l:Int) then arcV D W q d l+W q d else arcV D W q d l)
  rw[if_pos ⟨rfl,rfl⟩,if_pos p];exact s
 show Is k e' (if q=q/\l=t then u else X q l) (if D.ato q d=(l:Int) then arcV D W q d l+W q d else arcV D W q d l)
 rw[if_neg (fun h=>g h.2),if_neg (by rw[p];omega)];exact((h q l j m).2 rfl).mono o
theorem MatTo.row {k:KK} {e:Nat} {D:MD} {W:Nat->Nat->RK k} {i:Nat} {X:Nat->Nat->ByteArray} (h:MatTo e D W i (D.na i) X):∀ q l,q<D.n->l<D.n->q<i+1->Is k e (X q l) (arcM D W q l):=fun q l c d j=>by
 by_cases g:q<i
 ·exact(h q l c d).1 g
 have:q=i:=by omega
 subst this;exact(h q l c d).2 rfl
def PathE (D:MD) (w:World) (r:Ending) (w':World):Prop:=Below w.heap.size w w' /\
 (
  (¬ VM D/\r=.returned (.tuple #[.pointer none,.slice none 0 0,.int .i64 1])) \/
  (VM D/\60<D.n/\r=.returned (.tuple #[.pointer none,.slice none 0 0,.int .i64 2])) \/
  (VM D/\D.n<=60/\∃ (k:KK) (W:Nat->Nat->RK k) (sb e:Nat) (v:Value) (Y:Nat->Nat->ByteArray),k.1=D.kind/\WtIs D W/\r=.returned (.tuple #[.pointer (some ⟨sb,0,none⟩),v,.int .i64 (e:Int)]) /\
    Mt (some sb) w' v D.n (fun _=>D.n) Y/\MatIs e D.n Y (CSR.starM (arcM D W) D.n)/\Er (FitP D W) e/\SumB w' sb k.1 e/\w.heap.size<=sb))
def QW (w:World) (k:Int) (n:Nat):World:=(w.alloc (.cells #[.int .i64 k,.int .i64 0] 149)).alloc (.cells (madeCells #[.slice none 0 0] n) 79)
theorem u6y (w:World) (k:Int) (n:Nat) (X:Nat->Nat->ByteArray):OM (QW w k n) (fun _=>False) (w.heap.size+1) 9 79 (w.heap.size+1) n (fun _=>.slice none 0 0) (fun l=>if l<0 then n else 0) X:=by
 have h:=OM.made (w.alloc (.cells #[.int .i64 k,.int .i64 0] 149)) (fun _=>False) (by simp) (w.heap.size+1) (by simp) 9 79 n X;rw[show (w.alloc (.cells #[.int .i64 k,.int .i64 0] 149)).heap.size=w.heap.size+1 by simp] at h;exact h.congrL fun _ _=>by simp
theorem y8w (w:World) (k:Int) (n:Nat):Below w.heap.size w (QW w k n):=(blr.alloc nlr _).alloc (by simp) _
theorem u3v (w:World) (k:Int) (n:Nat):SumB (QW w k n) w.heap.size k 0:=by
 have h:SumB (w.alloc (.cells #[.int .i64 k,.int .i64 0] 149)) w.heap.size k 0:=heap_alloc_new w _;exact h.kept (blr.alloc nlr _)
theorem u0z (w:World) (k:Int) (n:Nat):(QW w k n).heap.size=w.heap.size+2:=by unfold QW;simp
theorem OwS.low {w:World} {B j:Nat} {e:TypeId} {v:Value} {n:Nat} {X:Nat->ByteArray} (h:OwS w B e v n X) (l:j<=B):OwS w j e v n X:=by
 refine⟨h.1,?_⟩
 rcases h.2 with k|⟨g,i,d,rfl,m,c⟩
 ·exact .inl k
 exact .inr ⟨g,i,d,rfl,by omega,c⟩
theorem v6x {wr c m:World} {g n q:Nat} {R:Nat->Value} {X:Nat->Nat->ByteArray} {x:ByteArray} (h:OM wr (fun _=>False) g 9 79 g n R (fun l=>if l<q then n else 0) X) (z:q<n) (d:∀ l,q<=l->R l=.slice none 0 0)
  (s:wr.grownBy c none) (i:OwS m c.heap.size 9 (.slice (some ⟨c.heap.size,0,none⟩) n n) n (fun _=>x)) (hb:Below c.heap.size c m) :
  OM (m.setCell ⟨g,q,none⟩ (.slice (some ⟨c.heap.size,0,none⟩) n n)) (fun _=>False) g 9 79 g n (fun l=>if l=q then .slice (some ⟨c.heap.size,0,none⟩) n n else R l) (fun l=>if l<q+1 then n else 0) (fun l j=>if l=q then x else X l j) /\
  ∀ l,q+1<=l->(if l=q then Value.slice (some ⟨c.heap.size,0,none⟩) n n else R l)=.slice none 0 0:=by
 have e:=d q nlr;have k:g<=c.heap.size:=by have:=h.lt;have:=s.size;omega
 have u:=h.appended z s (i.low k) (by rw[e];exact z0b hb _) (.inr rfl);refine⟨(u.congrL fun l o=>?_).congr fun l j o B=>?_,fun l o=>?_⟩
 ·by_cases e:l=q
  ·rw[if_pos e,if_pos (by omega)]
  rw[if_neg e];by_cases p:l<q
  ·rw[if_pos p,if_pos (by omega)]
  rw[if_neg p,if_neg (by omega)]
 ·by_cases e:l=q
  ·rw[if_pos e,if_pos e]
  rw[if_neg e,if_neg e]
 rw[if_neg (by omega)];exact d l (by omega)
theorem keep2 {W c:World} {z:Option Nat} {a b:Addr} {u v:Value} (d:W.grownBy c z) (g:W.cell? a=some u) (hb:W.cell? b=some v) (na:some a.block≠z) (nb:some b.block≠z) :
  c.cell? a=some u/\c.cell? b=some v:=⟨d.cell g na,d.cell hb nb⟩
theorem keep2s {c:World} {o:Addr} {q:Value} {a b:Addr} {u v:Value} (d:c.cell? a=some u/\c.cell? b=some v) (na:o.block≠a.block) (nb:o.block≠b.block) :
  (c.setCell o q).cell? a=some u/\(c.setCell o q).cell? b=some v:=by
 refine⟨?_,?_⟩
 ·rw[World.cell?_setCell_other _ _ _ _ (fun e=>na (by rw[e]))];exact d.1
 rw[World.cell?_setCell_other _ _ _ _ (fun e=>nb (by rw[e]))];exact d.2
theorem v3z {D:MD} {v:Value} (w:World) (hM:Ma none w v D) (hs:MSz D) (ht:Tab w):Calls prog 130 #[v] w (PathE D w):=by
 have m9:=hM;obtain⟨sv,rfl,hS⟩:=hM;have i9:=hS;obtain⟨a,Q,b,b0,A,C,BB,O,rfl,ha,hc,hm,hb,f8⟩:=hS.open;unfold maxLen at hm;clear hS;have g2:=BoxM.new w D (.slice a D.n Q);have b3:Below w.heap.size w (w.alloc (.cells #[.int .i64 D.kind,.int .i64 D.start,.string D.lead,.slice a D.n Q] 24)):=blr.alloc nlr _;have i3:Ma none (w.alloc (.cells #[.int .i64 D.kind,.int .i64 D.start,.string D.lead,.slice a D.n Q] 24)) (.agg #[.int .i64 D.kind,.int .i64 D.start,.string D.lead,.slice a D.n Q]) D:=⟨_,rfl,i9.kept (World.grownBy_alloc _ _ _)⟩;have l7:=z1v _ i3 hs (ht.below b3 nlr);clear i3 i9 m9;have v3:=hs.n;have q8:=qh hs;clear hs;have HT:=qh ht;clear ht;have HA:=qh ha;clear ha;have HB:=qh hb;clear hb;have HR:=qh f8;clear f8;have U:=qh g2;clear g2;have h3:=qh b3;clear b3;have m4:=qh l7;clear l7
 go_enter func130,ntmps130
 go_wp2_with fail
 refine m4.out.mono ?_;rintro r w1 ⟨g8,hv⟩;have c9:=U.out.kept (z0b g8 none) (by simp);have e4:=h3.out.trans (g8.mono h3.out.size);clear g8 m4;obtain⟨mb,d1⟩:=exq (w.heap.size);rw[<- d1] at c9;rw[<- d1];have uu0:w.heap.size<=mb:=by rw[d1];exact nlr
 clear d1 U h3;have J:=qh c9;clear c9;have N:=qh e4;clear e4
 rcases hv with ⟨d3,rfl⟩|⟨d3,rfl⟩
 ·have b1:=qh d3;clear d3;have m3:=J.out.c3;have m0:=J.out.c0;by_cases o9:60<D.n
  ·have h6:(60:Int)<(D.n:Int):=by omega
   go_wp2_with fail
   go_ret3
   exact⟨N.out,.inr (.inl ⟨b1.out,o9,rfl⟩)⟩
  have h6:decide ((60:Int)<(D.n:Int))=false:=by simp;omega
  have o2:=run_make_row' (P:=prog) 75 79 (.slice none 0 0) 24 underlying75 y0d rfl .i64 .i64 D.n (by omega) (by omega);have mA:=fun o=>(BoxM.c3 (J.out.kept (World.grownBy_alloc w1 o none) (by simp)));have n9:=fun o o'=>(BoxM.c3 ((J.out.kept (World.grownBy_alloc w1 o none) (by simp)).kept (World.grownBy_alloc _ o' none) (by simp)));obtain⟨k,hk⟩:=b1.out.kkP;obtain⟨W,hW⟩:=b1.out.wts hk;have HW:=qh hW;clear hW
  go_wp2_with fail
  change Code.wp _ _ _ _ (QW w1 D.kind D.n);clear o2 mA n9 m3 m0;have d2:=qh (u6y w1 D.kind D.n (fun _ _=>⟨#[]⟩));have o5:=qh (y8w w1 D.kind D.n);have d0:=qh (u3v w1 D.kind D.n);have h9:=u0z w1 D.kind D.n;have e9:=J.out.kept (z0b (y8w w1 D.kind D.n) none) (by simp);have e8:=N.out.trans ((y8w w1 D.kind D.n).mono N.out.size);have l0:=J.out.lt;generalize QW w1 D.kind D.n=wp at *;obtain⟨T,b9⟩:=exq (w1.heap.size);obtain⟨g,hg⟩:=exq (w1.heap.size+1);have a5:w.heap.size<=T:=by rw[b9];exact N.out.size
  have o7:T<g:=by omega
  have uu8:mb<T:=by omega
  rw[<- hg] at d2;rw[<- b9] at d0;rw[<- hg,<- b9];have uu5:=d2.out.lt;have uu9:=qh hg;clear hg;have s9:=qh b9;clear b9 h9 l0;have f4:=qh e9;clear e9 J;have g3:=qh e8;clear e8 N o5;rw[<- hk] at d0;have i7:=qh hk;clear hk
  go_loopw [28] (fun i wr=>∃ (q e:Nat) (X:Nat->Nat->ByteArray) (R:Nat->Value),q<=D.n/\i=.int .i64 (q:Int)/\OM wr (fun _=>False) g 9 79 g D.n R (fun l=>if l<q then D.n else 0) X/\(∀ l,q<=l->R l=.slice none 0 0) /\
   (∀ p l,p<D.n->l<D.n->p<q->Is k e (X p l) (arcM D W p l))/\Er (FitP D W) e/\SumB wr T k.1 e/\BoxM wr mb D (.slice a D.n Q)/\Below w.heap.size w wr) (fun i _=>D.n-(intOf i).toNat)
  case atStart=>exact⟨0,0,_,_,Nat.zero_le _,rfl,d2.out,fun _ _=>rfl,fun _ _ _ _ h=>by omega,⟨.inl rfl,fun _=>rfl⟩,d0.out,f4.out,g3.out⟩
  obtain⟨q,e,X,R,hq,rfl,c8,f5,hX,hE,hS,b7,b2⟩:=hrel;clear d2 d0 f4 g3;have H:=qh c8;clear c8;have d4:=qh f5;clear f5;have d6:=qh hX;clear hX;have HE:=qh hE;clear hE;have HS:=qh hS;clear hS;have U:=qh b7;clear b7;have c:=qh b2;clear b2;by_cases L:q<D.n
  ·have h9:(q:Int)<(D.n:Int):=by omega
   have s5:(0:Int)<=(q:Int):=by omega
   obtain rfl:=HA.out (by omega);have l3:=(HB.out (by omega)).1;obtain⟨k1,k2,k3,k4,k5,k6,k7⟩:=HR.out q L;generalize A q=aq at k2 k5;have c0:=(c.out.cell (p:=⟨b,b0+q*2,none⟩) l3).trans k1;have c1:=(c.out.cell (p:=⟨b,b0+q*2+1,none⟩) l3).trans k2;unfold maxLen at k4;clear k1 k2;have n7:=qh k7;clear k7;have r8:=qh k5;clear k5;have p0:=qh k6;clear k6;have uu7:=q8.out.na q;have l8:=H.out.lt;obtain⟨I,E⟩:=exq (wr.alloc (.cells #[.string (D.fin q),.slice aq (D.na q) (C q)] 57));obtain⟨xb,a9⟩:=exq (wr.heap.size);have x1:I.cell? ⟨xb,1,none⟩=some (.slice aq (D.na q) (C q)):=by rw[E,a9];exact z2s wr _ _ 1 _ rfl
   have s:wr.grownBy I none:=by rw[E];exact World.grownBy_alloc _ _ _
   have uu2:xb<I.heap.size:=by rw[E,a9];simp
   have a7:=U.out.kept s (by simp);have m3:=a7.c3;have m0:=a7.c0;have g1:Below w.heap.size w I:=by rw[E];exact c.out.alloc c.out.size _
   have l6:=fun wx=>z2u D.kind wx;have r7:=qh l6;clear l6;have f9:=qh a7;clear a7;have b8:=qh g1;clear g1;have B:=qh s;clear s;have s6:g<xb:=by rw[a9];exact l8
   have oA:I.cell? ⟨g,q,none⟩=some (.slice none 0 0):=by
    have:=H.out.cell L;rw[d4.out q nlr] at this;exact B.out.cell this (by simp)
   have fA:I.frozen? ⟨g,q,none⟩=false:=(B.out.frozen_far ⟨g,q,none⟩ l8 (by simp)).trans (H.out.frozen q);have j5:g<I.heap.size:=by omega
   have h4:=qh (fun wk (hg:World.grownBy I wk none)=>keep2 hg m3 m0 (by simp) (by simp));have g0:=qh (fun wk u (hg:World.grownBy I wk none)=>keep2s (o:=⟨g,q,none⟩) (q:=u) (h4.out wk hg) (by show g≠mb;omega) (by show g≠mb;omega));have d8:=z6i I none;have m7:=qh E;have uu1:=qh a9
   go_wp2_with fail
   rw[<- a9,<- E];clear E a9
   go_region_held2 (fun wk=>wk.cell? ⟨mb,3,none⟩=some (.slice (some ⟨b,b0,none⟩) D.n Q)/\wk.cell? ⟨mb,0,none⟩=some (.int .i64 D.kind))
    (first|exact h4.out _ (by assumption)|exact g0.out _ _ (by assumption))
    (first
    | (go_at_call 122;refine(r7.out _).mono ?_;rintro r w3 ⟨rfl,r6⟩;have g9:=z1g d8 (z0b r6 none))
    | (go_at_call 131;refine(y6p D.n (z0z D.kind) _ (by omega)).mono ?_;rintro r w4 ⟨rfl,m2,h0⟩;have a4:=z1g g9 (z0b h0 none);have oB:=a4.cell oA (by simp);have fB:=(a4.frozen_far ⟨g,q,none⟩ j5 (by simp)).trans fA))
   rename_i hH;clear hH;obtain⟨h1,h2⟩:=v6x H.out L d4.out (z1g B.out g9) m2 h0;obtain⟨v4,d9⟩:=exq (Value.slice (some ⟨w3.heap.size,0,none⟩) D.n D.n);rw[<- d9] at h1 h2;rw[<- d9];have j8:=z1g B.out a4;have m5:SumB (w4.setCell ⟨g,q,none⟩ v4) T k.1 e:=by
    have h:=HS.out.kept (y1g j8);unfold SumB at *;rw[blk_setCell_other _ _ _ _ (by show T≠g;omega)];exact h
   have f7:BoxM (w4.setCell ⟨g,q,none⟩ v4) mb D (.slice (some ⟨b,b0,none⟩) D.n Q):=by
    have h:=f9.out.kept a4 (by simp);unfold BoxM at *;rw[blk_setCell_other _ _ _ _ (by show mb≠g;omega)];exact h
   have e3:Below w.heap.size w (w4.setCell ⟨g,q,none⟩ v4):=(b8.out.trans ((y1g a4).mono b8.out.size)).setCell (by show w.heap.size<=g;omega) _;have x5:(w4.setCell ⟨g,q,none⟩ v4).cell? ⟨xb,1,none⟩=some (.slice aq (D.na q) (C q)):=by
    rw[World.cell?_setCell_other _ _ _ _ (fun e=>by have:=congrArg Addr.block e;simp at this;omega)];exact a4.cell x1 (by simp)
   have i6:MatTo e D W q 0 (fun l j=>if l=q then z0z D.kind else X l j):=fun p l hp hl=>⟨fun b4=>by
     simp only[if_neg (show ¬ p=q by omega)];exact d6.out p l hp hl b4,fun b4=>by
     subst b4;simp only[if_true];rw[<- i7.out];exact Is.zero k e⟩
   generalize (w4.setCell ⟨g,q,none⟩ v4)=w5 at *;have t7:=qh d9;clear d9;clear m3 m0 x1 oA fA oB fB g9 a4 m2 h0 j8 d8 h4 g0;have g4:=qh h1;clear h1 H;have h5:=qh h2;clear h2 d4;have l1:=qh m5;clear m5 HS;have e5:=qh f7;clear f7 U f9;have e7:=qh e3;clear e3 c b8;have l9:=qh i6;clear i6 d6
   go_wp2_with fail
   clear x5
   go_loopw [46] (fun i wr=>∃ (d e':Nat) (Y:Nat->Nat->ByteArray),d<=D.na q/\i=.int .i64 (d:Int)/\OM wr (fun _=>False) g 9 79 g D.n (fun l=>if l=q then v4 else R l) (fun l=>if l<q+1 then D.n else 0) Y /\
    MatTo e' D W q d Y/\Er (FitP D W) e'/\SumB wr T k.1 e'/\BoxM wr mb D (.slice (some ⟨b,b0,none⟩) D.n Q)/\Below w.heap.size w wr) (fun i _=>D.na q-(intOf i).toNat)
   case atStart=>exact⟨0,e,_,Nat.zero_le _,rfl,g4.out,l9.out,HE.out,l1.out,e5.out,e7.out⟩
   obtain⟨d,e',Y,hd,rfl,c8,b5,hE,hS,b7,b2⟩:=hrel;clear g4 l9 l1 e5 e7 HE;have H:=qh c8;clear c8;have b6:=qh b5;clear b5;have HE:=qh hE;clear hE;have HS:=qh hS;clear hS;have U:=qh b7;clear b7;have c:=qh b2;clear b2;by_cases a8:d<D.na q
   ·have t8:(d:Int)<(D.na q:Int):=by omega
    have s3:(0:Int)<=(d:Int):=by omega
    obtain rfl:=r8.out (by omega);have d5:=(p0.out (by omega)).1;obtain⟨j0,j1,j2,j3⟩:=n7.out d a8;have f0:=(c.out.cell (p:=⟨BB q,O q+d*4,none⟩) d5).trans j0;have f1:=(c.out.cell (p:=⟨BB q,O q+d*4+1,none⟩) d5).trans j1;have f2:=(c.out.cell (p:=⟨BB q,O q+d*4+2,none⟩) d5).trans j2;have f3:=(c.out.cell (p:=⟨BB q,O q+d*4+3,none⟩) d5).trans j3;clear j0 j1 j2 j3;have g5:=b1.out.arc q d L a8;obtain⟨G,g6⟩:∃ G:Nat,D.ato q d=(G:Int):=⟨(D.ato q d).toNat,by have:=g5.t0;omega⟩;have a6:G<D.n:=by have:=g5.t1;omega
    have uu4:(G:Int)<(D.n:Int):=by omega
    have s4:(0:Int)<=(G:Int):=by omega
    rw[g6] at f3;have i2:=qh g6;clear g6 g5;obtain⟨S,cr,i8,uu3,j6,t9,_,l2,p6,j7,k0⟩:=H.out.form L (by show 0<(if q<q+1 then D.n else 0);rw[if_pos (by omega)];omega)
    have e0:(if q=q then v4 else R q)=Value.slice (some ⟨S,0,none⟩) (if q<q+1 then D.n else 0) cr:=i8
    have h7:(if q<q+1 then D.n else 0)<=cr:=l2
    have c7:∀ j,j<(if q<q+1 then D.n else 0)->wr.cell? ⟨S,j,none⟩=some (.string (Y q j)):=k0
    rw[if_pos rfl,if_pos (by omega)] at e0;rw[if_pos (by omega)] at h7 c7;have r0:wr.cell? ⟨g,q,none⟩=some (if q=q then v4 else R q):=H.out.cell L
    rw[if_pos rfl,e0] at r0;have o8:=qh e0;unfold maxLen at p6;have r1:=c7 G a6;have rf:=j7 G;clear k0 j7 i8 e0 l2 c7;obtain⟨I,E⟩:=exq (wr.alloc (.cells #[.int .i64 (D.ain q d),.int .i64 (D.aout q d),.string (D.aw q d),.int .i64 (G:Int)] 59));obtain⟨ab,a1⟩:=exq (wr.heap.size);have a2:I.cell? ⟨ab,2,none⟩=some (.string (D.aw q d)):=by rw[E,a1];exact z2s wr _ _ 2 _ rfl
    have a3:I.cell? ⟨ab,3,none⟩=some (.int .i64 (G:Int)):=by rw[E,a1];exact z2s wr _ _ 3 _ rfl
    have s:wr.grownBy I none:=by rw[E];exact World.grownBy_alloc _ _ _
    have s0:=s.cell r0 (by simp);have s1:=s.cell r1 (by simp);have sf:=(s.frozen_far ⟨S,G,none⟩ j6 (by simp)).trans rf;have s7:ab<I.heap.size:=by rw[E,a1];simp
    have i5:SumB I T k.1 e':=HS.out.kept (y1g s);have j4:S<I.heap.size:=Nat.lt_of_lt_of_le j6 s.size;have r9:T<ab:=by rw[a1];exact HS.out.lt
    have m:S4 ⟨g,q,none⟩ ⟨ab,3,none⟩ ⟨ab,2,none⟩ ⟨S,G,none⟩ (.slice (some ⟨S,0,none⟩) D.n cr) (.int .i64 (G:Int)) (.string (D.aw q d)) (.string (Y q G)) I.drew:=⟨s0,a3,a2,s1⟩;have d8:=z6i I (some T);have B:=qh s;clear s r0 r1 rf;have p8:=qh i5;clear i5
    go_wp2_with fail
    rw[<- a1,<- E];have m7:=qh E;clear E;have s8:=qh a1;clear a1;clear f0 f1 f2 f3;refine z0h (S4 ⟨g,q,none⟩ ⟨ab,3,none⟩ ⟨ab,2,none⟩ ⟨S,G,none⟩ (.slice (some ⟨S,0,none⟩) D.n cr) (.int .i64 (G:Int)) (.string (D.aw q d)) (.string (Y q G))) 19 (by kernel_rfl) ?_;refine z0c.tm 0 m ?_;refine z0c.tm 1 m ?_;refine z0c.tm 2 m ?_;refine z0c.tm 3 m ?_;refine z0c.tm 4 m ?_;refine z0c.tm 5 m ?_;refine z0c.tm 6 m ?_;refine z0c.tm 7 m ?_;refine z0c.tm 8 m ?_;refine z0c.tm 9 m ?_;refine z0c.tm 10 m ?_;refine z0c.tm 11 m ?_;refine z0c.tm 12 m ?_;refine z0c.tm 13 m ?_;refine z0c.tm 14 m ?_;refine z0c.tm 15 m ?_;refine z0c.tm 16 m ?_
    try simp only[Act.put,tryL]
    refine z0c.on 17 fun K hK=>?_;go_simp;have d7:TabB w.heap.size I:=(TabB.of HT.out).kept (z:=none) (z1g (z0b c.out _) B.out) (by simp) nlr;refine(y3c (((b6.out q G L a6).2 rfl)) ((HW.out.2 q d L a8).mono (fun _=>rfl)) HE.out (fun f=>f.arcs q d G L a8 a6 i2.out) d7.drew.tab p8.out.drew).mono ?_;rintro r w6 ⟨uu6,e6,rfl,r4,o3,r5,p9,r2⟩;have Z:=z1g d8 r2;have h8:some S≠some T:=by simp;omega
    have v0:=(Z.frozen_far ⟨S,G,none⟩ j4 h8).trans sf;have r3:=Z.cell s1 h8;have l4:S4 ⟨g,q,none⟩ ⟨ab,3,none⟩ ⟨ab,2,none⟩ ⟨S,G,none⟩ (.slice (some ⟨S,0,none⟩) D.n cr) (.int .i64 (G:Int)) (.string (D.aw q d)) (.string (Y q G)) w6:=⟨Z.cell s0 (by simp;omega),Z.cell a3 (by simp;omega),Z.cell a2 (by simp;omega),r3⟩;refine hK.out _ _ (.inr l4) ?_;clear hK K
    try simp only[Act.put,tryL]
    refine z0c.tm 18 l4 ?_
    try simp only[Act.put,tryL]
    refine z0c.on 19 fun K hK=>?_;go_simp;refine hK.out _ _ (.inl rfl) (z0c.dn ?_);clear hK K;go_wp2;go_roundw
    case rel =>
     have k9:=((H.out.kept B.out (by simp)).kept Z (by intro j hj;cases hj;omega)).stored L (by show G<(if q<q+1 then D.n else 0);rw[if_pos (by omega)];exact a6) (show (if q=q then v4 else R q)=Value.slice (some ⟨S,0,none⟩) (if q<q+1 then D.n else 0) cr by rw[if_pos rfl,if_pos (by omega)];exact o8.out) uu6
     have q7:SumB (w6.setCell ⟨S,G,none⟩ (.string uu6)) T k.1 e6:=by
      unfold SumB at *;rw[blk_setCell_other _ _ _ _ (by show T≠S;omega)];exact p9
     have i4:BoxM (w6.setCell ⟨S,G,none⟩ (.string uu6)) mb D (.slice (some ⟨b,b0,none⟩) D.n Q):=by
      have h:=(U.out.kept B.out (by simp)).kept Z (by simp;omega);unfold BoxM at *;rw[blk_setCell_other _ _ _ _ (by show mb≠S;omega)];exact h
     exact⟨d+1,e6,_,by omega,by go_num,k9,b6.out.next r5 i2.out r4,o3,q7,i4,
      ((c.out.grown B.out c.out.size (by simp)).grown Z (by have:=c.out.size;have:=B.out.size;omega) (by intro j hj;cases hj;exact a5)).setCell (by show w.heap.size<=S;omega) _⟩
    simp[intOf];omega
   have o6:d=D.na q:=by omega
   subst o6;have p7:¬ ((D.na q:Int)<(D.na q:Int)):=by omega
   go_wp2;go_roundw
   case rel =>
    exact⟨q+1,e',Y,_,by omega,by go_num,H.out,h5.out,fun p l hp hl b4=>b6.out.row p l hp hl b4,HE.out,HS.out,U.out,c.out⟩
   simp[intOf];omega
  have n6:q=D.n:=by omega
  have p7:¬ ((q:Int)<(D.n:Int)):=by omega
  have b5:Mt (some T) wr (.slice (some ⟨g,0,none⟩) D.n D.n) D.n (fun _=>D.n) X:=(H.out.congrL (L':=fun _=>D.n) (fun l hl=>by rw[if_pos (by omega)])).mt (by unfold maxLen;omega) (by intro j hj;cases hj;exact .inl o7);have hX:MatIs e D.n X (arcM D W):=fun p l hp hl=>d6.out p l hp hl (by omega);have d7:TabB w.heap.size wr:=(TabB.of HT.out).kept (z:=none) (z0b c.out none) (by simp) nlr;clear n6 H d4 d6;have b6:=qh b5;clear b5;have HX:=qh hX;clear hX;have n5:=qh d7;clear d7
  go_wp2_with fail
  refine(y5w (F:=FitP D W) (by omega) b6.out HX.out HS.out HE.out (fun f=>f.pow) n5.out a5).mono ?_;rintro r w2 ⟨v2,e2,Y,rfl,hY,o4,q9,_,g7,j9⟩;have e1:=g7.c1;have l5:Below w.heap.size w w2:=c.out.grown j9 c.out.size (fun j hj=>by cases hj;exact a5);have m8:=qh l5;clear l5;have n3:=qh g7;clear g7;have HY:=qh hY;clear hY;clear j9
  go_wp2_with fail
  go_quiet (fail)
  go_wp2
  go_ret3
  exact⟨below_drewN m8.out nq,.inr (.inr ⟨b1.out,by omega,k,W,T,e2,v2,Y,i7.out,HW.out,rfl,HY.out.kept (v4f (x2i _ _) nq),o4,q9,n3.out.kept (below_drewN blr nq),a5⟩)⟩
 go_wp2_with fail
 go_ret3
 exact⟨N.out,.inl ⟨d3,rfl⟩⟩
end
section
open Go.RowKit Go.Deep
theorem Gr.cell {B:Nat} {z:Option Nat} {w c:World} (h:Gr B z w c) {a:Addr} {v:Value} (g:w.cell? a=some v) (hb:a.block<B) (d:some a.block≠z):c.cell? a=some v :=
 (World.cell?_of_block (w:=w) (h.block a.block hb d)).trans g
def FinIs {k:KK} (D:MD) (V:Nat->RK k):Prop:=(V=fun p=>wval k (D.fin p))/\∀ p,p<D.n->D.fin p≠⟨#[]⟩->Is k 0 (D.fin p) (V p)
theorem VM.fins {D:MD} (h:VM D) {k:KK} (d:k.1=D.kind):∃ V:Nat->RK k,FinIs D V :=
 ⟨_,rfl,fun p c hf=>y3w (by rw[d];exact y0j ((h.fin p c).resolve_left hf))⟩
def toV {k:KK} (D:MD) (S:Nat->Nat->RK k) (V:Nat->RK k) (i:Nat):Nat->RK k
 | 0=>CSR.zero
 | p+1=>if D.fin p=⟨#[]⟩ then toV D S V i p else toV D S V i p+S i p*V p
structure FitT {k:KK} (D:MD) (W:Nat->Nat->RK k) (V:Nat->RK k):Prop where
 path:FitP D W
 prod:∀ i p,i<D.n->p<D.n->D.fin p≠⟨#[]⟩->fitV (CSR.starM (arcM D W) D.n i p*V p).1
 sum:∀ i p,i<D.n->p<D.n->D.fin p≠⟨#[]⟩->fitV (toV D (CSR.starM (arcM D W) D.n) V i p+CSR.starM (arcM D W) D.n i p*V p).1
def ToTo {k:KK} (e:Nat) (D:MD) (S:Nat->Nat->RK k) (V:Nat->RK k) (q p:Nat) (Z:Nat->ByteArray):Prop :=
 ∀ l,l<D.n->(l<q->Is k e (Z l) (toV D S V l D.n))/\(l=q->Is k e (Z l) (toV D S V l p))/\(q<l->Z l=z0z k.1)
theorem ToTo.next {k:KK} {e e':Nat} {D:MD} {S:Nat->Nat->RK k} {V:Nat->RK k} {q p:Nat} {Z:Nat->ByteArray} {u:ByteArray} (h:ToTo e D S V q p Z) (g:e'=0->e=0) (hf:D.fin p≠⟨#[]⟩) (i:Is k e' u (toV D S V q p+S q p*V p)) :
  ToTo e' D S V q (p+1) (fun l=>if l=q then u else Z l):=fun l d=>by
 refine⟨fun c=>?_,fun c=>?_,fun c=>?_⟩
 ·simp only[if_neg (show ¬ l=q by omega)];exact((h l d).1 c).mono g
 ·subst c;show Is k e' (if l=l then u else Z l) (if D.fin p=⟨#[]⟩ then toV D S V l p else toV D S V l p+S l p*V p)
  rw[if_pos rfl,if_neg hf];exact i
 simp only[if_neg (show ¬ l=q by omega)];exact(h l d).2.2 c
theorem ToTo.skip {k:KK} {e:Nat} {D:MD} {S:Nat->Nat->RK k} {V:Nat->RK k} {q p:Nat} {Z:Nat->ByteArray} (h:ToTo e D S V q p Z) (hf:D.fin p=⟨#[]⟩):ToTo e D S V q (p+1) Z:=fun l c=>by
 refine⟨(h l c).1,fun d=>?_,(h l c).2.2⟩;show Is k e (Z l) (if D.fin p=⟨#[]⟩ then toV D S V l p else toV D S V l p+S l p*V p)
 rw[if_pos hf];exact(h l c).2.1 d
theorem ToTo.row {k:KK} {e:Nat} {D:MD} {S:Nat->Nat->RK k} {V:Nat->RK k} {q:Nat} {Z:Nat->ByteArray} (h:ToTo e D S V q D.n Z):ToTo e D S V (q+1) 0 Z:=fun l c=>by
 refine⟨fun d=>?_,fun d=>?_,fun d=>(h l c).2.2 (by omega)⟩
 ·by_cases g:l<q
  ·exact(h l c).1 g
  have:l=q:=by omega
  exact(h l c).2.1 this
 rw[(h l c).2.2 (by omega)];exact Is.zero k e
def ToE (D:MD) (w:World) (r:Ending) (w':World):Prop:=Below w.heap.size w w' /\
 (
  (¬ VM D/\r=.returned (.tuple #[.slice none 0 0,.int .i64 1])) \/
  (VM D/\60<D.n/\r=.returned (.tuple #[.slice none 0 0,.int .i64 2])) \/
  (VM D/\D.n<=60/\∃ (k:KK) (W:Nat->Nat->RK k) (V:Nat->RK k),k.1=D.kind/\WtIs D W/\FinIs D V /\
   (
    (∃ v Z,r=.returned (.tuple #[v,.int .i64 0])/\Ss none w' v D.n Z/\∀ i,i<D.n->Is k 0 (Z i) (toV D (CSR.starM (arcM D W) D.n) V i D.n)) \/
    (r=.returned (.tuple #[.slice none 0 0,.int .i64 2])/\¬ FitT D W V))))
theorem u4k {D:MD} {v:Value} (w:World) (hM:Ma none w v D) (hs:MSz D) (ht:Tab w):Calls prog 96 #[v] w (ToE D w):=by
 obtain⟨sv,rfl,hS⟩:=hM;have g8:=hS;obtain⟨a,a4,b,e0,A,C,BB,O,rfl,ha,hc,hm,hb,b1⟩:=hS.open;unfold maxLen at hm;clear hS;have b5:=BoxM.new w D (.slice a D.n a4);have a5:Below w.heap.size w (w.alloc (.cells #[.int .i64 D.kind,.int .i64 D.start,.string D.lead,.slice a D.n a4] 24)):=blr.alloc nlr _;have f3:Ma none (w.alloc (.cells #[.int .i64 D.kind,.int .i64 D.start,.string D.lead,.slice a D.n a4] 24)) (.agg #[.int .i64 D.kind,.int .i64 D.start,.string D.lead,.slice a D.n a4]) D:=⟨_,rfl,g8.kept (World.grownBy_alloc _ _ _)⟩;have e8:=v3z _ f3 hs (ht.below a5 nlr);clear f3 g8;have o6:=hs.n;have n3:=qh hs;clear hs;have HT:=qh ht;clear ht;have HA:=qh ha;clear ha;have HB:=qh hb;clear hb;have HR:=qh b1;clear b1;have e9:=qh b5;clear b5;have d4:=qh a5;clear a5;have e4:=qh e8;clear e8
 go_enter func96,ntmps96
 go_wp2_with fail
 refine e4.out.mono ?_;rintro r I ⟨a9,hv⟩;have a8:=e9.out.kept (z0b a9 none) (by simp);have b3:=d4.out.trans (a9.mono d4.out.size);have l5:w.heap.size+1<=I.heap.size:=by have:=a9.size;simp at this;exact this
 have b4:(w.alloc (.cells #[.int .i64 D.kind,.int .i64 D.start,.string D.lead,.slice a D.n a4] 24)).heap.size=w.heap.size+1:=by simp
 rw[b4] at hv;clear a9 e4 b4;obtain⟨mb,L⟩:=exq (w.heap.size);rw[<- L] at a8;rw[<- L];have n6:w.heap.size<=mb:=by rw[L];exact nlr
 have h1:mb<I.heap.size:=by omega
 clear e9 d4;have b6:=qh a8;clear a8;have c:=qh b3;clear b3
 rcases hv with ⟨N,rfl⟩|⟨N,X,rfl⟩|⟨N,X,k,W,B,e,v2,Y,hk,hW,rfl,hY,d7,hE,d0,n5⟩
 ·clear L;go_wp2;go_ret2;exact⟨c.out,.inl ⟨N,rfl⟩⟩
 ·clear L;go_wp2;go_ret2;exact⟨c.out,.inr (.inl ⟨N,X,rfl⟩)⟩
 obtain⟨V,hV⟩:=N.fins hk;have i2:mb≠B:=by omega
 have h5:w.heap.size<=B:=by omega
 have c9:=qh N;clear N;have HW:=qh hW;clear hW;have HV:=qh hV;clear hV;have HK:=qh hk;clear hk;have l6:=qh L;clear L
 rcases hE.1 with rfl|rfl
 ·obtain⟨a2,l4,b2,o2,A2,C2,U,O2,rfl,g9,o5,i3,c8,a1⟩:=hY.open;unfold maxLen at i3;have j2:=qh g9;clear g9;have h4:=qh c8;clear c8;have j3:=qh a1;clear a1 hY;have j4:=qh d7;clear d7;have d9:=qh d0;clear d0;have f9:=fun wx=>z2u D.kind wx;have k9:=qh f9;clear f9;have m0:=b6.out.c0;clear hE
  go_wp2_with fail
  refine(k9.out _).mono ?_;rintro r w3 ⟨rfl,a6⟩;clear m0
  go_wp2_with fail
  refine(y6p D.n (z0z D.kind) w3 (by omega)).mono ?_;rintro r w4 ⟨rfl,G,d2⟩;have b8:Gr I.heap.size (some B) I w4:=Gr.of (z1g (z0b a6 _) (z0b d2 _)) nlr;have g6:=(d9.out.kept a6).kept d2;obtain⟨s,b0⟩:=exq (w3.heap.size);have g7:I.heap.size<=s:=by rw[b0];exact a6.size
  have b9:OwS w4 I.heap.size 9 (.slice (some ⟨s,0,none⟩) D.n D.n) D.n (fun _=>z0z D.kind):=by rw[b0];exact G.low a6.size
  rw[<- b0];have l3:=d9.out.lt;clear b0 G a6 d2 d9;have o:=qh b9;clear b9;have g4:=qh g6;clear g6;have f2:=qh b8;clear b8;have e3:ToTo 0 D (CSR.starM (arcM D W) D.n) V 0 0 (fun _=>z0z D.kind):=fun l hl=>⟨fun h=>by omega,fun h=>by rw[<- HK.out];exact Is.zero k 0,fun _=>by rw[HK.out]⟩;have f7:=qh e3;clear e3
  go_wp2_with fail
  go_loopw [26] (fun i wr=>∃ (q e:Nat) (Z:Nat->ByteArray),q<=D.n/\i=.int .i64 (q:Int)/\OwS wr I.heap.size 9 (.slice (some ⟨s,0,none⟩) D.n D.n) D.n Z/\ToTo e D (CSR.starM (arcM D W) D.n) V q 0 Z/\Er (FitT D W V) e/\SumB wr B k.1 e/\Gr I.heap.size (some B) I wr)
   (fun i _=>D.n-(intOf i).toNat)
  case atStart=>exact⟨0,0,_,Nat.zero_le _,rfl,o.out,f7.out,⟨.inl rfl,fun _=>rfl⟩,g4.out,f2.out⟩
  obtain⟨q,e,Z,hq,rfl,G,T,hE,hS,hG⟩:=hrel;clear o f7 g4 f2;have o:=qh G;clear G;have F:=qh T;clear T;have HE:=qh hE;clear hE;have HS:=qh hS;clear hS;have E:=qh hG;clear hG;by_cases P:q<D.n
  ·have m8:(q:Int)<(D.n:Int):=by omega
   have l8:(0:Int)<=(q:Int):=by omega
   have m3:=E.out.cell b6.out.c3 h1 (by simp;exact i2)
   go_wp2_with fail
   clear m3
   go_loopw [32] (fun i wr=>∃ (p e':Nat) (Z:Nat->ByteArray),p<=D.n/\i=.int .i64 (p:Int)/\OwS wr I.heap.size 9 (.slice (some ⟨s,0,none⟩) D.n D.n) D.n Z/\ToTo e' D (CSR.starM (arcM D W) D.n) V q p Z/\Er (FitT D W V) e'/\SumB wr B k.1 e'/\Gr I.heap.size (some B) I wr)
    (fun i _=>D.n-(intOf i).toNat)
   case atStart=>exact⟨0,e,_,Nat.zero_le _,rfl,o.out,F.out,HE.out,HS.out,E.out⟩
   obtain⟨p,e',Z,hp,rfl,G,T,hE,hS,hG⟩:=hrel;clear o F HE HS E;have o:=qh G;clear G;have F:=qh T;clear T;have HE:=qh hE;clear hE;have HS:=qh hS;clear hS;have E:=qh hG;clear hG;by_cases u:p<D.n
   ·have m5:(p:Int)<(D.n:Int):=by omega
    have l9:(0:Int)<=(p:Int):=by omega
    obtain rfl:=HA.out (by omega);have f4:=(HB.out (by omega)).1;obtain⟨k1,k2,_⟩:=HR.out p u;have c0:=E.out.cell (c.out.cell (p:=⟨b,e0+p*2,none⟩) f4 |>.trans k1) (by show b<I.heap.size;omega) (by simp;omega)
    have c1:=E.out.cell (c.out.cell (p:=⟨b,e0+p*2+1,none⟩) f4 |>.trans k2) (by show b<I.heap.size;omega) (by simp;omega)
    clear k1 k2;have n9:=E.out.size;cases hF:((D.fin p).toList==[])
    ·obtain rfl:=j2.out (by omega);obtain⟨f1,a7⟩:=h4.out (by omega);obtain⟨r1,r2,r3,r4,r5,_,r7⟩:=j3.out q P;have h9:=r4 (by omega);have a3:=r5 (by omega);rw[h9] at r1;have y0:=E.out.cell r1 f1 a7;have y1:=E.out.cell (r7 p u) a3.1 a3.2;have l7:U q<I.heap.size:=a3.1;have e7:U q≠B:=by have:=a3.2;simpa using this
     have h2:b2≠B:=by simpa using a7
     unfold maxLen at r3;have m9:(C2 q:Int)<=9223372036854775807:=by omega
     clear r1 r4 r5 r7 h9 a3 a7;obtain⟨wa,S⟩:=exq (wr.alloc (.cells #[.string (D.fin p),.slice (A p) (D.na p) (C p)] 57));obtain⟨xb,H⟩:=exq (wr.heap.size);have x0:wa.cell? ⟨xb,0,none⟩=some (.string (D.fin p)):=by rw[S,H];exact z2s wr _ _ 0 _ rfl
     have m:wr.grownBy wa none:=by rw[S];exact World.grownBy_alloc _ _ _
     have d8:wr.cell? ⟨s,q,none⟩=some (.string (Z q)):=by
      have:=World.ownsRow.cells o.out (g:=s) rfl q _ (z4t D.n Z q P);rw[Addr.add_lit,Nat.zero_add] at this;exact this
     have d5:s<wr.heap.size:=World.block_lt_of_cell? _ _ d8;have h6:wr.frozen? ⟨s,q,none⟩=false:=by
      rcases o.out.2 with ⟨h,_⟩|⟨g',m2,o3,k0,_,i9,_⟩
      ·cases h
      cases k0;simp[World.frozen?,i9]
     have l0:=m.cell d8 (by simp);have lf:=(m.frozen_far ⟨s,q,none⟩ d5 (by simp)).trans h6;have d6:=m.cell y0 (by simp);have d3:=m.cell y1 (by simp);have g1:SumB wa B k.1 e':=HS.out.kept (y1g m);have h8:TabB w.heap.size wa:=(((TabB.of HT.out).kept (z:=none) (z0b c.out none) (by simp) nlr).gr E.out (by intro j hj;cases hj;exact h5) (by omega)).kept m (by simp) (by omega);have o8:xb<wa.heap.size:=by rw[S,H];simp
     have h3:s<wa.heap.size:=Nat.lt_of_lt_of_le d5 m.size;have o7:B<xb:=by rw[H];exact HS.out.lt
     have m7:s<xb:=by rw[H];exact d5
     have b7:=qh m;clear m d8 h6 y0 y1;have i7:=qh g1;clear g1;have c7:=qh h8;clear h8;have d:S4 ⟨s,q,none⟩ ⟨b2,o2+q,none⟩ ⟨U q,O2 q+p,none⟩ ⟨xb,0,none⟩ (.string (Z q)) (.slice (some ⟨U q,O2 q,none⟩) D.n (C2 q)) (.string (Y q p)) (.string (D.fin p)) wa.drew:=⟨l0,d6,d3,x0⟩;have i5:=z6i wa (some B)
     go_wp2_with fail
     rw[<- H,<- S];have m4:=qh S;clear S;have n7:=qh H;clear H;clear c0 c1;have d1:some s≠some B:=by simp;omega
     have h0:some b2≠some B:=by simp;exact h2
     have g2:some (U q)≠some B:=by simp;exact e7
     have g5:some xb≠some B:=by simp;omega
     have Q:D.fin p≠⟨#[]⟩:=fun h=>by rw[h] at hF;exact absurd hF (by simp)
     refine z0h (S4 ⟨s,q,none⟩ ⟨b2,o2+q,none⟩ ⟨U q,O2 q+p,none⟩ ⟨xb,0,none⟩ (.string (Z q)) (.slice (some ⟨U q,O2 q,none⟩) D.n (C2 q)) (.string (Y q p)) (.string (D.fin p))) 20 (by kernel_rfl) ?_;refine z0c.tm 0 d ?_;refine z0c.tm 1 d ?_;refine z0c.tm 2 d ?_;refine z0c.tm 3 d ?_;refine z0c.tm 4 d ?_;refine z0c.tm 5 d ?_;refine z0c.tm 6 d ?_;refine z0c.tm 7 d ?_;refine z0c.tm 8 d ?_;refine z0c.tm 9 d ?_;refine z0c.tm 10 d ?_;refine z0c.tm 11 d ?_;refine z0c.tm 12 d ?_;refine z0c.tm 13 d ?_;refine z0c.tm 14 d ?_;refine z0c.tm 15 d ?_;refine z0c.tm 16 d ?_
     try simp only[Act.put,tryL]
     refine z0c.on 17 fun K hK=>?_;go_simp;refine(y3h ((j4.out q p P u).mono (fun _=>rfl)) ((HV.out.2 p u Q).mono (fun _=>rfl)) HE.out (fun f=>f.prod q p P u Q) c7.out.drew.tab i7.out.drew).mono ?_;rintro r w5 ⟨uu5,e5,rfl,i4,j1,g3,l1,j5⟩;have R:=z1g i5 j5;have j7:S4 ⟨s,q,none⟩ ⟨b2,o2+q,none⟩ ⟨U q,O2 q+p,none⟩ ⟨xb,0,none⟩ (.string (Z q)) (.slice (some ⟨U q,O2 q,none⟩) D.n (C2 q)) (.string (Y q p)) (.string (D.fin p)) w5:=⟨R.cell l0 d1,R.cell d6 h0,R.cell d3 g2,R.cell x0 g5⟩;refine hK.out _ _ (.inr j7) ?_;clear hK K
     try simp only[Act.put,tryL]
     refine z0c.on 18 fun K hK=>?_;go_simp;refine(y3c ((((F.out q P).2.1 rfl)).mono g3) i4 j1 (fun f=>f.sum q p P u Q) (c7.out.kept R (by intro j hj;cases hj;exact h5) (by omega)).tab l1).mono ?_;rintro r w6 ⟨uu6,e6,rfl,k6,k3,k7,i8,j6⟩;have J:=z1g R j6;have o4:=(J.frozen_far ⟨s,q,none⟩ h3 d1).trans lf;have j8:=J.cell l0 d1;have f5:S4 ⟨s,q,none⟩ ⟨b2,o2+q,none⟩ ⟨U q,O2 q+p,none⟩ ⟨xb,0,none⟩ (.string (Z q)) (.slice (some ⟨U q,O2 q,none⟩) D.n (C2 q)) (.string (Y q p)) (.string (D.fin p)) w6:=⟨j8,J.cell d6 h0,J.cell d3 g2,J.cell x0 g5⟩;refine hK.out _ _ (.inr f5) ?_;clear hK K
     try simp only[Act.put,tryL]
     refine z0c.tm 19 f5 ?_
     try simp only[Act.put,tryL]
     refine z0c.on 20 fun K hK=>?_;go_simp;refine hK.out _ _ (.inl rfl) (z0c.dn ?_);clear hK K;go_wp2;go_roundw
     case rel =>
      have h7:=((o.out.kept b7.out (by simp)).kept J (by intro j hj;cases hj;exact l3)).set P uu6;have j0:SumB (w6.setCell ⟨s,q,none⟩ (.string uu6)) B k.1 e6:=by
       unfold SumB at *;rw[blk_setCell_other _ _ _ _ (by show B≠s;omega)];exact i8
      exact⟨p+1,e6,_,by omega,by go_num,h7,F.out.next (fun h=>g3 (k7 h)) Q k6,k3,j0,
       ((E.out.more b7.out (by omega) (by simp)).more J (by omega) (fun _ e=>.inl e)).set (.inr g7) _⟩
     simp[intOf];omega
    have g0:D.fin p=⟨#[]⟩:=by rw[beq_iff_eq,Lib.toList_data] at hF;exact ByteArray.ext (Array.toList_inj.1 hF)
    have j9:=qh g0;clear g0;go_wp2;go_roundw
    case rel =>
     exact⟨p+1,e',Z,by omega,by go_num,o.out.kept (World.grownBy_alloc wr _ none) (by simp),F.out.skip j9.out,HE.out,HS.out.kept (y1g (World.grownBy_alloc wr _ none)),E.out.more (World.grownBy_alloc wr _ none) (by omega) (by simp)⟩
    simp[intOf];omega
   have l2:p=D.n:=by omega
   subst l2;have i6:¬ ((D.n:Int)<(D.n:Int)):=by omega
   go_wp2;go_roundw
   case rel=>exact⟨q+1,e',Z,by omega,by go_num,o.out,F.out.row,HE.out,HS.out,E.out⟩
   simp[intOf];omega
  have f8:q=D.n:=by omega
  have i6:¬ ((q:Int)<(D.n:Int)):=by omega
  have k5:=qh f8;clear f8;have e2:Below w.heap.size w wr:=⟨E.out.os.trans c.out.os,E.out.tape.trans c.out.tape,E.out.output.trans c.out.output,Nat.le_trans c.out.size E.out.size,fun j hj=>(E.out.block j (by omega) (by simp;omega)).trans (c.out.block j hj)⟩;have f0:=qh e2;clear e2;have e1:=HS.out.c1
  rcases HE.out.1 with rfl|rfl
  ·go_wp2;go_ret2;refine⟨f0.out,.inr (.inr ⟨c9.out,X,k,W,V,HK.out,HW.out,HV.out,.inl ⟨_,Z,rfl,o.out.ss (by simp),fun i hi=>?_⟩⟩)⟩;exact(F.out i hi).1 (by have:=k5.out;omega)
  go_wp2_with fail
  go_quiet (fail)
  go_wp2;go_ret2;exact⟨below_drewN f0.out nq,.inr (.inr ⟨c9.out,X,k,W,V,HK.out,HW.out,HV.out,.inr ⟨rfl,fun f=>by have:=HE.out.2 f;omega⟩⟩)⟩
 have k4:¬ FitT D W V:=fun f=>by have:=hE.2 f.path;omega
 clear hE hY d7 d0;go_wp2;go_ret2;exact⟨c.out,.inr (.inr ⟨c9.out,X,k,W,V,HK.out,HW.out,HV.out,.inr ⟨rfl,k4⟩⟩)⟩
end
section
open Go.RowKit Go.Deep
theorem VM.leads {D:MD} (h:VM D) {k:KK} (d:k.1=D.kind):∃ L:RK k,Is k 0 D.lead L:=by
 have c:=y0j h.lead;exact Is.of_valid (k:=k) (by rw[d];exact c) (by have:=x4q c;omega) 0
def TotE (D:MD) (w:World) (r:Ending) (w':World):Prop:=Below w.heap.size w w' /\
 (
  (¬ VM D/\r=.returned (.tuple #[.string ⟨#[]⟩,.int .i64 1])) \/
  (VM D/\60<D.n/\r=.returned (.tuple #[.string ⟨#[]⟩,.int .i64 2])) \/
  (VM D/\D.n<=60/\∃ (k:KK) (W:Nat->Nat->RK k) (V:Nat->RK k) (L:RK k) (st:Nat),k.1=D.kind/\WtIs D W/\FinIs D V/\Is k 0 D.lead L/\D.start=(st:Int)/\st<D.n /\
   (
    (∃ q:ByteArray × Nat,q=limV (L*toV D (CSR.starM (arcM D W) D.n) V st D.n).1/\r=.returned (.tuple #[.string q.1,.int .i64 (q.2:Int)])) \/
    (r=.returned (.tuple #[.string ⟨#[]⟩,.int .i64 2])/\¬ FitT D W V))))
theorem x9n {D:MD} {v:Value} (w:World) (hM:Ma none w v D) (hs:MSz D) (ht:Tab w):Calls prog 43 #[v] w (TotE D w):=by
 obtain⟨sv,rfl,hS⟩:=hM;obtain⟨a,u,b,b6,A,C,BB,O,a1,_⟩:=hS.open;subst a1;have F:=BoxM.new w D (.slice a D.n u);have i:Below w.heap.size w (w.alloc (.cells #[.int .i64 D.kind,.int .i64 D.start,.string D.lead,.slice a D.n u] 24)):=blr.alloc nlr _;have X:Ma none (w.alloc (.cells #[.int .i64 D.kind,.int .i64 D.start,.string D.lead,.slice a D.n u] 24)) (.agg #[.int .i64 D.kind,.int .i64 D.start,.string D.lead,.slice a D.n u]) D:=⟨_,rfl,hS.kept (World.grownBy_alloc _ _ _)⟩;have P:=u4k _ X hs (ht.below i nlr);clear X hS hs;have HT:=qh ht;clear ht;have T:=qh F;clear F;have H:=qh i;clear i;have U:=qh P;clear P
 go_enter func43,ntmps43
 go_wp2_with fail
 refine U.out.mono ?_;rintro r Y ⟨G,hv⟩;have o:=T.out.kept (z0b G none) (by simp);have B:=H.out.trans (G.mono H.out.size);clear G U T H;obtain⟨E,K⟩:=exq (w.heap.size);rw[<- K] at o;rw[<- K];clear K;have m:=qh o;clear o;have g:=qh B;clear B
 rcases hv with ⟨d,rfl⟩|⟨d,s,rfl⟩|⟨d,s,k,W,V,S,hW,hV,hv⟩
 ·go_wp2;go_ret2;exact⟨g.out,.inl ⟨d,rfl⟩⟩
 ·go_wp2;go_ret2;exact⟨g.out,.inr (.inl ⟨d,s,rfl⟩)⟩
 obtain⟨L,R⟩:=d.leads S;obtain⟨st,z⟩:∃ st:Nat,D.start=(st:Int):=⟨D.start.toNat,by have:=d.s0;omega⟩;have h:st<D.n:=by have:=d.s1;omega
 rcases hv with ⟨v1,Z,rfl,hZ,J⟩|⟨rfl,a6⟩
 ·obtain⟨a2,b4,b2,o2,rfl,Q,b8,a3,a8,l⟩:=Rd.open hZ;obtain rfl:=Q (by omega);have l0:=l st h;have m0:=m.out.c0;have m1:=m.out.c1;have m2:=m.out.c2;rw[z] at m1;unfold maxLen at a3;have b7:(st:Int)<(D.n:Int):=by omega
  have b5:(0:Int)<=(st:Int):=by omega
  have a5:=z6i Y none;have b3:=qh (fun p (hg:Y.grownBy p none)=>(⟨hg.cell m0 (by simp),hg.cell m1 (by simp),hg.cell m2 (by simp),hg.cell l0 (by simp)⟩ :
   p.cell? ⟨E,0,none⟩=some (.int .i64 D.kind)/\p.cell? ⟨E,1,none⟩=some (.int .i64 (st:Int))/\p.cell? ⟨E,2,none⟩=some (.string D.lead)/\p.cell? ⟨b2,o2+st,none⟩=some (.string (Z st))))
  have I:=z4h D.kind D.lead (Z st) Y.drew (by have:=R.1;omega) (by have:=(J st h).1;omega) ((HT.out.below g.out nlr).below ((Below.refl Y.heap.size Y).drew) nlr);have j:z0g D.kind D.lead (Z st)=limV (L*toV D (CSR.starM (arcM D W) D.n) V st D.n).1:=by rw[<- S];exact x1x R (J st h) rfl
  obtain⟨⟨c,nn⟩,hr⟩:∃ r,r=z0g D.kind D.lead (Z st):=⟨_,rfl⟩;rw[<- hr] at I j;have b0:=qh I;clear I;have N:=qh j;clear j hr;have a4:=qh d;clear d;have HW:=qh hW;clear hW;have HV:=qh hV;clear hV;have HL:=qh R;clear R;have HK:=qh S;clear S;have a9:=qh z;clear z;clear J l hZ Q a8
  go_wp2_with fail
  go_region_held2 (fun p=>p.cell? ⟨E,0,none⟩=some (.int .i64 D.kind)/\p.cell? ⟨E,1,none⟩=some (.int .i64 (st:Int))/\p.cell? ⟨E,2,none⟩=some (.string D.lead)/\p.cell? ⟨b2,o2+st,none⟩=some (.string (Z st)))
   (first|exact b3.out _ (by assumption))
   (first
   | (go_at_call 44;refine b0.out.mono ?_;rintro r w5 ⟨rfl,a7⟩;have b1:=z1g a5 (z0b a7 none)))
  rename_i hH;clear hH;go_wp2;go_ret2;exact⟨g.out.trans ((y1g b1).mono g.out.size),.inr (.inr ⟨a4.out,s,k,W,V,L,st,HK.out,HW.out,HV.out,HL.out,a9.out,h,.inl ⟨(c,nn),N.out,rfl⟩⟩)⟩
 go_wp2;go_ret2;exact⟨g.out,.inr (.inr ⟨d,s,k,W,V,L,st,S,hW,hV,R,z,h,.inr ⟨rfl,a6⟩⟩)⟩
end
section
open Go CSR
theorem v9g {k:Int} {a:ByteArray} (h:z0m k a=true):∃ q,rdV a=some (.fin q)/\wtV k (.fin q):=by
 unfold z0m at h
 split at h
 ·rename_i v c;have h:=of_decide_eq_true h;cases v with
  | fin q=>exact⟨q,c,h⟩
  | inf=>exact h.elim
  | low=>exact h.elim
 cases h
theorem x6m {k:KK} {a:ByteArray} (h:z0m k.1 a=true):Sv k a (wval k a):=(y3w (y0j h)).2 rfl
theorem v1y {k:KK} {p q:Rat} (d:wtV k.1 (.fin p)) (c:wtV k.1 (.fin q)):wtV k.1 (z0i k.1 (.fin p) (.fin q)):=by
 have o:=k.2;have j:∀ r,wtV k.1 (.fin r)->¬ (V.fin r=zeroV k.1):=fun r l e=>by
  unfold zeroV at e
  split at e
  ·cases e
  rename_i i;have:r=0:=by injection e
  subst this
  rcases l with h|⟨_,h⟩
  ·exact i h
  exact absurd h (by decide)
 unfold z0i;rw[if_neg (fun h=>h.elim (j p d) (j q c))];show wtV k.1 (if k.1=1 then V.fin (p+q) else V.fin (p*q))
 split
 ·rename_i g;exact .inl g
 rename_i g;have m:k.1=2\/k.1=3:=by omega
 rcases d with h|⟨_,d⟩
 ·exact absurd h g
 rcases c with h|⟨_,c⟩
 ·exact absurd h g
 exact .inr ⟨m,Rat.mul_pos d c⟩
theorem x9g {k:KK} {a b:ByteArray} (g:z0m k.1 a=true) (hb:z0m k.1 b=true) (h:(z0g k.1 a b).2=0):z0m k.1 (z0g k.1 a b).1=true:=by
 have C:=z7s (x6m g) (x6m hb) h;obtain⟨p,A,o⟩:=v9g g;obtain⟨q,u,B⟩:=v9g hb;have i:∀ {s:ByteArray} {x:RK k} {v:V},Sv k s x->rdV s=some v->x.1=v:=fun {s x v} m l=>by
  have d:(rdV s).filter (fun v=>decide (okV k.1 v))=some x.1:=m.prs;have c:=(Option.filter_eq_some_iff.1 d).1;rw[l] at c;exact(Option.some.inj c).symm
 have D:=i (x6m g) A;have E:=i (x6m hb) u;have z:rdV (z0g k.1 a b).1=some (z0i k.1 (.fin p) (.fin q)):=by
  have d:=C.prs;have c:(wval k a*wval k b).1=z0i k.1 (.fin p) (.fin q):=by
   show z0i k.1 (wval k a).1 (wval k b).1=_;rw[D,E]
  rw[c] at d;have j:(rdV (z0g k.1 a b).1).filter (fun v=>decide (okV k.1 v))=some (z0i k.1 (.fin p) (.fin q)):=d;exact(Option.filter_eq_some_iff.1 j).1
 unfold z0m;rw[z];exact decide_eq_true (v1y o B)
theorem v6i {D E:MD} (d:VM D) (i:MSz D) (l:VM E) (h:MSz E) (p:D.kind=E.kind) (hn:D.n+E.n<=3000) (u:z0f E E.n+(z0f D D.n+D.n)<=30000) (m:(z0g D.kind D.lead E.lead).2=0):VM (catD D.inZ E.outZ (z0g D.kind D.lead E.lead).1):=by
 obtain⟨k,g⟩:=d.kk;have G:=VM.outZ l;obtain⟨C,A,s,z⟩:=x3k d.inZ ({ i with }:MSz D.inZ) G ({ h with }:MSz E.outZ) p.symm (z0g D.kind D.lead E.lead).1;have c:(catD D.inZ E.outZ (z0g D.kind D.lead E.lead).1).n=E.n+D.n:=A;have j:(catD D.inZ E.outZ (z0g D.kind D.lead E.lead).1).start=((E.n:Nat):Int)+D.start:=rfl;have H:=d.n1;have J:=d.s0;have I:=d.s1;have F:z0f D.inZ D.n=z0f D D.n:=z8s D D.n;have B:z0f E.outZ E.n=z0f E E.n:=z8k (fun _ o=>(0,o)) E E.n;refine BOk.vm (by rw[c];exact C) (by rw[s];exact d.kind) (by rw[c];omega) (by rw[c];omega) (by rw[j,c];omega) (by
  rw[s,z];show z0m D.kind _=true;rw[<- g] at m ⊢;exact x9g (by rw[g];exact d.lead) (by rw[g,p];exact l.lead) m) (by
  show z0f E.outZ E.n+(z0f D.inZ D.n+D.n)<=30000;rw[F,B];exact u)
theorem v5g {k:KK} {D E:MD} (i:VM D) (g:VM E) (c:k.1=D.kind) (d:D.kind=E.kind) (h:(z0g D.kind D.lead E.lead).2=0):CatOf (rmOf k D.inZ) (rmOf k E.outZ) (rmOf k (catD D.inZ E.outZ (z0g D.kind D.lead E.lead).1)) E.n 0:=by
 refine u1k i.inZ (VM.outZ g) c ?_;have l:Sv k D.lead (wval k D.lead):=x6m (by rw[c];exact i.lead);have j:Sv k E.lead (wval k E.lead):=x6m (by rw[c,d];exact g.lead);rw[<- c] at h ⊢;exact(z7s l j h).val
theorem x5e {k:KK} (D:MD) (hV:VM D) (i:Nat) (hi:i<D.n) (j:Nat):∀ d,d<=D.na i->arcV D (fun i d=>wval k (D.aw i d)) i d j=sum (fun d=>if (D.ato i d).toNat=j then wval k (D.aw i d) else zero) d
 | 0,_=>rfl
 | d+1,hd=>by
  have ih:=x5e (k:=k) D hV i hi j d (by omega);have h0:=(hV.arc i d hi (by omega)).t0;show (if D.ato i d=(j:Int) then _ else _)=sum _ d+(if (D.ato i d).toNat=j then _ else zero)
  by_cases e:D.ato i d=(j:Int)
  ·rw[if_pos e,if_pos (by omega),ih]
  rw[if_neg e,if_neg (by omega),a0,ih]
theorem x8q {k:KK} (D:MD) (S:Nat->Nat->RK k) (i:Nat):∀ p,toV D S (fun p=>wval k (D.fin p)) i p=sum (fun j=>S i j*(if D.fin j=⟨#[]⟩ then zero else wval k (D.fin j))) p
 | 0=>rfl
 | p+1=>by
  have ih:=x8q D S i p;show (if D.fin p=⟨#[]⟩ then _ else _)=sum _ p+S i p*(if D.fin p=⟨#[]⟩ then zero else _)
  by_cases e:D.fin p=⟨#[]⟩
  ·rw[if_pos e,if_pos e,m0,a0,ih]
  rw[if_neg e,if_neg e,ih]
theorem v3v {k:KK} {E:MD} (c:VM E) {W:Nat->Nat->RK k} {V:Nat->RK k} {L:RK k} {st:Nat} (m:WtIs E W) (l:FinIs E V) (o:Is k 0 E.lead L) (p:E.start=(st:Int)) :
  rel (inZ (rmOf k E.outZ)) [] []=L*toV E (CSR.starM (arcM E W) E.n) V st E.n:=by
 have h:=VM.outZ c;rw[u4h (A:=inZ (rmOf k E.outZ)) (fun _ _=>rfl) (fun _ _=>rfl) (h.inn k) (h.stn k)];obtain⟨rfl,_⟩:=m;obtain⟨rfl,_⟩:=l;have d:E.start.toNat=st:=by omega
 rw[x8q,<- o.val];show wval k E.lead*sum (fun j=>starM _ E.n E.start.toNat j*_) E.n=_;rw[d]
 congr 1
 refine sum_congr fun j g=>?_
 congr 1
 have u:=c.s0;have s:=c.s1;refine starM_congr (fun i j hi g=>?_) st j (by omega) g;exact(x5e E c i hi j (E.na i) nlr).symm
theorem x0c (D E:MD) (lead:ByteArray):(catD D E lead).kind=D.kind:=by
 show (z2f D (some E.start.toNat) (z2f E none { z1e D.kind 0 lead with })).kind=D.kind;unfold z2f;rw[(z7n _ _ _ _ _).1,(z5r _ _ _).1,(z7n _ _ _ _ _).1,(z5r _ _ _).1];rfl
theorem v0q (D E:MD) (lead:ByteArray):(catD D E lead).lead=lead:=by
 show (z2f D (some E.start.toNat) (z2f E none { z1e D.kind 0 lead with })).lead=lead;unfold z2f;rw[(z7n _ _ _ _ _).2.1,(z5r _ _ _).2.1,(z7n _ _ _ _ _).2.1,(z5r _ _ _).2.1];rfl
theorem u1b {z:ByteArray × Nat} {n:Nat} {a:Int} (h:dnOk (tmF z 0) n a):z.2=0:=by
 have c:=h.1;unfold tmF at c;by_cases e:z.2=0
 ·exact e
 rw[if_pos e] at c;omega
theorem Sv.size {k:KK} {s:ByteArray} {x:RK k} (h:Sv k s x):(s.size:Int)<=9223372036854775807:=by
 have d:=y0r h.2;have c:=z6p x.1;rw[d] at c;have g:s=vtxt x.1:=h.1;rw[g];have i:(vtxt x.1).size<=802:=c;omega
theorem u0i {D E:MD} {na:Nat} {x:Nat->Int} {z u t:ByteArray × Nat} (i:VM D) (j:VM E) (g:D.kind=E.kind) (B:(z0g D.kind D.lead E.lead).2=0) (o:VM (catD D.inZ E.outZ (z0g D.kind D.lead E.lead).1))
  (A:Dv (catD D.inZ E.outZ (z0g D.kind D.lead E.lead).1).inR na x z) (O:Dv D na x u) {k:KK} (C:k.1=E.kind) {T:RK k} (I:T=rel (inZ (rmOf k E.outZ)) [] []) (P:t=limV T.1) (H:z.2=0) (G:u.2=0) (s:t.2=0) (l:(z0g D.kind u.1 t.1).2=0):z.1=(z0g D.kind u.1 t.1).1:=by
 have c:k.1=D.kind:=C.trans g.symm;have h:k.1=(catD D.inZ E.outZ (z0g D.kind D.lead E.lead).1).inR.kind:=c.trans (x0c D.inZ E.outZ _).symm;have N:=A H k h;have K:=O G k c;have Q:Sv k t.1 T:=by
  rw[P] at s ⊢;obtain⟨F,J⟩:=v3i s;rw[F];exact⟨rfl,J⟩
 rw[<- c] at l;have m:=z7s K Q l;rw[<- c];have d:=(v5g i j c g B).inZ;have p:=VM.outZ j;have L:=d.rel (fun _ _=>rfl) (fun _ _=>rfl) (i.inZ.inn k) (p.inn k) (o.inn k) (i.inZ.stn k) (p.stn k) (o.stn k) (ls x na 0) [];rw[I,show rel (rmOf k D.inZ) (ls x na 0) []*rel (inZ (rmOf k E.outZ)) [] []=_ from L.symm] at m;exact N.text m
end
end Go.Proofs.YteappjogmnogcaaGreatDoor
