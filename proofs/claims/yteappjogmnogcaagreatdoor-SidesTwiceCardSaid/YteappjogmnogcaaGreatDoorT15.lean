/- Parts of a proof: ExW ArcW LwC SidV L10Twice AM ArgI. -/
import Derived.Test.YteappjogmnogcaaGreatDoorT14
import Derived.Test.YteappjogmnogcaaGreatDoorT06
import Derived.Test.YteappjogmnogcaaGreatDoorT07
import Derived.Test.YteappjogmnogcaaGreatDoorT13
import Derived.Test.YteappjogmnogcaaGreatDoorT10
import Derived.Deep.Slices
import Derived.SliceStrings
import Derived.ChangeSlices
import Derived.Lib.SmallJoins
import Derived.Deep.SlicePairs
import Derived.SizedLaws
namespace Go.Proofs.YteappjogmnogcaaGreatDoor
set_option maxRecDepth 100000
set_option linter.unusedSimpArgs false
set_option linter.unusedVariables false
set_option linter.unusedSectionVars false
set_option maxHeartbeats 16000000
open Go Tryz
section
open Go.RowKit Go.Deep
def Has (W:World) (b:Nat) (k s:Int) (l:ByteArray) (a:Option Addr) (n c:Nat) (D:MD):Prop :=
 W.heap[b]?=some (.cells #[.int .i64 k,.int .i64 s,.string l,.slice a n c] 24 (0,0))/\(k=D.kind/\s=D.start/\l=D.lead)/\∃ R,OwM W 0 (.slice a n c) D R
theorem x4s {w c:World} {sv:Value} {D:MD} {B:Nat} {R:Nat->Value} (h:OwM w B sv D R) (hb:Below w.heap.size w c):OwM c B sv D R :=
 ⟨z2q h.top (z0b hb none) (fun _ _=>by simp),fun i hi=>z2q (h.row i hi) (z0b hb none) (fun _ _=>by simp),h.apart⟩
variable {W W':World} {b rb:Nat} {k s:Int} {l:ByteArray} {a:Option Addr} {n c:Nat} {D:MD}
theorem Has.on (h:Has W b k s l a n c D) (hb:Below W.heap.size W W'):Has W' b k s l a n c D:=⟨(hb.block b (lt_of_block h.1)).trans h.1,h.2.1,by obtain⟨R,d⟩:=h.2.2;exact⟨R,x4s d hb⟩⟩
theorem Has.ma (h:Has W b k s l a n c D):Ma none W (.agg #[.int .i64 k,.int .i64 s,.string l,.slice a n c]) D:=by
 obtain⟨_,⟨rfl,rfl,rfl⟩,R,d⟩:=h;exact d.ma blr
theorem Has.set (h:Has W b k s l a n c D) {c0 c1 c2 c3:Value} (j:W.heap[rb]?=some (.cells #[c0,c1,c2,c3] 24 (0,0))) (d:b≠rb) (o z p m:Value):Has ((((W.setCell ⟨rb,0,none⟩ o).setCell ⟨rb,1,none⟩ z).setCell ⟨rb,2,none⟩ p).setCell ⟨rb,3,none⟩ m) b k s l a n c D:=by
 obtain⟨i,u,R,g⟩:=h;refine⟨?_,u,R,g.box4 j _ _ _ _⟩;rw[z0e d,z0e d,z0e d,z0e d];exact i
theorem Has.new {B:Nat} {R:Nat->Value} (h:OwM W B (.slice a n c) D R) (e:k=D.kind/\s=D.start/\l=D.lead):Has (W.alloc (.cells #[.int .i64 k,.int .i64 s,.string l,.slice a n c] 24)) W.heap.size k s l a n c D :=
 ⟨heap_alloc_new W _,e,R,z3s (x4s h ((Below.refl _ W).alloc nlr _)) (Nat.zero_le _)⟩
theorem Has.put {B:Nat} {R:Nat->Value} {c0 c1 c2 c3:Value} (h:OwM W B (.slice a n c) D R) (d:W.heap[rb]?=some (.cells #[c0,c1,c2,c3] 24 (0,0))) (e:k=D.kind/\s=D.start/\l=D.lead):Has ((((W.setCell ⟨rb,0,none⟩ (.int .i64 k)).setCell ⟨rb,1,none⟩ (.int .i64 s)).setCell ⟨rb,2,none⟩ (.string l)).setCell ⟨rb,3,none⟩ (.slice a n c)) rb k s l a n c D :=
 ⟨z0v W rb _ _ _ _ d,e,R,z3s (h.box4 d _ _ _ _) (Nat.zero_le _)⟩
theorem v9z:AccD abD:=by
 have h:∀ q,q<abD.n->∀ d,d<abD.na q->abD.aout q d=abD.ain q d:=by decide +kernel
 exact fun q d c g=>h q c d g
theorem u2m:AccD kD:=by
 have h:∀ q,q<kD.n->∀ d,d<kD.na q->kD.aout q d=kD.ain q d:=by decide +kernel
 exact fun q d c g=>h q c d g
theorem u5d:dnOk (tmF (z0n abD.kind abD.lead kD.lead) 0) (kD.n+abD.n) (catA abD.inZ kD.outZ):=by unfold dnOk;decide +kernel
theorem z2a (w:World) (ht:Tab w):Calls prog 15 #[] w (TrueB w):=by
 have B:=qh (show ∀ W,Below w.heap.size w W->Tab W from fun W h=>ht.below h nlr);clear ht;have c:=qh (Below.refl w.heap.size w)
 go_enter func15,ntmps15
 go_wp2_with fail
 refine(v5z w).mono ?_;rintro r w1 ⟨hb,sv,rfl,hS⟩;replace c:=qh (c.out.trans (hb.mono c.out.size));clear hb;have d:=qh (y1d w1 (⟨_,rfl,hS⟩:Ma none w1 (.agg #[.int .i64 mD.kind,.int .i64 mD.start,.string mD.lead,sv]) mD) y8u (B.out w1 c.out));clear hS
 go_wp2_with fail
 refine d.out.mono ?_;rintro r w2 ⟨hb,hr⟩;replace c:=qh (c.out.trans (hb.mono c.out.size));clear hb;clear d
 rcases hr with ⟨_,J,R,rfl,g⟩|⟨z,_⟩
 rotate_left
 ·exact absurd v4p z
 obtain⟨o2,p9,u,_,_⟩:=z0y g.top;subst u;obtain⟨w3,b8⟩:=exq (w2.alloc (.cells #[.int .i64 (mD.inv.kind),.int .i64 (mD.inv.start),.string (mD.inv.lead),.slice o2 (mD.inv).n p9] 24));obtain⟨i3,h0⟩:=exq (w2.heap.size);have n5:w3.heap.size=w2.heap.size+1:=by rw[b8];simp
 have hb:Below w2.heap.size w2 w3:=by rw[b8];exact(Below.refl _ w2).alloc nlr _
 have m:Has w3 i3 (mD.inv.kind) (mD.inv.start) (mD.inv.lead) o2 (mD.inv).n p9 (mD.inv):=by rw[h0,b8];exact Has.new g ⟨rfl,rfl,rfl⟩
 clear g;replace c:=qh (c.out.trans (hb.mono c.out.size));clear hb;have i:=qh m;clear m;obtain⟨bA,i4⟩:∃ x,x=i3:=⟨_,rfl⟩;rw[<- i4] at i
 go_wp2_with fail
 rw[<- h0,<- b8];rw[<- i4];clear b8 n5 h0;clear i4;refine(v5z w3).mono ?_;rintro r w4 ⟨hb,sv,rfl,hS⟩;replace i:=qh (i.out.on hb);replace c:=qh (c.out.trans (hb.mono c.out.size));clear hb;have d:=qh (v1y w4 (⟨_,rfl,hS⟩:Ma none w4 (.agg #[.int .i64 mD.kind,.int .i64 mD.start,.string mD.lead,sv]) mD) y8u (B.out w4 c.out));clear hS
 go_wp2_with fail
 refine d.out.mono ?_;rintro r w5 ⟨hb,hr⟩;replace i:=qh (i.out.on hb);replace c:=qh (c.out.trans (hb.mono c.out.size));clear hb;clear d
 rcases hr with ⟨_,J,R,rfl,g⟩|⟨z,_⟩
 rotate_left
 ·exact absurd v4p z
 obtain⟨m9,p7,u,_,_⟩:=z0y g.top;subst u;obtain⟨w6,b9⟩:=exq (w5.alloc (.cells #[.int .i64 (mD.inR.kind),.int .i64 (mD.inR.start),.string (mD.inR.lead),.slice m9 (mD.inR).n p7] 24));obtain⟨i6,h1⟩:=exq (w5.heap.size);have o6:w6.heap.size=w5.heap.size+1:=by rw[b9];simp
 have hb:Below w5.heap.size w5 w6:=by rw[b9];exact(Below.refl _ w5).alloc nlr _
 have m:Has w6 i6 (mD.inR.kind) (mD.inR.start) (mD.inR.lead) m9 (mD.inR).n p7 (mD.inR):=by rw[h1,b9];exact Has.new g ⟨rfl,rfl,rfl⟩
 clear g;replace i:=qh (i.out.on hb);replace c:=qh (c.out.trans (hb.mono c.out.size));clear hb;have j:=qh m;clear m;obtain⟨bB,l3⟩:∃ x,x=i6:=⟨_,rfl⟩;rw[<- l3] at j
 go_wp2_with fail
 rw[<- h1,<- b9];rw[<- l3];clear b9 o6 h1;clear l3;refine(v5z w6).mono ?_;rintro r w7 ⟨hb,sv,rfl,hS⟩;replace i:=qh (i.out.on hb);replace j:=qh (j.out.on hb);replace c:=qh (c.out.trans (hb.mono c.out.size));clear hb;have d:=qh (x6v w7 (⟨_,rfl,hS⟩:Ma none w7 (.agg #[.int .i64 mD.kind,.int .i64 mD.start,.string mD.lead,sv]) mD) y8u (B.out w7 c.out));clear hS
 go_wp2_with fail
 refine d.out.mono ?_;rintro r w8 ⟨hb,hr⟩;replace i:=qh (i.out.on hb);replace j:=qh (j.out.on hb);replace c:=qh (c.out.trans (hb.mono c.out.size));clear hb;clear d
 rcases hr with ⟨_,J,R,rfl,g⟩|⟨z,_⟩
 rotate_left
 ·exact absurd v4p z
 obtain⟨n6,l5,u,_,_⟩:=z0y g.top;subst u;obtain⟨w9,b6⟩:=exq (w8.alloc (.cells #[.int .i64 (mD.outR.kind),.int .i64 (mD.outR.start),.string (mD.outR.lead),.slice n6 (mD.outR).n l5] 24));obtain⟨i9,g9⟩:=exq (w8.heap.size);have g8:w9.heap.size=w8.heap.size+1:=by rw[b6];simp
 have hb:Below w8.heap.size w8 w9:=by rw[b6];exact(Below.refl _ w8).alloc nlr _
 have m:Has w9 i9 (mD.outR.kind) (mD.outR.start) (mD.outR.lead) n6 (mD.outR).n l5 (mD.outR):=by rw[g9,b6];exact Has.new g ⟨rfl,rfl,rfl⟩
 clear g;replace i:=qh (i.out.on hb);replace j:=qh (j.out.on hb);replace c:=qh (c.out.trans (hb.mono c.out.size));clear hb;have k:=qh m;clear m;obtain⟨bC,k0⟩:∃ x,x=i9:=⟨_,rfl⟩;rw[<- k0] at k;obtain⟨a9,P⟩:=exq (w9.alloc (.cells #[.int .i64 1,.int .i64 2] 3));obtain⟨k4,g6⟩:=exq (w8.heap.size+1);have e6:a9.heap.size=w8.heap.size+1+1:=by rw[P];simp[g8]
 have hb:Below w9.heap.size w9 a9:=by rw[P];exact(Below.refl _ w9).alloc nlr _
 have m:Si none a9 (.slice (some ⟨k4,0,none⟩) 2 2) 2 y12:=by rw[g6,<- g8,P];exact z7r (heap_alloc_new w9 _) y3q (lt2 rfl rfl)
 replace i:=qh (i.out.on hb);replace j:=qh (j.out.on hb);replace k:=qh (k.out.on hb);replace c:=qh (c.out.trans (hb.mono c.out.size));clear hb;have Sx:=qh m;clear m;obtain⟨e5,X⟩:=exq (a9.alloc (.cells #[.int .i64 3] 3));obtain⟨k6,d2⟩:=exq (w8.heap.size+1+1);have i5:e5.heap.size=w8.heap.size+1+1+1:=by rw[X];simp[e6]
 have hb:Below a9.heap.size a9 e5:=by rw[X];exact(Below.refl _ a9).alloc nlr _
 have m:Si none e5 (.slice (some ⟨k6,0,none⟩) 1 1) 1 c3:=by rw[d2,<- e6,X];exact z7r (heap_alloc_new a9 _) y3x (lt1 rfl)
 replace i:=qh (i.out.on hb);replace j:=qh (j.out.on hb);replace k:=qh (k.out.on hb);replace Sx:=qh (Sx.out.kept (z0b hb none));replace c:=qh (c.out.trans (hb.mono c.out.size));clear hb;have Sy:=qh m;clear m;have d:=qh (y5e (kind:=1) (v:=⟨#[51]⟩) e5 Sx.out Sy.out (by decide) (by decide) (by unfold smS;decide) (B.out e5 c.out) ⟨by decide +kernel,by decide +kernel,by decide +kernel⟩);clear Sx Sy
 go_wp2_with fail
 rw[<- d2,<- g6,<- g9,<- b6,<- P,<- X];rw[<- k0];clear b6 g8 g9;clear P e6 g6;clear X i5 d2;clear k0;refine d.out.mono ?_;rintro r d8 ⟨hb,hr⟩;replace i:=qh (i.out.on hb);replace j:=qh (j.out.on hb);replace k:=qh (k.out.on hb);replace c:=qh (c.out.trans (hb.mono c.out.size));clear hb;clear d;obtain⟨J,R,rfl,g⟩:=hr;have g:OwM d8 _ J dD R:=g;obtain⟨n7,p0,u,_,_⟩:=z0y g.top;subst u;obtain⟨f5,D⟩:=exq (d8.alloc (.cells #[.int .i64 (1),.int .i64 (0),.string (⟨#[51]⟩),.slice n7 (dD).n p0] 24));obtain⟨b7,b3⟩:=exq (d8.heap.size);have j1:f5.heap.size=d8.heap.size+1:=by rw[D];simp
 have hb:Below d8.heap.size d8 f5:=by rw[D];exact(Below.refl _ d8).alloc nlr _
 have m:Has f5 b7 (1) (0) (⟨#[51]⟩) n7 (dD).n p0 (dD):=by rw[b3,D];exact Has.new g ⟨by decide +kernel,by decide +kernel,by decide +kernel⟩
 clear g;have l8:bA≠b7:=by have:=lt_of_block i.out.1;omega
 have o3:bB≠b7:=by have:=lt_of_block j.out.1;omega
 have n9:bC≠b7:=by have:=lt_of_block k.out.1;omega
 have LD:w.heap.size<=b7:=by have:=c.out.size;omega
 replace i:=qh (i.out.on hb);replace j:=qh (j.out.on hb);replace k:=qh (k.out.on hb);replace c:=qh (c.out.trans (hb.mono c.out.size));clear hb;have l:=qh m;clear m;obtain⟨bD,h4⟩:∃ x,x=b7:=⟨_,rfl⟩;rw[<- h4] at l l8 o3 n9 LD;obtain⟨⟨m0,m1,m2,m3⟩,_⟩:=cells4 l.out.1;rw[D] at m0 m1 m2 m3;rw[h4,b3] at m0 m1 m2 m3;have d:=qh (z5p f5 l.out.ma u3r (B.out f5 c.out))
 go_wp2_with fail
 clear m0 m1 m2 m3;rw[<- b3,<- D];rw[<- h4];clear D j1 b3;clear h4;refine d.out.mono ?_;rintro r g7 ⟨hb,hr⟩;replace i:=qh (i.out.on hb);replace j:=qh (j.out.on hb);replace k:=qh (k.out.on hb);replace l:=qh (l.out.on hb);replace c:=qh (c.out.trans (hb.mono c.out.size));clear hb;clear d
 rcases hr with ⟨_,_,J,R,rfl,g⟩|⟨_,z,_⟩|⟨z,_⟩
 rotate_left
 ·exact absurd u3a z
 ·exact absurd u4r z
 obtain⟨h8,h6,u,_,_⟩:=z0y g.top;subst u;obtain⟨⟨r0,r1,r2,r3⟩,rz⟩:=cells4 l.out.1;have f0:=rz 0;have f1:=rz 1;have f2:=rz 2;have f3:=rz 3;clear rz;obtain⟨F,A⟩:∃ F,F=(((g7.setCell ⟨bD,0,none⟩ (.int .i64 (dD.kind))).setCell ⟨bD,1,none⟩ (.int .i64 ((dD.n:Int)))).setCell ⟨bD,2,none⟩ (.string (dD.lead))).setCell ⟨bD,3,none⟩ (.slice h8 (revD dD).n h6):=⟨_,rfl⟩;have g0:F.heap.size=g7.heap.size:=by rw[A];simp[World.setCell]
 replace i:=qh (show Has F bA _ _ _ _ _ _ _ from by rw[A];exact i.out.set l.out.1 l8 _ _ _ _);replace j:=qh (show Has F bB _ _ _ _ _ _ _ from by rw[A];exact j.out.set l.out.1 o3 _ _ _ _);replace k:=qh (show Has F bC _ _ _ _ _ _ _ from by rw[A];exact k.out.set l.out.1 n9 _ _ _ _);replace c:=qh (show Below w.heap.size w F from by rw[A];exact z0d c.out LD _ _ _ _);replace l:=qh (show Has F bD (dD.kind) ((dD.n:Int)) (dD.lead) h8 (revD dD).n h6 (revD dD) from by rw[A];exact Has.put g l.out.1 ⟨by decide +kernel,by decide +kernel,by decide +kernel⟩);clear g;obtain⟨a6,a1⟩:=exq (F.alloc (.cells #[.int .i64 1,.int .i64 2] 3));obtain⟨l0,f9⟩:=exq (g7.heap.size);have e9:a6.heap.size=g7.heap.size+1:=by rw[a1];simp[g0]
 have hb:Below F.heap.size F a6:=by rw[a1];exact(Below.refl _ F).alloc nlr _
 have m:Si none a6 (.slice (some ⟨l0,0,none⟩) 2 2) 2 y12:=by rw[f9,<- g0,a1];exact z7r (heap_alloc_new F _) y3q (lt2 rfl rfl)
 replace i:=qh (i.out.on hb);replace j:=qh (j.out.on hb);replace k:=qh (k.out.on hb);replace l:=qh (l.out.on hb);replace c:=qh (c.out.trans (hb.mono c.out.size));clear hb;have Sx:=qh m;clear m;obtain⟨d4,a3⟩:=exq (a6.alloc (.cells #[.int .i64 1,.int .i64 2] 3));obtain⟨k5,g2⟩:=exq (g7.heap.size+1);have i8:d4.heap.size=g7.heap.size+1+1:=by rw[a3];simp[e9]
 have hb:Below a6.heap.size a6 d4:=by rw[a3];exact(Below.refl _ a6).alloc nlr _
 have m:Si none d4 (.slice (some ⟨k5,0,none⟩) 2 2) 2 y12:=by rw[g2,<- e9,a3];exact z7r (heap_alloc_new a6 _) y3q (lt2 rfl rfl)
 replace i:=qh (i.out.on hb);replace j:=qh (j.out.on hb);replace k:=qh (k.out.on hb);replace l:=qh (l.out.on hb);replace Sx:=qh (Sx.out.kept (z0b hb none));replace c:=qh (c.out.trans (hb.mono c.out.size));clear hb;have Sy:=qh m;clear m;have d:=qh (y5e (kind:=1) (v:=⟨#[49]⟩) d4 Sx.out Sy.out (by decide) (by decide) (by unfold smS;decide) (B.out d4 c.out) ⟨by decide +kernel,by decide +kernel,by decide +kernel⟩);clear Sx Sy
 go_wp2_with fail
 rw[<- g2,<- f9,<- A,<- a1,<- a3];clear A g0;clear a1 e9 f9;clear a3 i8 g2;refine d.out.mono ?_;rintro r a2 ⟨hb,hr⟩;replace i:=qh (i.out.on hb);replace j:=qh (j.out.on hb);replace k:=qh (k.out.on hb);replace l:=qh (l.out.on hb);replace c:=qh (c.out.trans (hb.mono c.out.size));clear hb;clear d;obtain⟨J,R,rfl,g⟩:=hr;have g:OwM a2 _ J abD R:=g;obtain⟨m4,p6,u,_,_⟩:=z0y g.top;subst u;obtain⟨b1,O⟩:=exq (a2.alloc (.cells #[.int .i64 (1),.int .i64 (0),.string (⟨#[49]⟩),.slice m4 (abD).n p6] 24));obtain⟨h5,e1⟩:=exq (a2.heap.size);have d9:b1.heap.size=a2.heap.size+1:=by rw[O];simp
 have hb:Below a2.heap.size a2 b1:=by rw[O];exact(Below.refl _ a2).alloc nlr _
 have m:Has b1 h5 (1) (0) (⟨#[49]⟩) m4 (abD).n p6 (abD):=by rw[e1,O];exact Has.new g ⟨by decide +kernel,by decide +kernel,by decide +kernel⟩
 clear g;replace i:=qh (i.out.on hb);replace j:=qh (j.out.on hb);replace k:=qh (k.out.on hb);replace l:=qh (l.out.on hb);replace c:=qh (c.out.trans (hb.mono c.out.size));clear hb;have o:=qh m;clear m;obtain⟨bG,k3⟩:∃ x,x=h5:=⟨_,rfl⟩;rw[<- k3] at o;obtain⟨a7,S⟩:=exq (b1.alloc (.cells #[.int .i64 3] 3));obtain⟨j3,g1⟩:=exq (a2.heap.size+1);have f4:a7.heap.size=a2.heap.size+1+1:=by rw[S];simp[d9]
 have hb:Below b1.heap.size b1 a7:=by rw[S];exact(Below.refl _ b1).alloc nlr _
 have m:Si none a7 (.slice (some ⟨j3,0,none⟩) 1 1) 1 c3:=by rw[g1,<- d9,S];exact z7r (heap_alloc_new b1 _) y3x (lt1 rfl)
 replace i:=qh (i.out.on hb);replace j:=qh (j.out.on hb);replace k:=qh (k.out.on hb);replace l:=qh (l.out.on hb);replace o:=qh (o.out.on hb);replace c:=qh (c.out.trans (hb.mono c.out.size));clear hb;have Sx:=qh m;clear m;obtain⟨e3,U⟩:=exq (a7.alloc (.cells #[.int .i64 3] 3));obtain⟨j5,e4⟩:=exq (a2.heap.size+1+1);have k1:e3.heap.size=a2.heap.size+1+1+1:=by rw[U];simp[f4]
 have hb:Below a7.heap.size a7 e3:=by rw[U];exact(Below.refl _ a7).alloc nlr _
 have m:Si none e3 (.slice (some ⟨j5,0,none⟩) 1 1) 1 c3:=by rw[e4,<- f4,U];exact z7r (heap_alloc_new a7 _) y3x (lt1 rfl)
 replace i:=qh (i.out.on hb);replace j:=qh (j.out.on hb);replace k:=qh (k.out.on hb);replace l:=qh (l.out.on hb);replace o:=qh (o.out.on hb);replace Sx:=qh (Sx.out.kept (z0b hb none));replace c:=qh (c.out.trans (hb.mono c.out.size));clear hb;have Sy:=qh m;clear m;have d:=qh (y5e (kind:=1) (v:=⟨#[50]⟩) e3 Sx.out Sy.out (by decide) (by decide) (by unfold smS;decide) (B.out e3 c.out) ⟨by decide +kernel,by decide +kernel,by decide +kernel⟩);clear Sx Sy
 go_wp2_with fail
 rw[<- e4,<- g1,<- e1,<- O,<- S,<- U];rw[<- k3];clear O d9 e1;clear S f4 g1;clear U k1 e4;clear k3;refine d.out.mono ?_;rintro r f8 ⟨hb,hr⟩;replace i:=qh (i.out.on hb);replace j:=qh (j.out.on hb);replace k:=qh (k.out.on hb);replace l:=qh (l.out.on hb);replace o:=qh (o.out.on hb);replace c:=qh (c.out.trans (hb.mono c.out.size));clear hb;clear d;obtain⟨J,R,rfl,g⟩:=hr;have g:OwM f8 _ J kD R:=g;obtain⟨o4,p8,u,_,_⟩:=z0y g.top;subst u;obtain⟨d7,C⟩:=exq (f8.alloc (.cells #[.int .i64 (1),.int .i64 (0),.string (⟨#[50]⟩),.slice o4 (kD).n p8] 24));obtain⟨a5,b5⟩:=exq (f8.heap.size);have j2:d7.heap.size=f8.heap.size+1:=by rw[C];simp
 have hb:Below f8.heap.size f8 d7:=by rw[C];exact(Below.refl _ f8).alloc nlr _
 have m:Has d7 a5 (1) (0) (⟨#[50]⟩) o4 (kD).n p8 (kD):=by rw[b5,C];exact Has.new g ⟨by decide +kernel,by decide +kernel,by decide +kernel⟩
 clear g;have m8:bA≠a5:=by have:=lt_of_block i.out.1;omega
 have o8:bB≠a5:=by have:=lt_of_block j.out.1;omega
 have l9:bC≠a5:=by have:=lt_of_block k.out.1;omega
 have l7:bD≠a5:=by have:=lt_of_block l.out.1;omega
 have o9:bG≠a5:=by have:=lt_of_block o.out.1;omega
 have LK:w.heap.size<=a5:=by have:=c.out.size;omega
 replace i:=qh (i.out.on hb);replace j:=qh (j.out.on hb);replace k:=qh (k.out.on hb);replace l:=qh (l.out.on hb);replace o:=qh (o.out.on hb);replace c:=qh (c.out.trans (hb.mono c.out.size));clear hb;have p:=qh m;clear m;obtain⟨bK,h2⟩:∃ x,x=a5:=⟨_,rfl⟩;rw[<- h2] at p m8 o8 l9 l7 o9 LK;obtain⟨⟨m0,m1,m2,m3⟩,_⟩:=cells4 o.out.1;rw[C] at m0 m1 m2 m3;obtain⟨⟨n0,n1,n2,n3⟩,_⟩:=cells4 p.out.1;rw[C] at n0 n1 n2 n3;rw[h2,b5] at n0 n1 n2 n3;have d:=qh (x9i d7 o.out.ma p.out.ma v7t u2y (B.out d7 c.out) (by decide +kernel) (by decide +kernel))
 go_wp2_with fail
 clear m0 m1 m2 m3;clear n0 n1 n2 n3;rw[<- b5,<- C];rw[<- h2];clear C j2 b5;clear h2;refine d.out.mono ?_;rintro r i2 ⟨hb,hr⟩;replace i:=qh (i.out.on hb);replace j:=qh (j.out.on hb);replace k:=qh (k.out.on hb);replace l:=qh (l.out.on hb);replace o:=qh (o.out.on hb);replace p:=qh (p.out.on hb);replace c:=qh (c.out.trans (hb.mono c.out.size));clear hb;clear d
 rcases hr with ⟨_,_,_,⟨_,J,R,rfl,g⟩|⟨z,_⟩⟩|⟨_,_,z,_⟩|⟨z,_⟩
 rotate_left
 ·exact absurd u5d z
 ·exact absurd ⟨v9z,u2m,by decide +kernel⟩ z
 ·exact absurd ⟨v8b,u3k⟩ z
 have g:OwM i2 _ J cD R:=g;obtain⟨h9,h7,u,_,_⟩:=z0y g.top;subst u;obtain⟨⟨r0,r1,r2,r3⟩,rz⟩:=cells4 p.out.1;have f0:=rz 0;have f1:=rz 1;have f2:=rz 2;have f3:=rz 3;clear rz;obtain⟨a4,s⟩:∃ a4,a4=(((i2.setCell ⟨bK,0,none⟩ (.int .i64 (abD.kind))).setCell ⟨bK,1,none⟩ (.int .i64 (((kD.n:Int)+abD.start)))).setCell ⟨bK,2,none⟩ (.string ((z0n abD.kind abD.lead kD.lead).1))).setCell ⟨bK,3,none⟩ (.slice h9 (cD).n h7):=⟨_,rfl⟩;have j8:a4.heap.size=i2.heap.size:=by rw[s];simp[World.setCell]
 replace i:=qh (show Has a4 bA _ _ _ _ _ _ _ from by rw[s];exact i.out.set p.out.1 m8 _ _ _ _);replace j:=qh (show Has a4 bB _ _ _ _ _ _ _ from by rw[s];exact j.out.set p.out.1 o8 _ _ _ _);replace k:=qh (show Has a4 bC _ _ _ _ _ _ _ from by rw[s];exact k.out.set p.out.1 l9 _ _ _ _);replace l:=qh (show Has a4 bD _ _ _ _ _ _ _ from by rw[s];exact l.out.set p.out.1 l7 _ _ _ _);replace o:=qh (show Has a4 bG _ _ _ _ _ _ _ from by rw[s];exact o.out.set p.out.1 o9 _ _ _ _);replace c:=qh (show Below w.heap.size w a4 from by rw[s];exact z0d c.out LK _ _ _ _);replace p:=qh (show Has a4 bK (abD.kind) (((kD.n:Int)+abD.start)) ((z0n abD.kind abD.lead kD.lead).1) h9 (cD).n h7 (cD) from by rw[s];exact Has.put g p.out.1 ⟨by decide +kernel,by decide +kernel,by decide +kernel⟩);clear g
 go_wp2_with fail
 rw[<- s];clear s j8;clear r0 r1 r2 r3 f0 f1 f2 f3;refine(v5z a4).mono ?_;rintro r f7 ⟨hb,sv,rfl,hS⟩;replace i:=qh (i.out.on hb);replace j:=qh (j.out.on hb);replace k:=qh (k.out.on hb);replace l:=qh (l.out.on hb);replace o:=qh (o.out.on hb);replace p:=qh (p.out.on hb);replace c:=qh (c.out.trans (hb.mono c.out.size));clear hb;obtain⟨b4,Z⟩:=exq (f7.alloc (.cells #[.int .i64 2,.int .i64 3] 50));obtain⟨k9,d5⟩:=exq (f7.heap.size);have l2:b4.heap.size=f7.heap.size+1:=by rw[Z];simp
 have hb:Below f7.heap.size f7 b4:=by rw[Z];exact(Below.refl _ f7).alloc nlr _
 have hP:PrS none b4 (.slice (some ⟨k9,0,none⟩) 1 1) 1 c2 c3:=by rw[d5,Z];exact u1d (heap_alloc_new f7 _) y3x (lt1 ⟨rfl,rfl⟩)
 have hS:StS none b4 sv mD:=hS.kept (z0b hb none);replace i:=qh (i.out.on hb);replace j:=qh (j.out.on hb);replace k:=qh (k.out.on hb);replace l:=qh (l.out.on hb);replace o:=qh (o.out.on hb);replace p:=qh (p.out.on hb);replace c:=qh (c.out.trans (hb.mono c.out.size));clear hb;have d:=qh (x6m b4 (⟨_,rfl,hS⟩:Ma none b4 (.agg #[.int .i64 mD.kind,.int .i64 mD.start,.string mD.lead,sv]) mD) y8u hP (by decide) (B.out b4 c.out));clear hS hP
 go_wp2_with fail
 rw[<- d5,<- Z];clear Z l2 d5;refine d.out.mono ?_;rintro r I ⟨hb,hr⟩;replace i:=qh (i.out.on hb);replace j:=qh (j.out.on hb);replace k:=qh (k.out.on hb);replace l:=qh (l.out.on hb);replace o:=qh (o.out.on hb);replace p:=qh (p.out.on hb);replace c:=qh (c.out.trans (hb.mono c.out.size));clear hb;clear d
 rcases hr with ⟨_,J,R,rfl,g⟩|⟨z,_⟩
 rotate_left
 ·exact absurd ⟨v4p,lt1 ⟨by decide,by decide,by decide,by decide⟩⟩ z
 have g:OwM I _ J nD R:=g;obtain⟨m7,l6,u,_,_⟩:=z0y g.top;subst u;obtain⟨b0,H⟩:=exq (I.alloc (.cells #[.int .i64 ((mD.ren (mapF 1 c2 c3)).kind),.int .i64 ((mD.ren (mapF 1 c2 c3)).start),.string ((mD.ren (mapF 1 c2 c3)).lead),.slice m7 (nD).n l6] 24));obtain⟨h3,e7⟩:=exq (I.heap.size);have d0:b0.heap.size=I.heap.size+1:=by rw[H];simp
 have hb:Below I.heap.size I b0:=by rw[H];exact(Below.refl _ I).alloc nlr _
 have m:Has b0 h3 ((mD.ren (mapF 1 c2 c3)).kind) ((mD.ren (mapF 1 c2 c3)).start) ((mD.ren (mapF 1 c2 c3)).lead) m7 (nD).n l6 (nD):=by rw[e7,H];exact Has.new g ⟨rfl,rfl,rfl⟩
 clear g;replace i:=qh (i.out.on hb);replace j:=qh (j.out.on hb);replace k:=qh (k.out.on hb);replace l:=qh (l.out.on hb);replace o:=qh (o.out.on hb);replace p:=qh (p.out.on hb);replace c:=qh (c.out.trans (hb.mono c.out.size));clear hb;have K:=qh m;clear m;obtain⟨bE,k7⟩:∃ x,x=h3:=⟨_,rfl⟩;rw[<- k7] at K;obtain⟨a8,N⟩:=exq (b0.alloc (.cells #[.int .i64 1] 3));obtain⟨j4,c9⟩:=exq (I.heap.size+1);have e8:a8.heap.size=I.heap.size+1+1:=by rw[N];simp[d0]
 have hb:Below b0.heap.size b0 a8:=by rw[N];exact(Below.refl _ b0).alloc nlr _
 have m:Si none a8 (.slice (some ⟨j4,0,none⟩) 1 1) 1 c1:=by rw[c9,<- d0,N];exact z7r (heap_alloc_new b0 _) y3x (lt1 rfl)
 replace i:=qh (i.out.on hb);replace j:=qh (j.out.on hb);replace k:=qh (k.out.on hb);replace l:=qh (l.out.on hb);replace o:=qh (o.out.on hb);replace p:=qh (p.out.on hb);replace K:=qh (K.out.on hb);replace c:=qh (c.out.trans (hb.mono c.out.size));clear hb;have L:=qh m;clear m;obtain⟨b2,E⟩:=exq (a8.alloc (.cells #[.int .i64 2] 3));obtain⟨i7,d3⟩:=exq (I.heap.size+1+1);have d1:b2.heap.size=I.heap.size+1+1+1:=by rw[E];simp[e8]
 have hb:Below a8.heap.size a8 b2:=by rw[E];exact(Below.refl _ a8).alloc nlr _
 have m:Si none b2 (.slice (some ⟨i7,0,none⟩) 1 1) 1 c2:=by rw[d3,<- e8,E];exact z7r (heap_alloc_new a8 _) y3x (lt1 rfl)
 replace i:=qh (i.out.on hb);replace j:=qh (j.out.on hb);replace k:=qh (k.out.on hb);replace l:=qh (l.out.on hb);replace o:=qh (o.out.on hb);replace p:=qh (p.out.on hb);replace K:=qh (K.out.on hb);replace L:=qh (L.out.kept (z0b hb none));replace c:=qh (c.out.trans (hb.mono c.out.size));clear hb;have S2:=qh m;clear m;obtain⟨d6,G⟩:=exq (b2.alloc (.cells #[.int .i64 3] 3));obtain⟨j7,g4⟩:=exq (I.heap.size+1+1+1);have j6:d6.heap.size=I.heap.size+1+1+1+1:=by rw[G];simp[d1]
 have hb:Below b2.heap.size b2 d6:=by rw[G];exact(Below.refl _ b2).alloc nlr _
 have m:Si none d6 (.slice (some ⟨j7,0,none⟩) 1 1) 1 c3:=by rw[g4,<- d1,G];exact z7r (heap_alloc_new b2 _) y3x (lt1 rfl)
 replace i:=qh (i.out.on hb);replace j:=qh (j.out.on hb);replace k:=qh (k.out.on hb);replace l:=qh (l.out.on hb);replace o:=qh (o.out.on hb);replace p:=qh (p.out.on hb);replace K:=qh (K.out.on hb);replace L:=qh (L.out.kept (z0b hb none));replace S2:=qh (S2.out.kept (z0b hb none));replace c:=qh (c.out.trans (hb.mono c.out.size));clear hb;have Y:=qh m;clear m;obtain⟨⟨m0,m1,m2,m3⟩,_⟩:=cells4 i.out.1;rw[G,E,N,H] at m0 m1 m2 m3;have d:=qh (z5q d6 i.out.ma { y8u with } (B.out d6 c.out) S2.out L.out (by decide) (by decide) u4u)
 go_wp2_with fail
 clear m0 m1 m2 m3;rw[<- g4,<- d3,<- c9,<- e7,<- H,<- N,<- E,<- G];rw[<- k7];clear H d0 e7;clear N e8 c9;clear E d1 d3;clear G j6 g4;clear k7;refine d.out.mono ?_;rintro r m5 ⟨rfl,hb⟩;replace i:=qh (i.out.on hb);replace j:=qh (j.out.on hb);replace k:=qh (k.out.on hb);replace l:=qh (l.out.on hb);replace o:=qh (o.out.on hb);replace p:=qh (p.out.on hb);replace K:=qh (K.out.on hb);replace L:=qh (L.out.kept (z0b hb none));replace S2:=qh (S2.out.kept (z0b hb none));replace Y:=qh (Y.out.kept (z0b hb none));replace c:=qh (c.out.trans (hb.mono c.out.size));clear hb;clear d;obtain⟨⟨m0,m1,m2,m3⟩,_⟩:=cells4 i.out.1;have d:=qh (z5q m5 i.out.ma { y8u with } (B.out m5 c.out) L.out S2.out (by decide) (by decide) u4t)
 go_wp2_with fail
 clear m0 m1 m2 m3;refine d.out.mono ?_;rintro r o7 ⟨rfl,hb⟩;replace i:=qh (i.out.on hb);replace j:=qh (j.out.on hb);replace k:=qh (k.out.on hb);replace l:=qh (l.out.on hb);replace o:=qh (o.out.on hb);replace p:=qh (p.out.on hb);replace K:=qh (K.out.on hb);replace L:=qh (L.out.kept (z0b hb none));replace S2:=qh (S2.out.kept (z0b hb none));replace Y:=qh (Y.out.kept (z0b hb none));replace c:=qh (c.out.trans (hb.mono c.out.size));clear hb;clear d;obtain⟨⟨m0,m1,m2,m3⟩,_⟩:=cells4 j.out.1;have d:=qh (z5q o7 j.out.ma { y8u with } (B.out o7 c.out) L.out L.out (by decide) (by decide) ex_b)
 go_wp2_with fail
 clear m0 m1 m2 m3;refine d.out.mono ?_;rintro r o5 ⟨rfl,hb⟩;replace i:=qh (i.out.on hb);replace j:=qh (j.out.on hb);replace k:=qh (k.out.on hb);replace l:=qh (l.out.on hb);replace o:=qh (o.out.on hb);replace p:=qh (p.out.on hb);replace K:=qh (K.out.on hb);replace L:=qh (L.out.kept (z0b hb none));replace S2:=qh (S2.out.kept (z0b hb none));replace Y:=qh (Y.out.kept (z0b hb none));replace c:=qh (c.out.trans (hb.mono c.out.size));clear hb;clear d;obtain⟨⟨m0,m1,m2,m3⟩,_⟩:=cells4 k.out.1;have d:=qh (z5q o5 k.out.ma { y8u with } (B.out o5 c.out) Y.out Y.out (by decide) (by decide) ex_c)
 go_wp2_with fail
 clear m0 m1 m2 m3;refine d.out.mono ?_;rintro r e0 ⟨rfl,hb⟩;replace i:=qh (i.out.on hb);replace j:=qh (j.out.on hb);replace k:=qh (k.out.on hb);replace l:=qh (l.out.on hb);replace o:=qh (o.out.on hb);replace p:=qh (p.out.on hb);replace K:=qh (K.out.on hb);replace L:=qh (L.out.kept (z0b hb none));replace S2:=qh (S2.out.kept (z0b hb none));replace Y:=qh (Y.out.kept (z0b hb none));replace c:=qh (c.out.trans (hb.mono c.out.size));clear hb;clear d;obtain⟨⟨m0,m1,m2,m3⟩,_⟩:=cells4 l.out.1;obtain⟨g3,Q⟩:=exq (e0.alloc (.cells #[.int .i64 2,.int .i64 1] 3));obtain⟨j9,c8⟩:=exq (e0.heap.size);have j0:g3.heap.size=e0.heap.size+1:=by rw[Q];simp
 have hb:Below e0.heap.size e0 g3:=by rw[Q];exact(Below.refl _ e0).alloc nlr _
 have m:Si none g3 (.slice (some ⟨j9,0,none⟩) 2 2) 2 y21:=by rw[c8,Q];exact z7r (heap_alloc_new e0 _) y3q (lt2 rfl rfl)
 replace i:=qh (i.out.on hb);replace j:=qh (j.out.on hb);replace k:=qh (k.out.on hb);replace l:=qh (l.out.on hb);replace o:=qh (o.out.on hb);replace p:=qh (p.out.on hb);replace K:=qh (K.out.on hb);replace L:=qh (L.out.kept (z0b hb none));replace S2:=qh (S2.out.kept (z0b hb none));replace Y:=qh (Y.out.kept (z0b hb none));replace c:=qh (c.out.trans (hb.mono c.out.size));clear hb;have Sz:=qh m;clear m;have d:=qh (z5q g3 l.out.ma u5e (B.out g3 c.out) Sz.out Y.out (by decide) (by decide) ex_d)
 go_wp2_with fail
 clear m0 m1 m2 m3;rw[<- c8,<- Q];clear Q j0 c8;refine d.out.mono ?_;rintro r c7 ⟨rfl,hb⟩;replace i:=qh (i.out.on hb);replace j:=qh (j.out.on hb);replace k:=qh (k.out.on hb);replace l:=qh (l.out.on hb);replace o:=qh (o.out.on hb);replace p:=qh (p.out.on hb);replace K:=qh (K.out.on hb);replace L:=qh (L.out.kept (z0b hb none));replace S2:=qh (S2.out.kept (z0b hb none));replace Y:=qh (Y.out.kept (z0b hb none));replace Sz:=qh (Sz.out.kept (z0b hb none));replace c:=qh (c.out.trans (hb.mono c.out.size));clear hb;clear d Sz;obtain⟨⟨m0,m1,m2,m3⟩,_⟩:=cells4 p.out.1;obtain⟨e2,T⟩:=exq (c7.alloc (.cells #[.int .i64 1,.int .i64 2] 3));obtain⟨l1,g5⟩:=exq (c7.heap.size);have k2:e2.heap.size=c7.heap.size+1:=by rw[T];simp
 have hb:Below c7.heap.size c7 e2:=by rw[T];exact(Below.refl _ c7).alloc nlr _
 have m:Si none e2 (.slice (some ⟨l1,0,none⟩) 2 2) 2 y12:=by rw[g5,T];exact z7r (heap_alloc_new c7 _) y3q (lt2 rfl rfl)
 replace i:=qh (i.out.on hb);replace j:=qh (j.out.on hb);replace k:=qh (k.out.on hb);replace l:=qh (l.out.on hb);replace o:=qh (o.out.on hb);replace p:=qh (p.out.on hb);replace K:=qh (K.out.on hb);replace L:=qh (L.out.kept (z0b hb none));replace S2:=qh (S2.out.kept (z0b hb none));replace Y:=qh (Y.out.kept (z0b hb none));replace c:=qh (c.out.trans (hb.mono c.out.size));clear hb;have Sz:=qh m;clear m;have d:=qh (z5q e2 p.out.ma u4w (B.out e2 c.out) Sz.out Y.out (by decide) (by decide) ex_k)
 go_wp2_with fail
 clear m0 m1 m2 m3;rw[<- g5,<- T];clear T k2 g5;refine d.out.mono ?_;rintro r l4 ⟨rfl,hb⟩;replace i:=qh (i.out.on hb);replace j:=qh (j.out.on hb);replace k:=qh (k.out.on hb);replace l:=qh (l.out.on hb);replace o:=qh (o.out.on hb);replace p:=qh (p.out.on hb);replace K:=qh (K.out.on hb);replace L:=qh (L.out.kept (z0b hb none));replace S2:=qh (S2.out.kept (z0b hb none));replace Y:=qh (Y.out.kept (z0b hb none));replace Sz:=qh (Sz.out.kept (z0b hb none));replace c:=qh (c.out.trans (hb.mono c.out.size));clear hb;clear d Sz;obtain⟨⟨m0,m1,m2,m3⟩,_⟩:=cells4 K.out.1;have d:=qh (z5q l4 K.out.ma { y8u with } (B.out l4 c.out) L.out Y.out (by decide) (by decide) ex_n)
 go_wp2_with fail
 clear m0 m1 m2 m3;refine d.out.mono ?_;rintro r q7 ⟨rfl,hb⟩;replace i:=qh (i.out.on hb);replace j:=qh (j.out.on hb);replace k:=qh (k.out.on hb);replace l:=qh (l.out.on hb);replace o:=qh (o.out.on hb);replace p:=qh (p.out.on hb);replace K:=qh (K.out.on hb);replace L:=qh (L.out.kept (z0b hb none));replace S2:=qh (S2.out.kept (z0b hb none));replace Y:=qh (Y.out.kept (z0b hb none));replace c:=qh (c.out.trans (hb.mono c.out.size));clear hb;clear d;go_wp2;go_ret;exact⟨rfl,c.out⟩
end
section
open Go.RowKit Go.Deep
theorem x0f {D:MD} (hs:MSz D):∀ q,z0f D q<=q*140737488355328
 | 0=>nlr
 | q+1=>by
  have h:=x0f hs q;have h2:=hs.na q;show z0f D q+D.na q<=_;omega
theorem v1q {D:MD} {v:Value} (w:World) (hM:Ma none w v D) (R:MSz D) (hn:D.n<=100):Calls prog 45 #[v] w (fun r w'=>r=.returned (.int .i64 (z0f D D.n:Nat))/\Below w.heap.size w w'):=by
 obtain⟨sv,rfl,hS⟩:=hM;obtain⟨a,l,b,T,A,C,BB,O,rfl,ha,hc,hm,hb,m⟩:=hS.open;unfold maxLen at hm;clear hS;have u:=BoxM.new w D (.slice a D.n l);have s:=x1b w (.cells #[.int .i64 D.kind,.int .i64 D.start,.string D.lead,.slice a D.n l] 24);have N:=qh (fun q=>x0f R q);have K:=qh R.na;clear R;have HA:=qh ha;clear ha;have HB:=qh hb;clear hb;have HR:=qh m;clear m;have g:=qh u;clear u;have B:=qh s;clear s
 go_enter func45,ntmps45
 go_wp2_with fail
 obtain⟨wm,h⟩:=exq (w.alloc (.cells #[.int .i64 D.kind,.int .i64 D.start,.string D.lead,.slice a D.n l] 24));obtain⟨Y,F⟩:=exq (w.heap.size);rw[<- h,<- F] at g;rw[<- h] at B;rw[<- h,<- F];clear h F
 go_loopw [3,4] (fun c i wr=>∃ q j:Nat,q<=D.n/\i=.int .i64 (q:Int)/\c=.int .i64 (j:Int)/\j=z0f D q/\BoxM wr Y D (.slice a D.n l)/\Below w.heap.size w wr) (fun _ i _=>D.n-(intOf i).toNat)
 case atStart=>exact⟨0,0,Nat.zero_le _,rfl,rfl,rfl,g.out,B.out⟩
 obtain⟨q,j,hq,rfl,rfl,d,z,H⟩:=hrel;clear g B;have m3:=z.c3;have g:=qh z;clear z;have k:=qh H;clear H;by_cases W:q<D.n
 ·have a4:(q:Int)<(D.n:Int):=by omega
  have Z:(0:Int)<=(q:Int):=by omega
  obtain rfl:=HA.out (by omega);have P:=(HB.out (by omega)).1;obtain⟨k1,L,k3,k4,_⟩:=HR.out q W;generalize A q=aq at L;have c1:=(k.out.cell (p:=⟨b,T+q*2+1,none⟩) P).trans L;clear k1 L;have I:=N.out q;have S:=K.out q;have U:j<=100*140737488355328:=Nat.le_trans (Nat.le_of_eq d) (Nat.le_trans I (Nat.mul_le_mul_right _ (by omega)));clear I;have X:IntKind.i64.wrap ((j:Int)+(D.na q:Int))=(j:Int)+(D.na q:Int):=by rw[IntKind.wrap_i64];omega
  have G:j+D.na q=z0f D (q+1):=by rw[d];rfl
  have a1:(D.na q:Int)<=9223372036854775807:=by omega
  have J:=qh G;clear G d U S;go_wp2;go_roundw
  case rel=>exact⟨q+1,j+D.na q,by omega,by go_num,by go_num,J.out,g.out,k.out⟩
  simp[intOf];omega
 have E:q=D.n:=by omega
 have a3:¬ ((q:Int)<(D.n:Int)):=by omega
 have o:j=z0f D D.n:=by rw[d,E]
 have Q:=qh o;clear o d;have a2:=qh E;clear E;go_wp2;go_ret
 first|exact⟨rfl,k.out⟩|exact⟨z5j (by rw[Q.out]),k.out⟩
end
section
open Go.RowKit Go.Deep
def TestP (p:Prop) (w:World) (r:Ending) (w':World):Prop:=∃ b:Bool,r=.returned (.bool b)/\(b=true↔p)/\Below w.heap.size w w'
theorem x1y {D:MD} {mv:Value} (w:World) (L:Ma none w mv D) (G:MSz D):Calls prog 13 #[mv] w (TestP (8<D.n\/30<z0f D D.n) w):=by
 obtain⟨sv,rfl,s⟩:=L;obtain⟨a,g,_,_,_,_,_,_,B,_,_,z,_⟩:=s.open;subst B;unfold maxLen at z;obtain⟨j,c⟩:=exq (w.alloc (.cells #[.int .i64 D.kind,.int .i64 D.start,.string D.lead,.slice a D.n g] 24));have m:Fr (fun _=>False) w j:=by rw[c];exact Fr.alloc _ _
 have d:Below w.heap.size w j:=m.below nlr (fun _ e=>e.elim);have o:j.heap[w.heap.size]?=some (.cells #[.int .i64 D.kind,.int .i64 D.start,.string D.lead,.slice a D.n g] 24 (0,0)):=by rw[c];exact heap_alloc_new w _
 obtain⟨⟨m0,m1,F,E⟩,_⟩:=cells4 o;have A:=qh (⟨_,rfl,s.kept (z0b d none)⟩:Ma none j (.agg #[.int .i64 D.kind,.int .i64 D.start,.string D.lead,.slice a D.n g]) D);have u:=qh G;clear G;have i:=qh d;clear d m o s;have K:(0:Int)<=(D.n:Int):=by omega
 obtain⟨n,J⟩:=exq (D.n);rw[c] at m0 m1 F E;by_cases P:(8:Int)<(D.n:Int)
 ·have k:=qh (show 8<D.n\/30<z0f D D.n from .inl (by omega))
  go_enter func13,ntmps13
  go_wp2;go_ret;exact⟨true,rfl,⟨fun _=>k.out,fun _=>rfl⟩,by rw[<- c];exact i.out⟩
 have O:decide ((8:Int)<(D.n:Int))=false:=by simp;omega
 have I:=qh (v1q j A.out u.out (by omega));have C:=qh (show ¬ 8<D.n by omega);clear P J
 go_enter func13,ntmps13
 go_wp2_with fail
 rw[<- c];clear c m0 m1 F E;refine I.out.mono ?_;rintro r Q ⟨rfl,p⟩;have l:=qh (i.out.trans (p.mono i.out.size));clear p;by_cases N:(30:Int)<((z0f D D.n:Nat):Int)
 ·have k:=qh (show 8<D.n\/30<z0f D D.n from .inr (by omega));go_wp2;go_ret;exact⟨true,rfl,⟨fun _=>k.out,fun _=>rfl⟩,l.out⟩
 have H:decide ((30:Int)<((z0f D D.n:Nat):Int))=false:=by simp;omega
 have k:=qh (show ¬ (8<D.n\/30<z0f D D.n) from fun h=>by rcases h with h|h;exact C.out h;omega)
 clear N;go_wp2;go_ret;exact⟨false,rfl,⟨(fun h=>by cases h),fun h=>absurd h k.out⟩,l.out⟩
theorem v2b {n:Nat} {b:Nat} {V:Nat->Value} {L:Nat->Nat} {X:Nat->Nat->Int} (w:World) (hn:n<=10) (F:∀ i,i<n->w.cell? ⟨b,i,none⟩=some (V i)/\Si none w (V i) (L i) (X i)) (E:∀ i,i<n->(L i:Int)<=9223372036854775807) :
  Calls prog 14 #[.slice (some ⟨b,0,none⟩) n n] w (TestP (∃ i,i<n/\(6<L i\/isWord (L i) (X i)=false)) w):=by
 have G:=qh F;clear F;have P:=qh E;clear E
 go_enter func14,ntmps14
 go_wp2_with fail
 go_loopw [3] (fun i wr=>∃ q:Nat,q<=n/\i=.int .i64 (q:Int)/\(∀ j,j<q->L j<=6/\isWord (L j) (X j)=true)/\wr=w) (fun i _=>n-(intOf i).toNat)
 case atStart=>exact⟨0,Nat.zero_le _,rfl,fun j K=>by omega,rfl⟩
 obtain⟨q,W,rfl,s,rfl⟩:=hrel;have o:=qh s;clear s;by_cases g:q<n
 ·have R:(q:Int)<(n:Int):=by omega
  have D:(0:Int)<=(q:Int):=by omega
  obtain⟨c0,p⟩:=G.out q g;have d:=p;obtain⟨a,T,p⟩:=p.shape;rw[p] at c0 d;have u:=P.out q g;obtain⟨l,c⟩:=exq (L q);rw[<- c] at c0 u d;have k:=qh c;clear c p;by_cases J:(6:Int)<(l:Int)
  ·have B:=qh (show ∃ i,i<n/\(6<L i\/isWord (L i) (X i)=false) from ⟨q,g,.inl (by rw[<- k.out];omega)⟩);clear d;go_wp2;go_ret;exact⟨true,rfl,⟨fun _=>B.out,fun _=>rfl⟩,blr⟩
  have H:decide ((6:Int)<(l:Int))=false:=by simp;omega
  have A:=qh (x7w wr d u);have C:=qh (show ¬ 6<l by omega);clear J d;cases m:isWord l (X q)
  ·have B:=qh (show ∃ i,i<n/\(6<L i\/isWord (L i) (X i)=false) from ⟨q,g,.inr (by rw[<- k.out];exact m)⟩);rw[m] at A;clear m
   go_wp2_with fail
   refine A.out.mono ?_;rintro r I ⟨rfl,rfl⟩;go_wp2;go_ret;exact⟨true,rfl,⟨fun _=>B.out,fun _=>rfl⟩,blr⟩
  rw[m] at A;have N:=qh m;clear m
  go_wp2_with fail
  refine A.out.mono ?_;rintro r I ⟨rfl,rfl⟩;go_wp2;go_roundw
  case rel =>
   refine⟨q+1,by omega,by go_num,fun j K=>?_,by first|rfl|trivial⟩
   by_cases e:j=q
   ·rw[e,<- k.out];exact⟨Nat.le_of_not_lt C.out,N.out⟩
   exact o.out j (by omega)
  simp[intOf];omega
 have z:q=n:=by omega
 have O:¬ ((q:Int)<(n:Int)):=by omega
 have Q:=qh z;clear z;go_wp2;go_ret;exact⟨false,rfl,⟨(fun h=>by cases h),fun ⟨i,hi,h⟩=>by
  obtain⟨U,S⟩:=o.out i (by rw[Q.out];exact hi)
  rcases h with h|h
  ·omega
  rw[S] at h;cases h⟩,blr⟩
def pk {α:Type} (a b:α) (i:Nat):α:=if i=0 then a else b
theorem v8r {na nb:Nat} {x y:Nat->Int} (h:¬ ∃ i,i<2/\(6<pk na nb i\/isWord (pk na nb i) (pk x y i)=false)):(na<=6/\isWord na x=true)/\(nb<=6/\isWord nb y=true):=by
 refine⟨⟨?_,?_⟩,?_,?_⟩
 ·exact Nat.le_of_not_lt fun c=>h ⟨0,by omega,.inl c⟩
 ·cases e:isWord na x
  ·exact absurd ⟨0,by omega,.inr e⟩ h
  rfl
 ·exact Nat.le_of_not_lt fun c=>h ⟨1,by omega,.inl c⟩
 cases e:isWord nb y
 ·exact absurd ⟨1,by omega,.inr e⟩ h
 rfl
theorem v4c {na nb b:Nat} {d h:Value} {x y:Nat->Int} (w:World) (c0:w.cell? ⟨b,0,none⟩=some d) (c1:w.cell? ⟨b,1,none⟩=some h) (k:Si none w d na x) (j:Si none w h nb y) (g:(na:Int)<=9223372036854775807) (c:(nb:Int)<=9223372036854775807) :
  Calls prog 14 #[.slice (some ⟨b,0,none⟩) 2 2] w (TestP (∃ i,i<2/\(6<pk na nb i\/isWord (pk na nb i) (pk x y i)=false)) w) :=
 v2b (V:=pk d h) w (by omega) (lt2 ⟨c0,k⟩ ⟨c1,j⟩) (lt2 g c)
end
section
open Go CSR
theorem VM.inv {D:MD} (h:VM D):VM D.inv:=h.sym (φ:=fun i o=>(o,i)) fun i o c j g d=>⟨g,d,c,j⟩
theorem Dv.eq {D:MD} {na:Nat} {x:Nat->Int} {z c:ByteArray × Nat} (l:VM D) (h:Dv D na x z) (i:Dv D na x c) (j:z.2=0) (d:c.2=0):z.1=c.1:=by
 obtain⟨k,g⟩:=l.kk;exact(h j k g).text (i d k g)
theorem Wv.same {D:MD} {na nb:Nat} {x y:Nat->Int} {z c:ByteArray × Nat} (j:VM D) (h:Wv D na x nb y z) (g:Wv D na x nb y c) (i:z.2=0) (d:c.2=0):z.1=c.1:=h.eq g j rfl (fun _ _=>rfl) i d
theorem u3z (D:MD):(revD D).n=D.n+1:=(z1m D D.n).n
theorem z2c (D:MD):(revD D).kind=D.kind:=(z1m D D.n).kind
theorem z8i (D:MD):(revD D).start=(D.n:Int):=(z1m D D.n).start
theorem z3a (D:MD):(revD D).lead=D.lead:=(z1m D D.n).lead
theorem v0a {D:MD} (d:VM D) (c:MSz D):z0f (revD D) (revD D).n<=z0f D D.n+D.n:=(x2a d c).cnt _
theorem z5b {D:MD} (c:VM D) (d:MSz D) (h:¬ (8<D.n\/30<z0f D D.n)):VM (revD D):=x9e c d (by omega) (by omega)
theorem z5m {D:MD} (d:VM D) (c:MSz D) (h:¬ (8<D.n\/30<z0f D D.n)):VM (revD (revD D)):=by
 have g:=v0a d c;have i:=u3z D;exact x9e (z5b d c h) (z6h d c) (by omega) (by omega)
theorem Wv.rev2 {D:MD} {na nb:Nat} {x y:Nat->Int} {z l:ByteArray × Nat} (j:VM D) (g:VM (revD D)) (c:VM (revD (revD D))) (h:Wv (revD (revD D)) na x nb y z) (o:Wv D na x nb y l) (p:z.2=0) (m:l.2=0):z.1=l.1:=by
 refine h.eq o c ((z2c _).trans (z2c D)).symm (fun k s=>?_) p m;have d:k.1=(revD D).kind:=s.trans (z2c _);have i:k.1=D.kind:=d.trans (z2c D);rw[(x9v g d).rel' (g.inn k) (c.inn k) (g.stn k) _ _,(x9v j i).rel' (j.inn k) (g.inn k) (j.stn k) _ _,List.reverse_reverse,List.reverse_reverse]
end
section
open Go.RowKit Go.Deep
theorem y5j {D:MD} {mv xv yv:Value} {na nb:Nat} {x y:Nat->Int} (w:World) (i5:Ma none w mv D) (d5:MSz D) (hx:Si none w xv na x) (hy:Si none w yv nb y) (ht:Tab w) :
  Calls prog 8 #[mv,xv,yv] w (TrueB w):=by
 obtain⟨j0,h3,g9⟩:=i5;subst h3;obtain⟨e9,h0,_,_,_,_,_,_,l,_⟩:=g9.open;subst l;have c7:=qh (show ∀ W,Below w.heap.size w W->Ma none W (.agg #[.int .i64 D.kind,.int .i64 D.start,.string D.lead,.slice e9 D.n h0]) D from fun W h=>⟨_,rfl,g9.kept (z0b h none)⟩);clear g9;have k:=qh d5;clear d5;obtain⟨f8,e5,_,_,g6,_,f4,a2,_,_⟩:=hx.open;subst g6;have h9:(na:Int)<=9223372036854775807:=by unfold maxLen at a2;omega
 clear f4 a2;have b2:=qh (show ∀ W,Below w.heap.size w W->Si none W (.slice f8 na e5) na x from fun W h=>hx.kept (z0b h none));clear hx;have i6:=qh h9;clear h9;obtain⟨g7,d7,_,_,g6,_,f4,a2,_,_⟩:=hy.open;subst g6;have h6:(nb:Int)<=9223372036854775807:=by unfold maxLen at a2;omega
 clear f4 a2;have b4:=qh (show ∀ W,Below w.heap.size w W->Si none W (.slice g7 nb d7) nb y from fun W h=>hy.kept (z0b h none));clear hy;have i3:=qh h6;clear h6;have s:=qh (show ∀ W,Below w.heap.size w W->Tab W from fun W h=>ht.below h nlr);clear ht;have c:=qh (Below.refl w.heap.size w);obtain⟨w1,U⟩:=exq (w.alloc (.cells #[.int .i64 D.kind,.int .i64 D.start,.string D.lead,.slice e9 D.n h0] 24));obtain⟨i1,a8⟩:=exq (w.heap.size);have h8:w1.heap.size=w.heap.size+1:=by rw[U];simp
 have hb:Below w.heap.size w w1:=by rw[U];exact(Below.refl _ w).alloc nlr _
 have hh:w1.heap[i1]?=some (.cells #[.int .i64 D.kind,.int .i64 D.start,.string D.lead,.slice e9 D.n h0] 24 (0,0)):=by rw[a8,U];exact heap_alloc_new w _
 replace c:=qh (c.out.trans (hb.mono c.out.size));clear hb;have g:=qh hh;clear hh;obtain⟨bA,c9⟩:∃ x,x=i1:=⟨_,rfl⟩;rw[<- c9] at g
 go_enter func8,ntmps8
 obtain⟨⟨m0,m1,E,H⟩,_⟩:=cells4 g.out;rw[U] at m0 m1 E H;rw[c9,a8] at m0 m1 E H;have d:=qh (x1y w1 (c7.out w1 c.out) k.out)
 go_wp2_with fail
 clear m0 m1 E H;rw[<- a8,<- U];rw[<- c9];clear U h8 a8;clear c9;refine d.out.mono ?_;rintro r w2 ⟨i2,rfl,g4,hb⟩;replace g:=qh ((hb.block _ (lt_of_block g.out)).trans g.out);replace c:=qh (c.out.trans (hb.mono c.out.size));clear hb;clear d;cases i2
 rotate_left
 ·skip
  clear g4;have d:=qh (z2a w2 (s.out w2 c.out))
  go_wp2_with fail
  refine d.out.mono ?_;rintro r w3 ⟨rfl,hb⟩;replace g:=qh ((hb.block _ (lt_of_block g.out)).trans g.out);replace c:=qh (c.out.trans (hb.mono c.out.size));clear hb;clear d;go_wp2;go_ret;exact⟨rfl,c.out⟩
 have m:=qh (show ¬ (8<D.n\/30<z0f D D.n) from fun h=>by cases g4.2 h);clear g4;obtain⟨w4,a3⟩:=exq (w2.alloc (.cells #[.slice f8 na e5,.slice g7 nb d7] 25));obtain⟨i4,b3⟩:=exq (w2.heap.size);have h4:w4.heap.size=w2.heap.size+1:=by rw[a3];simp
 have hb:Below w2.heap.size w2 w4:=by rw[a3];exact(Below.refl _ w2).alloc nlr _
 have hk:w4.heap[i4]?=some (.cells #[.slice f8 na e5,.slice g7 nb d7] 25 (0,0)):=by rw[b3,a3];exact heap_alloc_new w2 _
 replace g:=qh ((hb.block _ (lt_of_block g.out)).trans g.out);replace c:=qh (c.out.trans (hb.mono c.out.size));clear hb;have HF:=qh (v4c w4 (cellOf hk 0 rfl) (cellOf hk 1 rfl) (b2.out w4 c.out) (b4.out w4 c.out) i6.out i3.out);clear hk;have d:=qh (HF.out)
 go_wp2_with fail
 rw[<- b3,<- a3];clear a3 h4 b3;refine d.out.mono ?_;rintro r w5 ⟨bf,rfl,g8,hb⟩;replace g:=qh ((hb.block _ (lt_of_block g.out)).trans g.out);replace c:=qh (c.out.trans (hb.mono c.out.size));clear hb;clear d;clear HF;cases bf
 rotate_left
 ·skip
  clear g8;have d:=qh (z2a w5 (s.out w5 c.out))
  go_wp2_with fail
  refine d.out.mono ?_;rintro r w6 ⟨rfl,hb⟩;replace g:=qh ((hb.block _ (lt_of_block g.out)).trans g.out);replace c:=qh (c.out.trans (hb.mono c.out.size));clear hb;clear d;go_wp2;go_ret;exact⟨rfl,c.out⟩
 have C:=qh (v8r fun h=>by cases g8.2 h);clear g8;obtain⟨⟨m0,m1,E,H⟩,_⟩:=cells4 g.out;have d:=qh (z2g w5 (c7.out w5 c.out) k.out (s.out w5 c.out))
 go_wp2_with fail
 clear m0 m1 E H;refine d.out.mono ?_;rintro r w7 ⟨hb,hr⟩;replace g:=qh ((hb.block _ (lt_of_block g.out)).trans g.out);replace c:=qh (c.out.trans (hb.mono c.out.size));clear hb;clear d
 rcases hr with ⟨hv,rfl⟩|⟨hv,rfl⟩
 rotate_left
 ·skip
  have d:=qh (z2a w7 (s.out w7 c.out))
  go_wp2_with fail
  refine d.out.mono ?_;rintro r w8 ⟨rfl,hb⟩;replace g:=qh ((hb.block _ (lt_of_block g.out)).trans g.out);replace c:=qh (c.out.trans (hb.mono c.out.size));clear hb;clear d;go_wp2;go_ret;exact⟨rfl,c.out⟩
 have I:=qh hv;clear hv;obtain⟨⟨m0,m1,E,H⟩,_⟩:=cells4 g.out;have d:=qh (y1d w7 (c7.out w7 c.out) k.out (s.out w7 c.out))
 go_wp2_with fail
 clear m0 m1 E H;refine d.out.mono ?_;rintro r w9 ⟨hb,hr⟩;replace g:=qh ((hb.block _ (lt_of_block g.out)).trans g.out);replace c:=qh (c.out.trans (hb.mono c.out.size));clear hb;clear d;have hr:(VM (D)/\∃ sv R,r=.returned (.tuple #[.agg #[.int .i64 (D.kind),.int .i64 (D.start),.string (D.lead),sv],.int .i64 0])/\OwM w9 _ sv (D.inv) R)\/(¬ VM (D)/\r=.returned (.tuple #[z7m,.int .i64 1])):=hr
 rcases hr with ⟨_,b8,R,rfl,i⟩|⟨j,_⟩
 rotate_left
 ·exact absurd I.out j
 obtain⟨g3,e2,l,_,_⟩:=z0y i.top;have l:_=Value.slice g3 D.n e2:=l;subst l;obtain⟨a7,J⟩:=exq (w9.alloc (.cells #[.int .i64 (D.kind),.int .i64 (D.start),.string (D.lead),.slice g3 D.n e2] 24));obtain⟨b1,Z⟩:=exq (w9.heap.size);have f7:a7.heap.size=w9.heap.size+1:=by rw[J];simp
 have hb:Below w9.heap.size w9 a7:=by rw[J];exact(Below.refl _ w9).alloc nlr _
 have hh:Has a7 b1 (D.kind) (D.start) (D.lead) g3 D.n e2 (D.inv):=by rw[Z,J];exact Has.new i ⟨rfl,rfl,rfl⟩
 clear i;have b5:bA≠b1:=by have:=lt_of_block g.out;omega
 have LN:w.heap.size<=b1:=by have:=c.out.size;omega
 replace g:=qh ((hb.block _ (lt_of_block g.out)).trans g.out);replace c:=qh (c.out.trans (hb.mono c.out.size));clear hb;have p:=qh hh;clear hh;obtain⟨bN,d3⟩:∃ x,x=b1:=⟨_,rfl⟩;rw[<- d3] at p b5 LN;obtain⟨⟨m0,m1,E,H⟩,_⟩:=cells4 p.out.1;rw[J] at m0 m1 E H;rw[d3,Z] at m0 m1 E H;have d:=qh (y1d a7 p.out.ma ({ k.out with }:MSz (D.inv)) (s.out a7 c.out))
 go_wp2_with fail
 clear m0 m1 E H;rw[<- Z,<- J];rw[<- d3];clear J f7 Z;clear d3;refine d.out.mono ?_;rintro r d2 ⟨hb,hr⟩;replace p:=qh (p.out.on hb);replace g:=qh ((hb.block _ (lt_of_block g.out)).trans g.out);replace c:=qh (c.out.trans (hb.mono c.out.size));clear hb;clear d;have hr:(VM (D.inv)/\∃ sv R,r=.returned (.tuple #[.agg #[.int .i64 (D.kind),.int .i64 (D.start),.string (D.lead),sv],.int .i64 0])/\OwM d2 _ sv (D) R)\/(¬ VM (D.inv)/\r=.returned (.tuple #[z7m,.int .i64 1])):=hr
 rcases hr with ⟨_,b8,R,rfl,i⟩|⟨j,_⟩
 rotate_left
 ·exact absurd I.out.inv j
 obtain⟨b9,b7,l,_,_⟩:=z0y i.top;have l:_=Value.slice b9 D.n b7:=l;subst l;obtain⟨⟨r0,r1,r2,r3⟩,N⟩:=cells4 p.out.1;have f0:=N 0;have f1:=N 1;have f2:=N 2;have f3:=N 3;clear N;obtain⟨X,F⟩:∃ X,X=(((d2.setCell ⟨bN,0,none⟩ (.int .i64 (D.kind))).setCell ⟨bN,1,none⟩ (.int .i64 (D.start))).setCell ⟨bN,2,none⟩ (.string (D.lead))).setCell ⟨bN,3,none⟩ (.slice b9 D.n b7):=⟨_,rfl⟩;have g1:X.heap.size=d2.heap.size:=by rw[F];simp[World.setCell]
 replace g:=qh ((show X.heap[bA]?=d2.heap[bA]? from by rw[F,z0e b5,z0e b5,z0e b5,z0e b5]).trans g.out);replace c:=qh (show Below w.heap.size w X from by rw[F];exact z0d c.out LN _ _ _ _);replace p:=qh (show Has X bN (D.kind) (D.start) (D.lead) b9 D.n b7 (D) from by rw[F];exact Has.put i p.out.1 ⟨rfl,rfl,rfl⟩);clear i;obtain⟨⟨m0,m1,E,H⟩,_⟩:=cells4 g.out;rw[F] at m0 m1 E H;have d:=qh (z5p (D:=D) X (c7.out X c.out) k.out (s.out X c.out))
 go_wp2_with fail
 clear m0 m1 E H;rw[<- F];clear F g1;refine d.out.mono ?_;rintro r b0 ⟨hb,hr⟩;replace p:=qh (p.out.on hb);replace g:=qh ((hb.block _ (lt_of_block g.out)).trans g.out);replace c:=qh (c.out.trans (hb.mono c.out.size));clear hb;clear d
 rcases hr with ⟨_,_,b8,R,rfl,i⟩|⟨_,j,_⟩|⟨j,_⟩
 rotate_left
 ·exact absurd (z5b I.out k.out m.out) j
 ·exact absurd I.out j
 obtain⟨e8,d8,l,_,_⟩:=z0y i.top;have l:_=Value.slice e8 (revD D).n d8:=l;subst l;obtain⟨T,L⟩:=exq (b0.alloc (.cells #[.int .i64 (D.kind),.int .i64 ((D.n:Int)),.string (D.lead),.slice e8 (revD D).n d8] 24));obtain⟨a6,a5⟩:=exq (b0.heap.size);have e0:T.heap.size=b0.heap.size+1:=by rw[L];simp
 have hb:Below b0.heap.size b0 T:=by rw[L];exact(Below.refl _ b0).alloc nlr _
 have hh:Has T a6 (D.kind) ((D.n:Int)) (D.lead) e8 (revD D).n d8 (revD D):=by rw[a5,L];exact Has.new i ⟨(z2c D).symm,(z8i D).symm,(z3a D).symm⟩
 clear i;have d1:bN≠a6:=by have:=lt_of_block p.out.1;omega
 have K:bA≠a6:=by have:=lt_of_block g.out;omega
 have LC:w.heap.size<=a6:=by have:=c.out.size;omega
 replace p:=qh (p.out.on hb);replace g:=qh ((hb.block _ (lt_of_block g.out)).trans g.out);replace c:=qh (c.out.trans (hb.mono c.out.size));clear hb;have o:=qh hh;clear hh;obtain⟨bC,g0⟩:∃ x,x=a6:=⟨_,rfl⟩;rw[<- g0] at o d1 K LC;obtain⟨⟨m0,m1,E,H⟩,_⟩:=cells4 g.out;rw[L] at m0 m1 E H;have d:=qh (z6v (D:=D) T (c7.out T c.out) k.out (s.out T c.out) (b2.out T c.out) (b4.out T c.out) (by have:=C.out.1.1;omega) (by have:=C.out.2.1;omega))
 go_wp2_with fail
 clear m0 m1 E H;rw[<- a5,<- L];rw[<- g0];clear L e0 a5;clear g0;refine d.out.mono ?_;rintro r d0 ⟨hb,⟨d6,h5⟩,rfl,hz⟩;replace p:=qh (p.out.on hb);replace o:=qh (o.out.on hb);replace g:=qh ((hb.block _ (lt_of_block g.out)).trans g.out);replace c:=qh (c.out.trans (hb.mono c.out.size));clear hb;clear d
 rcases hz with ⟨_,_,_,O⟩|⟨j,_⟩
 rotate_left
 ·exact absurd ⟨I.out,C.out.1.2,C.out.2.2⟩ j
 have d9:=qh O;clear O;obtain⟨⟨m0,m1,E,H⟩,_⟩:=cells4 p.out.1;have d:=qh (z6v (D:=D) d0 p.out.ma k.out (s.out d0 c.out) (b2.out d0 c.out) (b4.out d0 c.out) (by have:=C.out.1.1;omega) (by have:=C.out.2.1;omega))
 go_wp2_with fail
 clear m0 m1 E H;refine d.out.mono ?_;rintro r a9 ⟨hb,⟨i7,h1⟩,rfl,hz⟩;replace p:=qh (p.out.on hb);replace o:=qh (o.out.on hb);replace g:=qh ((hb.block _ (lt_of_block g.out)).trans g.out);replace c:=qh (c.out.trans (hb.mono c.out.size));clear hb;clear d
 rcases hz with ⟨_,_,_,O⟩|⟨j,_⟩
 rotate_left
 ·exact absurd ⟨I.out,C.out.1.2,C.out.2.2⟩ j
 have h2:=qh O;clear O;by_cases Q:h5=0
 ·skip
  subst Q;by_cases Q:h1=0
  ·skip
   subst Q;have h7:d6=i7:=Wv.same I.out d9.out h2.out rfl rfl;subst h7;clear h2;obtain⟨⟨m0,m1,E,H⟩,_⟩:=cells4 o.out.1;have d:=qh (z5p (D:=revD D) a9 o.out.ma (z6h I.out k.out) (s.out a9 c.out))
   go_wp2_with fail
   clear m0 m1 E H;refine d.out.mono ?_;rintro r e6 ⟨hb,hr⟩;replace p:=qh (p.out.on hb);replace o:=qh (o.out.on hb);replace g:=qh ((hb.block _ (lt_of_block g.out)).trans g.out);replace c:=qh (c.out.trans (hb.mono c.out.size));clear hb;clear d
   rcases hr with ⟨_,_,b8,R,a1,i⟩|⟨_,j,_⟩|⟨j,_⟩
   rotate_left
   ·exact absurd (z5m I.out k.out m.out) j
   ·exact absurd (z5b I.out k.out m.out) j
   rw[z2c,z3a] at a1;subst a1;obtain⟨z,A,l,_,_⟩:=z0y i.top;have l:_=Value.slice z (revD (revD D)).n A:=l;subst l;obtain⟨⟨r0,r1,r2,r3⟩,N⟩:=cells4 o.out.1;have f0:=N 0;have f1:=N 1;have f2:=N 2;have f3:=N 3;clear N;obtain⟨S,B⟩:∃ S,S=(((e6.setCell ⟨bC,0,none⟩ (.int .i64 (D.kind))).setCell ⟨bC,1,none⟩ (.int .i64 (((revD D).n:Int)))).setCell ⟨bC,2,none⟩ (.string (D.lead))).setCell ⟨bC,3,none⟩ (.slice z (revD (revD D)).n A):=⟨_,rfl⟩;have e7:S.heap.size=e6.heap.size:=by rw[B];simp[World.setCell]
   replace p:=qh (show Has S bN _ _ _ _ _ _ _ from by rw[B];exact p.out.set o.out.1 d1 _ _ _ _);replace g:=qh ((show S.heap[bA]?=e6.heap[bA]? from by rw[B,z0e K,z0e K,z0e K,z0e K]).trans g.out);replace c:=qh (show Below w.heap.size w S from by rw[B];exact z0d c.out LC _ _ _ _);replace o:=qh (show Has S bC (D.kind) (((revD D).n:Int)) (D.lead) z (revD (revD D)).n A (revD (revD D)) from by rw[B];exact Has.put i o.out.1 ⟨((z2c _).trans (z2c D)).symm,(z8i _).symm,((z3a _).trans (z3a D)).symm⟩);clear i;obtain⟨⟨m0,m1,E,H⟩,_⟩:=cells4 o.out.1;rw[B] at m0 m1 E H;have d:=qh (z6v (D:=revD (revD D)) S o.out.ma (z6h (z5b I.out k.out m.out) (z6h I.out k.out)) (s.out S c.out) (b2.out S c.out) (b4.out S c.out) (by have:=C.out.1.1;omega) (by have:=C.out.2.1;omega))
   go_wp2_with fail
   clear m0 m1 E H;rw[<- B];clear B e7;refine d.out.mono ?_;rintro r d4 ⟨hb,⟨f9,b6⟩,rfl,hz⟩;replace p:=qh (p.out.on hb);replace o:=qh (o.out.on hb);replace g:=qh ((hb.block _ (lt_of_block g.out)).trans g.out);replace c:=qh (c.out.trans (hb.mono c.out.size));clear hb;clear d
   rcases hz with ⟨_,_,_,O⟩|⟨j,_⟩
   rotate_left
   ·exact absurd ⟨(z5m I.out k.out m.out),C.out.1.2,C.out.2.2⟩ j
   have g5:=qh O;clear O;by_cases Q:b6=0
   ·skip
    subst Q;have a4:d6=f9:=(Wv.rev2 I.out (z5b I.out k.out m.out) (z5m I.out k.out m.out) g5.out d9.out rfl rfl).symm;subst a4;have d:=qh (z2a d4 (s.out d4 c.out))
    go_wp2_with fail
    refine d.out.mono ?_;rintro r i8 ⟨rfl,hb⟩;replace p:=qh (p.out.on hb);replace o:=qh (o.out.on hb);replace g:=qh ((hb.block _ (lt_of_block g.out)).trans g.out);replace c:=qh (c.out.trans (hb.mono c.out.size));clear hb;clear d;go_wp2;go_ret;exact⟨rfl,c.out⟩
   skip
   have f5:¬ ((b6:Int)=0):=by omega
   clear Q;have d:=qh (z2a d4 (s.out d4 c.out))
   go_wp2_with fail
   refine d.out.mono ?_;rintro r i9 ⟨rfl,hb⟩;replace p:=qh (p.out.on hb);replace o:=qh (o.out.on hb);replace g:=qh ((hb.block _ (lt_of_block g.out)).trans g.out);replace c:=qh (c.out.trans (hb.mono c.out.size));clear hb;clear d;go_wp2;go_ret;exact⟨rfl,c.out⟩
  skip
  have f5:¬ ((h1:Int)=0):=by omega
  clear Q;obtain⟨⟨m0,m1,E,H⟩,_⟩:=cells4 o.out.1;have d:=qh (z5p (D:=revD D) a9 o.out.ma (z6h I.out k.out) (s.out a9 c.out))
  go_wp2_with fail
  clear m0 m1 E H;refine d.out.mono ?_;rintro r g2 ⟨hb,hr⟩;replace p:=qh (p.out.on hb);replace o:=qh (o.out.on hb);replace g:=qh ((hb.block _ (lt_of_block g.out)).trans g.out);replace c:=qh (c.out.trans (hb.mono c.out.size));clear hb;clear d
  rcases hr with ⟨_,_,b8,R,a1,i⟩|⟨_,j,_⟩|⟨j,_⟩
  rotate_left
  ·exact absurd (z5m I.out k.out m.out) j
  ·exact absurd (z5b I.out k.out m.out) j
  rw[z2c,z3a] at a1;subst a1;obtain⟨z,A,l,_,_⟩:=z0y i.top;have l:_=Value.slice z (revD (revD D)).n A:=l;subst l;obtain⟨⟨r0,r1,r2,r3⟩,N⟩:=cells4 o.out.1;have f0:=N 0;have f1:=N 1;have f2:=N 2;have f3:=N 3;clear N;obtain⟨P,u⟩:∃ P,P=(((g2.setCell ⟨bC,0,none⟩ (.int .i64 (D.kind))).setCell ⟨bC,1,none⟩ (.int .i64 (((revD D).n:Int)))).setCell ⟨bC,2,none⟩ (.string (D.lead))).setCell ⟨bC,3,none⟩ (.slice z (revD (revD D)).n A):=⟨_,rfl⟩;have e4:P.heap.size=g2.heap.size:=by rw[u];simp[World.setCell]
  replace p:=qh (show Has P bN _ _ _ _ _ _ _ from by rw[u];exact p.out.set o.out.1 d1 _ _ _ _);replace g:=qh ((show P.heap[bA]?=g2.heap[bA]? from by rw[u,z0e K,z0e K,z0e K,z0e K]).trans g.out);replace c:=qh (show Below w.heap.size w P from by rw[u];exact z0d c.out LC _ _ _ _);replace o:=qh (show Has P bC (D.kind) (((revD D).n:Int)) (D.lead) z (revD (revD D)).n A (revD (revD D)) from by rw[u];exact Has.put i o.out.1 ⟨((z2c _).trans (z2c D)).symm,(z8i _).symm,((z3a _).trans (z3a D)).symm⟩);clear i;obtain⟨⟨m0,m1,E,H⟩,_⟩:=cells4 o.out.1;rw[u] at m0 m1 E H;have d:=qh (z6v (D:=revD (revD D)) P o.out.ma (z6h (z5b I.out k.out m.out) (z6h I.out k.out)) (s.out P c.out) (b2.out P c.out) (b4.out P c.out) (by have:=C.out.1.1;omega) (by have:=C.out.2.1;omega))
  go_wp2_with fail
  clear m0 m1 E H;rw[<- u];clear u e4;refine d.out.mono ?_;rintro r c8 ⟨hb,⟨f9,b6⟩,rfl,hz⟩;replace p:=qh (p.out.on hb);replace o:=qh (o.out.on hb);replace g:=qh ((hb.block _ (lt_of_block g.out)).trans g.out);replace c:=qh (c.out.trans (hb.mono c.out.size));clear hb;clear d
  rcases hz with ⟨_,_,_,O⟩|⟨j,_⟩
  rotate_left
  ·exact absurd ⟨(z5m I.out k.out m.out),C.out.1.2,C.out.2.2⟩ j
  have g5:=qh O;clear O;by_cases Q:b6=0
  ·skip
   subst Q;have a4:d6=f9:=(Wv.rev2 I.out (z5b I.out k.out m.out) (z5m I.out k.out m.out) g5.out d9.out rfl rfl).symm;subst a4;have d:=qh (z2a c8 (s.out c8 c.out))
   go_wp2_with fail
   refine d.out.mono ?_;rintro r j3 ⟨rfl,hb⟩;replace p:=qh (p.out.on hb);replace o:=qh (o.out.on hb);replace g:=qh ((hb.block _ (lt_of_block g.out)).trans g.out);replace c:=qh (c.out.trans (hb.mono c.out.size));clear hb;clear d;go_wp2;go_ret;exact⟨rfl,c.out⟩
  skip
  have f5:¬ ((b6:Int)=0):=by omega
  clear Q;have d:=qh (z2a c8 (s.out c8 c.out))
  go_wp2_with fail
  refine d.out.mono ?_;rintro r j1 ⟨rfl,hb⟩;replace p:=qh (p.out.on hb);replace o:=qh (o.out.on hb);replace g:=qh ((hb.block _ (lt_of_block g.out)).trans g.out);replace c:=qh (c.out.trans (hb.mono c.out.size));clear hb;clear d;go_wp2;go_ret;exact⟨rfl,c.out⟩
 skip
 have f5:¬ ((h5:Int)=0):=by omega
 clear Q;obtain⟨⟨m0,m1,E,H⟩,_⟩:=cells4 o.out.1;have d:=qh (z5p (D:=revD D) a9 o.out.ma (z6h I.out k.out) (s.out a9 c.out))
 go_wp2_with fail
 clear m0 m1 E H;refine d.out.mono ?_;rintro r e1 ⟨hb,hr⟩;replace p:=qh (p.out.on hb);replace o:=qh (o.out.on hb);replace g:=qh ((hb.block _ (lt_of_block g.out)).trans g.out);replace c:=qh (c.out.trans (hb.mono c.out.size));clear hb;clear d
 rcases hr with ⟨_,_,b8,R,a1,i⟩|⟨_,j,_⟩|⟨j,_⟩
 rotate_left
 ·exact absurd (z5m I.out k.out m.out) j
 ·exact absurd (z5b I.out k.out m.out) j
 rw[z2c,z3a] at a1;subst a1;obtain⟨z,A,l,_,_⟩:=z0y i.top;have l:_=Value.slice z (revD (revD D)).n A:=l;subst l;obtain⟨⟨r0,r1,r2,r3⟩,N⟩:=cells4 o.out.1;have f0:=N 0;have f1:=N 1;have f2:=N 2;have f3:=N 3;clear N;obtain⟨Y,G⟩:∃ Y,Y=(((e1.setCell ⟨bC,0,none⟩ (.int .i64 (D.kind))).setCell ⟨bC,1,none⟩ (.int .i64 (((revD D).n:Int)))).setCell ⟨bC,2,none⟩ (.string (D.lead))).setCell ⟨bC,3,none⟩ (.slice z (revD (revD D)).n A):=⟨_,rfl⟩;have e3:Y.heap.size=e1.heap.size:=by rw[G];simp[World.setCell]
 replace p:=qh (show Has Y bN _ _ _ _ _ _ _ from by rw[G];exact p.out.set o.out.1 d1 _ _ _ _);replace g:=qh ((show Y.heap[bA]?=e1.heap[bA]? from by rw[G,z0e K,z0e K,z0e K,z0e K]).trans g.out);replace c:=qh (show Below w.heap.size w Y from by rw[G];exact z0d c.out LC _ _ _ _);replace o:=qh (show Has Y bC (D.kind) (((revD D).n:Int)) (D.lead) z (revD (revD D)).n A (revD (revD D)) from by rw[G];exact Has.put i o.out.1 ⟨((z2c _).trans (z2c D)).symm,(z8i _).symm,((z3a _).trans (z3a D)).symm⟩);clear i;have d:=qh (z2a Y (s.out Y c.out))
 go_wp2_with fail
 rw[<- G];clear G e3;refine d.out.mono ?_;rintro r j2 ⟨rfl,hb⟩;replace p:=qh (p.out.on hb);replace o:=qh (o.out.on hb);replace g:=qh ((hb.block _ (lt_of_block g.out)).trans g.out);replace c:=qh (c.out.trans (hb.mono c.out.size));clear hb;clear d;go_wp2;go_ret;exact⟨rfl,c.out⟩
end
section
open Go.RowKit Go.Deep Go.ChangeShapes Go.WideShapes
end
section
open Go.RowKit Go.Deep Go.ChangeShapes Go.WideShapes Go.Joins
theorem z9b {H:Type} {P:Program} {e:TypeId} {d:DataW H} {n:Nat}:∀ {ds:List (DataW H)},d ∈ ds->n ∈ d.weights P e->n ∈ DataW.weightsAll P e ds
 | d0::r,h,hn=>by
  simp only[DataW.weightsAll,List.mem_append]
  rcases List.mem_cons.1 h with rfl|h
  ·exact .inl hn
  exact .inr (z9b h hn)
theorem y2i {H:Type} {t e:TypeId} {c d:List (DataW H)} (g:prog.underlying t=some (.slice e)) (i:1<=prog.bytesOf e) {b:Nat} (hb:∀ m ∈ (DataW.slice c d).weights prog t,m<=b):c.length<=b:=by
 have h:=hb ((c.length+d.length)*prog.bytesOf e) (by simp[DataW.weights,g]);have:=Nat.le_mul_of_pos_right (c.length+d.length) i;omega
theorem x0k {H:Type} {t e:TypeId} {c i:List (DataW H)} {d:DataW H} {m:Nat} (h:prog.underlying t=some (.slice e)) (j:d ∈ c) (g:m ∈ d.weights prog e):m ∈ (DataW.slice c i).weights prog t:=by
 simp only[DataW.weights,h,List.mem_cons,List.mem_append];exact .inr (.inl (z9b j g))
theorem v4h {H:Type} {enc:TypeId × Value->H} {W:World} {C:Bool} {u:Nat} {v:Value} {x:DataW H × List MemPlace} (h:DataW.trod enc prog W 0 (fun _=>true) C u 55 [v]=some x) :
  ∃ (n:Nat) (fi fo ft:Nat->Int) (fw:Nat->ByteArray),(∀ (D:MD) (i:Nat),D.na i=n->D.ain i=fi->D.aout i=fo->D.aw i=fw->D.ato i=ft->ArS none W v D i)/\(∀ j,(fw j).size<=maxLen) /\
   ∀ b,(∀ m ∈ x.1.weights prog 55,m<=b)->n<=b:=by
 rcases open_slice underlying55 h with ⟨g,_⟩|⟨a,len,a1,m,n',D,Pl,g,_,hl,Y,l,N,hx⟩
 ·simp only[List.cons.injEq,and_true] at g;exact⟨0,fun _=>0,fun _=>0,fun _=>0,fun _=>⟨#[]⟩,fun D i G _ _ _ _=>.inl ⟨G,none,0,g,Nat.zero_le _⟩,fun _=>Nat.zero_le _,fun _ _=>Nat.zero_le _⟩
 simp only[List.cons.injEq,and_true] at g;simp only[if_true] at l;subst l;have c4:prog.cellsOf 59=4:=by kernel_rfl
 have ci:prog.cellsOf 3=1:=by kernel_rfl
 have cs:prog.cellsOf 9=1:=by kernel_rfl
 classical
 have d:∀ i,∃ t:Int × Int × ByteArray × Int,t.2.2.1.size<=maxLen/\(i<m->W.cell? (a.add (i*4))=some (.int .i64 t.1)/\W.cell? (a.add (i*4+1))=some (.int .i64 t.2.1)/\W.cell? (a.add (i*4+2))=some (.string t.2.2.1)/\W.cell? (a.add (i*4+3))=some (.int .i64 t.2.2.2)):=fun i=>by
  by_cases hi:i<m
  ·obtain⟨L,E,I⟩:=hx i hi;rw[c4] at E;obtain⟨_,A,c⟩:=World.cells?_some E;obtain⟨y0,y1,y2,y3,k,_,_,Q,S,Z,R⟩:=trod_struct4 underlying59 I
   match L,A with
   | [v0,v1,v2,v3],_ =>
    simp only[ci,cs,List.drop_zero,List.drop_succ_cons,List.take_succ_cons,List.take_zero] at Q S Z R;obtain⟨z0,e0,_⟩:=DataW.trod_int underlying3 Q;obtain⟨O,e1,_⟩:=DataW.trod_int underlying3 S;obtain⟨U,e2,_,F⟩:=DataW.trod_string underlying9 Z;obtain⟨X,e3,_⟩:=DataW.trod_int underlying3 R;obtain rfl:v0=.int .i64 z0:=by simpa using e0
    obtain rfl:v1=.int .i64 O:=by simpa using e1
    obtain rfl:v2=.string U:=by simpa using e2
    obtain rfl:v3=.int .i64 X:=by simpa using e3
    have s:=c 0 (by omega);have B:=c 1 (by omega);have o:=c 2 (by omega);have z:=c 3 (by omega);rw[add_add] at s B o z;exact⟨(z0,O,U,X),F,fun _=>⟨by simpa using s,by simpa using B,by simpa using o,by simpa using z⟩⟩
  exact⟨(0,0,⟨#[]⟩,0),Nat.zero_le _,fun h=>absurd h hi⟩
 obtain⟨T,K⟩:∃ T:Nat->Int × Int × ByteArray × Int,∀ i,(T i).2.2.1.size<=maxLen/\(i<m->W.cell? (a.add (i*4))=some (.int .i64 (T i).1)/\W.cell? (a.add (i*4+1))=some (.int .i64 (T i).2.1)/\W.cell? (a.add (i*4+2))=some (.string (T i).2.2.1)/\W.cell? (a.add (i*4+3))=some (.int .i64 (T i).2.2.2)) :=
  ⟨fun i=>Classical.choose (d i),fun i=>Classical.choose_spec (d i)⟩
 refine⟨len,fun i=>(T i).1,fun i=>(T i).2.1,fun i=>(T i).2.2.2,fun i=>(T i).2.2.1,fun D i p E I h3 h4=>?_,fun j=>(K j).1,fun b hb=>?_⟩
 ·by_cases G:len=0
  ·rw[G] at p g;exact .inl ⟨p,some a,m,g,Y⟩
  have c0:=((K 0).2 (by omega)).1;have P:a.spot=none:=by simpa [Addr.add] using World.cell?_spot c0
  obtain⟨b,J,sp⟩:=a;simp only at P;subst P;refine .inr ⟨b,J,m,by rw[p];exact g,⟨?_,by simp⟩,by rw[p];exact hl,Y,fun j hj=>?_⟩
  ·have:=World.block_lt_of_cell? _ _ c0;rw[Addr.add_lit] at this;exact this
  rw[p] at hj;obtain⟨s,B,o,z⟩:=(K j).2 (by omega);rw[Addr.add_lit] at s B o z;rw[E,I,h3,h4];exact⟨s,by rw[Nat.add_assoc];exact B,by rw[Nat.add_assoc];exact o,by rw[Nat.add_assoc];exact z⟩
 rw[N] at hb;have:=y2i underlying55 (by decide +kernel) hb
 simpa using this
theorem u4a {H:Type} {enc:TypeId × Value->H} {W:World} {r:Reach} {S:Nat} {z:Bool} {v:Value} {d:DataW H} {p:List MemPlace} (hv:Value.okWide prog W r S 24 v) (h:DataW.Trod enc prog W 0 (fun _=>true) z 24 v d p)
  (hw:∀ m ∈ d.weights prog 24,m<=reachBytes):∃ D,Ma none W v D/\MSz D:=by
 obtain⟨v0,v1,Q,v3,y0,y1,y2,y3,n,rfl,rfl,rfl,t0,t1,t2,t3⟩:=open_agg4 underlying24 (by kernel_rfl) (by kernel_rfl) hv h;obtain⟨z0,U,_,T⟩:=DataW.trod_int underlying3 t0;obtain⟨J,e1,_,w1⟩:=DataW.trod_int underlying3 t1;obtain⟨G,e2,_,N⟩:=DataW.trod_string underlying9 t2;obtain rfl:v0=.int .i64 z0:=by simpa using U
 obtain rfl:v1=.int .i64 J:=by simpa using e1
 obtain rfl:Q=.string G:=by simpa using e2
 have g:∀ m ∈ y3.1.weights prog 22,m<=reachBytes:=fun m C=>hw m (by
  simp only[DataW.weights,underlying24,DataW.weightsEach,List.map_cons,List.mem_append,List.map_nil];exact .inr (.inr (.inr (.inl C))))
 have A:-9223372036854775808<=z0/\z0<=9223372036854775807:=by
  simp[Lit.wf,IntKind.min,IntKind.max,IntKind.signed,IntKind.bits] at T;omega
 have P:reachBytes<=140737488355328:=by decide
 rcases open_slice_pairs underlying22 underlying57 (by kernel_rfl) rfl rfl (by kernel_rfl) (by kernel_rfl) t3 with ⟨k,_⟩|⟨a,len,a1,m,n',R,L,D0,D1,P0,P1,k,_,hl,C,l,u,I⟩
 ·simp only[List.cons.injEq,and_true] at k;exact⟨{ kind:=z0,start:=J,lead:=G,n:=0,fin:=fun _=>⟨#[]⟩,na:=fun _=>0,ain:=fun _ _=>0,aout:=fun _ _=>0,aw:=fun _ _=>⟨#[]⟩,ato:=fun _ _=>0 },⟨_,rfl,.inl ⟨rfl,none,0,k,Nat.zero_le _⟩⟩,
   ⟨N,fun _=>Nat.zero_le _,fun _ _=>Nat.zero_le _,fun _=>Nat.zero_le _,Nat.zero_le _,A⟩⟩
 simp only[List.cons.injEq,and_true] at k;simp only[if_true] at l;subst l
 classical
 have c:∀ i,∃ t:ByteArray × Nat × (Nat->Int) × (Nat->Int) × (Nat->Int) × (Nat->ByteArray),t.1.size<=maxLen/\(∀ j,(t.2.2.2.2.2 j).size<=maxLen)/\t.2.1<=reachBytes /\
   (i<len->R i=.string t.1/\∀ (D:MD) (j:Nat),D.na j=t.2.1->D.ain j=t.2.2.1->D.aout j=t.2.2.2.1->D.aw j=t.2.2.2.2.2->D.ato j=t.2.2.2.2.1->ArS none W (L i) D j):=fun i=>by
  by_cases hi:i<len
  ·obtain⟨_,_,Y,g1⟩:=I i (by omega);obtain⟨s,e,_,B⟩:=DataW.trod_string underlying9 Y;obtain⟨na,fi,fo,ft,fw,h1,h2,h3⟩:=v4h g1;refine⟨(s,na,fi,fo,ft,fw),B,h2,h3 _ fun q hq=>g q ?_,fun _=>⟨by simpa using e,h1⟩⟩;rw[u];refine x0k underlying22 (List.mem_map.2 ⟨i,List.mem_range.2 hi,rfl⟩) ?_;simp only[DataW.weights,underlying57,DataW.weightsEach,List.map_cons,List.mem_append,List.map_nil];exact .inr (.inl hq)
  exact⟨(⟨#[]⟩,0,fun _=>0,fun _=>0,fun _=>0,fun _=>⟨#[]⟩),Nat.zero_le _,fun _=>Nat.zero_le _,Nat.zero_le _,fun h=>absurd h hi⟩
 have o:len<=reachBytes:=by
  rw[u] at g;have:=y2i underlying22 (by decide +kernel) g
  simpa using this
 refine⟨{ kind:=z0,start:=J,lead:=G,n:=len,fin:=fun i=>(Classical.choose (c i)).1,na:=fun i=>(Classical.choose (c i)).2.1,ain:=fun i=>(Classical.choose (c i)).2.2.1,aout:=fun i=>(Classical.choose (c i)).2.2.2.1,aw:=fun i=>(Classical.choose (c i)).2.2.2.2.2,ato:=fun i=>(Classical.choose (c i)).2.2.2.2.1 },⟨_,rfl,?_⟩,
  ⟨N,fun i=>(Classical.choose_spec (c i)).1,fun i=>(Classical.choose_spec (c i)).2.1,fun i=>Nat.le_trans (Classical.choose_spec (c i)).2.2.1 P,Nat.le_trans o P,A⟩⟩
 by_cases Z:len=0
 ·subst Z;exact .inl ⟨rfl,some a,m,k,C⟩
 have c0:=(I 0 (by omega)).1;have B:a.spot=none:=by simpa [Addr.add] using World.cell?_spot c0
 obtain⟨b,F,sp⟩:=a;simp only at B;subst B;refine .inr ⟨b,F,m,L,k,⟨?_,by simp⟩,hl,C,fun j O=>?_⟩
 ·have:=World.block_lt_of_cell? _ _ c0;rw[Addr.add_lit] at this;exact this
 obtain⟨E,K,_,_⟩:=I j (by have:j<len:=O;omega);obtain⟨X,uu2⟩:=(Classical.choose_spec (c j)).2.2.2 O;rw[Addr.add_lit] at E K;rw[X] at E;exact⟨E,by rw[Nat.add_assoc];exact K,uu2 _ j rfl rfl rfl rfl rfl⟩
end
section
open Go.RowKit Go.Deep Go.ChangeShapes Go.WideShapes
theorem x3i {H:Type} {enc:TypeId × Value->H} {W:World} {k:Bool} {l:Nat} {v:Value} {x:DataW H × List MemPlace} (h:DataW.trod enc prog W 0 (fun _=>true) k l 25 [v]=some x) :
  ∃ (n:Nat) (F:Nat->Int),Rd none W v n fun i=>.int .i64 (F i):=by
 rcases open_slice1 underlying25 (by kernel_rfl) h with ⟨d,_⟩|⟨a,len,E,m,G,V,D,Pl,d,_,C,s,g,_,o⟩
 ·simp only[List.cons.injEq,and_true] at d;exact⟨0,fun _=>0,.inl ⟨rfl,none,0,d,Nat.zero_le _⟩⟩
 simp only[List.cons.injEq,and_true] at d;simp only[if_true] at g;subst g
 classical
 have c:∀ i,∃ z:Int,i<m->V i=.int .i64 z:=fun i=>by
  by_cases hi:i<m
  ·obtain⟨z,B,_⟩:=DataW.trod_int underlying3 (o i hi).2;exact⟨z,fun _=>by simpa using B⟩
  exact⟨0,fun h=>absurd h hi⟩
 refine⟨len,fun i=>Classical.choose (c i),?_⟩;by_cases A:len=0
 ·subst A;exact .inl ⟨rfl,some a,m,d,s⟩
 have c0:=(o 0 (by omega)).1;have u:a.spot=none:=by simpa [Addr.add] using World.cell?_spot c0
 obtain⟨b,p,J⟩:=a;simp only at u;subst u;refine .inr ⟨b,p,m,d,⟨?_,by simp⟩,C,s,fun j I=>?_⟩
 ·have:=World.block_lt_of_cell? _ _ c0;rw[Addr.add_lit] at this;exact this
 have:=(o j (by omega)).1;rw[Addr.add_lit,Classical.choose_spec (c j) (by omega)] at this;exact this
end
end Go.Proofs.YteappjogmnogcaaGreatDoor
