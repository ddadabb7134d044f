/- Parts of a proof: ExW ArcW LwC SidV L10Output AM ArgI. -/
import Derived.Test.YteappjogmnogcaaGreatDoorU14
import Derived.Test.YteappjogmnogcaaGreatDoorU06
import Derived.Test.YteappjogmnogcaaGreatDoorU07
import Derived.Test.YteappjogmnogcaaGreatDoorU13
import Derived.Test.YteappjogmnogcaaGreatDoorU10
import Derived.Deep.Slices
import Derived.SliceStrings
import Derived.ChangeSlices
import Derived.Lib.SmallJoins
import Derived.Deep.SlicePairs
import Derived.SizedLaws
namespace Go.Proofs.YteappjogmnogcaaGreatDoor
set_option maxRecDepth 100000
set_option linter.unusedSimpArgs false
set_option linter.unusedVariables false
set_option linter.unusedSectionVars false
set_option maxHeartbeats 16000000
open Go Tryz
section
open Go.RowKit Go.Deep
def Has (W:World) (b:Nat) (k s:Int) (l:ByteArray) (a:Option Addr) (n c:Nat) (D:MD):Prop :=
 W.heap[b]?=some (.cells #[.int .i64 k,.int .i64 s,.string l,.slice a n c] 24 (0,0))/\(k=D.kind/\s=D.start/\l=D.lead)/\∃ R,OwM W 0 (.slice a n c) D R
theorem x5c {w c:World} {sv:Value} {D:MD} {B:Nat} {R:Nat->Value} (h:OwM w B sv D R) (hb:Below w.heap.size w c):OwM c B sv D R :=
 ⟨z2n h.top (z0b hb none) (fun _ _=>by simp),fun i hi=>z2n (h.row i hi) (z0b hb none) (fun _ _=>by simp),h.apart⟩
variable {W W':World} {b rb:Nat} {k s:Int} {l:ByteArray} {a:Option Addr} {n c:Nat} {D:MD}
theorem Has.on (h:Has W b k s l a n c D) (hb:Below W.heap.size W W'):Has W' b k s l a n c D:=⟨(hb.block b (lt_of_block h.1)).trans h.1,h.2.1,by obtain⟨R,d⟩:=h.2.2;exact⟨R,x5c d hb⟩⟩
theorem Has.ma (h:Has W b k s l a n c D):Ma none W (.agg #[.int .i64 k,.int .i64 s,.string l,.slice a n c]) D:=by
 obtain⟨_,⟨rfl,rfl,rfl⟩,R,d⟩:=h;exact d.ma blr
theorem Has.set (h:Has W b k s l a n c D) {c0 c1 c2 c3:Value} (i:W.heap[rb]?=some (.cells #[c0,c1,c2,c3] 24 (0,0))) (d:b≠rb) (g z u j:Value):Has ((((W.setCell ⟨rb,0,none⟩ g).setCell ⟨rb,1,none⟩ z).setCell ⟨rb,2,none⟩ u).setCell ⟨rb,3,none⟩ j) b k s l a n c D:=by
 obtain⟨o,p,R,m⟩:=h;refine⟨?_,p,R,m.box4 i _ _ _ _⟩;rw[z0e d,z0e d,z0e d,z0e d];exact o
theorem Has.new {B:Nat} {R:Nat->Value} (h:OwM W B (.slice a n c) D R) (e:k=D.kind/\s=D.start/\l=D.lead):Has (W.alloc (.cells #[.int .i64 k,.int .i64 s,.string l,.slice a n c] 24)) W.heap.size k s l a n c D :=
 ⟨heap_alloc_new W _,e,R,z4c (x5c h ((Below.refl _ W).alloc nlr _)) (Nat.zero_le _)⟩
theorem Has.put {B:Nat} {R:Nat->Value} {c0 c1 c2 c3:Value} (h:OwM W B (.slice a n c) D R) (d:W.heap[rb]?=some (.cells #[c0,c1,c2,c3] 24 (0,0))) (e:k=D.kind/\s=D.start/\l=D.lead):Has ((((W.setCell ⟨rb,0,none⟩ (.int .i64 k)).setCell ⟨rb,1,none⟩ (.int .i64 s)).setCell ⟨rb,2,none⟩ (.string l)).setCell ⟨rb,3,none⟩ (.slice a n c)) rb k s l a n c D :=
 ⟨z0w W rb _ _ _ _ d,e,R,z4c (h.box4 d _ _ _ _) (Nat.zero_le _)⟩
theorem v8r:AccD abD:=by
 have h:∀ q,q<abD.n->∀ d,d<abD.na q->abD.aout q d=abD.ain q d:=by decide +kernel
 exact fun q d g c=>h q g d c
theorem u3b:AccD kD:=by
 have h:∀ q,q<kD.n->∀ d,d<kD.na q->kD.aout q d=kD.ain q d:=by decide +kernel
 exact fun q d g c=>h q g d c
theorem u4z:dnOk (tmF (z0n abD.kind abD.lead kD.lead) 0) (kD.n+abD.n) (catA abD.inZ kD.outZ):=by unfold dnOk;decide +kernel
theorem z2y (w:World) (ht:Tab w):Calls prog 15 #[] w (TrueB w):=by
 have B:=qh (show ∀ W,Below w.heap.size w W->Tab W from fun W h=>ht.below h nlr);clear ht;have c:=qh (Below.refl w.heap.size w)
 go_enter func15,ntmps15
 go_wp2_with fail
 refine(v3k w).mono ?_;rintro r w1 ⟨hb,sv,rfl,hS⟩;replace c:=qh (c.out.trans (hb.mono c.out.size));clear hb;have d:=qh (y6m w1 (⟨_,rfl,hS⟩:Ma none w1 (.agg #[.int .i64 mD.kind,.int .i64 mD.start,.string mD.lead,sv]) mD) y7p (B.out w1 c.out));clear hS
 go_wp2_with fail
 refine d.out.mono ?_;rintro r w2 ⟨hb,hr⟩;replace c:=qh (c.out.trans (hb.mono c.out.size));clear hb;clear d
 rcases hr with ⟨_,J,R,rfl,g⟩|⟨A,_⟩
 rotate_left
 ·exact absurd v6j A
 obtain⟨n9,m9,z,_,_⟩:=z1e g.top;subst z;obtain⟨w3,b8⟩:=exq (w2.alloc (.cells #[.int .i64 (mD.inv.kind),.int .i64 (mD.inv.start),.string (mD.inv.lead),.slice n9 (mD.inv).n m9] 24));obtain⟨i3,g9⟩:=exq (w2.heap.size);have m5:w3.heap.size=w2.heap.size+1:=by rw[b8];simp
 have hb:Below w2.heap.size w2 w3:=by rw[b8];exact(Below.refl _ w2).alloc nlr _
 have m:Has w3 i3 (mD.inv.kind) (mD.inv.start) (mD.inv.lead) n9 (mD.inv).n m9 (mD.inv):=by rw[g9,b8];exact Has.new g ⟨rfl,rfl,rfl⟩
 clear g;replace c:=qh (c.out.trans (hb.mono c.out.size));clear hb;have i:=qh m;clear m;obtain⟨bA,l3⟩:∃ x,x=i3:=⟨_,rfl⟩;rw[<- l3] at i
 go_wp2_with fail
 rw[<- g9,<- b8];rw[<- l3];clear b8 m5 g9;clear l3;refine(v3k w3).mono ?_;rintro r w4 ⟨hb,sv,rfl,hS⟩;replace i:=qh (i.out.on hb);replace c:=qh (c.out.trans (hb.mono c.out.size));clear hb;have d:=qh (y9b w4 (⟨_,rfl,hS⟩:Ma none w4 (.agg #[.int .i64 mD.kind,.int .i64 mD.start,.string mD.lead,sv]) mD) y7p (B.out w4 c.out));clear hS
 go_wp2_with fail
 refine d.out.mono ?_;rintro r w5 ⟨hb,hr⟩;replace i:=qh (i.out.on hb);replace c:=qh (c.out.trans (hb.mono c.out.size));clear hb;clear d
 rcases hr with ⟨_,J,R,rfl,g⟩|⟨A,_⟩
 rotate_left
 ·exact absurd v6j A
 obtain⟨l8,o3,z,_,_⟩:=z1e g.top;subst z;obtain⟨w6,b6⟩:=exq (w5.alloc (.cells #[.int .i64 (mD.inR.kind),.int .i64 (mD.inR.start),.string (mD.inR.lead),.slice l8 (mD.inR).n o3] 24));obtain⟨i6,g8⟩:=exq (w5.heap.size);have l9:w6.heap.size=w5.heap.size+1:=by rw[b6];simp
 have hb:Below w5.heap.size w5 w6:=by rw[b6];exact(Below.refl _ w5).alloc nlr _
 have m:Has w6 i6 (mD.inR.kind) (mD.inR.start) (mD.inR.lead) l8 (mD.inR).n o3 (mD.inR):=by rw[g8,b6];exact Has.new g ⟨rfl,rfl,rfl⟩
 clear g;replace i:=qh (i.out.on hb);replace c:=qh (c.out.trans (hb.mono c.out.size));clear hb;have j:=qh m;clear m;obtain⟨bB,j2⟩:∃ x,x=i6:=⟨_,rfl⟩;rw[<- j2] at j
 go_wp2_with fail
 rw[<- g8,<- b6];rw[<- j2];clear b6 l9 g8;clear j2;refine(v3k w6).mono ?_;rintro r w7 ⟨hb,sv,rfl,hS⟩;replace i:=qh (i.out.on hb);replace j:=qh (j.out.on hb);replace c:=qh (c.out.trans (hb.mono c.out.size));clear hb;have d:=qh (y5v w7 (⟨_,rfl,hS⟩:Ma none w7 (.agg #[.int .i64 mD.kind,.int .i64 mD.start,.string mD.lead,sv]) mD) y7p (B.out w7 c.out));clear hS
 go_wp2_with fail
 refine d.out.mono ?_;rintro r w8 ⟨hb,hr⟩;replace i:=qh (i.out.on hb);replace j:=qh (j.out.on hb);replace c:=qh (c.out.trans (hb.mono c.out.size));clear hb;clear d
 rcases hr with ⟨_,J,R,rfl,g⟩|⟨A,_⟩
 rotate_left
 ·exact absurd v6j A
 obtain⟨n5,o5,z,_,_⟩:=z1e g.top;subst z;obtain⟨w9,b7⟩:=exq (w8.alloc (.cells #[.int .i64 (mD.outR.kind),.int .i64 (mD.outR.start),.string (mD.outR.lead),.slice n5 (mD.outR).n o5] 24));obtain⟨i9,h1⟩:=exq (w8.heap.size);have h0:w9.heap.size=w8.heap.size+1:=by rw[b7];simp
 have hb:Below w8.heap.size w8 w9:=by rw[b7];exact(Below.refl _ w8).alloc nlr _
 have m:Has w9 i9 (mD.outR.kind) (mD.outR.start) (mD.outR.lead) n5 (mD.outR).n o5 (mD.outR):=by rw[h1,b7];exact Has.new g ⟨rfl,rfl,rfl⟩
 clear g;replace i:=qh (i.out.on hb);replace j:=qh (j.out.on hb);replace c:=qh (c.out.trans (hb.mono c.out.size));clear hb;have k:=qh m;clear m;obtain⟨bC,k9⟩:∃ x,x=i9:=⟨_,rfl⟩;rw[<- k9] at k;obtain⟨b0,X⟩:=exq (w9.alloc (.cells #[.int .i64 1,.int .i64 2] 3));obtain⟨j8,c9⟩:=exq (w8.heap.size+1);have e7:b0.heap.size=w8.heap.size+1+1:=by rw[X];simp[h0]
 have hb:Below w9.heap.size w9 b0:=by rw[X];exact(Below.refl _ w9).alloc nlr _
 have m:Si none b0 (.slice (some ⟨j8,0,none⟩) 2 2) 2 y12:=by rw[c9,<- h0,X];exact z7g (heap_alloc_new w9 _) y3t (lt2 rfl rfl)
 replace i:=qh (i.out.on hb);replace j:=qh (j.out.on hb);replace k:=qh (k.out.on hb);replace c:=qh (c.out.trans (hb.mono c.out.size));clear hb;have Sx:=qh m;clear m;obtain⟨e4,S⟩:=exq (b0.alloc (.cells #[.int .i64 3] 3));obtain⟨j9,d9⟩:=exq (w8.heap.size+1+1);have j7:e4.heap.size=w8.heap.size+1+1+1:=by rw[S];simp[e7]
 have hb:Below b0.heap.size b0 e4:=by rw[S];exact(Below.refl _ b0).alloc nlr _
 have m:Si none e4 (.slice (some ⟨j9,0,none⟩) 1 1) 1 c3:=by rw[d9,<- e7,S];exact z7g (heap_alloc_new b0 _) y3m (lt1 rfl)
 replace i:=qh (i.out.on hb);replace j:=qh (j.out.on hb);replace k:=qh (k.out.on hb);replace Sx:=qh (Sx.out.kept (z0b hb none));replace c:=qh (c.out.trans (hb.mono c.out.size));clear hb;have Sy:=qh m;clear m;have d:=qh (y3a (kind:=1) (v:=⟨#[51]⟩) e4 Sx.out Sy.out (by decide) (by decide) (by unfold smS;decide) (B.out e4 c.out) ⟨by decide +kernel,by decide +kernel,by decide +kernel⟩);clear Sx Sy
 go_wp2_with fail
 rw[<- d9,<- c9,<- h1,<- b7,<- X,<- S];rw[<- k9];clear b7 h0 h1;clear X e7 c9;clear S j7 d9;clear k9;refine d.out.mono ?_;rintro r e0 ⟨hb,hr⟩;replace i:=qh (i.out.on hb);replace j:=qh (j.out.on hb);replace k:=qh (k.out.on hb);replace c:=qh (c.out.trans (hb.mono c.out.size));clear hb;clear d;obtain⟨J,R,rfl,g⟩:=hr;have g:OwM e0 _ J dD R:=g;obtain⟨o6,p0,z,_,_⟩:=z1e g.top;subst z;obtain⟨g5,N⟩:=exq (e0.alloc (.cells #[.int .i64 (1),.int .i64 (0),.string (⟨#[51]⟩),.slice o6 (dD).n p0] 24));obtain⟨b9,b3⟩:=exq (e0.heap.size);have k2:g5.heap.size=e0.heap.size+1:=by rw[N];simp
 have hb:Below e0.heap.size e0 g5:=by rw[N];exact(Below.refl _ e0).alloc nlr _
 have m:Has g5 b9 (1) (0) (⟨#[51]⟩) o6 (dD).n p0 (dD):=by rw[b3,N];exact Has.new g ⟨by decide +kernel,by decide +kernel,by decide +kernel⟩
 clear g;have p7:bA≠b9:=by have:=lt_of_block i.out.1;omega
 have m4:bB≠b9:=by have:=lt_of_block j.out.1;omega
 have m8:bC≠b9:=by have:=lt_of_block k.out.1;omega
 have LD:w.heap.size<=b9:=by have:=c.out.size;omega
 replace i:=qh (i.out.on hb);replace j:=qh (j.out.on hb);replace k:=qh (k.out.on hb);replace c:=qh (c.out.trans (hb.mono c.out.size));clear hb;have l:=qh m;clear m;obtain⟨bD,h3⟩:∃ x,x=b9:=⟨_,rfl⟩;rw[<- h3] at l p7 m4 m8 LD;obtain⟨⟨m0,m1,m2,m3⟩,_⟩:=cells4 l.out.1;rw[N] at m0 m1 m2 m3;rw[h3,b3] at m0 m1 m2 m3;have d:=qh (x2m g5 l.out.ma u3q (B.out g5 c.out))
 go_wp2_with fail
 clear m0 m1 m2 m3;rw[<- b3,<- N];rw[<- h3];clear N k2 b3;clear h3;refine d.out.mono ?_;rintro r g7 ⟨hb,hr⟩;replace i:=qh (i.out.on hb);replace j:=qh (j.out.on hb);replace k:=qh (k.out.on hb);replace l:=qh (l.out.on hb);replace c:=qh (c.out.trans (hb.mono c.out.size));clear hb;clear d
 rcases hr with ⟨_,_,J,R,rfl,g⟩|⟨_,A,_⟩|⟨A,_⟩
 rotate_left
 ·exact absurd u4n A
 ·exact absurd u2c A
 obtain⟨h9,h7,z,_,_⟩:=z1e g.top;subst z;obtain⟨⟨r0,r1,r2,r3⟩,rz⟩:=cells4 l.out.1;have f0:=rz 0;have f1:=rz 1;have f2:=rz 2;have f3:=rz 3;clear rz;obtain⟨F,u⟩:∃ F,F=(((g7.setCell ⟨bD,0,none⟩ (.int .i64 (dD.kind))).setCell ⟨bD,1,none⟩ (.int .i64 ((dD.n:Int)))).setCell ⟨bD,2,none⟩ (.string (dD.lead))).setCell ⟨bD,3,none⟩ (.slice h9 (revD dD).n h7):=⟨_,rfl⟩;have d6:F.heap.size=g7.heap.size:=by rw[u];simp[World.setCell]
 replace i:=qh (show Has F bA _ _ _ _ _ _ _ from by rw[u];exact i.out.set l.out.1 p7 _ _ _ _);replace j:=qh (show Has F bB _ _ _ _ _ _ _ from by rw[u];exact j.out.set l.out.1 m4 _ _ _ _);replace k:=qh (show Has F bC _ _ _ _ _ _ _ from by rw[u];exact k.out.set l.out.1 m8 _ _ _ _);replace c:=qh (show Below w.heap.size w F from by rw[u];exact z0d c.out LD _ _ _ _);replace l:=qh (show Has F bD (dD.kind) ((dD.n:Int)) (dD.lead) h9 (revD dD).n h7 (revD dD) from by rw[u];exact Has.put g l.out.1 ⟨by decide +kernel,by decide +kernel,by decide +kernel⟩);clear g;obtain⟨a6,U⟩:=exq (F.alloc (.cells #[.int .i64 1,.int .i64 2] 3));obtain⟨j4,d2⟩:=exq (g7.heap.size);have f4:a6.heap.size=g7.heap.size+1:=by rw[U];simp[d6]
 have hb:Below F.heap.size F a6:=by rw[U];exact(Below.refl _ F).alloc nlr _
 have m:Si none a6 (.slice (some ⟨j4,0,none⟩) 2 2) 2 y12:=by rw[d2,<- d6,U];exact z7g (heap_alloc_new F _) y3t (lt2 rfl rfl)
 replace i:=qh (i.out.on hb);replace j:=qh (j.out.on hb);replace k:=qh (k.out.on hb);replace l:=qh (l.out.on hb);replace c:=qh (c.out.trans (hb.mono c.out.size));clear hb;have Sx:=qh m;clear m;obtain⟨e8,a1⟩:=exq (a6.alloc (.cells #[.int .i64 1,.int .i64 2] 3));obtain⟨j0,e9⟩:=exq (g7.heap.size+1);have j1:e8.heap.size=g7.heap.size+1+1:=by rw[a1];simp[f4]
 have hb:Below a6.heap.size a6 e8:=by rw[a1];exact(Below.refl _ a6).alloc nlr _
 have m:Si none e8 (.slice (some ⟨j0,0,none⟩) 2 2) 2 y12:=by rw[e9,<- f4,a1];exact z7g (heap_alloc_new a6 _) y3t (lt2 rfl rfl)
 replace i:=qh (i.out.on hb);replace j:=qh (j.out.on hb);replace k:=qh (k.out.on hb);replace l:=qh (l.out.on hb);replace Sx:=qh (Sx.out.kept (z0b hb none));replace c:=qh (c.out.trans (hb.mono c.out.size));clear hb;have Sy:=qh m;clear m;have d:=qh (y3a (kind:=1) (v:=⟨#[49]⟩) e8 Sx.out Sy.out (by decide) (by decide) (by unfold smS;decide) (B.out e8 c.out) ⟨by decide +kernel,by decide +kernel,by decide +kernel⟩);clear Sx Sy
 go_wp2_with fail
 rw[<- e9,<- d2,<- u,<- U,<- a1];clear u d6;clear U f4 d2;clear a1 j1 e9;refine d.out.mono ?_;rintro r Y ⟨hb,hr⟩;replace i:=qh (i.out.on hb);replace j:=qh (j.out.on hb);replace k:=qh (k.out.on hb);replace l:=qh (l.out.on hb);replace c:=qh (c.out.trans (hb.mono c.out.size));clear hb;clear d;obtain⟨J,R,rfl,g⟩:=hr;have g:OwM Y _ J abD R:=g;obtain⟨o4,l4,z,_,_⟩:=z1e g.top;subst z;obtain⟨a5,a4⟩:=exq (Y.alloc (.cells #[.int .i64 (1),.int .i64 (0),.string (⟨#[49]⟩),.slice o4 (abD).n l4] 24));obtain⟨h4,f8⟩:=exq (Y.heap.size);have g0:a5.heap.size=Y.heap.size+1:=by rw[a4];simp
 have hb:Below Y.heap.size Y a5:=by rw[a4];exact(Below.refl _ Y).alloc nlr _
 have m:Has a5 h4 (1) (0) (⟨#[49]⟩) o4 (abD).n l4 (abD):=by rw[f8,a4];exact Has.new g ⟨by decide +kernel,by decide +kernel,by decide +kernel⟩
 clear g;replace i:=qh (i.out.on hb);replace j:=qh (j.out.on hb);replace k:=qh (k.out.on hb);replace l:=qh (l.out.on hb);replace c:=qh (c.out.trans (hb.mono c.out.size));clear hb;have o:=qh m;clear m;obtain⟨bG,i7⟩:∃ x,x=h4:=⟨_,rfl⟩;rw[<- i7] at o;obtain⟨a9,O⟩:=exq (a5.alloc (.cells #[.int .i64 3] 3));obtain⟨k5,e2⟩:=exq (Y.heap.size+1);have d0:a9.heap.size=Y.heap.size+1+1:=by rw[O];simp[g0]
 have hb:Below a5.heap.size a5 a9:=by rw[O];exact(Below.refl _ a5).alloc nlr _
 have m:Si none a9 (.slice (some ⟨k5,0,none⟩) 1 1) 1 c3:=by rw[e2,<- g0,O];exact z7g (heap_alloc_new a5 _) y3m (lt1 rfl)
 replace i:=qh (i.out.on hb);replace j:=qh (j.out.on hb);replace k:=qh (k.out.on hb);replace l:=qh (l.out.on hb);replace o:=qh (o.out.on hb);replace c:=qh (c.out.trans (hb.mono c.out.size));clear hb;have Sx:=qh m;clear m;obtain⟨g6,P⟩:=exq (a9.alloc (.cells #[.int .i64 3] 3));obtain⟨j6,e1⟩:=exq (Y.heap.size+1+1);have i4:g6.heap.size=Y.heap.size+1+1+1:=by rw[P];simp[d0]
 have hb:Below a9.heap.size a9 g6:=by rw[P];exact(Below.refl _ a9).alloc nlr _
 have m:Si none g6 (.slice (some ⟨j6,0,none⟩) 1 1) 1 c3:=by rw[e1,<- d0,P];exact z7g (heap_alloc_new a9 _) y3m (lt1 rfl)
 replace i:=qh (i.out.on hb);replace j:=qh (j.out.on hb);replace k:=qh (k.out.on hb);replace l:=qh (l.out.on hb);replace o:=qh (o.out.on hb);replace Sx:=qh (Sx.out.kept (z0b hb none));replace c:=qh (c.out.trans (hb.mono c.out.size));clear hb;have Sy:=qh m;clear m;have d:=qh (y3a (kind:=1) (v:=⟨#[50]⟩) g6 Sx.out Sy.out (by decide) (by decide) (by unfold smS;decide) (B.out g6 c.out) ⟨by decide +kernel,by decide +kernel,by decide +kernel⟩);clear Sx Sy
 go_wp2_with fail
 rw[<- e1,<- e2,<- f8,<- a4,<- O,<- P];rw[<- i7];clear a4 g0 f8;clear O d0 e2;clear P i4 e1;clear i7;refine d.out.mono ?_;rintro r d5 ⟨hb,hr⟩;replace i:=qh (i.out.on hb);replace j:=qh (j.out.on hb);replace k:=qh (k.out.on hb);replace l:=qh (l.out.on hb);replace o:=qh (o.out.on hb);replace c:=qh (c.out.trans (hb.mono c.out.size));clear hb;clear d;obtain⟨J,R,rfl,g⟩:=hr;have g:OwM d5 _ J kD R:=g;obtain⟨n7,n6,z,_,_⟩:=z1e g.top;subst z;obtain⟨d8,C⟩:=exq (d5.alloc (.cells #[.int .i64 (1),.int .i64 (0),.string (⟨#[50]⟩),.slice n7 (kD).n n6] 24));obtain⟨a8,b4⟩:=exq (d5.heap.size);have k4:d8.heap.size=d5.heap.size+1:=by rw[C];simp
 have hb:Below d5.heap.size d5 d8:=by rw[C];exact(Below.refl _ d5).alloc nlr _
 have m:Has d8 a8 (1) (0) (⟨#[50]⟩) n7 (kD).n n6 (kD):=by rw[b4,C];exact Has.new g ⟨by decide +kernel,by decide +kernel,by decide +kernel⟩
 clear g;have l7:bA≠a8:=by have:=lt_of_block i.out.1;omega
 have o9:bB≠a8:=by have:=lt_of_block j.out.1;omega
 have m7:bC≠a8:=by have:=lt_of_block k.out.1;omega
 have o2:bD≠a8:=by have:=lt_of_block l.out.1;omega
 have p8:bG≠a8:=by have:=lt_of_block o.out.1;omega
 have LK:w.heap.size<=a8:=by have:=c.out.size;omega
 replace i:=qh (i.out.on hb);replace j:=qh (j.out.on hb);replace k:=qh (k.out.on hb);replace l:=qh (l.out.on hb);replace o:=qh (o.out.on hb);replace c:=qh (c.out.trans (hb.mono c.out.size));clear hb;have p:=qh m;clear m;obtain⟨bK,h5⟩:∃ x,x=a8:=⟨_,rfl⟩;rw[<- h5] at p l7 o9 m7 o2 p8 LK;obtain⟨⟨m0,m1,m2,m3⟩,_⟩:=cells4 o.out.1;rw[C] at m0 m1 m2 m3;obtain⟨⟨n0,n1,n2,n3⟩,_⟩:=cells4 p.out.1;rw[C] at n0 n1 n2 n3;rw[h5,b4] at n0 n1 n2 n3;have d:=qh (x9x d8 o.out.ma p.out.ma v7q u2f (B.out d8 c.out) (by decide +kernel) (by decide +kernel))
 go_wp2_with fail
 clear m0 m1 m2 m3;clear n0 n1 n2 n3;rw[<- b4,<- C];rw[<- h5];clear C k4 b4;clear h5;refine d.out.mono ?_;rintro r j5 ⟨hb,hr⟩;replace i:=qh (i.out.on hb);replace j:=qh (j.out.on hb);replace k:=qh (k.out.on hb);replace l:=qh (l.out.on hb);replace o:=qh (o.out.on hb);replace p:=qh (p.out.on hb);replace c:=qh (c.out.trans (hb.mono c.out.size));clear hb;clear d
 rcases hr with ⟨_,_,_,⟨_,J,R,rfl,g⟩|⟨A,_⟩⟩|⟨_,_,A,_⟩|⟨A,_⟩
 rotate_left
 ·exact absurd u4z A
 ·exact absurd ⟨v8r,u3b,by decide +kernel⟩ A
 ·exact absurd ⟨v7w,u2j⟩ A
 have g:OwM j5 _ J cD R:=g;obtain⟨h8,h6,z,_,_⟩:=z1e g.top;subst z;obtain⟨⟨r0,r1,r2,r3⟩,rz⟩:=cells4 p.out.1;have f0:=rz 0;have f1:=rz 1;have f2:=rz 2;have f3:=rz 3;clear rz;obtain⟨T,s⟩:∃ T,T=(((j5.setCell ⟨bK,0,none⟩ (.int .i64 (abD.kind))).setCell ⟨bK,1,none⟩ (.int .i64 (((kD.n:Int)+abD.start)))).setCell ⟨bK,2,none⟩ (.string ((z0n abD.kind abD.lead kD.lead).1))).setCell ⟨bK,3,none⟩ (.slice h8 (cD).n h6):=⟨_,rfl⟩;have k7:T.heap.size=j5.heap.size:=by rw[s];simp[World.setCell]
 replace i:=qh (show Has T bA _ _ _ _ _ _ _ from by rw[s];exact i.out.set p.out.1 l7 _ _ _ _);replace j:=qh (show Has T bB _ _ _ _ _ _ _ from by rw[s];exact j.out.set p.out.1 o9 _ _ _ _);replace k:=qh (show Has T bC _ _ _ _ _ _ _ from by rw[s];exact k.out.set p.out.1 m7 _ _ _ _);replace l:=qh (show Has T bD _ _ _ _ _ _ _ from by rw[s];exact l.out.set p.out.1 o2 _ _ _ _);replace o:=qh (show Has T bG _ _ _ _ _ _ _ from by rw[s];exact o.out.set p.out.1 p8 _ _ _ _);replace c:=qh (show Below w.heap.size w T from by rw[s];exact z0d c.out LK _ _ _ _);replace p:=qh (show Has T bK (abD.kind) (((kD.n:Int)+abD.start)) ((z0n abD.kind abD.lead kD.lead).1) h8 (cD).n h6 (cD) from by rw[s];exact Has.put g p.out.1 ⟨by decide +kernel,by decide +kernel,by decide +kernel⟩);clear g
 go_wp2_with fail
 rw[<- s];clear s k7;clear r0 r1 r2 r3 f0 f1 f2 f3;refine(v3k T).mono ?_;rintro r f7 ⟨hb,sv,rfl,hS⟩;replace i:=qh (i.out.on hb);replace j:=qh (j.out.on hb);replace k:=qh (k.out.on hb);replace l:=qh (l.out.on hb);replace o:=qh (o.out.on hb);replace p:=qh (p.out.on hb);replace c:=qh (c.out.trans (hb.mono c.out.size));clear hb;obtain⟨b5,a2⟩:=exq (f7.alloc (.cells #[.int .i64 2,.int .i64 3] 50));obtain⟨k3,d7⟩:=exq (f7.heap.size);have i8:b5.heap.size=f7.heap.size+1:=by rw[a2];simp
 have hb:Below f7.heap.size f7 b5:=by rw[a2];exact(Below.refl _ f7).alloc nlr _
 have hP:PrS none b5 (.slice (some ⟨k3,0,none⟩) 1 1) 1 c2 c3:=by rw[d7,a2];exact v9r (heap_alloc_new f7 _) y3m (lt1 ⟨rfl,rfl⟩)
 have hS:StS none b5 sv mD:=hS.kept (z0b hb none);replace i:=qh (i.out.on hb);replace j:=qh (j.out.on hb);replace k:=qh (k.out.on hb);replace l:=qh (l.out.on hb);replace o:=qh (o.out.on hb);replace p:=qh (p.out.on hb);replace c:=qh (c.out.trans (hb.mono c.out.size));clear hb;have d:=qh (x6w b5 (⟨_,rfl,hS⟩:Ma none b5 (.agg #[.int .i64 mD.kind,.int .i64 mD.start,.string mD.lead,sv]) mD) y7p hP (by decide) (B.out b5 c.out));clear hS hP
 go_wp2_with fail
 rw[<- d7,<- a2];clear a2 i8 d7;refine d.out.mono ?_;rintro r L ⟨hb,hr⟩;replace i:=qh (i.out.on hb);replace j:=qh (j.out.on hb);replace k:=qh (k.out.on hb);replace l:=qh (l.out.on hb);replace o:=qh (o.out.on hb);replace p:=qh (p.out.on hb);replace c:=qh (c.out.trans (hb.mono c.out.size));clear hb;clear d
 rcases hr with ⟨_,J,R,rfl,g⟩|⟨A,_⟩
 rotate_left
 ·exact absurd ⟨v6j,lt1 ⟨by decide,by decide,by decide,by decide⟩⟩ A
 have g:OwM L _ J nD R:=g;obtain⟨p9,o8,z,_,_⟩:=z1e g.top;subst z;obtain⟨b1,K⟩:=exq (L.alloc (.cells #[.int .i64 ((mD.ren (mapF 1 c2 c3)).kind),.int .i64 ((mD.ren (mapF 1 c2 c3)).start),.string ((mD.ren (mapF 1 c2 c3)).lead),.slice p9 (nD).n o8] 24));obtain⟨h2,e3⟩:=exq (L.heap.size);have g4:b1.heap.size=L.heap.size+1:=by rw[K];simp
 have hb:Below L.heap.size L b1:=by rw[K];exact(Below.refl _ L).alloc nlr _
 have m:Has b1 h2 ((mD.ren (mapF 1 c2 c3)).kind) ((mD.ren (mapF 1 c2 c3)).start) ((mD.ren (mapF 1 c2 c3)).lead) p9 (nD).n o8 (nD):=by rw[e3,K];exact Has.new g ⟨rfl,rfl,rfl⟩
 clear g;replace i:=qh (i.out.on hb);replace j:=qh (j.out.on hb);replace k:=qh (k.out.on hb);replace l:=qh (l.out.on hb);replace o:=qh (o.out.on hb);replace p:=qh (p.out.on hb);replace c:=qh (c.out.trans (hb.mono c.out.size));clear hb;have E:=qh m;clear m;obtain⟨bE,l2⟩:∃ x,x=h2:=⟨_,rfl⟩;rw[<- l2] at E;obtain⟨a7,H⟩:=exq (b1.alloc (.cells #[.int .i64 1] 3));obtain⟨k0,d1⟩:=exq (L.heap.size+1);have e5:a7.heap.size=L.heap.size+1+1:=by rw[H];simp[g4]
 have hb:Below b1.heap.size b1 a7:=by rw[H];exact(Below.refl _ b1).alloc nlr _
 have m:Si none a7 (.slice (some ⟨k0,0,none⟩) 1 1) 1 c1:=by rw[d1,<- g4,H];exact z7g (heap_alloc_new b1 _) y3m (lt1 rfl)
 replace i:=qh (i.out.on hb);replace j:=qh (j.out.on hb);replace k:=qh (k.out.on hb);replace l:=qh (l.out.on hb);replace o:=qh (o.out.on hb);replace p:=qh (p.out.on hb);replace E:=qh (E.out.on hb);replace c:=qh (c.out.trans (hb.mono c.out.size));clear hb;have I:=qh m;clear m;obtain⟨b2,D⟩:=exq (a7.alloc (.cells #[.int .i64 2] 3));obtain⟨j3,e6⟩:=exq (L.heap.size+1+1);have g3:b2.heap.size=L.heap.size+1+1+1:=by rw[D];simp[e5]
 have hb:Below a7.heap.size a7 b2:=by rw[D];exact(Below.refl _ a7).alloc nlr _
 have m:Si none b2 (.slice (some ⟨j3,0,none⟩) 1 1) 1 c2:=by rw[e6,<- e5,D];exact z7g (heap_alloc_new a7 _) y3m (lt1 rfl)
 replace i:=qh (i.out.on hb);replace j:=qh (j.out.on hb);replace k:=qh (k.out.on hb);replace l:=qh (l.out.on hb);replace o:=qh (o.out.on hb);replace p:=qh (p.out.on hb);replace E:=qh (E.out.on hb);replace I:=qh (I.out.kept (z0b hb none));replace c:=qh (c.out.trans (hb.mono c.out.size));clear hb;have S2:=qh m;clear m;obtain⟨g1,G⟩:=exq (b2.alloc (.cells #[.int .i64 3] 3));obtain⟨l1,c8⟩:=exq (L.heap.size+1+1+1);have k1:g1.heap.size=L.heap.size+1+1+1+1:=by rw[G];simp[g3]
 have hb:Below b2.heap.size b2 g1:=by rw[G];exact(Below.refl _ b2).alloc nlr _
 have m:Si none g1 (.slice (some ⟨l1,0,none⟩) 1 1) 1 c3:=by rw[c8,<- g3,G];exact z7g (heap_alloc_new b2 _) y3m (lt1 rfl)
 replace i:=qh (i.out.on hb);replace j:=qh (j.out.on hb);replace k:=qh (k.out.on hb);replace l:=qh (l.out.on hb);replace o:=qh (o.out.on hb);replace p:=qh (p.out.on hb);replace E:=qh (E.out.on hb);replace I:=qh (I.out.kept (z0b hb none));replace S2:=qh (S2.out.kept (z0b hb none));replace c:=qh (c.out.trans (hb.mono c.out.size));clear hb;have Q:=qh m;clear m;obtain⟨⟨m0,m1,m2,m3⟩,_⟩:=cells4 i.out.1;rw[G,D,H,K] at m0 m1 m2 m3;have d:=qh (z5r g1 i.out.ma { y7p with } (B.out g1 c.out) S2.out I.out (by decide) (by decide) u4x)
 go_wp2_with fail
 clear m0 m1 m2 m3;rw[<- c8,<- e6,<- d1,<- e3,<- K,<- H,<- D,<- G];rw[<- l2];clear K g4 e3;clear H e5 d1;clear D g3 e6;clear G k1 c8;clear l2;refine d.out.mono ?_;rintro r p6 ⟨rfl,hb⟩;replace i:=qh (i.out.on hb);replace j:=qh (j.out.on hb);replace k:=qh (k.out.on hb);replace l:=qh (l.out.on hb);replace o:=qh (o.out.on hb);replace p:=qh (p.out.on hb);replace E:=qh (E.out.on hb);replace I:=qh (I.out.kept (z0b hb none));replace S2:=qh (S2.out.kept (z0b hb none));replace Q:=qh (Q.out.kept (z0b hb none));replace c:=qh (c.out.trans (hb.mono c.out.size));clear hb;clear d;obtain⟨⟨m0,m1,m2,m3⟩,_⟩:=cells4 i.out.1;have d:=qh (z5r p6 i.out.ma { y7p with } (B.out p6 c.out) I.out S2.out (by decide) (by decide) u5d)
 go_wp2_with fail
 clear m0 m1 m2 m3;refine d.out.mono ?_;rintro r o7 ⟨rfl,hb⟩;replace i:=qh (i.out.on hb);replace j:=qh (j.out.on hb);replace k:=qh (k.out.on hb);replace l:=qh (l.out.on hb);replace o:=qh (o.out.on hb);replace p:=qh (p.out.on hb);replace E:=qh (E.out.on hb);replace I:=qh (I.out.kept (z0b hb none));replace S2:=qh (S2.out.kept (z0b hb none));replace Q:=qh (Q.out.kept (z0b hb none));replace c:=qh (c.out.trans (hb.mono c.out.size));clear hb;clear d;obtain⟨⟨m0,m1,m2,m3⟩,_⟩:=cells4 j.out.1;have d:=qh (z5r o7 j.out.ma { y7p with } (B.out o7 c.out) I.out I.out (by decide) (by decide) ex_b)
 go_wp2_with fail
 clear m0 m1 m2 m3;refine d.out.mono ?_;rintro r l5 ⟨rfl,hb⟩;replace i:=qh (i.out.on hb);replace j:=qh (j.out.on hb);replace k:=qh (k.out.on hb);replace l:=qh (l.out.on hb);replace o:=qh (o.out.on hb);replace p:=qh (p.out.on hb);replace E:=qh (E.out.on hb);replace I:=qh (I.out.kept (z0b hb none));replace S2:=qh (S2.out.kept (z0b hb none));replace Q:=qh (Q.out.kept (z0b hb none));replace c:=qh (c.out.trans (hb.mono c.out.size));clear hb;clear d;obtain⟨⟨m0,m1,m2,m3⟩,_⟩:=cells4 k.out.1;have d:=qh (z5r l5 k.out.ma { y7p with } (B.out l5 c.out) Q.out Q.out (by decide) (by decide) ex_c)
 go_wp2_with fail
 clear m0 m1 m2 m3;refine d.out.mono ?_;rintro r g2 ⟨rfl,hb⟩;replace i:=qh (i.out.on hb);replace j:=qh (j.out.on hb);replace k:=qh (k.out.on hb);replace l:=qh (l.out.on hb);replace o:=qh (o.out.on hb);replace p:=qh (p.out.on hb);replace E:=qh (E.out.on hb);replace I:=qh (I.out.kept (z0b hb none));replace S2:=qh (S2.out.kept (z0b hb none));replace Q:=qh (Q.out.kept (z0b hb none));replace c:=qh (c.out.trans (hb.mono c.out.size));clear hb;clear d;obtain⟨⟨m0,m1,m2,m3⟩,_⟩:=cells4 l.out.1;obtain⟨d3,a3⟩:=exq (g2.alloc (.cells #[.int .i64 2,.int .i64 1] 3));obtain⟨k6,d4⟩:=exq (g2.heap.size);have i2:d3.heap.size=g2.heap.size+1:=by rw[a3];simp
 have hb:Below g2.heap.size g2 d3:=by rw[a3];exact(Below.refl _ g2).alloc nlr _
 have m:Si none d3 (.slice (some ⟨k6,0,none⟩) 2 2) 2 y21:=by rw[d4,a3];exact z7g (heap_alloc_new g2 _) y3t (lt2 rfl rfl)
 replace i:=qh (i.out.on hb);replace j:=qh (j.out.on hb);replace k:=qh (k.out.on hb);replace l:=qh (l.out.on hb);replace o:=qh (o.out.on hb);replace p:=qh (p.out.on hb);replace E:=qh (E.out.on hb);replace I:=qh (I.out.kept (z0b hb none));replace S2:=qh (S2.out.kept (z0b hb none));replace Q:=qh (Q.out.kept (z0b hb none));replace c:=qh (c.out.trans (hb.mono c.out.size));clear hb;have Sz:=qh m;clear m;have d:=qh (z5r d3 l.out.ma u5a (B.out d3 c.out) Sz.out Q.out (by decide) (by decide) ex_d)
 go_wp2_with fail
 clear m0 m1 m2 m3;rw[<- d4,<- a3];clear a3 i2 d4;refine d.out.mono ?_;rintro r f5 ⟨rfl,hb⟩;replace i:=qh (i.out.on hb);replace j:=qh (j.out.on hb);replace k:=qh (k.out.on hb);replace l:=qh (l.out.on hb);replace o:=qh (o.out.on hb);replace p:=qh (p.out.on hb);replace E:=qh (E.out.on hb);replace I:=qh (I.out.kept (z0b hb none));replace S2:=qh (S2.out.kept (z0b hb none));replace Q:=qh (Q.out.kept (z0b hb none));replace Sz:=qh (Sz.out.kept (z0b hb none));replace c:=qh (c.out.trans (hb.mono c.out.size));clear hb;clear d Sz;obtain⟨⟨m0,m1,m2,m3⟩,_⟩:=cells4 p.out.1;obtain⟨f9,Z⟩:=exq (f5.alloc (.cells #[.int .i64 1,.int .i64 2] 3));obtain⟨l0,c7⟩:=exq (f5.heap.size);have i5:f9.heap.size=f5.heap.size+1:=by rw[Z];simp
 have hb:Below f5.heap.size f5 f9:=by rw[Z];exact(Below.refl _ f5).alloc nlr _
 have m:Si none f9 (.slice (some ⟨l0,0,none⟩) 2 2) 2 y12:=by rw[c7,Z];exact z7g (heap_alloc_new f5 _) y3t (lt2 rfl rfl)
 replace i:=qh (i.out.on hb);replace j:=qh (j.out.on hb);replace k:=qh (k.out.on hb);replace l:=qh (l.out.on hb);replace o:=qh (o.out.on hb);replace p:=qh (p.out.on hb);replace E:=qh (E.out.on hb);replace I:=qh (I.out.kept (z0b hb none));replace S2:=qh (S2.out.kept (z0b hb none));replace Q:=qh (Q.out.kept (z0b hb none));replace c:=qh (c.out.trans (hb.mono c.out.size));clear hb;have Sz:=qh m;clear m;have d:=qh (z5r f9 p.out.ma u4v (B.out f9 c.out) Sz.out Q.out (by decide) (by decide) ex_k)
 go_wp2_with fail
 clear m0 m1 m2 m3;rw[<- c7,<- Z];clear Z i5 c7;refine d.out.mono ?_;rintro r l6 ⟨rfl,hb⟩;replace i:=qh (i.out.on hb);replace j:=qh (j.out.on hb);replace k:=qh (k.out.on hb);replace l:=qh (l.out.on hb);replace o:=qh (o.out.on hb);replace p:=qh (p.out.on hb);replace E:=qh (E.out.on hb);replace I:=qh (I.out.kept (z0b hb none));replace S2:=qh (S2.out.kept (z0b hb none));replace Q:=qh (Q.out.kept (z0b hb none));replace Sz:=qh (Sz.out.kept (z0b hb none));replace c:=qh (c.out.trans (hb.mono c.out.size));clear hb;clear d Sz;obtain⟨⟨m0,m1,m2,m3⟩,_⟩:=cells4 E.out.1;have d:=qh (z5r l6 E.out.ma { y7p with } (B.out l6 c.out) I.out Q.out (by decide) (by decide) ex_n)
 go_wp2_with fail
 clear m0 m1 m2 m3;refine d.out.mono ?_;rintro r q7 ⟨rfl,hb⟩;replace i:=qh (i.out.on hb);replace j:=qh (j.out.on hb);replace k:=qh (k.out.on hb);replace l:=qh (l.out.on hb);replace o:=qh (o.out.on hb);replace p:=qh (p.out.on hb);replace E:=qh (E.out.on hb);replace I:=qh (I.out.kept (z0b hb none));replace S2:=qh (S2.out.kept (z0b hb none));replace Q:=qh (Q.out.kept (z0b hb none));replace c:=qh (c.out.trans (hb.mono c.out.size));clear hb;clear d;go_wp2;go_ret;exact⟨rfl,c.out⟩
end
section
open Go.RowKit Go.Deep
theorem x0j {D:MD} (hs:MSz D):∀ q,z0h D q<=q*140737488355328
 | 0=>nlr
 | q+1=>by
  have h:=x0j hs q;have h2:=hs.na q;show z0h D q+D.na q<=_;omega
theorem x9j {D:MD} {v:Value} (w:World) (hM:Ma none w v D) (K:MSz D) (hn:D.n<=100):Calls prog 45 #[v] w (fun r w'=>r=.returned (.int .i64 (z0h D D.n:Nat))/\Below w.heap.size w w'):=by
 obtain⟨sv,rfl,hS⟩:=hM;obtain⟨a,k,b,L,A,C,BB,O,rfl,ha,hc,hm,hb,u⟩:=hS.open;unfold maxLen at hm;clear hS;have o:=BoxM.new w D (.slice a D.n k);have s:=y9c w (.cells #[.int .i64 D.kind,.int .i64 D.start,.string D.lead,.slice a D.n k] 24);have S:=qh (fun q=>x0j K q);have J:=qh K.na;clear K;have HA:=qh ha;clear ha;have HB:=qh hb;clear hb;have HR:=qh u;clear u;have d:=qh o;clear o;have E:=qh s;clear s
 go_enter func45,ntmps45
 go_wp2_with fail
 obtain⟨wm,l⟩:=exq (w.alloc (.cells #[.int .i64 D.kind,.int .i64 D.start,.string D.lead,.slice a D.n k] 24));obtain⟨Y,z⟩:=exq (w.heap.size);rw[<- l,<- z] at d;rw[<- l] at E;rw[<- l,<- z];clear l z
 go_loopw [3,4] (fun c i wr=>∃ q j:Nat,q<=D.n/\i=.int .i64 (q:Int)/\c=.int .i64 (j:Int)/\j=z0h D q/\BoxM wr Y D (.slice a D.n k)/\Below w.heap.size w wr) (fun _ i _=>D.n-(intOf i).toNat)
 case atStart=>exact⟨0,0,Nat.zero_le _,rfl,rfl,rfl,d.out,E.out⟩
 obtain⟨q,j,hq,rfl,rfl,g,F,I⟩:=hrel;clear d E;have m3:=F.c3;have d:=qh F;clear F;have h:=qh I;clear I;by_cases W:q<D.n
 ·have a3:(q:Int)<(D.n:Int):=by omega
  have a1:(0:Int)<=(q:Int):=by omega
  obtain rfl:=HA.out (by omega);have N:=(HB.out (by omega)).1;obtain⟨k1,T,k3,k4,_⟩:=HR.out q W;generalize A q=aq at T;have c1:=(h.out.cell (p:=⟨b,L+q*2+1,none⟩) N).trans T;clear k1 T;have H:=S.out q;have R:=J.out q;have U:j<=100*140737488355328:=Nat.le_trans (Nat.le_of_eq g) (Nat.le_trans H (Nat.mul_le_mul_right _ (by omega)));clear H;have X:IntKind.i64.wrap ((j:Int)+(D.na q:Int))=(j:Int)+(D.na q:Int):=by rw[IntKind.wrap_i64];omega
  have G:j+D.na q=z0h D (q+1):=by rw[g];rfl
  have Z:(D.na q:Int)<=9223372036854775807:=by omega
  have Q:=qh G;clear G g U R;go_wp2;go_roundw
  case rel=>exact⟨q+1,j+D.na q,by omega,by go_num,by go_num,Q.out,d.out,h.out⟩
  simp[intOf];omega
 have B:q=D.n:=by omega
 have a2:¬ ((q:Int)<(D.n:Int)):=by omega
 have m:j=z0h D D.n:=by rw[g,B]
 have P:=qh m;clear m g;have a4:=qh B;clear B;go_wp2;go_ret
 first|exact⟨rfl,h.out⟩|exact⟨z5p (by rw[P.out]),h.out⟩
end
section
open Go.RowKit Go.Deep
def TestP (p:Prop) (w:World) (r:Ending) (w':World):Prop:=∃ b:Bool,r=.returned (.bool b)/\(b=true↔p)/\Below w.heap.size w w'
theorem x2y {D:MD} {mv:Value} (w:World) (K:Ma none w mv D) (E:MSz D):Calls prog 13 #[mv] w (TestP (8<D.n\/30<z0h D D.n) w):=by
 obtain⟨sv,rfl,z⟩:=K;obtain⟨a,i,_,_,_,_,_,_,s,_,_,C,_⟩:=z.open;subst s;unfold maxLen at C;obtain⟨d,c⟩:=exq (w.alloc (.cells #[.int .i64 D.kind,.int .i64 D.start,.string D.lead,.slice a D.n i] 24));have l:Fr (fun _=>False) w d:=by rw[c];exact Fr.alloc _ _
 have j:Below w.heap.size w d:=l.below nlr (fun _ e=>e.elim);have o:d.heap[w.heap.size]?=some (.cells #[.int .i64 D.kind,.int .i64 D.start,.string D.lead,.slice a D.n i] 24 (0,0)):=by rw[c];exact heap_alloc_new w _
 obtain⟨⟨m0,m1,F,G⟩,_⟩:=cells4 o;have u:=qh (⟨_,rfl,z.kept (z0b j none)⟩:Ma none d (.agg #[.int .i64 D.kind,.int .i64 D.start,.string D.lead,.slice a D.n i]) D);have B:=qh E;clear E;have g:=qh j;clear j l o z;have O:(0:Int)<=(D.n:Int):=by omega
 obtain⟨n,I⟩:=exq (D.n);rw[c] at m0 m1 F G;by_cases H:(8:Int)<(D.n:Int)
 ·have k:=qh (show 8<D.n\/30<z0h D D.n from .inl (by omega))
  go_enter func13,ntmps13
  go_wp2;go_ret;exact⟨true,rfl,⟨fun _=>k.out,fun _=>rfl⟩,by rw[<- c];exact g.out⟩
 have N:decide ((8:Int)<(D.n:Int))=false:=by simp;omega
 have P:=qh (x9j d u.out B.out (by omega));have A:=qh (show ¬ 8<D.n by omega);clear H I
 go_enter func13,ntmps13
 go_wp2_with fail
 rw[<- c];clear c m0 m1 F G;refine P.out.mono ?_;rintro r Q ⟨rfl,m⟩;have p:=qh (g.out.trans (m.mono g.out.size));clear m;by_cases L:(30:Int)<((z0h D D.n:Nat):Int)
 ·have k:=qh (show 8<D.n\/30<z0h D D.n from .inr (by omega));go_wp2;go_ret;exact⟨true,rfl,⟨fun _=>k.out,fun _=>rfl⟩,p.out⟩
 have J:decide ((30:Int)<((z0h D D.n:Nat):Int))=false:=by simp;omega
 have k:=qh (show ¬ (8<D.n\/30<z0h D D.n) from fun h=>by rcases h with h|h;exact A.out h;omega)
 clear L;go_wp2;go_ret;exact⟨false,rfl,⟨(fun h=>by cases h),fun h=>absurd h k.out⟩,p.out⟩
theorem x7z {n:Nat} {b:Nat} {V:Nat->Value} {L:Nat->Nat} {X:Nat->Nat->Int} (w:World) (hn:n<=10) (F:∀ i,i<n->w.cell? ⟨b,i,none⟩=some (V i)/\Si none w (V i) (L i) (X i)) (D:∀ i,i<n->(L i:Int)<=9223372036854775807) :
  Calls prog 14 #[.slice (some ⟨b,0,none⟩) n n] w (TestP (∃ i,i<n/\(6<L i\/isWord (L i) (X i)=false)) w):=by
 have S:=qh F;clear F;have P:=qh D;clear D
 go_enter func14,ntmps14
 go_wp2_with fail
 go_loopw [3] (fun i wr=>∃ q:Nat,q<=n/\i=.int .i64 (q:Int)/\(∀ j,j<q->L j<=6/\isWord (L j) (X j)=true)/\wr=w) (fun i _=>n-(intOf i).toNat)
 case atStart=>exact⟨0,Nat.zero_le _,rfl,fun j Q=>by omega,rfl⟩
 obtain⟨q,U,rfl,p,rfl⟩:=hrel;have o:=qh p;clear p;by_cases g:q<n
 ·have R:(q:Int)<(n:Int):=by omega
  have E:(0:Int)<=(q:Int):=by omega
  obtain⟨c0,z⟩:=S.out q g;have c:=z;obtain⟨a,J,z⟩:=z.shape;rw[z] at c0 c;have s:=P.out q g;obtain⟨l,d⟩:=exq (L q);rw[<- d] at c0 s c;have k:=qh d;clear d z;by_cases H:(6:Int)<(l:Int)
  ·have C:=qh (show ∃ i,i<n/\(6<L i\/isWord (L i) (X i)=false) from ⟨q,g,.inl (by rw[<- k.out];omega)⟩);clear c;go_wp2;go_ret;exact⟨true,rfl,⟨fun _=>C.out,fun _=>rfl⟩,blr⟩
  have O:decide ((6:Int)<(l:Int))=false:=by simp;omega
  have A:=qh (v2k wr c s);have B:=qh (show ¬ 6<l by omega);clear H c;cases m:isWord l (X q)
  ·have C:=qh (show ∃ i,i<n/\(6<L i\/isWord (L i) (X i)=false) from ⟨q,g,.inr (by rw[<- k.out];exact m)⟩);rw[m] at A;clear m
   go_wp2_with fail
   refine A.out.mono ?_;rintro r K ⟨rfl,rfl⟩;go_wp2;go_ret;exact⟨true,rfl,⟨fun _=>C.out,fun _=>rfl⟩,blr⟩
  rw[m] at A;have G:=qh m;clear m
  go_wp2_with fail
  refine A.out.mono ?_;rintro r K ⟨rfl,rfl⟩;go_wp2;go_roundw
  case rel =>
   refine⟨q+1,by omega,by go_num,fun j Q=>?_,by first|rfl|trivial⟩
   by_cases e:j=q
   ·rw[e,<- k.out];exact⟨Nat.le_of_not_lt B.out,G.out⟩
   exact o.out j (by omega)
  simp[intOf];omega
 have u:q=n:=by omega
 have N:¬ ((q:Int)<(n:Int)):=by omega
 have I:=qh u;clear u;go_wp2;go_ret;exact⟨false,rfl,⟨(fun h=>by cases h),fun ⟨i,hi,h⟩=>by
  obtain⟨W,T⟩:=o.out i (by rw[I.out];exact hi)
  rcases h with h|h
  ·omega
  rw[T] at h;cases h⟩,blr⟩
def pk {α:Type} (a b:α) (i:Nat):α:=if i=0 then a else b
theorem u0d {na:Nat} {x:Nat->Int} (h:¬ ∃ i,i<1/\(6<pk na na i\/isWord (pk na na i) (pk x x i)=false)):na<=6/\isWord na x=true:=by
 refine⟨?_,?_⟩
 ·exact Nat.le_of_not_lt fun c=>h ⟨0,by omega,.inl c⟩
 cases e:isWord na x
 ·exact absurd ⟨0,by omega,.inr e⟩ h
 rfl
theorem v3r {na b:Nat} {c:Value} {x:Nat->Int} (w:World) (c0:w.cell? ⟨b,0,none⟩=some c) (g:Si none w c na x) (d:(na:Int)<=9223372036854775807) :
  Calls prog 14 #[.slice (some ⟨b,0,none⟩) 1 1] w (TestP (∃ i,i<1/\(6<pk na na i\/isWord (pk na na i) (pk x x i)=false)) w) :=
 x7z (V:=pk c c) w (by omega) (lt1 ⟨c0,g⟩) (lt1 d)
end
section
open Go CSR
theorem VM.inv {D:MD} (h:VM D):VM D.inv:=h.sym (φ:=fun i o=>(o,i)) fun i o d g j c=>⟨j,c,d,g⟩
theorem VM.outR {D:MD} (h:VM D):VM D.outR:=h.sym (φ:=fun _ o=>(o,o)) fun i o g j d c=>⟨d,c,d,c⟩
theorem x4d (D:MD):AccD D.outR:=fun q d _ _=>rfl
theorem Dv.eq {D:MD} {na:Nat} {x:Nat->Int} {z d:ByteArray × Nat} (i:VM D) (h:Dv D na x z) (j:Dv D na x d) (l:z.2=0) (c:d.2=0):z.1=d.1:=by
 obtain⟨k,g⟩:=i.kk;exact(h l k g).text (j c k g)
end
section
open Go.RowKit Go.Deep
theorem y4p {D:MD} {mv xv:Value} {na:Nat} {x:Nat->Int} (w:World) (f4:Ma none w mv D) (a8:MSz D) (hx:Si none w xv na x) (ht:Tab w) :
  Calls prog 11 #[mv,xv] w (TrueB w):=by
 obtain⟨f8,e1,d0⟩:=f4;subst e1;obtain⟨b6,a9,_,_,_,_,_,_,l,_⟩:=d0.open;subst l;have a3:=qh (show ∀ W,Below w.heap.size w W->Ma none W (.agg #[.int .i64 D.kind,.int .i64 D.start,.string D.lead,.slice b6 D.n a9]) D from fun W h=>⟨_,rfl,d0.kept (z0b h none)⟩);clear d0;have I:=qh a8;clear a8;obtain⟨c9,d2,_,_,e8,_,e4,a7,_,_⟩:=hx.open;subst e8;have d5:(na:Int)<=9223372036854775807:=by unfold maxLen at a7;omega
 clear e4 a7;have c8:=qh (show ∀ W,Below w.heap.size w W->Si none W (.slice c9 na d2) na x from fun W h=>hx.kept (z0b h none));clear hx;have e3:=qh d5;clear d5;have p:=qh (show ∀ W,Below w.heap.size w W->Tab W from fun W h=>ht.below h nlr);clear ht;have d:=qh (Below.refl w.heap.size w);obtain⟨w1,A⟩:=exq (w.alloc (.cells #[.int .i64 D.kind,.int .i64 D.start,.string D.lead,.slice b6 D.n a9] 24));obtain⟨i1,N⟩:=exq (w.heap.size);have d4:w1.heap.size=w.heap.size+1:=by rw[A];simp
 have hb:Below w.heap.size w w1:=by rw[A];exact(Below.refl _ w).alloc nlr _
 have hh:w1.heap[i1]?=some (.cells #[.int .i64 D.kind,.int .i64 D.start,.string D.lead,.slice b6 D.n a9] 24 (0,0)):=by rw[N,A];exact heap_alloc_new w _
 replace d:=qh (d.out.trans (hb.mono d.out.size));clear hb;have g:=qh hh;clear hh;obtain⟨bA,a5⟩:∃ x,x=i1:=⟨_,rfl⟩;rw[<- a5] at g
 go_enter func11,ntmps11
 obtain⟨⟨m0,m1,E,B⟩,_⟩:=cells4 g.out;rw[A] at m0 m1 E B;rw[a5,N] at m0 m1 E B;have c:=qh (x2y w1 (a3.out w1 d.out) I.out)
 go_wp2_with fail
 clear m0 m1 E B;rw[<- N,<- A];rw[<- a5];clear A d4 N;clear a5;refine c.out.mono ?_;rintro r Z ⟨e2,rfl,b3,hb⟩;replace g:=qh ((hb.block _ (lt_of_block g.out)).trans g.out);replace d:=qh (d.out.trans (hb.mono d.out.size));clear hb;clear c;cases e2
 rotate_left
 ·skip
  clear b3;have c:=qh (z2y Z (p.out Z d.out))
  go_wp2_with fail
  refine c.out.mono ?_;rintro r w3 ⟨rfl,hb⟩;replace g:=qh ((hb.block _ (lt_of_block g.out)).trans g.out);replace d:=qh (d.out.trans (hb.mono d.out.size));clear hb;clear c;go_wp2;go_ret;exact⟨rfl,d.out⟩
 have f7:=qh (show ¬ (8<D.n\/30<z0h D D.n) from fun h=>by cases b3.2 h);clear b3;obtain⟨w4,G⟩:=exq (Z.alloc (.cells #[.slice c9 na d2] 25));obtain⟨i4,Q⟩:=exq (Z.heap.size);have e0:w4.heap.size=Z.heap.size+1:=by rw[G];simp
 have hb:Below Z.heap.size Z w4:=by rw[G];exact(Below.refl _ Z).alloc nlr _
 have hk:w4.heap[i4]?=some (.cells #[.slice c9 na d2] 25 (0,0)):=by rw[Q,G];exact heap_alloc_new Z _
 replace g:=qh ((hb.block _ (lt_of_block g.out)).trans g.out);replace d:=qh (d.out.trans (hb.mono d.out.size));clear hb;have HF:=qh (v3r w4 (cellOf hk 0 rfl) (c8.out w4 d.out) e3.out);clear hk;have c:=qh (HF.out)
 go_wp2_with fail
 rw[<- Q,<- G];clear G e0 Q;refine c.out.mono ?_;rintro r w5 ⟨bf,rfl,d1,hb⟩;replace g:=qh ((hb.block _ (lt_of_block g.out)).trans g.out);replace d:=qh (d.out.trans (hb.mono d.out.size));clear hb;clear c;clear HF;cases bf
 rotate_left
 ·skip
  clear d1;have c:=qh (z2y w5 (p.out w5 d.out))
  go_wp2_with fail
  refine c.out.mono ?_;rintro r w6 ⟨rfl,hb⟩;replace g:=qh ((hb.block _ (lt_of_block g.out)).trans g.out);replace d:=qh (d.out.trans (hb.mono d.out.size));clear hb;clear c;go_wp2;go_ret;exact⟨rfl,d.out⟩
 have a1:=qh (u0d fun h=>by cases d1.2 h);clear d1;obtain⟨⟨m0,m1,E,B⟩,_⟩:=cells4 g.out;have c:=qh (z1t w5 (a3.out w5 d.out) I.out (p.out w5 d.out))
 go_wp2_with fail
 clear m0 m1 E B;refine c.out.mono ?_;rintro r w7 ⟨hb,P⟩;replace g:=qh ((hb.block _ (lt_of_block g.out)).trans g.out);replace d:=qh (d.out.trans (hb.mono d.out.size));clear hb;clear c
 rcases P with ⟨hv,rfl⟩|⟨hv,rfl⟩
 rotate_left
 ·skip
  have c:=qh (z2y w7 (p.out w7 d.out))
  go_wp2_with fail
  refine c.out.mono ?_;rintro r w8 ⟨rfl,hb⟩;replace g:=qh ((hb.block _ (lt_of_block g.out)).trans g.out);replace d:=qh (d.out.trans (hb.mono d.out.size));clear hb;clear c;go_wp2;go_ret;exact⟨rfl,d.out⟩
 have HV:=qh hv;clear hv;obtain⟨⟨m0,m1,E,B⟩,_⟩:=cells4 g.out;have c:=qh (y5v w7 (a3.out w7 d.out) I.out (p.out w7 d.out))
 go_wp2_with fail
 clear m0 m1 E B;refine c.out.mono ?_;rintro r w9 ⟨hb,P⟩;replace g:=qh ((hb.block _ (lt_of_block g.out)).trans g.out);replace d:=qh (d.out.trans (hb.mono d.out.size));clear hb;clear c;have P:(VM (D)/\∃ sv R,r=.returned (.tuple #[.agg #[.int .i64 (D.kind),.int .i64 (D.start),.string (D.lead),sv],.int .i64 0])/\OwM w9 _ sv (D.outR) R)\/(¬ VM (D)/\r=.returned (.tuple #[z7f,.int .i64 1])):=P
 rcases P with ⟨_,d7,R,rfl,i⟩|⟨m,_⟩
 rotate_left
 ·exact absurd HV.out m
 obtain⟨b1,b2,l,_,_⟩:=z1e i.top;have l:_=Value.slice b1 D.n b2:=l;subst l;obtain⟨F,o⟩:=exq (w9.alloc (.cells #[.int .i64 (D.kind),.int .i64 (D.start),.string (D.lead),.slice b1 D.n b2] 24));obtain⟨a4,H⟩:=exq (w9.heap.size);have b4:F.heap.size=w9.heap.size+1:=by rw[o];simp
 have hb:Below w9.heap.size w9 F:=by rw[o];exact(Below.refl _ w9).alloc nlr _
 have hh:Has F a4 (D.kind) (D.start) (D.lead) b1 D.n b2 (D.outR):=by rw[H,o];exact Has.new i ⟨rfl,rfl,rfl⟩
 clear i;replace g:=qh ((hb.block _ (lt_of_block g.out)).trans g.out);replace d:=qh (d.out.trans (hb.mono d.out.size));clear hb;have s:=qh hh;clear hh;obtain⟨bO,b5⟩:∃ x,x=a4:=⟨_,rfl⟩;rw[<- b5] at s;obtain⟨⟨m0,m1,E,B⟩,_⟩:=cells4 g.out;rw[o] at m0 m1 E B;have c:=qh (y6m F (a3.out F d.out) I.out (p.out F d.out))
 go_wp2_with fail
 clear m0 m1 E B;rw[<- H,<- o];rw[<- b5];clear o b4 H;clear b5;refine c.out.mono ?_;rintro r L ⟨hb,P⟩;replace s:=qh (s.out.on hb);replace g:=qh ((hb.block _ (lt_of_block g.out)).trans g.out);replace d:=qh (d.out.trans (hb.mono d.out.size));clear hb;clear c;have P:(VM (D)/\∃ sv R,r=.returned (.tuple #[.agg #[.int .i64 (D.kind),.int .i64 (D.start),.string (D.lead),sv],.int .i64 0])/\OwM L _ sv (D.inv) R)\/(¬ VM (D)/\r=.returned (.tuple #[z7f,.int .i64 1])):=P
 rcases P with ⟨_,d7,R,rfl,i⟩|⟨m,_⟩
 rotate_left
 ·exact absurd HV.out m
 obtain⟨b0,b7,l,_,_⟩:=z1e i.top;have l:_=Value.slice b0 D.n b7:=l;subst l;obtain⟨J,k⟩:=exq (L.alloc (.cells #[.int .i64 (D.kind),.int .i64 (D.start),.string (D.lead),.slice b0 D.n b7] 24));obtain⟨K,C⟩:=exq (L.heap.size);have b8:J.heap.size=L.heap.size+1:=by rw[k];simp
 have hb:Below L.heap.size L J:=by rw[k];exact(Below.refl _ L).alloc nlr _
 have hh:Has J K (D.kind) (D.start) (D.lead) b0 D.n b7 (D.inv):=by rw[C,k];exact Has.new i ⟨rfl,rfl,rfl⟩
 clear i;have d9:bO≠K:=by have:=lt_of_block s.out.1;omega
 have T:bA≠K:=by have:=lt_of_block g.out;omega
 have LC:w.heap.size<=K:=by have:=d.out.size;omega
 replace s:=qh (s.out.on hb);replace g:=qh ((hb.block _ (lt_of_block g.out)).trans g.out);replace d:=qh (d.out.trans (hb.mono d.out.size));clear hb;have z:=qh hh;clear hh;obtain⟨bC,a2⟩:∃ x,x=K:=⟨_,rfl⟩;rw[<- a2] at z d9 T LC;obtain⟨⟨m0,m1,E,B⟩,_⟩:=cells4 z.out.1;rw[k] at m0 m1 E B;rw[a2,C] at m0 m1 E B;have c:=qh (y9b J z.out.ma ({ I.out with }:MSz (D.inv)) (p.out J d.out))
 go_wp2_with fail
 clear m0 m1 E B;rw[<- C,<- k];rw[<- a2];clear k b8 C;clear a2;refine c.out.mono ?_;rintro r a6 ⟨hb,P⟩;replace s:=qh (s.out.on hb);replace z:=qh (z.out.on hb);replace g:=qh ((hb.block _ (lt_of_block g.out)).trans g.out);replace d:=qh (d.out.trans (hb.mono d.out.size));clear hb;clear c;have P:(VM (D.inv)/\∃ sv R,r=.returned (.tuple #[.agg #[.int .i64 (D.kind),.int .i64 (D.start),.string (D.lead),sv],.int .i64 0])/\OwM a6 _ sv (D.outR) R)\/(¬ VM (D.inv)/\r=.returned (.tuple #[z7f,.int .i64 1])):=P
 rcases P with ⟨_,d7,R,rfl,i⟩|⟨m,_⟩
 rotate_left
 ·exact absurd HV.out.inv m
 obtain⟨Y,S,l,_,_⟩:=z1e i.top;have l:_=Value.slice Y D.n S:=l;subst l;obtain⟨⟨r0,r1,r2,r3⟩,rz⟩:=cells4 z.out.1;have f0:=rz 0;have f1:=rz 1;have f2:=rz 2;have f3:=rz 3;clear rz;obtain⟨u,j⟩:∃ u,u=(((a6.setCell ⟨bC,0,none⟩ (.int .i64 (D.kind))).setCell ⟨bC,1,none⟩ (.int .i64 (D.start))).setCell ⟨bC,2,none⟩ (.string (D.lead))).setCell ⟨bC,3,none⟩ (.slice Y D.n S):=⟨_,rfl⟩;have c7:u.heap.size=a6.heap.size:=by rw[j];simp[World.setCell]
 replace s:=qh (show Has u bO _ _ _ _ _ _ _ from by rw[j];exact s.out.set z.out.1 d9 _ _ _ _);replace g:=qh ((show u.heap[bA]?=a6.heap[bA]? from by rw[j,z0e T,z0e T,z0e T,z0e T]).trans g.out);replace d:=qh (show Below w.heap.size w u from by rw[j];exact z0d d.out LC _ _ _ _);replace z:=qh (show Has u bC (D.kind) (D.start) (D.lead) Y D.n S (D.outR) from by rw[j];exact Has.put i z.out.1 ⟨rfl,rfl,rfl⟩);clear i;obtain⟨⟨m0,m1,E,B⟩,_⟩:=cells4 s.out.1;rw[j] at m0 m1 E B;have c:=qh (y3w (D:=D.outR) u s.out.ma ({ I.out with }:MSz (D.outR)) (p.out u d.out) (c8.out u d.out) (by have:=a1.out.1;omega))
 go_wp2_with fail
 clear m0 m1 E B;rw[<- j];clear j c7;refine c.out.mono ?_;rintro r b9 ⟨hb,⟨f5,d8⟩,rfl,hz⟩;replace s:=qh (s.out.on hb);replace z:=qh (z.out.on hb);replace g:=qh ((hb.block _ (lt_of_block g.out)).trans g.out);replace d:=qh (d.out.trans (hb.mono d.out.size));clear hb;clear c
 rcases hz with ⟨_,_,_,U⟩|⟨_,_,m,_⟩|⟨m,_⟩
 rotate_left
 ·exact absurd (x4d D) m
 ·exact absurd ⟨HV.out.outR,a1.out.2⟩ m
 have e6:=qh U;clear U;obtain⟨⟨m0,m1,E,B⟩,_⟩:=cells4 z.out.1;have c:=qh (y3w (D:=D.outR) b9 z.out.ma ({ I.out with }:MSz (D.outR)) (p.out b9 d.out) (c8.out b9 d.out) (by have:=a1.out.1;omega))
 go_wp2_with fail
 clear m0 m1 E B;refine c.out.mono ?_;rintro r O ⟨hb,⟨e5,d3⟩,rfl,hz⟩;replace s:=qh (s.out.on hb);replace z:=qh (z.out.on hb);replace g:=qh ((hb.block _ (lt_of_block g.out)).trans g.out);replace d:=qh (d.out.trans (hb.mono d.out.size));clear hb;clear c
 rcases hz with ⟨_,_,_,U⟩|⟨_,_,m,_⟩|⟨m,_⟩
 rotate_left
 ·exact absurd (x4d D) m
 ·exact absurd ⟨HV.out.outR,a1.out.2⟩ m
 have e9:=qh U;clear U;by_cases X:d8=0
 ·skip
  subst X;by_cases X:d3=0
  ·skip
   subst X;have d6:f5=e5:=Dv.eq HV.out.outR e6.out e9.out rfl rfl;subst d6;have c:=qh (z2y O (p.out O d.out))
   go_wp2_with fail
   refine c.out.mono ?_;rintro r g1 ⟨rfl,hb⟩;replace s:=qh (s.out.on hb);replace z:=qh (z.out.on hb);replace g:=qh ((hb.block _ (lt_of_block g.out)).trans g.out);replace d:=qh (d.out.trans (hb.mono d.out.size));clear hb;clear c;go_wp2;go_ret;exact⟨rfl,d.out⟩
  skip
  have e7:¬ ((d3:Int)=0):=by omega
  clear X;have c:=qh (z2y O (p.out O d.out))
  go_wp2_with fail
  refine c.out.mono ?_;rintro r g0 ⟨rfl,hb⟩;replace s:=qh (s.out.on hb);replace z:=qh (z.out.on hb);replace g:=qh ((hb.block _ (lt_of_block g.out)).trans g.out);replace d:=qh (d.out.trans (hb.mono d.out.size));clear hb;clear c;go_wp2;go_ret;exact⟨rfl,d.out⟩
 skip
 have e7:¬ ((d8:Int)=0):=by omega
 clear X;have c:=qh (z2y O (p.out O d.out))
 go_wp2_with fail
 refine c.out.mono ?_;rintro r f9 ⟨rfl,hb⟩;replace s:=qh (s.out.on hb);replace z:=qh (z.out.on hb);replace g:=qh ((hb.block _ (lt_of_block g.out)).trans g.out);replace d:=qh (d.out.trans (hb.mono d.out.size));clear hb;clear c;go_wp2;go_ret;exact⟨rfl,d.out⟩
end
section
open Go.RowKit Go.Deep Go.ChangeShapes Go.WideShapes
end
section
open Go.RowKit Go.Deep Go.ChangeShapes Go.WideShapes Go.Joins
theorem z8v {H:Type} {P:Program} {e:TypeId} {d:DataW H} {n:Nat}:∀ {ds:List (DataW H)},d ∈ ds->n ∈ d.weights P e->n ∈ DataW.weightsAll P e ds
 | d0::r,h,hn=>by
  simp only[DataW.weightsAll,List.mem_append]
  rcases List.mem_cons.1 h with rfl|h
  ·exact .inl hn
  exact .inr (z8v h hn)
theorem y2a {H:Type} {t e:TypeId} {c d:List (DataW H)} (g:prog.underlying t=some (.slice e)) (i:1<=prog.bytesOf e) {b:Nat} (hb:∀ m ∈ (DataW.slice c d).weights prog t,m<=b):c.length<=b:=by
 have h:=hb ((c.length+d.length)*prog.bytesOf e) (by simp[DataW.weights,g]);have:=Nat.le_mul_of_pos_right (c.length+d.length) i;omega
theorem x0p {H:Type} {t e:TypeId} {c i:List (DataW H)} {d:DataW H} {m:Nat} (g:prog.underlying t=some (.slice e)) (h:d ∈ c) (j:m ∈ d.weights prog e):m ∈ (DataW.slice c i).weights prog t:=by
 simp only[DataW.weights,g,List.mem_cons,List.mem_append];exact .inr (.inl (z8v h j))
theorem v6b {H:Type} {enc:TypeId × Value->H} {W:World} {p:Bool} {o:Nat} {v:Value} {x:DataW H × List MemPlace} (h:DataW.trod enc prog W 0 (fun _=>true) p o 55 [v]=some x) :
  ∃ (n:Nat) (fi fo ft:Nat->Int) (fw:Nat->ByteArray),(∀ (D:MD) (i:Nat),D.na i=n->D.ain i=fi->D.aout i=fo->D.aw i=fw->D.ato i=ft->ArS none W v D i)/\(∀ j,(fw j).size<=maxLen) /\
   ∀ b,(∀ m ∈ x.1.weights prog 55,m<=b)->n<=b:=by
 rcases open_slice underlying55 h with ⟨g,_⟩|⟨a,len,a1,m,n',D,Pl,g,_,hl,P,B,I,hx⟩
 ·simp only[List.cons.injEq,and_true] at g;exact⟨0,fun _=>0,fun _=>0,fun _=>0,fun _=>⟨#[]⟩,fun D i K _ _ _ _=>.inl ⟨K,none,0,g,Nat.zero_le _⟩,fun _=>Nat.zero_le _,fun _ _=>Nat.zero_le _⟩
 simp only[List.cons.injEq,and_true] at g;simp only[if_true] at B;subst B;have c4:prog.cellsOf 59=4:=by kernel_rfl
 have ci:prog.cellsOf 3=1:=by kernel_rfl
 have cs:prog.cellsOf 9=1:=by kernel_rfl
 classical
 have d:∀ i,∃ t:Int × Int × ByteArray × Int,t.2.2.1.size<=maxLen/\(i<m->W.cell? (a.add (i*4))=some (.int .i64 t.1)/\W.cell? (a.add (i*4+1))=some (.int .i64 t.2.1)/\W.cell? (a.add (i*4+2))=some (.string t.2.2.1)/\W.cell? (a.add (i*4+3))=some (.int .i64 t.2.2.2)):=fun i=>by
  by_cases hi:i<m
  ·obtain⟨L,E,N⟩:=hx i hi;rw[c4] at E;obtain⟨_,C,c⟩:=World.cells?_some E;obtain⟨y0,y1,y2,y3,k,_,_,Z,Q,R,S⟩:=trod_struct4 underlying59 N
   match L,C with
   | [v0,v1,v2,v3],_ =>
    simp only[ci,cs,List.drop_zero,List.drop_succ_cons,List.take_succ_cons,List.take_zero] at Z Q R S;obtain⟨z0,e0,_⟩:=DataW.trod_int underlying3 Z;obtain⟨Y,e1,_⟩:=DataW.trod_int underlying3 Q;obtain⟨X,e2,_,J⟩:=DataW.trod_string underlying9 R;obtain⟨U,e3,_⟩:=DataW.trod_int underlying3 S;obtain rfl:v0=.int .i64 z0:=by simpa using e0
    obtain rfl:v1=.int .i64 Y:=by simpa using e1
    obtain rfl:v2=.string X:=by simpa using e2
    obtain rfl:v3=.int .i64 U:=by simpa using e3
    have u:=c 0 (by omega);have A:=c 1 (by omega);have z:=c 2 (by omega);have s:=c 3 (by omega);rw[add_add] at u A z s;exact⟨(z0,Y,X,U),J,fun _=>⟨by simpa using u,by simpa using A,by simpa using z,by simpa using s⟩⟩
  exact⟨(0,0,⟨#[]⟩,0),Nat.zero_le _,fun h=>absurd h hi⟩
 obtain⟨T,G⟩:∃ T:Nat->Int × Int × ByteArray × Int,∀ i,(T i).2.2.1.size<=maxLen/\(i<m->W.cell? (a.add (i*4))=some (.int .i64 (T i).1)/\W.cell? (a.add (i*4+1))=some (.int .i64 (T i).2.1)/\W.cell? (a.add (i*4+2))=some (.string (T i).2.2.1)/\W.cell? (a.add (i*4+3))=some (.int .i64 (T i).2.2.2)) :=
  ⟨fun i=>Classical.choose (d i),fun i=>Classical.choose_spec (d i)⟩
 refine⟨len,fun i=>(T i).1,fun i=>(T i).2.1,fun i=>(T i).2.2.2,fun i=>(T i).2.2.1,fun D i l E N h3 h4=>?_,fun j=>(G j).1,fun b hb=>?_⟩
 ·by_cases K:len=0
  ·rw[K] at l g;exact .inl ⟨l,some a,m,g,P⟩
  have c0:=((G 0).2 (by omega)).1;have O:a.spot=none:=by simpa [Addr.add] using World.cell?_spot c0
  obtain⟨b,F,sp⟩:=a;simp only at O;subst O;refine .inr ⟨b,F,m,by rw[l];exact g,⟨?_,by simp⟩,by rw[l];exact hl,P,fun j hj=>?_⟩
  ·have:=World.block_lt_of_cell? _ _ c0;rw[Addr.add_lit] at this;exact this
  rw[l] at hj;obtain⟨u,A,z,s⟩:=(G j).2 (by omega);rw[Addr.add_lit] at u A z s;rw[E,N,h3,h4];exact⟨u,by rw[Nat.add_assoc];exact A,by rw[Nat.add_assoc];exact z,by rw[Nat.add_assoc];exact s⟩
 rw[I] at hb;have:=y2a underlying55 (by decide +kernel) hb
 simpa using this
theorem u2w {H:Type} {enc:TypeId × Value->H} {W:World} {r:Reach} {b0:Nat} {l:Bool} {v:Value} {d:DataW H} {p:List MemPlace} (hv:Value.okWide prog W r b0 24 v) (h:DataW.Trod enc prog W 0 (fun _=>true) l 24 v d p)
  (U:∀ m ∈ d.weights prog 24,m<=reachBytes):∃ D,Ma none W v D/\MSz D:=by
 obtain⟨v0,v1,S,v3,y0,y1,y2,y3,n,rfl,rfl,rfl,t0,t1,t2,t3⟩:=open_agg4 underlying24 (by kernel_rfl) (by kernel_rfl) hv h;obtain⟨z0,e0,_,w0⟩:=DataW.trod_int underlying3 t0;obtain⟨J,R,_,w1⟩:=DataW.trod_int underlying3 t1;obtain⟨I,e2,_,L⟩:=DataW.trod_string underlying9 t2;obtain rfl:v0=.int .i64 z0:=by simpa using e0
 obtain rfl:v1=.int .i64 J:=by simpa using R
 obtain rfl:S=.string I:=by simpa using e2
 have g:∀ m ∈ y3.1.weights prog 22,m<=reachBytes:=fun m B=>U m (by
  simp only[DataW.weights,underlying24,DataW.weightsEach,List.map_cons,List.mem_append,List.map_nil];exact .inr (.inr (.inr (.inl B))))
 have o:-9223372036854775808<=z0/\z0<=9223372036854775807:=by
  simp[Lit.wf,IntKind.min,IntKind.max,IntKind.signed,IntKind.bits] at w0;omega
 have P:reachBytes<=140737488355328:=by decide
 rcases open_slice_pairs underlying22 underlying57 (by kernel_rfl) rfl rfl (by kernel_rfl) (by kernel_rfl) t3 with ⟨k,_⟩|⟨a,len,a1,m,n',V0,K,D0,D1,P0,P1,k,_,hl,B,u,A,G⟩
 ·simp only[List.cons.injEq,and_true] at k;exact⟨{ kind:=z0,start:=J,lead:=I,n:=0,fin:=fun _=>⟨#[]⟩,na:=fun _=>0,ain:=fun _ _=>0,aout:=fun _ _=>0,aw:=fun _ _=>⟨#[]⟩,ato:=fun _ _=>0 },⟨_,rfl,.inl ⟨rfl,none,0,k,Nat.zero_le _⟩⟩,
   ⟨L,fun _=>Nat.zero_le _,fun _ _=>Nat.zero_le _,fun _=>Nat.zero_le _,Nat.zero_le _,o⟩⟩
 simp only[List.cons.injEq,and_true] at k;simp only[if_true] at u;subst u
 classical
 have c:∀ i,∃ t:ByteArray × Nat × (Nat->Int) × (Nat->Int) × (Nat->Int) × (Nat->ByteArray),t.1.size<=maxLen/\(∀ j,(t.2.2.2.2.2 j).size<=maxLen)/\t.2.1<=reachBytes /\
   (i<len->V0 i=.string t.1/\∀ (D:MD) (j:Nat),D.na j=t.2.1->D.ain j=t.2.2.1->D.aout j=t.2.2.2.1->D.aw j=t.2.2.2.2.2->D.ato j=t.2.2.2.2.1->ArS none W (K i) D j):=fun i=>by
  by_cases hi:i<len
  ·obtain⟨_,_,g0,Y⟩:=G i (by omega);obtain⟨s,e,_,C⟩:=DataW.trod_string underlying9 g0;obtain⟨na,fi,Q,T,fw,Z,h2,X⟩:=v6b Y;refine⟨(s,na,fi,Q,T,fw),C,h2,X _ fun q hq=>g q ?_,fun _=>⟨by simpa using e,Z⟩⟩;rw[A];refine x0p underlying22 (List.mem_map.2 ⟨i,List.mem_range.2 hi,rfl⟩) ?_;simp only[DataW.weights,underlying57,DataW.weightsEach,List.map_cons,List.mem_append,List.map_nil];exact .inr (.inl hq)
  exact⟨(⟨#[]⟩,0,fun _=>0,fun _=>0,fun _=>0,fun _=>⟨#[]⟩),Nat.zero_le _,fun _=>Nat.zero_le _,Nat.zero_le _,fun h=>absurd h hi⟩
 have z:len<=reachBytes:=by
  rw[A] at g;have:=y2a underlying22 (by decide +kernel) g
  simpa using this
 refine⟨{ kind:=z0,start:=J,lead:=I,n:=len,fin:=fun i=>(Classical.choose (c i)).1,na:=fun i=>(Classical.choose (c i)).2.1,ain:=fun i=>(Classical.choose (c i)).2.2.1,aout:=fun i=>(Classical.choose (c i)).2.2.2.1,aw:=fun i=>(Classical.choose (c i)).2.2.2.2.2,ato:=fun i=>(Classical.choose (c i)).2.2.2.2.1 },⟨_,rfl,?_⟩,
  ⟨L,fun i=>(Classical.choose_spec (c i)).1,fun i=>(Classical.choose_spec (c i)).2.1,fun i=>Nat.le_trans (Classical.choose_spec (c i)).2.2.1 P,Nat.le_trans z P,o⟩⟩
 by_cases h0:len=0
 ·subst h0;exact .inl ⟨rfl,some a,m,k,B⟩
 have c0:=(G 0 (by omega)).1;have C:a.spot=none:=by simpa [Addr.add] using World.cell?_spot c0
 obtain⟨b,E,sp⟩:=a;simp only at C;subst C;refine .inr ⟨b,E,m,K,k,⟨?_,by simp⟩,hl,B,fun j O=>?_⟩
 ·have:=World.block_lt_of_cell? _ _ c0;rw[Addr.add_lit] at this;exact this
 obtain⟨F,N,_,_⟩:=G j (by have:j<len:=O;omega);obtain⟨uu1,uu2⟩:=(Classical.choose_spec (c j)).2.2.2 O;rw[Addr.add_lit] at F N;rw[uu1] at F;exact⟨F,by rw[Nat.add_assoc];exact N,uu2 _ j rfl rfl rfl rfl rfl⟩
end
section
open Go.RowKit Go.Deep Go.ChangeShapes Go.WideShapes
theorem v3j {H:Type} {enc:TypeId × Value->H} {W:World} {k:Bool} {g:Nat} {v:Value} {x:DataW H × List MemPlace} (h:DataW.trod enc prog W 0 (fun _=>true) k g 25 [v]=some x) :
  ∃ (n:Nat) (F:Nat->Int),Rd none W v n fun i=>.int .i64 (F i):=by
 rcases open_slice1 underlying25 (by kernel_rfl) h with ⟨d,_⟩|⟨a,len,A,m,I,V,D,Pl,d,_,E,u,l,_,o⟩
 ·simp only[List.cons.injEq,and_true] at d;exact⟨0,fun _=>0,.inl ⟨rfl,none,0,d,Nat.zero_le _⟩⟩
 simp only[List.cons.injEq,and_true] at d;simp only[if_true] at l;subst l
 classical
 have c:∀ i,∃ z:Int,i<m->V i=.int .i64 z:=fun i=>by
  by_cases hi:i<m
  ·obtain⟨z,B,_⟩:=DataW.trod_int underlying3 (o i hi).2;exact⟨z,fun _=>by simpa using B⟩
  exact⟨0,fun h=>absurd h hi⟩
 refine⟨len,fun i=>Classical.choose (c i),?_⟩;by_cases C:len=0
 ·subst C;exact .inl ⟨rfl,some a,m,d,u⟩
 have c0:=(o 0 (by omega)).1;have s:a.spot=none:=by simpa [Addr.add] using World.cell?_spot c0
 obtain⟨b,p,J⟩:=a;simp only at s;subst s;refine .inr ⟨b,p,m,d,⟨?_,by simp⟩,E,u,fun j G=>?_⟩
 ·have:=World.block_lt_of_cell? _ _ c0;rw[Addr.add_lit] at this;exact this
 have:=(o j (by omega)).1;rw[Addr.add_lit,Classical.choose_spec (c j) (by omega)] at this;exact this
end
end Go.Proofs.YteappjogmnogcaaGreatDoor
