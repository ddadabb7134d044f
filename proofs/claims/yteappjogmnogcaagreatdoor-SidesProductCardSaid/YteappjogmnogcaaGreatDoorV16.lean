/- Parts of a proof: L10Product AM ArgI. -/
import Derived.Test.YteappjogmnogcaaGreatDoorV15
import Derived.Test.YteappjogmnogcaaGreatDoorV06
import Derived.Deep.Slices
import Derived.SliceStrings
import Derived.ChangeSlices
import Derived.Lib.SmallJoins
import Derived.Deep.SlicePairs
import Derived.SizedLaws
namespace Go.Proofs.YteappjogmnogcaaGreatDoor
set_option maxRecDepth 100000
set_option linter.unusedSimpArgs false
set_option linter.unusedVariables false
set_option linter.unusedSectionVars false
set_option maxHeartbeats 16000000
open Go Tryz
section
open Go.RowKit Go.Deep
theorem y2m {D E:MD} {mv nv xv:Value} {na:Nat} {x:Nat->Int} (w:World) (l0:Ma none w mv D) (e6:MSz D) (l5:Ma none w nv E) (e5:MSz E) (hx:Si none w xv na x) (ht:Tab w) :
  Calls prog 12 #[mv,nv,xv] w (TrueB w):=by
 obtain⟨o2,c8,g3⟩:=l0;subst c8;obtain⟨i6,f7,_,_,_,_,_,_,G,_⟩:=g3.open;subst G;have g2:=qh (show ∀ W,Below w.heap.size w W->Ma none W (.agg #[.int .i64 D.kind,.int .i64 D.start,.string D.lead,.slice i6 D.n f7]) D from fun W h=>⟨_,rfl,g3.kept (z0b h none)⟩);clear g3;have c7:=qh e6;clear e6;obtain⟨m4,c8,f4⟩:=l5;subst c8;obtain⟨h8,f8,_,_,_,_,_,_,G,_⟩:=f4.open;subst G;have f9:=qh (show ∀ W,Below w.heap.size w W->Ma none W (.agg #[.int .i64 E.kind,.int .i64 E.start,.string E.lead,.slice h8 E.n f8]) E from fun W h=>⟨_,rfl,f4.kept (z0b h none)⟩);clear f4;have b4:=qh e5;clear e5;obtain⟨i9,g7,_,_,k5,_,k3,e7,_,_⟩:=hx.open;subst k5;have j0:(na:Int)<=9223372036854775807:=by unfold maxLen at e7;omega
 clear k3 e7;have i3:=qh (show ∀ W,Below w.heap.size w W->Si none W (.slice i9 na g7) na x from fun W h=>hx.kept (z0b h none));clear hx;have k2:=qh j0;clear j0;have l:=qh (show ∀ W,Below w.heap.size w W->Tab W from fun W h=>ht.below h nlr);clear ht;have d:=qh (Below.refl w.heap.size w);obtain⟨w1,O⟩:=exq (w.alloc (.cells #[.int .i64 D.kind,.int .i64 D.start,.string D.lead,.slice i6 D.n f7] 24));obtain⟨i1,b0⟩:=exq (w.heap.size);have b5:w1.heap.size=w.heap.size+1:=by rw[O];simp
 have hb:Below w.heap.size w w1:=by rw[O];exact(Below.refl _ w).alloc nlr _
 have U:w1.heap[i1]?=some (.cells #[.int .i64 D.kind,.int .i64 D.start,.string D.lead,.slice i6 D.n f7] 24 (0,0)):=by rw[b0,O];exact heap_alloc_new w _
 replace d:=qh (d.out.trans (hb.mono d.out.size));clear hb;have g:=qh U;clear U;obtain⟨bA,d9⟩:∃ x,x=i1:=⟨_,rfl⟩;rw[<- d9] at g;obtain⟨w2,Q⟩:=exq (w1.alloc (.cells #[.int .i64 E.kind,.int .i64 E.start,.string E.lead,.slice h8 E.n f8] 24));obtain⟨i2,b7⟩:=exq (w.heap.size+1);have j5:w2.heap.size=w.heap.size+1+1:=by rw[Q];simp[b5]
 have hb:Below w1.heap.size w1 w2:=by rw[Q];exact(Below.refl _ w1).alloc nlr _
 have U:w2.heap[i2]?=some (.cells #[.int .i64 E.kind,.int .i64 E.start,.string E.lead,.slice h8 E.n f8] 24 (0,0)):=by rw[b7,<- b5,Q];exact heap_alloc_new w1 _
 replace g:=qh ((hb.block _ (lt_of_block g.out)).trans g.out);replace d:=qh (d.out.trans (hb.mono d.out.size));clear hb;have i:=qh U;clear U;obtain⟨bB,i5⟩:∃ x,x=i2:=⟨_,rfl⟩;rw[<- i5] at i
 go_enter func12,ntmps12
 obtain⟨⟨m0,m1,S,P⟩,_⟩:=cells4 g.out;rw[Q,O] at m0 m1 S P;rw[d9,b0] at m0 m1 S P;have c:=qh (y4m w2 (g2.out w2 d.out) c7.out)
 go_wp2_with fail
 clear m0 m1 S P;rw[<- b7,<- b0,<- O,<- Q];rw[<- d9];rw[<- i5];clear O b5 b0;clear Q j5 b7;clear d9;clear i5;refine c.out.mono ?_;rintro r w3 ⟨k6,rfl,a2,hb⟩;replace g:=qh ((hb.block _ (lt_of_block g.out)).trans g.out);replace i:=qh ((hb.block _ (lt_of_block i.out)).trans i.out);replace d:=qh (d.out.trans (hb.mono d.out.size));clear hb;clear c;cases k6
 rotate_left
 ·skip
  clear a2;have c:=qh (z0y w3 (l.out w3 d.out))
  go_wp2_with fail
  refine c.out.mono ?_;rintro r w4 ⟨rfl,hb⟩;replace g:=qh ((hb.block _ (lt_of_block g.out)).trans g.out);replace i:=qh ((hb.block _ (lt_of_block i.out)).trans i.out);replace d:=qh (d.out.trans (hb.mono d.out.size));clear hb;clear c;go_wp2;go_ret;exact⟨rfl,d.out⟩
 have b1:=qh (show ¬ (8<D.n\/30<z0f D D.n) from fun h=>by cases a2.2 h);clear a2;obtain⟨⟨m0,m1,S,P⟩,_⟩:=cells4 i.out;have c:=qh (y4m w3 (f9.out w3 d.out) b4.out)
 go_wp2_with fail
 clear m0 m1 S P;refine c.out.mono ?_;rintro r w5 ⟨l4,rfl,a2,hb⟩;replace g:=qh ((hb.block _ (lt_of_block g.out)).trans g.out);replace i:=qh ((hb.block _ (lt_of_block i.out)).trans i.out);replace d:=qh (d.out.trans (hb.mono d.out.size));clear hb;clear c;cases l4
 rotate_left
 ·skip
  clear a2;have c:=qh (z0y w5 (l.out w5 d.out))
  go_wp2_with fail
  refine c.out.mono ?_;rintro r w6 ⟨rfl,hb⟩;replace g:=qh ((hb.block _ (lt_of_block g.out)).trans g.out);replace i:=qh ((hb.block _ (lt_of_block i.out)).trans i.out);replace d:=qh (d.out.trans (hb.mono d.out.size));clear hb;clear c;go_wp2;go_ret;exact⟨rfl,d.out⟩
 have Y:=qh (show ¬ (8<E.n\/30<z0f E E.n) from fun h=>by cases a2.2 h);clear a2;obtain⟨w7,X⟩:=exq (w5.alloc (.cells #[.slice i9 na g7] 25));obtain⟨i7,d3⟩:=exq (w5.heap.size);have j6:w7.heap.size=w5.heap.size+1:=by rw[X];simp
 have hb:Below w5.heap.size w5 w7:=by rw[X];exact(Below.refl _ w5).alloc nlr _
 have hk:w7.heap[i7]?=some (.cells #[.slice i9 na g7] 25 (0,0)):=by rw[d3,X];exact heap_alloc_new w5 _
 replace g:=qh ((hb.block _ (lt_of_block g.out)).trans g.out);replace i:=qh ((hb.block _ (lt_of_block i.out)).trans i.out);replace d:=qh (d.out.trans (hb.mono d.out.size));clear hb;have HF:=qh (v8j w7 (cellOf hk 0 rfl) (i3.out w7 d.out) k2.out);clear hk;have c:=qh (HF.out)
 go_wp2_with fail
 rw[<- d3,<- X];clear X j6 d3;refine c.out.mono ?_;rintro r w8 ⟨bf,rfl,g9,hb⟩;replace g:=qh ((hb.block _ (lt_of_block g.out)).trans g.out);replace i:=qh ((hb.block _ (lt_of_block i.out)).trans i.out);replace d:=qh (d.out.trans (hb.mono d.out.size));clear hb;clear c;clear HF;cases bf
 rotate_left
 ·skip
  clear g9;have c:=qh (z0y w8 (l.out w8 d.out))
  go_wp2_with fail
  refine c.out.mono ?_;rintro r w9 ⟨rfl,hb⟩;replace g:=qh ((hb.block _ (lt_of_block g.out)).trans g.out);replace i:=qh ((hb.block _ (lt_of_block i.out)).trans i.out);replace d:=qh (d.out.trans (hb.mono d.out.size));clear hb;clear c;go_wp2;go_ret;exact⟨rfl,d.out⟩
 have d6:=qh (u3b fun h=>by cases g9.2 h);clear g9;obtain⟨⟨m0,m1,S,P⟩,_⟩:=cells4 g.out;obtain⟨⟨n0,n1,n2,n3⟩,_⟩:=cells4 i.out;have c:=qh (x0f w8 (g2.out w8 d.out) (f9.out w8 d.out) c7.out b4.out (l.out w8 d.out) (by have:=b1.out;have:=Y.out;omega) (by have:=b1.out;have:=Y.out;omega))
 go_wp2_with fail
 clear m0 m1 S P;clear n0 n1 n2 n3;refine c.out.mono ?_;rintro r j ⟨hb,hr⟩;replace g:=qh ((hb.block _ (lt_of_block g.out)).trans g.out);replace i:=qh ((hb.block _ (lt_of_block i.out)).trans i.out);replace d:=qh (d.out.trans (hb.mono d.out.size));clear hb;clear c
 rcases hr with ⟨e9,i4,hq,⟨i8,k9,R,rfl,F⟩|⟨i8,rfl⟩⟩|⟨e9,i4,hq,rfl⟩|⟨hv,rfl⟩
 rotate_left
 ·skip
  unfold z6z;obtain⟨a8,J⟩:=exq (j.alloc (.cells #[.int .i64 0,.int .i64 0,.string ⟨#[]⟩,.slice none 0 0] 24));obtain⟨d8,a6⟩:=exq (j.heap.size);have g5:a8.heap.size=j.heap.size+1:=by rw[J];simp
  have hb:Below j.heap.size j a8:=by rw[J];exact(Below.refl _ j).alloc nlr _
  have U:a8.heap[d8]?=some (.cells #[.int .i64 0,.int .i64 0,.string ⟨#[]⟩,.slice none 0 0] 24 (0,0)):=by rw[a6,J];exact heap_alloc_new j _
  replace g:=qh ((hb.block _ (lt_of_block g.out)).trans g.out);replace i:=qh ((hb.block _ (lt_of_block i.out)).trans i.out);replace d:=qh (d.out.trans (hb.mono d.out.size));clear hb;have KC:=qh U;clear U;obtain⟨bC,s⟩:∃ x,x=d8:=⟨_,rfl⟩;rw[<- s] at KC;have c:=qh (z0y a8 (l.out a8 d.out))
  go_wp2_with fail
  rw[<- a6,<- J];rw[<- s];clear J g5 a6;clear s;refine c.out.mono ?_;rintro r n5 ⟨rfl,hb⟩;replace g:=qh ((hb.block _ (lt_of_block g.out)).trans g.out);replace i:=qh ((hb.block _ (lt_of_block i.out)).trans i.out);replace KC:=qh ((hb.block _ (lt_of_block KC.out)).trans KC.out);replace d:=qh (d.out.trans (hb.mono d.out.size));clear hb;clear c;go_wp2;go_ret;exact⟨rfl,d.out⟩
 ·skip
  unfold z6z;obtain⟨a9,K⟩:=exq (j.alloc (.cells #[.int .i64 0,.int .i64 0,.string ⟨#[]⟩,.slice none 0 0] 24));obtain⟨d7,Z⟩:=exq (j.heap.size);have g8:a9.heap.size=j.heap.size+1:=by rw[K];simp
  have hb:Below j.heap.size j a9:=by rw[K];exact(Below.refl _ j).alloc nlr _
  have U:a9.heap[d7]?=some (.cells #[.int .i64 0,.int .i64 0,.string ⟨#[]⟩,.slice none 0 0] 24 (0,0)):=by rw[Z,K];exact heap_alloc_new j _
  replace g:=qh ((hb.block _ (lt_of_block g.out)).trans g.out);replace i:=qh ((hb.block _ (lt_of_block i.out)).trans i.out);replace d:=qh (d.out.trans (hb.mono d.out.size));clear hb;have KC:=qh U;clear U;obtain⟨bC,s⟩:∃ x,x=d7:=⟨_,rfl⟩;rw[<- s] at KC;have c:=qh (z0y a9 (l.out a9 d.out))
  go_wp2_with fail
  rw[<- Z,<- K];rw[<- s];clear K g8 Z;clear s;refine c.out.mono ?_;rintro r l8 ⟨rfl,hb⟩;replace g:=qh ((hb.block _ (lt_of_block g.out)).trans g.out);replace i:=qh ((hb.block _ (lt_of_block i.out)).trans i.out);replace KC:=qh ((hb.block _ (lt_of_block KC.out)).trans KC.out);replace d:=qh (d.out.trans (hb.mono d.out.size));clear hb;clear c;go_wp2;go_ret;exact⟨rfl,d.out⟩
 ·skip
  unfold z6z;obtain⟨a1,H⟩:=exq (j.alloc (.cells #[.int .i64 0,.int .i64 0,.string ⟨#[]⟩,.slice none 0 0] 24));obtain⟨e1,a4⟩:=exq (j.heap.size);have h3:a1.heap.size=j.heap.size+1:=by rw[H];simp
  have hb:Below j.heap.size j a1:=by rw[H];exact(Below.refl _ j).alloc nlr _
  have U:a1.heap[e1]?=some (.cells #[.int .i64 0,.int .i64 0,.string ⟨#[]⟩,.slice none 0 0] 24 (0,0)):=by rw[a4,H];exact heap_alloc_new j _
  replace g:=qh ((hb.block _ (lt_of_block g.out)).trans g.out);replace i:=qh ((hb.block _ (lt_of_block i.out)).trans i.out);replace d:=qh (d.out.trans (hb.mono d.out.size));clear hb;have KC:=qh U;clear U;obtain⟨bC,s⟩:∃ x,x=e1:=⟨_,rfl⟩;rw[<- s] at KC;have c:=qh (z0y a1 (l.out a1 d.out))
  go_wp2_with fail
  rw[<- a4,<- H];rw[<- s];clear H h3 a4;clear s;refine c.out.mono ?_;rintro r m5 ⟨rfl,hb⟩;replace g:=qh ((hb.block _ (lt_of_block g.out)).trans g.out);replace i:=qh ((hb.block _ (lt_of_block i.out)).trans i.out);replace KC:=qh ((hb.block _ (lt_of_block KC.out)).trans KC.out);replace d:=qh (d.out.trans (hb.mono d.out.size));clear hb;clear c;go_wp2;go_ret;exact⟨rfl,d.out⟩
 have HV:=qh e9;clear e9;have b9:=qh i4;clear i4;have HQ:=qh hq;clear hq;have j1:=qh (u1b i8);clear i8;obtain⟨A,b2⟩:∃ A,A=(catD D.inZ E.outZ (z0g D.kind D.lead E.lead).1):=⟨_,rfl⟩;rw[<- b2] at F;have e8:=qh (show VM A by rw[b2];exact v6i HV.out c7.out b9.out b4.out HQ.out.2.2 (by have:=b1.out;have:=Y.out;omega) (by have:=b1.out;have:=Y.out;omega) j1.out);have j9:=qh (show MSz A by rw[b2];exact v3h HV.out.inZ { c7.out with } (VM.outZ b9.out) { b4.out with } HQ.out.2.2.symm (x0m _ _ _));have h9:D.kind=A.kind/\(E.n:Int)+D.start=A.start/\(z0g D.kind D.lead E.lead).1=A.lead:=by rw[b2];exact⟨(x0c D.inZ E.outZ _).symm,rfl,(v0q D.inZ E.outZ _).symm⟩
 have j3:=qh b2;clear b2;obtain⟨g6,g0,G,_,_⟩:=z1h F.top;have G:_=Value.slice g6 (A).n g0:=G;subst G;obtain⟨a7,C⟩:=exq (j.alloc (.cells #[.int .i64 (D.kind),.int .i64 (((E.n:Int)+D.start)),.string ((z0g D.kind D.lead E.lead).1),.slice g6 (A).n g0] 24));obtain⟨a5,T⟩:=exq (j.heap.size);have g4:a7.heap.size=j.heap.size+1:=by rw[C];simp
 have hb:Below j.heap.size j a7:=by rw[C];exact(Below.refl _ j).alloc nlr _
 have U:Has a7 a5 (D.kind) (((E.n:Int)+D.start)) ((z0g D.kind D.lead E.lead).1) g6 (A).n g0 (A):=by rw[T,C];exact Has.new F h9
 clear F;have d0:bA≠a5:=by have:=lt_of_block g.out;omega
 have d1:bB≠a5:=by have:=lt_of_block i.out;omega
 have LC:w.heap.size<=a5:=by have:=d.out.size;omega
 replace g:=qh ((hb.block _ (lt_of_block g.out)).trans g.out);replace i:=qh ((hb.block _ (lt_of_block i.out)).trans i.out);replace d:=qh (d.out.trans (hb.mono d.out.size));clear hb;have p:=qh U;clear U;obtain⟨bC,s⟩:∃ x,x=a5:=⟨_,rfl⟩;rw[<- s] at p d0 d1 LC;have m8:=qh h9;clear h9;obtain⟨⟨m0,m1,S,P⟩,_⟩:=cells4 p.out.1;rw[C] at m0 m1 S P;rw[s,T] at m0 m1 S P;have c:=qh (x0g a7 p.out.ma j9.out (l.out a7 d.out))
 go_wp2_with fail
 clear m0 m1 S P;rw[<- T,<- C];rw[<- s];clear C g4 T;clear s;refine c.out.mono ?_;rintro r d4 ⟨hb,hr⟩;replace p:=qh (p.out.on hb);replace g:=qh ((hb.block _ (lt_of_block g.out)).trans g.out);replace i:=qh ((hb.block _ (lt_of_block i.out)).trans i.out);replace d:=qh (d.out.trans (hb.mono d.out.size));clear hb;clear c;have hr:(VM (A)/\∃ sv R,r=.returned (.tuple #[.agg #[.int .i64 (A.kind),.int .i64 (A.start),.string (A.lead),sv],.int .i64 0])/\OwM d4 _ sv (A.inR) R)\/(¬ VM (A)/\r=.returned (.tuple #[z6z,.int .i64 1])):=hr
 rcases hr with ⟨_,k9,R,rfl,F⟩|⟨I,_⟩
 rotate_left
 ·exact absurd e8.out I
 obtain⟨b8,d2,G,_,_⟩:=z1h F.top;have G:_=Value.slice b8 A.n d2:=G;subst G;obtain⟨⟨r0,r1,r2,r3⟩,rz⟩:=cells4 p.out.1;have f0:=rz 0;have f1:=rz 1;have f2:=rz 2;have f3:=rz 3;clear rz;obtain⟨N,m⟩:∃ N,N=(((d4.setCell ⟨bC,0,none⟩ (.int .i64 (A.kind))).setCell ⟨bC,1,none⟩ (.int .i64 (A.start))).setCell ⟨bC,2,none⟩ (.string (A.lead))).setCell ⟨bC,3,none⟩ (.slice b8 A.n d2):=⟨_,rfl⟩;have h0:N.heap.size=d4.heap.size:=by rw[m];simp[World.setCell]
 replace g:=qh ((show N.heap[bA]?=d4.heap[bA]? from by rw[m,z0e d0,z0e d0,z0e d0,z0e d0]).trans g.out);replace i:=qh ((show N.heap[bB]?=d4.heap[bB]? from by rw[m,z0e d1,z0e d1,z0e d1,z0e d1]).trans i.out);replace d:=qh (show Below w.heap.size w N from by rw[m];exact z0d d.out LC _ _ _ _);replace p:=qh (show Has N bC (A.kind) (A.start) (A.lead) b8 A.n d2 (A.inR) from by rw[m];exact Has.put F p.out.1 ⟨rfl,rfl,rfl⟩);clear F;obtain⟨⟨m0,m1,S,P⟩,_⟩:=cells4 p.out.1;rw[m] at m0 m1 S P;have c:=qh (y4n (D:=A.inR) N p.out.ma ({ j9.out with }:MSz A.inR) (l.out N d.out) (i3.out N d.out) (by have:=d6.out.1;omega))
 go_wp2_with fail
 clear m0 m1 S P;rw[<- m];clear m h0;refine c.out.mono ?_;rintro r e2 ⟨hb,⟨d5,e4⟩,rfl,hz⟩;replace p:=qh (p.out.on hb);replace g:=qh ((hb.block _ (lt_of_block g.out)).trans g.out);replace i:=qh ((hb.block _ (lt_of_block i.out)).trans i.out);replace d:=qh (d.out.trans (hb.mono d.out.size));clear hb;clear c
 rcases hz with ⟨_,_,_,b6⟩|⟨_,_,I,_⟩|⟨I,_⟩
 rotate_left
 ·exact absurd (v9q A) I
 ·exact absurd ⟨e8.out.inR,d6.out.2⟩ I
 have l1:=qh b6;clear b6;obtain⟨⟨m0,m1,S,P⟩,_⟩:=cells4 g.out;have c:=qh (y4n (D:=D) e2 (g2.out e2 d.out) c7.out (l.out e2 d.out) (i3.out e2 d.out) (by have:=d6.out.1;omega))
 go_wp2_with fail
 clear m0 m1 S P;refine c.out.mono ?_;rintro r g1 ⟨hb,⟨b3,e3⟩,rfl,hz⟩;replace p:=qh (p.out.on hb);replace g:=qh ((hb.block _ (lt_of_block g.out)).trans g.out);replace i:=qh ((hb.block _ (lt_of_block i.out)).trans i.out);replace d:=qh (d.out.trans (hb.mono d.out.size));clear hb;clear c
 rcases hz with ⟨_,_,_,b6⟩|⟨_,_,I,_⟩|⟨I,_⟩
 rotate_left
 ·exact absurd HQ.out.1 I
 ·exact absurd ⟨HV.out,d6.out.2⟩ I
 have j4:=qh b6;clear b6;obtain⟨⟨m0,m1,S,P⟩,_⟩:=cells4 i.out;have c:=qh (x9n (D:=E) g1 (f9.out g1 d.out) b4.out (l.out g1 d.out))
 go_wp2_with fail
 clear m0 m1 S P;refine c.out.mono ?_;rintro r B ⟨hb,hr⟩;replace p:=qh (p.out.on hb);replace g:=qh ((hb.block _ (lt_of_block g.out)).trans g.out);replace i:=qh ((hb.block _ (lt_of_block i.out)).trans i.out);replace d:=qh (d.out.trans (hb.mono d.out.size));clear hb;clear c
 rcases hr with ⟨I,_⟩|⟨_,l6,_⟩|⟨_,_,k,WW,VV,L,st,hk,hW,hF,hL,hs,_,⟨q,hq,rfl⟩|⟨rfl,_⟩⟩
 ·exact absurd b9.out I
 ·have:=Y.out;omega
 rotate_left
 ·skip
  clear hk hW hF hL hs;by_cases o:e4=0
  ·skip
   subst o;by_cases o:e3=0
   ·skip
    subst o;have c:=qh (z0y B (l.out B d.out))
    go_wp2_with fail
    refine c.out.mono ?_;rintro r l9 ⟨rfl,hb⟩;replace p:=qh (p.out.on hb);replace g:=qh ((hb.block _ (lt_of_block g.out)).trans g.out);replace i:=qh ((hb.block _ (lt_of_block i.out)).trans i.out);replace d:=qh (d.out.trans (hb.mono d.out.size));clear hb;clear c;go_wp2;go_ret;exact⟨rfl,d.out⟩
   skip
   have c9:¬ ((e3:Int)=0):=by omega
   clear o;have c:=qh (z0y B (l.out B d.out))
   go_wp2_with fail
   refine c.out.mono ?_;rintro r n9 ⟨rfl,hb⟩;replace p:=qh (p.out.on hb);replace g:=qh ((hb.block _ (lt_of_block g.out)).trans g.out);replace i:=qh ((hb.block _ (lt_of_block i.out)).trans i.out);replace d:=qh (d.out.trans (hb.mono d.out.size));clear hb;clear c;go_wp2;go_ret;exact⟨rfl,d.out⟩
  skip
  have c9:¬ ((e4:Int)=0):=by omega
  clear o;have c:=qh (z0y B (l.out B d.out))
  go_wp2_with fail
  refine c.out.mono ?_;rintro r n6 ⟨rfl,hb⟩;replace p:=qh (p.out.on hb);replace g:=qh ((hb.block _ (lt_of_block g.out)).trans g.out);replace i:=qh ((hb.block _ (lt_of_block i.out)).trans i.out);replace d:=qh (d.out.trans (hb.mono d.out.size));clear hb;clear c;go_wp2;go_ret;exact⟨rfl,d.out⟩
 have k7:=qh (v3v b9.out hW hF hL hs);have k0:=qh hq;have HK:=qh hk;clear hq hk hW hF hL hs;obtain⟨a3,j2⟩:=q;by_cases o:e4=0
 ·skip
  subst o;by_cases o:e3=0
  ·skip
   subst o;by_cases o:j2=0
   ·skip
    subst o;have k4:=qh (show (b3.size:Int)<=9223372036854775807 from (j4.out rfl k (HK.out.trans HQ.out.2.2.symm)).size);have l2:=qh (show (a3.size:Int)<=9223372036854775807 by have h1:=z6p (L*toV E (CSR.starM (arcM E WW) E.n) VV st E.n).1;rw[<- k0.out] at h1;have h2:a3.size<=802:=h1;omega);obtain⟨⟨m0,m1,S,P⟩,_⟩:=cells4 g.out;have c:=qh (z4h D.kind b3 a3 B (by have:=k4.out;omega) (by have:=l2.out;omega) (l.out B d.out))
    go_wp2_with fail
    clear m0 m1 S P;refine c.out.mono ?_;rintro r e0 ⟨rfl,hb⟩;replace p:=qh (p.out.on hb);replace g:=qh ((hb.block _ (lt_of_block g.out)).trans g.out);replace i:=qh ((hb.block _ (lt_of_block i.out)).trans i.out);replace d:=qh (d.out.trans (hb.mono d.out.size));clear hb;clear c;obtain⟨pp,f5⟩:=exq (z0g D.kind b3 a3);rw[<- f5];have j8:=qh f5;clear f5;obtain⟨l3,j7⟩:=pp;by_cases o:j7=0
    ·skip
     subst o;have k1:d5=l3:=by
      have h4:(z0g D.kind b3 a3).2=0:=by rw[<- j8.out]
      have h5:Dv (catD D.inZ E.outZ (z0g D.kind D.lead E.lead).1).inR na x (d5,0):=by rw[<- j3.out];exact l1.out
      have h6:=u0i (z:=(d5,0)) (u:=(b3,0)) (t:=(a3,0)) HV.out b9.out HQ.out.2.2 j1.out (by rw[<- j3.out];exact e8.out) h5 j4.out HK.out (k7.out).symm k0.out rfl rfl rfl h4;have h7:d5=(z0g D.kind b3 a3).1:=h6;rw[<- j8.out] at h7;exact h7
     subst k1;have c:=qh (z0y e0 (l.out e0 d.out))
     go_wp2_with fail
     refine c.out.mono ?_;rintro r o3 ⟨rfl,hb⟩;replace p:=qh (p.out.on hb);replace g:=qh ((hb.block _ (lt_of_block g.out)).trans g.out);replace i:=qh ((hb.block _ (lt_of_block i.out)).trans i.out);replace d:=qh (d.out.trans (hb.mono d.out.size));clear hb;clear c;go_wp2;go_ret;exact⟨rfl,d.out⟩
    skip
    have c9:¬ ((j7:Int)=0):=by omega
    clear o;have c:=qh (z0y e0 (l.out e0 d.out))
    go_wp2_with fail
    refine c.out.mono ?_;rintro r n7 ⟨rfl,hb⟩;replace p:=qh (p.out.on hb);replace g:=qh ((hb.block _ (lt_of_block g.out)).trans g.out);replace i:=qh ((hb.block _ (lt_of_block i.out)).trans i.out);replace d:=qh (d.out.trans (hb.mono d.out.size));clear hb;clear c;go_wp2;go_ret;exact⟨rfl,d.out⟩
   skip
   have c9:¬ ((j2:Int)=0):=by omega
   clear o;have c:=qh (z0y B (l.out B d.out))
   go_wp2_with fail
   refine c.out.mono ?_;rintro r l7 ⟨rfl,hb⟩;replace p:=qh (p.out.on hb);replace g:=qh ((hb.block _ (lt_of_block g.out)).trans g.out);replace i:=qh ((hb.block _ (lt_of_block i.out)).trans i.out);replace d:=qh (d.out.trans (hb.mono d.out.size));clear hb;clear c;go_wp2;go_ret;exact⟨rfl,d.out⟩
  skip
  have c9:¬ ((e3:Int)=0):=by omega
  clear o;have c:=qh (z0y B (l.out B d.out))
  go_wp2_with fail
  refine c.out.mono ?_;rintro r m9 ⟨rfl,hb⟩;replace p:=qh (p.out.on hb);replace g:=qh ((hb.block _ (lt_of_block g.out)).trans g.out);replace i:=qh ((hb.block _ (lt_of_block i.out)).trans i.out);replace d:=qh (d.out.trans (hb.mono d.out.size));clear hb;clear c;go_wp2;go_ret;exact⟨rfl,d.out⟩
 skip
 have c9:¬ ((e4:Int)=0):=by omega
 clear o;have c:=qh (z0y B (l.out B d.out))
 go_wp2_with fail
 refine c.out.mono ?_;rintro r m7 ⟨rfl,hb⟩;replace p:=qh (p.out.on hb);replace g:=qh ((hb.block _ (lt_of_block g.out)).trans g.out);replace i:=qh ((hb.block _ (lt_of_block i.out)).trans i.out);replace d:=qh (d.out.trans (hb.mono d.out.size));clear hb;clear c;go_wp2;go_ret;exact⟨rfl,d.out⟩
end
section
open Go.RowKit Go.Deep Go.ChangeShapes Go.WideShapes
end
section
open Go.RowKit Go.Deep Go.ChangeShapes Go.WideShapes Go.Joins
theorem z9e {H:Type} {P:Program} {e:TypeId} {d:DataW H} {n:Nat}:∀ {ds:List (DataW H)},d ∈ ds->n ∈ d.weights P e->n ∈ DataW.weightsAll P e ds
 | d0::r,h,hn=>by
  simp only[DataW.weightsAll,List.mem_append]
  rcases List.mem_cons.1 h with rfl|h
  ·exact .inl hn
  exact .inr (z9e h hn)
theorem y2a {H:Type} {t e:TypeId} {c d:List (DataW H)} (g:prog.underlying t=some (.slice e)) (i:1<=prog.bytesOf e) {b:Nat} (hb:∀ m ∈ (DataW.slice c d).weights prog t,m<=b):c.length<=b:=by
 have h:=hb ((c.length+d.length)*prog.bytesOf e) (by simp[DataW.weights,g]);have:=Nat.le_mul_of_pos_right (c.length+d.length) i;omega
theorem y9t {H:Type} {t e:TypeId} {c j:List (DataW H)} {d:DataW H} {m:Nat} (i:prog.underlying t=some (.slice e)) (g:d ∈ c) (h:m ∈ d.weights prog e):m ∈ (DataW.slice c j).weights prog t:=by
 simp only[DataW.weights,i,List.mem_cons,List.mem_append];exact .inr (.inl (z9e g h))
theorem v6t {H:Type} {enc:TypeId × Value->H} {W:World} {o:Bool} {s:Nat} {v:Value} {x:DataW H × List MemPlace} (h:DataW.trod enc prog W 0 (fun _=>true) o s 55 [v]=some x) :
  ∃ (n:Nat) (fi fo ft:Nat->Int) (fw:Nat->ByteArray),(∀ (D:MD) (i:Nat),D.na i=n->D.ain i=fi->D.aout i=fo->D.aw i=fw->D.ato i=ft->ArS none W v D i)/\(∀ j,(fw j).size<=maxLen) /\
   ∀ b,(∀ m ∈ x.1.weights prog 55,m<=b)->n<=b:=by
 rcases open_slice underlying55 h with ⟨g,_⟩|⟨a,len,a1,m,n',D,Pl,g,_,hl,S,A,K,hx⟩
 ·simp only[List.cons.injEq,and_true] at g;exact⟨0,fun _=>0,fun _=>0,fun _=>0,fun _=>⟨#[]⟩,fun D i N _ _ _ _=>.inl ⟨N,none,0,g,Nat.zero_le _⟩,fun _=>Nat.zero_le _,fun _ _=>Nat.zero_le _⟩
 simp only[List.cons.injEq,and_true] at g;simp only[if_true] at A;subst A;have c4:prog.cellsOf 59=4:=by kernel_rfl
 have ci:prog.cellsOf 3=1:=by kernel_rfl
 have cs:prog.cellsOf 9=1:=by kernel_rfl
 classical
 have d:∀ i,∃ t:Int × Int × ByteArray × Int,t.2.2.1.size<=maxLen/\(i<m->W.cell? (a.add (i*4))=some (.int .i64 t.1)/\W.cell? (a.add (i*4+1))=some (.int .i64 t.2.1)/\W.cell? (a.add (i*4+2))=some (.string t.2.2.1)/\W.cell? (a.add (i*4+3))=some (.int .i64 t.2.2.2)):=fun i=>by
  by_cases hi:i<m
  ·obtain⟨I,E,G⟩:=hx i hi;rw[c4] at E;obtain⟨_,z,c⟩:=World.cells?_some E;obtain⟨y0,y1,y2,y3,k,_,_,R,Q,X,Z⟩:=trod_struct4 underlying59 G
   match I,z with
   | [v0,v1,v2,v3],_ =>
    simp only[ci,cs,List.drop_zero,List.drop_succ_cons,List.take_succ_cons,List.take_zero] at R Q X Z;obtain⟨z0,e0,_⟩:=DataW.trod_int underlying3 R;obtain⟨U,e1,_⟩:=DataW.trod_int underlying3 Q;obtain⟨P,e2,_,J⟩:=DataW.trod_string underlying9 X;obtain⟨O,e3,_⟩:=DataW.trod_int underlying3 Z;obtain rfl:v0=.int .i64 z0:=by simpa using e0
    obtain rfl:v1=.int .i64 U:=by simpa using e1
    obtain rfl:v2=.string P:=by simpa using e2
    obtain rfl:v3=.int .i64 O:=by simpa using e3
    have l:=c 0 (by omega);have u:=c 1 (by omega);have p:=c 2 (by omega);have B:=c 3 (by omega);rw[add_add] at l u p B;exact⟨(z0,U,P,O),J,fun _=>⟨by simpa using l,by simpa using u,by simpa using p,by simpa using B⟩⟩
  exact⟨(0,0,⟨#[]⟩,0),Nat.zero_le _,fun h=>absurd h hi⟩
 obtain⟨T,L⟩:∃ T:Nat->Int × Int × ByteArray × Int,∀ i,(T i).2.2.1.size<=maxLen/\(i<m->W.cell? (a.add (i*4))=some (.int .i64 (T i).1)/\W.cell? (a.add (i*4+1))=some (.int .i64 (T i).2.1)/\W.cell? (a.add (i*4+2))=some (.string (T i).2.2.1)/\W.cell? (a.add (i*4+3))=some (.int .i64 (T i).2.2.2)) :=
  ⟨fun i=>Classical.choose (d i),fun i=>Classical.choose_spec (d i)⟩
 refine⟨len,fun i=>(T i).1,fun i=>(T i).2.1,fun i=>(T i).2.2.2,fun i=>(T i).2.2.1,fun D i C E G h3 h4=>?_,fun j=>(L j).1,fun b hb=>?_⟩
 ·by_cases N:len=0
  ·rw[N] at C g;exact .inl ⟨C,some a,m,g,S⟩
  have c0:=((L 0).2 (by omega)).1;have Y:a.spot=none:=by simpa [Addr.add] using World.cell?_spot c0
  obtain⟨b,F,sp⟩:=a;simp only at Y;subst Y;refine .inr ⟨b,F,m,by rw[C];exact g,⟨?_,by simp⟩,by rw[C];exact hl,S,fun j hj=>?_⟩
  ·have:=World.block_lt_of_cell? _ _ c0;rw[Addr.add_lit] at this;exact this
  rw[C] at hj;obtain⟨l,u,p,B⟩:=(L j).2 (by omega);rw[Addr.add_lit] at l u p B;rw[E,G,h3,h4];exact⟨l,by rw[Nat.add_assoc];exact u,by rw[Nat.add_assoc];exact p,by rw[Nat.add_assoc];exact B⟩
 rw[K] at hb;have:=y2a underlying55 (by decide +kernel) hb
 simpa using this
theorem v8w {H:Type} {enc:TypeId × Value->H} {W:World} {r:Reach} {b0:Nat} {l:Bool} {v:Value} {d:DataW H} {p:List MemPlace} (hv:Value.okWide prog W r b0 24 v) (h:DataW.Trod enc prog W 0 (fun _=>true) l 24 v d p)
  (hw:∀ m ∈ d.weights prog 24,m<=reachBytes):∃ D,Ma none W v D/\MSz D:=by
 obtain⟨v0,v1,Y,v3,y0,y1,y2,T,n,rfl,rfl,rfl,t0,t1,t2,t3⟩:=open_agg4 underlying24 (by kernel_rfl) (by kernel_rfl) hv h;obtain⟨z0,e0,_,R⟩:=DataW.trod_int underlying3 t0;obtain⟨F,e1,_,w1⟩:=DataW.trod_int underlying3 t1;obtain⟨I,X,_,O⟩:=DataW.trod_string underlying9 t2;obtain rfl:v0=.int .i64 z0:=by simpa using e0
 obtain rfl:v1=.int .i64 F:=by simpa using e1
 obtain rfl:Y=.string I:=by simpa using X
 have g:∀ m ∈ T.1.weights prog 22,m<=reachBytes:=fun m B=>hw m (by
  simp only[DataW.weights,underlying24,DataW.weightsEach,List.map_cons,List.mem_append,List.map_nil];exact .inr (.inr (.inr (.inl B))))
 have o:-9223372036854775808<=z0/\z0<=9223372036854775807:=by
  simp[Lit.wf,IntKind.min,IntKind.max,IntKind.signed,IntKind.bits] at R;omega
 have N:reachBytes<=140737488355328:=by decide
 rcases open_slice_pairs underlying22 underlying57 (by kernel_rfl) rfl rfl (by kernel_rfl) (by kernel_rfl) t3 with ⟨k,_⟩|⟨a,len,a1,m,n',V0,P,D0,D1,P0,P1,k,_,hl,B,A,z,J⟩
 ·simp only[List.cons.injEq,and_true] at k;exact⟨{ kind:=z0,start:=F,lead:=I,n:=0,fin:=fun _=>⟨#[]⟩,na:=fun _=>0,ain:=fun _ _=>0,aout:=fun _ _=>0,aw:=fun _ _=>⟨#[]⟩,ato:=fun _ _=>0 },⟨_,rfl,.inl ⟨rfl,none,0,k,Nat.zero_le _⟩⟩,
   ⟨O,fun _=>Nat.zero_le _,fun _ _=>Nat.zero_le _,fun _=>Nat.zero_le _,Nat.zero_le _,o⟩⟩
 simp only[List.cons.injEq,and_true] at k;simp only[if_true] at A;subst A
 classical
 have c:∀ i,∃ t:ByteArray × Nat × (Nat->Int) × (Nat->Int) × (Nat->Int) × (Nat->ByteArray),t.1.size<=maxLen/\(∀ j,(t.2.2.2.2.2 j).size<=maxLen)/\t.2.1<=reachBytes /\
   (i<len->V0 i=.string t.1/\∀ (D:MD) (j:Nat),D.na j=t.2.1->D.ain j=t.2.2.1->D.aout j=t.2.2.2.1->D.aw j=t.2.2.2.2.2->D.ato j=t.2.2.2.2.1->ArS none W (P i) D j):=fun i=>by
  by_cases hi:i<len
  ·obtain⟨_,_,S,g1⟩:=J i (by omega);obtain⟨s,e,_,C⟩:=DataW.trod_string underlying9 S;obtain⟨na,fi,fo,ft,fw,Z,h2,h3⟩:=v6t g1;refine⟨(s,na,fi,fo,ft,fw),C,h2,h3 _ fun q hq=>g q ?_,fun _=>⟨by simpa using e,Z⟩⟩;rw[z];refine y9t underlying22 (List.mem_map.2 ⟨i,List.mem_range.2 hi,rfl⟩) ?_;simp only[DataW.weights,underlying57,DataW.weightsEach,List.map_cons,List.mem_append,List.map_nil];exact .inr (.inl hq)
  exact⟨(⟨#[]⟩,0,fun _=>0,fun _=>0,fun _=>0,fun _=>⟨#[]⟩),Nat.zero_le _,fun _=>Nat.zero_le _,Nat.zero_le _,fun h=>absurd h hi⟩
 have u:len<=reachBytes:=by
  rw[z] at g;have:=y2a underlying22 (by decide +kernel) g
  simpa using this
 refine⟨{ kind:=z0,start:=F,lead:=I,n:=len,fin:=fun i=>(Classical.choose (c i)).1,na:=fun i=>(Classical.choose (c i)).2.1,ain:=fun i=>(Classical.choose (c i)).2.2.1,aout:=fun i=>(Classical.choose (c i)).2.2.2.1,aw:=fun i=>(Classical.choose (c i)).2.2.2.2.2,ato:=fun i=>(Classical.choose (c i)).2.2.2.2.1 },⟨_,rfl,?_⟩,
  ⟨O,fun i=>(Classical.choose_spec (c i)).1,fun i=>(Classical.choose_spec (c i)).2.1,fun i=>Nat.le_trans (Classical.choose_spec (c i)).2.2.1 N,Nat.le_trans u N,o⟩⟩
 by_cases h0:len=0
 ·subst h0;exact .inl ⟨rfl,some a,m,k,B⟩
 have c0:=(J 0 (by omega)).1;have C:a.spot=none:=by simpa [Addr.add] using World.cell?_spot c0
 obtain⟨b,E,sp⟩:=a;simp only at C;subst C;refine .inr ⟨b,E,m,P,k,⟨?_,by simp⟩,hl,B,fun j L=>?_⟩
 ·have:=World.block_lt_of_cell? _ _ c0;rw[Addr.add_lit] at this;exact this
 obtain⟨G,K,_,_⟩:=J j (by have:j<len:=L;omega);obtain⟨U,Q⟩:=(Classical.choose_spec (c j)).2.2.2 L;rw[Addr.add_lit] at G K;rw[U] at G;exact⟨G,by rw[Nat.add_assoc];exact K,Q _ j rfl rfl rfl rfl rfl⟩
end
section
open Go.RowKit Go.Deep Go.ChangeShapes Go.WideShapes
theorem v4h {H:Type} {enc:TypeId × Value->H} {W:World} {g:Bool} {l:Nat} {v:Value} {x:DataW H × List MemPlace} (h:DataW.trod enc prog W 0 (fun _=>true) g l 25 [v]=some x) :
  ∃ (n:Nat) (F:Nat->Int),Rd none W v n fun i=>.int .i64 (F i):=by
 rcases open_slice1 underlying25 (by kernel_rfl) h with ⟨d,_⟩|⟨a,len,E,m,J,V,D,Pl,d,_,B,s,k,_,p⟩
 ·simp only[List.cons.injEq,and_true] at d;exact⟨0,fun _=>0,.inl ⟨rfl,none,0,d,Nat.zero_le _⟩⟩
 simp only[List.cons.injEq,and_true] at d;simp only[if_true] at k;subst k
 classical
 have c:∀ i,∃ z:Int,i<m->V i=.int .i64 z:=fun i=>by
  by_cases hi:i<m
  ·obtain⟨z,A,_⟩:=DataW.trod_int underlying3 (p i hi).2;exact⟨z,fun _=>by simpa using A⟩
  exact⟨0,fun h=>absurd h hi⟩
 refine⟨len,fun i=>Classical.choose (c i),?_⟩;by_cases C:len=0
 ·subst C;exact .inl ⟨rfl,some a,m,d,s⟩
 have c0:=(p 0 (by omega)).1;have u:a.spot=none:=by simpa [Addr.add] using World.cell?_spot c0
 obtain⟨b,o,I⟩:=a;simp only at u;subst u;refine .inr ⟨b,o,m,d,⟨?_,by simp⟩,B,s,fun j G=>?_⟩
 ·have:=World.block_lt_of_cell? _ _ c0;rw[Addr.add_lit] at this;exact this
 have:=(p j (by omega)).1;rw[Addr.add_lit,Classical.choose_spec (c j) (by omega)] at this;exact this
end
end Go.Proofs.YteappjogmnogcaaGreatDoor
