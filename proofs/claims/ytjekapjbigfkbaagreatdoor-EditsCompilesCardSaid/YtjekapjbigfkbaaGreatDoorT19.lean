/- Parts of a proof: LEo AM ArgI ArgE. -/
import Derived.Test.YtjekapjbigfkbaaGreatDoorT15
import Derived.Test.YtjekapjbigfkbaaGreatDoorT16
import Derived.Test.YtjekapjbigfkbaaGreatDoorT17
import Derived.Test.YtjekapjbigfkbaaGreatDoorT18
import Derived.Test.YtjekapjbigfkbaaGreatDoorT08
import Derived.Deep.Slices
import Derived.SliceStrings
import Derived.ChangeSlices
import Derived.Lib.SmallJoins
import Derived.Deep.SlicePairs
import Derived.SizedLaws
import Derived.Test.YtjekapjbigfkbaaGreatDoorT09
import Derived.Deep.Strs
namespace Go.Proofs.YtjekapjbigfkbaaGreatDoor
set_option maxRecDepth 100000
set_option linter.unusedSimpArgs false
set_option linter.unusedVariables false
set_option linter.unusedSectionVars false
set_option maxHeartbeats 16000000
open Go Tryz
section
open Go.RowKit Go.Deep
theorem z9t {n:Nat} {x:Nat->Int} (h:isWord n x=true):∀ i,i<n->1<=x i:=by
 unfold isWord at h;rw[Bool.and_eq_true] at h;exact fun i hi=>(z1v.1 h.2 i hi).1
theorem y2p {M:EM} {v xv yv:Value} {sg:Int} {na nb:Nat} {x y:Nat->Int} (w:World) (hM:Em none w v M) (hs:ESz M) (hx:Si none w xv na x) (hy:Si none w yv nb y) (ht:Tab w):Calls prog 5 #[v,.int .i64 sg,xv,yv] w (TrueB w):=by
 obtain⟨sv,rfl,hS⟩:=hM;have l8:=z3t hx;have l7:=z3t hy;obtain⟨a,A,_,_,_,_,_,_,m4,_⟩:=hS.open;subst m4;obtain⟨ax,cx,rfl⟩:=hx.shape;obtain⟨ay,cy,rfl⟩:=hy.shape;obtain⟨w1,e6⟩:=exq (w.alloc (.cells #[.slice a M.n A,.int .i64 M.most] 24));obtain⟨K,g8⟩:=exq (w.heap.size);have j2:Fr (fun _=>False) w w1:=by rw[e6];exact Fr.alloc _ _
 have f0:BoxE w1 K M (.slice a M.n A):=by rw[e6,g8];exact BoxE.new w M _
 have k2:Below w.heap.size w w1:=j2.below (Nat.le_refl _) (fun _ e=>e.elim);have k7:∀ W,Below w.heap.size w W->Calls prog 12 #[] W (TrueB W):=fun W h=>x0g W (ht.below h (Nat.le_refl _));have g9:∀ W,Below w.heap.size w W->EdS none W (.slice a M.n A) M:=fun W h=>hS.kept (z0c h none);have d4:∀ W,Below w.heap.size w W->Em none W (.agg #[.slice a M.n A,.int .i64 M.most]) M:=fun W h=>⟨_,rfl,g9 W h⟩;have k5:=fun W (h:Below w.heap.size w W)=>y5v (sg:=sg) W (d4 W h) hs (ht.below h (Nat.le_refl _));have i9:=fun W (h:Below w.heap.size w W)=>v8g (sg:=sg) W (d4 W h) hs;have j5:=fun W (h:Below w.heap.size w W) (hF:FitC M sg)=>v3t (sg:=sg) W (d4 W h) hF.1 hF.2.1 hF.2.2.1;have j7:=fun W (h:Below w.heap.size w W)=>x8k W (d4 W h) hs (hx.kept (z0c h none)) (hy.kept (z0c h none));have j3:=fun W (h:Below w.heap.size w W)=>x3c W (g9 W h);have d5:=fun W (h:Below w.heap.size w W)=>z6i W (hx.kept (z0c h none)) l8;have e5:=fun W (h:Below w.heap.size w W)=>z6i W (hy.kept (z0c h none)) l7;have b4:=fun W (h:Below w.heap.size w W) (hl:na<=200)=>z9z (sg:=sg) W (hx.kept (z0c h none)) (by omega);have b0:=fun W (h:Below w.heap.size w W) (hl:nb<=200)=>z9z (sg:=sg) W (hy.kept (z0c h none)) (by omega);have b8:=fun W (h:Below w.heap.size w W)=>x9j (n:=2) (b:=W.heap.size) (V:=fun i=>if i=0 then .slice ax na cx else .slice ay nb cy) (L:=fun i=>if i=0 then na else nb) (W.alloc (.cells #[.slice ax na cx,.slice ay nb cy] 27)) (by omega)
  (fun i hi=>by
   have h2:Below w.heap.size w (W.alloc (.cells #[.slice ax na cx,.slice ay nb cy] 27)):=h.alloc h.size _;have hn:=heap_alloc_new W (.cells #[.slice ax na cx,.slice ay nb cy] 27);generalize W.alloc (.cells #[.slice ax na cx,.slice ay nb cy] 27)=WW at hn h2
   rcases (show i=0\/i=1 by omega) with rfl|rfl
   ·exact⟨by simp[World.cell?,hn],x,hx.kept (z0c h2 none)⟩
   exact⟨by simp[World.cell?,hn],y,hy.kept (z0c h2 none)⟩)
  (fun i _=>by show ((if i=0 then na else nb:Nat):Int)<=_;split<;>omega)
 have k1:∀ W,Below w.heap.size w W->Si none W (.slice ax na cx) na x:=fun W h=>hx.kept (z0c h none);have k3:∀ W,Below w.heap.size w W->Si none W (.slice ay nb cy) nb y:=fun W h=>hy.kept (z0c h none);have m0:=f0.c0;have m1:=f0.c1;have N:=qh k7;clear k7;have j0:=qh k5;clear k5;have b7:=qh i9;clear i9;have n6:=qh j5;clear j5;have j1:=qh j7;clear j7;have j8:=qh j3;clear j3;have k0:=qh b8;clear b8;have i7:=qh d5;clear d5;have k4:=qh e5;clear e5;have n7:=qh b4;clear b4;have o3:=qh b0;clear b0;have m5:=qh k1;clear k1;have m8:=qh k3;clear k3;have l6:=qh hs;clear hs;have e7:=qh k2;clear k2;have i3:=qh f0;clear f0;clear hS ht j2 g9 d4 hx hy
 go_enter func5,ntmps5
 go_wp2_with fail
 rw[<- e6,<- g8];clear e6 g8;refine(j8.out w1 e7.out).mono ?_;rintro z w2 ⟨rfl,h8⟩;have b1:=qh (e7.out.trans (h8.mono e7.out.size));have d2:=qh (show BoxE w2 K M (.slice a M.n A) from (h8.block K i3.out.lt).trans i3.out);clear h8 m0 m1 e7 i3 j8;by_cases h6:(60:Int)<(M.n:Int)
 ·have n9:decide ((60:Int)<(M.n:Int))=true:=by simp;omega
  go_wp2_with fail
  refine(N.out w2 b1.out).mono ?_;rintro z w3 ⟨rfl,j4⟩;have e4:=qh (b1.out.trans (j4.mono b1.out.size));clear j4
  go_wp2_with fail
  go_ret;exact⟨rfl,e4.out⟩
 have n9:decide ((60:Int)<(M.n:Int))=false:=by simp;omega
 obtain⟨w3,f4⟩:=exq (w2.alloc (.cells #[.slice ax na cx,.slice ay nb cy] 27));have i4:Fr (fun _=>False) w2 w3:=by rw[f4];exact Fr.alloc _ _
 have b8:=k0.out w2 b1.out;rw[<- f4] at b8;have e4:=qh (b1.out.trans (i4.below b1.out.size (fun _ e=>e.elim)));have c9:=qh (show BoxE w3 K M (.slice a M.n A) from (i4.block K d2.out.lt (fun e=>e)).trans d2.out);have j9:=qh b8;clear b8 i4
 go_wp2_with fail
 rw[<- f4];clear f4;refine j9.out.mono ?_;rintro z w4 ⟨fb,rfl,l9,h9⟩;have E:=qh (e4.out.trans (h9.mono e4.out.size));have a4:=qh (show BoxE w4 K M (.slice a M.n A) from (h9.block K c9.out.lt).trans c9.out);clear h9 l9 e4 c9 b1 d2 k0 j9;cases fb
 rotate_left
 ·go_wp2_with fail
  refine(N.out w4 E.out).mono ?_;rintro z w5 ⟨rfl,a9⟩;have d8:=qh (E.out.trans (a9.mono E.out.size));clear a9
  go_wp2_with fail
  go_ret;exact⟨rfl,d8.out⟩
 go_wp2_with fail
 refine(i7.out w4 E.out).mono ?_;rintro z w5 ⟨rfl,rfl⟩;cases d5:isWord na x
 ·go_wp2_with fail
  refine(N.out w5 E.out).mono ?_;rintro z w5 ⟨rfl,a9⟩;have d8:=qh (E.out.trans (a9.mono E.out.size));clear a9
  go_wp2_with fail
  go_ret;exact⟨rfl,d8.out⟩
 have HX:=qh d5;clear d5 i7
 go_wp2_with fail
 refine(k4.out w5 E.out).mono ?_;rintro z w6 ⟨rfl,rfl⟩;cases e5:isWord nb y
 ·go_wp2_with fail
  refine(N.out w6 E.out).mono ?_;rintro z w5 ⟨rfl,a9⟩;have d8:=qh (E.out.trans (a9.mono E.out.size));clear a9
  go_wp2_with fail
  go_ret;exact⟨rfl,d8.out⟩
 have HY:=qh e5;clear e5 k4;have m0:=a4.out.c0;have m1:=a4.out.c1
 go_wp2_with fail
 refine(j0.out w6 E.out).mono ?_;rintro z U ⟨g5,hr⟩;have a3:=qh (E.out.trans (g5.mono E.out.size));have F:=qh (show BoxE U K M (.slice a M.n A) from (g5.block K a4.out.lt).trans a4.out);clear g5 E a4 j0 m0 m1
 rcases hr with ⟨a8,rfl⟩|⟨hV,h0,h5,hI,⟨a8,rfl⟩|⟨hZ,o5,R2,rfl,d0⟩⟩
 ·have Z:=qh (show ¬ FitC M sg from a8);clear a8;unfold y9a;obtain⟨X,k⟩:=exq (U.alloc (.cells #[.int .i64 0,.int .i64 0,.string ⟨#[]⟩,.slice none 0 0] 36));obtain⟨nq,G⟩:=exq (U.heap.size);have O:Fr (fun _=>False) U X:=by rw[k];exact Fr.alloc _ _
  have l:X.heap[nq]?=some (.cells #[.int .i64 0,.int .i64 0,.string ⟨#[]⟩,.slice none 0 0] 36 (0,0)):=by rw[k,G];exact heap_alloc_new U _
  have j:BoxE X K M (.slice a M.n A):=(O.block K F.out.lt (fun e=>e)).trans F.out;have J:=qh (a3.out.trans (O.below a3.out.size (fun _ e=>e.elim)));have l0:=j.c0;have l1:=j.c1;have n0:=cell_of l 0 rfl;have n1:=cell_of l 1 rfl;have n2:=cell_of l 2 rfl;have n3:=cell_of l 3 rfl;have u:=qh j;clear j;have S:=qh l;clear l O;rw[k] at l0 l1;rw[k,G] at n0 n1 n2 n3
  go_wp2_with fail
  rw[<- k,<- G];clear k G l0 l1 n0 n1 n2 n3;refine(b7.out X J.out).mono ?_;rintro z w9 ⟨C,a5⟩;have T:=qh (J.out.trans (C.mono J.out.size));have s:=qh (show BoxE w9 K M (.slice a M.n A) from (C.block K u.out.lt).trans u.out);have p:=qh ((C.block nq (lt_of_block S.out)).trans S.out);clear C J u S b7 a3 F;have m0:=s.out.c0;have m1:=s.out.c1;have n0:=cell_of p.out 0 rfl;have n1:=cell_of p.out 1 rfl;have n2:=cell_of p.out 2 rfl;have n3:=cell_of p.out 3 rfl;obtain rfl:z=.returned (.bool false):=by
   rcases a5 with ⟨h,_⟩|⟨_,h⟩
   ·exact absurd h Z.out
   exact h
  clear a5 Z;have b3:=y7c w9;unfold y9a at b3;have d3:=qh b3;clear b3
  go_wp2_with fail
  refine d3.out.mono ?_;rintro z h7 ⟨rfl,a6⟩;have Q:=qh (T.out.trans (a6.mono T.out.size));clear a6 d3 m0 m1 n0 n1 n2 n3
  go_wp2_with fail
  refine(N.out h7 Q.out).mono ?_;rintro z a7 ⟨rfl,c⟩;have g:=qh (Q.out.trans (c.mono Q.out.size));clear c
  go_wp2_with fail
  go_ret;exact⟨rfl,g.out⟩
 ·have HF:=qh (show FitC M sg from ⟨hV,h0,h5,hI⟩);clear hV h0 h5 hI;have l4:=qh a8;clear a8;unfold y9a;obtain⟨X,k⟩:=exq (U.alloc (.cells #[.int .i64 0,.int .i64 0,.string ⟨#[]⟩,.slice none 0 0] 36));obtain⟨nq,G⟩:=exq (U.heap.size);have O:Fr (fun _=>False) U X:=by rw[k];exact Fr.alloc _ _
  have l:X.heap[nq]?=some (.cells #[.int .i64 0,.int .i64 0,.string ⟨#[]⟩,.slice none 0 0] 36 (0,0)):=by rw[k,G];exact heap_alloc_new U _
  have j:BoxE X K M (.slice a M.n A):=(O.block K F.out.lt (fun e=>e)).trans F.out;have J:=qh (a3.out.trans (O.below a3.out.size (fun _ e=>e.elim)));have l0:=j.c0;have l1:=j.c1;have n0:=cell_of l 0 rfl;have n1:=cell_of l 1 rfl;have n2:=cell_of l 2 rfl;have n3:=cell_of l 3 rfl;have u:=qh j;clear j;have S:=qh l;clear l O;rw[k] at l0 l1;rw[k,G] at n0 n1 n2 n3
  go_wp2_with fail
  rw[<- k,<- G];clear k G l0 l1 n0 n1 n2 n3;refine(b7.out X J.out).mono ?_;rintro z w9 ⟨C,a5⟩;have T:=qh (J.out.trans (C.mono J.out.size));have s:=qh (show BoxE w9 K M (.slice a M.n A) from (C.block K u.out.lt).trans u.out);have p:=qh ((C.block nq (lt_of_block S.out)).trans S.out);clear C J u S b7 a3 F;have m0:=s.out.c0;have m1:=s.out.c1;have n0:=cell_of p.out 0 rfl;have n1:=cell_of p.out 1 rfl;have n2:=cell_of p.out 2 rfl;have n3:=cell_of p.out 3 rfl;obtain rfl:z=.returned (.bool true):=by
   rcases a5 with ⟨_,h⟩|⟨h,_⟩
   ·exact h
   exact absurd HF.out h
  clear a5
  go_wp2_with fail
  refine(n6.out w9 T.out HF.out).mono ?_;rintro z d9 ⟨I,bb,rfl,i8⟩;obtain rfl:bb=false:=by cases bb;rfl;exact absurd (i8 rfl) l4.out
  have R:=qh (T.out.trans (I.mono T.out.size));have B:=qh ((I.block nq (lt_of_block p.out)).trans p.out);clear I i8 n0 n1 n2 n3;have n0:=cell_of B.out 0 rfl;have n1:=cell_of B.out 1 rfl;have n2:=cell_of B.out 2 rfl;have n3:=cell_of B.out 3 rfl;have b3:=y7c d9;unfold y9a at b3;have d3:=qh b3;clear b3
  go_wp2_with fail
  refine d3.out.mono ?_;rintro z h7 ⟨rfl,a6⟩;have Q:=qh (R.out.trans (a6.mono R.out.size));clear a6 d3 m0 m1 n0 n1 n2 n3
  go_wp2_with fail
  refine(N.out h7 Q.out).mono ?_;rintro z a7 ⟨rfl,c⟩;have g:=qh (Q.out.trans (c.mono Q.out.size));clear c
  go_wp2_with fail
  go_ret;exact⟨rfl,g.out⟩
 have HF:=qh (show FitC M sg from ⟨hV,h0,h5,hI⟩);obtain⟨sn,e9⟩:∃ sn:Nat,sg=(sn:Int):=⟨sg.toNat,by omega⟩;have f8:sg.toNat=sn:=by omega
 rw[f8] at d0;have d1:InSg M (sn:Int):=by rw[<- e9];exact hI
 have h3:InSz M (sn:Int):=by rw[<- e9];exact hZ
 have f2:=x7f hV d1 (show sn<=500 by omega) (z9t HX.out) (z9t HY.out) h3;have f7:=v4r hV d1 (show sn<=500 by omega) h3;have i2:=u0k hV d1 (show sn<=500 by omega);have b9:=y6k hV d1 (show sn<=500 by omega);have f5:=x5m hV l6.out (show sn<=500 by omega);obtain⟨D,hD⟩:=exq (cmpC M sn);obtain⟨one,e3⟩:=exq (oneF 1);rw[<- hD] at d0 f2 f7 i2 b9 f5;rw[<- e3] at b9;rw[<- e3];obtain⟨sa,sc,j6,_,_⟩:=z5r d0.top;subst j6;have g4:∀ W,Below U.heap.size U W->StS none W (.slice sa D.n sc) D:=fun W h=>d0.sts.kept (z0c h none);have c8:=fun W (h:Below U.heap.size U W)=>y8h W (⟨_,rfl,g4 W h⟩:Ma none W (.agg #[.int .i64 D.kind,.int .i64 D.start,.string D.lead,.slice sa D.n sc]) D) f5;have c6:=fun W (h:Below U.heap.size U W) (hb:Below w.heap.size w W)=>x3h W (g4 W h) f5 i2 (m5.out W hb) (m8.out W hb);rw[b9.1,b9.2.1,b9.2.2] at c8 c6;obtain⟨wg,g6⟩:=exq (wgtR D na x nb y);have i5:∀ (r:Ending) (W W':World),Wg8 D na x nb y W r W'->r=.returned (.tuple #[.string wg.1,.int .i64 (wg.2:Int)])/\Below W.heap.size W W':=fun r W W' h=>by
  rcases h.2 with ⟨_,_,_,hr⟩|⟨hn,_⟩
  ·rw[g6];exact⟨hr,h.1⟩
  exact absurd ⟨f7,HX.out,HY.out⟩ hn
 rw[<- g6] at f2;have g0:=qh c8;clear c8;have f9:=qh c6;clear c6;have k6:=qh i5;clear i5;have b6:=qh f2;clear f2;have n5:=qh f7;clear f7;have f1:=qh e9;clear e9;have H7:=qh (Below.refl U.heap.size U);clear d0 i2 b9 f5 hD e3 g4 g6 hV h0 h5 hI d1 hZ h3 f8;obtain⟨X,k⟩:=exq (U.alloc (.cells #[.int .i64 1,.int .i64 0,.string one,.slice sa D.n sc] 36));obtain⟨nq,G⟩:=exq (U.heap.size);have O:Fr (fun _=>False) U X:=by rw[k];exact Fr.alloc _ _
 have l:X.heap[nq]?=some (.cells #[.int .i64 1,.int .i64 0,.string one,.slice sa D.n sc] 36 (0,0)):=by rw[k,G];exact heap_alloc_new U _
 have j:BoxE X K M (.slice a M.n A):=(O.block K F.out.lt (fun e=>e)).trans F.out;have H8:=qh (O.below (Nat.le_refl _) (fun _ e=>e.elim));have J:=qh (a3.out.trans (O.below a3.out.size (fun _ e=>e.elim)));have l0:=j.c0;have l1:=j.c1;have n0:=cell_of l 0 rfl;have n1:=cell_of l 1 rfl;have n2:=cell_of l 2 rfl;have n3:=cell_of l 3 rfl;have u:=qh j;clear j;have S:=qh l;clear l O;rw[k] at l0 l1;rw[k,G] at n0 n1 n2 n3
 go_wp2_with fail
 rw[<- k,<- G];clear k G l0 l1 n0 n1 n2 n3;refine(b7.out X J.out).mono ?_;rintro z w9 ⟨C,a5⟩;have T:=qh (J.out.trans (C.mono J.out.size));have s:=qh (show BoxE w9 K M (.slice a M.n A) from (C.block K u.out.lt).trans u.out);have p:=qh ((C.block nq (lt_of_block S.out)).trans S.out);have H9:=qh (H8.out.trans (C.mono H8.out.size));clear C H8 H7 J u S b7 a3 F;have m0:=s.out.c0;have m1:=s.out.c1;have n0:=cell_of p.out 0 rfl;have n1:=cell_of p.out 1 rfl;have n2:=cell_of p.out 2 rfl;have n3:=cell_of p.out 3 rfl;obtain rfl:z=.returned (.bool true):=by
  rcases a5 with ⟨_,h⟩|⟨h,_⟩
  ·exact h
  exact absurd HF.out h
 clear a5
 go_wp2_with fail
 refine(g0.out w9 H9.out).mono ?_;rintro z d9 ⟨I,g3⟩;obtain rfl:z=.returned (.bool true):=by
  rcases g3 with ⟨_,h⟩|⟨h,_⟩
  ·exact h
  exact absurd n5.out h
 have R:=qh (T.out.trans (I.mono T.out.size));have k9:=qh (H9.out.trans (I.mono H9.out.size));have P:=qh (show BoxE d9 K M (.slice a M.n A) from (I.block K s.out.lt).trans s.out);have B:=qh ((I.block nq (lt_of_block p.out)).trans p.out);clear I g3 n0 n1 n2 n3 m0 m1 T H9 s p g0;have m0:=P.out.c0;have m1:=P.out.c1;have n0:=cell_of B.out 0 rfl;have n1:=cell_of B.out 1 rfl;have n2:=cell_of B.out 2 rfl;have n3:=cell_of B.out 3 rfl
 go_wp2_with fail
 refine(f9.out d9 k9.out R.out).mono ?_;rintro z g7 g1;obtain⟨rfl,c7⟩:=k6.out z d9 g7 g1;have d:=qh (R.out.trans (c7.mono R.out.size));have b2:=qh (show BoxE g7 K M (.slice a M.n A) from (c7.block K P.out.lt).trans P.out);clear c7 g1 n0 n1 n2 n3 m0 m1 R k9 P B f9 k6;have m0:=b2.out.c0;have m1:=b2.out.c1;obtain⟨W1,E1⟩:=wg
 go_wp2_with fail
 refine(n7.out g7 d.out (y4v HX.out)).mono ?_;rintro z l5 ⟨rfl,rfl⟩;have a8:z3m na x sg=false\/z3m nb y sg=false->E1=0->W1=⟨#[105,110,102]⟩:=fun h h0=>by
  have h1:=(b6.out h0).2 (fun ⟨a1,a2⟩=>by
   rcases h with h|h
   ·exact z2i.1 h (fun i hi=>⟨z9t HX.out i hi,by rw[f1.out];exact a1 i hi⟩)
   exact z2i.1 h (fun i hi=>⟨z9t HY.out i hi,by rw[f1.out];exact a2 i hi⟩))
  exact h1
 have Z:=qh a8;clear a8;cases b4:z3m na x sg
 ·have b5:=qh (Z.out (.inl b4));clear b4;by_cases Y:E1=0
  ·obtain rfl:=b5.out Y;subst Y;clear Z b5 b6
   go_wp2_with fail
   refine(N.out _ d.out).mono ?_;rintro z a7 ⟨rfl,c⟩;have g:=qh (d.out.trans (c.mono d.out.size));clear c
   go_wp2_with fail
   go_ret;exact⟨rfl,g.out⟩
  have e0:¬ ((E1:Int)=0):=by omega
  have e1:((E1:Int)==0)=false:=by simp;omega
  have e2:decide ((E1:Int)=0)=false:=by simp;omega
  clear Z b5 b6
  go_wp2_with fail
  refine(N.out _ d.out).mono ?_;rintro z a7 ⟨rfl,c⟩;have g:=qh (d.out.trans (c.mono d.out.size));clear c
  go_wp2_with fail
  go_ret;exact⟨rfl,g.out⟩
 have o2:=qh b4;clear b4
 go_wp2_with fail
 refine(o3.out l5 d.out (y4v HY.out)).mono ?_;rintro z m9 ⟨rfl,rfl⟩;cases b0:z3m nb y sg
 ·have b5:=qh (Z.out (.inr b0));clear b0;by_cases Y:E1=0
  ·obtain rfl:=b5.out Y;subst Y;clear Z b5 b6
   go_wp2_with fail
   refine(N.out _ d.out).mono ?_;rintro z a7 ⟨rfl,c⟩;have g:=qh (d.out.trans (c.mono d.out.size));clear c
   go_wp2_with fail
   go_ret;exact⟨rfl,g.out⟩
  have e0:¬ ((E1:Int)=0):=by omega
  have e1:((E1:Int)==0)=false:=by simp;omega
  have e2:decide ((E1:Int)=0)=false:=by simp;omega
  clear Z b5 b6
  go_wp2_with fail
  refine(N.out _ d.out).mono ?_;rintro z a7 ⟨rfl,c⟩;have g:=qh (d.out.trans (c.mono d.out.size));clear c
  go_wp2_with fail
  go_ret;exact⟨rfl,g.out⟩
 have o4:=qh b0;clear b0
 go_wp2_with fail
 refine(j1.out m9 d.out).mono ?_;rintro z h4 hr;obtain⟨W2,E2,rfl,i6,g2⟩:=hr.val;have d7:E1=0->E2=0->W1=W2:=fun h0 h2=>by
  obtain⟨o,ho,hw⟩:=(b6.out h0).1 ⟨fun r hr=>by rw[<- f1.out];exact(z1v.1 o2.out r hr).2,fun r hr=>by rw[<- f1.out];exact(z1v.1 o4.out r hr).2⟩;obtain⟨_,_,_,o',m3,_,m7⟩:=i6.ok h2;obtain rfl:=IsCost.only ho m3;exact(show W1=y0f o from hw).trans m7.symm
 have d6:=qh d7;clear d7;have H:=qh (d.out.trans (g2.mono d.out.size));clear hr i6 g2 d b2 j1 m0 m1;by_cases Y:E1=0
 ·by_cases e8:E2=0
  ·obtain rfl:=d6.out Y e8;subst Y;subst e8
   go_wp2_with fail
   refine(N.out h4 H.out).mono ?_;rintro z a7 ⟨rfl,c⟩;have g:=qh (H.out.trans (c.mono H.out.size));clear c
   go_wp2_with fail
   go_ret;exact⟨rfl,g.out⟩
  have e1:(E2==0)=false:=by simp[e8]
  have e2:decide (E2=0)=false:=by simp[e8]
  subst Y;clear d6
  go_wp2_with fail
  refine(N.out h4 H.out).mono ?_;rintro z a7 ⟨rfl,c⟩;have g:=qh (H.out.trans (c.mono H.out.size));clear c
  go_wp2_with fail
  go_ret;exact⟨rfl,g.out⟩
 have e0:¬ ((E1:Int)=0):=by omega
 have e1:((E1:Int)==0)=false:=by simp;omega
 have e2:decide ((E1:Int)=0)=false:=by simp;omega
 clear d6
 go_wp2_with fail
 refine(N.out h4 H.out).mono ?_;rintro z a7 ⟨rfl,c⟩;have g:=qh (H.out.trans (c.mono H.out.size));clear c
 go_wp2_with fail
 go_ret;exact⟨rfl,g.out⟩
end
section
open Go.RowKit Go.Deep Go.ChangeShapes Go.WideShapes
end
section
open Go.RowKit Go.Deep Go.ChangeShapes Go.WideShapes Go.Joins
theorem y0j {H:Type} {P:Program} {e:TypeId} {d:DataW H} {n:Nat}:∀ {ds:List (DataW H)},d ∈ ds->n ∈ d.weights P e->n ∈ DataW.weightsAll P e ds
 | d0::r,h,hn=>by
  simp only[DataW.weightsAll,List.mem_append]
  rcases List.mem_cons.1 h with rfl|h
  ·exact .inl hn
  exact .inr (y0j h hn)
theorem y3w {H:Type} {t e:TypeId} {c d:List (DataW H)} (i:prog.underlying t=some (.slice e)) (g:1<=prog.bytesOf e) {b:Nat} (hb:∀ m ∈ (DataW.slice c d).weights prog t,m<=b):c.length<=b:=by
 have h:=hb ((c.length+d.length)*prog.bytesOf e) (by simp[DataW.weights,i]);have:=Nat.le_mul_of_pos_right (c.length+d.length) g;omega
theorem x1e {H:Type} {t e:TypeId} {c i:List (DataW H)} {d:DataW H} {m:Nat} (h:prog.underlying t=some (.slice e)) (g:d ∈ c) (j:m ∈ d.weights prog e):m ∈ (DataW.slice c i).weights prog t:=by
 simp only[DataW.weights,h,List.mem_cons,List.mem_append];exact .inr (.inl (y0j g j))
end
section
open Go.RowKit Go.Deep Go.ChangeShapes Go.WideShapes
theorem x5e {H:Type} {enc:TypeId × Value->H} {W:World} {l:Bool} {g:Nat} {v:Value} {x:DataW H × List MemPlace} (h:DataW.trod enc prog W 0 (fun _=>true) l g 27 [v]=some x) :
  ∃ (n:Nat) (u:Nat->Int),Rd none W v n fun i=>.int .i64 (u i):=by
 rcases open_slice1 underlying27 (by kernel_rfl) h with ⟨d,_⟩|⟨a,len,C,m,G,V,D,Pl,d,_,E,s,k,_,p⟩
 ·simp only[List.cons.injEq,and_true] at d;exact⟨0,fun _=>0,.inl ⟨rfl,none,0,d,Nat.zero_le _⟩⟩
 simp only[List.cons.injEq,and_true] at d;simp only[if_true] at k;subst k
 classical
 have c:∀ i,∃ z:Int,i<m->V i=.int .i64 z:=fun i=>by
  by_cases hi:i<m
  ·obtain⟨z,A,_⟩:=DataW.trod_int underlying3 (p i hi).2;exact⟨z,fun _=>by simpa using A⟩
  exact⟨0,fun h=>absurd h hi⟩
 refine⟨len,fun i=>Classical.choose (c i),?_⟩;by_cases B:len=0
 ·subst B;exact .inl ⟨rfl,some a,m,d,s⟩
 have c0:=(p 0 (by omega)).1;have r:a.spot=none:=by simpa [Addr.add] using World.cell?_spot c0
 obtain⟨b,o,F⟩:=a;simp only at r;subst r;refine .inr ⟨b,o,m,d,⟨?_,by simp⟩,E,s,fun j I=>?_⟩
 ·have:=World.block_lt_of_cell? _ _ c0;rw[Addr.add_lit] at this;exact this
 have:=(p j (by omega)).1;rw[Addr.add_lit,Classical.choose_spec (c j) (by omega)] at this;exact this
end
section
open Go.RowKit Go.Deep Go.ChangeShapes Go.WideShapes Go.Joins
theorem v8y {H:Type} {enc:TypeId × Value->H} {W:World} {l:Bool} {g:Nat} {v:Value} {x:DataW H × List MemPlace} (h:DataW.trod enc prog W 0 (fun _=>true) l g 27 [v]=some x) :
  ∃ (n:Nat) (A:Nat->Int),Si none W v n A/\∀ b,(∀ m ∈ x.1.weights prog 27,m<=b)->n<=b:=by
 rcases open_slice1 underlying27 (by kernel_rfl) h with ⟨d,_⟩|⟨a,len,E,m,I,V,D,Pl,d,_,F,u,k,o,r⟩
 ·simp only[List.cons.injEq,and_true] at d;exact⟨0,fun _=>0,.inl ⟨rfl,none,0,d,Nat.zero_le _⟩,fun _ _=>Nat.zero_le _⟩
 simp only[List.cons.injEq,and_true] at d;simp only[if_true] at k;subst k
 classical
 have c:∀ i,∃ z:Int,i<m->V i=.int .i64 z:=fun i=>by
  by_cases hi:i<m
  ·obtain⟨z,B,_⟩:=DataW.trod_int underlying3 (r i hi).2;exact⟨z,fun _=>by simpa using B⟩
  exact⟨0,fun h=>absurd h hi⟩
 refine⟨len,fun i=>Classical.choose (c i),?_,fun b hb=>?_⟩
 ·by_cases C:len=0
  ·subst C;exact .inl ⟨rfl,some a,m,d,u⟩
  have c0:=(r 0 (by omega)).1;have s:a.spot=none:=by simpa [Addr.add] using World.cell?_spot c0
  obtain⟨b,p,G⟩:=a;simp only at s;subst s;refine .inr ⟨b,p,m,d,⟨?_,by simp⟩,F,u,fun j J=>?_⟩
  ·have:=World.block_lt_of_cell? _ _ c0;rw[Addr.add_lit] at this;exact this
  have:=(r j (by omega)).1;rw[Addr.add_lit,Classical.choose_spec (c j) (by omega)] at this;exact this
 rw[o] at hb;have:=y3w underlying27 (by decide +kernel) hb
 simpa using this
theorem u2i {H:Type} {enc:TypeId × Value->H} {W:World} {A:Bool} {C:Nat} {v:Value} {x:DataW H × List MemPlace} (h:DataW.trod enc prog W 0 (fun _=>true) A C 22 [v]=some x)
  (J:∀ m ∈ x.1.weights prog 22,m<=reachBytes):∃ (n:Nat) (e:Nat->ED),(∀ mo,EdS none W v ⟨n,e,mo⟩)/\n<=reachBytes/\∀ i,(e i).nf<=reachBytes/\(e i).nt<=reachBytes/\(e i).w.size<=maxLen:=by
 rcases open_slice underlying22 h with ⟨l,_⟩|⟨a,len,a1,m,n',D,Pl,l,_,hl,R,s,p,hx⟩
 ·simp only[List.cons.injEq,and_true] at l;exact⟨0,fun _=>⟨0,fun _=>0,0,fun _=>0,⟨#[]⟩⟩,fun _=>.inl ⟨rfl,none,0,l,Nat.zero_le _⟩,Nat.zero_le _,fun _=>⟨Nat.zero_le _,Nat.zero_le _,Nat.zero_le _⟩⟩
 simp only[List.cons.injEq,and_true] at l;simp only[if_true] at s;subst s;have c3:prog.cellsOf 50=3:=by kernel_rfl
 have ci:prog.cellsOf 27=1:=by kernel_rfl
 have cs:prog.cellsOf 9=1:=by kernel_rfl
 classical
 have r:len<=reachBytes:=by
  rw[p] at J;have:=y3w underlying22 (by decide +kernel) J
  simpa using this
 have d:∀ i,∃ t:ED × Value × Value,(t.1.nf<=reachBytes/\t.1.nt<=reachBytes/\t.1.w.size<=maxLen)/\(i<len->W.cell? (a.add (i*3))=some t.2.1/\W.cell? (a.add (i*3+1))=some t.2.2/\W.cell? (a.add (i*3+2))=some (.string t.1.w)/\Si none W t.2.1 t.1.nf t.1.f/\Si none W t.2.2 t.1.nt t.1.t):=fun i=>by
  by_cases hi:i<len
  ·obtain⟨I,P,h2⟩:=hx i (by omega);rw[c3] at P;obtain⟨_,g,c⟩:=World.cells?_some P;obtain⟨L,U,y2,k,hy,_,X,S,O⟩:=trod_struct3 underlying50 h2
   match I,g with
   | [v0,v1,v2],_ =>
    simp only[ci,cs,List.drop_zero,List.drop_succ_cons,List.take_succ_cons,List.take_zero] at X S O;have z:∀ q,q ∈ (DataW.agg [L.1,U.1,y2.1]:DataW H).weights prog 50->q<=reachBytes:=fun q u=>J q (by
     rw[p];refine x1e underlying22 (List.mem_map.2 ⟨i,List.mem_range.2 hi,rfl⟩) ?_;have Y:D i=.agg [L.1,U.1,y2.1]:=congrArg Prod.fst hy;rw[Y];exact u)
    obtain⟨nf,xf,s0,b0⟩:=v8y X;obtain⟨nt,Z,s1,b1⟩:=v8y S;obtain⟨Q,e2,_,K⟩:=DataW.trod_string underlying9 O;obtain rfl:v2=.string Q:=by simpa using e2
    have E:=c 0 (by omega);have B:=c 1 (by omega);have o:=c 2 (by omega);rw[add_add] at E B o;refine⟨(⟨nf,xf,nt,Z,Q⟩,v0,v1),⟨b0 _ fun q u=>z q ?_,b1 _ fun q u=>z q ?_,K⟩,fun _=>⟨by simpa using E,by simpa using B,by simpa using o,s0,s1⟩⟩
    ·simp only[DataW.weights,underlying50,DataW.weightsEach,List.map_cons,List.mem_append,List.map_nil];exact .inl u
    simp only[DataW.weights,underlying50,DataW.weightsEach,List.map_cons,List.mem_append,List.map_nil];exact .inr (.inl u)
  exact⟨(⟨0,fun _=>0,0,fun _=>0,⟨#[]⟩⟩,.nilIface,.nilIface),⟨Nat.zero_le _,Nat.zero_le _,Nat.zero_le _⟩,fun h=>absurd h hi⟩
 obtain⟨T,G⟩:∃ T:Nat->ED × Value × Value,∀ i,((T i).1.nf<=reachBytes/\(T i).1.nt<=reachBytes/\(T i).1.w.size<=maxLen)/\(i<len->W.cell? (a.add (i*3))=some (T i).2.1/\W.cell? (a.add (i*3+1))=some (T i).2.2/\W.cell? (a.add (i*3+2))=some (.string (T i).1.w)/\Si none W (T i).2.1 (T i).1.nf (T i).1.f/\Si none W (T i).2.2 (T i).1.nt (T i).1.t) :=
  ⟨fun i=>Classical.choose (d i),fun i=>Classical.choose_spec (d i)⟩
 refine⟨len,fun i=>(T i).1,fun mo=>?_,r,fun i=>(G i).1⟩;by_cases h0:len=0
 ·subst h0;exact .inl ⟨rfl,some a,m,l,R⟩
 have c0:=((G 0).2 (by omega)).1;have N:a.spot=none:=by simpa [Addr.add] using World.cell?_spot c0
 obtain⟨b,F,sp⟩:=a;simp only at N;subst N;refine .inr ⟨b,F,m,fun i=>(T i).2.1,fun i=>(T i).2.2,l,⟨?_,by simp⟩,hl,R,fun j hj=>?_⟩
 ·have:=World.block_lt_of_cell? _ _ c0;rw[Addr.add_lit] at this;exact this
 obtain⟨E,B,o,k3,k4⟩:=(G j).2 hj;rw[Addr.add_lit] at E B o;exact⟨E,by rw[Nat.add_assoc];exact B,by rw[Nat.add_assoc];exact o,k3,k4⟩
theorem u4k {n:Nat} {e:Nat->ED} {mo:Int} (hn:n<=reachBytes) (c:∀ i,(e i).nf<=reachBytes/\(e i).nt<=reachBytes/\(e i).w.size<=maxLen) (d:-9223372036854775808<=mo/\mo<=9223372036854775807):ESz ⟨n,e,mo⟩:=by
 have g:reachBytes<=140737488355328:=by decide
 refine⟨by show ((n:Nat):Int)<=_;omega,fun i=>?_,fun i=>?_,fun i=>?_,d.1,d.2⟩
 ·have:=(c i).1;show (((e i).nf:Nat):Int)<=_;omega
 ·have:=(c i).2.1;show (((e i).nt:Nat):Int)<=_;omega
 have:=(c i).2.2;unfold maxLen at this;show (((e i).w.size:Nat):Int)<=_;omega
theorem u5e {H:Type} {enc:TypeId × Value->H} {W:World} {r:Reach} {B:Nat} {c:Bool} {v:Value} {d:DataW H} {p:List MemPlace} (u:Value.okWide prog W r B 24 v) (h:DataW.Trod enc prog W 0 (fun _=>true) c 24 v d p)
  (l:∀ m ∈ d.weights prog 24,m<=reachBytes):∃ M,Em none W v M/\ESz M:=by
 obtain⟨E,v1,C,D,n,rfl,rfl,rfl,t0,t1⟩:=open_agg2 underlying24 (by kernel_rfl) (by kernel_rfl) u h;obtain⟨g,k,_,z⟩:=DataW.trod_int underlying3 t1;obtain rfl:v1=.int .i64 g:=by simpa using k
 have i:-9223372036854775808<=g/\g<=9223372036854775807:=by
  simp[Lit.wf,IntKind.min,IntKind.max,IntKind.signed,IntKind.bits] at z;omega
 obtain⟨n,e,A,o,j⟩:=u2i t0 fun m s=>l m (by
  simp only[DataW.weights,underlying24,DataW.weightsEach,List.map_cons,List.mem_append,List.map_nil];exact .inl s)
 exact⟨⟨n,e,g⟩,⟨_,rfl,A g⟩,u4k o j i⟩
end
end Go.Proofs.YtjekapjbigfkbaaGreatDoor
