/- Parts of a proof: EdO W9E W9G W8A W8B W8C W8D. -/
import Derived.Test.YtjekapjbigfkbaaGreatDoorT14
import Derived.Test.YtjekapjbigfkbaaGreatDoorT13
import Derived.Test.YtjekapjbigfkbaaGreatDoorT09
namespace Go.Proofs.YtjekapjbigfkbaaGreatDoor
set_option maxRecDepth 100000
set_option linter.unusedSimpArgs false
set_option linter.unusedVariables false
set_option linter.unusedSectionVars false
set_option maxHeartbeats 16000000
open Go Tryz
section
open Go.RowKit Go.Deep
structure SmD (D:MD):Prop where
 fin:∀ i,smS (D.fin i)
 aw:∀ i k,smS (D.aw i k)
theorem SmD.state {D:MD} (h:SmD D) {f:ByteArray} (c:smS f):SmD (D.state f):=⟨fun i=>by show smS (if i=D.n then f else D.fin i);split;exact c;exact h.fin i,h.aw⟩
theorem SmD.arc {D:MD} (h:SmD D) {q:Nat} {a b t:Int} {x:ByteArray} (c:smS x):SmD (D.arc q a b x t):=⟨h.fin,fun i k=>by show smS (if i=q/\k=D.na q then x else D.aw i k);split;exact c;exact h.aw i k⟩
theorem x0r:smS (oneF 1):=by unfold smS;decide +kernel
theorem y3u:smS (⟨#[]⟩:ByteArray):=by unfold smS;decide
theorem v9i {d:ED} {m t:Nat} {s:MD × Nat × ByteArray} (h:SmD s.1) (hw:smS s.2.2):∀ i,SmD (edC d m t i s).1/\smS (edC d m t i s).2.2
 | 0=>⟨h,hw⟩
 | i+1=>by
  obtain⟨h1,h2⟩:=v9i (d:=d) (m:=m) (t:=t) h hw i;unfold edC;split
  ·exact⟨(h1.state y3u).arc h2,x0r⟩
  exact⟨h1.arc h2,x0r⟩
theorem v9n:∀ k,SmD (stC (oneF 1) k)
 | 0=>⟨fun _=>y3u,fun _ _=>y3u⟩
 | k+1=>(v9n k).state x0r
theorem v9u {k:Nat} {D:MD} (h:SmD D):∀ s,SmD (arC (oneF 1) k s D)
 | 0=>h
 | s+1=>(v9u h s).arc x0r
theorem v0r {M:EM} (hs:ESz M) {k:Nat} {D:MD} (h:SmD D):∀ e,SmD (edsC M k e D)
 | 0=>h
 | e+1=>by
  have ih:=v0r hs (k:=k) h e;unfold edsC;split
  ·exact(v9i (s:=(edsC M k e D,k,(M.e e).w)) ih (by have:=hs.w e;show (M.e e).w.size<=_;omega) _).1
  exact ih
theorem v1w {M:EM} (hs:ESz M) {sg:Nat} {D:MD} (h:SmD D):∀ k,SmD (allC M (oneF 1) sg k D)
 | 0=>h
 | k+1=>v0r hs (v9u (v1w hs h k) sg) M.n
theorem u3c {M:EM} (c:ESz M) (sg:Nat):SmD (cmpC M sg):=v1w c (v9n _) _
theorem x5m {M:EM} (c:VE M) (k:ESz M) {sg:Nat} (j:sg<=500):MSz (cmpC M sg):=by
 have h:(cmpC M sg).kind=1/\(cmpC M sg).start=0/\(cmpC M sg).lead=oneF 1:=y3g (y8c _ _) _;have d:=y8n (one:=oneF 1) c j ((x2m (oneF 1) (M.most.toNat+1)).mono (N':=7) (A':=0) (by have:=c.m6;omega) (Nat.le_refl _)) (M.most.toNat+1);have g:=u3c k sg;have l:=c.m6;refine⟨by rw[h.2.2];exact x0r,g.fin,g.aw,fun i=>?_,?_,by rw[h.1];omega⟩
 ·have:=d.na i;show (allC M _ sg _ _).na i<=_;omega
 have:=d.n;show (allC M _ sg _ _).n<=_;omega
theorem z7g:ESz z0x:=by
 refine⟨by decide,fun i=>?_,fun i=>?_,fun i=>?_,by decide,by decide⟩
 all_goals (show _<=(_:Int);unfold z0x;simp only[];split<;>(try split)<;>decide)
theorem EdS.congr {z:Option Nat} {w:World} {v:Value} {M N:EM} (h:EdS z w v M) (hn:N.n=M.n) (u:∀ i,i<M.n->(N.e i).w=(M.e i).w/\((N.e i).nf=(M.e i).nf/\∀ k,k<(M.e i).nf->(M.e i).f k=(N.e i).f k)/\(N.e i).nt=(M.e i).nt/\∀ k,k<(M.e i).nt->(M.e i).t k=(N.e i).t k):EdS z w v N:=by
 rcases h with ⟨A,h⟩|⟨b,c,g,F,T,C,D,s,o,l⟩
 ·exact .inl ⟨by rw[hn];exact A,h⟩
 refine .inr ⟨b,c,g,F,T,by rw[hn];exact C,D,by rw[hn];exact s,o,fun i hi=>?_⟩;rw[hn] at hi;obtain⟨c1,c2,c3,c4,c5⟩:=l i hi;obtain⟨p,⟨e2,B⟩,j,r⟩:=u i hi;exact⟨c1,c2,by rw[p];exact c3,by rw[e2];exact Rd.congr c4 fun k d=>by rw[B k d],by rw[j];exact Rd.congr c5 fun k d=>by rw[r k d]⟩
def half:ByteArray:=⟨#[49,47,50]⟩
def y9u:EM:=⟨4,fun i=>if i=0 then ⟨0,fun _=>0,1,fun _=>1,⟨#[49]⟩⟩ else if i=1 then ⟨0,fun _=>0,1,fun _=>2,⟨#[49]⟩⟩ else if i=2 then ⟨1,fun _=>1,1,fun _=>2,half⟩ else ⟨1,fun _=>2,1,fun _=>1,half⟩,1⟩
def simM:EM:=simE 2 x12 ⟨#[49]⟩ ⟨#[]⟩ half ⟨#[]⟩ 1
theorem v1t:simM.n=4:=by decide +kernel
theorem x1m:simM.most=1:=by decide +kernel
theorem u1s:okS 2 x12 ⟨#[49]⟩ ⟨#[]⟩ half ⟨#[]⟩ 1=true:=by decide +kernel
theorem u4y:simR 2 x12 ⟨#[49]⟩ ⟨#[]⟩ half ⟨#[]⟩ 1=(simM,0):=by
 unfold simR;rw[if_neg (by rw[u1s];simp),if_neg (by rw[show (simE 2 x12 ⟨#[49]⟩ ⟨#[]⟩ half ⟨#[]⟩ 1).n=4 from v1t];omega)];rfl
theorem u1w:∀ i,i<4->(simM.e i).w=(y9u.e i).w/\((simM.e i).nf=(y9u.e i).nf/\∀ k,k<(y9u.e i).nf->(y9u.e i).f k=(simM.e i).f k)/\(simM.e i).nt=(y9u.e i).nt/\∀ k,k<(y9u.e i).nt->(y9u.e i).t k=(simM.e i).t k:=by decide +kernel
def DSz (d:ED):Prop:=d.nf<=140737488355328/\d.nt<=140737488355328/\smS d.w
theorem v9e {M:EM} {d:ED} (h:∀ i,DSz (M.e i)) (c:DSz d) (i:Nat):DSz ((apE M d).e i):=by
 show DSz (if i=M.n then d else M.e i);split
 ·exact c
 exact h i
theorem y9z {mk:Int->ED} {ws:ByteArray} {x:Nat->Int} {M:EM} (h:∀ i,DSz (M.e i)) (hm:∀ s,(mk s).nf<=2/\(mk s).nt<=2) (hw:smS ws):∀ n i,DSz ((oneE mk ws x n M).e i)
 | 0,i=>h i
 | n+1,i=>by
  unfold oneE;split
  ·exact y9z h hm hw n i
  exact v9e (y9z h hm hw n) ⟨by have:=(hm (x n)).1;show (mk (x n)).nf<=_;omega,by have:=(hm (x n)).2;show (mk (x n)).nt<=_;omega,hw⟩ i
theorem x2j {mk:Int->Int->ED} {ws:ByteArray} {x:Nat->Int} {k:Nat} {M:EM} (h:∀ i,DSz (M.e i)) (hm:∀ s t,(mk s t).nf<=2/\(mk s t).nt<=2) (hw:smS ws):∀ n i,DSz ((rowE mk ws x k n M).e i)
 | 0,i=>h i
 | n+1,i=>by
  unfold rowE;split
  ·exact v9e (x2j h hm hw n) ⟨by have:=(hm (x k) (x n)).1;show (mk (x k) (x n)).nf<=_;omega,by have:=(hm (x k) (x n)).2;show (mk (x k) (x n)).nt<=_;omega,hw⟩ i
  exact x2j h hm hw n i
theorem x2x {mk:Int->Int->ED} {ws:ByteArray} {x:Nat->Int} {m:Nat} {M:EM} (h:∀ i,DSz (M.e i)) (hm:∀ s t,(mk s t).nf<=2/\(mk s t).nt<=2) (hw:smS ws):∀ n i,DSz ((twoE mk ws x m n M).e i)
 | 0,i=>h i
 | n+1,i=>x2j (x2x h hm hw n) hm hw m i
theorem u1p {n:Nat} {x:Nat->Int} {a b c d:ByteArray} {most:Int} (A:smS a) (v:smS b) (u:smS c) (r:smS d) (hn:n<=100) (k:-9223372036854775808<=most/\most<=9223372036854775807):ESz (simE n x a b c d most):=by
 have z:∀ i,DSz ((⟨0,fun _=>insD 0,most⟩:EM).e i):=fun _=>⟨by show 0<=_;omega,by show 1<=_;omega,y3u⟩;have h:=x2x (mk:=swpD) (ws:=d) (x:=x) (m:=n) (x2x (mk:=repD) (ws:=c) (x:=x) (m:=n) (y9z (mk:=remD) (ws:=b) (x:=x) (y9z (mk:=insD) (ws:=a) (x:=x) z (fun _=>⟨by show 0<=2;omega,by show 1<=2;omega⟩) A n) (fun _=>⟨by show 1<=2;omega,by show 0<=2;omega⟩) v n) (fun _ _=>⟨by show 1<=2;omega,by show 1<=2;omega⟩) u n) (fun _ _=>⟨by show 2<=2;omega,by show 2<=2;omega⟩) r n;have s:n*n<=10000:=Nat.mul_le_mul hn hn;have l:=z7j insD a x ⟨0,fun _=>insD 0,most⟩ n;have p:=z7j remD b x (oneE insD a x n ⟨0,fun _=>insD 0,most⟩) n;have o:=z7i repD c x n (oneE remD b x n (oneE insD a x n ⟨0,fun _=>insD 0,most⟩)) n;have j:=z7i swpD d x n (twoE repD c x n n (oneE remD b x n (oneE insD a x n ⟨0,fun _=>insD 0,most⟩))) n;have F:(⟨0,fun _=>insD 0,most⟩:EM).n=0:=rfl;have g:(simE n x a b c d most).most=most:=by unfold simE;rw[j.1,o.1,p.1,l.1]
 refine⟨?_,fun i=>?_,fun i=>?_,fun i=>?_,by rw[g];exact k.1,by rw[g];exact k.2⟩
 ·have E:=l.2;have C:=p.2;have D:=o.2;have B:=j.2;unfold simE;omega
 ·have:=(h i).1;unfold simE;omega
 ·have:=(h i).2.1;unfold simE;omega
 have:=(h i).2.2;unfold smS at this;unfold simE;omega
theorem u3a:ESz simM:=u1p (by unfold smS;decide) y3u (by unfold smS;decide) y3u (by omega) (by omega)
theorem l1:y3h ⟨z0x,2,fun _=>1,2,fun _=>2⟩=⟨#[50]⟩:=by unfold y3h;rw[v7n];rfl
theorem l2:y3h ⟨z0x,3,fun _=>1,3,fun _=>2⟩=⟨#[105,110,102]⟩:=by unfold y3h;rw[v6t];rfl
theorem l3:y3h ⟨z0x,2,x12,2,x12⟩=⟨#[48]⟩:=by unfold y3h;rw[v6q];rfl
def seven:EM:=⟨0,fun _=>insD 0,7⟩
theorem v7s:¬ VE seven:=fun h=>by have:=h.m6;exact absurd this (by decide)
theorem v6s:ESz seven:=⟨by decide,fun _=>by show ((0:Nat):Int)<=_;omega,fun _=>by show ((1:Nat):Int)<=_;omega,fun _=>by show (((⟨#[]⟩:ByteArray).size:Nat):Int)<=_;decide,by decide,by decide⟩
def TrueB (w:World) (r:Ending) (w':World):Prop:=r=.returned (.bool true)/\Below w.heap.size w w'
theorem x0g (w:World) (ht:Tab w):Calls prog 12 #[] w (TrueB w):=by
 have G:=qh ht;clear ht
 go_enter func12,ntmps12
 go_wp2_with fail
 refine(z8s w).mono ?_;rintro z w1 ⟨i4,j6,rfl,h9⟩;have e0:=qh i4;clear i4;have HC:=qh (y5v (sg:=3) w1 (⟨_,rfl,h9⟩:Em none w1 (.agg #[j6,.int .i64 z0x.most]) z0x) z7g (G.out.below e0.out (Nat.le_refl _)));clear h9
 go_wp2_with fail
 refine HC.out.mono ?_;rintro z r ⟨i9,hr⟩;obtain⟨j8,R2,j7,S⟩:∃ sv R,z=.returned (.tuple #[.agg #[.int .i64 1,.int .i64 0,.string (oneF 1),sv],.int .i64 0])/\OwM r w1.heap.size sv (cmpC z0x 3) R:=by
  rcases hr with ⟨I,_⟩|⟨_,_,_,_,⟨I,_⟩|⟨_,h⟩⟩
  ·exact absurd ⟨z4b,by omega,by omega,u5n⟩ I
  ·exact absurd u0s I
  exact h
 subst j7;have a3:=qh (e0.out.trans (i9.mono e0.out.size));clear i9 hr HC e0;have X:(cmpC z0x 3).kind=1/\(cmpC z0x 3).start=0/\(cmpC z0x 3).lead=oneF 1:=y3g (y8c _ _) _;obtain⟨D,hD⟩:=exq (cmpC z0x 3);obtain⟨one,d3⟩:=exq (oneF 1);rw[<- d3] at X;rw[<- hD] at S X;rw[<- d3];obtain⟨u,E,h7,_,_⟩:=z5r S.top;subst h7;have j0:∀ W,Below r.heap.size r W->Ma none W (.agg #[.int .i64 1,.int .i64 0,.string one,.slice u D.n E]) D:=fun W h=>⟨.slice u D.n E,by rw[X.1,X.2.1,X.2.2],S.sts.kept (z0c h none)⟩;have i6:=fun (W:World) (xv yv:Value) (h:Below r.heap.size r W) (hx:Si none W xv 2 x12) (hy:Si none W yv 1 (fun _=>3))=>x8u W (j0 W h) (by rw[hD];exact x5m z4b z7g (by omega)) (G.out.below (a3.out.trans (h.mono a3.out.size)) (Nat.le_refl _)) hx hy (by decide) (by decide) (by rw[hD];exact v6k);have h2:=qh i6;clear i6;have d9:=qh (show VM D/\isWord 2 x12=true/\isWord 1 (fun _=>3)=true/\wgtC D 2 x12 1 (fun _=>3)=(⟨#[49]⟩,0) from ⟨by rw[hD];exact v5x,by decide +kernel,by decide +kernel,by rw[hD];exact v2d⟩);clear S j0 X hD d3;obtain⟨W3,Y⟩:∃ W,W=(((r.alloc (Obj.cells #[.int .i64 1,.int .i64 0,.string one,.slice u D.n E] 36)).alloc (Obj.cells #[.int .i64 1,.int .i64 2] 3)).alloc (Obj.cells #[.int .i64 3] 3)):=⟨_,rfl⟩;have g9:W3.heap[r.heap.size+0]?=some (Obj.cells #[.int .i64 1,.int .i64 0,.string one,.slice u D.n E] 36):=by rw[Y];exact z0h [Obj.cells #[.int .i64 1,.int .i64 0,.string one,.slice u D.n E] 36,Obj.cells #[.int .i64 1,.int .i64 2] 3,Obj.cells #[.int .i64 3] 3] r (i:=0) rfl
 have b4:W3.heap[r.heap.size+1]?=some (Obj.cells #[.int .i64 1,.int .i64 2] 3):=by rw[Y];exact z0h [Obj.cells #[.int .i64 1,.int .i64 0,.string one,.slice u D.n E] 36,Obj.cells #[.int .i64 1,.int .i64 2] 3,Obj.cells #[.int .i64 3] 3] r (i:=1) rfl
 have a7:W3.heap[r.heap.size+2]?=some (Obj.cells #[.int .i64 3] 3):=by rw[Y];exact z0h [Obj.cells #[.int .i64 1,.int .i64 0,.string one,.slice u D.n E] 36,Obj.cells #[.int .i64 1,.int .i64 2] 3,Obj.cells #[.int .i64 3] 3] r (i:=2) rfl
 have b0:Below r.heap.size r W3:=by rw[Y];exact z1q [Obj.cells #[.int .i64 1,.int .i64 0,.string one,.slice u D.n E] 36,Obj.cells #[.int .i64 1,.int .i64 2] 3,Obj.cells #[.int .i64 3] 3] r r r.heap.size (Below.refl _ _) (Nat.le_refl _)
 have j1:=qh (h2.out W3 (.slice (some ⟨r.heap.size+1,0,none⟩) 2 2) (.slice (some ⟨r.heap.size+1+1,0,none⟩) 1 1) b0 (z3u b4 y2g (lt2 rfl rfl)) (z3u a7 z6e (lt1 rfl)));have g7:=qh (a3.out.trans (b0.mono a3.out.size));clear g9 b4 a7 b0 h2
 go_wp2_with fail
 rw[<- Y];clear Y;refine j1.out.mono ?_;rintro z w4 ⟨j2,hr⟩;obtain rfl:z=.returned (.tuple #[.string ⟨#[49]⟩,.int .i64 0]):=by
  rcases hr with ⟨_,_,_,h⟩|⟨I,_⟩
  ·rw[d9.out.2.2.2] at h;exact h
  exact absurd ⟨d9.out.1,d9.out.2.1,d9.out.2.2.1⟩ I
 have d2:=qh (g7.out.trans (j2.mono g7.out.size));clear j2 hr j1 g7 a3;obtain⟨W5,e4⟩:∃ W,W=(w4.alloc (Obj.cells #[.int .i64 1,.int .i64 2] 3)):=⟨_,rfl⟩;have b7:W5.heap[w4.heap.size+0]?=some (Obj.cells #[.int .i64 1,.int .i64 2] 3):=by rw[e4];exact z0h [Obj.cells #[.int .i64 1,.int .i64 2] 3] w4 (i:=0) rfl
 have b1:Below w4.heap.size w4 W5:=by rw[e4];exact z1q [Obj.cells #[.int .i64 1,.int .i64 2] 3] w4 w4 w4.heap.size (Below.refl _ _) (Nat.le_refl _)
 have e1:=x2r ⟨#[49]⟩ ⟨#[]⟩ half ⟨#[]⟩ 1 W5 (z3u (x:=x12) b7 y2g (lt2 rfl rfl)) (by omega) (G.out.below (d2.out.trans (b1.mono d2.out.size)) (Nat.le_refl _)) (by unfold smS;decide) y3u (by unfold smS;decide) y3u;rw[u4y] at e1;unfold half at e1;have h8:=qh e1;clear e1;have g6:=qh (d2.out.trans (b1.mono d2.out.size));clear b7 b1
 go_wp2_with fail
 rw[<- e4];clear e4;refine h8.out.mono ?_;rintro z c ⟨j3,k0,rfl,g3⟩;have g5:=qh (g6.out.trans (j3.mono g6.out.size));clear j3 h8 g6 d2;obtain⟨a6,c6,_,_,_,_,_,_,h3,_⟩:=g3.open;rw[v1t] at h3;subst h3;rw[x1m];have i5:=qh g3;clear g3;obtain⟨Z,d⟩:∃ W,W=(((((((((c.alloc (Obj.cells #[.slice a6 4 c6,.int .i64 1] 24)).alloc (Obj.cells #[.int .i64 1] 3)).alloc (Obj.cells #[.int .i64 2] 3)).alloc (Obj.cells #[.int .i64 1] 3)).alloc (Obj.cells #[.int .i64 2] 3)).alloc (Obj.cells #[.int .i64 2] 3)).alloc (Obj.cells #[.int .i64 1] 3)).alloc (Obj.cells #[.slice none 0 0,.slice (some ⟨c.heap.size+1,0,none⟩) 1 1,.string ⟨#[49]⟩,.slice none 0 0,.slice (some ⟨c.heap.size+1+1,0,none⟩) 1 1,.string ⟨#[49]⟩,.slice (some ⟨c.heap.size+1+1+1,0,none⟩) 1 1,.slice (some ⟨c.heap.size+1+1+1+1,0,none⟩) 1 1,.string ⟨#[49,47,50]⟩,.slice (some ⟨c.heap.size+1+1+1+1+1,0,none⟩) 1 1,.slice (some ⟨c.heap.size+1+1+1+1+1+1,0,none⟩) 1 1,.string ⟨#[49,47,50]⟩] 50)).alloc (Obj.cells #[.slice (some ⟨c.heap.size+1+1+1+1+1+1+1,0,none⟩) 4 4,.int .i64 1] 24)):=⟨_,rfl⟩;have g4:Z.heap[c.heap.size+0]?=some (Obj.cells #[.slice a6 4 c6,.int .i64 1] 24):=by rw[d];exact z0h [Obj.cells #[.slice a6 4 c6,.int .i64 1] 24,Obj.cells #[.int .i64 1] 3,Obj.cells #[.int .i64 2] 3,Obj.cells #[.int .i64 1] 3,Obj.cells #[.int .i64 2] 3,Obj.cells #[.int .i64 2] 3,Obj.cells #[.int .i64 1] 3,Obj.cells #[.slice none 0 0,.slice (some ⟨c.heap.size+1,0,none⟩) 1 1,.string ⟨#[49]⟩,.slice none 0 0,.slice (some ⟨c.heap.size+1+1,0,none⟩) 1 1,.string ⟨#[49]⟩,.slice (some ⟨c.heap.size+1+1+1,0,none⟩) 1 1,.slice (some ⟨c.heap.size+1+1+1+1,0,none⟩) 1 1,.string ⟨#[49,47,50]⟩,.slice (some ⟨c.heap.size+1+1+1+1+1,0,none⟩) 1 1,.slice (some ⟨c.heap.size+1+1+1+1+1+1,0,none⟩) 1 1,.string ⟨#[49,47,50]⟩] 50,Obj.cells #[.slice (some ⟨c.heap.size+1+1+1+1+1+1+1,0,none⟩) 4 4,.int .i64 1] 24] c (i:=0) rfl
 have c9:Z.heap[c.heap.size+1]?=some (Obj.cells #[.int .i64 1] 3):=by rw[d];exact z0h [Obj.cells #[.slice a6 4 c6,.int .i64 1] 24,Obj.cells #[.int .i64 1] 3,Obj.cells #[.int .i64 2] 3,Obj.cells #[.int .i64 1] 3,Obj.cells #[.int .i64 2] 3,Obj.cells #[.int .i64 2] 3,Obj.cells #[.int .i64 1] 3,Obj.cells #[.slice none 0 0,.slice (some ⟨c.heap.size+1,0,none⟩) 1 1,.string ⟨#[49]⟩,.slice none 0 0,.slice (some ⟨c.heap.size+1+1,0,none⟩) 1 1,.string ⟨#[49]⟩,.slice (some ⟨c.heap.size+1+1+1,0,none⟩) 1 1,.slice (some ⟨c.heap.size+1+1+1+1,0,none⟩) 1 1,.string ⟨#[49,47,50]⟩,.slice (some ⟨c.heap.size+1+1+1+1+1,0,none⟩) 1 1,.slice (some ⟨c.heap.size+1+1+1+1+1+1,0,none⟩) 1 1,.string ⟨#[49,47,50]⟩] 50,Obj.cells #[.slice (some ⟨c.heap.size+1+1+1+1+1+1+1,0,none⟩) 4 4,.int .i64 1] 24] c (i:=1) rfl
 have c8:Z.heap[c.heap.size+2]?=some (Obj.cells #[.int .i64 2] 3):=by rw[d];exact z0h [Obj.cells #[.slice a6 4 c6,.int .i64 1] 24,Obj.cells #[.int .i64 1] 3,Obj.cells #[.int .i64 2] 3,Obj.cells #[.int .i64 1] 3,Obj.cells #[.int .i64 2] 3,Obj.cells #[.int .i64 2] 3,Obj.cells #[.int .i64 1] 3,Obj.cells #[.slice none 0 0,.slice (some ⟨c.heap.size+1,0,none⟩) 1 1,.string ⟨#[49]⟩,.slice none 0 0,.slice (some ⟨c.heap.size+1+1,0,none⟩) 1 1,.string ⟨#[49]⟩,.slice (some ⟨c.heap.size+1+1+1,0,none⟩) 1 1,.slice (some ⟨c.heap.size+1+1+1+1,0,none⟩) 1 1,.string ⟨#[49,47,50]⟩,.slice (some ⟨c.heap.size+1+1+1+1+1,0,none⟩) 1 1,.slice (some ⟨c.heap.size+1+1+1+1+1+1,0,none⟩) 1 1,.string ⟨#[49,47,50]⟩] 50,Obj.cells #[.slice (some ⟨c.heap.size+1+1+1+1+1+1+1,0,none⟩) 4 4,.int .i64 1] 24] c (i:=2) rfl
 have c7:Z.heap[c.heap.size+3]?=some (Obj.cells #[.int .i64 1] 3):=by rw[d];exact z0h [Obj.cells #[.slice a6 4 c6,.int .i64 1] 24,Obj.cells #[.int .i64 1] 3,Obj.cells #[.int .i64 2] 3,Obj.cells #[.int .i64 1] 3,Obj.cells #[.int .i64 2] 3,Obj.cells #[.int .i64 2] 3,Obj.cells #[.int .i64 1] 3,Obj.cells #[.slice none 0 0,.slice (some ⟨c.heap.size+1,0,none⟩) 1 1,.string ⟨#[49]⟩,.slice none 0 0,.slice (some ⟨c.heap.size+1+1,0,none⟩) 1 1,.string ⟨#[49]⟩,.slice (some ⟨c.heap.size+1+1+1,0,none⟩) 1 1,.slice (some ⟨c.heap.size+1+1+1+1,0,none⟩) 1 1,.string ⟨#[49,47,50]⟩,.slice (some ⟨c.heap.size+1+1+1+1+1,0,none⟩) 1 1,.slice (some ⟨c.heap.size+1+1+1+1+1+1,0,none⟩) 1 1,.string ⟨#[49,47,50]⟩] 50,Obj.cells #[.slice (some ⟨c.heap.size+1+1+1+1+1+1+1,0,none⟩) 4 4,.int .i64 1] 24] c (i:=3) rfl
 have a1:Z.heap[c.heap.size+4]?=some (Obj.cells #[.int .i64 2] 3):=by rw[d];exact z0h [Obj.cells #[.slice a6 4 c6,.int .i64 1] 24,Obj.cells #[.int .i64 1] 3,Obj.cells #[.int .i64 2] 3,Obj.cells #[.int .i64 1] 3,Obj.cells #[.int .i64 2] 3,Obj.cells #[.int .i64 2] 3,Obj.cells #[.int .i64 1] 3,Obj.cells #[.slice none 0 0,.slice (some ⟨c.heap.size+1,0,none⟩) 1 1,.string ⟨#[49]⟩,.slice none 0 0,.slice (some ⟨c.heap.size+1+1,0,none⟩) 1 1,.string ⟨#[49]⟩,.slice (some ⟨c.heap.size+1+1+1,0,none⟩) 1 1,.slice (some ⟨c.heap.size+1+1+1+1,0,none⟩) 1 1,.string ⟨#[49,47,50]⟩,.slice (some ⟨c.heap.size+1+1+1+1+1,0,none⟩) 1 1,.slice (some ⟨c.heap.size+1+1+1+1+1+1,0,none⟩) 1 1,.string ⟨#[49,47,50]⟩] 50,Obj.cells #[.slice (some ⟨c.heap.size+1+1+1+1+1+1+1,0,none⟩) 4 4,.int .i64 1] 24] c (i:=4) rfl
 have d4:Z.heap[c.heap.size+5]?=some (Obj.cells #[.int .i64 2] 3):=by rw[d];exact z0h [Obj.cells #[.slice a6 4 c6,.int .i64 1] 24,Obj.cells #[.int .i64 1] 3,Obj.cells #[.int .i64 2] 3,Obj.cells #[.int .i64 1] 3,Obj.cells #[.int .i64 2] 3,Obj.cells #[.int .i64 2] 3,Obj.cells #[.int .i64 1] 3,Obj.cells #[.slice none 0 0,.slice (some ⟨c.heap.size+1,0,none⟩) 1 1,.string ⟨#[49]⟩,.slice none 0 0,.slice (some ⟨c.heap.size+1+1,0,none⟩) 1 1,.string ⟨#[49]⟩,.slice (some ⟨c.heap.size+1+1+1,0,none⟩) 1 1,.slice (some ⟨c.heap.size+1+1+1+1,0,none⟩) 1 1,.string ⟨#[49,47,50]⟩,.slice (some ⟨c.heap.size+1+1+1+1+1,0,none⟩) 1 1,.slice (some ⟨c.heap.size+1+1+1+1+1+1,0,none⟩) 1 1,.string ⟨#[49,47,50]⟩] 50,Obj.cells #[.slice (some ⟨c.heap.size+1+1+1+1+1+1+1,0,none⟩) 4 4,.int .i64 1] 24] c (i:=5) rfl
 have b6:Z.heap[c.heap.size+6]?=some (Obj.cells #[.int .i64 1] 3):=by rw[d];exact z0h [Obj.cells #[.slice a6 4 c6,.int .i64 1] 24,Obj.cells #[.int .i64 1] 3,Obj.cells #[.int .i64 2] 3,Obj.cells #[.int .i64 1] 3,Obj.cells #[.int .i64 2] 3,Obj.cells #[.int .i64 2] 3,Obj.cells #[.int .i64 1] 3,Obj.cells #[.slice none 0 0,.slice (some ⟨c.heap.size+1,0,none⟩) 1 1,.string ⟨#[49]⟩,.slice none 0 0,.slice (some ⟨c.heap.size+1+1,0,none⟩) 1 1,.string ⟨#[49]⟩,.slice (some ⟨c.heap.size+1+1+1,0,none⟩) 1 1,.slice (some ⟨c.heap.size+1+1+1+1,0,none⟩) 1 1,.string ⟨#[49,47,50]⟩,.slice (some ⟨c.heap.size+1+1+1+1+1,0,none⟩) 1 1,.slice (some ⟨c.heap.size+1+1+1+1+1+1,0,none⟩) 1 1,.string ⟨#[49,47,50]⟩] 50,Obj.cells #[.slice (some ⟨c.heap.size+1+1+1+1+1+1+1,0,none⟩) 4 4,.int .i64 1] 24] c (i:=6) rfl
 have a4:Z.heap[c.heap.size+7]?=some (Obj.cells #[.slice none 0 0,.slice (some ⟨c.heap.size+1,0,none⟩) 1 1,.string ⟨#[49]⟩,.slice none 0 0,.slice (some ⟨c.heap.size+1+1,0,none⟩) 1 1,.string ⟨#[49]⟩,.slice (some ⟨c.heap.size+1+1+1,0,none⟩) 1 1,.slice (some ⟨c.heap.size+1+1+1+1,0,none⟩) 1 1,.string ⟨#[49,47,50]⟩,.slice (some ⟨c.heap.size+1+1+1+1+1,0,none⟩) 1 1,.slice (some ⟨c.heap.size+1+1+1+1+1+1,0,none⟩) 1 1,.string ⟨#[49,47,50]⟩] 50):=by rw[d];exact z0h [Obj.cells #[.slice a6 4 c6,.int .i64 1] 24,Obj.cells #[.int .i64 1] 3,Obj.cells #[.int .i64 2] 3,Obj.cells #[.int .i64 1] 3,Obj.cells #[.int .i64 2] 3,Obj.cells #[.int .i64 2] 3,Obj.cells #[.int .i64 1] 3,Obj.cells #[.slice none 0 0,.slice (some ⟨c.heap.size+1,0,none⟩) 1 1,.string ⟨#[49]⟩,.slice none 0 0,.slice (some ⟨c.heap.size+1+1,0,none⟩) 1 1,.string ⟨#[49]⟩,.slice (some ⟨c.heap.size+1+1+1,0,none⟩) 1 1,.slice (some ⟨c.heap.size+1+1+1+1,0,none⟩) 1 1,.string ⟨#[49,47,50]⟩,.slice (some ⟨c.heap.size+1+1+1+1+1,0,none⟩) 1 1,.slice (some ⟨c.heap.size+1+1+1+1+1+1,0,none⟩) 1 1,.string ⟨#[49,47,50]⟩] 50,Obj.cells #[.slice (some ⟨c.heap.size+1+1+1+1+1+1+1,0,none⟩) 4 4,.int .i64 1] 24] c (i:=7) rfl
 have g2:Z.heap[c.heap.size+8]?=some (Obj.cells #[.slice (some ⟨c.heap.size+1+1+1+1+1+1+1,0,none⟩) 4 4,.int .i64 1] 24):=by rw[d];exact z0h [Obj.cells #[.slice a6 4 c6,.int .i64 1] 24,Obj.cells #[.int .i64 1] 3,Obj.cells #[.int .i64 2] 3,Obj.cells #[.int .i64 1] 3,Obj.cells #[.int .i64 2] 3,Obj.cells #[.int .i64 2] 3,Obj.cells #[.int .i64 1] 3,Obj.cells #[.slice none 0 0,.slice (some ⟨c.heap.size+1,0,none⟩) 1 1,.string ⟨#[49]⟩,.slice none 0 0,.slice (some ⟨c.heap.size+1+1,0,none⟩) 1 1,.string ⟨#[49]⟩,.slice (some ⟨c.heap.size+1+1+1,0,none⟩) 1 1,.slice (some ⟨c.heap.size+1+1+1+1,0,none⟩) 1 1,.string ⟨#[49,47,50]⟩,.slice (some ⟨c.heap.size+1+1+1+1+1,0,none⟩) 1 1,.slice (some ⟨c.heap.size+1+1+1+1+1+1,0,none⟩) 1 1,.string ⟨#[49,47,50]⟩] 50,Obj.cells #[.slice (some ⟨c.heap.size+1+1+1+1+1+1+1,0,none⟩) 4 4,.int .i64 1] 24] c (i:=8) rfl
 have a9:Below c.heap.size c Z:=by rw[d];exact z1q [Obj.cells #[.slice a6 4 c6,.int .i64 1] 24,Obj.cells #[.int .i64 1] 3,Obj.cells #[.int .i64 2] 3,Obj.cells #[.int .i64 1] 3,Obj.cells #[.int .i64 2] 3,Obj.cells #[.int .i64 2] 3,Obj.cells #[.int .i64 1] 3,Obj.cells #[.slice none 0 0,.slice (some ⟨c.heap.size+1,0,none⟩) 1 1,.string ⟨#[49]⟩,.slice none 0 0,.slice (some ⟨c.heap.size+1+1,0,none⟩) 1 1,.string ⟨#[49]⟩,.slice (some ⟨c.heap.size+1+1+1,0,none⟩) 1 1,.slice (some ⟨c.heap.size+1+1+1+1,0,none⟩) 1 1,.string ⟨#[49,47,50]⟩,.slice (some ⟨c.heap.size+1+1+1+1+1,0,none⟩) 1 1,.slice (some ⟨c.heap.size+1+1+1+1+1+1,0,none⟩) 1 1,.string ⟨#[49,47,50]⟩] 50,Obj.cells #[.slice (some ⟨c.heap.size+1+1+1+1+1+1+1,0,none⟩) 4 4,.int .i64 1] 24] c c c.heap.size (Below.refl _ _) (Nat.le_refl _)
 have a8:EdS none Z (.slice (some ⟨c.heap.size+7,0,none⟩) 4 4) simM:=by
  refine EdS.congr (M:=y9u) (x9y (M:=y9u) (F:=fun i=>if i=0 then .slice none 0 0 else if i=1 then .slice none 0 0 else if i=2 then .slice (some ⟨c.heap.size+3,0,none⟩) 1 1 else .slice (some ⟨c.heap.size+5,0,none⟩) 1 1) (T:=fun i=>if i=0 then .slice (some ⟨c.heap.size+1,0,none⟩) 1 1 else if i=1 then .slice (some ⟨c.heap.size+2,0,none⟩) 1 1 else if i=2 then .slice (some ⟨c.heap.size+4,0,none⟩) 1 1 else .slice (some ⟨c.heap.size+6,0,none⟩) 1 1) a4 (by show 4<=maxLen;unfold maxLen;omega) (lt4 ?_ ?_ ?_ ?_)) v1t u1w
  ·exact⟨rfl,rfl,rfl,x5y _ _,(z3u c9 z6e (lt1 rfl))⟩
  ·exact⟨rfl,rfl,rfl,x5y _ _,(z3u c8 z6e (lt1 rfl))⟩
  ·exact⟨rfl,rfl,rfl,(z3u c7 z6e (lt1 rfl)),(z3u a1 z6e (lt1 rfl))⟩
  exact⟨rfl,rfl,rfl,(z3u d4 z6e (lt1 rfl)),(z3u b6 z6e (lt1 rfl))⟩
 have J:=v0h Z (i5.out.kept (z0c a9 none)) a8 u3a;rw[x1m] at J;have b2:=qh J;clear J a8;have h0:=qh (g5.out.trans (a9.mono g5.out.size));clear g4 c9 c8 c7 a1 d4 b6 a4 g2 a9 i5 g5
 go_wp2_with fail
 rw[<- d];clear d;refine b2.out.mono ?_;rintro z w8 ⟨rfl,i2⟩;have g8:=qh (h0.out.trans (i2.mono h0.out.size));clear i2 b2 h0
 go_wp2_with fail
 refine(z8s _).mono ?_;rintro z w9 ⟨h6,j5,rfl,j4⟩;have e3:=qh (g8.out.trans (h6.mono g8.out.size));clear h6 g8;have h4:=qh (y0a w9 (⟨_,rfl,j4⟩:Em none w9 (.agg #[j5,.int .i64 z0x.most]) z0x) z7g (G.out.below e3.out (Nat.le_refl _)));clear j4
 go_wp2_with fail
 refine h4.out.mono ?_;rintro z i7 ⟨f2,hr⟩;obtain rfl:z=.returned (.bool true):=by
  rcases hr with ⟨_,h⟩|⟨I,_⟩
  ·exact h
  exact absurd z4b I
 have O:=qh (e3.out.trans (f2.mono e3.out.size));clear f2 hr e3 h4;have f5:=qh (y0a i7 (⟨.slice none 0 0,rfl,.inl ⟨rfl,none,0,rfl,Nat.zero_le _⟩⟩:Em none i7 (.agg #[.slice none 0 0,.int .i64 7]) seven) v6s (G.out.below O.out (Nat.le_refl _)))
 go_wp2_with fail
 refine f5.out.mono ?_;rintro z j9 ⟨e6,hr⟩;obtain rfl:z=.returned (.bool false):=by
  rcases hr with ⟨h,_⟩|⟨_,h⟩
  ·exact absurd h v7s
  exact h
 have d5:=qh (O.out.trans (e6.mono O.out.size));clear e6 hr O f5
 go_wp2_with fail
 refine(z8s _).mono ?_;rintro z g ⟨e9,i3,rfl,f9⟩;have s:=qh (d5.out.trans (e9.mono d5.out.size));clear e9 d5;obtain⟨d6,C⟩:∃ W,W=((g.alloc (Obj.cells #[.int .i64 1,.int .i64 1] 3)).alloc (Obj.cells #[.int .i64 2,.int .i64 2] 3)):=⟨_,rfl⟩;have K:d6.heap[g.heap.size+0]?=some (Obj.cells #[.int .i64 1,.int .i64 1] 3):=by rw[C];exact z0h [Obj.cells #[.int .i64 1,.int .i64 1] 3,Obj.cells #[.int .i64 2,.int .i64 2] 3] g (i:=0) rfl
 have U:d6.heap[g.heap.size+1]?=some (Obj.cells #[.int .i64 2,.int .i64 2] 3):=by rw[C];exact z0h [Obj.cells #[.int .i64 1,.int .i64 1] 3,Obj.cells #[.int .i64 2,.int .i64 2] 3] g (i:=1) rfl
 have l:Below g.heap.size g d6:=by rw[C];exact z1q [Obj.cells #[.int .i64 1,.int .i64 1] 3,Obj.cells #[.int .i64 2,.int .i64 2] 3] g g g.heap.size (Below.refl _ _) (Nat.le_refl _)
 have b8:=y5a d6 (⟨_,rfl,f9.kept (z0c l none)⟩:Em none d6 (.agg #[i3,.int .i64 z0x.most]) z0x) z7g (G.out.below (s.out.trans (l.mono s.out.size)) (Nat.le_refl _)) (z3u (x:=fun _=>1) K y2g (lt2 rfl rfl)) (z3u (x:=fun _=>2) U y2g (lt2 rfl rfl)) z4b (by decide +kernel) (by decide +kernel);rw[l1] at b8;have f8:=qh b8;clear b8 f9;have a5:=qh (s.out.trans (l.mono s.out.size));clear K U l s
 go_wp2_with fail
 rw[<- C];clear C;refine f8.out.mono ?_;rintro z k2 ⟨rfl,f7⟩;have b9:=qh (a5.out.trans (f7.mono a5.out.size));clear f7 f8 a5
 go_wp2_with fail
 refine(z8s _).mono ?_;rintro z j ⟨f0,i8,rfl,e7⟩;have v:=qh (b9.out.trans (f0.mono b9.out.size));clear f0 b9;obtain⟨d7,B⟩:∃ W,W=((j.alloc (Obj.cells #[.int .i64 1,.int .i64 1,.int .i64 1] 3)).alloc (Obj.cells #[.int .i64 2,.int .i64 2,.int .i64 2] 3)):=⟨_,rfl⟩;have P:d7.heap[j.heap.size+0]?=some (Obj.cells #[.int .i64 1,.int .i64 1,.int .i64 1] 3):=by rw[B];exact z0h [Obj.cells #[.int .i64 1,.int .i64 1,.int .i64 1] 3,Obj.cells #[.int .i64 2,.int .i64 2,.int .i64 2] 3] j (i:=0) rfl
 have L:d7.heap[j.heap.size+1]?=some (Obj.cells #[.int .i64 2,.int .i64 2,.int .i64 2] 3):=by rw[B];exact z0h [Obj.cells #[.int .i64 1,.int .i64 1,.int .i64 1] 3,Obj.cells #[.int .i64 2,.int .i64 2,.int .i64 2] 3] j (i:=1) rfl
 have p:Below j.heap.size j d7:=by rw[B];exact z1q [Obj.cells #[.int .i64 1,.int .i64 1,.int .i64 1] 3,Obj.cells #[.int .i64 2,.int .i64 2,.int .i64 2] 3] j j j.heap.size (Below.refl _ _) (Nat.le_refl _)
 have d0:=y5a d7 (⟨_,rfl,e7.kept (z0c p none)⟩:Em none d7 (.agg #[i8,.int .i64 z0x.most]) z0x) z7g (G.out.below (v.out.trans (p.mono v.out.size)) (Nat.le_refl _)) (z3u (x:=fun _=>1) P x6d (lt3 rfl rfl rfl)) (z3u (x:=fun _=>2) L x6d (lt3 rfl rfl rfl)) z4b (by decide +kernel) (by decide +kernel);rw[l2] at d0;have f1:=qh d0;clear d0 e7;have a2:=qh (v.out.trans (p.mono v.out.size));clear P L p v
 go_wp2_with fail
 rw[<- B];clear B;refine f1.out.mono ?_;rintro z k1 ⟨rfl,e5⟩;have b5:=qh (a2.out.trans (e5.mono a2.out.size));clear e5 f1 a2
 go_wp2_with fail
 refine(z8s _).mono ?_;rintro z k ⟨g1,h1,rfl,f4⟩;have H:=qh (b5.out.trans (g1.mono b5.out.size));clear g1 b5;obtain⟨b3,A⟩:∃ W,W=((k.alloc (Obj.cells #[.int .i64 1,.int .i64 2] 3)).alloc (Obj.cells #[.int .i64 1,.int .i64 2] 3)):=⟨_,rfl⟩;have Q:b3.heap[k.heap.size+0]?=some (Obj.cells #[.int .i64 1,.int .i64 2] 3):=by rw[A];exact z0h [Obj.cells #[.int .i64 1,.int .i64 2] 3,Obj.cells #[.int .i64 1,.int .i64 2] 3] k (i:=0) rfl
 have N:b3.heap[k.heap.size+1]?=some (Obj.cells #[.int .i64 1,.int .i64 2] 3):=by rw[A];exact z0h [Obj.cells #[.int .i64 1,.int .i64 2] 3,Obj.cells #[.int .i64 1,.int .i64 2] 3] k (i:=1) rfl
 have o:Below k.heap.size k b3:=by rw[A];exact z1q [Obj.cells #[.int .i64 1,.int .i64 2] 3,Obj.cells #[.int .i64 1,.int .i64 2] 3] k k k.heap.size (Below.refl _ _) (Nat.le_refl _)
 have d8:=y5a b3 (⟨_,rfl,f4.kept (z0c o none)⟩:Em none b3 (.agg #[h1,.int .i64 z0x.most]) z0x) z7g (G.out.below (H.out.trans (o.mono H.out.size)) (Nat.le_refl _)) (z3u (x:=x12) Q y2g (lt2 rfl rfl)) (z3u (x:=x12) N y2g (lt2 rfl rfl)) z4b (by decide +kernel) (by decide +kernel);rw[l3] at d8;have g0:=qh d8;clear d8 f4;have d1:=qh (H.out.trans (o.mono H.out.size));clear Q N o H
 go_wp2_with fail
 rw[<- A];clear A;refine g0.out.mono ?_;rintro z k3 ⟨rfl,e8⟩;have h5:=qh (d1.out.trans (e8.mono d1.out.size));clear e8 g0 d1
 go_wp2_with fail
 go_ret;exact⟨rfl,h5.out⟩
end
section
open Go.RowKit Go.Deep
def FitC (M:EM) (sg:Int):Prop:=VE M/\0<=sg/\sg<=500/\InSg M sg
def Fts37 (M:EM) (sg:Int) (w:World) (r:Ending) (w':World):Prop:=Below w.heap.size w w'/\((FitC M sg/\r=.returned (.bool true))\/(¬ FitC M sg/\r=.returned (.bool false)))
theorem v8g {M:EM} {v:Value} {sg:Int} (w:World) (hM:Em none w v M) (hs:ESz M):Calls prog 22 #[v,.int .i64 sg] w (Fts37 M sg w):=by
 obtain⟨sv,rfl,hS⟩:=hM;have N:∀ W,Below w.heap.size w W->Calls prog 14 #[.agg #[sv,.int .i64 M.most]] W (EvE M W):=fun W h=>y6v W (⟨_,rfl,hS.kept (z0c h none)⟩:Em none W (.agg #[sv,.int .i64 M.most]) M) hs;obtain⟨a,r,b,S,A,A',C,C',rfl,ha,hc,hm,hb,F⟩:=hS.open;unfold maxLen at hm;clear hS;have j:=BoxE.new w M (.slice a M.n r);have D:Below w.heap.size w (w.alloc (.cells #[.slice a M.n r,.int .i64 M.most] 24)):=(Below.refl _ _).alloc (Nat.le_refl _) _;have b7:=hs.n;have b5:=qh hs;clear hs;have Q:=qh N;clear N;have HA:=qh ha;clear ha;have HB:=qh hb;clear hb;have HR:=qh F;clear F;obtain⟨wm,z⟩:=exq (w.alloc (.cells #[.slice a M.n r,.int .i64 M.most] 24));obtain⟨R,L⟩:=exq (w.heap.size);have m0:=j.c0;have m1:=j.c1;have g:=qh j;clear j;have o:=qh D;clear D
 go_enter func22,ntmps22
 go_wp2_with fail
 rw[<- z] at o;rw[<- z,<- L] at g;rw[<- z,<- L];clear z L m0 m1;refine(Q.out wm o.out).mono ?_;rintro rr w2 ⟨K,a3⟩;have c:=qh (o.out.trans (K.mono o.out.size));have H:=qh (show BoxE w2 R M (.slice a M.n r) from (K.block R g.out.lt).trans g.out);clear K o g Q
 rcases a3 with ⟨X,rfl⟩|⟨X,rfl⟩
 rotate_left
 ·have k:=qh (show ¬ FitC M sg from fun h=>X h.1);clear X
  go_wp2_with fail
  go_ret;exact⟨c.out,.inr ⟨k.out,rfl⟩⟩
 have HV:=qh X;clear X;by_cases h0:0<=sg
 rotate_left
 ·have k:=qh (show ¬ FitC M sg from fun h=>h0 h.2.1);have b1:sg<0:=by omega
  go_wp2_with fail
  go_ret;exact⟨c.out,.inr ⟨k.out,rfl⟩⟩
 have b1:¬ (sg<0):=by omega
 by_cases h5:sg<=500
 rotate_left
 ·have k:=qh (show ¬ FitC M sg from fun h=>h5 h.2.2.1);have b0:500<sg:=by omega
  go_wp2_with fail
  go_ret;exact⟨c.out,.inr ⟨k.out,rfl⟩⟩
 have b0:¬ (500<sg):=by omega
 have Z:=qh (And.intro h0 h5)
 go_wp2_with fail
 go_loopw [5] (fun i wr=>∃ q:Nat,q<=M.n/\i=.int .i64 (q:Int)/\(∀ l,l<q->y0g (M.e l).nf (M.e l).f sg/\y0g (M.e l).nt (M.e l).t sg)/\Below w.heap.size w wr/\BoxE wr R M (.slice a M.n r)) (fun i _=>M.n-(intOf i).toNat)
 case atStart=>exact⟨0,Nat.zero_le _,rfl,fun l hl=>by omega,c.out,H.out⟩
 obtain⟨q,hq,rfl,U,P,T⟩:=hrel;clear c H;have a1:=qh U;clear U;have d:=qh P;clear P;have g:=qh T;clear T;have m0:=g.out.c0;by_cases s:q<M.n
 ·have b4:(q:Int)<(M.n:Int):=by omega
  have b3:(0:Int)<=(q:Int):=by omega
  obtain rfl:=HA.out (by omega);have O:=(HB.out (by omega)).1;obtain⟨k1,k2,k3,k4,k5⟩:=HR.out q s;have c0:=(d.out.cell (p:=⟨b,S+q*3,none⟩) O).trans k1;have c1:=(d.out.cell (p:=⟨b,S+q*3+1,none⟩) O).trans k2;clear k1 k2 k3;have a6:=(HV.out.ok q s).f6;have a4:=(HV.out.ok q s).t6;have Y:=qh (z9z (sg:=sg) wr (k4.kept (z0c d.out none)) (by omega));have a2:=qh (z9z (sg:=sg) wr (k5.kept (z0c d.out none)) (by omega));have G:=qh (show ¬ y0g (M.e q).nf (M.e q).f sg->¬ FitC M sg from fun h v=>h (v.2.2.2 q s).1);have E:=qh (show ¬ y0g (M.e q).nt (M.e q).t sg->¬ FitC M sg from fun h v=>h (v.2.2.2 q s).2);clear k4 k5;obtain⟨nf,J⟩:∃ nf,nf=(M.e q).nf:=⟨_,rfl⟩;obtain⟨nt,I⟩:∃ nt,nt=(M.e q).nt:=⟨_,rfl⟩;rw[<- J] at c0 Y G a6;rw[<- I] at c1 a2 E a4;have a7:=qh J;clear J;have a9:=qh I;clear I
  go_wp2_with fail
  refine Y.out.mono ?_;rintro rr w3 ⟨rfl,rfl⟩;cases u:z3m nf (M.e q).f sg
  ·have HN:=qh (G.out (z2i.1 u));clear u
   go_wp2_with fail
   go_ret;exact⟨d.out,.inr ⟨HN.out,rfl⟩⟩
  have a8:=qh (z1v.1 u);clear u
  go_wp2_with fail
  refine a2.out.mono ?_;rintro rr w4 ⟨rfl,rfl⟩;cases B:z3m nt (M.e q).t sg
  ·have HN:=qh (E.out (z2i.1 B));clear B
   go_wp2_with fail
   go_ret;exact⟨d.out,.inr ⟨HN.out,rfl⟩⟩
  have b2:=qh (z1v.1 B);clear B
  go_wp2_with fail
  go_roundw
  case rel=>exact⟨q+1,by omega,by go_num,fun l hl=>(by
   by_cases e:l=q
   ·subst e;exact⟨by rw[<- a7.out];exact a8.out,by rw[<- a9.out];exact b2.out⟩
   exact a1.out l (by omega)),d.out,g.out⟩
  simp[intOf];omega
 have a5:q=M.n:=by omega
 have b6:¬ ((q:Int)<(M.n:Int)):=by omega
 have HF:=qh (show FitC M sg from ⟨HV.out,Z.out.1,Z.out.2,fun i hi=>a1.out i (by omega)⟩);clear a5
 go_wp2_with fail
 go_ret;exact⟨d.out,.inl ⟨HF.out,rfl⟩⟩
theorem y7c (w:World):Calls prog 23 #[y9a,y9a] w (TrueB w):=by
 unfold y9a;obtain⟨j,c⟩:=exq (w.alloc (.cells #[.int .i64 0,.int .i64 0,.string ⟨#[]⟩,.slice none 0 0] 36));obtain⟨k,d⟩:=exq (j.alloc (.cells #[.int .i64 0,.int .i64 0,.string ⟨#[]⟩,.slice none 0 0] 36));obtain⟨o,h⟩:=exq (w.heap.size);obtain⟨s,g⟩:=exq (w.heap.size+1);have i:j.heap.size=w.heap.size+1:=by rw[c];simp
 have p:k.heap[o]?=some (.cells #[.int .i64 0,.int .i64 0,.string ⟨#[]⟩,.slice none 0 0] 36 (0,0)):=by
  have z:j.heap[o]?=some (.cells #[.int .i64 0,.int .i64 0,.string ⟨#[]⟩,.slice none 0 0] 36 (0,0)):=by rw[c,h];exact heap_alloc_new w _
  rw[d];exact((Fr.alloc (C:=fun _=>False) j _).block o (lt_of_block z) (fun e=>e)).trans z
 have l:k.heap[s]?=some (.cells #[.int .i64 0,.int .i64 0,.string ⟨#[]⟩,.slice none 0 0] 36 (0,0)):=by
  have:=heap_alloc_new j (.cells #[.int .i64 0,.int .i64 0,.string ⟨#[]⟩,.slice none 0 0] 36);rw[d,g,<- i];exact this
 have r:=qh (show Below w.heap.size w k by
  rw[d];refine Below.alloc ?_ (by rw[i];omega) _;rw[c];exact(Below.refl _ _).alloc (Nat.le_refl _) _)
 have G:=cell_of p 0 rfl;have J:=cell_of p 1 rfl;have x2:=cell_of p 2 rfl;have N:=cell_of p 3 rfl;have I:=cell_of l 0 rfl;have L:=cell_of l 1 rfl;have y2:=cell_of l 2 rfl;have K:=cell_of l 3 rfl;have X0:=G;have v:=J;have F:=x2;have D:=N;have B:=I;have u:=L;have A:=y2;have E:=K;rw[d,c,h] at X0 v F D;rw[d,c,g] at B u A E;clear i p l
 go_enter func23,ntmps23
 go_wp2_with fail
 rw[<- c,<- d,<- g,<- h];clear X0 v F D B u A E c d h g
 go_loopw [5] (fun H wr=>H=.int .i64 0/\wr=k) (fun _ _=>0)
 case atStart=>exact⟨rfl,rfl⟩
 obtain⟨rfl,rfl⟩:=hrel
 go_wp2_with fail
 go_ret;exact⟨rfl,r.out⟩
end
section
open Go.RowKit Go.Deep
def BndE (M:EM) (sg:Int) (w:World) (r:Ending) (w':World):Prop:=Below w.heap.size w w'/\∃ b:Bool,r=.returned (.bool b)/\(b=true->InSz M sg)
theorem v3t {M:EM} {v:Value} {sg:Int} (w:World) (hM:Em none w v M) (hV:VE M) (h0:0<=sg) (h5:sg<=500):Calls prog 24 #[v,.int .i64 sg] w (BndE M sg w):=by
 obtain⟨sv,rfl,G⟩:=hM;obtain⟨a,i,b,g,A,A',C,C',rfl,ha,hc,hm,hb,E⟩:=G.open;unfold maxLen at hm;clear G;have o:=BoxE.new w M (.slice a M.n i);have F:Below w.heap.size w (w.alloc (.cells #[.slice a M.n i,.int .i64 M.most] 24)):=(Below.refl _ _).alloc (Nat.le_refl _) _;have d2:=hV.n4;have Q:=qh hV;clear hV;have HA:=qh ha;clear ha;have HB:=qh hb;clear hb;have HR:=qh E;clear E;obtain⟨wm,z⟩:=exq (w.alloc (.cells #[.slice a M.n i,.int .i64 M.most] 24));obtain⟨D,I⟩:=exq (w.heap.size);have m0:=o.c0;have m1:=o.c1;have j:=qh o;clear o;have H:=qh F;clear F
 go_enter func24,ntmps24
 go_wp2_with fail
 rw[<- z] at H;rw[<- z,<- I] at j;rw[<- z,<- I];clear z I m0 m1
 go_loopw [5,6] (fun v5 v6 wr=>∃ q:Nat,q<=M.n/\v6=.int .i64 (q:Int)/\v5=.int .i64 (szC M q:Int)/\Below w.heap.size w wr/\BoxE wr D M (.slice a M.n i)) (fun _ v6 _=>M.n-(intOf v6).toNat)
 case atStart=>exact⟨0,Nat.zero_le _,rfl,rfl,H.out,j.out⟩
 obtain⟨q,hq,rfl,rfl,U,Y⟩:=hrel;clear H j;have l:=qh U;clear U;have j:=qh Y;clear Y;have m0:=j.out.c0;have m1:=j.out.c1;have a2:=(y6h Q.out q hq).2;by_cases J:q<M.n
 ·have b7:(q:Int)<(M.n:Int):=by omega
  have b5:(0:Int)<=(q:Int):=by omega
  obtain rfl:=HA.out (by omega);have T:=(HB.out (by omega)).1;obtain⟨k1,k2,k3,k4,k5⟩:=HR.out q J;have c0:=(l.out.cell (p:=⟨b,g+q*3,none⟩) T).trans k1;have c1:=(l.out.cell (p:=⟨b,g+q*3+1,none⟩) T).trans k2;clear k1 k2 k3 k4 k5;have s:szC M (q+1)=szC M q+max (M.e q).nf (M.e q).nt:=rfl;have b1:=(Q.out.ok q J).f6;have a6:=(Q.out.ok q J).t6;obtain⟨nf,Z⟩:∃ nf,nf=(M.e q).nf:=⟨_,rfl⟩;obtain⟨nt,a3⟩:∃ nt,nt=(M.e q).nt:=⟨_,rfl⟩;obtain⟨sq,W⟩:=exq (szC M q);rw[<- Z] at c0 s b1;rw[<- a3] at c1 s a6;rw[<- W] at s a2 ⊢;have b3:=qh s;clear s;clear Z a3 W;have a7:(fun d:World=>d.cell? ⟨D,0,none⟩=some (.slice (some ⟨b,g,none⟩) M.n i)/\d.cell? ⟨b,g+q*3,none⟩=some (.slice (A q) nf (C q))/\d.cell? ⟨b,g+q*3+1,none⟩=some (.slice (A' q) nt (C' q))) wr:=⟨m0,c0,c1⟩;obtain⟨R,P⟩:=exq (wr.drew);have r:Fr (fun _=>False) wr R:=by rw[P];exact Fr.of_below ((Below.refl wr.heap.size wr).drew)
  have a1:=qh (l.out.trans (r.below l.out.size (fun _ e=>e.elim)));have X:=qh (show BoxE R D M (.slice (some ⟨b,g,none⟩) M.n i) from (r.block D j.out.lt (fun e=>e)).trans j.out);have c:(fun d:World=>d.cell? ⟨D,0,none⟩=some (.slice (some ⟨b,g,none⟩) M.n i)/\d.cell? ⟨b,g+q*3,none⟩=some (.slice (A q) nf (C q))/\d.cell? ⟨b,g+q*3+1,none⟩=some (.slice (A' q) nt (C' q))) R:=⟨r.cell m0 (fun e=>e),r.cell c0 (fun e=>e),r.cell c1 (fun e=>e)⟩;clear r a7
  go_wp2_with fail
  refine z0g (fun d:World=>d.cell? ⟨D,0,none⟩=some (.slice (some ⟨b,g,none⟩) M.n i)/\d.cell? ⟨b,g+q*3,none⟩=some (.slice (A q) nf (C q))/\d.cell? ⟨b,g+q*3+1,none⟩=some (.slice (A' q) nt (C' q))) 17 (by kernel_rfl) ?_;rw[<- P];clear P;refine z0b.tl 0 c (v:=?yy) ?xq ?yk
  case xq=>rintro d ⟨s1,s2,k⟩;go_simp;try with_reducible rfl
  refine z0b.tl 1 c (v:=?yz) ?xi ?yc
  case xi=>rintro d ⟨s1,s2,k⟩;go_simp;try with_reducible rfl
  refine z0b.tl 2 c (v:=?yv) ?xm ?yd
  case xm=>rintro d ⟨s1,s2,k⟩;go_simp;try with_reducible rfl
  refine z0b.tl 3 c (v:=?yx) ?xt ?yh
  case xt=>rintro d ⟨s1,s2,k⟩;go_simp;try with_reducible rfl
  refine z0b.tl 4 c (v:=?yt) ?xn ?yj
  case xn=>rintro d ⟨s1,s2,k⟩;go_simp;try with_reducible rfl
  refine z0b.tl 5 c (v:=?ys) ?xs ?yg
  case xs=>rintro d ⟨s1,s2,k⟩;go_simp;try with_reducible rfl
  refine z0b.tl 6 c (v:=?yw) ?xo ?yf
  case xo=>rintro d ⟨s1,s2,k⟩;go_simp;try with_reducible rfl
  refine z0b.tl 7 c (v:=?zb) ?xr ?ya
  case xr=>rintro d ⟨s1,s2,k⟩;go_simp;try with_reducible rfl
  refine z0b.tl 8 c (v:=?za) ?xz ?yi
  case xz=>rintro d ⟨s1,s2,k⟩;go_simp;try with_reducible rfl
  refine z0b.tl 9 c (v:=?yu) ?xp ?yb
  case xp=>rintro d ⟨s1,s2,k⟩;go_simp;try with_reducible rfl
  refine z0b.tl 10 c (v:=?yq) ?xd ?xj
  case xd=>rintro d ⟨s1,s2,k⟩;go_simp;try with_reducible rfl
  refine z0b.tl 11 c (v:=?yp) ?xg ?xu
  case xg=>rintro d ⟨s1,s2,k⟩;go_simp;try with_reducible rfl
  refine z0b.tl 12 c (v:=?yo) ?xa ?xl
  case xa=>rintro d ⟨s1,s2,k⟩;go_simp;try with_reducible rfl
  refine z0b.tl 13 c (v:=?yr) ?xh ?xk
  case xh=>rintro d ⟨s1,s2,k⟩;go_simp;try with_reducible rfl
  refine z0b.tl 14 c (v:=?yl) ?xb ?xw
  case xb=>rintro d ⟨s1,s2,k⟩;go_simp;try with_reducible rfl
  refine z0b.tl 15 c (v:=?yn) ?xc ?xv
  case xc=>rintro d ⟨s1,s2,k⟩;go_simp;try with_reducible rfl
  refine z0b.tl 16 c (v:=?ym) ?xf ?xx
  case xf=>rintro d ⟨s1,s2,k⟩;go_simp;try with_reducible rfl
  try simp only[Act.put,tryL]
  refine z0b.on 17 fun K hK=>?_;go_simp;refine hK.out _ _ (.inl rfl) (z0b.done (by kernel_rfl) ?_ _);clear hK K c m0 m1 c0 c1
  go_wp2_with fail
  go_roundw
  case rel=>exact⟨q+1,by omega,by go_num,by rw[b3.out,IntKind.wrap_i64];congr 1;omega,a1.out,X.out⟩
  simp[intOf];omega
 have b0:q=M.n:=by omega
 subst b0;have b9:¬ ((M.n:Int)<(M.n:Int)):=by omega
 have a4:=Q.out.m0;have a5:=Q.out.m6;obtain⟨S,G⟩:∃ S:Int,S=(szC M M.n:Int):=⟨_,rfl⟩;have a9:=(y6h Q.out M.n (Nat.le_refl _)).1;have c:0<=S:=by omega
 have d1:S<=2400:=by omega
 have c8:(M.n:Int)<=S:=by omega
 obtain⟨p1,u⟩:∃ p1:Int,p1=M.most*S:=⟨_,rfl⟩;obtain⟨q1,B⟩:∃ q1:Int,q1=(M.most+1)*sg:=⟨_,rfl⟩;have O:M.most+1+p1<=3000->q1+p1<=30000->InSz M sg:=fun h1 h2=>by
  have h3:M.most*(S-(M.n:Int))<=M.most*S:=Int.mul_le_mul_of_nonneg_left (by omega) a4;exact⟨by rw[<- G];omega,by rw[<- G];omega⟩
 have c6:0<=p1:=by rw[u];exact Int.mul_nonneg a4 c
 have d5:p1<=14400:=by rw[u];exact Int.le_trans (Int.mul_le_mul_of_nonneg_right a5 c) (by omega)
 have b8:0<=q1:=by rw[B];exact Int.mul_nonneg (by omega) h0
 have d0:q1<=3500:=by rw[B];exact Int.le_trans (Int.mul_le_mul_of_nonneg_right (show M.most+1<=7 by omega) h0) (by omega)
 have b6:IntKind.i64.wrap (M.most+1)=M.most+1:=by rw[IntKind.wrap_i64];omega
 have c7:IntKind.i64.wrap (M.most*S)=p1:=by rw[<- u,IntKind.wrap_i64];omega
 obtain⟨s1,L⟩:∃ s1:Int,s1=M.most+1+p1:=⟨_,rfl⟩;obtain⟨s2,N⟩:∃ s2:Int,s2=q1+p1:=⟨_,rfl⟩;have d3:IntKind.i64.wrap (M.most+1+p1)=s1:=by rw[<- L,IntKind.wrap_i64];omega
 have c9:IntKind.i64.wrap ((M.most+1)*sg)=q1:=by rw[<- B,IntKind.wrap_i64];omega
 have d4:IntKind.i64.wrap (q1+p1)=s2:=by rw[<- N,IntKind.wrap_i64];omega
 rw[<- G];rw[<- L,<- N] at O;have b2:=qh O;clear O;clear u B G a2 a9 L N;by_cases h1:s1<=3000
 ·have a8:decide (s1<=3000)=true:=by simp;omega
  by_cases h2:s2<=30000
  ·have b4:decide (s2<=30000)=true:=by simp;omega
   have HI:=qh (b2.out h1 h2)
   go_wp2_with fail
   go_ret;exact⟨l.out,true,rfl,fun _=>HI.out⟩
  have b4:decide (s2<=30000)=false:=by simp;omega
  have HQ:=qh h2
  go_wp2_with fail
  go_ret;exact⟨l.out,false,rfl,fun h=>by cases h⟩
 have a8:decide (s1<=3000)=false:=by simp;omega
 have HQ:=qh h1
 go_wp2_with fail
 go_ret;exact⟨l.out,false,rfl,fun h=>by cases h⟩
end
section
open Go.RowKit Go.Deep
def addR (k:Int) (l:Nat->ByteArray) (t:Nat) (a b:ByteArray):WS :=
 if (z0y k a b).2≠0 then (l,(z0y k a b).2) else if (z1r k (l t) (z0y k a b).1).2=0 then (updS l t (z1r k (l t) (z0y k a b).1).1,0) else (l,(z1r k (l t) (z0y k a b).1).2)
def arcR (D:MD) (i o:Int) (v:Nat->ByteArray) (q k:Nat) (s:WS):WS:=if s.2≠0 then s else if D.ain q k=i/\D.aout q k=o then addR D.kind s.1 (D.ato q k).toNat (v q) (D.aw q k) else s
def z6n (D:MD) (i o:Int) (v:Nat->ByteArray) (q:Nat):Nat->WS->WS
 | 0,s=>s
 | k+1,s=>arcR D i o v q k (z6n D i o v q k s)
def rowR (D:MD) (i o:Int) (v:Nat->ByteArray) (q:Nat) (s:WS):WS:=if v q=z2b D.kind then s else z6n D i o v q (D.na q) s
def z2c (D:MD) (i o:Int) (v:Nat->ByteArray):Nat->WS->WS
 | 0,s=>s
 | q+1,s=>rowR D i o v q (z2c D i o v q s)
def zerR (k:Int):Nat->ByteArray:=fun _=>z2b k
def sumR (k:Int) (a b:Nat->ByteArray):Nat->WS
 | 0=>(fun _=>⟨#[]⟩,0)
 | i+1=>if (sumR k a b i).2≠0 then sumR k a b i else if (z1r k (a i) (b i)).2≠0 then ((sumR k a b i).1,(z1r k (a i) (b i)).2) else (updS (sumR k a b i).1 i (z1r k (a i) (b i)).1,0)
def finR (D:MD) (v:Nat->ByteArray):Nat->WS
 | 0=>(zerR D.kind,0)
 | q+1=>if (finR D v q).2≠0 then finR D v q else if D.fin q=⟨#[]⟩ then finR D v q else addR D.kind (finR D v q).1 0 (v q) (D.fin q)
theorem y1y (k:Int):smS (z2b k):=by have:=y3b k;unfold smS;omega
theorem x3d {l:Nat->ByteArray} (h:∀ j,smS (l j)) {t:Nat} {s:ByteArray} (c:smS s) (j:Nat):smS (updS l t s j):=by unfold updS;split;exact c;exact h j
theorem v4j {k:Int} {l:Nat->ByteArray} (h:∀ j,smS (l j)) {t:Nat} {a b:ByteArray} (j:Nat):smS ((addR k l t a b).1 j):=by
 unfold addR
 split
 ·exact h j
 split
 ·exact x3d h (x0c k _ _) j
 exact h j
theorem y9t {D:MD} {i o:Int} {v:Nat->ByteArray} {q:Nat}:∀ (k:Nat) {s:WS},(∀ j,smS (s.1 j))->∀ j,smS ((z6n D i o v q k s).1 j)
 | 0,_,h=>h
 | k+1,s,h=>by
  have ih:=y9t (D:=D) (i:=i) (o:=o) (v:=v) (q:=q) k h;intro j;unfold z6n arcR
  split
  ·exact ih j
  split
  ·exact v4j ih j
  exact ih j
theorem y8y {D:MD} {i o:Int} {v:Nat->ByteArray}:∀ (q:Nat) {s:WS},(∀ j,smS (s.1 j))->∀ j,smS ((z2c D i o v q s).1 j)
 | 0,_,h=>h
 | q+1,s,h=>by
  have ih:=y8y (D:=D) (i:=i) (o:=o) (v:=v) q h;intro j;unfold z2c rowR
  split
  ·exact ih j
  exact y9t _ ih j
theorem v2p {k:Int} {a b:Nat->ByteArray}:∀ (n:Nat) (j:Nat),smS ((sumR k a b n).1 j)
 | 0,j=>by show smS ⟨#[]⟩;unfold smS;decide
 | n+1,j=>by
  have ih:=v2p (k:=k) (a:=a) (b:=b) n;unfold sumR
  split
  ·exact ih j
  split
  ·exact ih j
  exact x3d ih (x0c k _ _) j
theorem v2h {D:MD} {v:Nat->ByteArray}:∀ (n:Nat) (j:Nat),smS ((finR D v n).1 j)
 | 0,j=>y1y _
 | n+1,j=>by
  have ih:=v2h (D:=D) (v:=v) n;unfold finR
  split
  ·exact ih j
  split
  ·exact ih j
  exact v4j ih j
theorem x1n {D:MD} {i o:Int} {v:Nat->ByteArray} {q:Nat} {s:WS} (h:s.2≠0):∀ k,z6n D i o v q k s=s
 | 0=>rfl
 | k+1=>by unfold z6n arcR;rw[x1n h k,if_pos h]
theorem v7u {D:MD} {i o:Int} {v:Nat->ByteArray} {q:Nat} {s:WS} (h:s.2≠0):rowR D i o v q s=s:=by unfold rowR;split;rfl;exact x1n h _
theorem y6i {D:MD} {i o:Int} {v:Nat->ByteArray} {s:WS} {m:Nat} (h:(z2c D i o v m s).2≠0):∀ d,z2c D i o v (m+d) s=z2c D i o v m s
 | 0=>rfl
 | d+1=>by show rowR D i o v (m+d) (z2c D i o v (m+d) s)=_;rw[y6i h d,v7u h]
theorem y7z {D:MD} {i o:Int} {v:Nat->ByteArray} {q:Nat} {s:WS} {m:Nat} (h:(z6n D i o v q m s).2≠0):∀ d,z6n D i o v q (m+d) s=z6n D i o v q m s
 | 0=>rfl
 | d+1=>by show arcR D i o v q (m+d) (z6n D i o v q (m+d) s)=_;unfold arcR;rw[y7z h d,if_pos h]
theorem y4y {k:Int} {a b:Nat->ByteArray} {m:Nat} (h:(sumR k a b m).2≠0):∀ d,sumR k a b (m+d)=sumR k a b m
 | 0=>rfl
 | d+1=>by show (if (sumR k a b (m+d)).2≠0 then sumR k a b (m+d) else _)=_;rw[y4y h d,if_pos h]
theorem y6m {D:MD} {v:Nat->ByteArray} {m:Nat} (h:(finR D v m).2≠0):∀ d,finR D v (m+d)=finR D v m
 | 0=>rfl
 | d+1=>by show (if (finR D v (m+d)).2≠0 then finR D v (m+d) else _)=_;rw[y6m h d,if_pos h]
def BxM (w:World) (b:Nat) (D:MD) (sv:Value):Prop:=w.heap[b]?=some (.cells #[.int .i64 D.kind,.int .i64 D.start,.string D.lead,sv] 36 (0,0))
theorem BxM.new (w:World) (D:MD) (sv:Value):BxM (w.alloc (.cells #[.int .i64 D.kind,.int .i64 D.start,.string D.lead,sv] 36)) w.heap.size D sv:=heap_alloc_new w _
theorem BxM.kept {w c:World} {b:Nat} {D:MD} {sv:Value} {C:Nat->Prop} (h:BxM w b D sv) (g:Fr C w c) (d:¬ C b):BxM c b D sv:=(g.block b (lt_of_block h) d).trans h
theorem v9s {w:World} {b:Nat} {D:MD} {sv:Value} {g n:Nat} {F:Nat->Value} (h:BxM w b D sv) (i:w.rowIs g 9 n F):b≠g:=fun e=>by
 obtain⟨c,d,_⟩:=i;unfold BxM at h;rw[e,d] at h;simp at h
def VecE (n:Nat) (l:Nat->ByteArray) (w:World) (r:Ending) (w':World):Prop:=Below w.heap.size w w'/\∃ g,r=.returned (.slice (some ⟨g,0,none⟩) n n)/\w.heap.size<=g/\w'.rowIs g 9 n (fun j=>.string (l j))
theorem y2j {D:MD} {a:Option Addr} {cap:Nat} (w:World) (hn:D.n<=3000) :
  Calls prog 56 #[.agg #[.int .i64 D.kind,.int .i64 D.start,.string D.lead,.slice a D.n cap]] w (VecE D.n (zerR D.kind) w):=by
 obtain⟨u,d⟩:=exq (w.alloc (.cells #[.int .i64 D.kind,.int .i64 D.start,.string D.lead,.slice a D.n cap] 36));obtain⟨J,r⟩:=exq (w.heap.size);have h:BxM u J D (.slice a D.n cap):=by rw[d,r];exact BxM.new w D _
 obtain⟨I,l⟩:=exq (u.alloc (.cells (madeCells #[.string ⟨#[]⟩] D.n) 9));have F:u.heap.size=w.heap.size+1:=by rw[d];simp
 obtain⟨g,Q⟩:=exq (w.heap.size+1);have E:Fr (fun _=>False) w u:=by rw[d];exact Fr.alloc _ _
 have z:Fr (fun _=>False) u I:=by rw[l];exact Fr.alloc _ _
 have c:I.rowIs g 9 D.n (fun _=>.string ⟨#[]⟩):=by rw[l,Q,<- F];exact World.rowIs_made u _ _ _
 have C:=qh (show w.heap.size<=g by omega);have H:=qh (show Below w.heap.size w I from (E.trans z).below (Nat.le_refl _) (fun _ e=>e.elim));have k:=qh (h.kept z (fun e=>e));have i:=qh (c.congr (g:=fun j=>.string (if j<0 then z2b D.kind else ⟨#[]⟩)) (fun j _=>by rw[if_neg (Nat.not_lt_zero j)]))
 have O:=cell_of h 3 rfl;obtain⟨n,v⟩:=exq (D.n);have S:=run_make_row' (P:=prog) 67 9 (.string ⟨#[]⟩) 16 underlying67 y4g rfl .i64 .i64 n (by omega) (by omega);rw[<- v] at hn k i O l d ⊢;have Z:=qh v;clear c E z h v F;have l3:=O;rw[d,r] at l3
 go_enter func56,ntmps56
 go_wp2_with fail
 rw[<- d,<- l,<- Q,<- r];clear d l r Q O l3 S
 go_loopw [4] (fun R wr=>∃ q:Nat,q<=n/\R=.int .i64 (q:Int)/\wr.rowIs g 9 n (fun j=>.string (if j<q then z2b D.kind else ⟨#[]⟩))/\Below w.heap.size w wr/\BxM wr J D (.slice a n cap)) (fun R _=>n-(intOf R).toNat)
 case atStart=>exact⟨0,Nat.zero_le _,rfl,i.out,H.out,k.out⟩
 obtain⟨q,hq,rfl,c,hb,h⟩:=hrel;clear i H k;have i:=qh c;clear c;have T:=qh hb;clear hb;have k:=qh h;clear h;by_cases K:q<n
 ·have Y:(q:Int)<(n:Int):=by omega
  have U:(0:Int)<=(q:Int):=by omega
  have m0:=cell_of k.out 0 rfl
  go_wp2_with fail
  refine(z5e D.kind _).mono ?_;rintro rr X ⟨rfl,B⟩;have A:Fr (fun _=>False) wr X:=Fr.of_below B;have o:=A.row i.out (fun e=>e);have c0:=o.cell K;have f0:=o.frozen q;have G:=qh o;clear o;have L:=qh (T.out.trans (B.mono T.out.size));have s:=qh (k.out.kept A (fun e=>e));clear B A m0
  go_wp2_with fail
  go_roundw
  case rel =>
   refine⟨q+1,by omega,by go_num,(G.out.set q _).congr (fun j _=>?_),L.out.setCell (p:=⟨g,q,none⟩) C.out _,(blk_setCell_other _ _ _ _ (v9s s.out G.out)).trans s.out⟩;by_cases e:j=q
   ·rw[if_pos e,if_pos (show j<q+1 by omega)]
   rw[if_neg e];by_cases e2:j<q
   ·rw[if_pos e2,if_pos (show j<q+1 by omega)]
   rw[if_neg e2,if_neg (show ¬ j<q+1 by omega)]
  simp[intOf];omega
 have a1:q=n:=by omega
 have W:¬ ((q:Int)<(n:Int)):=by omega
 have N:=qh (i.out.congr (g:=fun j=>.string (zerR D.kind j)) (fun j hj=>by rw[if_pos (show j<q by omega)];rfl))
 go_wp2_with fail
 go_ret;exact⟨T.out,g,rfl,C.out,N.out⟩
def AddE (n lb:Nat) (z:WS) (w:World) (r:Ending) (w':World):Prop:=r=.returned (.int .i64 (z.2:Int))/\w'.rowIs lb 9 n (fun j=>.string (z.1 j))/\Fr (fun q=>q=lb) w w'
theorem x6a {k:Int} {lb n t:Nat} {l:Nat->ByteArray} {a b:ByteArray} (w:World) (Z:w.rowIs lb 9 n (fun j=>.string (l j))) (U:t<n) (hn:n<=3000) (X:smS (l t)) (T:smS a) (hb:smS b) :
  Calls prog 108 #[.int .i64 k,.slice (some ⟨lb,0,none⟩) n n,.int .i64 (t:Int),.string a,.string b] w (AddE n lb (addR k l t a b) w):=by
 have Q:=x2t k a b w T hb;obtain⟨p,H⟩:=exq (z0y k a b);have A:smS p.1:=by rw[H];exact x0q k a b
 have O:=fun W=>y7k k (l t) p.1 W X A;obtain⟨s,L⟩:=exq (z1r k (l t) p.1);have K:addR k l t a b=if p.2≠0 then (l,p.2) else if s.2=0 then (updS l t s.1,0) else (l,s.2):=by unfold addR;rw[L,H]
 obtain⟨z,v⟩:=exq (addR k l t a b);rw[<- v] at K ⊢;rw[<- H] at Q;rw[<- L] at O;have HT:=qh Q;clear Q;have HP:=qh O;clear O;have S:=qh K;clear K;have HR:=qh Z;clear Z;clear v H L A X T hb;have a2:(t:Int)<(n:Int):=by omega
 have R:(0:Int)<=(t:Int):=by omega
 go_enter func108,ntmps108
 go_wp2_with fail
 refine HT.out.mono ?_;rintro rr Y ⟨rfl,o⟩;have G:Fr (fun q=>q=lb) w Y:=Fr.of_below o;have i:=(Fr.of_below (C:=fun _=>False) o).row HR.out (fun e=>e);have c0:=i.cell U;have F:=qh i;clear i;have E:=qh G;clear G o;by_cases N:p.2=0
 ·have J:(p.2:Int)=0:=by omega
  have D:=S.out.trans (if_neg (by omega));have d:=qh D;clear D;clear N
  go_wp2_with fail
  refine(HP.out Y).mono ?_;rintro rr w2 ⟨rfl,h⟩;have B:Fr (fun q=>q=lb) w w2:=E.out.trans (Fr.of_below h);have g:=(Fr.of_below (C:=fun _=>False) h).row F.out (fun e=>e);have c1:=g.cell U;have f1:=g.frozen t;have u:=qh g;clear g;have r:=qh B;clear B h c0;by_cases I:s.2=0
  ·have P:(s.2:Int)=0:=by omega
   have c:=qh (d.out.trans (if_pos I));clear I
   go_wp2_with fail
   go_ret;refine⟨by rw[c.out];rfl,?_,r.out.set (.inl rfl) _⟩;rw[c.out];refine(u.out.set t _).congr (fun j _=>?_);show _=Value.string (updS l t s.1 j);unfold updS;by_cases e:j=t
   ·rw[if_pos e,if_pos e]
   rw[if_neg e,if_neg e]
  have P:¬ ((s.2:Int)=0):=by omega
  have a1:((s.2:Int)==0)=false:=by simp;omega
  have a4:decide ((s.2:Int)=0)=false:=by simp;omega
  have c:=qh (d.out.trans (if_neg I));clear I
  go_wp2_with fail
  go_ret;exact⟨by rw[c.out];rfl,by rw[c.out];exact u.out,r.out⟩
 have J:¬ ((p.2:Int)=0):=by omega
 have a5:((p.2:Int)==0)=false:=by simp;omega
 have a3:decide ((p.2:Int)=0)=false:=by simp;omega
 have d:=qh (S.out.trans (if_pos N));clear N c0
 go_wp2_with fail
 go_ret;exact⟨by rw[d.out];rfl,by rw[d.out];exact F.out,E.out⟩
end
section
open Go.RowKit Go.Deep
structure StI (w0 w:World) (mb vb lb:Nat) (D:MD) (sv:Value) (v l:Nat->ByteArray):Prop where
 bx:BxM w mb D sv
 rv:w.rowIs vb 9 D.n (fun j=>.string (v j))
 rl:w.rowIs lb 9 D.n (fun j=>.string (l j))
 be:Below w0.heap.size w0 w
 ll:w0.heap.size<=lb
 ml:mb≠lb
 vl:vb≠lb
theorem StI.new {g w d:World} {i vb lb:Nat} {D:MD} {sv:Value} {v l:Nat->ByteArray} (h:StI g w i vb lb D sv v l) (c:Fr (fun _=>False) w d):StI g d i vb lb D sv v l :=
 ⟨h.bx.kept c (fun e=>e),c.row h.rv (fun e=>e),c.row h.rl (fun e=>e),h.be.trans (c.below h.be.size (fun _ e=>e.elim)),h.ll,h.ml,h.vl⟩
theorem StI.upd {i w d:World} {k vb lb:Nat} {D:MD} {sv:Value} {v l l':Nat->ByteArray} (h:StI i w k vb lb D sv v l) (g:Fr (fun q=>q=lb) w d) (o:d.rowIs lb 9 D.n (fun j=>.string (l' j))):StI i d k vb lb D sv v l' :=
 ⟨h.bx.kept g h.ml,g.row h.rv h.vl,o,h.be.trans (g.below h.be.size (fun c e=>by rw[e];exact h.ll)),h.ll,h.ml,h.vl⟩
def VerE (n:Nat) (z:WS) (w:World) (r:Ending) (w':World):Prop:=Below w.heap.size w w'/\((z.2=0/\∃ g,r=.returned (.tuple #[.slice (some ⟨g,0,none⟩) n n,.int .i64 0])/\w.heap.size<=g/\w'.rowIs g 9 n (fun j=>.string (z.1 j)))\/(z.2≠0/\r=.returned (.tuple #[.slice none 0 0,.int .i64 (z.2:Int)])))
theorem v3e {D:MD} {sv:Value} {v:Nat->ByteArray} {vb:Nat} {i o:Int} (w:World) (hV:VM D) (hD:StS none w sv D) (f0:w.rowIs vb 9 D.n (fun j=>.string (v j))) (i3:∀ j,smS (v j)) (R:∀ i k,smS (D.aw i k)) :
  Calls prog 58 #[.agg #[.int .i64 D.kind,.int .i64 D.start,.string D.lead,sv],.slice (some ⟨vb,0,none⟩) D.n D.n,.int .i64 i,.int .i64 o,.bool false] w (VerE D.n (z2c D i o v D.n (zerR D.kind,0)) w):=by
 obtain⟨a,cp,b,d8,A,C,BB,O,rfl,ha,hc,hm,hb,d0⟩:=hD.open;unfold maxLen at hm;obtain⟨w1,P⟩:=exq (w.alloc (.cells #[.int .i64 D.kind,.int .i64 D.start,.string D.lead,.slice a D.n cp] 36));obtain⟨Q,b4⟩:=exq (w.heap.size);have k0:w1.heap.size=w.heap.size+1:=by rw[P];simp
 have f2:Fr (fun _=>False) w w1:=by rw[P];exact Fr.alloc _ _
 have T:BxM w1 Q D (.slice a D.n cp):=by rw[P,b4];exact BxM.new w D _
 have hz:=y2j (D:=D) (a:=a) (cap:=cp) w1 hV.n2;have HZ:=qh hz;clear hz;have d6:=qh (show Below w.heap.size w w1 from f2.below (Nat.le_refl _) (fun _ e=>e.elim));have j0:=qh (f2.row f0 (fun e=>e));have m7:=qh f0.lt;have j7:=qh T;obtain⟨kz,g2⟩:=exq (z2b D.kind);have e3:=qh g2;clear g2;have HV:=qh hV;clear hV;have HA:=qh ha;clear ha;have HB:=qh hb;clear hb;have HR:=qh d0;clear d0 hD;have l5:=qh i3;clear i3;have n3:=qh R;clear R;have m9:=qh (show Q<w1.heap.size by omega);have g3:=qh (show w.heap.size<=w1.heap.size by omega);have m0:=cell_of T 0 rfl;have m1:=cell_of T 1 rfl;have m2:=cell_of T 2 rfl;have m3:=cell_of T 3 rfl;have m4:D.n<=3000:=HV.out.n2;clear f0 f2 T hc k0;have l0:=m0;have l1:=m1;have l2:=m2;have l3:=m3;rw[P,b4] at l0 l1 l2 l3
 go_enter func58,ntmps58
 go_wp2_with fail
 rw[<- P,<- b4];clear P b4 l0 l1 l2 l3 m0 m1 m2 m3;refine HZ.out.mono ?_;rintro rr w2 ⟨f8,lb,rfl,j3,h7⟩;have e8:Fr (fun _=>False) w1 w2:=Fr.of_below f8;have B:=qh (show StI w w2 Q vb lb D (.slice a D.n cp) v (z2c D i o v 0 (zerR D.kind,0)).1 from
  ⟨j7.out.kept e8 (fun e=>e),e8.row j0.out (fun e=>e),h7,d6.out.trans (f8.mono d6.out.size),Nat.le_trans g3.out j3,by have:=m9.out;omega,by have:=m7.out;have:=g3.out;omega⟩)
 clear f8 e8 j3 h7 HZ d6 j7 j0
 go_wp2_with fail
 go_loopw [13] (fun d5 wr=>∃ q:Nat,q<=D.n/\d5=.int .i64 (q:Int)/\(z2c D i o v q (zerR D.kind,0)).2=0/\StI w wr Q vb lb D (.slice a D.n cp) v (z2c D i o v q (zerR D.kind,0)).1) (fun d5 _=>D.n-(intOf d5).toNat)
 case atStart=>exact⟨0,Nat.zero_le _,rfl,rfl,B.out⟩
 obtain⟨q,hq,rfl,j1,hi⟩:=hrel;clear B;have B:=qh hi;clear hi;have b9:=qh j1;clear j1;have m0:=cell_of B.out.bx 0 rfl;have m3:=cell_of B.out.bx 3 rfl;by_cases b8:q<D.n
 ·have n9:(q:Int)<(D.n:Int):=by omega
  have n5:(0:Int)<=(q:Int):=by omega
  obtain rfl:=HA.out (by omega);have cv:=B.out.rv.cell b8;have l6:=(HB.out (by omega)).1;obtain⟨k1,k2,k3,k4,k5,k6,k7⟩:=HR.out q b8;unfold maxLen at k4;have n7:D.na q<=30000:=by have Y:=Nat.le_trans (z5a D (show q+1<=D.n by omega)) HV.out.arcs;have h2:z1k D (q+1)=z1k D q+D.na q:=rfl;omega
  obtain⟨aq,g7⟩:=exq (A q);rw[<- g7] at k2 k5;have m8:=qh k2;clear k2;have m5:=qh k5;clear k5;have j9:=qh k6;clear k6;have l4:=qh k7;clear k7;clear g7 k1;obtain⟨X,g1⟩:=exq (v q);rw[<- g1] at cv;have b1:=qh g1;clear g1;obtain⟨s0,b5⟩:=exq (z2c D i o v q (zerR D.kind,0));have d3:∀ j,smS (s0.1 j):=by rw[b5];exact y8y q (fun j=>y1y D.kind)
  have a8:z2c D i o v (q+1) (zerR D.kind,0)=rowR D i o v q s0:=by rw[b5];rfl
  rw[<- b5] at B b9;have h6:=qh a8;clear a8 b5;have l7:=qh d3;clear d3;have b0:∀ W,Fr (fun _=>False) wr W->(fun g:World=>g.cell? ⟨vb,q,none⟩=some (.string X)/\g.cell? ⟨Q,0,none⟩=some (.int .i64 D.kind)) W:=fun W hf=>⟨hf.cell cv (fun e=>e),hf.cell m0 (fun e=>e)⟩;have L:=qh b0;clear b0;obtain⟨wd,f9⟩:=exq (wr.drew);have g8:Fr (fun _=>False) wr wd:=by rw[f9];exact Fr.of_below ((Below.refl wr.heap.size wr).drew)
  have f7:=qh g8;clear g8;have e6:=z5e D.kind wd;rw[<- e3.out] at e6;have i4:=qh e6;clear e6
  go_wp2_with fail
  have c:=L.out wd f7.out;refine z0g (fun g:World=>g.cell? ⟨vb,q,none⟩=some (.string X)/\g.cell? ⟨Q,0,none⟩=some (.int .i64 D.kind)) 7 (by kernel_rfl) ?_;rw[<- f9];clear f9 cv m0 m3;refine z0b.tl 0 c (v:=?yv) ?xk ?ya
  case xk=>rintro g ⟨s1,s2⟩;go_simp;try with_reducible rfl
  refine z0b.tl 1 c (v:=?yx) ?xo ?yb
  case xo=>rintro g ⟨s1,s2⟩;go_simp;try with_reducible rfl
  refine z0b.tl 2 c (v:=?yp) ?xg ?yl
  case xg=>rintro g ⟨s1,s2⟩;go_simp;try with_reducible rfl
  refine z0b.tl 3 c (v:=?yw) ?xn ?yj
  case xn=>rintro g ⟨s1,s2⟩;go_simp;try with_reducible rfl
  refine z0b.tl 4 c (v:=?yq) ?xc ?yk
  case xc=>rintro g ⟨s1,s2⟩;go_simp;try with_reducible rfl
  refine z0b.tl 5 c (v:=?yo) ?xq ?xx
  case xq=>rintro g ⟨s1,s2⟩;go_simp;try with_reducible rfl
  try simp only[Act.put,tryL]
  refine z0b.on 6 fun K hK=>?_;go_simp;refine i4.out.mono ?_;rintro rr w3 ⟨rfl,i9⟩;have e7:=qh (f7.out.trans (Fr.of_below i9));have h4:=L.out w3 e7.out;clear i9 c i4;refine hK.out _ _ (.inr h4) ?_;clear hK K
  try simp only[Act.put,tryL]
  refine z0b.on 7 fun K hK=>?_;go_simp;refine hK.out _ _ (.inl rfl) (z0b.done (by kernel_rfl) ?_ _);clear hK K h4;have e9:=qh (B.out.new e7.out);clear B f7 L e7;cases hO:(X.toList==kz.toList)
  ·have a5:v q≠z2b D.kind:=fun e=>by rw[<- b1.out,<- e3.out] at e;rw[e] at hO;simp at hO
   have a7:=qh (h6.out.trans (if_neg a5));clear a5
   go_wp2_with fail
   go_loopw [14] (fun f1 wr=>∃ d:Nat,d<=D.na q/\f1=.int .i64 (d:Int)/\(z6n D i o v q d s0).2=0/\StI w wr Q vb lb D (.slice (some ⟨b,d8,none⟩) D.n cp) v (z6n D i o v q d s0).1) (fun f1 _=>D.na q-(intOf f1).toNat)
   case atStart=>exact⟨0,Nat.zero_le _,rfl,b9.out,e9.out⟩
   obtain⟨d,hd,rfl,i8,hi⟩:=hrel;clear e9;have B:=qh hi;clear hi;have b2:=qh i8;clear i8;have m0:=cell_of B.out.bx 0 rfl;have m3:=cell_of B.out.bx 3 rfl;have c1:=(B.out.be.cell (p:=⟨b,d8+q*2+1,none⟩) l6).trans m8.out;by_cases h0:d<D.na q
   ·have o6:(d:Int)<(D.na q:Int):=by omega
    have n6:(0:Int)<=(d:Int):=by omega
    have b3:=(j9.out (by omega)).1;obtain⟨t0,t1,t2,t3⟩:=l4.out d h0;obtain rfl:=m5.out (by omega);have c2:=(B.out.be.cell (p:=⟨BB q,O q+d*4,none⟩) b3).trans t0;have c3:=(B.out.be.cell (p:=⟨BB q,O q+d*4+1,none⟩) b3).trans t1;have c4:=(B.out.be.cell (p:=⟨BB q,O q+d*4+2,none⟩) b3).trans t2;have c5:=(B.out.be.cell (p:=⟨BB q,O q+d*4+3,none⟩) b3).trans t3;clear t0 t1 t2 t3;have e4:=HV.out.arc q d b8 h0;obtain⟨Z,b6⟩:∃ Z:Nat,D.ato q d=(Z:Int):=⟨(D.ato q d).toNat,by have:=e4.t0;omega⟩;have l9:Z<D.n:=by have:=e4.t1;omega
    obtain⟨s1,c6⟩:=exq (z6n D i o v q d s0);have c8:∀ j,smS (s1.1 j):=by rw[c6];exact y9t d l7.out
    rw[<- c6] at B b2;have g4:z6n D i o v q (d+1) s0=if D.ain q d=i/\D.aout q d=o then addR D.kind s1.1 Z X (D.aw q d) else s1:=by
     show arcR D i o v q d (z6n D i o v q d s0)=_;unfold arcR;rw[<- c6,if_neg (by rw[b2.out];simp),b6,b1.out];rfl
    have H:=qh g4;clear g4 c6;rw[b6] at c5;have o5:=qh b6;clear b6;obtain⟨N,j8⟩:=exq (D.ain q d);obtain⟨U,d1⟩:=exq (D.aout q d);obtain⟨aw,R⟩:=exq (D.aw q d);have g5:smS aw:=by rw[R];exact n3.out q d
    have i2:smS X:=by rw[b1.out];exact l5.out q
    rw[<- j8] at c2 H;rw[<- d1] at c3 H;rw[<- R] at c4 H;clear j8 d1 R e4;obtain⟨w4,J⟩:=exq (wr.alloc (.cells #[.int .i64 N,.int .i64 U,.string aw,.int .i64 (Z:Int)] 83));obtain⟨xb,b7⟩:=exq (wr.heap.size);have i5:Fr (fun _=>False) wr w4:=by rw[J];exact Fr.alloc _ _
    have c7:w4.heap[xb]?=some (.cells #[.int .i64 N,.int .i64 U,.string aw,.int .i64 (Z:Int)] 83 (0,0)):=by rw[J,b7];exact heap_alloc_new wr _
    have I:=qh (B.out.new i5);have x0:=cell_of c7 0 rfl;have x1:=cell_of c7 1 rfl;have d9:=qh c7;have e0:=x0;have e1:=x1;rw[J,b7] at e0 e1;clear i5 c7;by_cases Y:N=i
    ·by_cases h2:U=o
     ·have j4:(N==i)=true:=by simp[Y]
      have l8:(U==o)=true:=by simp[h2]
      have l:=qh (H.out.trans (if_pos ⟨Y,h2⟩));obtain⟨z,hz⟩:=exq (addR D.kind s1.1 Z X aw);have f5:=fun W (h:Fr (fun _=>False) w4 W)=>x6a (k:=D.kind) (t:=Z) (a:=X) (b:=aw) W (h.row I.out.rl (fun e=>e)) l9 m4 (c8 Z) i2 g5;rw[<- hz] at f5 l;have j5:=qh f5;clear f5 hz;have b0:∀ W,Fr (fun _=>False) w4 W->(fun g:World=>g.cell? ⟨Q,0,none⟩=some (.int .i64 D.kind)/\g.cell? ⟨xb,3,none⟩=some (.int .i64 (Z:Int))/\g.cell? ⟨vb,q,none⟩=some (.string X)/\g.cell? ⟨xb,2,none⟩=some (.string aw)) W:=fun W hf =>
       ⟨hf.cell (cell_of I.out.bx 0 rfl) (fun e=>e),hf.cell (cell_of d9.out 3 rfl) (fun e=>e),hf.cell (by rw[b1.out];exact I.out.rv.cell b8) (fun e=>e),hf.cell (cell_of d9.out 2 rfl) (fun e=>e)⟩
      have L:=qh b0;clear b0 g5 i2 c8;obtain⟨w5,g0⟩:=exq (w4.drew);have i7:Fr (fun _=>False) w4 w5:=by rw[g0];exact Fr.of_below ((Below.refl w4.heap.size w4).drew)
      have a6:=qh i7;clear i7;have c9:∀ w6,Fr (fun q=>q=lb) w5 w6->w6.rowIs lb 9 D.n (fun j=>.string (z.1 j))->StI w w6 Q vb lb D (.slice (some ⟨b,d8,none⟩) D.n cp) v z.1:=fun w6 h r=>(I.out.new a6.out).upd h r;have h8:=qh c9;clear c9;have g6:∀ w6,Fr (fun q=>q=lb) w5 w6->(fun g:World=>g.cell? ⟨Q,0,none⟩=some (.int .i64 D.kind)/\g.cell? ⟨xb,3,none⟩=some (.int .i64 (Z:Int))/\g.cell? ⟨vb,q,none⟩=some (.string X)/\g.cell? ⟨xb,2,none⟩=some (.string aw)) w6:=fun w6 h=>by
       obtain⟨a1,a2,a3,a4⟩:=L.out w5 a6.out;have i6:xb≠lb:=fun e=>by
        obtain⟨cc,hh,_⟩:=I.out.rl;have:=d9.out;rw[e,hh] at this;simp at this
       exact⟨h.cell a1 I.out.ml,h.cell a2 i6,h.cell a3 I.out.vl,h.cell a4 i6⟩
      have j6:=qh g6;clear g6;clear H;subst Y h2
      go_wp2_with fail
      rw[<- J,<- b7];have c:=L.out w5 a6.out;refine z0g (fun g:World=>g.cell? ⟨Q,0,none⟩=some (.int .i64 D.kind)/\g.cell? ⟨xb,3,none⟩=some (.int .i64 (Z:Int))/\g.cell? ⟨vb,q,none⟩=some (.string X)/\g.cell? ⟨xb,2,none⟩=some (.string aw)) 12 (by kernel_rfl) ?_;rw[<- g0];clear J b7 g0 c1 c2 c3 c4 c5 m0 m3 x0 x1 e0 e1;refine z0b.tl 0 c (v:=?yz) ?xd ?yh
      case xd=>rintro g ⟨E,u,F,G⟩;go_simp;try with_reducible rfl
      refine z0b.tl 1 c (v:=?zc) ?xh ?yd
      case xh=>rintro g ⟨E,u,F,G⟩;go_simp;try with_reducible rfl
      refine z0b.tl 2 c (v:=?ys) ?xs ?xz
      case xs=>rintro g ⟨E,u,F,G⟩;go_simp;try with_reducible rfl
      refine z0b.tl 3 c (v:=?zb) ?xi ?xu
      case xi=>rintro g ⟨E,u,F,G⟩;go_simp;try with_reducible rfl
      refine z0b.tl 4 c (v:=?yt) ?xf ?xw
      case xf=>rintro g ⟨E,u,F,G⟩;go_simp;try with_reducible rfl
      refine z0b.tl 5 c (v:=?yy) ?xm ?yi
      case xm=>rintro g ⟨E,u,F,G⟩;go_simp;try with_reducible rfl
      refine z0b.tl 6 c (v:=?yr) ?xt ?xv
      case xt=>rintro g ⟨E,u,F,G⟩;go_simp;try with_reducible rfl
      refine z0b.tl 7 c (v:=?za) ?xr ?yf
      case xr=>rintro g ⟨E,u,F,G⟩;go_simp;try with_reducible rfl
      refine z0b.tl 8 c (v:=?yn) ?xl ?yg
      case xl=>rintro g ⟨E,u,F,G⟩;go_simp;try with_reducible rfl
      refine z0b.tl 9 c (v:=?yu) ?xj ?yc
      case xj=>rintro g ⟨E,u,F,G⟩;go_simp;try with_reducible rfl
      refine z0b.tl 10 c (v:=?ym) ?xa ?xp
      case xa=>rintro g ⟨E,u,F,G⟩;go_simp;try with_reducible rfl
      try simp only[Act.put,tryL]
      refine z0b.on 11 fun K hK=>?_;go_simp;refine(j5.out w5 a6.out).mono ?_;rintro rr w6 ⟨rfl,j2,d7⟩;have h3:=qh (h8.out w6 d7 j2);have h9:=j6.out w6 d7;clear j2 d7 c j5 h8 j6 L a6;refine hK.out _ _ (.inr h9) ?_;clear hK K
      try simp only[Act.put,tryL]
      refine z0b.on 12 fun K hK=>?_;go_simp;refine hK.out _ _ (.inl rfl) (z0b.done (by kernel_rfl) ?_ _);clear hK K h9;by_cases S:z.2=0
      ·have n0:(z.2:Int)=0:=by omega
       have e5:=qh S;clear S
       go_wp2_with fail
       go_roundw
       case rel=>exact⟨d+1,by omega,by go_num,by rw[l.out];exact e5.out,by rw[l.out];exact h3.out⟩
       simp[intOf];omega
      have n0:¬ ((z.2:Int)=0):=by omega
      have o7:((z.2:Int)==0)=false:=by simp;omega
      have o4:decide ((z.2:Int)=0)=false:=by simp;omega
      have d2:z2c D N U v D.n (zerR D.kind,0)=z:=by
       have e1:z6n D N U v q (D.na q) s0=z:=by
        have Y:=y7z (D:=D) (i:=N) (o:=U) (v:=v) (q:=q) (s:=s0) (m:=d+1) (by rw[l.out];exact S) (D.na q-(d+1));rw[show d+1+(D.na q-(d+1))=D.na q by omega,l.out] at Y;exact Y
       have e2:z2c D N U v (q+1) (zerR D.kind,0)=z:=a7.out.trans e1;have h2:=y6i (D:=D) (i:=N) (o:=U) (v:=v) (s:=(zerR D.kind,0)) (m:=q+1) (by rw[e2];exact S) (D.n-(q+1));rw[show q+1+(D.n-(q+1))=D.n by omega,e2] at h2;exact h2
      have d4:=qh d2;clear d2;have e5:=qh S;clear S
      go_wp2_with fail
      go_ret2;exact⟨h3.out.be,.inr ⟨by rw[d4.out];exact e5.out,by rw[d4.out];rfl⟩⟩
     have j4:(N==i)=true:=by simp[Y]
     have l8:(U==o)=false:=by simp[h2]
     have o2:decide (U=o)=false:=by simp[h2]
     have l:=qh (H.out.trans (if_neg (fun e=>h2 e.2)));clear H;subst Y
     go_wp2_with fail
     rw[<- J];go_roundw
     case rel=>exact⟨d+1,by omega,by go_num,by rw[l.out];exact b2.out,by rw[l.out];exact I.out⟩
     simp[intOf];omega
    have j4:(N==i)=false:=by simp[Y]
    have o3:decide (N=i)=false:=by simp[Y]
    have l:=qh (H.out.trans (if_neg (fun e=>Y e.1)));clear H
    go_wp2_with fail
    rw[<- J];go_roundw
    case rel=>exact⟨d+1,by omega,by go_num,by rw[l.out];exact b2.out,by rw[l.out];exact I.out⟩
    simp[intOf];omega
   have h5:d=D.na q:=by omega
   have k9:¬ ((d:Int)<(D.na q:Int)):=by omega
   have he:=b2.out;have hi:=B.out;rw[h5,<- a7.out] at he hi;have f4:=qh he;have a9:=qh hi;clear he hi h5
   go_wp2_with fail
   go_roundw
   case rel=>exact⟨q+1,by omega,by go_num,f4.out,a9.out⟩
   simp[intOf];omega
  have a5:v q=z2b D.kind:=by rw[<- b1.out,<- e3.out];exact toList_eq hO
  have a8:z2c D i o v (q+1) (zerR D.kind,0)=s0:=h6.out.trans (if_pos a5);have a7:=qh a8;clear a5 a8
  go_wp2_with fail
  go_roundw
  case rel=>exact⟨q+1,by omega,by go_num,by rw[a7.out];exact b9.out,by rw[a7.out];exact e9.out⟩
  simp[intOf];omega
 have g9:q=D.n:=by omega
 have k9:¬ ((q:Int)<(D.n:Int)):=by omega
 have he:=b9.out;have hi:=B.out;rw[g9] at he hi;have f4:=qh he;have a9:=qh hi;clear he hi g9
 go_wp2_with fail
 go_ret2;exact⟨a9.out.be,.inl ⟨f4.out,lb,rfl,a9.out.ll,a9.out.rl⟩⟩
end
section
open Go.RowKit Go.Deep
theorem v6r {k:Int} {n Y gb:Nat} {a b:Nat->ByteArray} (w:World) (hn:n<=3000) (i:w.rowIs Y 9 n (fun j=>.string (a j))) (l:w.rowIs gb 9 n (fun j=>.string (b j))) (ha:∀ j,smS (a j)) (hb:∀ j,smS (b j)) :
  Calls prog 59 #[.int .i64 k,.slice (some ⟨Y,0,none⟩) n n,.slice (some ⟨gb,0,none⟩) n n] w (VerE n (sumR k a b n) w):=by
 have c9:=run_make_row' (P:=prog) 67 9 (.string ⟨#[]⟩) 16 underlying67 y4g rfl .i64 .i64 n (by omega) (by omega);obtain⟨w1,C⟩:=exq (w.alloc (.cells (madeCells #[.string ⟨#[]⟩] n) 9));obtain⟨g,hg⟩:=exq (w.heap.size);have E:Fr (fun _=>False) w w1:=by rw[C];exact Fr.alloc _ _
 have L:w1.rowIs g 9 n (fun j=>.string ((sumR k a b 0).1 j)):=by rw[C,hg];exact World.rowIs_made w _ _ _
 have r:=qh L;clear L;have B:=qh (E.row i (fun e=>e));have A:=qh (E.row l (fun e=>e));have a3:=qh (show Below w.heap.size w w1 from E.below (Nat.le_refl _) (fun _ e=>e.elim));have a1:=qh (show w.heap.size<=g by omega);have b6:=qh (show Y≠g by have:=i.lt;omega);have c8:=qh (show gb≠g by have:=l.lt;omega);have c7:=qh ha;clear ha;have b7:=qh hb;clear hb;clear i l E
 go_enter func59,ntmps59
 go_wp2_with fail
 rw[<- C,<- hg];clear C hg c9
 go_loopw [9] (fun v9 wr=>∃ q:Nat,q<=n/\v9=.int .i64 (q:Int)/\(sumR k a b q).2=0/\wr.rowIs g 9 n (fun j=>.string ((sumR k a b q).1 j))/\wr.rowIs Y 9 n (fun j=>.string (a j))/\wr.rowIs gb 9 n (fun j=>.string (b j))/\Below w.heap.size w wr) (fun v9 _=>n-(intOf v9).toNat)
 case atStart=>exact⟨0,Nat.zero_le _,rfl,rfl,r.out,B.out,A.out,a3.out⟩
 obtain⟨q,hq,rfl,Z,a9,i,l,b2⟩:=hrel;clear r B A a3;have HE:=qh Z;clear Z;have r:=qh a9;clear a9;have B:=qh i;clear i;have A:=qh l;clear l;have T:=qh b2;clear b2;by_cases N:q<n
 ·have d1:(q:Int)<(n:Int):=by omega
  have d0:(0:Int)<=(q:Int):=by omega
  obtain⟨S,D⟩:=exq (a q);obtain⟨R,F⟩:=exq (b q);obtain⟨s,hs⟩:=exq (sumR k a b q);obtain⟨z,hz⟩:=exq (z1r k S R);have b3:smS S:=by rw[D];exact c7.out q
  have a6:smS R:=by rw[F];exact b7.out q
  have a4:∀ W,Fr (fun _=>False) wr W->(fun h:World=>h.cell? ⟨Y,q,none⟩=some (.string S)/\h.cell? ⟨gb,q,none⟩=some (.string R)) W:=fun W hf=>⟨by rw[D];exact(hf.row B.out (fun e=>e)).cell N,by rw[F];exact(hf.row A.out (fun e=>e)).cell N⟩;have b0:=qh a4;clear a4;rw[<- hs] at r HE;have a8:sumR k a b (q+1)=if z.2≠0 then (s.1,z.2) else (updS s.1 q z.1,0):=by
   show (if (sumR k a b q).2≠0 then _ else _)=_
   rw[<- hs,if_neg (by rw[HE.out];simp),hz,D,F]
  have b1:=qh a8;clear a8 hs D F;obtain⟨wd,X⟩:=exq (wr.drew);have a5:=qh (show Fr (fun _=>False) wr wd by rw[X];exact Fr.of_below ((Below.refl wr.heap.size wr).drew));have hp:=y7k k S R wd b3 a6;rw[<- hz] at hp;have HP:=qh hp;clear hp hz b3 a6
  go_wp2_with fail
  have d:=b0.out wd a5.out;refine z0g (fun h:World=>h.cell? ⟨Y,q,none⟩=some (.string S)/\h.cell? ⟨gb,q,none⟩=some (.string R)) 14 (by kernel_rfl) ?_;rw[<- X];clear X;refine z0b.tl 0 d (v:=?ym) ?xd ?xs
  case xd=>rintro h ⟨s1,s2⟩;go_simp;try with_reducible rfl
  refine z0b.tl 1 d (v:=?yi) ?xh ?xu
  case xh=>rintro h ⟨s1,s2⟩;go_simp;try with_reducible rfl
  refine z0b.tl 2 d (v:=?yh) ?xk ?xz
  case xk=>rintro h ⟨s1,s2⟩;go_simp;try with_reducible rfl
  refine z0b.tl 3 d (v:=?yf) ?xp ?xv
  case xp=>rintro h ⟨s1,s2⟩;go_simp;try with_reducible rfl
  refine z0b.tl 4 d (v:=?yj) ?xg ?xx
  case xg=>rintro h ⟨s1,s2⟩;go_simp;try with_reducible rfl
  refine z0b.tl 5 d (v:=?yd) ?xo ?xr
  case xo=>rintro h ⟨s1,s2⟩;go_simp;try with_reducible rfl
  refine z0b.tl 6 d (v:=?yl) ?xi ?xw
  case xi=>rintro h ⟨s1,s2⟩;go_simp;try with_reducible rfl
  refine z0b.tl 7 d (v:=?yk) ?xn ?xq
  case xn=>rintro h ⟨s1,s2⟩;go_simp;try with_reducible rfl
  refine z0b.tl 8 d (v:=?yg) ?xf ?xt
  case xf=>rintro h ⟨s1,s2⟩;go_simp;try with_reducible rfl
  try simp only[Act.put,tryL]
  refine z0b.on 9 fun K H=>?_;go_simp;refine HP.out.mono ?_;rintro rr w3 ⟨rfl,a2⟩;have u:=qh (a5.out.trans (Fr.of_below a2));have o:=b0.out w3 u.out;clear a2 d HP;refine H.out _ _ (.inr o) ?_;clear H K
  try simp only[Act.put,tryL]
  refine z0b.tl 10 o (v:=?yb) ?xa ?xm
  case xa=>rintro h ⟨s1,s2⟩;go_simp;try with_reducible rfl
  refine z0b.tl 11 o (v:=?yc) ?xb ?xj
  case xb=>rintro h ⟨s1,s2⟩;go_simp;try with_reducible rfl
  refine z0b.tl 12 o (v:=?ya) ?xc ?xl
  case xc=>rintro h ⟨s1,s2⟩;go_simp;try with_reducible rfl
  try simp only[Act.put,tryL]
  refine z0b.on 13 fun K H=>?_;go_simp;refine H.out _ _ (.inr o) ?_;clear H K
  try simp only[Act.put,tryL]
  refine z0b.on 14 fun K H=>?_;go_simp;refine H.out _ _ (.inl rfl) (z0b.done (by kernel_rfl) ?_ _);clear H K o;have G:=u.out.row r.out (fun e=>e);have c0:=G.cell N;have f0:=G.frozen q;have c6:=qh G;clear G;have U:=qh (T.out.trans (u.out.below T.out.size (fun _ e=>e.elim)));by_cases h1:z.2=0
  ·have b5:(z.2:Int)=0:=by omega
   have b4:=qh (b1.out.trans (if_neg (by omega)))
   go_wp2_with fail
   go_roundw
   case rel =>
    have Q:Fr (fun c=>c=g) w3 (w3.setCell ⟨g,q,none⟩ (.string z.1)):=(Fr.refl (fun c=>c=g) w3).set (p:=⟨g,q,none⟩) (.inl rfl) _;refine⟨q+1,by omega,by go_num,by rw[b4.out],?_,Q.row (u.out.row B.out (fun e=>e)) b6.out,Q.row (u.out.row A.out (fun e=>e)) c8.out,U.out.trans (Q.below U.out.size (fun c e=>by rw[e];exact a1.out))⟩;rw[b4.out];refine(c6.out.set q _).congr (fun j _=>?_);show _=Value.string (updS s.1 q z.1 j);unfold updS;by_cases e:j=q
    ·rw[if_pos e,if_pos e]
    rw[if_neg e,if_neg e]
   simp[intOf];omega
  have b5:¬ ((z.2:Int)=0):=by omega
  have d2:((z.2:Int)==0)=false:=by simp;omega
  have d4:decide ((z.2:Int)=0)=false:=by simp;omega
  have O:sumR k a b (q+1)=(s.1,z.2):=b1.out.trans (if_pos h1);have I:sumR k a b n=(s.1,z.2):=by
   have h2:=y4y (k:=k) (a:=a) (b:=b) (m:=q+1) (by rw[O];exact h1) (n-(q+1));rw[show q+1+(n-(q+1))=n by omega,O] at h2;exact h2
  have J:=qh I;clear I O;have H1:=qh h1;clear h1 c0 f0
  go_wp2_with fail
  go_ret2;exact⟨U.out,.inr ⟨by rw[J.out];exact H1.out,by rw[J.out];rfl⟩⟩
 have a7:q=n:=by omega
 have d3:¬ ((q:Int)<(n:Int)):=by omega
 have Z:=HE.out;have hr:=r.out;rw[a7] at Z hr;have b8:=qh Z;have b9:=qh hr;clear Z hr a7
 go_wp2_with fail
 go_ret2;exact⟨T.out,.inl ⟨b8.out,g,rfl,a1.out,b9.out⟩⟩
def endR (D:MD) (v:Nat->ByteArray):ByteArray × Nat:=if (finR D v D.n).2≠0 then (⟨#[]⟩,(finR D v D.n).2) else ((finR D v D.n).1 0,0)
theorem x3v {D:MD} {sv:Value} {v:Nat->ByteArray} {vb:Nat} (w:World) (hV:VM D) (hD:StS none w sv D) (b0:w.rowIs vb 9 D.n (fun j=>.string (v j))) (b6:∀ j,smS (v j)) (d6:∀ i,smS (D.fin i)) :
  Calls prog 60 #[.agg #[.int .i64 D.kind,.int .i64 D.start,.string D.lead,sv],.slice (some ⟨vb,0,none⟩) D.n D.n] w (PairEnd (endR D v) w):=by
 obtain⟨a,cp,b,I,A,C,BB,O,rfl,ha,hc,hm,hb,a4⟩:=hD.open;unfold maxLen at hm;obtain⟨S,r⟩:=exq (w.alloc (.cells #[.int .i64 D.kind,.int .i64 D.start,.string D.lead,.slice a D.n cp] 36));obtain⟨H,U⟩:=exq (w.heap.size);have e6:S.heap.size=w.heap.size+1:=by rw[r];simp
 have a6:Fr (fun _=>False) w S:=by rw[r];exact Fr.alloc _ _
 have u:BxM S H D (.slice a D.n cp):=by rw[r,U];exact BxM.new w D _
 have b3:=qh (show Below w.heap.size w S from a6.below (Nat.le_refl _) (fun _ e=>e.elim));have B:=qh (a6.row b0 (fun e=>e));have e7:=qh b0.lt;have l:=qh u;have c8:=z5e D.kind S;have b9:=qh c8;clear c8;have HA:=qh ha;clear ha;have HB:=qh hb;clear hb;have HR:=qh a4;clear a4 hD;have f4:=qh b6;clear b6;have e9:=qh d6;clear d6;have f0:=qh (show H<S.heap.size by omega);have a5:=qh (show w.heap.size<=S.heap.size by omega);have m0:=cell_of u 0 rfl;have f8:D.n<=3000:=hV.n2;clear b0 a6 u hc e6 hV;have l0:=m0;rw[r,U] at l0
 go_enter func60,ntmps60
 go_wp2_with fail
 rw[<- r];clear r l0 m0;refine b9.out.mono ?_;rintro rr w2 ⟨rfl,R⟩;have d1:Fr (fun _=>False) S w2:=Fr.of_below R;obtain⟨w3,Z⟩:=exq (w2.alloc (.cells #[.string (z2b D.kind)] 9));obtain⟨P,a9⟩:=exq (w2.heap.size);have a3:Fr (fun _=>False) S w3:=by rw[Z];exact d1.trans (Fr.alloc _ _)
 have J:w3.rowIs P 9 1 (fun j=>.string ((finR D v 0).1 j)):=by
  refine⟨#[.string (z2b D.kind)],by rw[Z,a9];exact heap_alloc_new w2 _,rfl,fun i hi=>?_⟩;obtain rfl:i=0:=by omega
  rfl
 have HI:=qh (show BxM w3 H D (.slice a D.n cp)/\w3.rowIs vb 9 D.n (fun j=>.string (v j))/\w3.rowIs P 9 1 (fun j=>.string ((finR D v 0).1 j))/\Below w.heap.size w w3 from
  ⟨l.out.kept a3 (fun e=>e),a3.row B.out (fun e=>e),J,b3.out.trans (a3.below a5.out (fun _ e=>e.elim))⟩)
 have d7:=qh (show w.heap.size<=P by have:=R.size;have:=a5.out;omega);have a7:=qh (show H≠P by have:=R.size;have:=f0.out;omega);have d2:=qh (show vb≠P by have:=R.size;have:=e7.out;have:=a5.out;omega);clear R d1 a3 J b9 b3 l B
 go_wp2_with fail
 rw[<- Z,<- a9,<- U];clear Z a9 U
 go_loopw [7] (fun v7 wr=>∃ q:Nat,q<=D.n/\v7=.int .i64 (q:Int)/\(finR D v q).2=0/\BxM wr H D (.slice a D.n cp)/\wr.rowIs vb 9 D.n (fun j=>.string (v j))/\wr.rowIs P 9 1 (fun j=>.string ((finR D v q).1 j))/\Below w.heap.size w wr) (fun v7 _=>D.n-(intOf v7).toNat)
 case atStart=>exact⟨0,Nat.zero_le _,rfl,rfl,HI.out⟩
 obtain⟨q,hq,rfl,he,u,d5,J,e4⟩:=hrel;clear HI;have HE:=qh he;clear he;have l:=qh u;clear u;have B:=qh d5;clear d5;have X:=qh J;clear J;have N:=qh e4;clear e4;have m3:=cell_of l.out 3 rfl;by_cases d0:q<D.n
 ·have f7:(q:Int)<(D.n:Int):=by omega
  have f5:(0:Int)<=(q:Int):=by omega
  obtain rfl:=HA.out (by omega);have e5:=(HB.out (by omega)).1;obtain⟨k1,_⟩:=HR.out q d0;obtain⟨E,a2⟩:=exq (D.fin q);rw[<- a2] at k1;have c1:=(N.out.cell (p:=⟨b,I+q*2,none⟩) e5).trans k1;obtain⟨s,hs⟩:=exq (finR D v q);have c9:∀ j,smS (s.1 j):=by rw[hs];exact v2h q
  rw[<- hs] at X HE;have b5:finR D v (q+1)=if E=⟨#[]⟩ then s else addR D.kind s.1 0 (v q) E:=by
   show (if (finR D v q).2≠0 then _ else _)=_
   rw[<- hs,if_neg (by rw[HE.out];simp),a2]
  have e3:=qh b5;clear b5 hs;have d3:smS E:=by rw[a2];exact e9.out q
  clear a2 k1;cases hO:(E.toList==[])
  ·have Q:E≠⟨#[]⟩:=fun e=>by rw[e] at hO;simp at hO
   have o:=qh (e3.out.trans (if_neg Q));clear Q;obtain⟨vq,a1⟩:=exq (v q);obtain⟨z,hz⟩:=exq (addR D.kind s.1 0 vq E);rw[<- a1,<- hz] at o;have b4:smS vq:=by rw[a1];exact f4.out q
   have b7:∀ W,Fr (fun c=>c=P) wr W->(fun g:World=>g.cell? ⟨H,0,none⟩=some (.int .i64 D.kind)/\g.cell? ⟨H,3,none⟩=some (.slice (some ⟨b,I,none⟩) D.n cp)/\g.cell? ⟨vb,q,none⟩=some (.string vq)/\g.cell? ⟨b,I+q*2,none⟩=some (.string E)) W:=fun W hf =>
    ⟨cell_of (l.out.kept hf a7.out) 0 rfl,cell_of (l.out.kept hf a7.out) 3 rfl,by rw[a1];exact(hf.row B.out d2.out).cell d0,hf.cell c1 (fun e=>by have:b=P:=e;have:=d7.out;omega)⟩
   have e1:=qh b7;clear b7;obtain⟨wd,b2⟩:=exq (wr.drew);have b1:Fr (fun _=>False) wr wd:=by rw[b2];exact Fr.of_below ((Below.refl wr.heap.size wr).drew)
   have a8:=x6a (k:=D.kind) (t:=0) (a:=vq) (b:=E) wd (b1.row X.out (fun e=>e)) (by omega) (by omega) (c9 0) b4 d3;rw[<- hz] at a8;have e0:=qh a8;have d4:=qh (b1.mono (C':=fun c=>c=P) (fun _ _ e=>e.elim));clear a8 b1 hz a1 b4 c9 d3
   go_wp2_with fail
   have d:=e1.out wd d4.out;refine z0g (fun g:World=>g.cell? ⟨H,0,none⟩=some (.int .i64 D.kind)/\g.cell? ⟨H,3,none⟩=some (.slice (some ⟨b,I,none⟩) D.n cp)/\g.cell? ⟨vb,q,none⟩=some (.string vq)/\g.cell? ⟨b,I+q*2,none⟩=some (.string E)) 14 (by kernel_rfl) ?_;rw[<- b2];clear b2 c1 m3;refine z0b.tl 0 d (v:=?yp) ?xd ?xs
   case xd=>rintro g ⟨s1,s2,G,F⟩;go_simp;try with_reducible rfl
   refine z0b.tl 1 d (v:=?yj) ?xn ?xu
   case xn=>rintro g ⟨s1,s2,G,F⟩;go_simp;try with_reducible rfl
   refine z0b.tl 2 d (v:=?yi) ?xo ?yb
   case xo=>rintro g ⟨s1,s2,G,F⟩;go_simp;try with_reducible rfl
   refine z0b.tl 3 d (v:=?yh) ?xm ?xz
   case xm=>rintro g ⟨s1,s2,G,F⟩;go_simp;try with_reducible rfl
   refine z0b.tl 4 d (v:=?yk) ?xg ?ya
   case xg=>rintro g ⟨s1,s2,G,F⟩;go_simp;try with_reducible rfl
   refine z0b.tl 5 d (v:=?yg) ?xq ?xr
   case xq=>rintro g ⟨s1,s2,G,F⟩;go_simp;try with_reducible rfl
   refine z0b.tl 6 d (v:=?yo) ?xi ?xv
   case xi=>rintro g ⟨s1,s2,G,F⟩;go_simp;try with_reducible rfl
   refine z0b.tl 7 d (v:=?yn) ?xp ?xw
   case xp=>rintro g ⟨s1,s2,G,F⟩;go_simp;try with_reducible rfl
   refine z0b.tl 8 d (v:=?ym) ?xf ?xt
   case xf=>rintro g ⟨s1,s2,G,F⟩;go_simp;try with_reducible rfl
   refine z0b.tl 9 d (v:=?yl) ?xl ?xx
   case xl=>rintro g ⟨s1,s2,G,F⟩;go_simp;try with_reducible rfl
   refine z0b.tl 10 d (v:=?yf) ?xb ?xk
   case xb=>rintro g ⟨s1,s2,G,F⟩;go_simp;try with_reducible rfl
   refine z0b.tl 11 d (v:=?yc) ?xa ?xh
   case xa=>rintro g ⟨s1,s2,G,F⟩;go_simp;try with_reducible rfl
   refine z0b.tl 12 d (v:=?yd) ?xc ?xj
   case xc=>rintro g ⟨s1,s2,G,F⟩;go_simp;try with_reducible rfl
   try simp only[Act.put,tryL]
   refine z0b.on 13 fun K hK=>?_;go_simp;refine e0.out.mono ?_;rintro rr w5 ⟨rfl,c6,c7⟩;have T:=qh (d4.out.trans c7);have f1:=qh c6;have b8:=e1.out w5 T.out;clear c6 c7 d e0;refine hK.out _ _ (.inr b8) ?_;clear hK K
   try simp only[Act.put,tryL]
   refine z0b.on 14 fun K hK=>?_;go_simp;refine hK.out _ _ (.inl rfl) (z0b.done (by kernel_rfl) ?_ _);clear hK K b8;have d9:=qh (N.out.trans (T.out.below N.out.size (fun c e=>by rw[e];exact d7.out)));by_cases Y:z.2=0
   ·have f2:(z.2:Int)=0:=by omega
    have e8:=qh Y;clear Y
    go_wp2_with fail
    go_roundw
    case rel=>exact⟨q+1,by omega,by go_num,by rw[o.out];exact e8.out,l.out.kept T.out a7.out,T.out.row B.out d2.out,by rw[o.out];exact f1.out,d9.out⟩
    simp[intOf];omega
   have f2:¬ ((z.2:Int)=0):=by omega
   have g0:((z.2:Int)==0)=false:=by simp;omega
   have g1:decide ((z.2:Int)=0)=false:=by simp;omega
   have h:endR D v=(⟨#[]⟩,z.2):=by
    have h2:=y6m (D:=D) (v:=v) (m:=q+1) (by rw[o.out];exact Y) (D.n-(q+1));rw[show q+1+(D.n-(q+1))=D.n by omega,o.out] at h2;unfold endR;rw[h2,if_pos Y]
   have L:=qh h;clear h
   go_wp2_with fail
   go_ret2;exact⟨by rw[L.out];rfl,d9.out⟩
  have Q:E=⟨#[]⟩:=z4j hO;have o:=qh (e3.out.trans (if_pos Q));clear Q
  go_wp2_with fail
  go_roundw
  case rel=>exact⟨q+1,by omega,by go_num,by rw[o.out];exact HE.out,l.out,B.out,by rw[o.out];exact X.out,N.out⟩
  simp[intOf];omega
 have d8:q=D.n:=by omega
 have f9:¬ ((q:Int)<(D.n:Int)):=by omega
 have c0:=X.out.cell (i:=0) (by omega);have h:endR D v=((finR D v q).1 0,0):=by unfold endR;rw[d8] at HE ⊢;rw[if_neg (by rw[HE.out];simp)]
 have L:=qh h;clear h d8
 go_wp2_with fail
 go_ret2;exact⟨by rw[L.out];rfl,N.out⟩
end
section
open Go.RowKit Go.Deep
def SilE (w:World) (r:Ending) (w':World):Prop:=r=.returned (.tuple #[.slice none 0 0,.int .i64 0])/\Below w.heap.size w w'
theorem v2i {D:MD} {sv vv:Value} (w:World) {a:Option Addr} {n cap:Nat} (h:sv=.slice a n cap) {b:Option Addr} {m c:Nat} (d:vv=.slice b m c) :
  Calls prog 57 #[.agg #[.int .i64 D.kind,.int .i64 D.start,.string D.lead,sv],vv,.slice none 0 0] w (fun r w'=>r=.returned (.tuple #[vv,.int .i64 0])/\Below w.heap.size w w'):=by
 subst h d;have hb:Below w.heap.size w (w.alloc (.cells #[.int .i64 D.kind,.int .i64 D.start,.string D.lead,.slice a n cap] 36)):=(Below.refl _ w).alloc (Nat.le_refl _) _;have g:=qh hb;clear hb;have i:=fun w=>y2r 66 67 underlying66 w none 0 0
 go_enter func57,ntmps57
 go_wp2_with fail
 go_ret2;exact⟨rfl,g.out⟩
theorem x0i {D:MD} {sv:Value} (w:World) (hV:VM D) (hD:StS none w sv D) (b3:NoSil D) :
  Calls prog 55 #[.agg #[.int .i64 D.kind,.int .i64 D.start,.string D.lead,sv],.bool false] w (SilE w):=by
 obtain⟨a,cp,b,r,A,C,BB,O,rfl,ha,hc,hm,hb,L⟩:=hD.open;unfold maxLen at hm;have b7:D.n<=3000:=hV.n2;have d3:=run_make_row' (P:=prog) 66 67 (.slice none 0 0) 24 underlying66 y1d rfl .i64 .i64 D.n (by omega) (by omega);obtain⟨Q,o⟩:=exq (w.alloc (.cells #[.int .i64 D.kind,.int .i64 D.start,.string D.lead,.slice a D.n cp] 36));obtain⟨z,I⟩:=exq (w.heap.size);have a6:Q.heap.size=w.heap.size+1:=by rw[o];simp
 have a5:Fr (fun _=>False) w Q:=by rw[o];exact Fr.alloc _ _
 have i:BxM Q z D (.slice a D.n cp):=by rw[o,I];exact BxM.new w D _
 obtain⟨w2,B⟩:=exq (Q.alloc (.cells (madeCells #[.slice none 0 0] D.n) 67));obtain⟨g,hg⟩:=exq (w.heap.size+1);have Z:Fr (fun _=>False) Q w2:=by rw[B];exact Fr.alloc _ _
 have l:w2.rowIs g 67 D.n (fun _=>.slice none 0 0):=by rw[B,hg,<- a6];exact World.rowIs_made Q _ _ _
 have R:=qh (show BxM w2 z D (.slice a D.n cp)/\(∃ F,w2.rowIs g 67 D.n F)/\Below w.heap.size w w2 from ⟨i.kept Z (fun e=>e),⟨_,l⟩,(a5.trans Z).below (Nat.le_refl _) (fun _ e=>e.elim)⟩);have c7:=qh (show w.heap.size<=g by omega);have d0:=qh (show z≠g by omega);have HV:=qh hV;clear hV;have HA:=qh ha;clear ha;have HB:=qh hb;clear hb;have HR:=qh L;clear L hD;have d2:=qh b3;clear b3;have m3:=cell_of i 3 rfl;have l3:=m3;rw[o,I] at l3;clear a5 Z l i hc a6
 go_enter func55,ntmps55
 go_wp2_with fail
 rw[<- o,<- B,<- hg,<- I];clear o B hg I m3 l3 d3
 go_loopw [7,8] (fun v7 v8 wr=>∃ q:Nat,q<=D.n/\v7=.bool false/\v8=.int .i64 (q:Int)/\BxM wr z D (.slice a D.n cp)/\(∃ F,wr.rowIs g 67 D.n F)/\Below w.heap.size w wr) (fun _ v8 _=>D.n-(intOf v8).toNat)
 case atStart=>exact⟨0,Nat.zero_le _,rfl,rfl,R.out⟩
 obtain⟨q,hq,rfl,rfl,i,⟨F,l⟩,u⟩:=hrel;clear R;have j:=qh i;clear i;have K:=qh l;clear l;have h:=qh u;clear u;by_cases W:q<D.n
 ·have d7:(q:Int)<(D.n:Int):=by omega
  have d6:(0:Int)<=(q:Int):=by omega
  obtain rfl:=HA.out (by omega);have b4:=(HB.out (by omega)).1;obtain⟨k1,k2,k3,k4,k5,k6,k7⟩:=HR.out q W;unfold maxLen at k4;have d5:D.na q<=30000:=by have v:=Nat.le_trans (z5a D (show q+1<=D.n by omega)) HV.out.arcs;have h2:z1k D (q+1)=z1k D q+D.na q:=rfl;omega
  obtain⟨aq,b0⟩:=exq (A q);rw[<- b0] at k2 k5;have c6:=qh k2;clear k2;have b9:=qh k5;clear k5;have b5:=qh k6;clear k6;have c9:=qh k7;clear k7;clear b0 k1;have m0:=cell_of j.out 0 rfl;have m1:=cell_of j.out 1 rfl;have m2:=cell_of j.out 2 rfl;have m3:=cell_of j.out 3 rfl;have HZ:=qh (y2j (D:=D) (a:=some ⟨b,r,none⟩) (cap:=cp) wr b7)
  go_wp2_with fail
  refine HZ.out.mono ?_;rintro rr w3 ⟨X,lb,rfl,c8,b6⟩;have a1:Fr (fun _=>False) wr w3:=Fr.of_below X;have H:=a1.row K.out (fun e=>e);have c0:=H.cell W;have f0:=H.frozen q;have d1:=qh H;clear H;have a3:=qh (j.out.kept a1 (fun e=>e));have b2:=qh (h.out.trans (X.mono h.out.size));clear X a1 c8 b6 HZ m0 m1 m2 m3;obtain⟨w4,J⟩:=exq (w3.setCell ⟨g,q,none⟩ (.slice (some ⟨lb,0,none⟩) D.n D.n));have U:Fr (fun c=>c=g) w3 w4:=by rw[J];exact(Fr.refl (fun c=>c=g) w3).set (p:=⟨g,q,none⟩) (.inl rfl) _
  have R:=qh (show BxM w4 z D (.slice (some ⟨b,r,none⟩) D.n cp)/\(∃ F,w4.rowIs g 67 D.n F)/\Below w.heap.size w w4 from
   ⟨a3.out.kept U d0.out,⟨_,by rw[J];exact d1.out.set q _⟩,b2.out.trans (U.below b2.out.size (fun c e=>by rw[e];exact c7.out))⟩)
  clear U
  go_wp2_with fail
  rw[<- J];clear J c0 f0
  go_loopw [7,9] (fun v7 v9 wr=>∃ d:Nat,d<=D.na q/\v7=.bool false/\v9=.int .i64 (d:Int)/\BxM wr z D (.slice (some ⟨b,r,none⟩) D.n cp)/\(∃ F,wr.rowIs g 67 D.n F)/\Below w.heap.size w wr) (fun _ v9 _=>D.na q-(intOf v9).toNat)
  case atStart=>exact⟨0,Nat.zero_le _,rfl,rfl,R.out⟩
  obtain⟨d,hd,rfl,rfl,i,⟨F2,l⟩,u⟩:=hrel;clear R;have j:=qh i;clear i;have K:=qh l;clear l;have h:=qh u;clear u;have m3:=cell_of j.out 3 rfl;have c1:=(h.out.cell (p:=⟨b,r+q*2+1,none⟩) b4).trans c6.out;by_cases b1:d<D.na q
  ·have e0:(d:Int)<(D.na q:Int):=by omega
   have d4:(0:Int)<=(d:Int):=by omega
   have E:=(b5.out (by omega)).1;obtain⟨t0,t1,t2,t3⟩:=c9.out d b1;obtain rfl:=b9.out (by omega);have c2:=(h.out.cell (p:=⟨BB q,O q+d*4,none⟩) E).trans t0;have c3:=(h.out.cell (p:=⟨BB q,O q+d*4+1,none⟩) E).trans t1;have c4:=(h.out.cell (p:=⟨BB q,O q+d*4+2,none⟩) E).trans t2;have c5:=(h.out.cell (p:=⟨BB q,O q+d*4+3,none⟩) E).trans t3;clear t0 t1 t2 t3;have k:¬ (D.ain q d=0/\D.aout q d=0):=fun e=>by
    have v:=d2.out q d W b1;unfold silB at v;rw[e.1,e.2] at v;simp at v
   obtain⟨ai,a7⟩:=exq (D.ain q d);obtain⟨Y,N⟩:=exq (D.aout q d);obtain⟨aw,a8⟩:=exq (D.aw q d);obtain⟨a2,a9⟩:∃ t,t=D.ato q d:=⟨_,rfl⟩;rw[<- a7] at c2 k;rw[<- N] at c3 k;rw[<- a8] at c4;rw[<- a9] at c5;clear a7 N a8 a9;obtain⟨T,s⟩:=exq (wr.alloc (.cells #[.int .i64 ai,.int .i64 Y,.string aw,.int .i64 a2] 83));obtain⟨xb,a4⟩:=exq (wr.heap.size);have G:Fr (fun _=>False) wr T:=by rw[s];exact Fr.alloc _ _
   have S:T.heap[xb]?=some (.cells #[.int .i64 ai,.int .i64 Y,.string aw,.int .i64 a2] 83 (0,0)):=by rw[s,a4];exact heap_alloc_new wr _
   have R:=qh (show BxM T z D (.slice (some ⟨b,r,none⟩) D.n cp)/\(∃ F,T.rowIs g 67 D.n F)/\Below w.heap.size w T from
    ⟨j.out.kept G (fun e=>e),⟨_,G.row K.out (fun e=>e)⟩,h.out.trans (G.below h.out.size (fun _ e=>e.elim))⟩)
   have x0:=cell_of S 0 rfl;have x1:=cell_of S 1 rfl;rw[s,a4] at x0 x1;clear G S;by_cases v:ai=0
   ·have h2:¬ Y=0:=fun e=>k ⟨v,e⟩;have d9:(Y==0)=false:=by simp[h2]
    have d8:decide (Y=0)=false:=by simp[h2]
    subst v;clear k
    go_wp2_with fail
    rw[<- s];go_roundw
    case rel=>exact⟨d+1,by omega,rfl,by go_num,R.out⟩
    simp[intOf];omega
   have e3:(ai==0)=false:=by simp[v]
   have e1:decide (ai=0)=false:=by simp[v]
   clear k
   go_wp2_with fail
   rw[<- s];go_roundw
   case rel=>exact⟨d+1,by omega,rfl,by go_num,R.out⟩
   simp[intOf];omega
  have b8:¬ ((d:Int)<(D.na q:Int)):=by omega
  go_wp2_with fail
  go_roundw
  case rel=>exact⟨q+1,by omega,rfl,by go_num,j.out,⟨_,K.out⟩,h.out⟩
  simp[intOf];omega
 have b8:¬ ((q:Int)<(D.n:Int)):=by omega
 go_wp2_with fail
 go_ret2;exact⟨rfl,h.out⟩
end
end Go.Proofs.YtjekapjbigfkbaaGreatDoor
