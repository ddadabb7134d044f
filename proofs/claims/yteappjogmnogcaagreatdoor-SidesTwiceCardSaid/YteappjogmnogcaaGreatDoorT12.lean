/- Parts of a proof: BlB BlC BlD BlF RegL SdA SdB. -/
import Derived.Test.YteappjogmnogcaaGreatDoorT11
import Derived.Test.YteappjogmnogcaaGreatDoorT10
import Derived.Test.YteappjogmnogcaaGreatDoorT07
namespace Go.Proofs.YteappjogmnogcaaGreatDoor
set_option maxRecDepth 100000
set_option linter.unusedSimpArgs false
set_option linter.unusedVariables false
set_option linter.unusedSectionVars false
set_option maxHeartbeats 16000000
open Go Tryz
section
open Go.RowKit Go.Deep
def BlS (F:Nat->Prop) (B db:Nat) (D:MD) (one:ByteArray) (ac fl:Int) (w:World):Prop:=∃ R sv,Bld w B db D R sv one ac fl/\∀ b,F b->b≠db/\Fre w sv R D.n b
def BlN (F:Nat->Prop) (B db:Nat) (D:MD) (one:ByteArray) (ac fl:Int) (w w':World):Prop:=BlS F B db D one ac fl w'/\(∀ b,F b->w'.heap[b]?=w.heap[b]?)/\Below B w w'
theorem BlS.sub {F c:Nat->Prop} {B db:Nat} {D:MD} {one:ByteArray} {ac fl:Int} {w:World} (h:BlS F B db D one ac fl w) (i:∀ b,c b->F b):BlS c B db D one ac fl w:=by
 obtain⟨R,sv,d,g⟩:=h;exact⟨R,sv,d,fun b hb=>g b (i b hb)⟩
theorem BlN.trans {F:Nat->Prop} {B db:Nat} {D i:MD} {one:ByteArray} {ac fl c d:Int} {w k j:World} (h:BlN F B db D one ac fl w k) (g:BlN F B db i one c d k j):BlN F B db i one c d w j :=
 ⟨g.1,fun b hb=>(g.2.1 b hb).trans (h.2.1 b hb),h.2.2.trans g.2.2⟩
theorem BlS.lt {F:Nat->Prop} {B db:Nat} {D:MD} {one:ByteArray} {ac fl:Int} {w:World} (h:BlS F B db D one ac fl w):db<w.heap.size/\B<=db/\∀ b,F b->b<w.heap.size:=by
 obtain⟨R,sv,c,d⟩:=h;exact⟨c.lt,c.low,fun b hb=>(d b hb).2.1⟩
theorem BlS.kept {F:Nat->Prop} {B db:Nat} {D:MD} {one:ByteArray} {ac fl:Int} {w i:World} (h:BlS F B db D one ac fl w) (hb:Below w.heap.size w i):BlS F B db D one ac fl i:=by
 obtain⟨R,sv,c,d⟩:=h;exact⟨R,sv,⟨(hb.block _ c.lt).trans c.blk,c.own.kept (z0b hb none) (by simp),c.low⟩,fun b g=>⟨(d b g).1,Nat.lt_of_lt_of_le (d b g).2.1 hb.size,(d b g).2.2⟩⟩
theorem BlS.grown {F:Nat->Prop} {B db:Nat} {D:MD} {one:ByteArray} {ac fl:Int} {w g:World} (h:BlS F B db D one ac fl w) (hb:Below w.heap.size w g):BlS (fun b=>F b\/(w.heap.size<=b/\b<g.heap.size)) B db D one ac fl g:=by
 obtain⟨R,sv,c,j⟩:=h;refine⟨R,sv,⟨(hb.block _ c.lt).trans c.blk,c.own.kept (z0b hb none) (by simp),c.low⟩,fun b d=>?_⟩
 rcases d with d|⟨l,k⟩
 ·exact⟨(j b d).1,Nat.lt_of_lt_of_le (j b d).2.1 hb.size,(j b d).2.2⟩
 refine⟨by have:=c.lt;omega,k,fun e=>?_,fun i hi e=>?_⟩
 ·have:=(World.ownsRow.lt c.own.top b e).2;omega
 have:=(World.ownsRow.lt (c.own.row i hi) b e).2;omega
theorem x2t {F:Nat->Prop} {B db:Nat} {D:MD} {one:ByteArray} {ac fl:Int} (f:ByteArray) (w:World) (h:BlS F B db D one ac fl w) (m:B<=w.heap.size) (hn:D.n<=100000) :
  Calls prog 91 #[.pointer (some ⟨db,0,none⟩),.string f] w (fun r w'=>r=.returned (.int .i64 (D.n:Int))/\BlN F B db (D.state f) one ac fl w w'):=by
 obtain⟨R,sv,j,c⟩:=h;refine(x6u f w j m hn).mono fun r w' g=>⟨g.1,?_⟩;obtain⟨⟨l,d,o,i⟩,k⟩:=g.2;exact⟨⟨l,d,o,fun b hb=>⟨(c b hb).1,(i b (c b hb).1 (c b hb).2).1⟩⟩,fun b hb=>(i b (c b hb).1 (c b hb).2).2,k⟩
theorem u0p {F:Nat->Prop} {B db q:Nat} {D:MD} {one:ByteArray} {ac fl:Int} (a b t:Int) (x:ByteArray) (w:World) (h:BlS F B db D one ac fl w) (d:0<=ac) (g:ac<=100000) (z:B<=w.heap.size) (s:q<D.n) (hn:D.n<=100000) (i:D.na q<=100000) :
  Calls prog 92 #[.pointer (some ⟨db,0,none⟩),.int .i64 (q:Int),.agg #[.int .i64 a,.int .i64 b,.string x,.int .i64 t]] w (fun r w'=>r=.returned (.tuple #[])/\BlN F B db (D.arc q a b x t) one (ac+1) fl w w'):=by
 obtain⟨R,sv,p,c⟩:=h;refine(v5c a b t x w p d g z s hn i).mono fun r w' l=>⟨l.1,?_⟩;obtain⟨⟨m,j,o,k⟩,u⟩:=l.2;exact⟨⟨m,j,o,fun b hb=>⟨(c b hb).1,(k b (c b hb).1 (c b hb).2).1⟩⟩,fun b hb=>(k b (c b hb).1 (c b hb).2).2,u⟩
theorem v4b {F:Nat->Prop} {B db q:Nat} {D:MD} {one:ByteArray} {ac fl:Int} (t:Int) (x:ByteArray) (w:World) (h:BlS F B db D one ac fl w) (c:0<=ac) (g:ac<=100000) (m:B<=w.heap.size) (k:q<D.n) (hn:D.n<=100000) (d:D.na q<=100000) :
  Calls prog 141 #[.pointer (some ⟨db,0,none⟩),.int .i64 (q:Int),.string x,.int .i64 t] w (fun r w'=>r=.returned (.tuple #[])/\BlN F B db (D.arc q 0 0 x t) one (ac+1) fl w w'):=by
 have l:=qh (u0p 0 0 t x w h c g m k hn d);clear h
 go_enter func141,ntmps141
 go_wp2_with fail
 refine l.out.mono ?_;rintro r o ⟨rfl,i⟩;have j:=qh i;clear i
 go_wp2_with fail
 go_end0
 exact⟨rfl,j.out⟩
theorem y6c (k:Int) (w:World):Calls prog 90 #[.int .i64 k] w (fun r w'=>∃ db,r=.returned (.pointer (some ⟨db,0,none⟩))/\BlS (fun _=>False) w.heap.size db (z1r k 0 (oneF k)) (oneF k) 0 0 w'/\Below w.heap.size w w'/\w.heap.size<=db):=by
 go_enter func90,ntmps90
 go_wp2_with fail
 refine(z6w k w).mono ?_;rintro r l ⟨rfl,c⟩;have g:=c.alloc c.size (.cells (bcs (z1r k 0 (oneF k)) (.slice none 0 0) (oneF k) 0 0) 113);have d:=c.size;have i:BlS (fun _=>False) w.heap.size l.heap.size (z1r k 0 (oneF k)) (oneF k) 0 0 (l.alloc (.cells (bcs (z1r k 0 (oneF k)) (.slice none 0 0) (oneF k) 0 0) 113)) :=
  ⟨fun _=>.slice none 0 0,.slice none 0 0,⟨heap_alloc_new l _,OwM.empty _ _ _ _ _ _,d⟩,fun _ h=>h.elim⟩
 have j:=qh g;clear g c;have m:=qh i;clear i;go_wp2;go_ret;exact⟨_,rfl,m.out,j.out,d⟩
end
section
open Go.RowKit Go.Deep
def tmF (z:ByteArray × Nat) (fl:Int):Int:=if z.2≠0 then (z.2:Int) else fl
def TmE (F:Nat->Prop) (B db:Nat) (D:MD) (one:ByteArray) (ac fl:Int) (z:ByteArray × Nat) (w:World) (r:Ending) (w':World):Prop:=r=.returned (.string z.1)/\BlN F B db D one ac (tmF z fl) w w'
theorem u0a {F:Nat->Prop} {B db:Nat} {D:MD} {one:ByteArray} {ac fl:Int} (v u:ByteArray) (w:World) (h:BlS F B db D one ac fl w) (X:smS v) (P:smS u) (S:Tab w) :
  Calls prog 109 #[.pointer (some ⟨db,0,none⟩),.string v,.string u] w (TmE F B db D one ac fl (z0n D.kind v u) w):=by
 obtain⟨R,sv,N,W⟩:=h;have c0:=BlkB.c0 N.blk;have HC:=qh (z7c D.kind v u w X P S);clear S X P;have l:=qh N;clear N;have I:=qh W;clear W
 go_enter func109,ntmps109
 go_wp2_with fail
 refine HC.out.mono ?_;rintro r O ⟨rfl,g⟩;obtain⟨z,L⟩:=exq (z0n D.kind v u);rw[<- L];have G:=qh L;clear L;have Q:BlS F B db D one ac fl O:=BlS.kept ⟨R,sv,l.out,I.out⟩ g;have c:=(g.block _ l.out.lt).trans l.out.blk;have c6:=BlkB.c6 c;have f6:=BlkB.fz c 6;have A:Below B w O\/True:=.inr trivial;have Y:=qh Q;clear Q;have j:=qh g;clear g;have Z:=qh c;clear c c0;clear A;have U:∀ w',Below w.heap.size w w'->B<=w.heap.size:=fun _ _=>by have:=l.out.lt;have:=l.out.low;omega
 have o:=U O j.out;clear U;by_cases s:z.2=0
 ·have C:((z.2:Nat):Int)=0:=by omega
  have J:=qh s;clear s;go_wp2;go_ret;refine⟨by rw[G.out];rfl,?_⟩;have hE:=J.out;rw[show tmF (z0n D.kind v u) fl=fl from by rw[<- G.out];exact if_neg (by omega)];exact⟨Y.out,fun b hb=>j.out.block b (I.out b hb).2.1,j.out.mono o⟩
 have C:¬ ((z.2:Nat):Int)=0:=by omega
 obtain⟨H,d⟩:∃ H:Nat,H=z.2:=⟨_,rfl⟩;rw[<- d] at C s ⊢;have J:=qh s;clear s;have m:=qh d;clear d;go_wp2;go_ret;obtain⟨R1,K,k,E⟩:=Y.out;have T:=j.out;refine⟨by rw[G.out];rfl,?_⟩;rw[show tmF (z0n D.kind v u) fl=(H:Int) from by rw[<- G.out,m.out];exact if_pos (by rw[<- m.out];exact J.out)];refine⟨⟨R1,K,⟨?_,?_,k.low⟩,fun b hb=>⟨(E b hb).1,by rw[nblk_setCell];exact(E b hb).2.1,(E b hb).2.2⟩⟩,fun b hb=>?_,(T.mono o).setCell (p:=⟨db,6,none⟩) k.low _⟩
 ·exact BlkB.set6 k.blk _
 ·exact k.own.other (p:=⟨db,6,none⟩) (z2p k.own.top k.blk (by decide)) (fun i hi=>z2p (k.own.row i hi) k.blk (by decide)) _
 rw[z0e (show b≠db from (E b hb).1)];exact T.block b (I.out b hb).2.1
def dnOk (fl:Int) (n:Nat) (ac:Int):Prop:=fl=0/\n<=3000/\ac<=30000
def DnE (B:Nat) (D:MD) (ok:Prop) (w:World) (r:Ending) (w':World):Prop :=
 Below w.heap.size w w'/\((ok/\∃ sv R,r=.returned (.tuple #[.agg #[.int .i64 D.kind,.int .i64 D.start,.string D.lead,sv],.int .i64 0])/\OwM w' B sv D R)\/(¬ ok/\r=.returned (.tuple #[z7m,.int .i64 2])))
theorem v7z {F:Nat->Prop} {B db:Nat} {D:MD} {one:ByteArray} {ac fl:Int} (w:World) (h:BlS F B db D one ac fl w) (hn:D.n<=100000) (a3:ac<=1000000) (L:0<=ac) :
  Calls prog 94 #[.pointer (some ⟨db,0,none⟩)] w (DnE B D (dnOk fl D.n ac) w):=by
 obtain⟨R,sv,l,h2⟩:=h;obtain⟨Q,sc,I,_,_⟩:=z0y l.own.top;subst I;obtain⟨p,g⟩:=exq (w.alloc (.cells #[.int .i64 0,.int .i64 0,.string ⟨#[]⟩,.slice none 0 0] 24));obtain⟨u,C⟩:=exq (w.heap.size);have k:Fr (fun _=>False) w p:=by rw[g];exact Fr.alloc _ _
 have m:p.heap[u]?=some (.cells #[.int .i64 0,.int .i64 0,.string ⟨#[]⟩,.slice none 0 0] 24 (0,0)):=by rw[g,C];exact heap_alloc_new w _
 have c:=(k.block _ l.lt (fun e=>e)).trans l.blk;have i:Below w.heap.size w p:=k.below nlr (fun _ e=>e.elim);have G:OwM p B (.slice Q D.n sc) D R:=l.own.kept (z0b i none) (by simp);have a2:w.heap.size<=u:=by omega
 have X:db≠u:=by have:=l.lt;omega
 have S:=BlkB.c0 c;have N:=BlkB.c1 c;have P:=BlkB.c2 c;have Y:=BlkB.c3 c;have W:=BlkB.c5 c;have T:=BlkB.c6 c;rw[g] at S N P Y W T;obtain⟨⟨Z,r1,r2,U⟩,s⟩:=cells4 m;have f0:=s 0;have f1:=s 1;have f2:=s 2;have O:=s 3;clear s;rw[g,C] at Z r1 r2 U f0 f1 f2 O;have a7:((D.n:Nat):Int)<=100000:=by omega
 have a1:=qh m;clear m;have a4:=qh i;clear i;have a6:=qh G;clear G;have K:=qh l;clear l h2;have a5:=qh c;clear c k;by_cases E:fl=0
 ·subst E;by_cases j:D.n<=3000
  ·have A:decide ((3000:Int)<(D.n:Int))=false:=by simp;omega
   by_cases o:ac<=30000
   ·have H:decide ((30000:Int)<ac)=false:=by simp;omega
    have J:=qh (show dnOk 0 D.n ac from ⟨rfl,j,o⟩)
    go_enter func94,ntmps94
    go_wp2_with fail
    exact bodyPost_ret (z0j rfl _ (b:=w.heap.size) rfl rfl (heap_alloc_new w _)) rfl ⟨(Below.refl _ w).alloc nlr _,.inl ⟨J.out,_,R,rfl,K.out.own.kept (z:=none) (World.grownBy_alloc _ _ _) (by simp)⟩⟩
   have H:(30000:Int)<ac:=by omega
   have d:=qh (show ¬ dnOk 0 D.n ac from fun h=>o h.2.2);clear o
   go_enter func94,ntmps94
   go_wp2_with fail
   exact bodyPost_ret (z0j rfl _ (b:=w.heap.size) rfl rfl (heap_alloc_new w _)) rfl ⟨(Below.refl _ w).alloc nlr _,.inr ⟨d.out,rfl⟩⟩
  have A:(3000:Int)<(D.n:Int):=by omega
  have d:=qh (show ¬ dnOk 0 D.n ac from fun h=>j h.2.1);clear j
  go_enter func94,ntmps94
  go_wp2_with fail
  exact bodyPost_ret (z0j rfl _ (b:=w.heap.size) rfl rfl (heap_alloc_new w _)) rfl ⟨(Below.refl _ w).alloc nlr _,.inr ⟨d.out,rfl⟩⟩
 have d:=qh (show ¬ dnOk fl D.n ac from fun h=>E h.1)
 go_enter func94,ntmps94
 go_wp2_with fail
 exact bodyPost_ret (z0j rfl _ (b:=w.heap.size) rfl rfl (heap_alloc_new w _)) rfl ⟨(Below.refl _ w).alloc nlr _,.inr ⟨d.out,rfl⟩⟩
def lvN (o:Option Nat):Int:=if o.isSome then 1 else 0
def LvF (nf:FuncId) (cap:Array Value) (o:Option Nat) (B db:Nat) (P:World->Prop):Prop :=
 (∀ args w,(callFunc nf args).run prog w=.ok (.enter nf args) w)/\∀ (F:Nat->Prop) (w:World) (D:MD) (one:ByteArray) (ac fl:Int) (s:Nat) (f:ByteArray),P w->BlS F B db D one ac fl w->B<=w.heap.size->s<D.n->D.n<=100000->D.na s<=100000->0<=ac->ac<=100000 ->
  Calls prog nf (#[.int .i64 (s:Int),.string f]++cap) w (fun r w'=>r=.returned (.tuple #[])/\BlN F B db (lvD o s f D) one (ac+lvN o) fl w w')
theorem x8t:∀ args w,(callFunc 111 args).run prog w=.ok (.enter 111 args) w:=fun args w=>by kernel_rfl
theorem x9c:∀ args w,(callFunc 140 args).run prog w=.ok (.enter 140 args) w:=fun args w=>by kernel_rfl
theorem u2e (B db:Nat):LvF 111 #[] none B db (fun _=>True):=by
 refine⟨x8t,fun F w D one g c s f _ h m o k i j l=>?_⟩;rw[show ∀ a b:Value,(#[a,b]++#[]:Array Value)=#[a,b] from fun _ _=>rfl];have d:=qh h;clear h
 go_enter func111,ntmps111
 go_wp2_with fail
 go_end0
 refine⟨rfl,?_⟩;show BlN F B db D one (g+0) c w w;rw[Int.add_zero];exact⟨d.out,fun _ _=>rfl,blr⟩
def PLk (db cx tx t:Nat) (w:World):Prop:=w.heap[cx]?=some (.cells #[.pointer (some ⟨db,0,none⟩)] 110 (0,0))/\w.heap[tx]?=some (.cells #[.int .i64 (t:Int)] 3 (0,0))
theorem u2q (B db z G t:Nat):LvF 140 #[.pointer (some ⟨z,0,none⟩),.pointer (some ⟨G,0,none⟩)] (some t) B db (PLk db z G t):=by
 refine⟨x9c,fun F w D one W U s f Y h hB N Z Q h0 h1=>?_⟩;rw[show ∀ a b c d:Value,(#[a,b]++#[c,d]:Array Value)=#[a,b,c,d] from fun _ _ _ _=>rfl];obtain⟨R,sv,i,H⟩:=h;obtain⟨g,cp,rfl,J,a3,_,_⟩:=z7z i.own.top (by omega);obtain⟨k,o⟩:=Y;have a1:(s:Int)<(D.n:Int):=by omega
 have T:(0:Int)<=(s:Int):=by omega
 have k1:w.cell? ⟨z,0,none⟩=some (.pointer (some ⟨db,0,none⟩)):=by simp[World.cell?,k]
 have d3:=BlkB.c3 i.blk;have g0:=i.own.fin_cell N;have fg:=z5z i.own.top (s*2);obtain⟨l,j⟩:=exq (w.setCell ⟨g,s*2,none⟩ (.string ⟨#[]⟩));have I:db≠g:=fun e=>z2p i.own.top i.blk (by decide) (by rw[e];rfl);have O:z≠g:=fun e=>z2p i.own.top k (by decide) (by rw[e];rfl);have L:G≠g:=fun e=>z2p i.own.top o (by decide) (by rw[e];rfl);have m:BlS F B db (D.setFin s ⟨#[]⟩) one W U l:=by
  rw[j];refine⟨R,_,⟨by rw[z0e I];exact i.blk,i.own.setFin N ⟨#[]⟩,i.low⟩,fun b hb=>⟨(H b hb).1,by rw[nblk_setCell];exact(H b hb).2.1,(H b hb).2.2⟩⟩
 have C:l.cell? ⟨z,0,none⟩=some (.pointer (some ⟨db,0,none⟩)):=by rw[j];simp[World.cell?,z0e (p:=⟨g,s*2,none⟩) O,k]
 have E:l.cell? ⟨G,0,none⟩=some (.int .i64 (t:Int)):=by rw[j];simp[World.cell?,z0e (p:=⟨g,s*2,none⟩) L,o]
 have K:B<=l.heap.size:=by rw[j,nblk_setCell];exact hB
 have A:=qh (v4b (t:Int) f l m h0 h1 K N Z Q);have u:BlN F B db (D.setFin s ⟨#[]⟩) one W U w l:=⟨m,fun b hb=>by
  rw[j,z0e (show b≠g from fun e=>(H b hb).2.2.1 (by rw[e];rfl))],by rw[j];exact(Below.refl B w).setCell (p:=⟨g,s*2,none⟩) J _⟩
 have P:=qh u;clear u m;have a2:=qh i;clear i k o;rw[j] at C E
 go_enter func140,ntmps140
 go_wp2_with fail
 rw[<- j];clear k1 d3 g0 fg C E j;refine A.out.mono ?_;rintro r w2 ⟨rfl,X⟩;have S:=qh (P.out.trans X);clear X A
 go_wp2_with fail
 go_end0
 exact⟨rfl,S.out⟩
theorem v0m (db t:Nat) (w:World):Calls prog 112 #[.pointer (some ⟨db,0,none⟩),.int .i64 (t:Int)] w (fun r w'=>∃ cx tx,r=.returned (.func (.func 140) #[] #[.pointer (some ⟨cx,0,none⟩),.pointer (some ⟨tx,0,none⟩)])/\PLk db cx tx t w'/\w.heap.size<=cx/\w.heap.size<=tx/\Below w.heap.size w w'):=by
 have u:∀ (fn:Fn) (first cap:Array Value) (w:World),(Instr.makeFunc fn first cap).run prog w=.ok (.func fn first cap) w:=fun _ _ _ _=>rfl
 obtain⟨d,c⟩:=exq (w.alloc (.cells #[.pointer (some ⟨db,0,none⟩)] 110));obtain⟨i,h⟩:=exq (d.alloc (.cells #[.int .i64 (t:Int)] 3));have j:d.heap.size=w.heap.size+1:=by rw[c];simp
 have l:Fr (fun _=>False) w d:=by rw[c];exact Fr.alloc _ _
 have g:Fr (fun _=>False) d i:=by rw[h];exact Fr.alloc _ _
 have o:d.heap[w.heap.size]?=some (.cells #[.pointer (some ⟨db,0,none⟩)] 110 (0,0)):=by rw[c];exact heap_alloc_new w _
 have p:i.heap[w.heap.size+1]?=some (.cells #[.int .i64 (t:Int)] 3 (0,0)):=by rw[<- j,h];exact heap_alloc_new d _
 have k:PLk db w.heap.size (w.heap.size+1) t i:=⟨(g.block _ (by omega) (fun e=>e)).trans o,p⟩;have hb:Below w.heap.size w i:=(l.trans g).below nlr (fun _ e=>e.elim);have m:=qh k;clear k o p l g j;have s:=qh hb;clear hb
 go_enter func112,ntmps112
 go_wp2_with fail
 rw[<- c,<- h];go_ret;exact⟨_,_,rfl,m.out,nlr,Nat.le_succ _,s.out⟩
end
section
open Go.RowKit Go.Deep
theorem BlN.alloc {F:Nat->Prop} {B db:Nat} {D:MD} {one:ByteArray} {ac fl:Int} {w c:World} (h:BlN F B db D one ac fl w c) (g:B<=w.heap.size) (o:Obj):BlN F B db D one ac fl w (c.alloc o):=by
 have hb:=(Below.refl c.heap.size c).alloc nlr o;exact⟨h.1.kept hb,fun b d=>(hb.block b (h.1.lt.2.2 b d)).trans (h.2.1 b d),h.2.2.trans (hb.mono (Nat.le_trans g h.2.2.size))⟩
theorem BlS.join {F:Nat->Prop} {B db:Nat} {D:MD} {one:ByteArray} {ac fl:Int} {w:World} (h:BlS F B db D one ac fl w) (o:Obj):BlS (fun b=>F b\/b=w.heap.size) B db D one ac fl (w.alloc o) :=
 (h.grown ((Below.refl w.heap.size w).alloc nlr o)).sub (fun b hb=>hb.imp id (fun e=>by subst e;simp))
theorem BlN.refl {F:Nat->Prop} {B db:Nat} {D:MD} {one:ByteArray} {ac fl:Int} {w:World} (h:BlS F B db D one ac fl w):BlN F B db D one ac fl w w:=⟨h,fun _ _=>rfl,blr⟩
theorem u2h (D:MD) (low i:Nat) (M:MD):∀ d,(cpA D low i d M).n=M.n:=fun d=>(y0t D low i (Skel.refl M) d).n
def cpX (D:MD) (o:Option Nat):Nat->Nat
 | 0=>0
 | i+1=>cpX D o i+D.na i+(if D.fin i=⟨#[]⟩ then 0 else if o.isSome then 1 else 0)
theorem x0x (D:MD) (o:Option Nat):∀ i,cpX D o i<=cpC D o i
 | 0=>Nat.zero_le _
 | i+1=>by
  have h:=x0x D o i;unfold cpC at h ⊢;show cpX D o i+D.na i+(if D.fin i=⟨#[]⟩ then 0 else if o.isSome then 1 else 0)<=z0f D i+D.na i+_
  split<;>split at h<;>simp_all<;>omega
def cpyE (F:Nat->Prop) (B db:Nat) (D M:MD) (o:Option Nat) (one:ByteArray) (ac fl:Int) (w:World) (r:Ending) (w':World):Prop :=
 r=.returned (.int .i64 ((M.n:Int)+D.start))/\BlN F B db (z4k D o M) one (ac+(cpX D o D.n:Int)) fl w w'
theorem v8c {F:Nat->Prop} {db N c:Nat} {D M:MD} {sv:Value} {nf:FuncId} {cap:Array Value} {o:Option Nat} {P:World->Prop} {one:ByteArray} {ac fl:Int} (z w:World) (hV:VM D) (hS:MSz D) (hD:StS none z sv D) (e9:Below z.heap.size z w)
  (f0:BlS F z.heap.size db M one ac fl w) (hk:M.kind=D.kind) (j0:BOk M N c) (hN:M.n+D.n<=N) (j7:N<=10000) (ho:∀ t,o=some t->t<N) (hc:c+cpC D o D.n<=90000) (o7:0<=ac) (i9:ac+(cpC D o D.n:Int)<=90000)
  (m2:LvF nf cap o z.heap.size db P) (hP:P w) (f2:∀ wa wb,P wa->(∀ b,F b->wb.heap[b]?=wa.heap[b]?)->P wb) :
  Calls prog 110 #[.pointer (some ⟨db,0,none⟩),.agg #[.int .i64 D.kind,.int .i64 D.start,.string D.lead,sv],.func (.func nf) #[] cap] w (cpyE F z.heap.size db D M o one ac fl w):=by
 obtain⟨a,cp,b,c7,A,C,BB,O,rfl,ha,p7,hm,hb,d8⟩:=hD.open;unfold maxLen at hm;obtain⟨p0,j6⟩:=m2;obtain⟨n,hn⟩:=exq (D.n);obtain⟨low,a4⟩:=exq (M.n);have o8:n<=3000:=by rw[hn];exact hV.n2
 have p9:1<=n:=by rw[hn];exact hV.n1
 obtain⟨st,k0⟩:∃ st:Nat,D.start=(st:Int):=⟨D.start.toNat,by have:=hV.s0;omega⟩;have n6:st<n:=by have:=hV.s1;omega
 have o3:low<=10000:=by omega
 obtain⟨W,I⟩:=exq (w.alloc (.cells #[.int .i64 D.kind,.int .i64 (st:Int),.string D.lead,.slice a n cp] 24));obtain⟨mb,a3⟩:=exq (w.heap.size);have m7:z.heap.size<=w.heap.size:=e9.size;have g2:W.heap[mb]?=some (.cells #[.int .i64 D.kind,.int .i64 (st:Int),.string D.lead,.slice a n cp] 24 (0,0)):=by rw[I,a3];exact heap_alloc_new w _
 have hj:=f0.join (.cells #[.int .i64 D.kind,.int .i64 (st:Int),.string D.lead,.slice a n cp] 24);rw[<- I] at hj;obtain⟨F1,b7⟩:∃ F1:Nat->Prop,F1=fun b=>F b\/b=w.heap.size:=⟨_,rfl⟩;rw[<- b7] at hj;have e8:Below z.heap.size w W:=by rw[I];exact((Below.refl z.heap.size w).alloc m7 _)
 have j3:BlN F1 z.heap.size db (stsD D 0 M) one ac fl W W:=BlN.refl hj;have h9:F1 mb:=by rw[b7,a3];exact .inr rfl
 have g7:∀ b,F b->F1 b:=fun b hb=>by rw[b7];exact .inl hb
 have f4:∀ b,F b->W.heap[b]?=w.heap[b]?:=fun b hb=>by rw[I];exact blk_alloc_lt _ _ _ (f0.lt.2.2 b hb)
 have d4:P W:=f2 w W hP f4;obtain⟨_,_,R,_⟩:=f0;have d3:=BlkB.c3 R.blk;obtain⟨sa,sc,l4,_,_⟩:=z0y R.own.top;subst l4;have i5:=BlkB.c3 ((((Below.refl w.heap.size w).alloc nlr (.cells #[.int .i64 D.kind,.int .i64 (st:Int),.string D.lead,.slice a n cp] 24)).block _ R.lt).trans R.blk);have m3:=(cells4 g2).1.2.2.2;rw[I,a3] at m3;rw[<- a4] at i5;clear d3 R;have HN:=qh hn;clear hn;have s:=qh a4;have j5:=qh k0;clear k0;have HV:=qh hV;clear hV;have b4:=qh hS;clear hS;have HA:=qh ha;clear ha;have HB:=qh hb;clear hb;have HR:=qh d8;clear d8 hD;have l3:=qh j6;clear j6;have l1:=qh f2;clear f2 hP;have a9:=qh (e9.trans e8);clear e9;have i2:=qh e8;clear e8;have g3:=qh g7;clear g7 b7;have m5:=qh f4;clear f4;have h0:=qh h9;clear h9;have j9:=qh g2;clear g2 hj;have l5:=qh d4;clear d4;have l8:=qh j0;clear j0;have i7:=qh hk;clear hk;have HO:=qh ho;clear ho;have HC:=qh hc;clear hc;have g9:=qh i9;clear i9;have b9:=qh hN;clear hN;have o6:=qh j7;clear j7;have j2:=qh j3;clear j3;obtain rfl:=HA.out (by have:=HN.out;omega);rw[j5.out,<- HN.out]
 go_enter func110,ntmps110
 go_wp2_with fail
 rw[<- I,<- a3];clear i5 m3 a4;have o4:=qh I;clear I;have o5:=qh a3;clear a3;rw[<- s.out]
 go_loopw [23] (fun f9 wr=>∃ i:Nat,i<=n/\f9=.int .i64 (i:Int)/\BlN F1 z.heap.size db (stsD D i M) one ac fl W wr) (fun f9 _=>n-(intOf f9).toNat)
 case atStart=>exact⟨0,Nat.zero_le _,rfl,j2.out⟩
 obtain⟨i,hi,rfl,J⟩:=hrel;clear j2;have l:=qh J;clear J;by_cases m4:i<n
 ·have k9:(i:Int)<(n:Int):=by omega
  have h5:(0:Int)<=(i:Int):=by omega
  have a1:i<D.n:=by have:=HN.out;omega
  have b1:=(HB.out (by omega)).1;obtain⟨k1,k2,_⟩:=HR.out i a1;have k:=a9.out.trans l.out.2.2;have t0:=(k.cell (p:=⟨b,c7+i*2,none⟩) b1).trans k1;have t1:=(k.cell (p:=⟨b,c7+i*2+1,none⟩) b1).trans k2;clear k1 k2;obtain⟨E,X⟩:=exq (D.fin i);obtain⟨ri,l9⟩:=exq (Value.slice (A i) (D.na i) (C i));rw[<- X] at t0;obtain⟨w2,u⟩:=exq (wr.alloc (.cells #[.string E,.slice (A i) (D.na i) (C i)] 57));have d0:z.heap.size<=W.heap.size:=a9.out.size;have G:=l.out.alloc d0 (.cells #[.string E,.slice (A i) (D.na i) (C i)] 57);rw[<- u] at G;have g:=x2t E w2 G.1 (by have:=G.2.2.size;omega) (by rw[y4k];have:=s.out;omega);rw[show (stsD D i M).state E=stsD D (i+1) M from by rw[X];rfl] at g;have h:=qh g;clear g l9;have Z:=qh G;clear G l X k
  go_wp2_with fail
  rw[<- u];clear t0 t1 u;refine h.out.mono ?_;rintro r w3 ⟨rfl,h3⟩;have b6:=qh (Z.out.trans h3);clear h3 Z h;go_wp2;go_roundw
  case rel=>exact⟨i+1,by omega,by go_num,b6.out⟩
  simp[intOf];omega
 have i6:n=i:=by omega
 subst i6;have e1:¬ ((n:Int)<(n:Int)):=by omega
 have U:=(l.out.2.1 mb h0.out).trans j9.out;have m3:=(cells4 U).1.2.2.2;have d2:BlN F1 z.heap.size db (cpQ D low o 0 (stsD D D.n M)) one (ac+(cpX D o 0:Int)) fl W wr:=by
  have:=l.out;rw[HN.out] at this;rw[show (cpX D o 0:Int)=0 from rfl,Int.add_zero];exact this
 have d9:=y4m HV.out b4.out i7.out l8.out D.n nlr;have g8:(stsD D D.n M).kind=D.kind:=(y0q D M D.n).1.trans i7.out;have e3:=qh d9;clear d9;have c8:=qh g8;clear g8;have e0:=qh d2;clear d2 l U
 go_wp2_with fail
 clear m3
 go_loopw [35] (fun g1 wr=>∃ i:Nat,i<=n/\g1=.int .i64 (i:Int)/\BlN F1 z.heap.size db (cpQ D low o i (stsD D D.n M)) one (ac+(cpX D o i:Int)) fl W wr) (fun g1 _=>n-(intOf g1).toNat)
 case atStart=>exact⟨0,Nat.zero_le _,rfl,e0.out⟩
 obtain⟨i,p6,rfl,J⟩:=hrel;clear e0;have l:=qh J;clear J;by_cases m4:i<n
 ·have k9:(i:Int)<(n:Int):=by omega
  have h5:(0:Int)<=(i:Int):=by omega
  have a1:i<D.n:=by have:=HN.out;omega
  have b1:=(HB.out (by omega)).1;obtain⟨k1,k2,k3,k4,k5,k6,k7⟩:=HR.out i a1;have k:=a9.out.trans l.out.2.2;have t0:=(k.cell (p:=⟨b,c7+i*2,none⟩) b1).trans k1;have t1:=(k.cell (p:=⟨b,c7+i*2+1,none⟩) b1).trans k2;clear k1 k2;obtain⟨E,X⟩:=exq (D.fin i);obtain⟨ai,f1⟩:=exq (A i);obtain⟨ni,a2⟩:=exq (D.na i);obtain⟨ci,j4⟩:=exq (C i);rw[<- X] at t0;rw[<- f1,<- a2,<- j4] at t1;rw[<- f1,<- a2] at k5;rw[<- a2] at k6 k7;have o2:ni<=30000:=by rw[a2];have h1:=Nat.le_trans (z1u D (show i+1<=D.n by omega)) HV.out.arcs;have h2:z0f D (i+1)=z0f D i+D.na i:=rfl;omega
  have a8:=qh X;clear X;have H:=qh a2;clear a2;clear f1 j4 k3 k4;have l6:=qh k5;clear k5;have l0:=qh k6;clear k6;have l2:=qh k7;clear k7;obtain⟨w2,u⟩:=exq (wr.alloc (.cells #[.string E,.slice ai ni ci] 57));obtain⟨sb,a6⟩:=exq (wr.heap.size);have d0:z.heap.size<=W.heap.size:=a9.out.size;have e6:z.heap.size<=wr.heap.size:=k.size;have f7:w2.heap[sb]?=some (.cells #[.string E,.slice ai ni ci] 57 (0,0)):=by rw[u,a6];exact heap_alloc_new wr _
  have c9:=l.out.1.join (.cells #[.string E,.slice ai ni ci] 57);rw[<- u,<- a6] at c9;obtain⟨F2,b8⟩:∃ F2:Nat->Prop,F2=fun b=>F1 b\/b=sb:=⟨_,rfl⟩;rw[<- b8] at c9;have j8:F2 sb:=by rw[b8];exact .inr rfl
  have e2:∀ b,F1 b->F2 b:=fun b hb=>by rw[b8];exact .inl hb
  have G:=l.out.alloc d0 (.cells #[.string E,.slice ai ni ci] 57);rw[<- u] at G;have d5:BlN F2 z.heap.size db (cpA D low i 0 (cpQ D low o i (stsD D D.n M))) one (ac+(cpX D o i:Int)+((0:Nat):Int)) fl w2 w2:=by
   rw[show ((0:Nat):Int)=0 from rfl,Int.add_zero];exact BlN.refl c9
  have s1:w2.cell? ⟨sb,1,none⟩=some (.slice ai ni ci):=by simp[World.cell?,f7]
  rw[u,a6] at s1;have d6:=qh d5;clear d5 c9;have Z:=qh G;clear G l k;have j1:=qh f7;clear f7;have m8:=qh j8;clear j8;have d7:=qh e2;clear e2 b8
  go_wp2_with fail
  rw[<- u,<- a6];clear t0 t1 u a6 s1;have h7:cpC D o i<=cpC D o D.n:=by
   unfold cpC;have h1:=z1u D (show i<=D.n by omega)
   split<;>omega
  have j:cpC D o i+ni+(if o.isSome then 1 else 0)=cpC D o (i+1):=by
   rw[H.out];unfold cpC;show z0f D i+_+D.na i+_=z0f D i+D.na i+_
   split<;>omega
  have B:cpC D o (i+1)<=cpC D o D.n:=by
   unfold cpC;have h1:=z1u D (show i+1<=D.n by omega)
   split<;>omega
  have e5:=qh j;clear j;have e4:=qh B;clear B h7
  go_loopw [43] (fun f3 wr=>∃ d:Nat,d<=ni/\f3=.int .i64 (d:Int)/\BlN F2 z.heap.size db (cpA D low i d (cpQ D low o i (stsD D D.n M))) one (ac+(cpX D o i:Int)+(d:Int)) fl w2 wr) (fun f3 _=>ni-(intOf f3).toNat)
  case atStart=>exact⟨0,Nat.zero_le _,rfl,d6.out⟩
  obtain⟨d,hd,rfl,J⟩:=hrel;clear d6;have L:=qh J;clear J;by_cases i4:d<ni
  ·have o9:(d:Int)<(ni:Int):=by omega
   have n9:(0:Int)<=(d:Int):=by omega
   have b5:=(l0.out (by omega)).1;obtain⟨t0,t1,t2,t3⟩:=l2.out d i4;obtain rfl:=l6.out (by omega);have k:=(a9.out.trans Z.out.2.2).trans L.out.2.2;have c0:=(k.cell (p:=⟨BB i,O i+d*4,none⟩) b5).trans t0;have c1:=(k.cell (p:=⟨BB i,O i+d*4+1,none⟩) b5).trans t1;have c2:=(k.cell (p:=⟨BB i,O i+d*4+2,none⟩) b5).trans t2;have c3:=(k.cell (p:=⟨BB i,O i+d*4+3,none⟩) b5).trans t3;clear t0 t1 t2 t3;have g0:=HV.out.arc i d a1 (by rw[<- H.out];exact i4);obtain⟨tn,g5⟩:∃ tn:Nat,D.ato i d=(tn:Int):=⟨(D.ato i d).toNat,by have:=g0.t0;omega⟩;have n7:tn<n:=by have:=g0.t1;have:=HN.out;omega
   rw[g5] at c3;have l7:=qh g5;clear g5 g0;clear k;have e6:z.heap.size<=w2.heap.size:=Nat.le_trans d0 Z.out.2.2.size;obtain⟨w3,f8⟩:=exq (wr.alloc (.cells #[.int .i64 (D.ain i d),.int .i64 (D.aout i d),.string (D.aw i d),.int .i64 ((tn:Int)+(low:Int))] 59));have a7:=L.out.alloc e6 (.cells #[.int .i64 (D.ain i d),.int .i64 (D.aout i d),.string (D.aw i d),.int .i64 ((tn:Int)+(low:Int))] 59);rw[<- f8] at a7;have K:=x4p HV.out b4.out a1 (N:=N) (low:=low) (by have:=b9.out;have:=s.out;omega) (by rw[(y3d _ _ _ _ _).1];exact c8.out) (y6p HV.out b4.out (low:=low) (o:=o) HO.out (by have:=b9.out;have:=s.out;omega) c8.out e3.out i (by omega)) d (by rw[<- H.out];omega);have T:=K.na (low+i);have i8:=HV.out.n2;have Y:(cpA D low i d (cpQ D low o i (stsD D D.n M))).n=low+D.n:=by rw[u2h,(y3d _ _ _ _ _).2.2.2,y4k,<- s.out]
   have j:=e5.out;have B:=e4.out;have g6:=HC.out;have i3:=x0x D o i;have f5:=g9.out;have b3:=Nat.le_trans T (show c+cpC D o i+d<=100000 by split at j<;>omega)
   have a5:ac+(cpX D o i:Int)+(d:Int)<=100000:=by split at j<;>omega
   have b0:0<=ac+(cpX D o i:Int)+(d:Int):=by omega
   have g:=u0p (q:=low+i) (D.ain i d) (D.aout i d) ((tn:Int)+(low:Int)) (D.aw i d) w3 a7.1 b0 a5 (by have:=a7.2.2.size;omega) (by rw[Y];omega) (by rw[Y];omega) b3;have S:(cpA D low i d (cpQ D low o i (stsD D D.n M))).arc (low+i) (D.ain i d) (D.aout i d) (D.aw i d) ((tn:Int)+(low:Int))=cpA D low i (d+1) (cpQ D low o i (stsD D D.n M)):=by rw[<- l7.out];rfl
   rw[S,show ((low+i:Nat):Int)=(low:Int)+(i:Int) by omega,show ac+(cpX D o i:Int)+(d:Int)+1=ac+(cpX D o i:Int)+((d+1:Nat):Int) by omega] at g;have h:=qh g;clear g S j B g6 f5 Y T K i8;have b6:=qh a7;clear a7 L
   go_wp2_with fail
   rw[<- f8];clear c0 c1 c2 c3 f8;refine h.out.mono ?_;rintro r w4 ⟨rfl,h4⟩;have g4:=qh (b6.out.trans h4);clear h4 b6 h;go_wp2;go_roundw
   case rel=>exact⟨d+1,by omega,by go_num,g4.out⟩
   simp[intOf];omega
  have n5:ni=d:=by omega
  subst n5;have e1:¬ ((ni:Int)<(ni:Int)):=by omega
  have U:=(L.out.2.1 sb m8.out).trans j1.out;have s0:wr.cell? ⟨sb,0,none⟩=some (.string E):=by simp[World.cell?,U]
  have e7:BlN F1 z.heap.size db (cpA D low i ni (cpQ D low o i (stsD D D.n M))) one (ac+(cpX D o i:Int)+(ni:Int)) fl W wr:=⟨L.out.1.sub d7.out,fun b hb=>(L.out.2.1 b (d7.out b hb)).trans (Z.out.2.1 b hb),Z.out.2.2.trans L.out.2.2⟩;have m:=qh e7;clear e7 L U;by_cases Q:E=⟨#[]⟩
  ·have S:cpQ D low o (i+1) (stsD D D.n M)=cpA D low i ni (cpQ D low o i (stsD D D.n M)):=by
    show cpF D low o i (cpA D low i (D.na i) (cpQ D low o i (stsD D D.n M)))=_;unfold cpF;rw[if_pos (by rw[<- a8.out];exact Q),H.out]
   have b2:cpX D o (i+1)=cpX D o i+ni:=by
    show cpX D o i+D.na i+(if D.fin i=⟨#[]⟩ then 0 else if o.isSome then 1 else 0)=_
    rw[if_pos (by rw[<- a8.out];exact Q),H.out];omega
   have hB:=m.out;rw[<- S,show ac+(cpX D o i:Int)+(ni:Int)=ac+(cpX D o (i+1):Int) by rw[b2];omega] at hB;have n3:=qh hB;clear hB S b2 m;subst Q;go_wp2;go_roundw
   case rel=>exact⟨i+1,by omega,by go_num,n3.out⟩
   simp[intOf];omega
  have q7:(E.toList==[])=false:=by
   cases hE:(E.toList==[])
   ·rfl
   exact absurd (z7g hE) Q
  have S:cpQ D low o (i+1) (stsD D D.n M)=lvD o (low+i) E (cpA D low i ni (cpQ D low o i (stsD D D.n M))):=by
   show cpF D low o i (cpA D low i (D.na i) (cpQ D low o i (stsD D D.n M)))=_;unfold cpF;rw[if_neg (by rw[<- a8.out];exact Q),H.out,a8.out]
  have b2:((cpX D o (i+1):Nat):Int)=(cpX D o i:Int)+(ni:Int)+lvN o:=by
   show ((cpX D o i+D.na i+(if D.fin i=⟨#[]⟩ then 0 else if o.isSome then 1 else 0):Nat):Int)=_
   rw[if_neg (by rw[<- a8.out];exact Q),H.out];unfold lvN
   split<;>omega
  have K:=x4p HV.out b4.out a1 (N:=N) (low:=low) (by have:=b9.out;have:=s.out;omega) (by rw[(y3d _ _ _ _ _).1];exact c8.out) (y6p HV.out b4.out (low:=low) (o:=o) HO.out (by have:=b9.out;have:=s.out;omega) c8.out e3.out i (by omega)) ni (by rw[<- H.out];omega);have T:=K.na (low+i);have i8:=HV.out.n2;have Y:(cpA D low i ni (cpQ D low o i (stsD D D.n M))).n=low+D.n:=by rw[u2h,(y3d _ _ _ _ _).2.2.2,y4k,<- s.out]
  have j:=e5.out;have B:=e4.out;have g6:=HC.out;have f5:=g9.out;have i3:=x0x D o i;have h8:P wr:=l1.out W wr l5.out (fun b hb=>m.out.2.1 b (g3.out b hb));have b3:=Nat.le_trans T (show c+cpC D o i+ni<=100000 by split at j<;>omega)
  have a5:ac+(cpX D o i:Int)+(ni:Int)<=100000:=by split at j<;>omega
  have b0:0<=ac+(cpX D o i:Int)+(ni:Int):=by omega
  have g:=l3.out F1 wr _ one _ fl (low+i) E h8 m.out.1 (by have:=m.out.2.2.size;omega) (by rw[Y];omega) (by rw[Y];omega) b3 b0 a5;rw[<- S,show ((low+i:Nat):Int)=(low:Int)+(i:Int) by omega,show ac+(cpX D o i:Int)+(ni:Int)+lvN o=ac+(cpX D o (i+1):Int) by rw[b2];omega] at g;have h:=qh g;clear g S b2 K T Y j B g6 f5 i3 h8;have p8:=qh Q;clear Q
  go_wp2_with fail
  refine h.out.mono ?_;rintro r w4 ⟨rfl,h4⟩;have g4:=qh (m.out.trans h4);clear h4 h m;go_wp2;go_roundw
  case rel=>exact⟨i+1,by omega,by go_num,g4.out⟩
  simp[intOf];omega
 have m9:n=i:=by omega
 subst m9;have e1:¬ ((n:Int)<(n:Int)):=by omega
 have U:=(l.out.2.1 mb h0.out).trans j9.out;have m1:=(cells4 U).1.2.1;have hB:=l.out;rw[HN.out] at hB;have d1:BlN F z.heap.size db (z4k D o M) one (ac+(cpX D o D.n:Int)) fl w wr:=by
  have e:z4k D o M=cpQ D low o D.n (stsD D D.n M):=by rw[s.out];rfl
  rw[e];exact⟨hB.1.sub g3.out,fun b hb=>(hB.2.1 b (g3.out b hb)).trans (m5.out b hb),i2.out.trans hB.2.2⟩
 have h6:=qh d1;clear d1 hB U l;go_wp2;go_ret;exact⟨by rw[<- s.out,j5.out];rfl,h6.out⟩
end
section
open Go.RowKit Go.Deep
def twoN (D E:MD) (e:Int):Prop:=(VM D/\VM E/\D.kind=E.kind/\e=0)\/(VM D/\VM E/\D.kind≠E.kind/\e=6)\/(¬ (VM D/\VM E)/\e=1)
def TwoE (D E:MD) (w:World) (r:Ending) (w':World):Prop:=Below w.heap.size w w'/\∃ e:Int,r=.returned (.int .i64 e)/\twoN D E e
theorem v5u {D E:MD} {mv nv:Value} (w:World) (hM:Ma none w mv D) (hN:Ma none w nv E) (Q:MSz D) (T:MSz E) (ht:Tab w):Calls prog 108 #[mv,nv] w (TwoE D E w):=by
 obtain⟨sv,rfl,hS⟩:=hM;obtain⟨sw,rfl,O⟩:=hN;obtain⟨a,cp,_,_,_,_,_,_,a5,_⟩:=hS.open;obtain⟨a2,F,_,_,_,_,_,_,a4,_⟩:=O.open;subst a5;subst a4;obtain⟨B,k⟩:=exq (w.alloc (.cells #[.int .i64 D.kind,.int .i64 D.start,.string D.lead,.slice a D.n cp] 24));obtain⟨z,l⟩:=exq (B.alloc (.cells #[.int .i64 E.kind,.int .i64 E.start,.string E.lead,.slice a2 E.n F] 24));have U:B.heap.size=w.heap.size+1:=by rw[k];simp
 have P:Fr (fun _=>False) w B:=by rw[k];exact Fr.alloc _ _
 have J:Fr (fun _=>False) B z:=by rw[l];exact Fr.alloc _ _
 have I:B.heap[w.heap.size]?=some (.cells #[.int .i64 D.kind,.int .i64 D.start,.string D.lead,.slice a D.n cp] 24 (0,0)):=by rw[k];exact heap_alloc_new w _
 have c:z.heap[w.heap.size]?=some (.cells #[.int .i64 D.kind,.int .i64 D.start,.string D.lead,.slice a D.n cp] 24 (0,0)):=(J.block _ (lt_of_block I) (fun e=>e)).trans I;have d:z.heap[w.heap.size+1]?=some (.cells #[.int .i64 E.kind,.int .i64 E.start,.string E.lead,.slice a2 E.n F] 24 (0,0)):=by rw[<- U,l];exact heap_alloc_new B _
 have u:Below w.heap.size w z:=(P.trans J).below nlr (fun _ e=>e.elim);obtain⟨mb,K⟩:=exq (w.heap.size);obtain⟨nb,N⟩:=exq (w.heap.size+1);obtain⟨⟨m0,m1,Z,Y⟩,_⟩:=cells4 c;have S:=qh (z2g z (⟨_,rfl,hS.kept (z0b u none)⟩:Ma none z (.agg #[.int .i64 D.kind,.int .i64 D.start,.string D.lead,.slice a D.n cp]) D) Q (ht.below u nlr));rw[<- K] at c;rw[<- N] at d;have G:=qh u;clear u;have g:=qh c;clear c I P J U;have i:=qh d;clear d;have a3:=qh O;clear O hS;have HT:=qh ht;clear ht Q;have a1:=qh T;clear T;rw[l,k] at m0 m1 Z Y
 go_enter func108,ntmps108
 go_wp2_with fail
 rw[<- k,<- l,<- N,<- K];clear m0 m1 Z Y k l K N;refine S.out.mono ?_;rintro r w3 ⟨o,hr⟩;have A:=G.out.trans (o.mono G.out.size);have c:=(o.block _ (lt_of_block g.out)).trans g.out;have d:=(o.block _ (lt_of_block i.out)).trans i.out;obtain⟨⟨m0,m1,Z,Y⟩,_⟩:=cells4 c;obtain⟨⟨n0,n1,n2,n3⟩,_⟩:=cells4 d;clear o g i S G;have j:=qh A;clear A;have g:=qh c;clear c;have i:=qh d;clear d
 rcases hr with ⟨m,rfl⟩|⟨m,rfl⟩
 rotate_left
 ·have W:=qh m;clear m;go_wp2;go_ret;exact⟨j.out,_,rfl,.inr (.inr ⟨fun h=>W.out h.1,rfl⟩)⟩
 have W:=qh m;clear m;have R:=qh (z2g w3 (⟨_,rfl,a3.out.kept (z0b j.out none)⟩:Ma none w3 (.agg #[.int .i64 E.kind,.int .i64 E.start,.string E.lead,.slice a2 E.n F]) E) a1.out (HT.out.below j.out nlr))
 go_wp2_with fail
 refine R.out.mono ?_;rintro r w4 ⟨p,hr⟩;have C:=j.out.trans (p.mono j.out.size);have c:=(p.block _ (lt_of_block g.out)).trans g.out;have d:=(p.block _ (lt_of_block i.out)).trans i.out;clear m0 m1 Z Y n0 n1 n2 n3;have m0:=(cells4 c).1.1;have n0:=(cells4 d).1.1;clear p g i R j c d;have L:=qh C;clear C
 rcases hr with ⟨m,rfl⟩|⟨m,rfl⟩
 rotate_left
 ·have s:=qh m;clear m;go_wp2;go_ret;exact⟨L.out,_,rfl,.inr (.inr ⟨fun h=>s.out h.2,rfl⟩)⟩
 have s:=qh m;clear m;by_cases X:D.kind=E.kind
 ·have H:=qh X;rw[X] at m0;clear X;go_wp2;go_ret;exact⟨L.out,_,rfl,.inl ⟨W.out,s.out,H.out,rfl⟩⟩
 have H:=qh X;go_wp2;go_ret;exact⟨L.out,_,rfl,.inr (.inl ⟨W.out,s.out,H.out,rfl⟩)⟩
section
variable {w:World} {db:Nat} {D:MD} {sv:Value} {one:ByteArray} {ac fl:Int} {t:TypeId} (h:w.heap[db]?=some (.cells (bcs D sv one ac fl) t (0,0)))
include h
theorem BlkB.set2 (s:ByteArray):(w.setCell ⟨db,2,none⟩ (.string s)).heap[db]?=some (.cells (bcs { D with lead:=s } sv one ac fl) t (0,0)):=by
 unfold bcs at h ⊢;simp[World.setCell,Array.getElem?_modify,h]
theorem BlkB.set1 (s:Int):(w.setCell ⟨db,1,none⟩ (.int .i64 s)).heap[db]?=some (.cells (bcs { D with start:=s } sv one ac fl) t (0,0)):=by
 unfold bcs at h ⊢;simp[World.setCell,Array.getElem?_modify,h]
end
theorem BlS.lead {F:Nat->Prop} {B db:Nat} {D:MD} {one:ByteArray} {ac fl:Int} {w:World} (h:BlS F B db D one ac fl w) (s:ByteArray):BlS F B db { D with lead:=s } one ac fl (w.setCell ⟨db,2,none⟩ (.string s)):=by
 obtain⟨R,sv,c,g⟩:=h;have d:=c.own.other (p:=⟨db,2,none⟩) (z2p c.own.top c.blk (by decide)) (fun i hi=>z2p (c.own.row i hi) c.blk (by decide)) (.string s);exact⟨R,sv,⟨BlkB.set2 c.blk s,⟨d.top,d.row,d.apart⟩,c.low⟩,fun b hb=>⟨(g b hb).1,by rw[nblk_setCell];exact(g b hb).2.1,(g b hb).2.2⟩⟩
theorem BlS.start {F:Nat->Prop} {B db:Nat} {D:MD} {one:ByteArray} {ac fl:Int} {w:World} (h:BlS F B db D one ac fl w) (s:Int):BlS F B db { D with start:=s } one ac fl (w.setCell ⟨db,1,none⟩ (.int .i64 s)):=by
 obtain⟨R,sv,c,g⟩:=h;have d:=c.own.other (p:=⟨db,1,none⟩) (z2p c.own.top c.blk (by decide)) (fun i hi=>z2p (c.own.row i hi) c.blk (by decide)) (.int .i64 s);exact⟨R,sv,⟨BlkB.set1 c.blk s,⟨d.top,d.row,d.apart⟩,c.low⟩,fun b hb=>⟨(g b hb).1,by rw[nblk_setCell];exact(g b hb).2.1,(g b hb).2.2⟩⟩
theorem BlS.cells {F:Nat->Prop} {B db:Nat} {D:MD} {one:ByteArray} {ac fl:Int} {w:World} (h:BlS F B db D one ac fl w):(∃ v,w.cell? ⟨db,1,none⟩=some (.int .i64 v))/\w.cell? ⟨db,2,none⟩=some (.string D.lead)/\∀ j,w.frozen? ⟨db,j,none⟩=false:=by
 obtain⟨R,sv,c,d⟩:=h;exact⟨⟨_,BlkB.c1 c.blk⟩,BlkB.c2 c.blk,BlkB.fz c.blk⟩
end
section
open Go.RowKit Go.Deep
section
variable {P:Program} {ops:Array Oper} {Q:Exit->Act->World->Prop} {S:World->Prop} {s:List Nat}
def AnyL (P:Program) (ops:Array Oper) (Q:Exit->Act->World->Prop) (S:World->Prop) (s:List Nat):Nat->Array Bool->Act->World->Prop
 | 0,listed,a,w=>Region.ready .any ops listed=[]/\Q .normal a w
 | fuel+1,listed,a,w=>(Region.ready .any ops listed=[]->Q .normal a w) /\
  ∀ i ∈ Region.ready .any ops listed,wpOp P ops Q i (fun a' w'=>(i ∈ s\/S w')/\AnyL P ops Q S s fuel (listed.setIfInBounds i true) a' w') a w
theorem AnyL.any:∀ (fuel:Nat) (listed:Array Bool) (a:Act) (w:World),AnyL P ops Q S s fuel listed a w->wpAny P .any ops Q fuel listed a w
 | 0,_,_,_,h=>h
 | fuel+1,_,_,_,h=>⟨h.1,fun i hi=>wpOp_mono (fun a' w' h'=>AnyL.any fuel _ a' w' h'.2) (h.2 i hi)⟩
theorem AnyL.first {i:Nat} {D:Oper} {v:Value} (hi:ops[i]?=some D) (C:∀ (j:Nat) (o:Oper) cs b,ops[j]?=some o->o.op≠.select cs b)
  (hQ:∀ c a w,Q (.panic c) (a.put D.dst v) w->Q (.panic c) a w) :
  ∀ (g:Nat) (d:Array Bool) (a:Act) (w:World),(∀ x ∈ s,d.getD x false=true\/waits ops ops.size x i=true) ->
   (∀ j oj,ops[j]?=some oj->j≠i->d.getD j true=false->(∀ e ∈ oj.after,Region.binds .any e=true->e.on≠i)->D.apart ops oj=true) ->
   i ∈ Region.ready .any ops d->Closed ops d->YieldsIf P ops S D v a->S w ->
   AnyL P ops Q S s g (d.setIfInBounds i true) (a.put D.dst v) w->AnyL P ops Q S s (g+1) d a w:=by
 intro g
 induction g with
 | zero =>
  intro d a w hw _ G F T I H;refine⟨fun h=>(by rw[h] at G;cases G),fun j J=>?_⟩;by_cases l:j=i
  ·subst l;exact T.wpOp hi I ⟨.inr I,H⟩
  have:=ready_mono J l;rw[H.1] at this;cases this
 | succ g ih =>
  intro d a w hw p G F T I H;refine⟨fun h=>(by rw[h] at G;cases G),fun j J=>?_⟩;by_cases l:j=i
  ·subst l;exact T.wpOp hi I ⟨.inr I,H⟩
  have U:=H.2 j (ready_mono J l);obtain⟨m,oj,A,B⟩:=mem_ready.1 J;have u:d.getD i false=false:=by
   have h0:=(mem_ready.1 G).1
   rcases Nat.lt_or_ge i d.size with E|E
   ·simp[E] at h0 ⊢;exact h0
   simp[Array.getElem?_eq_none E]
  have R:∀ e ∈ oj.after,Region.binds .any e=true->e.on≠i:=fun e he hb W=>by
   have U:=B e he hb;rw[W,u] at U;cases U
  have Z:j ∉ s:=fun e=>by
   have a2:d.getD j false=false:=by
    rcases Nat.lt_or_ge j d.size with E|E
    ·simp[E] at m ⊢;exact m
    simp[Array.getElem?_eq_none E]
   have a1:waits ops ops.size j i=true:=(hw j e).resolve_left (by rw[a2];simp);have:=y2a F _ _ a1 (fun o' L e he hb=>by rw[A] at L;cases L;exact B e he hb);rw[u] at this;cases this
  have h2:=wpOp_putIf A (p j oj A l m R) (fun cs b=>C i D cs b hi) (fun cs b=>C j oj cs b A) hQ T U;have z:∀ k ok,ops[k]?=some ok->k≠i->(d.setIfInBounds j true).getD k true=false ->
    (∀ e ∈ ok.after,Region.binds .any e=true->e.on≠i)->D.apart ops ok=true:=fun k ok hk Y O X=>by
   refine p k ok hk Y ?_ X;by_cases K:j=k
   ·subst K;exact m
   rw[getD_set_ne true K] at O;exact O
  refine wpOp_mono (fun a' w' h3=>?_) h2;have N:S w':=h3.2.1.resolve_left Z;refine⟨.inr N,ih (d.setIfInBounds j true) a' w' (fun x hx=>(hw x hx).imp (fun h=>getD_set_true h) id) z (ready_mono G (Ne.symm l)) (F.set J) h3.1 N ?_⟩;rw[Array.setIfInBounds_comm _ _ l];exact h3.2.2
theorem AnyL.firstP {i:Nat} {B:Oper} {v:Value} (G:i ∈ s) (hi:ops[i]?=some B) (z:∀ (j:Nat) (o:Oper) cs b,ops[j]?=some o->o.op≠.select cs b)
  (hQ:∀ c a w,Q (.panic c) (a.put B.dst v) w->Q (.panic c) a w) :
  ∀ (g:Nat) (d:Array Bool) (a:Act) (w:World),
   (∀ j oj,ops[j]?=some oj->j≠i->d.getD j true=false->(∀ e ∈ oj.after,Region.binds .any e=true->e.on≠i)->B.apart ops oj=true) ->
   i ∈ Region.ready .any ops d->YieldsIf P ops (fun _=>True) B v a ->
   AnyL P ops Q S s g (d.setIfInBounds i true) (a.put B.dst v) w->AnyL P ops Q S s (g+1) d a w:=by
 intro g
 induction g with
 | zero =>
  intro d a w _ D L H;refine⟨fun h=>(by rw[h] at D;cases D),fun j N=>?_⟩;by_cases l:j=i
  ·subst l;exact L.wpOp hi trivial ⟨.inl G,H⟩
  have:=ready_mono N l;rw[H.1] at this;cases this
 | succ g ih =>
  intro d a w m D L H;refine⟨fun h=>(by rw[h] at D;cases D),fun j N=>?_⟩;by_cases l:j=i
  ·subst l;exact L.wpOp hi trivial ⟨.inl G,H⟩
  have O:=H.2 j (ready_mono N l);obtain⟨u,oj,C,J⟩:=mem_ready.1 N;have E:d.getD i false=false:=by
   have Y:=(mem_ready.1 D).1
   rcases Nat.lt_or_ge i d.size with W|W
   ·simp[W] at Y ⊢;exact Y
   simp[Array.getElem?_eq_none W]
  have K:∀ e ∈ oj.after,Region.binds .any e=true->e.on≠i:=fun e he hb R=>by
   have O:=J e he hb;rw[R,E] at O;cases O
  have h2:=wpOp_putIf C (m j oj C l u K) (fun cs b=>z i B cs b hi) (fun cs b=>z j oj cs b C) hQ L O;have p:∀ k ok,ops[k]?=some ok->k≠i->(d.setIfInBounds j true).getD k true=false ->
    (∀ e ∈ ok.after,Region.binds .any e=true->e.on≠i)->B.apart ops ok=true:=fun k ok Z U I T=>by
   refine m k ok Z U ?_ T;by_cases F:j=k
   ·subst F;exact u
   rw[getD_set_ne true F] at I;exact I
  refine wpOp_mono (fun a' w' X=>?_) h2;refine⟨X.2.1,ih (d.setIfInBounds j true) a' w' p (ready_mono D (Ne.symm l)) X.1 ?_⟩;rw[Array.setIfInBounds_comm _ _ l];exact X.2.2
def tpBL (ops:Array Oper) (s:List Nat) (i:Nat) (listed:Array Bool):Bool:=s.contains i&&Region.noSelect ops&&Region.free .any ops listed i&&(Region.ready .any ops listed).contains i
theorem AnyL.tp {i:Nat} {j:Oper} {v:Value} {g:Nat} {d:Array Bool} {a:Act} {w:World} (hi:ops[i]?=some j) (hb:tpBL ops s i d=true) (k:YieldsIf P ops (fun _=>True) j v a)
  (h:AnyL P ops Q S s g (d.setIfInBounds i true) (a.put j.dst v) w) (hQ:∀ c a w,Q (.panic c) (a.put j.dst v) w->Q (.panic c) a w:=by exact fun _ _ _ h=>h):AnyL P ops Q S s (g+1) d a w:=by
 unfold tpBL at hb;simp only[Bool.and_eq_true] at hb;exact AnyL.firstP (by simpa using hb.1.1.1) hi (Region.noSelect_spec hb.1.1.2) hQ g d a w (Region.free_spec hi hb.1.2) (by simpa using hb.2) k h
theorem AnyL.take {i:Nat} {j:Oper} {v:Value} {g:Nat} {d:Array Bool} {a:Act} {w:World} (hi:ops[i]?=some j) (u:(s.all fun x=>d.getD x false||waits ops ops.size x i)=true) (k:y3n ops d=true)
  (p:Region.noSelect ops=true) (hf:Region.free .any ops d i=true) (m:(Region.ready .any ops d).contains i=true)
  (hQ:∀ c a w,Q (.panic c) (a.put j.dst v) w->Q (.panic c) a w) (z:S w) (l:YieldsIf P ops S j v a)
  (h:AnyL P ops Q S s g (d.setIfInBounds i true) (a.put j.dst v) w):AnyL P ops Q S s (g+1) d a w :=
 AnyL.first hi (Region.noSelect_spec p) hQ g d a w (fun x o=>by simpa using List.all_eq_true.1 u x o) (Region.free_spec hi hf) (by simpa using m) (y9t k) l z h
def tkBL (ops:Array Oper) (s:List Nat) (i:Nat) (listed:Array Bool):Bool:=(s.all fun x=>listed.getD x false||waits ops ops.size x i)&&y3n ops listed&&Region.noSelect ops&&Region.free .any ops listed i&&(Region.ready .any ops listed).contains i
theorem AnyL.tk {i:Nat} {j:Oper} {v:Value} {g:Nat} {d:Array Bool} {a:Act} {w:World} (hi:ops[i]?=some j) (hb:tkBL ops s i d=true) (l:S w) (k:YieldsIf P ops S j v a)
  (h:AnyL P ops Q S s g (d.setIfInBounds i true) (a.put j.dst v) w) (hQ:∀ c a w,Q (.panic c) (a.put j.dst v) w->Q (.panic c) a w:=by exact fun _ _ _ h=>h):AnyL P ops Q S s (g+1) d a w:=by
 unfold tkBL at hb;simp only[Bool.and_eq_true] at hb;exact AnyL.take hi hb.1.1.1.1 hb.1.1.1.2 hb.1.1.2 hb.1.2 hb.2 hQ l k h
theorem AnyL.one {i:Nat} {o:Oper} {d:Nat} {c:Array Bool} {a:Act} {w:World} (u:ops[i]?=some o) (m:Region.ready .any ops c=[i]) (g:Region.wanted o (yielded ops a.tmps)=true)
  (h:∀ K:Act->World->Prop,Shut (∀ a w,(i ∈ s\/S w)->AnyL P ops Q S s d (c.setIfInBounds i true) a w->K a w)->Oper.wp P o a w K Q):AnyL P ops Q S s (d+1) c a w:=by
 refine⟨fun l=>(by rw[m] at l;cases l),fun j k=>?_⟩;rw[m] at k;obtain rfl:j=i:=by simpa using k
 exact wpOp_step u (fun K p=>by rw[if_pos g];exact h K (fun a w A z=>p a w ⟨A,z⟩))
theorem AnyL.tm (i:Nat) {j:Oper} {v:Value} {g:Nat} {d:Array Bool} {a:Act} {w:World} (l:S w)
  (h:AnyL P ops Q S s g (d.setIfInBounds i true) (a.put j.dst v) w) (hi:ops[i]?=some j:=by rfl) (hb:tkBL ops s i d=true:=by kernel_rfl) (m:Region.wanted j (yielded ops a.tmps)=true:=by kernel_rfl)
  (k:∀ w,S w->(execOp a.eval j).run P w=.ok (.value v) w:=by (intro w h;go_simp;try with_reducible rfl)) (hQ:∀ c a w,Q (.panic c) (a.put j.dst v) w->Q (.panic c) a w:=by exact fun _ _ _ h=>h):AnyL P ops Q S s (g+1) d a w:=AnyL.tk hi hb l (.inl ⟨m,k⟩) h hQ
theorem AnyL.tq (i:Nat) {j:Oper} {v:Value} {g:Nat} {d:Array Bool} {a:Act} {w:World}
  (h:AnyL P ops Q S s g (d.setIfInBounds i true) (a.put j.dst v) w) (hi:ops[i]?=some j:=by rfl) (hb:tpBL ops s i d=true:=by kernel_rfl) (l:Region.wanted j (yielded ops a.tmps)=true:=by kernel_rfl)
  (k:∀ w,True->(execOp a.eval j).run P w=.ok (.value v) w:=by (intro w h;go_simp;try with_reducible rfl)) (hQ:∀ c a w,Q (.panic c) (a.put j.dst v) w->Q (.panic c) a w:=by exact fun _ _ _ h=>h):AnyL P ops Q S s (g+1) d a w:=AnyL.tp hi hb (.inl ⟨l,k⟩) h hQ
theorem AnyL.on (i:Nat) {o:Oper} {d:Nat} {c:Array Bool} {a:Act} {w:World} (h:∀ K:Act->World->Prop,Shut (∀ a w,(i ∈ s\/S w)->AnyL P ops Q S s d (c.setIfInBounds i true) a w->K a w)->Oper.wp P o a w K Q)
  (k:ops[i]?=some o:=by rfl) (j:Region.ready .any ops c=[i]:=by kernel_rfl) (g:Region.wanted o (yielded ops a.tmps)=true:=by rfl):AnyL P ops Q S s (d+1) c a w:=AnyL.one k j g h
theorem AnyL.done {listed:Array Bool} {a:Act} {w:World} (hr:Region.ready .any ops listed=[]) (h:Q .normal a w):∀ fuel,AnyL P ops Q S s fuel listed a w
 | 0=>⟨hr,h⟩
 | _+1=>⟨fun _=>h,by rw[hr];simp⟩
theorem AnyL.dn {c:Array Bool} {a:Act} {w:World} {d:Nat} (h:Q .normal a w) (g:Region.ready .any ops c=[]:=by kernel_rfl):AnyL P ops Q S s d c a w:=AnyL.done g h d
theorem AnyL.loose {late:List Nat}:∀ {fuel:Nat} {listed:Array Bool} {a:Act} {w:World},(∀ i,i<listed.size->listed.getD i true=false->i ∈ late)->AnyL P ops Q (fun _=>True) [] fuel listed a w->AnyL P ops Q S late fuel listed a w
 | 0,_,_,_,_,h=>h
 | fuel+1,listed,a,w,hl,h=>by
  refine⟨h.1,fun i hi=>wpOp_mono (fun a' w' h'=>⟨.inl ?_,AnyL.loose (fun j hj hf=>?_) h'.2⟩) (h.2 i hi)⟩
  ·obtain⟨h1,_⟩:=mem_ready.1 hi;refine hl i ?_ h1
   rcases Nat.lt_or_ge i listed.size with h' | h'
   ·exact h'
   simp[Array.getD,Nat.not_lt.2 h'] at h1
  refine hl j (by simpa using hj) ?_;by_cases e:i=j
  ·subst e;have hj':i<listed.size:=by simpa using hj
   simp[Array.getD,hj'] at hf
  rwa [getD_set_ne true e] at hf
def u5b (late:List Nat) (listed:Array Bool):Bool:=(List.range listed.size).all fun i=>listed.getD i true||late.contains i
theorem AnyL.loose' {d:List Nat} {g:Nat} {c:Array Bool} {a:Act} {w:World} (h:u5b d c=true) (j:AnyL P ops Q (fun _=>True) [] g c a w):AnyL P ops Q S d g c a w :=
 AnyL.loose (fun i hi hf=>by
  have:=List.all_eq_true.1 h i (List.mem_range.2 hi);rw[hf] at this;simpa using this) j
theorem x0z (S:World->Prop) (s:List Nat) {c:Nat} {a:Act} {w:World} (d:P.follows .mixedOrders=true)
  (h:AnyL P ops Q S s ops.size (Array.replicate ops.size false) a w.drew):(Code.region c ops true).wp P Q a w :=
 wp_region_any d (AnyL.any _ _ _ _ h)
end
end
section
open Go.RowKit Go.Deep
def SymF (nf:FuncId) (cap:Array Value) (φ:Int->Int->Int × Int) (P:World->Prop):Prop :=
 (∀ args w,(callFunc nf args).run prog w=.ok (.enter nf args) w)/\∀ w,P w->∀ i o:Int,0<=i->i<=500->0<=o->o<=500->Calls prog nf (#[.int .i64 i,.int .i64 o]++cap) w (fun r w'=>r=.returned (.tuple #[.int .i64 (φ i o).1,.int .i64 (φ i o).2])/\Below w.heap.size w w')
structure ApI (w wr:World) (cb rb g q:Nat) (fv:Value) (D:MD) (φ:Int->Int->Int × Int) (R A:Nat->Value):Prop where
 hb:Below w.heap.size w wr
 kc:wr.heap[cb]?=some (.cells #[fv] 69 (0,0))
 kr:wr.heap[rb]?=some (.cells #[.int .i64 D.kind,.int .i64 D.start,.string D.lead,.slice (some ⟨g,0,none⟩) D.n D.n] 24 (0,0))
 lr:w.heap.size<=rb
 top:wr.ownsRow w.heap.size 57 2 (.slice (some ⟨g,0,none⟩) D.n D.n) D.n (cat (st2 D (fun i=>if i<q then R i else A i)) D.n)
 row:∀ i,i<q->wr.ownsRow w.heap.size 59 4 (R i) (D.na i) (cat (arc4 (D.sym φ) i) (D.na i))
 apart:∀ i j,i<q->j<q->i≠j->∀ b,(R i).ownBlock=some b->(R j).ownBlock≠some b
def mixA (D:MD) (φ:Int->Int->Int × Int) (q d k:Nat):List Value:=if k<d then arc4 (D.sym φ) q k else arc4 D q k
theorem y0s (D:MD) (φ:Int->Int->Int × Int) (q d k:Nat):(mixA D φ q d k).length=4:=by unfold mixA;split<;>rfl
theorem v4m {D:MD} {φ:Int->Int->Int × Int} {q d n:Nat} (c:d<n):((cat (mixA D φ q d) n).set (d*4+0) (.int .i64 (φ (D.ain q d) (D.aout q d)).1)).set (d*4+1) (.int .i64 (φ (D.ain q d) (D.aout q d)).2)=cat (mixA D φ q (d+1)) n:=by
 have h:∀ k,((fun k=>if k=d then (mixA D φ q d d).set 0 (.int .i64 (φ (D.ain q d) (D.aout q d)).1) else mixA D φ q d k) k).length=4:=fun k=>by
  dsimp only;split
  ·rw[List.length_set,y0s]
  exact y0s _ _ _ _ _
 rw[y1p (y0s D φ q d) (by omega) _ c,y1p h (by omega) _ c];refine z2d fun k i=>?_;by_cases e:k=d
 ·subst e;simp only[if_pos];unfold mixA;rw[if_neg (Nat.lt_irrefl _),if_pos (Nat.lt_succ_self _)];rfl
 simp only[if_neg e];unfold mixA;by_cases g:k<d
 ·rw[if_pos g,if_pos (by omega)]
 rw[if_neg g,if_neg (by omega)]
theorem v5t {D:MD} {φ:Int->Int->Int × Int} {q n:Nat}:cat (mixA D φ q n) n=cat (arc4 (D.sym φ) q) n:=z2d fun k c=>by unfold mixA;rw[if_pos c]
theorem v1x {D:MD} {φ:Int->Int->Int × Int} {q n:Nat}:cat (mixA D φ q 0) n=cat (arc4 D q) n:=z2d fun k c=>by unfold mixA;rw[if_neg (by omega)]
theorem x2s {c:Nat->List Value} (h:∀ i,∀ v ∈ c i,v.oneCell'=true):∀ n,∀ v ∈ cat c n,v.oneCell'=true
 | 0,v,hv=>by simp[cat] at hv
 | n+1,v,hv=>by
  rw[z5c] at hv
  rcases List.mem_append.1 hv with hv|hv
  ·exact x2s h n v hv
  exact h n v hv
theorem v0f {c:Nat->List Value} {s n:Nat} (l:0<s) (z:∀ i,(c i).length=s) {w:World} {b d:Nat} (h:∀ i j,i<n->j<s->∀ v,(c i)[j]?=some v->w.cell? ⟨b,d+i*s+j,none⟩=some v) :
  ∀ j v,(cat c n)[j]?=some v->w.cell? ((⟨b,d,none⟩:Addr).add j)=some v:=by
 intro j v g;rw[Addr.add_lit];have A:j<n*s:=by have:=(List.getElem?_eq_some_iff.1 g).1;rw[z4n z] at this;exact this
 have k:j % s<s:=Nat.mod_lt _ l;have u:j / s<n:=(Nat.div_lt_iff_lt_mul l).2 A;have p:j / s*s+j % s=j:=by rw[Nat.mul_comm];exact Nat.div_add_mod j s
 have m:=z5n z k u;rw[p,g] at m;have o:=h (j / s) (j % s) u k v m.symm;rw[Nat.add_assoc,p] at o;exact o
theorem y6h {w:World} {B g n s:Nat} {e:TypeId} {c:Array Value} (j:w.heap[g]?=some (.cells c e (0,0))) (i:B<=g) (h:n<=maxLen) (cs:List Value) (d:cs.length=n*s) :
  (w.setRow g cs.toArray).ownsRow B e s (.slice (some ⟨g,0,none⟩) n n) n cs :=
 ⟨d,.inr ⟨g,n,cs.toArray,rfl,i,setRow_heap w g c _ e _ j,nlr,h,by simp[d],by
  show cs.toArray.toList.take (n*s)=cs;rw[<- d];simp⟩⟩
theorem v1p {w:World} {B:Nat} {e:TypeId} {s g n cap:Nat} {xs:List Value} (h:w.ownsRow B e s (.slice (some ⟨g,0,none⟩) n cap) n xs):∃ cs,w.heap[g]?=some (.cells cs e (0,0)):=by
 rcases h.2 with ⟨c,_⟩|⟨k,j,i,c,_,d,_⟩
 ·cases c
 cases c;exact⟨i,d⟩
theorem v8e {g:Nat} {w c:World} (h:Fr (fun x=>x=g) w c):w.grownBy c (some g):=(h.mono (C':=fun q=>some g=some q) (fun q _ e=>by rw[e])).gb
theorem ApI.mid {w d wr:World} {k rb g j q:Nat} {fv:Value} {D:MD} {φ:Int->Int->Int × Int} {R A:Nat->Value} (h:ApI w d k rb g q fv D φ R A) (c:Fr (fun x=>x=j) d wr) (m:d.heap.size<=j) (o:w.heap.size<=j):ApI w wr k rb g q fv D φ R A:=by
 have l:∀ b,b<d.heap.size->some j≠some b:=fun b hb e=>by injection e;omega
 refine⟨h.hb.trans (c.below h.hb.size (fun x e=>by rw[e];exact o)),?_,?_,h.lr,?_,fun i hi=>?_,h.apart⟩
 ·exact(c.block _ (lt_of_block h.kc) (by have:=lt_of_block h.kc;omega)).trans h.kc
 ·exact(c.block _ (lt_of_block h.kr) (by have:=lt_of_block h.kr;omega)).trans h.kr
 ·exact z2q h.top (v8e c) (fun b hb=>l b (World.ownsRow.lt h.top b hb).2)
 exact z2q (h.row i hi) (v8e c) (fun b hb=>l b (World.ownsRow.lt (h.row i hi) b hb).2)
theorem ApI.next {w wr:World} {F rb g c q:Nat} {fv:Value} {D:MD} {φ:Int->Int->Int × Int} {R A:Nat->Value} (h:ApI w wr F rb g q fv D φ R A) (L:q<D.n)
  (s:∀ i,i<q->(R i).ownBlock≠some c) (m:wr.ownsRow w.heap.size 59 4 (.slice (some ⟨c,0,none⟩) (D.na q) (D.na q)) (D.na q) (cat (arc4 (D.sym φ) q) (D.na q))) :
  ApI w (wr.setCell ⟨g,q*2+1,none⟩ (.slice (some ⟨c,0,none⟩) (D.na q) (D.na q))) F rb g (q+1) fv D φ (fun i=>if i=q then .slice (some ⟨c,0,none⟩) (D.na q) (D.na q) else R i) A:=by
 have C:=World.ownsRow.lt h.top g rfl;obtain⟨P,z⟩:=v1p h.top;have E:F≠g:=fun e=>by
  have:=h.kc;rw[e,z] at this;simp at this
 have G:rb≠g:=fun e=>by
  have:=h.kr;rw[e,z] at this;simp at this
 have o:∀ {v:Value} {n:Nat} {I:List Value},wr.ownsRow w.heap.size 59 4 v n I->v.ownBlock≠some g:=fun {v n I} B=>v0b h.top B (by decide) rfl;have Q:∀ i,i<q+1->((fun i=>if i=q then Value.slice (some ⟨c,0,none⟩) (D.na q) (D.na q) else R i) i).ownBlock≠some g:=fun i hi=>by
  dsimp only
  split
  ·exact o m
  exact o (h.row i (by omega))
 refine⟨h.hb.setCell (p:=⟨g,q*2+1,none⟩) C.1 _,?_,?_,h.lr,?_,fun i hi=>?_,fun i j hi O H b hb=>?_⟩
 ·rw[z0e E];exact h.kc
 ·rw[z0e G];exact h.kr
 ·have B:=y5d h.top (q*2+1) (.slice (some ⟨c,0,none⟩) (D.na q) (D.na q));rw[y1p (z4v D _) (by omega) _ L] at B;rw[show cat (st2 D (fun i=>if i<q+1 then (if i=q then Value.slice (some ⟨c,0,none⟩) (D.na q) (D.na q) else R i) else A i)) D.n=_ from z2d (d:=fun k=>if k=q then (st2 D (fun i=>if i<q then R i else A i) q).set 1 (.slice (some ⟨c,0,none⟩) (D.na q) (D.na q)) else st2 D (fun i=>if i<q then R i else A i) k) (fun k N=>?_)]
  ·exact B
  by_cases e:k=q
  ·subst e;simp[st2]
  by_cases u:k<q
  ·simp[st2,e,u,show k<q+1 by omega]
  simp[st2,e,u,show ¬ k<q+1 by omega]
 ·by_cases e:i=q
  ·subst e;show (wr.setCell _ _).ownsRow _ _ 4 (if i=i then _ else R i) _ _
   rw[if_pos rfl];exact z5s m (o m) _
  show (wr.setCell _ _).ownsRow _ _ 4 (if i=q then _ else R i) _ _
  rw[if_neg e];exact z5s (h.row i (by omega)) (o (h.row i (by omega))) _
 have l:(if i=q then Value.slice (some ⟨c,0,none⟩) (D.na q) (D.na q) else R i).ownBlock=some b:=hb
 show (if j=q then Value.slice (some ⟨c,0,none⟩) (D.na q) (D.na q) else R j).ownBlock≠some b
 by_cases e:i=q
 ·rw[if_pos e] at l;rw[if_neg (by omega)];have u:c=b:=by simpa [Value.ownBlock] using l
  rw[<- u];exact s j (by omega)
 rw[if_neg e] at l;by_cases u:j=q
 ·rw[if_pos u];intro K;have J:c=b:=by simpa [Value.ownBlock] using K
  exact s i (by omega) (by rw[J];exact l)
 rw[if_neg u];exact h.apart i j (by omega) (by omega) H b l
theorem ApI.own {w wr:World} {c rb g:Nat} {fv:Value} {D:MD} {φ:Int->Int->Int × Int} {R A:Nat->Value} (h:ApI w wr c rb g D.n fv D φ R A):OwM wr w.heap.size (.slice (some ⟨g,0,none⟩) D.n D.n) (D.sym φ) R:=by
 refine⟨?_,h.row,h.apart⟩;show wr.ownsRow _ _ 2 _ D.n (cat (st2 (D.sym φ) R) D.n);rw[show cat (st2 (D.sym φ) R) D.n=cat (st2 D (fun i=>if i<D.n then R i else A i)) D.n from z2d fun i hi=>by
  show [Value.string (D.fin i),R i]=[Value.string (D.fin i),if i<D.n then R i else A i]
  rw[if_pos hi]]
 exact h.top
theorem OwM.box4 {w:World} {B rb:Nat} {sv:Value} {D:MD} {R:Nat->Value} {a0 s m o:Value} (h:OwM w B sv D R) (hb:w.heap[rb]?=some (.cells #[a0,s,m,o] 24 (0,0))) (g j l k:Value) :
  OwM ((((w.setCell ⟨rb,0,none⟩ g).setCell ⟨rb,1,none⟩ j).setCell ⟨rb,2,none⟩ l).setCell ⟨rb,3,none⟩ k) B sv D R :=
 have c:=z2p h.top hb (by decide);have d:=fun i (hi:i<D.n)=>z2p (h.row i hi) hb (by decide)
 (((h.other (p:=⟨rb,0,none⟩) c d g).other (p:=⟨rb,1,none⟩) c d j).other (p:=⟨rb,2,none⟩) c d l).other (p:=⟨rb,3,none⟩) c d k
end
section
open Go.RowKit Go.Deep
theorem z6p {D:MD} {mv:Value} {nf:FuncId} {fc:Array Value} {φ:Int->Int->Int × Int} {P:World->Prop} (w:World) (hM:Ma none w mv D) (j7:MSz D) (ht:Tab w) (hF:SymF nf fc φ P) (hP:P w) (p9:∀ wb,Below w.heap.size w wb->P wb) :
  Calls prog 48 #[.agg #[.func (.func nf) #[] fc],mv] w (MkE (VM D) (D.sym φ) 1 w):=by
 obtain⟨sv,rfl,hS⟩:=hM;obtain⟨a,cp,b,Y,A,C,BB,O,rfl,ha,hc,hm,hb,S⟩:=hS.open;obtain⟨A3,s4⟩:=hF;obtain⟨fv,A6⟩:=exq (Value.func (.func nf) #[] fc);obtain⟨w1,b3⟩:=exq (w.alloc (.cells #[.func (.func nf) #[] fc] 69));obtain⟨w2,b7⟩:=exq (w1.alloc (.cells #[.int .i64 D.kind,.int .i64 D.start,.string D.lead,.slice a D.n cp] 24));obtain⟨w3,e3⟩:=exq (w2.alloc (.cells #[.int .i64 0,.int .i64 0,.string ⟨#[]⟩,.slice none 0 0] 24));have i8:w1.heap.size=w.heap.size+1:=by rw[b3];simp
 have v6:w2.heap.size=w.heap.size+1+1:=by rw[b7];simp[i8]
 have u1:Fr (fun _=>False) w w1:=by rw[b3];exact Fr.alloc _ _
 have m8:Fr (fun _=>False) w1 w2:=by rw[b7];exact Fr.alloc _ _
 have g4:Fr (fun _=>False) w2 w3:=by rw[e3];exact Fr.alloc _ _
 have s7:w1.heap[w.heap.size]?=some (.cells #[.func (.func nf) #[] fc] 69 (0,0)):=by rw[b3];exact heap_alloc_new w _
 have p7:w2.heap[w.heap.size+1]?=some (.cells #[.int .i64 D.kind,.int .i64 D.start,.string D.lead,.slice a D.n cp] 24 (0,0)):=by rw[<- i8,b7];exact heap_alloc_new w1 _
 have l6:w3.heap[w.heap.size+1+1]?=some (.cells #[.int .i64 0,.int .i64 0,.string ⟨#[]⟩,.slice none 0 0] 24 (0,0)):=by rw[<- v6,e3];exact heap_alloc_new w2 _
 have n5:w3.heap[w.heap.size]?=some (.cells #[.func (.func nf) #[] fc] 69 (0,0)):=(g4.block _ (by omega) (fun e=>e)).trans ((m8.block _ (by omega) (fun e=>e)).trans s7);have g0:w3.heap[w.heap.size+1]?=some (.cells #[.int .i64 D.kind,.int .i64 D.start,.string D.lead,.slice a D.n cp] 24 (0,0)):=(g4.block _ (by omega) (fun e=>e)).trans p7;have g6:Below w.heap.size w w3:=((u1.trans m8).trans g4).below nlr (fun _ e=>e.elim);obtain⟨cb,l2⟩:=exq (w.heap.size);obtain⟨Z,g9⟩:=exq (w.heap.size+1);obtain⟨o,j9⟩:=exq (w.heap.size+1+1);have h3:w.heap.size<=o:=by omega
 have w9:cb≠o:=by omega
 have w0:Z≠o:=by omega
 rw[<- l2] at n5;rw[<- g9] at g0;rw[<- j9] at l6;obtain⟨⟨m0,m1,m2,m3⟩,mz⟩:=cells4 g0;clear mz;have v7:=qh (z2g w3 (⟨_,rfl,hS.kept (z0b g6 none)⟩:Ma none w3 (.agg #[.int .i64 D.kind,.int .i64 D.start,.string D.lead,.slice a D.n cp]) D) j7 (ht.below g6 nlr));clear u1 m8 g4 s7 p7 i8 v6;have l3:=qh g6;clear g6;have i4:=qh n5;clear n5;have l0:=qh g0;clear g0;have l5:=qh l6;clear l6;have A4:=qh j7;clear j7;have HA:=qh ha;clear ha;have HB:=qh hb;clear hb;have HR:=qh S;clear S hS;have y3:=qh p9;clear p9 hP ht;have w8:=qh s4;clear s4;rw[g9,e3,b7,b3] at m0 m1 m2 m3
 go_enter func48,ntmps48
 go_wp2_with fail
 rw[<- b3,<- b7,<- e3,<- j9,<- g9,<- l2];clear m0 m1 m2 m3 b3 b7 e3 j9 g9;have z7:w.heap.size<=cb:=by omega
 clear l2;refine v7.out.mono ?_;rintro r w4 ⟨d4,hr⟩;have h4:=l3.out.trans (d4.mono l3.out.size);have n6:=(d4.block _ (lt_of_block i4.out)).trans i4.out;have m4:=(d4.block _ (lt_of_block l0.out)).trans l0.out;have l1:=(d4.block _ (lt_of_block l5.out)).trans l5.out;clear d4 v7 l3 i4 l0 l5;obtain⟨⟨r0,r1,r2,r3⟩,N⟩:=cells4 l1;have f0:=N 0;have f1:=N 1;have f2:=N 2;have f3:=N 3;clear N;have k0:=qh h4;clear h4;have o5:=qh n6;clear n6;have m7:=qh l1;clear l1;obtain⟨⟨m0,m1,m2,m3⟩,mz⟩:=cells4 m4;clear mz;have r7:=qh m4;clear m4
 rcases hr with ⟨z,rfl⟩|⟨z,rfl⟩
 rotate_left
 ·have HV:=qh z;clear z;clear m0 m1 m2 m3
  go_wp2_with fail
  refine bodyPost_ret (z0j rfl _ (b:=o) rfl rfl (z0v w4 o _ _ _ _ m7.out)) rfl ⟨z0d k0.out h3 _ _ _ _,.inr ⟨HV.out,rfl⟩⟩
 have y9:1<=D.n:=z.n1;have x3:D.n<=3000:=z.n2;have u0:∀ i,i<D.n->D.na i<=30000:=fun i hi=>by have h1:=Nat.le_trans (z1u D (show i+1<=D.n by omega)) z.arcs;have h2:z0f D (i+1)=z0f D i+D.na i:=rfl;omega
 have HV:=qh z;clear z;have y0:=qh u0;clear u0;obtain rfl:=HA.out (by omega);unfold maxLen at hm;have b9:=z6u (P:=prog) 22 57 _ 2 40 underlying22 x7t .i64 .i64 D.n (by omega) (by omega);obtain⟨n,hn⟩:=exq (D.n);rw[<- hn] at y9 x3 b9 m3 hc;obtain⟨zs,b5⟩:=exq (madeCells (Value.agg #[.string ⟨#[]⟩,.slice none 0 0]).cells (n*2));rw[<- b5] at b9;have v0:zs.size=n*2:=by rw[b5];exact size_madeCells _ _
 have z4:=qh v0;clear v0 b5;have HN:=qh hn;rw[<- hn];clear hn
 go_wp2_with fail
 refine z0g (fun wk=>wk.cell? ⟨Z,0,none⟩=some (.int .i64 D.kind)/\wk.cell? ⟨Z,1,none⟩=some (.int .i64 D.start)/\wk.cell? ⟨Z,2,none⟩=some (.string D.lead)/\wk.cell? ⟨Z,3,none⟩=some (.slice (some ⟨b,Y,none⟩) n cp)) 11 (by kernel_rfl) ?_;obtain⟨s,u⟩:=exq (w4.drew);have k:s.cell? ⟨Z,0,none⟩=some (.int .i64 D.kind)/\s.cell? ⟨Z,1,none⟩=some (.int .i64 D.start)/\s.cell? ⟨Z,2,none⟩=some (.string D.lead)/\s.cell? ⟨Z,3,none⟩=some (.slice (some ⟨b,Y,none⟩) n cp):=by rw[u];exact⟨m0,m1,m2,m3⟩
 rw[<- u];clear m0 m1 m2 m3 r0 r1 r2 r3 f0 f1 f2 f3;have o7:Below w.heap.size w s:=by rw[u];exact k0.out.drew
 have s8:s.heap[cb]?=some (.cells #[.func (.func nf) #[] fc] 69 (0,0)):=by rw[u];exact o5.out
 have u6:s.heap[Z]?=some (.cells #[.int .i64 D.kind,.int .i64 D.start,.string D.lead,.slice (some ⟨b,Y,none⟩) D.n cp] 24 (0,0)):=by rw[u];exact r7.out
 have u4:s.heap[o]?=some (.cells #[.int .i64 0,.int .i64 0,.string ⟨#[]⟩,.slice none 0 0] 24 (0,0)):=by rw[u];exact m7.out
 have f5:=qh o7;clear o7 k0 o5 r7 m7;have g1:=qh s8;clear s8;have f7:=qh u6;clear u6;have a3:=qh u4;clear u4 u;refine z0c.tm 0 k ?_;refine z0c.tm 1 k ?_;refine z0c.tm 2 k ?_;refine z0c.tm 3 k ?_;refine z0c.tm 4 k ?_;refine z0c.tm 5 k ?_;refine z0c.tm 6 k ?_;refine z0c.tm 7 k ?_;refine z0c.tm 8 k ?_
 try simp only[Act.put,tryL]
 refine z0c.on 9 fun K B=>?_;go_simp;obtain⟨g,hg⟩:=exq (s.heap.size);obtain⟨wa,e7⟩:=exq (s.alloc (.cells zs 57));have e6:Fr (fun _=>False) s wa:=by rw[e7];exact Fr.alloc _ _
 have u5:wa.heap[g]?=some (.cells zs 57 (0,0)):=by rw[e7,hg];exact heap_alloc_new s _
 have r9:=(e6.block _ (lt_of_block g1.out) (fun e=>e)).trans g1.out;have j1:=(e6.block _ (lt_of_block f7.out) (fun e=>e)).trans f7.out;have j4:=(e6.block _ (lt_of_block a3.out) (fun e=>e)).trans a3.out;have u2:Below w.heap.size w wa:=f5.out.trans (e6.below f5.out.size (fun _ e=>e.elim));have o8:w.heap.size<=g:=by rw[hg];exact f5.out.size
 have o6:g≠o:=by rw[hg];have:=lt_of_block a3.out;omega
 have A7:g≠Z:=by rw[hg];have:=lt_of_block f7.out;omega
 have x1:g≠cb:=by rw[hg];have:=lt_of_block g1.out;omega
 rw[<- e7,<- hg];clear e7 hg;have a2:wa.cell? ⟨Z,0,none⟩=some (.int .i64 D.kind)/\wa.cell? ⟨Z,1,none⟩=some (.int .i64 D.start)/\wa.cell? ⟨Z,2,none⟩=some (.string D.lead)/\wa.cell? ⟨Z,3,none⟩=some (.slice (some ⟨b,Y,none⟩) n cp):=by rw[HN.out];exact(cells4 j1).1
 refine B.out _ _ (.inr a2) ?_;clear B K b9
 try simp only[Act.put,tryL]
 obtain⟨⟨r0,r1,r2,r3⟩,N⟩:=cells4 j4;have f0:=N 0;have f1:=N 1;have f2:=N 2;have f3:=N 3;clear N e6 f5 g1 f7 a3 k;have i5:=qh u5;clear u5;have j0:=qh r9;clear r9;have j8:=qh j1;clear j1;have p8:=qh j4;clear j4;have l4:=qh u2;clear u2;refine z0c.on 10 fun K B=>?_;go_simp;refine B.out _ _ (.inr a2) ?_;clear B K
 try simp only[Act.put,tryL]
 refine z0c.on 11 fun K B=>?_;go_simp;refine B.out _ _ (.inl rfl) (z0c.dn ?_);clear B K a2;obtain⟨wb,g5⟩:∃ wb,wb=(((wa.setCell ⟨o,0,none⟩ (.int .i64 D.kind)).setCell ⟨o,1,none⟩ (.int .i64 D.start)).setCell ⟨o,2,none⟩ (.string D.lead)).setCell ⟨o,3,none⟩ (.slice (some ⟨g,0,none⟩) n n):=⟨_,rfl⟩;have d5:Fr (fun q=>q=o) wa wb:=by rw[g5];exact(((((Fr.refl (fun q=>q=o) wa).set (p:=⟨o,0,none⟩) (.inl rfl) _).set (p:=⟨o,1,none⟩) (.inl rfl) _).set (p:=⟨o,2,none⟩) (.inl rfl) _).set (p:=⟨o,3,none⟩) (.inl rfl) _)
 have j3:wb.heap[o]?=some (.cells #[.int .i64 D.kind,.int .i64 D.start,.string D.lead,.slice (some ⟨g,0,none⟩) n n] 24 (0,0)):=by rw[g5];exact z0v wa o _ _ _ _ p8.out
 have n7:=(d5.block _ (lt_of_block i5.out) o6).trans i5.out;have o3:=(d5.block _ (lt_of_block j0.out) w9).trans j0.out;have m5:=(d5.block _ (lt_of_block j8.out) w0).trans j8.out;have f8:Below w.heap.size w wb:=l4.out.trans (d5.below l4.out.size (fun q e=>by rw[e];exact h3));have r3:=(cells4 j3).1.2.2.2;have m3:=(cells4 m5).1.2.2.2;rw[<- HN.out] at m3;obtain⟨X,f4⟩:∃ X:Nat->Value,X=fun i=>.slice (A i) (D.na i) (C i):=⟨_,rfl⟩;obtain⟨cs,e5⟩:=exq (cat (st2 D X) n);have I:cs.length=n*2:=by rw[e5];exact z4n (z4v D X) n
 have U:∀ v ∈ cs,v.oneCell'=true:=by
  rw[e5];refine x2s (fun i v z=>?_) n;rw[f4] at z;simp[st2] at z
  rcases z with rfl|rfl<;>rfl
 have Q:∀ j v,cs[j]?=some v->wb.cell? ((⟨b,Y,none⟩:Addr).add j)=some v:=by
  rw[e5];refine v0f (by omega) (z4v D X) (fun i j hi hj v z=>?_);have o2:=(HB.out (by have:=HN.out;omega)).1;obtain⟨k1,k2,_⟩:=HR.out i (by have:=HN.out;omega);rw[f4] at z;have:j=0\/j=1:=by omega
  rcases this with rfl|rfl
  ·cases z;exact(f8.cell (p:=⟨b,Y+i*2,none⟩) o2).trans k1
  cases z;exact(f8.cell (p:=⟨b,Y+i*2+1,none⟩) o2).trans k2
 rw[<- g5];have h6:=qh I;clear I;have o4:=qh U;clear U;have v2:=qh Q;clear Q;have x4:=qh e5;clear e5;have r4:=qh f4;clear f4;have y7:=qh j3;clear j3;have r5:=qh n7;clear n7;have v9:=qh o3;clear o3;have A0:=qh m5;clear m5;have x9:=qh f8;clear f8;clear g5 d5 i5 j0 j8 p8 l4 r0 r1 r2 f0 f1 f2 f3;have T:=y1y (P:=prog) wb 22 22 3 57 2 n g n (some ⟨b,Y,none⟩) cp zs 57 cs underlying22 (by kernel_rfl) r5.out h6.out z4.out (fun _=>⟨_,rfl,v2.out⟩) o4.out;obtain⟨wc,b8⟩:=exq (wb.setRow g cs.toArray);rw[<- b8] at T;have m:wc.ownsRow w.heap.size 57 2 (.slice (some ⟨g,0,none⟩) n n) n cs:=by rw[b8];exact y6h r5.out o8 (by unfold maxLen;omega) cs h6.out
 have p0:Below w.heap.size w wc:=by rw[b8];exact below_setRow x9.out o8 _
 have G:ApI w wc cb o g 0 (.func (.func nf) #[] fc) D φ X X:=by
  refine⟨p0,?_,?_,h3,?_,fun i hi=>absurd hi (Nat.not_lt_zero _),fun i j hi=>absurd hi (Nat.not_lt_zero _)⟩
  ·rw[b8];exact(setRow_other wb g cb _ (fun e=>x1 e.symm)).trans v9.out
  ·rw[b8,<- HN.out];exact(setRow_other wb g o _ (fun e=>o6 e.symm)).trans y7.out
  rw[<- HN.out];rw[x4.out] at m;rw[show cat (st2 D (fun i=>if i<0 then X i else X i)) n=cat (st2 D X) n from z2d fun i _=>by simp]
  exact m
 have r3:wc.cell? ⟨o,3,none⟩=some (.slice (some ⟨g,0,none⟩) n n):=by
  have:=(cells4 G.kr).1.2.2.2;rw[<- HN.out] at this;exact this
 have c:=qh G;clear G m p0 b8
 go_wp2_with fail
 clear T r3 m3
 go_loopw [33] (fun j5 wr=>∃ (q:Nat) (R:Nat->Value),q<=n/\j5=.int .i64 (q:Int)/\ApI w wr cb o g q (.func (.func nf) #[] fc) D φ R X) (fun j5 _=>n-(intOf j5).toNat)
 case atStart=>exact⟨0,X,Nat.zero_le _,rfl,c.out⟩
 obtain⟨q,R,hq,rfl,G⟩:=hrel;obtain⟨wo,x5⟩:=exq (wr);clear x5;clear c;have c:=qh G;clear G;by_cases A8:q<n
 ·have A5:(q:Int)<(n:Int):=by omega
  have z5:(0:Int)<=(q:Int):=by omega
  have F:q<D.n:=by have:=HN.out;omega
  obtain⟨k1,k2,k3,k4,k5,k6,k7⟩:=HR.out q F;have x8:=y0.out q F;clear k1 k2;unfold maxLen at k4;have m:=c.out.top;have t0:wr.cell? ⟨g,q*2,none⟩=some (.string (D.fin q)):=z6e m (by
   have:=z5n (z4v D (fun i=>if i<q then R i else X i)) (i:=q) (j:=0) (by omega) F
   rw[Nat.add_zero] at this;rw[this];rfl)
  have t1:wr.cell? ⟨g,q*2+1,none⟩=some (.slice (A q) (D.na q) (C q)):=z6e m (by
   rw[z5n (z4v D (fun i=>if i<q then R i else X i)) (i:=q) (j:=1) (by omega) F]
   show some (if q<q then R q else X q)=_
   rw[if_neg (Nat.lt_irrefl _),r4.out])
  clear m;obtain⟨aq,e8⟩:=exq (A q);obtain⟨nq,H⟩:=exq (D.na q);obtain⟨cq,d2⟩:=exq (C q);obtain⟨fq,i9⟩:=exq (D.fin q);rw[<- e8,<- H,<- d2] at t1;rw[<- i9] at t0;rw[<- e8,<- H] at k5;rw[<- H] at k6 k7 x8;rw[<- H,<- d2] at k3;rw[<- d2] at k4;have y4:=qh e8;clear e8;have y1:=qh d2;clear d2;have a6:=qh H;clear H;have A1:=qh i9;clear i9;have x7:=qh k5;clear k5;have y2:=qh k6;clear k6;have y5:=qh k7;clear k7;obtain⟨sb,b6⟩:=exq (wr.heap.size);obtain⟨w5,d7⟩:=exq (wr.alloc (.cells #[.string fq,.slice aq nq cq] 57));have t9:w5.heap.size=sb+1:=by rw[d7,b6];simp
  obtain⟨zq,l9⟩:=exq (madeCells (Value.agg #[.int .i64 0,.int .i64 0,.string ⟨#[]⟩,.int .i64 0]).cells (nq*4));have b5:zq.size=nq*4:=by rw[l9];exact size_madeCells _ _
  have b9:=z6u (P:=prog) 55 59 _ 4 40 underlying55 v1v .i64 .i64 nq (by omega) (by omega);rw[<- l9] at b9;clear l9;obtain⟨w6,e9⟩:=exq (w5.alloc (.cells zq 59));obtain⟨l,f9⟩:=exq (sb+1);have t7:Fr (fun _=>False) wr w5:=by rw[d7];exact Fr.alloc _ _
  have n3:Fr (fun _=>False) w5 w6:=by rw[e9];exact Fr.alloc _ _
  have E:=t7.trans n3;have b0:w5.heap[sb]?=some (.cells #[.string fq,.slice aq nq cq] 57 (0,0)):=by rw[d7,b6];exact heap_alloc_new wr _
  have d9:=(n3.block _ (lt_of_block b0) (fun e=>e)).trans b0;have i6:w6.heap[l]?=some (.cells zq 59 (0,0)):=by rw[e9,f9,<- t9];exact heap_alloc_new w5 _
  have e2:Below w.heap.size w w6:=c.out.hb.trans (E.below c.out.hb.size (fun _ e=>e.elim));obtain⟨az,c8⟩:=exq (cat (arc4 D q) nq);have I:az.length=nq*4:=by rw[c8];exact z4n (y7c D q) nq
  have U:∀ v ∈ az,v.oneCell'=true:=by
   rw[c8];refine x2s (fun i v z=>?_) nq;simp[arc4] at z
   rcases z with rfl|rfl|rfl|rfl<;>rfl
  have Q:0<nq->∃ ad,aq=some ad/\∀ j v,az[j]?=some v->w6.cell? (ad.add j)=some v:=fun h0=>by
   refine⟨_,x7.out h0,?_⟩;rw[c8];refine v0f (by omega) (y7c D q) (fun i j hi hj v z=>?_);have g3:=(y2.out h0).1;obtain⟨t0,t1,t2,t3⟩:=y5.out i hi;have:j=0\/j=1\/j=2\/j=3:=by omega
   rcases this with rfl|rfl|rfl|rfl
   ·cases z;exact(e2.cell (p:=⟨BB q,O q+i*4,none⟩) g3).trans t0
   ·cases z;exact(e2.cell (p:=⟨BB q,O q+i*4+1,none⟩) g3).trans t1
   ·cases z;exact(e2.cell (p:=⟨BB q,O q+i*4+2,none⟩) g3).trans t2
   cases z;exact(e2.cell (p:=⟨BB q,O q+i*4+3,none⟩) g3).trans t3
  have T:=y1y (P:=prog) w6 55 55 3 59 4 nq l nq aq cq zq 59 az underlying55 (by kernel_rfl) i6 I b5 Q U;obtain⟨w7,c7⟩:=exq (w6.setRow l az.toArray);rw[<- c7] at T;have l7:w.heap.size<=l:=by have:=c.out.hb.size;omega
  have e1:w7.ownsRow w.heap.size 59 4 (.slice (some ⟨l,0,none⟩) nq nq) nq (cat (mixA D φ q 0) nq):=by
   rw[v1x,<- c8,c7];exact y6h i6 l7 (by unfold maxLen;omega) az I
  have i3:Fr (fun x=>x=l) wr w7:=by
   rw[c7];exact⟨E.os,E.tape,E.output,by simp[World.setRow];exact E.size,fun x hx x0=>(setRow_other w6 l x _ x0).trans (E.block x hx (fun e=>e))⟩
  have h5:w7.heap[sb]?=some (.cells #[.string fq,.slice aq nq cq] 57 (0,0)):=by rw[c7];exact(setRow_other w6 l sb _ (by omega)).trans d9
  have s5:w5.cell? ⟨sb,1,none⟩=some (.slice aq nq cq):=by simp[World.cell?,b0]
  have s6:w6.cell? ⟨sb,1,none⟩=some (.slice aq nq cq):=by simp[World.cell?,d9]
  have e4:=qh e1;clear e1;have d1:=qh i3;clear i3;have z6:=qh h5;clear h5;have A9:g≠l:=by
   have:=(World.ownsRow.lt c.out.top g rfl).2;omega
  have v5:wr.heap.size<=l:=by omega
  clear t7 n3 E b0 d9 i6 e2 I U Q c7 c8 t9 b5;rw[e9] at s6 T;rw[d7] at s5 s6 T;rw[b6] at s5 s6;rw[f9,b6] at T;have s9:=qh b6;clear b6;have u9:=qh f9;clear f9;clear d7 e9
  go_wp2_with fail
  rw[<- s9.out,<- u9.out];clear T s5 s6 t0 t1 b9;have q8:∀ wz,Fr (fun x=>x=l) w7 wz->P wz:=fun wz h=>y3.out wz (c.out.hb.trans ((d1.out.trans h).below c.out.hb.size (fun x e=>by rw[e];exact l7)));have x2:=qh q8;clear q8;have h7:w7.heap[cb]?=some (.cells #[.func (.func nf) #[] fc] 69 (0,0)):=(d1.out.block _ (lt_of_block c.out.kc) (by have:=lt_of_block c.out.kc;omega)).trans c.out.kc;have h9:=qh h7;clear h7;have y8:cb≠l:=by have:=lt_of_block c.out.kc;omega
  go_loopw [48] (fun j2 wz=>∃ d:Nat,d<=nq/\j2=.int .i64 (d:Int)/\wz.ownsRow w.heap.size 59 4 (.slice (some ⟨l,0,none⟩) nq nq) nq (cat (mixA D φ q d) nq)/\Fr (fun x=>x=l) w7 wz) (fun j2 _=>nq-(intOf j2).toNat)
  case atStart=>exact⟨0,Nat.zero_le _,rfl,e4.out,Fr.refl _ _⟩
  obtain⟨d,hd,rfl,S,p6⟩:=hrel;clear e4;have a9:=qh S;clear S;have g8:=qh p6;clear p6;by_cases a4:d<nq
  ·have A2:(d:Int)<(nq:Int):=by omega
   have z8:(0:Int)<=(d:Int):=by omega
   obtain⟨s,u⟩:=exq (wr.drew);obtain⟨ai,d6⟩:=exq (D.ain q d);obtain⟨ao,d3⟩:=exq (D.aout q d);have a8:Fr (fun x=>x=l) w7 s:=by rw[u];exact g8.out.drew
   have L:s.ownsRow w.heap.size 59 4 (.slice (some ⟨l,0,none⟩) nq nq) nq (cat (mixA D φ q d) nq):=by rw[u];exact a9.out
   have h8:s.heap[cb]?=some (.cells #[.func (.func nf) #[] fc] 69 (0,0)):=(a8.block _ (lt_of_block h9.out) y8).trans h9.out;have a0:s.cell? ⟨l,d*4,none⟩=some (.int .i64 ai):=z6e L (by
    have:=z5n (y0s D φ q d) (i:=d) (j:=0) (by omega) a4;rw[Nat.add_zero] at this;rw[this,d6];unfold mixA;rw[if_neg (Nat.lt_irrefl _)];rfl)
   have a1:s.cell? ⟨l,d*4+1,none⟩=some (.int .i64 ao):=z6e L (by
    rw[z5n (y0s D φ q d) (i:=d) (j:=1) (by omega) a4,d3];unfold mixA;rw[if_neg (Nat.lt_irrefl _)];rfl)
   have k:s.cell? ⟨cb,0,none⟩=some (.func (.func nf) #[] fc)/\s.cell? ⟨l,d*4,none⟩=some (.int .i64 ai)/\s.cell? ⟨l,d*4+1,none⟩=some (.int .i64 ao):=⟨by simp[World.cell?,h8],a0,a1⟩;have d8:=w8.out s (x2.out s a8) ai ao (by rw[d6];exact(HV.out.arc q d F (by rw[<- a6.out];exact a4)).i0) (by rw[d6];exact(HV.out.arc q d F (by rw[<- a6.out];exact a4)).i1) (by rw[d3];exact(HV.out.arc q d F (by rw[<- a6.out];exact a4)).o0) (by rw[d3];exact(HV.out.arc q d F (by rw[<- a6.out];exact a4)).o1);have d0:=qh d8;clear d8 a0 a1 h8;have o9:=qh a8;clear a8 g8;have a3:=qh L;clear L a9
   go_wp2_with fail
   refine x0z (fun wk=>wk.cell? ⟨cb,0,none⟩=some (.func (.func nf) #[] fc)/\wk.cell? ⟨l,d*4,none⟩=some (.int .i64 ai)/\wk.cell? ⟨l,d*4+1,none⟩=some (.int .i64 ao)) [0,1,2,3,17,18,19,20,21,22,23,24,25] (by kernel_rfl) ?_;rw[<- u];have z9:=qh u;clear u;have s3:=qh d6;clear d6;have n9:=qh d3;clear d3;refine AnyL.tq 0 ?_;refine AnyL.tq 1 ?_;refine AnyL.tq 2 ?_;refine AnyL.tq 3 ?_
   try simp only[Act.put,tryL]
   refine AnyL.tm 4 k ?_;refine AnyL.tm 5 k ?_;refine AnyL.tm 6 k ?_;refine AnyL.tm 7 k ?_;refine AnyL.tm 8 k ?_;refine AnyL.tm 9 k ?_;refine AnyL.tm 10 k ?_;refine AnyL.tm 11 k ?_;refine AnyL.tm 12 k ?_;refine AnyL.tm 13 k ?_;refine AnyL.tm 14 k ?_;refine AnyL.tm 15 k ?_
   try simp only[Act.put,tryL]
   refine AnyL.on 16 fun K B=>?_;go_simp;refine d0.out.mono ?_;rintro r we ⟨rfl,b4⟩;have u7:Fr (fun x=>x=l) w7 we:=o9.out.trans (Fr.of_below b4);have j6:we.ownsRow w.heap.size 59 4 (.slice (some ⟨l,0,none⟩) nq nq) nq (cat (mixA D φ q d) nq):=z2q a3.out (z0b b4 none) (fun _ _=>by simp);have a2:we.cell? ⟨cb,0,none⟩=some (.func (.func nf) #[] fc)/\we.cell? ⟨l,d*4,none⟩=some (.int .i64 ai)/\we.cell? ⟨l,d*4+1,none⟩=some (.int .i64 ao):=⟨(z0b b4 none).cell k.1 (by simp),(z0b b4 none).cell k.2.1 (by simp),(z0b b4 none).cell k.2.2 (by simp)⟩;refine B.out _ _ (.inr a2) ?_;clear B K k b4 d0 o9 a3;have f0:=z5z j6 (d*4);have c0:=a2.2.1;have c1:=a2.2.2;clear a2;have q7:=qh u7;clear u7;have u8:=qh j6;clear j6;obtain⟨b1,k9⟩:∃ b1,b1=(φ ai ao).1:=⟨_,rfl⟩;obtain⟨b2,m9⟩:∃ b2,b2=(φ ai ao).2:=⟨_,rfl⟩;rw[<- k9,<- m9];have q9:=qh k9;clear k9;have r8:=qh m9;clear m9;refine AnyL.loose' (by kernel_rfl) ?_
   try simp only[Act.put,tryL]
   refine AnyL.tm 17 trivial ?_;refine AnyL.tm 18 trivial ?_;refine AnyL.tm 19 trivial ?_;refine AnyL.tm 20 trivial ?_;refine AnyL.tm 21 trivial ?_
   try simp only[Act.put,tryL]
   refine AnyL.on 22 fun K B=>?_;go_simp;refine B.out _ _ (.inr trivial) ?_;clear B K
   try simp only[Act.put,tryL]
   refine AnyL.on 23 fun K B=>?_;go_simp;refine B.out _ _ (.inr trivial) ?_;clear B K
   try simp only[Act.put,tryL]
   refine AnyL.on 24 fun K B=>?_;go_simp;refine B.out _ _ (.inr trivial) ?_;clear B K
   try simp only[Act.put,tryL]
   have c9:=y5d u8.out (d*4) (.int .i64 b1);have y6:(we.setCell ⟨l,d*4,none⟩ (.int .i64 b1)).cell? ⟨l,d*4+1,none⟩=some (.int .i64 ao):=by rw[World.cell?_setCell_other _ _ _ _ (by simp)];exact c1
   have x6:=z5z c9 (d*4+1);have i2:=qh c9;clear c9;clear c0 f0 c1;refine AnyL.on 25 fun K B=>?_;go_simp;refine B.out _ _ (.inr trivial) (AnyL.dn ?_);clear B K y6 x6;obtain⟨wf,g7⟩:∃ wf,wf=(we.setCell ⟨l,d*4,none⟩ (.int .i64 b1)).setCell ⟨l,d*4+1,none⟩ (.int .i64 b2):=⟨_,rfl⟩;have r6:wf.ownsRow w.heap.size 59 4 (.slice (some ⟨l,0,none⟩) nq nq) nq (cat (mixA D φ q (d+1)) nq):=by
    rw[g7];have h1:=y5d i2.out (d*4+1) (.int .i64 b2);rw[q9.out,r8.out,s3.out,n9.out] at h1;rw[q9.out,r8.out,s3.out,n9.out];have h2:=v4m (D:=D) (φ:=φ) (q:=q) a4;rw[Nat.add_zero] at h2;rw[h2] at h1;exact h1
   have t8:Fr (fun x=>x=l) w7 wf:=by rw[g7];exact(q7.out.set (p:=⟨l,d*4,none⟩) (.inl rfl) _).set (p:=⟨l,d*4+1,none⟩) (.inl rfl) _
   rw[<- g7];have z3:=qh r6;clear r6;have z2:=qh t8;clear t8 g7 i2 u8 q7;go_wp2;go_roundw
   case rel=>exact⟨d+1,by omega,by go_num,z3.out,z2.out⟩
   simp[intOf];omega
  obtain rfl:d=nq:=by omega
  have v3:¬ ((d:Int)<(d:Int)):=by omega
  have v8:=d1.out.trans g8.out;have a7:=c.out.mid v8 v5 l7;have i7:=a9.out;rw[v5t,a6.out] at i7;have a5:=a7.next F (fun i hi e=>by
   have:=(World.ownsRow.lt (c.out.row i hi) l e).2;omega) i7
  rw[<- a6.out] at a5;have r3:=(cells4 a7.kr).1.2.2.2;have m:=a7.top;have t1:wr.cell? ⟨g,q*2+1,none⟩=some (.slice aq d cq):=by
   refine z6e m ?_;rw[z5n (z4v D (fun i=>if i<q then R i else X i)) (i:=q) (j:=1) (by omega) F]
   show some (if q<q then R q else X q)=_
   rw[if_neg (Nat.lt_irrefl _),r4.out];show some (Value.slice (A q) (D.na q) (C q))=_;rw[a6.out,<- y4.out,<- y1.out]
  have f1:=z5z m (q*2+1);rw[<- HN.out] at r3;have l8:=qh a5;clear a5 v8 a7 i7 m;clear a9 g8
  go_wp2_with fail
  clear r3 t1 f1;go_roundw
  case rel=>exact⟨q+1,_,by omega,by go_num,l8.out⟩
  simp[intOf];omega
 obtain rfl:q=n:=by omega
 have v3:¬ ((q:Int)<(q:Int)):=by omega
 have W:=c.out;rw[HN.out] at W;have e0:=W.own;rw[<- HN.out] at e0;obtain⟨⟨r0,r1,r2,r3⟩,N⟩:=cells4 W.kr;have f0:=N 0;have f1:=N 1;have f2:=N 2;have f3:=N 3;have J:=W.kr;clear N W;rw[<- HN.out] at r3 J;have v4:=qh (e0.box4 J (.int .i64 D.kind) (.int .i64 D.start) (.string D.lead) (.slice (some ⟨g,0,none⟩) q q));clear e0;have u3:=qh J;clear J;have z1:=qh c.out.hb
 go_wp2_with fail
 refine bodyPost_ret (z0j rfl _ (b:=o) rfl rfl (z0v wr o _ _ _ _ u3.out)) rfl ⟨z0d z1.out h3 _ _ _ _,.inl ⟨HV.out,_,R,rfl,v4.out⟩⟩
end
end Go.Proofs.YteappjogmnogcaaGreatDoor
