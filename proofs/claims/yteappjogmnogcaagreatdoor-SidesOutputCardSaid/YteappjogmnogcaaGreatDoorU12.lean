/- Parts of a proof: BlB BlC BlD BlF RegL SdA SdB. -/
import Derived.Test.YteappjogmnogcaaGreatDoorU11
import Derived.Test.YteappjogmnogcaaGreatDoorU10
import Derived.Test.YteappjogmnogcaaGreatDoorU07
namespace Go.Proofs.YteappjogmnogcaaGreatDoor
set_option maxRecDepth 100000
set_option linter.unusedSimpArgs false
set_option linter.unusedVariables false
set_option linter.unusedSectionVars false
set_option maxHeartbeats 16000000
open Go Tryz
section
open Go.RowKit Go.Deep
def BlS (F:Nat->Prop) (B db:Nat) (D:MD) (one:ByteArray) (ac fl:Int) (w:World):Prop:=∃ R sv,Bld w B db D R sv one ac fl/\∀ b,F b->b≠db/\Fre w sv R D.n b
def BlN (F:Nat->Prop) (B db:Nat) (D:MD) (one:ByteArray) (ac fl:Int) (w w':World):Prop:=BlS F B db D one ac fl w'/\(∀ b,F b->w'.heap[b]?=w.heap[b]?)/\Below B w w'
theorem BlS.sub {F c:Nat->Prop} {B db:Nat} {D:MD} {one:ByteArray} {ac fl:Int} {w:World} (h:BlS F B db D one ac fl w) (g:∀ b,c b->F b):BlS c B db D one ac fl w:=by
 obtain⟨R,sv,d,i⟩:=h;exact⟨R,sv,d,fun b hb=>i b (g b hb)⟩
theorem BlN.trans {F:Nat->Prop} {B db:Nat} {D k:MD} {one:ByteArray} {ac fl d c:Int} {w i j:World} (h:BlN F B db D one ac fl w i) (g:BlN F B db k one d c i j):BlN F B db k one d c w j :=
 ⟨g.1,fun b hb=>(g.2.1 b hb).trans (h.2.1 b hb),h.2.2.trans g.2.2⟩
theorem BlS.lt {F:Nat->Prop} {B db:Nat} {D:MD} {one:ByteArray} {ac fl:Int} {w:World} (h:BlS F B db D one ac fl w):db<w.heap.size/\B<=db/\∀ b,F b->b<w.heap.size:=by
 obtain⟨R,sv,c,d⟩:=h;exact⟨c.lt,c.low,fun b hb=>(d b hb).2.1⟩
theorem BlS.kept {F:Nat->Prop} {B db:Nat} {D:MD} {one:ByteArray} {ac fl:Int} {w i:World} (h:BlS F B db D one ac fl w) (hb:Below w.heap.size w i):BlS F B db D one ac fl i:=by
 obtain⟨R,sv,c,g⟩:=h;exact⟨R,sv,⟨(hb.block _ c.lt).trans c.blk,c.own.kept (z0b hb none) (by simp),c.low⟩,fun b d=>⟨(g b d).1,Nat.lt_of_lt_of_le (g b d).2.1 hb.size,(g b d).2.2⟩⟩
theorem BlS.grown {F:Nat->Prop} {B db:Nat} {D:MD} {one:ByteArray} {ac fl:Int} {w g:World} (h:BlS F B db D one ac fl w) (hb:Below w.heap.size w g):BlS (fun b=>F b\/(w.heap.size<=b/\b<g.heap.size)) B db D one ac fl g:=by
 obtain⟨R,sv,c,j⟩:=h;refine⟨R,sv,⟨(hb.block _ c.lt).trans c.blk,c.own.kept (z0b hb none) (by simp),c.low⟩,fun b d=>?_⟩
 rcases d with d|⟨l,k⟩
 ·exact⟨(j b d).1,Nat.lt_of_lt_of_le (j b d).2.1 hb.size,(j b d).2.2⟩
 refine⟨by have:=c.lt;omega,k,fun e=>?_,fun i hi e=>?_⟩
 ·have:=(World.ownsRow.lt c.own.top b e).2;omega
 have:=(World.ownsRow.lt (c.own.row i hi) b e).2;omega
theorem x1k {F:Nat->Prop} {B db:Nat} {D:MD} {one:ByteArray} {ac fl:Int} (f:ByteArray) (w:World) (h:BlS F B db D one ac fl w) (j:B<=w.heap.size) (hn:D.n<=100000) :
  Calls prog 91 #[.pointer (some ⟨db,0,none⟩),.string f] w (fun r w'=>r=.returned (.int .i64 (D.n:Int))/\BlN F B db (D.state f) one ac fl w w'):=by
 obtain⟨R,sv,k,c⟩:=h;refine(x6g f w k j hn).mono fun r w' i=>⟨i.1,?_⟩;obtain⟨⟨l,d,o,g⟩,m⟩:=i.2;exact⟨⟨l,d,o,fun b hb=>⟨(c b hb).1,(g b (c b hb).1 (c b hb).2).1⟩⟩,fun b hb=>(g b (c b hb).1 (c b hb).2).2,m⟩
theorem u0w {F:Nat->Prop} {B db q:Nat} {D:MD} {one:ByteArray} {ac fl:Int} (a b t:Int) (x:ByteArray) (w:World) (h:BlS F B db D one ac fl w) (c:0<=ac) (g:ac<=100000) (m:B<=w.heap.size) (u:q<D.n) (hn:D.n<=100000) (j:D.na q<=100000) :
  Calls prog 92 #[.pointer (some ⟨db,0,none⟩),.int .i64 (q:Int),.agg #[.int .i64 a,.int .i64 b,.string x,.int .i64 t]] w (fun r w'=>r=.returned (.tuple #[])/\BlN F B db (D.arc q a b x t) one (ac+1) fl w w'):=by
 obtain⟨R,sv,o,d⟩:=h;refine(v6x a b t x w o c g m u hn j).mono fun r w' l=>⟨l.1,?_⟩;obtain⟨⟨p,i,z,k⟩,s⟩:=l.2;exact⟨⟨p,i,z,fun b hb=>⟨(d b hb).1,(k b (d b hb).1 (d b hb).2).1⟩⟩,fun b hb=>(k b (d b hb).1 (d b hb).2).2,s⟩
theorem v3e {F:Nat->Prop} {B db q:Nat} {D:MD} {one:ByteArray} {ac fl:Int} (t:Int) (x:ByteArray) (w:World) (h:BlS F B db D one ac fl w) (c:0<=ac) (d:ac<=100000) (m:B<=w.heap.size) (j:q<D.n) (hn:D.n<=100000) (g:D.na q<=100000) :
  Calls prog 141 #[.pointer (some ⟨db,0,none⟩),.int .i64 (q:Int),.string x,.int .i64 t] w (fun r w'=>r=.returned (.tuple #[])/\BlN F B db (D.arc q 0 0 x t) one (ac+1) fl w w'):=by
 have l:=qh (u0w 0 0 t x w h c d m j hn g);clear h
 go_enter func141,ntmps141
 go_wp2_with fail
 refine l.out.mono ?_;rintro r o ⟨rfl,i⟩;have k:=qh i;clear i
 go_wp2_with fail
 go_end0
 exact⟨rfl,k.out⟩
theorem y5q (k:Int) (w:World):Calls prog 90 #[.int .i64 k] w (fun r w'=>∃ db,r=.returned (.pointer (some ⟨db,0,none⟩))/\BlS (fun _=>False) w.heap.size db (z1p k 0 (oneF k)) (oneF k) 0 0 w'/\Below w.heap.size w w'/\w.heap.size<=db):=by
 go_enter func90,ntmps90
 go_wp2_with fail
 refine(z7a k w).mono ?_;rintro r j ⟨rfl,c⟩;have d:=c.alloc c.size (.cells (bcs (z1p k 0 (oneF k)) (.slice none 0 0) (oneF k) 0 0) 113);have g:=c.size;have i:BlS (fun _=>False) w.heap.size j.heap.size (z1p k 0 (oneF k)) (oneF k) 0 0 (j.alloc (.cells (bcs (z1p k 0 (oneF k)) (.slice none 0 0) (oneF k) 0 0) 113)) :=
  ⟨fun _=>.slice none 0 0,.slice none 0 0,⟨heap_alloc_new j _,OwM.empty _ _ _ _ _ _,g⟩,fun _ h=>h.elim⟩
 have m:=qh d;clear d c;have l:=qh i;clear i;go_wp2;go_ret;exact⟨_,rfl,l.out,m.out,g⟩
end
section
open Go.RowKit Go.Deep
def tmF (z:ByteArray × Nat) (fl:Int):Int:=if z.2≠0 then (z.2:Int) else fl
def TmE (F:Nat->Prop) (B db:Nat) (D:MD) (one:ByteArray) (ac fl:Int) (z:ByteArray × Nat) (w:World) (r:Ending) (w':World):Prop:=r=.returned (.string z.1)/\BlN F B db D one ac (tmF z fl) w w'
theorem v9w {F:Nat->Prop} {B db:Nat} {D:MD} {one:ByteArray} {ac fl:Int} (v u:ByteArray) (w:World) (h:BlS F B db D one ac fl w) (W:smS v) (Y:smS u) (Q:Tab w) :
  Calls prog 109 #[.pointer (some ⟨db,0,none⟩),.string v,.string u] w (TmE F B db D one ac fl (z0n D.kind v u) w):=by
 obtain⟨R,sv,J,X⟩:=h;have c0:=BlkB.c0 J.blk;have HC:=qh (z7c D.kind v u w W Y Q);clear Q W Y;have s:=qh J;clear J;have O:=qh X;clear X
 go_enter func109,ntmps109
 go_wp2_with fail
 refine HC.out.mono ?_;rintro r H ⟨rfl,j⟩;obtain⟨z,K⟩:=exq (z0n D.kind v u);rw[<- K];have G:=qh K;clear K;have T:BlS F B db D one ac fl H:=BlS.kept ⟨R,sv,s.out,O.out⟩ j;have c:=(j.block _ s.out.lt).trans s.out.blk;have c6:=BlkB.c6 c;have f6:=BlkB.fz c 6;have o:Below B w H\/True:=.inr trivial;have U:=qh T;clear T;have g:=qh j;clear j;have S:=qh c;clear c c0;clear o;have Z:∀ w',Below w.heap.size w w'->B<=w.heap.size:=fun _ _=>by have:=s.out.lt;have:=s.out.low;omega
 have C:=Z H g.out;clear Z;by_cases l:z.2=0
 ·have m:((z.2:Nat):Int)=0:=by omega
  have N:=qh l;clear l;go_wp2;go_ret;refine⟨by rw[G.out];rfl,?_⟩;have hE:=N.out;rw[show tmF (z0n D.kind v u) fl=fl from by rw[<- G.out];exact if_neg (by omega)];exact⟨U.out,fun b hb=>g.out.block b (O.out b hb).2.1,g.out.mono C⟩
 have m:¬ ((z.2:Nat):Int)=0:=by omega
 obtain⟨L,d⟩:∃ L:Nat,L=z.2:=⟨_,rfl⟩;rw[<- d] at m l ⊢;have N:=qh l;clear l;have A:=qh d;clear d;go_wp2;go_ret;obtain⟨R1,I,k,E⟩:=U.out;have P:=g.out;refine⟨by rw[G.out];rfl,?_⟩;rw[show tmF (z0n D.kind v u) fl=(L:Int) from by rw[<- G.out,A.out];exact if_pos (by rw[<- A.out];exact N.out)];refine⟨⟨R1,I,⟨?_,?_,k.low⟩,fun b hb=>⟨(E b hb).1,by rw[nblk_setCell];exact(E b hb).2.1,(E b hb).2.2⟩⟩,fun b hb=>?_,(P.mono C).setCell (p:=⟨db,6,none⟩) k.low _⟩
 ·exact BlkB.set6 k.blk _
 ·exact k.own.other (p:=⟨db,6,none⟩) (z2k k.own.top k.blk (by decide)) (fun i hi=>z2k (k.own.row i hi) k.blk (by decide)) _
 rw[z0e (show b≠db from (E b hb).1)];exact P.block b (O.out b hb).2.1
def dnOk (fl:Int) (n:Nat) (ac:Int):Prop:=fl=0/\n<=3000/\ac<=30000
def DnE (B:Nat) (D:MD) (ok:Prop) (w:World) (r:Ending) (w':World):Prop :=
 Below w.heap.size w w'/\((ok/\∃ sv R,r=.returned (.tuple #[.agg #[.int .i64 D.kind,.int .i64 D.start,.string D.lead,sv],.int .i64 0])/\OwM w' B sv D R)\/(¬ ok/\r=.returned (.tuple #[z7f,.int .i64 2])))
theorem v7p {F:Nat->Prop} {B db:Nat} {D:MD} {one:ByteArray} {ac fl:Int} (w:World) (h:BlS F B db D one ac fl w) (hn:D.n<=100000) (S:ac<=1000000) (L:0<=ac) :
  Calls prog 94 #[.pointer (some ⟨db,0,none⟩)] w (DnE B D (dnOk fl D.n ac) w):=by
 obtain⟨R,sv,j,h2⟩:=h;obtain⟨sa,sc,I,_,_⟩:=z1e j.own.top;subst I;obtain⟨p,g⟩:=exq (w.alloc (.cells #[.int .i64 0,.int .i64 0,.string ⟨#[]⟩,.slice none 0 0] 24));obtain⟨E,u⟩:=exq (w.heap.size);have l:Fr (fun _=>False) w p:=by rw[g];exact Fr.alloc _ _
 have i:p.heap[E]?=some (.cells #[.int .i64 0,.int .i64 0,.string ⟨#[]⟩,.slice none 0 0] 24 (0,0)):=by rw[g,u];exact heap_alloc_new w _
 have c:=(l.block _ j.lt (fun e=>e)).trans j.blk;have o:Below w.heap.size w p:=l.below nlr (fun _ e=>e.elim);have A:OwM p B (.slice sa D.n sc) D R:=j.own.kept (z0b o none) (by simp);have a1:w.heap.size<=E:=by omega
 have a2:db≠E:=by have:=j.lt;omega
 have X:=BlkB.c0 c;have d1:=BlkB.c1 c;have O:=BlkB.c2 c;have d3:=BlkB.c3 c;have d5:=BlkB.c5 c;have N:=BlkB.c6 c;rw[g] at X d1 O d3 d5 N;obtain⟨⟨r0,r1,Q,r3⟩,s⟩:=cells4 i;have P:=s 0;have f1:=s 1;have f2:=s 2;have U:=s 3;clear s;rw[g,u] at r0 r1 Q r3 P f1 f2 U;have a3:((D.n:Nat):Int)<=100000:=by omega
 have Y:=qh i;clear i;have W:=qh o;clear o;have Z:=qh A;clear A;have K:=qh j;clear j h2;have T:=qh c;clear c l;by_cases C:fl=0
 ·subst C;by_cases k:D.n<=3000
  ·have G:decide ((3000:Int)<(D.n:Int))=false:=by simp;omega
   by_cases m:ac<=30000
   ·have H:decide ((30000:Int)<ac)=false:=by simp;omega
    have J:=qh (show dnOk 0 D.n ac from ⟨rfl,k,m⟩)
    go_enter func94,ntmps94
    go_wp2_with fail
    exact bodyPost_ret (z0j rfl _ (b:=w.heap.size) rfl rfl (heap_alloc_new w _)) rfl ⟨(Below.refl _ w).alloc nlr _,.inl ⟨J.out,_,R,rfl,K.out.own.kept (z:=none) (World.grownBy_alloc _ _ _) (by simp)⟩⟩
   have H:(30000:Int)<ac:=by omega
   have d:=qh (show ¬ dnOk 0 D.n ac from fun h=>m h.2.2);clear m
   go_enter func94,ntmps94
   go_wp2_with fail
   exact bodyPost_ret (z0j rfl _ (b:=w.heap.size) rfl rfl (heap_alloc_new w _)) rfl ⟨(Below.refl _ w).alloc nlr _,.inr ⟨d.out,rfl⟩⟩
  have G:(3000:Int)<(D.n:Int):=by omega
  have d:=qh (show ¬ dnOk 0 D.n ac from fun h=>k h.2.1);clear k
  go_enter func94,ntmps94
  go_wp2_with fail
  exact bodyPost_ret (z0j rfl _ (b:=w.heap.size) rfl rfl (heap_alloc_new w _)) rfl ⟨(Below.refl _ w).alloc nlr _,.inr ⟨d.out,rfl⟩⟩
 have d:=qh (show ¬ dnOk fl D.n ac from fun h=>C h.1)
 go_enter func94,ntmps94
 go_wp2_with fail
 exact bodyPost_ret (z0j rfl _ (b:=w.heap.size) rfl rfl (heap_alloc_new w _)) rfl ⟨(Below.refl _ w).alloc nlr _,.inr ⟨d.out,rfl⟩⟩
def lvN (o:Option Nat):Int:=if o.isSome then 1 else 0
def LvF (nf:FuncId) (cap:Array Value) (o:Option Nat) (B db:Nat) (P:World->Prop):Prop :=
 (∀ args w,(callFunc nf args).run prog w=.ok (.enter nf args) w)/\∀ (F:Nat->Prop) (w:World) (D:MD) (one:ByteArray) (ac fl:Int) (s:Nat) (f:ByteArray),P w->BlS F B db D one ac fl w->B<=w.heap.size->s<D.n->D.n<=100000->D.na s<=100000->0<=ac->ac<=100000 ->
  Calls prog nf (#[.int .i64 (s:Int),.string f]++cap) w (fun r w'=>r=.returned (.tuple #[])/\BlN F B db (lvD o s f D) one (ac+lvN o) fl w w')
theorem x9q:∀ args w,(callFunc 111 args).run prog w=.ok (.enter 111 args) w:=fun args w=>by kernel_rfl
theorem v2n:∀ args w,(callFunc 140 args).run prog w=.ok (.enter 140 args) w:=fun args w=>by kernel_rfl
theorem u3y (B db:Nat):LvF 111 #[] none B db (fun _=>True):=by
 refine⟨x9q,fun F w D one d c s f _ h o j k g m l=>?_⟩;rw[show ∀ a b:Value,(#[a,b]++#[]:Array Value)=#[a,b] from fun _ _=>rfl];have i:=qh h;clear h
 go_enter func111,ntmps111
 go_wp2_with fail
 go_end0
 refine⟨rfl,?_⟩;show BlN F B db D one (d+0) c w w;rw[Int.add_zero];exact⟨i.out,fun _ _=>rfl,blr⟩
def PLk (db cx tx t:Nat) (w:World):Prop:=w.heap[cx]?=some (.cells #[.pointer (some ⟨db,0,none⟩)] 110 (0,0))/\w.heap[tx]?=some (.cells #[.int .i64 (t:Int)] 3 (0,0))
theorem u4q (B db z H t:Nat):LvF 140 #[.pointer (some ⟨z,0,none⟩),.pointer (some ⟨H,0,none⟩)] (some t) B db (PLk db z H t):=by
 refine⟨v2n,fun F w D one U T s f hP h hB I Z L h0 h1=>?_⟩;rw[show ∀ a b c d:Value,(#[a,b]++#[c,d]:Array Value)=#[a,b,c,d] from fun _ _ _ _=>rfl];obtain⟨R,sv,i,G⟩:=h;obtain⟨g,cp,rfl,Q,a2,_,_⟩:=z7p i.own.top (by omega);obtain⟨k,m⟩:=hP;have a1:(s:Int)<(D.n:Int):=by omega
 have X:(0:Int)<=(s:Int):=by omega
 have k1:w.cell? ⟨z,0,none⟩=some (.pointer (some ⟨db,0,none⟩)):=by simp[World.cell?,k]
 have d3:=BlkB.c3 i.blk;have g0:=i.own.fin_cell I;have fg:=z6a i.own.top (s*2);obtain⟨l,j⟩:=exq (w.setCell ⟨g,s*2,none⟩ (.string ⟨#[]⟩));have J:db≠g:=fun e=>z2k i.own.top i.blk (by decide) (by rw[e];rfl);have O:z≠g:=fun e=>z2k i.own.top k (by decide) (by rw[e];rfl);have P:H≠g:=fun e=>z2k i.own.top m (by decide) (by rw[e];rfl);have o:BlS F B db (D.setFin s ⟨#[]⟩) one U T l:=by
  rw[j];refine⟨R,_,⟨by rw[z0e J];exact i.blk,i.own.setFin I ⟨#[]⟩,i.low⟩,fun b hb=>⟨(G b hb).1,by rw[nblk_setCell];exact(G b hb).2.1,(G b hb).2.2⟩⟩
 have C:l.cell? ⟨z,0,none⟩=some (.pointer (some ⟨db,0,none⟩)):=by rw[j];simp[World.cell?,z0e (p:=⟨g,s*2,none⟩) O,k]
 have u:l.cell? ⟨H,0,none⟩=some (.int .i64 (t:Int)):=by rw[j];simp[World.cell?,z0e (p:=⟨g,s*2,none⟩) P,m]
 have N:B<=l.heap.size:=by rw[j,nblk_setCell];exact hB
 have E:=qh (v3e (t:Int) f l o h0 h1 N I Z L);have A:BlN F B db (D.setFin s ⟨#[]⟩) one U T w l:=⟨o,fun b hb=>by
  rw[j,z0e (show b≠g from fun e=>(G b hb).2.2.1 (by rw[e];rfl))],by rw[j];exact(Below.refl B w).setCell (p:=⟨g,s*2,none⟩) Q _⟩
 have K:=qh A;clear A o;have Y:=qh i;clear i k m;rw[j] at C u
 go_enter func140,ntmps140
 go_wp2_with fail
 rw[<- j];clear k1 d3 g0 fg C u j;refine E.out.mono ?_;rintro r w2 ⟨rfl,W⟩;have S:=qh (K.out.trans W);clear W E
 go_wp2_with fail
 go_end0
 exact⟨rfl,S.out⟩
theorem x7j (db t:Nat) (w:World):Calls prog 112 #[.pointer (some ⟨db,0,none⟩),.int .i64 (t:Int)] w (fun r w'=>∃ cx tx,r=.returned (.func (.func 140) #[] #[.pointer (some ⟨cx,0,none⟩),.pointer (some ⟨tx,0,none⟩)])/\PLk db cx tx t w'/\w.heap.size<=cx/\w.heap.size<=tx/\Below w.heap.size w w'):=by
 have s:∀ (fn:Fn) (first cap:Array Value) (w:World),(Instr.makeFunc fn first cap).run prog w=.ok (.func fn first cap) w:=fun _ _ _ _=>rfl
 obtain⟨d,c⟩:=exq (w.alloc (.cells #[.pointer (some ⟨db,0,none⟩)] 110));obtain⟨i,h⟩:=exq (d.alloc (.cells #[.int .i64 (t:Int)] 3));have j:d.heap.size=w.heap.size+1:=by rw[c];simp
 have l:Fr (fun _=>False) w d:=by rw[c];exact Fr.alloc _ _
 have g:Fr (fun _=>False) d i:=by rw[h];exact Fr.alloc _ _
 have o:d.heap[w.heap.size]?=some (.cells #[.pointer (some ⟨db,0,none⟩)] 110 (0,0)):=by rw[c];exact heap_alloc_new w _
 have p:i.heap[w.heap.size+1]?=some (.cells #[.int .i64 (t:Int)] 3 (0,0)):=by rw[<- j,h];exact heap_alloc_new d _
 have k:PLk db w.heap.size (w.heap.size+1) t i:=⟨(g.block _ (by omega) (fun e=>e)).trans o,p⟩;have hb:Below w.heap.size w i:=(l.trans g).below nlr (fun _ e=>e.elim);have m:=qh k;clear k o p l g j;have u:=qh hb;clear hb
 go_enter func112,ntmps112
 go_wp2_with fail
 rw[<- c,<- h];go_ret;exact⟨_,_,rfl,m.out,nlr,Nat.le_succ _,u.out⟩
end
section
open Go.RowKit Go.Deep
theorem BlN.alloc {F:Nat->Prop} {B db:Nat} {D:MD} {one:ByteArray} {ac fl:Int} {w c:World} (h:BlN F B db D one ac fl w c) (g:B<=w.heap.size) (o:Obj):BlN F B db D one ac fl w (c.alloc o):=by
 have hb:=(Below.refl c.heap.size c).alloc nlr o;exact⟨h.1.kept hb,fun b d=>(hb.block b (h.1.lt.2.2 b d)).trans (h.2.1 b d),h.2.2.trans (hb.mono (Nat.le_trans g h.2.2.size))⟩
theorem BlS.join {F:Nat->Prop} {B db:Nat} {D:MD} {one:ByteArray} {ac fl:Int} {w:World} (h:BlS F B db D one ac fl w) (o:Obj):BlS (fun b=>F b\/b=w.heap.size) B db D one ac fl (w.alloc o) :=
 (h.grown ((Below.refl w.heap.size w).alloc nlr o)).sub (fun b hb=>hb.imp id (fun e=>by subst e;simp))
theorem BlN.refl {F:Nat->Prop} {B db:Nat} {D:MD} {one:ByteArray} {ac fl:Int} {w:World} (h:BlS F B db D one ac fl w):BlN F B db D one ac fl w w:=⟨h,fun _ _=>rfl,blr⟩
theorem u3i (D:MD) (low i:Nat) (M:MD):∀ d,(cpA D low i d M).n=M.n:=fun d=>(y0e D low i (Skel.refl M) d).n
def cpX (D:MD) (o:Option Nat):Nat->Nat
 | 0=>0
 | i+1=>cpX D o i+D.na i+(if D.fin i=⟨#[]⟩ then 0 else if o.isSome then 1 else 0)
theorem y8y (D:MD) (o:Option Nat):∀ i,cpX D o i<=cpC D o i
 | 0=>Nat.zero_le _
 | i+1=>by
  have h:=y8y D o i;unfold cpC at h ⊢;show cpX D o i+D.na i+(if D.fin i=⟨#[]⟩ then 0 else if o.isSome then 1 else 0)<=z0h D i+D.na i+_
  split<;>split at h<;>simp_all<;>omega
def cpyE (F:Nat->Prop) (B db:Nat) (D M:MD) (o:Option Nat) (one:ByteArray) (ac fl:Int) (w:World) (r:Ending) (w':World):Prop :=
 r=.returned (.int .i64 ((M.n:Int)+D.start))/\BlN F B db (z4n D o M) one (ac+(cpX D o D.n:Int)) fl w w'
theorem v8d {F:Nat->Prop} {db N c:Nat} {D M:MD} {sv:Value} {nf:FuncId} {cap:Array Value} {o:Option Nat} {P:World->Prop} {one:ByteArray} {ac fl:Int} (z w:World) (hV:VM D) (hS:MSz D) (hD:StS none z sv D) (f5:Below z.heap.size z w)
  (f4:BlS F z.heap.size db M one ac fl w) (hk:M.kind=D.kind) (h6:BOk M N c) (hN:M.n+D.n<=N) (i4:N<=10000) (ho:∀ t,o=some t->t<N) (hc:c+cpC D o D.n<=90000) (o6:0<=ac) (j7:ac+(cpC D o D.n:Int)<=90000)
  (m9:LvF nf cap o z.heap.size db P) (hP:P w) (f2:∀ wa wb,P wa->(∀ b,F b->wb.heap[b]?=wa.heap[b]?)->P wb) :
  Calls prog 110 #[.pointer (some ⟨db,0,none⟩),.agg #[.int .i64 D.kind,.int .i64 D.start,.string D.lead,sv],.func (.func nf) #[] cap] w (cpyE F z.heap.size db D M o one ac fl w):=by
 obtain⟨a,cp,b,d0,A,C,BB,O,rfl,ha,p8,hm,hb,d2⟩:=hD.open;unfold maxLen at hm;obtain⟨q7,g7⟩:=m9;obtain⟨n,hn⟩:=exq (D.n);obtain⟨low,b3⟩:=exq (M.n);have p6:n<=3000:=by rw[hn];exact hV.n2
 have o4:1<=n:=by rw[hn];exact hV.n1
 obtain⟨st,g8⟩:∃ st:Nat,D.start=(st:Int):=⟨D.start.toNat,by have:=hV.s0;omega⟩;have n7:st<n:=by have:=hV.s1;omega
 have n9:low<=10000:=by omega
 obtain⟨W,T⟩:=exq (w.alloc (.cells #[.int .i64 D.kind,.int .i64 (st:Int),.string D.lead,.slice a n cp] 24));obtain⟨mb,a2⟩:=exq (w.heap.size);have n3:z.heap.size<=w.heap.size:=f5.size;have f1:W.heap[mb]?=some (.cells #[.int .i64 D.kind,.int .i64 (st:Int),.string D.lead,.slice a n cp] 24 (0,0)):=by rw[T,a2];exact heap_alloc_new w _
 have hj:=f4.join (.cells #[.int .i64 D.kind,.int .i64 (st:Int),.string D.lead,.slice a n cp] 24);rw[<- T] at hj;obtain⟨F1,c7⟩:∃ F1:Nat->Prop,F1=fun b=>F b\/b=w.heap.size:=⟨_,rfl⟩;rw[<- c7] at hj;have f0:Below z.heap.size w W:=by rw[T];exact((Below.refl z.heap.size w).alloc n3 _)
 have j0:BlN F1 z.heap.size db (stsD D 0 M) one ac fl W W:=BlN.refl hj;have i9:F1 mb:=by rw[c7,a2];exact .inr rfl
 have i3:∀ b,F b->F1 b:=fun b hb=>by rw[c7];exact .inl hb
 have e8:∀ b,F b->W.heap[b]?=w.heap[b]?:=fun b hb=>by rw[T];exact blk_alloc_lt _ _ _ (f4.lt.2.2 b hb)
 have e6:P W:=f2 w W hP e8;obtain⟨_,_,S,_⟩:=f4;have d3:=BlkB.c3 S.blk;obtain⟨sa,sc,m5,_,_⟩:=z1e S.own.top;subst m5;have j3:=BlkB.c3 ((((Below.refl w.heap.size w).alloc nlr (.cells #[.int .i64 D.kind,.int .i64 (st:Int),.string D.lead,.slice a n cp] 24)).block _ S.lt).trans S.blk);have m3:=(cells4 f1).1.2.2.2;rw[T,a2] at m3;rw[<- b3] at j3;clear d3 S;have HN:=qh hn;clear hn;have u:=qh b3;have j5:=qh g8;clear g8;have HV:=qh hV;clear hV;have a9:=qh hS;clear hS;have HA:=qh ha;clear ha;have HB:=qh hb;clear hb;have HR:=qh d2;clear d2 hD;have m2:=qh g7;clear g7;have m7:=qh f2;clear f2 hP;have a6:=qh (f5.trans f0);clear f5;have h7:=qh f0;clear f0;have g0:=qh i3;clear i3 c7;have l7:=qh e8;clear e8;have j4:=qh i9;clear i9;have i7:=qh f1;clear f1 hj;have m4:=qh e6;clear e6;have l5:=qh h6;clear h6;have g9:=qh hk;clear hk;have HO:=qh ho;clear ho;have HC:=qh hc;clear hc;have i2:=qh j7;clear j7;have b6:=qh hN;clear hN;have o7:=qh i4;clear i4;have h0:=qh j0;clear j0;obtain rfl:=HA.out (by have:=HN.out;omega);rw[j5.out,<- HN.out]
 go_enter func110,ntmps110
 go_wp2_with fail
 rw[<- T,<- a2];clear j3 m3 b3;have p7:=qh T;clear T;have o5:=qh a2;clear a2;rw[<- u.out]
 go_loopw [23] (fun f7 wr=>∃ i:Nat,i<=n/\f7=.int .i64 (i:Int)/\BlN F1 z.heap.size db (stsD D i M) one ac fl W wr) (fun f7 _=>n-(intOf f7).toNat)
 case atStart=>exact⟨0,Nat.zero_le _,rfl,h0.out⟩
 obtain⟨i,hi,rfl,U⟩:=hrel;clear h0;have k:=qh U;clear U;by_cases l6:i<n
 ·have l9:(i:Int)<(n:Int):=by omega
  have k0:(0:Int)<=(i:Int):=by omega
  have a1:i<D.n:=by have:=HN.out;omega
  have a8:=(HB.out (by omega)).1;obtain⟨k1,k2,_⟩:=HR.out i a1;have l:=a6.out.trans k.out.2.2;have t0:=(l.cell (p:=⟨b,d0+i*2,none⟩) a8).trans k1;have t1:=(l.cell (p:=⟨b,d0+i*2+1,none⟩) a8).trans k2;clear k1 k2;obtain⟨G,X⟩:=exq (D.fin i);obtain⟨ri,n5⟩:=exq (Value.slice (A i) (D.na i) (C i));rw[<- X] at t0;obtain⟨w2,s⟩:=exq (wr.alloc (.cells #[.string G,.slice (A i) (D.na i) (C i)] 57));have b9:z.heap.size<=W.heap.size:=a6.out.size;have E:=k.out.alloc b9 (.cells #[.string G,.slice (A i) (D.na i) (C i)] 57);rw[<- s] at E;have g:=x1k G w2 E.1 (by have:=E.2.2.size;omega) (by rw[y4f];have:=u.out;omega);rw[show (stsD D i M).state G=stsD D (i+1) M from by rw[X];rfl] at g;have h:=qh g;clear g n5;have Z:=qh E;clear E k X l
  go_wp2_with fail
  rw[<- s];clear t0 t1 s;refine h.out.mono ?_;rintro r w3 ⟨rfl,h3⟩;have b7:=qh (Z.out.trans h3);clear h3 Z h;go_wp2;go_roundw
  case rel=>exact⟨i+1,by omega,by go_num,b7.out⟩
  simp[intOf];omega
 have i5:n=i:=by omega
 subst i5;have e7:¬ ((n:Int)<(n:Int)):=by omega
 have I:=(k.out.2.1 mb j4.out).trans i7.out;have m3:=(cells4 I).1.2.2.2;have d5:BlN F1 z.heap.size db (cpQ D low o 0 (stsD D D.n M)) one (ac+(cpX D o 0:Int)) fl W wr:=by
  have:=k.out;rw[HN.out] at this;rw[show (cpX D o 0:Int)=0 from rfl,Int.add_zero];exact this
 have d1:=y3d HV.out a9.out g9.out l5.out D.n nlr;have j9:(stsD D D.n M).kind=D.kind:=(z9s D M D.n).1.trans g9.out;have d8:=qh d1;clear d1;have b5:=qh j9;clear j9;have e5:=qh d5;clear d5 k I
 go_wp2_with fail
 clear m3
 go_loopw [35] (fun e9 wr=>∃ i:Nat,i<=n/\e9=.int .i64 (i:Int)/\BlN F1 z.heap.size db (cpQ D low o i (stsD D D.n M)) one (ac+(cpX D o i:Int)) fl W wr) (fun e9 _=>n-(intOf e9).toNat)
 case atStart=>exact⟨0,Nat.zero_le _,rfl,e5.out⟩
 obtain⟨i,o8,rfl,U⟩:=hrel;clear e5;have k:=qh U;clear U;by_cases l6:i<n
 ·have l9:(i:Int)<(n:Int):=by omega
  have k0:(0:Int)<=(i:Int):=by omega
  have a1:i<D.n:=by have:=HN.out;omega
  have a8:=(HB.out (by omega)).1;obtain⟨k1,k2,k3,k4,k5,k6,k7⟩:=HR.out i a1;have l:=a6.out.trans k.out.2.2;have t0:=(l.cell (p:=⟨b,d0+i*2,none⟩) a8).trans k1;have t1:=(l.cell (p:=⟨b,d0+i*2+1,none⟩) a8).trans k2;clear k1 k2;obtain⟨G,X⟩:=exq (D.fin i);obtain⟨ai,g2⟩:=exq (A i);obtain⟨ni,a3⟩:=exq (D.na i);obtain⟨ci,j2⟩:=exq (C i);rw[<- X] at t0;rw[<- g2,<- a3,<- j2] at t1;rw[<- g2,<- a3] at k5;rw[<- a3] at k6 k7;have n6:ni<=30000:=by rw[a3];have h1:=Nat.le_trans (z1u D (show i+1<=D.n by omega)) HV.out.arcs;have h2:z0h D (i+1)=z0h D i+D.na i:=rfl;omega
  have a4:=qh X;clear X;have H:=qh a3;clear a3;clear g2 j2 k3 k4;have l4:=qh k5;clear k5;have m8:=qh k6;clear k6;have l8:=qh k7;clear k7;obtain⟨w2,s⟩:=exq (wr.alloc (.cells #[.string G,.slice ai ni ci] 57));obtain⟨sb,a5⟩:=exq (wr.heap.size);have b9:z.heap.size<=W.heap.size:=a6.out.size;have e3:z.heap.size<=wr.heap.size:=l.size;have f8:w2.heap[sb]?=some (.cells #[.string G,.slice ai ni ci] 57 (0,0)):=by rw[s,a5];exact heap_alloc_new wr _
  have b8:=k.out.1.join (.cells #[.string G,.slice ai ni ci] 57);rw[<- s,<- a5] at b8;obtain⟨F2,c9⟩:∃ F2:Nat->Prop,F2=fun b=>F1 b\/b=sb:=⟨_,rfl⟩;rw[<- c9] at b8;have j1:F2 sb:=by rw[c9];exact .inr rfl
  have e0:∀ b,F1 b->F2 b:=fun b hb=>by rw[c9];exact .inl hb
  have E:=k.out.alloc b9 (.cells #[.string G,.slice ai ni ci] 57);rw[<- s] at E;have e2:BlN F2 z.heap.size db (cpA D low i 0 (cpQ D low o i (stsD D D.n M))) one (ac+(cpX D o i:Int)+((0:Nat):Int)) fl w2 w2:=by
   rw[show ((0:Nat):Int)=0 from rfl,Int.add_zero];exact BlN.refl b8
  have s1:w2.cell? ⟨sb,1,none⟩=some (.slice ai ni ci):=by simp[World.cell?,f8]
  rw[s,a5] at s1;have d6:=qh e2;clear e2 b8;have Z:=qh E;clear E k l;have i8:=qh f8;clear f8;have l3:=qh j1;clear j1;have e4:=qh e0;clear e0 c9
  go_wp2_with fail
  rw[<- s,<- a5];clear t0 t1 s a5 s1;have j8:cpC D o i<=cpC D o D.n:=by
   unfold cpC;have h1:=z1u D (show i<=D.n by omega)
   split<;>omega
  have j:cpC D o i+ni+(if o.isSome then 1 else 0)=cpC D o (i+1):=by
   rw[H.out];unfold cpC;show z0h D i+_+D.na i+_=z0h D i+D.na i+_
   split<;>omega
  have B:cpC D o (i+1)<=cpC D o D.n:=by
   unfold cpC;have h1:=z1u D (show i+1<=D.n by omega)
   split<;>omega
  have d7:=qh j;clear j;have d4:=qh B;clear B j8
  go_loopw [43] (fun g5 wr=>∃ d:Nat,d<=ni/\g5=.int .i64 (d:Int)/\BlN F2 z.heap.size db (cpA D low i d (cpQ D low o i (stsD D D.n M))) one (ac+(cpX D o i:Int)+(d:Int)) fl w2 wr) (fun g5 _=>ni-(intOf g5).toNat)
  case atStart=>exact⟨0,Nat.zero_le _,rfl,d6.out⟩
  obtain⟨d,hd,rfl,U⟩:=hrel;clear d6;have Q:=qh U;clear U;by_cases j6:d<ni
  ·have p0:(d:Int)<(ni:Int):=by omega
   have o2:(0:Int)<=(d:Int):=by omega
   have c8:=(m8.out (by omega)).1;obtain⟨t0,t1,t2,t3⟩:=l8.out d j6;obtain rfl:=l4.out (by omega);have l:=(a6.out.trans Z.out.2.2).trans Q.out.2.2;have c0:=(l.cell (p:=⟨BB i,O i+d*4,none⟩) c8).trans t0;have c1:=(l.cell (p:=⟨BB i,O i+d*4+1,none⟩) c8).trans t1;have c2:=(l.cell (p:=⟨BB i,O i+d*4+2,none⟩) c8).trans t2;have c3:=(l.cell (p:=⟨BB i,O i+d*4+3,none⟩) c8).trans t3;clear t0 t1 t2 t3;have f3:=HV.out.arc i d a1 (by rw[<- H.out];exact j6);obtain⟨tn,g3⟩:∃ tn:Nat,D.ato i d=(tn:Int):=⟨(D.ato i d).toNat,by have:=f3.t0;omega⟩;have o3:tn<n:=by have:=f3.t1;have:=HN.out;omega
   rw[g3] at c3;have k9:=qh g3;clear g3 f3;clear l;have e3:z.heap.size<=w2.heap.size:=Nat.le_trans b9 Z.out.2.2.size;obtain⟨w3,g4⟩:=exq (wr.alloc (.cells #[.int .i64 (D.ain i d),.int .i64 (D.aout i d),.string (D.aw i d),.int .i64 ((tn:Int)+(low:Int))] 59));have b0:=Q.out.alloc e3 (.cells #[.int .i64 (D.ain i d),.int .i64 (D.aout i d),.string (D.aw i d),.int .i64 ((tn:Int)+(low:Int))] 59);rw[<- g4] at b0;have L:=x3r HV.out a9.out a1 (N:=N) (low:=low) (by have:=b6.out;have:=u.out;omega) (by rw[(y4w _ _ _ _ _).1];exact b5.out) (y6n HV.out a9.out (low:=low) (o:=o) HO.out (by have:=b6.out;have:=u.out;omega) b5.out d8.out i (by omega)) d (by rw[<- H.out];omega);have J:=L.na (low+i);have h8:=HV.out.n2;have Y:(cpA D low i d (cpQ D low o i (stsD D D.n M))).n=low+D.n:=by rw[u3i,(y4w _ _ _ _ _).2.2.2,y4f,<- u.out]
   have j:=d7.out;have B:=d4.out;have f9:=HC.out;have h9:=y8y D o i;have g1:=i2.out;have a7:=Nat.le_trans J (show c+cpC D o i+d<=100000 by split at j<;>omega)
   have b1:ac+(cpX D o i:Int)+(d:Int)<=100000:=by split at j<;>omega
   have b4:0<=ac+(cpX D o i:Int)+(d:Int):=by omega
   have g:=u0w (q:=low+i) (D.ain i d) (D.aout i d) ((tn:Int)+(low:Int)) (D.aw i d) w3 b0.1 b4 b1 (by have:=b0.2.2.size;omega) (by rw[Y];omega) (by rw[Y];omega) a7;have K:(cpA D low i d (cpQ D low o i (stsD D D.n M))).arc (low+i) (D.ain i d) (D.aout i d) (D.aw i d) ((tn:Int)+(low:Int))=cpA D low i (d+1) (cpQ D low o i (stsD D D.n M)):=by rw[<- k9.out];rfl
   rw[K,show ((low+i:Nat):Int)=(low:Int)+(i:Int) by omega,show ac+(cpX D o i:Int)+(d:Int)+1=ac+(cpX D o i:Int)+((d+1:Nat):Int) by omega] at g;have h:=qh g;clear g K j B f9 g1 Y J L h8;have b7:=qh b0;clear b0 Q
   go_wp2_with fail
   rw[<- g4];clear c0 c1 c2 c3 g4;refine h.out.mono ?_;rintro r w4 ⟨rfl,h4⟩;have g6:=qh (b7.out.trans h4);clear h4 b7 h;go_wp2;go_roundw
   case rel=>exact⟨d+1,by omega,by go_num,g6.out⟩
   simp[intOf];omega
  have l1:ni=d:=by omega
  subst l1;have e7:¬ ((ni:Int)<(ni:Int)):=by omega
  have I:=(Q.out.2.1 sb l3.out).trans i8.out;have s0:wr.cell? ⟨sb,0,none⟩=some (.string G):=by simp[World.cell?,I]
  have e1:BlN F1 z.heap.size db (cpA D low i ni (cpQ D low o i (stsD D D.n M))) one (ac+(cpX D o i:Int)+(ni:Int)) fl W wr:=⟨Q.out.1.sub e4.out,fun b hb=>(Q.out.2.1 b (e4.out b hb)).trans (Z.out.2.1 b hb),Z.out.2.2.trans Q.out.2.2⟩;have m:=qh e1;clear e1 Q I;by_cases R:G=⟨#[]⟩
  ·have K:cpQ D low o (i+1) (stsD D D.n M)=cpA D low i ni (cpQ D low o i (stsD D D.n M)):=by
    show cpF D low o i (cpA D low i (D.na i) (cpQ D low o i (stsD D D.n M)))=_;unfold cpF;rw[if_pos (by rw[<- a4.out];exact R),H.out]
   have b2:cpX D o (i+1)=cpX D o i+ni:=by
    show cpX D o i+D.na i+(if D.fin i=⟨#[]⟩ then 0 else if o.isSome then 1 else 0)=_
    rw[if_pos (by rw[<- a4.out];exact R),H.out];omega
   have hB:=m.out;rw[<- K,show ac+(cpX D o i:Int)+(ni:Int)=ac+(cpX D o (i+1):Int) by rw[b2];omega] at hB;have l0:=qh hB;clear hB K b2 m;subst R;go_wp2;go_roundw
   case rel=>exact⟨i+1,by omega,by go_num,l0.out⟩
   simp[intOf];omega
  have p9:(G.toList==[])=false:=by
   cases hE:(G.toList==[])
   ·rfl
   exact absurd (z6r hE) R
  have K:cpQ D low o (i+1) (stsD D D.n M)=lvD o (low+i) G (cpA D low i ni (cpQ D low o i (stsD D D.n M))):=by
   show cpF D low o i (cpA D low i (D.na i) (cpQ D low o i (stsD D D.n M)))=_;unfold cpF;rw[if_neg (by rw[<- a4.out];exact R),H.out,a4.out]
  have b2:((cpX D o (i+1):Nat):Int)=(cpX D o i:Int)+(ni:Int)+lvN o:=by
   show ((cpX D o i+D.na i+(if D.fin i=⟨#[]⟩ then 0 else if o.isSome then 1 else 0):Nat):Int)=_
   rw[if_neg (by rw[<- a4.out];exact R),H.out];unfold lvN
   split<;>omega
  have L:=x3r HV.out a9.out a1 (N:=N) (low:=low) (by have:=b6.out;have:=u.out;omega) (by rw[(y4w _ _ _ _ _).1];exact b5.out) (y6n HV.out a9.out (low:=low) (o:=o) HO.out (by have:=b6.out;have:=u.out;omega) b5.out d8.out i (by omega)) ni (by rw[<- H.out];omega);have J:=L.na (low+i);have h8:=HV.out.n2;have Y:(cpA D low i ni (cpQ D low o i (stsD D D.n M))).n=low+D.n:=by rw[u3i,(y4w _ _ _ _ _).2.2.2,y4f,<- u.out]
  have j:=d7.out;have B:=d4.out;have f9:=HC.out;have g1:=i2.out;have h9:=y8y D o i;have h5:P wr:=m7.out W wr m4.out (fun b hb=>m.out.2.1 b (g0.out b hb));have a7:=Nat.le_trans J (show c+cpC D o i+ni<=100000 by split at j<;>omega)
  have b1:ac+(cpX D o i:Int)+(ni:Int)<=100000:=by split at j<;>omega
  have b4:0<=ac+(cpX D o i:Int)+(ni:Int):=by omega
  have g:=m2.out F1 wr _ one _ fl (low+i) G h5 m.out.1 (by have:=m.out.2.2.size;omega) (by rw[Y];omega) (by rw[Y];omega) a7 b4 b1;rw[<- K,show ((low+i:Nat):Int)=(low:Int)+(i:Int) by omega,show ac+(cpX D o i:Int)+(ni:Int)+lvN o=ac+(cpX D o (i+1):Int) by rw[b2];omega] at g;have h:=qh g;clear g K b2 L J Y j B f9 g1 h9 h5;have o9:=qh R;clear R
  go_wp2_with fail
  refine h.out.mono ?_;rintro r w4 ⟨rfl,h4⟩;have g6:=qh (m.out.trans h4);clear h4 h m;go_wp2;go_roundw
  case rel=>exact⟨i+1,by omega,by go_num,g6.out⟩
  simp[intOf];omega
 have l2:n=i:=by omega
 subst l2;have e7:¬ ((n:Int)<(n:Int)):=by omega
 have I:=(k.out.2.1 mb j4.out).trans i7.out;have m1:=(cells4 I).1.2.1;have hB:=k.out;rw[HN.out] at hB;have d9:BlN F z.heap.size db (z4n D o M) one (ac+(cpX D o D.n:Int)) fl w wr:=by
  have e:z4n D o M=cpQ D low o D.n (stsD D D.n M):=by rw[u.out];rfl
  rw[e];exact⟨hB.1.sub g0.out,fun b hb=>(hB.2.1 b (g0.out b hb)).trans (l7.out b hb),h7.out.trans hB.2.2⟩
 have i6:=qh d9;clear d9 hB I k;go_wp2;go_ret;exact⟨by rw[<- u.out,j5.out];rfl,i6.out⟩
end
section
open Go.RowKit Go.Deep
def twoN (D E:MD) (e:Int):Prop:=(VM D/\VM E/\D.kind=E.kind/\e=0)\/(VM D/\VM E/\D.kind≠E.kind/\e=6)\/(¬ (VM D/\VM E)/\e=1)
def TwoE (D E:MD) (w:World) (r:Ending) (w':World):Prop:=Below w.heap.size w w'/\∃ e:Int,r=.returned (.int .i64 e)/\twoN D E e
theorem v7f {D E:MD} {mv nv:Value} (w:World) (hM:Ma none w mv D) (hN:Ma none w nv E) (U:MSz D) (S:MSz E) (ht:Tab w):Calls prog 108 #[mv,nv] w (TwoE D E w):=by
 obtain⟨sv,rfl,hS⟩:=hM;obtain⟨sw,rfl,J⟩:=hN;obtain⟨a,Z,_,_,_,_,_,_,a3,_⟩:=hS.open;obtain⟨a2,H,_,_,_,_,_,_,a5,_⟩:=J.open;subst a3;subst a5;obtain⟨z,j⟩:=exq (w.alloc (.cells #[.int .i64 D.kind,.int .i64 D.start,.string D.lead,.slice a D.n Z] 24));obtain⟨C,l⟩:=exq (z.alloc (.cells #[.int .i64 E.kind,.int .i64 E.start,.string E.lead,.slice a2 E.n H] 24));have Q:z.heap.size=w.heap.size+1:=by rw[j];simp
 have T:Fr (fun _=>False) w z:=by rw[j];exact Fr.alloc _ _
 have K:Fr (fun _=>False) z C:=by rw[l];exact Fr.alloc _ _
 have N:z.heap[w.heap.size]?=some (.cells #[.int .i64 D.kind,.int .i64 D.start,.string D.lead,.slice a D.n Z] 24 (0,0)):=by rw[j];exact heap_alloc_new w _
 have c:C.heap[w.heap.size]?=some (.cells #[.int .i64 D.kind,.int .i64 D.start,.string D.lead,.slice a D.n Z] 24 (0,0)):=(K.block _ (lt_of_block N) (fun e=>e)).trans N;have d:C.heap[w.heap.size+1]?=some (.cells #[.int .i64 E.kind,.int .i64 E.start,.string E.lead,.slice a2 E.n H] 24 (0,0)):=by rw[<- Q,l];exact heap_alloc_new z _
 have s:Below w.heap.size w C:=(T.trans K).below nlr (fun _ e=>e.elim);obtain⟨mb,G⟩:=exq (w.heap.size);obtain⟨nb,I⟩:=exq (w.heap.size+1);obtain⟨⟨m0,m1,X,m3⟩,_⟩:=cells4 c;have R:=qh (z1t C (⟨_,rfl,hS.kept (z0b s none)⟩:Ma none C (.agg #[.int .i64 D.kind,.int .i64 D.start,.string D.lead,.slice a D.n Z]) D) U (ht.below s nlr));rw[<- G] at c;rw[<- I] at d;have O:=qh s;clear s;have i:=qh c;clear c N T K Q;have g:=qh d;clear d;have a4:=qh J;clear J hS;have HT:=qh ht;clear ht U;have a1:=qh S;clear S;rw[l,j] at m0 m1 X m3
 go_enter func108,ntmps108
 go_wp2_with fail
 rw[<- j,<- l,<- I,<- G];clear m0 m1 X m3 j l G I;refine R.out.mono ?_;rintro r w3 ⟨u,hr⟩;have A:=O.out.trans (u.mono O.out.size);have c:=(u.block _ (lt_of_block i.out)).trans i.out;have d:=(u.block _ (lt_of_block g.out)).trans g.out;obtain⟨⟨m0,m1,X,m3⟩,_⟩:=cells4 c;obtain⟨⟨n0,n1,n2,n3⟩,_⟩:=cells4 d;clear u i g R O;have k:=qh A;clear A;have i:=qh c;clear c;have g:=qh d;clear d
 rcases hr with ⟨m,rfl⟩|⟨m,rfl⟩
 rotate_left
 ·have Y:=qh m;clear m;go_wp2;go_ret;exact⟨k.out,_,rfl,.inr (.inr ⟨fun h=>Y.out h.1,rfl⟩)⟩
 have Y:=qh m;clear m;have P:=qh (z1t w3 (⟨_,rfl,a4.out.kept (z0b k.out none)⟩:Ma none w3 (.agg #[.int .i64 E.kind,.int .i64 E.start,.string E.lead,.slice a2 E.n H]) E) a1.out (HT.out.below k.out nlr))
 go_wp2_with fail
 refine P.out.mono ?_;rintro r w4 ⟨p,hr⟩;have B:=k.out.trans (p.mono k.out.size);have c:=(p.block _ (lt_of_block i.out)).trans i.out;have d:=(p.block _ (lt_of_block g.out)).trans g.out;clear m0 m1 X m3 n0 n1 n2 n3;have m0:=(cells4 c).1.1;have n0:=(cells4 d).1.1;clear p i g P k c d;have L:=qh B;clear B
 rcases hr with ⟨m,rfl⟩|⟨m,rfl⟩
 rotate_left
 ·have o:=qh m;clear m;go_wp2;go_ret;exact⟨L.out,_,rfl,.inr (.inr ⟨fun h=>o.out h.2,rfl⟩)⟩
 have o:=qh m;clear m;by_cases W:D.kind=E.kind
 ·have F:=qh W;rw[W] at m0;clear W;go_wp2;go_ret;exact⟨L.out,_,rfl,.inl ⟨Y.out,o.out,F.out,rfl⟩⟩
 have F:=qh W;go_wp2;go_ret;exact⟨L.out,_,rfl,.inr (.inl ⟨Y.out,o.out,F.out,rfl⟩)⟩
section
variable {w:World} {db:Nat} {D:MD} {sv:Value} {one:ByteArray} {ac fl:Int} {t:TypeId} (h:w.heap[db]?=some (.cells (bcs D sv one ac fl) t (0,0)))
include h
theorem BlkB.set2 (s:ByteArray):(w.setCell ⟨db,2,none⟩ (.string s)).heap[db]?=some (.cells (bcs { D with lead:=s } sv one ac fl) t (0,0)):=by
 unfold bcs at h ⊢;simp[World.setCell,Array.getElem?_modify,h]
theorem BlkB.set1 (s:Int):(w.setCell ⟨db,1,none⟩ (.int .i64 s)).heap[db]?=some (.cells (bcs { D with start:=s } sv one ac fl) t (0,0)):=by
 unfold bcs at h ⊢;simp[World.setCell,Array.getElem?_modify,h]
end
theorem BlS.lead {F:Nat->Prop} {B db:Nat} {D:MD} {one:ByteArray} {ac fl:Int} {w:World} (h:BlS F B db D one ac fl w) (s:ByteArray):BlS F B db { D with lead:=s } one ac fl (w.setCell ⟨db,2,none⟩ (.string s)):=by
 obtain⟨R,sv,c,g⟩:=h;have d:=c.own.other (p:=⟨db,2,none⟩) (z2k c.own.top c.blk (by decide)) (fun i hi=>z2k (c.own.row i hi) c.blk (by decide)) (.string s);exact⟨R,sv,⟨BlkB.set2 c.blk s,⟨d.top,d.row,d.apart⟩,c.low⟩,fun b hb=>⟨(g b hb).1,by rw[nblk_setCell];exact(g b hb).2.1,(g b hb).2.2⟩⟩
theorem BlS.start {F:Nat->Prop} {B db:Nat} {D:MD} {one:ByteArray} {ac fl:Int} {w:World} (h:BlS F B db D one ac fl w) (s:Int):BlS F B db { D with start:=s } one ac fl (w.setCell ⟨db,1,none⟩ (.int .i64 s)):=by
 obtain⟨R,sv,c,g⟩:=h;have d:=c.own.other (p:=⟨db,1,none⟩) (z2k c.own.top c.blk (by decide)) (fun i hi=>z2k (c.own.row i hi) c.blk (by decide)) (.int .i64 s);exact⟨R,sv,⟨BlkB.set1 c.blk s,⟨d.top,d.row,d.apart⟩,c.low⟩,fun b hb=>⟨(g b hb).1,by rw[nblk_setCell];exact(g b hb).2.1,(g b hb).2.2⟩⟩
theorem BlS.cells {F:Nat->Prop} {B db:Nat} {D:MD} {one:ByteArray} {ac fl:Int} {w:World} (h:BlS F B db D one ac fl w):(∃ v,w.cell? ⟨db,1,none⟩=some (.int .i64 v))/\w.cell? ⟨db,2,none⟩=some (.string D.lead)/\∀ j,w.frozen? ⟨db,j,none⟩=false:=by
 obtain⟨R,sv,c,d⟩:=h;exact⟨⟨_,BlkB.c1 c.blk⟩,BlkB.c2 c.blk,BlkB.fz c.blk⟩
end
section
open Go.RowKit Go.Deep
section
variable {P:Program} {ops:Array Oper} {Q:Exit->Act->World->Prop} {S:World->Prop} {s:List Nat}
def AnyL (P:Program) (ops:Array Oper) (Q:Exit->Act->World->Prop) (S:World->Prop) (s:List Nat):Nat->Array Bool->Act->World->Prop
 | 0,listed,a,w=>Region.ready .any ops listed=[]/\Q .normal a w
 | fuel+1,listed,a,w=>(Region.ready .any ops listed=[]->Q .normal a w) /\
  ∀ i ∈ Region.ready .any ops listed,wpOp P ops Q i (fun a' w'=>(i ∈ s\/S w')/\AnyL P ops Q S s fuel (listed.setIfInBounds i true) a' w') a w
theorem AnyL.any:∀ (fuel:Nat) (listed:Array Bool) (a:Act) (w:World),AnyL P ops Q S s fuel listed a w->wpAny P .any ops Q fuel listed a w
 | 0,_,_,_,h=>h
 | fuel+1,_,_,_,h=>⟨h.1,fun i hi=>wpOp_mono (fun a' w' h'=>AnyL.any fuel _ a' w' h'.2) (h.2 i hi)⟩
theorem AnyL.first {i:Nat} {D:Oper} {v:Value} (hi:ops[i]?=some D) (C:∀ (j:Nat) (o:Oper) cs b,ops[j]?=some o->o.op≠.select cs b)
  (hQ:∀ c a w,Q (.panic c) (a.put D.dst v) w->Q (.panic c) a w) :
  ∀ (g:Nat) (d:Array Bool) (a:Act) (w:World),(∀ x ∈ s,d.getD x false=true\/waits ops ops.size x i=true) ->
   (∀ j oj,ops[j]?=some oj->j≠i->d.getD j true=false->(∀ e ∈ oj.after,Region.binds .any e=true->e.on≠i)->D.apart ops oj=true) ->
   i ∈ Region.ready .any ops d->Closed ops d->YieldsIf P ops S D v a->S w ->
   AnyL P ops Q S s g (d.setIfInBounds i true) (a.put D.dst v) w->AnyL P ops Q S s (g+1) d a w:=by
 intro g
 induction g with
 | zero =>
  intro d a w Z _ F G U K H;refine⟨fun h=>(by rw[h] at F;cases F),fun j R=>?_⟩;by_cases l:j=i
  ·subst l;exact U.wpOp hi K ⟨.inr K,H⟩
  have:=ready_mono R l;rw[H.1] at this;cases this
 | succ g ih =>
  intro d a w Z p F G U K H;refine⟨fun h=>(by rw[h] at F;cases F),fun j R=>?_⟩;by_cases l:j=i
  ·subst l;exact U.wpOp hi K ⟨.inr K,H⟩
  have T:=H.2 j (ready_mono R l);obtain⟨m,oj,A,B⟩:=mem_ready.1 R;have u:d.getD i false=false:=by
   have h0:=(mem_ready.1 F).1
   rcases Nat.lt_or_ge i d.size with E|E
   ·simp[E] at h0 ⊢;exact h0
   simp[Array.getElem?_eq_none E]
  have O:∀ e ∈ oj.after,Region.binds .any e=true->e.on≠i:=fun e W hb Y=>by
   have T:=B e W hb;rw[Y,u] at T;cases T
  have a4:j ∉ s:=fun e=>by
   have a3:d.getD j false=false:=by
    rcases Nat.lt_or_ge j d.size with E|E
    ·simp[E] at m ⊢;exact m
    simp[Array.getElem?_eq_none E]
   have a2:waits ops ops.size j i=true:=(Z j e).resolve_left (by rw[a3];simp);have:=y1z G _ _ a2 (fun o' N e W hb=>by rw[A] at N;cases N;exact B e W hb);rw[u] at this;cases this
  have h2:=wpOp_putIf A (p j oj A l m O) (fun cs b=>C i D cs b hi) (fun cs b=>C j oj cs b A) hQ U T;have z:∀ k ok,ops[k]?=some ok->k≠i->(d.setIfInBounds j true).getD k true=false ->
    (∀ e ∈ ok.after,Region.binds .any e=true->e.on≠i)->D.apart ops ok=true:=fun k ok hk X I a1=>by
   refine p k ok hk X ?_ a1;by_cases L:j=k
   ·subst L;exact m
   rw[getD_set_ne true L] at I;exact I
  refine wpOp_mono (fun a' w' h3=>?_) h2;have J:S w':=h3.2.1.resolve_left a4;refine⟨.inr J,ih (d.setIfInBounds j true) a' w' (fun x hx=>(Z x hx).imp (fun h=>getD_set_true h) id) z (ready_mono F (Ne.symm l)) (G.set R) h3.1 J ?_⟩;rw[Array.setIfInBounds_comm _ _ l];exact h3.2.2
theorem AnyL.firstP {i:Nat} {B:Oper} {v:Value} (I:i ∈ s) (hi:ops[i]?=some B) (z:∀ (j:Nat) (o:Oper) cs b,ops[j]?=some o->o.op≠.select cs b)
  (hQ:∀ c a w,Q (.panic c) (a.put B.dst v) w->Q (.panic c) a w) :
  ∀ (g:Nat) (d:Array Bool) (a:Act) (w:World),
   (∀ j oj,ops[j]?=some oj->j≠i->d.getD j true=false->(∀ e ∈ oj.after,Region.binds .any e=true->e.on≠i)->B.apart ops oj=true) ->
   i ∈ Region.ready .any ops d->YieldsIf P ops (fun _=>True) B v a ->
   AnyL P ops Q S s g (d.setIfInBounds i true) (a.put B.dst v) w->AnyL P ops Q S s (g+1) d a w:=by
 intro g
 induction g with
 | zero =>
  intro d a w _ C N H;refine⟨fun h=>(by rw[h] at C;cases C),fun j O=>?_⟩;by_cases l:j=i
  ·subst l;exact N.wpOp hi trivial ⟨.inl I,H⟩
  have:=ready_mono O l;rw[H.1] at this;cases this
 | succ g ih =>
  intro d a w m C N H;refine⟨fun h=>(by rw[h] at C;cases C),fun j O=>?_⟩;by_cases l:j=i
  ·subst l;exact N.wpOp hi trivial ⟨.inl I,H⟩
  have L:=H.2 j (ready_mono O l);obtain⟨u,oj,E,K⟩:=mem_ready.1 O;have D:d.getD i false=false:=by
   have Y:=(mem_ready.1 C).1
   rcases Nat.lt_or_ge i d.size with U|U
   ·simp[U] at Y ⊢;exact Y
   simp[Array.getElem?_eq_none U]
  have J:∀ e ∈ oj.after,Region.binds .any e=true->e.on≠i:=fun e Z hb T=>by
   have L:=K e Z hb;rw[T,D] at L;cases L
  have h2:=wpOp_putIf E (m j oj E l u J) (fun cs b=>z i B cs b hi) (fun cs b=>z j oj cs b E) hQ N L;have p:∀ k ok,ops[k]?=some ok->k≠i->(d.setIfInBounds j true).getD k true=false ->
    (∀ e ∈ ok.after,Region.binds .any e=true->e.on≠i)->B.apart ops ok=true:=fun k ok hk R F W=>by
   refine m k ok hk R ?_ W;by_cases G:j=k
   ·subst G;exact u
   rw[getD_set_ne true G] at F;exact F
  refine wpOp_mono (fun a' w' X=>?_) h2;refine⟨X.2.1,ih (d.setIfInBounds j true) a' w' p (ready_mono C (Ne.symm l)) X.1 ?_⟩;rw[Array.setIfInBounds_comm _ _ l];exact X.2.2
def tpBL (ops:Array Oper) (s:List Nat) (i:Nat) (listed:Array Bool):Bool:=s.contains i&&Region.noSelect ops&&Region.free .any ops listed i&&(Region.ready .any ops listed).contains i
theorem AnyL.tp {i:Nat} {j:Oper} {v:Value} {g:Nat} {d:Array Bool} {a:Act} {w:World} (hi:ops[i]?=some j) (hb:tpBL ops s i d=true) (k:YieldsIf P ops (fun _=>True) j v a)
  (h:AnyL P ops Q S s g (d.setIfInBounds i true) (a.put j.dst v) w) (hQ:∀ c a w,Q (.panic c) (a.put j.dst v) w->Q (.panic c) a w:=by exact fun _ _ _ h=>h):AnyL P ops Q S s (g+1) d a w:=by
 unfold tpBL at hb;simp only[Bool.and_eq_true] at hb;exact AnyL.firstP (by simpa using hb.1.1.1) hi (Region.noSelect_spec hb.1.1.2) hQ g d a w (Region.free_spec hi hb.1.2) (by simpa using hb.2) k h
theorem AnyL.take {i:Nat} {j:Oper} {v:Value} {g:Nat} {d:Array Bool} {a:Act} {w:World} (hi:ops[i]?=some j) (p:(s.all fun x=>d.getD x false||waits ops ops.size x i)=true) (k:y3c ops d=true)
  (o:Region.noSelect ops=true) (hf:Region.free .any ops d i=true) (l:(Region.ready .any ops d).contains i=true)
  (hQ:∀ c a w,Q (.panic c) (a.put j.dst v) w->Q (.panic c) a w) (m:S w) (z:YieldsIf P ops S j v a)
  (h:AnyL P ops Q S s g (d.setIfInBounds i true) (a.put j.dst v) w):AnyL P ops Q S s (g+1) d a w :=
 AnyL.first hi (Region.noSelect_spec o) hQ g d a w (fun x u=>by simpa using List.all_eq_true.1 p x u) (Region.free_spec hi hf) (by simpa using l) (y9k k) z m h
def tkBL (ops:Array Oper) (s:List Nat) (i:Nat) (listed:Array Bool):Bool:=(s.all fun x=>listed.getD x false||waits ops ops.size x i)&&y3c ops listed&&Region.noSelect ops&&Region.free .any ops listed i&&(Region.ready .any ops listed).contains i
theorem AnyL.tk {i:Nat} {j:Oper} {v:Value} {g:Nat} {d:Array Bool} {a:Act} {w:World} (hi:ops[i]?=some j) (hb:tkBL ops s i d=true) (k:S w) (l:YieldsIf P ops S j v a)
  (h:AnyL P ops Q S s g (d.setIfInBounds i true) (a.put j.dst v) w) (hQ:∀ c a w,Q (.panic c) (a.put j.dst v) w->Q (.panic c) a w:=by exact fun _ _ _ h=>h):AnyL P ops Q S s (g+1) d a w:=by
 unfold tkBL at hb;simp only[Bool.and_eq_true] at hb;exact AnyL.take hi hb.1.1.1.1 hb.1.1.1.2 hb.1.1.2 hb.1.2 hb.2 hQ k l h
theorem AnyL.one {i:Nat} {o:Oper} {d:Nat} {c:Array Bool} {a:Act} {w:World} (A:ops[i]?=some o) (l:Region.ready .any ops c=[i]) (g:Region.wanted o (yielded ops a.tmps)=true)
  (h:∀ K:Act->World->Prop,Shut (∀ a w,(i ∈ s\/S w)->AnyL P ops Q S s d (c.setIfInBounds i true) a w->K a w)->Oper.wp P o a w K Q):AnyL P ops Q S s (d+1) c a w:=by
 refine⟨fun m=>(by rw[l] at m;cases m),fun j k=>?_⟩;rw[l] at k;obtain rfl:j=i:=by simpa using k
 exact wpOp_step A (fun K z=>by rw[if_pos g];exact h K (fun a w u p=>z a w ⟨u,p⟩))
theorem AnyL.tm (i:Nat) {j:Oper} {v:Value} {g:Nat} {d:Array Bool} {a:Act} {w:World} (l:S w)
  (h:AnyL P ops Q S s g (d.setIfInBounds i true) (a.put j.dst v) w) (hi:ops[i]?=some j:=by rfl) (hb:tkBL ops s i d=true:=by kernel_rfl) (k:Region.wanted j (yielded ops a.tmps)=true:=by kernel_rfl)
  (m:∀ w,S w->(execOp a.eval j).run P w=.ok (.value v) w:=by (intro w h;go_simp;try with_reducible rfl)) (hQ:∀ c a w,Q (.panic c) (a.put j.dst v) w->Q (.panic c) a w:=by exact fun _ _ _ h=>h):AnyL P ops Q S s (g+1) d a w:=AnyL.tk hi hb l (.inl ⟨k,m⟩) h hQ
theorem AnyL.tq (i:Nat) {j:Oper} {v:Value} {g:Nat} {d:Array Bool} {a:Act} {w:World}
  (h:AnyL P ops Q S s g (d.setIfInBounds i true) (a.put j.dst v) w) (hi:ops[i]?=some j:=by rfl) (hb:tpBL ops s i d=true:=by kernel_rfl) (k:Region.wanted j (yielded ops a.tmps)=true:=by kernel_rfl)
  (l:∀ w,True->(execOp a.eval j).run P w=.ok (.value v) w:=by (intro w h;go_simp;try with_reducible rfl)) (hQ:∀ c a w,Q (.panic c) (a.put j.dst v) w->Q (.panic c) a w:=by exact fun _ _ _ h=>h):AnyL P ops Q S s (g+1) d a w:=AnyL.tp hi hb (.inl ⟨k,l⟩) h hQ
theorem AnyL.on (i:Nat) {o:Oper} {d:Nat} {c:Array Bool} {a:Act} {w:World} (h:∀ K:Act->World->Prop,Shut (∀ a w,(i ∈ s\/S w)->AnyL P ops Q S s d (c.setIfInBounds i true) a w->K a w)->Oper.wp P o a w K Q)
  (k:ops[i]?=some o:=by rfl) (j:Region.ready .any ops c=[i]:=by kernel_rfl) (g:Region.wanted o (yielded ops a.tmps)=true:=by rfl):AnyL P ops Q S s (d+1) c a w:=AnyL.one k j g h
theorem AnyL.done {listed:Array Bool} {a:Act} {w:World} (hr:Region.ready .any ops listed=[]) (h:Q .normal a w):∀ fuel,AnyL P ops Q S s fuel listed a w
 | 0=>⟨hr,h⟩
 | _+1=>⟨fun _=>h,by rw[hr];simp⟩
theorem AnyL.dn {c:Array Bool} {a:Act} {w:World} {d:Nat} (h:Q .normal a w) (g:Region.ready .any ops c=[]:=by kernel_rfl):AnyL P ops Q S s d c a w:=AnyL.done g h d
theorem AnyL.loose {late:List Nat}:∀ {fuel:Nat} {listed:Array Bool} {a:Act} {w:World},(∀ i,i<listed.size->listed.getD i true=false->i ∈ late)->AnyL P ops Q (fun _=>True) [] fuel listed a w->AnyL P ops Q S late fuel listed a w
 | 0,_,_,_,_,h=>h
 | fuel+1,listed,a,w,hl,h=>by
  refine⟨h.1,fun i hi=>wpOp_mono (fun a' w' h'=>⟨.inl ?_,AnyL.loose (fun j hj hf=>?_) h'.2⟩) (h.2 i hi)⟩
  ·obtain⟨h1,_⟩:=mem_ready.1 hi;refine hl i ?_ h1
   rcases Nat.lt_or_ge i listed.size with h' | h'
   ·exact h'
   simp[Array.getD,Nat.not_lt.2 h'] at h1
  refine hl j (by simpa using hj) ?_;by_cases e:i=j
  ·subst e;have hj':i<listed.size:=by simpa using hj
   simp[Array.getD,hj'] at hf
  rwa [getD_set_ne true e] at hf
def u5f (late:List Nat) (listed:Array Bool):Bool:=(List.range listed.size).all fun i=>listed.getD i true||late.contains i
theorem AnyL.loose' {g:List Nat} {d:Nat} {c:Array Bool} {a:Act} {w:World} (h:u5f g c=true) (j:AnyL P ops Q (fun _=>True) [] d c a w):AnyL P ops Q S g d c a w :=
 AnyL.loose (fun i hi hf=>by
  have:=List.all_eq_true.1 h i (List.mem_range.2 hi);rw[hf] at this;simpa using this) j
theorem x0c (S:World->Prop) (s:List Nat) {d:Nat} {a:Act} {w:World} (c:P.follows .mixedOrders=true)
  (h:AnyL P ops Q S s ops.size (Array.replicate ops.size false) a w.drew):(Code.region d ops true).wp P Q a w :=
 wp_region_any c (AnyL.any _ _ _ _ h)
end
end
section
open Go.RowKit Go.Deep
def SymF (nf:FuncId) (cap:Array Value) (φ:Int->Int->Int × Int) (P:World->Prop):Prop :=
 (∀ args w,(callFunc nf args).run prog w=.ok (.enter nf args) w)/\∀ w,P w->∀ i o:Int,0<=i->i<=500->0<=o->o<=500->Calls prog nf (#[.int .i64 i,.int .i64 o]++cap) w (fun r w'=>r=.returned (.tuple #[.int .i64 (φ i o).1,.int .i64 (φ i o).2])/\Below w.heap.size w w')
structure ApI (w wr:World) (cb rb g q:Nat) (fv:Value) (D:MD) (φ:Int->Int->Int × Int) (R A:Nat->Value):Prop where
 hb:Below w.heap.size w wr
 kc:wr.heap[cb]?=some (.cells #[fv] 69 (0,0))
 kr:wr.heap[rb]?=some (.cells #[.int .i64 D.kind,.int .i64 D.start,.string D.lead,.slice (some ⟨g,0,none⟩) D.n D.n] 24 (0,0))
 lr:w.heap.size<=rb
 top:wr.ownsRow w.heap.size 57 2 (.slice (some ⟨g,0,none⟩) D.n D.n) D.n (cat (st2 D (fun i=>if i<q then R i else A i)) D.n)
 row:∀ i,i<q->wr.ownsRow w.heap.size 59 4 (R i) (D.na i) (cat (arc4 (D.sym φ) i) (D.na i))
 apart:∀ i j,i<q->j<q->i≠j->∀ b,(R i).ownBlock=some b->(R j).ownBlock≠some b
def mixA (D:MD) (φ:Int->Int->Int × Int) (q d k:Nat):List Value:=if k<d then arc4 (D.sym φ) q k else arc4 D q k
theorem y0h (D:MD) (φ:Int->Int->Int × Int) (q d k:Nat):(mixA D φ q d k).length=4:=by unfold mixA;split<;>rfl
theorem v5w {D:MD} {φ:Int->Int->Int × Int} {q d n:Nat} (g:d<n):((cat (mixA D φ q d) n).set (d*4+0) (.int .i64 (φ (D.ain q d) (D.aout q d)).1)).set (d*4+1) (.int .i64 (φ (D.ain q d) (D.aout q d)).2)=cat (mixA D φ q (d+1)) n:=by
 have h:∀ k,((fun k=>if k=d then (mixA D φ q d d).set 0 (.int .i64 (φ (D.ain q d) (D.aout q d)).1) else mixA D φ q d k) k).length=4:=fun k=>by
  dsimp only;split
  ·rw[List.length_set,y0h]
  exact y0h _ _ _ _ _
 rw[y0t (y0h D φ q d) (by omega) _ g,y0t h (by omega) _ g];refine z2c fun k i=>?_;by_cases e:k=d
 ·subst e;simp only[if_pos];unfold mixA;rw[if_neg (Nat.lt_irrefl _),if_pos (Nat.lt_succ_self _)];rfl
 simp only[if_neg e];unfold mixA;by_cases c:k<d
 ·rw[if_pos c,if_pos (by omega)]
 rw[if_neg c,if_neg (by omega)]
theorem v2y {D:MD} {φ:Int->Int->Int × Int} {q n:Nat}:cat (mixA D φ q n) n=cat (arc4 (D.sym φ) q) n:=z2c fun k c=>by unfold mixA;rw[if_pos c]
theorem v2r {D:MD} {φ:Int->Int->Int × Int} {q n:Nat}:cat (mixA D φ q 0) n=cat (arc4 D q) n:=z2c fun k c=>by unfold mixA;rw[if_neg (by omega)]
theorem x2a {c:Nat->List Value} (h:∀ i,∀ v ∈ c i,v.oneCell'=true):∀ n,∀ v ∈ cat c n,v.oneCell'=true
 | 0,v,hv=>by simp[cat] at hv
 | n+1,v,hv=>by
  rw[z5c] at hv
  rcases List.mem_append.1 hv with hv|hv
  ·exact x2a h n v hv
  exact h n v hv
theorem x7y {c:Nat->List Value} {s n:Nat} (k:0<s) (l:∀ i,(c i).length=s) {w:World} {b d:Nat} (h:∀ i j,i<n->j<s->∀ v,(c i)[j]?=some v->w.cell? ⟨b,d+i*s+j,none⟩=some v) :
  ∀ j v,(cat c n)[j]?=some v->w.cell? ((⟨b,d,none⟩:Addr).add j)=some v:=by
 intro j v u;rw[Addr.add_lit];have A:j<n*s:=by have:=(List.getElem?_eq_some_iff.1 u).1;rw[z4k l] at this;exact this
 have m:j % s<s:=Nat.mod_lt _ k;have p:j / s<n:=(Nat.div_lt_iff_lt_mul k).2 A;have z:j / s*s+j % s=j:=by rw[Nat.mul_comm];exact Nat.div_add_mod j s
 have g:=z5j l m p;rw[z,u] at g;have o:=h (j / s) (j % s) p m v g.symm;rw[Nat.add_assoc,z] at o;exact o
theorem y6b {w:World} {B g n s:Nat} {e:TypeId} {c:Array Value} (h:w.heap[g]?=some (.cells c e (0,0))) (i:B<=g) (j:n<=maxLen) (cs:List Value) (d:cs.length=n*s) :
  (w.setRow g cs.toArray).ownsRow B e s (.slice (some ⟨g,0,none⟩) n n) n cs :=
 ⟨d,.inr ⟨g,n,cs.toArray,rfl,i,setRow_heap w g c _ e _ h,nlr,j,by simp[d],by
  show cs.toArray.toList.take (n*s)=cs;rw[<- d];simp⟩⟩
theorem v2q {w:World} {B:Nat} {e:TypeId} {s g n cap:Nat} {xs:List Value} (h:w.ownsRow B e s (.slice (some ⟨g,0,none⟩) n cap) n xs):∃ cs,w.heap[g]?=some (.cells cs e (0,0)):=by
 rcases h.2 with ⟨d,_⟩|⟨k,j,i,d,_,c,_⟩
 ·cases d
 cases d;exact⟨i,c⟩
theorem v7v {g:Nat} {w c:World} (h:Fr (fun x=>x=g) w c):w.grownBy c (some g):=(h.mono (C':=fun q=>some g=some q) (fun q _ e=>by rw[e])).gb
theorem ApI.mid {w j wr:World} {k rb g d q:Nat} {fv:Value} {D:MD} {φ:Int->Int->Int × Int} {R A:Nat->Value} (h:ApI w j k rb g q fv D φ R A) (c:Fr (fun x=>x=d) j wr) (m:j.heap.size<=d) (o:w.heap.size<=d):ApI w wr k rb g q fv D φ R A:=by
 have l:∀ b,b<j.heap.size->some d≠some b:=fun b hb e=>by injection e;omega
 refine⟨h.hb.trans (c.below h.hb.size (fun x e=>by rw[e];exact o)),?_,?_,h.lr,?_,fun i hi=>?_,h.apart⟩
 ·exact(c.block _ (lt_of_block h.kc) (by have:=lt_of_block h.kc;omega)).trans h.kc
 ·exact(c.block _ (lt_of_block h.kr) (by have:=lt_of_block h.kr;omega)).trans h.kr
 ·exact z2n h.top (v7v c) (fun b hb=>l b (World.ownsRow.lt h.top b hb).2)
 exact z2n (h.row i hi) (v7v c) (fun b hb=>l b (World.ownsRow.lt (h.row i hi) b hb).2)
theorem ApI.next {w wr:World} {C rb g c q:Nat} {fv:Value} {D:MD} {φ:Int->Int->Int × Int} {R A:Nat->Value} (h:ApI w wr C rb g q fv D φ R A) (L:q<D.n)
  (s:∀ i,i<q->(R i).ownBlock≠some c) (m:wr.ownsRow w.heap.size 59 4 (.slice (some ⟨c,0,none⟩) (D.na q) (D.na q)) (D.na q) (cat (arc4 (D.sym φ) q) (D.na q))) :
  ApI w (wr.setCell ⟨g,q*2+1,none⟩ (.slice (some ⟨c,0,none⟩) (D.na q) (D.na q))) C rb g (q+1) fv D φ (fun i=>if i=q then .slice (some ⟨c,0,none⟩) (D.na q) (D.na q) else R i) A:=by
 have G:=World.ownsRow.lt h.top g rfl;obtain⟨O,z⟩:=v2q h.top;have F:C≠g:=fun e=>by
  have:=h.kc;rw[e,z] at this;simp at this
 have E:rb≠g:=fun e=>by
  have:=h.kr;rw[e,z] at this;simp at this
 have o:∀ {v:Value} {n:Nat} {I:List Value},wr.ownsRow w.heap.size 59 4 v n I->v.ownBlock≠some g:=fun {v n I} B=>v1c h.top B (by decide) rfl;have P:∀ i,i<q+1->((fun i=>if i=q then Value.slice (some ⟨c,0,none⟩) (D.na q) (D.na q) else R i) i).ownBlock≠some g:=fun i hi=>by
  dsimp only
  split
  ·exact o m
  exact o (h.row i (by omega))
 refine⟨h.hb.setCell (p:=⟨g,q*2+1,none⟩) G.1 _,?_,?_,h.lr,?_,fun i hi=>?_,fun i j hi N H b hb=>?_⟩
 ·rw[z0e F];exact h.kc
 ·rw[z0e E];exact h.kr
 ·have B:=y3e h.top (q*2+1) (.slice (some ⟨c,0,none⟩) (D.na q) (D.na q));rw[y0t (z4w D _) (by omega) _ L] at B;rw[show cat (st2 D (fun i=>if i<q+1 then (if i=q then Value.slice (some ⟨c,0,none⟩) (D.na q) (D.na q) else R i) else A i)) D.n=_ from z2c (d:=fun k=>if k=q then (st2 D (fun i=>if i<q then R i else A i) q).set 1 (.slice (some ⟨c,0,none⟩) (D.na q) (D.na q)) else st2 D (fun i=>if i<q then R i else A i) k) (fun k Q=>?_)]
  ·exact B
  by_cases e:k=q
  ·subst e;simp[st2]
  by_cases u:k<q
  ·simp[st2,e,u,show k<q+1 by omega]
  simp[st2,e,u,show ¬ k<q+1 by omega]
 ·by_cases e:i=q
  ·subst e;show (wr.setCell _ _).ownsRow _ _ 4 (if i=i then _ else R i) _ _
   rw[if_pos rfl];exact z5s m (o m) _
  show (wr.setCell _ _).ownsRow _ _ 4 (if i=q then _ else R i) _ _
  rw[if_neg e];exact z5s (h.row i (by omega)) (o (h.row i (by omega))) _
 have l:(if i=q then Value.slice (some ⟨c,0,none⟩) (D.na q) (D.na q) else R i).ownBlock=some b:=hb
 show (if j=q then Value.slice (some ⟨c,0,none⟩) (D.na q) (D.na q) else R j).ownBlock≠some b
 by_cases e:i=q
 ·rw[if_pos e] at l;rw[if_neg (by omega)];have u:c=b:=by simpa [Value.ownBlock] using l
  rw[<- u];exact s j (by omega)
 rw[if_neg e] at l;by_cases u:j=q
 ·rw[if_pos u];intro J;have K:c=b:=by simpa [Value.ownBlock] using J
  exact s i (by omega) (by rw[K];exact l)
 rw[if_neg u];exact h.apart i j (by omega) (by omega) H b l
theorem ApI.own {w wr:World} {c rb g:Nat} {fv:Value} {D:MD} {φ:Int->Int->Int × Int} {R A:Nat->Value} (h:ApI w wr c rb g D.n fv D φ R A):OwM wr w.heap.size (.slice (some ⟨g,0,none⟩) D.n D.n) (D.sym φ) R:=by
 refine⟨?_,h.row,h.apart⟩;show wr.ownsRow _ _ 2 _ D.n (cat (st2 (D.sym φ) R) D.n);rw[show cat (st2 (D.sym φ) R) D.n=cat (st2 D (fun i=>if i<D.n then R i else A i)) D.n from z2c fun i hi=>by
  show [Value.string (D.fin i),R i]=[Value.string (D.fin i),if i<D.n then R i else A i]
  rw[if_pos hi]]
 exact h.top
theorem OwM.box4 {w:World} {B rb:Nat} {sv:Value} {D:MD} {R:Nat->Value} {a0 m o s:Value} (h:OwM w B sv D R) (hb:w.heap[rb]?=some (.cells #[a0,m,o,s] 24 (0,0))) (g l j k:Value) :
  OwM ((((w.setCell ⟨rb,0,none⟩ g).setCell ⟨rb,1,none⟩ l).setCell ⟨rb,2,none⟩ j).setCell ⟨rb,3,none⟩ k) B sv D R :=
 have d:=z2k h.top hb (by decide);have c:=fun i (hi:i<D.n)=>z2k (h.row i hi) hb (by decide)
 (((h.other (p:=⟨rb,0,none⟩) d c g).other (p:=⟨rb,1,none⟩) d c l).other (p:=⟨rb,2,none⟩) d c j).other (p:=⟨rb,3,none⟩) d c k
end
section
open Go.RowKit Go.Deep
theorem z6g {D:MD} {mv:Value} {nf:FuncId} {fc:Array Value} {φ:Int->Int->Int × Int} {P:World->Prop} (w:World) (hM:Ma none w mv D) (l2:MSz D) (ht:Tab w) (hF:SymF nf fc φ P) (hP:P w) (v6:∀ wb,Below w.heap.size w wb->P wb) :
  Calls prog 48 #[.agg #[.func (.func nf) #[] fc],mv] w (MkE (VM D) (D.sym φ) 1 w):=by
 obtain⟨sv,rfl,hS⟩:=hM;obtain⟨a,cp,b,T,A,C,BB,O,rfl,ha,hc,hm,hb,Z⟩:=hS.open;obtain⟨A1,s7⟩:=hF;obtain⟨fv,A3⟩:=exq (Value.func (.func nf) #[] fc);obtain⟨w1,b7⟩:=exq (w.alloc (.cells #[.func (.func nf) #[] fc] 69));obtain⟨w2,b8⟩:=exq (w1.alloc (.cells #[.int .i64 D.kind,.int .i64 D.start,.string D.lead,.slice a D.n cp] 24));obtain⟨w3,e6⟩:=exq (w2.alloc (.cells #[.int .i64 0,.int .i64 0,.string ⟨#[]⟩,.slice none 0 0] 24));have i8:w1.heap.size=w.heap.size+1:=by rw[b7];simp
 have o2:w2.heap.size=w.heap.size+1+1:=by rw[b8];simp[i8]
 have o8:Fr (fun _=>False) w w1:=by rw[b7];exact Fr.alloc _ _
 have j2:Fr (fun _=>False) w1 w2:=by rw[b8];exact Fr.alloc _ _
 have g8:Fr (fun _=>False) w2 w3:=by rw[e6];exact Fr.alloc _ _
 have t7:w1.heap[w.heap.size]?=some (.cells #[.func (.func nf) #[] fc] 69 (0,0)):=by rw[b7];exact heap_alloc_new w _
 have o5:w2.heap[w.heap.size+1]?=some (.cells #[.int .i64 D.kind,.int .i64 D.start,.string D.lead,.slice a D.n cp] 24 (0,0)):=by rw[<- i8,b8];exact heap_alloc_new w1 _
 have j0:w3.heap[w.heap.size+1+1]?=some (.cells #[.int .i64 0,.int .i64 0,.string ⟨#[]⟩,.slice none 0 0] 24 (0,0)):=by rw[<- o2,e6];exact heap_alloc_new w2 _
 have l1:w3.heap[w.heap.size]?=some (.cells #[.func (.func nf) #[] fc] 69 (0,0)):=(g8.block _ (by omega) (fun e=>e)).trans ((j2.block _ (by omega) (fun e=>e)).trans t7);have f4:w3.heap[w.heap.size+1]?=some (.cells #[.int .i64 D.kind,.int .i64 D.start,.string D.lead,.slice a D.n cp] 24 (0,0)):=(g8.block _ (by omega) (fun e=>e)).trans o5;have g9:Below w.heap.size w w3:=((o8.trans j2).trans g8).below nlr (fun _ e=>e.elim);obtain⟨cb,l3⟩:=exq (w.heap.size);obtain⟨U,e7⟩:=exq (w.heap.size+1);obtain⟨u,i4⟩:=exq (w.heap.size+1+1);have f8:w.heap.size<=u:=by omega
 have x0:cb≠u:=by omega
 have w9:U≠u:=by omega
 rw[<- l3] at l1;rw[<- e7] at f4;rw[<- i4] at j0;obtain⟨⟨m0,m1,m2,m3⟩,mz⟩:=cells4 f4;clear mz;have uu5:=qh (z1t w3 (⟨_,rfl,hS.kept (z0b g9 none)⟩:Ma none w3 (.agg #[.int .i64 D.kind,.int .i64 D.start,.string D.lead,.slice a D.n cp]) D) l2 (ht.below g9 nlr));clear o8 j2 g8 t7 o5 i8 o2;have i6:=qh g9;clear g9;have l4:=qh l1;clear l1;have j5:=qh f4;clear f4;have n3:=qh j0;clear j0;have A9:=qh l2;clear l2;have HA:=qh ha;clear ha;have HB:=qh hb;clear hb;have HR:=qh Z;clear Z hS;have z3:=qh v6;clear v6 hP ht;have z2:=qh s7;clear s7;rw[e7,e6,b8,b7] at m0 m1 m2 m3
 go_enter func48,ntmps48
 go_wp2_with fail
 rw[<- b7,<- b8,<- e6,<- i4,<- e7,<- l3];clear m0 m1 m2 m3 b7 b8 e6 i4 e7;have z6:w.heap.size<=cb:=by omega
 clear l3;refine uu5.out.mono ?_;rintro r w4 ⟨e5,hr⟩;have h6:=i6.out.trans (e5.mono i6.out.size);have uu4:=(e5.block _ (lt_of_block l4.out)).trans l4.out;have j9:=(e5.block _ (lt_of_block j5.out)).trans j5.out;have l9:=(e5.block _ (lt_of_block n3.out)).trans n3.out;clear e5 uu5 i6 l4 j5 n3;obtain⟨⟨r0,r1,r2,r3⟩,S⟩:=cells4 l9;have f0:=S 0;have f1:=S 1;have f2:=S 2;have f3:=S 3;clear S;have l5:=qh h6;clear h6;have q7:=qh uu4;clear uu4;have i9:=qh l9;clear l9;obtain⟨⟨m0,m1,m2,m3⟩,mz⟩:=cells4 j9;clear mz;have p9:=qh j9;clear j9
 rcases hr with ⟨z,rfl⟩|⟨z,rfl⟩
 rotate_left
 ·have HV:=qh z;clear z;clear m0 m1 m2 m3
  go_wp2_with fail
  refine bodyPost_ret (z0j rfl _ (b:=u) rfl rfl (z0w w4 u _ _ _ _ i9.out)) rfl ⟨z0d l5.out f8 _ _ _ _,.inr ⟨HV.out,rfl⟩⟩
 have y4:1<=D.n:=z.n1;have x1:D.n<=3000:=z.n2;have uu2:∀ i,i<D.n->D.na i<=30000:=fun i hi=>by have h1:=Nat.le_trans (z1u D (show i+1<=D.n by omega)) z.arcs;have h2:z0h D (i+1)=z0h D i+D.na i:=rfl;omega
 have HV:=qh z;clear z;have v9:=qh uu2;clear uu2;obtain rfl:=HA.out (by omega);unfold maxLen at hm;have b9:=z6u (P:=prog) 22 57 _ 2 40 underlying22 x8w .i64 .i64 D.n (by omega) (by omega);obtain⟨n,hn⟩:=exq (D.n);rw[<- hn] at y4 x1 b9 m3 hc;obtain⟨zs,b3⟩:=exq (madeCells (Value.agg #[.string ⟨#[]⟩,.slice none 0 0]).cells (n*2));rw[<- b3] at b9;have r5:zs.size=n*2:=by rw[b3];exact size_madeCells _ _
 have w0:=qh r5;clear r5 b3;have HN:=qh hn;rw[<- hn];clear hn
 go_wp2_with fail
 refine z0g (fun wk=>wk.cell? ⟨U,0,none⟩=some (.int .i64 D.kind)/\wk.cell? ⟨U,1,none⟩=some (.int .i64 D.start)/\wk.cell? ⟨U,2,none⟩=some (.string D.lead)/\wk.cell? ⟨U,3,none⟩=some (.slice (some ⟨b,T,none⟩) n cp)) 11 (by kernel_rfl) ?_;obtain⟨s,o⟩:=exq (w4.drew);have k:s.cell? ⟨U,0,none⟩=some (.int .i64 D.kind)/\s.cell? ⟨U,1,none⟩=some (.int .i64 D.start)/\s.cell? ⟨U,2,none⟩=some (.string D.lead)/\s.cell? ⟨U,3,none⟩=some (.slice (some ⟨b,T,none⟩) n cp):=by rw[o];exact⟨m0,m1,m2,m3⟩
 rw[<- o];clear m0 m1 m2 m3 r0 r1 r2 r3 f0 f1 f2 f3;have r9:Below w.heap.size w s:=by rw[o];exact l5.out.drew
 have uu0:s.heap[cb]?=some (.cells #[.func (.func nf) #[] fc] 69 (0,0)):=by rw[o];exact q7.out
 have t8:s.heap[U]?=some (.cells #[.int .i64 D.kind,.int .i64 D.start,.string D.lead,.slice (some ⟨b,T,none⟩) D.n cp] 24 (0,0)):=by rw[o];exact p9.out
 have p0:s.heap[u]?=some (.cells #[.int .i64 0,.int .i64 0,.string ⟨#[]⟩,.slice none 0 0] 24 (0,0)):=by rw[o];exact i9.out
 have f5:=qh r9;clear r9 l5 q7 p9 i9;have g3:=qh uu0;clear uu0;have e9:=qh t8;clear t8;have a3:=qh p0;clear p0 o;refine z0c.tm 0 k ?_;refine z0c.tm 1 k ?_;refine z0c.tm 2 k ?_;refine z0c.tm 3 k ?_;refine z0c.tm 4 k ?_;refine z0c.tm 5 k ?_;refine z0c.tm 6 k ?_;refine z0c.tm 7 k ?_;refine z0c.tm 8 k ?_
 try simp only[Act.put,tryL]
 refine z0c.on 9 fun K B=>?_;go_simp;obtain⟨g,hg⟩:=exq (s.heap.size);obtain⟨wa,g0⟩:=exq (s.alloc (.cells zs 57));have d7:Fr (fun _=>False) s wa:=by rw[g0];exact Fr.alloc _ _
 have n9:wa.heap[g]?=some (.cells zs 57 (0,0)):=by rw[g0,hg];exact heap_alloc_new s _
 have v0:=(d7.block _ (lt_of_block g3.out) (fun e=>e)).trans g3.out;have l8:=(d7.block _ (lt_of_block e9.out) (fun e=>e)).trans e9.out;have l6:=(d7.block _ (lt_of_block a3.out) (fun e=>e)).trans a3.out;have n6:Below w.heap.size w wa:=f5.out.trans (d7.below f5.out.size (fun _ e=>e.elim));have v8:w.heap.size<=g:=by rw[hg];exact f5.out.size
 have v5:g≠u:=by rw[hg];have:=lt_of_block a3.out;omega
 have A2:g≠U:=by rw[hg];have:=lt_of_block e9.out;omega
 have y3:g≠cb:=by rw[hg];have:=lt_of_block g3.out;omega
 rw[<- g0,<- hg];clear g0 hg;have Y:wa.cell? ⟨U,0,none⟩=some (.int .i64 D.kind)/\wa.cell? ⟨U,1,none⟩=some (.int .i64 D.start)/\wa.cell? ⟨U,2,none⟩=some (.string D.lead)/\wa.cell? ⟨U,3,none⟩=some (.slice (some ⟨b,T,none⟩) n cp):=by rw[HN.out];exact(cells4 l8).1
 refine B.out _ _ (.inr Y) ?_;clear B K b9
 try simp only[Act.put,tryL]
 obtain⟨⟨r0,r1,r2,r3⟩,S⟩:=cells4 l6;have f0:=S 0;have f1:=S 1;have f2:=S 2;have f3:=S 3;clear S d7 f5 g3 e9 a3 k;have m5:=qh n9;clear n9;have k0:=qh v0;clear v0;have k9:=qh l8;clear l8;have p8:=qh l6;clear l6;have j4:=qh n6;clear n6;refine z0c.on 10 fun K B=>?_;go_simp;refine B.out _ _ (.inr Y) ?_;clear B K
 try simp only[Act.put,tryL]
 refine z0c.on 11 fun K B=>?_;go_simp;refine B.out _ _ (.inl rfl) (z0c.dn ?_);clear B K Y;obtain⟨wb,f7⟩:∃ wb,wb=(((wa.setCell ⟨u,0,none⟩ (.int .i64 D.kind)).setCell ⟨u,1,none⟩ (.int .i64 D.start)).setCell ⟨u,2,none⟩ (.string D.lead)).setCell ⟨u,3,none⟩ (.slice (some ⟨g,0,none⟩) n n):=⟨_,rfl⟩;have e2:Fr (fun q=>q=u) wa wb:=by rw[f7];exact(((((Fr.refl (fun q=>q=u) wa).set (p:=⟨u,0,none⟩) (.inl rfl) _).set (p:=⟨u,1,none⟩) (.inl rfl) _).set (p:=⟨u,2,none⟩) (.inl rfl) _).set (p:=⟨u,3,none⟩) (.inl rfl) _)
 have i5:wb.heap[u]?=some (.cells #[.int .i64 D.kind,.int .i64 D.start,.string D.lead,.slice (some ⟨g,0,none⟩) n n] 24 (0,0)):=by rw[f7];exact z0w wa u _ _ _ _ p8.out
 have uu9:=(e2.block _ (lt_of_block m5.out) v5).trans m5.out;have p7:=(e2.block _ (lt_of_block k0.out) x0).trans k0.out;have m7:=(e2.block _ (lt_of_block k9.out) w9).trans k9.out;have h3:Below w.heap.size w wb:=j4.out.trans (e2.below j4.out.size (fun q e=>by rw[e];exact f8));have r3:=(cells4 i5).1.2.2.2;have m3:=(cells4 m7).1.2.2.2;rw[<- HN.out] at m3;obtain⟨Q,f9⟩:∃ Q:Nat->Value,Q=fun i=>.slice (A i) (D.na i) (C i):=⟨_,rfl⟩;obtain⟨cs,c9⟩:=exq (cat (st2 D Q) n);have G:cs.length=n*2:=by rw[c9];exact z4k (z4w D Q) n
 have W:∀ v ∈ cs,v.oneCell'=true:=by
  rw[c9];refine x2a (fun i v z=>?_) n;rw[f9] at z;simp[st2] at z
  rcases z with rfl|rfl<;>rfl
 have N:∀ j v,cs[j]?=some v->wb.cell? ((⟨b,T,none⟩:Addr).add j)=some v:=by
  rw[c9];refine x7y (by omega) (z4w D Q) (fun i j hi hj v z=>?_);have o7:=(HB.out (by have:=HN.out;omega)).1;obtain⟨k1,k2,_⟩:=HR.out i (by have:=HN.out;omega);rw[f9] at z;have:j=0\/j=1:=by omega
  rcases this with rfl|rfl
  ·cases z;exact(h3.cell (p:=⟨b,T+i*2,none⟩) o7).trans k1
  cases z;exact(h3.cell (p:=⟨b,T+i*2+1,none⟩) o7).trans k2
 rw[<- f7];have h7:=qh G;clear G;have o9:=qh W;clear W;have uu7:=qh N;clear N;have y6:=qh c9;clear c9;have p6:=qh f9;clear f9;have y7:=qh i5;clear i5;have uu3:=qh uu9;clear uu9;have y8:=qh p7;clear p7;have A8:=qh m7;clear m7;have x2:=qh h3;clear h3;clear f7 e2 m5 k0 k9 p8 j4 r0 r1 r2 f0 f1 f2 f3;have X:=y1u (P:=prog) wb 22 22 3 57 2 n g n (some ⟨b,T,none⟩) cp zs 57 cs underlying22 (by kernel_rfl) uu3.out h7.out w0.out (fun _=>⟨_,rfl,uu7.out⟩) o9.out;obtain⟨wc,b4⟩:=exq (wb.setRow g cs.toArray);rw[<- b4] at X;have m:wc.ownsRow w.heap.size 57 2 (.slice (some ⟨g,0,none⟩) n n) n cs:=by rw[b4];exact y6b uu3.out v8 (by unfold maxLen;omega) cs h7.out
 have q8:Below w.heap.size w wc:=by rw[b4];exact below_setRow x2.out v8 _
 have H:ApI w wc cb u g 0 (.func (.func nf) #[] fc) D φ Q Q:=by
  refine⟨q8,?_,?_,f8,?_,fun i hi=>absurd hi (Nat.not_lt_zero _),fun i j hi=>absurd hi (Nat.not_lt_zero _)⟩
  ·rw[b4];exact(setRow_other wb g cb _ (fun e=>y3 e.symm)).trans y8.out
  ·rw[b4,<- HN.out];exact(setRow_other wb g u _ (fun e=>v5 e.symm)).trans y7.out
  rw[<- HN.out];rw[y6.out] at m;rw[show cat (st2 D (fun i=>if i<0 then Q i else Q i)) n=cat (st2 D Q) n from z2c fun i _=>by simp]
  exact m
 have r3:wc.cell? ⟨u,3,none⟩=some (.slice (some ⟨g,0,none⟩) n n):=by
  have:=(cells4 H.kr).1.2.2.2;rw[<- HN.out] at this;exact this
 have c:=qh H;clear H m q8 b4
 go_wp2_with fail
 clear X r3 m3
 go_loopw [33] (fun m8 wr=>∃ (q:Nat) (R:Nat->Value),q<=n/\m8=.int .i64 (q:Int)/\ApI w wr cb u g q (.func (.func nf) #[] fc) D φ R Q) (fun m8 _=>n-(intOf m8).toNat)
 case atStart=>exact⟨0,Q,Nat.zero_le _,rfl,c.out⟩
 obtain⟨q,R,hq,rfl,H⟩:=hrel;obtain⟨wo,y2⟩:=exq (wr);clear y2;clear c;have c:=qh H;clear H;by_cases A6:q<n
 ·have A7:(q:Int)<(n:Int):=by omega
  have z8:(0:Int)<=(q:Int):=by omega
  have F:q<D.n:=by have:=HN.out;omega
  obtain⟨k1,k2,k3,k4,k5,k6,k7⟩:=HR.out q F;have x9:=v9.out q F;clear k1 k2;unfold maxLen at k4;have m:=c.out.top;have t0:wr.cell? ⟨g,q*2,none⟩=some (.string (D.fin q)):=z6c m (by
   have:=z5j (z4w D (fun i=>if i<q then R i else Q i)) (i:=q) (j:=0) (by omega) F
   rw[Nat.add_zero] at this;rw[this];rfl)
  have t1:wr.cell? ⟨g,q*2+1,none⟩=some (.slice (A q) (D.na q) (C q)):=z6c m (by
   rw[z5j (z4w D (fun i=>if i<q then R i else Q i)) (i:=q) (j:=1) (by omega) F]
   show some (if q<q then R q else Q q)=_
   rw[if_neg (Nat.lt_irrefl _),p6.out])
  clear m;obtain⟨aq,g6⟩:=exq (A q);obtain⟨nq,I⟩:=exq (D.na q);obtain⟨cq,d6⟩:=exq (C q);obtain⟨fq,l0⟩:=exq (D.fin q);rw[<- g6,<- I,<- d6] at t1;rw[<- l0] at t0;rw[<- g6,<- I] at k5;rw[<- I] at k6 k7 x9;rw[<- I,<- d6] at k3;rw[<- d6] at k4;have w8:=qh g6;clear g6;have z1:=qh d6;clear d6;have a4:=qh I;clear I;have z9:=qh l0;clear l0;have y5:=qh k5;clear k5;have z4:=qh k6;clear k6;have x4:=qh k7;clear k7;obtain⟨sb,b5⟩:=exq (wr.heap.size);obtain⟨w5,e3⟩:=exq (wr.alloc (.cells #[.string fq,.slice aq nq cq] 57));have t9:w5.heap.size=sb+1:=by rw[e3,b5];simp
  obtain⟨zq,j6⟩:=exq (madeCells (Value.agg #[.int .i64 0,.int .i64 0,.string ⟨#[]⟩,.int .i64 0]).cells (nq*4));have b3:zq.size=nq*4:=by rw[j6];exact size_madeCells _ _
  have b9:=z6u (P:=prog) 55 59 _ 4 40 underlying55 x7i .i64 .i64 nq (by omega) (by omega);rw[<- j6] at b9;clear j6;obtain⟨w6,g1⟩:=exq (w5.alloc (.cells zq 59));obtain⟨l,g7⟩:=exq (sb+1);have s4:Fr (fun _=>False) wr w5:=by rw[e3];exact Fr.alloc _ _
  have m4:Fr (fun _=>False) w5 w6:=by rw[g1];exact Fr.alloc _ _
  have E:=s4.trans m4;have a9:w5.heap[sb]?=some (.cells #[.string fq,.slice aq nq cq] 57 (0,0)):=by rw[e3,b5];exact heap_alloc_new wr _
  have d1:=(m4.block _ (lt_of_block a9) (fun e=>e)).trans a9;have j3:w6.heap[l]?=some (.cells zq 59 (0,0)):=by rw[g1,g7,<- t9];exact heap_alloc_new w5 _
  have d9:Below w.heap.size w w6:=c.out.hb.trans (E.below c.out.hb.size (fun _ e=>e.elim));obtain⟨az,d5⟩:=exq (cat (arc4 D q) nq);have G:az.length=nq*4:=by rw[d5];exact z4k (y6r D q) nq
  have W:∀ v ∈ az,v.oneCell'=true:=by
   rw[d5];refine x2a (fun i v z=>?_) nq;simp[arc4] at z
   rcases z with rfl|rfl|rfl|rfl<;>rfl
  have N:0<nq->∃ ad,aq=some ad/\∀ j v,az[j]?=some v->w6.cell? (ad.add j)=some v:=fun h0=>by
   refine⟨_,y5.out h0,?_⟩;rw[d5];refine x7y (by omega) (y6r D q) (fun i j hi hj v z=>?_);have g4:=(z4.out h0).1;obtain⟨t0,t1,t2,t3⟩:=x4.out i hi;have:j=0\/j=1\/j=2\/j=3:=by omega
   rcases this with rfl|rfl|rfl|rfl
   ·cases z;exact(d9.cell (p:=⟨BB q,O q+i*4,none⟩) g4).trans t0
   ·cases z;exact(d9.cell (p:=⟨BB q,O q+i*4+1,none⟩) g4).trans t1
   ·cases z;exact(d9.cell (p:=⟨BB q,O q+i*4+2,none⟩) g4).trans t2
   cases z;exact(d9.cell (p:=⟨BB q,O q+i*4+3,none⟩) g4).trans t3
  have X:=y1u (P:=prog) w6 55 55 3 59 4 nq l nq aq cq zq 59 az underlying55 (by kernel_rfl) j3 G b3 N W;obtain⟨w7,c7⟩:=exq (w6.setRow l az.toArray);rw[<- c7] at X;have i7:w.heap.size<=l:=by have:=c.out.hb.size;omega
  have e0:w7.ownsRow w.heap.size 59 4 (.slice (some ⟨l,0,none⟩) nq nq) nq (cat (mixA D φ q 0) nq):=by
   rw[v2r,<- d5,c7];exact y6b j3 i7 (by unfold maxLen;omega) az G
  have i2:Fr (fun x=>x=l) wr w7:=by
   rw[c7];exact⟨E.os,E.tape,E.output,by simp[World.setRow];exact E.size,fun x hx y0=>(setRow_other w6 l x _ y0).trans (E.block x hx (fun e=>e))⟩
  have i3:w7.heap[sb]?=some (.cells #[.string fq,.slice aq nq cq] 57 (0,0)):=by rw[c7];exact(setRow_other w6 l sb _ (by omega)).trans d1
  have s5:w5.cell? ⟨sb,1,none⟩=some (.slice aq nq cq):=by simp[World.cell?,a9]
  have s6:w6.cell? ⟨sb,1,none⟩=some (.slice aq nq cq):=by simp[World.cell?,d1]
  have d0:=qh e0;clear e0;have c8:=qh i2;clear i2;have z5:=qh i3;clear i3;have A4:g≠l:=by
   have:=(World.ownsRow.lt c.out.top g rfl).2;omega
  have v2:wr.heap.size<=l:=by omega
  clear s4 m4 E a9 d1 j3 d9 G W N c7 d5 t9 b3;rw[g1] at s6 X;rw[e3] at s5 s6 X;rw[b5] at s5 s6;rw[g7,b5] at X;have uu8:=qh b5;clear b5;have n7:=qh g7;clear g7;clear e3 g1
  go_wp2_with fail
  rw[<- uu8.out,<- n7.out];clear X s5 s6 t0 t1 b9;have r7:∀ wz,Fr (fun x=>x=l) w7 wz->P wz:=fun wz h=>z3.out wz (c.out.hb.trans ((c8.out.trans h).below c.out.hb.size (fun x e=>by rw[e];exact i7)));have x6:=qh r7;clear r7;have h5:w7.heap[cb]?=some (.cells #[.func (.func nf) #[] fc] 69 (0,0)):=(c8.out.block _ (lt_of_block c.out.kc) (by have:=lt_of_block c.out.kc;omega)).trans c.out.kc;have h4:=qh h5;clear h5;have y1:cb≠l:=by have:=lt_of_block c.out.kc;omega
  go_loopw [48] (fun j8 wz=>∃ d:Nat,d<=nq/\j8=.int .i64 (d:Int)/\wz.ownsRow w.heap.size 59 4 (.slice (some ⟨l,0,none⟩) nq nq) nq (cat (mixA D φ q d) nq)/\Fr (fun x=>x=l) w7 wz) (fun j8 _=>nq-(intOf j8).toNat)
  case atStart=>exact⟨0,Nat.zero_le _,rfl,d0.out,Fr.refl _ _⟩
  obtain⟨d,hd,rfl,Z,o6⟩:=hrel;clear d0;have a7:=qh Z;clear Z;have e8:=qh o6;clear o6;by_cases a6:d<nq
  ·have A5:(d:Int)<(nq:Int):=by omega
   have z7:(0:Int)<=(d:Int):=by omega
   obtain⟨s,o⟩:=exq (wr.drew);obtain⟨ai,d4⟩:=exq (D.ain q d);obtain⟨ao,e1⟩:=exq (D.aout q d);have a8:Fr (fun x=>x=l) w7 s:=by rw[o];exact e8.out.drew
   have L:s.ownsRow w.heap.size 59 4 (.slice (some ⟨l,0,none⟩) nq nq) nq (cat (mixA D φ q d) nq):=by rw[o];exact a7.out
   have h9:s.heap[cb]?=some (.cells #[.func (.func nf) #[] fc] 69 (0,0)):=(a8.block _ (lt_of_block h4.out) y1).trans h4.out;have a0:s.cell? ⟨l,d*4,none⟩=some (.int .i64 ai):=z6c L (by
    have:=z5j (y0h D φ q d) (i:=d) (j:=0) (by omega) a6;rw[Nat.add_zero] at this;rw[this,d4];unfold mixA;rw[if_neg (Nat.lt_irrefl _)];rfl)
   have a1:s.cell? ⟨l,d*4+1,none⟩=some (.int .i64 ao):=z6c L (by
    rw[z5j (y0h D φ q d) (i:=d) (j:=1) (by omega) a6,e1];unfold mixA;rw[if_neg (Nat.lt_irrefl _)];rfl)
   have k:s.cell? ⟨cb,0,none⟩=some (.func (.func nf) #[] fc)/\s.cell? ⟨l,d*4,none⟩=some (.int .i64 ai)/\s.cell? ⟨l,d*4+1,none⟩=some (.int .i64 ao):=⟨by simp[World.cell?,h9],a0,a1⟩;have d3:=z2.out s (x6.out s a8) ai ao (by rw[d4];exact(HV.out.arc q d F (by rw[<- a4.out];exact a6)).i0) (by rw[d4];exact(HV.out.arc q d F (by rw[<- a4.out];exact a6)).i1) (by rw[e1];exact(HV.out.arc q d F (by rw[<- a4.out];exact a6)).o0) (by rw[e1];exact(HV.out.arc q d F (by rw[<- a4.out];exact a6)).o1);have d8:=qh d3;clear d3 a0 a1 h9;have v4:=qh a8;clear a8 e8;have a3:=qh L;clear L a7
   go_wp2_with fail
   refine x0c (fun wk=>wk.cell? ⟨cb,0,none⟩=some (.func (.func nf) #[] fc)/\wk.cell? ⟨l,d*4,none⟩=some (.int .i64 ai)/\wk.cell? ⟨l,d*4+1,none⟩=some (.int .i64 ao)) [0,1,2,3,17,18,19,20,21,22,23,24,25] (by kernel_rfl) ?_;rw[<- o];have A0:=qh o;clear o;have v7:=qh d4;clear d4;have v3:=qh e1;clear e1;refine AnyL.tq 0 ?_;refine AnyL.tq 1 ?_;refine AnyL.tq 2 ?_;refine AnyL.tq 3 ?_
   try simp only[Act.put,tryL]
   refine AnyL.tm 4 k ?_;refine AnyL.tm 5 k ?_;refine AnyL.tm 6 k ?_;refine AnyL.tm 7 k ?_;refine AnyL.tm 8 k ?_;refine AnyL.tm 9 k ?_;refine AnyL.tm 10 k ?_;refine AnyL.tm 11 k ?_;refine AnyL.tm 12 k ?_;refine AnyL.tm 13 k ?_;refine AnyL.tm 14 k ?_;refine AnyL.tm 15 k ?_
   try simp only[Act.put,tryL]
   refine AnyL.on 16 fun K B=>?_;go_simp;refine d8.out.mono ?_;rintro r we ⟨rfl,b6⟩;have uu6:Fr (fun x=>x=l) w7 we:=v4.out.trans (Fr.of_below b6);have j7:we.ownsRow w.heap.size 59 4 (.slice (some ⟨l,0,none⟩) nq nq) nq (cat (mixA D φ q d) nq):=z2n a3.out (z0b b6 none) (fun _ _=>by simp);have Y:we.cell? ⟨cb,0,none⟩=some (.func (.func nf) #[] fc)/\we.cell? ⟨l,d*4,none⟩=some (.int .i64 ai)/\we.cell? ⟨l,d*4+1,none⟩=some (.int .i64 ao):=⟨(z0b b6 none).cell k.1 (by simp),(z0b b6 none).cell k.2.1 (by simp),(z0b b6 none).cell k.2.2 (by simp)⟩;refine B.out _ _ (.inr Y) ?_;clear B K k b6 d8 v4 a3;have f0:=z6a j7 (d*4);have c0:=Y.2.1;have c1:=Y.2.2;clear Y;have uu1:=qh uu6;clear uu6;have o3:=qh j7;clear j7;obtain⟨b1,n5⟩:∃ b1,b1=(φ ai ao).1:=⟨_,rfl⟩;obtain⟨b2,j1⟩:∃ b2,b2=(φ ai ao).2:=⟨_,rfl⟩;rw[<- n5,<- j1];have o4:=qh n5;clear n5;have r4:=qh j1;clear j1;refine AnyL.loose' (by kernel_rfl) ?_
   try simp only[Act.put,tryL]
   refine AnyL.tm 17 trivial ?_;refine AnyL.tm 18 trivial ?_;refine AnyL.tm 19 trivial ?_;refine AnyL.tm 20 trivial ?_;refine AnyL.tm 21 trivial ?_
   try simp only[Act.put,tryL]
   refine AnyL.on 22 fun K B=>?_;go_simp;refine B.out _ _ (.inr trivial) ?_;clear B K
   try simp only[Act.put,tryL]
   refine AnyL.on 23 fun K B=>?_;go_simp;refine B.out _ _ (.inr trivial) ?_;clear B K
   try simp only[Act.put,tryL]
   refine AnyL.on 24 fun K B=>?_;go_simp;refine B.out _ _ (.inr trivial) ?_;clear B K
   try simp only[Act.put,tryL]
   have d2:=y3e o3.out (d*4) (.int .i64 b1);have y9:(we.setCell ⟨l,d*4,none⟩ (.int .i64 b1)).cell? ⟨l,d*4+1,none⟩=some (.int .i64 ao):=by rw[World.cell?_setCell_other _ _ _ _ (by simp)];exact c1
   have x8:=z6a d2 (d*4+1);have h8:=qh d2;clear d2;clear c0 f0 c1;refine AnyL.on 25 fun K B=>?_;go_simp;refine B.out _ _ (.inr trivial) (AnyL.dn ?_);clear B K y9 x8;obtain⟨wf,g5⟩:∃ wf,wf=(we.setCell ⟨l,d*4,none⟩ (.int .i64 b1)).setCell ⟨l,d*4+1,none⟩ (.int .i64 b2):=⟨_,rfl⟩;have r6:wf.ownsRow w.heap.size 59 4 (.slice (some ⟨l,0,none⟩) nq nq) nq (cat (mixA D φ q (d+1)) nq):=by
    rw[g5];have h1:=y3e h8.out (d*4+1) (.int .i64 b2);rw[o4.out,r4.out,v7.out,v3.out] at h1;rw[o4.out,r4.out,v7.out,v3.out];have h2:=v5w (D:=D) (φ:=φ) (q:=q) a6;rw[Nat.add_zero] at h2;rw[h2] at h1;exact h1
   have s8:Fr (fun x=>x=l) w7 wf:=by rw[g5];exact(uu1.out.set (p:=⟨l,d*4,none⟩) (.inl rfl) _).set (p:=⟨l,d*4+1,none⟩) (.inl rfl) _
   rw[<- g5];have x3:=qh r6;clear r6;have x5:=qh s8;clear s8 g5 h8 o3 uu1;go_wp2;go_roundw
   case rel=>exact⟨d+1,by omega,by go_num,x3.out,x5.out⟩
   simp[intOf];omega
  obtain rfl:d=nq:=by omega
  have s3:¬ ((d:Int)<(d:Int)):=by omega
  have r8:=c8.out.trans e8.out;have b0:=c.out.mid r8 v2 i7;have l7:=a7.out;rw[v2y,a4.out] at l7;have a5:=b0.next F (fun i hi e=>by
   have:=(World.ownsRow.lt (c.out.row i hi) l e).2;omega) l7
  rw[<- a4.out] at a5;have r3:=(cells4 b0.kr).1.2.2.2;have m:=b0.top;have t1:wr.cell? ⟨g,q*2+1,none⟩=some (.slice aq d cq):=by
   refine z6c m ?_;rw[z5j (z4w D (fun i=>if i<q then R i else Q i)) (i:=q) (j:=1) (by omega) F]
   show some (if q<q then R q else Q q)=_
   rw[if_neg (Nat.lt_irrefl _),p6.out];show some (Value.slice (A q) (D.na q) (C q))=_;rw[a4.out,<- w8.out,<- z1.out]
  have f1:=z6a m (q*2+1);rw[<- HN.out] at r3;have m9:=qh a5;clear a5 r8 b0 l7 m;clear a7 e8
  go_wp2_with fail
  clear r3 t1 f1;go_roundw
  case rel=>exact⟨q+1,_,by omega,by go_num,m9.out⟩
  simp[intOf];omega
 obtain rfl:q=n:=by omega
 have s3:¬ ((q:Int)<(q:Int)):=by omega
 have a2:=c.out;rw[HN.out] at a2;have e4:=a2.own;rw[<- HN.out] at e4;obtain⟨⟨r0,r1,r2,r3⟩,S⟩:=cells4 a2.kr;have f0:=S 0;have f1:=S 1;have f2:=S 2;have f3:=S 3;have J:=a2.kr;clear S a2;rw[<- HN.out] at r3 J;have q9:=qh (e4.box4 J (.int .i64 D.kind) (.int .i64 D.start) (.string D.lead) (.slice (some ⟨g,0,none⟩) q q));clear e4;have s9:=qh J;clear J;have x7:=qh c.out.hb
 go_wp2_with fail
 refine bodyPost_ret (z0j rfl _ (b:=u) rfl rfl (z0w wr u _ _ _ _ s9.out)) rfl ⟨z0d x7.out f8 _ _ _ _,.inl ⟨HV.out,_,R,rfl,q9.out⟩⟩
end
end Go.Proofs.YteappjogmnogcaaGreatDoor
