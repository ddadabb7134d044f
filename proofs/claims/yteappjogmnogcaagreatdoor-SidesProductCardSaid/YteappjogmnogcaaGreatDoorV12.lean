/- Parts of a proof: BlB BlC BlD BlF RegL SdA SdB. -/
import Derived.Test.YteappjogmnogcaaGreatDoorV11
import Derived.Test.YteappjogmnogcaaGreatDoorV10
import Derived.Test.YteappjogmnogcaaGreatDoorV07
namespace Go.Proofs.YteappjogmnogcaaGreatDoor
set_option maxRecDepth 100000
set_option linter.unusedSimpArgs false
set_option linter.unusedVariables false
set_option linter.unusedSectionVars false
set_option maxHeartbeats 16000000
open Go Tryz
section
open Go.RowKit Go.Deep
def BlS (F:Nat->Prop) (B db:Nat) (D:MD) (one:ByteArray) (ac fl:Int) (w:World):Prop:=∃ R sv,Bld w B db D R sv one ac fl/\∀ b,F b->b≠db/\Fre w sv R D.n b
def BlN (F:Nat->Prop) (B db:Nat) (D:MD) (one:ByteArray) (ac fl:Int) (w w':World):Prop:=BlS F B db D one ac fl w'/\(∀ b,F b->w'.heap[b]?=w.heap[b]?)/\Below B w w'
theorem BlS.sub {F c:Nat->Prop} {B db:Nat} {D:MD} {one:ByteArray} {ac fl:Int} {w:World} (h:BlS F B db D one ac fl w) (i:∀ b,c b->F b):BlS c B db D one ac fl w:=by
 obtain⟨R,sv,g,d⟩:=h;exact⟨R,sv,g,fun b hb=>d b (i b hb)⟩
theorem BlN.trans {F:Nat->Prop} {B db:Nat} {D j:MD} {one:ByteArray} {ac fl d c:Int} {w k i:World} (h:BlN F B db D one ac fl w k) (g:BlN F B db j one d c k i):BlN F B db j one d c w i :=
 ⟨g.1,fun b hb=>(g.2.1 b hb).trans (h.2.1 b hb),h.2.2.trans g.2.2⟩
theorem BlS.lt {F:Nat->Prop} {B db:Nat} {D:MD} {one:ByteArray} {ac fl:Int} {w:World} (h:BlS F B db D one ac fl w):db<w.heap.size/\B<=db/\∀ b,F b->b<w.heap.size:=by
 obtain⟨R,sv,c,d⟩:=h;exact⟨c.lt,c.low,fun b hb=>(d b hb).2.1⟩
theorem BlS.kept {F:Nat->Prop} {B db:Nat} {D:MD} {one:ByteArray} {ac fl:Int} {w i:World} (h:BlS F B db D one ac fl w) (hb:Below w.heap.size w i):BlS F B db D one ac fl i:=by
 obtain⟨R,sv,c,d⟩:=h;exact⟨R,sv,⟨(hb.block _ c.lt).trans c.blk,c.own.kept (z0b hb none) (by simp),c.low⟩,fun b g=>⟨(d b g).1,Nat.lt_of_lt_of_le (d b g).2.1 hb.size,(d b g).2.2⟩⟩
theorem BlS.grown {F:Nat->Prop} {B db:Nat} {D:MD} {one:ByteArray} {ac fl:Int} {w g:World} (h:BlS F B db D one ac fl w) (hb:Below w.heap.size w g):BlS (fun b=>F b\/(w.heap.size<=b/\b<g.heap.size)) B db D one ac fl g:=by
 obtain⟨R,sv,c,j⟩:=h;refine⟨R,sv,⟨(hb.block _ c.lt).trans c.blk,c.own.kept (z0b hb none) (by simp),c.low⟩,fun b d=>?_⟩
 rcases d with d|⟨l,k⟩
 ·exact⟨(j b d).1,Nat.lt_of_lt_of_le (j b d).2.1 hb.size,(j b d).2.2⟩
 refine⟨by have:=c.lt;omega,k,fun e=>?_,fun i hi e=>?_⟩
 ·have:=(World.ownsRow.lt c.own.top b e).2;omega
 have:=(World.ownsRow.lt (c.own.row i hi) b e).2;omega
theorem x2x {F:Nat->Prop} {B db:Nat} {D:MD} {one:ByteArray} {ac fl:Int} (f:ByteArray) (w:World) (h:BlS F B db D one ac fl w) (k:B<=w.heap.size) (hn:D.n<=100000) :
  Calls prog 91 #[.pointer (some ⟨db,0,none⟩),.string f] w (fun r w'=>r=.returned (.int .i64 (D.n:Int))/\BlN F B db (D.state f) one ac fl w w'):=by
 obtain⟨R,sv,o,c⟩:=h;refine(x6t f w o k hn).mono fun r w' g=>⟨g.1,?_⟩;obtain⟨⟨l,d,j,i⟩,m⟩:=g.2;exact⟨⟨l,d,j,fun b hb=>⟨(c b hb).1,(i b (c b hb).1 (c b hb).2).1⟩⟩,fun b hb=>(i b (c b hb).1 (c b hb).2).2,m⟩
theorem u1h {F:Nat->Prop} {B db q:Nat} {D:MD} {one:ByteArray} {ac fl:Int} (a b t:Int) (x:ByteArray) (w:World) (h:BlS F B db D one ac fl w) (d:0<=ac) (g:ac<=100000) (u:B<=w.heap.size) (p:q<D.n) (hn:D.n<=100000) (j:D.na q<=100000) :
  Calls prog 92 #[.pointer (some ⟨db,0,none⟩),.int .i64 (q:Int),.agg #[.int .i64 a,.int .i64 b,.string x,.int .i64 t]] w (fun r w'=>r=.returned (.tuple #[])/\BlN F B db (D.arc q a b x t) one (ac+1) fl w w'):=by
 obtain⟨R,sv,o,c⟩:=h;refine(v6p a b t x w o d g u p hn j).mono fun r w' l=>⟨l.1,?_⟩;obtain⟨⟨z,i,s,k⟩,m⟩:=l.2;exact⟨⟨z,i,s,fun b hb=>⟨(c b hb).1,(k b (c b hb).1 (c b hb).2).1⟩⟩,fun b hb=>(k b (c b hb).1 (c b hb).2).2,m⟩
theorem v8b {F:Nat->Prop} {B db q:Nat} {D:MD} {one:ByteArray} {ac fl:Int} (t:Int) (x:ByteArray) (w:World) (h:BlS F B db D one ac fl w) (c:0<=ac) (d:ac<=100000) (m:B<=w.heap.size) (k:q<D.n) (hn:D.n<=100000) (g:D.na q<=100000) :
  Calls prog 141 #[.pointer (some ⟨db,0,none⟩),.int .i64 (q:Int),.string x,.int .i64 t] w (fun r w'=>r=.returned (.tuple #[])/\BlN F B db (D.arc q 0 0 x t) one (ac+1) fl w w'):=by
 have j:=qh (u1h 0 0 t x w h c d m k hn g);clear h
 go_enter func141,ntmps141
 go_wp2_with fail
 refine j.out.mono ?_;rintro r o ⟨rfl,i⟩;have l:=qh i;clear i
 go_wp2_with fail
 go_end0
 exact⟨rfl,l.out⟩
theorem y6f (k:Int) (w:World):Calls prog 90 #[.int .i64 k] w (fun r w'=>∃ db,r=.returned (.pointer (some ⟨db,0,none⟩))/\BlS (fun _=>False) w.heap.size db (z1e k 0 (oneF k)) (oneF k) 0 0 w'/\Below w.heap.size w w'/\w.heap.size<=db):=by
 go_enter func90,ntmps90
 go_wp2_with fail
 refine(z7f k w).mono ?_;rintro r j ⟨rfl,c⟩;have g:=c.alloc c.size (.cells (bcs (z1e k 0 (oneF k)) (.slice none 0 0) (oneF k) 0 0) 113);have i:=c.size;have d:BlS (fun _=>False) w.heap.size j.heap.size (z1e k 0 (oneF k)) (oneF k) 0 0 (j.alloc (.cells (bcs (z1e k 0 (oneF k)) (.slice none 0 0) (oneF k) 0 0) 113)) :=
  ⟨fun _=>.slice none 0 0,.slice none 0 0,⟨heap_alloc_new j _,OwM.empty _ _ _ _ _ _,i⟩,fun _ h=>h.elim⟩
 have m:=qh g;clear g c;have l:=qh d;clear d;go_wp2;go_ret;exact⟨_,rfl,l.out,m.out,i⟩
end
section
open Go.RowKit Go.Deep
def tmF (z:ByteArray × Nat) (fl:Int):Int:=if z.2≠0 then (z.2:Int) else fl
def TmE (F:Nat->Prop) (B db:Nat) (D:MD) (one:ByteArray) (ac fl:Int) (z:ByteArray × Nat) (w:World) (r:Ending) (w':World):Prop:=r=.returned (.string z.1)/\BlN F B db D one ac (tmF z fl) w w'
theorem v9v {F:Nat->Prop} {B db:Nat} {D:MD} {one:ByteArray} {ac fl:Int} (v u:ByteArray) (w:World) (h:BlS F B db D one ac fl w) (T:smS v) (Z:smS u) (U:Tab w) :
  Calls prog 109 #[.pointer (some ⟨db,0,none⟩),.string v,.string u] w (TmE F B db D one ac fl (z0g D.kind v u) w):=by
 obtain⟨R,sv,L,Q⟩:=h;have c0:=BlkB.c0 L.blk;have HC:=qh (z4h D.kind v u w T Z U);clear U T Z;have m:=qh L;clear L;have O:=qh Q;clear Q
 go_enter func109,ntmps109
 go_wp2_with fail
 refine HC.out.mono ?_;rintro r J ⟨rfl,g⟩;obtain⟨z,H⟩:=exq (z0g D.kind v u);rw[<- H];have E:=qh H;clear H;have W:BlS F B db D one ac fl J:=BlS.kept ⟨R,sv,m.out,O.out⟩ g;have c:=(g.block _ m.out.lt).trans m.out.blk;have c6:=BlkB.c6 c;have f6:=BlkB.fz c 6;have o:Below B w J\/True:=.inr trivial;have P:=qh W;clear W;have j:=qh g;clear g;have Y:=qh c;clear c c0;clear o;have S:∀ w',Below w.heap.size w w'->B<=w.heap.size:=fun _ _=>by have:=m.out.lt;have:=m.out.low;omega
 have s:=S J j.out;clear S;by_cases A:z.2=0
 ·have l:((z.2:Nat):Int)=0:=by omega
  have N:=qh A;clear A;go_wp2;go_ret;refine⟨by rw[E.out];rfl,?_⟩;have hE:=N.out;rw[show tmF (z0g D.kind v u) fl=fl from by rw[<- E.out];exact if_neg (by omega)];exact⟨P.out,fun b hb=>j.out.block b (O.out b hb).2.1,j.out.mono s⟩
 have l:¬ ((z.2:Nat):Int)=0:=by omega
 obtain⟨I,d⟩:∃ I:Nat,I=z.2:=⟨_,rfl⟩;rw[<- d] at l A ⊢;have N:=qh A;clear A;have C:=qh d;clear d;go_wp2;go_ret;obtain⟨R1,K,k,G⟩:=P.out;have X:=j.out;refine⟨by rw[E.out];rfl,?_⟩;rw[show tmF (z0g D.kind v u) fl=(I:Int) from by rw[<- E.out,C.out];exact if_pos (by rw[<- C.out];exact N.out)];refine⟨⟨R1,K,⟨?_,?_,k.low⟩,fun b hb=>⟨(G b hb).1,by rw[nblk_setCell];exact(G b hb).2.1,(G b hb).2.2⟩⟩,fun b hb=>?_,(X.mono s).setCell (p:=⟨db,6,none⟩) k.low _⟩
 ·exact BlkB.set6 k.blk _
 ·exact k.own.other (p:=⟨db,6,none⟩) (z2p k.own.top k.blk (by decide)) (fun i hi=>z2p (k.own.row i hi) k.blk (by decide)) _
 rw[z0e (show b≠db from (G b hb).1)];exact X.block b (O.out b hb).2.1
def dnOk (fl:Int) (n:Nat) (ac:Int):Prop:=fl=0/\n<=3000/\ac<=30000
def DnE (B:Nat) (D:MD) (ok:Prop) (w:World) (r:Ending) (w':World):Prop :=
 Below w.heap.size w w'/\((ok/\∃ sv R,r=.returned (.tuple #[.agg #[.int .i64 D.kind,.int .i64 D.start,.string D.lead,sv],.int .i64 0])/\OwM w' B sv D R)\/(¬ ok/\r=.returned (.tuple #[z6z,.int .i64 2])))
theorem v9h {F:Nat->Prop} {B db:Nat} {D:MD} {one:ByteArray} {ac fl:Int} (w:World) (h:BlS F B db D one ac fl w) (hn:D.n<=100000) (O:ac<=1000000) (L:0<=ac) :
  Calls prog 94 #[.pointer (some ⟨db,0,none⟩)] w (DnE B D (dnOk fl D.n ac) w):=by
 obtain⟨R,sv,k,T⟩:=h;obtain⟨sa,sc,I,_,_⟩:=z1h k.own.top;subst I;obtain⟨p,g⟩:=exq (w.alloc (.cells #[.int .i64 0,.int .i64 0,.string ⟨#[]⟩,.slice none 0 0] 24));obtain⟨u,s⟩:=exq (w.heap.size);have m:Fr (fun _=>False) w p:=by rw[g];exact Fr.alloc _ _
 have o:p.heap[u]?=some (.cells #[.int .i64 0,.int .i64 0,.string ⟨#[]⟩,.slice none 0 0] 24 (0,0)):=by rw[g,s];exact heap_alloc_new w _
 have c:=(m.block _ k.lt (fun e=>e)).trans k.blk;have j:Below w.heap.size w p:=m.below nlr (fun _ e=>e.elim);have E:OwM p B (.slice sa D.n sc) D R:=k.own.kept (z0b j none) (by simp);have S:w.heap.size<=u:=by omega
 have N:db≠u:=by have:=k.lt;omega
 have d0:=BlkB.c0 c;have Z:=BlkB.c1 c;have P:=BlkB.c2 c;have d3:=BlkB.c3 c;have Q:=BlkB.c5 c;have Y:=BlkB.c6 c;rw[g] at d0 Z P d3 Q Y;obtain⟨⟨U,r1,r2,r3⟩,A⟩:=cells4 o;have X:=A 0;have f1:=A 1;have f2:=A 2;have f3:=A 3;clear A;rw[g,s] at U r1 r2 r3 X f1 f2 f3;have a2:((D.n:Nat):Int)<=100000:=by omega
 have W:=qh o;clear o;have a4:=qh j;clear j;have a1:=qh E;clear E;have K:=qh k;clear k T;have a3:=qh c;clear c m;by_cases G:fl=0
 ·subst G;by_cases i:D.n<=3000
  ·have H:decide ((3000:Int)<(D.n:Int))=false:=by simp;omega
   by_cases l:ac<=30000
   ·have C:decide ((30000:Int)<ac)=false:=by simp;omega
    have J:=qh (show dnOk 0 D.n ac from ⟨rfl,i,l⟩)
    go_enter func94,ntmps94
    go_wp2_with fail
    exact bodyPost_ret (z0k rfl _ (b:=w.heap.size) rfl rfl (heap_alloc_new w _)) rfl ⟨(Below.refl _ w).alloc nlr _,.inl ⟨J.out,_,R,rfl,K.out.own.kept (z:=none) (World.grownBy_alloc _ _ _) (by simp)⟩⟩
   have C:(30000:Int)<ac:=by omega
   have d:=qh (show ¬ dnOk 0 D.n ac from fun h=>l h.2.2);clear l
   go_enter func94,ntmps94
   go_wp2_with fail
   exact bodyPost_ret (z0k rfl _ (b:=w.heap.size) rfl rfl (heap_alloc_new w _)) rfl ⟨(Below.refl _ w).alloc nlr _,.inr ⟨d.out,rfl⟩⟩
  have H:(3000:Int)<(D.n:Int):=by omega
  have d:=qh (show ¬ dnOk 0 D.n ac from fun h=>i h.2.1);clear i
  go_enter func94,ntmps94
  go_wp2_with fail
  exact bodyPost_ret (z0k rfl _ (b:=w.heap.size) rfl rfl (heap_alloc_new w _)) rfl ⟨(Below.refl _ w).alloc nlr _,.inr ⟨d.out,rfl⟩⟩
 have d:=qh (show ¬ dnOk fl D.n ac from fun h=>G h.1)
 go_enter func94,ntmps94
 go_wp2_with fail
 exact bodyPost_ret (z0k rfl _ (b:=w.heap.size) rfl rfl (heap_alloc_new w _)) rfl ⟨(Below.refl _ w).alloc nlr _,.inr ⟨d.out,rfl⟩⟩
def lvN (o:Option Nat):Int:=if o.isSome then 1 else 0
def LvF (nf:FuncId) (cap:Array Value) (o:Option Nat) (B db:Nat) (P:World->Prop):Prop :=
 (∀ args w,(callFunc nf args).run prog w=.ok (.enter nf args) w)/\∀ (F:Nat->Prop) (w:World) (D:MD) (one:ByteArray) (ac fl:Int) (s:Nat) (f:ByteArray),P w->BlS F B db D one ac fl w->B<=w.heap.size->s<D.n->D.n<=100000->D.na s<=100000->0<=ac->ac<=100000 ->
  Calls prog nf (#[.int .i64 (s:Int),.string f]++cap) w (fun r w'=>r=.returned (.tuple #[])/\BlN F B db (lvD o s f D) one (ac+lvN o) fl w w')
theorem x8n:∀ args w,(callFunc 111 args).run prog w=.ok (.enter 111 args) w:=fun args w=>by kernel_rfl
theorem v0c:∀ args w,(callFunc 140 args).run prog w=.ok (.enter 140 args) w:=fun args w=>by kernel_rfl
theorem u6h (B db:Nat):LvF 111 #[] none B db (fun _=>True):=by
 refine⟨x8n,fun F w D one g i s f _ h l m o d k j=>?_⟩;rw[show ∀ a b:Value,(#[a,b]++#[]:Array Value)=#[a,b] from fun _ _=>rfl];have c:=qh h;clear h
 go_enter func111,ntmps111
 go_wp2_with fail
 go_end0
 refine⟨rfl,?_⟩;show BlN F B db D one (g+0) i w w;rw[Int.add_zero];exact⟨c.out,fun _ _=>rfl,blr⟩
def PLk (db cx tx t:Nat) (w:World):Prop:=w.heap[cx]?=some (.cells #[.pointer (some ⟨db,0,none⟩)] 110 (0,0))/\w.heap[tx]?=some (.cells #[.int .i64 (t:Int)] 3 (0,0))
theorem u4y (B db C H t:Nat):LvF 140 #[.pointer (some ⟨C,0,none⟩),.pointer (some ⟨H,0,none⟩)] (some t) B db (PLk db C H t):=by
 refine⟨v0c,fun F w D one X W s f hP h hB P hn Q h0 h1=>?_⟩;rw[show ∀ a b c d:Value,(#[a,b]++#[c,d]:Array Value)=#[a,b,c,d] from fun _ _ _ _=>rfl];obtain⟨R,sv,i,G⟩:=h;obtain⟨g,cp,rfl,N,Y,_,_⟩:=z7v i.own.top (by omega);obtain⟨k,m⟩:=hP;have a2:(s:Int)<(D.n:Int):=by omega
 have U:(0:Int)<=(s:Int):=by omega
 have k1:w.cell? ⟨C,0,none⟩=some (.pointer (some ⟨db,0,none⟩)):=by simp[World.cell?,k]
 have d3:=BlkB.c3 i.blk;have Z:=i.own.fin_cell P;have fg:=z5y i.own.top (s*2);obtain⟨l,j⟩:=exq (w.setCell ⟨g,s*2,none⟩ (.string ⟨#[]⟩));have O:db≠g:=fun e=>z2p i.own.top i.blk (by decide) (by rw[e];rfl);have L:C≠g:=fun e=>z2p i.own.top k (by decide) (by rw[e];rfl);have S:H≠g:=fun e=>z2p i.own.top m (by decide) (by rw[e];rfl);have o:BlS F B db (D.setFin s ⟨#[]⟩) one X W l:=by
  rw[j];refine⟨R,_,⟨by rw[z0e O];exact i.blk,i.own.setFin P ⟨#[]⟩,i.low⟩,fun b hb=>⟨(G b hb).1,by rw[nblk_setCell];exact(G b hb).2.1,(G b hb).2.2⟩⟩
 have z:l.cell? ⟨C,0,none⟩=some (.pointer (some ⟨db,0,none⟩)):=by rw[j];simp[World.cell?,z0e (p:=⟨g,s*2,none⟩) L,k]
 have E:l.cell? ⟨H,0,none⟩=some (.int .i64 (t:Int)):=by rw[j];simp[World.cell?,z0e (p:=⟨g,s*2,none⟩) S,m]
 have J:B<=l.heap.size:=by rw[j,nblk_setCell];exact hB
 have A:=qh (v8b (t:Int) f l o h0 h1 J P hn Q);have u:BlN F B db (D.setFin s ⟨#[]⟩) one X W w l:=⟨o,fun b hb=>by
  rw[j,z0e (show b≠g from fun e=>(G b hb).2.2.1 (by rw[e];rfl))],by rw[j];exact(Below.refl B w).setCell (p:=⟨g,s*2,none⟩) N _⟩
 have K:=qh u;clear u o;have a1:=qh i;clear i k m;rw[j] at z E
 go_enter func140,ntmps140
 go_wp2_with fail
 rw[<- j];clear k1 d3 Z fg z E j;refine A.out.mono ?_;rintro r w2 ⟨rfl,T⟩;have I:=qh (K.out.trans T);clear T A
 go_wp2_with fail
 go_end0
 exact⟨rfl,I.out⟩
theorem x9i (db t:Nat) (w:World):Calls prog 112 #[.pointer (some ⟨db,0,none⟩),.int .i64 (t:Int)] w (fun r w'=>∃ cx tx,r=.returned (.func (.func 140) #[] #[.pointer (some ⟨cx,0,none⟩),.pointer (some ⟨tx,0,none⟩)])/\PLk db cx tx t w'/\w.heap.size<=cx/\w.heap.size<=tx/\Below w.heap.size w w'):=by
 have u:∀ (fn:Fn) (first cap:Array Value) (w:World),(Instr.makeFunc fn first cap).run prog w=.ok (.func fn first cap) w:=fun _ _ _ _=>rfl
 obtain⟨d,c⟩:=exq (w.alloc (.cells #[.pointer (some ⟨db,0,none⟩)] 110));obtain⟨i,h⟩:=exq (d.alloc (.cells #[.int .i64 (t:Int)] 3));have j:d.heap.size=w.heap.size+1:=by rw[c];simp
 have k:Fr (fun _=>False) w d:=by rw[c];exact Fr.alloc _ _
 have g:Fr (fun _=>False) d i:=by rw[h];exact Fr.alloc _ _
 have p:d.heap[w.heap.size]?=some (.cells #[.pointer (some ⟨db,0,none⟩)] 110 (0,0)):=by rw[c];exact heap_alloc_new w _
 have o:i.heap[w.heap.size+1]?=some (.cells #[.int .i64 (t:Int)] 3 (0,0)):=by rw[<- j,h];exact heap_alloc_new d _
 have l:PLk db w.heap.size (w.heap.size+1) t i:=⟨(g.block _ (by omega) (fun e=>e)).trans p,o⟩;have hb:Below w.heap.size w i:=(k.trans g).below nlr (fun _ e=>e.elim);have m:=qh l;clear l p o k g j;have s:=qh hb;clear hb
 go_enter func112,ntmps112
 go_wp2_with fail
 rw[<- c,<- h];go_ret;exact⟨_,_,rfl,m.out,nlr,Nat.le_succ _,s.out⟩
end
section
open Go.RowKit Go.Deep
theorem BlN.alloc {F:Nat->Prop} {B db:Nat} {D:MD} {one:ByteArray} {ac fl:Int} {w c:World} (h:BlN F B db D one ac fl w c) (g:B<=w.heap.size) (o:Obj):BlN F B db D one ac fl w (c.alloc o):=by
 have hb:=(Below.refl c.heap.size c).alloc nlr o;exact⟨h.1.kept hb,fun b d=>(hb.block b (h.1.lt.2.2 b d)).trans (h.2.1 b d),h.2.2.trans (hb.mono (Nat.le_trans g h.2.2.size))⟩
theorem BlS.join {F:Nat->Prop} {B db:Nat} {D:MD} {one:ByteArray} {ac fl:Int} {w:World} (h:BlS F B db D one ac fl w) (o:Obj):BlS (fun b=>F b\/b=w.heap.size) B db D one ac fl (w.alloc o) :=
 (h.grown ((Below.refl w.heap.size w).alloc nlr o)).sub (fun b hb=>hb.imp id (fun e=>by subst e;simp))
theorem BlN.refl {F:Nat->Prop} {B db:Nat} {D:MD} {one:ByteArray} {ac fl:Int} {w:World} (h:BlS F B db D one ac fl w):BlN F B db D one ac fl w w:=⟨h,fun _ _=>rfl,blr⟩
theorem u5j (D:MD) (low i:Nat) (M:MD):∀ d,(cpA D low i d M).n=M.n:=fun d=>(z8r D low i (Skel.refl M) d).n
def cpX (D:MD) (o:Option Nat):Nat->Nat
 | 0=>0
 | i+1=>cpX D o i+D.na i+(if D.fin i=⟨#[]⟩ then 0 else if o.isSome then 1 else 0)
theorem x0x (D:MD) (o:Option Nat):∀ i,cpX D o i<=cpC D o i
 | 0=>Nat.zero_le _
 | i+1=>by
  have h:=x0x D o i;unfold cpC at h ⊢;show cpX D o i+D.na i+(if D.fin i=⟨#[]⟩ then 0 else if o.isSome then 1 else 0)<=z0f D i+D.na i+_
  split<;>split at h<;>simp_all<;>omega
def cpyE (F:Nat->Prop) (B db:Nat) (D M:MD) (o:Option Nat) (one:ByteArray) (ac fl:Int) (w:World) (r:Ending) (w':World):Prop :=
 r=.returned (.int .i64 ((M.n:Int)+D.start))/\BlN F B db (z2f D o M) one (ac+(cpX D o D.n:Int)) fl w w'
theorem v9k {F:Nat->Prop} {db N c:Nat} {D M:MD} {sv:Value} {nf:FuncId} {cap:Array Value} {o:Option Nat} {P:World->Prop} {one:ByteArray} {ac fl:Int} (u w:World) (hV:VM D) (hS:MSz D) (hD:StS none u sv D) (g5:Below u.heap.size u w)
  (f8:BlS F u.heap.size db M one ac fl w) (hk:M.kind=D.kind) (k0:BOk M N c) (hN:M.n+D.n<=N) (j8:N<=10000) (ho:∀ t,o=some t->t<N) (hc:c+cpC D o D.n<=90000) (o4:0<=ac) (i3:ac+(cpC D o D.n:Int)<=90000)
  (l3:LvF nf cap o u.heap.size db P) (hP:P w) (f7:∀ wa wb,P wa->(∀ b,F b->wb.heap[b]?=wa.heap[b]?)->P wb) :
  Calls prog 110 #[.pointer (some ⟨db,0,none⟩),.agg #[.int .i64 D.kind,.int .i64 D.start,.string D.lead,sv],.func (.func nf) #[] cap] w (cpyE F u.heap.size db D M o one ac fl w):=by
 obtain⟨a,cp,b,b5,A,C,BB,O,rfl,ha,p8,hm,hb,d1⟩:=hD.open;unfold maxLen at hm;obtain⟨o7,i9⟩:=l3;obtain⟨n,hn⟩:=exq (D.n);obtain⟨low,a7⟩:=exq (M.n);have p0:n<=3000:=by rw[hn];exact hV.n2
 have p7:1<=n:=by rw[hn];exact hV.n1
 obtain⟨st,i4⟩:∃ st:Nat,D.start=(st:Int):=⟨D.start.toNat,by have:=hV.s0;omega⟩;have n7:st<n:=by have:=hV.s1;omega
 have o2:low<=10000:=by omega
 obtain⟨W,I⟩:=exq (w.alloc (.cells #[.int .i64 D.kind,.int .i64 (st:Int),.string D.lead,.slice a n cp] 24));obtain⟨mb,a3⟩:=exq (w.heap.size);have l5:u.heap.size<=w.heap.size:=g5.size;have g0:W.heap[mb]?=some (.cells #[.int .i64 D.kind,.int .i64 (st:Int),.string D.lead,.slice a n cp] 24 (0,0)):=by rw[I,a3];exact heap_alloc_new w _
 have hj:=f8.join (.cells #[.int .i64 D.kind,.int .i64 (st:Int),.string D.lead,.slice a n cp] 24);rw[<- I] at hj;obtain⟨F1,d0⟩:∃ F1:Nat->Prop,F1=fun b=>F b\/b=w.heap.size:=⟨_,rfl⟩;rw[<- d0] at hj;have f1:Below u.heap.size w W:=by rw[I];exact((Below.refl u.heap.size w).alloc l5 _)
 have j6:BlN F1 u.heap.size db (stsD D 0 M) one ac fl W W:=BlN.refl hj;have i6:F1 mb:=by rw[d0,a3];exact .inr rfl
 have h6:∀ b,F b->F1 b:=fun b hb=>by rw[d0];exact .inl hb
 have f2:∀ b,F b->W.heap[b]?=w.heap[b]?:=fun b hb=>by rw[I];exact blk_alloc_lt _ _ _ (f8.lt.2.2 b hb)
 have d4:P W:=f7 w W hP f2;obtain⟨_,_,J,_⟩:=f8;have d3:=BlkB.c3 J.blk;obtain⟨sa,sc,k9,_,_⟩:=z1h J.own.top;subst k9;have g8:=BlkB.c3 ((((Below.refl w.heap.size w).alloc nlr (.cells #[.int .i64 D.kind,.int .i64 (st:Int),.string D.lead,.slice a n cp] 24)).block _ J.lt).trans J.blk);have m3:=(cells4 g0).1.2.2.2;rw[I,a3] at m3;rw[<- a7] at g8;clear d3 J;have HN:=qh hn;clear hn;have s:=qh a7;have i5:=qh i4;clear i4;have HV:=qh hV;clear hV;have a6:=qh hS;clear hS;have HA:=qh ha;clear ha;have HB:=qh hb;clear hb;have HR:=qh d1;clear d1 hD;have m4:=qh i9;clear i9;have l9:=qh f7;clear f7 hP;have a9:=qh (g5.trans f1);clear g5;have h0:=qh f1;clear f1;have g6:=qh h6;clear h6 d0;have n3:=qh f2;clear f2;have j3:=qh i6;clear i6;have j1:=qh g0;clear g0 hj;have l8:=qh d4;clear d4;have m2:=qh k0;clear k0;have h8:=qh hk;clear hk;have HO:=qh ho;clear ho;have HC:=qh hc;clear hc;have i7:=qh i3;clear i3;have c7:=qh hN;clear hN;have p9:=qh j8;clear j8;have j0:=qh j6;clear j6;obtain rfl:=HA.out (by have:=HN.out;omega);rw[i5.out,<- HN.out]
 go_enter func110,ntmps110
 go_wp2_with fail
 rw[<- I,<- a3];clear g8 m3 a7;have o5:=qh I;clear I;have o6:=qh a3;clear a3;rw[<- s.out]
 go_loopw [23] (fun f3 wr=>∃ i:Nat,i<=n/\f3=.int .i64 (i:Int)/\BlN F1 u.heap.size db (stsD D i M) one ac fl W wr) (fun f3 _=>n-(intOf f3).toNat)
 case atStart=>exact⟨0,Nat.zero_le _,rfl,j0.out⟩
 obtain⟨i,hi,rfl,S⟩:=hrel;clear j0;have k:=qh S;clear S;by_cases n5:i<n
 ·have l4:(i:Int)<(n:Int):=by omega
  have j2:(0:Int)<=(i:Int):=by omega
  have a1:i<D.n:=by have:=HN.out;omega
  have a5:=(HB.out (by omega)).1;obtain⟨k1,k2,_⟩:=HR.out i a1;have l:=a9.out.trans k.out.2.2;have t0:=(l.cell (p:=⟨b,b5+i*2,none⟩) a5).trans k1;have t1:=(l.cell (p:=⟨b,b5+i*2+1,none⟩) a5).trans k2;clear k1 k2;obtain⟨E,Y⟩:=exq (D.fin i);obtain⟨ri,l6⟩:=exq (Value.slice (A i) (D.na i) (C i));rw[<- Y] at t0;obtain⟨w2,z⟩:=exq (wr.alloc (.cells #[.string E,.slice (A i) (D.na i) (C i)] 57));have b6:u.heap.size<=W.heap.size:=a9.out.size;have G:=k.out.alloc b6 (.cells #[.string E,.slice (A i) (D.na i) (C i)] 57);rw[<- z] at G;have g:=x2x E w2 G.1 (by have:=G.2.2.size;omega) (by rw[z6m];have:=s.out;omega);rw[show (stsD D i M).state E=stsD D (i+1) M from by rw[Y];rfl] at g;have h:=qh g;clear g l6;have X:=qh G;clear G k Y l
  go_wp2_with fail
  rw[<- z];clear t0 t1 z;refine h.out.mono ?_;rintro r w3 ⟨rfl,h3⟩;have c8:=qh (X.out.trans h3);clear h3 X h;go_wp2;go_roundw
  case rel=>exact⟨i+1,by omega,by go_num,c8.out⟩
  simp[intOf];omega
 have j9:n=i:=by omega
 subst j9;have e3:¬ ((n:Int)<(n:Int)):=by omega
 have Q:=(k.out.2.1 mb j3.out).trans j1.out;have m3:=(cells4 Q).1.2.2.2;have e7:BlN F1 u.heap.size db (cpQ D low o 0 (stsD D D.n M)) one (ac+(cpX D o 0:Int)) fl W wr:=by
  have:=k.out;rw[HN.out] at this;rw[show (cpX D o 0:Int)=0 from rfl,Int.add_zero];exact this
 have e2:=y4g HV.out a6.out h8.out m2.out D.n nlr;have j5:(stsD D D.n M).kind=D.kind:=(z5r D M D.n).1.trans h8.out;have d8:=qh e2;clear e2;have b8:=qh j5;clear j5;have d9:=qh e7;clear e7 k Q
 go_wp2_with fail
 clear m3
 go_loopw [35] (fun e9 wr=>∃ i:Nat,i<=n/\e9=.int .i64 (i:Int)/\BlN F1 u.heap.size db (cpQ D low o i (stsD D D.n M)) one (ac+(cpX D o i:Int)) fl W wr) (fun e9 _=>n-(intOf e9).toNat)
 case atStart=>exact⟨0,Nat.zero_le _,rfl,d9.out⟩
 obtain⟨i,p6,rfl,S⟩:=hrel;clear d9;have k:=qh S;clear S;by_cases n5:i<n
 ·have l4:(i:Int)<(n:Int):=by omega
  have j2:(0:Int)<=(i:Int):=by omega
  have a1:i<D.n:=by have:=HN.out;omega
  have a5:=(HB.out (by omega)).1;obtain⟨k1,k2,k3,k4,k5,k6,k7⟩:=HR.out i a1;have l:=a9.out.trans k.out.2.2;have t0:=(l.cell (p:=⟨b,b5+i*2,none⟩) a5).trans k1;have t1:=(l.cell (p:=⟨b,b5+i*2+1,none⟩) a5).trans k2;clear k1 k2;obtain⟨E,Y⟩:=exq (D.fin i);obtain⟨ai,f9⟩:=exq (A i);obtain⟨ni,a2⟩:=exq (D.na i);obtain⟨ci,h7⟩:=exq (C i);rw[<- Y] at t0;rw[<- f9,<- a2,<- h7] at t1;rw[<- f9,<- a2] at k5;rw[<- a2] at k6 k7;have n9:ni<=30000:=by rw[a2];have h1:=Nat.le_trans (z1w D (show i+1<=D.n by omega)) HV.out.arcs;have h2:z0f D (i+1)=z0f D i+D.na i:=rfl;omega
  have b4:=qh Y;clear Y;have H:=qh a2;clear a2;clear f9 h7 k3 k4;have m9:=qh k5;clear k5;have l0:=qh k6;clear k6;have l7:=qh k7;clear k7;obtain⟨w2,z⟩:=exq (wr.alloc (.cells #[.string E,.slice ai ni ci] 57));obtain⟨sb,b1⟩:=exq (wr.heap.size);have b6:u.heap.size<=W.heap.size:=a9.out.size;have d2:u.heap.size<=wr.heap.size:=l.size;have g3:w2.heap[sb]?=some (.cells #[.string E,.slice ai ni ci] 57 (0,0)):=by rw[z,b1];exact heap_alloc_new wr _
  have b9:=k.out.1.join (.cells #[.string E,.slice ai ni ci] 57);rw[<- z,<- b1] at b9;obtain⟨F2,b7⟩:∃ F2:Nat->Prop,F2=fun b=>F1 b\/b=sb:=⟨_,rfl⟩;rw[<- b7] at b9;have j4:F2 sb:=by rw[b7];exact .inr rfl
  have e6:∀ b,F1 b->F2 b:=fun b hb=>by rw[b7];exact .inl hb
  have G:=k.out.alloc b6 (.cells #[.string E,.slice ai ni ci] 57);rw[<- z] at G;have d6:BlN F2 u.heap.size db (cpA D low i 0 (cpQ D low o i (stsD D D.n M))) one (ac+(cpX D o i:Int)+((0:Nat):Int)) fl w2 w2:=by
   rw[show ((0:Nat):Int)=0 from rfl,Int.add_zero];exact BlN.refl b9
  have s1:w2.cell? ⟨sb,1,none⟩=some (.slice ai ni ci):=by simp[World.cell?,g3]
  rw[z,b1] at s1;have e5:=qh d6;clear d6 b9;have X:=qh G;clear G k l;have g7:=qh g3;clear g3;have m8:=qh j4;clear j4;have d5:=qh e6;clear e6 b7
  go_wp2_with fail
  rw[<- z,<- b1];clear t0 t1 z b1 s1;have i2:cpC D o i<=cpC D o D.n:=by
   unfold cpC;have h1:=z1w D (show i<=D.n by omega)
   split<;>omega
  have j:cpC D o i+ni+(if o.isSome then 1 else 0)=cpC D o (i+1):=by
   rw[H.out];unfold cpC;show z0f D i+_+D.na i+_=z0f D i+D.na i+_
   split<;>omega
  have B:cpC D o (i+1)<=cpC D o D.n:=by
   unfold cpC;have h1:=z1w D (show i+1<=D.n by omega)
   split<;>omega
  have d7:=qh j;clear j;have e1:=qh B;clear B i2
  go_loopw [43] (fun g1 wr=>∃ d:Nat,d<=ni/\g1=.int .i64 (d:Int)/\BlN F2 u.heap.size db (cpA D low i d (cpQ D low o i (stsD D D.n M))) one (ac+(cpX D o i:Int)+(d:Int)) fl w2 wr) (fun g1 _=>ni-(intOf g1).toNat)
  case atStart=>exact⟨0,Nat.zero_le _,rfl,e5.out⟩
  obtain⟨d,hd,rfl,S⟩:=hrel;clear e5;have L:=qh S;clear S;by_cases i8:d<ni
  ·have o8:(d:Int)<(ni:Int):=by omega
   have n6:(0:Int)<=(d:Int):=by omega
   have c9:=(l0.out (by omega)).1;obtain⟨t0,t1,t2,t3⟩:=l7.out d i8;obtain rfl:=m9.out (by omega);have l:=(a9.out.trans X.out.2.2).trans L.out.2.2;have c0:=(l.cell (p:=⟨BB i,O i+d*4,none⟩) c9).trans t0;have c1:=(l.cell (p:=⟨BB i,O i+d*4+1,none⟩) c9).trans t1;have c2:=(l.cell (p:=⟨BB i,O i+d*4+2,none⟩) c9).trans t2;have c3:=(l.cell (p:=⟨BB i,O i+d*4+3,none⟩) c9).trans t3;clear t0 t1 t2 t3;have f4:=HV.out.arc i d a1 (by rw[<- H.out];exact i8);obtain⟨tn,f0⟩:∃ tn:Nat,D.ato i d=(tn:Int):=⟨(D.ato i d).toNat,by have:=f4.t0;omega⟩;have o3:tn<n:=by have:=f4.t1;have:=HN.out;omega
   rw[f0] at c3;have m7:=qh f0;clear f0 f4;clear l;have d2:u.heap.size<=w2.heap.size:=Nat.le_trans b6 X.out.2.2.size;obtain⟨w3,f5⟩:=exq (wr.alloc (.cells #[.int .i64 (D.ain i d),.int .i64 (D.aout i d),.string (D.aw i d),.int .i64 ((tn:Int)+(low:Int))] 59));have b3:=L.out.alloc d2 (.cells #[.int .i64 (D.ain i d),.int .i64 (D.aout i d),.string (D.aw i d),.int .i64 ((tn:Int)+(low:Int))] 59);rw[<- f5] at b3;have T:=x5i HV.out a6.out a1 (N:=N) (low:=low) (by have:=c7.out;have:=s.out;omega) (by rw[(z7n _ _ _ _ _).1];exact b8.out) (y6a HV.out a6.out (low:=low) (o:=o) HO.out (by have:=c7.out;have:=s.out;omega) b8.out d8.out i (by omega)) d (by rw[<- H.out];omega);have R:=T.na (low+i);have j7:=HV.out.n2;have Z:(cpA D low i d (cpQ D low o i (stsD D D.n M))).n=low+D.n:=by rw[u5j,(z7n _ _ _ _ _).2.2.2,z6m,<- s.out]
   have j:=d7.out;have B:=e1.out;have e8:=HC.out;have g9:=x0x D o i;have g4:=i7.out;have a8:=Nat.le_trans R (show c+cpC D o i+d<=100000 by split at j<;>omega)
   have b0:ac+(cpX D o i:Int)+(d:Int)<=100000:=by split at j<;>omega
   have b2:0<=ac+(cpX D o i:Int)+(d:Int):=by omega
   have g:=u1h (q:=low+i) (D.ain i d) (D.aout i d) ((tn:Int)+(low:Int)) (D.aw i d) w3 b3.1 b2 b0 (by have:=b3.2.2.size;omega) (by rw[Z];omega) (by rw[Z];omega) a8;have U:(cpA D low i d (cpQ D low o i (stsD D D.n M))).arc (low+i) (D.ain i d) (D.aout i d) (D.aw i d) ((tn:Int)+(low:Int))=cpA D low i (d+1) (cpQ D low o i (stsD D D.n M)):=by rw[<- m7.out];rfl
   rw[U,show ((low+i:Nat):Int)=(low:Int)+(i:Int) by omega,show ac+(cpX D o i:Int)+(d:Int)+1=ac+(cpX D o i:Int)+((d+1:Nat):Int) by omega] at g;have h:=qh g;clear g U j B e8 g4 Z R T j7;have c8:=qh b3;clear b3 L
   go_wp2_with fail
   rw[<- f5];clear c0 c1 c2 c3 f5;refine h.out.mono ?_;rintro r w4 ⟨rfl,h4⟩;have g2:=qh (c8.out.trans h4);clear h4 c8 h;go_wp2;go_roundw
   case rel=>exact⟨d+1,by omega,by go_num,g2.out⟩
   simp[intOf];omega
  have l1:ni=d:=by omega
  subst l1;have e3:¬ ((ni:Int)<(ni:Int)):=by omega
  have Q:=(L.out.2.1 sb m8.out).trans g7.out;have s0:wr.cell? ⟨sb,0,none⟩=some (.string E):=by simp[World.cell?,Q]
  have e4:BlN F1 u.heap.size db (cpA D low i ni (cpQ D low o i (stsD D D.n M))) one (ac+(cpX D o i:Int)+(ni:Int)) fl W wr:=⟨L.out.1.sub d5.out,fun b hb=>(L.out.2.1 b (d5.out b hb)).trans (X.out.2.1 b hb),X.out.2.2.trans L.out.2.2⟩;have m:=qh e4;clear e4 L Q;by_cases K:E=⟨#[]⟩
  ·have U:cpQ D low o (i+1) (stsD D D.n M)=cpA D low i ni (cpQ D low o i (stsD D D.n M)):=by
    show cpF D low o i (cpA D low i (D.na i) (cpQ D low o i (stsD D D.n M)))=_;unfold cpF;rw[if_pos (by rw[<- b4.out];exact K),H.out]
   have a4:cpX D o (i+1)=cpX D o i+ni:=by
    show cpX D o i+D.na i+(if D.fin i=⟨#[]⟩ then 0 else if o.isSome then 1 else 0)=_
    rw[if_pos (by rw[<- b4.out];exact K),H.out];omega
   have hB:=m.out;rw[<- U,show ac+(cpX D o i:Int)+(ni:Int)=ac+(cpX D o (i+1):Int) by rw[a4];omega] at hB;have l2:=qh hB;clear hB U a4 m;subst K;go_wp2;go_roundw
   case rel=>exact⟨i+1,by omega,by go_num,l2.out⟩
   simp[intOf];omega
  have o9:(E.toList==[])=false:=by
   cases hE:(E.toList==[])
   ·rfl
   exact absurd (z7h hE) K
  have U:cpQ D low o (i+1) (stsD D D.n M)=lvD o (low+i) E (cpA D low i ni (cpQ D low o i (stsD D D.n M))):=by
   show cpF D low o i (cpA D low i (D.na i) (cpQ D low o i (stsD D D.n M)))=_;unfold cpF;rw[if_neg (by rw[<- b4.out];exact K),H.out,b4.out]
  have a4:((cpX D o (i+1):Nat):Int)=(cpX D o i:Int)+(ni:Int)+lvN o:=by
   show ((cpX D o i+D.na i+(if D.fin i=⟨#[]⟩ then 0 else if o.isSome then 1 else 0):Nat):Int)=_
   rw[if_neg (by rw[<- b4.out];exact K),H.out];unfold lvN
   split<;>omega
  have T:=x5i HV.out a6.out a1 (N:=N) (low:=low) (by have:=c7.out;have:=s.out;omega) (by rw[(z7n _ _ _ _ _).1];exact b8.out) (y6a HV.out a6.out (low:=low) (o:=o) HO.out (by have:=c7.out;have:=s.out;omega) b8.out d8.out i (by omega)) ni (by rw[<- H.out];omega);have R:=T.na (low+i);have j7:=HV.out.n2;have Z:(cpA D low i ni (cpQ D low o i (stsD D D.n M))).n=low+D.n:=by rw[u5j,(z7n _ _ _ _ _).2.2.2,z6m,<- s.out]
  have j:=d7.out;have B:=e1.out;have e8:=HC.out;have g4:=i7.out;have g9:=x0x D o i;have h5:P wr:=l9.out W wr l8.out (fun b hb=>m.out.2.1 b (g6.out b hb));have a8:=Nat.le_trans R (show c+cpC D o i+ni<=100000 by split at j<;>omega)
  have b0:ac+(cpX D o i:Int)+(ni:Int)<=100000:=by split at j<;>omega
  have b2:0<=ac+(cpX D o i:Int)+(ni:Int):=by omega
  have g:=m4.out F1 wr _ one _ fl (low+i) E h5 m.out.1 (by have:=m.out.2.2.size;omega) (by rw[Z];omega) (by rw[Z];omega) a8 b2 b0;rw[<- U,show ((low+i:Nat):Int)=(low:Int)+(i:Int) by omega,show ac+(cpX D o i:Int)+(ni:Int)+lvN o=ac+(cpX D o (i+1):Int) by rw[a4];omega] at g;have h:=qh g;clear g U a4 T R Z j B e8 g4 g9 h5;have q7:=qh K;clear K
  go_wp2_with fail
  refine h.out.mono ?_;rintro r w4 ⟨rfl,h4⟩;have g2:=qh (m.out.trans h4);clear h4 h m;go_wp2;go_roundw
  case rel=>exact⟨i+1,by omega,by go_num,g2.out⟩
  simp[intOf];omega
 have m5:n=i:=by omega
 subst m5;have e3:¬ ((n:Int)<(n:Int)):=by omega
 have Q:=(k.out.2.1 mb j3.out).trans j1.out;have m1:=(cells4 Q).1.2.1;have hB:=k.out;rw[HN.out] at hB;have e0:BlN F u.heap.size db (z2f D o M) one (ac+(cpX D o D.n:Int)) fl w wr:=by
  have e:z2f D o M=cpQ D low o D.n (stsD D D.n M):=by rw[s.out];rfl
  rw[e];exact⟨hB.1.sub g6.out,fun b hb=>(hB.2.1 b (g6.out b hb)).trans (n3.out b hb),h0.out.trans hB.2.2⟩
 have h9:=qh e0;clear e0 hB Q k;go_wp2;go_ret;exact⟨by rw[<- s.out,i5.out];rfl,h9.out⟩
end
section
open Go.RowKit Go.Deep
def twoN (D E:MD) (e:Int):Prop:=(VM D/\VM E/\D.kind=E.kind/\e=0)\/(VM D/\VM E/\D.kind≠E.kind/\e=6)\/(¬ (VM D/\VM E)/\e=1)
def TwoE (D E:MD) (w:World) (r:Ending) (w':World):Prop:=Below w.heap.size w w'/\∃ e:Int,r=.returned (.int .i64 e)/\twoN D E e
theorem v8e {D E:MD} {mv nv:Value} (w:World) (hM:Ma none w mv D) (hN:Ma none w nv E) (P:MSz D) (S:MSz E) (ht:Tab w):Calls prog 108 #[mv,nv] w (TwoE D E w):=by
 obtain⟨sv,rfl,hS⟩:=hM;obtain⟨sw,rfl,N⟩:=hN;obtain⟨a,X,_,_,_,_,_,_,a1,_⟩:=hS.open;obtain⟨a2,J,_,_,_,_,_,_,a4,_⟩:=N.open;subst a1;subst a4;obtain⟨z,k⟩:=exq (w.alloc (.cells #[.int .i64 D.kind,.int .i64 D.start,.string D.lead,.slice a D.n X] 24));obtain⟨A,l⟩:=exq (z.alloc (.cells #[.int .i64 E.kind,.int .i64 E.start,.string E.lead,.slice a2 E.n J] 24));have U:z.heap.size=w.heap.size+1:=by rw[k];simp
 have T:Fr (fun _=>False) w z:=by rw[k];exact Fr.alloc _ _
 have H:Fr (fun _=>False) z A:=by rw[l];exact Fr.alloc _ _
 have I:z.heap[w.heap.size]?=some (.cells #[.int .i64 D.kind,.int .i64 D.start,.string D.lead,.slice a D.n X] 24 (0,0)):=by rw[k];exact heap_alloc_new w _
 have c:A.heap[w.heap.size]?=some (.cells #[.int .i64 D.kind,.int .i64 D.start,.string D.lead,.slice a D.n X] 24 (0,0)):=(H.block _ (lt_of_block I) (fun e=>e)).trans I;have d:A.heap[w.heap.size+1]?=some (.cells #[.int .i64 E.kind,.int .i64 E.start,.string E.lead,.slice a2 E.n J] 24 (0,0)):=by rw[<- U,l];exact heap_alloc_new z _
 have p:Below w.heap.size w A:=(T.trans H).below nlr (fun _ e=>e.elim);obtain⟨mb,L⟩:=exq (w.heap.size);obtain⟨nb,F⟩:=exq (w.heap.size+1);obtain⟨⟨m0,m1,m2,W⟩,_⟩:=cells4 c;have Q:=qh (z1v A (⟨_,rfl,hS.kept (z0b p none)⟩:Ma none A (.agg #[.int .i64 D.kind,.int .i64 D.start,.string D.lead,.slice a D.n X]) D) P (ht.below p nlr));rw[<- L] at c;rw[<- F] at d;have G:=qh p;clear p;have i:=qh c;clear c I T H U;have g:=qh d;clear d;have a5:=qh N;clear N hS;have HT:=qh ht;clear ht P;have a3:=qh S;clear S;rw[l,k] at m0 m1 m2 W
 go_enter func108,ntmps108
 go_wp2_with fail
 rw[<- k,<- l,<- F,<- L];clear m0 m1 m2 W k l L F;refine Q.out.mono ?_;rintro r w3 ⟨o,hr⟩;have B:=G.out.trans (o.mono G.out.size);have c:=(o.block _ (lt_of_block i.out)).trans i.out;have d:=(o.block _ (lt_of_block g.out)).trans g.out;obtain⟨⟨m0,m1,m2,W⟩,_⟩:=cells4 c;obtain⟨⟨n0,n1,n2,n3⟩,_⟩:=cells4 d;clear o i g Q G;have j:=qh B;clear B;have i:=qh c;clear c;have g:=qh d;clear d
 rcases hr with ⟨m,rfl⟩|⟨m,rfl⟩
 rotate_left
 ·have Z:=qh m;clear m;go_wp2;go_ret;exact⟨j.out,_,rfl,.inr (.inr ⟨fun h=>Z.out h.1,rfl⟩)⟩
 have Z:=qh m;clear m;have R:=qh (z1v w3 (⟨_,rfl,a5.out.kept (z0b j.out none)⟩:Ma none w3 (.agg #[.int .i64 E.kind,.int .i64 E.start,.string E.lead,.slice a2 E.n J]) E) a3.out (HT.out.below j.out nlr))
 go_wp2_with fail
 refine R.out.mono ?_;rintro r w4 ⟨u,hr⟩;have C:=j.out.trans (u.mono j.out.size);have c:=(u.block _ (lt_of_block i.out)).trans i.out;have d:=(u.block _ (lt_of_block g.out)).trans g.out;clear m0 m1 m2 W n0 n1 n2 n3;have m0:=(cells4 c).1.1;have n0:=(cells4 d).1.1;clear u i g R j c d;have K:=qh C;clear C
 rcases hr with ⟨m,rfl⟩|⟨m,rfl⟩
 rotate_left
 ·have s:=qh m;clear m;go_wp2;go_ret;exact⟨K.out,_,rfl,.inr (.inr ⟨fun h=>s.out h.2,rfl⟩)⟩
 have s:=qh m;clear m;by_cases Y:D.kind=E.kind
 ·have O:=qh Y;rw[Y] at m0;clear Y;go_wp2;go_ret;exact⟨K.out,_,rfl,.inl ⟨Z.out,s.out,O.out,rfl⟩⟩
 have O:=qh Y;go_wp2;go_ret;exact⟨K.out,_,rfl,.inr (.inl ⟨Z.out,s.out,O.out,rfl⟩)⟩
section
variable {w:World} {db:Nat} {D:MD} {sv:Value} {one:ByteArray} {ac fl:Int} {t:TypeId} (h:w.heap[db]?=some (.cells (bcs D sv one ac fl) t (0,0)))
include h
theorem BlkB.set2 (s:ByteArray):(w.setCell ⟨db,2,none⟩ (.string s)).heap[db]?=some (.cells (bcs { D with lead:=s } sv one ac fl) t (0,0)):=by
 unfold bcs at h ⊢;simp[World.setCell,Array.getElem?_modify,h]
theorem BlkB.set1 (s:Int):(w.setCell ⟨db,1,none⟩ (.int .i64 s)).heap[db]?=some (.cells (bcs { D with start:=s } sv one ac fl) t (0,0)):=by
 unfold bcs at h ⊢;simp[World.setCell,Array.getElem?_modify,h]
end
theorem BlS.lead {F:Nat->Prop} {B db:Nat} {D:MD} {one:ByteArray} {ac fl:Int} {w:World} (h:BlS F B db D one ac fl w) (s:ByteArray):BlS F B db { D with lead:=s } one ac fl (w.setCell ⟨db,2,none⟩ (.string s)):=by
 obtain⟨R,sv,c,g⟩:=h;have d:=c.own.other (p:=⟨db,2,none⟩) (z2p c.own.top c.blk (by decide)) (fun i hi=>z2p (c.own.row i hi) c.blk (by decide)) (.string s);exact⟨R,sv,⟨BlkB.set2 c.blk s,⟨d.top,d.row,d.apart⟩,c.low⟩,fun b hb=>⟨(g b hb).1,by rw[nblk_setCell];exact(g b hb).2.1,(g b hb).2.2⟩⟩
theorem BlS.start {F:Nat->Prop} {B db:Nat} {D:MD} {one:ByteArray} {ac fl:Int} {w:World} (h:BlS F B db D one ac fl w) (s:Int):BlS F B db { D with start:=s } one ac fl (w.setCell ⟨db,1,none⟩ (.int .i64 s)):=by
 obtain⟨R,sv,c,g⟩:=h;have d:=c.own.other (p:=⟨db,1,none⟩) (z2p c.own.top c.blk (by decide)) (fun i hi=>z2p (c.own.row i hi) c.blk (by decide)) (.int .i64 s);exact⟨R,sv,⟨BlkB.set1 c.blk s,⟨d.top,d.row,d.apart⟩,c.low⟩,fun b hb=>⟨(g b hb).1,by rw[nblk_setCell];exact(g b hb).2.1,(g b hb).2.2⟩⟩
theorem BlS.cells {F:Nat->Prop} {B db:Nat} {D:MD} {one:ByteArray} {ac fl:Int} {w:World} (h:BlS F B db D one ac fl w):(∃ v,w.cell? ⟨db,1,none⟩=some (.int .i64 v))/\w.cell? ⟨db,2,none⟩=some (.string D.lead)/\∀ j,w.frozen? ⟨db,j,none⟩=false:=by
 obtain⟨R,sv,c,d⟩:=h;exact⟨⟨_,BlkB.c1 c.blk⟩,BlkB.c2 c.blk,BlkB.fz c.blk⟩
end
section
open Go.RowKit Go.Deep
section
variable {P:Program} {ops:Array Oper} {Q:Exit->Act->World->Prop} {S:World->Prop} {s:List Nat}
def AnyL (P:Program) (ops:Array Oper) (Q:Exit->Act->World->Prop) (S:World->Prop) (s:List Nat):Nat->Array Bool->Act->World->Prop
 | 0,listed,a,w=>Region.ready .any ops listed=[]/\Q .normal a w
 | fuel+1,listed,a,w=>(Region.ready .any ops listed=[]->Q .normal a w) /\
  ∀ i ∈ Region.ready .any ops listed,wpOp P ops Q i (fun a' w'=>(i ∈ s\/S w')/\AnyL P ops Q S s fuel (listed.setIfInBounds i true) a' w') a w
theorem AnyL.any:∀ (fuel:Nat) (listed:Array Bool) (a:Act) (w:World),AnyL P ops Q S s fuel listed a w->wpAny P .any ops Q fuel listed a w
 | 0,_,_,_,h=>h
 | fuel+1,_,_,_,h=>⟨h.1,fun i hi=>wpOp_mono (fun a' w' h'=>AnyL.any fuel _ a' w' h'.2) (h.2 i hi)⟩
theorem AnyL.first {i:Nat} {D:Oper} {v:Value} (hi:ops[i]?=some D) (B:∀ (j:Nat) (o:Oper) cs b,ops[j]?=some o->o.op≠.select cs b)
  (hQ:∀ c a w,Q (.panic c) (a.put D.dst v) w->Q (.panic c) a w) :
  ∀ (l:Nat) (d:Array Bool) (a:Act) (w:World),(∀ x ∈ s,d.getD x false=true\/waits ops ops.size x i=true) ->
   (∀ j oj,ops[j]?=some oj->j≠i->d.getD j true=false->(∀ e ∈ oj.after,Region.binds .any e=true->e.on≠i)->D.apart ops oj=true) ->
   i ∈ Region.ready .any ops d->Closed ops d->YieldsIf P ops S D v a->S w ->
   AnyL P ops Q S s l (d.setIfInBounds i true) (a.put D.dst v) w->AnyL P ops Q S s (l+1) d a w:=by
 intro l
 induction l with
 | zero =>
  intro d a w W _ E G T J H;refine⟨fun h=>(by rw[h] at E;cases E),fun j O=>?_⟩;by_cases g:j=i
  ·subst g;exact T.wpOp hi J ⟨.inr J,H⟩
  have:=ready_mono O g;rw[H.1] at this;cases this
 | succ l ih =>
  intro d a w W p E G T J H;refine⟨fun h=>(by rw[h] at E;cases E),fun j O=>?_⟩;by_cases g:j=i
  ·subst g;exact T.wpOp hi J ⟨.inr J,H⟩
  have U:=H.2 j (ready_mono O g);obtain⟨m,oj,A,C⟩:=mem_ready.1 O;have u:d.getD i false=false:=by
   have h0:=(mem_ready.1 E).1
   rcases Nat.lt_or_ge i d.size with F|F
   ·simp[F] at h0 ⊢;exact h0
   simp[Array.getElem?_eq_none F]
  have R:∀ e ∈ oj.after,Region.binds .any e=true->e.on≠i:=fun e he hb X=>by
   have U:=C e he hb;rw[X,u] at U;cases U
  have Y:j ∉ s:=fun e=>by
   have a1:d.getD j false=false:=by
    rcases Nat.lt_or_ge j d.size with F|F
    ·simp[F] at m ⊢;exact m
    simp[Array.getElem?_eq_none F]
   have a3:waits ops ops.size j i=true:=(W j e).resolve_left (by rw[a1];simp);have:=y2k G _ _ a3 (fun o' K e he hb=>by rw[A] at K;cases K;exact C e he hb);rw[u] at this;cases this
  have h2:=wpOp_putIf A (p j oj A g m R) (fun cs b=>B i D cs b hi) (fun cs b=>B j oj cs b A) hQ T U;have z:∀ k ok,ops[k]?=some ok->k≠i->(d.setIfInBounds j true).getD k true=false ->
    (∀ e ∈ ok.after,Region.binds .any e=true->e.on≠i)->D.apart ops ok=true:=fun k ok hk a2 L Z=>by
   refine p k ok hk a2 ?_ Z;by_cases I:j=k
   ·subst I;exact m
   rw[getD_set_ne true I] at L;exact L
  refine wpOp_mono (fun a' w' h3=>?_) h2;have N:S w':=h3.2.1.resolve_left Y;refine⟨.inr N,ih (d.setIfInBounds j true) a' w' (fun x hx=>(W x hx).imp (fun h=>getD_set_true h) id) z (ready_mono E (Ne.symm g)) (G.set O) h3.1 N ?_⟩;rw[Array.setIfInBounds_comm _ _ g];exact h3.2.2
theorem AnyL.firstP {i:Nat} {B:Oper} {v:Value} (I:i ∈ s) (hi:ops[i]?=some B) (z:∀ (j:Nat) (o:Oper) cs b,ops[j]?=some o->o.op≠.select cs b)
  (hQ:∀ c a w,Q (.panic c) (a.put B.dst v) w->Q (.panic c) a w) :
  ∀ (l:Nat) (d:Array Bool) (a:Act) (w:World),
   (∀ j oj,ops[j]?=some oj->j≠i->d.getD j true=false->(∀ e ∈ oj.after,Region.binds .any e=true->e.on≠i)->B.apart ops oj=true) ->
   i ∈ Region.ready .any ops d->YieldsIf P ops (fun _=>True) B v a ->
   AnyL P ops Q S s l (d.setIfInBounds i true) (a.put B.dst v) w->AnyL P ops Q S s (l+1) d a w:=by
 intro l
 induction l with
 | zero =>
  intro d a w _ C L H;refine⟨fun h=>(by rw[h] at C;cases C),fun j O=>?_⟩;by_cases g:j=i
  ·subst g;exact L.wpOp hi trivial ⟨.inl I,H⟩
  have:=ready_mono O g;rw[H.1] at this;cases this
 | succ l ih =>
  intro d a w m C L H;refine⟨fun h=>(by rw[h] at C;cases C),fun j O=>?_⟩;by_cases g:j=i
  ·subst g;exact L.wpOp hi trivial ⟨.inl I,H⟩
  have N:=H.2 j (ready_mono O g);obtain⟨u,oj,D,K⟩:=mem_ready.1 O;have E:d.getD i false=false:=by
   have Y:=(mem_ready.1 C).1
   rcases Nat.lt_or_ge i d.size with W|W
   ·simp[W] at Y ⊢;exact Y
   simp[Array.getElem?_eq_none W]
  have F:∀ e ∈ oj.after,Region.binds .any e=true->e.on≠i:=fun e he hb R=>by
   have N:=K e he hb;rw[R,E] at N;cases N
  have Z:=wpOp_putIf D (m j oj D g u F) (fun cs b=>z i B cs b hi) (fun cs b=>z j oj cs b D) hQ L N;have p:∀ k ok,ops[k]?=some ok->k≠i->(d.setIfInBounds j true).getD k true=false ->
    (∀ e ∈ ok.after,Region.binds .any e=true->e.on≠i)->B.apart ops ok=true:=fun k ok hk X J T=>by
   refine m k ok hk X ?_ T;by_cases G:j=k
   ·subst G;exact u
   rw[getD_set_ne true G] at J;exact J
  refine wpOp_mono (fun a' w' U=>?_) Z;refine⟨U.2.1,ih (d.setIfInBounds j true) a' w' p (ready_mono C (Ne.symm g)) U.1 ?_⟩;rw[Array.setIfInBounds_comm _ _ g];exact U.2.2
def tpBL (ops:Array Oper) (s:List Nat) (i:Nat) (listed:Array Bool):Bool:=s.contains i&&Region.noSelect ops&&Region.free .any ops listed i&&(Region.ready .any ops listed).contains i
theorem AnyL.tp {i:Nat} {j:Oper} {v:Value} {g:Nat} {d:Array Bool} {a:Act} {w:World} (hi:ops[i]?=some j) (hb:tpBL ops s i d=true) (k:YieldsIf P ops (fun _=>True) j v a)
  (h:AnyL P ops Q S s g (d.setIfInBounds i true) (a.put j.dst v) w) (hQ:∀ c a w,Q (.panic c) (a.put j.dst v) w->Q (.panic c) a w:=by exact fun _ _ _ h=>h):AnyL P ops Q S s (g+1) d a w:=by
 unfold tpBL at hb;simp only[Bool.and_eq_true] at hb;exact AnyL.firstP (by simpa using hb.1.1.1) hi (Region.noSelect_spec hb.1.1.2) hQ g d a w (Region.free_spec hi hb.1.2) (by simpa using hb.2) k h
theorem AnyL.take {i:Nat} {j:Oper} {v:Value} {g:Nat} {d:Array Bool} {a:Act} {w:World} (hi:ops[i]?=some j) (l:(s.all fun x=>d.getD x false||waits ops ops.size x i)=true) (k:y4a ops d=true)
  (o:Region.noSelect ops=true) (hf:Region.free .any ops d i=true) (m:(Region.ready .any ops d).contains i=true)
  (hQ:∀ c a w,Q (.panic c) (a.put j.dst v) w->Q (.panic c) a w) (u:S w) (p:YieldsIf P ops S j v a)
  (h:AnyL P ops Q S s g (d.setIfInBounds i true) (a.put j.dst v) w):AnyL P ops Q S s (g+1) d a w :=
 AnyL.first hi (Region.noSelect_spec o) hQ g d a w (fun x z=>by simpa using List.all_eq_true.1 l x z) (Region.free_spec hi hf) (by simpa using m) (y9u k) p u h
def tkBL (ops:Array Oper) (s:List Nat) (i:Nat) (listed:Array Bool):Bool:=(s.all fun x=>listed.getD x false||waits ops ops.size x i)&&y4a ops listed&&Region.noSelect ops&&Region.free .any ops listed i&&(Region.ready .any ops listed).contains i
theorem AnyL.tk {i:Nat} {j:Oper} {v:Value} {g:Nat} {d:Array Bool} {a:Act} {w:World} (hi:ops[i]?=some j) (hb:tkBL ops s i d=true) (l:S w) (k:YieldsIf P ops S j v a)
  (h:AnyL P ops Q S s g (d.setIfInBounds i true) (a.put j.dst v) w) (hQ:∀ c a w,Q (.panic c) (a.put j.dst v) w->Q (.panic c) a w:=by exact fun _ _ _ h=>h):AnyL P ops Q S s (g+1) d a w:=by
 unfold tkBL at hb;simp only[Bool.and_eq_true] at hb;exact AnyL.take hi hb.1.1.1.1 hb.1.1.1.2 hb.1.1.2 hb.1.2 hb.2 hQ l k h
theorem AnyL.one {i:Nat} {o:Oper} {d:Nat} {c:Array Bool} {a:Act} {w:World} (u:ops[i]?=some o) (k:Region.ready .any ops c=[i]) (g:Region.wanted o (yielded ops a.tmps)=true)
  (h:∀ K:Act->World->Prop,Shut (∀ a w,(i ∈ s\/S w)->AnyL P ops Q S s d (c.setIfInBounds i true) a w->K a w)->Oper.wp P o a w K Q):AnyL P ops Q S s (d+1) c a w:=by
 refine⟨fun m=>(by rw[k] at m;cases m),fun j l=>?_⟩;rw[k] at l;obtain rfl:j=i:=by simpa using l
 exact wpOp_step u (fun K p=>by rw[if_pos g];exact h K (fun a w z A=>p a w ⟨z,A⟩))
theorem AnyL.tm (i:Nat) {j:Oper} {v:Value} {g:Nat} {d:Array Bool} {a:Act} {w:World} (m:S w)
  (h:AnyL P ops Q S s g (d.setIfInBounds i true) (a.put j.dst v) w) (hi:ops[i]?=some j:=by rfl) (hb:tkBL ops s i d=true:=by kernel_rfl) (k:Region.wanted j (yielded ops a.tmps)=true:=by kernel_rfl)
  (l:∀ w,S w->(execOp a.eval j).run P w=.ok (.value v) w:=by (intro w h;go_simp;try with_reducible rfl)) (hQ:∀ c a w,Q (.panic c) (a.put j.dst v) w->Q (.panic c) a w:=by exact fun _ _ _ h=>h):AnyL P ops Q S s (g+1) d a w:=AnyL.tk hi hb m (.inl ⟨k,l⟩) h hQ
theorem AnyL.tq (i:Nat) {j:Oper} {v:Value} {g:Nat} {d:Array Bool} {a:Act} {w:World}
  (h:AnyL P ops Q S s g (d.setIfInBounds i true) (a.put j.dst v) w) (hi:ops[i]?=some j:=by rfl) (hb:tpBL ops s i d=true:=by kernel_rfl) (k:Region.wanted j (yielded ops a.tmps)=true:=by kernel_rfl)
  (l:∀ w,True->(execOp a.eval j).run P w=.ok (.value v) w:=by (intro w h;go_simp;try with_reducible rfl)) (hQ:∀ c a w,Q (.panic c) (a.put j.dst v) w->Q (.panic c) a w:=by exact fun _ _ _ h=>h):AnyL P ops Q S s (g+1) d a w:=AnyL.tp hi hb (.inl ⟨k,l⟩) h hQ
theorem AnyL.on (i:Nat) {o:Oper} {d:Nat} {c:Array Bool} {a:Act} {w:World} (h:∀ K:Act->World->Prop,Shut (∀ a w,(i ∈ s\/S w)->AnyL P ops Q S s d (c.setIfInBounds i true) a w->K a w)->Oper.wp P o a w K Q)
  (k:ops[i]?=some o:=by rfl) (j:Region.ready .any ops c=[i]:=by kernel_rfl) (g:Region.wanted o (yielded ops a.tmps)=true:=by rfl):AnyL P ops Q S s (d+1) c a w:=AnyL.one k j g h
theorem AnyL.done {listed:Array Bool} {a:Act} {w:World} (hr:Region.ready .any ops listed=[]) (h:Q .normal a w):∀ fuel,AnyL P ops Q S s fuel listed a w
 | 0=>⟨hr,h⟩
 | _+1=>⟨fun _=>h,by rw[hr];simp⟩
theorem AnyL.dn {c:Array Bool} {a:Act} {w:World} {d:Nat} (h:Q .normal a w) (g:Region.ready .any ops c=[]:=by kernel_rfl):AnyL P ops Q S s d c a w:=AnyL.done g h d
theorem AnyL.loose {late:List Nat}:∀ {fuel:Nat} {listed:Array Bool} {a:Act} {w:World},(∀ i,i<listed.size->listed.getD i true=false->i ∈ late)->AnyL P ops Q (fun _=>True) [] fuel listed a w->AnyL P ops Q S late fuel listed a w
 | 0,_,_,_,_,h=>h
 | fuel+1,listed,a,w,hl,h=>by
  refine⟨h.1,fun i hi=>wpOp_mono (fun a' w' h'=>⟨.inl ?_,AnyL.loose (fun j hj hf=>?_) h'.2⟩) (h.2 i hi)⟩
  ·obtain⟨h1,_⟩:=mem_ready.1 hi;refine hl i ?_ h1
   rcases Nat.lt_or_ge i listed.size with h' | h'
   ·exact h'
   simp[Array.getD,Nat.not_lt.2 h'] at h1
  refine hl j (by simpa using hj) ?_;by_cases e:i=j
  ·subst e;have hj':i<listed.size:=by simpa using hj
   simp[Array.getD,hj'] at hf
  rwa [getD_set_ne true e] at hf
def u6p (late:List Nat) (listed:Array Bool):Bool:=(List.range listed.size).all fun i=>listed.getD i true||late.contains i
theorem AnyL.loose' {d:List Nat} {g:Nat} {c:Array Bool} {a:Act} {w:World} (h:u6p d c=true) (j:AnyL P ops Q (fun _=>True) [] g c a w):AnyL P ops Q S d g c a w :=
 AnyL.loose (fun i hi hf=>by
  have:=List.all_eq_true.1 h i (List.mem_range.2 hi);rw[hf] at this;simpa using this) j
theorem y9w (S:World->Prop) (s:List Nat) {c:Nat} {a:Act} {w:World} (d:P.follows .mixedOrders=true)
  (h:AnyL P ops Q S s ops.size (Array.replicate ops.size false) a w.drew):(Code.region c ops true).wp P Q a w :=
 wp_region_any d (AnyL.any _ _ _ _ h)
end
end
section
open Go.RowKit Go.Deep
def SymF (nf:FuncId) (cap:Array Value) (φ:Int->Int->Int × Int) (P:World->Prop):Prop :=
 (∀ args w,(callFunc nf args).run prog w=.ok (.enter nf args) w)/\∀ w,P w->∀ i o:Int,0<=i->i<=500->0<=o->o<=500->Calls prog nf (#[.int .i64 i,.int .i64 o]++cap) w (fun r w'=>r=.returned (.tuple #[.int .i64 (φ i o).1,.int .i64 (φ i o).2])/\Below w.heap.size w w')
structure ApI (w wr:World) (cb rb g q:Nat) (fv:Value) (D:MD) (φ:Int->Int->Int × Int) (R A:Nat->Value):Prop where
 hb:Below w.heap.size w wr
 kc:wr.heap[cb]?=some (.cells #[fv] 69 (0,0))
 kr:wr.heap[rb]?=some (.cells #[.int .i64 D.kind,.int .i64 D.start,.string D.lead,.slice (some ⟨g,0,none⟩) D.n D.n] 24 (0,0))
 lr:w.heap.size<=rb
 top:wr.ownsRow w.heap.size 57 2 (.slice (some ⟨g,0,none⟩) D.n D.n) D.n (cat (st2 D (fun i=>if i<q then R i else A i)) D.n)
 row:∀ i,i<q->wr.ownsRow w.heap.size 59 4 (R i) (D.na i) (cat (arc4 (D.sym φ) i) (D.na i))
 apart:∀ i j,i<q->j<q->i≠j->∀ b,(R i).ownBlock=some b->(R j).ownBlock≠some b
def mixA (D:MD) (φ:Int->Int->Int × Int) (q d k:Nat):List Value:=if k<d then arc4 (D.sym φ) q k else arc4 D q k
theorem y0c (D:MD) (φ:Int->Int->Int × Int) (q d k:Nat):(mixA D φ q d k).length=4:=by unfold mixA;split<;>rfl
theorem v4u {D:MD} {φ:Int->Int->Int × Int} {q d n:Nat} (c:d<n):((cat (mixA D φ q d) n).set (d*4+0) (.int .i64 (φ (D.ain q d) (D.aout q d)).1)).set (d*4+1) (.int .i64 (φ (D.ain q d) (D.aout q d)).2)=cat (mixA D φ q (d+1)) n:=by
 have h:∀ k,((fun k=>if k=d then (mixA D φ q d d).set 0 (.int .i64 (φ (D.ain q d) (D.aout q d)).1) else mixA D φ q d k) k).length=4:=fun k=>by
  dsimp only;split
  ·rw[List.length_set,y0c]
  exact y0c _ _ _ _ _
 rw[y1v (y0c D φ q d) (by omega) _ c,y1v h (by omega) _ c];refine z2g fun k i=>?_;by_cases e:k=d
 ·subst e;simp only[if_pos];unfold mixA;rw[if_neg (Nat.lt_irrefl _),if_pos (Nat.lt_succ_self _)];rfl
 simp only[if_neg e];unfold mixA;by_cases g:k<d
 ·rw[if_pos g,if_pos (by omega)]
 rw[if_neg g,if_neg (by omega)]
theorem v7c {D:MD} {φ:Int->Int->Int × Int} {q n:Nat}:cat (mixA D φ q n) n=cat (arc4 (D.sym φ) q) n:=z2g fun k c=>by unfold mixA;rw[if_pos c]
theorem x9h {D:MD} {φ:Int->Int->Int × Int} {q n:Nat}:cat (mixA D φ q 0) n=cat (arc4 D q) n:=z2g fun k c=>by unfold mixA;rw[if_neg (by omega)]
theorem x2w {c:Nat->List Value} (h:∀ i,∀ v ∈ c i,v.oneCell'=true):∀ n,∀ v ∈ cat c n,v.oneCell'=true
 | 0,v,hv=>by simp[cat] at hv
 | n+1,v,hv=>by
  rw[z5f] at hv
  rcases List.mem_append.1 hv with hv|hv
  ·exact x2w h n v hv
  exact h n v hv
theorem v2q {c:Nat->List Value} {s n:Nat} (m:0<s) (l:∀ i,(c i).length=s) {w:World} {b d:Nat} (h:∀ i j,i<n->j<s->∀ v,(c i)[j]?=some v->w.cell? ⟨b,d+i*s+j,none⟩=some v) :
  ∀ j v,(cat c n)[j]?=some v->w.cell? ((⟨b,d,none⟩:Addr).add j)=some v:=by
 intro j v u;rw[Addr.add_lit];have A:j<n*s:=by have:=(List.getElem?_eq_some_iff.1 u).1;rw[z4r l] at this;exact this
 have z:j % s<s:=Nat.mod_lt _ m;have p:j / s<n:=(Nat.div_lt_iff_lt_mul m).2 A;have g:j / s*s+j % s=j:=by rw[Nat.mul_comm];exact Nat.div_add_mod j s
 have k:=z5p l z p;rw[g,u] at k;have o:=h (j / s) (j % s) p z v k.symm;rw[Nat.add_assoc,g] at o;exact o
theorem y6e {w:World} {B g n s:Nat} {e:TypeId} {c:Array Value} (j:w.heap[g]?=some (.cells c e (0,0))) (i:B<=g) (h:n<=maxLen) (cs:List Value) (d:cs.length=n*s) :
  (w.setRow g cs.toArray).ownsRow B e s (.slice (some ⟨g,0,none⟩) n n) n cs :=
 ⟨d,.inr ⟨g,n,cs.toArray,rfl,i,setRow_heap w g c _ e _ j,nlr,h,by simp[d],by
  show cs.toArray.toList.take (n*s)=cs;rw[<- d];simp⟩⟩
theorem v2h {w:World} {B:Nat} {e:TypeId} {s g n cap:Nat} {xs:List Value} (h:w.ownsRow B e s (.slice (some ⟨g,0,none⟩) n cap) n xs):∃ cs,w.heap[g]?=some (.cells cs e (0,0)):=by
 rcases h.2 with ⟨d,_⟩|⟨k,j,c,d,_,i,_⟩
 ·cases d
 cases d;exact⟨c,i⟩
theorem v9m {g:Nat} {w c:World} (h:Fr (fun x=>x=g) w c):w.grownBy c (some g):=(h.mono (C':=fun q=>some g=some q) (fun q _ e=>by rw[e])).gb
theorem ApI.mid {w j wr:World} {l rb g d q:Nat} {fv:Value} {D:MD} {φ:Int->Int->Int × Int} {R A:Nat->Value} (h:ApI w j l rb g q fv D φ R A) (c:Fr (fun x=>x=d) j wr) (o:j.heap.size<=d) (m:w.heap.size<=d):ApI w wr l rb g q fv D φ R A:=by
 have k:∀ b,b<j.heap.size->some d≠some b:=fun b hb e=>by injection e;omega
 refine⟨h.hb.trans (c.below h.hb.size (fun x e=>by rw[e];exact m)),?_,?_,h.lr,?_,fun i hi=>?_,h.apart⟩
 ·exact(c.block _ (lt_of_block h.kc) (by have:=lt_of_block h.kc;omega)).trans h.kc
 ·exact(c.block _ (lt_of_block h.kr) (by have:=lt_of_block h.kr;omega)).trans h.kr
 ·exact z2q h.top (v9m c) (fun b hb=>k b (World.ownsRow.lt h.top b hb).2)
 exact z2q (h.row i hi) (v9m c) (fun b hb=>k b (World.ownsRow.lt (h.row i hi) b hb).2)
theorem ApI.next {w wr:World} {E rb g c q:Nat} {fv:Value} {D:MD} {φ:Int->Int->Int × Int} {R A:Nat->Value} (h:ApI w wr E rb g q fv D φ R A) (K:q<D.n)
  (s:∀ i,i<q->(R i).ownBlock≠some c) (l:wr.ownsRow w.heap.size 59 4 (.slice (some ⟨c,0,none⟩) (D.na q) (D.na q)) (D.na q) (cat (arc4 (D.sym φ) q) (D.na q))) :
  ApI w (wr.setCell ⟨g,q*2+1,none⟩ (.slice (some ⟨c,0,none⟩) (D.na q) (D.na q))) E rb g (q+1) fv D φ (fun i=>if i=q then .slice (some ⟨c,0,none⟩) (D.na q) (D.na q) else R i) A:=by
 have C:=World.ownsRow.lt h.top g rfl;obtain⟨N,z⟩:=v2h h.top;have F:E≠g:=fun e=>by
  have:=h.kc;rw[e,z] at this;simp at this
 have G:rb≠g:=fun e=>by
  have:=h.kr;rw[e,z] at this;simp at this
 have o:∀ {v:Value} {n:Nat} {I:List Value},wr.ownsRow w.heap.size 59 4 v n I->v.ownBlock≠some g:=fun {v n I} B=>v1p h.top B (by decide) rfl;have Q:∀ i,i<q+1->((fun i=>if i=q then Value.slice (some ⟨c,0,none⟩) (D.na q) (D.na q) else R i) i).ownBlock≠some g:=fun i hi=>by
  dsimp only
  split
  ·exact o l
  exact o (h.row i (by omega))
 refine⟨h.hb.setCell (p:=⟨g,q*2+1,none⟩) C.1 _,?_,?_,h.lr,?_,fun i hi=>?_,fun i j hi P H b hb=>?_⟩
 ·rw[z0e F];exact h.kc
 ·rw[z0e G];exact h.kr
 ·have B:=y4s h.top (q*2+1) (.slice (some ⟨c,0,none⟩) (D.na q) (D.na q));rw[y1v (z4y D _) (by omega) _ K] at B;rw[show cat (st2 D (fun i=>if i<q+1 then (if i=q then Value.slice (some ⟨c,0,none⟩) (D.na q) (D.na q) else R i) else A i)) D.n=_ from z2g (d:=fun k=>if k=q then (st2 D (fun i=>if i<q then R i else A i) q).set 1 (.slice (some ⟨c,0,none⟩) (D.na q) (D.na q)) else st2 D (fun i=>if i<q then R i else A i) k) (fun k O=>?_)]
  ·exact B
  by_cases e:k=q
  ·subst e;simp[st2]
  by_cases u:k<q
  ·simp[st2,e,u,show k<q+1 by omega]
  simp[st2,e,u,show ¬ k<q+1 by omega]
 ·by_cases e:i=q
  ·subst e;show (wr.setCell _ _).ownsRow _ _ 4 (if i=i then _ else R i) _ _
   rw[if_pos rfl];exact z5q l (o l) _
  show (wr.setCell _ _).ownsRow _ _ 4 (if i=q then _ else R i) _ _
  rw[if_neg e];exact z5q (h.row i (by omega)) (o (h.row i (by omega))) _
 have m:(if i=q then Value.slice (some ⟨c,0,none⟩) (D.na q) (D.na q) else R i).ownBlock=some b:=hb
 show (if j=q then Value.slice (some ⟨c,0,none⟩) (D.na q) (D.na q) else R j).ownBlock≠some b
 by_cases e:i=q
 ·rw[if_pos e] at m;rw[if_neg (by omega)];have u:c=b:=by simpa [Value.ownBlock] using m
  rw[<- u];exact s j (by omega)
 rw[if_neg e] at m;by_cases u:j=q
 ·rw[if_pos u];intro L;have J:c=b:=by simpa [Value.ownBlock] using L
  exact s i (by omega) (by rw[J];exact m)
 rw[if_neg u];exact h.apart i j (by omega) (by omega) H b m
theorem ApI.own {w wr:World} {c rb g:Nat} {fv:Value} {D:MD} {φ:Int->Int->Int × Int} {R A:Nat->Value} (h:ApI w wr c rb g D.n fv D φ R A):OwM wr w.heap.size (.slice (some ⟨g,0,none⟩) D.n D.n) (D.sym φ) R:=by
 refine⟨?_,h.row,h.apart⟩;show wr.ownsRow _ _ 2 _ D.n (cat (st2 (D.sym φ) R) D.n);rw[show cat (st2 (D.sym φ) R) D.n=cat (st2 D (fun i=>if i<D.n then R i else A i)) D.n from z2g fun i hi=>by
  show [Value.string (D.fin i),R i]=[Value.string (D.fin i),if i<D.n then R i else A i]
  rw[if_pos hi]]
 exact h.top
theorem OwM.box4 {w:World} {B rb:Nat} {sv:Value} {D:MD} {R:Nat->Value} {a0 o m s:Value} (h:OwM w B sv D R) (hb:w.heap[rb]?=some (.cells #[a0,o,m,s] 24 (0,0))) (k l j g:Value) :
  OwM ((((w.setCell ⟨rb,0,none⟩ k).setCell ⟨rb,1,none⟩ l).setCell ⟨rb,2,none⟩ j).setCell ⟨rb,3,none⟩ g) B sv D R :=
 have d:=z2p h.top hb (by decide);have c:=fun i (hi:i<D.n)=>z2p (h.row i hi) hb (by decide)
 (((h.other (p:=⟨rb,0,none⟩) d c k).other (p:=⟨rb,1,none⟩) d c l).other (p:=⟨rb,2,none⟩) d c j).other (p:=⟨rb,3,none⟩) d c g
end
section
open Go.RowKit Go.Deep
theorem z6q {D:MD} {mv:Value} {nf:FuncId} {fc:Array Value} {φ:Int->Int->Int × Int} {P:World->Prop} (w:World) (hM:Ma none w mv D) (k0:MSz D) (ht:Tab w) (hF:SymF nf fc φ P) (hP:P w) (q8:∀ wb,Below w.heap.size w wb->P wb) :
  Calls prog 48 #[.agg #[.func (.func nf) #[] fc],mv] w (MkE (VM D) (D.sym φ) 1 w):=by
 obtain⟨sv,rfl,hS⟩:=hM;obtain⟨a,cp,b,T,A,C,BB,O,rfl,ha,hc,hm,hb,U⟩:=hS.open;obtain⟨A0,uu9⟩:=hF;obtain⟨fv,A3⟩:=exq (Value.func (.func nf) #[] fc);obtain⟨w1,b4⟩:=exq (w.alloc (.cells #[.func (.func nf) #[] fc] 69));obtain⟨w2,b6⟩:=exq (w1.alloc (.cells #[.int .i64 D.kind,.int .i64 D.start,.string D.lead,.slice a D.n cp] 24));obtain⟨w3,d0⟩:=exq (w2.alloc (.cells #[.int .i64 0,.int .i64 0,.string ⟨#[]⟩,.slice none 0 0] 24));have i8:w1.heap.size=w.heap.size+1:=by rw[b4];simp
 have s9:w2.heap.size=w.heap.size+1+1:=by rw[b6];simp[i8]
 have p9:Fr (fun _=>False) w w1:=by rw[b4];exact Fr.alloc _ _
 have m5:Fr (fun _=>False) w1 w2:=by rw[b6];exact Fr.alloc _ _
 have f9:Fr (fun _=>False) w2 w3:=by rw[d0];exact Fr.alloc _ _
 have r4:w1.heap[w.heap.size]?=some (.cells #[.func (.func nf) #[] fc] 69 (0,0)):=by rw[b4];exact heap_alloc_new w _
 have n9:w2.heap[w.heap.size+1]?=some (.cells #[.int .i64 D.kind,.int .i64 D.start,.string D.lead,.slice a D.n cp] 24 (0,0)):=by rw[<- i8,b6];exact heap_alloc_new w1 _
 have j7:w3.heap[w.heap.size+1+1]?=some (.cells #[.int .i64 0,.int .i64 0,.string ⟨#[]⟩,.slice none 0 0] 24 (0,0)):=by rw[<- s9,d0];exact heap_alloc_new w2 _
 have i7:w3.heap[w.heap.size]?=some (.cells #[.func (.func nf) #[] fc] 69 (0,0)):=(f9.block _ (by omega) (fun e=>e)).trans ((m5.block _ (by omega) (fun e=>e)).trans r4);have g5:w3.heap[w.heap.size+1]?=some (.cells #[.int .i64 D.kind,.int .i64 D.start,.string D.lead,.slice a D.n cp] 24 (0,0)):=(f9.block _ (by omega) (fun e=>e)).trans n9;have h3:Below w.heap.size w w3:=((p9.trans m5).trans f9).below nlr (fun _ e=>e.elim);obtain⟨cb,j8⟩:=exq (w.heap.size);obtain⟨Q,e9⟩:=exq (w.heap.size+1);obtain⟨s,j0⟩:=exq (w.heap.size+1+1);have g3:w.heap.size<=s:=by omega
 have x5:cb≠s:=by omega
 have w8:Q≠s:=by omega
 rw[<- j8] at i7;rw[<- e9] at g5;rw[<- j0] at j7;obtain⟨⟨m0,m1,m2,m3⟩,mz⟩:=cells4 g5;clear mz;have v5:=qh (z1v w3 (⟨_,rfl,hS.kept (z0b h3 none)⟩:Ma none w3 (.agg #[.int .i64 D.kind,.int .i64 D.start,.string D.lead,.slice a D.n cp]) D) k0 (ht.below h3 nlr));clear p9 m5 f9 r4 n9 i8 s9;have j6:=qh h3;clear h3;have l8:=qh i7;clear i7;have m9:=qh g5;clear g5;have i6:=qh j7;clear j7;have A5:=qh k0;clear k0;have HA:=qh ha;clear ha;have HB:=qh hb;clear hb;have HR:=qh U;clear U hS;have x1:=qh q8;clear q8 hP ht;have x2:=qh uu9;clear uu9;rw[e9,d0,b6,b4] at m0 m1 m2 m3
 go_enter func48,ntmps48
 go_wp2_with fail
 rw[<- b4,<- b6,<- d0,<- j0,<- e9,<- j8];clear m0 m1 m2 m3 b4 b6 d0 j0 e9;have z6:w.heap.size<=cb:=by omega
 clear j8;refine v5.out.mono ?_;rintro r w4 ⟨e3,hr⟩;have h7:=j6.out.trans (e3.mono j6.out.size);have t7:=(e3.block _ (lt_of_block l8.out)).trans l8.out;have j2:=(e3.block _ (lt_of_block m9.out)).trans m9.out;have i4:=(e3.block _ (lt_of_block i6.out)).trans i6.out;clear e3 v5 j6 l8 m9 i6;obtain⟨⟨r0,r1,r2,r3⟩,Z⟩:=cells4 i4;have f0:=Z 0;have f1:=Z 1;have f2:=Z 2;have f3:=Z 3;clear Z;have j5:=qh h7;clear h7;have uu8:=qh t7;clear t7;have m7:=qh i4;clear i4;obtain⟨⟨m0,m1,m2,m3⟩,mz⟩:=cells4 j2;clear mz;have uu4:=qh j2;clear j2
 rcases hr with ⟨z,rfl⟩|⟨z,rfl⟩
 rotate_left
 ·have HV:=qh z;clear z;clear m0 m1 m2 m3
  go_wp2_with fail
  refine bodyPost_ret (z0k rfl _ (b:=s) rfl rfl (z0w w4 s _ _ _ _ m7.out)) rfl ⟨z0d j5.out g3 _ _ _ _,.inr ⟨HV.out,rfl⟩⟩
 have y4:1<=D.n:=z.n1;have x7:D.n<=3000:=z.n2;have uu6:∀ i,i<D.n->D.na i<=30000:=fun i hi=>by have h1:=Nat.le_trans (z1w D (show i+1<=D.n by omega)) z.arcs;have h2:z0f D (i+1)=z0f D i+D.na i:=rfl;omega
 have HV:=qh z;clear z;have x0:=qh uu6;clear uu6;obtain rfl:=HA.out (by omega);unfold maxLen at hm;have b7:=z7c (P:=prog) 22 57 _ 2 40 underlying22 x9x .i64 .i64 D.n (by omega) (by omega);obtain⟨n,hn⟩:=exq (D.n);rw[<- hn] at y4 x7 b7 m3 hc;obtain⟨zs,b5⟩:=exq (madeCells (Value.agg #[.string ⟨#[]⟩,.slice none 0 0]).cells (n*2));rw[<- b5] at b7;have uu2:zs.size=n*2:=by rw[b5];exact size_madeCells _ _
 have y9:=qh uu2;clear uu2 b5;have HN:=qh hn;rw[<- hn];clear hn
 go_wp2_with fail
 refine z0h (fun wk=>wk.cell? ⟨Q,0,none⟩=some (.int .i64 D.kind)/\wk.cell? ⟨Q,1,none⟩=some (.int .i64 D.start)/\wk.cell? ⟨Q,2,none⟩=some (.string D.lead)/\wk.cell? ⟨Q,3,none⟩=some (.slice (some ⟨b,T,none⟩) n cp)) 11 (by kernel_rfl) ?_;obtain⟨u,o⟩:=exq (w4.drew);have k:u.cell? ⟨Q,0,none⟩=some (.int .i64 D.kind)/\u.cell? ⟨Q,1,none⟩=some (.int .i64 D.start)/\u.cell? ⟨Q,2,none⟩=some (.string D.lead)/\u.cell? ⟨Q,3,none⟩=some (.slice (some ⟨b,T,none⟩) n cp):=by rw[o];exact⟨m0,m1,m2,m3⟩
 rw[<- o];clear m0 m1 m2 m3 r0 r1 r2 r3 f0 f1 f2 f3;have o9:Below w.heap.size w u:=by rw[o];exact j5.out.drew
 have v4:u.heap[cb]?=some (.cells #[.func (.func nf) #[] fc] 69 (0,0)):=by rw[o];exact uu8.out
 have o4:u.heap[Q]?=some (.cells #[.int .i64 D.kind,.int .i64 D.start,.string D.lead,.slice (some ⟨b,T,none⟩) D.n cp] 24 (0,0)):=by rw[o];exact uu4.out
 have o5:u.heap[s]?=some (.cells #[.int .i64 0,.int .i64 0,.string ⟨#[]⟩,.slice none 0 0] 24 (0,0)):=by rw[o];exact m7.out
 have f4:=qh o9;clear o9 j5 uu8 uu4 m7;have g1:=qh v4;clear v4;have g6:=qh o4;clear o4;have a6:=qh o5;clear o5 o;refine z0c.tm 0 k ?_;refine z0c.tm 1 k ?_;refine z0c.tm 2 k ?_;refine z0c.tm 3 k ?_;refine z0c.tm 4 k ?_;refine z0c.tm 5 k ?_;refine z0c.tm 6 k ?_;refine z0c.tm 7 k ?_;refine z0c.tm 8 k ?_
 try simp only[Act.put,tryL]
 refine z0c.on 9 fun K B=>?_;go_simp;obtain⟨g,hg⟩:=exq (u.heap.size);obtain⟨wa,f5⟩:=exq (u.alloc (.cells zs 57));have e4:Fr (fun _=>False) u wa:=by rw[f5];exact Fr.alloc _ _
 have v2:wa.heap[g]?=some (.cells zs 57 (0,0)):=by rw[f5,hg];exact heap_alloc_new u _
 have t8:=(e4.block _ (lt_of_block g1.out) (fun e=>e)).trans g1.out;have l1:=(e4.block _ (lt_of_block g6.out) (fun e=>e)).trans g6.out;have l6:=(e4.block _ (lt_of_block a6.out) (fun e=>e)).trans a6.out;have q9:Below w.heap.size w wa:=f4.out.trans (e4.below f4.out.size (fun _ e=>e.elim));have o7:w.heap.size<=g:=by rw[hg];exact f4.out.size
 have o8:g≠s:=by rw[hg];have:=lt_of_block a6.out;omega
 have A2:g≠Q:=by rw[hg];have:=lt_of_block g6.out;omega
 have y7:g≠cb:=by rw[hg];have:=lt_of_block g1.out;omega
 rw[<- f5,<- hg];clear f5 hg;have N:wa.cell? ⟨Q,0,none⟩=some (.int .i64 D.kind)/\wa.cell? ⟨Q,1,none⟩=some (.int .i64 D.start)/\wa.cell? ⟨Q,2,none⟩=some (.string D.lead)/\wa.cell? ⟨Q,3,none⟩=some (.slice (some ⟨b,T,none⟩) n cp):=by rw[HN.out];exact(cells4 l1).1
 refine B.out _ _ (.inr N) ?_;clear B K b7
 try simp only[Act.put,tryL]
 obtain⟨⟨r0,r1,r2,r3⟩,Z⟩:=cells4 l6;have f0:=Z 0;have f1:=Z 1;have f2:=Z 2;have f3:=Z 3;clear Z e4 f4 g1 g6 a6 k;have n5:=qh v2;clear v2;have l0:=qh t8;clear t8;have j1:=qh l1;clear l1;have p6:=qh l6;clear l6;have l2:=qh q9;clear q9;refine z0c.on 10 fun K B=>?_;go_simp;refine B.out _ _ (.inr N) ?_;clear B K
 try simp only[Act.put,tryL]
 refine z0c.on 11 fun K B=>?_;go_simp;refine B.out _ _ (.inl rfl) (z0c.dn ?_);clear B K N;obtain⟨wb,g8⟩:∃ wb,wb=(((wa.setCell ⟨s,0,none⟩ (.int .i64 D.kind)).setCell ⟨s,1,none⟩ (.int .i64 D.start)).setCell ⟨s,2,none⟩ (.string D.lead)).setCell ⟨s,3,none⟩ (.slice (some ⟨g,0,none⟩) n n):=⟨_,rfl⟩;have e5:Fr (fun q=>q=s) wa wb:=by rw[g8];exact(((((Fr.refl (fun q=>q=s) wa).set (p:=⟨s,0,none⟩) (.inl rfl) _).set (p:=⟨s,1,none⟩) (.inl rfl) _).set (p:=⟨s,2,none⟩) (.inl rfl) _).set (p:=⟨s,3,none⟩) (.inl rfl) _)
 have l7:wb.heap[s]?=some (.cells #[.int .i64 D.kind,.int .i64 D.start,.string D.lead,.slice (some ⟨g,0,none⟩) n n] 24 (0,0)):=by rw[g8];exact z0w wa s _ _ _ _ p6.out
 have s7:=(e5.block _ (lt_of_block n5.out) o8).trans n5.out;have o6:=(e5.block _ (lt_of_block l0.out) x5).trans l0.out;have j3:=(e5.block _ (lt_of_block j1.out) w8).trans j1.out;have e7:Below w.heap.size w wb:=l2.out.trans (e5.below l2.out.size (fun q e=>by rw[e];exact g3));have r3:=(cells4 l7).1.2.2.2;have m3:=(cells4 j3).1.2.2.2;rw[<- HN.out] at m3;obtain⟨Y,g4⟩:∃ Y:Nat->Value,Y=fun i=>.slice (A i) (D.na i) (C i):=⟨_,rfl⟩;obtain⟨cs,e2⟩:=exq (cat (st2 D Y) n);have I:cs.length=n*2:=by rw[e2];exact z4r (z4y D Y) n
 have S:∀ v ∈ cs,v.oneCell'=true:=by
  rw[e2];refine x2w (fun i v z=>?_) n;rw[g4] at z;simp[st2] at z
  rcases z with rfl|rfl<;>rfl
 have X:∀ j v,cs[j]?=some v->wb.cell? ((⟨b,T,none⟩:Addr).add j)=some v:=by
  rw[e2];refine v2q (by omega) (z4y D Y) (fun i j hi hj v z=>?_);have q7:=(HB.out (by have:=HN.out;omega)).1;obtain⟨k1,k2,_⟩:=HR.out i (by have:=HN.out;omega);rw[g4] at z;have:j=0\/j=1:=by omega
  rcases this with rfl|rfl
  ·cases z;exact(e7.cell (p:=⟨b,T+i*2,none⟩) q7).trans k1
  cases z;exact(e7.cell (p:=⟨b,T+i*2+1,none⟩) q7).trans k2
 rw[<- g8];have i3:=qh I;clear I;have uu0:=qh S;clear S;have n6:=qh X;clear X;have v9:=qh e2;clear e2;have r7:=qh g4;clear g4;have x3:=qh l7;clear l7;have n7:=qh s7;clear s7;have y8:=qh o6;clear o6;have A8:=qh j3;clear j3;have w0:=qh e7;clear e7;clear g8 e5 n5 l0 j1 p6 l2 r0 r1 r2 f0 f1 f2 f3;have a2:=y2j (P:=prog) wb 22 22 3 57 2 n g n (some ⟨b,T,none⟩) cp zs 57 cs underlying22 (by kernel_rfl) n7.out i3.out y9.out (fun _=>⟨_,rfl,n6.out⟩) uu0.out;obtain⟨wc,b8⟩:=exq (wb.setRow g cs.toArray);rw[<- b8] at a2;have m:wc.ownsRow w.heap.size 57 2 (.slice (some ⟨g,0,none⟩) n n) n cs:=by rw[b8];exact y6e n7.out o7 (by unfold maxLen;omega) cs i3.out
 have uu3:Below w.heap.size w wc:=by rw[b8];exact below_setRow w0.out o7 _
 have G:ApI w wc cb s g 0 (.func (.func nf) #[] fc) D φ Y Y:=by
  refine⟨uu3,?_,?_,g3,?_,fun i hi=>absurd hi (Nat.not_lt_zero _),fun i j hi=>absurd hi (Nat.not_lt_zero _)⟩
  ·rw[b8];exact(setRow_other wb g cb _ (fun e=>y7 e.symm)).trans y8.out
  ·rw[b8,<- HN.out];exact(setRow_other wb g s _ (fun e=>o8 e.symm)).trans x3.out
  rw[<- HN.out];rw[v9.out] at m;rw[show cat (st2 D (fun i=>if i<0 then Y i else Y i)) n=cat (st2 D Y) n from z2g fun i _=>by simp]
  exact m
 have r3:wc.cell? ⟨s,3,none⟩=some (.slice (some ⟨g,0,none⟩) n n):=by
  have:=(cells4 G.kr).1.2.2.2;rw[<- HN.out] at this;exact this
 have c:=qh G;clear G m uu3 b8
 go_wp2_with fail
 clear a2 r3 m3
 go_loopw [33] (fun l3 wr=>∃ (q:Nat) (R:Nat->Value),q<=n/\l3=.int .i64 (q:Int)/\ApI w wr cb s g q (.func (.func nf) #[] fc) D φ R Y) (fun l3 _=>n-(intOf l3).toNat)
 case atStart=>exact⟨0,Y,Nat.zero_le _,rfl,c.out⟩
 obtain⟨q,R,hq,rfl,G⟩:=hrel;obtain⟨wo,x4⟩:=exq (wr);clear x4;clear c;have c:=qh G;clear G;by_cases A9:q<n
 ·have z9:(q:Int)<(n:Int):=by omega
  have z8:(0:Int)<=(q:Int):=by omega
  have F:q<D.n:=by have:=HN.out;omega
  obtain⟨k1,k2,k3,k4,k5,k6,k7⟩:=HR.out q F;have y0:=x0.out q F;clear k1 k2;unfold maxLen at k4;have m:=c.out.top;have t0:wr.cell? ⟨g,q*2,none⟩=some (.string (D.fin q)):=z6a m (by
   have:=z5p (z4y D (fun i=>if i<q then R i else Y i)) (i:=q) (j:=0) (by omega) F
   rw[Nat.add_zero] at this;rw[this];rfl)
  have t1:wr.cell? ⟨g,q*2+1,none⟩=some (.slice (A q) (D.na q) (C q)):=z6a m (by
   rw[z5p (z4y D (fun i=>if i<q then R i else Y i)) (i:=q) (j:=1) (by omega) F]
   show some (if q<q then R q else Y q)=_
   rw[if_neg (Nat.lt_irrefl _),r7.out])
  clear m;obtain⟨aq,f8⟩:=exq (A q);obtain⟨nq,H⟩:=exq (D.na q);obtain⟨cq,d6⟩:=exq (C q);obtain⟨fq,i9⟩:=exq (D.fin q);rw[<- f8,<- H,<- d6] at t1;rw[<- i9] at t0;rw[<- f8,<- H] at k5;rw[<- H] at k6 k7 y0;rw[<- H,<- d6] at k3;rw[<- d6] at k4;have y1:=qh f8;clear f8;have x9:=qh d6;clear d6;have a4:=qh H;clear H;have A7:=qh i9;clear i9;have z3:=qh k5;clear k5;have x8:=qh k6;clear k6;have w9:=qh k7;clear k7;obtain⟨sb,b9⟩:=exq (wr.heap.size);obtain⟨w5,e6⟩:=exq (wr.alloc (.cells #[.string fq,.slice aq nq cq] 57));have s8:w5.heap.size=sb+1:=by rw[e6,b9];simp
  obtain⟨zq,i5⟩:=exq (madeCells (Value.agg #[.int .i64 0,.int .i64 0,.string ⟨#[]⟩,.int .i64 0]).cells (nq*4));have b5:zq.size=nq*4:=by rw[i5];exact size_madeCells _ _
  have b7:=z7c (P:=prog) 55 59 _ 4 40 underlying55 x9k .i64 .i64 nq (by omega) (by omega);rw[<- i5] at b7;clear i5;obtain⟨w6,e8⟩:=exq (w5.alloc (.cells zq 59));obtain⟨l,f7⟩:=exq (sb+1);have t9:Fr (fun _=>False) wr w5:=by rw[e6];exact Fr.alloc _ _
  have l5:Fr (fun _=>False) w5 w6:=by rw[e8];exact Fr.alloc _ _
  have E:=t9.trans l5;have a9:w5.heap[sb]?=some (.cells #[.string fq,.slice aq nq cq] 57 (0,0)):=by rw[e6,b9];exact heap_alloc_new wr _
  have c7:=(l5.block _ (lt_of_block a9) (fun e=>e)).trans a9;have l9:w6.heap[l]?=some (.cells zq 59 (0,0)):=by rw[e8,f7,<- s8];exact heap_alloc_new w5 _
  have c8:Below w.heap.size w w6:=c.out.hb.trans (E.below c.out.hb.size (fun _ e=>e.elim));obtain⟨az,d5⟩:=exq (cat (arc4 D q) nq);have I:az.length=nq*4:=by rw[d5];exact z4r (y7d D q) nq
  have S:∀ v ∈ az,v.oneCell'=true:=by
   rw[d5];refine x2w (fun i v z=>?_) nq;simp[arc4] at z
   rcases z with rfl|rfl|rfl|rfl<;>rfl
  have X:0<nq->∃ ad,aq=some ad/\∀ j v,az[j]?=some v->w6.cell? (ad.add j)=some v:=fun h0=>by
   refine⟨_,z3.out h0,?_⟩;rw[d5];refine v2q (by omega) (y7d D q) (fun i j hi hj v z=>?_);have g9:=(x8.out h0).1;obtain⟨t0,t1,t2,t3⟩:=w9.out i hi;have:j=0\/j=1\/j=2\/j=3:=by omega
   rcases this with rfl|rfl|rfl|rfl
   ·cases z;exact(c8.cell (p:=⟨BB q,O q+i*4,none⟩) g9).trans t0
   ·cases z;exact(c8.cell (p:=⟨BB q,O q+i*4+1,none⟩) g9).trans t1
   ·cases z;exact(c8.cell (p:=⟨BB q,O q+i*4+2,none⟩) g9).trans t2
   cases z;exact(c8.cell (p:=⟨BB q,O q+i*4+3,none⟩) g9).trans t3
  have a2:=y2j (P:=prog) w6 55 55 3 59 4 nq l nq aq cq zq 59 az underlying55 (by kernel_rfl) l9 I b5 X S;obtain⟨w7,d4⟩:=exq (w6.setRow l az.toArray);rw[<- d4] at a2;have m8:w.heap.size<=l:=by have:=c.out.hb.size;omega
  have d7:w7.ownsRow w.heap.size 59 4 (.slice (some ⟨l,0,none⟩) nq nq) nq (cat (mixA D φ q 0) nq):=by
   rw[x9h,<- d5,d4];exact y6e l9 m8 (by unfold maxLen;omega) az I
  have h5:Fr (fun x=>x=l) wr w7:=by
   rw[d4];exact⟨E.os,E.tape,E.output,by simp[World.setRow];exact E.size,fun x hx z2=>(setRow_other w6 l x _ z2).trans (E.block x hx (fun e=>e))⟩
  have i2:w7.heap[sb]?=some (.cells #[.string fq,.slice aq nq cq] 57 (0,0)):=by rw[d4];exact(setRow_other w6 l sb _ (by omega)).trans c7
  have s5:w5.cell? ⟨sb,1,none⟩=some (.slice aq nq cq):=by simp[World.cell?,a9]
  have s6:w6.cell? ⟨sb,1,none⟩=some (.slice aq nq cq):=by simp[World.cell?,c7]
  have d2:=qh d7;clear d7;have d1:=qh h5;clear h5;have z5:=qh i2;clear i2;have A4:g≠l:=by
   have:=(World.ownsRow.lt c.out.top g rfl).2;omega
  have uu1:wr.heap.size<=l:=by omega
  clear t9 l5 E a9 c7 l9 c8 I S X d4 d5 s8 b5;rw[e8] at s6 a2;rw[e6] at s5 s6 a2;rw[b9] at s5 s6;rw[f7,b9] at a2;have v7:=qh b9;clear b9;have s3:=qh f7;clear f7;clear e6 e8
  go_wp2_with fail
  rw[<- v7.out,<- s3.out];clear a2 s5 s6 t0 t1 b7;have p7:∀ wz,Fr (fun x=>x=l) w7 wz->P wz:=fun wz h=>x1.out wz (c.out.hb.trans ((d1.out.trans h).below c.out.hb.size (fun x e=>by rw[e];exact m8)));have y3:=qh p7;clear p7;have h6:w7.heap[cb]?=some (.cells #[.func (.func nf) #[] fc] 69 (0,0)):=(d1.out.block _ (lt_of_block c.out.kc) (by have:=lt_of_block c.out.kc;omega)).trans c.out.kc;have h8:=qh h6;clear h6;have y2:cb≠l:=by have:=lt_of_block c.out.kc;omega
  go_loopw [48] (fun j9 wz=>∃ d:Nat,d<=nq/\j9=.int .i64 (d:Int)/\wz.ownsRow w.heap.size 59 4 (.slice (some ⟨l,0,none⟩) nq nq) nq (cat (mixA D φ q d) nq)/\Fr (fun x=>x=l) w7 wz) (fun j9 _=>nq-(intOf j9).toNat)
  case atStart=>exact⟨0,Nat.zero_le _,rfl,d2.out,Fr.refl _ _⟩
  obtain⟨d,hd,rfl,U,v3⟩:=hrel;clear d2;have a7:=qh U;clear U;have g7:=qh v3;clear v3;by_cases a5:d<nq
  ·have A1:(d:Int)<(nq:Int):=by omega
   have z7:(0:Int)<=(d:Int):=by omega
   obtain⟨u,o⟩:=exq (wr.drew);obtain⟨ai,d3⟩:=exq (D.ain q d);obtain⟨ao,c9⟩:=exq (D.aout q d);have b0:Fr (fun x=>x=l) w7 u:=by rw[o];exact g7.out.drew
   have L:u.ownsRow w.heap.size 59 4 (.slice (some ⟨l,0,none⟩) nq nq) nq (cat (mixA D φ q d) nq):=by rw[o];exact a7.out
   have h4:u.heap[cb]?=some (.cells #[.func (.func nf) #[] fc] 69 (0,0)):=(b0.block _ (lt_of_block h8.out) y2).trans h8.out;have a0:u.cell? ⟨l,d*4,none⟩=some (.int .i64 ai):=z6a L (by
    have:=z5p (y0c D φ q d) (i:=d) (j:=0) (by omega) a5;rw[Nat.add_zero] at this;rw[this,d3];unfold mixA;rw[if_neg (Nat.lt_irrefl _)];rfl)
   have a1:u.cell? ⟨l,d*4+1,none⟩=some (.int .i64 ao):=z6a L (by
    rw[z5p (y0c D φ q d) (i:=d) (j:=1) (by omega) a5,c9];unfold mixA;rw[if_neg (Nat.lt_irrefl _)];rfl)
   have k:u.cell? ⟨cb,0,none⟩=some (.func (.func nf) #[] fc)/\u.cell? ⟨l,d*4,none⟩=some (.int .i64 ai)/\u.cell? ⟨l,d*4+1,none⟩=some (.int .i64 ao):=⟨by simp[World.cell?,h4],a0,a1⟩;have d9:=x2.out u (y3.out u b0) ai ao (by rw[d3];exact(HV.out.arc q d F (by rw[<- a4.out];exact a5)).i0) (by rw[d3];exact(HV.out.arc q d F (by rw[<- a4.out];exact a5)).i1) (by rw[c9];exact(HV.out.arc q d F (by rw[<- a4.out];exact a5)).o0) (by rw[c9];exact(HV.out.arc q d F (by rw[<- a4.out];exact a5)).o1);have e1:=qh d9;clear d9 a0 a1 h4;have p8:=qh b0;clear b0 g7;have a6:=qh L;clear L a7
   go_wp2_with fail
   refine y9w (fun wk=>wk.cell? ⟨cb,0,none⟩=some (.func (.func nf) #[] fc)/\wk.cell? ⟨l,d*4,none⟩=some (.int .i64 ai)/\wk.cell? ⟨l,d*4+1,none⟩=some (.int .i64 ao)) [0,1,2,3,17,18,19,20,21,22,23,24,25] (by kernel_rfl) ?_;rw[<- o];have A6:=qh o;clear o;have r9:=qh d3;clear d3;have v6:=qh c9;clear c9;refine AnyL.tq 0 ?_;refine AnyL.tq 1 ?_;refine AnyL.tq 2 ?_;refine AnyL.tq 3 ?_
   try simp only[Act.put,tryL]
   refine AnyL.tm 4 k ?_;refine AnyL.tm 5 k ?_;refine AnyL.tm 6 k ?_;refine AnyL.tm 7 k ?_;refine AnyL.tm 8 k ?_;refine AnyL.tm 9 k ?_;refine AnyL.tm 10 k ?_;refine AnyL.tm 11 k ?_;refine AnyL.tm 12 k ?_;refine AnyL.tm 13 k ?_;refine AnyL.tm 14 k ?_;refine AnyL.tm 15 k ?_
   try simp only[Act.put,tryL]
   refine AnyL.on 16 fun K B=>?_;go_simp;refine e1.out.mono ?_;rintro r we ⟨rfl,b3⟩;have uu5:Fr (fun x=>x=l) w7 we:=p8.out.trans (Fr.of_below b3);have j4:we.ownsRow w.heap.size 59 4 (.slice (some ⟨l,0,none⟩) nq nq) nq (cat (mixA D φ q d) nq):=z2q a6.out (z0b b3 none) (fun _ _=>by simp);have N:we.cell? ⟨cb,0,none⟩=some (.func (.func nf) #[] fc)/\we.cell? ⟨l,d*4,none⟩=some (.int .i64 ai)/\we.cell? ⟨l,d*4+1,none⟩=some (.int .i64 ao):=⟨(z0b b3 none).cell k.1 (by simp),(z0b b3 none).cell k.2.1 (by simp),(z0b b3 none).cell k.2.2 (by simp)⟩;refine B.out _ _ (.inr N) ?_;clear B K k b3 e1 p8 a6;have f0:=z5y j4 (d*4);have c0:=N.2.1;have c1:=N.2.2;clear N;have r8:=qh uu5;clear uu5;have uu7:=qh j4;clear j4;obtain⟨b1,k9⟩:∃ b1,b1=(φ ai ao).1:=⟨_,rfl⟩;obtain⟨b2,l4⟩:∃ b2,b2=(φ ai ao).2:=⟨_,rfl⟩;rw[<- k9,<- l4];have p0:=qh k9;clear k9;have o2:=qh l4;clear l4;refine AnyL.loose' (by kernel_rfl) ?_
   try simp only[Act.put,tryL]
   refine AnyL.tm 17 trivial ?_;refine AnyL.tm 18 trivial ?_;refine AnyL.tm 19 trivial ?_;refine AnyL.tm 20 trivial ?_;refine AnyL.tm 21 trivial ?_
   try simp only[Act.put,tryL]
   refine AnyL.on 22 fun K B=>?_;go_simp;refine B.out _ _ (.inr trivial) ?_;clear B K
   try simp only[Act.put,tryL]
   refine AnyL.on 23 fun K B=>?_;go_simp;refine B.out _ _ (.inr trivial) ?_;clear B K
   try simp only[Act.put,tryL]
   refine AnyL.on 24 fun K B=>?_;go_simp;refine B.out _ _ (.inr trivial) ?_;clear B K
   try simp only[Act.put,tryL]
   have d8:=y4s uu7.out (d*4) (.int .i64 b1);have z4:(we.setCell ⟨l,d*4,none⟩ (.int .i64 b1)).cell? ⟨l,d*4+1,none⟩=some (.int .i64 ao):=by rw[World.cell?_setCell_other _ _ _ _ (by simp)];exact c1
   have z1:=z5y d8 (d*4+1);have h9:=qh d8;clear d8;clear c0 f0 c1;refine AnyL.on 25 fun K B=>?_;go_simp;refine B.out _ _ (.inr trivial) (AnyL.dn ?_);clear B K z4 z1;obtain⟨wf,g0⟩:∃ wf,wf=(we.setCell ⟨l,d*4,none⟩ (.int .i64 b1)).setCell ⟨l,d*4+1,none⟩ (.int .i64 b2):=⟨_,rfl⟩;have s4:wf.ownsRow w.heap.size 59 4 (.slice (some ⟨l,0,none⟩) nq nq) nq (cat (mixA D φ q (d+1)) nq):=by
    rw[g0];have h1:=y4s h9.out (d*4+1) (.int .i64 b2);rw[p0.out,o2.out,r9.out,v6.out] at h1;rw[p0.out,o2.out,r9.out,v6.out];have h2:=v4u (D:=D) (φ:=φ) (q:=q) a5;rw[Nat.add_zero] at h2;rw[h2] at h1;exact h1
   have v8:Fr (fun x=>x=l) w7 wf:=by rw[g0];exact(r8.out.set (p:=⟨l,d*4,none⟩) (.inl rfl) _).set (p:=⟨l,d*4+1,none⟩) (.inl rfl) _
   rw[<- g0];have y5:=qh s4;clear s4;have x6:=qh v8;clear v8 g0 h9 uu7 r8;go_wp2;go_roundw
   case rel=>exact⟨d+1,by omega,by go_num,y5.out,x6.out⟩
   simp[intOf];omega
  obtain rfl:d=nq:=by omega
  have r6:¬ ((d:Int)<(d:Int)):=by omega
  have v0:=d1.out.trans g7.out;have a8:=c.out.mid v0 uu1 m8;have n3:=a7.out;rw[v7c,a4.out] at n3;have a3:=a8.next F (fun i hi e=>by
   have:=(World.ownsRow.lt (c.out.row i hi) l e).2;omega) n3
  rw[<- a4.out] at a3;have r3:=(cells4 a8.kr).1.2.2.2;have m:=a8.top;have t1:wr.cell? ⟨g,q*2+1,none⟩=some (.slice aq d cq):=by
   refine z6a m ?_;rw[z5p (z4y D (fun i=>if i<q then R i else Y i)) (i:=q) (j:=1) (by omega) F]
   show some (if q<q then R q else Y q)=_
   rw[if_neg (Nat.lt_irrefl _),r7.out];show some (Value.slice (A q) (D.na q) (C q))=_;rw[a4.out,<- y1.out,<- x9.out]
  have f1:=z5y m (q*2+1);rw[<- HN.out] at r3;have m4:=qh a3;clear a3 v0 a8 n3 m;clear a7 g7
  go_wp2_with fail
  clear r3 t1 f1;go_roundw
  case rel=>exact⟨q+1,_,by omega,by go_num,m4.out⟩
  simp[intOf];omega
 obtain rfl:q=n:=by omega
 have r6:¬ ((q:Int)<(q:Int)):=by omega
 have W:=c.out;rw[HN.out] at W;have e0:=W.own;rw[<- HN.out] at e0;obtain⟨⟨r0,r1,r2,r3⟩,Z⟩:=cells4 W.kr;have f0:=Z 0;have f1:=Z 1;have f2:=Z 2;have f3:=Z 3;have J:=W.kr;clear Z W;rw[<- HN.out] at r3 J;have r5:=qh (e0.box4 J (.int .i64 D.kind) (.int .i64 D.start) (.string D.lead) (.slice (some ⟨g,0,none⟩) q q));clear e0;have o3:=qh J;clear J;have y6:=qh c.out.hb
 go_wp2_with fail
 refine bodyPost_ret (z0k rfl _ (b:=s) rfl rfl (z0w wr s _ _ _ _ o3.out)) rfl ⟨z0d y6.out g3 _ _ _ _,.inl ⟨HV.out,_,R,rfl,r5.out⟩⟩
end
end Go.Proofs.YteappjogmnogcaaGreatDoor
