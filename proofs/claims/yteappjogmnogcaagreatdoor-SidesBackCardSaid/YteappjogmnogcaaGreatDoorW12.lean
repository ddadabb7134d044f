/- Parts of a proof: BlB BlC BlD BlF RegL SdA SdB. -/
import Derived.Test.YteappjogmnogcaaGreatDoorW11
import Derived.Test.YteappjogmnogcaaGreatDoorW10
import Derived.Test.YteappjogmnogcaaGreatDoorW07
namespace Go.Proofs.YteappjogmnogcaaGreatDoor
set_option maxRecDepth 100000
set_option linter.unusedSimpArgs false
set_option linter.unusedVariables false
set_option linter.unusedSectionVars false
set_option maxHeartbeats 16000000
open Go Tryz
section
open Go.RowKit Go.Deep
def BlS (F:Nat->Prop) (B db:Nat) (D:MD) (one:ByteArray) (ac fl:Int) (w:World):Prop:=∃ R sv,Bld w B db D R sv one ac fl/\∀ b,F b->b≠db/\Fre w sv R D.n b
def BlN (F:Nat->Prop) (B db:Nat) (D:MD) (one:ByteArray) (ac fl:Int) (w w':World):Prop:=BlS F B db D one ac fl w'/\(∀ b,F b->w'.heap[b]?=w.heap[b]?)/\Below B w w'
theorem BlS.sub {F c:Nat->Prop} {B db:Nat} {D:MD} {one:ByteArray} {ac fl:Int} {w:World} (h:BlS F B db D one ac fl w) (g:∀ b,c b->F b):BlS c B db D one ac fl w:=by
 obtain⟨R,sv,d,i⟩:=h;exact⟨R,sv,d,fun b hb=>i b (g b hb)⟩
theorem BlN.trans {F:Nat->Prop} {B db:Nat} {D i:MD} {one:ByteArray} {ac fl d c:Int} {w k j:World} (h:BlN F B db D one ac fl w k) (g:BlN F B db i one d c k j):BlN F B db i one d c w j :=
 ⟨g.1,fun b hb=>(g.2.1 b hb).trans (h.2.1 b hb),h.2.2.trans g.2.2⟩
theorem BlS.lt {F:Nat->Prop} {B db:Nat} {D:MD} {one:ByteArray} {ac fl:Int} {w:World} (h:BlS F B db D one ac fl w):db<w.heap.size/\B<=db/\∀ b,F b->b<w.heap.size:=by
 obtain⟨R,sv,c,d⟩:=h;exact⟨c.lt,c.low,fun b hb=>(d b hb).2.1⟩
theorem BlS.kept {F:Nat->Prop} {B db:Nat} {D:MD} {one:ByteArray} {ac fl:Int} {w i:World} (h:BlS F B db D one ac fl w) (hb:Below w.heap.size w i):BlS F B db D one ac fl i:=by
 obtain⟨R,sv,c,g⟩:=h;exact⟨R,sv,⟨(hb.block _ c.lt).trans c.blk,c.own.kept (z0b hb none) (by simp),c.low⟩,fun b d=>⟨(g b d).1,Nat.lt_of_lt_of_le (g b d).2.1 hb.size,(g b d).2.2⟩⟩
theorem BlS.grown {F:Nat->Prop} {B db:Nat} {D:MD} {one:ByteArray} {ac fl:Int} {w g:World} (h:BlS F B db D one ac fl w) (hb:Below w.heap.size w g):BlS (fun b=>F b\/(w.heap.size<=b/\b<g.heap.size)) B db D one ac fl g:=by
 obtain⟨R,sv,c,j⟩:=h;refine⟨R,sv,⟨(hb.block _ c.lt).trans c.blk,c.own.kept (z0b hb none) (by simp),c.low⟩,fun b d=>?_⟩
 rcases d with d|⟨l,k⟩
 ·exact⟨(j b d).1,Nat.lt_of_lt_of_le (j b d).2.1 hb.size,(j b d).2.2⟩
 refine⟨by have:=c.lt;omega,k,fun e=>?_,fun i hi e=>?_⟩
 ·have:=(World.ownsRow.lt c.own.top b e).2;omega
 have:=(World.ownsRow.lt (c.own.row i hi) b e).2;omega
theorem x2x {F:Nat->Prop} {B db:Nat} {D:MD} {one:ByteArray} {ac fl:Int} (f:ByteArray) (w:World) (h:BlS F B db D one ac fl w) (o:B<=w.heap.size) (hn:D.n<=100000) :
  Calls prog 91 #[.pointer (some ⟨db,0,none⟩),.string f] w (fun r w'=>r=.returned (.int .i64 (D.n:Int))/\BlN F B db (D.state f) one ac fl w w'):=by
 obtain⟨R,sv,j,c⟩:=h;refine(x6w f w j o hn).mono fun r w' i=>⟨i.1,?_⟩;obtain⟨⟨k,d,m,g⟩,l⟩:=i.2;exact⟨⟨k,d,m,fun b hb=>⟨(c b hb).1,(g b (c b hb).1 (c b hb).2).1⟩⟩,fun b hb=>(g b (c b hb).1 (c b hb).2).2,l⟩
theorem u2n {F:Nat->Prop} {B db q:Nat} {D:MD} {one:ByteArray} {ac fl:Int} (a b t:Int) (x:ByteArray) (w:World) (h:BlS F B db D one ac fl w) (c:0<=ac) (g:ac<=100000) (z:B<=w.heap.size) (s:q<D.n) (hn:D.n<=100000) (j:D.na q<=100000) :
  Calls prog 92 #[.pointer (some ⟨db,0,none⟩),.int .i64 (q:Int),.agg #[.int .i64 a,.int .i64 b,.string x,.int .i64 t]] w (fun r w'=>r=.returned (.tuple #[])/\BlN F B db (D.arc q a b x t) one (ac+1) fl w w'):=by
 obtain⟨R,sv,u,d⟩:=h;refine(v4k a b t x w u c g z s hn j).mono fun r w' k=>⟨k.1,?_⟩;obtain⟨⟨m,i,p,l⟩,o⟩:=k.2;exact⟨⟨m,i,p,fun b hb=>⟨(d b hb).1,(l b (d b hb).1 (d b hb).2).1⟩⟩,fun b hb=>(l b (d b hb).1 (d b hb).2).2,o⟩
theorem v5j {F:Nat->Prop} {B db q:Nat} {D:MD} {one:ByteArray} {ac fl:Int} (t:Int) (x:ByteArray) (w:World) (h:BlS F B db D one ac fl w) (c:0<=ac) (d:ac<=100000) (j:B<=w.heap.size) (m:q<D.n) (hn:D.n<=100000) (g:D.na q<=100000) :
  Calls prog 141 #[.pointer (some ⟨db,0,none⟩),.int .i64 (q:Int),.string x,.int .i64 t] w (fun r w'=>r=.returned (.tuple #[])/\BlN F B db (D.arc q 0 0 x t) one (ac+1) fl w w'):=by
 have l:=qh (u2n 0 0 t x w h c d j m hn g);clear h
 go_enter func141,ntmps141
 go_wp2_with fail
 refine l.out.mono ?_;rintro r o ⟨rfl,i⟩;have k:=qh i;clear i
 go_wp2_with fail
 go_end0
 exact⟨rfl,k.out⟩
theorem y5y (k:Int) (w:World):Calls prog 90 #[.int .i64 k] w (fun r w'=>∃ db,r=.returned (.pointer (some ⟨db,0,none⟩))/\BlS (fun _=>False) w.heap.size db (z1r k 0 (oneF k)) (oneF k) 0 0 w'/\Below w.heap.size w w'/\w.heap.size<=db):=by
 go_enter func90,ntmps90
 go_wp2_with fail
 refine(z6s k w).mono ?_;rintro r l ⟨rfl,c⟩;have i:=c.alloc c.size (.cells (bcs (z1r k 0 (oneF k)) (.slice none 0 0) (oneF k) 0 0) 113);have d:=c.size;have g:BlS (fun _=>False) w.heap.size l.heap.size (z1r k 0 (oneF k)) (oneF k) 0 0 (l.alloc (.cells (bcs (z1r k 0 (oneF k)) (.slice none 0 0) (oneF k) 0 0) 113)) :=
  ⟨fun _=>.slice none 0 0,.slice none 0 0,⟨heap_alloc_new l _,OwM.empty _ _ _ _ _ _,d⟩,fun _ h=>h.elim⟩
 have m:=qh i;clear i c;have j:=qh g;clear g;go_wp2;go_ret;exact⟨_,rfl,j.out,m.out,d⟩
end
section
open Go.RowKit Go.Deep
def tmF (z:ByteArray × Nat) (fl:Int):Int:=if z.2≠0 then (z.2:Int) else fl
def TmE (F:Nat->Prop) (B db:Nat) (D:MD) (one:ByteArray) (ac fl:Int) (z:ByteArray × Nat) (w:World) (r:Ending) (w':World):Prop:=r=.returned (.string z.1)/\BlN F B db D one ac (tmF z fl) w w'
theorem v9i {F:Nat->Prop} {B db:Nat} {D:MD} {one:ByteArray} {ac fl:Int} (v u:ByteArray) (w:World) (h:BlS F B db D one ac fl w) (W:smS v) (T:smS u) (S:Tab w) :
  Calls prog 109 #[.pointer (some ⟨db,0,none⟩),.string v,.string u] w (TmE F B db D one ac fl (z0n D.kind v u) w):=by
 obtain⟨R,sv,N,U⟩:=h;have c0:=BlkB.c0 N.blk;have HC:=qh (z6w D.kind v u w W T S);clear S W T;have A:=qh N;clear N;have L:=qh U;clear U
 go_enter func109,ntmps109
 go_wp2_with fail
 refine HC.out.mono ?_;rintro r H ⟨rfl,g⟩;obtain⟨z,I⟩:=exq (z0n D.kind v u);rw[<- I];have E:=qh I;clear I;have Q:BlS F B db D one ac fl H:=BlS.kept ⟨R,sv,A.out,L.out⟩ g;have c:=(g.block _ A.out.lt).trans A.out.blk;have c6:=BlkB.c6 c;have f6:=BlkB.fz c 6;have s:Below B w H\/True:=.inr trivial;have P:=qh Q;clear Q;have j:=qh g;clear g;have Y:=qh c;clear c c0;clear s;have Z:∀ w',Below w.heap.size w w'->B<=w.heap.size:=fun _ _=>by have:=A.out.lt;have:=A.out.low;omega
 have C:=Z H j.out;clear Z;by_cases l:z.2=0
 ·have o:((z.2:Nat):Int)=0:=by omega
  have O:=qh l;clear l;go_wp2;go_ret;refine⟨by rw[E.out];rfl,?_⟩;have hE:=O.out;rw[show tmF (z0n D.kind v u) fl=fl from by rw[<- E.out];exact if_neg (by omega)];exact⟨P.out,fun b hb=>j.out.block b (L.out b hb).2.1,j.out.mono C⟩
 have o:¬ ((z.2:Nat):Int)=0:=by omega
 obtain⟨J,d⟩:∃ J:Nat,J=z.2:=⟨_,rfl⟩;rw[<- d] at o l ⊢;have O:=qh l;clear l;have m:=qh d;clear d;go_wp2;go_ret;obtain⟨R1,K,k,G⟩:=P.out;have X:=j.out;refine⟨by rw[E.out];rfl,?_⟩;rw[show tmF (z0n D.kind v u) fl=(J:Int) from by rw[<- E.out,m.out];exact if_pos (by rw[<- m.out];exact O.out)];refine⟨⟨R1,K,⟨?_,?_,k.low⟩,fun b hb=>⟨(G b hb).1,by rw[nblk_setCell];exact(G b hb).2.1,(G b hb).2.2⟩⟩,fun b hb=>?_,(X.mono C).setCell (p:=⟨db,6,none⟩) k.low _⟩
 ·exact BlkB.set6 k.blk _
 ·exact k.own.other (p:=⟨db,6,none⟩) (z2n k.own.top k.blk (by decide)) (fun i hi=>z2n (k.own.row i hi) k.blk (by decide)) _
 rw[z0g (show b≠db from (G b hb).1)];exact X.block b (L.out b hb).2.1
def dnOk (fl:Int) (n:Nat) (ac:Int):Prop:=fl=0/\n<=3000/\ac<=30000
def DnE (B:Nat) (D:MD) (ok:Prop) (w:World) (r:Ending) (w':World):Prop :=
 Below w.heap.size w w'/\((ok/\∃ sv R,r=.returned (.tuple #[.agg #[.int .i64 D.kind,.int .i64 D.start,.string D.lead,sv],.int .i64 0])/\OwM w' B sv D R)\/(¬ ok/\r=.returned (.tuple #[z9g,.int .i64 2])))
theorem v8f {F:Nat->Prop} {B db:Nat} {D:MD} {one:ByteArray} {ac fl:Int} (w:World) (h:BlS F B db D one ac fl w) (hn:D.n<=100000) (O:ac<=1000000) (L:0<=ac) :
  Calls prog 94 #[.pointer (some ⟨db,0,none⟩)] w (DnE B D (dnOk fl D.n ac) w):=by
 obtain⟨R,sv,o,W⟩:=h;obtain⟨sa,sc,I,_,_⟩:=z1e o.own.top;subst I;obtain⟨p,g⟩:=exq (w.alloc (.cells #[.int .i64 0,.int .i64 0,.string ⟨#[]⟩,.slice none 0 0] 24));obtain⟨C,E⟩:=exq (w.heap.size);have k:Fr (fun _=>False) w p:=by rw[g];exact Fr.alloc _ _
 have m:p.heap[C]?=some (.cells #[.int .i64 0,.int .i64 0,.string ⟨#[]⟩,.slice none 0 0] 24 (0,0)):=by rw[g,E];exact heap_alloc_new w _
 have c:=(k.block _ o.lt (fun e=>e)).trans o.blk;have j:Below w.heap.size w p:=k.below nlr (fun _ e=>e.elim);have H:OwM p B (.slice sa D.n sc) D R:=o.own.kept (z0b j none) (by simp);have S:w.heap.size<=C:=by omega
 have a3:db≠C:=by have:=o.lt;omega
 have N:=BlkB.c0 c;have T:=BlkB.c1 c;have d2:=BlkB.c2 c;have d3:=BlkB.c3 c;have d5:=BlkB.c5 c;have d6:=BlkB.c6 c;rw[g] at N T d2 d3 d5 d6;obtain⟨⟨U,r1,P,X⟩,s⟩:=cells4 m;have f0:=s 0;have Z:=s 1;have f2:=s 2;have f3:=s 3;clear s;rw[g,E] at U r1 P X f0 Z f2 f3;have Q:((D.n:Nat):Int)<=100000:=by omega
 have a1:=qh m;clear m;have a4:=qh j;clear j;have a2:=qh H;clear H;have J:=qh o;clear o W;have Y:=qh c;clear c k;by_cases u:fl=0
 ·subst u;by_cases l:D.n<=3000
  ·have A:decide ((3000:Int)<(D.n:Int))=false:=by simp;omega
   by_cases i:ac<=30000
   ·have G:decide ((30000:Int)<ac)=false:=by simp;omega
    have K:=qh (show dnOk 0 D.n ac from ⟨rfl,l,i⟩)
    go_enter func94,ntmps94
    go_wp2_with fail
    exact bodyPost_ret (z0j rfl _ (b:=w.heap.size) rfl rfl (heap_alloc_new w _)) rfl ⟨(Below.refl _ w).alloc nlr _,.inl ⟨K.out,_,R,rfl,J.out.own.kept (z:=none) (World.grownBy_alloc _ _ _) (by simp)⟩⟩
   have G:(30000:Int)<ac:=by omega
   have d:=qh (show ¬ dnOk 0 D.n ac from fun h=>i h.2.2);clear i
   go_enter func94,ntmps94
   go_wp2_with fail
   exact bodyPost_ret (z0j rfl _ (b:=w.heap.size) rfl rfl (heap_alloc_new w _)) rfl ⟨(Below.refl _ w).alloc nlr _,.inr ⟨d.out,rfl⟩⟩
  have A:(3000:Int)<(D.n:Int):=by omega
  have d:=qh (show ¬ dnOk 0 D.n ac from fun h=>l h.2.1);clear l
  go_enter func94,ntmps94
  go_wp2_with fail
  exact bodyPost_ret (z0j rfl _ (b:=w.heap.size) rfl rfl (heap_alloc_new w _)) rfl ⟨(Below.refl _ w).alloc nlr _,.inr ⟨d.out,rfl⟩⟩
 have d:=qh (show ¬ dnOk fl D.n ac from fun h=>u h.1)
 go_enter func94,ntmps94
 go_wp2_with fail
 exact bodyPost_ret (z0j rfl _ (b:=w.heap.size) rfl rfl (heap_alloc_new w _)) rfl ⟨(Below.refl _ w).alloc nlr _,.inr ⟨d.out,rfl⟩⟩
def lvN (o:Option Nat):Int:=if o.isSome then 1 else 0
def LvF (nf:FuncId) (cap:Array Value) (o:Option Nat) (B db:Nat) (P:World->Prop):Prop :=
 (∀ args w,(callFunc nf args).run prog w=.ok (.enter nf args) w)/\∀ (F:Nat->Prop) (w:World) (D:MD) (one:ByteArray) (ac fl:Int) (s:Nat) (f:ByteArray),P w->BlS F B db D one ac fl w->B<=w.heap.size->s<D.n->D.n<=100000->D.na s<=100000->0<=ac->ac<=100000 ->
  Calls prog nf (#[.int .i64 (s:Int),.string f]++cap) w (fun r w'=>r=.returned (.tuple #[])/\BlN F B db (lvD o s f D) one (ac+lvN o) fl w w')
theorem x8p:∀ args w,(callFunc 111 args).run prog w=.ok (.enter 111 args) w:=fun args w=>by kernel_rfl
theorem v1n:∀ args w,(callFunc 140 args).run prog w=.ok (.enter 140 args) w:=fun args w=>by kernel_rfl
theorem u2x (B db:Nat):LvF 111 #[] none B db (fun _=>True):=by
 refine⟨x8p,fun F w D one c d s f _ h o m j i l k=>?_⟩;rw[show ∀ a b:Value,(#[a,b]++#[]:Array Value)=#[a,b] from fun _ _=>rfl];have g:=qh h;clear h
 go_enter func111,ntmps111
 go_wp2_with fail
 go_end0
 refine⟨rfl,?_⟩;show BlN F B db D one (c+0) d w w;rw[Int.add_zero];exact⟨g.out,fun _ _=>rfl,blr⟩
def PLk (db cx tx t:Nat) (w:World):Prop:=w.heap[cx]?=some (.cells #[.pointer (some ⟨db,0,none⟩)] 110 (0,0))/\w.heap[tx]?=some (.cells #[.int .i64 (t:Int)] 3 (0,0))
theorem u3v (B db E G t:Nat):LvF 140 #[.pointer (some ⟨E,0,none⟩),.pointer (some ⟨G,0,none⟩)] (some t) B db (PLk db E G t):=by
 refine⟨v1n,fun F w D one T W s f hP h hB S Z Q h0 h1=>?_⟩;rw[show ∀ a b c d:Value,(#[a,b]++#[c,d]:Array Value)=#[a,b,c,d] from fun _ _ _ _=>rfl];obtain⟨R,sv,i,H⟩:=h;obtain⟨g,cp,rfl,K,Y,_,_⟩:=z7w i.own.top (by omega);obtain⟨k,m⟩:=hP;have a2:(s:Int)<(D.n:Int):=by omega
 have X:(0:Int)<=(s:Int):=by omega
 have k1:w.cell? ⟨E,0,none⟩=some (.pointer (some ⟨db,0,none⟩)):=by simp[World.cell?,k]
 have d3:=BlkB.c3 i.blk;have g0:=i.own.fin_cell S;have fg:=z5v i.own.top (s*2);obtain⟨l,j⟩:=exq (w.setCell ⟨g,s*2,none⟩ (.string ⟨#[]⟩));have N:db≠g:=fun e=>z2n i.own.top i.blk (by decide) (by rw[e];rfl);have O:E≠g:=fun e=>z2n i.own.top k (by decide) (by rw[e];rfl);have J:G≠g:=fun e=>z2n i.own.top m (by decide) (by rw[e];rfl);have o:BlS F B db (D.setFin s ⟨#[]⟩) one T W l:=by
  rw[j];refine⟨R,_,⟨by rw[z0g N];exact i.blk,i.own.setFin S ⟨#[]⟩,i.low⟩,fun b hb=>⟨(H b hb).1,by rw[nblk_setCell];exact(H b hb).2.1,(H b hb).2.2⟩⟩
 have z:l.cell? ⟨E,0,none⟩=some (.pointer (some ⟨db,0,none⟩)):=by rw[j];simp[World.cell?,z0g (p:=⟨g,s*2,none⟩) O,k]
 have u:l.cell? ⟨G,0,none⟩=some (.int .i64 (t:Int)):=by rw[j];simp[World.cell?,z0g (p:=⟨g,s*2,none⟩) J,m]
 have I:B<=l.heap.size:=by rw[j,nblk_setCell];exact hB
 have C:=qh (v5j (t:Int) f l o h0 h1 I S Z Q);have A:BlN F B db (D.setFin s ⟨#[]⟩) one T W w l:=⟨o,fun b hb=>by
  rw[j,z0g (show b≠g from fun e=>(H b hb).2.2.1 (by rw[e];rfl))],by rw[j];exact(Below.refl B w).setCell (p:=⟨g,s*2,none⟩) K _⟩
 have L:=qh A;clear A o;have a1:=qh i;clear i k m;rw[j] at z u
 go_enter func140,ntmps140
 go_wp2_with fail
 rw[<- j];clear k1 d3 g0 fg z u j;refine C.out.mono ?_;rintro r w2 ⟨rfl,U⟩;have P:=qh (L.out.trans U);clear U C
 go_wp2_with fail
 go_end0
 exact⟨rfl,P.out⟩
theorem v3f (db t:Nat) (w:World):Calls prog 112 #[.pointer (some ⟨db,0,none⟩),.int .i64 (t:Int)] w (fun r w'=>∃ cx tx,r=.returned (.func (.func 140) #[] #[.pointer (some ⟨cx,0,none⟩),.pointer (some ⟨tx,0,none⟩)])/\PLk db cx tx t w'/\w.heap.size<=cx/\w.heap.size<=tx/\Below w.heap.size w w'):=by
 have s:∀ (fn:Fn) (first cap:Array Value) (w:World),(Instr.makeFunc fn first cap).run prog w=.ok (.func fn first cap) w:=fun _ _ _ _=>rfl
 obtain⟨d,c⟩:=exq (w.alloc (.cells #[.pointer (some ⟨db,0,none⟩)] 110));obtain⟨i,h⟩:=exq (d.alloc (.cells #[.int .i64 (t:Int)] 3));have l:d.heap.size=w.heap.size+1:=by rw[c];simp
 have k:Fr (fun _=>False) w d:=by rw[c];exact Fr.alloc _ _
 have g:Fr (fun _=>False) d i:=by rw[h];exact Fr.alloc _ _
 have o:d.heap[w.heap.size]?=some (.cells #[.pointer (some ⟨db,0,none⟩)] 110 (0,0)):=by rw[c];exact heap_alloc_new w _
 have p:i.heap[w.heap.size+1]?=some (.cells #[.int .i64 (t:Int)] 3 (0,0)):=by rw[<- l,h];exact heap_alloc_new d _
 have j:PLk db w.heap.size (w.heap.size+1) t i:=⟨(g.block _ (by omega) (fun e=>e)).trans o,p⟩;have hb:Below w.heap.size w i:=(k.trans g).below nlr (fun _ e=>e.elim);have m:=qh j;clear j o p k g l;have u:=qh hb;clear hb
 go_enter func112,ntmps112
 go_wp2_with fail
 rw[<- c,<- h];go_ret;exact⟨_,_,rfl,m.out,nlr,Nat.le_succ _,u.out⟩
end
section
open Go.RowKit Go.Deep
theorem BlN.alloc {F:Nat->Prop} {B db:Nat} {D:MD} {one:ByteArray} {ac fl:Int} {w c:World} (h:BlN F B db D one ac fl w c) (g:B<=w.heap.size) (o:Obj):BlN F B db D one ac fl w (c.alloc o):=by
 have hb:=(Below.refl c.heap.size c).alloc nlr o;exact⟨h.1.kept hb,fun b d=>(hb.block b (h.1.lt.2.2 b d)).trans (h.2.1 b d),h.2.2.trans (hb.mono (Nat.le_trans g h.2.2.size))⟩
theorem BlS.join {F:Nat->Prop} {B db:Nat} {D:MD} {one:ByteArray} {ac fl:Int} {w:World} (h:BlS F B db D one ac fl w) (o:Obj):BlS (fun b=>F b\/b=w.heap.size) B db D one ac fl (w.alloc o) :=
 (h.grown ((Below.refl w.heap.size w).alloc nlr o)).sub (fun b hb=>hb.imp id (fun e=>by subst e;simp))
theorem BlN.refl {F:Nat->Prop} {B db:Nat} {D:MD} {one:ByteArray} {ac fl:Int} {w:World} (h:BlS F B db D one ac fl w):BlN F B db D one ac fl w w:=⟨h,fun _ _=>rfl,blr⟩
theorem u3x (D:MD) (low i:Nat) (M:MD):∀ d,(cpA D low i d M).n=M.n:=fun d=>(y0d D low i (Skel.refl M) d).n
def cpX (D:MD) (o:Option Nat):Nat->Nat
 | 0=>0
 | i+1=>cpX D o i+D.na i+(if D.fin i=⟨#[]⟩ then 0 else if o.isSome then 1 else 0)
theorem x0n (D:MD) (o:Option Nat):∀ i,cpX D o i<=cpC D o i
 | 0=>Nat.zero_le _
 | i+1=>by
  have h:=x0n D o i;unfold cpC at h ⊢;show cpX D o i+D.na i+(if D.fin i=⟨#[]⟩ then 0 else if o.isSome then 1 else 0)<=z0f D i+D.na i+_
  split<;>split at h<;>simp_all<;>omega
def cpyE (F:Nat->Prop) (B db:Nat) (D M:MD) (o:Option Nat) (one:ByteArray) (ac fl:Int) (w:World) (r:Ending) (w':World):Prop :=
 r=.returned (.int .i64 ((M.n:Int)+D.start))/\BlN F B db (z4f D o M) one (ac+(cpX D o D.n:Int)) fl w w'
theorem v8h {F:Nat->Prop} {db N c:Nat} {D M:MD} {sv:Value} {nf:FuncId} {cap:Array Value} {o:Option Nat} {P:World->Prop} {one:ByteArray} {ac fl:Int} (z w:World) (hV:VM D) (hS:MSz D) (hD:StS none z sv D) (f5:Below z.heap.size z w)
  (f4:BlS F z.heap.size db M one ac fl w) (hk:M.kind=D.kind) (h0:BOk M N c) (hN:M.n+D.n<=N) (h5:N<=10000) (ho:∀ t,o=some t->t<N) (hc:c+cpC D o D.n<=90000) (o9:0<=ac) (h6:ac+(cpC D o D.n:Int)<=90000)
  (k9:LvF nf cap o z.heap.size db P) (hP:P w) (f2:∀ wa wb,P wa->(∀ b,F b->wb.heap[b]?=wa.heap[b]?)->P wb) :
  Calls prog 110 #[.pointer (some ⟨db,0,none⟩),.agg #[.int .i64 D.kind,.int .i64 D.start,.string D.lead,sv],.func (.func nf) #[] cap] w (cpyE F z.heap.size db D M o one ac fl w):=by
 obtain⟨a,cp,b,c7,A,C,BB,O,rfl,ha,q7,hm,hb,e6⟩:=hD.open;unfold maxLen at hm;obtain⟨p6,j9⟩:=k9;obtain⟨n,hn⟩:=exq (D.n);obtain⟨low,b2⟩:=exq (M.n);have p8:n<=3000:=by rw[hn];exact hV.n2
 have p7:1<=n:=by rw[hn];exact hV.n1
 obtain⟨st,i6⟩:∃ st:Nat,D.start=(st:Int):=⟨D.start.toNat,by have:=hV.s0;omega⟩;have n9:st<n:=by have:=hV.s1;omega
 have o2:low<=10000:=by omega
 obtain⟨W,I⟩:=exq (w.alloc (.cells #[.int .i64 D.kind,.int .i64 (st:Int),.string D.lead,.slice a n cp] 24));obtain⟨mb,a3⟩:=exq (w.heap.size);have m9:z.heap.size<=w.heap.size:=f5.size;have g4:W.heap[mb]?=some (.cells #[.int .i64 D.kind,.int .i64 (st:Int),.string D.lead,.slice a n cp] 24 (0,0)):=by rw[I,a3];exact heap_alloc_new w _
 have hj:=f4.join (.cells #[.int .i64 D.kind,.int .i64 (st:Int),.string D.lead,.slice a n cp] 24);rw[<- I] at hj;obtain⟨F1,b8⟩:∃ F1:Nat->Prop,F1=fun b=>F b\/b=w.heap.size:=⟨_,rfl⟩;rw[<- b8] at hj;have g1:Below z.heap.size w W:=by rw[I];exact((Below.refl z.heap.size w).alloc m9 _)
 have j7:BlN F1 z.heap.size db (stsD D 0 M) one ac fl W W:=BlN.refl hj;have h8:F1 mb:=by rw[b8,a3];exact .inr rfl
 have g8:∀ b,F b->F1 b:=fun b hb=>by rw[b8];exact .inl hb
 have f7:∀ b,F b->W.heap[b]?=w.heap[b]?:=fun b hb=>by rw[I];exact blk_alloc_lt _ _ _ (f4.lt.2.2 b hb)
 have e2:P W:=f2 w W hP f7;obtain⟨_,_,U,_⟩:=f4;have d3:=BlkB.c3 U.blk;obtain⟨sa,sc,l6,_,_⟩:=z1e U.own.top;subst l6;have k0:=BlkB.c3 ((((Below.refl w.heap.size w).alloc nlr (.cells #[.int .i64 D.kind,.int .i64 (st:Int),.string D.lead,.slice a n cp] 24)).block _ U.lt).trans U.blk);have m3:=(cells4 g4).1.2.2.2;rw[I,a3] at m3;rw[<- b2] at k0;clear d3 U;have HN:=qh hn;clear hn;have s:=qh b2;have j1:=qh i6;clear i6;have HV:=qh hV;clear hV;have a7:=qh hS;clear hS;have HA:=qh ha;clear ha;have HB:=qh hb;clear hb;have HR:=qh e6;clear e6 hD;have l0:=qh j9;clear j9;have l8:=qh f2;clear f2 hP;have b0:=qh (f5.trans g1);clear f5;have i4:=qh g1;clear g1;have f8:=qh g8;clear g8 b8;have m2:=qh f7;clear f7;have i9:=qh h8;clear h8;have j5:=qh g4;clear g4 hj;have m8:=qh e2;clear e2;have l2:=qh h0;clear h0;have j2:=qh hk;clear hk;have HO:=qh ho;clear ho;have HC:=qh hc;clear hc;have j4:=qh h6;clear h6;have b5:=qh hN;clear hN;have o5:=qh h5;clear h5;have h9:=qh j7;clear j7;obtain rfl:=HA.out (by have:=HN.out;omega);rw[j1.out,<- HN.out]
 go_enter func110,ntmps110
 go_wp2_with fail
 rw[<- I,<- a3];clear k0 m3 b2;have o7:=qh I;clear I;have p9:=qh a3;clear a3;rw[<- s.out]
 go_loopw [23] (fun f1 wr=>∃ i:Nat,i<=n/\f1=.int .i64 (i:Int)/\BlN F1 z.heap.size db (stsD D i M) one ac fl W wr) (fun f1 _=>n-(intOf f1).toNat)
 case atStart=>exact⟨0,Nat.zero_le _,rfl,h9.out⟩
 obtain⟨i,hi,rfl,L⟩:=hrel;clear h9;have k:=qh L;clear L;by_cases m4:i<n
 ·have n3:(i:Int)<(n:Int):=by omega
  have g9:(0:Int)<=(i:Int):=by omega
  have a2:i<D.n:=by have:=HN.out;omega
  have a5:=(HB.out (by omega)).1;obtain⟨k1,k2,_⟩:=HR.out i a2;have l:=b0.out.trans k.out.2.2;have t0:=(l.cell (p:=⟨b,c7+i*2,none⟩) a5).trans k1;have t1:=(l.cell (p:=⟨b,c7+i*2+1,none⟩) a5).trans k2;clear k1 k2;obtain⟨E,Z⟩:=exq (D.fin i);obtain⟨ri,l7⟩:=exq (Value.slice (A i) (D.na i) (C i));rw[<- Z] at t0;obtain⟨w2,u⟩:=exq (wr.alloc (.cells #[.string E,.slice (A i) (D.na i) (C i)] 57));have b7:z.heap.size<=W.heap.size:=b0.out.size;have G:=k.out.alloc b7 (.cells #[.string E,.slice (A i) (D.na i) (C i)] 57);rw[<- u] at G;have g:=x2x E w2 G.1 (by have:=G.2.2.size;omega) (by rw[y3c];have:=s.out;omega);rw[show (stsD D i M).state E=stsD D (i+1) M from by rw[Z];rfl] at g;have h:=qh g;clear g l7;have Y:=qh G;clear G k Z l
  go_wp2_with fail
  rw[<- u];clear t0 t1 u;refine h.out.mono ?_;rintro r w3 ⟨rfl,h3⟩;have d0:=qh (Y.out.trans h3);clear h3 Y h;go_wp2;go_roundw
  case rel=>exact⟨i+1,by omega,by go_num,d0.out⟩
  simp[intOf];omega
 have i7:n=i:=by omega
 subst i7;have d2:¬ ((n:Int)<(n:Int)):=by omega
 have S:=(k.out.2.1 mb i9.out).trans j5.out;have m3:=(cells4 S).1.2.2.2;have e7:BlN F1 z.heap.size db (cpQ D low o 0 (stsD D D.n M)) one (ac+(cpX D o 0:Int)) fl W wr:=by
  have:=k.out;rw[HN.out] at this;rw[show (cpX D o 0:Int)=0 from rfl,Int.add_zero];exact this
 have e1:=y3e HV.out a7.out j2.out l2.out D.n nlr;have j8:(stsD D D.n M).kind=D.kind:=(y0r D M D.n).1.trans j2.out;have d8:=qh e1;clear e1;have c9:=qh j8;clear j8;have d7:=qh e7;clear e7 k S
 go_wp2_with fail
 clear m3
 go_loopw [35] (fun g3 wr=>∃ i:Nat,i<=n/\g3=.int .i64 (i:Int)/\BlN F1 z.heap.size db (cpQ D low o i (stsD D D.n M)) one (ac+(cpX D o i:Int)) fl W wr) (fun g3 _=>n-(intOf g3).toNat)
 case atStart=>exact⟨0,Nat.zero_le _,rfl,d7.out⟩
 obtain⟨i,o4,rfl,L⟩:=hrel;clear d7;have k:=qh L;clear L;by_cases m4:i<n
 ·have n3:(i:Int)<(n:Int):=by omega
  have g9:(0:Int)<=(i:Int):=by omega
  have a2:i<D.n:=by have:=HN.out;omega
  have a5:=(HB.out (by omega)).1;obtain⟨k1,k2,k3,k4,k5,k6,k7⟩:=HR.out i a2;have l:=b0.out.trans k.out.2.2;have t0:=(l.cell (p:=⟨b,c7+i*2,none⟩) a5).trans k1;have t1:=(l.cell (p:=⟨b,c7+i*2+1,none⟩) a5).trans k2;clear k1 k2;obtain⟨E,Z⟩:=exq (D.fin i);obtain⟨ai,f9⟩:=exq (A i);obtain⟨ni,a1⟩:=exq (D.na i);obtain⟨ci,i8⟩:=exq (C i);rw[<- Z] at t0;rw[<- f9,<- a1,<- i8] at t1;rw[<- f9,<- a1] at k5;rw[<- a1] at k6 k7;have n7:ni<=30000:=by rw[a1];have h1:=Nat.le_trans (z1t D (show i+1<=D.n by omega)) HV.out.arcs;have h2:z0f D (i+1)=z0f D i+D.na i:=rfl;omega
  have a9:=qh Z;clear Z;have H:=qh a1;clear a1;clear f9 i8 k3 k4;have l9:=qh k5;clear k5;have l5:=qh k6;clear k6;have l4:=qh k7;clear k7;obtain⟨w2,u⟩:=exq (wr.alloc (.cells #[.string E,.slice ai ni ci] 57));obtain⟨sb,a8⟩:=exq (wr.heap.size);have b7:z.heap.size<=W.heap.size:=b0.out.size;have d6:z.heap.size<=wr.heap.size:=l.size;have e8:w2.heap[sb]?=some (.cells #[.string E,.slice ai ni ci] 57 (0,0)):=by rw[u,a8];exact heap_alloc_new wr _
  have b6:=k.out.1.join (.cells #[.string E,.slice ai ni ci] 57);rw[<- u,<- a8] at b6;obtain⟨F2,b9⟩:∃ F2:Nat->Prop,F2=fun b=>F1 b\/b=sb:=⟨_,rfl⟩;rw[<- b9] at b6;have i5:F2 sb:=by rw[b9];exact .inr rfl
  have d9:∀ b,F1 b->F2 b:=fun b hb=>by rw[b9];exact .inl hb
  have G:=k.out.alloc b7 (.cells #[.string E,.slice ai ni ci] 57);rw[<- u] at G;have d4:BlN F2 z.heap.size db (cpA D low i 0 (cpQ D low o i (stsD D D.n M))) one (ac+(cpX D o i:Int)+((0:Nat):Int)) fl w2 w2:=by
   rw[show ((0:Nat):Int)=0 from rfl,Int.add_zero];exact BlN.refl b6
  have s1:w2.cell? ⟨sb,1,none⟩=some (.slice ai ni ci):=by simp[World.cell?,e8]
  rw[u,a8] at s1;have d5:=qh d4;clear d4 b6;have Y:=qh G;clear G k l;have j0:=qh e8;clear e8;have m7:=qh i5;clear i5;have d1:=qh d9;clear d9 b9
  go_wp2_with fail
  rw[<- u,<- a8];clear t0 t1 u a8 s1;have i3:cpC D o i<=cpC D o D.n:=by
   unfold cpC;have h1:=z1t D (show i<=D.n by omega)
   split<;>omega
  have j:cpC D o i+ni+(if o.isSome then 1 else 0)=cpC D o (i+1):=by
   rw[H.out];unfold cpC;show z0f D i+_+D.na i+_=z0f D i+D.na i+_
   split<;>omega
  have B:cpC D o (i+1)<=cpC D o D.n:=by
   unfold cpC;have h1:=z1t D (show i+1<=D.n by omega)
   split<;>omega
  have e0:=qh j;clear j;have e3:=qh B;clear B i3
  go_loopw [43] (fun f3 wr=>∃ d:Nat,d<=ni/\f3=.int .i64 (d:Int)/\BlN F2 z.heap.size db (cpA D low i d (cpQ D low o i (stsD D D.n M))) one (ac+(cpX D o i:Int)+(d:Int)) fl w2 wr) (fun f3 _=>ni-(intOf f3).toNat)
  case atStart=>exact⟨0,Nat.zero_le _,rfl,d5.out⟩
  obtain⟨d,hd,rfl,L⟩:=hrel;clear d5;have T:=qh L;clear L;by_cases j3:d<ni
  ·have p0:(d:Int)<(ni:Int):=by omega
   have n6:(0:Int)<=(d:Int):=by omega
   have c8:=(l5.out (by omega)).1;obtain⟨t0,t1,t2,t3⟩:=l4.out d j3;obtain rfl:=l9.out (by omega);have l:=(b0.out.trans Y.out.2.2).trans T.out.2.2;have c0:=(l.cell (p:=⟨BB i,O i+d*4,none⟩) c8).trans t0;have c1:=(l.cell (p:=⟨BB i,O i+d*4+1,none⟩) c8).trans t1;have c2:=(l.cell (p:=⟨BB i,O i+d*4+2,none⟩) c8).trans t2;have c3:=(l.cell (p:=⟨BB i,O i+d*4+3,none⟩) c8).trans t3;clear t0 t1 t2 t3;have g0:=HV.out.arc i d a2 (by rw[<- H.out];exact j3);obtain⟨tn,e9⟩:∃ tn:Nat,D.ato i d=(tn:Int):=⟨(D.ato i d).toNat,by have:=g0.t0;omega⟩;have o3:tn<n:=by have:=g0.t1;have:=HN.out;omega
   rw[e9] at c3;have l1:=qh e9;clear e9 g0;clear l;have d6:z.heap.size<=w2.heap.size:=Nat.le_trans b7 Y.out.2.2.size;obtain⟨w3,f0⟩:=exq (wr.alloc (.cells #[.int .i64 (D.ain i d),.int .i64 (D.aout i d),.string (D.aw i d),.int .i64 ((tn:Int)+(low:Int))] 59));have a6:=T.out.alloc d6 (.cells #[.int .i64 (D.ain i d),.int .i64 (D.aout i d),.string (D.aw i d),.int .i64 ((tn:Int)+(low:Int))] 59);rw[<- f0] at a6;have Q:=x3z HV.out a7.out a2 (N:=N) (low:=low) (by have:=b5.out;have:=s.out;omega) (by rw[(y3d _ _ _ _ _).1];exact c9.out) (y5r HV.out a7.out (low:=low) (o:=o) HO.out (by have:=b5.out;have:=s.out;omega) c9.out d8.out i (by omega)) d (by rw[<- H.out];omega);have K:=Q.na (low+i);have j6:=HV.out.n2;have X:(cpA D low i d (cpQ D low o i (stsD D D.n M))).n=low+D.n:=by rw[u3x,(y3d _ _ _ _ _).2.2.2,y3c,<- s.out]
   have j:=e0.out;have B:=e3.out;have g6:=HC.out;have i2:=x0n D o i;have g5:=j4.out;have b3:=Nat.le_trans K (show c+cpC D o i+d<=100000 by split at j<;>omega)
   have b4:ac+(cpX D o i:Int)+(d:Int)<=100000:=by split at j<;>omega
   have a4:0<=ac+(cpX D o i:Int)+(d:Int):=by omega
   have g:=u2n (q:=low+i) (D.ain i d) (D.aout i d) ((tn:Int)+(low:Int)) (D.aw i d) w3 a6.1 a4 b4 (by have:=a6.2.2.size;omega) (by rw[X];omega) (by rw[X];omega) b3;have R:(cpA D low i d (cpQ D low o i (stsD D D.n M))).arc (low+i) (D.ain i d) (D.aout i d) (D.aw i d) ((tn:Int)+(low:Int))=cpA D low i (d+1) (cpQ D low o i (stsD D D.n M)):=by rw[<- l1.out];rfl
   rw[R,show ((low+i:Nat):Int)=(low:Int)+(i:Int) by omega,show ac+(cpX D o i:Int)+(d:Int)+1=ac+(cpX D o i:Int)+((d+1:Nat):Int) by omega] at g;have h:=qh g;clear g R j B g6 g5 X K Q j6;have d0:=qh a6;clear a6 T
   go_wp2_with fail
   rw[<- f0];clear c0 c1 c2 c3 f0;refine h.out.mono ?_;rintro r w4 ⟨rfl,h4⟩;have g2:=qh (d0.out.trans h4);clear h4 d0 h;go_wp2;go_roundw
   case rel=>exact⟨d+1,by omega,by go_num,g2.out⟩
   simp[intOf];omega
  have n5:ni=d:=by omega
  subst n5;have d2:¬ ((ni:Int)<(ni:Int)):=by omega
  have S:=(T.out.2.1 sb m7.out).trans j0.out;have s0:wr.cell? ⟨sb,0,none⟩=some (.string E):=by simp[World.cell?,S]
  have e4:BlN F1 z.heap.size db (cpA D low i ni (cpQ D low o i (stsD D D.n M))) one (ac+(cpX D o i:Int)+(ni:Int)) fl W wr:=⟨T.out.1.sub d1.out,fun b hb=>(T.out.2.1 b (d1.out b hb)).trans (Y.out.2.1 b hb),Y.out.2.2.trans T.out.2.2⟩;have m:=qh e4;clear e4 T S;by_cases J:E=⟨#[]⟩
  ·have R:cpQ D low o (i+1) (stsD D D.n M)=cpA D low i ni (cpQ D low o i (stsD D D.n M)):=by
    show cpF D low o i (cpA D low i (D.na i) (cpQ D low o i (stsD D D.n M)))=_;unfold cpF;rw[if_pos (by rw[<- a9.out];exact J),H.out]
   have b1:cpX D o (i+1)=cpX D o i+ni:=by
    show cpX D o i+D.na i+(if D.fin i=⟨#[]⟩ then 0 else if o.isSome then 1 else 0)=_
    rw[if_pos (by rw[<- a9.out];exact J),H.out];omega
   have hB:=m.out;rw[<- R,show ac+(cpX D o i:Int)+(ni:Int)=ac+(cpX D o (i+1):Int) by rw[b1];omega] at hB;have m5:=qh hB;clear hB R b1 m;subst J;go_wp2;go_roundw
   case rel=>exact⟨i+1,by omega,by go_num,m5.out⟩
   simp[intOf];omega
  have o6:(E.toList==[])=false:=by
   cases hE:(E.toList==[])
   ·rfl
   exact absurd (z6q hE) J
  have R:cpQ D low o (i+1) (stsD D D.n M)=lvD o (low+i) E (cpA D low i ni (cpQ D low o i (stsD D D.n M))):=by
   show cpF D low o i (cpA D low i (D.na i) (cpQ D low o i (stsD D D.n M)))=_;unfold cpF;rw[if_neg (by rw[<- a9.out];exact J),H.out,a9.out]
  have b1:((cpX D o (i+1):Nat):Int)=(cpX D o i:Int)+(ni:Int)+lvN o:=by
   show ((cpX D o i+D.na i+(if D.fin i=⟨#[]⟩ then 0 else if o.isSome then 1 else 0):Nat):Int)=_
   rw[if_neg (by rw[<- a9.out];exact J),H.out];unfold lvN
   split<;>omega
  have Q:=x3z HV.out a7.out a2 (N:=N) (low:=low) (by have:=b5.out;have:=s.out;omega) (by rw[(y3d _ _ _ _ _).1];exact c9.out) (y5r HV.out a7.out (low:=low) (o:=o) HO.out (by have:=b5.out;have:=s.out;omega) c9.out d8.out i (by omega)) ni (by rw[<- H.out];omega);have K:=Q.na (low+i);have j6:=HV.out.n2;have X:(cpA D low i ni (cpQ D low o i (stsD D D.n M))).n=low+D.n:=by rw[u3x,(y3d _ _ _ _ _).2.2.2,y3c,<- s.out]
  have j:=e0.out;have B:=e3.out;have g6:=HC.out;have g5:=j4.out;have i2:=x0n D o i;have h7:P wr:=l8.out W wr m8.out (fun b hb=>m.out.2.1 b (f8.out b hb));have b3:=Nat.le_trans K (show c+cpC D o i+ni<=100000 by split at j<;>omega)
  have b4:ac+(cpX D o i:Int)+(ni:Int)<=100000:=by split at j<;>omega
  have a4:0<=ac+(cpX D o i:Int)+(ni:Int):=by omega
  have g:=l0.out F1 wr _ one _ fl (low+i) E h7 m.out.1 (by have:=m.out.2.2.size;omega) (by rw[X];omega) (by rw[X];omega) b3 a4 b4;rw[<- R,show ((low+i:Nat):Int)=(low:Int)+(i:Int) by omega,show ac+(cpX D o i:Int)+(ni:Int)+lvN o=ac+(cpX D o (i+1):Int) by rw[b1];omega] at g;have h:=qh g;clear g R b1 Q K X j B g6 g5 i2 h7;have o8:=qh J;clear J
  go_wp2_with fail
  refine h.out.mono ?_;rintro r w4 ⟨rfl,h4⟩;have g2:=qh (m.out.trans h4);clear h4 h m;go_wp2;go_roundw
  case rel=>exact⟨i+1,by omega,by go_num,g2.out⟩
  simp[intOf];omega
 have l3:n=i:=by omega
 subst l3;have d2:¬ ((n:Int)<(n:Int)):=by omega
 have S:=(k.out.2.1 mb i9.out).trans j5.out;have m1:=(cells4 S).1.2.1;have hB:=k.out;rw[HN.out] at hB;have e5:BlN F z.heap.size db (z4f D o M) one (ac+(cpX D o D.n:Int)) fl w wr:=by
  have e:z4f D o M=cpQ D low o D.n (stsD D D.n M):=by rw[s.out];rfl
  rw[e];exact⟨hB.1.sub f8.out,fun b hb=>(hB.2.1 b (f8.out b hb)).trans (m2.out b hb),i4.out.trans hB.2.2⟩
 have g7:=qh e5;clear e5 hB S k;go_wp2;go_ret;exact⟨by rw[<- s.out,j1.out];rfl,g7.out⟩
end
section
open Go.RowKit Go.Deep
def twoN (D E:MD) (e:Int):Prop:=(VM D/\VM E/\D.kind=E.kind/\e=0)\/(VM D/\VM E/\D.kind≠E.kind/\e=6)\/(¬ (VM D/\VM E)/\e=1)
def TwoE (D E:MD) (w:World) (r:Ending) (w':World):Prop:=Below w.heap.size w w'/\∃ e:Int,r=.returned (.int .i64 e)/\twoN D E e
theorem v7m {D E:MD} {mv nv:Value} (w:World) (hM:Ma none w mv D) (hN:Ma none w nv E) (U:MSz D) (T:MSz E) (ht:Tab w):Calls prog 108 #[mv,nv] w (TwoE D E w):=by
 obtain⟨sv,rfl,hS⟩:=hM;obtain⟨sw,rfl,K⟩:=hN;obtain⟨a,Y,_,_,_,_,_,_,a1,_⟩:=hS.open;obtain⟨a2,O,_,_,_,_,_,_,a3,_⟩:=K.open;subst a1;subst a3;obtain⟨z,j⟩:=exq (w.alloc (.cells #[.int .i64 D.kind,.int .i64 D.start,.string D.lead,.slice a D.n Y] 24));obtain⟨B,l⟩:=exq (z.alloc (.cells #[.int .i64 E.kind,.int .i64 E.start,.string E.lead,.slice a2 E.n O] 24));have S:z.heap.size=w.heap.size+1:=by rw[j];simp
 have R:Fr (fun _=>False) w z:=by rw[j];exact Fr.alloc _ _
 have N:Fr (fun _=>False) z B:=by rw[l];exact Fr.alloc _ _
 have I:z.heap[w.heap.size]?=some (.cells #[.int .i64 D.kind,.int .i64 D.start,.string D.lead,.slice a D.n Y] 24 (0,0)):=by rw[j];exact heap_alloc_new w _
 have c:B.heap[w.heap.size]?=some (.cells #[.int .i64 D.kind,.int .i64 D.start,.string D.lead,.slice a D.n Y] 24 (0,0)):=(N.block _ (lt_of_block I) (fun e=>e)).trans I;have d:B.heap[w.heap.size+1]?=some (.cells #[.int .i64 E.kind,.int .i64 E.start,.string E.lead,.slice a2 E.n O] 24 (0,0)):=by rw[<- S,l];exact heap_alloc_new z _
 have u:Below w.heap.size w B:=(R.trans N).below nlr (fun _ e=>e.elim);obtain⟨mb,J⟩:=exq (w.heap.size);obtain⟨nb,G⟩:=exq (w.heap.size+1);obtain⟨⟨m0,m1,m2,W⟩,_⟩:=cells4 c;have P:=qh (z2d B (⟨_,rfl,hS.kept (z0b u none)⟩:Ma none B (.agg #[.int .i64 D.kind,.int .i64 D.start,.string D.lead,.slice a D.n Y]) D) U (ht.below u nlr));rw[<- J] at c;rw[<- G] at d;have L:=qh u;clear u;have i:=qh c;clear c I R N S;have g:=qh d;clear d;have a4:=qh K;clear K hS;have HT:=qh ht;clear ht U;have a5:=qh T;clear T;rw[l,j] at m0 m1 m2 W
 go_enter func108,ntmps108
 go_wp2_with fail
 rw[<- j,<- l,<- G,<- J];clear m0 m1 m2 W j l J G;refine P.out.mono ?_;rintro r w3 ⟨o,hr⟩;have A:=L.out.trans (o.mono L.out.size);have c:=(o.block _ (lt_of_block i.out)).trans i.out;have d:=(o.block _ (lt_of_block g.out)).trans g.out;obtain⟨⟨m0,m1,m2,W⟩,_⟩:=cells4 c;obtain⟨⟨n0,n1,n2,n3⟩,_⟩:=cells4 d;clear o i g P L;have k:=qh A;clear A;have i:=qh c;clear c;have g:=qh d;clear d
 rcases hr with ⟨m,rfl⟩|⟨m,rfl⟩
 rotate_left
 ·have Z:=qh m;clear m;go_wp2;go_ret;exact⟨k.out,_,rfl,.inr (.inr ⟨fun h=>Z.out h.1,rfl⟩)⟩
 have Z:=qh m;clear m;have Q:=qh (z2d w3 (⟨_,rfl,a4.out.kept (z0b k.out none)⟩:Ma none w3 (.agg #[.int .i64 E.kind,.int .i64 E.start,.string E.lead,.slice a2 E.n O]) E) a5.out (HT.out.below k.out nlr))
 go_wp2_with fail
 refine Q.out.mono ?_;rintro r w4 ⟨p,hr⟩;have C:=k.out.trans (p.mono k.out.size);have c:=(p.block _ (lt_of_block i.out)).trans i.out;have d:=(p.block _ (lt_of_block g.out)).trans g.out;clear m0 m1 m2 W n0 n1 n2 n3;have m0:=(cells4 c).1.1;have n0:=(cells4 d).1.1;clear p i g Q k c d;have H:=qh C;clear C
 rcases hr with ⟨m,rfl⟩|⟨m,rfl⟩
 rotate_left
 ·have s:=qh m;clear m;go_wp2;go_ret;exact⟨H.out,_,rfl,.inr (.inr ⟨fun h=>s.out h.2,rfl⟩)⟩
 have s:=qh m;clear m;by_cases X:D.kind=E.kind
 ·have F:=qh X;rw[X] at m0;clear X;go_wp2;go_ret;exact⟨H.out,_,rfl,.inl ⟨Z.out,s.out,F.out,rfl⟩⟩
 have F:=qh X;go_wp2;go_ret;exact⟨H.out,_,rfl,.inr (.inl ⟨Z.out,s.out,F.out,rfl⟩)⟩
section
variable {w:World} {db:Nat} {D:MD} {sv:Value} {one:ByteArray} {ac fl:Int} {t:TypeId} (h:w.heap[db]?=some (.cells (bcs D sv one ac fl) t (0,0)))
include h
theorem BlkB.set2 (s:ByteArray):(w.setCell ⟨db,2,none⟩ (.string s)).heap[db]?=some (.cells (bcs { D with lead:=s } sv one ac fl) t (0,0)):=by
 unfold bcs at h ⊢;simp[World.setCell,Array.getElem?_modify,h]
theorem BlkB.set1 (s:Int):(w.setCell ⟨db,1,none⟩ (.int .i64 s)).heap[db]?=some (.cells (bcs { D with start:=s } sv one ac fl) t (0,0)):=by
 unfold bcs at h ⊢;simp[World.setCell,Array.getElem?_modify,h]
end
theorem BlS.lead {F:Nat->Prop} {B db:Nat} {D:MD} {one:ByteArray} {ac fl:Int} {w:World} (h:BlS F B db D one ac fl w) (s:ByteArray):BlS F B db { D with lead:=s } one ac fl (w.setCell ⟨db,2,none⟩ (.string s)):=by
 obtain⟨R,sv,c,g⟩:=h;have d:=c.own.other (p:=⟨db,2,none⟩) (z2n c.own.top c.blk (by decide)) (fun i hi=>z2n (c.own.row i hi) c.blk (by decide)) (.string s);exact⟨R,sv,⟨BlkB.set2 c.blk s,⟨d.top,d.row,d.apart⟩,c.low⟩,fun b hb=>⟨(g b hb).1,by rw[nblk_setCell];exact(g b hb).2.1,(g b hb).2.2⟩⟩
theorem BlS.start {F:Nat->Prop} {B db:Nat} {D:MD} {one:ByteArray} {ac fl:Int} {w:World} (h:BlS F B db D one ac fl w) (s:Int):BlS F B db { D with start:=s } one ac fl (w.setCell ⟨db,1,none⟩ (.int .i64 s)):=by
 obtain⟨R,sv,c,g⟩:=h;have d:=c.own.other (p:=⟨db,1,none⟩) (z2n c.own.top c.blk (by decide)) (fun i hi=>z2n (c.own.row i hi) c.blk (by decide)) (.int .i64 s);exact⟨R,sv,⟨BlkB.set1 c.blk s,⟨d.top,d.row,d.apart⟩,c.low⟩,fun b hb=>⟨(g b hb).1,by rw[nblk_setCell];exact(g b hb).2.1,(g b hb).2.2⟩⟩
theorem BlS.cells {F:Nat->Prop} {B db:Nat} {D:MD} {one:ByteArray} {ac fl:Int} {w:World} (h:BlS F B db D one ac fl w):(∃ v,w.cell? ⟨db,1,none⟩=some (.int .i64 v))/\w.cell? ⟨db,2,none⟩=some (.string D.lead)/\∀ j,w.frozen? ⟨db,j,none⟩=false:=by
 obtain⟨R,sv,c,d⟩:=h;exact⟨⟨_,BlkB.c1 c.blk⟩,BlkB.c2 c.blk,BlkB.fz c.blk⟩
end
section
open Go.RowKit Go.Deep
section
variable {P:Program} {ops:Array Oper} {Q:Exit->Act->World->Prop} {S:World->Prop} {s:List Nat}
def AnyL (P:Program) (ops:Array Oper) (Q:Exit->Act->World->Prop) (S:World->Prop) (s:List Nat):Nat->Array Bool->Act->World->Prop
 | 0,listed,a,w=>Region.ready .any ops listed=[]/\Q .normal a w
 | fuel+1,listed,a,w=>(Region.ready .any ops listed=[]->Q .normal a w) /\
  ∀ i ∈ Region.ready .any ops listed,wpOp P ops Q i (fun a' w'=>(i ∈ s\/S w')/\AnyL P ops Q S s fuel (listed.setIfInBounds i true) a' w') a w
theorem AnyL.any:∀ (fuel:Nat) (listed:Array Bool) (a:Act) (w:World),AnyL P ops Q S s fuel listed a w->wpAny P .any ops Q fuel listed a w
 | 0,_,_,_,h=>h
 | fuel+1,_,_,_,h=>⟨h.1,fun i hi=>wpOp_mono (fun a' w' h'=>AnyL.any fuel _ a' w' h'.2) (h.2 i hi)⟩
theorem AnyL.first {i:Nat} {E:Oper} {v:Value} (hi:ops[i]?=some E) (B:∀ (j:Nat) (o:Oper) cs b,ops[j]?=some o->o.op≠.select cs b)
  (hQ:∀ c a w,Q (.panic c) (a.put E.dst v) w->Q (.panic c) a w) :
  ∀ (l:Nat) (d:Array Bool) (a:Act) (w:World),(∀ x ∈ s,d.getD x false=true\/waits ops ops.size x i=true) ->
   (∀ j oj,ops[j]?=some oj->j≠i->d.getD j true=false->(∀ e ∈ oj.after,Region.binds .any e=true->e.on≠i)->E.apart ops oj=true) ->
   i ∈ Region.ready .any ops d->Closed ops d->YieldsIf P ops S E v a->S w ->
   AnyL P ops Q S s l (d.setIfInBounds i true) (a.put E.dst v) w->AnyL P ops Q S s (l+1) d a w:=by
 intro l
 induction l with
 | zero =>
  intro d a w hw _ F G T K H;refine⟨fun h=>(by rw[h] at F;cases F),fun j J=>?_⟩;by_cases g:j=i
  ·subst g;exact T.wpOp hi K ⟨.inr K,H⟩
  have:=ready_mono J g;rw[H.1] at this;cases this
 | succ l ih =>
  intro d a w hw p F G T K H;refine⟨fun h=>(by rw[h] at F;cases F),fun j J=>?_⟩;by_cases g:j=i
  ·subst g;exact T.wpOp hi K ⟨.inr K,H⟩
  have U:=H.2 j (ready_mono J g);obtain⟨m,oj,z,C⟩:=mem_ready.1 J;have u:d.getD i false=false:=by
   have h0:=(mem_ready.1 F).1
   rcases Nat.lt_or_ge i d.size with D|D
   ·simp[D] at h0 ⊢;exact h0
   simp[Array.getElem?_eq_none D]
  have I:∀ e ∈ oj.after,Region.binds .any e=true->e.on≠i:=fun e X hb a3=>by
   have U:=C e X hb;rw[a3,u] at U;cases U
  have a1:j ∉ s:=fun e=>by
   have W:d.getD j false=false:=by
    rcases Nat.lt_or_ge j d.size with D|D
    ·simp[D] at m ⊢;exact m
    simp[Array.getElem?_eq_none D]
   have Y:waits ops ops.size j i=true:=(hw j e).resolve_left (by rw[W];simp);have:=y2i G _ _ Y (fun o' R e X hb=>by rw[z] at R;cases R;exact C e X hb);rw[u] at this;cases this
  have h2:=wpOp_putIf z (p j oj z g m I) (fun cs b=>B i E cs b hi) (fun cs b=>B j oj cs b z) hQ T U;have A:∀ k ok,ops[k]?=some ok->k≠i->(d.setIfInBounds j true).getD k true=false ->
    (∀ e ∈ ok.after,Region.binds .any e=true->e.on≠i)->E.apart ops ok=true:=fun k ok hk a2 N a4=>by
   refine p k ok hk a2 ?_ a4;by_cases O:j=k
   ·subst O;exact m
   rw[getD_set_ne true O] at N;exact N
  refine wpOp_mono (fun a' w' Z=>?_) h2;have L:S w':=Z.2.1.resolve_left a1;refine⟨.inr L,ih (d.setIfInBounds j true) a' w' (fun x hx=>(hw x hx).imp (fun h=>getD_set_true h) id) A (ready_mono F (Ne.symm g)) (G.set J) Z.1 L ?_⟩;rw[Array.setIfInBounds_comm _ _ g];exact Z.2.2
theorem AnyL.firstP {i:Nat} {C:Oper} {v:Value} (I:i ∈ s) (hi:ops[i]?=some C) (u:∀ (j:Nat) (o:Oper) cs b,ops[j]?=some o->o.op≠.select cs b)
  (hQ:∀ c a w,Q (.panic c) (a.put C.dst v) w->Q (.panic c) a w) :
  ∀ (l:Nat) (d:Array Bool) (a:Act) (w:World),
   (∀ j oj,ops[j]?=some oj->j≠i->d.getD j true=false->(∀ e ∈ oj.after,Region.binds .any e=true->e.on≠i)->C.apart ops oj=true) ->
   i ∈ Region.ready .any ops d->YieldsIf P ops (fun _=>True) C v a ->
   AnyL P ops Q S s l (d.setIfInBounds i true) (a.put C.dst v) w->AnyL P ops Q S s (l+1) d a w:=by
 intro l
 induction l with
 | zero =>
  intro d a w _ E N H;refine⟨fun h=>(by rw[h] at E;cases E),fun j L=>?_⟩;by_cases g:j=i
  ·subst g;exact N.wpOp hi trivial ⟨.inl I,H⟩
  have:=ready_mono L g;rw[H.1] at this;cases this
 | succ l ih =>
  intro d a w m E N H;refine⟨fun h=>(by rw[h] at E;cases E),fun j L=>?_⟩;by_cases g:j=i
  ·subst g;exact N.wpOp hi trivial ⟨.inl I,H⟩
  have O:=H.2 j (ready_mono L g);obtain⟨z,oj,B,G⟩:=mem_ready.1 L;have D:d.getD i false=false:=by
   have Y:=(mem_ready.1 E).1
   rcases Nat.lt_or_ge i d.size with R|R
   ·simp[R] at Y ⊢;exact Y
   simp[Array.getElem?_eq_none R]
  have F:∀ e ∈ oj.after,Region.binds .any e=true->e.on≠i:=fun e he hb W=>by
   have O:=G e he hb;rw[W,D] at O;cases O
  have h2:=wpOp_putIf B (m j oj B g z F) (fun cs b=>u i C cs b hi) (fun cs b=>u j oj cs b B) hQ N O;have p:∀ k ok,ops[k]?=some ok->k≠i->(d.setIfInBounds j true).getD k true=false ->
    (∀ e ∈ ok.after,Region.binds .any e=true->e.on≠i)->C.apart ops ok=true:=fun k ok Z U J X=>by
   refine m k ok Z U ?_ X;by_cases K:j=k
   ·subst K;exact z
   rw[getD_set_ne true K] at J;exact J
  refine wpOp_mono (fun a' w' T=>?_) h2;refine⟨T.2.1,ih (d.setIfInBounds j true) a' w' p (ready_mono E (Ne.symm g)) T.1 ?_⟩;rw[Array.setIfInBounds_comm _ _ g];exact T.2.2
def tpBL (ops:Array Oper) (s:List Nat) (i:Nat) (listed:Array Bool):Bool:=s.contains i&&Region.noSelect ops&&Region.free .any ops listed i&&(Region.ready .any ops listed).contains i
theorem AnyL.tp {i:Nat} {j:Oper} {v:Value} {g:Nat} {d:Array Bool} {a:Act} {w:World} (hi:ops[i]?=some j) (hb:tpBL ops s i d=true) (k:YieldsIf P ops (fun _=>True) j v a)
  (h:AnyL P ops Q S s g (d.setIfInBounds i true) (a.put j.dst v) w) (hQ:∀ c a w,Q (.panic c) (a.put j.dst v) w->Q (.panic c) a w:=by exact fun _ _ _ h=>h):AnyL P ops Q S s (g+1) d a w:=by
 unfold tpBL at hb;simp only[Bool.and_eq_true] at hb;exact AnyL.firstP (by simpa using hb.1.1.1) hi (Region.noSelect_spec hb.1.1.2) hQ g d a w (Region.free_spec hi hb.1.2) (by simpa using hb.2) k h
theorem AnyL.take {i:Nat} {j:Oper} {v:Value} {g:Nat} {d:Array Bool} {a:Act} {w:World} (hi:ops[i]?=some j) (l:(s.all fun x=>d.getD x false||waits ops ops.size x i)=true) (k:y3m ops d=true)
  (z:Region.noSelect ops=true) (hf:Region.free .any ops d i=true) (u:(Region.ready .any ops d).contains i=true)
  (hQ:∀ c a w,Q (.panic c) (a.put j.dst v) w->Q (.panic c) a w) (p:S w) (m:YieldsIf P ops S j v a)
  (h:AnyL P ops Q S s g (d.setIfInBounds i true) (a.put j.dst v) w):AnyL P ops Q S s (g+1) d a w :=
 AnyL.first hi (Region.noSelect_spec z) hQ g d a w (fun x o=>by simpa using List.all_eq_true.1 l x o) (Region.free_spec hi hf) (by simpa using u) (x0a k) m p h
def tkBL (ops:Array Oper) (s:List Nat) (i:Nat) (listed:Array Bool):Bool:=(s.all fun x=>listed.getD x false||waits ops ops.size x i)&&y3m ops listed&&Region.noSelect ops&&Region.free .any ops listed i&&(Region.ready .any ops listed).contains i
theorem AnyL.tk {i:Nat} {j:Oper} {v:Value} {g:Nat} {d:Array Bool} {a:Act} {w:World} (hi:ops[i]?=some j) (hb:tkBL ops s i d=true) (l:S w) (k:YieldsIf P ops S j v a)
  (h:AnyL P ops Q S s g (d.setIfInBounds i true) (a.put j.dst v) w) (hQ:∀ c a w,Q (.panic c) (a.put j.dst v) w->Q (.panic c) a w:=by exact fun _ _ _ h=>h):AnyL P ops Q S s (g+1) d a w:=by
 unfold tkBL at hb;simp only[Bool.and_eq_true] at hb;exact AnyL.take hi hb.1.1.1.1 hb.1.1.1.2 hb.1.1.2 hb.1.2 hb.2 hQ l k h
theorem AnyL.one {i:Nat} {o:Oper} {d:Nat} {c:Array Bool} {a:Act} {w:World} (A:ops[i]?=some o) (l:Region.ready .any ops c=[i]) (g:Region.wanted o (yielded ops a.tmps)=true)
  (h:∀ K:Act->World->Prop,Shut (∀ a w,(i ∈ s\/S w)->AnyL P ops Q S s d (c.setIfInBounds i true) a w->K a w)->Oper.wp P o a w K Q):AnyL P ops Q S s (d+1) c a w:=by
 refine⟨fun k=>(by rw[l] at k;cases k),fun j m=>?_⟩;rw[l] at m;obtain rfl:j=i:=by simpa using m
 exact wpOp_step A (fun K p=>by rw[if_pos g];exact h K (fun a w z u=>p a w ⟨z,u⟩))
theorem AnyL.tm (i:Nat) {j:Oper} {v:Value} {g:Nat} {d:Array Bool} {a:Act} {w:World} (l:S w)
  (h:AnyL P ops Q S s g (d.setIfInBounds i true) (a.put j.dst v) w) (hi:ops[i]?=some j:=by rfl) (hb:tkBL ops s i d=true:=by kernel_rfl) (m:Region.wanted j (yielded ops a.tmps)=true:=by kernel_rfl)
  (k:∀ w,S w->(execOp a.eval j).run P w=.ok (.value v) w:=by (intro w h;go_simp;try with_reducible rfl)) (hQ:∀ c a w,Q (.panic c) (a.put j.dst v) w->Q (.panic c) a w:=by exact fun _ _ _ h=>h):AnyL P ops Q S s (g+1) d a w:=AnyL.tk hi hb l (.inl ⟨m,k⟩) h hQ
theorem AnyL.tq (i:Nat) {j:Oper} {v:Value} {g:Nat} {d:Array Bool} {a:Act} {w:World}
  (h:AnyL P ops Q S s g (d.setIfInBounds i true) (a.put j.dst v) w) (hi:ops[i]?=some j:=by rfl) (hb:tpBL ops s i d=true:=by kernel_rfl) (l:Region.wanted j (yielded ops a.tmps)=true:=by kernel_rfl)
  (k:∀ w,True->(execOp a.eval j).run P w=.ok (.value v) w:=by (intro w h;go_simp;try with_reducible rfl)) (hQ:∀ c a w,Q (.panic c) (a.put j.dst v) w->Q (.panic c) a w:=by exact fun _ _ _ h=>h):AnyL P ops Q S s (g+1) d a w:=AnyL.tp hi hb (.inl ⟨l,k⟩) h hQ
theorem AnyL.on (i:Nat) {o:Oper} {d:Nat} {c:Array Bool} {a:Act} {w:World} (h:∀ K:Act->World->Prop,Shut (∀ a w,(i ∈ s\/S w)->AnyL P ops Q S s d (c.setIfInBounds i true) a w->K a w)->Oper.wp P o a w K Q)
  (j:ops[i]?=some o:=by rfl) (k:Region.ready .any ops c=[i]:=by kernel_rfl) (g:Region.wanted o (yielded ops a.tmps)=true:=by rfl):AnyL P ops Q S s (d+1) c a w:=AnyL.one j k g h
theorem AnyL.done {listed:Array Bool} {a:Act} {w:World} (hr:Region.ready .any ops listed=[]) (h:Q .normal a w):∀ fuel,AnyL P ops Q S s fuel listed a w
 | 0=>⟨hr,h⟩
 | _+1=>⟨fun _=>h,by rw[hr];simp⟩
theorem AnyL.dn {c:Array Bool} {a:Act} {w:World} {d:Nat} (h:Q .normal a w) (g:Region.ready .any ops c=[]:=by kernel_rfl):AnyL P ops Q S s d c a w:=AnyL.done g h d
theorem AnyL.loose {late:List Nat}:∀ {fuel:Nat} {listed:Array Bool} {a:Act} {w:World},(∀ i,i<listed.size->listed.getD i true=false->i ∈ late)->AnyL P ops Q (fun _=>True) [] fuel listed a w->AnyL P ops Q S late fuel listed a w
 | 0,_,_,_,_,h=>h
 | fuel+1,listed,a,w,hl,h=>by
  refine⟨h.1,fun i hi=>wpOp_mono (fun a' w' h'=>⟨.inl ?_,AnyL.loose (fun j hj hf=>?_) h'.2⟩) (h.2 i hi)⟩
  ·obtain⟨h1,_⟩:=mem_ready.1 hi;refine hl i ?_ h1
   rcases Nat.lt_or_ge i listed.size with h' | h'
   ·exact h'
   simp[Array.getD,Nat.not_lt.2 h'] at h1
  refine hl j (by simpa using hj) ?_;by_cases e:i=j
  ·subst e;have hj':i<listed.size:=by simpa using hj
   simp[Array.getD,hj'] at hf
  rwa [getD_set_ne true e] at hf
def u5r (late:List Nat) (listed:Array Bool):Bool:=(List.range listed.size).all fun i=>listed.getD i true||late.contains i
theorem AnyL.loose' {d:List Nat} {g:Nat} {c:Array Bool} {a:Act} {w:World} (h:u5r d c=true) (j:AnyL P ops Q (fun _=>True) [] g c a w):AnyL P ops Q S d g c a w :=
 AnyL.loose (fun i hi hf=>by
  have:=List.all_eq_true.1 h i (List.mem_range.2 hi);rw[hf] at this;simpa using this) j
theorem x0r (S:World->Prop) (s:List Nat) {c:Nat} {a:Act} {w:World} (d:P.follows .mixedOrders=true)
  (h:AnyL P ops Q S s ops.size (Array.replicate ops.size false) a w.drew):(Code.region c ops true).wp P Q a w :=
 wp_region_any d (AnyL.any _ _ _ _ h)
end
end
section
open Go.RowKit Go.Deep
def SymF (nf:FuncId) (cap:Array Value) (φ:Int->Int->Int × Int) (P:World->Prop):Prop :=
 (∀ args w,(callFunc nf args).run prog w=.ok (.enter nf args) w)/\∀ w,P w->∀ i o:Int,0<=i->i<=500->0<=o->o<=500->Calls prog nf (#[.int .i64 i,.int .i64 o]++cap) w (fun r w'=>r=.returned (.tuple #[.int .i64 (φ i o).1,.int .i64 (φ i o).2])/\Below w.heap.size w w')
structure ApI (w wr:World) (cb rb g q:Nat) (fv:Value) (D:MD) (φ:Int->Int->Int × Int) (R A:Nat->Value):Prop where
 hb:Below w.heap.size w wr
 kc:wr.heap[cb]?=some (.cells #[fv] 69 (0,0))
 kr:wr.heap[rb]?=some (.cells #[.int .i64 D.kind,.int .i64 D.start,.string D.lead,.slice (some ⟨g,0,none⟩) D.n D.n] 24 (0,0))
 lr:w.heap.size<=rb
 top:wr.ownsRow w.heap.size 57 2 (.slice (some ⟨g,0,none⟩) D.n D.n) D.n (cat (st2 D (fun i=>if i<q then R i else A i)) D.n)
 row:∀ i,i<q->wr.ownsRow w.heap.size 59 4 (R i) (D.na i) (cat (arc4 (D.sym φ) i) (D.na i))
 apart:∀ i j,i<q->j<q->i≠j->∀ b,(R i).ownBlock=some b->(R j).ownBlock≠some b
def mixA (D:MD) (φ:Int->Int->Int × Int) (q d k:Nat):List Value:=if k<d then arc4 (D.sym φ) q k else arc4 D q k
theorem y0v (D:MD) (φ:Int->Int->Int × Int) (q d k:Nat):(mixA D φ q d k).length=4:=by unfold mixA;split<;>rfl
theorem v5i {D:MD} {φ:Int->Int->Int × Int} {q d n:Nat} (c:d<n):((cat (mixA D φ q d) n).set (d*4+0) (.int .i64 (φ (D.ain q d) (D.aout q d)).1)).set (d*4+1) (.int .i64 (φ (D.ain q d) (D.aout q d)).2)=cat (mixA D φ q (d+1)) n:=by
 have h:∀ k,((fun k=>if k=d then (mixA D φ q d d).set 0 (.int .i64 (φ (D.ain q d) (D.aout q d)).1) else mixA D φ q d k) k).length=4:=fun k=>by
  dsimp only;split
  ·rw[List.length_set,y0v]
  exact y0v _ _ _ _ _
 rw[y0x (y0v D φ q d) (by omega) _ c,y0x h (by omega) _ c];refine z2f fun k i=>?_;by_cases e:k=d
 ·subst e;simp only[if_pos];unfold mixA;rw[if_neg (Nat.lt_irrefl _),if_pos (Nat.lt_succ_self _)];rfl
 simp only[if_neg e];unfold mixA;by_cases g:k<d
 ·rw[if_pos g,if_pos (by omega)]
 rw[if_neg g,if_neg (by omega)]
theorem v5g {D:MD} {φ:Int->Int->Int × Int} {q n:Nat}:cat (mixA D φ q n) n=cat (arc4 (D.sym φ) q) n:=z2f fun k c=>by unfold mixA;rw[if_pos c]
theorem v0p {D:MD} {φ:Int->Int->Int × Int} {q n:Nat}:cat (mixA D φ q 0) n=cat (arc4 D q) n:=z2f fun k c=>by unfold mixA;rw[if_neg (by omega)]
theorem x1t {c:Nat->List Value} (h:∀ i,∀ v ∈ c i,v.oneCell'=true):∀ n,∀ v ∈ cat c n,v.oneCell'=true
 | 0,v,hv=>by simp[cat] at hv
 | n+1,v,hv=>by
  rw[z5e] at hv
  rcases List.mem_append.1 hv with hv|hv
  ·exact x1t h n v hv
  exact h n v hv
theorem v2z {c:Nat->List Value} {s n:Nat} (p:0<s) (k:∀ i,(c i).length=s) {w:World} {b d:Nat} (h:∀ i j,i<n->j<s->∀ v,(c i)[j]?=some v->w.cell? ⟨b,d+i*s+j,none⟩=some v) :
  ∀ j v,(cat c n)[j]?=some v->w.cell? ((⟨b,d,none⟩:Addr).add j)=some v:=by
 intro j v o;rw[Addr.add_lit];have A:j<n*s:=by have:=(List.getElem?_eq_some_iff.1 o).1;rw[z4h k] at this;exact this
 have g:j % s<s:=Nat.mod_lt _ p;have z:j / s<n:=(Nat.div_lt_iff_lt_mul p).2 A;have m:j / s*s+j % s=j:=by rw[Nat.mul_comm];exact Nat.div_add_mod j s
 have u:=z5i k g z;rw[m,o] at u;have l:=h (j / s) (j % s) z g v u.symm;rw[Nat.add_assoc,m] at l;exact l
theorem y6d {w:World} {B g n s:Nat} {e:TypeId} {c:Array Value} (j:w.heap[g]?=some (.cells c e (0,0))) (h:B<=g) (i:n<=maxLen) (cs:List Value) (d:cs.length=n*s) :
  (w.setRow g cs.toArray).ownsRow B e s (.slice (some ⟨g,0,none⟩) n n) n cs :=
 ⟨d,.inr ⟨g,n,cs.toArray,rfl,h,setRow_heap w g c _ e _ j,nlr,i,by simp[d],by
  show cs.toArray.toList.take (n*s)=cs;rw[<- d];simp⟩⟩
theorem x8c {w:World} {B:Nat} {e:TypeId} {s g n cap:Nat} {xs:List Value} (h:w.ownsRow B e s (.slice (some ⟨g,0,none⟩) n cap) n xs):∃ cs,w.heap[g]?=some (.cells cs e (0,0)):=by
 rcases h.2 with ⟨d,_⟩|⟨k,j,i,d,_,c,_⟩
 ·cases d
 cases d;exact⟨i,c⟩
theorem v8j {g:Nat} {w c:World} (h:Fr (fun x=>x=g) w c):w.grownBy c (some g):=(h.mono (C':=fun q=>some g=some q) (fun q _ e=>by rw[e])).gb
theorem ApI.mid {w d wr:World} {l rb g j q:Nat} {fv:Value} {D:MD} {φ:Int->Int->Int × Int} {R A:Nat->Value} (h:ApI w d l rb g q fv D φ R A) (c:Fr (fun x=>x=j) d wr) (m:d.heap.size<=j) (o:w.heap.size<=j):ApI w wr l rb g q fv D φ R A:=by
 have k:∀ b,b<d.heap.size->some j≠some b:=fun b hb e=>by injection e;omega
 refine⟨h.hb.trans (c.below h.hb.size (fun x e=>by rw[e];exact o)),?_,?_,h.lr,?_,fun i hi=>?_,h.apart⟩
 ·exact(c.block _ (lt_of_block h.kc) (by have:=lt_of_block h.kc;omega)).trans h.kc
 ·exact(c.block _ (lt_of_block h.kr) (by have:=lt_of_block h.kr;omega)).trans h.kr
 ·exact z2j h.top (v8j c) (fun b hb=>k b (World.ownsRow.lt h.top b hb).2)
 exact z2j (h.row i hi) (v8j c) (fun b hb=>k b (World.ownsRow.lt (h.row i hi) b hb).2)
theorem ApI.next {w wr:World} {F rb g c q:Nat} {fv:Value} {D:MD} {φ:Int->Int->Int × Int} {R A:Nat->Value} (h:ApI w wr F rb g q fv D φ R A) (K:q<D.n)
  (s:∀ i,i<q->(R i).ownBlock≠some c) (m:wr.ownsRow w.heap.size 59 4 (.slice (some ⟨c,0,none⟩) (D.na q) (D.na q)) (D.na q) (cat (arc4 (D.sym φ) q) (D.na q))) :
  ApI w (wr.setCell ⟨g,q*2+1,none⟩ (.slice (some ⟨c,0,none⟩) (D.na q) (D.na q))) F rb g (q+1) fv D φ (fun i=>if i=q then .slice (some ⟨c,0,none⟩) (D.na q) (D.na q) else R i) A:=by
 have C:=World.ownsRow.lt h.top g rfl;obtain⟨Q,z⟩:=x8c h.top;have G:F≠g:=fun e=>by
  have:=h.kc;rw[e,z] at this;simp at this
 have H:rb≠g:=fun e=>by
  have:=h.kr;rw[e,z] at this;simp at this
 have o:∀ {v:Value} {n:Nat} {I:List Value},wr.ownsRow w.heap.size 59 4 v n I->v.ownBlock≠some g:=fun {v n I} B=>x9w h.top B (by decide) rfl;have P:∀ i,i<q+1->((fun i=>if i=q then Value.slice (some ⟨c,0,none⟩) (D.na q) (D.na q) else R i) i).ownBlock≠some g:=fun i hi=>by
  dsimp only
  split
  ·exact o m
  exact o (h.row i (by omega))
 refine⟨h.hb.setCell (p:=⟨g,q*2+1,none⟩) C.1 _,?_,?_,h.lr,?_,fun i hi=>?_,fun i j hi O E b hb=>?_⟩
 ·rw[z0g G];exact h.kc
 ·rw[z0g H];exact h.kr
 ·have B:=y3q h.top (q*2+1) (.slice (some ⟨c,0,none⟩) (D.na q) (D.na q));rw[y0x (z4w D _) (by omega) _ K] at B;rw[show cat (st2 D (fun i=>if i<q+1 then (if i=q then Value.slice (some ⟨c,0,none⟩) (D.na q) (D.na q) else R i) else A i)) D.n=_ from z2f (d:=fun k=>if k=q then (st2 D (fun i=>if i<q then R i else A i) q).set 1 (.slice (some ⟨c,0,none⟩) (D.na q) (D.na q)) else st2 D (fun i=>if i<q then R i else A i) k) (fun k N=>?_)]
  ·exact B
  by_cases e:k=q
  ·subst e;simp[st2]
  by_cases u:k<q
  ·simp[st2,e,u,show k<q+1 by omega]
  simp[st2,e,u,show ¬ k<q+1 by omega]
 ·by_cases e:i=q
  ·subst e;show (wr.setCell _ _).ownsRow _ _ 4 (if i=i then _ else R i) _ _
   rw[if_pos rfl];exact z5p m (o m) _
  show (wr.setCell _ _).ownsRow _ _ 4 (if i=q then _ else R i) _ _
  rw[if_neg e];exact z5p (h.row i (by omega)) (o (h.row i (by omega))) _
 have l:(if i=q then Value.slice (some ⟨c,0,none⟩) (D.na q) (D.na q) else R i).ownBlock=some b:=hb
 show (if j=q then Value.slice (some ⟨c,0,none⟩) (D.na q) (D.na q) else R j).ownBlock≠some b
 by_cases e:i=q
 ·rw[if_pos e] at l;rw[if_neg (by omega)];have u:c=b:=by simpa [Value.ownBlock] using l
  rw[<- u];exact s j (by omega)
 rw[if_neg e] at l;by_cases u:j=q
 ·rw[if_pos u];intro L;have J:c=b:=by simpa [Value.ownBlock] using L
  exact s i (by omega) (by rw[J];exact l)
 rw[if_neg u];exact h.apart i j (by omega) (by omega) E b l
theorem ApI.own {w wr:World} {c rb g:Nat} {fv:Value} {D:MD} {φ:Int->Int->Int × Int} {R A:Nat->Value} (h:ApI w wr c rb g D.n fv D φ R A):OwM wr w.heap.size (.slice (some ⟨g,0,none⟩) D.n D.n) (D.sym φ) R:=by
 refine⟨?_,h.row,h.apart⟩;show wr.ownsRow _ _ 2 _ D.n (cat (st2 (D.sym φ) R) D.n);rw[show cat (st2 (D.sym φ) R) D.n=cat (st2 D (fun i=>if i<D.n then R i else A i)) D.n from z2f fun i hi=>by
  show [Value.string (D.fin i),R i]=[Value.string (D.fin i),if i<D.n then R i else A i]
  rw[if_pos hi]]
 exact h.top
theorem OwM.box4 {w:World} {B rb:Nat} {sv:Value} {D:MD} {R:Nat->Value} {a0 s m o:Value} (h:OwM w B sv D R) (hb:w.heap[rb]?=some (.cells #[a0,s,m,o] 24 (0,0))) (j l k g:Value) :
  OwM ((((w.setCell ⟨rb,0,none⟩ j).setCell ⟨rb,1,none⟩ l).setCell ⟨rb,2,none⟩ k).setCell ⟨rb,3,none⟩ g) B sv D R :=
 have d:=z2n h.top hb (by decide);have c:=fun i (hi:i<D.n)=>z2n (h.row i hi) hb (by decide)
 (((h.other (p:=⟨rb,0,none⟩) d c j).other (p:=⟨rb,1,none⟩) d c l).other (p:=⟨rb,2,none⟩) d c k).other (p:=⟨rb,3,none⟩) d c g
end
section
open Go.RowKit Go.Deep
theorem z6k {D:MD} {mv:Value} {nf:FuncId} {fc:Array Value} {φ:Int->Int->Int × Int} {P:World->Prop} (w:World) (hM:Ma none w mv D) (m7:MSz D) (ht:Tab w) (hF:SymF nf fc φ P) (hP:P w) (o3:∀ wb,Below w.heap.size w wb->P wb) :
  Calls prog 48 #[.agg #[.func (.func nf) #[] fc],mv] w (MkE (VM D) (D.sym φ) 1 w):=by
 obtain⟨sv,rfl,hS⟩:=hM;obtain⟨a,cp,b,S,A,C,BB,O,rfl,ha,hc,hm,hb,a2⟩:=hS.open;obtain⟨A3,v8⟩:=hF;obtain⟨fv,A7⟩:=exq (Value.func (.func nf) #[] fc);obtain⟨w1,b5⟩:=exq (w.alloc (.cells #[.func (.func nf) #[] fc] 69));obtain⟨w2,b3⟩:=exq (w1.alloc (.cells #[.int .i64 D.kind,.int .i64 D.start,.string D.lead,.slice a D.n cp] 24));obtain⟨w3,c7⟩:=exq (w2.alloc (.cells #[.int .i64 0,.int .i64 0,.string ⟨#[]⟩,.slice none 0 0] 24));have j5:w1.heap.size=w.heap.size+1:=by rw[b5];simp
 have u2:w2.heap.size=w.heap.size+1+1:=by rw[b3];simp[j5]
 have o6:Fr (fun _=>False) w w1:=by rw[b5];exact Fr.alloc _ _
 have l2:Fr (fun _=>False) w1 w2:=by rw[b3];exact Fr.alloc _ _
 have g9:Fr (fun _=>False) w2 w3:=by rw[c7];exact Fr.alloc _ _
 have u8:w1.heap[w.heap.size]?=some (.cells #[.func (.func nf) #[] fc] 69 (0,0)):=by rw[b5];exact heap_alloc_new w _
 have u7:w2.heap[w.heap.size+1]?=some (.cells #[.int .i64 D.kind,.int .i64 D.start,.string D.lead,.slice a D.n cp] 24 (0,0)):=by rw[<- j5,b3];exact heap_alloc_new w1 _
 have l0:w3.heap[w.heap.size+1+1]?=some (.cells #[.int .i64 0,.int .i64 0,.string ⟨#[]⟩,.slice none 0 0] 24 (0,0)):=by rw[<- u2,c7];exact heap_alloc_new w2 _
 have l1:w3.heap[w.heap.size]?=some (.cells #[.func (.func nf) #[] fc] 69 (0,0)):=(g9.block _ (by omega) (fun e=>e)).trans ((l2.block _ (by omega) (fun e=>e)).trans u8);have g1:w3.heap[w.heap.size+1]?=some (.cells #[.int .i64 D.kind,.int .i64 D.start,.string D.lead,.slice a D.n cp] 24 (0,0)):=(g9.block _ (by omega) (fun e=>e)).trans u7;have f9:Below w.heap.size w w3:=((o6.trans l2).trans g9).below nlr (fun _ e=>e.elim);obtain⟨cb,m4⟩:=exq (w.heap.size);obtain⟨Z,g5⟩:=exq (w.heap.size+1);obtain⟨o,m5⟩:=exq (w.heap.size+1+1);have e9:w.heap.size<=o:=by omega
 have y2:cb≠o:=by omega
 have w8:Z≠o:=by omega
 rw[<- m4] at l1;rw[<- g5] at g1;rw[<- m5] at l0;obtain⟨⟨m0,m1,m2,m3⟩,mz⟩:=cells4 g1;clear mz;have t9:=qh (z2d w3 (⟨_,rfl,hS.kept (z0b f9 none)⟩:Ma none w3 (.agg #[.int .i64 D.kind,.int .i64 D.start,.string D.lead,.slice a D.n cp]) D) m7 (ht.below f9 nlr));clear o6 l2 g9 u8 u7 j5 u2;have n3:=qh f9;clear f9;have j3:=qh l1;clear l1;have i8:=qh g1;clear g1;have i7:=qh l0;clear l0;have A1:=qh m7;clear m7;have HA:=qh ha;clear ha;have HB:=qh hb;clear hb;have HR:=qh a2;clear a2 hS;have x5:=qh o3;clear o3 hP ht;have y0:=qh v8;clear v8;rw[g5,c7,b3,b5] at m0 m1 m2 m3
 go_enter func48,ntmps48
 go_wp2_with fail
 rw[<- b5,<- b3,<- c7,<- m5,<- g5,<- m4];clear m0 m1 m2 m3 b5 b3 c7 m5 g5;have z5:w.heap.size<=cb:=by omega
 clear m4;refine t9.out.mono ?_;rintro r w4 ⟨e1,hr⟩;have i2:=n3.out.trans (e1.mono n3.out.size);have t8:=(e1.block _ (lt_of_block j3.out)).trans j3.out;have i9:=(e1.block _ (lt_of_block i8.out)).trans i8.out;have i6:=(e1.block _ (lt_of_block i7.out)).trans i7.out;clear e1 t9 n3 j3 i8 i7;obtain⟨⟨r0,r1,r2,r3⟩,X⟩:=cells4 i6;have f0:=X 0;have f1:=X 1;have f2:=X 2;have f3:=X 3;clear X;have j2:=qh i2;clear i2;have p6:=qh t8;clear t8;have n5:=qh i6;clear i6;obtain⟨⟨m0,m1,m2,m3⟩,mz⟩:=cells4 i9;clear mz;have p7:=qh i9;clear i9
 rcases hr with ⟨z,rfl⟩|⟨z,rfl⟩
 rotate_left
 ·have HV:=qh z;clear z;clear m0 m1 m2 m3
  go_wp2_with fail
  refine bodyPost_ret (z0j rfl _ (b:=o) rfl rfl (z0w w4 o _ _ _ _ n5.out)) rfl ⟨z0d j2.out e9 _ _ _ _,.inr ⟨HV.out,rfl⟩⟩
 have y6:1<=D.n:=z.n1;have y7:D.n<=3000:=z.n2;have v7:∀ i,i<D.n->D.na i<=30000:=fun i hi=>by have h1:=Nat.le_trans (z1t D (show i+1<=D.n by omega)) z.arcs;have h2:z0f D (i+1)=z0f D i+D.na i:=rfl;omega
 have HV:=qh z;clear z;have x0:=qh v7;clear v7;obtain rfl:=HA.out (by omega);unfold maxLen at hm;have b6:=z6r (P:=prog) 22 57 _ 2 40 underlying22 x9j .i64 .i64 D.n (by omega) (by omega);obtain⟨n,hn⟩:=exq (D.n);rw[<- hn] at y6 y7 b6 m3 hc;obtain⟨zs,b8⟩:=exq (madeCells (Value.agg #[.string ⟨#[]⟩,.slice none 0 0]).cells (n*2));rw[<- b8] at b6;have s8:zs.size=n*2:=by rw[b8];exact size_madeCells _ _
 have z3:=qh s8;clear s8 b8;have HN:=qh hn;rw[<- hn];clear hn
 go_wp2_with fail
 refine z0e (fun wk=>wk.cell? ⟨Z,0,none⟩=some (.int .i64 D.kind)/\wk.cell? ⟨Z,1,none⟩=some (.int .i64 D.start)/\wk.cell? ⟨Z,2,none⟩=some (.string D.lead)/\wk.cell? ⟨Z,3,none⟩=some (.slice (some ⟨b,S,none⟩) n cp)) 11 (by kernel_rfl) ?_;obtain⟨u,s⟩:=exq (w4.drew);have k:u.cell? ⟨Z,0,none⟩=some (.int .i64 D.kind)/\u.cell? ⟨Z,1,none⟩=some (.int .i64 D.start)/\u.cell? ⟨Z,2,none⟩=some (.string D.lead)/\u.cell? ⟨Z,3,none⟩=some (.slice (some ⟨b,S,none⟩) n cp):=by rw[s];exact⟨m0,m1,m2,m3⟩
 rw[<- s];clear m0 m1 m2 m3 r0 r1 r2 r3 f0 f1 f2 f3;have u1:Below w.heap.size w u:=by rw[s];exact j2.out.drew
 have r9:u.heap[cb]?=some (.cells #[.func (.func nf) #[] fc] 69 (0,0)):=by rw[s];exact p6.out
 have q9:u.heap[Z]?=some (.cells #[.int .i64 D.kind,.int .i64 D.start,.string D.lead,.slice (some ⟨b,S,none⟩) D.n cp] 24 (0,0)):=by rw[s];exact p7.out
 have u5:u.heap[o]?=some (.cells #[.int .i64 0,.int .i64 0,.string ⟨#[]⟩,.slice none 0 0] 24 (0,0)):=by rw[s];exact n5.out
 have f7:=qh u1;clear u1 j2 p6 p7 n5;have g7:=qh r9;clear r9;have g3:=qh q9;clear q9;have a6:=qh u5;clear u5 s;refine z0c.tm 0 k ?_;refine z0c.tm 1 k ?_;refine z0c.tm 2 k ?_;refine z0c.tm 3 k ?_;refine z0c.tm 4 k ?_;refine z0c.tm 5 k ?_;refine z0c.tm 6 k ?_;refine z0c.tm 7 k ?_;refine z0c.tm 8 k ?_
 try simp only[Act.put,tryL]
 refine z0c.on 9 fun K E=>?_;go_simp;obtain⟨g,hg⟩:=exq (u.heap.size);obtain⟨wa,e7⟩:=exq (u.alloc (.cells zs 57));have d8:Fr (fun _=>False) u wa:=by rw[e7];exact Fr.alloc _ _
 have p9:wa.heap[g]?=some (.cells zs 57 (0,0)):=by rw[e7,hg];exact heap_alloc_new u _
 have p0:=(d8.block _ (lt_of_block g7.out) (fun e=>e)).trans g7.out;have l6:=(d8.block _ (lt_of_block g3.out) (fun e=>e)).trans g3.out;have l7:=(d8.block _ (lt_of_block a6.out) (fun e=>e)).trans a6.out;have n7:Below w.heap.size w wa:=f7.out.trans (d8.below f7.out.size (fun _ e=>e.elim));have t7:w.heap.size<=g:=by rw[hg];exact f7.out.size
 have v5:g≠o:=by rw[hg];have:=lt_of_block a6.out;omega
 have A8:g≠Z:=by rw[hg];have:=lt_of_block g3.out;omega
 have x7:g≠cb:=by rw[hg];have:=lt_of_block g7.out;omega
 rw[<- e7,<- hg];clear e7 hg;have N:wa.cell? ⟨Z,0,none⟩=some (.int .i64 D.kind)/\wa.cell? ⟨Z,1,none⟩=some (.int .i64 D.start)/\wa.cell? ⟨Z,2,none⟩=some (.string D.lead)/\wa.cell? ⟨Z,3,none⟩=some (.slice (some ⟨b,S,none⟩) n cp):=by rw[HN.out];exact(cells4 l6).1
 refine E.out _ _ (.inr N) ?_;clear E K b6
 try simp only[Act.put,tryL]
 obtain⟨⟨r0,r1,r2,r3⟩,X⟩:=cells4 l7;have f0:=X 0;have f1:=X 1;have f2:=X 2;have f3:=X 3;clear X d8 f7 g7 g3 a6 k;have l9:=qh p9;clear p9;have m9:=qh p0;clear p0;have l8:=qh l6;clear l6;have r7:=qh l7;clear l7;have k9:=qh n7;clear n7;refine z0c.on 10 fun K E=>?_;go_simp;refine E.out _ _ (.inr N) ?_;clear E K
 try simp only[Act.put,tryL]
 refine z0c.on 11 fun K E=>?_;go_simp;refine E.out _ _ (.inl rfl) (z0c.dn ?_);clear E K N;obtain⟨wb,h3⟩:∃ wb,wb=(((wa.setCell ⟨o,0,none⟩ (.int .i64 D.kind)).setCell ⟨o,1,none⟩ (.int .i64 D.start)).setCell ⟨o,2,none⟩ (.string D.lead)).setCell ⟨o,3,none⟩ (.slice (some ⟨g,0,none⟩) n n):=⟨_,rfl⟩;have d3:Fr (fun q=>q=o) wa wb:=by rw[h3];exact(((((Fr.refl (fun q=>q=o) wa).set (p:=⟨o,0,none⟩) (.inl rfl) _).set (p:=⟨o,1,none⟩) (.inl rfl) _).set (p:=⟨o,2,none⟩) (.inl rfl) _).set (p:=⟨o,3,none⟩) (.inl rfl) _)
 have l3:wb.heap[o]?=some (.cells #[.int .i64 D.kind,.int .i64 D.start,.string D.lead,.slice (some ⟨g,0,none⟩) n n] 24 (0,0)):=by rw[h3];exact z0w wa o _ _ _ _ r7.out
 have r8:=(d3.block _ (lt_of_block l9.out) v5).trans l9.out;have v0:=(d3.block _ (lt_of_block m9.out) y2).trans m9.out;have m8:=(d3.block _ (lt_of_block l8.out) w8).trans l8.out;have f4:Below w.heap.size w wb:=k9.out.trans (d3.below k9.out.size (fun q e=>by rw[e];exact e9));have r3:=(cells4 l3).1.2.2.2;have m3:=(cells4 m8).1.2.2.2;rw[<- HN.out] at m3;obtain⟨T,g6⟩:∃ T:Nat->Value,T=fun i=>.slice (A i) (D.na i) (C i):=⟨_,rfl⟩;obtain⟨cs,d7⟩:=exq (cat (st2 D T) n);have H:cs.length=n*2:=by rw[d7];exact z4h (z4w D T) n
 have Q:∀ v ∈ cs,v.oneCell'=true:=by
  rw[d7];refine x1t (fun i v z=>?_) n;rw[g6] at z;simp[st2] at z
  rcases z with rfl|rfl<;>rfl
 have U:∀ j v,cs[j]?=some v->wb.cell? ((⟨b,S,none⟩:Addr).add j)=some v:=by
  rw[d7];refine v2z (by omega) (z4w D T) (fun i j hi hj v z=>?_);have o7:=(HB.out (by have:=HN.out;omega)).1;obtain⟨k1,k2,_⟩:=HR.out i (by have:=HN.out;omega);rw[g6] at z;have:j=0\/j=1:=by omega
  rcases this with rfl|rfl
  ·cases z;exact(f4.cell (p:=⟨b,S+i*2,none⟩) o7).trans k1
  cases z;exact(f4.cell (p:=⟨b,S+i*2+1,none⟩) o7).trans k2
 rw[<- h3];have h4:=qh H;clear H;have r6:=qh Q;clear Q;have p8:=qh U;clear U;have y1:=qh d7;clear d7;have v3:=qh g6;clear g6;have x9:=qh l3;clear l3;have v4:=qh r8;clear r8;have w9:=qh v0;clear v0;have A6:=qh m8;clear m8;have y4:=qh f4;clear f4;clear h3 d3 l9 m9 l8 r7 k9 r0 r1 r2 f0 f1 f2 f3;have W:=y2e (P:=prog) wb 22 22 3 57 2 n g n (some ⟨b,S,none⟩) cp zs 57 cs underlying22 (by kernel_rfl) v4.out h4.out z3.out (fun _=>⟨_,rfl,p8.out⟩) r6.out;obtain⟨wc,b4⟩:=exq (wb.setRow g cs.toArray);rw[<- b4] at W;have m:wc.ownsRow w.heap.size 57 2 (.slice (some ⟨g,0,none⟩) n n) n cs:=by rw[b4];exact y6d v4.out t7 (by unfold maxLen;omega) cs h4.out
 have o2:Below w.heap.size w wc:=by rw[b4];exact below_setRow y4.out t7 _
 have G:ApI w wc cb o g 0 (.func (.func nf) #[] fc) D φ T T:=by
  refine⟨o2,?_,?_,e9,?_,fun i hi=>absurd hi (Nat.not_lt_zero _),fun i j hi=>absurd hi (Nat.not_lt_zero _)⟩
  ·rw[b4];exact(setRow_other wb g cb _ (fun e=>x7 e.symm)).trans w9.out
  ·rw[b4,<- HN.out];exact(setRow_other wb g o _ (fun e=>v5 e.symm)).trans x9.out
  rw[<- HN.out];rw[y1.out] at m;rw[show cat (st2 D (fun i=>if i<0 then T i else T i)) n=cat (st2 D T) n from z2f fun i _=>by simp]
  exact m
 have r3:wc.cell? ⟨o,3,none⟩=some (.slice (some ⟨g,0,none⟩) n n):=by
  have:=(cells4 G.kr).1.2.2.2;rw[<- HN.out] at this;exact this
 have c:=qh G;clear G m o2 b4
 go_wp2_with fail
 clear W r3 m3
 go_loopw [33] (fun j4 wr=>∃ (q:Nat) (R:Nat->Value),q<=n/\j4=.int .i64 (q:Int)/\ApI w wr cb o g q (.func (.func nf) #[] fc) D φ R T) (fun j4 _=>n-(intOf j4).toNat)
 case atStart=>exact⟨0,T,Nat.zero_le _,rfl,c.out⟩
 obtain⟨q,R,hq,rfl,G⟩:=hrel;obtain⟨wo,x8⟩:=exq (wr);clear x8;clear c;have c:=qh G;clear G;by_cases A4:q<n
 ·have z9:(q:Int)<(n:Int):=by omega
  have z8:(0:Int)<=(q:Int):=by omega
  have F:q<D.n:=by have:=HN.out;omega
  obtain⟨k1,k2,k3,k4,k5,k6,k7⟩:=HR.out q F;have y9:=x0.out q F;clear k1 k2;unfold maxLen at k4;have m:=c.out.top;have t0:wr.cell? ⟨g,q*2,none⟩=some (.string (D.fin q)):=z5c m (by
   have:=z5i (z4w D (fun i=>if i<q then R i else T i)) (i:=q) (j:=0) (by omega) F
   rw[Nat.add_zero] at this;rw[this];rfl)
  have t1:wr.cell? ⟨g,q*2+1,none⟩=some (.slice (A q) (D.na q) (C q)):=z5c m (by
   rw[z5i (z4w D (fun i=>if i<q then R i else T i)) (i:=q) (j:=1) (by omega) F]
   show some (if q<q then R q else T q)=_
   rw[if_neg (Nat.lt_irrefl _),v3.out])
  clear m;obtain⟨aq,g8⟩:=exq (A q);obtain⟨nq,I⟩:=exq (D.na q);obtain⟨cq,d2⟩:=exq (C q);obtain⟨fq,j7⟩:=exq (D.fin q);rw[<- g8,<- I,<- d2] at t1;rw[<- j7] at t0;rw[<- g8,<- I] at k5;rw[<- I] at k6 k7 y9;rw[<- I,<- d2] at k3;rw[<- d2] at k4;have w0:=qh g8;clear g8;have z2:=qh d2;clear d2;have a4:=qh I;clear I;have A0:=qh j7;clear j7;have x6:=qh k5;clear k5;have x3:=qh k6;clear k6;have y3:=qh k7;clear k7;obtain⟨sb,b9⟩:=exq (wr.heap.size);obtain⟨w5,e0⟩:=exq (wr.alloc (.cells #[.string fq,.slice aq nq cq] 57));have u4:w5.heap.size=sb+1:=by rw[e0,b9];simp
  obtain⟨zq,j6⟩:=exq (madeCells (Value.agg #[.int .i64 0,.int .i64 0,.string ⟨#[]⟩,.int .i64 0]).cells (nq*4));have b8:zq.size=nq*4:=by rw[j6];exact size_madeCells _ _
  have b6:=z6r (P:=prog) 55 59 _ 4 40 underlying55 v0c .i64 .i64 nq (by omega) (by omega);rw[<- j6] at b6;clear j6;obtain⟨w6,e8⟩:=exq (w5.alloc (.cells zq 59));obtain⟨l,g0⟩:=exq (sb+1);have s4:Fr (fun _=>False) wr w5:=by rw[e0];exact Fr.alloc _ _
  have l5:Fr (fun _=>False) w5 w6:=by rw[e8];exact Fr.alloc _ _
  have B:=s4.trans l5;have b0:w5.heap[sb]?=some (.cells #[.string fq,.slice aq nq cq] 57 (0,0)):=by rw[e0,b9];exact heap_alloc_new wr _
  have e6:=(l5.block _ (lt_of_block b0) (fun e=>e)).trans b0;have i5:w6.heap[l]?=some (.cells zq 59 (0,0)):=by rw[e8,g0,<- u4];exact heap_alloc_new w5 _
  have d6:Below w.heap.size w w6:=c.out.hb.trans (B.below c.out.hb.size (fun _ e=>e.elim));obtain⟨az,d4⟩:=exq (cat (arc4 D q) nq);have H:az.length=nq*4:=by rw[d4];exact z4h (y8i D q) nq
  have Q:∀ v ∈ az,v.oneCell'=true:=by
   rw[d4];refine x1t (fun i v z=>?_) nq;simp[arc4] at z
   rcases z with rfl|rfl|rfl|rfl<;>rfl
  have U:0<nq->∃ ad,aq=some ad/\∀ j v,az[j]?=some v->w6.cell? (ad.add j)=some v:=fun h0=>by
   refine⟨_,x6.out h0,?_⟩;rw[d4];refine v2z (by omega) (y8i D q) (fun i j hi hj v z=>?_);have g4:=(x3.out h0).1;obtain⟨t0,t1,t2,t3⟩:=y3.out i hi;have:j=0\/j=1\/j=2\/j=3:=by omega
   rcases this with rfl|rfl|rfl|rfl
   ·cases z;exact(d6.cell (p:=⟨BB q,O q+i*4,none⟩) g4).trans t0
   ·cases z;exact(d6.cell (p:=⟨BB q,O q+i*4+1,none⟩) g4).trans t1
   ·cases z;exact(d6.cell (p:=⟨BB q,O q+i*4+2,none⟩) g4).trans t2
   cases z;exact(d6.cell (p:=⟨BB q,O q+i*4+3,none⟩) g4).trans t3
  have W:=y2e (P:=prog) w6 55 55 3 59 4 nq l nq aq cq zq 59 az underlying55 (by kernel_rfl) i5 H b8 U Q;obtain⟨w7,d0⟩:=exq (w6.setRow l az.toArray);rw[<- d0] at W;have k0:w.heap.size<=l:=by have:=c.out.hb.size;omega
  have e3:w7.ownsRow w.heap.size 59 4 (.slice (some ⟨l,0,none⟩) nq nq) nq (cat (mixA D φ q 0) nq):=by
   rw[v0p,<- d4,d0];exact y6d i5 k0 (by unfold maxLen;omega) az H
  have h8:Fr (fun x=>x=l) wr w7:=by
   rw[d0];exact⟨B.os,B.tape,B.output,by simp[World.setRow];exact B.size,fun x hx x1=>(setRow_other w6 l x _ x1).trans (B.block x hx (fun e=>e))⟩
  have h5:w7.heap[sb]?=some (.cells #[.string fq,.slice aq nq cq] 57 (0,0)):=by rw[d0];exact(setRow_other w6 l sb _ (by omega)).trans e6
  have s5:w5.cell? ⟨sb,1,none⟩=some (.slice aq nq cq):=by simp[World.cell?,b0]
  have s6:w6.cell? ⟨sb,1,none⟩=some (.slice aq nq cq):=by simp[World.cell?,e6]
  have d5:=qh e3;clear e3;have d1:=qh h8;clear h8;have z6:=qh h5;clear h5;have A5:g≠l:=by
   have:=(World.ownsRow.lt c.out.top g rfl).2;omega
  have o4:wr.heap.size<=l:=by omega
  clear s4 l5 B b0 e6 i5 d6 H Q U d0 d4 u4 b8;rw[e8] at s6 W;rw[e0] at s5 s6 W;rw[b9] at s5 s6;rw[g0,b9] at W;have o9:=qh b9;clear b9;have v2:=qh g0;clear g0;clear e0 e8
  go_wp2_with fail
  rw[<- o9.out,<- v2.out];clear W s5 s6 t0 t1 b6;have o5:∀ wz,Fr (fun x=>x=l) w7 wz->P wz:=fun wz h=>x5.out wz (c.out.hb.trans ((d1.out.trans h).below c.out.hb.size (fun x e=>by rw[e];exact k0)));have z4:=qh o5;clear o5;have i3:w7.heap[cb]?=some (.cells #[.func (.func nf) #[] fc] 69 (0,0)):=(d1.out.block _ (lt_of_block c.out.kc) (by have:=lt_of_block c.out.kc;omega)).trans c.out.kc;have h9:=qh i3;clear i3;have y8:cb≠l:=by have:=lt_of_block c.out.kc;omega
  go_loopw [48] (fun j9 wz=>∃ d:Nat,d<=nq/\j9=.int .i64 (d:Int)/\wz.ownsRow w.heap.size 59 4 (.slice (some ⟨l,0,none⟩) nq nq) nq (cat (mixA D φ q d) nq)/\Fr (fun x=>x=l) w7 wz) (fun j9 _=>nq-(intOf j9).toNat)
  case atStart=>exact⟨0,Nat.zero_le _,rfl,d5.out,Fr.refl _ _⟩
  obtain⟨d,hd,rfl,a2,u9⟩:=hrel;clear d5;have a9:=qh a2;clear a2;have f5:=qh u9;clear u9;by_cases a5:d<nq
  ·have A9:(d:Int)<(nq:Int):=by omega
   have z7:(0:Int)<=(d:Int):=by omega
   obtain⟨u,s⟩:=exq (wr.drew);obtain⟨ai,e2⟩:=exq (D.ain q d);obtain⟨ao,e4⟩:=exq (D.aout q d);have a8:Fr (fun x=>x=l) w7 u:=by rw[s];exact f5.out.drew
   have L:u.ownsRow w.heap.size 59 4 (.slice (some ⟨l,0,none⟩) nq nq) nq (cat (mixA D φ q d) nq):=by rw[s];exact a9.out
   have h7:u.heap[cb]?=some (.cells #[.func (.func nf) #[] fc] 69 (0,0)):=(a8.block _ (lt_of_block h9.out) y8).trans h9.out;have a0:u.cell? ⟨l,d*4,none⟩=some (.int .i64 ai):=z5c L (by
    have:=z5i (y0v D φ q d) (i:=d) (j:=0) (by omega) a5;rw[Nat.add_zero] at this;rw[this,e2];unfold mixA;rw[if_neg (Nat.lt_irrefl _)];rfl)
   have a1:u.cell? ⟨l,d*4+1,none⟩=some (.int .i64 ao):=z5c L (by
    rw[z5i (y0v D φ q d) (i:=d) (j:=1) (by omega) a5,e4];unfold mixA;rw[if_neg (Nat.lt_irrefl _)];rfl)
   have k:u.cell? ⟨cb,0,none⟩=some (.func (.func nf) #[] fc)/\u.cell? ⟨l,d*4,none⟩=some (.int .i64 ai)/\u.cell? ⟨l,d*4+1,none⟩=some (.int .i64 ao):=⟨by simp[World.cell?,h7],a0,a1⟩;have e5:=y0.out u (z4.out u a8) ai ao (by rw[e2];exact(HV.out.arc q d F (by rw[<- a4.out];exact a5)).i0) (by rw[e2];exact(HV.out.arc q d F (by rw[<- a4.out];exact a5)).i1) (by rw[e4];exact(HV.out.arc q d F (by rw[<- a4.out];exact a5)).o0) (by rw[e4];exact(HV.out.arc q d F (by rw[<- a4.out];exact a5)).o1);have c9:=qh e5;clear e5 a0 a1 h7;have u0:=qh a8;clear a8 f5;have a6:=qh L;clear L a9
   go_wp2_with fail
   refine x0r (fun wk=>wk.cell? ⟨cb,0,none⟩=some (.func (.func nf) #[] fc)/\wk.cell? ⟨l,d*4,none⟩=some (.int .i64 ai)/\wk.cell? ⟨l,d*4+1,none⟩=some (.int .i64 ao)) [0,1,2,3,17,18,19,20,21,22,23,24,25] (by kernel_rfl) ?_;rw[<- s];have A2:=qh s;clear s;have n6:=qh e2;clear e2;have s9:=qh e4;clear e4;refine AnyL.tq 0 ?_;refine AnyL.tq 1 ?_;refine AnyL.tq 2 ?_;refine AnyL.tq 3 ?_
   try simp only[Act.put,tryL]
   refine AnyL.tm 4 k ?_;refine AnyL.tm 5 k ?_;refine AnyL.tm 6 k ?_;refine AnyL.tm 7 k ?_;refine AnyL.tm 8 k ?_;refine AnyL.tm 9 k ?_;refine AnyL.tm 10 k ?_;refine AnyL.tm 11 k ?_;refine AnyL.tm 12 k ?_;refine AnyL.tm 13 k ?_;refine AnyL.tm 14 k ?_;refine AnyL.tm 15 k ?_
   try simp only[Act.put,tryL]
   refine AnyL.on 16 fun K E=>?_;go_simp;refine c9.out.mono ?_;rintro r we ⟨rfl,b7⟩;have o8:Fr (fun x=>x=l) w7 we:=u0.out.trans (Fr.of_below b7);have j1:we.ownsRow w.heap.size 59 4 (.slice (some ⟨l,0,none⟩) nq nq) nq (cat (mixA D φ q d) nq):=z2j a6.out (z0b b7 none) (fun _ _=>by simp);have N:we.cell? ⟨cb,0,none⟩=some (.func (.func nf) #[] fc)/\we.cell? ⟨l,d*4,none⟩=some (.int .i64 ai)/\we.cell? ⟨l,d*4+1,none⟩=some (.int .i64 ao):=⟨(z0b b7 none).cell k.1 (by simp),(z0b b7 none).cell k.2.1 (by simp),(z0b b7 none).cell k.2.2 (by simp)⟩;refine E.out _ _ (.inr N) ?_;clear E K k b7 c9 u0 a6;have f0:=z5v j1 (d*4);have c0:=N.2.1;have c1:=N.2.2;clear N;have u6:=qh o8;clear o8;have r4:=qh j1;clear j1;obtain⟨b1,j0⟩:∃ b1,b1=(φ ai ao).1:=⟨_,rfl⟩;obtain⟨b2,l4⟩:∃ b2,b2=(φ ai ao).2:=⟨_,rfl⟩;rw[<- j0,<- l4];have q8:=qh j0;clear j0;have u3:=qh l4;clear l4;refine AnyL.loose' (by kernel_rfl) ?_
   try simp only[Act.put,tryL]
   refine AnyL.tm 17 trivial ?_;refine AnyL.tm 18 trivial ?_;refine AnyL.tm 19 trivial ?_;refine AnyL.tm 20 trivial ?_;refine AnyL.tm 21 trivial ?_
   try simp only[Act.put,tryL]
   refine AnyL.on 22 fun K E=>?_;go_simp;refine E.out _ _ (.inr trivial) ?_;clear E K
   try simp only[Act.put,tryL]
   refine AnyL.on 23 fun K E=>?_;go_simp;refine E.out _ _ (.inr trivial) ?_;clear E K
   try simp only[Act.put,tryL]
   refine AnyL.on 24 fun K E=>?_;go_simp;refine E.out _ _ (.inr trivial) ?_;clear E K
   try simp only[Act.put,tryL]
   have c8:=y3q r4.out (d*4) (.int .i64 b1);have y5:(we.setCell ⟨l,d*4,none⟩ (.int .i64 b1)).cell? ⟨l,d*4+1,none⟩=some (.int .i64 ao):=by rw[World.cell?_setCell_other _ _ _ _ (by simp)];exact c1
   have v9:=z5v c8 (d*4+1);have h6:=qh c8;clear c8;clear c0 f0 c1;refine AnyL.on 25 fun K E=>?_;go_simp;refine E.out _ _ (.inr trivial) (AnyL.dn ?_);clear E K y5 v9;obtain⟨wf,f8⟩:∃ wf,wf=(we.setCell ⟨l,d*4,none⟩ (.int .i64 b1)).setCell ⟨l,d*4+1,none⟩ (.int .i64 b2):=⟨_,rfl⟩;have r5:wf.ownsRow w.heap.size 59 4 (.slice (some ⟨l,0,none⟩) nq nq) nq (cat (mixA D φ q (d+1)) nq):=by
    rw[f8];have h1:=y3q h6.out (d*4+1) (.int .i64 b2);rw[q8.out,u3.out,n6.out,s9.out] at h1;rw[q8.out,u3.out,n6.out,s9.out];have h2:=v5i (D:=D) (φ:=φ) (q:=q) a5;rw[Nat.add_zero] at h2;rw[h2] at h1;exact h1
   have v6:Fr (fun x=>x=l) w7 wf:=by rw[f8];exact(u6.out.set (p:=⟨l,d*4,none⟩) (.inl rfl) _).set (p:=⟨l,d*4+1,none⟩) (.inl rfl) _
   rw[<- f8];have x4:=qh r5;clear r5;have x2:=qh v6;clear v6 f8 h6 r4 u6;go_wp2;go_roundw
   case rel=>exact⟨d+1,by omega,by go_num,x4.out,x2.out⟩
   simp[intOf];omega
  obtain rfl:d=nq:=by omega
  have s3:¬ ((d:Int)<(d:Int)):=by omega
  have q7:=d1.out.trans f5.out;have a7:=c.out.mid q7 o4 k0;have i4:=a9.out;rw[v5g,a4.out] at i4;have a3:=a7.next F (fun i hi e=>by
   have:=(World.ownsRow.lt (c.out.row i hi) l e).2;omega) i4
  rw[<- a4.out] at a3;have r3:=(cells4 a7.kr).1.2.2.2;have m:=a7.top;have t1:wr.cell? ⟨g,q*2+1,none⟩=some (.slice aq d cq):=by
   refine z5c m ?_;rw[z5i (z4w D (fun i=>if i<q then R i else T i)) (i:=q) (j:=1) (by omega) F]
   show some (if q<q then R q else T q)=_
   rw[if_neg (Nat.lt_irrefl _),v3.out];show some (Value.slice (A q) (D.na q) (C q))=_;rw[a4.out,<- w0.out,<- z2.out]
  have f1:=z5v m (q*2+1);rw[<- HN.out] at r3;have j8:=qh a3;clear a3 q7 a7 i4 m;clear a9 f5
  go_wp2_with fail
  clear r3 t1 f1;go_roundw
  case rel=>exact⟨q+1,_,by omega,by go_num,j8.out⟩
  simp[intOf];omega
 obtain rfl:q=n:=by omega
 have s3:¬ ((q:Int)<(q:Int)):=by omega
 have Y:=c.out;rw[HN.out] at Y;have d9:=Y.own;rw[<- HN.out] at d9;obtain⟨⟨r0,r1,r2,r3⟩,X⟩:=cells4 Y.kr;have f0:=X 0;have f1:=X 1;have f2:=X 2;have f3:=X 3;have J:=Y.kr;clear X Y;rw[<- HN.out] at r3 J;have s7:=qh (d9.box4 J (.int .i64 D.kind) (.int .i64 D.start) (.string D.lead) (.slice (some ⟨g,0,none⟩) q q));clear d9;have n9:=qh J;clear J;have z1:=qh c.out.hb
 go_wp2_with fail
 refine bodyPost_ret (z0j rfl _ (b:=o) rfl rfl (z0w wr o _ _ _ _ n9.out)) rfl ⟨z0d z1.out e9 _ _ _ _,.inl ⟨HV.out,_,R,rfl,s7.out⟩⟩
end
end Go.Proofs.YteappjogmnogcaaGreatDoor
