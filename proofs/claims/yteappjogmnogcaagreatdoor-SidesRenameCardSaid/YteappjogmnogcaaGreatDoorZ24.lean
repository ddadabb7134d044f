/- Parts. -/
import Derived.Test.YteappjogmnogcaaGreatDoorZ18
import Derived.Test.YteappjogmnogcaaGreatDoorZ19
namespace Go.Proofs.YteappjogmnogcaaGreatDoor
set_option maxRecDepth 100000
set_option linter.all false
set_option maxHeartbeats 16000000
open Go Tryz
section
open Go.RowKit Go.Deep
variable{F:Nat->Prop}{B db q:Nat}{D:MD}{one:ByteArray}{ac fl:Int}{w:World}
def BlS(F:Nat->Prop)(B db:Nat)(D:MD)(one:ByteArray)(ac fl:Int)(w:World):Prop:=∃R sv,Bld w B db D R sv one ac fl/\∀b,F b->b≠db/\Fre w sv R D.n b
def BlN(F:Nat->Prop)(B db:Nat)(D:MD)(one:ByteArray)(ac fl:Int)(w w':World):Prop:=BlS F B db D one ac fl w'/\(∀b,F b->w'.heap[b]?=w.heap[b]?)/\Below B w w'
def BlS.sub{c:Nat->Prop}(h:BlS F B db D one ac fl w)(i:∀b,c b->F b):BlS c B db D one ac fl w:=by
 obtain⟨R,sv,d,g⟩:=h;exact⟨R,sv,d,λb hb=>g b (i b hb)⟩
theorem BlN.trans{F:Nat->Prop}{B db:Nat}{D i:MD}{one:ByteArray}{ac fl c d:Int}{w j k:World}(h:BlN F B db D one ac fl w j)(g:BlN F B db i one c d j k):BlN F B db i one c d w k :=
 ⟨g.1,λb hb=>(g.2.1 b hb).trans (h.2.1 b hb),h.2.2.trans g.2.2⟩
theorem BlS.lt{F:Nat->Prop}{B db:Nat}{D:MD}{one:ByteArray}{ac fl:Int}{w:World}(h:BlS F B db D one ac fl w):db<w.heap.size/\B<=db/\∀b,F b->b<w.heap.size:=by
 obtain⟨R,sv,c,d⟩:=h;exact⟨c.lt,c.low,λb hb=>(d b hb).2.1⟩
theorem BlS.kept{F:Nat->Prop}{B db:Nat}{D:MD}{one:ByteArray}{ac fl:Int}{w i:World}(h:BlS F B db D one ac fl w)(hb:Below w.heap.size w i):BlS F B db D one ac fl i:=by
 obtain⟨R,sv,c,d⟩:=h;exact⟨R,sv,⟨(hb.block _ c.lt).trans c.blk,c.own.kept (Ab hb none) (by simp),c.low⟩,λb g=>⟨(d b g).1,Nat.lt_of_lt_of_le (d b g).2.1 hb.size,(d b g).2.2⟩⟩
def BlS.grown{j:World}(h:BlS F B db D one ac fl w)(hb:Below w.heap.size w j):BlS (λb=>F b\/(w.heap.size<=b/\b<j.heap.size)) B db D one ac fl j:=by
 obtain⟨R,sv,c,g⟩:=h;refine⟨R,sv,⟨(hb.block _ c.lt).trans c.blk,c.own.kept (Ab hb none) (by simp),c.low⟩,λb d=>?_⟩
 rcases d with d|⟨l,k⟩
 ·exact⟨(g b d).1,Nat.lt_of_lt_of_le (g b d).2.1 hb.size,(g b d).2.2⟩
 refine⟨by have:=c.lt;omega,k,λe=>?_,λi hi e=>?_⟩
 ·have:=(World.ownsRow.lt c.own.top b e).2;omega
 have:=(World.ownsRow.lt (c.own.row i hi) b e).2;omega
def Ji(f:ByteArray)(w:World)(h:BlS F B db D one ac fl w)(o:B<=w.heap.size)(hn:D.n<=100000):
  Calls prog 91 #[.pointer (some (Ad db 0)),.string f] w (λr w'=>r=.returned (.int .i64 (D.n:Int))/\BlN F B db (D.state f) one ac fl w w'):=by
 obtain⟨R,sv,k,c⟩:=h;refine(SO f w k o hn).mono λr w' i=>⟨i.1,?_⟩;obtain⟨⟨j,d,l,g⟩,m⟩:=i.2;exact⟨⟨j,d,l,λb hb=>⟨(c b hb).1,(g b (c b hb).1 (c b hb).2).1⟩⟩,λb hb=>(g b (c b hb).1 (c b hb).2).2,m⟩
def Jg(a b t:Int)(x:ByteArray)(w:World)(h:BlS F B db D one ac fl w)(d:0<=ac)(g:ac<=100000)(u:B<=w.heap.size)(z:q<D.n)(hn:D.n<=100000)(i:D.na q<=100000):
  Calls prog 92 #[.pointer (some (Ad db 0)),.int .i64 (q:Int),.agg #[.int .i64 a,.int .i64 b,.string x,.int .i64 t]] w (λr w'=>r=.returned (.tuple #[])/\BlN F B db (D.arc q a b x t) one (ac+1) fl w w'):=by
 obtain⟨R,sv,o,c⟩:=h;refine(SF a b t x w o d g u z hn i).mono λr w' l=>⟨l.1,?_⟩;obtain⟨⟨m,j,p,k⟩,s⟩:=l.2;exact⟨⟨m,j,p,λb hb=>⟨(c b hb).1,(k b (c b hb).1 (c b hb).2).1⟩⟩,λb hb=>(k b (c b hb).1 (c b hb).2).2,s⟩
def SN(t:Int)(x:ByteArray)(w:World)(h:BlS F B db D one ac fl w)(c:0<=ac)(g:ac<=100000)(k:B<=w.heap.size)(l:q<D.n)(hn:D.n<=100000)(i:D.na q<=100000):
  Calls prog 141 #[.pointer (some (Ad db 0)),.int .i64 (q:Int),.string x,.int .i64 t] w (λr w'=>r=.returned (.tuple #[])/\BlN F B db (D.arc q 0 0 x t) one (ac+1) fl w w'):=by
 have j:=qh<|Jg 0 0 t x w h c g k l hn i;clear h
 go_enter func141,ntmps141
 go_wp2_with fail
 refine j.o.mono ?_;rintro r m⟨rfl,d⟩;replace d:=qh d
 go_wp2_with fail
 go_end0
 exact⟨rfl,d.o⟩
def Mp(k:Int)(w:World):Calls prog 90 #[.int .i64 k] w (λr w'=>∃db,r=.returned (.pointer (some (Ad db 0)))/\BlS (λ_=>False) w.heap.size db (AJ k 0 (oneF k)) (oneF k) 0 0 w'/\Below w.heap.size w w'/\w.heap.size<=db):=by
 go_enter func90,ntmps90
 go_wp2_with fail
 refine(Iu k w).mono ?_;rintro r j⟨rfl,c⟩;have d:=c.alloc c.size (.cells (bcs (AJ k 0 (oneF k)) (.slice none 0 0) (oneF k) 0 0) 113);have i:=c.size;have g:BlS (λ_=>False) w.heap.size j.heap.size (AJ k 0 (oneF k)) (oneF k) 0 0 (j.alloc (.cells (bcs (AJ k 0 (oneF k)) (.slice none 0 0) (oneF k) 0 0) 113)) :=
  ⟨λ_=>.slice none 0 0,.slice none 0 0,⟨han j _,OwM.empty _ _ _ _ _ _,i⟩,λ_ h=>h.elim⟩
 replace d:=qh d;clear c;replace g:=qh g;go_wp2;go_ret;exact⟨_,rfl,g.o,d.o,i⟩
def tmF(z:ByteArray × Nat)(fl:Int):Int:=if z.2≠0 then (z.2:Int) else fl
def TmE(F:Nat->Prop)(B db:Nat)(D:MD)(one:ByteArray)(ac fl:Int)(z:ByteArray × Nat)(w:World)(r:Ending)(w':World):Prop:=r=.returned (.string z.1)/\BlN F B db D one ac (tmF z fl) w w'
def SQ(v u:ByteArray)(w:World)(h:BlS F B db D one ac fl w)(Q:smS v)(P:smS u)(O:Tab w):
  Calls prog 109 #[.pointer (some (Ad db 0)),.string v,.string u] w (TmE F B db D one ac fl (Al D.kind v u) w):=by
 obtain⟨R,sv,j,m⟩:=h;have c0:=BlkB.c0 j.blk;have S:=qh<|Ld D.kind v u w Q P O;clear O Q P;replace j:=qh j;replace m:=qh m
 go_enter func109,ntmps109
 go_wp2_with fail
 refine S.o.mono ?_;rintro r K⟨rfl,c⟩;obtain⟨z,l⟩:=exq<|Al D.kind v u;rw[<-l];replace l:=qh l;have G:BlS F B db D one ac fl K:=BlS.kept ⟨R,sv,j.o,m.o⟩ c;have g:=(c.block _ j.o.lt).trans j.o.blk;have c6:=BlkB.c6 g;have f6:=BlkB.fz g 6;have s:Below B w K\/True:=.inr trivial;replace G:=qh G;replace c:=qh c;replace g:=qh g;clear c0;clear s;have N:∀w',Below w.heap.size w w'->B<=w.heap.size:=λ_ _=>by have:=j.o.lt;have:=j.o.low;omega
 have o:=N K c.o;clear N;by_cases A:z.2=0
 ·have C:((z.2:Nat):Int)=0:=by omega
  have H:=qh A;clear A;go_wp2;go_ret;refine⟨by rw[l.o];rfl,?_⟩;have U:=H.o;rw[show tmF (Al D.kind v u) fl=fl from by rw[<-l.o];exact ifn (by omega)];exact⟨G.o,λb hb=>c.o.block b (m.o b hb).2.1,c.o.mono o⟩
 have C:¬((z.2:Nat):Int)=0:=by omega
 obtain⟨I,d⟩:∃I:Nat,I=z.2:=⟨_,rfl⟩;rw[<-d]at C A ⊢;have H:=qh A;clear A;replace d:=qh d;go_wp2;go_ret;obtain⟨T,J,k,E⟩:=G.o;have L:=c.o;refine⟨by rw[l.o];rfl,?_⟩;rw[show tmF (Al D.kind v u) fl=(I:Int) from by rw[<-l.o,d.o];exact ifp (by rw[<-d.o];exact H.o)];refine⟨⟨T,J,⟨?_,?_,k.low⟩,λb hb=>⟨(E b hb).1,by rw[nblk_setCell];exact(E b hb).2.1,(E b hb).2.2⟩⟩,λb hb=>?_,(L.mono o).setCell (p:=(Ad db 6)) k.low _⟩
 ·exact BlkB.set6 k.blk _
 ·exact k.own.other (p:=(Ad db 6)) (Bj k.own.top k.blk (by decide)) (λi hi=>Bj (k.own.row i hi) k.blk (by decide)) _
 rw[Ar (show b≠db from (E b hb).1)];exact L.block b (m.o b hb).2.1
def dnOk(fl:Int)(n:Nat)(ac:Int):Prop:=fl=0/\n<=3000/\ac<=30000
def DnE(B:Nat)(D:MD)(ok:Prop)(w:World)(r:Ending)(w':World):Prop :=
 Below w.heap.size w w'/\((ok/\∃sv R,r=.returned (.tuple #[.agg #[.int .i64 D.kind,.int .i64 D.start,.string D.lead,sv],.int .i64 0])/\OwM w' B sv D R)\/(¬ok/\r=.returned (.tuple #[AE,.int .i64 2])))
def Ml(w:World)(h:BlS F B db D one ac fl w)(hn:D.n<=100000)(Z:ac<=1000000)(K:0<=ac):
  Calls prog 94 #[.pointer (some (Ad db 0))] w (DnE B D (dnOk fl D.n ac) w):=by
 obtain⟨R,sv,i,Y⟩:=h;obtain⟨sa,sc,J,_,_⟩:=AC i.own.top;subst J;obtain⟨p,g⟩:=exq<|w.alloc (.cells #[.int .i64 0,.int .i64 0,.string ⟨#[]⟩,.slice none 0 0] 24);obtain⟨G,E⟩:=exq<|w.heap.size;have l:Fr (λ_=>False) w p:=by rw[g];exact Fr.alloc _ _
 have m:p.heap[G]?=some (.cells #[.int .i64 0,.int .i64 0,.string ⟨#[]⟩,.slice none 0 0] 24 (0,0)):=by rw[g,E];exact han w _
 have c:=(l.block _ i.lt (λe=>e)).trans i.blk;have k:Below w.heap.size w p:=l.below nlr (λ_ e=>e.elim);have C:OwM p B (.slice sa D.n sc) D R:=i.own.kept (Ab k none) (by simp);have a2:w.heap.size<=G:=by omega
 have a1:db≠G:=by have:=i.lt;omega
 have L:=BlkB.c0 c;have N:=BlkB.c1 c;have O:=BlkB.c2 c;have P:=BlkB.c3 c;have Q:=BlkB.c5 c;have S:=BlkB.c6 c;rw[g]at L N O P Q S;obtain⟨⟨r0,r1,r2,r3⟩,H⟩:=cells4 m;have T:=H 0;have U:=H 1;have W:=H 2;have X:=H 3;clear H;rw[g,E]at r0 r1 r2 r3 T U W X;have a3:((D.n:Nat):Int)<=100000:=by omega
 replace m:=qh m;replace k:=qh k;replace C:=qh C;replace i:=qh i;clear Y;replace c:=qh c;clear l;by_cases u:fl=0
 ·subst u;by_cases o:D.n<=3000;have A:decide ((3000:Int)<(D.n:Int))=false:=by simp;omega
  by_cases j:ac<=30000
  ·have s:decide ((30000:Int)<ac)=false:=by simp;omega
   have I:=qh<|show dnOk 0 D.n ac from ⟨rfl,o,j⟩
   go_enter func94,ntmps94
   go_wp2_with fail
   exact bodyPost_ret (AH rfl _ (b:=w.heap.size) rfl rfl (han w _)) rfl ⟨(Below.refl _ w).alloc nlr _,.inl ⟨I.o,_,R,rfl,i.o.own.kept (z:=none) (World.grownBy_alloc _ _ _) (by simp)⟩⟩
  have s:(30000:Int)<ac:=by omega
  have d:=qh<|show ¬dnOk 0 D.n ac from λh=>j h.2.2;clear j
  rotate_left
  have A:(3000:Int)<(D.n:Int):=by omega
  have d:=qh<|show ¬dnOk 0 D.n ac from λh=>o h.2.1;clear o
  all_goals
   go_enter func94,ntmps94
   go_wp2_with fail
   exact bodyPost_ret (AH rfl _ (b:=w.heap.size) rfl rfl (han w _)) rfl ⟨(Below.refl _ w).alloc nlr _,.inr ⟨d.o,rfl⟩⟩
 have d:=qh<|show ¬dnOk fl D.n ac from λh=>u h.1
 go_enter func94,ntmps94
 go_wp2_with fail
 exact bodyPost_ret (AH rfl _ (b:=w.heap.size) rfl rfl (han w _)) rfl ⟨(Below.refl _ w).alloc nlr _,.inr ⟨d.o,rfl⟩⟩
def lvN(o:Option Nat):Int:=if o.isSome then 1 else 0
def LvF(nf:FuncId)(cap:Array Value)(o:Option Nat)(B db:Nat)(P:World->Prop):Prop :=
 (∀args w,(callFunc nf args).run prog w=.ok (.enter nf args) w)/\∀(F:Nat->Prop) (w:World) (D:MD) (one:ByteArray) (ac fl:Int) (s:Nat) (f:ByteArray),P w->BlS F B db D one ac fl w->B<=w.heap.size->s<D.n->D.n<=100000->D.na s<=100000->0<=ac->ac<=100000 ->
  Calls prog nf (#[.int .i64 (s:Int),.string f]++cap) w (λr w'=>r=.returned (.tuple #[])/\BlN F B db (lvD o s f D) one (ac+lvN o) fl w w')
def UC:∀args w,(callFunc 111 args).run prog w=.ok (.enter 111 args) w:=λargs w=>by kernel_rfl
def UD:∀args w,(callFunc 140 args).run prog w=.ok (.enter 140 args) w:=λargs w=>by kernel_rfl
def VP(B db:Nat):LvF 111 #[] none B db (λ_=>True):=by
 refine⟨UC,λF w D one c d s f _ h k m l g i j=>?_⟩;rw[show ∀a b:Value,(#[a,b]++#[]:Array Value)=#[a,b] from λ_ _=>rfl];replace h:=qh h
 go_enter func111,ntmps111
 go_wp2_with fail
 go_end0
 refine⟨rfl,?_⟩;show BlN F B db D one (c+0) d w w;rw[Int.add_zero];exact⟨h.o,λ_ _=>rfl,blr⟩
def PLk(db cx tx t:Nat)(w:World):Prop:=w.heap[cx]?=some (.cells #[.pointer (some (Ad db 0))] 110 (0,0))/\w.heap[tx]?=some (.cells #[.int .i64 (t:Int)] 3 (0,0))
def VQ(B db A H t:Nat):LvF 140 #[.pointer (some (Ad A 0)),.pointer (some (Ad H 0))] (some t) B db (PLk db A H t):=by
 refine⟨UD,λF w D one S T s f hP h hB P hn O h0 h1=>?_⟩;rw[show ∀a b c d:Value,(#[a,b]++#[c,d]:Array Value)=#[a,b,c,d] from λ_ _ _ _=>rfl];obtain⟨R,sv,i,G⟩:=h;obtain⟨g,cp,rfl,N,a1,_,_⟩:=DL i.own.top (by omega);obtain⟨k,u⟩:=hP;have a2:(s:Int)<(D.n:Int):=by omega
 have W:(0:Int)<=(s:Int):=by omega
 have k1:w.cell? (Ad A 0)=some (.pointer (some (Ad db 0))):=by simp[World.cell?,k]
 have X:=BlkB.c3 i.blk;have Z:=i.own.fin_cell P;have Y:=DK i.own.top (s*2);obtain⟨l,j⟩:=exq<|w.setCell ⟨g,s*2,none⟩ (.string ⟨#[]⟩);have L:db≠g:=λe=>Bj i.own.top i.blk (by decide) (by rw[e];rfl);have K:A≠g:=λe=>Bj i.own.top k (by decide) (by rw[e];rfl);have Q:H≠g:=λe=>Bj i.own.top u (by decide) (by rw[e];rfl);have m:BlS F B db (D.setFin s ⟨#[]⟩) one S T l:=by
  rw[j];refine⟨R,_,⟨by rw[Ar L];exact i.blk,i.own.setFin P ⟨#[]⟩,i.low⟩,λb hb=>⟨(G b hb).1,by rw[nblk_setCell];exact(G b hb).2.1,(G b hb).2.2⟩⟩
 have C:l.cell? (Ad A 0)=some (.pointer (some (Ad db 0))):=by rw[j];simp[World.cell?,Ar (p:=(Ad g (s*2))) K,k]
 have E:l.cell? (Ad H 0)=some (.int .i64 (t:Int)):=by rw[j];simp[World.cell?,Ar (p:=(Ad g (s*2))) Q,u]
 have J:B<=l.heap.size:=by rw[j,nblk_setCell];exact hB
 have z:=qh<|SN (t:Int) f l m h0 h1 J P hn O;have o:BlN F B db (D.setFin s ⟨#[]⟩) one S T w l:=⟨m,λb hb=>by
  rw[j,Ar (show b≠g from λe=>(G b hb).2.2.1 (by rw[e];rfl))],by rw[j];exact(Below.refl B w).setCell (p:=(Ad g (s*2))) N _⟩
 replace o:=qh o;clear m;replace i:=qh i;clear k u;rw[j]at C E
 go_enter func140,ntmps140
 go_wp2_with fail
 rw[<-j];clear k1 X Z Y C E j;refine z.o.mono ?_;rintro r w2⟨rfl,U⟩;have I:=qh<|o.o.trans U;clear U z
 go_wp2_with fail
 go_end0
 exact⟨rfl,I.o⟩
def SI(db t:Nat)(w:World):Calls prog 112 #[.pointer (some (Ad db 0)),.int .i64 (t:Int)] w (λr w'=>∃cx tx,r=.returned (.func (.func 140) #[] #[.pointer (some (Ad cx 0)),.pointer (some (Ad tx 0))])/\PLk db cx tx t w'/\w.heap.size<=cx/\w.heap.size<=tx/\Below w.heap.size w w'):=by
 have p:∀(fn:Fn) (first cap:Array Value) (w:World),(Instr.makeFunc fn first cap).run prog w=.ok (.func fn first cap) w:=λ_ _ _ _=>rfl
 obtain⟨d,c⟩:=exq<|w.alloc (.cells #[.pointer (some ⟨db,0,none⟩)] 110);obtain⟨j,i⟩:=exq<|d.alloc (.cells #[.int .i64 (t:Int)] 3);have l:d.heap.size=w.heap.size+1:=by rw[c];simp
 have k:Fr (λ_=>False) w d:=by rw[c];exact Fr.alloc _ _
 have g:Fr (λ_=>False) d j:=by rw[i];exact Fr.alloc _ _
 have m:d.heap[w.heap.size]?=some (.cells #[.pointer (some (Ad db 0))] 110 (0,0)):=by rw[c];exact han w _
 have o:j.heap[w.heap.size+1]?=some (.cells #[.int .i64 (t:Int)] 3 (0,0)):=by rw[<-l,i];exact han d _
 have h:PLk db w.heap.size (w.heap.size+1) t j:=⟨(g.block _ (by omega) (λe=>e)).trans m,o⟩;have hb:Below w.heap.size w j:=(k.trans g).below nlr (λ_ e=>e.elim);replace h:=qh h;clear m o k g l;replace hb:=qh hb
 go_enter func112,ntmps112
 go_wp2_with fail
 rw[<-c,<-i];go_ret;exact⟨_,_,rfl,h.o,nlr,Nat.le_succ _,hb.o⟩
theorem BlN.alloc{F:Nat->Prop}{B db:Nat}{D:MD}{one:ByteArray}{ac fl:Int}{w c:World}(h:BlN F B db D one ac fl w c)(g:B<=w.heap.size)(o:Obj):BlN F B db D one ac fl w (c.alloc o):=by
 have hb:=(Below.refl c.heap.size c).alloc nlr o;exact⟨h.1.kept hb,λb d=>(hb.block b (h.1.lt.2.2 b d)).trans (h.2.1 b d),h.2.2.trans (hb.mono (Nat.le_trans g h.2.2.size))⟩
def BlS.join(h:BlS F B db D one ac fl w)(o:Obj):BlS (λb=>F b\/b=w.heap.size) B db D one ac fl (w.alloc o) :=
 (h.grown ((Below.refl w.heap.size w).alloc nlr o)).sub (λb hb=>hb.imp id (λe=>by subst e;simp))
def BlN.refl(h:BlS F B db D one ac fl w):BlN F B db D one ac fl w w:=⟨h,λ_ _=>rfl,blr⟩
theorem MK(D:MD)(low i:Nat)(M:MD):∀d,(cpA D low i d M).n=M.n:=λd=>(FP D low i (Skel.refl M) d).n
def cpX(D:MD)(o:Option Nat):Nat->Nat
 |0=>0
 |i+1=>cpX D o i+D.na i+(if D.fin i=⟨#[]⟩ then 0 else if o.isSome then 1 else 0)
theorem FQ(D:MD)(o:Option Nat):∀i,cpX D o i<=cpC D o i
 |0=>Nat.zero_le _
 |i+1=>by
  have h:=FQ D o i;unfold cpC at h ⊢;show cpX D o i+D.na i+(if D.fin i=⟨#[]⟩ then 0 else if o.isSome then 1 else 0)<=Ac D i+D.na i+_
  split<;>split at h<;>simp_all<;>omega
def cpyE(F:Nat->Prop)(B db:Nat)(D M:MD)(o:Option Nat)(one:ByteArray)(ac fl:Int)(w:World)(r:Ending)(w':World):Prop :=
 r=.returned (.int .i64 ((M.n:Int)+D.start))/\BlN F B db (AV D o M) one (ac+(cpX D o D.n:Int)) fl w w'
def Mk{N c:Nat}{M:MD}{sv:Value}{nf:FuncId}{cap:Array Value}{o:Option Nat}{P:World->Prop}(B w:World)(Y:VM D)(hS:MSz D)(hD:StS none B sv D)(f9:Below B.heap.size B w)
  (g0:BlS F B.heap.size db M one ac fl w) (hk:M.kind=D.kind) (g3:BOk M N c) (hN:M.n+D.n<=N) (h5:N<=10000) (ho:∀t,o=some t->t<N) (hc:c+cpC D o D.n<=90000) (k9:0<=ac) (d5:ac+(cpC D o D.n:Int)<=90000)
  (j3:LvF nf cap o B.heap.size db P) (hP:P w) (d4:∀wa wb,P wa->(∀b,F b->wb.heap[b]?=wa.heap[b]?)->P wb) :
  Calls prog 110 #[.pointer (some (Ad db 0)),.agg #[.int .i64 D.kind,.int .i64 D.start,.string D.lead,sv],.func (.func nf) #[] cap] w (cpyE F B.heap.size db D M o one ac fl w):=by
 obtain⟨a,cp,b,e4,A,C,BB,O,rfl,ha,l0,hm,hb,a4⟩:=hD.open;unfold maxLen at hm;obtain⟨l2,g4⟩:=j3;obtain⟨n,hn⟩:=exq<|D.n;obtain⟨low,b9⟩:=exq<|M.n;have l6:n<=3000:=by rw[hn];exact Y.n2
 have l5:1<=n:=by rw[hn];exact Y.n1
 obtain⟨st,e2⟩:∃st:Nat,D.start=(st:Int):=⟨D.start.toNat,by have:=Y.s0;omega⟩;have j9:st<n:=by have:=Y.s1;omega
 have j7:low<=10000:=by omega
 obtain⟨W,U⟩:=exq<|w.alloc (.cells #[.int .i64 D.kind,.int .i64 (st:Int),.string D.lead,.slice a n cp] 24);obtain⟨mb,a7⟩:=exq<|w.heap.size;have i8:B.heap.size<=w.heap.size:=f9.size;have b8:W.heap[mb]?=some (.cells #[.int .i64 D.kind,.int .i64 (st:Int),.string D.lead,.slice a n cp] 24 (0,0)):=by rw[U,a7];exact han w _
 have hj:=g0.join<|.cells #[.int .i64 D.kind,.int .i64 (st:Int),.string D.lead,.slice a n cp] 24;rw[<-U]at hj;obtain⟨F1,d1⟩:∃F1:Nat->Prop,F1=λb=>F b\/b=w.heap.size:=⟨_,rfl⟩;rw[<-d1]at hj;have d6:Below B.heap.size w W:=by rw[U];exact((Below.refl B.heap.size w).alloc i8 _)
 have i5:BlN F1 B.heap.size db (stsD D 0 M) one ac fl W W:=BlN.refl hj;have d8:F1 mb:=by rw[d1,a7];exact .inr rfl
 have b0:∀b,F b->F1 b:=λb hb=>by rw[d1];exact .inl hb
 have d9:∀b,F b->W.heap[b]?=w.heap[b]?:=λb hb=>by rw[U];exact blk_alloc_lt _ _ _ (g0.lt.2.2 b hb)
 have b1:P W:=d4 w W hP d9;obtain⟨_,_,J,_⟩:=g0;have d3:=BlkB.c3 J.blk;obtain⟨sa,sc,j5,_,_⟩:=AC J.own.top;subst j5;have h0:=BlkB.c3<|(((Below.refl w.heap.size w).alloc nlr (.cells #[.int .i64 D.kind,.int .i64 (st:Int),.string D.lead,.slice a n cp] 24)).block _ J.lt).trans J.blk;have m3:=(cells4 b8).1.2.2.2;rw[U,a7]at m3;rw[<-b9]at h0;clear d3 J;replace hn:=qh hn;have u:=qh b9;replace e2:=qh e2;replace Y:=qh Y;replace hS:=qh hS;replace ha:=qh ha;have HB:=qh hb;clear hb;replace a4:=qh a4;clear hD;replace g4:=qh g4;replace d4:=qh d4;clear hP;have a8:=qh<|f9.trans d6;clear f9;replace d6:=qh d6;replace b0:=qh b0;clear d1;replace d9:=qh d9;replace d8:=qh d8;replace b8:=qh b8;clear hj;replace b1:=qh b1;replace g3:=qh g3;replace hk:=qh hk;replace ho:=qh ho;replace hc:=qh hc;replace d5:=qh d5;replace hN:=qh hN;replace h5:=qh h5;have g9:=qh i5;clear i5;obtain rfl:=ha.o (by have:=hn.o;omega);rw[e2.o,<-hn.o]
 go_enter func110,ntmps110
 go_wp2_with fail
 rw[<-U,<-a7];clear h0 m3 b9;replace U:=qh U;replace a7:=qh a7;rw[<-u.o]
 go_loopw [23] (λg6 wr=>∃i:Nat,i<=n/\g6=.int .i64 (i:Int)/\BlN F1 B.heap.size db (stsD D i M) one ac fl W wr) (λg6 _=>n-(intOf g6).toNat)
 case atStart=>exact⟨0,Nat.zero_le _,rfl,g9.o⟩
 obtain⟨i,hi,rfl,K⟩:=hrel;clear g9;have k:=qh K;clear K;by_cases j2:i<n
 ·have j1:(i:Int)<(n:Int):=by omega
  have i4:(0:Int)<=(i:Int):=by omega
  have a5:i<D.n:=by have:=hn.o;omega
  have b5:=(HB.o (by omega)).1;obtain⟨k1,k2,_⟩:=a4.o i a5;have l:=a8.o.trans k.o.2.2;have t0:=(l.cell (p:=(Ad b (e4+i*2))) b5).trans k1;have t1:=(l.cell (p:=(Ad b (e4+i*2+1))) b5).trans k2;clear k1 k2;obtain⟨G,Z⟩:=exq<|D.fin i;obtain⟨ri,j4⟩:=exq<|Value.slice (A i) (D.na i) (C i);rw[<-Z]at t0;obtain⟨w2,z⟩:=exq<|wr.alloc (.cells #[.string G,.slice (A i) (D.na i) (C i)] 57);have d0:B.heap.size<=W.heap.size:=a8.o.size;have H:=k.o.alloc d0 (.cells #[.string G,.slice (A i) (D.na i) (C i)] 57);rw[<-z]at H;have g:=Ji G w2 H.1 (by have:=H.2.2.size;omega) (by rw[EK];have:=u.o;omega);rw[show (stsD D i M).state G=stsD D (i+1) M from by rw[Z];rfl]at g;have h:=qh g;clear g j4;have X:=qh H;clear H k Z l
  go_wp2_with fail
  rw[<-z];clear t0 t1 z;refine h.o.mono ?_;rintro r w3⟨rfl,h3⟩;have c9:=qh<|X.o.trans h3;clear h3 X h;go_wp2;go_roundw
  case rel=>exact⟨i+1,by omega,by go_num,c9.o⟩
  simp[intOf];omega
 have i3:n=i:=by omega
 subst i3;have f3:¬((n:Int)<(n:Int)):=by omega
 have Q:=(k.o.2.1 mb d8.o).trans b8.o;have m3:=(cells4 Q).1.2.2.2;have f2:BlN F1 B.heap.size db (cpQ D low o 0 (stsD D D.n M)) one (ac+(cpX D o 0:Int)) fl W wr:=by
  have:=k.o;rw[hn.o]at this;rw[show (cpX D o 0:Int)=0 from rfl,Int.add_zero];exact this
 have a3:=GD Y.o hS.o hk.o g3.o D.n nlr;have a6:(stsD D D.n M).kind=D.kind:=(DO D M D.n).1.trans hk.o;replace a3:=qh a3;replace a6:=qh a6;have e6:=qh f2;clear f2 k Q
 go_wp2_with fail
 clear m3
 go_loopw [35] (λg7 wr=>∃i:Nat,i<=n/\g7=.int .i64 (i:Int)/\BlN F1 B.heap.size db (cpQ D low o i (stsD D D.n M)) one (ac+(cpX D o i:Int)) fl W wr) (λg7 _=>n-(intOf g7).toNat)
 case atStart=>exact⟨0,Nat.zero_le _,rfl,e6.o⟩
 obtain⟨i,l4,rfl,K⟩:=hrel;clear e6;have k:=qh K;clear K;by_cases j2:i<n
 ·have j1:(i:Int)<(n:Int):=by omega
  have i4:(0:Int)<=(i:Int):=by omega
  have a5:i<D.n:=by have:=hn.o;omega
  have b5:=(HB.o (by omega)).1;obtain⟨k1,k2,k3,k4,k5,k6,k7⟩:=a4.o i a5;have l:=a8.o.trans k.o.2.2;have t0:=(l.cell (p:=(Ad b (e4+i*2))) b5).trans k1;have t1:=(l.cell (p:=(Ad b (e4+i*2+1))) b5).trans k2;clear k1 k2;obtain⟨G,Z⟩:=exq<|D.fin i;obtain⟨ai,f7⟩:=exq<|A i;obtain⟨ni,m⟩:=exq<|D.na i;obtain⟨ci,h7⟩:=exq<|C i;rw[<-Z]at t0;rw[<-f7,<-m,<-h7]at t1;rw[<-f7,<-m]at k5;rw[<-m]at k6 k7;have j8:ni<=30000:=by rw[m];have h1:=Nat.le_trans (BA D (show i+1<=D.n by omega)) Y.o.arcs;have h2:Ac D (i+1)=Ac D i+D.na i:=rfl;omega
  have a9:=qh Z;clear Z;replace m:=qh m;clear f7 h7 k3 k4;replace k5:=qh k5;replace k6:=qh k6;replace k7:=qh k7;obtain⟨w2,z⟩:=exq<|wr.alloc (.cells #[.string G,.slice ai ni ci] 57);obtain⟨sb,c8⟩:=exq<|wr.heap.size;have d0:B.heap.size<=W.heap.size:=a8.o.size;have e9:B.heap.size<=wr.heap.size:=l.size;have e1:w2.heap[sb]?=some (.cells #[.string G,.slice ai ni ci] 57 (0,0)):=by rw[z,c8];exact han wr _
  have e0:=k.o.1.join<|.cells #[.string G,.slice ai ni ci] 57;rw[<-z,<-c8]at e0;obtain⟨F2,d2⟩:∃F2:Nat->Prop,F2=λb=>F1 b\/b=sb:=⟨_,rfl⟩;rw[<-d2]at e0;have g2:F2 sb:=by rw[d2];exact .inr rfl
  have a2:∀b,F1 b->F2 b:=λb hb=>by rw[d2];exact .inl hb
  have H:=k.o.alloc d0 (.cells #[.string G,.slice ai ni ci] 57);rw[<-z]at H;have f0:BlN F2 B.heap.size db (cpA D low i 0 (cpQ D low o i (stsD D D.n M))) one (ac+(cpX D o i:Int)+((0:Nat):Int)) fl w2 w2:=by
   rw[show ((0:Nat):Int)=0 from rfl,Int.add_zero];exact BlN.refl e0
  have s1:w2.cell? (Ad sb 1)=some (.slice ai ni ci):=by simp[World.cell?,e1]
  rw[z,c8]at s1;have e5:=qh f0;clear f0 e0;have X:=qh H;clear H k l;replace e1:=qh e1;replace g2:=qh g2;replace a2:=qh a2;clear d2
  go_wp2_with fail
  rw[<-z,<-c8];clear t0 t1 z c8 s1;have h8:cpC D o i<=cpC D o D.n:=by
   unfold cpC;have h1:=BA D (show i<=D.n by omega)
   split<;>omega
  have j:cpC D o i+ni+(if o.isSome then 1 else 0)=cpC D o (i+1):=by
   rw[m.o];unfold cpC;show Ac D i+_+D.na i+_=Ac D i+D.na i+_
   split<;>omega
  have E:cpC D o (i+1)<=cpC D o D.n:=by
   unfold cpC;have h1:=BA D (show i+1<=D.n by omega)
   split<;>omega
  have e8:=qh j;clear j;have e7:=qh E;clear E h8
  go_loopw [43] (λg8 wr=>∃d:Nat,d<=ni/\g8=.int .i64 (d:Int)/\BlN F2 B.heap.size db (cpA D low i d (cpQ D low o i (stsD D D.n M))) one (ac+(cpX D o i:Int)+(d:Int)) fl w2 wr) (λg8 _=>ni-(intOf g8).toNat)
  case atStart=>exact⟨0,Nat.zero_le _,rfl,e5.o⟩
  obtain⟨d,hd,rfl,K⟩:=hrel;clear e5;have I:=qh K;clear K;by_cases i2:d<ni
  ·have l1:(d:Int)<(ni:Int):=by omega
   have j6:(0:Int)<=(d:Int):=by omega
   have d7:=(k6.o (by omega)).1;obtain⟨t0,t1,t2,t3⟩:=k7.o d i2;obtain rfl:=k5.o (by omega);have l:=(a8.o.trans X.o.2.2).trans I.o.2.2;have c0:=(l.cell (p:=(Ad (BB i) (O i+d*4))) d7).trans t0;have c1:=(l.cell (p:=(Ad (BB i) (O i+d*4+1))) d7).trans t1;have c2:=(l.cell (p:=(Ad (BB i) (O i+d*4+2))) d7).trans t2;have c3:=(l.cell (p:=(Ad (BB i) (O i+d*4+3))) d7).trans t3;clear t0 t1 t2 t3;have f8:=Y.o.arc i d a5 (by rw[<-m.o];exact i2);obtain⟨tn,e3⟩:∃tn:Nat,D.ato i d=(tn:Int):=⟨(D.ato i d).toNat,by have:=f8.t0;omega⟩;have k0:tn<n:=by have:=f8.t1;have:=hn.o;omega
   rw[e3]at c3;replace e3:=qh e3;clear f8;clear l;have e9:B.heap.size<=w2.heap.size:=Nat.le_trans d0 X.o.2.2.size;obtain⟨w3,g5⟩:=exq<|wr.alloc (.cells #[.int .i64 (D.ain i d),.int .i64 (D.aout i d),.string (D.aw i d),.int .i64 ((tn:Int)+(low:Int))] 59);have b4:=I.o.alloc e9 (.cells #[.int .i64 (D.ain i d),.int .i64 (D.aout i d),.string (D.aw i d),.int .i64 ((tn:Int)+(low:Int))] 59);rw[<-g5]at b4;have T:=Hc Y.o hS.o a5 (N:=N) (low:=low) (by have:=hN.o;have:=u.o;omega) (by rw[(CX _ _ _ _ _).1];exact a6.o) (EX Y.o hS.o (low:=low) (o:=o) ho.o (by have:=hN.o;have:=u.o;omega) a6.o a3.o i (by omega)) d (by rw[<-m.o];omega);have R:=T.na<|low+i;have h9:=Y.o.n2;have a1:(cpA D low i d (cpQ D low o i (stsD D D.n M))).n=low+D.n:=by rw[MK,(CX _ _ _ _ _).2.2.2,EK,<-u.o]
   have j:=e8.o;have E:=e7.o;have g1:=hc.o;have i6:=FQ D o i;have f5:=d5.o;have c7:=Nat.le_trans R (show c+cpC D o i+d<=100000 by split at j<;>omega)
   have b3:ac+(cpX D o i:Int)+(d:Int)<=100000:=by split at j<;>omega
   have b2:0<=ac+(cpX D o i:Int)+(d:Int):=by omega
   have g:=Jg (q:=low+i) (D.ain i d) (D.aout i d) ((tn:Int)+(low:Int)) (D.aw i d) w3 b4.1 b2 b3 (by have:=b4.2.2.size;omega) (by rw[a1];omega) (by rw[a1];omega) c7;have S:(cpA D low i d (cpQ D low o i (stsD D D.n M))).arc (low+i) (D.ain i d) (D.aout i d) (D.aw i d) ((tn:Int)+(low:Int))=cpA D low i (d+1) (cpQ D low o i (stsD D D.n M)):=by rw[<-e3.o];rfl
   rw[S,show ((low+i:Nat):Int)=(low:Int)+(i:Int) by omega,show ac+(cpX D o i:Int)+(d:Int)+1=ac+(cpX D o i:Int)+((d+1:Nat):Int) by omega]at g;have h:=qh g;clear g S j E g1 f5 a1 R T h9;have c9:=qh b4;clear b4 I
   go_wp2_with fail
   rw[<-g5];clear c0 c1 c2 c3 g5;refine h.o.mono ?_;rintro r w4⟨rfl,h4⟩;have f4:=qh<|c9.o.trans h4;clear h4 c9 h;go_wp2;go_roundw
   case rel=>exact⟨d+1,by omega,by go_num,f4.o⟩
   simp[intOf];omega
  have i9:ni=d:=by omega
  subst i9;have f3:¬((ni:Int)<(ni:Int)):=by omega
  have Q:=(I.o.2.1 sb g2.o).trans e1.o;have s0:wr.cell? (Ad sb 0)=some (.string G):=by simp[World.cell?,Q]
  have f1:BlN F1 B.heap.size db (cpA D low i ni (cpQ D low o i (stsD D D.n M))) one (ac+(cpX D o i:Int)+(ni:Int)) fl W wr:=⟨I.o.1.sub a2.o,λb hb=>(I.o.2.1 b (a2.o b hb)).trans (X.o.2.1 b hb),X.o.2.2.trans I.o.2.2⟩;have s:=qh f1;clear f1 I Q;by_cases L:G=⟨#[]⟩
  ·have S:cpQ D low o (i+1) (stsD D D.n M)=cpA D low i ni (cpQ D low o i (stsD D D.n M)):=by
    show cpF D low o i (cpA D low i (D.na i) (cpQ D low o i (stsD D D.n M)))=_;unfold cpF;rw[ifp (by rw[<-a9.o];exact L),m.o]
   have b6:cpX D o (i+1)=cpX D o i+ni:=by
    show cpX D o i+D.na i+(if D.fin i=⟨#[]⟩ then 0 else if o.isSome then 1 else 0)=_
    rw[ifp (by rw[<-a9.o];exact L),m.o];omega
   have hB:=s.o;rw[<-S,show ac+(cpX D o i:Int)+(ni:Int)=ac+(cpX D o (i+1):Int) by rw[b6];omega]at hB;have i7:=qh hB;clear hB S b6 s;subst L;go_wp2;go_roundw
   case rel=>exact⟨i+1,by omega,by go_num,i7.o⟩
   simp[intOf];omega
  have l3:(G.toList==[])=false:=by
   cases hE:(G.toList==[])
   ·rfl
   exact absurd (Ec hE) L
  have S:cpQ D low o (i+1) (stsD D D.n M)=lvD o (low+i) G (cpA D low i ni (cpQ D low o i (stsD D D.n M))):=by
   show cpF D low o i (cpA D low i (D.na i) (cpQ D low o i (stsD D D.n M)))=_;unfold cpF;rw[ifn (by rw[<-a9.o];exact L),m.o,a9.o]
  have b6:((cpX D o (i+1):Nat):Int)=(cpX D o i:Int)+(ni:Int)+lvN o:=by
   show ((cpX D o i+D.na i+(if D.fin i=⟨#[]⟩ then 0 else if o.isSome then 1 else 0):Nat):Int)=_
   rw[ifn (by rw[<-a9.o];exact L),m.o];unfold lvN
   split<;>omega
  have T:=Hc Y.o hS.o a5 (N:=N) (low:=low) (by have:=hN.o;have:=u.o;omega) (by rw[(CX _ _ _ _ _).1];exact a6.o) (EX Y.o hS.o (low:=low) (o:=o) ho.o (by have:=hN.o;have:=u.o;omega) a6.o a3.o i (by omega)) ni (by rw[<-m.o];omega);have R:=T.na<|low+i;have h9:=Y.o.n2;have a1:(cpA D low i ni (cpQ D low o i (stsD D D.n M))).n=low+D.n:=by rw[MK,(CX _ _ _ _ _).2.2.2,EK,<-u.o]
  have j:=e8.o;have E:=e7.o;have g1:=hc.o;have f5:=d5.o;have i6:=FQ D o i;have h6:P wr:=d4.o W wr b1.o (λb hb=>s.o.2.1 b (b0.o b hb));have c7:=Nat.le_trans R (show c+cpC D o i+ni<=100000 by split at j<;>omega)
  have b3:ac+(cpX D o i:Int)+(ni:Int)<=100000:=by split at j<;>omega
  have b2:0<=ac+(cpX D o i:Int)+(ni:Int):=by omega
  have g:=g4.o F1 wr _ one _ fl (low+i) G h6 s.o.1 (by have:=s.o.2.2.size;omega) (by rw[a1];omega) (by rw[a1];omega) c7 b2 b3;rw[<-S,show ((low+i:Nat):Int)=(low:Int)+(i:Int) by omega,show ac+(cpX D o i:Int)+(ni:Int)+lvN o=ac+(cpX D o (i+1):Int) by rw[b6];omega]at g;have h:=qh g;clear g S b6 T R a1 j E g1 f5 i6 h6;replace L:=qh L
  go_wp2_with fail
  refine h.o.mono ?_;rintro r w4⟨rfl,h4⟩;have f4:=qh<|s.o.trans h4;clear h4 h s;go_wp2;go_roundw
  case rel=>exact⟨i+1,by omega,by go_num,f4.o⟩
  simp[intOf];omega
 have j0:n=i:=by omega
 subst j0;have f3:¬((n:Int)<(n:Int)):=by omega
 have Q:=(k.o.2.1 mb d8.o).trans b8.o;have m1:=(cells4 Q).1.2.1;have hB:=k.o;rw[hn.o]at hB;have b7:BlN F B.heap.size db (AV D o M) one (ac+(cpX D o D.n:Int)) fl w wr:=by
  have e:AV D o M=cpQ D low o D.n (stsD D D.n M):=by rw[u.o];rfl
  rw[e];exact⟨hB.1.sub b0.o,λb hb=>(hB.2.1 b (b0.o b hb)).trans (d9.o b hb),d6.o.trans hB.2.2⟩
 replace b7:=qh b7;clear hB Q k;go_wp2;go_ret;exact⟨by rw[<-u.o,e2.o];rfl,b7.o⟩
end
section
open Go.RowKit Go.Deep
variable{D:MD}{F:Nat->Prop}{B db:Nat}{one:ByteArray}{ac fl:Int}{w:World}
def twoN(D E:MD)(e:Int):Prop:=(VM D/\VM E/\D.kind=E.kind/\e=0)\/(VM D/\VM E/\D.kind≠E.kind/\e=6)\/(¬(VM D/\VM E)/\e=1)
def TwoE(D E:MD)(w:World)(r:Ending)(w':World):Prop:=Below w.heap.size w w'/\∃e:Int,r=.returned (.int .i64 e)/\twoN D E e
def SR{E:MD}{mv nv:Value}(w:World)(hM:Ma none w mv D)(hN:Ma none w nv E)(S:MSz D)(O:MSz E)(Y:Tab w):Calls prog 108 #[mv,nv] w (TwoE D E w):=by
 obtain⟨sv,rfl,hS⟩:=hM;obtain⟨sw,rfl,s⟩:=hN;obtain⟨a,W,_,_,_,_,_,_,a1,_⟩:=hS.open;obtain⟨a2,I,_,_,_,_,_,_,a3,_⟩:=s.open;subst a1;subst a3;obtain⟨C,l⟩:=exq<|w.alloc (.cells #[.int .i64 D.kind,.int .i64 D.start,.string D.lead,.slice a D.n W] 24);obtain⟨F,o⟩:=exq<|C.alloc (.cells #[.int .i64 E.kind,.int .i64 E.start,.string E.lead,.slice a2 E.n I] 24);have T:C.heap.size=w.heap.size+1:=by rw[l];simp
 have R:Fr (λ_=>False) w C:=by rw[l];exact Fr.alloc _ _
 have J:Fr (λ_=>False) C F:=by rw[o];exact Fr.alloc _ _
 have K:C.heap[w.heap.size]?=some (.cells #[.int .i64 D.kind,.int .i64 D.start,.string D.lead,.slice a D.n W] 24 (0,0)):=by rw[l];exact han w _
 have c:F.heap[w.heap.size]?=some (.cells #[.int .i64 D.kind,.int .i64 D.start,.string D.lead,.slice a D.n W] 24 (0,0)):=(J.block _ (lbk K) (λe=>e)).trans K;have d:F.heap[w.heap.size+1]?=some (.cells #[.int .i64 E.kind,.int .i64 E.start,.string E.lead,.slice a2 E.n I] 24 (0,0)):=by rw[<-T,o];exact han C _
 have u:Below w.heap.size w F:=(R.trans J).below nlr (λ_ e=>e.elim);obtain⟨mb,L⟩:=exq<|w.heap.size;obtain⟨nb,N⟩:=exq<|w.heap.size+1;obtain⟨⟨m0,m1,Z,m3⟩,_⟩:=cells4 c;have P:=qh<|Ds F (⟨_,rfl,hS.kept (Ab u none)⟩:Ma none F (.agg #[.int .i64 D.kind,.int .i64 D.start,.string D.lead,.slice a D.n W]) D) S (Y.below u nlr);rw[<-L]at c;rw[<-N]at d;have G:=qh u;clear u;have i:=qh c;clear c K R J T;have j:=qh d;clear d;replace s:=qh s;clear hS;replace Y:=qh Y;clear S;replace O:=qh O;rw[o,l]at m0 m1 Z m3
 go_enter func108,ntmps108
 go_wp2_with fail
 rw[<-l,<-o,<-N,<-L];clear m0 m1 Z m3 l o L N;refine P.o.mono ?_;rintro r w3⟨z,hr⟩;have B:=G.o.trans<|z.mono G.o.size;have c:=(z.block _ (lbk i.o)).trans i.o;have d:=(z.block _ (lbk j.o)).trans j.o;obtain⟨⟨m0,m1,Z,m3⟩,_⟩:=cells4 c;obtain⟨⟨n0,n1,n2,n3⟩,_⟩:=cells4 d;clear z i j P G;have k:=qh B;clear B;have i:=qh c;clear c;have j:=qh d;clear d
 rcases hr with⟨m,rfl⟩|⟨m,rfl⟩
 rotate_left
 ·have U:=qh m;clear m;go_wp2;go_ret;exact⟨k.o,_,rfl,.inr (.inr ⟨λh=>U.o h.1,rfl⟩)⟩
 have U:=qh m;clear m;have Q:=qh<|Ds w3 (⟨_,rfl,s.o.kept (Ab k.o none)⟩:Ma none w3 (.agg #[.int .i64 E.kind,.int .i64 E.start,.string E.lead,.slice a2 E.n I]) E) O.o (Y.o.below k.o nlr)
 go_wp2_with fail
 refine Q.o.mono ?_;rintro r w4⟨A,hr⟩;have g:=k.o.trans<|A.mono k.o.size;have c:=(A.block _ (lbk i.o)).trans i.o;have d:=(A.block _ (lbk j.o)).trans j.o;clear m0 m1 Z m3 n0 n1 n2 n3;have m0:=(cells4 c).1.1;have n0:=(cells4 d).1.1;clear A i j Q k c d;replace g:=qh g
 rcases hr with⟨m,rfl⟩|⟨m,rfl⟩
 rotate_left
 ·have p:=qh m;clear m;go_wp2;go_ret;exact⟨g.o,_,rfl,.inr (.inr ⟨λh=>p.o h.2,rfl⟩)⟩
 have p:=qh m;clear m;by_cases X:D.kind=E.kind
 ·have H:=qh X;rw[X]at m0;clear X;go_wp2;go_ret;exact⟨g.o,_,rfl,.inl ⟨U.o,p.o,H.o,rfl⟩⟩
 have H:=qh X;go_wp2;go_ret;exact⟨g.o,_,rfl,.inr (.inl ⟨U.o,p.o,H.o,rfl⟩)⟩
section
variable{w:World}{db:Nat}{D:MD}{sv:Value}{one:ByteArray}{ac fl:Int}{t:TypeId}(h:w.heap[db]?=some (.cells (bcs D sv one ac fl) t (0,0)))
include h
theorem BlkB.set2(s:ByteArray):(w.setCell (Ad db 2) (.string s)).heap[db]?=some (.cells (bcs { D with lead:=s } sv one ac fl) t (0,0)):=by
 unfold bcs at h ⊢;simp[World.setCell,Array.getElem?_modify,h]
theorem BlkB.set1(s:Int):(w.setCell (Ad db 1) (.int .i64 s)).heap[db]?=some (.cells (bcs { D with start:=s } sv one ac fl) t (0,0)):=by
 unfold bcs at h ⊢;simp[World.setCell,Array.getElem?_modify,h]
end
theorem BlS.lead(h:BlS F B db D one ac fl w)(s:ByteArray):BlS F B db { D with lead:=s } one ac fl (w.setCell (Ad db 2) (.string s)):=by
 obtain⟨R,sv,c,d⟩:=h;have g:=c.own.other (p:=(Ad db 2)) (Bj c.own.top c.blk (by decide)) (λi hi=>Bj (c.own.row i hi) c.blk (by decide)) (.string s);exact⟨R,sv,⟨BlkB.set2 c.blk s,⟨g.top,g.row,g.apart⟩,c.low⟩,λb hb=>⟨(d b hb).1,by rw[nblk_setCell];exact(d b hb).2.1,(d b hb).2.2⟩⟩
theorem BlS.start(h:BlS F B db D one ac fl w)(s:Int):BlS F B db { D with start:=s } one ac fl (w.setCell (Ad db 1) (.int .i64 s)):=by
 obtain⟨R,sv,c,d⟩:=h;have g:=c.own.other (p:=(Ad db 1)) (Bj c.own.top c.blk (by decide)) (λi hi=>Bj (c.own.row i hi) c.blk (by decide)) (.int .i64 s);exact⟨R,sv,⟨BlkB.set1 c.blk s,⟨g.top,g.row,g.apart⟩,c.low⟩,λb hb=>⟨(d b hb).1,by rw[nblk_setCell];exact(d b hb).2.1,(d b hb).2.2⟩⟩
theorem BlS.cells(h:BlS F B db D one ac fl w):(∃v,w.cell? (Ad db 1)=some (.int .i64 v))/\w.cell? (Ad db 2)=some (.string D.lead)/\∀j,w.frozen? (Ad db j)=false:=by
 obtain⟨R,sv,c,d⟩:=h;exact⟨⟨_,BlkB.c1 c.blk⟩,BlkB.c2 c.blk,BlkB.fz c.blk⟩
end
end Go.Proofs.YteappjogmnogcaaGreatDoor
