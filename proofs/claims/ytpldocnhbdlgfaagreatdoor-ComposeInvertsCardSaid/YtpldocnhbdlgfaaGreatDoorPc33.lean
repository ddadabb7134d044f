/- Parts. -/
import Derived.Test.YtpldocnhbdlgfaaGreatDoorPc30
import Derived.Test.YtpldocnhbdlgfaaGreatDoorPc29
namespace Go.Proofs.YtpldocnhbdlgfaaGreatDoor
set_option maxRecDepth 100000
set_option linter.all false
set_option maxHeartbeats 16000000
open Go Tryz
section
open Go.RowKit Go.Deep
variable{b c n:Nat}{fl:Int}{w:World}{sv:Value}{D:MD}{R:Nat->Value}
def AQ{j:Nat}{v:Value}(h:b≠c):(w.setCell (Ad c j) v).heap[b]?=w.heap[b]?:=Ay (p:=(Ad c j)) h v
def ccs(A B:MD)(sa sb:Value)(D:MD)(sv:Value)(pb:Nat)(qv:Value)(ac fl:Int):Array Value :=
 #[.int .i64 A.kind,.int .i64 A.start,.string A.lead,sa,.int .i64 B.kind,.int .i64 B.start,.string B.lead,sb,.int .i64 D.kind,.int .i64 D.start,.string D.lead,sv,.map (some pb),qv,.int .i64 ac,.int .i64 fl]
def plC(x:Plc):List Value:=[.int .i64 (x.1:Int),.int .i64 (x.2.1:Int),.bool x.2.2]
def plL(l:List Plc):List Value:=l.flatMap plC
theorem Vf(l:List Plc)(x:Plc):plL (l++[x])=plL l++plC x:=by unfold plL;simp
section
variable{w:World}{cb:Nat}{A B:MD}{sa sb:Value}{D:MD}{sv:Value}{pb:Nat}{qv:Value}{ac fl:Int}{t:TypeId}(h:w.heap[cb]?=some (.cells (ccs A B sa sb D sv pb qv ac fl) t (0,0)))
include h
theorem Ccs.c0:w.cell? (Ad cb 0)=some (.int .i64 A.kind):=by unfold ccs at h;simp[World.cell?,h]
theorem Ccs.c3:w.cell? (Ad cb 3)=some sa:=by unfold ccs at h;simp[World.cell?,h]
theorem Ccs.c7:w.cell? (Ad cb 7)=some sb:=by unfold ccs at h;simp[World.cell?,h]
theorem Ccs.c8:w.cell? (Ad cb 8)=some (.int .i64 D.kind):=by unfold ccs at h;simp[World.cell?,h]
theorem Ccs.c9:w.cell? (Ad cb 9)=some (.int .i64 D.start):=by unfold ccs at h;simp[World.cell?,h]
theorem Ccs.c10:w.cell? (Ad cb 10)=some (.string D.lead):=by unfold ccs at h;simp[World.cell?,h]
theorem Ccs.c11:w.cell? (Ad cb 11)=some sv:=by unfold ccs at h;simp[World.cell?,h]
theorem Ccs.c12:w.cell? (Ad cb 12)=some (.map (some pb)):=by unfold ccs at h;simp[World.cell?,h]
theorem Ccs.c13:w.cell? (Ad cb 13)=some qv:=by unfold ccs at h;simp[World.cell?,h]
theorem Ccs.c14:w.cell? (Ad cb 14)=some (.int .i64 ac):=by unfold ccs at h;simp[World.cell?,h]
theorem Ccs.c15:w.cell? (Ad cb 15)=some (.int .i64 fl):=by unfold ccs at h;simp[World.cell?,h]
theorem Ccs.fz(j:Nat):w.frozen? (Ad cb j)=false:=by simp[World.frozen?,h]
theorem Ccs.set11(v:Value):(w.setCell (Ad cb 11) v).heap[cb]?=some (.cells (ccs A B sa sb D v pb qv ac fl) t (0,0)):=by
 unfold ccs at h ⊢;simp[World.setCell,Array.getElem?_modify,h]
theorem Ccs.set13(v:Value):(w.setCell (Ad cb 13) v).heap[cb]?=some (.cells (ccs A B sa sb D sv pb v ac fl) t (0,0)):=by
 unfold ccs at h ⊢;simp[World.setCell,Array.getElem?_modify,h]
theorem Ccs.set14(a:Int):(w.setCell (Ad cb 14) (.int .i64 a)).heap[cb]?=some (.cells (ccs A B sa sb D sv pb qv a fl) t (0,0)):=by
 unfold ccs at h ⊢;simp[World.setCell,Array.getElem?_modify,h]
theorem Ccs.set15(a:Int):(w.setCell (Ad cb 15) (.int .i64 a)).heap[cb]?=some (.cells (ccs A B sa sb D sv pb qv ac a) t (0,0)):=by
 unfold ccs at h ⊢;simp[World.setCell,Array.getElem?_modify,h]
end
structure Cps(w:World)(B0 cb:Nat)(A B:MD)(sa sb:Value)(la lq:List Plc)(D:MD)(R:Nat->Value)(sv:Value)(pb:Nat)(qv:Value)(ac fl:Int):Prop where
 blk:w.heap[cb]?=some (.cells (ccs A B sa sb D sv pb qv ac fl) 70 (0,0))
 own:OwM w B0 sv D R
 que:w.ownsRow B0 74 3 qv lq.length (plL lq)
 mp:MpP w pb la
 low:B0<=cb
 lowp:B0<=pb
def FreP(w:World)(sv:Value)(R:Nat->Value)(n:Nat)(pb:Nat)(qv:Value)(b:Nat):Prop:=b<w.heap.size/\b≠pb/\sv.ownBlock≠some b/\(∀i,i<n->(R i).ownBlock≠some b)/\qv.ownBlock≠some b
def FrPK(cb:Nat)(w:World)(sv:Value)(R:Nat->Value)(n pb:Nat)(qv:Value)(w':World)(sv':Value)(R':Nat->Value)(n':Nat)(qv':Value):Prop:=∀b,b≠cb->FreP w sv R n pb qv b->FreP w' sv' R' n' pb qv' b/\w'.heap[b]?=w.heap[b]?
theorem FrPK.trans{j l:Nat}{w w1 p:World}{sv g i:Value}{R m o:Nat->Value}{n n1 n2:Nat}{qv c d:Value}(h:FrPK j w sv R n l qv w1 g m n1 c)(k:FrPK j w1 g m n1 l c p i o n2 d):FrPK j w sv R n l qv p i o n2 d:=λb hb hf=>by
 obtain⟨s,u⟩:=h b hb hf;obtain⟨z,A⟩:=k b hb s;exact⟨z,A.trans u⟩
theorem OwM.kept2{w':World}{B:Nat}{z:Option Nat}(h:OwM w B sv D R)(c:w.grownBy w' z)(d:∀b,sv.ownBlock=some b->z≠some b)(g:∀i,i<D.n->∀b,(R i).ownBlock=some b->z≠some b):OwM w' B sv D R :=
 ⟨AG h.top c d,λi hi=>AG (h.row i hi) c (g i hi),h.apart⟩
def CpE(B0 cb pb:Nat)(A B:MD)(sa sb:Value)(w:World)(n:Nat)(R:Nat->Value)(sv qv:Value)(la lq:List Plc)(D:MD)(ac fl:Int)(w':World):Prop :=
 (∃R' sv' qv',Cps w' B0 cb A B sa sb la lq D R' sv' pb qv' ac fl/\FrPK cb w sv R n pb qv w' sv' R' D.n qv')/\Below B0 w w'
section
variable{w w':World}{B0 cb pb:Nat}{A B:MD}{sa sb:Value}{la lq:List Plc}{D:MD}{R:Nat->Value}{sv qv:Value}{ac fl:Int}(h:Cps w B0 cb A B sa sb la lq D R sv pb qv ac fl)
include h
theorem Cps.lt:cb<w.heap.size:=lbk h.blk
theorem Cps.nep:cb≠pb:=h.mp.block h.blk
theorem Cps.rows(hb:sv.ownBlock=some b):b≠cb/\b≠pb/\qv.ownBlock≠some b:=by
 refine⟨λe=>Az h.own.top h.blk (by decide) (by rw[hb,e]),λe=>?_,Hv h.own.top h.que (by decide) hb⟩
 rcases h.own.top.2 with⟨rfl,_⟩|⟨g,c,cur,rfl,_,i,_⟩
 ·cases hb
 have d:g=b:=by simpa [Value.ownBlock] using hb
 exact h.mp.block i (d.trans e)
theorem Cps.rowi{i:Nat}(hi:i<D.n)(hb:(R i).ownBlock=some b):b≠cb/\b≠pb/\qv.ownBlock≠some b:=by
 refine⟨λe=>Az (h.own.row i hi) h.blk (by decide) (by rw[hb,e]),λe=>?_,Hv (h.own.row i hi) h.que (by decide) hb⟩
 rcases (h.own.row i hi).2 with⟨c,_⟩|⟨g,d,cur,c,_,k,_⟩
 ·rw[c]at hb;cases hb
 rw[c]at hb;have j:g=b:=by simpa [Value.ownBlock] using hb
 exact h.mp.block k (j.trans e)
theorem Cps.rowq(hb:qv.ownBlock=some b):b≠cb/\b≠pb/\sv.ownBlock≠some b/\∀i,i<D.n->(R i).ownBlock≠some b:=by
 refine⟨λe=>Az h.que h.blk (by decide) (by rw[hb,e]),λe=>?_,λe=>(h.rows e).2.2 hb,λi hi e=>(h.rowi hi e).2.2 hb⟩
 rcases h.que.2 with⟨rfl,_⟩|⟨g,c,cur,rfl,_,j,_⟩
 ·cases hb
 have d:g=b:=by simpa [Value.ownBlock] using hb
 exact h.mp.block j (d.trans e)
theorem Cps.below(hb:Below w.heap.size w w'):Cps w' B0 cb A B sa sb la lq D R sv pb qv ac fl/\FrPK cb w sv R D.n pb qv w' sv R D.n qv :=
 ⟨⟨(hb.block cb h.lt).trans h.blk,⟨AG h.own.top (Ae hb none) (λ_ _=>by simp),λi hi=>AG (h.own.row i hi) (Ae hb none) (λ_ _=>by simp),h.own.apart⟩,AG h.que (Ae hb none) (λ_ _=>by simp),h.mp.kept (hb.block pb h.mp.lt),h.low,h.lowp⟩,
  λb _ hf=>⟨⟨Nat.lt_of_lt_of_le hf.1 hb.size,hf.2⟩,hb.block b hf.1⟩⟩
theorem Cps.map{x:Plc}(d:MpP w' pb (la++[x]))(c:w.grownBy w' (some pb)):Cps w' B0 cb A B sa sb (la++[x]) lq D R sv pb qv ac fl/\FrPK cb w sv R D.n pb qv w' sv R D.n qv :=
 ⟨⟨(c.block cb h.lt (λe=>h.nep (Option.some.inj e))).trans h.blk,h.own.kept2 c (λb hb e=>(h.rows hb).2.1 (Option.some.inj e).symm) (λi hi b hb e=>(h.rowi hi hb).2.1 (Option.some.inj e).symm),AG h.que c (λb hb e=>(h.rowq hb).2.1 (Option.some.inj e).symm),d,h.low,h.lowp⟩,
  λb _ hf=>⟨⟨Nat.lt_of_lt_of_le hf.1 c.size,hf.2⟩,c.block b hf.1 (λe=>hf.2.1 (Option.some.inj e))⟩⟩
theorem Cps.queue{x:Plc}{d:Value}(o:w'.ownsRow B0 74 3 d (lq.length+1) (plL lq++plC x))(k:w.grownBy w' qv.ownBlock)(l:∀c,d.ownBlock=some c->qv.ownBlock=some c\/w.heap.size<=c):
  Cps (w'.setCell (Ad cb 13) d) B0 cb A B sa sb la (lq++[x]) D R sv pb d ac fl/\FrPK cb w sv R D.n pb qv (w'.setCell (Ad cb 13) d) sv R D.n d:=by
 have g:w'.heap[cb]?=some (.cells (ccs A B sa sb D sv pb qv ac fl) 70 (0,0)):=(k.block cb h.lt (λe=>(h.rowq e.symm).1 rfl)).trans h.blk;have j:OwM w' B0 sv D R:=h.own.kept2 k (λb hb e=>(h.rows hb).2.2 e) (λi hi b hb e=>(h.rowi hi hb).2.2 e);refine⟨⟨Ccs.set13 g d,j.other (p:=(Ad cb 13)) (Az j.top g (by decide)) (λi hi=>Az (j.row i hi) g (by decide)) _,?_,?_,h.low,h.lowp⟩,λb hb hf=>⟨⟨?_,hf.2.1,hf.2.2.1,hf.2.2.2.1,λe=>?_⟩,?_⟩⟩
 ·rw[List.length_append,Vf];exact BG o (p:=(Ad cb 13)) (Az o g (by decide)) _
 ·exact h.mp.kept ((AQ (show pb≠cb from h.nep.symm)).trans (k.block pb h.mp.lt (λe=>(h.rowq e.symm).2.1 rfl)))
 ·rw[nblk_setCell];exact Nat.lt_of_lt_of_le hf.1 k.size
 ·rcases l b e with m|m
  ·exact hf.2.2.2.2 m
  have:=hf.1;omega
 rw[AQ hb];exact k.block b hf.1 (λe=>hf.2.2.2.2 e.symm)
theorem Cps.state{o:Obj}{f:ByteArray}{d:Value}(E:w'.ownsRow B0 63 2 d (D.n+1) (cat (st2 D R) D.n++[.string f,.slice none 0 0]))(l:(w.alloc o).grownBy w' sv.ownBlock)(m:∀c,d.ownBlock=some c->sv.ownBlock=some c\/w.heap.size<=c):
  Cps (w'.setCell (Ad cb 11) d) B0 cb A B sa sb la lq (D.state f) (λi=>if i=D.n then .slice none 0 0 else R i) d pb qv ac fl/\FrPK cb w sv R D.n pb qv (w'.setCell (Ad cb 11) d) d (λi=>if i=D.n then .slice none 0 0 else R i) (D.state f).n qv:=by
 have j:∀b,b<w.heap.size->sv.ownBlock≠some b->w'.heap[b]?=w.heap[b]?:=λb hb C=>(l.block b (by simp;omega) (λe=>C e.symm)).trans (blk_alloc_lt _ _ _ hb);have g:w'.heap[cb]?=some (.cells (ccs A B sa sb D sv pb qv ac fl) 70 (0,0)):=(j cb h.lt (λe=>(h.rows e).1 rfl)).trans h.blk;have k:=h.own.state E l;refine⟨⟨Ccs.set11 g d,k.other (p:=(Ad cb 11)) (Az k.top g (by decide)) (λi hi=>Az (k.row i hi) g (by decide)) _,?_,?_,h.low,h.lowp⟩,λb hb hf=>⟨⟨?_,hf.2.1,λe=>?_,λi hi=>?_,hf.2.2.2.2⟩,?_⟩⟩
 ·have u:w'.ownsRow B0 74 3 qv lq.length (plL lq):=AG (World.ownsRow.alloc h.que o) l (λb hb e=>(h.rowq hb).2.2.1 e);exact BG u (p:=(Ad cb 11)) (Az u g (by decide)) _
 ·exact h.mp.kept ((AQ (show pb≠cb from h.nep.symm)).trans (j pb h.mp.lt (λe=>(h.rows e).2.1 rfl)))
 ·rw[nblk_setCell];exact Nat.lt_of_lt_of_le hf.1 (Nat.le_trans (by simp) l.size)
 ·rcases m b e with s|s
  ·exact hf.2.2.1 s
  have:=hf.1;omega
 ·dsimp only
  split
  ·simp[Value.ownBlock]
  have z:i<D.n+1:=hi;exact hf.2.2.2.1 i (by omega)
 rw[AQ hb];exact j b hf.1 hf.2.2.1
theorem Cps.arc{q g cap:Nat}{v':Value}{o:Obj}{a b t:Int}{x:ByteArray}(k:q<D.n)(s:sv=.slice (some (Ad g 0)) D.n cap)(H:w'.ownsRow B0 59 4 v' (D.na q+1) (cat (arc4 D q) (D.na q)++[.int .i64 a,.int .i64 b,.string x,.int .i64 t]))(z:(w.alloc o).grownBy w' (R q).ownBlock)
  (l:∀c,v'.ownBlock=some c->(R q).ownBlock=some c\/w.heap.size<=c) :
  Cps (w'.setCell (Ad g (q*2+1)) v') B0 cb A B sa sb la lq (D.arc q a b x t) (λi=>if i=q then v' else R i) sv pb qv ac fl/\FrPK cb w sv R D.n pb qv (w'.setCell (Ad g (q*2+1)) v') sv (λi=>if i=q then v' else R i) (D.arc q a b x t).n qv:=by
 have d:∀b,b<w.heap.size->(R q).ownBlock≠some b->w'.heap[b]?=w.heap[b]?:=λb hb G=>(z.block b (by simp;omega) (λe=>G e.symm)).trans (blk_alloc_lt _ _ _ hb);have m:sv.ownBlock=some g:=by rw[s];rfl
 have j:=h.rows m;have u:=s;subst u;have C:=h.own.arc (a:=a) (b:=b) (x:=x) (t:=t) k H z l;refine⟨⟨(AQ (show cb≠g from λe=>j.1 e.symm)).trans ((d cb h.lt (λe=>(h.rowi k e).1 rfl)).trans h.blk),C,?_,?_,h.low,h.lowp⟩,λb hb hf=>⟨⟨?_,hf.2.1,hf.2.2.1,λi hi=>?_,hf.2.2.2.2⟩,?_⟩⟩
 ·have E:w'.ownsRow B0 74 3 qv lq.length (plL lq):=AG (World.ownsRow.alloc h.que o) z (λb hb e=>(h.rowq hb).2.2.2 q k e);exact BG E (p:=(Ad g (q*2+1))) j.2.2 _
 ·exact h.mp.kept ((AQ (show pb≠g from λe=>j.2.1 e.symm)).trans (d pb h.mp.lt (λe=>(h.rowi k e).2.1 rfl)))
 ·rw[nblk_setCell];exact Nat.lt_of_lt_of_le hf.1 (Nat.le_trans (by simp) z.size)
 ·dsimp only
  split
  ·intro e
   rcases l b e with F|F
   ·exact hf.2.2.2.1 q k F
   have:=hf.1;omega
  exact hf.2.2.2.1 i hi
 rw[AQ (show b≠g from λe=>hf.2.2.1 (by rw[e];exact m))];exact d b hf.1 (hf.2.2.2.1 q k)
theorem Cps.setFin{q g cap:Nat}{s:ByteArray}(k:q<D.n)(i:sv=.slice (some (Ad g 0)) D.n cap):
  Cps (w.setCell (Ad g (q*2)) (.string s)) B0 cb A B sa sb la lq (D.setFin q s) R sv pb qv ac fl/\FrPK cb w sv R D.n pb qv (w.setCell (Ad g (q*2)) (.string s)) sv R (D.setFin q s).n qv:=by
 have d:sv.ownBlock=some g:=by rw[i];rfl
 have c:=h.rows d;have j:=i;subst j;exact⟨⟨(AQ (show cb≠g from λe=>c.1 e.symm)).trans h.blk,h.own.setFin k s,BG h.que (p:=(Ad g (q*2))) c.2.2 _,h.mp.kept (AQ (show pb≠g from λe=>c.2.1 e.symm)),h.low,h.lowp⟩,
  λb hb hf=>⟨⟨by rw[nblk_setCell];exact hf.1,hf.2⟩,AQ (show b≠g from λe=>hf.2.2.1 (by rw[e];exact d))⟩⟩
theorem Cps.count(a:Int):Cps (w.setCell (Ad cb 14) (.int .i64 a)) B0 cb A B sa sb la lq D R sv pb qv a fl/\FrPK cb w sv R D.n pb qv (w.setCell (Ad cb 14) (.int .i64 a)) sv R D.n qv :=
 ⟨⟨Ccs.set14 h.blk a,h.own.other (p:=(Ad cb 14)) (Az h.own.top h.blk (by decide)) (λi hi=>Az (h.own.row i hi) h.blk (by decide)) _,BG h.que (p:=(Ad cb 14)) (Az h.que h.blk (by decide)) _,h.mp.kept (AQ (show pb≠cb from h.nep.symm)),h.low,h.lowp⟩,
  λb hb hf=>⟨⟨by rw[nblk_setCell];exact hf.1,hf.2⟩,AQ hb⟩⟩
theorem Cps.err(e:Int):Cps (w.setCell (Ad cb 15) (.int .i64 e)) B0 cb A B sa sb la lq D R sv pb qv ac e/\FrPK cb w sv R D.n pb qv (w.setCell (Ad cb 15) (.int .i64 e)) sv R D.n qv :=
 ⟨⟨Ccs.set15 h.blk e,h.own.other (p:=(Ad cb 15)) (Az h.own.top h.blk (by decide)) (λi hi=>Az (h.own.row i hi) h.blk (by decide)) _,BG h.que (p:=(Ad cb 15)) (Az h.que h.blk (by decide)) _,h.mp.kept (AQ (show pb≠cb from h.nep.symm)),h.low,h.lowp⟩,
  λb hb hf=>⟨⟨by rw[nblk_setCell];exact hf.1,hf.2⟩,AQ hb⟩⟩
end
def CtE(cb:Nat)(z:ByteArray × Nat)(w:World)(r:Ending)(w':World):Prop:=r=.returned (.string z.1)/\∃w1,Below w.heap.size w w1/\w'=if z.2=0 then w1 else w1.setCell (Ad cb 15) (.int .i64 (z.2:Int))
theorem IN{k:Int}(w:World)(G:w.cell? (Ad c 0)=some (.int .i64 k)){u:Value}(C:w.cell? (Ad c 15)=some u)(hf:w.frozen? (Ad c 15)=false)(g:c<w.heap.size)(v x:ByteArray)(o:v.size<=9223372036854775807)(p:x.size<=9223372036854775807)(m:Tab w):
  Calls prog 46 #[.pointer (some (Ad c 0)),.string v,.string x] w (CtE c (Ah k v x) w):=by
 have j:=qh<|WB k v x w o p m;clear o p m;obtain⟨z,s⟩:=exq<|Ah k v x;rw[<-s]at j ⊢;clear s;obtain⟨H,i⟩:=z
 go_enter func46,ntmps46
 go_wp2_with fail
 refine j.o.mono ?_;rintro r h⟨rfl,hb⟩;have d:h.cell? (Ad c 15)=w.cell? (Ad c 15):=hb.cell g;have B:h.frozen? (Ad c 15)=false:=(hb.frozen g).trans hf;rw[<-d]at C;replace hb:=qh hb;clear d;by_cases l:i=0
 ·subst l;go_wp2;go_ret;exact⟨rfl,h,hb.o,rfl⟩
 have D:¬((i:Int)=0):=by omega
 have E:decide ((i:Int)=0)=false:=by simp;omega
 have F:((i:Int)==0)=false:=by simp;omega
 have A:=qh l;go_wp2;go_ret;exact⟨rfl,h,hb.o,(ifn A.o).symm⟩
theorem Tp:(prog.info? 74).map (λi=>(i.zero,i.size,i.bytes))=some (some (.agg #[.int .i64 0,.int .i64 0,.bool false]),3,24):=by kernel_rfl
theorem Xu{x:Plc}:∀u ∈ plC x,u.oneCell'=true:=by intro u c;simp[plC]at c;rcases c with rfl|rfl|rfl<;>rfl
def erN(n:Nat)(fl:Int):Int:=if 3000<n then 2 else fl
theorem GM(h:¬3000<n):erN n fl=fl:=ifn h
theorem Jc(h:3000<n):erN n fl=2:=ifp h
theorem LS{L z pb:Nat}{A B:MD}{sa sb:Value}{l:List Plc}{qv:Value}{ac:Int}(w:World)(h:Cps w L z A B sa sb l l D R sv pb qv ac fl)(hl:D.n=l.length)(hB:L<=w.heap.size)(hn:l.length<=100000){x:Plc}(hx:plOk x):
  Calls prog 47 #[.pointer (some (Ad z 0)),plV x] w (λr w'=>r=.returned (.int .i64 (posP l x:Nat))/\CpE L z pb A B sa sb w D.n R sv qv (numP (l,D) x).1 (numP (l,D) x).1 (numP (l,D) x).2 ac (erN (numP (l,D) x).2.n fl) w'):=by
 obtain⟨p,q,f⟩:=x;unfold plV
 dsimp only
 obtain⟨wb,b7⟩:=exq<|w.alloc (.cells #[.int .i64 (p:Int),.int .i64 (q:Int),.bool f] 74);obtain⟨wd,b8⟩:=exq<|wb.drew;obtain⟨H,hH⟩:=exq<|w.heap.size;have j5:Below w.heap.size w wd:=by rw[b8,b7];exact((Below.refl _ w).alloc nlr _).drew
 have b5:wd.heap[H]?=some (.cells #[.int .i64 (p:Int),.int .i64 (q:Int),.bool f] 74 (0,0)):=by rw[b8,b7,hH];exact han w _
 have l3:wd.heap.size=H+1:=by rw[b8,b7,hH];show (w.alloc _).heap.size=_;simp
 obtain⟨s,a1⟩:=h.below j5;have b4:Below L w wd:=j5.mono hB;have T:=s.mp.look hx;have d9:FreP wd sv R D.n pb qv H:=⟨by omega,λe=>by have:=h.mp.lt;omega,λe=>by have:=(World.ownsRow.lt h.own.top H e).2;omega,λi hi e=>by have:=(World.ownsRow.lt (h.own.row i hi) H e).2;omega,λe=>by have:=(World.ownsRow.lt h.que H e).2;omega⟩;have P:H≠z:=by have:=h.lt;omega
 unfold plV at T
 dsimp only at T
 have F:wd.cell? (Ad z 12)=some (.map (some pb))/\wd.cell? (Ad H 0)=some (.int .i64 (p:Int))/\wd.cell? (Ad H 1)=some (.int .i64 (q:Int))/\wd.cell? (Ad H 2)=some (.bool f)/\(Instr.lookup 67 (.map (some pb)) (.agg #[.int .i64 (p:Int),.int .i64 (q:Int),.bool f]) true).run prog wd=.ok (.tuple #[.int .i64 (if (p,q,f) ∈ l then (posP l (p,q,f):Int) else 0),.bool (decide ((p,q,f) ∈ l))]) wd :=
  ⟨Ccs.c12 s.blk,cellOf b5 0 rfl,cellOf b5 1 rfl,cellOf b5 2 rfl,T⟩
 clear T;replace hx:=qh hx;replace hl:=qh hl;replace b5:=qh b5;replace h:=qh h;replace s:=qh s;replace a1:=qh a1;replace b4:=qh b4;clear j5;replace d9:=qh d9;have m4:=qh hH;replace l3:=qh l3;replace P:=qh P;obtain⟨lk,f7⟩:∃lk:Int,lk=(if (p,q,f) ∈ l then (posP l (p,q,f):Int) else 0):=⟨_,rfl⟩
 obtain⟨mb,e3⟩:=exq<|decide ((p,q,f) ∈ l);rw[<-f7,<-e3]at F;replace f7:=qh f7;replace e3:=qh e3;obtain⟨S2,C⟩:=exq<|numP (l,D) (p,q,f);obtain⟨tp,b6⟩:=exq<|posP l (p,q,f);rw[<-C,<-b6]
 go_enter func47,ntmps47
 go_wp2_with fail
 refine AD (λwk=>wk.cell? (Ad z 12)=some (.map (some pb))/\wk.cell? (Ad H 0)=some (.int .i64 (p:Int))/\wk.cell? (Ad H 1)=some (.int .i64 (q:Int))/\wk.cell? (Ad H 2)=some (.bool f)/\(Instr.lookup 67 (.map (some pb)) (.agg #[.int .i64 (p:Int),.int .i64 (q:Int),.bool f]) true).run prog wk=.ok (.tuple #[.int .i64 lk,.bool mb]) wk) 10 (by kernel_rfl) ?_;rw[<-b7,<-b8,<-hH];replace b8:=qh b8;replace b7:=qh b7;clear hH;refine Aa.tm 0 F ?_;refine Aa.tm 1 F ?_;refine Aa.tm 2 F ?_;refine Aa.tm 3 F ?_;refine Aa.tm 4 F ?_;refine Aa.tm 5 F ?_;refine Aa.tm 6 F ?_;refine Aa.tm 7 F ?_;refine Aa.tm 8 F ?_
 try simp only[Act.put,tryL]
 refine Aa.on 9 λK Y=>?_;go_simp;refine Y.out _ _ (.inr F) ?_;clear Y K
 try simp only[Act.put,tryL]
 refine Aa.on 10 λK Y=>?_;go_simp;refine Y.out _ _ (.inl rfl) (Aa.dn ?_);clear Y K F;cases mb
 ·have hm:(p,q,f) ∉ l:=of_decide_eq_false e3.o.symm;have e1:numP (l,D) (p,q,f)=(l++[(p,q,f)],D.state ⟨#[]⟩):=ifn hm;have e2:posP l (p,q,f)=D.n:=(Hl hm).trans hl.o.symm;rw[e1]at C;rw[e2]at b6;subst C b6;clear e1 e2;have m8:D.n<=100000:=by have:=hl.o;omega
  obtain⟨i0,hi,l4,l5,l6⟩:=Dk Tp;obtain⟨i1,l2,i3,i4,i5⟩:=Dk Fc;obtain⟨N,b1⟩:=exq<|wd.drew;obtain⟨d2,d4⟩:=s.o.below (w':=N) (by rw[b1];exact(Below.refl _ wd).drew);have j3:Below L wd N:=by rw[b1];exact(Below.refl _ wd).drew
  obtain⟨h0,G⟩:=d4 H P.o d9.o;have G:=G.trans b5.o;obtain⟨Dm,i2,k6,k7⟩:=d2.mp;obtain⟨kl,j7⟩:=keyP hx.o;obtain⟨w3,e7,e6,j6⟩:=i2.update (val:=.int .i64 (D.n:Int)) lawP underlying67 (by unfold maxLen;omega) j7 (Vh (show D.n<=1000000 by omega));have h8:MpP w3 pb (l++[(p,q,f)]):=MpP.put k6 k7 hm j7 (by have h9:=e6;rw[show ((D.n:Nat):Int)=((l.length:Nat):Int) by rw[hl.o]]at h9;exact h9);unfold plV at e7
  dsimp only at e7
  have a5:N.cell? (Ad z 12)=some (.map (some pb))/\N.cell? (Ad H 0)=some (.int .i64 (p:Int))/\N.cell? (Ad H 1)=some (.int .i64 (q:Int))/\N.cell? (Ad H 2)=some (.bool f):=⟨Ccs.c12 d2.blk,cellOf G 0 rfl,cellOf G 1 rfl,cellOf G 2 rfl⟩;obtain⟨l1,d5⟩:=d2.map h8 j6;have k9:Below L N w3:=(Below.refl L N).grown j6 (Nat.le_trans hB (Nat.le_trans b4.o.size j3.size)) (λk hk=>by cases hk;exact d2.lowp);obtain⟨h2,a9⟩:=d5 H P.o h0;have a9:=a9.trans G;obtain⟨m,b2⟩:=exq<|w3.drew;obtain⟨f2,d6⟩:=l1.below (w':=m) (by rw[b2];exact(Below.refl _ w3).drew);have l0:Below L w3 m:=by rw[b2];exact(Below.refl _ w3).drew
  obtain⟨h6,I⟩:=d6 H P.o h2;have I:=I.trans a9;have k0:=qh<|((a1.o.trans d4).trans d5).trans d6;have i8:=qh<|((b4.o.trans j3).trans k9).trans l0;have c11:=Ccs.c11 s.o.blk;obtain⟨ta,tc,U,_,_⟩:=Au s.o.own.top;rw[U]at c11;obtain⟨qa,qc,a2,_,_⟩:=Au f2.que;have C:m.cell? (Ad z 13)=some (.slice qa l.length qc)/\m.cell? (Ad H 0)=some (.int .i64 (p:Int))/\m.cell? (Ad H 1)=some (.int .i64 (q:Int))/\m.cell? (Ad H 2)=some (.bool f):=⟨by rw[Ccs.c13 f2.blk,a2],cellOf I 0 rfl,cellOf I 1 rfl,cellOf I 2 rfl⟩;have X:=qh U;clear U;replace a2:=qh a2;have j9:=qh f2;clear f2;have g5:=qh h6;clear h6;have g1:=qh I;clear I;have HI:=qh hi;have l7:=qh l4;have l8:=qh l5;have l9:=qh l6;have k4:=qh l2;have g7:=qh i3;have g8:=qh i4;have g9:=qh i5;have HM:=qh hm;clear hi l4 l5 l6 l2 i3 i4 i5 hm d2 d4 j3 h0 G i2 k6 k7 j7 e6 j6 h8 l1 d5 k9 h2 a9 d6 l0
  go_wp2_with fail
  refine AD (λwk=>wk.cell? (Ad z 12)=some (.map (some pb))/\wk.cell? (Ad H 0)=some (.int .i64 (p:Int))/\wk.cell? (Ad H 1)=some (.int .i64 (q:Int))/\wk.cell? (Ad H 2)=some (.bool f)) 6 (by kernel_rfl) ?_;rw[<-b1];clear b1;refine Aa.tm 0 a5 ?_;refine Aa.tm 1 a5 ?_;refine Aa.tm 2 a5 ?_;refine Aa.tm 3 a5 ?_;refine Aa.tm 4 a5 ?_;refine Aa.tm 5 a5 ?_
  try simp only[Act.put,tryL]
  refine Aa.on 6 λK Y=>?_;go_simp;refine Y.out _ _ (.inl rfl) (Aa.dn ?_);clear Y K a5 e7 c11
  go_wp2_with fail
  refine AD (λwk=>wk.cell? (Ad z 13)=some (.slice qa l.length qc)/\wk.cell? (Ad H 0)=some (.int .i64 (p:Int))/\wk.cell? (Ad H 1)=some (.int .i64 (q:Int))/\wk.cell? (Ad H 2)=some (.bool f)) 10 (by kernel_rfl) ?_;rw[<-b2];clear b2;refine Aa.tm 0 C ?_;refine Aa.tm 1 C ?_;refine Aa.tm 2 C ?_;refine Aa.tm 3 C ?_;refine Aa.tm 4 C ?_;refine Aa.tm 5 C ?_
  try simp only[Act.put,tryL]
  refine Aa.on 6 λK Y=>?_;go_simp;obtain⟨Hy,j1⟩:=exq<|m.heap.size;obtain⟨W,f9⟩:=exq<|m.alloc (.cells #[.int .i64 (p:Int),.int .i64 (q:Int),.bool f] 74);have f1:Below m.heap.size m W:=by rw[f9];exact(Below.refl _ m).alloc nlr _
  have j8:W.heap[Hy]?=some (.cells #[.int .i64 (p:Int),.int .i64 (q:Int),.bool f] 74 (0,0)):=by rw[f9,j1];exact han m _
  obtain⟨f3,d7⟩:=j9.o.below f1;obtain⟨h7,O⟩:=d7 H P.o g5.o;have O:=O.trans g1.o;have j2:L<=m.heap.size:=Nat.le_trans hB i8.o.size;have d1:W.cell? (Ad z 13)=some (.slice qa l.length qc)/\W.cell? (Ad H 0)=some (.int .i64 (p:Int))/\W.cell? (Ad H 1)=some (.int .i64 (q:Int))/\W.cell? (Ad H 2)=some (.bool f):=⟨by rw[Ccs.c13 f3.blk,a2.o],cellOf O 0 rfl,cellOf O 1 rfl,cellOf O 2 rfl⟩;have a4:W.ownsRow L 74 3 (.slice qa l.length qc) l.length (plL l):=by rw[<-a2.o];exact f3.que
  have j0:L<=W.heap.size:=Nat.le_trans j2 f1.size;have g4:=qh<|k0.o.trans d7;have g0:=qh<|i8.o.trans (f1.mono j2);have b3:=qh f3;have d0:=qh h7;rw[<-f9,<-j1];clear j1 f9;replace j8:=qh j8;clear f3 d7 h7 O f1 j2;refine Y.out _ _ (.inr d1) ?_;clear Y K C k0 i8 j9 g5 g1
  try simp only[Act.put,tryL]
  refine Aa.on 7 λK Y=>?_;refine wp_append_lies _ (.tmp 34) (.tmp 36) 68 rfl L 74 i0 (.agg #[.int .i64 0,.int .i64 0,.bool false]) 3 24 underlying68 HI.o l7.o l8.o l9.o rfl (by omega) (.slice qa l.length qc) l.length _ (by simp[Act.eval]) a4 (Ad Hy 0) 1 1 (plC (p,q,f)) (by simp[Act.eval]) rfl (Dl (cs:=#[.int .i64 (p:Int),.int .i64 (q:Int),.bool f]) j8.o) Xu (by omega) (by unfold maxLen;omega) (by omega) j0 _ rfl ?_;intro go cq we g d Z e0;have u:W.grownBy we qv.ownBlock:=by rw[a2.o];exact d
  have E:∀c,(Value.slice (some (Ad go 0)) (l.length+1) cq).ownBlock=some c->qv.ownBlock=some c\/W.heap.size<=c:=λc hc=>by
   have e:go=c:=by simpa [Value.ownBlock] using hc
   subst e
   rcases Z with h1|h1
   ·exact .inl (by rw[a2.o];exact h1)
   exact .inr (by omega)
  have d3:we.heap[z]?=some (.cells (ccs A B sa sb D sv pb qv ac fl) 70 (0,0)):=(u.block z b3.o.lt (λe=>(b3.o.rowq e.symm).1 rfl)).trans b3.o.blk;have b0:we.heap[H]?=W.heap[H]?:=u.block H d0.o.1 (λe=>d0.o.2.2.2.2 e.symm);have e9:we.cell? (Ad z 13)=some (.slice qa l.length qc)/\we.cell? (Ad H 0)=some (.int .i64 (p:Int))/\we.cell? (Ad H 1)=some (.int .i64 (q:Int))/\we.cell? (Ad H 2)=some (.bool f):=by
   refine⟨by rw[Ccs.c13 d3,a2.o],?_,?_,?_⟩
   ·exact(by simp only[World.cell?,b0]:we.cell? (Ad H 0)=W.cell? (Ad H 0)).trans d1.2.1
   ·exact(by simp only[World.cell?,b0]:we.cell? (Ad H 1)=W.cell? (Ad H 1)).trans d1.2.2.1
   exact(by simp only[World.cell?,b0]:we.cell? (Ad H 2)=W.cell? (Ad H 2)).trans d1.2.2.2
  have m2:=Ccs.fz d3 13;obtain⟨j,d8⟩:=b3.o.queue (x:=(p,q,f)) g u E;have j4:Below L W (we.setCell (Ad z 13) (.slice (some (Ad go 0)) (l.length+1) cq)):=((Below.refl L W).grown u j0 (λk hk=>(World.ownsRow.lt b3.o.que k hk).1)).setCell (p:=(Ad z 13)) b3.o.low _;obtain⟨w6,f8⟩:=exq<|we.setCell ⟨z,13,none⟩ (.slice (some ⟨go,0,none⟩) (l.length+1) cq);rw[<-f8]at j d8 j4;have g3:=qh<|g4.o.trans d8;clear d8;have i6:=qh<|g0.o.trans j4;clear j4;replace j:=qh j;clear g d u Z E e0 d3 b0 a4 d1 j0 g4 g0 d0;refine Y.out _ _ (.inr e9) ?_;clear Y K
  try simp only[Act.put,tryL]
  refine Aa.tm 8 e9 ?_;refine Aa.tm 9 e9 ?_
  try simp only[Act.put,tryL]
  refine Aa.on 10 λK Y=>?_;go_simp;rw[<-f8];replace f8:=qh f8;refine Y.out _ _ (.inl rfl) (Aa.dn ?_);clear Y K e9 m2;have c11:=Ccs.c11 j.o.blk;rw[X.o]at c11;have k5:L<=w6.heap.size:=Nat.le_trans hB i6.o.size;have f0:∀o wf,(w6.alloc o).grownBy wf sv.ownBlock->wf.heap[z]?=some (.cells (ccs A B sa sb D sv pb (.slice (some (Ad go 0)) (l.length+1) cq) ac fl) 70 (0,0)):=λo wf hg =>
   (hg.block z (by have:=j.o.lt;simp;omega) (λe=>(j.o.rows e.symm).1 rfl)).trans ((blk_alloc_lt _ _ _ j.o.lt).trans j.o.blk)
  replace f0:=qh f0;have a4:w6.ownsRow L 63 2 (.slice ta D.n tc) D.n (cat (st2 D R) D.n):=by rw[<-X.o];exact j.o.own.top
  have g6:=qh a4;clear a4;by_cases h3:3000<D.n+1
  ·have i9:(3000:Int)<(D.n:Int)+1:=by omega
   have m7:decide ((3000:Int)<(D.n:Int)+1)=true:=by simp;omega
   have E3:=qh<|show erN (D.state ⟨#[]⟩).n fl=2 from Jc h3;clear h3
   go_wp2_with (at_builtin;refine wpList_append_lies _ rfl (.tmp 45) (.tmp 47) 23 rfl L 63 i1 (.agg #[.string ⟨#[]⟩,.slice none 0 0]) 2 40 underlying23 k4.o g7.o g8.o g9.o rfl (by omega) (.slice ta D.n tc) D.n _ (by first|rfl|simp[Act.eval,Act.put]) (World.ownsRow.alloc g6.o _) (Ad w6.heap.size 0) 1 1 [.string ⟨#[]⟩,.slice none 0 0] (by first|rfl|simp[Act.eval,Act.put]) rfl (Dl (cs:=#[.string ⟨#[]⟩,.slice none 0 0]) (han w6 _)) KH (by omega) (by unfold maxLen;omega) (by omega) (by simp;omega) _ rfl ?_;intro g2 cp wf g d Z e0;have S:=(by rw[X.o];exact d:(w6.alloc _).grownBy wf sv.ownBlock);have Q:=f0.o _ wf S;have e4:=Ccs.c11 Q;have f4:=Ccs.fz Q 11;have e5:=(Ccs.c15 (Ccs.set11 Q (.slice (some (Ad g2 0)) (D.n+1) cp)));have f5:=Ccs.fz (Ccs.set11 Q (.slice (some (Ad g2 0)) (D.n+1) cp)) 15)
   have E:∀c,(Value.slice (some (Ad g2 0)) (D.n+1) cp).ownBlock=some c->sv.ownBlock=some c\/w6.heap.size<=c:=λc hc=>by
    have e:g2=c:=by simpa [Value.ownBlock] using hc
    subst e
    rcases Z with h1|h1
    ·exact .inl (by rw[X.o];exact h1)
    right;simp at h1;omega
   obtain⟨a7,J⟩:=j.o.state g S E;have a6:Below L w6 (wf.setCell (Ad z 11) (.slice (some (Ad g2 0)) (D.n+1) cp)):=(((Below.refl L w6).alloc k5 (.cells #[.string ⟨#[]⟩,.slice none 0 0] 63)).grown S (by simp;omega) (λk hk=>(World.ownsRow.lt j.o.own.top k hk).1)).setCell (p:=(Ad z 11)) j.o.low _;obtain⟨w7,a8⟩:=exq<|wf.setCell ⟨z,11,none⟩ (.slice (some ⟨g2,0,none⟩) (D.n+1) cp);rw[<-a8]at a7 J a6;have b9:=qh<|g3.o.trans J;clear J;have i7:=qh<|i6.o.trans a6;clear a6;have e8:=qh a7;clear a7;rw[<-a8];clear e5 f5 a8 g d S Z E e0 Q e4 f4 c11;go_ret;obtain⟨h4,h5⟩:=e8.o.err 2;exact⟨rfl,⟨_,_,_,by rw[E3.o];exact h4,b9.o.trans h5⟩,i7.o.setCell (p:=(Ad z 15)) e8.o.low _⟩
  have i9:¬((3000:Int)<(D.n:Int)+1):=by omega
  have m3:decide ((3000:Int)<(D.n:Int)+1)=false:=by simp;omega
  have E3:=qh<|show erN (D.state ⟨#[]⟩).n fl=fl from GM h3;clear h3
  go_wp2_with (at_builtin;refine wpList_append_lies _ rfl (.tmp 45) (.tmp 47) 23 rfl L 63 i1 (.agg #[.string ⟨#[]⟩,.slice none 0 0]) 2 40 underlying23 k4.o g7.o g8.o g9.o rfl (by omega) (.slice ta D.n tc) D.n _ (by first|rfl|simp[Act.eval,Act.put]) (World.ownsRow.alloc g6.o _) (Ad w6.heap.size 0) 1 1 [.string ⟨#[]⟩,.slice none 0 0] (by first|rfl|simp[Act.eval,Act.put]) rfl (Dl (cs:=#[.string ⟨#[]⟩,.slice none 0 0]) (han w6 _)) KH (by omega) (by unfold maxLen;omega) (by omega) (by simp;omega) _ rfl ?_;intro g2 cp wf g d Z e0;have S:=(by rw[X.o];exact d:(w6.alloc _).grownBy wf sv.ownBlock);have Q:=f0.o _ wf S;have e4:=Ccs.c11 Q;have f4:=Ccs.fz Q 11)
  have E:∀c,(Value.slice (some (Ad g2 0)) (D.n+1) cp).ownBlock=some c->sv.ownBlock=some c\/w6.heap.size<=c:=λc hc=>by
   have e:g2=c:=by simpa [Value.ownBlock] using hc
   subst e
   rcases Z with h1|h1
   ·exact .inl (by rw[X.o];exact h1)
   right;simp at h1;omega
  obtain⟨a7,J⟩:=j.o.state g S E;have a6:Below L w6 (wf.setCell (Ad z 11) (.slice (some (Ad g2 0)) (D.n+1) cp)):=(((Below.refl L w6).alloc k5 (.cells #[.string ⟨#[]⟩,.slice none 0 0] 63)).grown S (by simp;omega) (λk hk=>(World.ownsRow.lt j.o.own.top k hk).1)).setCell (p:=(Ad z 11)) j.o.low _;obtain⟨w7,a8⟩:=exq<|wf.setCell ⟨z,11,none⟩ (.slice (some ⟨g2,0,none⟩) (D.n+1) cp);rw[<-a8]at a7 J a6;have b9:=qh<|g3.o.trans J;clear J;have i7:=qh<|i6.o.trans a6;clear a6;have e8:=qh a7;clear a7;rw[<-a8];clear a8 g d S Z E e0 Q e4 f4 c11;go_ret;exact⟨rfl,⟨_,_,_,by rw[E3.o];exact e8.o,b9.o⟩,i7.o⟩
 have hm:(p,q,f) ∈ l:=of_decide_eq_true e3.o.symm;have e1:numP (l,D) (p,q,f)=(l,D):=ifp hm;have e2:lk=(posP l (p,q,f):Int):=f7.o.trans<|ifp hm;rw[e1]at C;rw[<-b6]at e2;subst C;have c11:=Ccs.c11 s.o.blk;have c15:=Ccs.c15 s.o.blk;have m5:=Ccs.fz s.o.blk 15;obtain⟨ta,tc,U,_,_⟩:=Au s.o.own.top;rw[U]at c11;by_cases h3:3000<D.n
 ·have i9:(3000:Int)<(D.n:Int):=by omega
  have E3:=qh<|Jc (fl:=fl) h3;clear h3;have E2:=qh e2;clear e2 hm e1 b6;have X:=qh U;clear U;go_wp2;go_ret;obtain⟨h4,h5⟩:=s.o.err 2;exact⟨by first|rfl|(rw[E2.o];rfl)|(rw[<-E2.o];rfl),⟨_,_,_,by rw[E3.o];exact h4,a1.o.trans h5⟩,b4.o.setCell (p:=(Ad z 15)) s.o.low _⟩
 have i9:¬((3000:Int)<(D.n:Int)):=by omega
 have m3:decide ((3000:Int)<(D.n:Int))=false:=by simp;omega
 have E3:=qh<|GM (fl:=fl) h3;clear h3;have E2:=qh e2;clear e2 hm e1 b6;have X:=qh U;clear U;go_wp2;go_ret;exact⟨by first|rfl|(rw[E2.o];rfl)|(rw[<-E2.o];rfl),⟨_,_,_,by rw[E3.o];exact s.o,a1.o⟩,b4.o⟩
end
end Go.Proofs.YtpldocnhbdlgfaaGreatDoor
