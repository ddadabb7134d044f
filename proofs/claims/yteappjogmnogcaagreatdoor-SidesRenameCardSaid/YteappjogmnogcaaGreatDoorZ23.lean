/- Parts. -/
import Derived.Test.YteappjogmnogcaaGreatDoorZ19
import Derived.Test.YteappjogmnogcaaGreatDoorZ20
namespace Go.Proofs.YteappjogmnogcaaGreatDoor
set_option maxRecDepth 100000
set_option linter.all false
set_option maxHeartbeats 16000000
open Go Tryz
section
open Go.RowKit Go.Deep
variable{w wr:World}{D:MD}{sv:Value}{rb:Nat->Nat}{c d g k l q:Nat}
def OpnG(D:MD)(sel:Int->Int->Bool)(sv:Value)(w:World)(r:Ending)(w':World):Prop :=
 Below w.heap.size w w'/\∃cb stv st e,r=.returned (.pointer (some (Ad cb 0)))/\w.heap.size<=cb/\Scl w' cb D sv stv e/\StV w' stv D.n st/\SilOk D sel st e
structure RwI(w wr:World)(cb gR:Nat)(D:MD)(sel:Int->Int->Bool)(sv:Value)(rb:Nat->Nat)(q:Nat):Prop where
 hb:Below w.heap.size w wr
 sc:Scl wr cb D sv (.slice none 0 0) (serr D sel q)
 own:wr.ownsRow w.heap.size 79 1 (.slice (some (Ad gR 0)) q 60) q ((List.range q).map λi=>.slice (some (Ad (rb i) 0)) D.n D.n)
 rows:∀i,i<q->wr.rowIs (rb i) 9 D.n (λj=>.string (smat D sel i j))
def Ko{B n cap:Nat}{e:TypeId}{l:List Value}(h:w.ownsRow B e 1 (.slice (some (Ad g 0)) n cap) n l):∃cs,w.heap[g]?=some (.cells cs e (0,0)):=by
 rcases h.2 with⟨d,_⟩|⟨k,i,c,d,hb,j,m,o,p,s⟩
 ·cases d
 cases d;exact⟨c,j⟩
structure RoI(w wr:World)(cb gR lb:Nat)(D:MD)(sel:Int->Int->Bool)(sv:Value)(rb:Nat->Nat)(q:Nat)(s:WS):Prop where
 hb:Below w.heap.size w wr
 sc:Scl wr cb D sv (.slice none 0 0) s.2
 own:wr.ownsRow w.heap.size 79 1 (.slice (some (Ad gR 0)) q 60) q ((List.range q).map λi=>.slice (some (Ad (rb i) 0)) D.n D.n)
 rows:∀i,i<q->wr.rowIs (rb i) 9 D.n (λj=>.string (smat D sel i j))
 rl:wr.rowIs lb 9 D.n (λj=>.string (s.1 j))
 ne:∀i,i<q->rb i≠lb
 lc:w.heap.size<=cb
 ll:w.heap.size<=lb
def RwI.keep{g:World}{sel:Int->Int->Bool}(h:RwI w wr c d D sel sv rb q)(hf:Fr (λ_=>False) wr g):RwI w g c d D sel sv rb q :=
 ⟨h.hb.trans (hf.below h.hb.size (λ_ e=>e.elim)),h.sc.kept hf (λe=>e),World.ownsRow.kept h.own ⟨hf.os,hf.tape,hf.output,hf.size,λq j _=>hf.block q j (λe=>e)⟩ (row:=none) (.inr (by simp[Value.ownBlock])),λi hi=>hf.row (h.rows i hi) (λe=>e)⟩
def RwI.row{k:World}{sel:Int->Int->Bool}(h:RwI w wr d l D sel sv rb q)(hf:Fr (λ_=>False) wr k)(m:w.heap.size<=d)(p:wr.heap.size<=g)(o:k.rowIs g 9 D.n (λj=>.string (zrC D.kind j))):RoI w k d l g D sel sv rb q (zrC D.kind,serr D sel q):=by
 have c:=h.keep hf;exact⟨c.hb,c.sc,c.own,c.rows,o,λi hi e=>by have:=(h.rows i hi).lt;omega,m,by have:=h.hb.size;omega⟩
def RoI.keep{j:World}{sel:Int->Int->Bool}{s:WS}(h:RoI w wr c d g D sel sv rb q s)(hf:Fr (λ_=>False) wr j):RoI w j c d g D sel sv rb q s :=
 ⟨h.hb.trans (hf.below h.hb.size (λ_ e=>e.elim)),h.sc.kept hf (λe=>e),World.ownsRow.kept h.own ⟨hf.os,hf.tape,hf.output,hf.size,λq k _=>hf.block q k (λe=>e)⟩ (row:=none) (.inr (by simp[Value.ownBlock])),λi hi=>hf.row (h.rows i hi) (λe=>e),hf.row h.rl (λe=>e),h.ne,h.lc,h.ll⟩
def RoI.gne{i:Nat}{sel:Int->Int->Bool}{s:WS}(h:RoI w wr d c i D sel sv rb q s):c≠d/\c≠i:=by
 obtain⟨j,g⟩:=Ko h.own;refine⟨λe=>?_,λe=>?_⟩
 ·have:=h.sc;unfold Scl at this;rw[<-e,g]at this;simp at this
 exact AA h.rl g (by decide) e.symm
def RoI.stepped{g:World}{j e':Nat}{sel:Int->Int->Bool}{s:WS}(h:RoI w wr c j k D sel sv rb q s)(hf:Fr (λq=>q=c) wr g)(m:Scl g c D sv (.slice none 0 0) e'):RoI w g c j k D sel sv rb q (s.1,e') :=
 ⟨h.hb.trans (hf.below h.hb.size (λq e=>by rw[e];exact h.lc)),m,World.ownsRow.kept h.own ⟨hf.os,hf.tape,hf.output,hf.size,λq l d=>hf.block q l (λe=>d (by rw[e]))⟩ (row:=some c) (.inr (by simp[Value.ownBlock];exact h.gne.1)),λi hi=>hf.row (h.rows i hi) (AA (h.rows i hi) (show wr.heap[c]?=_ from h.sc) (by decide)),hf.row h.rl (AA h.rl (show wr.heap[c]?=_ from h.sc) (by decide)),h.ne,h.lc,h.ll⟩
theorem RoI.put{sel:Int->Int->Bool}{s:WS}(h:RoI w wr d k c D sel sv rb q s)(p:Nat)(x:ByteArray):RoI w (wr.setCell (Ad c p) (.string x)) d k c D sel sv rb q (updS s.1 p x,s.2):=by
 have hf:Fr (λq=>q=c) wr (wr.setCell (Ad c p) (.string x)):=(Fr.refl (λq=>q=c) _).set (p:=(Ad c p)) (.inl rfl) _;refine⟨h.hb.trans (hf.below h.hb.size (λq e=>by rw[e];exact h.ll)),h.sc.kept hf (AA h.rl (show wr.heap[d]?=_ from h.sc) (by decide)).symm,World.ownsRow.kept h.own ⟨hf.os,hf.tape,hf.output,hf.size,λq l g=>hf.block q l (λe=>g (by rw[e]))⟩ (row:=some c) (.inr (by simp[Value.ownBlock];exact h.gne.2)),λi hi=>hf.row (h.rows i hi) (h.ne i hi),(h.rl.set p (.string x)).congr (λj _=>?_),h.ne,h.lc,h.ll⟩;show _=Value.string (updS s.1 p x j);unfold updS;by_cases e:j=p
 ·rw[ifp e,ifp e]
 rw[ifn e,ifn e]
theorem RoI.done{o:World}{sel:Int->Int->Bool}(h:RoI w wr l d c D sel sv rb q (srow D sel q (serr D sel q)))(k:o.ownsRow w.heap.size 79 1 (.slice (some (Ad d 0)) (q+1) 60) (q+1) (((List.range q).map λi=>.slice (some (Ad (rb i) 0)) D.n D.n)++[.slice (some (Ad c 0)) D.n D.n]))(m:wr.grownBy o (some d)):
  RwI w o l d D sel sv (λi=>if i=q then c else rb i) (q+1):=by
 have g:=h.gne;obtain⟨E,p⟩:=Ko h.own;have s:w.heap.size<=d:=by
  rcases h.own.2 with⟨z,_⟩|⟨F,A,B,z,hb,_⟩
  ·cases z
  cases z;exact hb
 refine⟨h.hb.grown m (by have:=h.hb.size;omega) (λj C=>by cases C;exact s),?_,?_,λi hi=>?_⟩
 ·show Scl o l D sv _ (srow D sel q (serr D sel q)).2;have:=h.sc;unfold Scl at this ⊢;rw[m.block l h.sc.lt (by simp;exact λe=>g.1 e.symm)];exact this
 ·have e:((List.range (q+1)).map λi=>Value.slice (some (Ad (if i=q then c else rb i) 0)) D.n D.n)=((List.range q).map λi=>.slice (some (Ad (rb i) 0)) D.n D.n)++[.slice (some (Ad c 0)) D.n D.n]:=by
   rw[List.range_succ,List.map_append]
   congr 1
   ·exact List.map_congr_left λi hi=>by rw[ifn (by have:=List.mem_range.1 hi;omega)]
   simp
  rw[e];exact k
 by_cases e:i=q
 ·subst e;simp only[if_pos];exact h.rl.of_block (m.block c h.rl.lt (by simp;exact λe=>g.2 e.symm))
 simp only[ifn e];have u:=h.rows i (by omega);exact u.of_block (m.block (rb i) u.lt (by simp;exact AA u p (by decide)))
def RwI.mt{m:Nat}{sel:Int->Int->Bool}(h:RwI w wr m c D sel sv rb D.n)(hn:D.n<=60):Mt none wr (.slice (some (Ad c 0)) D.n 60) D.n (λ_=>D.n) (smat D sel):=by
 refine⟨λi=>.slice (some (Ad (rb i) 0)) D.n D.n,?_,λi hi=>?_⟩
 ·rcases h.own.2 with⟨d,_⟩|⟨z,k,o,d,hb,s,A,p,B,C⟩
  ·cases d
  cases d;refine .inr ⟨c,0,60,rfl,⟨(Array.getElem?_eq_some_iff.1 s).1,by simp⟩,hn,p,λi hi=>?_⟩;have:=World.ownsRow.cells h.own (g:=c) rfl i (.slice (some (Ad (rb i) 0)) D.n D.n) (by simp[hi]);rw[Addr.add_lit]at this;exact this
 have l:=h.rows i hi;exact .inr ⟨rb i,0,D.n,rfl,⟨l.lt,by simp⟩,nlr,by unfold maxLen;omega,λj u=>by rw[Nat.zero_add];exact l.cell u⟩
def WZ{nf:FuncId}{sel:Int->Int->Bool}(w:World)(hv:VM D)(hD:StS none w sv D)(g6:∀i k,smS (D.aw i k))(ht:Tab w)(v7:TstA nf #[] sel (λ_=>True)):
  Calls prog 78 #[.agg #[.int .i64 D.kind,.int .i64 D.start,.string D.lead,sv],.func (.func nf) #[] #[]] w (OpnG D sel sv w):=by
 obtain⟨a,s,b,c,A,C,BB,O,rfl,ha,hc,hm,hb,a7⟩:=hD.open;unfold maxLen at hm;obtain⟨z8,i6⟩:=v7;obtain⟨n,N⟩:=exq<|D.n;have y4:n<=3000:=by rw[N];exact hv.n2
 have y3:1<=n:=by rw[N];exact hv.n1
 rw[<-N]at ha hc hb a7 ⊢;have y2:∀w,(Instr.makeSlice 75 (.int .i64 0) (.int .i64 60)).run prog w=.ok (.slice (some (Ad w.heap.size 0)) 0 60) (w.alloc (.cells (madeCells #[.slice none 0 0] 60) 79)):=λ_=>by kernel_rfl
 replace N:=qh N;replace hv:=qh hv;replace ha:=qh ha;replace hb:=qh hb;have HR:=qh a7;clear a7 hD;replace g6:=qh g6;replace ht:=qh ht;replace i6:=qh i6;obtain rfl:=ha.o (by omega);obtain⟨w1,e3⟩:=exq<|w.alloc (.cells #[.int .i64 D.kind,.int .i64 D.start,.string D.lead,.slice (some (Ad b c)) n s] 24);obtain⟨w2,d3⟩:=exq<|w1.alloc (.cells #[.int .i64 D.kind,.int .i64 D.start,.string D.lead,.slice (some (Ad b c)) n s,.slice none 0 0,.int .i64 0] 105);obtain⟨w3,Q⟩:=exq<|w2.alloc (.cells (madeCells #[.slice none 0 0] 60) 79);have g7:w1.heap.size=w.heap.size+1:=by rw[e3];simp
 have o2:w2.heap.size=w.heap.size+1+1:=by rw[d3];simp[g7]
 have r4:Below w.heap.size w w1:=by rw[e3];exact blr.alloc nlr _
 have Z:Below w.heap.size w w2:=by rw[d3];exact r4.alloc (by omega) _
 have r5:Below w.heap.size w w3:=by rw[Q];exact Z.alloc (by omega) _
 have m9:Scl w2 w1.heap.size D (.slice (some (Ad b c)) n s) (.slice none 0 0) 0:=by rw[d3];exact han w1 _
 have n3:Scl w3 w1.heap.size D (.slice (some (Ad b c)) n s) (.slice none 0 0) 0:=by rw[Q];unfold Scl;rw[blk_alloc_lt _ _ _ m9.lt];exact m9
 have j0:BoxM w1 w.heap.size D (.slice (some (Ad b c)) n s):=by rw[e3];exact BoxM.new w D _
 have L:BoxM w3 w.heap.size D (.slice (some (Ad b c)) n s):=by
  rw[Q,d3];exact(j0.kept (World.grownBy_alloc w1 _ none) (by simp)).kept (World.grownBy_alloc _ _ none) (by simp)
 have g2:w3.ownsRow w.heap.size 79 1 (.slice (some (Ad w2.heap.size 0)) 0 60) 0 ((List.range 0).map λi=>.slice (some (Ad ((λ_=>0) i) 0)) D.n D.n):=by
  refine⟨rfl,.inr ⟨w2.heap.size,60,madeCells #[.slice none 0 0] 60,rfl,by omega,by rw[Q];exact han w2 _,by omega,by unfold maxLen;omega,by simp[madeCells],by simp⟩⟩
 rw[o2]at g2;rw[g7]at n3;have m3:=L.c3;rw[Q,d3,e3]at m3;have j9:=qh n3;clear n3 m9;have o4:=qh r5;clear r5 Z r4;have S:=qh L;clear L j0;have e7:=qh g2;clear g2;clear g7 o2
 go_enter func78,ntmps78
 go_wp2_with fail
 rw[<-e3,<-d3,<-Q];obtain⟨B,m7⟩:=exq<|w.heap.size;obtain⟨o,l8⟩:=exq<|w.heap.size+1;obtain⟨gR,m2⟩:=exq<|w.heap.size+1+1;have a9:=qh (show w.heap.size<=o by omega);have x5:=qh (show B≠o by omega);rw[<-l8]at j9;rw[<-m2]at e7;rw[<-m7]at S;rw[<-m2,<-l8,<-m7];clear e3 d3 Q m3 y2 l8 m2 m7
 go_loopw [7,24] (λy i wr=>∃(q:Nat) (bb:Bool),q<=n/\i=.int .i64 (q:Int)/\y=.bool bb/\(bb=false->∀q' d,q' < q->d<D.na q'->sel (D.ain q' d) (D.aout q' d)=false)/\(bb=true->¬NoSel D sel)/\Scl wr o D (.slice (some (Ad b c)) n s) (.slice none 0 0) 0/\Below w.heap.size w wr/\BoxM wr B D (.slice (some (Ad b c)) n s)/\wr.ownsRow w.heap.size 79 1 (.slice (some (Ad gR 0)) 0 60) 0 ((List.range 0).map λi=>.slice (some (Ad ((λ_=>0) i) 0)) D.n D.n)) (λ_ i _=>n-(intOf i).toNat)
 case atStart=>exact⟨0,false,Nat.zero_le _,rfl,rfl,λ_ q' d h=>(by omega),λh=>(by cases h),j9.o,o4.o,S.o,e7.o⟩
 obtain⟨q,bb,hq,rfl,rfl,f0,f2,v3,r6,b6,v0⟩:=hrel;clear j9 o4 S e7;have b5:=qh v3;clear v3;have X:=qh r6;clear r6;have m:=qh b6;clear b6;have g9:=qh v0;clear v0;have a8:=qh f0;clear f0;have c9:=qh f2;clear f2;by_cases m5:q<n
 ·have y7:(q:Int)<(n:Int):=by omega
  have t7:(0:Int)<=(q:Int):=by omega
  have e9:=(hb.o (by omega)).1;obtain⟨k1,k2,k3,k4,k5,k6,k7⟩:=HR.o q m5;obtain⟨aq,e8⟩:=exq<|A q;rw[<-e8]at k2 k5;clear e8;have c0:=(X.o.cell (p:=(Ad b (c+q*2))) e9).trans k1;have c1:=(X.o.cell (p:=(Ad b (c+q*2+1))) e9).trans k2;clear k1 k2;unfold maxLen at k4;have s8:D.na q<=30000:=by have E:=Nat.le_trans (BA D (show q+1<=D.n by have:=N.o;omega)) hv.o.arcs;have h2:Ac D (q+1)=Ac D q+D.na q:=rfl;omega
  have j6:=qh k7;clear k7;have j4:=qh k5;clear k5;have j5:=qh k6;clear k6;obtain⟨wa,H⟩:=exq<|wr.alloc (.cells #[.string (D.fin q),.slice aq (D.na q) (C q)] 57);have g:Fr (λ_=>False) wr wa:=by rw[H];exact Fr.alloc _ _
  have F:=qh (show Scl wa o D (.slice (some (Ad b c)) n s) (.slice none 0 0) 0/\Below w.heap.size w wa/\BoxM wa B D (.slice (some (Ad b c)) n s)/\wa.ownsRow w.heap.size 79 1 (.slice (some (Ad gR 0)) 0 60) 0 ((List.range 0).map λi=>.slice (some (Ad ((λ_=>0) i) 0)) D.n D.n) from
   ⟨b5.o.kept g (λe=>e),X.o.trans (g.below X.o.size (λ_ e=>e.elim)),(g.block _ m.o.lt (λe=>e)).trans m.o,World.ownsRow.kept g9.o ⟨g.os,g.tape,g.output,g.size,λq hq _=>g.block q hq (λe=>e)⟩ (row:=none) (.inr (by simp[Value.ownBlock]))⟩)
  clear g
  go_wp2_with fail
  rw[<-H];clear c0 c1 H b5 X m g9
  go_loopw [7,31] (λy i wr=>∃(d:Nat) (bb:Bool),d<=D.na q/\i=.int .i64 (d:Int)/\y=.bool bb/\(bb=false->(∀q' d,q' < q->d<D.na q'->sel (D.ain q' d) (D.aout q' d)=false)/\∀d',d' < d->sel (D.ain q d') (D.aout q d')=false)/\(bb=true->¬NoSel D sel)/\Scl wr o D (.slice (some (Ad b c)) n s) (.slice none 0 0) 0/\Below w.heap.size w wr/\BoxM wr B D (.slice (some (Ad b c)) n s)/\wr.ownsRow w.heap.size 79 1 (.slice (some (Ad gR 0)) 0 60) 0 ((List.range 0).map λi=>.slice (some (Ad ((λ_=>0) i) 0)) D.n D.n)) (λ_ i _=>D.na q-(intOf i).toNat)
  case atStart=>exact⟨0,bb,Nat.zero_le _,rfl,rfl,λh=>⟨a8.o h,λd' h=>by omega⟩,c9.o,F.o⟩
  obtain⟨d,b2,hd,rfl,rfl,f0,f2,r3⟩:=hrel;clear F a8 c9;have a8:=qh f0;clear f0;have c9:=qh f2;clear f2;have F:=qh r3;clear r3;by_cases f7:d<D.na q
  ·have x8:(d:Int)<(D.na q:Int):=by omega
   have r8:(0:Int)<=(d:Int):=by omega
   have b0:=(j5.o (by omega)).1;obtain⟨t0,t1,t2,t3⟩:=j6.o d f7;obtain rfl:=j4.o (by omega);have c0:=(F.o.2.1.cell (p:=(Ad (BB q) (O q+d*4))) b0).trans t0;have c1:=(F.o.2.1.cell (p:=(Ad (BB q) (O q+d*4+1))) b0).trans t1;have c2:=(F.o.2.1.cell (p:=(Ad (BB q) (O q+d*4+2))) b0).trans t2;have c3:=(F.o.2.1.cell (p:=(Ad (BB q) (O q+d*4+3))) b0).trans t3;clear t0 t1 t2 t3;obtain⟨wa,H⟩:=exq<|wr.alloc (.cells #[.int .i64 (D.ain q d),.int .i64 (D.aout q d),.string (D.aw q d),.int .i64 (D.ato q d)] 59);have g:Fr (λ_=>False) wr wa:=by rw[H];exact Fr.alloc _ _
   have s5:∀wz,Fr (λ_=>False) wr wz->Scl wz o D (.slice (some (Ad b c)) n s) (.slice none 0 0) 0/\Below w.heap.size w wz/\BoxM wz B D (.slice (some (Ad b c)) n s)/\wz.ownsRow w.heap.size 79 1 (.slice (some (Ad gR 0)) 0 60) 0 ((List.range 0).map λi=>.slice (some (Ad ((λ_=>0) i) 0)) D.n D.n):=λwz g =>
    ⟨F.o.1.kept g (λe=>e),F.o.2.1.trans (g.below F.o.2.1.size (λ_ e=>e.elim)),(g.block _ F.o.2.2.1.lt (λe=>e)).trans F.o.2.2.1,World.ownsRow.kept F.o.2.2.2 ⟨g.os,g.tape,g.output,g.size,λq hq _=>g.block q hq (λe=>e)⟩ (row:=none) (.inr (by simp[Value.ownBlock]))⟩
   have j7:=qh s5;clear s5;have j3:=qh g;clear g;cases b2 with
   |true =>
    go_wp2_with fail
    rw[<-H];clear H c0 c1 c2 c3;go_roundw
    case rel=>exact⟨d+1,true,by omega,by go_num,rfl,λh=>by (first|cases h),c9.o,j7.o _ j3.o⟩
    simp[intOf];omega
   |false =>
    have J:=i6.o wa trivial (D.ain q d) (D.aout q d) (D.aw q d) (D.ato q d);obtain⟨sb,g3⟩:=exq<|sel (D.ain q d) (D.aout q d);rw[<-g3]at J;replace g3:=qh g3;have HC:=qh J;clear J
    go_wp2_with fail
    rw[<-H];clear H c0 c1 c2 c3;refine HC.o.mono ?_;rintro r w2⟨rfl,Z⟩;have HX:=qh<|j7.o w2 (j3.o.trans (Fr.of_below Z));clear Z HC j7 j3 F;go_wp2;go_roundw
    case rel =>
     refine⟨d+1,sb,by omega,by go_num,rfl,λh=>⟨(a8.o (by first|rfl|trivial)).1,λd' z7=>?_⟩,λh h9=>?_,HX.o⟩
     ·by_cases e:d'=d
      ·rw[e,<-g3.o];exact h
      exact(a8.o (by first|rfl|trivial)).2 d' (by omega)
     have:=h9 q d (by have:=N.o;omega) f7;rw[<-g3.o,h]at this;cases this
    simp[intOf];omega
  have m4:¬((d:Int)<(D.na q:Int)):=by omega
  go_wp2;go_roundw
  case rel =>
   refine⟨q+1,b2,by omega,by go_num,rfl,λh q' d' E h2=>?_,c9.o,F.o⟩;by_cases e:q'=q
   ·subst e;exact(a8.o h).2 d' (by omega)
   exact(a8.o h).1 q' d' (by omega) h2
  simp[intOf];omega
 have m4:¬((q:Int)<(n:Int)):=by omega
 have i2:q=D.n:=by have:=N.o;omega
 cases bb with
 |false =>
  have h9:NoSel D sel:=λq' d E h2=>a8.o rfl q' d (by omega) h2;have e0:=qh h9;clear h9 i2;go_wp2;go_ret;exact⟨X.o,o,_,none,0,rfl,a9.o,b5.o,rfl,.inl ⟨e0.o,rfl,rfl⟩⟩
 |true =>
  clear i2;have e0:=qh<|c9.o rfl;have m3:=m.o.c3;have m0:=m.o.c0;by_cases z6:60<n
  ·have q7:(60:Int)<(n:Int):=by omega
   have f5:=b5.o.fz 5;have c5:=b5.o.c5;have a1:Fr (λq=>q=o) wr (wr.setCell (Ad o 5) (.int .i64 ((2:Nat):Int))):=(Fr.refl (λq=>q=o) _).set (p:=(Ad o 5)) (.inl rfl) _;have x4:=qh a1;clear a1;go_wp2;go_ret;refine⟨X.o.trans (x4.o.below X.o.size (λq e=>by rw[e];exact a9.o)),o,_,none,2,rfl,a9.o,b5.o.setE 2,rfl,.inr (.inr ⟨e0.o,by omega,rfl,.inl (by have:=N.o;omega)⟩)⟩
  have q7:decide ((60:Int)<(n:Int))=false:=by simp;omega
  have z3:n<=60:=by omega
  have o7:=qh (show RwI w wr o gR D sel (.slice (some (Ad b c)) n s) (λ_=>0) 0 from ⟨X.o,b5.o,g9.o,λi hi=>by omega⟩);clear b5 X g9 a8 c9
  go_wp2_with fail
  clear m3 m0
  go_loopw [6,57] (λv6 i wr=>∃(q:Nat) (rb:Nat->Nat),q<=n/\i=.int .i64 (q:Int)/\v6=.slice (some (Ad gR 0)) q 60/\RwI w wr o gR D sel (.slice (some (Ad b c)) n s) rb q/\BoxM wr B D (.slice (some (Ad b c)) n s)) (λ_ i _=>n-(intOf i).toNat)
  case atStart=>exact⟨0,_,Nat.zero_le _,rfl,rfl,o7.o,m.o⟩
  obtain⟨q,rb,hq,rfl,rfl,hi,b6⟩:=hrel;clear o7 m;have HI:=qh hi;clear hi;have m:=qh b6;clear b6;by_cases m5:q<n
  ·have y7:(q:Int)<(n:Int):=by omega
   have t7:(0:Int)<=(q:Int):=by omega
   have e9:=(hb.o (by omega)).1;obtain⟨k1,k2,k3,k4,k5,k6,k7⟩:=HR.o q m5;obtain⟨aq,e8⟩:=exq<|A q;rw[<-e8]at k2 k5;clear e8;have c0:=(HI.o.hb.cell (p:=(Ad b (c+q*2))) e9).trans k1;have c1:=(HI.o.hb.cell (p:=(Ad b (c+q*2+1))) e9).trans k2;have z5:=qh k2;clear k1 k2;unfold maxLen at k4;have s8:D.na q<=30000:=by have E:=Nat.le_trans (BA D (show q+1<=D.n by have:=N.o;omega)) hv.o.arcs;have h2:Ac D (q+1)=Ac D q+D.na q:=rfl;omega
   have j6:=qh k7;clear k7;have j4:=qh k5;clear k5;have j5:=qh k6;clear k6;obtain⟨wa,H⟩:=exq<|wr.alloc (.cells #[.string (D.fin q),.slice aq (D.na q) (C q)] 57);obtain⟨xb,n9⟩:=exq<|wr.heap.size;have g:Fr (λ_=>False) wr wa:=by rw[H];exact Fr.alloc _ _
   have n7:wa.heap[xb]?=some (.cells #[.string (D.fin q),.slice aq (D.na q) (C q)] 57 (0,0)):=by rw[H,n9];exact han wr _
   obtain⟨wd,d5⟩:=exq<|wa.drew;have b9:Fr (λ_=>False) wa wd:=by rw[d5];exact(Fr.refl _ _).drew
   have g1:=g.trans b9;have W:BoxM wd B D (.slice (some (Ad b c)) n s):=(g1.block _ m.o.lt (λe=>e)).trans m.o;have d6:wd.heap[xb]?=_:=(b9.block xb (lbk n7) (λe=>e)).trans n7;have l:wd.cell? (Ad B 0)=some (.int .i64 D.kind)/\wd.cell? (Ad B 3)=some (.slice (some (Ad b c)) n s):=⟨W.c0,W.c3⟩;obtain⟨kz,h7⟩:=exq<|Af D.kind;have o3:=Gy D.kind wd;rw[<-h7]at o3;have p9:=qh o3;clear o3;replace h7:=qh h7;have U:=qh W;clear W m;have e1:=qh d6;clear d6 n7;have o6:=qh g1;clear g1 b9 g
   go_wp2_with fail
   refine Au (λwk=>wk.cell? (Ad B 0)=some (.int .i64 D.kind)/\wk.cell? (Ad B 3)=some (.slice (some (Ad b c)) n s)) 8 (by kernel_rfl) ?_;rw[<-H,<-n9,<-d5];clear H n9 d5 c0 c1;refine Aa.tm 0 l ?_;refine Aa.tm 1 l ?_;refine Aa.tm 4 l ?_;refine Aa.tm 5 l ?_;refine Aa.tm 6 l ?_
   try simp only[Act.put,tryL]
   refine Aa.on 2 λK hK=>?_;go_simp;refine p9.o.mono ?_;rintro r w2⟨rfl,Z⟩;have r9:Fr (λ_=>False) wr w2:=o6.o.trans<|Fr.of_below Z;have d8:BoxM w2 B D (.slice (some (Ad b c)) n s):=(Z.block _ U.o.lt).trans U.o;have v8:=(Z.block xb (lbk e1.o)).trans e1.o;have q8:w2.cell? (Ad B 0)=some (.int .i64 D.kind)/\w2.cell? (Ad B 3)=some (.slice (some (Ad b c)) n s):=⟨d8.c0,d8.c3⟩;have e4:=qh d8;clear d8 U;have k9:=qh v8;clear v8 e1;have o5:=qh r9;clear r9 o6 Z;refine hK.out _ _ (.inr q8) ?_;clear hK K l p9
   try simp only[Act.put,tryL]
   refine Aa.on 3 λK hK=>?_;go_simp;obtain⟨w3,Q⟩:=exq<|w2.alloc (.cells #[.string kz] 9);have h5:Fr (λ_=>False) w2 w3:=by rw[Q];exact Fr.alloc _ _
   have c7:w3.cell? (Ad w2.heap.size 0)=some (.string kz):=by rw[Q];exact CV w2 _ _ 0 _ rfl
   have L:BoxM w3 B D (.slice (some (Ad b c)) n s):=(h5.block _ e4.o.lt (λe=>e)).trans e4.o;have v9:=(h5.block xb (lbk k9.o) (λe=>e)).trans k9.o;have q9:w3.cell? (Ad B 0)=some (.int .i64 D.kind)/\w3.cell? (Ad B 3)=some (.slice (some (Ad b c)) n s):=⟨L.c0,L.c3⟩;have p6:=qh<|XT (n:=n) (xb:=w2.heap.size) (xo:=0) (xc:=1) (z:=kz) w3 y3 y4 c7;have S:=qh L;clear L e4;have l0:=qh v9;clear v9 k9;have j2:=qh<|o5.o.trans h5;clear h5 o5 c7;rw[<-Q];clear Q;refine hK.out _ _ (.inr q9) ?_;clear hK K q8
   try simp only[Act.put,tryL]
   refine Aa.on 7 λK hK=>?_;go_simp;refine p6.o.mono ?_;rintro r w4⟨h3,lb,rfl,y1,t9⟩;have s3:Fr (λ_=>False) wr w4:=j2.o.trans<|Fr.of_below h3;have d9:BoxM w4 B D (.slice (some (Ad b c)) n s):=(h3.block _ S.o.lt).trans S.o;have w0:=(h3.block xb (lbk l0.o)).trans l0.o;have r0:w4.cell? (Ad B 0)=some (.int .i64 D.kind)/\w4.cell? (Ad B 3)=some (.slice (some (Ad b c)) n s):=⟨d9.c0,d9.c3⟩;have a2:RoI w w4 o gR lb D sel (.slice (some (Ad b c)) n s) rb q (zrC D.kind,serr D sel q):=HI.o.row s3 a9.o (by have:=j2.o.size;omega) (by
    have E:w4.rowIs lb 9 D.n (λ_=>.string kz):=by rw[<-N.o];exact t9
    exact E.congr (λ_ _=>by show Value.string kz=.string (Af D.kind);rw[h7.o]))
   have P:=qh a2;clear a2 t9 s3 j2;have i7:=qh d9;clear d9 S;have p8:=qh w0;clear w0 l0;refine hK.out _ _ (.inr r0) ?_;clear hK K q9 p6 h3 y1
   try simp only[Act.put,tryL]
   refine Aa.on 8 λK hK=>?_;go_simp;refine hK.out _ _ (.inl rfl) (Aa.dn ?_);clear hK K r0 HI;obtain⟨s0,i3⟩:∃s0:WS,s0=(zrC D.kind,serr D sel q):=⟨_,rfl⟩;have g4:∀j,smS (s0.1 j):=by rw[i3];exact RI _
   have a7:srow D sel q (serr D sel q)=BX D sel q (D.na q) s0:=by rw[i3];rfl
   rw[<-i3]at P;have p0:=qh a7;clear a7;replace g4:=qh g4;clear i3;have x1:=cellOf p8.o 1 rfl
   go_wp2_with fail
   clear x1
   go_loopw [72] (λi wr=>∃d:Nat,d<=D.na q/\i=.int .i64 (d:Int)/\RoI w wr o gR lb D sel (.slice (some (Ad b c)) n s) rb q (BX D sel q d s0)/\BoxM wr B D (.slice (some (Ad b c)) n s)) (λi _=>D.na q-(intOf i).toNat)
   case atStart=>exact⟨0,Nat.zero_le _,rfl,P.o,i7.o⟩
   obtain⟨d,hd,rfl,a2,b6⟩:=hrel;clear P i7 p8;obtain⟨s1,d2⟩:=exq<|BX D sel q d s0;rw[<-d2]at a2;have m:=qh b6;clear b6;have P:=qh a2;clear a2;by_cases f7:d<D.na q
   ·have x8:(d:Int)<(D.na q:Int):=by omega
    have r8:(0:Int)<=(d:Int):=by omega
    have b0:=(j5.o (by omega)).1;obtain⟨t0,t1,t2,t3⟩:=j6.o d f7;obtain rfl:=j4.o (by omega);have l5:=hv.o.arc q d (by have:=N.o;omega) f7;obtain⟨I,n6⟩:∃I:Nat,D.ato q d=(I:Int):=⟨(D.ato q d).toNat,by have:=l5.t0;omega⟩;have z9:I<n:=by have:=l5.t1;have:=N.o;omega
    have v5:I<D.n:=by have:=N.o;omega
    have A0:(I:Int)<(n:Int):=by omega
    have z4:(0:Int)<=(I:Int):=by omega
    rw[n6]at t3;have c0:=(P.o.hb.cell (p:=(Ad (BB q) (O q+d*4))) b0).trans t0;have c1:=(P.o.hb.cell (p:=(Ad (BB q) (O q+d*4+1))) b0).trans t1;have c2:=(P.o.hb.cell (p:=(Ad (BB q) (O q+d*4+2))) b0).trans t2;have c3:=(P.o.hb.cell (p:=(Ad (BB q) (O q+d*4+3))) b0).trans t3;clear t0 t1 t2 t3 l5;have g5:∀j,smS (s1.1 j):=by rw[d2];exact La (g6.o q) d g4.o
    replace g5:=qh g5;have s9:BX D sel q (d+1) s0=if sel (D.ain q d) (D.aout q d)=true then (updS s1.1 I (AN D.kind (s1.1 I) (D.aw q d) s1.2).1,(AN D.kind (s1.1 I) (D.aw q d) s1.2).2) else s1:=by
     show DN D sel q d (BX D sel q d s0)=_;unfold DN;rw[<-d2,n6,Int.toNat_natCast]
    have d0:=qh s9;clear s9 d2 n6;obtain⟨ai,r2⟩:=exq<|D.ain q d;obtain⟨ao,i9⟩:=exq<|D.aout q d;obtain⟨aw,l6⟩:=exq<|D.aw q d;have n5:smS aw:=by rw[l6];exact g6.o q d
    replace n5:=qh n5;rw[<-r2]at c0 d0;rw[<-i9]at c1 d0;rw[<-l6]at c2 d0;clear r2 i9 l6;obtain⟨w5,b3⟩:=exq<|wr.alloc (.cells #[.int .i64 ai,.int .i64 ao,.string aw,.int .i64 (I:Int)] 59);obtain⟨ab,l3⟩:=exq<|wr.heap.size;have a1:Fr (λ_=>False) wr w5:=by rw[b3];exact Fr.alloc _ _
    have w9:w5.heap[ab]?=some (.cells #[.int .i64 ai,.int .i64 ao,.string aw,.int .i64 (I:Int)] 59 (0,0)):=by rw[b3,l3];exact han wr _
    have J:=i6.o w5 trivial ai ao aw (I:Int);have b7:BoxM w5 B D (.slice (some (Ad b c)) n s):=(a1.block _ m.o.lt (λe=>e)).trans m.o;have a4:=qh<|P.o.keep a1;clear a1 P;have T:=qh b7;clear b7 m;have l1:=qh w9;clear w9;have HC:=qh J;clear J
    go_wp2_with fail
    rw[<-b3,<-l3];clear b3 l3 c0 c1 c2 c3;refine HC.o.mono ?_;rintro r w6⟨rfl,h4⟩;have b8:BoxM w6 B D (.slice (some (Ad b c)) n s):=(h4.block _ T.o.lt).trans T.o;have x0:=(h4.block ab (lbk l1.o)).trans l1.o;have e6:=qh<|a4.o.keep (Fr.of_below h4);clear h4 a4 HC;have a3:=qh b8;clear b8 T;have l2:=qh x0;clear x0 l1;cases i5:sel ai ao
    ·have j8:=qh (d0.o.trans (ifn (by rw[i5];simp)));clear i5 d0;go_wp2;go_roundw
     case rel=>exact⟨d+1,by omega,by go_num,by rw[j8.o];exact e6.o,a3.o⟩
     simp[intOf];omega
    have j8:=qh<|d0.o.trans (ifp i5);clear i5 d0;obtain⟨wd,d5⟩:=exq<|w6.drew;have b9:Fr (λ_=>False) w6 wd:=by rw[d5];exact(Fr.refl _ _).drew
    have d6:=(b9.block ab (lbk l2.o) (λe=>e)).trans l2.o;have W:BoxM wd B D (.slice (some (Ad b c)) n s):=(b9.block _ a3.o.lt (λe=>e)).trans a3.o;have a5:=qh<|e6.o.keep b9;clear b9 e6;have l:wd.cell? (Ad ab 3)=some (.int .i64 (I:Int))/\wd.cell? (Ad ab 2)=some (.string aw)/\wd.cell? (Ad lb I)=some (.string (s1.1 I)):=⟨cellOf d6 3 rfl,cellOf d6 2 rfl,a5.o.rl.cell v5⟩;have e1:=qh d6;clear d6 l2;have U:=qh W;clear W a3;have o8:=qh<|IV (s1.1 I) aw wd a5.o.sc (g5.o I) n5.o (ht.o.below a5.o.hb nlr)
    go_wp2_with fail
    refine Au (λwk=>wk.cell? (Ad ab 3)=some (.int .i64 (I:Int))/\wk.cell? (Ad ab 2)=some (.string aw)/\wk.cell? (Ad lb I)=some (.string (s1.1 I))) 13 (by kernel_rfl) ?_;rw[<-d5];clear d5;refine Aa.tm 0 l ?_;refine Aa.tm 1 l ?_;refine Aa.tm 2 l ?_;refine Aa.tm 3 l ?_;refine Aa.tm 4 l ?_;refine Aa.tm 5 l ?_;refine Aa.tm 6 l ?_;refine Aa.tm 7 l ?_;refine Aa.tm 8 l ?_;refine Aa.tm 9 l ?_;refine Aa.tm 10 l ?_
    try simp only[Act.put,tryL]
    refine Aa.on 11 λK hK=>?_;go_simp;refine o8.o.mono ?_;rintro r w7⟨rfl,v2,f8⟩;have r7:B≠o:=x5.o;have j1:BoxM w7 B D (.slice (some (Ad b c)) n s):=(f8.block _ U.o.lt r7).trans U.o;have b4:=qh<|a5.o.stepped f8 v2;have l4:ab≠o:=λe=>by
     have E:=e1.o;have h2:=a5.o.sc;unfold Scl at h2;rw[e,h2]at E;simp at E
    have h0:w7.cell? (Ad ab 3)=some (.int .i64 (I:Int))/\w7.cell? (Ad ab 2)=some (.string aw)/\w7.cell? (Ad lb I)=some (.string (s1.1 I)):=⟨f8.cell l.1 l4,f8.cell l.2.1 l4,b4.o.rl.cell v5⟩;have fz:=b4.o.rl.frozen I;have e5:=qh j1;clear j1 U;refine hK.out _ _ (.inr h0) ?_;clear hK K l o8 a5 v2 f8 r7 l4 e1
    try simp only[Act.put,tryL]
    refine Aa.tm 12 h0 ?_
    try simp only[Act.put,tryL]
    have g0:=h0.2.2;refine Aa.on 13 λK hK=>?_;go_simp;refine hK.out _ _ (.inl rfl) (Aa.dn ?_);clear hK K h0;have s6:lb≠B:=λe=>AA b4.o.rl (show w7.heap[B]?=_ from e5.o) (by decide) e;have f1:BoxM (w7.setCell (Ad lb I) (.string (AN D.kind (s1.1 I) aw s1.2).1)) B D (.slice (some (Ad b c)) n s):=by
     unfold BoxM;rw[blk_setCell_other _ _ _ _ (λe=>s6 e.symm)];exact e5.o
    have o9:=qh<|b4.o.put I (AN D.kind (s1.1 I) aw s1.2).1;replace f1:=qh f1;clear s6 e5 b4 fz g0;go_wp2;go_roundw
    case rel=>exact⟨d+1,by omega,by go_num,by rw[j8.o];exact o9.o,f1.o⟩
    simp[intOf];omega
   have f3:d=D.na q:=by omega
   have m4:¬((d:Int)<(D.na q:Int)):=by omega
   rw[f3]at d2;have x7:=qh<|d2.trans p0.o.symm;clear d2 f3;have a2:=P.o;rw[x7.o]at a2;have i8:=qh a2;clear a2 P;obtain⟨w5,b3⟩:=exq<|wr.alloc (.cells #[.slice (some ⟨lb,0,none⟩) n n] 79);have a1:Fr (λ_=>False) wr w5:=by rw[b3];exact Fr.alloc _ _
   have c7:w5.cell? (Ad wr.heap.size 0)=some (.slice (some (Ad lb 0)) n n):=by rw[b3];exact CV wr _ _ 0 _ rfl
   have b7:BoxM w5 B D (.slice (some (Ad b c)) n s):=(a1.block _ m.o.lt (λe=>e)).trans m.o;have a4:=qh<|i8.o.keep a1;clear a1 i8;have T:=qh b7;clear b7 m;have z1:=qh c7;clear c7;obtain⟨i0,x9,A1,g7,o2⟩:=info_parts Ff;have b1:=a4.o.own;rw[b3]at b1;replace b1:=qh b1;have y6:q+1<=60:=by omega
   go_wp2_with (at_builtin;refine wpList_append_fits _ rfl (.tmp 93) (.tmp 95) 75 rfl w.heap.size 79 i0 1 underlying75 x9 g7 gR q 60 _ rfl b1.o (Ad wr.heap.size 0) 1 1 [.slice (some (Ad lb 0)) n n] rfl rfl (cell_one_new _ _ _) (λu hu=>by rw[List.mem_singleton.1 hu];rfl) y6 ?_;intro w6 d1 R)
   rw[<-b3]at R;rw[N.o]at d1;have f3:=a4.o.done d1 R;have s4:gR≠B:=by
    obtain⟨cs,hg⟩:=Ko a4.o.own;intro e;have E:=T.o;unfold BoxM at E;rw[<-e,hg]at E;simp at E
   have b8:BoxM w6 B D (.slice (some (Ad b c)) n s):=by
    unfold BoxM;rw[R.block B T.o.lt (by simp;exact λe=>s4 e.symm)];exact T.o
   have x2:=qh f3;clear f3 d1 R s4;have a3:=qh b8;clear b8;go_wp2;go_roundw
   case rel=>exact⟨q+1,_,by omega,by go_num,by go_num,x2.o,a3.o⟩
   simp[intOf];omega
  have m4:¬((q:Int)<(n:Int)):=by omega
  have i2:q=n:=by omega
  subst i2;have e2:Mt none wr (.slice (some (Ad gR 0)) q 60) q (λ_=>q) (smat D sel):=by
   have h:=HI.o;have e:=N.o;rw[e]at h;have h2:=h.mt (by omega);rw[<-e]at h2;exact h2
  have k5:=HI.o.sc.c5;have k0:=m.o.c0;have v4:=Zb (k0:=D.kind) wr (show q<=100 by omega) e2 (λi j=>YV (g6.o i) j) (ht.o.below HI.o.hb nlr);have p7:=qh v4;clear v4 e2;obtain⟨e,he⟩:=exq<|serr D sel q;rw[<-he]at k5;replace he:=qh he;by_cases l9:e=0
  rotate_left
  ·have z2:¬((e:Int)=0):=by omega
   have x3:=qh l9;clear l9;go_wp2;go_ret;have E:=x3.o;rw[he.o,N.o]at E;exact⟨HI.o.hb,o,_,none,_,rfl,a9.o,HI.o.sc,rfl,.inr (.inr ⟨e0.o,by rw[N.o];exact E,rfl,.inr (.inl E)⟩)⟩
  subst l9
  go_wp2_with fail
  refine p7.o.mono ?_;rintro r w7⟨l7,hr⟩;have G:Scl w7 o D (.slice (some (Ad b c)) q s) (.slice none 0 0) 0:=by
   have E:=HI.o.sc;rw[<-he.o]at E;unfold Scl at E ⊢;rw[l7.block o HI.o.sc.lt];exact E
  have a6:=HI.o.hb.trans<|l7.mono HI.o.hb.size;have i4:serr D sel D.n=0:=by rw[<-N.o];exact he.o.symm
  have f4:=G.fz 4;have f5:=G.fz 5;have c4:=G.c4;have c5:=G.c5;replace i4:=qh i4;clear l7;replace G:=qh G;replace a6:=qh a6;clear HI p7 k5 k0
  rcases hr with⟨y5,_⟩|⟨h6,_⟩|⟨_,k,M,hk,y9,hM,_,t8⟩
  ·exfalso
   obtain⟨k,hk⟩:=hv.o.kk;have E:=YW hv.o hk i4.o;rw[<-N.o]at E;exact y5 ⟨hv.o.kind,E⟩
  ·omega
  have HK:=qh hk;clear hk y9;replace hM:=qh hM
  rcases t8 with⟨v,Y,rfl,e2,h8⟩|⟨rfl,m8⟩
  ·obtain⟨av,cv,y8⟩:=e2.shape;subst y8;have x6:=qh e2;clear e2;replace h8:=qh h8;obtain⟨w8,d4⟩:∃w8,w8=(w7.setCell ⟨o,4,none⟩ (.slice av q cv)).setCell (Ad o 5) (.int .i64 0):=⟨_,rfl⟩;have f9:Fr (λq=>q=o) w7 w8:=by
    rw[d4];exact((Fr.refl (λq=>q=o) w7).set (p:=(Ad o 4)) (.inl rfl) _).set (p:=(Ad o 5)) (.inl rfl) _
   have c8:Scl w8 o D (.slice (some (Ad b c)) q s) (.slice av q cv) 0:=by
    have E:=G.o;rw[d4];unfold Scl at E ⊢;simp[World.setCell,Array.getElem?_modify,E]
   have g8:=qh f9;clear f9;have d7:=qh c8;clear c8;go_wp2;go_ret;rw[<-d4];have s7:=x6.o.later G.o d7.o g8.o.gbc (.inr rfl) (λi _=>by omega);refine⟨a6.o.trans (g8.o.below a6.o.size (λq e=>by rw[e];exact a9.o)),o,_,some Y,0,rfl,a9.o,d7.o,?_,.inr (.inl ⟨e0.o,by have:=N.o;omega,rfl,Y,rfl,λk' y0 i j hi hj=>?_⟩)⟩
   ·rw[<-N.o];exact⟨s7,λi j hi hj=>by have E:=(h8.o i j hi hj).1;unfold smS;omega⟩
   obtain rfl:k'=k:=Subtype.ext<|y0.trans HK.o.symm;rw[<-N.o]at hi hj ⊢;have E:=(h8.o i j hi hj).2 rfl;have h2:CSR.starM M q i j=CSR.starM (sils (rmOf k' D) sel) q i j:=CSR.starM_congr (λi j hi hj=>by
    rw[hM.o];exact(Lg hv.o HK.o i4.o (by rw[<-N.o];exact hi) (by rw[<-N.o];exact hj)).val) i j hi hj
   rw[<-h2];exact E
  replace m8:=qh m8;obtain⟨w8,d4⟩:∃w8,w8=(w7.setCell ⟨o,4,none⟩ (.slice none 0 0)).setCell (Ad o 5) (.int .i64 2):=⟨_,rfl⟩;have f9:Fr (λq=>q=o) w7 w8:=by
   rw[d4];exact((Fr.refl (λq=>q=o) w7).set (p:=(Ad o 4)) (.inl rfl) _).set (p:=(Ad o 5)) (.inl rfl) _
  have c8:Scl w8 o D (.slice (some (Ad b c)) q s) (.slice none 0 0) 2:=by
   have E:=G.o;rw[d4];unfold Scl at E ⊢;simp[World.setCell,Array.getElem?_modify,E]
  have g8:=qh f9;clear f9;have d7:=qh c8;clear c8;go_wp2;go_ret;rw[<-d4];refine⟨a6.o.trans (g8.o.below a6.o.size (λq e=>by rw[e];exact a9.o)),o,_,none,2,rfl,a9.o,d7.o,rfl,.inr (.inr ⟨e0.o,by omega,rfl,.inr (.inr ⟨k,HK.o,?_⟩)⟩)⟩;rw[<-N.o,<-hM.o];exact m8.o
end
section
open Go.RowKit Go.Deep
variable{w:World}{b e' n:Nat}
def WgtX(D:MD)(na:Nat)(x:Nat->Int)(nb:Nat)(y:Nat->Int)(w:World)(r:Ending)(w':World):Prop :=
 Below w.heap.size w w'/\((VM D/\isWord na x=true/\isWord nb y=true/\∃st e0,SilOk D silB st e0/\r=.returned (.tuple #[.string (wgtG D st e0 na x nb y).1,.int .i64 ((wgtG D st e0 na x nb y).2:Int)]))\/
  (¬(VM D/\isWord na x=true/\isWord nb y=true)/\r=.returned (.tuple #[.string ⟨#[]⟩,.int .i64 1])))
def NE:(prog.info? 102).map (λi=>(i.zero,i.size,i.bytes))=some (some (.slice none 0 0),1,24):=by kernel_rfl
def Bx.ne_scl{d e:Nat}{t:TypeId}{v:Value}{D:MD}{sv star:Value}(h:Bx w b t v)(c:Scl w d D sv star e):b≠d:=by
 rintro rfl;unfold Scl at c;unfold Bx at h;rw[h]at c;simp at c
def ixOf(v:Value)(w:World):Nat:=match v with | .pointer (some a)=>(match w.cell? a with|some (.int _ i)=>i.toNat|_=>0)|_=>0
def Hp{i:Nat}(h:w.cell? (Ad b 0)=some (.int .i64 (i:Int))):ixOf (.pointer (some (Ad b 0))) w=i:=by
 unfold ixOf;simp[h]
structure WG(w0 wo w:World)(cb c8 xb yb:Nat)(D:MD)(sv stv xv yv:Value)(e:Nat):Prop where
 hb:Below w0.heap.size w0 w
 gs:wo.grownBy w (some cb)
 sc:Scl w cb D sv stv e
 k8:Bx w c8 98 (.pointer (some (Ad cb 0)))
 kx:Bx w xb 25 xv
 ky:Bx w yb 25 yv
 lc:w0.heap.size<=cb
 lo:w0.heap.size<=wo.heap.size
namespace WG
variable{w0 wo w w':World}{cb c8 xb yb:Nat}{D:MD}{sv stv xv yv:Value}{e:Nat}
theorem n8(h:WG w0 wo w cb c8 xb yb D sv stv xv yv e):c8≠cb:=by rintro rfl;have d:=h.sc;have c:=h.k8;unfold Scl at d;unfold Bx at c;rw[d]at c;simp at c
theorem nx(h:WG w0 wo w cb c8 xb yb D sv stv xv yv e):xb≠cb:=by rintro rfl;have d:=h.sc;have c:=h.kx;unfold Scl at d;unfold Bx at c;rw[d]at c;simp at c
theorem ny(h:WG w0 wo w cb c8 xb yb D sv stv xv yv e):yb≠cb:=by rintro rfl;have d:=h.sc;have c:=h.ky;unfold Scl at d;unfold Bx at c;rw[d]at c;simp at c
theorem gs'{C:Nat->Prop}(h:WG w0 wo w cb c8 xb yb D sv stv xv yv e)(hf:Fr C w w')(i:∀q,C q->q=cb\/wo.heap.size<=q):wo.grownBy w' (some cb) :=
 ⟨hf.os.trans h.gs.os,hf.tape.trans h.gs.tape,hf.output.trans h.gs.output,Nat.le_trans h.gs.size hf.size,λq d c=>(hf.block q (Nat.lt_of_lt_of_le d h.gs.size) (λg=>(i q g).elim (λe=>c (by rw[e])) (λe=>by omega))).trans (h.gs.block q d c)⟩
theorem kept{C:Nat->Prop}(h:WG w0 wo w cb c8 xb yb D sv stv xv yv e)(hf:Fr C w w')(g:¬C cb)(i:¬C c8)(j:¬C xb)(k:¬C yb)(d:∀q,C q->wo.heap.size<=q):WG w0 wo w' cb c8 xb yb D sv stv xv yv e :=
 ⟨h.hb.trans (hf.below h.hb.size (λq c=>Nat.le_trans h.lo (d q c))),h.gs' hf (λq c=>.inr (d q c)),h.sc.kept hf g,h.k8.kept hf i,h.kx.kept hf j,h.ky.kept hf k,h.lc,h.lo⟩
theorem stepped{g:Nat}{F:Nat->Value}(h:WG w0 wo w cb c8 xb yb D sv stv xv yv e)(hf:Fr (λq=>q=cb\/q=g) w w')(l:Scl w' cb D sv stv e')(i:w.rowIs g 9 n F)(d:wo.heap.size<=g):WG w0 wo w' cb c8 xb yb D sv stv xv yv e':=by
 have j:∀q,q≠cb->q≠g->¬(q=cb\/q=g):=λq a b c=>c.elim a b;exact⟨h.hb.trans (hf.below h.hb.size (λq k=>by rcases k with rfl|rfl;exact h.lc;exact Nat.le_trans h.lo d)),h.gs' hf (λq k=>k.imp (λe=>e) (λe=>by rw[e];exact d)),l,h.k8.kept hf (j _ h.n8 (AA i h.k8 (by decide)).symm),h.kx.kept hf (j _ h.nx (AA i h.kx (by decide)).symm),h.ky.kept hf (j _ h.ny (AA i h.ky (by decide)).symm),h.lc,h.lo⟩
theorem rested(h:WG w0 wo w cb c8 xb yb D sv stv xv yv e)(hf:Fr (λq=>q=cb) w w')(d:Scl w' cb D sv stv e'):WG w0 wo w' cb c8 xb yb D sv stv xv yv e' :=
 ⟨h.hb.trans (hf.below h.hb.size (λq c=>by rw[c];exact h.lc)),h.gs' hf (λq c=>.inl c),d,h.k8.kept hf h.n8,h.kx.kept hf h.nx,h.ky.kept hf h.ny,h.lc,h.lo⟩
end WG
theorem VR.rested{K:World}{B N:Nat}{g:Bool->Nat}{m:Nat}{R:Bool->Nat->Option Nat}{S:Bool->Nat->Option VV}{b:Bool}{j rv s:Nat}{x v:VV}(h:VR w B g m n R S)(Z:j<m)(hr:R b j=some rv)(hs:S b j=some v)(hf:Fr (λq=>q=N) w K)
  (D:∀b,g b≠N) (O:∀b j r,j<m->R b j=some r->r≠N) (hx:K.rowIs s 9 n (λq=>.string (x q))) (W:∀q,smS (x q)) (G:s=rv\/w.heap.size<=s) (hB:B<=w.heap.size) :
  VR (K.setCell (Ad (g b) j) (vrV n (some s))) B g m n (λb' j'=>if b'=b/\j'=j then some s else R b' j') (updV S b j x):=by
 have Q:∀b' j' c,j' < m->R b' j'=some c->c<w.heap.size:=λb' j' c i d=>by
  cases H:S b' j' with
  |none=>have:=(h.non b' j' i).2 H;rw[d]at this;cases this
  |some x0=>exact(h.row b' j' c x0 i d H).1.lt
 have U:B<=s:=by
  rcases G with e|e
  ·rw[e];exact(h.row b j rv v Z hr hs).2
  omega
 have o:∀b' j' c,j' < m->¬(b'=b/\j'=j)->R b' j'=some c->c≠s:=λb' j' c i T d e=>by
  rcases G with k|k
  ·exact T (h.sep b' j' b j rv i Z (by rw[d,e,k]) hr)
  have:=Q b' j' c i d;omega
 have P:∀b',g b'≠s:=λb' e=>Iq ((hf.row (h.top b') (D b'))) hx (by decide) e;have p:∀b',K.rowIs (g b') 102 m (λj=>vrV n (R b' j)):=λb'=>hf.row (h.top b') (D b');refine⟨λb'=>?_,h.gne,h.low,λb' j' i=>?_,λb' j' c Y i d l=>?_,λL X I J c E F d l=>?_,λb' j' Y d=>?_⟩
 ·by_cases e:b'=b
  ·subst e;refine((p b').set j _).congr (λj' _=>?_);by_cases e:j'=j
   ·rw[ifp e,ifp ⟨rfl,e⟩]
   rw[ifn e,ifn (λh=>e h.2)]
  refine((p b').of_block (blk_setCell_other _ _ _ _ (λk=>?_))).congr (λj' _=>by rw[ifn (λh=>e h.1)]);have C:=h.gne;have z:g b'=g b:=k;cases b'<;>cases b<;>first|exact e rfl|exact C z|exact C z.symm
 ·unfold updV;by_cases e:b'=b/\j'=j
  ·rw[ifp e,ifp e];simp
  rw[ifn e,ifn e];exact h.non b' j' i
 ·by_cases e:b'=b/\j'=j
  ·rw[ifp e]at d;cases d;unfold updV at l;rw[ifp e]at l;cases l;exact⟨hx.setOther (a:=(Ad (g b) j)) (λk=>P b k.symm) _,U⟩
  rw[ifn e]at d;unfold updV at l;rw[ifn e]at l;have C:=h.row b' j' c Y i d l;exact⟨(hf.row C.1 (O b' j' c i d)).setOther (a:=(Ad (g b) j)) (λk=>h.topne i d l k.symm) _,C.2⟩
 ·by_cases u:L=b/\X=j
  ·rw[ifp u]at d;cases d;by_cases k:I=b/\J=j
   ·exact⟨u.1.trans k.1.symm,u.2.trans k.2.symm⟩
   rw[ifn k]at l;exact absurd rfl (o I J _ F k l)
  rw[ifn u]at d;by_cases k:I=b/\J=j
  ·rw[ifp k]at l;cases l;exact absurd rfl (o L X _ E u d)
  rw[ifn k]at l;exact h.sep L X I J c E F d l
 unfold updV at d;by_cases e:b'=b/\j'=j
 ·rw[ifp e]at d;cases d;exact W
 rw[ifn e]at d;exact h.sm b' j' Y d
theorem ZX:TstA 79 #[] silB (λ_=>True) :=
 ⟨UH,λc _ i o s t=>by
  have h:=YT c i o s t;rw[show ∀a:Value,(#[a]++#[]:Array Value)=#[a] from λ_=>rfl];exact h⟩
end
section
open Go.RowKit Go.Deep
theorem z0e{D:MD}{mv xv yv:Value}{na nb:Nat}{x y:Nat->Int}(w:World)(hM:Ma none w mv D)(f2:MSz D)(ht:Tab w)(hx:Si none w xv na x)(hy:Si none w yv nb y)(L4:(na:Int)<=9223372036854775807)(L5:(nb:Int)<=9223372036854775807):
  Calls prog 35 #[mv,xv,yv] w (WgtX D na x nb y w):=by
 obtain⟨sv,rfl,hS⟩:=hM;obtain⟨a,cap,b,O4,A,C,BB,O,i6,_⟩:=hS.open;obtain⟨ax,cx,rfl⟩:=hx.shape;obtain⟨ay,cy,rfl⟩:=hy.shape;subst i6;obtain⟨w1,A0⟩:=exq<|w.alloc (.cells #[.int .i64 D.kind,.int .i64 D.start,.string D.lead,.slice a D.n cap] 24);obtain⟨w2,A1⟩:=exq<|w1.alloc (.cells #[.slice ax na cx] 25);obtain⟨w3,A2⟩:=exq<|w2.alloc (.cells #[.slice ay nb cy] 25);have I9:w1.heap.size=w.heap.size+1:=by rw[A0];simp
 have J0:w2.heap.size=w.heap.size+1+1:=by rw[A1];simp[I9]
 have M7:w3.heap.size=w.heap.size+1+1+1:=by rw[A2];simp[J0]
 have K5:Fr (λ_=>False) w w1:=by rw[A0];exact Fr.alloc _ _
 have d0:Fr (λ_=>False) w1 w2:=by rw[A1];exact Fr.alloc _ _
 have B9:Fr (λ_=>False) w2 w3:=by rw[A2];exact Fr.alloc _ _
 have F0:BoxM w1 w.heap.size D (.slice a D.n cap):=by rw[A0];exact BoxM.new w D _
 have k6:BoxM w3 w.heap.size D (.slice a D.n cap):=(((B9.block _ (by omega) (λe=>e)).trans (d0.block _ (by omega) (λe=>e))).trans F0);have F2:Bx w2 (w.heap.size+1) 25 (.slice ax na cx):=by rw[<-I9,A1];exact han w1 _
 have H2:Bx w3 (w.heap.size+1) 25 (.slice ax na cx):=F2.kept B9 (λe=>e);have H3:Bx w3 (w.heap.size+1+1) 25 (.slice ay nb cy):=by rw[<-J0,A2];exact han w2 _
 have B8:Below w.heap.size w w3:=((K5.trans d0).trans B9).below nlr (λ_ e=>e.elim);obtain⟨mb,H8⟩:=exq<|w.heap.size;obtain⟨xb,I7⟩:=exq<|w.heap.size+1;obtain⟨yb,I8⟩:=exq<|w.heap.size+1+1;rw[<-H8]at k6;rw[<-I7]at H2;rw[<-I8]at H3;have O0:w.heap.size<=mb:=by omega
 have m0:=k6.c0;have m1:=k6.c1;have m2:=k6.c2;have m3:=k6.c3;have J8:=qh<|Ds w3 (⟨_,rfl,hS.kept (Ab B8 none)⟩:Ma none w3 (.agg #[.int .i64 D.kind,.int .i64 D.start,.string D.lead,.slice a D.n cap]) D) f2 (ht.below B8 nlr);clear K5 d0 B9 F0 F2 I9 J0 M7;have G7:=qh B8;clear B8;have G8:=qh k6;clear k6;have p7:=qh H2;clear H2;have p8:=qh H3;clear H3;replace f2:=qh f2;replace ht:=qh ht;replace hx:=qh hx;replace hy:=qh hy;replace hS:=qh hS
 go_enter func35,ntmps35
 go_wp2_with fail
 rw[<-A0,<-A1,<-A2,<-I8,<-I7,<-H8];clear A0 A1 A2 H8 I7 I8 m0 m1 m2 m3;refine J8.o.mono ?_;rintro r w4⟨x5,hr⟩;have E9:=G7.o.trans<|x5.mono G7.o.size;have F1:BoxM w4 mb D (.slice a D.n cap):=(x5.block _ G8.o.lt).trans G8.o;have x7:Bx w4 xb 25 (.slice ax na cx):=(x5.block _ p7.o.lt).trans p7.o;have F4:Bx w4 yb 25 (.slice ay nb cy):=(x5.block _ p8.o.lt).trans p8.o;have c4:=x7.cell;have d9:=qh E9;clear E9 x5 G7 J8;have i7:=qh F1;clear F1 G8;have p6:=qh x7;clear x7 p7;have m7:=qh F4;clear F4 p8
 rcases hr with⟨hv,rfl⟩|⟨hv,rfl⟩
 rotate_left
 ·have HV:=qh hv;clear hv;go_wp2;go_ret2;exact⟨d9.o,.inr ⟨λh=>HV.o h.1,rfl⟩⟩
 have HV:=qh hv;clear hv;have J9:=qh<|RB w4 (hx.o.kept (Ab d9.o none)) L4
 go_wp2_with fail
 refine J9.o.mono ?_;rintro r M8⟨rfl,rfl⟩;cases k1:isWord na x
 ·go_wp2;go_ret2;exact⟨d9.o,.inr ⟨λh=>absurd h.2.1 (by rw[k1];simp),rfl⟩⟩
 have N1:na<=200:=by unfold isWord at k1;simp at k1;exact k1.1
 replace k1:=qh k1;clear J9 L4;have d4:=m7.o.cell;have K0:=qh<|RB M8 (hy.o.kept (Ab d9.o none)) L5
 go_wp2_with fail
 refine K0.o.mono ?_;rintro r w5⟨rfl,rfl⟩;cases k2:isWord nb y
 ·go_wp2;go_ret2;exact⟨d9.o,.inr ⟨λh=>absurd h.2.2 (by rw[k2];simp),rfl⟩⟩
 have N2:nb<=200:=by unfold isWord at k2;simp at k2;exact k2.1
 replace k2:=qh k2;clear K0 L5 c4;have m0:=i7.o.c0;have m1:=i7.o.c1;have m2:=i7.o.c2;have m3:=i7.o.c3;have J3:=qh<|WZ w5 HV.o (hS.o.kept (Ab d9.o none)) f2.o.aw (ht.o.below d9.o nlr) ZX
 go_wp2_with fail
 refine J3.o.mono ?_;rintro r w6⟨x6,o,e2,st,e0,rfl,K3,I5,z4,o2⟩;replace o2:=qh o2;replace z4:=qh z4;have J6:=qh I5;have i4:=qh<|show w.heap.size<=w6.heap.size from Nat.le_trans d9.o.size x6.size;obtain⟨m,hm⟩:=exq<|nb+1;have C7:=run_make_row' (P:=prog) 101 102 (.slice none 0 0) 24 underlying101 NE rfl .i64 .i64 m (by omega) (by omega);have y7:((m:Nat):Int)=(nb:Int)+1:=by omega
 rw[y7]at C7;replace hm:=qh hm;have x4:=d9.o.trans<|x6.mono d9.o.size;have F3:Bx w6 xb 25 (.slice ax na cx):=(x6.block _ p6.o.lt).trans p6.o;have F5:Bx w6 yb 25 (.slice ay nb cy):=(x6.block _ m7.o.lt).trans m7.o;obtain⟨w7,l5⟩:=exq<|w6.alloc (.cells #[.pointer (some ⟨o,0,none⟩)] 98);obtain⟨c8,H4⟩:=exq<|w6.heap.size;have e7:Fr (λ_=>False) w6 w7:=by rw[l5];exact Fr.alloc _ _
 have h8:Bx w7 c8 98 (.pointer (some (Ad o 0))):=by rw[l5,H4];exact han w6 _
 have K4:w.heap.size<=o:=Nat.le_trans d9.o.size K3;have c:WG w w6 w7 o c8 xb yb D (.slice a D.n cap) e2 (.slice ax na cx) (.slice ay nb cy) e0:=⟨x4.trans (e7.below x4.size (λ_ e=>e.elim)),⟨e7.os,e7.tape,e7.output,e7.size,λq hq _=>e7.block q hq (λe=>e)⟩,I5.kept e7 (λe=>e),h8,F3.kept e7 (λe=>e),F5.kept e7 (λe=>e),K4,i4.o⟩;have d6:=c.ky.cell;obtain⟨w8,A3⟩:=exq<|w7.alloc (.cells (madeCells #[.slice none 0 0] m) 102);have L7:w7.heap.size=w6.heap.size+1:=by rw[l5];simp
 obtain⟨g,hg⟩:=exq<|w6.heap.size+1;have K6:Fr (λ_=>False) w7 w8:=by rw[A3];exact Fr.alloc _ _
 have l1:w8.rowIs g 102 m (λ_=>.slice none 0 0):=by rw[A3,hg,<-L7];exact World.rowIs_made w7 (.slice none 0 0) m 102
 have o9:=c.kept K6 (λe=>e) (λe=>e) (λe=>e) (λe=>e) (λ_ e=>e.elim);have k8:=o9.k8.cell;have J7:=qh (z0j w8 o9.sc HV.o.n1 (by have:=HV.o.n2;omega) HV.o.s0 HV.o.s1);have f0:=l1.frozen 0;have H7:w6.heap.size<=g:=by omega
 have v6:=qh o9;clear o9 c;have k3:=qh l1;clear l1;have L9:=qh e7;clear e7;have L2:g<w8.heap.size:=k3.o.lt;have M5:w6.heap.size<=w8.heap.size:=v6.o.gs.size;clear x4 F3 F5 p6 m7 i7 d9 x6 I5 K3 m0 m1 m2 m3 d4 J3 h8 K6 L7;rw[l5]at d6;rw[A3,l5]at k8
 go_wp2_with fail
 rw[<-hg,<-H4,<-l5,<-A3];clear d6 k8 l5 A3 H4 hg L9 C7 y7;refine J7.o.mono ?_;rintro r w9⟨rfl,z3,H5⟩;obtain⟨r0,U⟩:=exq<|w8.heap.size;rw[<-U]at z3;rw[<-U];have h9:=v6.o.kept H5 (λe=>e) (λe=>e) (λe=>e) (λe=>e) (λ_ e=>e.elim);have b7:=H5.row k3.o (λe=>e);have M6:(0:Int)<(m:Int):=by have:=hm.o;omega
 have f0:=b7.frozen 0;have g0:=b7.cell (i:=0) (by have:=hm.o;omega);have L3:g≠r0:=by omega
 have K8:Fr (λq=>q=g) w9 (w9.setCell (Ad g 0) (.slice (some (Ad r0 0)) D.n D.n)):=(Fr.refl (λq=>q=g) w9).set (p:=(Ad g 0)) (.inl rfl) _;have A9:WG w w6 (w9.setCell (Ad g 0) (.slice (some (Ad r0 0)) D.n D.n)) o c8 xb yb D (.slice a D.n cap) e2 (.slice ax na cx) (.slice ay nb cy) e0 :=
  h9.kept K8 (λe=>AA b7 h9.sc (by decide) e.symm) (λe=>AA b7 h9.k8 (by decide) e.symm) (λe=>AA b7 h9.kx (by decide) e.symm) (λe=>AA b7 h9.ky (by decide) e.symm) (λq e=>by rw[e];exact H7)
 have z6:VR1 (w9.setCell (Ad g 0) (.slice (some (Ad r0 0)) D.n D.n)) w6.heap.size g m D.n (λj=>if j=0 then some r0 else none) (λj=>if j=0 then some (Fx D) else none):=by
  refine⟨(b7.set 0 _).congr (λj _=>?_),H7,λj _=>?_,λj r x hj H h2=>?_,λj j' r hj N8 H h2=>?_,λj x H q=>?_⟩
  ·by_cases e:j=0
   ·rw[ifp e,ifp e];rfl
   rw[ifn e,ifn e];rfl
  ·by_cases e:j=0
   ·rw[ifp e,ifp e];simp
   rw[ifn e,ifn e];simp
  ·by_cases e:j=0
   ·rw[ifp e]at H h2;cases H;cases h2;exact⟨z3.setOther (a:=(Ad g 0)) (λe=>L3 e.symm) _,by omega⟩
   rw[ifn e]at H;cases H
  ·by_cases e:j=0
   ·by_cases e':j'=0
    ·rw[e,e']
    rw[ifn e']at h2;cases h2
   rw[ifn e]at H;cases H
  by_cases e:j=0
  ·rw[ifp e]at H;cases H;unfold Fx;split
   ·exact f2.o.lead
   exact Gc 0
  rw[ifn e]at H;cases H
 have k5:=qh A9;clear A9 K8;have k4:=qh z6;clear z6;clear J7 H5 z3 h9 b7 k3 v6 L3 U L2 M5;obtain⟨p0,o7⟩:=exq<|w9.setCell ⟨g,0,none⟩ (.slice (some ⟨r0,0,none⟩) D.n D.n);rw[<-o7]at k5 k4;obtain⟨D2,y1⟩:=exq<|w9.heap.size;have G6:p0.heap.size=w9.heap.size:=by rw[o7,nblk_setCell]
 obtain⟨D3,o8⟩:=exq<|p0.alloc (.cells #[.int .i64 0] 3);have x9:Fr (λ_=>False) p0 D3:=by rw[o8];exact Fr.alloc _ _
 have y2:Bx D3 D2 3 (.int .i64 ((0:Nat):Int)):=by rw[o8,y1,<-G6];exact han p0 _
 have v5:=qh<|k5.o.kept x9 (λe=>e) (λe=>e) (λe=>e) (λe=>e) (λ_ e=>e.elim);clear k5;have t9:=qh<|k4.o.kept x9;clear k4 x9;have q8:=qh y2;clear y2
 go_wp2_with fail
 rw[<-o7,<-o8,<-y1];clear o8 y1 G6 o7 f0 g0 M6;have O1:m<=201:=by have:=hm.o;omega
 go_loopw [9,10] (λv9 J1 wr=>∃(i e g ib:Nat) (R:Nat->Option Nat) (S:Nat->Option VV),i<=na+1/\v9=.slice (some (Ad g 0)) m m/\J1=.pointer (some (Ad ib 0))/\Bx wr ib 3 (.int .i64 (i:Int))/\VR1 wr w6.heap.size g m D.n R S/\
  WG w w6 wr o c8 xb yb D (.slice a D.n cap) e2 (.slice ax na cx) (.slice ay nb cy) e/\outG D st na x nb y (na+1-i) i S e=wgtG D st e0 na x nb y) (λ_ J1 wr=>na+2-ixOf J1 wr)
 case atStart=>exact⟨0,e0,g,D2,_,_,Nat.zero_le _,rfl,rfl,q8.o,t9.o,v5.o,rfl⟩
 obtain⟨i,e,g,ib,R,S,hi,rfl,rfl,B,k,c,c9⟩:=hrel;clear q8 t9 v5 H7;have I:=qh B;clear B;have J:=qh k;clear k;have l:=qh c;clear c;have B4:=qh c9;clear c9;have HI:=qh<|Hp I.o.cell;have ci:=I.o.cell;have a9:=l.o.kx.cell;have M4:=l.o.k8.cell;have c5:=l.o.sc.c5;by_cases j8:i<=na/\e=0
 ·obtain⟨N6,rfl⟩:=j8;have N7:(i:Int)<=(na:Int):=by omega
  have b0:=l.o.ky.cell;have C7:=run_make_row' (P:=prog) 101 102 (.slice none 0 0) 24 underlying101 NE rfl .i64 .i64 m (by have:=hm.o;omega) (by have:=hm.o;omega);have y7:((m:Nat):Int)=(nb:Int)+1:=by have:=hm.o;omega
  rw[y7]at C7;clear y7;have O2:∀(fn:Fn) (first cap:Array Value) (w:World),(Instr.makeFunc fn first cap).run prog w=.ok (.func fn first cap) w:=λ_ _ _ _=>rfl
  obtain⟨wn,D1⟩:=exq<|wr.alloc (.cells (madeCells #[.slice none 0 0] m) 102);obtain⟨g2,H6⟩:=exq<|wr.heap.size;have C1:Fr (λ_=>False) wr wn:=by rw[D1];exact Fr.alloc _ _
  have y9:wn.rowIs g2 102 m (λ_=>.slice none 0 0):=by rw[D1,H6];exact World.rowIs_made wr (.slice none 0 0) m 102
  have o3:=J.o.two C1 (show wr.heap.size<=g2 by omega) l.o.gs.size y9;obtain⟨gg,C2⟩:∃gg:Bool->Nat,gg=λb=>if b then g2 else g:=⟨_,rfl⟩
  rw[<-C2]at o3;have a5:gg false=g:=by rw[C2];rfl
  have j5:gg true=g2:=by rw[C2];rfl
  replace a5:=qh a5;replace j5:=qh j5;clear C2;obtain⟨R2,K1⟩:∃R2:Bool->Nat->Option Nat,R2=λb=>if b then λ_=>none else R:=⟨_,rfl⟩
  rw[<-K1]at o3;clear K1;have E8:=qh<|l.o.kept C1 (λe=>e) (λe=>e) (λe=>e) (λe=>e) (λ_ e=>e.elim);clear l;have D8:=qh<|I.o.kept C1 (λe=>e);clear I;have E7:=qh o3;clear o3 J C1 y9
  go_wp2_with fail
  rw[<-H6,<-D1];clear H6 D1 ci a9 M4 c5 b0;obtain⟨s0,C8⟩:∃s0:RS,s0=(twoR S (λ_=>none),0):=⟨_,rfl⟩;have J5:=qh C8
  go_loopw [57] (λJ2 wr=>∃(j:Nat) (R:Bool->Nat->Option Nat) (s:RS),j<=m/\J2=.int .i64 (j:Int)/\s=colG D st na x nb y i j s0/\VR wr w6.heap.size gg m D.n R s.1/\WG w w6 wr o c8 xb yb D (.slice a D.n cap) e2 (.slice ax na cx) (.slice ay nb cy) s.2/\Bx wr ib 3 (.int .i64 (i:Int))) (λJ2 _=>m-(intOf J2).toNat)
  case atStart=>exact⟨0,R2,s0,Nat.zero_le _,rfl,rfl,by rw[C8];exact E7.o,by rw[C8];exact E8.o,D8.o⟩
  obtain⟨j,Rp,sp,hj,rfl,k0,k,c,B⟩:=hrel;clear E7 E8 D8 C8;have J:=qh k;clear k;have l:=qh c;clear c;have I:=qh B;clear B;have B5:=qh k0;clear k0;by_cases Y:j<m
  ·have f8:=qh Y;have N9:(j:Int)<(m:Int):=by omega
   have N0:(0:Int)<=(j:Int):=by omega
   obtain⟨wj,l6⟩:=exq<|wr.alloc (.cells #[.int .i64 (j:Int)] 3);obtain⟨jb,z⟩:=exq<|wr.heap.size;have C0:Fr (λ_=>False) wr wj:=by rw[l6];exact Fr.alloc _ _
   have K2:Bx wj jb 3 (.int .i64 (j:Int)):=by rw[l6,z];exact han wr _
   have z7:=J.o.kept C0 (λ_ e=>e) (λ_ _ _ _ _ e=>e);have hg:=(z7.top false).cell Y;rw[a5.o]at hg;have v7:=qh<|l.o.kept C0 (λe=>e) (λe=>e) (λe=>e) (λe=>e) (λ_ e=>e.elim);clear l;have r5:=qh<|I.o.kept C0 (λe=>e);clear I;have D9:=qh K2;clear K2;have j1:=qh z7;clear z7 J C0;cases i6:sp.1 false j with
   |none =>
    have hr:=(j1.o.non false j Y).2 i6;rw[hr]at hg;have k9:wj.cell? (Ad g j)=some (.slice none 0 0):=hg;have hq:=λw=>Ed 102 9 underlying102 w none 0 0;rw[show (none:Option Addr).isNone=true from rfl]at hq;rw[l6]at k9;have j4:colG D st na x nb y i (j+1) s0=sp:=by show DY D st na x nb y i j (colG D st na x nb y i j s0)=sp;rw[<-B5.o];unfold DY;rw[i6]
    have d2:=qh j4;clear j4 i6 hr hg
    go_wp2_with fail
    rw[<-l6];go_roundw
    case rel=>exact⟨j+1,Rp,sp,by have:=f8.o;omega,by go_num,d2.o.symm,j1.o,v7.o,r5.o⟩
    simp[intOf];have:=f8.o;omega
   |some vp =>
    obtain⟨rp,l4,G2,_⟩:=j1.o.some_of Y i6;rw[l4]at hg;have k9:wj.cell? (Ad g j)=some (.slice (some (Ad rp 0)) D.n D.n):=hg;have hq:=λw=>Ed 102 9 underlying102 w (some (Ad rp 0)) D.n D.n;rw[show (some ((Ad rp 0):Addr)).isNone=false from rfl]at hq;obtain⟨rr,I4⟩:=exq<|Cy D.kind D.n st vp sp.2;have j4:colG D st na x nb y i (j+1) s0=cell3 D na x nb y i j rr.1 (cell2 D na x i j rr.1 (cell1 D nb y j rr.1 (updV sp.1 false j rr.1,rr.2))):=by show DY D st na x nb y i j (colG D st na x nb y i j s0)=_;rw[<-B5.o,I4];unfold DY;rw[i6]
    have H1:=qh I4;clear I4;have d2:=qh j4;clear j4;have t8:=qh i6;clear i6;have E5:=qh G2;clear G2;have b9:=qh l4;clear l4;rw[l6]at k9
    go_wp2_with fail
    rw[<-z,<-l6];clear l6 z k9 hg hq;have b1:Fr (λ_=>False) wj wj.drew:=(Fr.refl _ _).drew;obtain⟨wd,f5⟩:=exq<|wj.drew;rw[<-f5]at b1;have u:=v7.o.kept b1 (λe=>e) (λe=>e) (λe=>e) (λe=>e) (λ_ e=>e.elim);have a8:=j1.o.kept b1 (λ_ e=>e) (λ_ _ _ _ _ e=>e);have j7:=r5.o.kept b1 (λe=>e);have e8:=D9.o.kept b1 (λe=>e);have X:wd.cell? (Ad c8 0)=some (.pointer (some (Ad o 0)))/\wd.cell? (Ad jb 0)=some (.int .i64 (j:Int))/\wd.cell? (Ad g j)=some (.slice (some (Ad rp 0)) D.n D.n) :=
     ⟨u.k8.cell,e8.cell,by have H:=(a8.top false).cell Y;rw[a5.o,b9.o]at H;exact H⟩
    have z1:=a8.sm false j vp t8.o;have G4:=z4.o.later J6.o u.sc u.gs;have J4:=qh<|z0q (rb:=rp) (st:=st) (v:=vp) wd HV.o u.sc G4 (b1.row E5.o (λe=>e)) z1 w u.hb u.lc ht.o;clear G4;have e3:=qh u;clear u v7;have g7:=qh a8;clear a8 j1;have q7:=qh j7;clear j7 r5;have r6:=qh e8;clear e8 D9 b1;have E4:=qh z1;clear z1 E5;refine Au (λQ=>Q.cell? (Ad c8 0)=some (.pointer (some (Ad o 0)))/\Q.cell? (Ad jb 0)=some (.int .i64 (j:Int))/\Q.cell? (Ad g j)=some (.slice (some (Ad rp 0)) D.n D.n)) 9 (by kernel_rfl) ?_;rw[<-f5];clear f5;refine Aa.tm 0 X ?_;refine Aa.tm 1 X ?_;refine Aa.tm 2 X ?_;refine Aa.tm 3 X ?_;refine Aa.tm 4 X ?_;refine Aa.tm 5 X ?_;refine Aa.tm 6 X ?_
    try simp only[Act.put,tryL]
    refine Aa.on 7 λK Z=>?_;go_simp;refine J4.o.mono ?_;rintro r L⟨rv,rfl,l3,z2,L6,a4⟩;rw[<-H1.o]at l3 z2;have c7:∀b,gg b≠o:=λb=>g7.o.gne_of (show wd.heap[o]?=_ from e3.o.sc) (by decide) b;have d3:∀b j r,j<m->Rp b j=some r->r≠o:=λb j r H h2=>g7.o.rne_of (show wd.heap[o]?=_ from e3.o.sc) (by decide) H h2;have b2:ib≠o:=Bx.ne_scl q7.o e3.o.sc;have b3:jb≠o:=Bx.ne_scl r6.o e3.o.sc;have y0:g≠o:=by rw[<-a5.o];exact c7 false
    have f7:=e3.o.rested a4 z2;have y3:=q7.o.kept a4 b2;have n7:=r6.o.kept a4 b3;have G3:∀q,smS (rr.1 q):=by rw[H1.o];exact XV E4.o
    have z8:=g7.o.rested (b:=false) (x:=rr.1) Y b9.o t8.o a4 c7 d3 l3 G3 L6 e3.o.gs.size;rw[a5.o]at z8;have z9:VR (L.setCell (Ad g j) (.slice (some (Ad rv 0)) D.n D.n)) w6.heap.size gg m D.n (λb' j'=>if b'=false/\j'=j then some rv else Rp b' j') (updV sp.1 false j rr.1):=z8
    have e1:L.cell? (Ad c8 0)=some (.pointer (some (Ad o 0)))/\L.cell? (Ad jb 0)=some (.int .i64 (j:Int))/\L.cell? (Ad g j)=some (.slice (some (Ad rp 0)) D.n D.n) :=
     ⟨f7.k8.cell,n7.cell,a4.cell X.2.2 y0⟩
    have l0:L.rowIs g 102 m (λj=>vrV D.n (Rp false j)):=by
     have H:=g7.o.top false;rw[a5.o]at H;exact a4.row H y0
    have fg:=l0.frozen j;have n6:Fr (λq=>q=g) L (L.setCell (Ad g j) (.slice (some (Ad rv 0)) D.n D.n)):=(Fr.refl (λq=>q=g) L).set (p:=(Ad g j)) (.inl rfl) _;have F:∀q cs t fr,L.heap[q]?=some (.cells cs t fr)->t≠102->¬(q=g):=λq cs t fr H h2 e=>AA l0 H h2 e.symm;have G5:=f7.kept n6 (F o _ _ _ f7.sc (by decide)) (F c8 _ _ _ f7.k8 (by decide)) (F xb _ _ _ f7.kx (by decide)) (F yb _ _ _ f7.ky (by decide)) (λq e=>by rw[e,<-a5.o];exact g7.o.low false);have F9:=y3.kept n6 (F ib _ _ _ y3 (by decide));have G1:=n7.kept n6 (F jb _ _ _ n7 (by decide));have l:=qh G5;clear G5 f7 e3;have I:=qh F9;clear F9 y3 q7;have a2:=qh G1;clear G1 n7 r6;have J:=qh z9;clear z9 z8 g7;clear n6 F l0 G3 b2 b3 y0 c7 d3 l3 z2 L6 a4 E4;refine Z.out _ _ (.inr e1) ?_;clear Z K X
    try simp only[Act.put,tryL]
    refine Aa.tm 8 e1 ?_
    try simp only[Act.put,tryL]
    have g0:=e1.2.2;refine Aa.on 9 λK Z=>?_;go_simp;refine Z.out _ _ (.inl rfl) (Aa.dn ?_);clear Z K J4;obtain⟨ws,I6⟩:=exq<|L.setCell ⟨g,j,none⟩ (.slice (some ⟨rv,0,none⟩) D.n D.n);rw[<-I6]at J l I a2;rw[<-I6];clear I6 e1 fg g0;obtain⟨v,hv⟩:=exq<|rr.1;obtain⟨s1,k0⟩:∃s1:RS,s1=(updV sp.1 false j rr.1,rr.2):=⟨_,rfl⟩;obtain⟨R,hR⟩:∃R:Bool->Nat->Option Nat,R=λb' j'=>if b'=false/\j'=j then some rv else Rp b' j':=⟨_,rfl⟩
    have E:R false j=some rv:=by rw[hR];exact ifp ⟨rfl,rfl⟩
    have N:s1.1 false j=some v:=by rw[k0,hv];exact DT _ _ _ _
    have z5:=J.o;rw[<-hR,show updV sp.1 false j rr.1=s1.1 by rw[k0]]at z5;have A8:=l.o;rw[show rr.2=s1.2 by rw[k0]]at A8;have k7:=d2.o;rw[<-k0,<-hv]at k7;clear J l d2 b9;have J:=qh z5;clear z5;have l:=qh A8;clear A8;have d2:=qh k7;clear k7;have b9:=qh E;clear E;have m8:=qh N;clear N H1 t8;clear k0 hR hv B5;by_cases j9:j<nb
    ·have L0:(j:Int)<(nb:Int):=by omega
     have ci:=I.o.cell;have cj:=a2.o.cell;have a9:=l.o.kx.cell;have b0:=l.o.ky.cell
     go_wp2_with fail
     clear ci cj a9 b0;have a3:=qh (show (j+1)<m by have:=hm.o;omega);have h4:Fr (λ_=>False) ws ws.drew:=(Fr.refl _ _).drew;obtain⟨l8,A4⟩:=exq<|ws.drew;rw[<-A4]at h4;have a1:=l.o.kept h4 (λe=>e) (λe=>e) (λe=>e) (λe=>e) (λ_ e=>e.elim);have o4:=J.o.kept h4 (λ_ e=>e) (λ_ _ _ _ _ e=>e);have F6:=I.o.kept h4 (λe=>e);have y4:=a2.o.kept h4 (λe=>e);have e5:l8.cell? (Ad c8 0)=some (.pointer (some (Ad o 0)))/\l8.cell? (Ad jb 0)=some (.int .i64 (j:Int))/\l8.cell? (Ad g j)=some (.slice (some (Ad rv 0)) D.n D.n) :=
      ⟨a1.k8.cell,y4.cell,by have H:=(o4.top false).cell Y;rw[a5.o,b9.o]at H;exact H⟩
     have n3:=GT (b:=false) (j:=(j+1)) l8 o4 a1.sc a1.k8.cell a3.o a1.gs.size HV.o.n1 (by have:=HV.o.n2;omega);rw[a5.o]at n3;have l7:IntKind.i64.wrap ((j:Int)+1)=(j:Int)+1:=by rw[IntKind.wrap_i64];have:=hm.o;omega
     rw[show (((j+1:Nat)):Int)=(j:Int)+1 by omega]at n3;have D4:=qh n3;clear n3;have g8:=qh a1;clear a1 l;have v0:=qh o4;clear o4 J;have q9:=qh F6;clear F6 I;have r7:=qh y4;clear y4 a2 h4;refine Au (λQ=>Q.cell? (Ad c8 0)=some (.pointer (some (Ad o 0)))/\Q.cell? (Ad jb 0)=some (.int .i64 (j:Int))/\Q.cell? (Ad g j)=some (.slice (some (Ad rv 0)) D.n D.n)) 11 (by kernel_rfl) ?_;rw[<-A4];clear A4;refine Aa.tm 0 e5 ?_;refine Aa.tm 1 e5 ?_;refine Aa.tm 2 e5 ?_;refine Aa.tm 3 e5 ?_;refine Aa.tm 4 e5 ?_;refine Aa.tm 6 e5 ?_;refine Aa.tm 7 e5 ?_;refine Aa.tm 8 e5 ?_;refine Aa.tm 9 e5 ?_;refine Aa.tm 10 e5 ?_
     try simp only[Act.put,tryL]
     refine Aa.on 5 λK Z=>?_;go_simp;refine D4.o.mono ?_;rintro r g3⟨Ra,B0,rfl,U,e4,k,hf⟩;have F:∀q cs t fr,l8.heap[q]?=some (.cells cs t fr)->t≠102->¬(q=gg false):=λq cs t fr H h2 e=>v0.o.gne_of H h2 false e.symm;have c:=g8.o.kept hf (F o _ _ _ g8.o.sc (by decide)) (F c8 _ _ _ g8.o.k8 (by decide)) (F xb _ _ _ g8.o.kx (by decide)) (F yb _ _ _ g8.o.ky (by decide)) (λq e=>by rw[e];exact v0.o.low false);have B:=q9.o.kept hf (F ib _ _ _ q9.o (by decide));have z:=r7.o.kept hf (F jb _ _ _ r7.o (by decide));have T:¬(false=false/\j=(j+1)):=λe=>by have:=e.2;omega
     have E:Ra false j=some rv:=(e4 false j T).trans b9.o;have N:(updV s1.1 false (j+1) ((s1.1 false (j+1)).getD Ax)) false j=some v:=(IK T).trans m8.o;have G:=k.row false j rv v Y E N;have d:=k.row false (j+1) B0 ((s1.1 false (j+1)).getD Ax) a3.o U (DT _ _ _ _);have b4:o≠B0:=(AA d.1 (show g3.heap[o]?=_ from c.sc) (by decide)).symm;have b5:rv≠o:=AA G.1 (show g3.heap[o]?=_ from c.sc) (by decide);have f3:rv≠B0:=λe=>T (k.sep false j false (j+1) rv Y a3.o E (by rw[e];exact U));have d1:∀q,smS (((s1.1 false (j+1)).getD Ax) q):=k.sm false (j+1) _ (DT _ _ _ _);have a7:∀q,smS (v q):=k.sm false j v N;have b2:ib≠o:=Bx.ne_scl B c.sc;have b3:jb≠o:=Bx.ne_scl z c.sc;have hP:PWt w o xb yb ib jb (.slice ax na cx) (.slice ay nb cy) i j g3:=⟨c.hb,c.kx,c.ky,B,z,c.nx,c.ny,b2,b3⟩;have lx:=(AA d.1 c.kx (by decide)).symm;have ly:=(AA d.1 c.ky (by decide)).symm;have li:=(AA d.1 B (by decide)).symm;have lj:=(AA d.1 z (by decide)).symm;have b8:=IC (nf:=85) (cap:=#[.pointer (some (Ad yb 0)),.pointer (some (Ad jb 0))]) (sel:=sel2 (y j)) (P:=PWt w o xb yb ib jb (.slice ax na cx) (.slice ay nb cy) i j) w g3 HV.o hS.o c.hb ht.o c.sc d.1 G.1 c.lc (Nat.le_trans i4.o d.2) b4 f3 b5 d1 a7 f2.o.aw hP
      (λwa wb hp hf=>hp.fr hf c.lc (Nat.le_trans i4.o d.2) lx ly li lj) (tst2 hy.o j9)
     have v8:g3.cell? (Ad c8 0)=some (.pointer (some (Ad o 0)))/\g3.cell? (Ad jb 0)=some (.int .i64 (j:Int))/\g3.cell? (Ad g j)=some (.slice (some (Ad rv 0)) D.n D.n) :=
      ⟨c.k8.cell,z.cell,by have H:=(k.top false).cell Y;rw[a5.o,E]at H;exact H⟩
     have c7:∀b,gg b≠o:=λb=>k.gne_of (show g3.heap[o]?=_ from c.sc) (by decide) b;have d3:∀b j r,j<m->Ra b j=some r->r≠o:=λb j r H h2=>k.rne_of (show g3.heap[o]?=_ from c.sc) (by decide) H h2;have H9:=a7;have f1:∀(L:World) (lz:L.rowIs B0 9 D.n (λq=>.string ((Br D (sel2 (y j)) v D.n ((s1.1 false (j+1)).getD Ax,s1.2)).1 q))),Fr (λq=>q=o\/q=B0) g3 L->Scl L o D (.slice a D.n cap) e2 (Br D (sel2 (y j)) v D.n ((s1.1 false (j+1)).getD Ax,s1.2)).2 ->
       VR L w6.heap.size gg m D.n Ra (By D false (j+1) (sel2 (y j)) v s1).1/\WG w w6 L o c8 xb yb D (.slice a D.n cap) e2 (.slice ax na cx) (.slice ay nb cy) (By D false (j+1) (sel2 (y j)) v s1).2/\Bx L ib 3 (.int .i64 (i:Int))/\Bx L jb 3 (.int .i64 (j:Int)):=λL lz fz sz=>by
      have H:=k.step2 a3.o U fz c7 d3 lz (EJ a7 D.n d1);rw[IL]at H;exact⟨H,c.stepped fz sz d.1 d.2,B.kept fz (λe=>e.elim b2 li),z.kept fz (λe=>e.elim b3 lj)⟩
     have s6:=qh b8;clear b8;have E0:=qh f1;clear f1;have b9:=qh E;clear E;have W:(By D false (j+1) (sel2 (y j)) v s1).1 false j=some v:=(IB T).trans m8.o;clear H9 F c B z N G d b4 b5 f3 d1 a7 b2 b3 hP lx ly li lj c7 d3 hf k e4 U T;have C3:=v8;refine Z.out _ _ (.inr v8) ?_;clear Z K
     try simp only[Act.put,tryL]
     refine Aa.on 11 λK Z=>?_;go_simp;refine s6.o.mono ?_;rintro r wt⟨rfl,e9,a6,d0⟩;obtain⟨k,c,B,z⟩:=E0.o wt e9 d0 a6;refine Z.out _ _ (.inl rfl) (Aa.dn ?_);clear Z K C3 l7 e9 d0 a6 s6 E0 D4 e5 v8 v0 g8 q9 r7;obtain⟨s2,a6⟩:=exq<|By D false (j+1) (sel2 (y j)) v s1;rw[<-a6]at k c W;have B6:=qh a6;clear a6;have t7:=qh W;clear W;have J:=qh k;clear k;have l:=qh c;clear c;have I:=qh B;clear B;have a2:=qh z;clear z;by_cases d5:i<na
     ·have j6:(i:Int)<(na:Int):=by omega
      have ci:=I.o.cell;have cj:=a2.o.cell;have a9:=l.o.kx.cell;have b0:=l.o.ky.cell
      go_wp2_with fail
      clear ci cj a9 b0;have a3:=qh (show j<m by have:=hm.o;omega);have h5:Fr (λ_=>False) wt wt.drew:=(Fr.refl _ _).drew;obtain⟨l9,A5⟩:=exq<|wt.drew;rw[<-A5]at h5;have i2:=l.o.kept h5 (λe=>e) (λe=>e) (λe=>e) (λe=>e) (λ_ e=>e.elim);have o5:=J.o.kept h5 (λ_ e=>e) (λ_ _ _ _ _ e=>e);have F7:=I.o.kept h5 (λe=>e);have y5:=a2.o.kept h5 (λe=>e);have f9:l9.cell? (Ad c8 0)=some (.pointer (some (Ad o 0)))/\l9.cell? (Ad jb 0)=some (.int .i64 (j:Int))/\l9.cell? (Ad g j)=some (.slice (some (Ad rv 0)) D.n D.n) :=
       ⟨i2.k8.cell,y5.cell,by have H:=(o5.top false).cell Y;rw[a5.o,b9.o]at H;exact H⟩
      have x2:=GT (b:=true) (j:=j) l9 o5 i2.sc i2.k8.cell a3.o i2.gs.size HV.o.n1 (by have:=HV.o.n2;omega);rw[j5.o]at x2;have l7:=HV.o;have D5:=qh x2;clear x2;have g9:=qh i2;clear i2 l;have v2:=qh o5;clear o5 J;have r2:=qh F7;clear F7 I;have r8:=qh y5;clear y5 a2 h5;refine Au (λQ=>Q.cell? (Ad c8 0)=some (.pointer (some (Ad o 0)))/\Q.cell? (Ad jb 0)=some (.int .i64 (j:Int))/\Q.cell? (Ad g j)=some (.slice (some (Ad rv 0)) D.n D.n)) 10 (by kernel_rfl) ?_;rw[<-A5];clear A5;refine Aa.tm 0 f9 ?_;refine Aa.tm 1 f9 ?_;refine Aa.tm 2 f9 ?_;refine Aa.tm 3 f9 ?_;refine Aa.tm 5 f9 ?_;refine Aa.tm 6 f9 ?_;refine Aa.tm 7 f9 ?_;refine Aa.tm 8 f9 ?_;refine Aa.tm 9 f9 ?_
      try simp only[Act.put,tryL]
      refine Aa.on 4 λK Z=>?_;go_simp;refine D5.o.mono ?_;rintro r g4⟨Rb,B1,rfl,U,e4,k,hf⟩;have F:∀q cs t fr,l9.heap[q]?=some (.cells cs t fr)->t≠102->¬(q=gg true):=λq cs t fr H h2 e=>v2.o.gne_of H h2 true e.symm;have c:=g9.o.kept hf (F o _ _ _ g9.o.sc (by decide)) (F c8 _ _ _ g9.o.k8 (by decide)) (F xb _ _ _ g9.o.kx (by decide)) (F yb _ _ _ g9.o.ky (by decide)) (λq e=>by rw[e];exact v2.o.low true);have B:=r2.o.kept hf (F ib _ _ _ r2.o (by decide));have z:=r8.o.kept hf (F jb _ _ _ r8.o (by decide));have T:¬(false=true/\j=j):=λe=>by cases e.1
      have E:Rb false j=some rv:=(e4 false j T).trans b9.o;have N:(updV s2.1 true j ((s2.1 true j).getD Ax)) false j=some v:=(IK T).trans t7.o;have G:=k.row false j rv v Y E N;have d:=k.row true j B1 ((s2.1 true j).getD Ax) a3.o U (DT _ _ _ _);have b4:o≠B1:=(AA d.1 (show g4.heap[o]?=_ from c.sc) (by decide)).symm;have b5:rv≠o:=AA G.1 (show g4.heap[o]?=_ from c.sc) (by decide);have f3:rv≠B1:=λe=>T (k.sep false j true j rv Y a3.o E (by rw[e];exact U));have d1:∀q,smS (((s2.1 true j).getD Ax) q):=k.sm true j _ (DT _ _ _ _);have a7:∀q,smS (v q):=k.sm false j v N;have b2:ib≠o:=Bx.ne_scl B c.sc;have b3:jb≠o:=Bx.ne_scl z c.sc;have hP:PWt w o xb yb ib jb (.slice ax na cx) (.slice ay nb cy) i j g4:=⟨c.hb,c.kx,c.ky,B,z,c.nx,c.ny,b2,b3⟩;have lx:=(AA d.1 c.kx (by decide)).symm;have ly:=(AA d.1 c.ky (by decide)).symm;have li:=(AA d.1 B (by decide)).symm;have lj:=(AA d.1 z (by decide)).symm;have b8:=IC (nf:=86) (cap:=#[.pointer (some (Ad xb 0)),.pointer (some (Ad ib 0))]) (sel:=sel3 (x i)) (P:=PWt w o xb yb ib jb (.slice ax na cx) (.slice ay nb cy) i j) w g4 HV.o hS.o c.hb ht.o c.sc d.1 G.1 c.lc (Nat.le_trans i4.o d.2) b4 f3 b5 d1 a7 f2.o.aw hP
       (λwa wb hp hf=>hp.fr hf c.lc (Nat.le_trans i4.o d.2) lx ly li lj) (tst3 hx.o d5)
      have w0:g4.cell? (Ad c8 0)=some (.pointer (some (Ad o 0)))/\g4.cell? (Ad jb 0)=some (.int .i64 (j:Int))/\g4.cell? (Ad g j)=some (.slice (some (Ad rv 0)) D.n D.n) :=
       ⟨c.k8.cell,z.cell,by have H:=(k.top false).cell Y;rw[a5.o,E]at H;exact H⟩
      have c7:∀b,gg b≠o:=λb=>k.gne_of (show g4.heap[o]?=_ from c.sc) (by decide) b;have d3:∀b j r,j<m->Rb b j=some r->r≠o:=λb j r H h2=>k.rne_of (show g4.heap[o]?=_ from c.sc) (by decide) H h2;have I0:=a7;have f1:∀(L:World) (lz:L.rowIs B1 9 D.n (λq=>.string ((Br D (sel3 (x i)) v D.n ((s2.1 true j).getD Ax,s2.2)).1 q))),Fr (λq=>q=o\/q=B1) g4 L->Scl L o D (.slice a D.n cap) e2 (Br D (sel3 (x i)) v D.n ((s2.1 true j).getD Ax,s2.2)).2 ->
        VR L w6.heap.size gg m D.n Rb (By D true j (sel3 (x i)) v s2).1/\WG w w6 L o c8 xb yb D (.slice a D.n cap) e2 (.slice ax na cx) (.slice ay nb cy) (By D true j (sel3 (x i)) v s2).2/\Bx L ib 3 (.int .i64 (i:Int))/\Bx L jb 3 (.int .i64 (j:Int)):=λL lz fz sz=>by
       have H:=k.step2 a3.o U fz c7 d3 lz (EJ a7 D.n d1);rw[IL]at H;exact⟨H,c.stepped fz sz d.1 d.2,B.kept fz (λe=>e.elim b2 li),z.kept fz (λe=>e.elim b3 lj)⟩
      have s7:=qh b8;clear b8;have E1:=qh f1;clear f1;have b9:=qh E;clear E;have W:(By D true j (sel3 (x i)) v s2).1 false j=some v:=(IB T).trans t7.o;clear I0 F c B z N G d b4 b5 f3 d1 a7 b2 b3 hP lx ly li lj c7 d3 hf k e4 U T;have C4:=w0;refine Z.out _ _ (.inr w0) ?_;clear Z K
      try simp only[Act.put,tryL]
      refine Aa.on 10 λK Z=>?_;go_simp;refine s7.o.mono ?_;rintro r wu⟨rfl,e9,a6,d0⟩;obtain⟨k,c,B,z⟩:=E1.o wu e9 d0 a6;refine Z.out _ _ (.inl rfl) (Aa.dn ?_);clear Z K C4 l7 e9 d0 a6 s7 E1 D5 f9 w0 v2 g9 r2 r8;obtain⟨s3,C9⟩:=exq<|By D true j (sel3 (x i)) v s2;rw[<-C9]at k c W;replace C9:=qh C9;have E6:=qh W;clear W;have J:=qh k;clear k;have l:=qh c;clear c;have I:=qh B;clear B;have a2:=qh z;clear z;have ci:=I.o.cell;have cj:=a2.o.cell;have a9:=l.o.kx.cell;have b0:=l.o.ky.cell
      go_wp2_with fail
      clear ci cj a9 b0;have a3:=qh (show (j+1)<m by have:=hm.o;omega);have h6:Fr (λ_=>False) wu wu.drew:=(Fr.refl _ _).drew;obtain⟨m4,A6⟩:=exq<|wu.drew;rw[<-A6]at h6;have i3:=l.o.kept h6 (λe=>e) (λe=>e) (λe=>e) (λe=>e) (λ_ e=>e.elim);have o6:=J.o.kept h6 (λ_ e=>e) (λ_ _ _ _ _ e=>e);have F8:=I.o.kept h6 (λe=>e);have y6:=a2.o.kept h6 (λe=>e);have e6:m4.cell? (Ad c8 0)=some (.pointer (some (Ad o 0)))/\m4.cell? (Ad jb 0)=some (.int .i64 (j:Int))/\m4.cell? (Ad g j)=some (.slice (some (Ad rv 0)) D.n D.n) :=
       ⟨i3.k8.cell,y6.cell,by have H:=(o6.top false).cell Y;rw[a5.o,b9.o]at H;exact H⟩
      have n5:=GT (b:=true) (j:=(j+1)) m4 o6 i3.sc i3.k8.cell a3.o i3.gs.size HV.o.n1 (by have:=HV.o.n2;omega);rw[j5.o]at n5;have l7:IntKind.i64.wrap ((j:Int)+1)=(j:Int)+1:=by rw[IntKind.wrap_i64];have:=hm.o;omega
      rw[show (((j+1:Nat)):Int)=(j:Int)+1 by omega]at n5;have D6:=qh n5;clear n5;have h0:=qh i3;clear i3 l;have v3:=qh o6;clear o6 J;have r3:=qh F8;clear F8 I;have r9:=qh y6;clear y6 a2 h6;refine Au (λQ=>Q.cell? (Ad c8 0)=some (.pointer (some (Ad o 0)))/\Q.cell? (Ad jb 0)=some (.int .i64 (j:Int))/\Q.cell? (Ad g j)=some (.slice (some (Ad rv 0)) D.n D.n)) 11 (by kernel_rfl) ?_;rw[<-A6];clear A6;refine Aa.tm 0 e6 ?_;refine Aa.tm 1 e6 ?_;refine Aa.tm 2 e6 ?_;refine Aa.tm 3 e6 ?_;refine Aa.tm 4 e6 ?_;refine Aa.tm 6 e6 ?_;refine Aa.tm 7 e6 ?_;refine Aa.tm 8 e6 ?_;refine Aa.tm 9 e6 ?_;refine Aa.tm 10 e6 ?_
      try simp only[Act.put,tryL]
      refine Aa.on 5 λK Z=>?_;go_simp;refine D6.o.mono ?_;rintro r g5⟨Rc,B2,rfl,U,e4,k,hf⟩;have F:∀q cs t fr,m4.heap[q]?=some (.cells cs t fr)->t≠102->¬(q=gg true):=λq cs t fr H h2 e=>v3.o.gne_of H h2 true e.symm;have c:=h0.o.kept hf (F o _ _ _ h0.o.sc (by decide)) (F c8 _ _ _ h0.o.k8 (by decide)) (F xb _ _ _ h0.o.kx (by decide)) (F yb _ _ _ h0.o.ky (by decide)) (λq e=>by rw[e];exact v3.o.low true);have B:=r3.o.kept hf (F ib _ _ _ r3.o (by decide));have z:=r9.o.kept hf (F jb _ _ _ r9.o (by decide));have T:¬(false=true/\j=(j+1)):=λe=>by cases e.1
      have E:Rc false j=some rv:=(e4 false j T).trans b9.o;have N:(updV s3.1 true (j+1) ((s3.1 true (j+1)).getD Ax)) false j=some v:=(IK T).trans E6.o;have G:=k.row false j rv v Y E N;have d:=k.row true (j+1) B2 ((s3.1 true (j+1)).getD Ax) a3.o U (DT _ _ _ _);have b4:o≠B2:=(AA d.1 (show g5.heap[o]?=_ from c.sc) (by decide)).symm;have b5:rv≠o:=AA G.1 (show g5.heap[o]?=_ from c.sc) (by decide);have f3:rv≠B2:=λe=>T (k.sep false j true (j+1) rv Y a3.o E (by rw[e];exact U));have d1:∀q,smS (((s3.1 true (j+1)).getD Ax) q):=k.sm true (j+1) _ (DT _ _ _ _);have a7:∀q,smS (v q):=k.sm false j v N;have b2:ib≠o:=Bx.ne_scl B c.sc;have b3:jb≠o:=Bx.ne_scl z c.sc;have hP:PWt w o xb yb ib jb (.slice ax na cx) (.slice ay nb cy) i j g5:=⟨c.hb,c.kx,c.ky,B,z,c.nx,c.ny,b2,b3⟩;have lx:=(AA d.1 c.kx (by decide)).symm;have ly:=(AA d.1 c.ky (by decide)).symm;have li:=(AA d.1 B (by decide)).symm;have lj:=(AA d.1 z (by decide)).symm;have b8:=IC (nf:=87) (cap:=#[.pointer (some (Ad xb 0)),.pointer (some (Ad ib 0)),.pointer (some (Ad yb 0)),.pointer (some (Ad jb 0))]) (sel:=sel4 (x i) (y j)) (P:=PWt w o xb yb ib jb (.slice ax na cx) (.slice ay nb cy) i j) w g5 HV.o hS.o c.hb ht.o c.sc d.1 G.1 c.lc (Nat.le_trans i4.o d.2) b4 f3 b5 d1 a7 f2.o.aw hP
       (λwa wb hp hf=>hp.fr hf c.lc (Nat.le_trans i4.o d.2) lx ly li lj) (tst4 hx.o d5 hy.o j9)
      have x0:g5.cell? (Ad c8 0)=some (.pointer (some (Ad o 0)))/\g5.cell? (Ad jb 0)=some (.int .i64 (j:Int))/\g5.cell? (Ad g j)=some (.slice (some (Ad rv 0)) D.n D.n) :=
       ⟨c.k8.cell,z.cell,by have H:=(k.top false).cell Y;rw[a5.o,E]at H;exact H⟩
      have c7:∀b,gg b≠o:=λb=>k.gne_of (show g5.heap[o]?=_ from c.sc) (by decide) b;have d3:∀b j r,j<m->Rc b j=some r->r≠o:=λb j r H h2=>k.rne_of (show g5.heap[o]?=_ from c.sc) (by decide) H h2;have I1:=a7;have f1:∀(L:World) (lz:L.rowIs B2 9 D.n (λq=>.string ((Br D (sel4 (x i) (y j)) v D.n ((s3.1 true (j+1)).getD Ax,s3.2)).1 q))),Fr (λq=>q=o\/q=B2) g5 L->Scl L o D (.slice a D.n cap) e2 (Br D (sel4 (x i) (y j)) v D.n ((s3.1 true (j+1)).getD Ax,s3.2)).2 ->
        VR L w6.heap.size gg m D.n Rc (By D true (j+1) (sel4 (x i) (y j)) v s3).1/\WG w w6 L o c8 xb yb D (.slice a D.n cap) e2 (.slice ax na cx) (.slice ay nb cy) (By D true (j+1) (sel4 (x i) (y j)) v s3).2/\Bx L ib 3 (.int .i64 (i:Int))/\Bx L jb 3 (.int .i64 (j:Int)):=λL lz fz sz=>by
       have H:=k.step2 a3.o U fz c7 d3 lz (EJ a7 D.n d1);rw[IL]at H;exact⟨H,c.stepped fz sz d.1 d.2,B.kept fz (λe=>e.elim b2 li),z.kept fz (λe=>e.elim b3 lj)⟩
      have s8:=qh b8;clear b8;have E2:=qh f1;clear f1;have b9:=qh E;clear E;have W:(By D true (j+1) (sel4 (x i) (y j)) v s3).1 false j=some v:=(IB T).trans E6.o;clear I1 F c B z N G d b4 b5 f3 d1 a7 b2 b3 hP lx ly li lj c7 d3 hf k e4 U T;have C5:=x0;refine Z.out _ _ (.inr x0) ?_;clear Z K
      try simp only[Act.put,tryL]
      refine Aa.on 11 λK Z=>?_;go_simp;refine s8.o.mono ?_;rintro r wv⟨rfl,e9,a6,d0⟩;obtain⟨k,c,B,z⟩:=E2.o wv e9 d0 a6;refine Z.out _ _ (.inl rfl) (Aa.dn ?_);clear Z K C5 l7 e9 d0 a6 s8 E2 D6 e6 x0 v3 h0 r3 r9;obtain⟨s4,D0⟩:=exq<|By D true (j+1) (sel4 (x i) (y j)) v s3;rw[<-D0]at k c W;replace D0:=qh D0;have M9:=qh W;clear W;have J:=qh k;clear k;have l:=qh c;clear c;have I:=qh B;clear B;have a2:=qh z;clear z;have ci:=I.o.cell;have cj:=a2.o.cell;have a9:=l.o.kx.cell;have b0:=l.o.ky.cell
      go_wp2_with fail
      clear ci cj a9 b0;go_roundw
      case rel=>exact⟨j+1,_,s4,by have:=f8.o;omega,by go_num,by rw[d2.o];unfold cell1 cell2 cell3;rw[ifp j9,ifp d5,ifp ⟨d5,j9⟩,D0.o,C9.o,B6.o],J.o,l.o,I.o⟩
      simp[intOf];have:=f8.o;omega
     have j6:¬((i:Int)<(na:Int)):=by omega
     have ci:=I.o.cell;have cj:=a2.o.cell;have a9:=l.o.kx.cell;have b0:=l.o.ky.cell
     go_wp2_with fail
     clear ci cj a9 b0;go_roundw
     case rel=>exact⟨j+1,_,s2,by have:=f8.o;omega,by go_num,by rw[d2.o];unfold cell1 cell2 cell3;rw[ifp j9,ifn d5,ifn (λh=>d5 h.1),B6.o],J.o,l.o,I.o⟩
     simp[intOf];have:=f8.o;omega
    have L0:¬((j:Int)<(nb:Int)):=by omega
    by_cases d5:i<na
    ·have j6:(i:Int)<(na:Int):=by omega
     have ci:=I.o.cell;have cj:=a2.o.cell;have a9:=l.o.kx.cell;have b0:=l.o.ky.cell
     go_wp2_with fail
     clear ci cj a9 b0;have a3:=qh (show j<m by have:=hm.o;omega);have h7:Fr (λ_=>False) ws ws.drew:=(Fr.refl _ _).drew;obtain⟨m5,A7⟩:=exq<|ws.drew;rw[<-A7]at h7;have u:=l.o.kept h7 (λe=>e) (λe=>e) (λe=>e) (λe=>e) (λ_ e=>e.elim);have a8:=J.o.kept h7 (λ_ e=>e) (λ_ _ _ _ _ e=>e);have j7:=I.o.kept h7 (λe=>e);have e8:=a2.o.kept h7 (λe=>e);have g1:m5.cell? (Ad c8 0)=some (.pointer (some (Ad o 0)))/\m5.cell? (Ad jb 0)=some (.int .i64 (j:Int))/\m5.cell? (Ad g j)=some (.slice (some (Ad rv 0)) D.n D.n) :=
      ⟨u.k8.cell,e8.cell,by have H:=(a8.top false).cell Y;rw[a5.o,b9.o]at H;exact H⟩
     have x3:=GT (b:=true) (j:=j) m5 a8 u.sc u.k8.cell a3.o u.gs.size HV.o.n1 (by have:=HV.o.n2;omega);rw[j5.o]at x3;have l7:=HV.o;have D7:=qh x3;clear x3;have h3:=qh u;clear u l;have v4:=qh a8;clear a8 J;have r4:=qh j7;clear j7 I;have s5:=qh e8;clear e8 a2 h7;refine Au (λQ=>Q.cell? (Ad c8 0)=some (.pointer (some (Ad o 0)))/\Q.cell? (Ad jb 0)=some (.int .i64 (j:Int))/\Q.cell? (Ad g j)=some (.slice (some (Ad rv 0)) D.n D.n)) 10 (by kernel_rfl) ?_;rw[<-A7];clear A7;refine Aa.tm 0 g1 ?_;refine Aa.tm 1 g1 ?_;refine Aa.tm 2 g1 ?_;refine Aa.tm 3 g1 ?_;refine Aa.tm 5 g1 ?_;refine Aa.tm 6 g1 ?_;refine Aa.tm 7 g1 ?_;refine Aa.tm 8 g1 ?_;refine Aa.tm 9 g1 ?_
     try simp only[Act.put,tryL]
     refine Aa.on 4 λK Z=>?_;go_simp;refine D7.o.mono ?_;rintro r g6⟨Rd,B3,rfl,U,e4,k,hf⟩;have F:∀q cs t fr,m5.heap[q]?=some (.cells cs t fr)->t≠102->¬(q=gg true):=λq cs t fr H h2 e=>v4.o.gne_of H h2 true e.symm;have c:=h3.o.kept hf (F o _ _ _ h3.o.sc (by decide)) (F c8 _ _ _ h3.o.k8 (by decide)) (F xb _ _ _ h3.o.kx (by decide)) (F yb _ _ _ h3.o.ky (by decide)) (λq e=>by rw[e];exact v4.o.low true);have B:=r4.o.kept hf (F ib _ _ _ r4.o (by decide));have z:=s5.o.kept hf (F jb _ _ _ s5.o (by decide));have T:¬(false=true/\j=j):=λe=>by cases e.1
     have E:Rd false j=some rv:=(e4 false j T).trans b9.o;have N:(updV s1.1 true j ((s1.1 true j).getD Ax)) false j=some v:=(IK T).trans m8.o;have G:=k.row false j rv v Y E N;have d:=k.row true j B3 ((s1.1 true j).getD Ax) a3.o U (DT _ _ _ _);have b4:o≠B3:=(AA d.1 (show g6.heap[o]?=_ from c.sc) (by decide)).symm;have b5:rv≠o:=AA G.1 (show g6.heap[o]?=_ from c.sc) (by decide);have f3:rv≠B3:=λe=>T (k.sep false j true j rv Y a3.o E (by rw[e];exact U));have d1:∀q,smS (((s1.1 true j).getD Ax) q):=k.sm true j _ (DT _ _ _ _);have a7:∀q,smS (v q):=k.sm false j v N;have b2:ib≠o:=Bx.ne_scl B c.sc;have b3:jb≠o:=Bx.ne_scl z c.sc;have hP:PWt w o xb yb ib jb (.slice ax na cx) (.slice ay nb cy) i j g6:=⟨c.hb,c.kx,c.ky,B,z,c.nx,c.ny,b2,b3⟩;have lx:=(AA d.1 c.kx (by decide)).symm;have ly:=(AA d.1 c.ky (by decide)).symm;have li:=(AA d.1 B (by decide)).symm;have lj:=(AA d.1 z (by decide)).symm;have b8:=IC (nf:=86) (cap:=#[.pointer (some (Ad xb 0)),.pointer (some (Ad ib 0))]) (sel:=sel3 (x i)) (P:=PWt w o xb yb ib jb (.slice ax na cx) (.slice ay nb cy) i j) w g6 HV.o hS.o c.hb ht.o c.sc d.1 G.1 c.lc (Nat.le_trans i4.o d.2) b4 f3 b5 d1 a7 f2.o.aw hP
      (λwa wb hp hf=>hp.fr hf c.lc (Nat.le_trans i4.o d.2) lx ly li lj) (tst3 hx.o d5)
     have x1:g6.cell? (Ad c8 0)=some (.pointer (some (Ad o 0)))/\g6.cell? (Ad jb 0)=some (.int .i64 (j:Int))/\g6.cell? (Ad g j)=some (.slice (some (Ad rv 0)) D.n D.n) :=
      ⟨c.k8.cell,z.cell,by have H:=(k.top false).cell Y;rw[a5.o,E]at H;exact H⟩
     have c7:∀b,gg b≠o:=λb=>k.gne_of (show g6.heap[o]?=_ from c.sc) (by decide) b;have d3:∀b j r,j<m->Rd b j=some r->r≠o:=λb j r H h2=>k.rne_of (show g6.heap[o]?=_ from c.sc) (by decide) H h2;have I2:=a7;have f1:∀(L:World) (lz:L.rowIs B3 9 D.n (λq=>.string ((Br D (sel3 (x i)) v D.n ((s1.1 true j).getD Ax,s1.2)).1 q))),Fr (λq=>q=o\/q=B3) g6 L->Scl L o D (.slice a D.n cap) e2 (Br D (sel3 (x i)) v D.n ((s1.1 true j).getD Ax,s1.2)).2 ->
       VR L w6.heap.size gg m D.n Rd (By D true j (sel3 (x i)) v s1).1/\WG w w6 L o c8 xb yb D (.slice a D.n cap) e2 (.slice ax na cx) (.slice ay nb cy) (By D true j (sel3 (x i)) v s1).2/\Bx L ib 3 (.int .i64 (i:Int))/\Bx L jb 3 (.int .i64 (j:Int)):=λL lz fz sz=>by
      have H:=k.step2 a3.o U fz c7 d3 lz (EJ a7 D.n d1);rw[IL]at H;exact⟨H,c.stepped fz sz d.1 d.2,B.kept fz (λe=>e.elim b2 li),z.kept fz (λe=>e.elim b3 lj)⟩
     have s9:=qh b8;clear b8;have E3:=qh f1;clear f1;have b9:=qh E;clear E;have W:(By D true j (sel3 (x i)) v s1).1 false j=some v:=(IB T).trans m8.o;clear I2 F c B z N G d b4 b5 f3 d1 a7 b2 b3 hP lx ly li lj c7 d3 hf k e4 U T;have C6:=x1;refine Z.out _ _ (.inr x1) ?_;clear Z K
     try simp only[Act.put,tryL]
     refine Aa.on 10 λK Z=>?_;go_simp;refine s9.o.mono ?_;rintro r wt⟨rfl,e9,a6,d0⟩;obtain⟨k,c,B,z⟩:=E3.o wt e9 d0 a6;refine Z.out _ _ (.inl rfl) (Aa.dn ?_);clear Z K C6 l7 e9 d0 a6 s9 E3 D7 g1 x1 v4 h3 r4 s5;obtain⟨s2,a6⟩:=exq<|By D true j (sel3 (x i)) v s1;rw[<-a6]at k c W;have B6:=qh a6;clear a6;have t7:=qh W;clear W;have J:=qh k;clear k;have l:=qh c;clear c;have I:=qh B;clear B;have a2:=qh z;clear z;have ci:=I.o.cell;have cj:=a2.o.cell;have a9:=l.o.kx.cell;have b0:=l.o.ky.cell
     go_wp2_with fail
     clear ci cj a9 b0;go_roundw
     case rel=>exact⟨j+1,_,s2,by have:=f8.o;omega,by go_num,by rw[d2.o];unfold cell1 cell2 cell3;rw[ifn j9,ifp d5,ifn (λh=>j9 h.2),B6.o],J.o,l.o,I.o⟩
     simp[intOf];have:=f8.o;omega
    have j6:¬((i:Int)<(na:Int)):=by omega
    have ci:=I.o.cell;have cj:=a2.o.cell;have a9:=l.o.kx.cell;have b0:=l.o.ky.cell
    go_wp2_with fail
    clear ci cj a9 b0;go_roundw
    case rel=>exact⟨j+1,_,s1,by have:=f8.o;omega,by go_num,by rw[d2.o];unfold cell1 cell2 cell3;rw[ifn j9,ifn d5,ifn (λh=>d5 h.1)],J.o,l.o,I.o⟩
    simp[intOf];have:=f8.o;omega
  have L1:j=m:=by omega
  obtain⟨s1,rfl⟩:=exq<|sp;obtain⟨R,rfl⟩:=exq<|Rp;have N5:¬((j:Int)<(m:Int)):=by omega
  have I3:nb<m:=by have:=hm.o;omega
  have O3:(nb:Int)<(m:Int):=by omega
  have N3:(0:Int)<=(nb:Int):=by omega
  subst L1;have hk:na+1-i=(na-i)+1:=by omega
  have c9:=B4.o;rw[hk]at c9;unfold outG at c9;rw[ifn (by simp),<-J5.o,<-hm.o,<-B5.o]at c9;clear hk B4;have ci:=I.o.cell;have a9:=l.o.kx.cell;have b0:=l.o.ky.cell;have hg:=(J.o.top false).cell I3;rw[a5.o]at hg;cases hf:s1.1 false nb with
  |none =>
   have hr:=(J.o.non false nb I3).2 hf;rw[hr]at hg;have k9:wr.cell? (Ad g nb)=some (.slice none 0 0):=hg;have hq:=λw=>Ow 102 9 underlying102 w none 0 0;rw[show (!(none:Option Addr).isNone)=false from rfl]at hq;rw[ifn (λh=>by rw[hf]at h;cases h.2)]at c9;have i9:=qh c9;clear c9 hf hr hg;by_cases j8:i=na
   ·have G0:na=i:=j8.symm;rw[G0]at i9;subst G0;obtain⟨d8,b6⟩:=exq<|wr.heap.size;obtain⟨L,d7⟩:=exq<|wr.alloc (.cells #[.int .i64 ((na:Int)+1)] 3);have a4:Fr (λ_=>False) wr L:=by rw[d7];exact Fr.alloc wr _
    have j3:Bx L d8 3 (.int .i64 ((na+1:Nat):Int)):=by rw[d7,b6];exact han wr _
    have j2:=qh<|l.o.kept a4 (λe=>e) (λe=>e) (λe=>e) (λe=>e) (λ_ e=>e.elim);have f4:=(J.o.one true).kept a4;rw[j5.o]at f4;have j0:=qh f4;clear f4;have i8:=qh j3;clear j3 a4
    go_wp2_with fail
    rw[<-d7,<-b6];clear d7 b6;go_roundw
    case rel=>exact⟨na+1,s1.2,g2,d8,_,_,by omega,rfl,rfl,i8.o,j0.o,j2.o,by rw[show na+1-(na+1)=na-na by omega];exact i9.o⟩
    rw[Hp i8.o.cell,HI.o];omega
   have K9:¬((i:Int)=(na:Int)):=by omega
   obtain⟨d8,b6⟩:=exq<|wr.heap.size;obtain⟨L,d7⟩:=exq<|wr.alloc (.cells #[.int .i64 ((i:Int)+1)] 3);have a4:Fr (λ_=>False) wr L:=by rw[d7];exact Fr.alloc wr _
   have j3:Bx L d8 3 (.int .i64 ((i+1:Nat):Int)):=by rw[d7,b6];exact han wr _
   have j2:=qh<|l.o.kept a4 (λe=>e) (λe=>e) (λe=>e) (λe=>e) (λ_ e=>e.elim);have f4:=(J.o.one true).kept a4;rw[j5.o]at f4;have j0:=qh f4;clear f4;have i8:=qh j3;clear j3 a4
   go_wp2_with fail
   rw[<-d7,<-b6];clear d7 b6;go_roundw
   case rel=>exact⟨i+1,s1.2,g2,d8,_,_,by omega,rfl,rfl,i8.o,j0.o,j2.o,by rw[show na+1-(i+1)=na-i by omega];exact i9.o⟩
   rw[Hp i8.o.cell,HI.o];omega
  |some v =>
   obtain⟨rv,l4,G,_⟩:=J.o.some_of I3 hf;rw[l4]at hg;have k9:wr.cell? (Ad g nb)=some (.slice (some (Ad rv 0)) D.n D.n):=hg;have hq:=λw=>Ow 102 9 underlying102 w (some (Ad rv 0)) D.n D.n;rw[show (!(some ((Ad rv 0):Addr)).isNone)=true from rfl]at hq;by_cases j8:i=na
   ·subst j8;rw[ifp ⟨rfl,by rw[hf];rfl⟩,hf]at c9;have p9:=qh<|show wgtG D st e0 i x nb y=finC D v s1.2 from c9.symm;clear c9;have b1:Fr (λ_=>False) wr wr.drew:=(Fr.refl _ _).drew;obtain⟨wd,f5⟩:=exq<|wr.drew;rw[<-f5]at b1;have u:=l.o.kept b1 (λe=>e) (λe=>e) (λe=>e) (λe=>e) (λ_ e=>e.elim);have a8:=J.o.kept b1 (λ_ e=>e) (λ_ _ _ _ _ e=>e);have l2:=b1.row G (λe=>e);have x8:wd.cell? (Ad g nb)=some (.slice (some (Ad rv 0)) D.n D.n):=b1.cell k9 (λe=>e);have X:wd.cell? (Ad c8 0)=some (.pointer (some (Ad o 0)))/\wd.cell? (Ad yb 0)=some (.slice ay nb cy)/\wd.cell? (Ad g nb)=some (.slice (some (Ad rv 0)) D.n D.n):=⟨u.k8.cell,u.ky.cell,x8⟩;have H0:=qh<|Nu (v:=v) w wd HV.o hS.o u.hb ht.o u.sc l2 u.lc (AA l2 (show wd.heap[o]?=_ from u.sc) (by decide)) (J.o.sm false nb v hf) f2.o.fin;have M0:=qh u.n8;have M3:=qh u.ny;have M1:=qh (show g≠o by rw[<-a5.o];exact a8.gne_of (show wd.heap[o]?=_ from u.sc) (by decide) false);have l:=qh u;clear u a8 l2 x8 b1;clear hf l4 G hg
    go_wp2_with fail
    refine Au (λQ=>Q.cell? (Ad c8 0)=some (.pointer (some (Ad o 0)))/\Q.cell? (Ad yb 0)=some (.slice ay nb cy)/\Q.cell? (Ad g nb)=some (.slice (some (Ad rv 0)) D.n D.n)) 10 (by kernel_rfl) ?_;rw[<-f5];clear f5;refine Aa.tm 0 X ?_;refine Aa.tm 1 X ?_;refine Aa.tm 2 X ?_;refine Aa.tm 3 X ?_;refine Aa.tm 4 X ?_;refine Aa.tm 5 X ?_
    try simp only[Act.put,tryL]
    refine Aa.on 6 λK Z=>?_;go_simp;refine H0.o.mono ?_;rintro r wf⟨rfl,i5⟩;have e1:wf.cell? (Ad c8 0)=some (.pointer (some (Ad o 0)))/\wf.cell? (Ad yb 0)=some (.slice ay nb cy)/\wf.cell? (Ad g nb)=some (.slice (some (Ad rv 0)) D.n D.n) :=
     ⟨i5.cell X.1 M0.o,i5.cell X.2.1 M3.o,i5.cell X.2.2 M1.o⟩
    have G9:=qh i5;clear i5;refine Z.out _ _ (.inr e1) ?_;clear Z K
    try simp only[Act.put,tryL]
    refine Aa.tm 7 e1 ?_;refine Aa.tm 8 e1 ?_;refine Aa.tm 9 e1 ?_
    try simp only[Act.put,tryL]
    refine Aa.on 10 λK Z=>?_;go_simp;refine Z.out _ _ (.inl rfl) (Aa.dn ?_);clear Z K;go_wp2;go_ret2;exact⟨l.o.hb.trans (G9.o.below l.o.hb.size (λq e=>by rw[e];exact l.o.lc)),.inl ⟨HV.o,k1.o,k2.o,st,e0,o2.o,by rw[p9.o];rfl⟩⟩
   have K9:¬((i:Int)=(na:Int)):=by omega
   rw[ifn (λh=>j8 h.1)]at c9;have i9:=qh c9;clear c9 hf l4 G hg;obtain⟨d8,b6⟩:=exq<|wr.heap.size;obtain⟨L,d7⟩:=exq<|wr.alloc (.cells #[.int .i64 ((i:Int)+1)] 3);have a4:Fr (λ_=>False) wr L:=by rw[d7];exact Fr.alloc wr _
   have j3:Bx L d8 3 (.int .i64 ((i+1:Nat):Int)):=by rw[d7,b6];exact han wr _
   have j2:=qh<|l.o.kept a4 (λe=>e) (λe=>e) (λe=>e) (λe=>e) (λ_ e=>e.elim);have f4:=(J.o.one true).kept a4;rw[j5.o]at f4;have j0:=qh f4;clear f4;have i8:=qh j3;clear j3 a4
   go_wp2_with fail
   rw[<-d7,<-b6];clear d7 b6;go_roundw
   case rel=>exact⟨i+1,s1.2,g2,d8,_,_,by omega,rfl,rfl,i8.o,j0.o,j2.o,by rw[show na+1-(i+1)=na-i by omega];exact i9.o⟩
   rw[Hp i8.o.cell,HI.o];omega
 have p9:=qh (show wgtG D st e0 na x nb y=finC D Ax e by
  rw[<-B4.o];by_cases d5:i=na+1
  ·rw[show na+1-i=0 by omega];rfl
  rw[show na+1-i=(na-i)+1 by omega];unfold outG;rw[ifp (λh=>j8 ⟨by omega,h⟩)])
 have b1:Fr (λ_=>False) wr wr.drew:=(Fr.refl _ _).drew;obtain⟨wd,f5⟩:=exq<|wr.drew;rw[<-f5]at b1;have u:=l.o.kept b1 (λe=>e) (λe=>e) (λe=>e) (λe=>e) (λ_ e=>e.elim);have X:wd.cell? (Ad c8 0)=some (.pointer (some (Ad o 0))):=u.k8.cell;have M2:=qh (IR wd u.sc HV.o.n1 (by have:=HV.o.n2;omega));have l:=qh u;clear u b1 B4 J I;by_cases d5:i<=na;have j6:(i:Int)<=(na:Int):=by omega
 have N4:¬((e:Int)=0):=by have:=λh:e=0=>j8 ⟨d5,h⟩;omega
 rotate_left
 have j6:¬((i:Int)<=(na:Int)):=by omega
 all_goals
  go_wp2_with fail
  refine Au (λQ=>Q.cell? (Ad c8 0)=some (.pointer (some (Ad o 0)))) 7 (by kernel_rfl) ?_;rw[<-f5];clear f5;refine Aa.tm 0 X ?_;refine Aa.tm 1 X ?_
  try simp only[Act.put,tryL]
  refine Aa.on 2 λK Z=>?_;go_simp;refine M2.o.mono ?_;rintro r wa⟨rfl,n9,K7,_⟩;obtain⟨L8,y8⟩:=exq<|wd.heap.size;rw[<-y8]at n9;rw[<-y8];have a1:=l.o.kept K7 (λe=>e) (λe=>e) (λe=>e) (λe=>e) (λ_ e=>e.elim);have e1:wa.cell? (Ad c8 0)=some (.pointer (some (Ad o 0))):=a1.k8.cell;have H0:=qh<|Nu (v:=Ax) w wa HV.o hS.o a1.hb ht.o a1.sc n9 a1.lc (AA n9 (show wa.heap[o]?=_ from a1.sc) (by decide)) Gc f2.o.fin;have m9:=qh a1;clear a1 n9 K7 y8;refine Z.out _ _ (.inr e1) ?_;clear Z K
  try simp only[Act.put,tryL]
  refine Aa.on 3 λK Z=>?_;go_simp;refine H0.o.mono ?_;rintro r wf⟨rfl,i5⟩;have B7:wf.cell? (Ad c8 0)=some (.pointer (some (Ad o 0))):=i5.cell e1 m9.o.n8;have G9:=qh i5;clear i5;refine Z.out _ _ (.inr B7) ?_;clear Z K
  try simp only[Act.put,tryL]
  refine Aa.tm 4 B7 ?_;refine Aa.tm 5 B7 ?_;refine Aa.tm 6 B7 ?_
  try simp only[Act.put,tryL]
  refine Aa.on 7 λK Z=>?_;go_simp;refine Z.out _ _ (.inl rfl) (Aa.dn ?_);clear Z K;go_wp2;go_ret2;exact⟨m9.o.hb.trans (G9.o.below m9.o.hb.size (λq e=>by rw[e];exact m9.o.lc)),.inl ⟨HV.o,k1.o,k2.o,st,e0,o2.o,by rw[p9.o];rfl⟩⟩
variable{D:MD}{i nf:Nat}{v:Value}
def anyA(D:MD)(i:Nat)(sel:Int->Int->Bool):Bool:=(List.range (D.na i)).any λd=>sel (D.ain i d) (D.aout i d)
theorem Ja{sel:Int->Int->Bool}:anyA D i sel=true↔∃d,d<D.na i/\sel (D.ain i d) (D.aout i d)=true:=by simp[anyA]
theorem LW{sel:Int->Int->Bool}(h:∀d,d<D.na i->sel (D.ain i d) (D.aout i d)=false):anyA D i sel=false:=by
 cases g:anyA D i sel
 ·rfl
 obtain⟨d,j,c⟩:=Ja.1 g;rw[h d j]at c;cases c
theorem Vm{z:Array Value}{sel:Int->Int->Bool}{P:World->Prop}(w:World)(L:ArS none w v D i)(hn:D.na i<=30000)(ht:TstA nf z sel P)(H:∀wb,Below w.heap.size w wb->P wb):
  Calls prog 173 #[v,.func (.func nf) #[] z] w (λr w'=>Below w.heap.size w w'/\∃k:Int,r=.returned (.int .i64 k)/\(decide (0<=k)=anyA D i sel)):=by
 obtain⟨U,o⟩:=ht;obtain⟨n,l⟩:=exq<|D.na i;have hv:∃a g b c,v=.slice a n g/\n<=g/\g<=maxLen/\(0<n->a=some (Ad b c)/\b<w.heap.size)/\∀k,k<n->w.cell? (Ad b (c+k*4))=some (.int .i64 (D.ain i k))/\w.cell? (Ad b (c+k*4+1))=some (.int .i64 (D.aout i k))/\w.cell? (Ad b (c+k*4+2))=some (.string (D.aw i k))/\w.cell? (Ad b (c+k*4+3))=some (.int .i64 (D.ato i k)):=by
  rcases L with⟨Q,a,g,rfl,N⟩|⟨b,c,g,rfl,E,h2,R,S⟩
  ·exact⟨a,g,0,0,by rw[l,Q],by omega,N,by omega,λk Y=>by omega⟩
  exact⟨_,g,b,c,by rw[l],by omega,R,λ_=>⟨rfl,E.1⟩,λk Y=>S k (by omega)⟩
 obtain⟨a,g,b,c,rfl,N,Z,I,h⟩:=hv;unfold maxLen at Z;rw[<-l]at hn;replace l:=qh l;clear L;replace I:=qh I;replace h:=qh h;replace o:=qh o;replace H:=qh H
 go_enter func173,ntmps173
 go_wp2_with fail
 go_loopw [8] (λJ wr=>∃q:Nat,q<=n/\J=.int .i64 (q:Int)/\Below w.heap.size w wr/\∀j,j<q->sel (D.ain i j) (D.aout i j)=false) (λJ _=>n-(intOf J).toNat)
 case atStart=>exact⟨0,Nat.zero_le _,rfl,blr,λj X=>by omega⟩
 obtain⟨q,hq,rfl,hb,u⟩:=hrel;replace u:=qh u;replace hb:=qh hb;by_cases G:q<n
 ·have a1:(q:Int)<(n:Int):=by omega
  have O:(0:Int)<=(q:Int):=by omega
  obtain⟨rfl,s⟩:=I.o (by omega);obtain⟨t0,t1,t2,t3⟩:=h.o q G;have c0:=(hb.o.cell (p:=(Ad b (c+q*4))) s).trans t0;have c1:=(hb.o.cell (p:=(Ad b (c+q*4+1))) s).trans t1;have c2:=(hb.o.cell (p:=(Ad b (c+q*4+2))) s).trans t2;have c3:=(hb.o.cell (p:=(Ad b (c+q*4+3))) s).trans t3;clear t0 t1 t2 t3;have m:=o.o wr (H.o wr hb.o) (D.ain i q) (D.aout i q) (D.aw i q) (D.ato i q);have K:=qh m;clear m
  go_wp2_with fail
  clear c0 c1 c2 c3;refine K.o.mono ?_;rintro r w1⟨rfl,F⟩;have C:=qh<|hb.o.trans (F.mono hb.o.size);clear F K;cases B:sel (D.ain i q) (D.aout i q)
  ·replace B:=qh B;go_wp2;go_roundw
   case rel=>exact⟨q+1,by omega,by go_num,C.o,λj X=>by
    by_cases e:j=q
    ·subst e;exact B.o
    exact u.o j (by omega)⟩
   simp[intOf];omega
  replace B:=qh B;go_wp2;go_ret;refine⟨C.o,_,rfl,?_⟩;have E:anyA D i sel=true:=Ja.2 ⟨q,by rw[<-l.o];exact G,B.o⟩;rw[E];simp
 have A:q=n:=by omega
 have W:¬((q:Int)<(n:Int)):=by omega
 replace A:=qh A;go_wp2;go_ret;refine⟨hb.o,_,rfl,?_⟩;have E:anyA D i sel=false:=LW λd T=>u.o d (by rw[A.o,l.o];exact T);rw[E];rfl
theorem Tv{c:Array Value}{sel:Int->Int->Bool}{P:World->Prop}(w:World)(g:ArS none w v D i)(hn:D.na i<=30000)(j:TstA nf c sel P)(h:∀wb,Below w.heap.size w wb->P wb):
  Calls prog 138 #[v,.func (.func nf) #[] c] w (λr w'=>r=.returned (.bool (anyA D i sel))/\Below w.heap.size w w'):=by
 have l:=qh<|Vm w g hn j h;clear g hn j h
 go_enter func138,ntmps138
 go_wp2_with fail
 refine l.o.mono ?_;rintro r m⟨hb,k,rfl,d⟩;replace d:=qh d;replace hb:=qh hb;go_wp2;go_ret;exact⟨Az d.o,hb.o⟩
def selE(i o:Int):Bool:=decide<|i=o
theorem Uu:∀args w,(callFunc 107 args).run prog w=.ok (.enter 107 args) w:=λargs w=>by kernel_rfl
theorem Uw:∀args w,(callFunc 139 args).run prog w=.ok (.enter 139 args) w:=λargs w=>by kernel_rfl
theorem RQ(w:World)(i o:Int)(s:ByteArray)(t:Int):Calls prog 107 #[.agg #[.int .i64 i,.int .i64 o,.string s,.int .i64 t]] w (λr w'=>r=.returned (.bool (selE i o))/\Below w.heap.size w w'):=by
 have c:=(Below.refl w.heap.size w).alloc nlr (.cells #[.int .i64 i,.int .i64 o,.string s,.int .i64 t] 59);replace c:=qh c
 go_enter func107,ntmps107
 go_wp2;go_ret;exact⟨Az (by by_cases h:i=o<;>simp[selE,h]),c.o⟩
theorem ZV:TstA 107 #[] selE (λ_=>True) :=
 ⟨Uu,λc _ i o s t=>by
  have h:=RQ c i o s t;rw[show ∀a:Value,(#[a]++#[]:Array Value)=#[a] from λ_=>rfl];exact h⟩
def PAl(tb nf:Nat)(w:World):Prop:=w.heap[tb]?=some (.cells #[.func (.func nf) #[] #[]] 100 (0,0))
theorem ZW{sel:Int->Int->Bool}(u:Nat)(N:TstA nf #[] sel (λ_=>True)):TstA 139 #[.pointer (some (Ad u 0))] (λi o=>!sel i o) (PAl u nf):=by
 refine⟨Uw,λp F i o s t=>?_⟩;rw[show ∀a b:Value,(#[a]++#[b]:Array Value)=#[a,b] from λ_ _=>rfl];obtain⟨L,m⟩:=N;obtain⟨j,g⟩:=exq<|p.alloc (.cells #[.int .i64 i,.int .i64 o,.string s,.int .i64 t] 59);obtain⟨E,h⟩:=exq<|p.heap.size;have d:=(Below.refl p.heap.size p).alloc nlr (.cells #[.int .i64 i,.int .i64 o,.string s,.int .i64 t] 59);rw[<-g]at d;have I:j.heap[u]?=some (.cells #[.func (.func nf) #[] #[]] 100 (0,0)):=(d.block _ (lbk F)).trans F;have l:j.heap[E]?=some (.cells #[.int .i64 i,.int .i64 o,.string s,.int .i64 t] 59 (0,0)):=by rw[g,h];exact han p _
 obtain⟨K,G⟩:=exq<|j.drew;have J:j.cell? (Ad u 0)=some (.func (.func nf) #[] #[]):=by simp[World.cell?,I]
 obtain⟨⟨a0,B,C,D⟩,_⟩:=cells4 l;have c:=m j trivial i o s t;rw[show ∀a:Value,(#[a]++#[]:Array Value)=#[a] from λ_=>rfl]at c;have H:=qh c;clear c m;have z:=qh d;clear d I l F G;rw[g]at J a0 B C D;rw[h]at a0 B C D
 go_enter func139,ntmps139
 go_wp2_with fail
 rw[<-g];clear J a0 B C D g h;refine H.o.mono ?_;rintro r O⟨rfl,k⟩;have A:=qh<|z.o.trans (k.mono z.o.size);clear k H z;go_wp2;go_ret;exact⟨Az (by cases sel i o<;>rfl),A.o⟩
end
end Go.Proofs.YteappjogmnogcaaGreatDoor
