/- Parts. -/
import Derived.Test.YteappjogmnogcaaGreatDoorZ15
import Derived.Test.YteappjogmnogcaaGreatDoorZ14
namespace Go.Proofs.YteappjogmnogcaaGreatDoor
set_option maxRecDepth 100000
set_option linter.all false
set_option maxHeartbeats 16000000
open Go Tryz
section
open Go.RowKit Go.Deep
def Mo(w:World)(o:Obj):Below w.heap.size w (w.alloc o):=blr.alloc nlr _
def CR{D:MD}{v:Value}(w:World)(hM:Ma none w v D)(hs:MSz D):Calls prog 17 #[v] w (ValidE D w):=by
 obtain⟨sv,rfl,hS⟩:=hM;obtain⟨a,J,b,b6,A,C,BB,O,rfl,ha,hc,hm,hb,R⟩:=hS.open;unfold maxLen at hm;clear hS;have u:=BoxM.new w D (.slice a D.n J);have a8:=Mo w (.cells #[.int .i64 D.kind,.int .i64 D.start,.string D.lead,.slice a D.n J] 24);have h0:=hs.n;replace hs:=qh hs;replace ha:=qh ha;replace hb:=qh hb;replace R:=qh R;have m0:=u.c0;have m1:=u.c1;have m2:=u.c2;have m3:=u.c3;have G:=qh u;clear u;have m:=qh a8;clear a8;have d8:=qh<|λwx=>Gw D.kind wx;have e5:=qh<|λwx=>Kx D.kind D.lead wx hs.o.lead
 go_enter func17,ntmps17
 go_wp2_with fail
 refine(d8.o _).mono ?_;rintro r w1⟨rfl,rfl⟩;cases Y:Ao D.kind
 ·go_wp2;go_ret;exact⟨m.o,.inr ⟨λv=>by have s:=v.kind;rw[Y]at s;exact absurd s (by simp),rfl⟩⟩
 by_cases g7:D.n<1
 ·have d3:decide ((D.n:Int)<1)=true:=by simp;omega
  go_wp2;go_ret;exact⟨m.o,.inr ⟨λv=>by have s:=v.n1;omega,rfl⟩⟩
 have d3:decide ((D.n:Int)<1)=false:=by simp;omega
 by_cases g8:3000<D.n
 ·have d4:decide ((3000:Int)<(D.n:Int))=true:=by simp;omega
  go_wp2;go_ret;exact⟨m.o,.inr ⟨λv=>by have s:=v.n2;omega,rfl⟩⟩
 have d4:decide ((3000:Int)<(D.n:Int))=false:=by simp;omega
 by_cases h7:D.start<0
 ·go_wp2;go_ret;exact⟨m.o,.inr ⟨λv=>by have s:=v.s0;omega,rfl⟩⟩
 have g0:decide (D.start<0)=false:=by simp;omega
 by_cases h8:(D.n:Int)<=D.start
 ·go_wp2;go_ret;exact⟨m.o,.inr ⟨λv=>by have s:=v.s1;omega,rfl⟩⟩
 have g1:decide ((D.n:Int)<=D.start)=false:=by simp;omega
 have P:1<=D.n/\D.n<=3000/\0<=D.start/\D.start<(D.n:Int):=by omega
 replace P:=qh P;replace Y:=qh Y
 go_wp2_with fail
 obtain⟨wm,S⟩:=exq<|w.alloc (.cells #[.int .i64 D.kind,.int .i64 D.start,.string D.lead,.slice a D.n J] 24);obtain⟨mb,a1⟩:=exq<|w.heap.size;rw[<-S,<-a1]at G;rw[<-S]at m;rw[<-S,<-a1]at m0 m1 m2 m3;rw[<-S,<-a1];clear S a1;refine(e5.o _).mono ?_;rintro r w1⟨rfl,U⟩;clear m0 m1 m2 m3;cases hw:Aw D.kind D.lead
 ·go_wp2;go_ret;exact⟨m.o.trans (U.mono m.o.size),.inr ⟨λv=>by rw[v.lead]at hw;exact absurd hw (by simp),rfl⟩⟩
 have b0:=G.o.kept (Ab U none) (by simp);have a7:=m.o.trans<|U.mono m.o.size;clear U;replace hw:=qh hw;have a5:=qh b0;clear b0 G;have a4:=qh a7;clear a7 m
 go_wp2_with fail
 go_loopw [3,4] (λc i wr=>∃q T:Nat,q<=D.n/\i=.int .i64 (q:Int)/\c=.int .i64 (T:Int)/\T=Ac D q/\T<=30000/\
  (∀l,l<q->(D.fin l=⟨#[]⟩\/Aw D.kind (D.fin l)=true)/\∀k,k<D.na l->ArcOk D l k)/\BoxM wr mb D (.slice a D.n J)/\Below w.heap.size w wr) (λ_ i _=>D.n-(intOf i).toNat)
 case atStart=>exact⟨0,0,Nat.zero_le _,rfl,rfl,rfl,by omega,λl hl=>by omega,a5.o,a4.o⟩
 obtain⟨q,T,hq,rfl,rfl,L,e7,N,b4,E⟩:=hrel;clear a5 a4;have m3:=b4.c3;replace N:=qh N;have G:=qh b4;clear b4;replace E:=qh E;by_cases B:q<D.n
 ·have h6:(q:Int)<(D.n:Int):=by omega
  have f9:(0:Int)<=(q:Int):=by omega
  obtain rfl:=ha.o (by omega);have d0:=(hb.o (by omega)).1;obtain⟨k1,k2,k3,k4,k5,k6,k7⟩:=R.o q B;obtain⟨aq,c9⟩:=exq<|A q;rw[<-c9]at k2 k5;clear c9;have c0:=(E.o.cell (p:=(Ad b (b6+q*2))) d0).trans k1;have c1:=(E.o.cell (p:=(Ad b (b6+q*2+1))) d0).trans k2;unfold maxLen at k4;have a3:=λo=>(BoxM.c0 (G.o.kept (World.grownBy_alloc wr o none) (by simp)));have a6:=qh<|λo=>G.o.kept (World.grownBy_alloc wr o none) (by simp);have H:=qh<|λo=>E.o.alloc E.o.size o;have b9:=qh<|λo=>CV wr #[.string (D.fin q),.slice aq (D.na q) (C q)] o 1 _ rfl;clear k1 k2;replace k7:=qh k7;replace k5:=qh k5;replace k6:=qh k6;have g9:=hs.o.na q;have e9:IntKind.i64.wrap ((T:Int)+(D.na q:Int))=(T:Int)+(D.na q:Int):=by rw[IntKind.wrap_i64];omega
  by_cases hG:30000<T+D.na q
  ·have e6:decide ((30000:Int)<(T:Int)+(D.na q:Int))=true:=by simp;omega
   go_wp2;go_ret;exact⟨H.o _,.inr ⟨λv=>by have s:=v.arcs;have h2:=BA D (show q+1<=D.n by omega);have h3:Ac D (q+1)=Ac D q+D.na q:=rfl;omega,rfl⟩⟩
  have e6:decide ((30000:Int)<(T:Int)+(D.na q:Int))=false:=by simp;omega
  have f2:Ac D q+D.na q<=30000:=by omega
  subst L;obtain⟨xb,I⟩:=exq<|wr.heap.size;cases hF:((D.fin q).toList==[])
  focus
   have e4:=qh<|λwx=>Kx D.kind (D.fin q) wx (hs.o.fin q)
   go_wp2_with fail
   refine(e4.o _).mono ?_;rintro r w2⟨rfl,K⟩;cases a2:Aw D.kind (D.fin q)
   ·go_wp2;go_ret;exact⟨(H.o _).trans (K.mono (H.o _).size),.inr ⟨λv=>by
     rcases v.fin q B with s|s
     ·rw[s]at hF;exact absurd hF (by simp)
     rw[s]at a2;exact absurd a2 (by simp),rfl⟩⟩
   have d6:=(a6.o (.cells #[.string (D.fin q),.slice aq (D.na q) (C q)] 57)).kept (Ab K none) (by simp);have d7:=(H.o (.cells #[.string (D.fin q),.slice aq (D.na q) (C q)] 57)).trans (K.mono (H.o _).size);have F:=(Ab K none).cell (b9.o _) (by simp);clear K a3 m3 c0 c1;rw[<-I]at F;have b1:=qh d6;clear d6;have b2:=qh d7;clear d7;have b3:=qh F;clear F;have b7:=qh<|show D.fin q=⟨#[]⟩\/Aw D.kind (D.fin q)=true from .inr a2;clear a2
   go_wp2_with fail
   rw[<-I];clear I
  rotate_left
  focus
   have d2:D.fin q=⟨#[]⟩:=by rw[beq_iff_eq,Lib.toList_data]at hF;exact ByteArray.ext<|Array.toList_inj.1 hF
   have b7:=qh<|show D.fin q=⟨#[]⟩\/Aw D.kind (D.fin q)=true from .inl d2;clear d2;have b1:=qh<|a6.o (.cells #[.string (D.fin q),.slice aq (D.na q) (C q)] 57);have b2:=qh<|H.o (.cells #[.string (D.fin q),.slice aq (D.na q) (C q)] 57);have F:=b9.o 57;rw[<-I]at F;have b3:=qh F;clear F
   go_wp2_with fail
   rw[<-I];clear I a3 m3 c0 c1
  all_goals
   go_loopw [6] (λi wr=>∃d:Nat,d<=D.na q/\i=.int .i64 (d:Int)/\(∀k,k<d->ArcOk D q k)/\BoxM wr mb D (.slice (some (Ad b b6)) D.n J)/\wr.cell? (Ad xb 1)=some (.slice aq (D.na q) (C q))/\Below w.heap.size w wr) (λi _=>D.na q-(intOf i).toNat)
   case atStart=>exact⟨0,Nat.zero_le _,rfl,λk hk=>by omega,b1.o,b3.o,b2.o⟩
   obtain⟨d,hd,rfl,Z,z,x1,g⟩:=hrel;clear b1 b2 b3;replace Z:=qh Z;replace z:=qh z;replace g:=qh g;by_cases j:d<D.na q
   ·have g4:(d:Int)<(D.na q:Int):=by omega
    have f3:(0:Int)<=(d:Int):=by omega
    obtain rfl:=k5.o (by omega);have X:=(k6.o (by omega)).1;obtain⟨j0,j1,j2,j3⟩:=k7.o d j;have e0:=(g.o.cell (p:=(Ad (BB q) (O q+d*4))) X).trans j0;have e1:=(g.o.cell (p:=(Ad (BB q) (O q+d*4+1))) X).trans j1;have e2:=(g.o.cell (p:=(Ad (BB q) (O q+d*4+2))) X).trans j2;have e3:=(g.o.cell (p:=(Ad (BB q) (O q+d*4+3))) X).trans j3;clear j0 j1 j2 j3;have a3:=λo=>(BoxM.c0 (z.o.kept (World.grownBy_alloc wr o none) (by simp)));have f1:=λo=>(BoxM.c3 (z.o.kept (World.grownBy_alloc wr o none) (by simp)));have b8:=qh<|λo=>z.o.kept (World.grownBy_alloc wr o none) (by simp);have c7:=qh<|λo=>(World.grownBy_alloc wr o none).cell x1 (by simp);have h:=qh<|λo=>g.o.alloc g.o.size o;have c8:=qh<|λwx=>Kx D.kind (D.aw q d) wx (hs.o.aw q d);by_cases g5:D.ain q d<0
    ·go_wp2;go_ret;exact⟨h.o _,.inr ⟨λv=>by have s:=(v.arc q d B j).i0;omega,rfl⟩⟩
    have f4:decide (D.ain q d<0)=false:=by simp;omega
    by_cases g6:500<D.ain q d
    ·go_wp2;go_ret;exact⟨h.o _,.inr ⟨λv=>by have s:=(v.arc q d B j).i1;omega,rfl⟩⟩
    have f5:decide ((500:Int)<D.ain q d)=false:=by simp;omega
    by_cases h4:D.aout q d<0
    ·go_wp2;go_ret;exact⟨h.o _,.inr ⟨λv=>by have s:=(v.arc q d B j).o0;omega,rfl⟩⟩
    have f7:decide (D.aout q d<0)=false:=by simp;omega
    by_cases h5:500<D.aout q d
    ·go_wp2;go_ret;exact⟨h.o _,.inr ⟨λv=>by have s:=(v.arc q d B j).o1;omega,rfl⟩⟩
    have f8:decide ((500:Int)<D.aout q d)=false:=by simp;omega
    by_cases h9:D.ato q d<0
    ·go_wp2;go_ret;exact⟨h.o _,.inr ⟨λv=>by have s:=(v.arc q d B j).t0;omega,rfl⟩⟩
    have g2:decide (D.ato q d<0)=false:=by simp;omega
    by_cases i2:(D.n:Int)<=D.ato q d
    ·go_wp2;go_ret;exact⟨h.o _,.inr ⟨λv=>by have s:=(v.arc q d B j).t1;omega,rfl⟩⟩
    have g3:decide ((D.n:Int)<=D.ato q d)=false:=by simp;omega
    go_wp2_with fail
    refine(c8.o _).mono ?_;rintro r w4⟨rfl,W⟩;have d1:=(b8.o _).kept (Ab W none) (by simp);have f0:=(Ab W none).cell (c7.o _) (by simp);have a9:=(h.o _).trans (W.mono (h.o _).size);clear W a3 f1 e0 e1 e2 e3 x1;cases d5:Aw D.kind (D.aw q d)
    ·go_wp2;go_ret;exact⟨a9,.inr ⟨λv=>by have s:=(v.arc q d B j).wt;rw[d5]at s;exact absurd s (by simp),rfl⟩⟩
    have d9:=qh d5;go_wp2;go_roundw
    case rel =>
     refine⟨d+1,by omega,by go_num,λk hk=>?_,d1,f0,a9⟩
     rcases Nat.lt_succ_iff_lt_or_eq.1 hk with h2|h2
     ·exact Z.o k h2
     subst h2;exact⟨by omega,by omega,by omega,by omega,by omega,by omega,d9.o⟩
    simp[intOf];omega
   have b5:d=D.na q:=by omega
   have e8:¬((d:Int)<(D.na q:Int)):=by omega
   replace b5:=qh b5;go_wp2;go_roundw
   case rel =>
    refine⟨q+1,Ac D q+D.na q,by omega,by go_num,by go_num,rfl,by omega,λl hl=>?_,z.o,g.o⟩
    rcases Nat.lt_succ_iff_lt_or_eq.1 hl with h2|h2
    ·exact N.o l h2
    subst h2;exact⟨b7.o,λk hk=>Z.o k (by have:=b5.o;omega)⟩
   simp[intOf];omega
 have Q:q=D.n:=by omega
 have e8:¬((q:Int)<(D.n:Int)):=by omega
 obtain⟨p1,p2,p3,p4⟩:=P.o;rw[Q]at L;replace L:=qh L;replace Q:=qh Q;go_wp2;go_ret;exact⟨E.o,.inl ⟨⟨Y.o,p1,p2,p3,p4,hw.o,by rw[<-L.o];exact e7,λi hi=>(N.o i (by have:=Q.o;omega)).1,λi k hi hk=>(N.o i (by have:=Q.o;omega)).2 k hk⟩,rfl⟩⟩
end
section
open Go.RowKit Go.Deep
variable{B b db n s:Nat}{w:World}{D:MD}{R:Nat->Value}{sv v:Value}{one:ByteArray}{ac fl:Int}{e t:TypeId}{xs:List Value}{cs:Array Value}{fr:Nat × Nat}
def Fe{o:Option TypeInfo}{z:Value}(h:o.map (λi=>(i.zero,i.size,i.bytes))=some (some z,s,b)):∃i,o=some i/\i.zero=some z/\i.size=s/\i.bytes=b:=by
 cases o with
 |none=>cases h
 |some i=>simp at h;exact⟨i,rfl,h.1,h.2.1,h.2.2⟩
def RowB(w:World)(q:Nat):Prop:=∃cs t fr,w.heap[q]?=some (.cells cs t fr)/\(t=57\/t=59)
structure Kt(db:Nat)(w w':World):Prop where
 os:w'.os=w.os
 tape:w'.tape=w.tape
 output:w'.output=w.output
 size:w.heap.size<=w'.heap.size
 block:∀q,q<w.heap.size->q≠db->¬RowB w q->w'.heap[q]?=w.heap[q]?
theorem Kt.trans{db:Nat}{w i j:World}(h:Kt db w i)(k:Kt db i j):Kt db w j :=
 ⟨k.os.trans h.os,k.tape.trans h.tape,k.output.trans h.output,Nat.le_trans h.size k.size,λq g c d=>(k.block q (by have:=h.size;omega) c (λ⟨l,t,fr,m,o⟩=>d ⟨l,t,fr,by rw[<-h.block q g c d];exact m,o⟩)).trans (h.block q g c d)⟩
def Kt.of_fr{c:World}(h:Fr (λq=>q=db) w c):Kt db w c:=⟨h.os,h.tape,h.output,h.size,λq g d _=>h.block q g d⟩
def Kt.of_own{k:World}(h:w.ownsRow B e s v n xs)(o:e=57\/e=59)(c:w.grownBy k v.ownBlock):Kt db w k :=
 ⟨c.os,c.tape,c.output,c.size,λq p _ u=>c.block q p (λj=>by
  rcases h.2 with⟨rfl,_⟩|⟨g,l,d,rfl,_,i,_⟩
  ·cases j
  have m:q=g:=by simpa [Value.ownBlock] using j
  subst m;exact u ⟨d,e,_,i,o⟩)⟩
def Bj(h:w.ownsRow B e s v n xs)(hb:w.heap[b]?=some (.cells cs t fr))(k:t≠e):v.ownBlock≠some b:=by
 rcases h.2 with⟨rfl,_⟩|⟨g,d,i,rfl,_,j,_⟩
 ·simp[Value.ownBlock]
 intro c;simp[Value.ownBlock]at c;subst c;rw[j]at hb;simp at hb;exact k hb.2.1.symm
def bcs(D:MD)(sv:Value)(one:ByteArray)(ac fl:Int):Array Value:=#[.int .i64 D.kind,.int .i64 D.start,.string D.lead,sv,.string one,.int .i64 ac,.int .i64 fl]
structure Bld(w:World)(B db:Nat)(D:MD)(R:Nat->Value)(sv:Value)(one:ByteArray)(ac fl:Int):Prop where
 blk:w.heap[db]?=some (.cells (bcs D sv one ac fl) 113 (0,0))
 own:OwM w B sv D R
 low:B<=db
def Bld.lt(h:Bld w B db D R sv one ac fl):db<w.heap.size:=(Array.getElem?_eq_some_iff.1 h.blk).1
section
variable{w:World}{db:Nat}{D:MD}{sv:Value}{one:ByteArray}{ac fl:Int}{t:TypeId}(h:w.heap[db]?=some (.cells (bcs D sv one ac fl) t (0,0)))
include h
theorem BlkB.c0:w.cell? (Ad db 0)=some (.int .i64 D.kind):=by unfold bcs at h;simp[World.cell?,h]
theorem BlkB.c1:w.cell? (Ad db 1)=some (.int .i64 D.start):=by unfold bcs at h;simp[World.cell?,h]
theorem BlkB.c2:w.cell? (Ad db 2)=some (.string D.lead):=by unfold bcs at h;simp[World.cell?,h]
theorem BlkB.c3:w.cell? (Ad db 3)=some sv:=by unfold bcs at h;simp[World.cell?,h]
theorem BlkB.c4:w.cell? (Ad db 4)=some (.string one):=by unfold bcs at h;simp[World.cell?,h]
theorem BlkB.c5:w.cell? (Ad db 5)=some (.int .i64 ac):=by unfold bcs at h;simp[World.cell?,h]
theorem BlkB.c6:w.cell? (Ad db 6)=some (.int .i64 fl):=by unfold bcs at h;simp[World.cell?,h]
theorem BlkB.fz(j:Nat):w.frozen? (Ad db j)=false:=by simp[World.frozen?,h]
theorem BlkB.set3(v:Value):(w.setCell (Ad db 3) v).heap[db]?=some (.cells (bcs D v one ac fl) t (0,0)):=by
 unfold bcs at h ⊢;simp[World.setCell,Array.getElem?_modify,h]
theorem BlkB.set5(a:Int):(w.setCell (Ad db 5) (.int .i64 a)).heap[db]?=some (.cells (bcs D sv one a fl) t (0,0)):=by
 unfold bcs at h ⊢;simp[World.setCell,Array.getElem?_modify,h]
theorem BlkB.set6(a:Int):(w.setCell (Ad db 6) (.int .i64 a)).heap[db]?=some (.cells (bcs D sv one ac a) t (0,0)):=by
 unfold bcs at h ⊢;simp[World.setCell,Array.getElem?_modify,h]
end
def Fre(w:World)(sv:Value)(R:Nat->Value)(n b:Nat):Prop:=b<w.heap.size/\sv.ownBlock≠some b/\∀i,i<n->(R i).ownBlock≠some b
def FrK(db:Nat)(w:World)(sv:Value)(R:Nat->Value)(n:Nat)(w':World)(sv':Value)(R':Nat->Value)(n':Nat):Prop:=∀b,b≠db->Fre w sv R n b->Fre w' sv' R' n' b/\w'.heap[b]?=w.heap[b]?
def BlE(B db:Nat)(n:Nat)(R:Nat->Value)(sv:Value)(D':MD)(one:ByteArray)(ac' fl:Int)(w w':World):Prop:=(∃R' sv',Bld w' B db D' R' sv' one ac' fl/\FrK db w sv R n w' sv' R' D'.n)/\Below B w w'
theorem Fi(h:w.heap[b]?=some (.cells cs t fr)):∀j u,cs.toList[j]?=some u->w.cell? (((Ad b 0):Addr).add j)=some u:=by
 intro j u c;rw[Addr.add_lit,Nat.zero_add];simp[World.cell?,h]
 simpa using c
theorem ZY{f:ByteArray}:∀u ∈ [Value.string f,Value.slice none 0 0],u.oneCell'=true:=by intro u c;simp at c;rcases c with rfl|rfl<;>rfl
theorem SO(f:ByteArray)(w:World)(h:Bld w B db D R sv one ac fl)(hB:B<=w.heap.size)(hn:D.n<=100000):
  Calls prog 91 #[.pointer (some (Ad db 0)),.string f] w (λr w'=>r=.returned (.int .i64 (D.n:Int))/\BlE B db D.n R sv (D.state f) one ac fl w w'):=by
 obtain⟨i0,hi,W,X,Y⟩:=Fe Hm;obtain⟨E,j⟩:=exq<|w.alloc (.cells #[.string f,.slice none 0 0] 57);obtain⟨H,hH⟩:=exq<|w.heap.size;have P:w.grownBy E none:=by rw[j];exact World.grownBy_alloc _ _ _
 have s:E.ownsRow B 57 2 sv D.n (cat (st2 D R) D.n):=by rw[j];exact World.ownsRow.alloc h.own.top _
 have S:E.heap[H]?=some (.cells #[.string f,.slice none 0 0] 57 (0,0)):=by rw[j,hH];exact han w _
 have l:E.heap[db]?=some (.cells (bcs D (sv) one ac fl) 113 (0,0)):=by rw[j,blk_alloc_lt _ _ _ h.lt];exact h.blk
 have c4:E.cell? (Ad db 3)=some sv:=BlkB.c3 l;have a8:w.cell? (Ad db 3)=some sv:=BlkB.c3 h.blk;have a9:E.heap.size=H+1:=by rw[j,hH];simp
 obtain⟨sa,sc,a6,_,_⟩:=AC h.own.top;subst a6;have o:∀C,(w.alloc (.cells #[.string f,.slice none 0 0] 57)).grownBy C (Value.slice sa D.n sc).ownBlock->C.heap[db]?=some (.cells (bcs D (.slice sa D.n sc) one ac fl) 113 (0,0)):=λC hg=>by
  rw[<-j]at hg;exact(hg.block db (lbk l) (λe=>Bj s l (by decide) e.symm)).trans l
 replace o:=qh o;replace h:=qh h;replace s:=qh s;replace S:=qh S;replace l:=qh l;replace P:=qh P;have HI:=qh hi;have a1:=qh W;have a2:=qh X;have a3:=qh Y;clear hi W X Y;replace hH:=qh hH;have a7:=qh j
 go_enter func91,ntmps91
 go_wp2_with (at_builtin;refine wpList_append_lies _ rfl (.tmp 10) (.tmp 13) 22 rfl B 57 i0 (.agg #[.string ⟨#[]⟩,.slice none 0 0]) 2 40 underlying22 HI.o a1.o a2.o a3.o rfl (by omega) (.slice sa D.n sc) D.n _ (by first|rfl|simp[Act.eval,Act.put]) (World.ownsRow.alloc h.o.own.top _) (Ad w.heap.size 0) 1 1 [.string f,.slice none 0 0] (by first|rfl|simp[Act.eval,Act.put]) rfl (Fi (cs:=#[.string f,.slice none 0 0]) (han w _)) ZY (by omega) (by unfold maxLen;omega) (by omega) (by simp;omega) _ rfl ?_;intro F L C u c N a4;have m:=o.o C c;have e4:=BlkB.c3 m;have f4:=BlkB.fz m 3)
 have g:C.ownsRow B 57 2 (.slice (some (Ad F 0)) (D.n+1) L) (D.n+1) (cat (st2 D R) D.n++[.string f,.slice none 0 0]):=u;have J:=h.o.own.state g c;have U:(Value.slice (some (Ad F 0)) (D.n+1) L).ownBlock≠some db:=Bj g m (by decide);have T:∀i,i<(D.state f).n->((λi=>if i=D.n then Value.slice none 0 0 else R i) i).ownBlock≠some db:=λi hi=>Bj (J.row i hi) m (by decide)
 obtain⟨K,d⟩:=exq<|C.setCell ⟨db,3,none⟩ (.slice (some ⟨F,0,none⟩) (D.n+1) L);have z:OwM K B (.slice (some (Ad F 0)) (D.n+1) L) (D.state f) (λi=>if i=D.n then .slice none 0 0 else R i):=by rw[d];exact J.other (p:=(Ad db 3)) U T _
 have A:K.heap[db]?=some (.cells (bcs D (.slice (some (Ad F 0)) (D.n+1) L) one ac fl) 113 (0,0)):=by rw[d];exact BlkB.set3 m _
 have Q:Kt db w K:=by
  have Z:Kt db w (w.alloc (.cells #[.string f,.slice none 0 0] 57)):=Kt.of_fr<|Fr.alloc _ _;have h2:=Kt.of_own (db:=db) (World.ownsRow.alloc h.o.own.top (.cells #[.string f,.slice none 0 0] 57)) (.inl rfl) c;rw[d];exact(Z.trans h2).trans (Kt.of_fr ((Fr.refl (λq=>q=db) C).set (p:=(Ad db 3)) (.inl rfl) _))
 have I:FrK db w (.slice sa D.n sc) R D.n K (.slice (some (Ad F 0)) (D.n+1) L) (λi=>if i=D.n then .slice none 0 0 else R i) (D.n+1):=by
  intro b hb hf;have O:b<(w.alloc (.cells #[.string f,.slice none 0 0] 57)).heap.size:=by have:=hf.1;simp;omega
  refine⟨⟨by rw[d,nblk_setCell];exact Nat.lt_of_lt_of_le O c.size,?_,λi hi=>?_⟩,?_⟩
  ·intro e;have e2:F=b:=by simpa [Value.ownBlock] using e
   subst e2
   rcases N with Z|Z
   ·exact hf.2.1 Z
   omega
  ·dsimp only
   split
   ·simp[Value.ownBlock]
   exact hf.2.2 i (by omega)
  rw[d,Ar hb];exact(c.block b O (λe=>hf.2.1 e.symm)).trans (blk_alloc_lt _ _ _ hf.1)
 replace I:=qh I;have G:Below B w K:=by
  rw[d];exact((((Below.refl B w).alloc hB (.cells #[.string f,.slice none 0 0] 57)).grown c (by simp;omega) (λk hk=>(World.ownsRow.lt (World.ownsRow.alloc h.o.own.top (.cells #[.string f,.slice none 0 0] 57)) k hk).1)).setCell (p:=(Ad db 3)) h.o.low _)
 replace z:=qh z;clear J;replace Q:=qh Q;replace G:=qh G;clear g u c N a4 U T;have c3:=BlkB.c3 A;replace A:=qh A;clear m;rw[<-d];replace d:=qh d;clear e4 f4;have a5:((D.n+1:Nat):Int)-1=(D.n:Int):=by omega
 go_wp2;go_ret;exact⟨by first|rfl|(rw[a5])|(go_num),⟨_,_,⟨A.o,z.o,h.o.low⟩,I.o⟩,G.o⟩
theorem JJ{a b t:Int}{x:ByteArray}:∀u ∈ [Value.int .i64 a,Value.int .i64 b,Value.string x,Value.int .i64 t],u.oneCell'=true:=by intro u c;simp at c;rcases c with rfl|rfl|rfl|rfl<;>rfl
theorem SF{q:Nat}(a b t:Int)(x:ByteArray)(w:World)(h:Bld w B db D R sv one ac fl)(d7:0<=ac)(d9:ac<=100000)(hB:B<=w.heap.size)(hq:q<D.n)(hn:D.n<=100000)(e3:D.na q<=100000):
  Calls prog 92 #[.pointer (some (Ad db 0)),.int .i64 (q:Int),.agg #[.int .i64 a,.int .i64 b,.string x,.int .i64 t]] w (λr w'=>r=.returned (.tuple #[])/\BlE B db D.n R sv (D.arc q a b x t) one (ac+1) fl w w'):=by
 obtain⟨i0,hi,b7,b8,b9⟩:=Fe Hl;have e4:(q:Int)<(D.n:Int):=by omega
 have d8:(0:Int)<=(q:Int):=by omega
 obtain⟨g,T,rfl,_,_,_,_⟩:=DL h.own.top (by omega);obtain⟨ra,rc,N,_,_⟩:=AC<|h.own.row q hq;obtain⟨w1,F⟩:=exq<|w.alloc (.cells #[.int .i64 a,.int .i64 b,.string x,.int .i64 t] 59);obtain⟨l,m⟩:∃l,l=(w1.setCell ⟨db,5,none⟩ (.int .i64 (ac+1))).drew:=⟨_,rfl⟩;obtain⟨H,hH⟩:=exq<|w.heap.size;have a4:l.heap.size=H+1:=by
  rw[m];show (w1.setCell (Ad db 5) (.int .i64 (ac+1))).heap.size=_;rw[nblk_setCell,F,hH];simp
 have C:w1.heap[db]?=some (.cells (bcs D (.slice (some (Ad g 0)) D.n T) one ac fl) 113 (0,0)):=by rw[F,blk_alloc_lt _ _ _ h.lt];exact h.blk
 have c5:=BlkB.c5 C;have f5:=BlkB.fz C 5;rw[F]at c5 f5;have b4:Fr (λq=>q=db) w w1:=by rw[F];exact Fr.alloc _ _
 have W:Fr (λq=>q=db) w l:=by rw[m];exact(b4.set (p:=(Ad db 5)) (.inl rfl) _).drew
 have X:l.heap[H]?=some (.cells #[.int .i64 a,.int .i64 b,.string x,.int .i64 t] 59 (0,0)):=by
  rw[m];show (w1.setCell (Ad db 5) (.int .i64 (ac+1))).heap[H]?=_;rw[Ar (show H≠db by have:=h.lt;omega),F,hH];exact han w _
 have L:l.heap[db]?=some (.cells (bcs D (.slice (some (Ad g 0)) D.n T) one (ac+1) fl) 113 (0,0)):=by rw[m];exact BlkB.set5 C _
 have P:OwM w1 B (.slice (some (Ad g 0)) D.n T) D R:=h.own.kept (z:=none) (by rw[F];exact World.grownBy_alloc _ _ _) (by simp);have Q:=P.other (p:=(Ad db 5)) (Bj P.top C (by decide)) (λi hi=>Bj (P.row i hi) C (by decide)) (.int .i64 (ac+1));have A:OwM l B (.slice (some (Ad g 0)) D.n T) D R:=by rw[m];exact⟨Q.top,Q.row,Q.apart⟩
 clear P Q b4 C;have j:l.cell? (Ad db 3)=some (.slice (some (Ad g 0)) D.n T)/\l.cell? (Ad g (q*2+1))=some (.slice ra (D.na q) rc)/\l.cell? (Ad H 0)=some (.int .i64 a)/\l.cell? (Ad H 1)=some (.int .i64 b)/\l.cell? (Ad H 2)=some (.string x)/\l.cell? (Ad H 3)=some (.int .i64 t) :=
  ⟨BlkB.c3 L,by rw[A.arcs_cell hq,N],by simp[World.cell?,X],by simp[World.cell?,X],by simp[World.cell?,X],by simp[World.cell?,X]⟩
 have a2:∀i,i<D.n->(R i).ownBlock≠some db:=λi hi=>Bj (A.row i hi) L (by decide);have I:(R q).ownBlock≠some g:=λe=>A.tne hq e rfl;have HI:=qh hi;have c7:=qh b7;have c8:=qh b8;have c9:=qh b9;clear hi b7 b8 b9;replace h:=qh h;replace A:=qh A;replace L:=qh L;replace X:=qh X;replace W:=qh W;replace N:=qh N;replace a2:=qh a2;replace I:=qh I
 go_enter func92,ntmps92
 go_wp2_with fail
 refine Au (λZ=>Z.cell? (Ad db 3)=some (.slice (some (Ad g 0)) D.n T)/\Z.cell? (Ad g (q*2+1))=some (.slice ra (D.na q) rc)/\Z.cell? (Ad H 0)=some (.int .i64 a)/\Z.cell? (Ad H 1)=some (.int .i64 b)/\Z.cell? (Ad H 2)=some (.string x)/\Z.cell? (Ad H 3)=some (.int .i64 t)) 20 (by kernel_rfl) ?_;rw[<-F,<-m,<-hH];clear c5 f5;replace F:=qh F;replace m:=qh m;replace hH:=qh hH;refine Aa.tm 0 j ?_;refine Aa.tm 1 j ?_;refine Aa.tm 2 j ?_;refine Aa.tm 3 j ?_;refine Aa.tm 4 j ?_;refine Aa.tm 5 j ?_;refine Aa.tm 6 j ?_;refine Aa.tm 7 j ?_;refine Aa.tm 8 j ?_;refine Aa.tm 9 j ?_;refine Aa.tm 10 j ?_;refine Aa.tm 11 j ?_;refine Aa.tm 12 j ?_;refine Aa.tm 13 j ?_;refine Aa.tm 14 j ?_;refine Aa.tm 15 j ?_
 try simp only[Act.put,tryL]
 refine Aa.on 16 λK hK=>?_;go_simp;obtain⟨O,u⟩:=exq<|l.alloc (.cells #[.int .i64 a,.int .i64 b,.string x,.int .i64 t] 59);have s:l.grownBy O none:=by rw[u];exact World.grownBy_alloc _ _ _
 have b0:O.heap[H+1]?=some (.cells #[.int .i64 a,.int .i64 b,.string x,.int .i64 t] 59 (0,0)):=by rw[u,<-a4];exact han l _
 have e5:O.heap.size=H+1+1:=by rw[u];simp[a4]
 have U:O.cell? (Ad db 3)=some (.slice (some (Ad g 0)) D.n T)/\O.cell? (Ad g (q*2+1))=some (.slice ra (D.na q) rc)/\O.cell? (Ad H 0)=some (.int .i64 a)/\O.cell? (Ad H 1)=some (.int .i64 b)/\O.cell? (Ad H 2)=some (.string x)/\O.cell? (Ad H 3)=some (.int .i64 t) :=
  ⟨s.cell j.1 (by simp),s.cell j.2.1 (by simp),s.cell j.2.2.1 (by simp),s.cell j.2.2.2.1 (by simp),s.cell j.2.2.2.2.1 (by simp),s.cell j.2.2.2.2.2 (by simp)⟩
 have S:O.ownsRow B 59 4 (.slice ra (D.na q) rc) (D.na q) (cat (arc4 D q) (D.na q)):=by rw[u,<-N.o];exact World.ownsRow.alloc (A.o.row q hq) _
 have b1:B<=O.heap.size:=by have:=hH.o;omega
 rw[<-u];replace u:=qh u;replace b0:=qh b0;refine hK.out _ _ (.inr U) ?_;clear hK K
 try simp only[Act.put,tryL]
 refine Aa.on 17 λK hK=>?_;refine wp_append_lies _ (.tmp 27) (.tmp 29) 55 rfl B 59 i0 (.agg #[.int .i64 0,.int .i64 0,.string ⟨#[]⟩,.int .i64 0]) 4 40 underlying55 HI.o c7.o c8.o c9.o rfl (by omega) (.slice ra (D.na q) rc) (D.na q) _ (by simp[Act.eval]) S (Ad (H+1) 0) 1 1 [.int .i64 a,.int .i64 b,.string x,.int .i64 t] (by simp[Act.eval]) rfl (Fi (cs:=#[.int .i64 a,.int .i64 b,.string x,.int .i64 t]) b0.o) JJ (by omega) (by unfold maxLen;omega) (by omega) b1 _ rfl ?_;intro go cq J a3 E a6 d5;have d:O.grownBy J (R q).ownBlock:=by rw[N.o];exact E
 have G:J.heap[db]?=some (.cells (bcs D (.slice (some (Ad g 0)) D.n T) one (ac+1) fl) 113 (0,0)) :=
  (d.block db (by have:=lbk L.o;have:=s.size;omega) (λe=>a2.o q hq e.symm)).trans ((s.block db (lbk L.o) (by simp)).trans L.o)
 have e1:g<l.heap.size:=(World.ownsRow.lt A.o.top g rfl).2;have d2:J.cell? (Ad g (q*2+1))=some (.slice ra (D.na q) rc):=d.cell U.2.1 (λe=>I.o e.symm);have b5:∀c,(Value.slice (some (Ad go 0)) (D.na q+1) cq).ownBlock=some c->(R q).ownBlock=some c\/l.heap.size<=c:=λc hc=>by
  have e:go=c:=by simpa [Value.ownBlock] using hc
  subst e
  rcases a6 with h1|h1
  ·exact .inl (by rw[N.o];exact h1)
  right;omega
 have a1:=A.o.arc (a:=a) (b:=b) (x:=x) (t:=t) (v':=.slice (some (Ad go 0)) (D.na q+1) cq) hq a3 (o:=.cells #[.int .i64 a,.int .i64 b,.string x,.int .i64 t] 59) (by rw[<-u.o];exact d) b5;have e0:J.frozen? (Ad g (q*2+1))=false:=by
  have h1:J.ownsRow B 57 2 (.slice (some (Ad g 0)) D.n T) D.n (cat (st2 D R) D.n):=Bn (by rw[u.o];exact World.ownsRow.alloc A.o.top _) d (λc hc e=>by
   have e2:g=c:=by simpa [Value.ownBlock] using hc
   subst e2;exact I.o e)
  exact DK h1 _
 have a5:J.cell? (Ad db 3)=some (.slice (some (Ad g 0)) D.n T)/\J.cell? (Ad g (q*2+1))=some (.slice ra (D.na q) rc)/\J.cell? (Ad H 0)=some (.int .i64 a)/\J.cell? (Ad H 1)=some (.int .i64 b)/\J.cell? (Ad H 2)=some (.string x)/\J.cell? (Ad H 3)=some (.int .i64 t):=by
  have Y:some H≠(R q).ownBlock:=λe=>by have:=(World.ownsRow.lt (h.o.own.row q hq) H e.symm).2;rw[<-hH.o]at this;omega
  exact⟨BlkB.c3 G,d2,d.cell U.2.2.1 Y,d.cell U.2.2.2.1 Y,d.cell U.2.2.2.2.1 Y,d.cell U.2.2.2.2.2 Y⟩
 have a8:FrK db w (.slice (some (Ad g 0)) D.n T) R D.n (J.setCell (Ad g (q*2+1)) (.slice (some (Ad go 0)) (D.na q+1) cq)) (.slice (some (Ad g 0)) D.n T) (λi=>if i=q then .slice (some (Ad go 0)) (D.na q+1) cq else R i) D.n:=by
  intro b hb hf;have d1:b≠g:=λe=>hf.2.1 (by rw[e];rfl);have b2:b<l.heap.size:=Nat.lt_of_lt_of_le hf.1 W.o.size;have b3:b<O.heap.size:=Nat.lt_of_lt_of_le b2 s.size;refine⟨⟨by rw[nblk_setCell];exact Nat.lt_of_lt_of_le b3 d.size,hf.2.1,λi hi=>?_⟩,?_⟩
  ·dsimp only
   split
   ·intro e;have e2:go=b:=by simpa [Value.ownBlock] using e
    subst e2
    rcases a6 with h1|h1
    ·exact hf.2.2 q hq (by rw[N.o];exact h1)
    omega
   exact hf.2.2 i hi
  rw[Ar d1];exact(d.block b b3 (λe=>hf.2.2 q hq e.symm)).trans ((s.block b b2 (by simp)).trans (W.o.block b hf.1 hb))
 replace a8:=qh a8;have b6:Kt db w J:=by
  have h2:=Kt.of_own (db:=db) (S) (.inr rfl) E;exact((Kt.of_fr W.o).trans (Kt.of_fr (Fr.of_gb s (by simp)))).trans h2
 have a7:Below B w J:=((W.o.below hB (λq e=>by rw[e];exact h.o.low)).trans (((Below.refl B l).alloc (by have:=hH.o;omega) _))).grown (by rw[<-u.o];exact E) (by rw[<-u.o];exact b1) (λk hk=>(World.ownsRow.lt S k hk).1);replace a1:=qh a1;replace G:=qh G;replace b6:=qh b6;replace a7:=qh a7;have a9:∃cs fr,J.heap[g]?=some (.cells cs 57 fr):=by
  have h1:J.ownsRow B 57 2 (.slice (some (Ad g 0)) D.n T) D.n (cat (st2 D R) D.n):=Bn (by rw[u.o];exact World.ownsRow.alloc A.o.top _) d (λc hc e=>by
   have e2:g=c:=by simpa [Value.ownBlock] using hc
   subst e2;exact I.o e)
  rcases h1.2 with⟨hv,_⟩|⟨g',d6,d0,hv,_,d3,_⟩
  ·cases hv
  cases hv;exact⟨d0,_,d3⟩
 replace a9:=qh a9;clear a3 E d a6 d5 b5 S s;refine hK.out _ _ (.inr a5) ?_;clear hK K
 try simp only[Act.put,tryL]
 refine Aa.tm 18 a5 ?_;refine Aa.tm 19 a5 ?_
 try simp only[Act.put,tryL]
 refine Aa.on 20 λK hK=>?_;go_simp;refine hK.out _ _ (.inl rfl) (Aa.dn ?_);clear hK K
 go_wp2_with fail
 go_end0
 have d4:B<=g:=(World.ownsRow.lt A.o.top g rfl).1;refine⟨rfl,⟨_,_,⟨?_,a1.o,h.o.low⟩,a8.o⟩,a7.o.setCell (p:=(Ad g (q*2+1))) d4 _⟩;have Y:db≠g:=λe=>by
  obtain⟨cs,fr,h1⟩:=a9.o;rw[<-e,G.o]at h1;simp at h1
 rw[Ar (show db≠g from Y)];exact G.o
end
end Go.Proofs.YteappjogmnogcaaGreatDoor
