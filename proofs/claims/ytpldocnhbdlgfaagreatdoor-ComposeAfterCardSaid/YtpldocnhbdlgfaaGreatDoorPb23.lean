/- Parts. -/
import Derived.Laws.CopyOwn
import Derived.Test.YtpldocnhbdlgfaaGreatDoorPb20
namespace Go.Proofs.YtpldocnhbdlgfaaGreatDoor
set_option maxRecDepth 100000
set_option linter.all false
set_option maxHeartbeats 16000000
open Go Tryz
section
open Go.RowKit Go.Deep
variable{b:Nat}{w:World}{kd st:Int}{sv:Value}{d:ByteArray}{t:TypeId}
def Box4(w:World)(b:Nat)(kd st:Int)(ld:ByteArray)(sv:Value):Prop:=w.heap[b]?=some (.cells #[.int .i64 kd,.int .i64 st,.string ld,sv] 25 (0,0))
def AE(w:World)(b:Nat)(c d g i:Value){j k l m:Value}(h:w.heap[b]?=some (.cells #[j,k,l,m] t (0,0))):(w.setCells b 0 [c,d,g,i]).heap[b]?=some (.cells #[c,d,g,i] t (0,0)):=by
 simp[World.setCells,World.setCell,Array.getElem?_modify,h]
theorem Ay{B:Nat}{a:World}(h:Below B a w)(hb:B<=b)(c d g i:Value):Below B a (w.setCells b 0 [c,d,g,i]) :=
 (((h.setCell (p:=(Ad b 0)) hb c).setCell (p:=(Ad b (0+1))) hb d).setCell (p:=(Ad b (0+1+1))) hb g).setCell (p:=(Ad b (0+1+1+1))) hb i
def YV{c d g i:Value}(h:w.heap[b]?=some (.cells #[c,d,g,i] t (0,0))):w.there b 0 4:=by
 intro j k;have:j=0\/j=1\/j=2\/j=3:=by omega
 rcases this with rfl|rfl|rfl|rfl<;>simp[World.cell?,World.frozen?,h]
theorem Box4.range(h:Box4 w b kd st d sv):w.rangeAt b 0 [.int .i64 kd,.int .i64 st,.string d,sv]:=by
 intro j v c;unfold Box4 at h;have g:j<4:=by have:=(List.getElem?_eq_some_iff.1 c).1;simpa using this
 have:j=0\/j=1\/j=2\/j=3:=by omega
 rcases this with rfl|rfl|rfl|rfl<;>(simp at c;subst c;simp[World.cell?,h])
def OW{c:ByteArray}(h:Box4 w b kd st c sv):(loadVar 25 (Ad b 0)).run prog w=.ok (.agg #[.int .i64 kd,.int .i64 st,.string c,sv]) w :=
 run_loadVar_mid (P:=prog) w b 0 25 [.int .i64 kd,.int .i64 st,.string c,sv] _ h.range underlying25 rfl (by kernel_rfl)
def Oz{fn:Func}{p:Tmp}(h:fn.results=#[.cell p 25])(c:Array Value)(g:c.getD p undef=.pointer (some (Ad b 0)))(hb:Box4 w b kd st d sv):
  (results fn c).run prog w=.ok (.agg #[.int .i64 kd,.int .i64 st,.string d,sv]) w:=by
 rw[Oy h,g];show ((loadVar 25 (Ad b 0)).run prog w)=_;exact OW hb
def AG{fn:Func}{p u:Tmp}(h:fn.results=#[.cell p 25,.tmp u])(c:Array Value){v:Value}(g:c.getD p undef=.pointer (some (Ad b 0)))(i:c.getD u undef=v)(hb:Box4 w b kd st d sv):
  (results fn c).run prog w=.ok (.tuple #[.agg #[.int .i64 kd,.int .i64 st,.string d,sv],v]) w:=by
 rw[results_cell_tmp h,g,i];show ((loadVar 25 (Ad b 0)).run prog w).andThen _=_;rw[OW hb];rfl
def AQ:Value:=.agg #[.int .i64 0,.int .i64 0,.string ⟨#[]⟩,.slice none 0 0]
theorem cells4{w:World}{rb:Nat}{c v1 d g:Value}{t:TypeId}(h:w.heap[rb]?=some (.cells #[c,v1,d,g] t (0,0))):(w.cell? (Ad rb 0)=some c/\w.cell? (Ad rb 1)=some v1/\w.cell? (Ad rb 2)=some d/\w.cell? (Ad rb 3)=some g)/\∀j,w.frozen? (Ad rb j)=false :=
 ⟨⟨by simp[World.cell?,h],by simp[World.cell?,h],by simp[World.cell?,h],by simp[World.cell?,h]⟩,λj=>by simp[World.frozen?,h]⟩
def Eo:(prog.info? 63).map (λi=>(i.zero,i.size,i.bytes))=some (some (.agg #[.string ⟨#[]⟩,.slice none 0 0]),2,40):=by kernel_rfl
def Hf:(prog.info? 59).map (λi=>(i.zero,i.size,i.bytes))=some (some (.agg #[.int .i64 0,.int .i64 0,.string ⟨#[]⟩,.int .i64 0]),4,40):=by kernel_rfl
end
section
open Go.RowKit Go.Deep
variable{B b db n s:Nat}{w w':World}{D:MD}{R:Nat->Value}{sv v:Value}{one:ByteArray}{fl:Int}{e t:TypeId}{xs:List Value}{cs:Array Value}
def Cs{o:Option TypeInfo}{z:Value}(h:o.map (λi=>(i.zero,i.size,i.bytes))=some (some z,s,b)):∃i,o=some i/\i.zero=some z/\i.size=s/\i.bytes=b:=by
 cases o with
 |none=>cases h
 |some i=>simp at h;exact⟨i,rfl,h.1,h.2.1,h.2.2⟩
def RowB(w:World)(q:Nat):Prop:=∃cs t fr,w.heap[q]?=some (.cells cs t fr)/\(t=63\/t=59)
structure Kt(db:Nat)(w w':World):Prop where
 os:w'.os=w.os
 tape:w'.tape=w.tape
 output:w'.output=w.output
 size:w.heap.size<=w'.heap.size
 block:∀q,q<w.heap.size->q≠db->¬RowB w q->w'.heap[q]?=w.heap[q]?
theorem Kt.trans{db:Nat}{w w' g:World}(h:Kt db w w')(k:Kt db w' g):Kt db w g :=
 ⟨k.os.trans h.os,k.tape.trans h.tape,k.output.trans h.output,Nat.le_trans h.size k.size,λq d hd c=>(k.block q (by have:=h.size;omega) hd (λ⟨i,t,fr,j,l⟩=>c ⟨i,t,fr,by rw[<-h.block q d hd c];exact j,l⟩)).trans (h.block q d hd c)⟩
def Kt.of_fr(h:Fr (λq=>q=db) w w'):Kt db w w':=⟨h.os,h.tape,h.output,h.size,λq c hd _=>h.block q c hd⟩
def Kt.of_own(h:w.ownsRow B e s v n xs)(l:e=63\/e=59)(c:w.grownBy w' v.ownBlock):Kt db w w' :=
 ⟨c.os,c.tape,c.output,c.size,λq m _ o=>c.block q m (λi=>by
  rcases h.2 with⟨rfl,_⟩|⟨g,j,cur,rfl,_,d,_⟩
  ·cases i
  have k:q=g:=by simpa [Value.ownBlock] using i
  subst k;exact o ⟨cur,e,_,d,l⟩)⟩
def Ao{fr:Nat × Nat}(h:w.ownsRow B e s v n xs)(hb:w.heap[b]?=some (.cells cs t fr))(j:t≠e):v.ownBlock≠some b:=by
 rcases h.2 with⟨rfl,_⟩|⟨g,d,cur,rfl,_,i,_⟩
 ·simp[Value.ownBlock]
 intro c;simp[Value.ownBlock]at c;subst c;rw[i]at hb;simp at hb;exact j hb.2.1.symm
def bcs(D:MD)(sv:Value)(one:ByteArray)(ac fl:Int):Array Value:=#[.int .i64 D.kind,.int .i64 D.start,.string D.lead,sv,.string one,.int .i64 ac,.int .i64 fl]
structure Bld(w:World)(B db:Nat)(D:MD)(R:Nat->Value)(sv:Value)(one:ByteArray)(ac fl:Int):Prop where
 blk:w.heap[db]?=some (.cells (bcs D sv one ac fl) 144 (0,0))
 own:OwM w B sv D R
 low:B<=db
def Bld.lt{c:Int}(h:Bld w B db D R sv one c fl):db<w.heap.size:=(Array.getElem?_eq_some_iff.1 h.blk).1
section
variable{w:World}{db:Nat}{D:MD}{sv:Value}{one:ByteArray}{ac fl:Int}{t:TypeId}(h:w.heap[db]?=some (.cells (bcs D sv one ac fl) t (0,0)))
include h
theorem BlkB.c0:w.cell? (Ad db 0)=some (.int .i64 D.kind):=by unfold bcs at h;simp[World.cell?,h]
theorem BlkB.c1:w.cell? (Ad db 1)=some (.int .i64 D.start):=by unfold bcs at h;simp[World.cell?,h]
theorem BlkB.c2:w.cell? (Ad db 2)=some (.string D.lead):=by unfold bcs at h;simp[World.cell?,h]
theorem BlkB.c3:w.cell? (Ad db 3)=some sv:=by unfold bcs at h;simp[World.cell?,h]
theorem BlkB.c4:w.cell? (Ad db 4)=some (.string one):=by unfold bcs at h;simp[World.cell?,h]
theorem BlkB.c5:w.cell? (Ad db 5)=some (.int .i64 ac):=by unfold bcs at h;simp[World.cell?,h]
theorem BlkB.c6:w.cell? (Ad db 6)=some (.int .i64 fl):=by unfold bcs at h;simp[World.cell?,h]
theorem BlkB.fz(j:Nat):w.frozen? (Ad db j)=false:=by simp[World.frozen?,h]
theorem BlkB.set3(v:Value):(w.setCell (Ad db 3) v).heap[db]?=some (.cells (bcs D v one ac fl) t (0,0)):=by
 unfold bcs at h ⊢;simp[World.setCell,Array.getElem?_modify,h]
theorem BlkB.set5(a:Int):(w.setCell (Ad db 5) (.int .i64 a)).heap[db]?=some (.cells (bcs D sv one a fl) t (0,0)):=by
 unfold bcs at h ⊢;simp[World.setCell,Array.getElem?_modify,h]
end
def Fre(w:World)(sv:Value)(R:Nat->Value)(n b:Nat):Prop:=b<w.heap.size/\sv.ownBlock≠some b/\∀i,i<n->(R i).ownBlock≠some b
def FrK(db:Nat)(w:World)(sv:Value)(R:Nat->Value)(n:Nat)(w':World)(sv':Value)(R':Nat->Value)(n':Nat):Prop:=∀b,b≠db->Fre w sv R n b->Fre w' sv' R' n' b/\w'.heap[b]?=w.heap[b]?
def BlE(B db:Nat)(n:Nat)(R:Nat->Value)(sv:Value)(D':MD)(one:ByteArray)(ac' fl:Int)(w w':World):Prop:=(∃R' sv',Bld w' B db D' R' sv' one ac' fl/\FrK db w sv R n w' sv' R' D'.n)/\Below B w w'
theorem Cj{fr:Nat × Nat}(h:w.heap[b]?=some (.cells cs t fr)):∀j u,cs.toList[j]?=some u->w.cell? (((Ad b 0):Addr).add j)=some u:=by
 intro j u c;rw[Addr.add_lit,Nat.zero_add];simp[World.cell?,h]
 simpa using c
theorem GB{f:ByteArray}:∀u ∈ [Value.string f,Value.slice none 0 0],u.oneCell'=true:=by intro u c;simp at c;rcases c with rfl|rfl<;>rfl
theorem Rw(f:ByteArray)(w:World){N:Int}(h:Bld w B db D R sv one N fl)(hB:B<=w.heap.size)(hn:D.n<=100000):
  Calls prog 111 #[.pointer (some (Ad db 0)),.string f] w (λr w'=>r=.returned (.int .i64 (D.n:Int))/\BlE B db D.n R sv (D.state f) one N fl w w'):=by
 obtain⟨i0,hi,X,Y,Z⟩:=Cs Eo;obtain⟨E,j⟩:=exq<|w.alloc (.cells #[.string f,.slice none 0 0] 63);obtain⟨H,hH⟩:=exq<|w.heap.size;have Q:w.grownBy E none:=by rw[j];exact World.grownBy_alloc _ _ _
 have s:E.ownsRow B 63 2 sv D.n (cat (st2 D R) D.n):=by rw[j];exact World.ownsRow.alloc h.own.top _
 have T:E.heap[H]?=some (.cells #[.string f,.slice none 0 0] 63 (0,0)):=by rw[j,hH];exact han w _
 have l:E.heap[db]?=some (.cells (bcs D (sv) one N fl) 144 (0,0)):=by rw[j,blk_alloc_lt _ _ _ h.lt];exact h.blk
 have c4:E.cell? (Ad db 3)=some sv:=BlkB.c3 l;have a9:w.cell? (Ad db 3)=some sv:=BlkB.c3 h.blk;have b0:E.heap.size=H+1:=by rw[j,hH];simp
 obtain⟨sa,sc,a7,_,_⟩:=Az h.own.top;subst a7;have o:∀C,(w.alloc (.cells #[.string f,.slice none 0 0] 63)).grownBy C (Value.slice sa D.n sc).ownBlock->C.heap[db]?=some (.cells (bcs D (.slice sa D.n sc) one N fl) 144 (0,0)):=λC hg=>by
  rw[<-j]at hg;exact(hg.block db (lbk l) (λe=>Ao s l (by decide) e.symm)).trans l
 replace o:=qh o;replace h:=qh h;replace s:=qh s;replace T:=qh T;replace l:=qh l;replace Q:=qh Q;have HI:=qh hi;have a1:=qh X;have a2:=qh Y;have a4:=qh Z;clear hi X Y Z;replace hH:=qh hH;have a8:=qh j
 go_enter func111,ntmps111
 go_wp2_with (at_builtin;refine wpList_append_lies _ rfl (.tmp 10) (.tmp 13) 23 rfl B 63 i0 (.agg #[.string ⟨#[]⟩,.slice none 0 0]) 2 40 underlying23 HI.o a1.o a2.o a4.o rfl (by omega) (.slice sa D.n sc) D.n _ (by first|rfl|simp[Act.eval,Act.put]) (World.ownsRow.alloc h.o.own.top _) (Ad w.heap.size 0) 1 1 [.string f,.slice none 0 0] (by first|rfl|simp[Act.eval,Act.put]) rfl (Cj (cs:=#[.string f,.slice none 0 0]) (han w _)) GB (by omega) (by unfold maxLen;omega) (by omega) (by simp;omega) _ rfl ?_;intro F L C u c O a5;have m:=o.o C c;have e4:=BlkB.c3 m;have f4:=BlkB.fz m 3)
 have g:C.ownsRow B 63 2 (.slice (some (Ad F 0)) (D.n+1) L) (D.n+1) (cat (st2 D R) D.n++[.string f,.slice none 0 0]):=u;have J:=h.o.own.state g c;have W:(Value.slice (some (Ad F 0)) (D.n+1) L).ownBlock≠some db:=Ao g m (by decide);have U:∀i,i<(D.state f).n->((λi=>if i=D.n then Value.slice none 0 0 else R i) i).ownBlock≠some db:=λi hi=>Ao (J.row i hi) m (by decide)
 obtain⟨K,d⟩:=exq<|C.setCell ⟨db,3,none⟩ (.slice (some ⟨F,0,none⟩) (D.n+1) L);have z:OwM K B (.slice (some (Ad F 0)) (D.n+1) L) (D.state f) (λi=>if i=D.n then .slice none 0 0 else R i):=by rw[d];exact J.other (p:=(Ad db 3)) W U _
 have A:K.heap[db]?=some (.cells (bcs D (.slice (some (Ad F 0)) (D.n+1) L) one N fl) 144 (0,0)):=by rw[d];exact BlkB.set3 m _
 have S:Kt db w K:=by
  have h1:Kt db w (w.alloc (.cells #[.string f,.slice none 0 0] 63)):=Kt.of_fr<|Fr.alloc _ _;have h2:=Kt.of_own (db:=db) (World.ownsRow.alloc h.o.own.top (.cells #[.string f,.slice none 0 0] 63)) (.inl rfl) c;rw[d];exact(h1.trans h2).trans (Kt.of_fr ((Fr.refl (λq=>q=db) C).set (p:=(Ad db 3)) (.inl rfl) _))
 have I:FrK db w (.slice sa D.n sc) R D.n K (.slice (some (Ad F 0)) (D.n+1) L) (λi=>if i=D.n then .slice none 0 0 else R i) (D.n+1):=by
  intro b hb hf;have P:b<(w.alloc (.cells #[.string f,.slice none 0 0] 63)).heap.size:=by have:=hf.1;simp;omega
  refine⟨⟨by rw[d,nblk_setCell];exact Nat.lt_of_lt_of_le P c.size,?_,λi hi=>?_⟩,?_⟩
  ·intro e;have e2:F=b:=by simpa [Value.ownBlock] using e
   subst e2
   rcases O with h1|h1
   ·exact hf.2.1 h1
   omega
  ·dsimp only
   split
   ·simp[Value.ownBlock]
   exact hf.2.2 i (by omega)
  rw[d,AM hb];exact(c.block b P (λe=>hf.2.1 e.symm)).trans (blk_alloc_lt _ _ _ hf.1)
 replace I:=qh I;have G:Below B w K:=by
  rw[d];exact((((Below.refl B w).alloc hB (.cells #[.string f,.slice none 0 0] 63)).grown c (by simp;omega) (λk hk=>(World.ownsRow.lt (World.ownsRow.alloc h.o.own.top (.cells #[.string f,.slice none 0 0] 63)) k hk).1)).setCell (p:=(Ad db 3)) h.o.low _)
 replace z:=qh z;clear J;replace S:=qh S;replace G:=qh G;clear g u c O a5 W U;have c3:=BlkB.c3 A;replace A:=qh A;clear m;rw[<-d];replace d:=qh d;clear e4 f4;have a6:((D.n+1:Nat):Int)-1=(D.n:Int):=by omega
 go_wp2;go_ret;exact⟨by first|rfl|(rw[a6])|(go_num),⟨_,_,⟨A.o,z.o,h.o.low⟩,I.o⟩,G.o⟩
theorem Hc{a b t:Int}{x:ByteArray}:∀u ∈ [Value.int .i64 a,Value.int .i64 b,Value.string x,Value.int .i64 t],u.oneCell'=true:=by intro u c;simp at c;rcases c with rfl|rfl|rfl|rfl<;>rfl
theorem Rm{q:Nat}(a b t:Int)(x:ByteArray)(w:World){ac:Int}(h:Bld w B db D R sv one ac fl)(e0:0<=ac)(e3:ac<=100000)(hB:B<=w.heap.size)(hq:q<D.n)(hn:D.n<=100000)(e6:D.na q<=100000):
  Calls prog 112 #[.pointer (some (Ad db 0)),.int .i64 (q:Int),.agg #[.int .i64 a,.int .i64 b,.string x,.int .i64 t]] w (λr w'=>r=.returned (.tuple #[])/\BlE B db D.n R sv (D.arc q a b x t) one (ac+1) fl w w'):=by
 obtain⟨i0,hi,b8,b9,d0⟩:=Cs Hf;have e7:(q:Int)<(D.n:Int):=by omega
 have e1:(0:Int)<=(q:Int):=by omega
 obtain⟨g,T,rfl,_,_,_,_⟩:=DF h.own.top (by omega);obtain⟨ra,rc,N,_,_⟩:=Az<|h.own.row q hq;obtain⟨w1,F⟩:=exq<|w.alloc (.cells #[.int .i64 a,.int .i64 b,.string x,.int .i64 t] 59);obtain⟨l,m⟩:∃l,l=(w1.setCell ⟨db,5,none⟩ (.int .i64 (ac+1))).drew:=⟨_,rfl⟩;obtain⟨H,hH⟩:=exq<|w.heap.size;have a5:l.heap.size=H+1:=by
  rw[m];show (w1.setCell (Ad db 5) (.int .i64 (ac+1))).heap.size=_;rw[nblk_setCell,F,hH];simp
 have C:w1.heap[db]?=some (.cells (bcs D (.slice (some (Ad g 0)) D.n T) one ac fl) 144 (0,0)):=by rw[F,blk_alloc_lt _ _ _ h.lt];exact h.blk
 have c5:=BlkB.c5 C;have f5:=BlkB.fz C 5;rw[F]at c5 f5;have b5:Fr (λq=>q=db) w w1:=by rw[F];exact Fr.alloc _ _
 have W:Fr (λq=>q=db) w l:=by rw[m];exact(b5.set (p:=(Ad db 5)) (.inl rfl) _).drew
 have X:l.heap[H]?=some (.cells #[.int .i64 a,.int .i64 b,.string x,.int .i64 t] 59 (0,0)):=by
  rw[m];show (w1.setCell (Ad db 5) (.int .i64 (ac+1))).heap[H]?=_;rw[AM (show H≠db by have:=h.lt;omega),F,hH];exact han w _
 have L:l.heap[db]?=some (.cells (bcs D (.slice (some (Ad g 0)) D.n T) one (ac+1) fl) 144 (0,0)):=by rw[m];exact BlkB.set5 C _
 have P:OwM w1 B (.slice (some (Ad g 0)) D.n T) D R:=h.own.kept (z:=none) (by rw[F];exact World.grownBy_alloc _ _ _) (by simp);have Q:=P.other (p:=(Ad db 5)) (Ao P.top C (by decide)) (λi hi=>Ao (P.row i hi) C (by decide)) (.int .i64 (ac+1));have A:OwM l B (.slice (some (Ad g 0)) D.n T) D R:=by rw[m];exact⟨Q.top,Q.row,Q.apart⟩
 clear P Q b5 C;have j:l.cell? (Ad db 3)=some (.slice (some (Ad g 0)) D.n T)/\l.cell? (Ad g (q*2+1))=some (.slice ra (D.na q) rc)/\l.cell? (Ad H 0)=some (.int .i64 a)/\l.cell? (Ad H 1)=some (.int .i64 b)/\l.cell? (Ad H 2)=some (.string x)/\l.cell? (Ad H 3)=some (.int .i64 t) :=
  ⟨BlkB.c3 L,by rw[A.arcs_cell hq,N],by simp[World.cell?,X],by simp[World.cell?,X],by simp[World.cell?,X],by simp[World.cell?,X]⟩
 have a2:∀i,i<D.n->(R i).ownBlock≠some db:=λi hi=>Ao (A.row i hi) L (by decide);have I:(R q).ownBlock≠some g:=λe=>A.tne hq e rfl;have HI:=qh hi;have d1:=qh b8;have d2:=qh b9;have d3:=qh d0;clear hi b8 b9 d0;replace h:=qh h;replace A:=qh A;replace L:=qh L;replace X:=qh X;replace W:=qh W;replace N:=qh N;replace a2:=qh a2;replace I:=qh I
 go_enter func112,ntmps112
 go_wp2_with fail
 refine AC (λZ=>Z.cell? (Ad db 3)=some (.slice (some (Ad g 0)) D.n T)/\Z.cell? (Ad g (q*2+1))=some (.slice ra (D.na q) rc)/\Z.cell? (Ad H 0)=some (.int .i64 a)/\Z.cell? (Ad H 1)=some (.int .i64 b)/\Z.cell? (Ad H 2)=some (.string x)/\Z.cell? (Ad H 3)=some (.int .i64 t)) 20 (by kernel_rfl) ?_;rw[<-F,<-m,<-hH];clear c5 f5;replace F:=qh F;replace m:=qh m;replace hH:=qh hH;refine Aa.tm 0 j ?_;refine Aa.tm 1 j ?_;refine Aa.tm 2 j ?_;refine Aa.tm 3 j ?_;refine Aa.tm 4 j ?_;refine Aa.tm 5 j ?_;refine Aa.tm 6 j ?_;refine Aa.tm 7 j ?_;refine Aa.tm 8 j ?_;refine Aa.tm 9 j ?_;refine Aa.tm 10 j ?_;refine Aa.tm 11 j ?_;refine Aa.tm 12 j ?_;refine Aa.tm 13 j ?_;refine Aa.tm 14 j ?_;refine Aa.tm 15 j ?_
 try simp only[Act.put,tryL]
 refine Aa.on 16 λK hK=>?_;go_simp;obtain⟨O,u⟩:=exq<|l.alloc (.cells #[.int .i64 a,.int .i64 b,.string x,.int .i64 t] 59);have s:l.grownBy O none:=by rw[u];exact World.grownBy_alloc _ _ _
 have b1:O.heap[H+1]?=some (.cells #[.int .i64 a,.int .i64 b,.string x,.int .i64 t] 59 (0,0)):=by rw[u,<-a5];exact han l _
 have e8:O.heap.size=H+1+1:=by rw[u];simp[a5]
 have U:O.cell? (Ad db 3)=some (.slice (some (Ad g 0)) D.n T)/\O.cell? (Ad g (q*2+1))=some (.slice ra (D.na q) rc)/\O.cell? (Ad H 0)=some (.int .i64 a)/\O.cell? (Ad H 1)=some (.int .i64 b)/\O.cell? (Ad H 2)=some (.string x)/\O.cell? (Ad H 3)=some (.int .i64 t) :=
  ⟨s.cell j.1 (by simp),s.cell j.2.1 (by simp),s.cell j.2.2.1 (by simp),s.cell j.2.2.2.1 (by simp),s.cell j.2.2.2.2.1 (by simp),s.cell j.2.2.2.2.2 (by simp)⟩
 have S:O.ownsRow B 59 4 (.slice ra (D.na q) rc) (D.na q) (cat (arc4 D q) (D.na q)):=by rw[u,<-N.o];exact World.ownsRow.alloc (A.o.row q hq) _
 have b2:B<=O.heap.size:=by have:=hH.o;omega
 rw[<-u];replace u:=qh u;replace b1:=qh b1;refine hK.out _ _ (.inr U) ?_;clear hK K
 try simp only[Act.put,tryL]
 refine Aa.on 17 λK hK=>?_;refine wp_append_lies _ (.tmp 27) (.tmp 29) 61 rfl B 59 i0 (.agg #[.int .i64 0,.int .i64 0,.string ⟨#[]⟩,.int .i64 0]) 4 40 underlying61 HI.o d1.o d2.o d3.o rfl (by omega) (.slice ra (D.na q) rc) (D.na q) _ (by simp[Act.eval]) S (Ad (H+1) 0) 1 1 [.int .i64 a,.int .i64 b,.string x,.int .i64 t] (by simp[Act.eval]) rfl (Cj (cs:=#[.int .i64 a,.int .i64 b,.string x,.int .i64 t]) b1.o) Hc (by omega) (by unfold maxLen;omega) (by omega) b2 _ rfl ?_;intro go cq J a4 E a7 d8;have d:O.grownBy J (R q).ownBlock:=by rw[N.o];exact E
 have G:J.heap[db]?=some (.cells (bcs D (.slice (some (Ad g 0)) D.n T) one (ac+1) fl) 144 (0,0)) :=
  (d.block db (by have:=lbk L.o;have:=s.size;omega) (λe=>a2.o q hq e.symm)).trans ((s.block db (lbk L.o) (by simp)).trans L.o)
 have e5:g<l.heap.size:=(World.ownsRow.lt A.o.top g rfl).2;have d5:J.cell? (Ad g (q*2+1))=some (.slice ra (D.na q) rc):=d.cell U.2.1 (λe=>I.o e.symm);have b6:∀c,(Value.slice (some (Ad go 0)) (D.na q+1) cq).ownBlock=some c->(R q).ownBlock=some c\/l.heap.size<=c:=λc hc=>by
  have e:go=c:=by simpa [Value.ownBlock] using hc
  subst e
  rcases a7 with h1|h1
  ·exact .inl (by rw[N.o];exact h1)
  right;omega
 have a1:=A.o.arc (a:=a) (b:=b) (x:=x) (t:=t) (v':=.slice (some (Ad go 0)) (D.na q+1) cq) hq a4 (o:=.cells #[.int .i64 a,.int .i64 b,.string x,.int .i64 t] 59) (by rw[<-u.o];exact d) b6;have e4:J.frozen? (Ad g (q*2+1))=false:=by
  have h1:J.ownsRow B 63 2 (.slice (some (Ad g 0)) D.n T) D.n (cat (st2 D R) D.n):=AJ (by rw[u.o];exact World.ownsRow.alloc A.o.top _) d (λc hc e=>by
   have e2:g=c:=by simpa [Value.ownBlock] using hc
   subst e2;exact I.o e)
  exact Ex h1 _
 have a6:J.cell? (Ad db 3)=some (.slice (some (Ad g 0)) D.n T)/\J.cell? (Ad g (q*2+1))=some (.slice ra (D.na q) rc)/\J.cell? (Ad H 0)=some (.int .i64 a)/\J.cell? (Ad H 1)=some (.int .i64 b)/\J.cell? (Ad H 2)=some (.string x)/\J.cell? (Ad H 3)=some (.int .i64 t):=by
  have Y:some H≠(R q).ownBlock:=λe=>by have:=(World.ownsRow.lt (h.o.own.row q hq) H e.symm).2;rw[<-hH.o]at this;omega
  exact⟨BlkB.c3 G,d5,d.cell U.2.2.1 Y,d.cell U.2.2.2.1 Y,d.cell U.2.2.2.2.1 Y,d.cell U.2.2.2.2.2 Y⟩
 have a9:FrK db w (.slice (some (Ad g 0)) D.n T) R D.n (J.setCell (Ad g (q*2+1)) (.slice (some (Ad go 0)) (D.na q+1) cq)) (.slice (some (Ad g 0)) D.n T) (λi=>if i=q then .slice (some (Ad go 0)) (D.na q+1) cq else R i) D.n:=by
  intro b hb hf;have d4:b≠g:=λe=>hf.2.1 (by rw[e];rfl);have b3:b<l.heap.size:=Nat.lt_of_lt_of_le hf.1 W.o.size;have b4:b<O.heap.size:=Nat.lt_of_lt_of_le b3 s.size;refine⟨⟨by rw[nblk_setCell];exact Nat.lt_of_lt_of_le b4 d.size,hf.2.1,λi hi=>?_⟩,?_⟩
  ·dsimp only
   split
   ·intro e;have e2:go=b:=by simpa [Value.ownBlock] using e
    subst e2
    rcases a7 with h1|h1
    ·exact hf.2.2 q hq (by rw[N.o];exact h1)
    omega
   exact hf.2.2 i hi
  rw[AM d4];exact(d.block b b4 (λe=>hf.2.2 q hq e.symm)).trans ((s.block b b3 (by simp)).trans (W.o.block b hf.1 hb))
 replace a9:=qh a9;have b7:Kt db w J:=by
  have h2:=Kt.of_own (db:=db) (S) (.inr rfl) E;exact((Kt.of_fr W.o).trans (Kt.of_fr (Fr.of_gb s (by simp)))).trans h2
 have a8:Below B w J:=((W.o.below hB (λq e=>by rw[e];exact h.o.low)).trans (((Below.refl B l).alloc (by have:=hH.o;omega) _))).grown (by rw[<-u.o];exact E) (by rw[<-u.o];exact b2) (λk hk=>(World.ownsRow.lt S k hk).1);replace a1:=qh a1;replace G:=qh G;replace b7:=qh b7;replace a8:=qh a8;have b0:∃cs fr,J.heap[g]?=some (.cells cs 63 fr):=by
  have h1:J.ownsRow B 63 2 (.slice (some (Ad g 0)) D.n T) D.n (cat (st2 D R) D.n):=AJ (by rw[u.o];exact World.ownsRow.alloc A.o.top _) d (λc hc e=>by
   have e2:g=c:=by simpa [Value.ownBlock] using hc
   subst e2;exact I.o e)
  rcases h1.2 with⟨hv,_⟩|⟨g',d9,cur,hv,_,d6,_⟩
  ·cases hv
  cases hv;exact⟨cur,_,d6⟩
 replace b0:=qh b0;clear a4 E d a7 d8 b6 S s;refine hK.out _ _ (.inr a6) ?_;clear hK K
 try simp only[Act.put,tryL]
 refine Aa.tm 18 a6 ?_;refine Aa.tm 19 a6 ?_
 try simp only[Act.put,tryL]
 refine Aa.on 20 λK hK=>?_;go_simp;refine hK.out _ _ (.inl rfl) (Aa.dn ?_);clear hK K
 go_wp2_with fail
 go_end0
 have d7:B<=g:=(World.ownsRow.lt A.o.top g rfl).1;refine⟨rfl,⟨_,_,⟨?_,a1.o,h.o.low⟩,a9.o⟩,a8.o.setCell (p:=(Ad g (q*2+1))) d7 _⟩;have Y:db≠g:=λe=>by
  obtain⟨cs,fr,h1⟩:=b0.o;rw[<-e,G.o]at h1;simp at h1
 rw[AM (show db≠g from Y)];exact G.o
end
section
open Go.RowKit Go.Deep
variable{w:World}{c n x:Nat}{t:TypeId}{a:Option Addr}
def MsS(w:World)(v:Value)(n:Nat)(Ds:Nat->MD):Prop :=
 ∃(a:Option Addr) (cap b off:Nat) (F:Nat->Value),v=.slice a n cap/\n<=cap/\cap<=maxLen/\(0<n->a=some (Ad b off))/\∀i,i<n->b<w.heap.size/\w.cell? (Ad b (off+i*4))=some (.int .i64 (Ds i).kind)/\w.cell? (Ad b (off+i*4+1))=some (.int .i64 (Ds i).start)/\
  w.cell? (Ad b (off+i*4+2))=some (.string (Ds i).lead)/\w.cell? (Ad b (off+i*4+3))=some (F i)/\StS none w (F i) (Ds i)
def WsS(w:World)(v:Value)(m:Nat)(na:Nat->Nat):Prop :=
 ∃(a:Option Addr) (cap b off:Nat) (A:Nat->Option Addr) (C:Nat->Nat),v=.slice a m cap/\m<=cap/\cap<=maxLen/\(0<m->a=some (Ad b off))/\∀i,i<m->b<w.heap.size/\w.cell? (Ad b (off+i))=some (.slice (A i) (na i) (C i))
def sM(f:Nat->Nat):Nat->Nat
 |0=>0
 |m+1=>sM f m+f m
theorem Gp{f:Nat->Nat}{B:Nat}:∀m,(∀i,i<m->f i<=B)->sM f m<=m*B
 |0,_=>Nat.zero_le _
 |m+1,h=>by
  have h1:=Gp m (λi hi=>h i (by omega));have h2:=h m (by omega);show sM f m+f m<=_;rw[Nat.succ_mul];omega
theorem OX{f:Nat->Nat}:∀m i,i<m->f i<=sM f m
 |m+1,i,h=>by
  show _<=sM f m+f m;by_cases e:i=m
  ·rw[e];omega
  have:=OX m i (by omega:i<m) (f:=f);omega
def pk3{α:Type}(a b c:α)(i:Nat):α:=if i=0 then a else if i=1 then b else c
def MsS.one{A:MD}{c:Value}(h:w.heap[x]?=some (.cells #[.int .i64 A.kind,.int .i64 A.start,.string A.lead,c] t (0,0)))(d:StS none w c A):MsS w (.slice (some (Ad x 0)) 1 1) 1 (pk3 A A A) :=
 ⟨_,1,x,0,pk3 c c c,rfl,nlr,by unfold maxLen;omega,λ_=>rfl,λi hi=>by
  obtain rfl:i=0:=by omega
  exact⟨lbk h,cellOf h 0 rfl,cellOf h 1 rfl,cellOf h 2 rfl,cellOf h 3 rfl,d⟩⟩
def WsS.one(h:w.heap[x]?=some (.cells #[.slice a n c] t (0,0))):WsS w (.slice (some (Ad x 0)) 1 1) 1 (pk3 n n n) :=
 ⟨_,1,x,0,λ_=>a,λ_=>c,rfl,nlr,by unfold maxLen;omega,λ_=>rfl,λi hi=>by
  obtain rfl:i=0:=by omega
  exact⟨lbk h,cellOf h 0 rfl⟩⟩
def WsS.three{a' d:Option Addr}{k c' j g:Nat}(h:w.heap[x]?=some (.cells #[.slice a n c,.slice a' k c',.slice d j g] t (0,0))):WsS w (.slice (some (Ad x 0)) 3 3) 3 (pk3 n k j) :=
 ⟨_,3,x,0,pk3 a a' d,pk3 c c' g,rfl,nlr,by unfold maxLen;omega,λ_=>rfl,λi hi=>by
  rcases (by omega:i=0\/i=1\/i=2) with rfl|rfl|rfl
  ·exact⟨lbk h,cellOf h 0 rfl⟩
  ·exact⟨lbk h,cellOf h 1 rfl⟩
  exact⟨lbk h,cellOf h 2 rfl⟩⟩
end
end Go.Proofs.YtpldocnhbdlgfaaGreatDoor
