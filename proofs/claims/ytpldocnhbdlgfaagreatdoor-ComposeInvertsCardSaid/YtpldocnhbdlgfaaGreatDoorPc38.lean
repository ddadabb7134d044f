/- Parts. -/
import Derived.Test.YtpldocnhbdlgfaaGreatDoorPc33
import Derived.Test.YtpldocnhbdlgfaaGreatDoorPc32
namespace Go.Proofs.YtpldocnhbdlgfaaGreatDoor
set_option maxRecDepth 100000
set_option linter.all false
set_option maxHeartbeats 16000000
open Go Tryz
section
open Go.RowKit Go.Deep
variable{c d sv:Value}{R j:Nat->Value}{b g i n n1:Nat}{w w1:World}{A B:MD}
def Fb(cb:Nat)(w:World)(sv:Value)(R:Nat->Value)(n pb:Nat)(qv:Value)(b:Nat):Prop:=b≠cb/\FreP w sv R n pb qv b
def FrPK.fb{qv:Value}(h:FrPK g w sv R n i qv w1 d j n1 c)(hf:Fb g w sv R n i qv b):Fb g w1 d j n1 i c b:=⟨hf.1,(h b hf.1 hf.2).1⟩
def FrPK.bx{qv:Value}(h:FrPK g w sv R n i qv w1 d j n1 c)(hf:Fb g w sv R n i qv b){o:Obj}(k:w.heap[b]?=some o):w1.heap[b]?=some o:=(h b hf.1 hf.2).2.trans k
def Cps.fb_new{w':World}{j d:Nat}{m o:Value}{k l:List Plc}{D:MD}{qv:Value}{ac fl:Int}(h:Cps w j d A B m o k l D R sv g qv ac fl)(hb:w.heap.size<=b)(c:b<w'.heap.size):Fb d w' sv R D.n g qv b :=
 ⟨λe=>by have:=h.lt;omega,c,λe=>by have:=h.mp.lt;omega,λe=>by have:=(World.ownsRow.lt h.own.top b e).2;omega,λi hi e=>by have:=(World.ownsRow.lt (h.own.row i hi) b e).2;omega,λe=>by have:=(World.ownsRow.lt h.que b e).2;omega⟩
def Rl(w:World)(a b t:Int)(x:ByteArray):Calls prog 102 #[.agg #[.int .i64 a,.int .i64 b,.string x,.int .i64 t]] w (λr w'=>r=.returned (.bool (b==0))/\Below w.heap.size w w'):=by
 have hb:=(Below.refl w.heap.size w).alloc nlr (.cells #[.int .i64 a,.int .i64 b,.string x,.int .i64 t] 59);replace hb:=qh hb
 go_enter func102,ntmps102
 go_wp2;go_ret;exact⟨rfl,hb.o⟩
def CaE(B0 cb pb:Nat)(A B:MD)(sa sb:Value)(n:Nat)(L:List ArP)(S0:List Plc × MD)(ac0:Nat)(w:World)(m:Nat)(R:Nat->Value)(sv qv:Value)(fl:Nat)(r:Ending)(w':World):Prop :=
 r=.returned (.tuple #[])/\∃S' ac' fl',CpE B0 cb pb A B sa sb w m R sv qv S'.1 S'.1 S'.2 (ac':Nat) (fl':Nat) w'/\Lvi A B n L S0 S' ac0 ac' fl'/\(fl'=0->fl=0)
def Rb{U D pb h7 ac fl:Nat}{sa sb:Value}{L:List ArP}{S0 S:List Plc × MD}{qv:Value}(w:World)(h:Cps w U D A B sa sb S.1 S.1 S.2 R sv pb qv ac fl)(hL:Lvi A B n L S0 S h7 ac fl)(hB:U<=w.heap.size)(i3:A.n<=3000)(i6:B.n<=3000)
  (a b:Int) (v:ByteArray) {x:Plc} (hx:x.1<A.n/\x.2.1<B.n) {xb nb:Nat} (k5:Bx w xb 66 (.pointer (some (Ad D 0)))) (k0:Bx w nb 3 (.int .i64 (n:Int))) (f7:Fb D w sv R S.2.n pb qv xb) (f5:Fb D w sv R S.2.n pb qv nb) :
  Calls prog 100 #[.int .i64 a,.int .i64 b,.string v,plV x,.pointer (some (Ad xb 0)),.pointer (some (Ad nb 0))] w (CaE U D pb A B sa sb n (L++[(a,b,v,x)]) S0 h7 w S.2.n R sv qv fl):=by
 obtain⟨p,q,f⟩:=x;unfold plV
 dsimp only
 obtain⟨H,hH⟩:=exq<|w.heap.size;obtain⟨w1,F⟩:=exq<|w.alloc (.cells #[.int .i64 (p:Int),.int .i64 (q:Int),.bool f] 74);have g1:Below w.heap.size w w1:=by rw[F];exact(Below.refl _ w).alloc nlr _
 have g2:w1.heap[H]?=some (.cells #[.int .i64 (p:Int),.int .i64 (q:Int),.bool f] 74 (0,0)):=by rw[F,hH];exact han w _
 have n6:w1.heap.size=H+1:=by rw[F,hH];simp
 obtain⟨b3,I⟩:=h.below g1;have i4:Below U w w1:=g1.mono hB;have d0:=I.bx f7 k5;have f0:=I.bx f5 k0;have e0:=I.fb f7;have d9:=I.fb f5;have c14:=Ccs.c14 b3.blk;have c15:=Ccs.c15 b3.blk;have d4:=Ccs.fz b3.blk 15;have x0:w1.cell? (Ad xb 0)=some (.pointer (some (Ad D 0))):=cellOf d0 0 rfl;have b0:=cellOf g2 0 rfl;have b1:=cellOf g2 1 rfl;have b2:=cellOf g2 2 rfl;have e8:=hL.len;have j7:=hL.le;have j8:=hL.n1;have j9:=hL.na n;have e1:=hL.ac1;replace hL:=qh hL;have a7:=qh b3;clear b3;have W:=qh I;clear I;have a6:=qh i4;clear i4 g1;replace hx:=qh hx;have f4:=qh d0;clear d0 k5;have h3:=qh f0;clear f0 k0;have d2:=qh e0;clear e0 f7;have f3:=qh d9;clear d9 f5;have d8:=qh e8;have l4:=qh j7;have l5:=qh j8;have l6:=qh j9;have l1:=qh e1;have l0:=qh i3;have l2:=qh i6;clear e8 j7 j8 j9 e1 i3 i6 h;by_cases Y:30000<ac
 ·have i2:(30000:Int)<(ac:Int):=by omega
  have HF:=qh<|hL.o.full [(a,b,v,(p,q,f))] (.inr Y);clear Y
  go_enter func100,ntmps100
  rw[F]at c14 c15 d4 x0
  go_wp2_with fail
  rw[<-F];obtain⟨h4,h5⟩:=a7.o.err 2;have c15:=Ccs.c15 h4.blk;have x0:(w1.setCell (Ad D 15) (.int .i64 2)).cell? (Ad xb 0)=some (.pointer (some (Ad D 0))):=cellOf (h5.bx d2.o f4.o) 0 rfl;have H4:=qh h4;clear h4;have H5:=qh h5;clear h5
  go_wp2_with fail
  refine bodyPost_ret (results_none rfl _ _ _) rfl ?_;exact⟨rfl,S,ac,2,⟨⟨_,_,_,H4.o,W.o.trans H5.o⟩,a6.o.setCell (p:=(Ad D 15)) a7.o.low _⟩,HF.o,λe=>absurd e (by decide)⟩
 by_cases h2:fl=0
 rotate_left
 ·have i2:decide ((30000:Int)<(ac:Int))=false:=by simp;omega
  have n5:¬((fl:Int)=0):=by omega
  have m8:((fl:Int)==0)=false:=by simp;omega
  have m9:decide ((fl:Int)=0)=false:=by simp;omega
  have HF:=qh<|hL.o.keep [(a,b,v,(p,q,f))] h2;clear Y h2
  go_enter func100,ntmps100
  rw[F]at c14 c15 d4 x0
  go_wp2_with fail
  rw[<-F];refine bodyPost_ret (results_none rfl _ _ _) rfl ?_;exact⟨rfl,S,ac,fl,⟨⟨_,_,_,a7.o,W.o⟩,a6.o⟩,HF.o,id⟩
 subst h2;have c15:w1.cell? (Ad D 15)=some (.int .i64 0):=c15;have i2:decide ((30000:Int)<(ac:Int))=false:=by simp;omega
 have d6:ac<=30000:=by omega
 obtain⟨j5,-,-⟩:=hL.o.good rfl;have d3:=qh<|hL.o.add (r:=(a,b,v,(p,q,f))) hx.o j5 d6 rfl;have i5:U<=w1.heap.size:=Nat.le_trans hB a6.o.size;have h6:=qh (LS (x:=(p,q,f)) w1 a7.o d8.o i5 (by omega) ⟨by have h8:=hx.o.1;have h9:=l0.o;dsimp only at h8 ⊢;omega,by have h8:=hx.o.2;have h9:=l2.o;dsimp only at h8 ⊢;omega⟩);have O:=JC d8.o (p,q,f);have b8:=JE S (p,q,f);have k4:=Nu S (p,q,f);have f1:=JD S (p,q,f) n;replace d6:=qh d6;clear Y j5;obtain⟨l,a9⟩:=exq<|numP S (p,q,f);obtain⟨tp,g6⟩:=exq<|posP S.1 (p,q,f);have e3:addP n S (a,b,v,(p,q,f))=(l.1,l.2.arc n a b v (tp:Nat)):=by rw[a9,g6];rfl
 rw[<-a9]at O b8 k4 f1;rw[e3]at d3;have g5:=h6.o;rw[show ((S.1,S.2):List Plc × MD)=S from rfl,<-a9,<-g6]at g5;have a8:=qh g5;clear g5 h6;have j3:∃e2:Nat,erN l.2.n ((0:Nat):Int)=(e2:Int)/\e2=if 3000<l.1.length then 2 else 0:=by
  rw[O];by_cases h5:3000<l.1.length
  ·exact⟨2,Jc h5,by rw[ifp h5]⟩
  exact⟨0,GM h5,by rw[ifn h5]⟩
 obtain⟨e2,j2,e5⟩:=j3;rw[<-a9]at d3;rw[<-e5]at d3;rw[j2]at a8;have C:n<l.2.n:=by
  obtain⟨m,hm⟩:=b8;rw[O,hm,List.length_append];have:=l5.o;omega
 have e9:l.2.n<=100000:=by rw[O];have:=l4.o;omega
 have N:l.2.na n<=100000:=by have:=l6.o;have:=l1.o;omega
 clear e3 j2 e5 O b8 k4 f1 a9 g6
 go_enter func100,ntmps100
 rw[F]at c14 c15 d4 x0 b0 b1 b2;rw[hH]at b0 b1 b2
 go_wp2_with fail
 rw[<-F];clear c14 c15 d4 x0 b0 b1 b2 F;refine a8.o.mono ?_;rintro r w2⟨rfl,⟨R2,n9,n7,j1,e6⟩,i9⟩;clear a8;obtain⟨i,a2⟩:=exq<|w2.drew;obtain⟨E,e7⟩:=j1.below (w':=i) (by rw[a2];exact(Below.refl _ w2).drew);have j0:Below U w2 i:=by rw[a2];exact(Below.refl _ w2).drew
 have u:=e6.trans e7;have a4:=u.bx d2.o f4.o;have b6:=u.bx f3.o h3.o;have G:=u.fb d2.o;have J:=u.fb f3.o;obtain⟨g,cp,b9,_,d7,_,_⟩:=Ed E.own.top (by omega);obtain⟨ra,rc,a5,_,_⟩:=Au<|E.own.row n C;have P:OwM i U (.slice (some (Ad g 0)) l.2.n cp) l.2 R2:=by rw[<-b9];exact E.own
 have d:i.cell? (Ad xb 0)=some (.pointer (some (Ad D 0)))/\i.cell? (Ad nb 0)=some (.int .i64 (n:Int))/\i.cell? (Ad D 11)=some (.slice (some (Ad g 0)) l.2.n cp)/\i.cell? (Ad g (n*2+1))=some (.slice ra (l.2.na n) rc) :=
  ⟨cellOf a4 0 rfl,cellOf b6 0 rfl,by rw[Ccs.c11 E.blk,b9],by rw[P.arcs_cell C,a5]⟩
 have m5:(n:Int)<(l.2.n:Int):=by omega
 have m4:(0:Int)<=(n:Int):=by omega
 obtain⟨i0,hi,k6,k7,k9⟩:=Dk FH;have l3:=qh<|W.o.trans u;have g8:=qh<|(a6.o.trans i9).trans j0;replace E:=qh E;replace b9:=qh b9;replace a5:=qh a5;replace P:=qh P;replace a4:=qh a4;replace b6:=qh b6;replace G:=qh G;replace J:=qh J;replace d7:=qh d7;replace C:=qh C;replace e9:=qh e9;replace N:=qh N;have HI:=qh hi;have l7:=qh k6;have l8:=qh k7;have l9:=qh k9;clear hi k6 k7 k9 j1 e6 i9 e7 j0 u d2 f3 f4 h3 W a6 a7
 go_wp2_with fail
 refine AD (λwk=>wk.cell? (Ad xb 0)=some (.pointer (some (Ad D 0)))/\wk.cell? (Ad nb 0)=some (.int .i64 (n:Int))/\wk.cell? (Ad D 11)=some (.slice (some (Ad g 0)) l.2.n cp)/\wk.cell? (Ad g (n*2+1))=some (.slice ra (l.2.na n) rc)) 24 (by kernel_rfl) ?_;rw[<-a2];clear a2;refine Aa.tm 0 d ?_;refine Aa.tm 1 d ?_;refine Aa.tm 2 d ?_;refine Aa.tm 3 d ?_;refine Aa.tm 4 d ?_;refine Aa.tm 5 d ?_;refine Aa.tm 6 d ?_;refine Aa.tm 7 d ?_;refine Aa.tm 8 d ?_;refine Aa.tm 9 d ?_;refine Aa.tm 10 d ?_;refine Aa.tm 11 d ?_;refine Aa.tm 12 d ?_;refine Aa.tm 13 d ?_;refine Aa.tm 14 d ?_;refine Aa.tm 15 d ?_;refine Aa.tm 16 d ?_;refine Aa.tm 17 d ?_;refine Aa.tm 18 d ?_;refine Aa.tm 19 d ?_
 try simp only[Act.put,tryL]
 refine Aa.on 20 λK hK=>?_;go_simp;obtain⟨Hy,d5⟩:=exq<|i.heap.size;obtain⟨wy,Q⟩:=exq<|i.alloc (.cells #[.int .i64 a,.int .i64 b,.string v,.int .i64 (tp:Nat)] 59);have z:Below i.heap.size i wy:=by rw[Q];exact(Below.refl _ i).alloc nlr _
 have g4:wy.heap[Hy]?=some (.cells #[.int .i64 a,.int .i64 b,.string v,.int .i64 (tp:Nat)] 59 (0,0)):=by rw[Q,d5];exact han i _
 have f9:U<=i.heap.size:=Nat.le_trans hB g8.o.size;have i7:wy.cell? (Ad xb 0)=some (.pointer (some (Ad D 0)))/\wy.cell? (Ad nb 0)=some (.int .i64 (n:Int))/\wy.cell? (Ad D 11)=some (.slice (some (Ad g 0)) l.2.n cp)/\wy.cell? (Ad g (n*2+1))=some (.slice ra (l.2.na n) rc) :=
  ⟨(z.cell (p:=(Ad xb 0)) G.o.2.1).trans d.1,(z.cell (p:=(Ad nb 0)) J.o.2.1).trans d.2.1,(z.cell (p:=(Ad D 11)) E.o.lt).trans d.2.2.1,(z.cell (p:=(Ad g (n*2+1))) d7.o).trans d.2.2.2⟩
 have f2:wy.ownsRow U 59 4 (.slice ra (l.2.na n) rc) (l.2.na n) (cat (arc4 l.2 n) (l.2.na n)):=by rw[<-a5.o,Q];exact World.ownsRow.alloc (P.o.row n C.o) _
 have f8:U<=wy.heap.size:=Nat.le_trans f9 z.size;rw[<-Q,<-d5];replace Q:=qh Q;replace g4:=qh g4;replace d5:=qh d5;replace z:=qh z;refine hK.out _ _ (.inr i7) ?_;clear hK K
 try simp only[Act.put,tryL]
 refine Aa.on 21 λK hK=>?_;refine wp_append_lies _ (.tmp 41) (.tmp 47) 61 rfl U 59 i0 (.agg #[.int .i64 0,.int .i64 0,.string ⟨#[]⟩,.int .i64 0]) 4 40 underlying61 HI.o l7.o l8.o l9.o rfl (by omega) (.slice ra (l.2.na n) rc) (l.2.na n) _ (by simp[Act.eval]) f2 (Ad Hy 0) 1 1 [.int .i64 a,.int .i64 b,.string v,.int .i64 (tp:Nat)] (by simp[Act.eval]) rfl (Dl (cs:=#[.int .i64 a,.int .i64 b,.string v,.int .i64 (tp:Nat)]) g4.o) Jh (by have:=N.o;omega) (by unfold maxLen;have:=N.o;omega) (by have:=N.o;omega) f8 _ rfl ?_;intro go cq we b7 b5 i8 m3;have s:wy.grownBy we (R2 n).ownBlock:=by rw[a5.o];exact b5
 have e4:∀c,(Value.slice (some (Ad go 0)) (l.2.na n+1) cq).ownBlock=some c->(R2 n).ownBlock=some c\/i.heap.size<=c:=λc hc=>by
  have e:go=c:=by simpa [Value.ownBlock] using hc
  subst e
  rcases i8 with Y|Y
  ·exact .inl (by rw[a5.o];exact Y)
  exact .inr (by have:=z.o.size;omega)
 have j6:∀X,X<i.heap.size->(R2 n).ownBlock≠some X->we.heap[X]?=i.heap[X]?:=λX Y h2=>(s.block X (Nat.lt_of_lt_of_le Y z.o.size) (λe=>h2 e.symm)).trans (z.o.block X Y);have g3:(R2 n).ownBlock≠some g:=λe=>P.o.tne C.o e rfl;have b4:∀X j,X<i.heap.size->(R2 n).ownBlock≠some X->we.cell? (Ad X j)=i.cell? (Ad X j):=λX j Y h2=>by simp only[World.cell?,j6 X Y h2]
 have Z:we.cell? (Ad xb 0)=some (.pointer (some (Ad D 0)))/\we.cell? (Ad nb 0)=some (.int .i64 (n:Int))/\we.cell? (Ad D 11)=some (.slice (some (Ad g 0)) l.2.n cp)/\we.cell? (Ad g (n*2+1))=some (.slice ra (l.2.na n) rc) :=
  ⟨(b4 xb 0 G.o.2.1 (G.o.2.2.2.2.1 n C.o)).trans d.1,(b4 nb 0 J.o.2.1 (J.o.2.2.2.2.1 n C.o)).trans d.2.1,(b4 D 11 E.o.lt (λe=>(E.o.rowi C.o e).1 rfl)).trans d.2.2.1,(b4 g _ d7.o g3).trans d.2.2.2⟩
 have m2:we.frozen? (Ad g (n*2+1))=false:=by
  have Y:we.ownsRow U 63 2 (.slice (some (Ad g 0)) l.2.n cp) l.2.n (cat (st2 l.2 R2) l.2.n):=AG (by rw[Q.o];exact World.ownsRow.alloc P.o.top _) s (λc hc e=>by
   have e2:g=c:=by simpa [Value.ownBlock] using hc
   subst e2;exact g3 e)
  exact DD Y _
 obtain⟨T,a1⟩:=E.o.arc (a:=a) (b:=b) (x:=v) (t:=(tp:Nat)) C.o b9.o b7 (o:=.cells #[.int .i64 a,.int .i64 b,.string v,.int .i64 (tp:Nat)] 59) (by rw[<-Q.o];exact s) e4;have j4:U<=g:=(World.ownsRow.lt P.o.top g rfl).1;have g0:Below U i (we.setCell (Ad g (n*2+1)) (.slice (some (Ad go 0)) (l.2.na n+1) cq)):=((z.o.mono f9).grown s f8 (λk hk=>(World.ownsRow.lt (P.o.row n C.o) k hk).1)).setCell (p:=(Ad g (n*2+1))) j4 _;obtain⟨wf,g7⟩:=exq<|we.setCell ⟨g,n*2+1,none⟩ (.slice (some ⟨go,0,none⟩) (l.2.na n+1) cq);rw[<-g7]at T a1 g0;have d1:=a1.bx G.o a4.o;have h0:=qh<|l3.o.trans a1;clear a1;have g9:=qh<|g8.o.trans g0;clear g0;replace T:=qh T;replace d1:=qh d1;clear b7 b5 s i8 e4 m3 j6 b4 g3 f2 d i7 f8 f9 j4;refine hK.out _ _ (.inr Z) ?_;clear hK K
 try simp only[Act.put,tryL]
 refine Aa.tm 22 Z ?_;refine Aa.tm 23 Z ?_
 try simp only[Act.put,tryL]
 refine Aa.on 24 λK hK=>?_;go_simp;rw[<-g7];clear g7;refine hK.out _ _ (.inl rfl) (Aa.dn ?_);clear hK K Z m2;have c14:=Ccs.c14 T.o.blk;have m7:=Ccs.fz T.o.blk 14;have x0:=cellOf d1.o 0 rfl;have h9:IntKind.i64.wrap ((ac:Int)+1)=(ac:Int)+1:=by rw[IntKind.wrap_i64];have:=d6.o;omega
 go_wp2_with fail
 go_end0
 obtain⟨h4,h5⟩:=T.o.count<|(ac:Int)+1;exact⟨rfl,(l.1,l.2.arc n a b v (tp:Nat)),ac+1,e2,⟨⟨_,_,_,h4,h0.o.trans h5⟩,g9.o.setCell (p:=(Ad D 14)) T.o.low _⟩,d3.o,λ_=>rfl⟩
end
section
open Go.RowKit Go.Deep
def Lvm(B0 cb pb n:Nat)(A B:MD)(sa sb:Value)(L:List ArP)(S0:List Plc × MD)(ac0:Nat)(w3:World)(R0:Nat->Value)(n0:Nat)(sv0 qv0:Value)(Q:Prop)(bx:Nat)(o:Obj)(W:World):Prop :=
 ∃(S:List Plc × MD) (R:Nat->Value) (sv qv:Value) (ac fl:Nat),Cps W B0 cb A B sa sb S.1 S.1 S.2 R sv pb qv ac fl/\Lvi A B n L S0 S ac0 ac fl/\FrPK cb w3 sv0 R0 n0 pb qv0 W sv R S.2.n qv/\Below B0 w3 W/\(fl=0->Q)/\Fb cb W sv R S.2.n pb qv bx/\W.heap[bx]?=some o
section
variable{B0 cb pb n:Nat}{A B:MD}{sa sb:Value}{L:List ArP}{S0:List Plc × MD}{ac0:Nat}{w3 W W':World}{R0:Nat->Value}{n0:Nat}{sv0 qv0:Value}{Q Q':Prop}{bx:Nat}{o:Obj}(h:Lvm B0 cb pb n A B sa sb L S0 ac0 w3 R0 n0 sv0 qv0 Q bx o W)
include h
theorem Lvm.more(k:Q->Q'):Lvm B0 cb pb n A B sa sb L S0 ac0 w3 R0 n0 sv0 qv0 Q' bx o W:=by
 obtain⟨S,R,sv,qv,c,d,g,i,j,l,m,p⟩:=h;exact⟨S,R,sv,qv,c,d,g,i,j,l,λe=>k (m e),p⟩
theorem Lvm.be:Below B0 w3 W:=by obtain⟨S,R,sv,qv,d,g,i,j,k,c,l⟩:=h;exact c
theorem Lvm.box:W.heap[bx]?=some o/\bx≠cb:=by obtain⟨S,R,sv,qv,g,i,j,k,l,m,p,c,d⟩:=h;exact⟨d,c.1⟩
theorem Lvm.old{b:Nat}(hf:Fb cb w3 sv0 R0 n0 pb qv0 b){o:Obj}(d:w3.heap[b]?=some o):W.heap[b]?=some o:=by obtain⟨S,R,sv,qv,g,i,j,k,c,l,m⟩:=h;exact c.bx hf d
theorem Lvm.blk:∃D sv qv ac fl,W.heap[cb]?=some (.cells (ccs A B sa sb D sv pb qv ac fl) 70 (0,0)):=by obtain⟨S,R,sv,qv,ac,fl,c,d,g,i,j⟩:=h;exact⟨_,_,_,_,_,c.blk⟩
theorem Lvm.below(z:B0<=W.heap.size)(hb:Below W.heap.size W W'):Lvm B0 cb pb n A B sa sb L S0 ac0 w3 R0 n0 sv0 qv0 Q bx o W':=by
 obtain⟨S,R,sv,qv,g,i,j,k,l,m,p,d,u⟩:=h;obtain⟨s,c⟩:=j.below hb;exact⟨S,R,sv,qv,g,i,s,k,l.trans c,m.trans (hb.mono z),p,c.fb d,c.bx d u⟩
theorem Lvm.pick{b:Nat}(hf:Fb cb w3 sv0 R0 n0 pb qv0 b){d:Obj}(o:w3.heap[b]?=some d):Lvm B0 cb pb n A B sa sb L S0 ac0 w3 R0 n0 sv0 qv0 Q b d W:=by
 obtain⟨S,R,sv,qv,g,i,j,k,c,l,m,p,s⟩:=h;exact⟨S,R,sv,qv,g,i,j,k,c,l,m,c.fb hf,c.bx hf o⟩
theorem Lvm.push(p:B0<=W.heap.size)(cs:Array Value)(t:TypeId):Lvm B0 cb pb n A B sa sb L S0 ac0 w3 R0 n0 sv0 qv0 Q W.heap.size (.cells cs t (0,0)) (W.alloc (.cells cs t)):=by
 obtain⟨S,R,sv,qv,d,g,c,i,j,k,l,s,u⟩:=h;have hb:Below W.heap.size W (W.alloc (.cells cs t)):=(Below.refl _ W).alloc nlr _;obtain⟨m,o⟩:=c.below hb;exact⟨S,R,sv,qv,d,g,m,i,j.trans o,k.trans (hb.mono p),l,c.fb_new nlr (by simp),han W _⟩
end
section
variable{B0 cb pb n:Nat}{A B:MD}{sa sb:Value}{L:List ArP}{S0:List Plc × MD}{ac0:Nat}{w3 W:World}{R0:Nat->Value}{n0:Nat}{sv0 qv0:Value}{Q:Prop}{bx:Nat}{o:Obj}
def Jo(h:Lvm B0 cb pb n A B sa sb L S0 ac0 w3 R0 n0 sv0 qv0 Q bx o W)(N:B0<=W.heap.size)(l:A.n<=3000)(m:B.n<=3000)(a b:Int)(v:ByteArray){x:Plc}(P:x.1<A.n/\x.2.1<B.n){xb nb:Nat}(s:Bx w3 xb 66 (.pointer (some (Ad cb 0))))(p:Bx w3 nb 3 (.int .i64 (n:Int)))(d:Fb cb w3 sv0 R0 n0 pb qv0 xb)(c:Fb cb w3 sv0 R0 n0 pb qv0 nb):
  Calls prog 100 #[.int .i64 a,.int .i64 b,.string v,plV x,.pointer (some (Ad xb 0)),.pointer (some (Ad nb 0))] W
   (λr W'=>r=.returned (.tuple #[])/\Lvm B0 cb pb n A B sa sb (L++[(a,b,v,x)]) S0 ac0 w3 R0 n0 sv0 qv0 Q bx o W'):=by
 obtain⟨S,R,sv,qv,U,X,F,G,g,H,I,C,K⟩:=h;refine(Rb W F G N l m a b v P (g.bx d s) (g.bx c p) (g.fb d) (g.fb c)).mono ?_;rintro r W'⟨rfl,E,i,j,⟨⟨D,z,u,J,k⟩,hb⟩,O,T⟩;refine⟨rfl,E,D,z,u,i,j,J,O,g.trans k,H.trans hb,λe=>I (T e),k.fb C,k.bx C K⟩
def TR(h:Lvm B0 cb pb n A B sa sb L S0 ac0 w3 R0 n0 sv0 qv0 Q bx o W)(J:B0<=W.heap.size){v x:ByteArray}(T:WtOf A v)(U:WtOf B x)(s:Aj A.kind v=true)(z:Aj A.kind x=true)(u:v.size<=9223372036854775807)(C:x.size<=9223372036854775807)(P:Tab W):
  Calls prog 46 #[.pointer (some (Ad cb 0)),.string v,.string x] W
   (λr W'=>r=.returned (.string (Ah A.kind v x).1)/\Lvm B0 cb pb n A B sa sb L S0 ac0 w3 R0 n0 sv0 qv0 (Q/\(Ah A.kind v x).2=0) bx o W'/\∀b,b<W.heap.size->b≠cb->W'.heap[b]?=W.heap[b]?):=by
 obtain⟨S,R,sv,qv,D,N,g,E,F,G,O,k,I⟩:=h;refine(IN W (Ccs.c0 g.blk) (Ccs.c15 g.blk) (Ccs.fz g.blk 15) g.lt v x u C P).mono ?_;rintro r W'⟨rfl,X,hb,rfl⟩;obtain⟨H,i⟩:=g.below hb;by_cases j:(Ah A.kind v x).2=0
 ·rw[ifp j];exact⟨rfl,⟨S,R,sv,qv,D,N,H,E,F.trans i,G.trans (hb.mono J),λe=>⟨O e,j⟩,i.fb k,i.bx k I⟩,λb d _=>hb.block b d⟩
 rw[ifn j];have K:(Ah A.kind v x).2=2:=(KG s z).resolve_left j;rw[K];obtain⟨l,c⟩:=H.err ((2:Nat):Int);exact⟨rfl,⟨S,R,sv,qv,D,2,l,E.wrong ⟨v,x,T,U,j⟩,(F.trans i).trans c,(G.trans (hb.mono J)).setCell (p:=(Ad cb 15)) g.low _,λe=>absurd e (by decide),(i.trans c).fb k,(i.trans c).bx k I⟩,λb d m=>(AQ m).trans (hb.block b d)⟩
end
end
section
open Go.RowKit Go.Deep
def CvE(B0 cb pb n:Nat)(A B:MD)(sa sb:Value)(L:List ArP)(S0:List Plc × MD)(ac0:Nat)(w:World)(R0:Nat->Value)(n0:Nat)(sv0 qv0:Value)(Q:Prop)(r:Ending)(w':World):Prop :=
 r=.returned (.tuple #[])/\∃S' ac' fl',CpE B0 cb pb A B sa sb w n0 R0 sv0 qv0 S'.1 S'.1 S'.2 (ac':Nat) (fl':Nat) w'/\Lvi A B n L S0 S' ac0 ac' fl'/\(fl'=0->Q/\ac'<=30000)
abbrev LvS(cb xb nb yb bA oA bB oB nA cA nB cB n p q:Nat)(f:Bool)(fA gB:ByteArray)(aP aQ:Option Addr)(nP cP nQ cQ:Nat)(wk:World):Prop :=
 wk.cell? (Ad xb 0)=some (.pointer (some (Ad cb 0)))/\wk.cell? (Ad nb 0)=some (.int .i64 (n:Int))/\wk.cell? (Ad yb 0)=some (.int .i64 (p:Int))/\wk.cell? (Ad yb 1)=some (.int .i64 (q:Int))/\wk.cell? (Ad yb 2)=some (.bool f)/\
 wk.cell? (Ad cb 3)=some (.slice (some (Ad bA oA)) nA cA)/\wk.cell? (Ad cb 7)=some (.slice (some (Ad bB oB)) nB cB)/\
 wk.cell? (Ad bA (oA+p*2))=some (.string fA)/\wk.cell? (Ad bA (oA+p*2+1))=some (.slice aP nP cP)/\wk.cell? (Ad bB (oB+q*2))=some (.string gB)/\wk.cell? (Ad bB (oB+q*2+1))=some (.slice aQ nQ cQ)
def seqR:Nat->Code->Code
 |n+1,.seq _ b=>seqR n b
 |_,c=>c
def Hh:Nat->Code->Code->Code
 |0,_,x=>x
 |n+1,.seq a b,x=>.seq a (Hh n b x)
 |_,c,_=>c
noncomputable def Ff:Code:=((f48).body).getD .skip
set_option maxRecDepth 1000000 in
theorem Vl:Hh 3 Ff (seqR 3 Ff)=Ff:=by kernel_rfl
section
variable{A B:MD}{p q k j:Nat}{al:Bool}
def TJ(h:A.aout p k=0):lfL A B p q false (k+1)=lfL A B p q false k++[(A.ain p k,0,A.aw p k,((A.ato p k).toNat,q,false))]:=by
 show _++(if A.aout p k=0 then _ else _)=_
 rw[ifp h];rfl
def TL(h:A.aout p k=0):lfL A B p q true (k+1)=lfL A B p q true k:=by
 show _++(if A.aout p k=0 then (if true then [] else _) else _)=_
 rw[ifp h,ifp rfl,List.append_nil]
theorem TK{f:Bool}(h:A.aout p k≠0):lfL A B p q f (k+1)=lfL A B p q f k++mtL A B p q k (B.na q):=by
 show _++(if A.aout p k=0 then _ else _)=_
 rw[ifn h]
theorem Ul(h:B.ain q j=A.aout p k):mtL A B p q k (j+1)=mtL A B p q k j++[(A.ain p k,B.aout q j,tmS A (A.aw p k) (B.aw q j),((A.ato p k).toNat,(B.ato q j).toNat,false))]:=by
 show _++(if B.ain q j=A.aout p k then _ else _)=_
 rw[ifp h]
theorem Uk(h:B.ain q j≠A.aout p k):mtL A B p q k (j+1)=mtL A B p q k j:=by
 show _++(if B.ain q j=A.aout p k then _ else _)=_
 rw[ifn h,List.append_nil]
theorem Wq(h:B.ain q j=0):rtL B al p q (j+1)=rtL B al p q j++[(0,B.aout q j,B.aw q j,(p,(B.ato q j).toNat,al))]:=by
 show _++(if B.ain q j=0 then _ else _)=_
 rw[ifp h]
theorem Wp(h:B.ain q j≠0):rtL B al p q (j+1)=rtL B al p q j:=by
 show _++(if B.ain q j=0 then _ else _)=_
 rw[ifn h,List.append_nil]
end
def QE{W:World}{D:MD}{i n c b o:Nat}{a:Option Addr}(hn:n=D.na i)(h:n<=c)(g:c<=maxLen)(j:0<n->a=some (Ad b o))(l:0<n->b<W.heap.size)
  (m:∀k,k<n->W.cell? (Ad b (o+k*4))=some (.int .i64 (D.ain i k))/\W.cell? (Ad b (o+k*4+1))=some (.int .i64 (D.aout i k))/\W.cell? (Ad b (o+k*4+2))=some (.string (D.aw i k))/\W.cell? (Ad b (o+k*4+3))=some (.int .i64 (D.ato i k))):ArS none W (.slice a n c) D i:=by
 subst hn;by_cases d:D.na i=0
 ·exact .inl ⟨d,a,c,by rw[d],g⟩
 exact .inr ⟨b,o,c,by rw[j (by omega)],⟨l (by omega),by simp⟩,h,g,m⟩
def selO(_ o:Int):Bool:=o==0
def SD:∀args w,(callFunc 102 args).run prog w=.ok (.enter 102 args) w:=λargs w=>by kernel_rfl
def XM:TstA 102 #[] selO (λ_=>True):=⟨SD,λw _ i o s t=>by
 rw[show ∀a:Value,(#[a]++#[]:Array Value)=#[a] from λ_=>rfl];exact Rl w i o t s⟩
set_option maxRecDepth 1000000 in
theorem Rm{y8 y9 E4 E5 E6 E7 E8 E9 F0 F1 F2 F3 F4 F5 F6 F7 F8 F9 G0 G1 G2 G3 G4 G5 G6 G7 G8 G9 H4 H5 H6 H7 H8 H9 I0 I1 I2 I3 I4 I5 I6 I7 I8 I9 J0 J1 J2 J3 J4 J5 J6 J7 J8 J9 K0 K1 K2 K3 K4 K5 K6 K7 K8 K9 L0 L1 L2 L3 L4 L5 L6 L7 L8 L9 M0 M1 M2 M3 M4 M5 M6 M7 M8 M9 N0 N1 N2 N3 N4 N5 N6 N7 q8 q9 r0 r2 r3 r4 r5 r6 r7 r8 r9 s4 s5 s6 s7 s8 s9 t7 t8 t9 v0 v2 v3 v4 v5 v6 v7 v8 v9 w1 w2 w7 x1 x2 x3 x4 x5 x6 x7 x8 x9 y0 y1 y2 y3 y4 y5 y6 y7 A0 A1 A2 A3 A4 A5 A6 A7 A8 A9 B0 B1 B2 B3 B4 B5 B6 B7 B8 B9 C0 C1 C2 C3 C4 C5 C6:Value}{d pb n l p q:Nat}{f:Bool}{A B:MD}{S O oA T P oB xb nb yb I cP Z cQ bP oP bQ oQ n0:Nat}{aP aQ:Option Addr}{fA gB:ByteArray}{S0:List Plc × MD}{R:Nat->Value}{sv qv:Value}{z w N:World}
  (j4:Hd (FrPK d w sv R n0 pb qv N sv R n0 qv)) (j3:Hd (Below z.heap.size w N)) (C8:Hd (z.heap.size<=N.heap.size))
  (a1:Hd (∀(L:List ArP) (S0:List Plc × MD) (Q:Prop) (bx:Nat) (o:Obj) (W:World),Lvm z.heap.size d pb n A B (.slice (some (Ad O oA)) A.n S) (.slice (some (Ad P oB)) B.n T) L S0 l N R n0 sv qv Q bx o W->LvS d xb nb yb O oA P oB A.n S B.n T n p q f fA gB aP aQ I cP Z cQ W)) (b9:Hd (∀(L:List ArP) (S0:List Plc × MD) (Q:Prop) (bx:Nat) (o:Obj) (W:World),Lvm z.heap.size d pb n A B (.slice (some (Ad O oA)) A.n S) (.slice (some (Ad P oB)) B.n T) L S0 l N R n0 sv qv Q bx o W->Below z.heap.size z W))
  (f0:Hd (p<A.n)) (d6:Hd (q<B.n)) (f1:Hd (VM A)) (d7:Hd (VM B)) (D2:Hd (A.kind=B.kind)) (D3:Hd (MSz A)) (D4:Hd (MSz B)) (HT:Hd (Tab z)) (g3:Hd (I=A.na p)) (e8:Hd (Z=B.na q))
  (D0:Hd (I<=cP)) (D1:Hd (cP<=maxLen)) (o3:Hd (0<I->aP=some (Ad bP oP))) (l4:Hd (0<I->bP<z.heap.size/\some bP≠none))
  (o4:Hd (∀k,k<I->z.cell? (Ad bP (oP+k*4))=some (.int .i64 (A.ain p k))/\z.cell? (Ad bP (oP+k*4+1))=some (.int .i64 (A.aout p k))/\z.cell? (Ad bP (oP+k*4+2))=some (.string (A.aw p k))/\z.cell? (Ad bP (oP+k*4+3))=some (.int .i64 (A.ato p k))))
  (O4:Hd (Z<=cQ)) (O5:Hd (cQ<=maxLen)) (j8:Hd (0<Z->aQ=some (Ad bQ oQ))) (o5:Hd (0<Z->bQ<z.heap.size/\some bQ≠none))
  (g1:Hd (∀k,k<Z->z.cell? (Ad bQ (oQ+k*4))=some (.int .i64 (B.ain q k))/\z.cell? (Ad bQ (oQ+k*4+1))=some (.int .i64 (B.aout q k))/\z.cell? (Ad bQ (oQ+k*4+2))=some (.string (B.aw q k))/\z.cell? (Ad bQ (oQ+k*4+3))=some (.int .i64 (B.ato q k))))
  (f2:Hd (Bx N xb 66 (.pointer (some (Ad d 0))))) (l6:Hd (Bx N nb 3 (.int .i64 (n:Int)))) (e7:Hd (Fb d N sv R n0 pb qv xb)) (l1:Hd (Fb d N sv R n0 pb qv nb)) {wr:World} (l5:Hd (Lvm z.heap.size d pb n A B (.slice (some (Ad O oA)) A.n S) (.slice (some (Ad P oB)) B.n T) [] S0 l N R n0 sv qv (PrQ A B p q 0 0) xb (.cells #[.pointer (some (Ad d 0))] 66 (0,0)) wr)) :
  Code.wp prog (seqR 3 Ff) (bodyPost prog f48 (CvE z.heap.size d pb n A B (.slice (some (Ad O oA)) A.n S) (.slice (some (Ad P oB)) B.n T) (arL A B ((List.range (A.na p)).any λk=>A.aout p k==0) p q f) S0 l w R n0 sv qv (PrOk A B p q))) ⟨List.toArray (.pointer (some (Ad d 0))::.int .i64 (n:Int)::.agg #[.int .i64 (p:Int),.int .i64 (q:Int),.bool f]::.pointer (some (Ad xb 0))::.pointer (some (Ad nb 0))::.pointer (some (Ad yb 0))::.string fA::.string gB::y8::y9::E4::E5::E6::E7::E8::E9::F0::F1::F2::F3::F4::F5::F6::F7::F8::F9::G0::G1::G2::G3::G4::G5::G6::G7::G8::G9::H4::H5::H6::H7::H8::H9::I0::I1::I2::I3::I4::I5::I6::I7::I8::I9::J0::J1::J2::J3::J4::J5::J6::J7::J8::J9::K0::K1::K2::K3::K4::K5::K6::K7::K8::K9::L0::L1::L2::L3::L4::L5::L6::L7::L8::L9::M0::M1::M2::M3::M4::M5::M6::M7::M8::M9::N0::N1::N2::N3::N4::N5::N6::N7::q8::q9::r0::r2::r3::r4::r5::r6::r7::r8::r9::s4::s5::s6::s7::s8::s9::t7::t8::t9::v0::v2::v3::v4::v5::v6::v7::v8::v9::w1::w2::w7::x1::x2::x3::x4::x5::x6::x7::x8::x9::y0::y1::y2::y3::y4::y5::y6::y7::A0::A1::A2::A3::A4::A5::A6::A7::A8::A9::B0::B1::B2::B3::B4::B5::B6::B7::B8::B9::C0::C1::C2::C3::C4::C5::C6::[]),[]⟩ wr:=by
 have O9:(p:Int)<(A.n:Int):=by have:=f0.o;omega
 have O2:(0:Int)<=(p:Int):=by omega
 have P0:(q:Int)<(B.n:Int):=by have:=d6.o;omega
 have O3:(0:Int)<=(q:Int):=by omega
 have G:=qh<|show ∀L S0 Q bx o W,Lvm z.heap.size d pb n A B (.slice (some (Ad O oA)) A.n S) (.slice (some (Ad P oB)) B.n T) L S0 l N R n0 sv qv Q bx o W->z.heap.size<=W.heap.size from λL S0 Q bx o W h=>Nat.le_trans C8.o h.be.size;obtain⟨wd,Y⟩:=exq<|wr.drew;have J:Lvm z.heap.size d pb n A B (.slice (some (Ad O oA)) A.n S) (.slice (some (Ad P oB)) B.n T) [] S0 l N R n0 sv qv (PrQ A B p q 0 0) xb (.cells #[.pointer (some (Ad d 0))] 66 (0,0)) wd:=l5.o.below (G.o _ _ _ _ _ _ l5.o) (by rw[Y];exact(Below.refl _ wr).drew);have c:=a1.o _ _ _ _ _ _ J;have b8:=qh J;clear J l5
 conv=>arg 2;whnf
 go_wp2_with fail
 refine Gd (LvS d xb nb yb O oA P oB A.n S B.n T n p q f fA gB aP aQ I cP Z cQ) [11] (by kernel_rfl) ?_;rw[<-Y];clear Y;refine AnyL.tq 11 ?_;refine AnyL.tm 0 c ?_;refine AnyL.tm 1 c ?_;refine AnyL.tm 2 c ?_;refine AnyL.tm 3 c ?_;refine AnyL.tm 4 c ?_;refine AnyL.tm 5 c ?_;refine AnyL.tm 6 c ?_;refine AnyL.tm 7 c ?_;refine AnyL.tm 8 c ?_;refine AnyL.tm 9 c ?_;refine AnyL.tm 10 c ?_
 try simp only[Act.put,tryL]
 refine AnyL.dn ?_;clear c
 go_wp2_with fail
 go_loopw [66] (λn6 W=>∃k:Nat,k<=I/\n6=.int .i64 (k:Int)/\Lvm z.heap.size d pb n A B (.slice (some (Ad O oA)) A.n S) (.slice (some (Ad P oB)) B.n T) (lfL A B p q f k) S0 l N R n0 sv qv (PrQ A B p q k 0) xb (.cells #[.pointer (some (Ad d 0))] 66 (0,0)) W) (λn6 _=>I-(intOf n6).toNat)
 case atStart=>exact⟨0,Nat.zero_le _,rfl,b8.o⟩
 obtain⟨k,hk,rfl,hl⟩:=hrel;clear b8;have g2:=qh hl;clear hl;by_cases m5:k<I
 ·have O8:(k:Int)<(I:Int):=by omega
  have O1:(0:Int)<=(k:Int):=by omega
  have i8:=qh m5;have O7:k<=30000:=by have h1:=Eu A A.n p f0.o;have h2:=f1.o.arcs;have h3:=g3.o;omega
  have eP:=o3.o (by omega);subst eP;have j1:k<A.na p:=by rw[<-g3.o];exact m5
  have s:=b9.o _ _ _ _ _ _ g2.o;have g7:=(l4.o (by omega)).1;obtain⟨m0,m1,m2,m3⟩:=o4.o k m5;have t0:=(s.cell (p:=(Ad bP _)) g7).trans m0;have t1:=(s.cell (p:=(Ad bP _)) g7).trans m1;have t2:=(s.cell (p:=(Ad bP _)) g7).trans m2;have t3:=(s.cell (p:=(Ad bP _)) g7).trans m3;clear m0 m1 m2 m3 s g7;have i6:=f1.o.arc p k f0.o j1;obtain⟨C,e4⟩:∃C,C=(A.ato p k).toNat:=⟨_,rfl⟩;have k0:A.ato p k=(C:Int):=by have:=i6.t0;omega
  have e5:C<A.n:=by have:=i6.t0;have:=i6.t1;omega
  rw[k0]at t3;obtain⟨ai,g5⟩:=exq<|A.ain p k;obtain⟨ao,d8⟩:=exq<|A.aout p k;obtain⟨aw,a8⟩:=exq<|A.aw p k;rw[<-g5]at t0;rw[<-d8]at t1;rw[<-a8]at t2;have m9:Am A.kind aw=true:=by rw[a8];exact i6.wt
  obtain⟨sx,f5⟩:=exq<|wr.heap.size;obtain⟨w5,H⟩:=exq<|wr.alloc (.cells #[.int .i64 ai,.int .i64 ao,.string aw,.int .i64 (C:Int)] 59);have a9:=g2.o.push (G.o _ _ _ _ _ _ g2.o) #[.int .i64 ai,.int .i64 ao,.string aw,.int .i64 (C:Int)] 59;rw[<-f5,<-H]at a9;have d3:=a9.box.1;have s0:=cellOf d3 0 rfl;have s1:=cellOf d3 1 rfl;have s2:=cellOf d3 2 rfl;have s3:=cellOf d3 3 rfl;obtain⟨z0,z1,z2,z3,z4,z5,z6,z7,z8,z9,N8⟩:=a1.o _ _ _ _ _ _ a9;rw[H,f5]at s0 s1 s2 s3;rw[H]at z3 z4;have g0:=qh a9;clear a9;replace j1:=qh j1;replace e5:=qh e5;replace e4:=qh e4;replace g5:=qh g5;replace d8:=qh d8;replace a8:=qh a8;replace m9:=qh m9;clear i6 k0 d3;clear z0 z1 z2 z5 z6 z7 z8 z9 N8;by_cases h0:ao=0
  ·subst h0;have H0:=qh<|show A.aout p k=0 from d8.o.symm;cases f
   focus
    go_wp2_with fail
    rw[<-H];clear t0 t1 t2 t3 s0 s1 s2 s3 z3 z4 H f5;refine(Jo (x:=(C,q,false)) g0.o (G.o _ _ _ _ _ _ g0.o) f1.o.n2 d7.o.n2 ai 0 aw ⟨e5.o,d6.o⟩ f2.o l6.o e7.o l1.o).mono ?_;rintro r w6⟨rfl,p9⟩;have i3:Lvm z.heap.size d pb n A B (.slice (some (Ad O oA)) A.n S) (.slice (some (Ad P oB)) B.n T) (lfL A B p q false (k+1)) S0 l N R n0 sv qv (PrQ A B p q (k+1) 0) xb (.cells #[.pointer (some (Ad d 0))] 66 (0,0)) w6:=by
     rw[TJ H0.o,<-g5.o,<-a8.o,<-e4.o];exact(p9.more λh=>h.skip H0.o).pick e7.o f2.o
    have g1:=qh i3;clear i3 p9
    go_wp2_with fail
   rotate_left
   focus
    have i3:Lvm z.heap.size d pb n A B (.slice (some (Ad O oA)) A.n S) (.slice (some (Ad P oB)) B.n T) (lfL A B p q true (k+1)) S0 l N R n0 sv qv (PrQ A B p q (k+1) 0) xb (.cells #[.pointer (some (Ad d 0))] 66 (0,0)) w5:=by
     rw[TL H0.o];exact(g0.o.more λh=>h.skip H0.o).pick e7.o f2.o
    have g1:=qh i3;clear i3
    go_wp2_with fail
    rw[<-H];clear t0 t1 t2 t3 s0 s1 s2 s3 z3 z4 H f5
   all_goals
    go_roundw
    case rel=>exact⟨k+1,by have:=i8.o;omega,by go_num,g1.o⟩
    have:=i8.o;simp[intOf];omega
  have D7:(ao==0)=false:=by simp[h0]
  have D8:decide (ao=0)=false:=by simp[h0]
  have H0:=qh (show A.aout p k≠0 by rw[<-d8.o];exact h0);obtain⟨wd,Y⟩:=exq<|w5.drew;have J:=g0.o.below (W':=wd) (G.o _ _ _ _ _ _ g0.o) (by rw[Y];exact(Below.refl _ w5).drew);have c:=a1.o _ _ _ _ _ _ J;have k6:Lvm z.heap.size d pb n A B (.slice (some (Ad O oA)) A.n S) (.slice (some (Ad P oB)) B.n T) (lfL A B p q f k++[]) S0 l N R n0 sv qv (PrQ A B p q k 0) sx (.cells #[.int .i64 ai,.int .i64 ao,.string aw,.int .i64 (C:Int)] 59 (0,0)) wd:=by
   rw[List.append_nil];exact J
  have b8:=qh k6;clear J k6
  go_wp2_with fail
  refine Gd (LvS d xb nb yb O oA P oB A.n S B.n T n p q f fA gB (some (Ad bP oP)) aQ I cP Z cQ) [11] (by kernel_rfl) ?_;rw[<-H,<-Y,<-f5];clear t0 t1 t2 t3 s0 s1 s2 s3 z3 z4 H Y f5;refine AnyL.tq 11 ?_;refine AnyL.tm 0 c ?_;refine AnyL.tm 1 c ?_;refine AnyL.tm 2 c ?_;refine AnyL.tm 3 c ?_;refine AnyL.tm 4 c ?_;refine AnyL.tm 5 c ?_;refine AnyL.tm 6 c ?_;refine AnyL.tm 7 c ?_;refine AnyL.tm 8 c ?_;refine AnyL.tm 9 c ?_;refine AnyL.tm 10 c ?_
  try simp only[Act.put,tryL]
  refine AnyL.dn ?_;clear c D7 D8;replace h0:=qh h0
  go_wp2_with fail
  go_loopw [98] (λn7 W=>∃j:Nat,j<=Z/\n7=.int .i64 (j:Int)/\Lvm z.heap.size d pb n A B (.slice (some (Ad O oA)) A.n S) (.slice (some (Ad P oB)) B.n T) (lfL A B p q f k++mtL A B p q k j) S0 l N R n0 sv qv (PrQ A B p q k j) sx (.cells #[.int .i64 ai,.int .i64 ao,.string aw,.int .i64 (C:Int)] 59 (0,0)) W) (λn7 _=>Z-(intOf n7).toNat)
  case atStart=>exact⟨0,Nat.zero_le _,rfl,b8.o⟩
  obtain⟨j,hj,rfl,b5⟩:=hrel;clear b8;have a2:=qh b5;clear b5;by_cases e1:j<Z
  ·have E1:(j:Int)<(Z:Int):=by omega
   have p7:(0:Int)<=(j:Int):=by omega
   have f9:=qh e1;have E0:j<=30000:=by have h1:=Eu B B.n q d6.o;have h2:=d7.o.arcs;have h3:=e8.o;omega
   have eQ:=j8.o (by omega);subst eQ;have f4:j<B.na q:=by rw[<-e8.o];exact e1
   have s:=b9.o _ _ _ _ _ _ a2.o;have U:=(o5.o (by omega)).1;obtain⟨m0,m1,m2,m3⟩:=g1.o j e1;have t0:=(s.cell (p:=(Ad bQ _)) U).trans m0;have t1:=(s.cell (p:=(Ad bQ _)) U).trans m1;have t2:=(s.cell (p:=(Ad bQ _)) U).trans m2;have t3:=(s.cell (p:=(Ad bQ _)) U).trans m3;clear m0 m1 m2 m3 s U;have a5:=d7.o.arc q j d6.o f4;obtain⟨bt,g8⟩:∃bt,bt=(B.ato q j).toNat:=⟨_,rfl⟩;have d0:B.ato q j=(bt:Int):=by have:=a5.t0;omega
   have d1:bt<B.n:=by have:=a5.t0;have:=a5.t1;omega
   rw[d0]at t3;obtain⟨bi,d9⟩:=exq<|B.ain q j;obtain⟨bo,e0⟩:=exq<|B.aout q j;obtain⟨bw,d2⟩:=exq<|B.aw q j;rw[<-d9]at t0;rw[<-e0]at t1;rw[<-d2]at t2;have n5:Am B.kind bw=true:=by rw[d2];exact a5.wt
   obtain⟨tx,a4⟩:=exq<|wr.heap.size;obtain⟨w8,u⟩:=exq<|wr.alloc (.cells #[.int .i64 bi,.int .i64 bo,.string bw,.int .i64 (bt:Int)] 59);have g6:Below wr.heap.size wr w8:=by rw[u];exact(Below.refl _ wr).alloc nlr _
   have e2:=a2.o.below (G.o _ _ _ _ _ _ a2.o) g6;have F:w8.heap[tx]?=some (.cells #[.int .i64 bi,.int .i64 bo,.string bw,.int .i64 (bt:Int)] 59 (0,0)):=by rw[u,a4];exact han wr _
   have m8:tx≠d:=by
    obtain⟨_,_,_,_,_,h9⟩:=a2.o.blk;have:=lbk h9;omega
   have k9:=e2.box.1;have s1:=cellOf k9 1 rfl;have b0:=cellOf F 0 rfl;rw[u]at s1;rw[u,a4]at b0;have d5:=qh e2;clear e2;have D5:=qh F;clear F;replace m8:=qh m8;have C9:=qh f4;clear f4;have f8:=qh d1;clear d1;have l3:=qh g8;clear g8;have f7:=qh d9;clear d9;have l2:=qh e0;clear e0;have a6:=qh d2;clear d2;replace n5:=qh n5;clear a5 d0 g6 k9;by_cases he:bi=ao
   focus
    have HE:=qh (show B.ain q j=A.aout p k by rw[<-f7.o,<-d8.o];exact he);have l9:decide (bi=ao)=true:=by simp[he]
    have l8:(bi==ao)=true:=by simp[he]
    clear he;obtain⟨w9,j2⟩:=exq<|w8.drew;have b4:=d5.o.below (W':=w9) (G.o _ _ _ _ _ _ d5.o) (by rw[j2];exact(Below.refl _ w8).drew);have X:w9.heap[tx]?=some (.cells #[.int .i64 bi,.int .i64 bo,.string bw,.int .i64 (bt:Int)] 59 (0,0)):=by rw[j2];exact D5.o
    have e6:=b4.box.1;have q7:=(a1.o _ _ _ _ _ _ b4).1;have g:w9.cell? (Ad xb 0)=some (.pointer (some (Ad d 0)))/\w9.cell? (Ad sx 0)=some (.int .i64 ai)/\w9.cell? (Ad sx 2)=some (.string aw)/\w9.cell? (Ad sx 3)=some (.int .i64 (C:Int))/\w9.cell? (Ad tx 1)=some (.int .i64 bo)/\w9.cell? (Ad tx 2)=some (.string bw)/\w9.cell? (Ad tx 3)=some (.int .i64 (bt:Int)) :=
     ⟨q7,cellOf e6 0 rfl,cellOf e6 2 rfl,cellOf e6 3 rfl,cellOf X 1 rfl,cellOf X 2 rfl,cellOf X 3 rfl⟩
    have k7:=b9.o _ _ _ _ _ _ b4;have o6:=qh (TR b4 (G.o _ _ _ _ _ _ b4) (v:=aw) (x:=bw) (.inr (.inr ⟨p,k,f0.o,j1.o,a8.o⟩)) (.inr (.inr ⟨q,j,d6.o,C9.o,a6.o⟩)) (DL m9.o) (DL (by rw[D2.o];exact n5.o)) (by rw[a8.o];exact D3.o.aw p k) (by rw[a6.o];exact D4.o.aw q j) (HT.o.below k7 nlr));have i5:=lbk X;replace i5:=qh i5;replace X:=qh X;clear b4 e6 q7 k7
    go_wp2_with fail
    refine AD (λwk=>wk.cell? (Ad xb 0)=some (.pointer (some (Ad d 0)))/\wk.cell? (Ad sx 0)=some (.int .i64 ai)/\wk.cell? (Ad sx 2)=some (.string aw)/\wk.cell? (Ad sx 3)=some (.int .i64 (C:Int))/\wk.cell? (Ad tx 1)=some (.int .i64 bo)/\wk.cell? (Ad tx 2)=some (.string bw)/\wk.cell? (Ad tx 3)=some (.int .i64 (bt:Int))) 16 (by kernel_rfl) ?_;rw[<-u,<-j2,<-a4];clear t0 t1 t2 t3 s1 b0 u j2 a4;refine Aa.tm 0 g ?_;refine Aa.tm 1 g ?_;refine Aa.tm 2 g ?_;refine Aa.tm 3 g ?_;refine Aa.tm 4 g ?_;refine Aa.tm 5 g ?_;refine Aa.tm 6 g ?_;refine Aa.tm 7 g ?_;refine Aa.tm 8 g ?_;refine Aa.tm 9 g ?_;refine Aa.tm 11 g ?_;refine Aa.tm 12 g ?_;refine Aa.tm 13 g ?_;refine Aa.tm 14 g ?_;refine Aa.tm 15 g ?_
    try simp only[Act.put,tryL]
    refine Aa.on 10 λK hK=>?_;go_simp;refine o6.o.mono ?_;rintro r e3⟨rfl,m,p6⟩;have b7:=(p6 tx i5.o m8.o).trans X.o;have b6:=m.box.1;have l0:=(a1.o _ _ _ _ _ _ m).1;have E:e3.cell? (Ad xb 0)=some (.pointer (some (Ad d 0)))/\e3.cell? (Ad sx 0)=some (.int .i64 ai)/\e3.cell? (Ad sx 2)=some (.string aw)/\e3.cell? (Ad sx 3)=some (.int .i64 (C:Int))/\e3.cell? (Ad tx 1)=some (.int .i64 bo)/\e3.cell? (Ad tx 2)=some (.string bw)/\e3.cell? (Ad tx 3)=some (.int .i64 (bt:Int)) :=
     ⟨l0,cellOf b6 0 rfl,cellOf b6 2 rfl,cellOf b6 3 rfl,cellOf b7 1 rfl,cellOf b7 2 rfl,cellOf b7 3 rfl⟩
    have o2:=qh<|Jo (x:=(C,bt,false)) m (G.o _ _ _ _ _ _ m) f1.o.n2 d7.o.n2 ai bo (Ah A.kind aw bw).1 ⟨e5.o,f8.o⟩ f2.o l6.o e7.o l1.o;clear m p6 b7 b6 l0 o6;refine hK.out _ _ (.inr E) ?_;clear hK K g
    try simp only[Act.put,tryL]
    refine Aa.on 16 λK hK=>?_;go_simp;refine o2.o.mono ?_;rintro r E3⟨rfl,k4⟩;have d4:Lvm z.heap.size d pb n A B (.slice (some (Ad O oA)) A.n S) (.slice (some (Ad P oB)) B.n T) (lfL A B p q f k++mtL A B p q k (j+1)) S0 l N R n0 sv qv (PrQ A B p q k (j+1)) sx (.cells #[.int .i64 ai,.int .i64 ao,.string aw,.int .i64 (C:Int)] 59 (0,0)) E3:=by
     rw[Ul HE.o,<-List.append_assoc];have h9:tmS A (A.aw p k) (B.aw q j)=(Ah A.kind aw bw).1:=by rw[a8.o,a6.o];rfl
     rw[h9,<-g5.o,<-l2.o,<-e4.o,<-l3.o];exact k4.more λh=>h.1.yes (by rw[<-a8.o,<-a6.o];exact h.2)
    have j6:=qh d4;clear d4 k4 o2;refine hK.out _ _ (.inl rfl) (Aa.dn ?_);clear hK K E l9 l8
    go_wp2_with fail
   rotate_left
   focus
    have l9:decide (bi=ao)=false:=by simp[he]
    have l8:(bi==ao)=false:=by simp[he]
    have i9:=qh (show B.ain q j≠A.aout p k by rw[<-f7.o,<-d8.o];exact he);have d4:Lvm z.heap.size d pb n A B (.slice (some (Ad O oA)) A.n S) (.slice (some (Ad P oB)) B.n T) (lfL A B p q f k++mtL A B p q k (j+1)) S0 l N R n0 sv qv (PrQ A B p q k (j+1)) sx (.cells #[.int .i64 ai,.int .i64 ao,.string aw,.int .i64 (C:Int)] 59 (0,0)) w8:=by
     rw[Uk i9.o];exact d5.o.more λh=>h.no i9.o
    have j6:=qh d4;clear d4
    go_wp2_with fail
    rw[<-u];clear t0 t1 t2 t3 s1 b0 u a4
   all_goals
    go_roundw
    case rel=>exact⟨j+1,by have:=f9.o;omega,by go_num,j6.o⟩
    have:=f9.o;simp[intOf];omega
  have g9:j=Z:=by omega
  have D9:¬((j:Int)<(Z:Int)):=by omega
  have i2:Lvm z.heap.size d pb n A B (.slice (some (Ad O oA)) A.n S) (.slice (some (Ad P oB)) B.n T) (lfL A B p q f (k+1)) S0 l N R n0 sv qv (PrQ A B p q (k+1) 0) xb (.cells #[.pointer (some (Ad d 0))] 66 (0,0)) wr:=by
   rw[TK H0.o];have h9:=a2.o;rw[g9,e8.o]at h9;exact(h9.more λh=>h.next).pick e7.o f2.o
  replace i2:=qh i2;clear g9;go_wp2;go_roundw
  case rel=>exact⟨k+1,by have:=i8.o;omega,by go_num,i2.o⟩
  have:=i8.o;simp[intOf];omega
 have p8:k=I:=by omega
 have D9:¬((k:Int)<(I:Int)):=by omega
 have i4:=g2.o;rw[p8]at i4;replace i4:=qh i4;clear g2;obtain⟨wd,Y⟩:=exq<|wr.drew;have J:=i4.o.below (W':=wd) (G.o _ _ _ _ _ _ i4.o) (by rw[Y];exact(Below.refl _ wr).drew);have c:=a1.o _ _ _ _ _ _ J;have a7:=b9.o _ _ _ _ _ _ J;have o9:=LP (D:=A) (i:=p) wd (QE g3.o D0.o D1.o o3.o (λh=>Nat.lt_of_lt_of_le (l4.o h).1 a7.size) (λk' E2=>by
  obtain⟨m0,m1,m2,m3⟩:=o4.o k' E2;have hb:=(l4.o (by omega)).1;exact⟨(a7.cell (p:=(Ad bP _)) hb).trans m0,(a7.cell (p:=(Ad bP _)) hb).trans m1,(a7.cell (p:=(Ad bP _)) hb).trans m2,(a7.cell (p:=(Ad bP _)) hb).trans m3⟩)) (by have h1:=Eu A A.n p f0.o;have h2:=f1.o.arcs;omega) XM (λ_ _=>trivial)
 obtain⟨al,j0⟩:∃al,al=((List.range (A.na p)).any λk=>A.aout p k==0):=⟨_,rfl⟩;have g4:Calls prog 101 #[.slice aP I cP,.func (.func 102) #[] #[]] wd (λr w'=>r=.returned (.bool al)/\Below wd.heap.size wd w'):=by rw[j0];exact o9
 replace g4:=qh g4;clear o9;replace j0:=qh j0;have b8:=qh J;clear J a7 p8
 go_wp2_with fail
 refine AD (LvS d xb nb yb O oA P oB A.n S B.n T n p q f fA gB aP aQ I cP Z cQ) 11 (by kernel_rfl) ?_;rw[<-Y];clear Y;refine Aa.tm 0 c ?_;refine Aa.tm 1 c ?_;refine Aa.tm 2 c ?_;refine Aa.tm 3 c ?_;refine Aa.tm 4 c ?_;refine Aa.tm 5 c ?_;refine Aa.tm 6 c ?_;refine Aa.tm 7 c ?_;refine Aa.tm 8 c ?_;refine Aa.tm 9 c ?_
 try simp only[Act.put,tryL]
 refine Aa.on 10 λK hK=>?_;go_simp;refine g4.o.mono ?_;rintro r w4⟨rfl,p0⟩;have m4:=b8.o.below (G.o _ _ _ _ _ _ b8.o) p0;have g:=a1.o _ _ _ _ _ _ m4;have j7:=qh m4;clear m4 p0;refine hK.out _ _ (.inr g) ?_;clear hK K c
 try simp only[Act.put,tryL]
 refine Aa.on 11 λK hK=>?_;go_simp;refine hK.out _ _ (.inl rfl) (Aa.dn ?_);clear hK K g;obtain⟨w5,H⟩:=exq<|w4.drew;have a9:=j7.o.below (W':=w5) (G.o _ _ _ _ _ _ j7.o) (by rw[H];exact(Below.refl _ w4).drew);have E:=a1.o _ _ _ _ _ _ a9;have k5:Lvm z.heap.size d pb n A B (.slice (some (Ad O oA)) A.n S) (.slice (some (Ad P oB)) B.n T) (lfL A B p q f I++[]) S0 l N R n0 sv qv (PrQ A B p q I 0) xb (.cells #[.pointer (some (Ad d 0))] 66 (0,0)) w5:=by
  rw[List.append_nil];exact a9
 have j9:=qh k5;clear k5 a9
 go_wp2_with fail
 refine Gd (LvS d xb nb yb O oA P oB A.n S B.n T n p q f fA gB aP aQ I cP Z cQ) [11] (by kernel_rfl) ?_;rw[<-H];clear H;refine AnyL.tq 11 ?_;refine AnyL.tm 0 E ?_;refine AnyL.tm 1 E ?_;refine AnyL.tm 2 E ?_;refine AnyL.tm 3 E ?_;refine AnyL.tm 4 E ?_;refine AnyL.tm 5 E ?_;refine AnyL.tm 6 E ?_;refine AnyL.tm 7 E ?_;refine AnyL.tm 8 E ?_;refine AnyL.tm 9 E ?_;refine AnyL.tm 10 E ?_
 try simp only[Act.put,tryL]
 refine AnyL.dn ?_;clear E
 go_wp2_with fail
 go_loopw [148] (λi7 W=>∃j:Nat,j<=Z/\i7=.int .i64 (j:Int)/\Lvm z.heap.size d pb n A B (.slice (some (Ad O oA)) A.n S) (.slice (some (Ad P oB)) B.n T) (lfL A B p q f I++rtL B al p q j) S0 l N R n0 sv qv (PrQ A B p q I 0) xb (.cells #[.pointer (some (Ad d 0))] 66 (0,0)) W) (λi7 _=>Z-(intOf i7).toNat)
 case atStart=>exact⟨0,Nat.zero_le _,rfl,j9.o⟩
 obtain⟨j,hj,rfl,b5⟩:=hrel;clear j9;have a2:=qh b5;clear b5;by_cases e1:j<Z
 ·have E1:(j:Int)<(Z:Int):=by omega
  have p7:(0:Int)<=(j:Int):=by omega
  have f9:=qh e1;have E0:j<=30000:=by have h1:=Eu B B.n q d6.o;have h2:=d7.o.arcs;have h3:=e8.o;omega
  have eQ:=j8.o (by omega);subst eQ;have f4:j<B.na q:=by rw[<-e8.o];exact e1
  have s:=b9.o _ _ _ _ _ _ a2.o;have U:=(o5.o (by omega)).1;obtain⟨m0,m1,m2,m3⟩:=g1.o j e1;have t0:=(s.cell (p:=(Ad bQ _)) U).trans m0;have t1:=(s.cell (p:=(Ad bQ _)) U).trans m1;have t2:=(s.cell (p:=(Ad bQ _)) U).trans m2;have t3:=(s.cell (p:=(Ad bQ _)) U).trans m3;clear m0 m1 m2 m3 s U;have a5:=d7.o.arc q j d6.o f4;obtain⟨bt,g8⟩:∃bt,bt=(B.ato q j).toNat:=⟨_,rfl⟩;have d0:B.ato q j=(bt:Int):=by have:=a5.t0;omega
  have d1:bt<B.n:=by have:=a5.t0;have:=a5.t1;omega
  rw[d0]at t3;obtain⟨bi,d9⟩:=exq<|B.ain q j;obtain⟨bo,e0⟩:=exq<|B.aout q j;obtain⟨bw,d2⟩:=exq<|B.aw q j;rw[<-d9]at t0;rw[<-e0]at t1;rw[<-d2]at t2;obtain⟨tx,a4⟩:=exq<|wr.heap.size;obtain⟨w8,u⟩:=exq<|wr.alloc (.cells #[.int .i64 bi,.int .i64 bo,.string bw,.int .i64 (bt:Int)] 59);have g6:Below wr.heap.size wr w8:=by rw[u];exact(Below.refl _ wr).alloc nlr _
  have e2:=a2.o.below (G.o _ _ _ _ _ _ a2.o) g6;have F:w8.heap[tx]?=some (.cells #[.int .i64 bi,.int .i64 bo,.string bw,.int .i64 (bt:Int)] 59 (0,0)):=by rw[u,a4];exact han wr _
  have b0:=cellOf F 0 rfl;have b1:=cellOf F 1 rfl;have b2:=cellOf F 2 rfl;have b3:=cellOf F 3 rfl;obtain⟨-,-,c2,-⟩:=a1.o _ _ _ _ _ _ e2;rw[u,a4]at b0 b1 b2 b3;rw[u]at c2;have d5:=qh e2;clear e2;have f8:=qh d1;clear d1;have l3:=qh g8;clear g8;have f7:=qh d9;clear d9;have l2:=qh e0;clear e0;have a6:=qh d2;clear d2 a5 d0 g6 F f4;by_cases he:bi=0
  focus
   subst he;have HE:=qh<|show B.ain q j=0 from f7.o.symm
   go_wp2_with fail
   rw[<-u];clear t0 t1 t2 t3 b0 b1 b2 b3 c2 u a4;refine(Jo (x:=(p,bt,al)) d5.o (G.o _ _ _ _ _ _ d5.o) f1.o.n2 d7.o.n2 0 bo bw ⟨f0.o,f8.o⟩ f2.o l6.o e7.o l1.o).mono ?_;rintro r w9⟨rfl,b4⟩;have m:Lvm z.heap.size d pb n A B (.slice (some (Ad O oA)) A.n S) (.slice (some (Ad P oB)) B.n T) (lfL A B p q f I++rtL B al p q (j+1)) S0 l N R n0 sv qv (PrQ A B p q I 0) xb (.cells #[.pointer (some (Ad d 0))] 66 (0,0)) w9:=by
    rw[Wq HE.o,<-List.append_assoc,<-l2.o,<-a6.o,<-l3.o];exact b4
   have j5:=qh m;clear m b4
   go_wp2_with fail
  rotate_left
  focus
   have l9:decide (bi=0)=false:=by simp[he]
   have l8:(bi==0)=false:=by simp[he]
   have i9:=qh (show B.ain q j≠0 by rw[<-f7.o];exact he);have m:Lvm z.heap.size d pb n A B (.slice (some (Ad O oA)) A.n S) (.slice (some (Ad P oB)) B.n T) (lfL A B p q f I++rtL B al p q (j+1)) S0 l N R n0 sv qv (PrQ A B p q I 0) xb (.cells #[.pointer (some (Ad d 0))] 66 (0,0)) w8:=by
    rw[Wp i9.o];exact d5.o
   have j5:=qh m;clear m
   go_wp2_with fail
   rw[<-u];clear t0 t1 t2 t3 b0 b1 b2 b3 c2 u a4
  all_goals
   go_roundw
   case rel=>exact⟨j+1,by have:=f9.o;omega,by go_num,j5.o⟩
   have:=f9.o;simp[intOf];omega
 have g9:j=Z:=by omega
 have O0:¬((j:Int)<(Z:Int)):=by omega
 have b5:=a2.o;rw[g9]at b5;have D6:=qh (a1.o _ _ _ _ _ _ b5).1;obtain⟨S',R',P2,P1,f3,o7,h1,h2,h3,h4,h5,-,-⟩:=b5;have x0:=D6.o;have c14:=Ccs.c14 h1.blk;have c15:=Ccs.c15 h1.blk;have O6:=Ccs.fz h1.blk 15;have e9:lfL A B p q f I++rtL B al p q Z=arL A B ((List.range (A.na p)).any λk=>A.aout p k==0) p q f:=by rw[g3.o,e8.o,j0.o];rfl
 rw[e9]at h2;have m7:o7=0->PrOk A B p q:=λe=>PrQ.all (by have h6:=h5 e;rw[g3.o]at h6;exact h6);have H1:=qh h1;clear h1;have H2:=qh h2;clear h2;have H3:=qh h3;clear h3;replace h4:=qh h4;replace m7:=qh m7;clear h5 e9 g9;by_cases l7:30000<f3
 ·have o8:(30000:Int)<(f3:Int):=by omega
  have C7:=qh l7;clear l7
  go_wp2_with fail
  go_end0
  obtain⟨h6,h7⟩:=H1.o.err ((2:Nat):Int);have h8:=H2.o.full [] (.inr C7.o);rw[List.append_nil]at h8;exact⟨rfl,S',f3,2,⟨⟨_,_,_,h6,(j4.o.trans H3.o).trans h7⟩,(j3.o.trans h4.o).setCell (p:=(Ad d 15)) H1.o.low _⟩,h8,λe=>absurd e (by decide)⟩
 have o8:¬((30000:Int)<(f3:Int)):=by omega
 have N9:decide ((30000:Int)<(f3:Int))=false:=by simp;omega
 have n9:=qh l7
 go_wp2_with fail
 go_end0
 exact⟨rfl,S',f3,o7,⟨⟨_,_,_,H1.o,j4.o.trans H3.o⟩,j3.o.trans h4.o⟩,H2.o,λe=>⟨m7.o e,by have:=n9.o;omega⟩⟩
end
end Go.Proofs.YtpldocnhbdlgfaaGreatDoor
