/- Parts. -/
import Derived.Test.YtpldocnhbdlgfaaGreatDoorPb31
namespace Go.Proofs.YtpldocnhbdlgfaaGreatDoor
set_option maxRecDepth 100000
set_option linter.all false
set_option maxHeartbeats 16000000
open Go Tryz
section
open Go.RowKit Go.Deep
theorem Od{x:Plc}:∀{l:List Plc} {n:Nat},l[n]?=some x->(∀j,j<n->l[j]?≠some x)->posP l x=n
 | [],n,h,_=>by simp at h
 |a::t,0,h,_=>by
  have e:a=x:=by simpa using h
  unfold posP;rw[ifp e]
 |a::t,n+1,h,k=>by
  have e:a≠x:=λe=>k 0 (by omega) (by simp[e]);have h1:t[n]?=some x:=by simpa using h
  have h2:=Od h1 (λj hj=>by have:=k (j+1) (by omega);simpa using this);unfold posP;rw[ifn e,h2]
theorem TN:(prog.info? 82).map (λi=>(i.zero,i.size,i.bytes))=some (some (.agg #[.int .i64 0,.int .i64 0,.bool false]),3,24):=by kernel_rfl
def eqPl(a b c d:Int)(e f:Bool)(w:World):(Op.equalIn 10000 82 (.agg #[.int .i64 a,.int .i64 b,.bool e]) (.agg #[.int .i64 c,.int .i64 d,.bool f])).run prog w=.ok (decide ((a=c/\b=d)/\e=f)) w:=by
 have l:=underlying3;have m:=underlying4;have j:prog.underlying 82=some (.struct (prog.fieldsOf 82)):=by kernel_rfl
 have k:prog.stoodInHeld 82=false:=by kernel_rfl
 rw[show (10000:Nat)=9999+1 from rfl,run_equalIn_agg w 9999 _ _ _ j k];simp only[Program.fieldsOf,underlying82];go_simp;by_cases g:a=c<;>by_cases h:b=d<;>by_cases i:e=f<;>simp[g,h,i]
theorem OG{Q C:Nat}{A B:MD}{sa sb:Value}{l:List Plc}{D:MD}{R:Nat->Value}{sv qv:Value}{ac fl:Int}(w:World)(h:Rps w Q C A B sa sb l D R sv qv ac fl)(hl:D.n=l.length)(hB:Q<=w.heap.size)(hn:l.length<=100000)(x:Plc):
  Calls prog 50 #[.pointer (some (Ad C 0)),plV x] w (λr w'=>r=.returned (.int .i64 (posP l x:Nat))/\RpE Q C A B sa sb w D.n R sv qv (numP (l,D) x).1 (numP (l,D) x).2 ac fl w'):=by
 obtain⟨p,q,f⟩:=x;unfold plV
 dsimp only
 obtain⟨wb,e3⟩:=exq<|w.alloc (.cells #[.int .i64 (p:Int),.int .i64 (q:Int),.bool f] 82);obtain⟨H,hH⟩:=exq<|w.heap.size;have a6:Below w.heap.size w wb:=by rw[e3];exact(Below.refl _ w).alloc nlr _
 have I:wb.heap[H]?=some (.cells #[.int .i64 (p:Int),.int .i64 (q:Int),.bool f] 82 (0,0)):=by rw[e3,hH];exact han w _
 have j0:FreR w sv R D.n qv H->False:=λe=>by have:=e.1;omega
 have W:H≠C:=by have:=h.lt;omega
 replace h:=qh h;have Y:=qh a6;clear a6;have Z:=qh I;clear I;replace hl:=qh hl;replace W:=qh W;have g3:=qh hH;have S:=qh hB;clear hB;clear j0
 go_enter func50,ntmps50
 go_wp2_with fail
 rw[<-e3,<-hH];clear e3 hH
 go_loopw [5] (λi wr=>∃n:Nat,n<=l.length/\i=.int .i64 (n:Int)/\(∀j,j<n->l[j]?≠some (p,q,f))/\Below w.heap.size w wr/\wr.heap[H]?=some (.cells #[.int .i64 (p:Int),.int .i64 (q:Int),.bool f] 82 (0,0))) (λi _=>l.length-(intOf i).toNat)
 case atStart=>exact⟨0,Nat.zero_le _,rfl,λj hj=>absurd hj (Nat.not_lt_zero _),Y.o,Z.o⟩
 clear Y Z;obtain⟨n,l0,rfl,d0,a6,I⟩:=hrel;obtain⟨hc,i8⟩:=h.o.below a6;obtain⟨qa,qc,P,_,l1⟩:=Az hc.que;unfold maxLen at l1;have a4:=Rcs.c12 hc.blk;rw[P]at a4;replace d0:=qh d0;have Y:=qh a6;clear a6;have Z:=qh I;have a8:=qh i8;clear i8;have HC:=qh hc;have b0:=cellOf I 0 rfl;have b1:=cellOf I 1 rfl;have b2:=cellOf I 2 rfl;clear I;obtain⟨ln,d7⟩:=exq<|l.length;rw[<-d7]at hn l0 a4;have i2:=qh d7;by_cases O:n<ln
 ·have l3:(n:Int)<(ln:Int):=by omega
  obtain⟨y,hy⟩:∃y,l[n]?=some y:=⟨_,List.getElem?_eq_getElem (by omega)⟩;obtain⟨p',q',f'⟩:=y;obtain⟨g,k5,h0⟩:=HA hc.que (by omega);have l2:qa=some (Ad g 0)/\qc=k5:=by rw[P]at h0;simpa using h0
  obtain⟨rfl,rfl⟩:=l2;have J:=hc.que;rw[P]at J;obtain⟨x0,x1,x2⟩:=HD l n (p',q',f') hy;have y0:=CN J x0;have y1:=CN J x1;have y2:=CN J x2
  dsimp only at y0 y1 y2
  have HY:=qh hy;have a2:=qh P;clear P;clear hc h0 J x0 x1 x2 d7 hy O;have hS:wr.drew.cell? (Ad C 12)=some (.slice (some (Ad g 0)) ln qc)/\wr.drew.cell? (Ad g (n*3))=some (.int .i64 (p':Int))/\wr.drew.cell? (Ad g (n*3+1))=some (.int .i64 (q':Int))/\wr.drew.cell? (Ad g (n*3+2))=some (.bool f')/\wr.drew.cell? (Ad H 0)=some (.int .i64 (p:Int))/\wr.drew.cell? (Ad H 1)=some (.int .i64 (q:Int))/\wr.drew.cell? (Ad H 2)=some (.bool f):=⟨a4,y0,y1,y2,b0,b1,b2⟩;have a5:Below w.heap.size w wr.drew:=Y.o.drew;have g1:=qh a5;clear a5
  go_wp2_with fail
  clear y0 y1 y2 b0 b1 b2 a4;refine AC (λwk=>wk.cell? (Ad C 12)=some (.slice (some (Ad g 0)) ln qc)/\wk.cell? (Ad g (n*3))=some (.int .i64 (p':Int))/\wk.cell? (Ad g (n*3+1))=some (.int .i64 (q':Int))/\wk.cell? (Ad g (n*3+2))=some (.bool f')/\wk.cell? (Ad H 0)=some (.int .i64 (p:Int))/\wk.cell? (Ad H 1)=some (.int .i64 (q:Int))/\wk.cell? (Ad H 2)=some (.bool f)) 8 (by kernel_rfl) ?_;refine Aa.tm 0 hS ?_;refine Aa.tm 1 hS ?_;refine Aa.tm 2 hS ?_;refine Aa.tm 3 hS ?_;refine Aa.tm 4 hS ?_;refine Aa.tm 5 hS ?_;refine Aa.tm 6 hS ?_;refine Aa.tm 7 hS ?_
  try simp only[Act.put,tryL]
  have d8:=λw'=>eqPl (p':Int) (q':Int) (p:Int) (q:Int) f' f w';by_cases he:(p',q',f')=(p,q,f)
  ·obtain⟨rfl,rfl,rfl⟩:p'=p/\q'=q/\f'=f:=by simpa using he
   clear he;rw[show decide ((((p':Int)=p')/\((q':Int)=q'))/\f'=f')=true by simp]at d8;refine Aa.on 8 λK T=>?_;go_simp;refine T.out _ _ (.inl rfl) (Aa.dn ?_);clear T K d8 hS;go_wp2;go_ret;have e1:posP l (p',q',f')=n:=Od HY.o d0.o;have hm:(p',q',f') ∈ l:=List.mem_of_getElem? HY.o;have e2:numP (l,D) (p',q',f')=(l,D):=ifp hm;rw[e1,e2];obtain⟨h1,h2⟩:=h.o.below g1.o;exact⟨rfl,⟨_,_,_,h1,h2⟩,g1.o.mono S.o⟩
  have hf:decide ((((p':Int)=p)/\((q':Int)=q))/\f'=f)=false:=by
   rw[decide_eq_false_iff_not];rintro⟨⟨h1,h2⟩,h3⟩;exact he (by rw[show p'=p by omega,show q'=q by omega,h3])
  rw[hf]at d8;replace he:=qh he;clear hf;refine Aa.on 8 λK T=>?_;go_simp;refine T.out _ _ (.inl rfl) (Aa.dn ?_);clear T K d8 hS
  go_wp2_with fail
  have O:n<ln:=by omega
  exact⟨⟨n+1,by rw[<-i2.o];omega,by norm_cast,λj hj=>by
   by_cases e:j=n
   ·subst e;rw[HY.o];intro e;exact he.o<|Option.some.inj e
   exact d0.o j (by omega),g1.o,Z.o⟩,by simp[intOf];rw[<-i2.o];omega⟩
 have l5:¬((n:Int)<(ln:Int)):=by omega
 have e0:n=l.length:=by omega
 have hm:(p,q,f) ∉ l:=λhm=>by
  obtain⟨j,hj,e⟩:=List.getElem_of_mem hm;exact d0.o j (by omega) (by rw[List.getElem?_eq_getElem hj,e])
 have e1:numP (l,D) (p,q,f)=(l++[(p,q,f)],D.state ⟨#[]⟩):=ifn hm;have e2:posP l (p,q,f)=l.length:=Gg hm;have j6:=qh e1;have j7:=qh e2;obtain⟨i0,hi,j2,j3,j4⟩:=Cs TN;obtain⟨i1,j1,f7,f8,f9⟩:=Cs Eo;have i9:FreR wr sv R D.n qv H:=⟨lbk Z.o,λe=>by have:=(World.ownsRow.lt h.o.own.top H e).2;have:=g3.o;omega,λi hi e=>by have:=(World.ownsRow.lt (h.o.own.row i hi) H e).2;have:=g3.o;omega,λe=>by have:=(World.ownsRow.lt h.o.que H e).2;have:=g3.o;omega⟩;obtain⟨m,X⟩:=exq<|wr.drew;have a5:Below wr.heap.size wr m:=by rw[X];exact(Below.refl _ wr).drew
 obtain⟨i7,b6⟩:=hc.below a5;obtain⟨f3,f2⟩:=b6 H W.o i9;have e8:=qh<|f2.trans Z.o;clear f2;have f1:=qh f3;clear f3 i9;have h7:=qh i7;clear i7;have g0:=qh<|(Y.o.mono S.o).trans (a5.mono (Nat.le_trans S.o Y.o.size));clear a5;have e9:=qh<|a8.o.trans b6;clear b6 a8;have a8:=e9;clear e9;have a2:=qh P;obtain⟨ta,tc,a7,_,_⟩:=Az hc.own.top;replace a7:=qh a7;have hB:=S.o;subst d7;have k9:D.n=l.length:=hl.o;have l4:D.n<=100000:=by omega
 clear k9;have N:m.cell? (Ad C 12)=some (.slice qa l.length qc)/\m.cell? (Ad H 0)=some (.int .i64 (p:Int))/\m.cell? (Ad H 1)=some (.int .i64 (q:Int))/\m.cell? (Ad H 2)=some (.bool f):=by rw[X];exact⟨a4,b0,b1,b2⟩
 have HI:=qh hi;have j9:=qh j2;have k0:=qh j3;have k4:=qh j4;have j8:=qh j1;have i4:=qh f7;have i5:=qh f8;have i6:=qh f9;clear hi j2 j3 j4 j1 f7 f8 f9 hm e1 e2 hc P O;replace e0:=qh e0
 go_wp2_with fail
 clear a4 b0 b1 b2;refine AC (λwk=>wk.cell? (Ad C 12)=some (.slice qa l.length qc)/\wk.cell? (Ad H 0)=some (.int .i64 (p:Int))/\wk.cell? (Ad H 1)=some (.int .i64 (q:Int))/\wk.cell? (Ad H 2)=some (.bool f)) 10 (by kernel_rfl) ?_;rw[<-X];clear X;refine Aa.tm 0 N ?_;refine Aa.tm 1 N ?_;refine Aa.tm 2 N ?_;refine Aa.tm 3 N ?_;refine Aa.tm 4 N ?_;refine Aa.tm 5 N ?_
 try simp only[Act.put,tryL]
 refine Aa.on 6 λK T=>?_;go_simp;obtain⟨Hy,g5⟩:=exq<|m.heap.size;obtain⟨F,e6⟩:=exq<|m.alloc (.cells #[.int .i64 (p:Int),.int .i64 (q:Int),.bool f] 82);have d2:Below m.heap.size m F:=by rw[e6];exact(Below.refl _ m).alloc nlr _
 have h4:F.heap[Hy]?=some (.cells #[.int .i64 (p:Int),.int .i64 (q:Int),.bool f] 82 (0,0)):=by rw[e6,g5];exact han m _
 obtain⟨d3,b7⟩:=h7.o.below d2;obtain⟨f5,E⟩:=b7 H W.o f1.o;have E:=E.trans e8.o;have g6:Q<=m.heap.size:=Nat.le_trans hB g0.o.size;have b3:F.cell? (Ad C 12)=some (.slice qa l.length qc)/\F.cell? (Ad H 0)=some (.int .i64 (p:Int))/\F.cell? (Ad H 1)=some (.int .i64 (q:Int))/\F.cell? (Ad H 2)=some (.bool f):=⟨by rw[Rcs.c12 d3.blk,a2.o],cellOf E 0 rfl,cellOf E 1 rfl,cellOf E 2 rfl⟩;have L:F.ownsRow Q 82 3 (.slice qa l.length qc) l.length (plL l):=by rw[<-a2.o];exact d3.que
 have g4:Q<=F.heap.size:=Nat.le_trans g6 d2.size;have f0:=qh<|a8.o.trans b7;have e7:=qh<|g0.o.trans (d2.mono g6);have a1:=qh d3;have a9:=qh f5;rw[<-e6,<-g5];clear g5 e6;replace h4:=qh h4;clear d3 b7 f5 E d2 g6;refine T.out _ _ (.inr b3) ?_;clear T K N a8 g0 h7 f1 e8
 try simp only[Act.put,tryL]
 refine Aa.on 7 λK T=>?_;refine wp_append_lies _ (.tmp 29) (.tmp 31) 77 rfl Q 82 i0 (.agg #[.int .i64 0,.int .i64 0,.bool false]) 3 24 underlying77 HI.o j9.o k0.o k4.o rfl (by omega) (.slice qa l.length qc) l.length _ (by simp[Act.eval]) L (Ad Hy 0) 1 1 (plC (p,q,f)) (by simp[Act.eval]) rfl (Cj (cs:=#[.int .i64 (p:Int),.int .i64 (q:Int),.bool f]) h4.o) PG (by omega) (by unfold maxLen;omega) (by omega) g4 _ rfl ?_;intro go cq we z u b4 O;have d:F.grownBy we qv.ownBlock:=by rw[a2.o];exact u
 have G:∀c,(Value.slice (some (Ad go 0)) (l.length+1) cq).ownBlock=some c->qv.ownBlock=some c\/F.heap.size<=c:=λc hc=>by
  have e:go=c:=by simpa [Value.ownBlock] using hc
  subst e
  rcases b4 with h1|h1
  ·exact .inl (by rw[a2.o];exact h1)
  exact .inr (by omega)
 have b5:we.heap[C]?=some (.cells (rcs A B sa sb D sv qv ac fl) 79 (0,0)):=(d.block C a1.o.lt (λe=>(a1.o.rowq e.symm).1 rfl)).trans a1.o.blk;have U:we.heap[H]?=F.heap[H]?:=d.block H a9.o.1 (λe=>a9.o.2.2.2 e.symm);have d1:we.cell? (Ad C 12)=some (.slice qa l.length qc)/\we.cell? (Ad H 0)=some (.int .i64 (p:Int))/\we.cell? (Ad H 1)=some (.int .i64 (q:Int))/\we.cell? (Ad H 2)=some (.bool f):=by
  refine⟨by rw[Rcs.c12 b5,a2.o],?_,?_,?_⟩
  ·exact(by simp only[World.cell?,U]:we.cell? (Ad H 0)=F.cell? (Ad H 0)).trans b3.2.1
  ·exact(by simp only[World.cell?,U]:we.cell? (Ad H 1)=F.cell? (Ad H 1)).trans b3.2.2.1
  exact(by simp only[World.cell?,U]:we.cell? (Ad H 2)=F.cell? (Ad H 2)).trans b3.2.2.2
 have k6:=Rcs.fz b5 12;obtain⟨s,b8⟩:=a1.o.queue (x:=(p,q,f)) z d G;have g7:Below Q F (we.setCell (Ad C 12) (.slice (some (Ad go 0)) (l.length+1) cq)):=((Below.refl Q F).grown d g4 (λk hk=>(World.ownsRow.lt a1.o.que k hk).1)).setCell (p:=(Ad C 12)) a1.o.low _;obtain⟨w6,d9⟩:=exq<|we.setCell ⟨C,12,none⟩ (.slice (some ⟨go,0,none⟩) (l.length+1) cq);rw[<-d9]at s b8 g7;have h8:=qh<|f0.o.trans b8;clear b8;have h6:=qh<|e7.o.trans g7;clear g7;replace s:=qh s;clear z u d b4 G O b5 U L b3 g4 f0 e7 a9;refine T.out _ _ (.inr d1) ?_;clear T K
 try simp only[Act.put,tryL]
 refine Aa.tm 8 d1 ?_;refine Aa.tm 9 d1 ?_
 try simp only[Act.put,tryL]
 refine Aa.on 10 λK T=>?_;go_simp;rw[<-d9];replace d9:=qh d9;refine T.out _ _ (.inl rfl) (Aa.dn ?_);clear T K d1 k6;have c11:=Rcs.c11 s.o.blk;rw[a7.o]at c11;have k7:Q<=w6.heap.size:=Nat.le_trans hB h6.o.size;have g9:∀o wf,(w6.alloc o).grownBy wf sv.ownBlock->wf.heap[C]?=some (.cells (rcs A B sa sb D sv (.slice (some (Ad go 0)) (l.length+1) cq) ac fl) 79 (0,0)):=λo wf hg =>
  (hg.block C (by have:=s.o.lt;simp;omega) (λe=>(s.o.rows e.symm).1 rfl)).trans ((blk_alloc_lt _ _ _ s.o.lt).trans s.o.blk)
 replace g9:=qh g9;have L:w6.ownsRow Q 63 2 (.slice ta D.n tc) D.n (cat (st2 D R) D.n):=by rw[<-a7.o];exact s.o.own.top
 have i3:=qh L;clear L
 go_wp2_with (at_builtin;refine wpList_append_lies _ rfl (.tmp 40) (.tmp 42) 23 rfl Q 63 i1 (.agg #[.string ⟨#[]⟩,.slice none 0 0]) 2 40 underlying23 j8.o i4.o i5.o i6.o rfl (by omega) (.slice ta D.n tc) D.n _ (by first|rfl|simp[Act.eval,Act.put]) (World.ownsRow.alloc i3.o _) (Ad w6.heap.size 0) 1 1 [.string ⟨#[]⟩,.slice none 0 0] (by first|rfl|simp[Act.eval,Act.put]) rfl (Cj (cs:=#[.string ⟨#[]⟩,.slice none 0 0]) (han w6 _)) GB (by omega) (by unfold maxLen;omega) (by omega) (by simp;omega) _ rfl ?_;intro g2 cp wf z u b4 O;have d6:=(by rw[a7.o];exact u:(w6.alloc _).grownBy wf sv.ownBlock);have d5:=g9.o _ wf d6;have e4:=Rcs.c11 d5;have f4:=Rcs.fz d5 11;have e5:=Rcs.c12 (Rcs.set11 d5 (.slice (some (Ad g2 0)) (D.n+1) cp)))
 have G:∀c,(Value.slice (some (Ad g2 0)) (D.n+1) cp).ownBlock=some c->sv.ownBlock=some c\/w6.heap.size<=c:=λc hc=>by
  have e:g2=c:=by simpa [Value.ownBlock] using hc
  subst e
  rcases b4 with h1|h1
  ·exact .inl (by rw[a7.o];exact h1)
  right;simp at h1;omega
 obtain⟨d4,b9⟩:=s.o.state z d6 G;have g8:Below Q w6 (wf.setCell (Ad C 11) (.slice (some (Ad g2 0)) (D.n+1) cp)):=(((Below.refl Q w6).alloc k7 (.cells #[.string ⟨#[]⟩,.slice none 0 0] 63)).grown d6 (by simp;omega) (λk hk=>(World.ownsRow.lt s.o.own.top k hk).1)).setCell (p:=(Ad C 11)) s.o.low _;obtain⟨w7,h5⟩:=exq<|wf.setCell ⟨C,11,none⟩ (.slice (some ⟨g2,0,none⟩) (D.n+1) cp);rw[<-h5]at d4 b9 g8;have h9:=qh<|h8.o.trans b9;clear b9;have j5:=qh<|h6.o.trans g8;clear g8;replace d4:=qh d4;rw[<-h5];clear h5 z u d6 b4 G O d5 e4 f4 e5 c11;go_ret;rw[j6.o,j7.o];refine⟨?_,⟨_,_,_,d4.o,h9.o⟩,j5.o⟩;rfl
end
section
open Go.RowKit Go.Deep
structure Lvr(A B:MD)(n:Nat)(L:List ArP)(S0 S:List Plc × MD)(ac0 ac fl:Nat):Prop where
 nd:S.1.Nodup
 kd:S.2.kind=A.kind
 len:S.2.n=S.1.length
 ok:∀x ∈ S.1,x.1<A.n/\x.2.1<B.n
 le:S.1.length<=3001
 na:∀i,S.2.na i<=ac
 ac1:ac<=30001
 n1:n<S.1.length
 pre:∃m,S.1=S0.1++m
 good:fl=0->S=addL n S0 L/\ac=ac0+L.length
section
variable{A B:MD}{n:Nat}{L:List ArP}{S0 S:List Plc × MD}{ac0 ac fl:Nat}
def Lvr.full(h:Lvr A B n L S0 S ac0 ac fl)(M:List ArP):Lvr A B n (L++M) S0 S ac0 ac 2:={ h with good:=λe=>absurd e (by decide) }
theorem Lvr.add(h:Lvr A B n L S0 S ac0 ac fl){r:ArP}(o:r.2.2.2.1<A.n/\r.2.2.2.2.1<B.n)(E:S.1.length<=3000)(D:ac<=30000):Lvr A B n (L++[r]) S0 (addP n S r) ac0 (ac+1) fl:=by
 have s:=Hv S r.2.2.2;obtain⟨m,g⟩:=FZ S r.2.2.2;obtain⟨m0,d⟩:=h.pre;refine⟨NN h.nd _,(by show (numP S r.2.2.2).2.kind=A.kind;unfold numP;split<;>exact h.kd),FY h.len _,λx p=>?_,by show (numP S r.2.2.2).1.length<=3001;omega,λi=>?_,by omega,by show n<(numP S r.2.2.2).1.length;rw[g,List.length_append];have:=h.n1;omega,⟨m0++m,by show (numP S r.2.2.2).1=_;rw[g,d,List.append_assoc]⟩,λj=>?_⟩
 ·rcases NM p with c|c
  ·exact h.ok x c
  rw[c];exact o
 ·show (if i=n then (numP S r.2.2.2).2.na n+1 else (numP S r.2.2.2).2.na i)<=ac+1
  have c:=Fh S r.2.2.2 n;have u:=Fh S r.2.2.2 i;have z:=h.na n;have C:=h.na i
  split<;>omega
 obtain⟨k,l⟩:=h.good j;refine⟨?_,by rw[l,List.length_append];rfl⟩;rw[LA,<-k];rfl
end
def RaE(B0 cb:Nat)(A B:MD)(sa sb:Value)(n:Nat)(L:List ArP)(S0:List Plc × MD)(ac0:Nat)(w:World)(m:Nat)(R:Nat->Value)(sv qv:Value)(fl:Nat)(r:Ending)(w':World):Prop :=
 r=.returned (.tuple #[])/\∃S' ac' fl',RpE B0 cb A B sa sb w m R sv qv S'.1 S'.2 (ac':Nat) (fl':Nat) w'/\Lvr A B n L S0 S' ac0 ac' fl'/\(fl'=0->fl=0)
def Ws{N X n e4 U fl:Nat}{A B:MD}{sa sb:Value}{L:List ArP}{S0 S:List Plc × MD}{R:Nat->Value}{sv qv:Value}(w:World)(h:Rps w N X A B sa sb S.1 S.2 R sv qv U fl)(hL:Lvr A B n L S0 S e4 U fl)(hB:N<=w.heap.size)(l4:A.n<=3000)(l5:B.n<=3000)
  (a b:Int) (v:ByteArray) {x:Plc} (hx:x.1<A.n/\x.2.1<B.n) :
  Calls prog 103 #[.pointer (some (Ad X 0)),.int .i64 (n:Int),.int .i64 a,.int .i64 b,.string v,plV x] w (RaE N X A B sa sb n (L++[(a,b,v,x)]) S0 e4 w S.2.n R sv qv fl):=by
 obtain⟨p,q,f⟩:=x;unfold plV
 dsimp only
 obtain⟨H,hH⟩:=exq<|w.heap.size;obtain⟨w1,z⟩:=exq<|w.alloc (.cells #[.int .i64 (p:Int),.int .i64 (q:Int),.bool f] 82);have f4:Below w.heap.size w w1:=by rw[z];exact(Below.refl _ w).alloc nlr _
 have a6:w1.heap[H]?=some (.cells #[.int .i64 (p:Int),.int .i64 (q:Int),.bool f] 82 (0,0)):=by rw[z,hH];exact han w _
 obtain⟨F,d6⟩:=h.below f4;have h0:Below N w w1:=f4.mono hB;have c13:=Rcs.c13 F.blk;have c14:=Rcs.c14 F.blk;have e8:=Rcs.fz F.blk 14;have b8:=Rcs.fz F.blk 13;have c12:=Rcs.c12 F.blk;obtain⟨qa,qc,g1,_,l8⟩:=Az F.que;unfold maxLen at l8;rw[g1]at c12;have h6:H≠X:=by have:=h.lt;omega
 have b0:=cellOf a6 0 rfl;have b1:=cellOf a6 1 rfl;have b2:=cellOf a6 2 rfl;have d9:=hL.len;have i9:=hL.le;have j0:=hL.n1;have j1:=hL.na n;have h8:=hL.ac1;replace hL:=qh hL;have O:=qh F;clear F;have Q:=qh d6;clear d6;have a5:=qh h0;clear h0 f4;replace hx:=qh hx;replace g1:=qh g1;have d3:=qh d9;have k5:=qh i9;have k6:=qh j0;have k7:=qh j1;have j6:=qh h8;have j8:=qh a6;have k4:=qh h6;clear j0 j1 l4 l5 h a6 d9 h6;have b7:∀(M:List ArP),Lvr A B n (L++M) S0 S e4 U 2:=λM=>hL.o.full M;have b7:=qh b7;by_cases h1:30000<U
 ·have l2:(30000:Int)<(U:Int):=by omega
  clear h1
  go_enter func103,ntmps103
  rw[z]at c12 c13 c14 e8 b8
  go_wp2_with fail
  rw[<-z];obtain⟨h4,h5⟩:=O.o.err 2;refine bodyPost_ret (results_none rfl _ _ _) rfl ?_;exact⟨rfl,S,U,2,⟨⟨_,_,_,h4,Q.o.trans h5⟩,a5.o.setCell (p:=(Ad X 14)) O.o.low _⟩,b7.o _,λe=>absurd e (by decide)⟩
 have l2:decide ((30000:Int)<(U:Int))=false:=by simp;omega
 have f0:U<=30000:=by omega
 clear h1;obtain⟨ln,f9⟩:=exq<|S.1.length;rw[<-f9]at c12 i9;by_cases h2:3000<ln
 ·have l3:(3000:Int)<(ln:Int):=by omega
  clear h2 f9
  go_enter func103,ntmps103
  rw[z]at c12 c13 c14 e8 b8
  go_wp2_with fail
  rw[<-z];obtain⟨h4,h5⟩:=O.o.err 2;refine bodyPost_ret (results_none rfl _ _ _) rfl ?_;exact⟨rfl,S,U,2,⟨⟨_,_,_,h4,Q.o.trans h5⟩,a5.o.setCell (p:=(Ad X 14)) O.o.low _⟩,b7.o _,λe=>absurd e (by decide)⟩
 have l3:decide ((3000:Int)<(ln:Int))=false:=by simp;omega
 have h9:IntKind.i64.wrap ((U:Int)+1)=(U:Int)+1:=by rw[IntKind.wrap_i64];omega
 have i7:S.1.length<=3000:=by omega
 have g8:=qh<|hL.o.add (r:=(a,b,v,(p,q,f))) hx.o i7 f0;obtain⟨P,C⟩:=exq<|w1.setCell ⟨X,13,none⟩ (.int .i64 ((U:Int)+1));obtain⟨f5,a9⟩:=O.o.count<|(U:Int)+1;rw[<-C]at f5 a9;have f3:Below N w1 P:=by rw[C];exact(Below.refl _ w1).setCell (p:=(Ad X 13)) O.o.low _
 have h3:N<=P.heap.size:=Nat.le_trans hB (Nat.le_trans a5.o.size f3.size);have Z:P.heap[H]?=_:=(by rw[C];exact Aw k4.o:P.heap[H]?=w1.heap[H]?).trans j8.o;have e5:=cellOf Z 0 rfl;have e6:=cellOf Z 1 rfl;have e7:=cellOf Z 2 rfl;have g9:=qh<|OG P f5 d3.o h3 (by omega) (p,q,f);have a1:=FY d3.o (p,q,f);have b5:=FZ S (p,q,f);have j2:=Hv S (p,q,f);have e1:=Fh S (p,q,f) n;replace f0:=qh f0;clear i7;obtain⟨l,d0⟩:=exq<|numP S (p,q,f);obtain⟨tp,g3⟩:=exq<|posP S.1 (p,q,f);have d4:addP n S (a,b,v,(p,q,f))=(l.1,l.2.arc n a b v (tp:Nat)):=by rw[d0,g3];rfl
 rw[<-d0]at a1 b5 j2 e1;rw[d4]at g8;have g2:=g9.o;rw[show ((S.1,S.2):List Plc × MD)=S from rfl,<-d0,<-g3]at g2;have T:=qh g2;clear g2 g9;have E:n<l.2.n:=by
  obtain⟨m,hm⟩:=b5;rw[a1,hm,List.length_append];have:=k6.o;omega
 have e0:l.2.n<=100000:=by rw[a1];have:=k5.o;omega
 have G:l.2.na n<=100000:=by have:=k7.o;have:=j6.o;omega
 have j9:=qh<|Q.o.trans a9;clear a9;have j7:=qh<|a5.o.trans f3;clear f3;clear d4 a1 b5 j2 e1 d0 g3 f5 Z f9 h2;unfold plV at T
 dsimp only at T
 go_enter func103,ntmps103
 rw[C,z]at e5 e6 e7;rw[hH]at e5 e6 e7;rw[z]at c12 c13 b8
 go_wp2_with fail
 rw[<-z,<-C];clear c12 c13 c14 b8 e8 b0 b1 b2 e5 e6 e7 z C;refine T.o.mono ?_;rintro r w2⟨rfl,⟨R2,m4,m3,i5,d7⟩,i3⟩;clear T;obtain⟨i,a2⟩:=exq<|w2.drew;obtain⟨u,d8⟩:=i5.below (w':=i) (by rw[a2];exact(Below.refl _ w2).drew);have i4:Below N w2 i:=by rw[a2];exact(Below.refl _ w2).drew
 have a7:=d7.trans d8;obtain⟨g,cp,b6,_,d2,_,_⟩:=DF u.own.top (by omega);obtain⟨ra,rc,a4,_,_⟩:=Az<|u.own.row n E;have I:OwM i N (.slice (some (Ad g 0)) l.2.n cp) l.2 R2:=by rw[<-b6];exact u.own
 have d:i.cell? (Ad X 11)=some (.slice (some (Ad g 0)) l.2.n cp)/\i.cell? (Ad g (n*2+1))=some (.slice ra (l.2.na n) rc) :=
  ⟨by rw[Rcs.c11 u.blk,b6],by rw[I.arcs_cell E,a4]⟩
 have m2:(n:Int)<(l.2.n:Int):=by omega
 have l9:(0:Int)<=(n:Int):=by omega
 obtain⟨i0,hi,j3,j4,j5⟩:=Cs Hf;have k0:=qh<|j9.o.trans a7;have g5:=qh<|(j7.o.trans i3).trans i4;replace u:=qh u;replace b6:=qh b6;replace a4:=qh a4;replace I:=qh I;replace d2:=qh d2;replace E:=qh E;replace e0:=qh e0;replace G:=qh G;have HI:=qh hi;have k9:=qh j3;have l0:=qh j4;have l1:=qh j5;clear hi j3 j4 j5 i5 d7 i3 d8 i4 a7 Q a5 O
 go_wp2_with fail
 refine AC (λwk=>wk.cell? (Ad X 11)=some (.slice (some (Ad g 0)) l.2.n cp)/\wk.cell? (Ad g (n*2+1))=some (.slice ra (l.2.na n) rc)) 24 (by kernel_rfl) ?_;rw[<-a2];clear a2;refine Aa.tm 0 d ?_;refine Aa.tm 1 d ?_;refine Aa.tm 2 d ?_;refine Aa.tm 3 d ?_;refine Aa.tm 4 d ?_;refine Aa.tm 5 d ?_;refine Aa.tm 6 d ?_;refine Aa.tm 7 d ?_;refine Aa.tm 8 d ?_;refine Aa.tm 9 d ?_;refine Aa.tm 10 d ?_;refine Aa.tm 11 d ?_;refine Aa.tm 12 d ?_;refine Aa.tm 13 d ?_;refine Aa.tm 14 d ?_;refine Aa.tm 15 d ?_;refine Aa.tm 16 d ?_;refine Aa.tm 17 d ?_;refine Aa.tm 18 d ?_;refine Aa.tm 19 d ?_
 try simp only[Act.put,tryL]
 refine Aa.on 20 λK hK=>?_;go_simp;obtain⟨Hy,b9⟩:=exq<|i.heap.size;obtain⟨wy,J⟩:=exq<|i.alloc (.cells #[.int .i64 a,.int .i64 b,.string v,.int .i64 (tp:Nat)] 59);have D:Below i.heap.size i wy:=by rw[J];exact(Below.refl _ i).alloc nlr _
 have g0:wy.heap[Hy]?=some (.cells #[.int .i64 a,.int .i64 b,.string v,.int .i64 (tp:Nat)] 59 (0,0)):=by rw[J,b9];exact han i _
 have f1:N<=i.heap.size:=Nat.le_trans hB g5.o.size;have h7:wy.cell? (Ad X 11)=some (.slice (some (Ad g 0)) l.2.n cp)/\wy.cell? (Ad g (n*2+1))=some (.slice ra (l.2.na n) rc) :=
  ⟨(D.cell (p:=(Ad X 11)) u.o.lt).trans d.1,(D.cell (p:=(Ad g (n*2+1))) d2.o).trans d.2⟩
 have e3:wy.ownsRow N 59 4 (.slice ra (l.2.na n) rc) (l.2.na n) (cat (arc4 l.2 n) (l.2.na n)):=by rw[<-a4.o,J];exact World.ownsRow.alloc (I.o.row n E.o) _
 have e9:N<=wy.heap.size:=Nat.le_trans f1 D.size;rw[<-J,<-b9];replace J:=qh J;replace g0:=qh g0;replace b9:=qh b9;replace D:=qh D;refine hK.out _ _ (.inr h7) ?_;clear hK K
 try simp only[Act.put,tryL]
 refine Aa.on 21 λK hK=>?_;refine wp_append_lies _ (.tmp 53) (.tmp 59) 61 rfl N 59 i0 (.agg #[.int .i64 0,.int .i64 0,.string ⟨#[]⟩,.int .i64 0]) 4 40 underlying61 HI.o k9.o l0.o l1.o rfl (by omega) (.slice ra (l.2.na n) rc) (l.2.na n) _ (by simp[Act.eval]) e3 (Ad Hy 0) 1 1 [.int .i64 a,.int .i64 b,.string v,.int .i64 (tp:Nat)] (by simp[Act.eval]) rfl (Cj (cs:=#[.int .i64 a,.int .i64 b,.string v,.int .i64 (tp:Nat)]) g0.o) Hc (by have:=G.o;omega) (by unfold maxLen;have:=G.o;omega) (by have:=G.o;omega) e9 _ rfl ?_;intro go cq we b4 b3 i2 l7;have s:wy.grownBy we (R2 n).ownBlock:=by rw[a4.o];exact b3
 have d5:∀c,(Value.slice (some (Ad go 0)) (l.2.na n+1) cq).ownBlock=some c->(R2 n).ownBlock=some c\/i.heap.size<=c:=λc hc=>by
  have e:go=c:=by simpa [Value.ownBlock] using hc
  subst e
  rcases i2 with h1|h1
  ·exact .inl (by rw[a4.o];exact h1)
  exact .inr (by have:=D.o.size;omega)
 have i8:∀W,W<i.heap.size->(R2 n).ownBlock≠some W->we.heap[W]?=i.heap[W]?:=λW h1 h2=>(s.block W (Nat.lt_of_lt_of_le h1 D.o.size) (λe=>h2 e.symm)).trans (D.o.block W h1);have f8:(R2 n).ownBlock≠some g:=λe=>I.o.tne E.o e rfl;have f7:∀W j,W<i.heap.size->(R2 n).ownBlock≠some W->we.cell? (Ad W j)=i.cell? (Ad W j):=λW j h1 h2=>by simp only[World.cell?,i8 W h1 h2]
 have Y:we.cell? (Ad X 11)=some (.slice (some (Ad g 0)) l.2.n cp)/\we.cell? (Ad g (n*2+1))=some (.slice ra (l.2.na n) rc) :=
  ⟨(f7 X 11 u.o.lt (λe=>(u.o.rowi E.o e).1 rfl)).trans d.1,(f7 g _ d2.o f8).trans d.2⟩
 have l6:we.frozen? (Ad g (n*2+1))=false:=by
  have h1:we.ownsRow N 63 2 (.slice (some (Ad g 0)) l.2.n cp) l.2.n (cat (st2 l.2 R2) l.2.n):=AJ (by rw[J.o];exact World.ownsRow.alloc I.o.top _) s (λc hc e=>by
   have e2:g=c:=by simpa [Value.ownBlock] using hc
   subst e2;exact f8 e)
  exact Ex h1 _
 obtain⟨d1,a8⟩:=u.o.arc (a:=a) (b:=b) (x:=v) (t:=(tp:Nat)) E.o b6.o b4 (o:=.cells #[.int .i64 a,.int .i64 b,.string v,.int .i64 (tp:Nat)] 59) (by rw[<-J.o];exact s) d5;have i6:N<=g:=(World.ownsRow.lt I.o.top g rfl).1;have f2:Below N i (we.setCell (Ad g (n*2+1)) (.slice (some (Ad go 0)) (l.2.na n+1) cq)):=((D.o.mono f1).grown s e9 (λk hk=>(World.ownsRow.lt (I.o.row n E.o) k hk).1)).setCell (p:=(Ad g (n*2+1))) i6 _;obtain⟨wf,g4⟩:=exq<|we.setCell ⟨g,n*2+1,none⟩ (.slice (some ⟨go,0,none⟩) (l.2.na n+1) cq);rw[<-g4]at d1 a8 f2;have g7:=qh<|k0.o.trans a8;clear a8;have g6:=qh<|g5.o.trans f2;clear f2;replace d1:=qh d1;clear b4 b3 s i2 d5 l7 i8 f7 f8 e3 d h7 e9 f1 i6;refine hK.out _ _ (.inr Y) ?_;clear hK K
 try simp only[Act.put,tryL]
 refine Aa.tm 22 Y ?_;refine Aa.tm 23 Y ?_
 try simp only[Act.put,tryL]
 refine Aa.on 24 λK hK=>?_;go_simp;rw[<-g4];clear g4;refine hK.out _ _ (.inl rfl) (Aa.dn ?_);clear hK K Y l6
 go_wp2_with fail
 go_end0
 exact⟨rfl,(l.1,l.2.arc n a b v (tp:Nat)),U+1,fl,⟨⟨_,_,_,d1.o,g7.o⟩,g6.o⟩,g8.o,id⟩
end
section
open Go.RowKit Go.Deep
variable{b g n n1:Nat}{w w1:World}{c d sv:Value}{R i:Nat->Value}{A B:MD}
def FbR(cb:Nat)(w:World)(sv:Value)(R:Nat->Value)(n:Nat)(qv:Value)(b:Nat):Prop:=b≠cb/\FreR w sv R n qv b
def RfK.fb{qv:Value}(h:RfK g w sv R n qv w1 d i n1 c)(hf:FbR g w sv R n qv b):FbR g w1 d i n1 c b:=⟨hf.1,(h b hf.1 hf.2).1⟩
def RfK.bx{qv:Value}(h:RfK g w sv R n qv w1 d i n1 c)(hf:FbR g w sv R n qv b){o:Obj}(j:w.heap[b]?=some o):w1.heap[b]?=some o:=(h b hf.1 hf.2).2.trans j
def Rps.fb_new{w':World}{d:Nat}{l m:Value}{k:List Plc}{D:MD}{qv:Value}{j fl:Int}(h:Rps w g d A B l m k D R sv qv j fl)(hb:w.heap.size<=b)(c:b<w'.heap.size):FbR d w' sv R D.n qv b :=
 ⟨λe=>by have:=h.lt;omega,c,λe=>by have:=(World.ownsRow.lt h.own.top b e).2;omega,λi hi e=>by have:=(World.ownsRow.lt (h.own.row i hi) b e).2;omega,λe=>by have:=(World.ownsRow.lt h.que b e).2;omega⟩
def Lvr.wrong{L:List ArP}{d S:List Plc × MD}{c fl:Nat}(h:Lvr A B n L d S c g fl):Lvr A B n L d S c g 2:={ h with good:=λe=>absurd e (by decide) }
def Lvx(B0 cb n:Nat)(A B:MD)(sa sb:Value)(L:List ArP)(S0:List Plc × MD)(ac0:Nat)(w3:World)(R0:Nat->Value)(n0:Nat)(sv0 qv0:Value)(Q:Prop)(bx:Nat)(o:Obj)(W:World):Prop :=
 ∃(S:List Plc × MD) (R:Nat->Value) (sv qv:Value) (ac fl:Nat),Rps W B0 cb A B sa sb S.1 S.2 R sv qv ac fl/\Lvr A B n L S0 S ac0 ac fl/\RfK cb w3 sv0 R0 n0 qv0 W sv R S.2.n qv/\Below B0 w3 W/\(fl=0->Q)/\FbR cb W sv R S.2.n qv bx/\W.heap[bx]?=some o
section
variable{B0 cb n:Nat}{A B:MD}{sa sb:Value}{L:List ArP}{S0:List Plc × MD}{ac0:Nat}{w3 W W':World}{R0:Nat->Value}{n0:Nat}{sv0 qv0:Value}{Q Q':Prop}{bx:Nat}{o:Obj}(h:Lvx B0 cb n A B sa sb L S0 ac0 w3 R0 n0 sv0 qv0 Q bx o W)
include h
theorem Lvx.more(k:Q->Q'):Lvx B0 cb n A B sa sb L S0 ac0 w3 R0 n0 sv0 qv0 Q' bx o W:=by
 obtain⟨S,R,sv,qv,c,d,g,i,j,l,m,p⟩:=h;exact⟨S,R,sv,qv,c,d,g,i,j,l,λe=>k (m e),p⟩
theorem Lvx.be:Below B0 w3 W:=by obtain⟨S,R,sv,qv,d,g,i,j,k,c,l⟩:=h;exact c
theorem Lvx.box:W.heap[bx]?=some o/\bx≠cb:=by obtain⟨S,R,sv,qv,g,i,j,k,l,m,p,c,d⟩:=h;exact⟨d,c.1⟩
theorem Lvx.old(hf:FbR cb w3 sv0 R0 n0 qv0 b){o1:Obj}(d:w3.heap[b]?=some o1):W.heap[b]?=some o1:=by obtain⟨S,R,sv,qv,g,i,j,k,c,l,m⟩:=h;exact c.bx hf d
theorem Lvx.blk:∃D sv qv ac fl,W.heap[cb]?=some (.cells (rcs A B sa sb D sv qv ac fl) 79 (0,0)):=by obtain⟨S,R,sv,qv,ac,fl,c,d,g,i,j⟩:=h;exact⟨_,_,_,_,_,c.blk⟩
theorem Lvx.below(z:B0<=W.heap.size)(hb:Below W.heap.size W W'):Lvx B0 cb n A B sa sb L S0 ac0 w3 R0 n0 sv0 qv0 Q bx o W':=by
 obtain⟨S,R,sv,qv,g,i,j,k,l,m,p,d,u⟩:=h;obtain⟨s,c⟩:=j.below hb;exact⟨S,R,sv,qv,g,i,s,k,l.trans c,m.trans (hb.mono z),p,c.fb d,c.bx d u⟩
theorem Lvx.pick(hf:FbR cb w3 sv0 R0 n0 qv0 b){d:Obj}(o:w3.heap[b]?=some d):Lvx B0 cb n A B sa sb L S0 ac0 w3 R0 n0 sv0 qv0 Q b d W:=by
 obtain⟨S,R,sv,qv,g,i,j,k,c,l,m,p,s⟩:=h;exact⟨S,R,sv,qv,g,i,j,k,c,l,m,c.fb hf,c.bx hf o⟩
theorem Lvx.push(p:B0<=W.heap.size)(cs:Array Value)(t:TypeId):Lvx B0 cb n A B sa sb L S0 ac0 w3 R0 n0 sv0 qv0 Q W.heap.size (.cells cs t (0,0)) (W.alloc (.cells cs t)):=by
 obtain⟨S,R,sv,qv,d,g,c,i,j,k,l,s,u⟩:=h;have hb:Below W.heap.size W (W.alloc (.cells cs t)):=(Below.refl _ W).alloc nlr _;obtain⟨m,o⟩:=c.below hb;exact⟨S,R,sv,qv,d,g,m,i,j.trans o,k.trans (hb.mono p),l,c.fb_new nlr (by simp),han W _⟩
end
section
variable{B0 cb n:Nat}{A B:MD}{sa sb:Value}{L:List ArP}{S0:List Plc × MD}{ac0:Nat}{w3 W:World}{R0:Nat->Value}{n0:Nat}{sv0 qv0:Value}{Q:Prop}{bx:Nat}{o:Obj}
def Kq(h:Lvx B0 cb n A B sa sb L S0 ac0 w3 R0 n0 sv0 qv0 Q bx o W)(H:B0<=W.heap.size)(i:A.n<=3000)(j:B.n<=3000)(a b:Int)(v:ByteArray){x:Plc}(J:x.1<A.n/\x.2.1<B.n):
  Calls prog 103 #[.pointer (some (Ad cb 0)),.int .i64 (n:Int),.int .i64 a,.int .i64 b,.string v,plV x] W
   (λr W'=>r=.returned (.tuple #[])/\Lvx B0 cb n A B sa sb (L++[(a,b,v,x)]) S0 ac0 w3 R0 n0 sv0 qv0 Q bx o W'):=by
 obtain⟨S,R,sv,qv,N,O,u,z,C,D,E,m,G⟩:=h;refine(Ws W u z H i j a b v J).mono ?_;rintro r W'⟨rfl,s,c,d,⟨⟨p,l,k,F,g⟩,hb⟩,I,K⟩;refine⟨rfl,s,p,l,k,c,d,F,I,C.trans g,D.trans hb,λe=>E (K e),g.fb m,g.bx m G⟩
def WN(h:Lvx B0 cb n A B sa sb L S0 ac0 w3 R0 n0 sv0 qv0 Q bx o W)(J:B0<=W.heap.size){v x:ByteArray}(u:Ak A.kind v=true)(C:Ak A.kind x=true)(z:v.size<=9223372036854775807)(D:x.size<=9223372036854775807):
  Calls prog 49 #[.pointer (some (Ad cb 0)),.string v,.string x] W
   (λr W'=>r=.returned (.string (Ae A.kind v x).1)/\Lvx B0 cb n A B sa sb L S0 ac0 w3 R0 n0 sv0 qv0 (Q/\(Ae A.kind v x).2=0) bx o W'/\∀b,b<W.heap.size->b≠cb->W'.heap[b]?=W.heap[b]?):=by
 obtain⟨S,R,sv,qv,E,N,g,m,F,G,O,k,I⟩:=h;have c8:=Rcs.c8 g.blk;rw[m.kd]at c8;refine(KB W c8 (Rcs.c14 g.blk) (Rcs.fz g.blk 14) g.lt v x z D).mono ?_;rintro r W'⟨rfl,P,hb,rfl⟩;obtain⟨H,i⟩:=g.below hb;by_cases j:(Ae A.kind v x).2=0
 ·rw[ifp j];exact⟨rfl,⟨S,R,sv,qv,E,N,H,m,F.trans i,G.trans (hb.mono J),λe=>⟨O e,j⟩,i.fb k,i.bx k I⟩,λb d _=>hb.block b d⟩
 rw[ifn j];have K:(Ae A.kind v x).2=2:=(Gz u C).resolve_left j;rw[K];obtain⟨l,c⟩:=H.err ((2:Nat):Int);exact⟨rfl,⟨S,R,sv,qv,E,2,l,m.wrong,(F.trans i).trans c,(G.trans (hb.mono J)).setCell (p:=(Ad cb 14)) g.low _,λe=>absurd e (by decide),(i.trans c).fb k,(i.trans c).bx k I⟩,λb d s=>(Aw s).trans (hb.block b d)⟩
end
end
section
open Go.RowKit Go.Deep
variable{A B:MD}{c n p q:Nat}
def RsE(B0 cb n:Nat)(A B:MD)(sa sb:Value)(L:List ArP)(S0:List Plc × MD)(ac0:Nat)(w:World)(R0:Nat->Value)(n0:Nat)(sv0 qv0:Value)(Q:Prop)(r:Ending)(w':World):Prop :=
 r=.returned (.tuple #[])/\∃S' ac' fl',RpE B0 cb A B sa sb w n0 R0 sv0 qv0 S'.1 S'.2 (ac':Nat) (fl':Nat) w'/\Lvr A B n L S0 S' ac0 ac' fl'/\(fl'=0->Q)
abbrev LrS(yb pb qb p q:Nat)(f:Bool)(fA gB:ByteArray)(aP aQ:Option Addr)(nP cP nQ cQ:Nat)(wk:World):Prop :=
 wk.cell? (Ad yb 0)=some (.int .i64 (p:Int))/\wk.cell? (Ad yb 1)=some (.int .i64 (q:Int))/\wk.cell? (Ad yb 2)=some (.bool f)/\
 wk.cell? (Ad pb 0)=some (.string fA)/\wk.cell? (Ad pb 1)=some (.slice aP nP cP)/\wk.cell? (Ad qb 0)=some (.string gB)/\wk.cell? (Ad qb 1)=some (.slice aQ nQ cQ)
noncomputable def CQ:Code:=((f51).body).getD .skip
set_option maxRecDepth 1000000 in
theorem Vz:Fj 2 CQ (seqR 2 CQ)=CQ:=by kernel_rfl
set_option maxRecDepth 1000000 in
theorem VA:Fj 1 (seqR 2 CQ) (seqR 3 CQ)=seqR 2 CQ:=by kernel_rfl
def Lvr.fin0{S:List Plc × MD}(h:Lvr A B n [] S S c c 0):Lvr A B n [] (S.1,finP A B p q n S.2) (S.1,finP A B p q n S.2) c c 0:=by
 have d:=Hb (A:=A) (B:=B) (p:=p) (q:=q) (n:=n) S.2;refine⟨h.nd,?_,d.1.trans h.len,h.ok,h.le,λi=>by rw[show (finP A B p q n S.2).na i=S.2.na i by unfold finP;split<;>rfl];exact h.na i,h.ac1,h.n1,⟨[],by simp⟩,λ_=>⟨rfl,rfl⟩⟩
 show (finP A B p q n S.2).kind=A.kind;unfold finP;split<;>exact h.kd
set_option maxRecDepth 1000000 in
theorem WL{y2 y3 y7 y8 y9 y0 y1 y4 y5 y6 z3 z4 z5 z6 z7 z8 z9 A0 A1 A2 A3 A4 A5 A6 A7 A8 A9 B0 B1 B2 B3 B4 B5 B6 B7 B8 B9 C0 C1 C2 C3 C4 C5 C6 C7 C8 C9 D0 D1 D2 D3 D4 D5 D6 D7 D8 D9 E0 E1 E2 E3 E4 E5 E6 E7 E8 E9 F0 F1 F2 F3 F4 F5 F6 F7 F8 F9 G0 G1 G2 G3 G4 G5 G6 G7 G8 G9 H4 H5 H6 H7 H8 H9 I0 I1 l7 l8 l9 m4 m5 m7 m8 m9 n5 n6 n7 n9 o2 o3 o4 o5 o6 o7 o8 o9 p0 p6 p7 p8 p9 q7 q8 q9 r0 r2 r3 r4 r5 r6 r7 r8 r9 s4 s5 s6 s7 s8 s9 t7 t8 t9 v0 v2 v3 v4 v5 v6:Value}{F:Nat}{f:Bool}{sa sb:Value}{yb pb qb J cP Z cQ bP oP bQ oQ n0:Nat}{aP aQ:Option Addr}{fA gB:ByteArray}{E:List Plc × MD}{R:Nat->Value}{sv qv:Value}{m w I:World}
  (k5:Hd (RfK F w sv R n0 qv I sv R n0 qv)) (k4:Hd (Below m.heap.size w I)) (v8:Hd (m.heap.size<=I.heap.size))
  (d7:Hd (∀(L:List ArP) (E:List Plc × MD) (Q:Prop) (bx:Nat) (o:Obj) (W:World),Lvx m.heap.size F n A B sa sb L E c I R n0 sv qv Q bx o W->LrS yb pb qb p q f fA gB aP aQ J cP Z cQ W)) (e8:Hd (∀(L:List ArP) (E:List Plc × MD) (Q:Prop) (bx:Nat) (o:Obj) (W:World),Lvx m.heap.size F n A B sa sb L E c I R n0 sv qv Q bx o W->Below m.heap.size m W))
  (i9:Hd (p<A.n)) (f0:Hd (q<B.n)) (f1:Hd (VM A)) (b6:Hd (VM B)) (w7:Hd (A.kind=B.kind)) (x0:Hd (MSz A)) (x1:Hd (MSz B)) (g5:Hd (J=A.na p)) (d9:Hd (Z=B.na q))
  (w1:Hd (0<J->aP=some (Ad bP oP))) (w2:Hd (0<J->bP<m.heap.size/\some bP≠none))
  (w4:Hd (∀k,k<J->m.cell? (Ad bP (oP+k*4))=some (.int .i64 (A.ain p k))/\m.cell? (Ad bP (oP+k*4+1))=some (.int .i64 (A.aout p k))/\m.cell? (Ad bP (oP+k*4+2))=some (.string (A.aw p k))/\m.cell? (Ad bP (oP+k*4+3))=some (.int .i64 (A.ato p k))))
  (g9:Hd (0<Z->aQ=some (Ad bQ oQ))) (k7:Hd (0<Z->bQ<m.heap.size/\some bQ≠none))
  (e7:Hd (∀k,k<Z->m.cell? (Ad bQ (oQ+k*4))=some (.int .i64 (B.ain q k))/\m.cell? (Ad bQ (oQ+k*4+1))=some (.int .i64 (B.aout q k))/\m.cell? (Ad bQ (oQ+k*4+2))=some (.string (B.aw q k))/\m.cell? (Ad bQ (oQ+k*4+3))=some (.int .i64 (B.ato q k))))
  (j0:Hd (I.heap[yb]?=some (.cells #[.int .i64 (p:Int),.int .i64 (q:Int),.bool f] 82 (0,0)))) (i6:Hd (FbR F I sv R n0 qv yb)) {wr:World} (k6:Hd (Lvx m.heap.size F n A B sa sb [] E c I R n0 sv qv (PrQ A B p q 0 0) yb (.cells #[.int .i64 (p:Int),.int .i64 (q:Int),.bool f] 82 (0,0)) wr)) :
  Code.wp prog (seqR 3 CQ) (bodyPost prog f51 (RsE m.heap.size F n A B sa sb (arL A B true p q f) E c w R n0 sv qv (PrOk A B p q))) ⟨List.toArray (.pointer (some (Ad F 0))::.int .i64 (n:Int)::y2::y3::.pointer (some (Ad yb 0))::.pointer (some (Ad pb 0))::.pointer (some (Ad qb 0))::y7::y8::y9::y0::y1::y4::y5::y6::z3::z4::z5::z6::z7::z8::z9::A0::A1::A2::A3::A4::A5::A6::A7::A8::A9::B0::B1::B2::B3::B4::B5::B6::B7::B8::B9::C0::C1::C2::C3::C4::C5::C6::C7::C8::C9::D0::D1::D2::D3::D4::D5::D6::D7::D8::D9::E0::E1::E2::E3::E4::E5::E6::E7::E8::E9::F0::F1::F2::F3::F4::F5::F6::F7::F8::F9::G0::G1::G2::G3::G4::G5::G6::G7::G8::G9::H4::H5::H6::H7::H8::H9::I0::I1::l7::l8::l9::m4::m5::m7::m8::m9::n5::n6::n7::n9::o2::o3::o4::o5::o6::o7::o8::o9::p0::p6::p7::p8::p9::q7::q8::q9::r0::r2::r3::r4::r5::r6::r7::r8::r9::s4::s5::s6::s7::s8::s9::t7::t8::t9::v0::v2::v3::v4::v5::v6::[]),[]⟩ wr:=by
 have a1:=qh<|show ∀L E Q bx o W,Lvx m.heap.size F n A B sa sb L E c I R n0 sv qv Q bx o W->m.heap.size<=W.heap.size from λL E Q bx o W h=>Nat.le_trans v8.o h.be.size
 conv=>arg 2;whnf
 go_wp2_with fail
 go_loopw [7] (λv7 W=>∃k:Nat,k<=J/\v7=.int .i64 (k:Int)/\Lvx m.heap.size F n A B sa sb (lfL A B p q f k) E c I R n0 sv qv (PrQ A B p q k 0) yb (.cells #[.int .i64 (p:Int),.int .i64 (q:Int),.bool f] 82 (0,0)) W) (λv7 _=>J-(intOf v7).toNat)
 case atStart=>exact⟨0,Nat.zero_le _,rfl,k6.o⟩
 obtain⟨k,hk,rfl,hl⟩:=hrel;clear k6;have d8:=qh hl;clear hl;obtain⟨-,-,-,-,c4,-,-⟩:=d7.o _ _ _ _ _ _ d8.o;by_cases j4:k<J
 ·have I6:(k:Int)<(J:Int):=by omega
  have I3:(0:Int)<=(k:Int):=by omega
  have g3:=qh j4;have I5:k<=30000:=by have h1:=Dp A A.n p i9.o;have h2:=f1.o.arcs;have h3:=g5.o;omega
  have eP:=w1.o (by omega);subst eP;have j3:k<A.na p:=by rw[<-g5.o];exact j4
  have g:=e8.o _ _ _ _ _ _ d8.o;have f4:=(w2.o (by omega)).1;obtain⟨m0,m1,m2,m3⟩:=w4.o k j4;have t0:=(g.cell (p:=(Ad bP _)) f4).trans m0;have t1:=(g.cell (p:=(Ad bP _)) f4).trans m1;have t2:=(g.cell (p:=(Ad bP _)) f4).trans m2;have t3:=(g.cell (p:=(Ad bP _)) f4).trans m3;clear m0 m1 m2 m3 g f4;have g2:=f1.o.arc p k i9.o j3;obtain⟨s,d3⟩:∃s,s=(A.ato p k).toNat:=⟨_,rfl⟩;have h8:A.ato p k=(s:Int):=by have:=g2.t0;omega
  have d4:s<A.n:=by have:=g2.t0;have:=g2.t1;omega
  rw[h8]at t3;obtain⟨ai,f2⟩:=exq<|A.ain p k;obtain⟨ao,b7⟩:=exq<|A.aout p k;obtain⟨aw,a4⟩:=exq<|A.aw p k;rw[<-f2]at t0;rw[<-b7]at t1;rw[<-a4]at t2;have j7:Am A.kind aw=true:=by rw[a4];exact g2.wt
  obtain⟨sx,e1⟩:=exq<|wr.heap.size;obtain⟨w5,T⟩:=exq<|wr.alloc (.cells #[.int .i64 ai,.int .i64 ao,.string aw,.int .i64 (s:Int)] 59);have O:=d8.o.push (a1.o _ _ _ _ _ _ d8.o) #[.int .i64 ai,.int .i64 ao,.string aw,.int .i64 (s:Int)] 59;rw[<-e1,<-T]at O;have a8:=O.box.1;have s0:=cellOf a8 0 rfl;have s1:=cellOf a8 1 rfl;have s2:=cellOf a8 2 rfl;have s3:=cellOf a8 3 rfl;obtain⟨-,z1,z2,-,-,-,-⟩:=d7.o _ _ _ _ _ _ O;rw[T,e1]at s0 s1 s2 s3;rw[T]at z1 z2;replace O:=qh O;replace j3:=qh j3;replace d4:=qh d4;replace d3:=qh d3;replace f2:=qh f2;replace b7:=qh b7;replace a4:=qh a4;replace j7:=qh j7;clear g2 h8 a8;by_cases h0:ao=0
  ·subst h0;have H0:=qh<|show A.aout p k=0 from b7.o.symm;cases f
   focus
    go_wp2_with fail
    rw[<-T];clear t0 t1 t2 t3 s0 s1 s2 s3 z1 z2 c4 T e1;refine(Kq (x:=(s,q,false)) O.o (a1.o _ _ _ _ _ _ O.o) f1.o.n2 b6.o.n2 ai 0 aw ⟨d4.o,f0.o⟩).mono ?_;rintro r w6⟨rfl,l6⟩;have f9:Lvx m.heap.size F n A B sa sb (lfL A B p q false (k+1)) E c I R n0 sv qv (PrQ A B p q (k+1) 0) yb (.cells #[.int .i64 (p:Int),.int .i64 (q:Int),.bool false] 82 (0,0)) w6:=by
     rw[MW H0.o,<-f2.o,<-a4.o,<-d3.o];exact(l6.more λh=>h.skip H0.o).pick i6.o j0.o
    have e7:=qh f9;clear f9 l6
    go_wp2_with fail
   rotate_left
   focus
    have f9:Lvx m.heap.size F n A B sa sb (lfL A B p q true (k+1)) E c I R n0 sv qv (PrQ A B p q (k+1) 0) yb (.cells #[.int .i64 (p:Int),.int .i64 (q:Int),.bool true] 82 (0,0)) w5:=by
     rw[MZ H0.o];exact(O.o.more λh=>h.skip H0.o).pick i6.o j0.o
    have e7:=qh f9;clear f9
    go_wp2_with fail
    rw[<-T];clear t0 t1 t2 t3 s0 s1 s2 s3 z1 z2 c4 T e1
   all_goals
    go_roundw
    case rel=>exact⟨k+1,by have:=g3.o;omega,by go_num,e7.o⟩
    have:=g3.o;simp[intOf];omega
  have x4:(ao==0)=false:=by simp[h0]
  have x5:decide (ao=0)=false:=by simp[h0]
  have H0:=qh (show A.aout p k≠0 by rw[<-b7.o];exact h0);have i4:Lvx m.heap.size F n A B sa sb (lfL A B p q f k++[]) E c I R n0 sv qv (PrQ A B p q k 0) sx (.cells #[.int .i64 ai,.int .i64 ao,.string aw,.int .i64 (s:Int)] 59 (0,0)) w5:=by
   rw[List.append_nil];exact O.o
  have k9:=qh i4;clear i4
  go_wp2_with fail
  rw[<-T,<-e1];clear t0 t1 t2 t3 s0 s1 s2 s3 z1 z2 c4 T e1 x4 x5;replace h0:=qh h0
  go_loopw [9] (λv9 W=>∃j:Nat,j<=Z/\v9=.int .i64 (j:Int)/\Lvx m.heap.size F n A B sa sb (lfL A B p q f k++mtL A B p q k j) E c I R n0 sv qv (PrQ A B p q k j) sx (.cells #[.int .i64 ai,.int .i64 ao,.string aw,.int .i64 (s:Int)] 59 (0,0)) W) (λv9 _=>Z-(intOf v9).toNat)
  case atStart=>exact⟨0,Nat.zero_le _,rfl,k9.o⟩
  obtain⟨j,hj,rfl,b4⟩:=hrel;clear k9;have z:=qh b4;clear b4;obtain⟨-,-,-,-,-,-,d6⟩:=d7.o _ _ _ _ _ _ z.o;by_cases d0:j<Z
  ·have x8:(j:Int)<(Z:Int):=by omega
   have l4:(0:Int)<=(j:Int):=by omega
   have e5:=qh d0;have x7:j<=30000:=by have h1:=Dp B B.n q f0.o;have h2:=b6.o.arcs;have h3:=d9.o;omega
   have eQ:=g9.o (by omega);subst eQ;have e0:j<B.na q:=by rw[<-d9.o];exact d0
   have g:=e8.o _ _ _ _ _ _ z.o;have C:=(k7.o (by omega)).1;obtain⟨m0,m1,m2,m3⟩:=e7.o j d0;have t0:=(g.cell (p:=(Ad bQ _)) C).trans m0;have t1:=(g.cell (p:=(Ad bQ _)) C).trans m1;have t2:=(g.cell (p:=(Ad bQ _)) C).trans m2;have t3:=(g.cell (p:=(Ad bQ _)) C).trans m3;clear m0 m1 m2 m3 g C;have H:=b6.o.arc q j f0.o e0;obtain⟨N,f5⟩:∃N,N=(B.ato q j).toNat:=⟨_,rfl⟩;have a5:B.ato q j=(N:Int):=by have:=H.t0;omega
   have a6:N<B.n:=by have:=H.t0;have:=H.t1;omega
   rw[a5]at t3;obtain⟨X,b8⟩:=exq<|B.ain q j;obtain⟨bo,b9⟩:=exq<|B.aout q j;obtain⟨Y,a7⟩:=exq<|B.aw q j;rw[<-b8]at t0;rw[<-b9]at t1;rw[<-a7]at t2;obtain⟨U,G⟩:=exq<|wr.heap.size;obtain⟨w8,i⟩:=exq<|wr.alloc (.cells #[.int .i64 X,.int .i64 bo,.string Y,.int .i64 (N:Int)] 59);have f3:Below wr.heap.size wr w8:=by rw[i];exact(Below.refl _ wr).alloc nlr _
   have d1:=z.o.below (a1.o _ _ _ _ _ _ z.o) f3;have u:w8.heap[U]?=some (.cells #[.int .i64 X,.int .i64 bo,.string Y,.int .i64 (N:Int)] 59 (0,0)):=by rw[i,G];exact han wr _
   have j8:Am B.kind Y=true:=by rw[a7];exact H.wt
   have j6:U≠F:=by
    obtain⟨_,_,_,_,_,h9⟩:=z.o.blk;have:=lbk h9;omega
   have i5:=d1.box.1;have s1:=cellOf i5 1 rfl;have b0:=cellOf u 0 rfl;rw[i]at s1;rw[i,G]at b0;have b5:=qh d1;clear d1;have x2:=qh u;clear u;replace j6:=qh j6;have I4:=qh e0;clear e0;have e4:=qh a6;clear a6;have i8:=qh f5;clear f5;have e3:=qh b8;clear b8;have i7:=qh b9;clear b9;have a2:=qh a7;clear a7;replace j8:=qh j8;clear H a5 f3 i5;by_cases he:X=ao
   focus
    have HE:=qh (show B.ain q j=A.aout p k by rw[<-e3.o,<-b7.o];exact he);have j2:decide (X=ao)=true:=by simp[he]
    have j1:(X==ao)=true:=by simp[he]
    clear he;obtain⟨w9,g6⟩:=exq<|w8.drew;have d2:=b5.o.below (W':=w9) (a1.o _ _ _ _ _ _ b5.o) (by rw[g6];exact(Below.refl _ w8).drew);have D:w9.heap[U]?=some (.cells #[.int .i64 X,.int .i64 bo,.string Y,.int .i64 (N:Int)] 59 (0,0)):=by rw[g6];exact x2.o
    have d5:=d2.box.1;have d:w9.cell? (Ad sx 0)=some (.int .i64 ai)/\w9.cell? (Ad sx 2)=some (.string aw)/\w9.cell? (Ad sx 3)=some (.int .i64 (s:Int))/\w9.cell? (Ad U 1)=some (.int .i64 bo)/\w9.cell? (Ad U 2)=some (.string Y)/\w9.cell? (Ad U 3)=some (.int .i64 (N:Int)) :=
     ⟨cellOf d5 0 rfl,cellOf d5 2 rfl,cellOf d5 3 rfl,cellOf D 1 rfl,cellOf D 2 rfl,cellOf D 3 rfl⟩
    have l0:=qh (WN d2 (a1.o _ _ _ _ _ _ d2) (v:=aw) (x:=Y) (Cu j7.o) (Cu (by rw[w7.o];exact j8.o)) (by rw[a4.o];exact x0.o.aw p k) (by rw[a2.o];exact x1.o.aw q j));have g1:=lbk D;replace g1:=qh g1;replace D:=qh D;clear d2 d5
    go_wp2_with fail
    refine AC (λwk=>wk.cell? (Ad sx 0)=some (.int .i64 ai)/\wk.cell? (Ad sx 2)=some (.string aw)/\wk.cell? (Ad sx 3)=some (.int .i64 (s:Int))/\wk.cell? (Ad U 1)=some (.int .i64 bo)/\wk.cell? (Ad U 2)=some (.string Y)/\wk.cell? (Ad U 3)=some (.int .i64 (N:Int))) 17 (by kernel_rfl) ?_;rw[<-i,<-g6,<-G];clear t0 t1 t2 t3 s1 b0 d6 i g6 G;refine Aa.tm 0 d ?_;refine Aa.tm 1 d ?_;refine Aa.tm 2 d ?_;refine Aa.tm 3 d ?_;refine Aa.tm 4 d ?_;refine Aa.tm 5 d ?_;refine Aa.tm 6 d ?_;refine Aa.tm 7 d ?_;refine Aa.tm 8 d ?_;refine Aa.tm 9 d ?_;refine Aa.tm 10 d ?_;refine Aa.tm 12 d ?_;refine Aa.tm 13 d ?_;refine Aa.tm 14 d ?_;refine Aa.tm 15 d ?_;refine Aa.tm 16 d ?_
    try simp only[Act.put,tryL]
    refine Aa.on 11 λK hK=>?_;go_simp;refine l0.o.mono ?_;rintro r e2⟨rfl,l,l3⟩;have S:=(l3 U g1.o j6.o).trans D.o;have P:=l.box.1;have l2:e2.cell? (Ad sx 0)=some (.int .i64 ai)/\e2.cell? (Ad sx 2)=some (.string aw)/\e2.cell? (Ad sx 3)=some (.int .i64 (s:Int))/\e2.cell? (Ad U 1)=some (.int .i64 bo)/\e2.cell? (Ad U 2)=some (.string Y)/\e2.cell? (Ad U 3)=some (.int .i64 (N:Int)) :=
     ⟨cellOf P 0 rfl,cellOf P 2 rfl,cellOf P 3 rfl,cellOf S 1 rfl,cellOf S 2 rfl,cellOf S 3 rfl⟩
    have k0:=qh<|Kq (x:=(s,N,false)) l (a1.o _ _ _ _ _ _ l) f1.o.n2 b6.o.n2 ai bo (Ae A.kind aw Y).1 ⟨d4.o,e4.o⟩;clear l l3 S P l0;refine hK.out _ _ (.inr l2) ?_;clear hK K d
    try simp only[Act.put,tryL]
    refine Aa.on 17 λK hK=>?_;go_simp;refine k0.o.mono ?_;rintro r x9⟨rfl,i2⟩;have a9:Lvx m.heap.size F n A B sa sb (lfL A B p q f k++mtL A B p q k (j+1)) E c I R n0 sv qv (PrQ A B p q k (j+1)) sx (.cells #[.int .i64 ai,.int .i64 ao,.string aw,.int .i64 (s:Int)] 59 (0,0)) x9:=by
     rw[Nw HE.o,<-List.append_assoc];have h9:tmS A (A.aw p k) (B.aw q j)=(Ae A.kind aw Y).1:=by rw[a4.o,a2.o];rfl
     rw[h9,<-f2.o,<-i7.o,<-d3.o,<-i8.o];exact i2.more λh=>h.1.yes (by rw[<-a4.o,<-a2.o];exact h.2)
    have g8:=qh a9;clear a9 i2 k0;refine hK.out _ _ (.inl rfl) (Aa.dn ?_);clear hK K l2 j2 j1
    go_wp2_with fail
   rotate_left
   focus
    have j2:decide (X=ao)=false:=by simp[he]
    have j1:(X==ao)=false:=by simp[he]
    have g4:=qh (show B.ain q j≠A.aout p k by rw[<-e3.o,<-b7.o];exact he);have a9:Lvx m.heap.size F n A B sa sb (lfL A B p q f k++mtL A B p q k (j+1)) E c I R n0 sv qv (PrQ A B p q k (j+1)) sx (.cells #[.int .i64 ai,.int .i64 ao,.string aw,.int .i64 (s:Int)] 59 (0,0)) w8:=by
     rw[Nv g4.o];exact b5.o.more λh=>h.no g4.o
    have g8:=qh a9;clear a9
    go_wp2_with fail
    rw[<-i];clear t0 t1 t2 t3 s1 b0 d6 i G
   all_goals
    go_roundw
    case rel=>exact⟨j+1,by have:=e5.o;omega,by go_num,g8.o⟩
    have:=e5.o;simp[intOf];omega
  have f7:j=Z:=by omega
  have x6:¬((j:Int)<(Z:Int)):=by omega
  have f8:Lvx m.heap.size F n A B sa sb (lfL A B p q f (k+1)) E c I R n0 sv qv (PrQ A B p q (k+1) 0) yb (.cells #[.int .i64 (p:Int),.int .i64 (q:Int),.bool f] 82 (0,0)) wr:=by
   rw[MY H0.o];have h9:=z.o;rw[f7,d9.o]at h9;exact(h9.more λh=>h.next).pick i6.o j0.o
  replace f8:=qh f8;clear f7
  go_wp2_with fail
  clear d6;go_roundw
  case rel=>exact⟨k+1,by have:=g3.o;omega,by go_num,f8.o⟩
  have:=g3.o;simp[intOf];omega
 have l5:k=J:=by omega
 have x6:¬((k:Int)<(J:Int)):=by omega
 have g0:=d8.o;rw[l5]at g0;replace g0:=qh g0;clear d8 l5;obtain⟨-,-,-,-,-,-,e6⟩:=d7.o _ _ _ _ _ _ g0.o;clear e6;have i3:Lvx m.heap.size F n A B sa sb (lfL A B p q f J++[]) E c I R n0 sv qv (PrQ A B p q J 0) yb (.cells #[.int .i64 (p:Int),.int .i64 (q:Int),.bool f] 82 (0,0)) wr:=by
  rw[List.append_nil];exact g0.o
 have h7:=qh i3;clear i3
 go_wp2_with fail
 clear c4
 go_loopw [11] (λj9 W=>∃j:Nat,j<=Z/\j9=.int .i64 (j:Int)/\Lvx m.heap.size F n A B sa sb (lfL A B p q f J++rtL B true p q j) E c I R n0 sv qv (PrQ A B p q J 0) yb (.cells #[.int .i64 (p:Int),.int .i64 (q:Int),.bool f] 82 (0,0)) W) (λj9 _=>Z-(intOf j9).toNat)
 case atStart=>exact⟨0,Nat.zero_le _,rfl,h7.o⟩
 obtain⟨j,hj,rfl,b4⟩:=hrel;clear h7;have z:=qh b4;clear b4;obtain⟨-,-,-,-,-,-,d6⟩:=d7.o _ _ _ _ _ _ z.o;by_cases d0:j<Z
 ·have x8:(j:Int)<(Z:Int):=by omega
  have l4:(0:Int)<=(j:Int):=by omega
  have e5:=qh d0;have x7:j<=30000:=by have h1:=Dp B B.n q f0.o;have h2:=b6.o.arcs;have h3:=d9.o;omega
  have eQ:=g9.o (by omega);subst eQ;have e0:j<B.na q:=by rw[<-d9.o];exact d0
  have g:=e8.o _ _ _ _ _ _ z.o;have C:=(k7.o (by omega)).1;obtain⟨m0,m1,m2,m3⟩:=e7.o j d0;have t0:=(g.cell (p:=(Ad bQ _)) C).trans m0;have t1:=(g.cell (p:=(Ad bQ _)) C).trans m1;have t2:=(g.cell (p:=(Ad bQ _)) C).trans m2;have t3:=(g.cell (p:=(Ad bQ _)) C).trans m3;clear m0 m1 m2 m3 g C;have H:=b6.o.arc q j f0.o e0;obtain⟨N,f5⟩:∃N,N=(B.ato q j).toNat:=⟨_,rfl⟩;have a5:B.ato q j=(N:Int):=by have:=H.t0;omega
  have a6:N<B.n:=by have:=H.t0;have:=H.t1;omega
  rw[a5]at t3;obtain⟨X,b8⟩:=exq<|B.ain q j;obtain⟨bo,b9⟩:=exq<|B.aout q j;obtain⟨Y,a7⟩:=exq<|B.aw q j;rw[<-b8]at t0;rw[<-b9]at t1;rw[<-a7]at t2;obtain⟨U,G⟩:=exq<|wr.heap.size;obtain⟨w8,i⟩:=exq<|wr.alloc (.cells #[.int .i64 X,.int .i64 bo,.string Y,.int .i64 (N:Int)] 59);have f3:Below wr.heap.size wr w8:=by rw[i];exact(Below.refl _ wr).alloc nlr _
  have d1:=z.o.below (a1.o _ _ _ _ _ _ z.o) f3;have u:w8.heap[U]?=some (.cells #[.int .i64 X,.int .i64 bo,.string Y,.int .i64 (N:Int)] 59 (0,0)):=by rw[i,G];exact han wr _
  have b0:=cellOf u 0 rfl;have b1:=cellOf u 1 rfl;have b2:=cellOf u 2 rfl;have b3:=cellOf u 3 rfl;obtain⟨u0,-,-,-,-,-,-⟩:=d7.o _ _ _ _ _ _ d1;rw[i,G]at b0 b1 b2 b3;rw[i]at u0;have b5:=qh d1;clear d1;have e4:=qh a6;clear a6;have i8:=qh f5;clear f5;have e3:=qh b8;clear b8;have i7:=qh b9;clear b9;have a2:=qh a7;clear a7 H a5 f3 u e0;by_cases he:X=0
  focus
   subst he;have HE:=qh<|show B.ain q j=0 from e3.o.symm
   go_wp2_with fail
   rw[<-i];clear t0 t1 t2 t3 b0 b1 b2 b3 u0 d6 i G;refine(Kq (x:=(p,N,true)) b5.o (a1.o _ _ _ _ _ _ b5.o) f1.o.n2 b6.o.n2 0 bo Y ⟨i9.o,e4.o⟩).mono ?_;rintro r w9⟨rfl,d2⟩;have l:Lvx m.heap.size F n A B sa sb (lfL A B p q f J++rtL B true p q (j+1)) E c I R n0 sv qv (PrQ A B p q J 0) yb (.cells #[.int .i64 (p:Int),.int .i64 (q:Int),.bool f] 82 (0,0)) w9:=by
    rw[OU HE.o,<-List.append_assoc,<-i7.o,<-a2.o,<-i8.o];exact d2
   have g7:=qh l;clear l d2
   go_wp2_with fail
  rotate_left
  focus
   have j2:decide (X=0)=false:=by simp[he]
   have j1:(X==0)=false:=by simp[he]
   have g4:=qh (show B.ain q j≠0 by rw[<-e3.o];exact he);have l:Lvx m.heap.size F n A B sa sb (lfL A B p q f J++rtL B true p q (j+1)) E c I R n0 sv qv (PrQ A B p q J 0) yb (.cells #[.int .i64 (p:Int),.int .i64 (q:Int),.bool f] 82 (0,0)) w8:=by
    rw[OT g4.o];exact b5.o
   have g7:=qh l;clear l
   go_wp2_with fail
   rw[<-i];clear t0 t1 t2 t3 b0 b1 b2 b3 u0 d6 i G
  all_goals
   go_roundw
   case rel=>exact⟨j+1,by have:=e5.o;omega,by go_num,g7.o⟩
   have:=e5.o;simp[intOf];omega
 have f7:j=Z:=by omega
 have I2:¬((j:Int)<(Z:Int)):=by omega
 have b4:=z.o;rw[f7]at b4;obtain⟨S',R',I8,I7,x3,l1,h1,h2,h3,h4,h5,-,-⟩:=b4;have e9:lfL A B p q f J++rtL B true p q Z=arL A B true p q f:=by rw[g5.o,d9.o];rfl
 rw[e9]at h2;have j5:l1=0->PrOk A B p q:=λe=>PrQ.all (by have h6:=h5 e;rw[g5.o]at h6;exact h6);have H1:=qh h1;clear h1;have H2:=qh h2;clear h2;have H3:=qh h3;clear h3;replace h4:=qh h4;replace j5:=qh j5;clear h5 e9 f7
 go_wp2_with fail
 go_end0
 exact⟨rfl,S',x3,l1,⟨⟨_,_,_,H1.o,k5.o.trans H3.o⟩,k4.o.trans h4.o⟩,H2.o,j5.o⟩
end
end Go.Proofs.YtpldocnhbdlgfaaGreatDoor
