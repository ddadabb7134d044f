/- Parts. -/
import Derived.Test.YtpldocnhbdlgfaaGreatDoorPc36
import Derived.Test.YtpldocnhbdlgfaaGreatDoorPc31
import Derived.Deep.Upon
namespace Go.Proofs.YtpldocnhbdlgfaaGreatDoor
set_option maxRecDepth 100000
set_option linter.all false
set_option maxHeartbeats 16000000
open Go Tryz
section
open Go.RowKit Go.Deep
variable{w:World}{D:MD}{mv sv:Value}{R:Nat->Value}{B b:Nat}{c:Array Value}
def Yu{P:Program}{o:Oper}{a:Act}{K:Act->World->Prop}{Q:Exit->Act->World->Prop}(s x:Operand)(t:TypeId)
  (N:o.op=.call { callee:=.builtin .append,args:=#[s,x],argTypes:=#[t,t] })
  (e:TypeId) (i:TypeInfo) (z:Value) (size k:Nat) (C:P.underlying t=some (.slice e)) (hi:P.info? e=some i) (X:i.zero=some z)
  (A:i.size=size) (F:i.bytes=k) (H:z.cells.size=size) (G:0<size) (O:a.eval s=.slice none 0 0)
  (D:Option Addr) (m c:Nat) (d:List Value) (R:a.eval x=.slice D m c) (J:d.length=m*size) (p:0<m->∃ad,D=some ad/\∀j u,d[j]?=some u->w.cell? (ad.add j)=some u) (T:∀u ∈ d,u.oneCell'=true)
  (E:m<=maxLen) (l:m*k<=140737488355328)
  (h:∀g cap w',w'.ownsRow w.heap.size e size (.slice g m cap) m d->w.grownBy w' none->K (a.put o.dst (.slice g m cap)) w'):o.wp P a w K Q:=by
 by_cases L:0<m
 ·obtain⟨ad,rfl,U⟩:=p L;refine wp_append_lies _ s x t N w.heap.size e i z size k C hi X A F H G (.slice none 0 0) 0 [] O (World.ownsRow_nil _ _ _ _) ad m c d R J U T L (by rw[Nat.zero_add];exact E) (by rw[Nat.zero_add];exact l) nlr _ rfl λg cap w' I S _ _=>?_;rw[Nat.zero_add,List.nil_append]at I;rw[Nat.zero_add];exact h _ cap w' I S
 obtain rfl:m=0:=by omega
 obtain rfl:d=[]:=List.eq_nil_of_length_eq_zero (by rw[J,Nat.zero_mul]);have B:Src P i.size t (.slice D 0 c) 0 [] w:=by
  cases D with
  |none=>exact Src.ofNil w C c
  |some ad=>exact Src.ofSlice w C ad 0 c [] (by simp) (by simp) (by simp)
 have W:=run_append_nothing (P:=P) w t t o.type e i C hi none 0 0 nlr _ B;unfold Oper.wp execOp;simp only[N,resolve,invoke,builtin,Sem.run_bind,Sem.run_pure,Result.andThen_ok,List.map_toArray,List.map_cons,List.map_nil,O,R,W];exact h none 0 w (World.ownsRow_nil _ _ _ _) (World.grownBy.refl _ _)
def Fr.gbn{w':World}(h:Fr (λ_=>False) w w'):w.grownBy w' none:=(h.mono (C':=λq=>none=some q) (λ_ _ e=>e.elim)).gb
def ClnE(D:MD)(w:World)(r:Ending)(w':World):Prop :=
 Below w.heap.size w w'/\∃sv R,r=.returned (.agg #[.int .i64 D.kind,.int .i64 D.start,.string D.lead,sv])/\OwM w' w.heap.size sv D R
structure ClI(w wr:World)(mb rb nb i:Nat)(mc zc:Array Value)(D:MD)(sv:Value)(R:Nat->Value):Prop where
 be:Below w.heap.size w wr
 km:wr.heap[mb]?=some (.cells mc 25 (0,0))
 kr:wr.heap[rb]?=some (.cells zc 25 (0,0))
 kn:wr.heap[nb]?=some (.cells #[.int .i64 D.kind,.int .i64 D.start,.string D.lead,sv] 25 (0,0))
 ow:OwM wr w.heap.size sv (cpD D i) R
def Xj{i:Nat}(h:OwM w B sv (cpD D i) R)(hb:w.heap[b]?=some (.cells c 25 (0,0))):sv.ownBlock≠some b:=Az h.top hb (by decide)
def Ro(w:World)(hM:Ma none w mv D)(hV:VM D):Calls prog 72 #[mv] w (ClnE D w):=by
 obtain⟨sv,rfl,hS⟩:=hM;obtain⟨a,cp,b,d,A,C,BB,O,rfl,ha,hc,hm,hb,a6⟩:=hS.open;obtain⟨i0,g0,h7,Y,h8⟩:=Dk FH;obtain⟨i1,g1,h4,h5,h6⟩:=Dk Fc;have j3:1<=D.n:=hV.n1;have j4:D.n<=3000:=hV.n2;have e1:∀i,i<D.n->D.na i<=30000:=λi hi=>by have P:=Nat.le_trans (DR D (show i+1<=D.n by omega)) hV.arcs;have h2:Ai D (i+1)=Ai D i+D.na i:=rfl;omega
 obtain rfl:=ha (by omega);have b2:=(hb (by omega)).1;unfold maxLen at hm;obtain⟨n,hn⟩:=exq<|D.n;rw[<-hn]at j3 j4 hc;obtain⟨mc,S⟩:=exq<|#[Value.int .i64 D.kind,.int .i64 D.start,.string D.lead,.slice (some (Ad b d)) n cp];obtain⟨zc,d1⟩:=exq<|#[Value.int .i64 0,.int .i64 0,.string ⟨#[]⟩,.slice none 0 0];obtain⟨w1,T⟩:=exq<|w.alloc (.cells #[.int .i64 D.kind,.int .i64 D.start,.string D.lead,.slice (some (Ad b d)) n cp] 25);obtain⟨w2,U⟩:=exq<|w1.alloc (.cells #[.int .i64 0,.int .i64 0,.string ⟨#[]⟩,.slice none 0 0] 25);obtain⟨w3,b9⟩:=exq<|w2.alloc (.cells #[.int .i64 D.kind,.int .i64 D.start,.string D.lead,.slice none 0 0] 25);have Y:w1.heap.size=w.heap.size+1:=by rw[T];simp
 have d3:w2.heap.size=w.heap.size+1+1:=by rw[U];simp[Y]
 have f9:Fr (λ_=>False) w w1:=by rw[T];exact Fr.alloc _ _
 have d6:Fr (λ_=>False) w1 w2:=by rw[U];exact Fr.alloc _ _
 have b4:Fr (λ_=>False) w2 w3:=by rw[b9];exact Fr.alloc _ _
 have g4:w1.heap[w.heap.size]?=some (.cells mc 25 (0,0)):=by rw[T,S];exact han w _
 have g5:w2.heap[w.heap.size+1]?=some (.cells zc 25 (0,0)):=by rw[<-Y,U,d1];exact han w1 _
 have d8:w3.heap[w.heap.size+1+1]?=some (.cells #[.int .i64 D.kind,.int .i64 D.start,.string D.lead,.slice none 0 0] 25 (0,0)):=by rw[<-d3,b9];exact han w2 _
 have e4:w3.heap[w.heap.size+1]?=some (.cells zc 25 (0,0)):=(b4.block _ (by omega) (λe=>e)).trans g5;have b6:w2.heap[w.heap.size]?=some (.cells mc 25 (0,0)):=(d6.block _ (by omega) (λe=>e)).trans g4;have e0:w3.heap[w.heap.size]?=some (.cells mc 25 (0,0)):=(b4.block _ (by omega) (λe=>e)).trans b6;have f7:Below w.heap.size w w3:=((f9.trans d6).trans b4).below nlr (λ_ e=>e.elim);obtain⟨N,b7⟩:=exq<|w.heap.size;obtain⟨rb,e5⟩:=exq<|w.heap.size+1;obtain⟨G,e2⟩:=exq<|w.heap.size+1+1;have j0:w.heap.size<=G:=by omega
 have j1:w.heap.size<=rb:=by omega
 have j2:N≠G:=by omega
 have j5:rb≠G:=by omega
 have k0:N≠rb:=by omega
 rw[<-b7]at b6 e0;rw[<-e5]at e4;rw[<-e2]at d8;have I:ClI w w3 N rb G 0 mc zc D (.slice none 0 0) (λ_=>.slice none 0 0) :=
  ⟨f7,e0,e4,d8,⟨World.ownsRow_nil w3 _ _ 2,λ_ hi=>absurd hi (Nat.not_lt_zero _),λ_ _ hi=>absurd hi (Nat.not_lt_zero _)⟩⟩
 have f8:w2.heap[N]?=some (.cells #[.int .i64 D.kind,.int .i64 D.start,.string D.lead,.slice (some (Ad b d)) n cp] 25 (0,0)):=by rw[<-S];exact b6
 obtain⟨⟨m0,m1,m2,m3⟩,_⟩:=cells4 f8;clear f9 d6 b4 g4 g5 Y d3 f8;have HI:=qh I;clear I;replace a6:=qh a6;clear hS hb ha;replace e1:=qh e1;clear hV;replace S:=qh S;replace d1:=qh d1;clear b6 e0 e4 f7 d8;have h9:=qh g0;have i6:=qh h7;have i7:=qh Y;have i8:=qh h8;have i2:=qh g1;have i3:=qh h4;have i4:=qh h5;have i5:=qh h6;clear g0 h7 Y h8 g1 h4 h5 h6;have HN:=qh hn;rw[<-hn];clear hn;rw[b7,U,T]at m0 m1 m2 m3
 go_enter func72,ntmps72
 go_wp2_with fail
 rw[<-T,<-U,<-b9,<-e2,<-e5,<-b7];clear m0 m1 m2 m3 T U b9 e2 e5 b7
 go_loopw [4] (λv4 wr=>∃(i:Nat) (sv:Value) (R:Nat->Value),i<=n/\v4=.int .i64 (i:Int)/\ClI w wr N rb G i mc zc D sv R) (λv4 _=>n-(intOf v4).toNat)
 case atStart=>exact⟨0,_,_,Nat.zero_le _,rfl,HI.o⟩
 obtain⟨i,sv,R,hi,rfl,I⟩:=hrel;clear HI;have d9:=I.km;rw[S.o]at d9;obtain⟨⟨m0,m1,m2,m3⟩,_⟩:=cells4 d9;obtain⟨⟨q0,q1,q2,q3⟩,rz⟩:=cells4 I.kn;clear d9 m0 m1 m2 rz;obtain⟨sa,sc,e7,_,_⟩:=Au I.ow.top;have e7:sv=.slice sa i sc:=e7;subst e7;by_cases j9:i<n
 ·clear q0 q1 q2;have j8:(i:Int)<(n:Int):=by omega
  have j7:(0:Int)<=(i:Int):=by omega
  have g2:i<D.n:=by have:=HN.o;omega
  obtain⟨k1,k2,k3,k4,k5,k6,k7⟩:=a6.o i g2;have t0:=(I.be.cell (p:=(Ad b (d+i*2))) b2).trans k1;have t1:=(I.be.cell (p:=(Ad b (d+i*2+1))) b2).trans k2;obtain⟨wd,d0⟩:=exq<|wr.drew;have hd:Fr (λ_=>False) wr wd:=by rw[d0];exact(Fr.refl _ wr).drew
  have f5:∀k j v,k<D.na i->j<4->(arc4 D i k)[j]?=some v->wd.cell? (Ad (BB i) (O i+k*4+j))=some v:=λk j v hk hj hv=>by
   have b0:=(I.be.trans (hd.below I.be.size (λ_ e=>e.elim)));have b1:=(k6 (by omega)).1;obtain⟨t0,t1,t2,t3⟩:=k7 k hk;have:j=0\/j=1\/j=2\/j=3:=by omega
   rcases this with rfl|rfl|rfl|rfl
   ·cases hv;exact(b0.cell (p:=(Ad (BB i) (O i+k*4))) b1).trans t0
   ·cases hv;exact(b0.cell (p:=(Ad (BB i) (O i+k*4+1))) b1).trans t1
   ·cases hv;exact(b0.cell (p:=(Ad (BB i) (O i+k*4+2))) b1).trans t2
   cases hv;exact(b0.cell (p:=(Ad (BB i) (O i+k*4+3))) b1).trans t3
  have a7:0<D.na i->∃ad,A i=some ad/\∀j v,(cat (arc4 D i) (D.na i))[j]?=some v->wd.cell? (ad.add j)=some v:=λh0=>⟨_,k5 h0,IK (by omega) (DO D i) λk j hk hj v hv=>f5 k j v hk hj hv⟩;have g8:=e1.o i g2;clear k1 k2 k3 k4 k5 k6 k7 f5;obtain⟨fi,b5⟩:=exq<|D.fin i;obtain⟨xa,e9⟩:∃x,x=A i:=⟨_,rfl⟩;obtain⟨xm,F⟩:∃x,x=D.na i:=⟨_,rfl⟩;obtain⟨xc,h3⟩:∃x,x=C i:=⟨_,rfl⟩;obtain⟨xs,X⟩:∃x,x=cat (arc4 D i) (D.na i):=⟨_,rfl⟩;have f4:xs.length=xm*4:=by rw[X,F];exact CS (DO D i) _
  have e8:∀u ∈ xs,u.oneCell'=true:=by rw[X];exact GH (λk v hv=>by simp[arc4]at hv;rcases hv with rfl|rfl|rfl|rfl<;>rfl) _
  rw[<-X,<-e9,<-F]at a7;rw[<-b5]at t0;rw[<-e9,<-F,<-h3]at t1;rw[<-F]at g8;have g:wd.cell? (Ad G 3)=some (.slice sa i sc)/\wd.cell? (Ad N 3)=some (.slice (some (Ad b d)) n cp)/\wd.cell? (Ad b (d+i*2))=some (.string fi)/\wd.cell? (Ad b (d+i*2+1))=some (.slice xa xm xc):=by rw[d0];exact⟨q3,m3,t0,t1⟩
  have l:=qh I;clear I;replace hd:=qh hd;replace a7:=qh a7;replace f4:=qh f4;replace e8:=qh e8;replace X:=qh X;replace b5:=qh b5;replace F:=qh F;clear e9 h3
  go_wp2_with fail
  refine AD (λwk=>wk.cell? (Ad G 3)=some (.slice sa i sc)/\wk.cell? (Ad N 3)=some (.slice (some (Ad b d)) n cp)/\wk.cell? (Ad b (d+i*2))=some (.string fi)/\wk.cell? (Ad b (d+i*2+1))=some (.slice xa xm xc)) 19 (by kernel_rfl) ?_;rw[<-d0];clear d0 q3 m3 t0 t1;refine Aa.tm 0 g ?_;refine Aa.tm 1 g ?_;refine Aa.tm 2 g ?_;refine Aa.tm 3 g ?_;refine Aa.tm 4 g ?_;refine Aa.tm 5 g ?_;refine Aa.tm 6 g ?_;refine Aa.tm 7 g ?_;refine Aa.tm 8 g ?_;refine Aa.tm 9 g ?_;refine Aa.tm 10 g ?_;refine Aa.tm 11 g ?_;refine Aa.tm 12 g ?_;refine Aa.tm 13 g ?_
  try simp only[Act.put,tryL]
  refine Aa.on 14 λK hK=>?_;refine Yu _ (.tmp 32) 61 rfl 59 i0 (.agg #[.int .i64 0,.int .i64 0,.string ⟨#[]⟩,.int .i64 0]) 4 40 underlying61 h9.o i6.o i7.o i8.o rfl (by omega) (by simp[Act.eval]) xa xm xc xs (by simp[Act.eval]) f4.o a7.o e8.o (by unfold maxLen;omega) (by omega) ?_;intro ga gc wx a2 B;have J:wx.cell? (Ad G 3)=some (.slice sa i sc)/\wx.cell? (Ad N 3)=some (.slice (some (Ad b d)) n cp)/\wx.cell? (Ad b (d+i*2))=some (.string fi)/\wx.cell? (Ad b (d+i*2+1))=some (.slice xa xm xc):=⟨B.cell g.1 (by simp),B.cell g.2.1 (by simp),B.cell g.2.2.1 (by simp),B.cell g.2.2.2 (by simp)⟩;refine hK.out _ _ (.inr J) ?_;clear hK K g;replace a2:=qh a2;replace B:=qh B
  try simp only[Act.put,tryL]
  refine Aa.tm 15 J ?_
  try simp only[Act.put,tryL]
  refine Aa.on 16 λK hK=>?_;go_simp;obtain⟨Z,W⟩:=exq<|wx.alloc (.cells #[.string fi,.slice ga xm gc] 63);obtain⟨H,hH⟩:=exq<|wx.heap.size;have m:wx.grownBy Z none:=by rw[W];exact World.grownBy_alloc _ _ _
  have e3:Z.heap[H]?=some (.cells #[.string fi,.slice ga xm gc] 63 (0,0)):=by rw[W,hH];exact han wx _
  have a8:Z.cell? (Ad G 3)=some (.slice sa i sc)/\Z.cell? (Ad N 3)=some (.slice (some (Ad b d)) n cp)/\Z.cell? (Ad b (d+i*2))=some (.string fi)/\Z.cell? (Ad b (d+i*2+1))=some (.slice xa xm xc):=⟨m.cell J.1 (by simp),m.cell J.2.1 (by simp),m.cell J.2.2.1 (by simp),m.cell J.2.2.2 (by simp)⟩;rw[<-W,<-hH];refine hK.out _ _ (.inr a8) ?_;clear hK K J;replace W:=qh W;replace hH:=qh hH;replace m:=qh m;replace e3:=qh e3
  try simp only[Act.put,tryL]
  have b3:Below w.heap.size w Z:=by
   have P:=l.o.be.trans<|hd.o.below l.o.be.size (λ_ e=>e.elim);exact(P.grown B.o P.size (by simp)).grown m.o (Nat.le_trans P.size B.o.size) (by simp)
  have E:wr.grownBy wx none:=BP hd.o.gbn B.o;have a5:Z.ownsRow w.heap.size 63 2 (.slice sa i sc) i (cat (st2 D R) i):=AG (AG l.o.ow.top E (λ_ _=>by simp)) m.o (λ_ _=>by simp);have g7:=(m.o.block N (by have P:=lbk l.o.km;have:=E.size;omega) (by simp)).trans ((E.block N (lbk l.o.km) (by simp)).trans l.o.km);have g9:=(m.o.block rb (by have P:=lbk l.o.kr;have:=E.size;omega) (by simp)).trans ((E.block rb (lbk l.o.kr) (by simp)).trans l.o.kr);have d2:=(m.o.block G (by have P:=lbk l.o.kn;have:=E.size;omega) (by simp)).trans ((E.block G (lbk l.o.kn) (by simp)).trans l.o.kn);have j6:=m.o.size;refine Aa.on 17 λK hK=>?_;refine wp_append_lies _ (.tmp 20) (.tmp 35) 23 rfl w.heap.size 63 i1 (.agg #[.string ⟨#[]⟩,.slice none 0 0]) 2 40 underlying23 i2.o i3.o i4.o i5.o rfl (by omega) (.slice sa i sc) i _ (by simp[Act.eval]) a5 (Ad H 0) 1 1 [.string fi,.slice ga xm gc] (by simp[Act.eval]) rfl (Dl e3.o) (by intro u hu;simp at hu;rcases hu with rfl|rfl<;>rfl) (by omega) (by unfold maxLen;omega) (by omega) b3.size Z.heap.size rfl ?_
  intro go gp we a4 s i9 g6;have b8:∀{bb:Nat} {c:Array Value},Z.heap[bb]?=some (.cells c 25 (0,0))->we.heap[bb]?=some (.cells c 25 (0,0)):=λ{bb c} h=>(s.block bb (lbk h) (λe=>Az a5 h (by decide) e.symm)).trans h;have a1:=b8 g7;have e6:=b8 g9;have L:=b8 d2;have d5:∀{p:Addr} {v:Value},p.block<w.heap.size->Z.cell? p=some v->we.cell? p=some v:=λ{p v} hp h=>s.cell h (λe=>by have:=(World.ownsRow.lt a5 p.block e.symm).1;omega);have a9:we.cell? (Ad G 3)=some (.slice sa i sc)/\we.cell? (Ad N 3)=some (.slice (some (Ad b d)) n cp)/\we.cell? (Ad b (d+i*2))=some (.string fi)/\we.cell? (Ad b (d+i*2+1))=some (.slice xa xm xc):=⟨(cells4 L).1.2.2.2,by rw[S.o]at a1;exact(cells4 a1).1.2.2.2,d5 b2 a8.2.2.1,d5 b2 a8.2.2.2⟩;refine hK.out _ _ (.inr a9) ?_;clear hK K a8
  try simp only[Act.put,tryL]
  refine Aa.tm 18 a9 ?_
  try simp only[Act.put,tryL]
  have g3:=a9.1;have f3:=(cells4 L).2 3;clear a9;have z:OwM we w.heap.size (.slice (some (Ad go 0)) (i+1) gp) (cpD D (i+1)) (λj=>if j=i then .slice ga xm gc else R j):=by
   have P:=a2.o;rw[X.o,F.o]at P;have h2:=a4;rw[b5.o]at h2;refine(l.o.ow.kept hd.o.gbn (by simp)).push (w1:=wx) (o:=.cells #[.string fi,.slice ga xm gc] 63) (by have:=l.o.be.size;have:=hd.o.size;omega) B.o (by rw[F.o];exact P) h2 (by rw[<-W.o];exact s)
  have d4:Below w.heap.size w we:=b3.grown s b3.size (λk hk=>(World.ownsRow.lt a5 k hk).1);replace z:=qh z;clear a4;replace d4:=qh d4;clear b3 s i9 g6 b8 d5 a5;replace a1:=qh a1;clear g7;replace e6:=qh e6;clear g9;replace L:=qh L;clear d2 E j6;refine Aa.on 19 λK hK=>?_;go_simp;refine hK.out _ _ (.inl rfl) (Aa.dn ?_);clear hK K;go_wp2;go_roundw
  case rel =>
   refine⟨i+1,_,_,by omega,by go_num,⟨d4.o.setCell (p:=(Ad G 3)) j0 _,by rw[Ay j2];exact a1.o,by rw[Ay j5];exact e6.o,?_,z.o.other (p:=(Ad G 3)) (Xj z.o L.o) (λj hj=>Az (z.o.row j hj) L.o (by decide)) _⟩⟩;simp[World.setCell,Array.getElem?_modify,L.o]
  simp[intOf];omega
 have d7:i=n:=by omega
 have Q:=I.kr;rw[d1.o]at Q;obtain⟨⟨r0,r1,r2,r3⟩,rz⟩:=cells4 Q;have f0:=rz 0;have f1:=rz 1;have f2:=rz 2;have f3:=rz 3;clear rz;have k9:¬((i:Int)<(n:Int)):=by omega
 replace d7:=qh d7;replace Q:=qh Q;have l:=qh I;clear I
 go_wp2_with fail
 refine bodyPost_ret (Ht rfl _ (b:=rb) rfl (AE wr rb _ _ _ _ Q.o)) rfl ⟨Ax l.o.be j1 _ _ _ _,_,R,rfl,?_⟩;have P:=l.o.ow;rw[show cpD D i=D by rw[d7.o,HN.o];rfl]at P;exact P.box4 Q.o _ _ _ _
structure ChI(w wr:World)(rb nb:Nat)(zc:Array Value)(D E:MD)(sv:Value)(R:Nat->Value):Prop where
 be:Below w.heap.size w wr
 kr:wr.heap[rb]?=some (.cells zc 25 (0,0))
 kn:wr.heap[nb]?=some (.cells #[.int .i64 D.kind,.int .i64 D.start,.string D.lead,sv] 25 (0,0))
 ow:OwM wr w.heap.size sv E R
theorem ChI.setIO{w wr:World}{rb nb:Nat}{m:Array Value}{D E:MD}{sv:Value}{R:Nat->Value}(h:ChI w wr rb nb m D E sv R){b ac q d:Nat}(j:q<E.n)(hd:d<E.na q)(k:R q=.slice (some (Ad b 0)) (E.na q) ac)(x y:Int):
  ChI w ((wr.setCell (Ad b (d*4)) (.int .i64 x)).setCell (Ad b (d*4+1)) (.int .i64 y)) rb nb m D (E.setIO q d x y) sv R:=by
 have hb:(R q).ownBlock=some b:=by rw[k];rfl
 have l:=(World.ownsRow.lt (h.ow.row q j) b hb).1;have g:∀{i:Nat} {c:Array Value},wr.heap[i]?=some (.cells c 25 (0,0))->i≠b:=λ{i c} o e=>Az (h.ow.row q j) o (by decide) (by rw[hb,e]);refine⟨(h.be.setCell (p:=(Ad b (d*4))) l _).setCell (p:=(Ad b (d*4+1))) l _,?_,?_,h.ow.setIO j hd k x y⟩
 ·rw[Ay (g h.kr),Ay (g h.kr)];exact h.kr
 rw[Ay (g h.kn),Ay (g h.kn)];exact h.kn
def ChI.drewS{wr:World}{rb nb:Nat}{E:MD}{x y:Value}{p q:Addr}(h:ChI w ((wr.setCell p x).setCell q y) rb nb c D E sv R):ChI w ((wr.drew.setCell p x).setCell q y) rb nb c D E sv R :=
 ⟨h.be.drew,h.kr,h.kn,⟨h.ow.top,h.ow.row,h.ow.apart⟩⟩
def OwM.io{ac q d:Nat}(h:OwM w B sv D R)(k:q<D.n)(hd:d<D.na q)(g:R q=.slice (some (Ad b 0)) (D.na q) ac):
  (w.cell? (Ad b (d*4))=some (.int .i64 (D.ain q d))/\w.cell? (Ad b (d*4+1))=some (.int .i64 (D.aout q d)))/\∀j,w.frozen? (Ad b j)=false:=by
 have c:=h.row q k;rw[g]at c;refine⟨⟨Cr c (by have:=Cw (DO D q) (i:=d) (j:=0) (by omega) hd;rw[Nat.add_zero]at this;rw[this];rfl),Cr c (by rw[Cw (DO D q) (i:=d) (j:=1) (by omega) hd];rfl)⟩,λj=>DD c j⟩
theorem ChI.start{w k g:World}{rb:Nat}{p:Array Value}{D:MD}{sv:Value}{R:Nat->Value}(c:Below w.heap.size w k)(o:k.heap[rb]?=some (.cells p 25 (0,0)))(h:Below k.heap.size k g)(l:OwM g k.heap.size sv D R):
  ChI w (g.alloc (.cells #[.int .i64 D.kind,.int .i64 D.start,.string D.lead,sv] 25)) rb g.heap.size p D D sv R:=by
 have m:=(h.block _ (lbk o)).trans o;have d:=(Below.refl g.heap.size g).alloc nlr (.cells #[.int .i64 D.kind,.int .i64 D.start,.string D.lead,sv] 25);have j:Below w.heap.size w g:=c.trans<|h.mono c.size;exact⟨j.trans (d.mono j.size),(d.block _ (lbk m)).trans m,han g _,
  ⟨Kj (AG l.top (Ae d none) (λ_ _=>by simp)) c.size,λi hi=>Kj (AG (l.row i hi) (Ae d none) (λ_ _=>by simp)) c.size,l.apart⟩⟩
def Xk(w:World)(hM:Ma none w mv D)(hV:VM D):Calls prog 33 #[mv] w (ClnE D.inv w):=by
 replace hV:=qh hV;obtain⟨sv,rfl,hS⟩:=hM;obtain⟨a,cp,b,e5,A,C,BB,O,rfl,_⟩:=hS.open;obtain⟨S,Q⟩:=exq<|#[Value.int .i64 0,.int .i64 0,.string ⟨#[]⟩,.slice none 0 0];obtain⟨U,z⟩:=exq<|w.alloc (.cells #[.int .i64 D.kind,.int .i64 D.start,.string D.lead,.slice a D.n cp] 25);obtain⟨W,E⟩:=exq<|U.alloc (.cells #[.int .i64 0,.int .i64 0,.string ⟨#[]⟩,.slice none 0 0] 25);have b7:U.heap.size=w.heap.size+1:=by rw[z];simp
 have b5:Fr (λ_=>False) w U:=by rw[z];exact Fr.alloc _ _
 have a5:Fr (λ_=>False) U W:=by rw[E];exact Fr.alloc _ _
 have b6:U.heap[w.heap.size]?=some (.cells #[.int .i64 D.kind,.int .i64 D.start,.string D.lead,.slice a D.n cp] 25 (0,0)):=by rw[z];exact han w _
 have I:W.heap[w.heap.size+1]?=some (.cells S 25 (0,0)):=by rw[<-b7,E,Q];exact han U _
 have a6:W.heap[w.heap.size]?=some (.cells #[.int .i64 D.kind,.int .i64 D.start,.string D.lead,.slice a D.n cp] 25 (0,0)):=(a5.block _ (by omega) (λe=>e)).trans b6;have H:Below w.heap.size w W:=(b5.trans a5).below nlr (λ_ e=>e.elim);obtain⟨mb,J⟩:=exq<|w.heap.size;obtain⟨F,a9⟩:=exq<|w.heap.size+1;have d3:w.heap.size<=F:=by omega
 rw[<-J]at a6;rw[<-a9]at I;obtain⟨⟨m0,m1,m2,m3⟩,_⟩:=cells4 a6;have b1:=qh<|Ro W (⟨_,rfl,hS.kept (Ae H none)⟩:Ma none W (.agg #[.int .i64 D.kind,.int .i64 D.start,.string D.lead,.slice a D.n cp]) D) hV.o;clear b5 a5 b6 b7 hS;replace H:=qh H;clear a6;replace I:=qh I;replace Q:=qh Q;rw[J,E,z]at m0 m1 m2 m3
 go_enter func33,ntmps33
 go_wp2_with fail
 rw[<-z,<-E,<-a9,<-J];clear m0 m1 m2 m3 z E a9 J;refine b1.o.mono ?_;rintro r w5⟨b3,sv,R,rfl,N⟩;clear b1;have k:=ChI.start H.o I.o b3 N;obtain⟨w6,P⟩:=exq<|w5.alloc (.cells #[.int .i64 D.kind,.int .i64 D.start,.string D.lead,sv] 25);obtain⟨T,a7⟩:=exq<|w5.heap.size;rw[<-P,<-a7]at k;have HI:=qh (show ChI w w6 F T S D (D.symP (λi o=>(o,i)) 0 0) sv R from by rw[Xn];exact k);clear k N b3;have d4:1<=D.n:=hV.o.n1;obtain⟨g,Z,b0,_,_,d2,d1⟩:=Ed HI.o.ow.top (show 0<D.n by omega);have b0:sv=.slice (some (Ad g 0)) D.n Z:=b0;subst b0;have d5:D.n<=3000:=hV.o.n2;have l:∀i,i<D.n->D.na i<=30000:=λi hi=>by have h1:=Nat.le_trans (DR D (show i+1<=D.n by omega)) hV.o.arcs;have h2:Ai D (i+1)=Ai D i+D.na i:=rfl;omega
 have b8:=qh l;clear l;unfold maxLen at d1;obtain⟨n,hn⟩:=exq<|D.n;rw[<-hn]at d4 d5;have HN:=qh hn;rw[<-hn];rw[<-hn]at HI P;clear hn d2
 go_wp2_with fail
 rw[<-P,<-a7];clear a7 P
 go_loopw [4,5,6] (λv7 _ _ wr=>∃q:Nat,q<=n/\v7=.int .i64 (q:Int)/\ChI w wr F T S D (D.symP (λi o=>(o,i)) q 0) (.slice (some (Ad g 0)) n Z) R) (λv7 _ _ _=>n-(intOf v7).toNat)
 case atStart=>exact⟨0,Nat.zero_le _,rfl,HI.o⟩
 obtain⟨q,hq,rfl,k⟩:=hrel;clear HI;obtain⟨⟨q0,q1,q2,q3⟩,_⟩:=cells4 k.kn;clear q0 q1 q2;have j:=qh k;clear k;by_cases e2:q<n
 ·have d6:(q:Int)<(n:Int):=by omega
  have e0:(0:Int)<=(q:Int):=by omega
  have u:q<D.n:=by have:=HN.o;omega
  obtain⟨ra,rc,hR,e4,d8⟩:=Au<|j.o.ow.row q u;unfold maxLen at d8;obtain⟨na,l⟩:=exq<|D.na q;have hR:R q=.slice ra na rc:=by rw[l];exact hR
  have e3:na<=30000:=by rw[l];exact b8.o q u
  have HR:=qh hR;clear hR;have G:=qh l;clear l
  go_wp2_with fail
  clear q3
  go_loopw [5,6] (λv8 _ wr=>∃d:Nat,d<=na/\v8=.int .i64 (d:Int)/\ChI w wr F T S D (D.symP (λi o=>(o,i)) q d) (.slice (some (Ad g 0)) n Z) R) (λv8 _ _=>na-(intOf v8).toNat)
  case atStart=>exact⟨0,Nat.zero_le _,rfl,j.o⟩
  obtain⟨d,hd,rfl,k⟩:=hrel;clear j;obtain⟨⟨q0,q1,q2,q3⟩,_⟩:=cells4 k.kn;clear q0 q1 q2;have N:=k.ow;rw[HN.o]at N;have a0:=OwM.arcs_cell (D:=D.symP (λi o=>(o,i)) q d) (i:=q) (g:=g) (cap:=Z) N u;rw[HR.o]at a0;by_cases e1:d<na
  ·have d0:(d:Int)<(na:Int):=by omega
   have d9:(0:Int)<=(d:Int):=by omega
   obtain⟨p,cq,m,_⟩:=Ed (N.row q u) (by show 0<D.na q;have:=G.o;omega);have m:R q=.slice (some (Ad p 0)) (D.na q) cq:=m;have d7:ra=some (Ad p 0):=by rw[HR.o]at m;injection m
   subst d7;obtain⟨⟨c0,c1⟩,fz⟩:=N.io u (by show d<D.na q;have:=G.o;omega) m;rw[(Pd _ D q d).1]at c0;rw[(Pd _ D q d).2]at c1;obtain⟨X,a2⟩:=exq<|D.ain q d;obtain⟨Y,a4⟩:=exq<|D.aout q d;rw[<-a2]at c0;rw[<-a4]at c1;have L:=k.setIO (b:=p) (ac:=cq) (q:=q) (d:=d) u (by show d<D.na q;have:=G.o;omega) m Y X;have L:ChI w ((wr.setCell (Ad p (d*4)) (.int .i64 Y)).setCell (Ad p (d*4+1)) (.int .i64 X)) F T S D (D.symP (λi o=>(o,i)) q (d+1)) (.slice (some (Ad g 0)) n Z) R:=by
    have h:=Xm (λi o=>(o,i)) D q d;rw[<-h,<-a2,<-a4];exact L
   have b2:=qh L;clear L m N k a2 a4;have f0:=fz<|d*4;have f1:=fz<|d*4+1;clear fz
   go_wp2_with fail
   clear q3 a0;obtain⟨wd,B⟩:=exq<|wr.drew;have c:wd.cell? (Ad p (d*4))=some (.int .i64 X)/\wd.cell? (Ad p (d*4+1))=some (.int .i64 Y):=by rw[B];exact⟨c0,c1⟩
   have f0:wd.frozen? (Ad p (d*4))=false:=by rw[B];exact f0
   have f1:wd.frozen? (Ad p (d*4+1))=false:=by rw[B];exact f1
   have b9:Hd (ChI w ((wd.setCell (Ad p (d*4)) (.int .i64 Y)).setCell (Ad p (d*4+1)) (.int .i64 X)) F T S D (D.symP (λi o=>(o,i)) q (d+1)) (.slice (some (Ad g 0)) n Z) R):=qh (by rw[B];exact b2.o.drewS);clear c0 c1 b2;refine Gd (λwk=>wk.cell? (Ad p (d*4))=some (.int .i64 X)/\wk.cell? (Ad p (d*4+1))=some (.int .i64 Y)) [1,10,11,12,13,14,15] (by kernel_rfl) ?_;rw[<-B];clear B;refine AnyL.tq 1 ?_
   try simp only[Act.put,tryL]
   refine AnyL.tm 0 c ?_;refine AnyL.tm 2 c ?_;refine AnyL.tm 3 c ?_;refine AnyL.tm 4 c ?_;refine AnyL.tm 5 c ?_;refine AnyL.tm 6 c ?_;refine AnyL.tm 7 c ?_;refine AnyL.tm 8 c ?_;refine AnyL.tm 9 c ?_
   try simp only[Act.put,tryL]
   refine AnyL.loose' (by kernel_rfl) ?_
   try simp only[Act.put,tryL]
   obtain⟨c0,c1⟩:=c;refine AnyL.tm 10 trivial ?_;refine AnyL.tm 11 trivial ?_
   try simp only[Act.put,tryL]
   refine AnyL.on 12 λK hK=>?_;go_simp;refine hK.out _ _ (.inr trivial) ?_;clear hK K
   try simp only[Act.put,tryL]
   refine AnyL.tm 13 trivial ?_;refine AnyL.tm 14 trivial ?_
   try simp only[Act.put,tryL]
   refine AnyL.on 15 λK hK=>?_;go_simp;refine hK.out _ _ (.inr trivial) (AnyL.dn ?_);clear hK K c0 c1 f0 f1;go_wp2;go_roundw
   case rel=>exact⟨d+1,by omega,by go_num,b9.o⟩
   simp[intOf];omega
  have b4:d=na:=by omega
  have a1:ChI w wr F T S D (D.symP (λi o=>(o,i)) (q+1) 0) (.slice (some (Ad g 0)) n Z) R:={ k with ow:=by have h:=k.ow;rw[b4,G.o]at h;exact h.symRow };replace a1:=qh a1;clear k N;have d0:¬((d:Int)<(na:Int)):=by omega
  clear b4;go_wp2;go_roundw
  case rel=>exact⟨q+1,by omega,by go_num,a1.o⟩
  simp[intOf];omega
 have a8:q=D.n:=by have:=HN.o;omega
 have d6:¬((q:Int)<(n:Int)):=by omega
 have s:=j.o.kr;rw[Q.o]at s;obtain⟨⟨r0,r1,r2,r3⟩,rz⟩:=cells4 s;have f0:=rz 0;have f1:=rz 1;have f2:=rz 2;have f3:=rz 3;clear rz;obtain⟨⟨m0,m1,m2,m3⟩,_⟩:=cells4 j.o.kn;replace a8:=qh a8;clear q3;replace s:=qh s
 go_wp2_with fail
 refine bodyPost_ret (Ht rfl _ (b:=F) rfl (AE wr F _ _ _ _ s.o)) rfl ⟨Ax j.o.be d3 _ _ _ _,_,R,rfl,?_⟩;exact(j.o.ow.symAll a8.o).box4 s.o _ _ _ _
end
end Go.Proofs.YtpldocnhbdlgfaaGreatDoor
