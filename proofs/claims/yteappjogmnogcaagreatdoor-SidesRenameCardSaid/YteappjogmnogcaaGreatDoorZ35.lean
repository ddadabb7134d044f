/- Parts. -/
import Derived.Test.YteappjogmnogcaaGreatDoorZ27
import Derived.Test.YteappjogmnogcaaGreatDoorZ25
import Derived.Deep.Upon
namespace Go.Proofs.YteappjogmnogcaaGreatDoor
set_option maxRecDepth 100000
set_option linter.all false
set_option maxHeartbeats 16000000
open Go Tryz
section
open Go.RowKit Go.Deep
variable{D:MD}{w:World}{mv sv:Value}{R:Nat->Value}{B b:Nat}{c:Array Value}
def z0a{P:Program}{o:Oper}{a:Act}{K:Act->World->Prop}{Q:Exit->Act->World->Prop}(s x:Operand)(t:TypeId)
  (N:o.op=.call { callee:=.builtin .append,args:=#[s,x],argTypes:=#[t,t] })
  (e:TypeId) (i:TypeInfo) (z:Value) (size k:Nat) (C:P.underlying t=some (.slice e)) (hi:P.info? e=some i) (X:i.zero=some z)
  (A:i.size=size) (F:i.bytes=k) (H:z.cells.size=size) (G:0<size) (O:a.eval s=.slice none 0 0)
  (D:Option Addr) (m c:Nat) (d:List Value) (R:a.eval x=.slice D m c) (J:d.length=m*size) (p:0<m->∃ad,D=some ad/\∀j u,d[j]?=some u->w.cell? (ad.add j)=some u) (T:∀u ∈ d,u.oneCell'=true)
  (E:m<=maxLen) (l:m*k<=140737488355328)
  (h:∀g cap w',w'.ownsRow w.heap.size e size (.slice g m cap) m d->w.grownBy w' none->K (a.put o.dst (.slice g m cap)) w'):o.wp P a w K Q:=by
 by_cases L:0<m
 ·obtain⟨ad,rfl,U⟩:=p L;refine wp_append_lies _ s x t N w.heap.size e i z size k C hi X A F H G (.slice none 0 0) 0 [] O (World.ownsRow_nil _ _ _ _) ad m c d R J U T L (by rw[Nat.zero_add];exact E) (by rw[Nat.zero_add];exact l) nlr _ rfl λg cap w' I S _ _=>?_;rw[Nat.zero_add,List.nil_append]at I;rw[Nat.zero_add];exact h _ cap w' I S
 obtain rfl:m=0:=by omega
 obtain rfl:d=[]:=List.eq_nil_of_length_eq_zero (by rw[J,Nat.zero_mul]);have B:Src P i.size t (.slice D 0 c) 0 [] w:=by
  cases D with
  |none=>exact Src.ofNil w C c
  |some ad=>exact Src.ofSlice w C ad 0 c [] (by simp) (by simp) (by simp)
 have W:=run_append_nothing (P:=P) w t t o.type e i C hi none 0 0 nlr _ B;unfold Oper.wp execOp;simp only[N,resolve,invoke,builtin,Sem.run_bind,Sem.run_pure,Result.andThen_ok,List.map_toArray,List.map_cons,List.map_nil,O,R,W];exact h none 0 w (World.ownsRow_nil _ _ _ _) (World.grownBy.refl _ _)
def Fr.gbn{c:World}(h:Fr (λ_=>False) w c):w.grownBy c none:=(h.mono (C':=λq=>none=some q) (λ_ _ e=>e.elim)).gb
def ClnE(D:MD)(w:World)(r:Ending)(w':World):Prop :=
 Below w.heap.size w w'/\∃sv R,r=.returned (.agg #[.int .i64 D.kind,.int .i64 D.start,.string D.lead,sv])/\OwM w' w.heap.size sv D R
structure ClI(w wr:World)(mb rb nb i:Nat)(mc zc:Array Value)(D:MD)(sv:Value)(R:Nat->Value):Prop where
 be:Below w.heap.size w wr
 km:wr.heap[mb]?=some (.cells mc 24 (0,0))
 kr:wr.heap[rb]?=some (.cells zc 24 (0,0))
 kn:wr.heap[nb]?=some (.cells #[.int .i64 D.kind,.int .i64 D.start,.string D.lead,sv] 24 (0,0))
 ow:OwM wr w.heap.size sv (cpD D i) R
def Zw{i:Nat}(h:OwM w B sv (cpD D i) R)(hb:w.heap[b]?=some (.cells c 24 (0,0))):sv.ownBlock≠some b:=Bj h.top hb (by decide)
def MC(w:World)(hM:Ma none w mv D)(hV:VM D):Calls prog 73 #[mv] w (ClnE D w):=by
 obtain⟨sv,rfl,hS⟩:=hM;obtain⟨a,cp,b,d,A,C,BB,O,rfl,ha,hc,hm,hb,a5⟩:=hS.open;obtain⟨i0,f5,h3,Y,h4⟩:=Fe Hl;obtain⟨i1,f7,g7,g8,g9⟩:=Fe Hm;have i9:1<=D.n:=hV.n1;have j0:D.n<=3000:=hV.n2;have d7:∀i,i<D.n->D.na i<=30000:=λi hi=>by have P:=Nat.le_trans (BA D (show i+1<=D.n by omega)) hV.arcs;have h2:Ac D (i+1)=Ac D i+D.na i:=rfl;omega
 obtain rfl:=ha (by omega);have b1:=(hb (by omega)).1;unfold maxLen at hm;obtain⟨n,hn⟩:=exq<|D.n;rw[<-hn]at i9 j0 hc;obtain⟨mc,S⟩:=exq<|#[Value.int .i64 D.kind,.int .i64 D.start,.string D.lead,.slice (some (Ad b d)) n cp];obtain⟨zc,c7⟩:=exq<|#[Value.int .i64 0,.int .i64 0,.string ⟨#[]⟩,.slice none 0 0];obtain⟨w1,T⟩:=exq<|w.alloc (.cells #[.int .i64 D.kind,.int .i64 D.start,.string D.lead,.slice (some (Ad b d)) n cp] 24);obtain⟨w2,U⟩:=exq<|w1.alloc (.cells #[.int .i64 0,.int .i64 0,.string ⟨#[]⟩,.slice none 0 0] 24);obtain⟨w3,b8⟩:=exq<|w2.alloc (.cells #[.int .i64 D.kind,.int .i64 D.start,.string D.lead,.slice none 0 0] 24);have Y:w1.heap.size=w.heap.size+1:=by rw[T];simp
 have c9:w2.heap.size=w.heap.size+1+1:=by rw[U];simp[Y]
 have f4:Fr (λ_=>False) w w1:=by rw[T];exact Fr.alloc _ _
 have d2:Fr (λ_=>False) w1 w2:=by rw[U];exact Fr.alloc _ _
 have b3:Fr (λ_=>False) w2 w3:=by rw[b8];exact Fr.alloc _ _
 have f9:w1.heap[w.heap.size]?=some (.cells mc 24 (0,0)):=by rw[T,S];exact han w _
 have g0:w2.heap[w.heap.size+1]?=some (.cells zc 24 (0,0)):=by rw[<-Y,U,c7];exact han w1 _
 have d4:w3.heap[w.heap.size+1+1]?=some (.cells #[.int .i64 D.kind,.int .i64 D.start,.string D.lead,.slice none 0 0] 24 (0,0)):=by rw[<-c9,b8];exact han w2 _
 have e0:w3.heap[w.heap.size+1]?=some (.cells zc 24 (0,0)):=(b3.block _ (by omega) (λe=>e)).trans g0;have b5:w2.heap[w.heap.size]?=some (.cells mc 24 (0,0)):=(d2.block _ (by omega) (λe=>e)).trans f9;have d6:w3.heap[w.heap.size]?=some (.cells mc 24 (0,0)):=(b3.block _ (by omega) (λe=>e)).trans b5;have e8:Below w.heap.size w w3:=((f4.trans d2).trans b3).below nlr (λ_ e=>e.elim);obtain⟨N,b6⟩:=exq<|w.heap.size;obtain⟨rb,e1⟩:=exq<|w.heap.size+1;obtain⟨G,d8⟩:=exq<|w.heap.size+1+1;have i6:w.heap.size<=G:=by omega
 have i7:w.heap.size<=rb:=by omega
 have i8:N≠G:=by omega
 have j1:rb≠G:=by omega
 have j6:N≠rb:=by omega
 rw[<-b6]at b5 d6;rw[<-e1]at e0;rw[<-d8]at d4;have I:ClI w w3 N rb G 0 mc zc D (.slice none 0 0) (λ_=>.slice none 0 0) :=
  ⟨e8,d6,e0,d4,⟨World.ownsRow_nil w3 _ _ 2,λ_ hi=>absurd hi (Nat.not_lt_zero _),λ_ _ hi=>absurd hi (Nat.not_lt_zero _)⟩⟩
 have e9:w2.heap[N]?=some (.cells #[.int .i64 D.kind,.int .i64 D.start,.string D.lead,.slice (some (Ad b d)) n cp] 24 (0,0)):=by rw[<-S];exact b5
 obtain⟨⟨m0,m1,m2,m3⟩,_⟩:=cells4 e9;clear f4 d2 b3 f9 g0 Y c9 e9;have HI:=qh I;clear I;replace a5:=qh a5;clear hS hb ha;replace d7:=qh d7;clear hV;replace S:=qh S;replace c7:=qh c7;clear b5 d6 e0 e8 d4;have h5:=qh f5;have i2:=qh h3;have i3:=qh Y;have i4:=qh h4;have h6:=qh f7;have h7:=qh g7;have h8:=qh g8;have h9:=qh g9;clear f5 h3 Y h4 f7 g7 g8 g9;have HN:=qh hn;rw[<-hn];clear hn;rw[b6,U,T]at m0 m1 m2 m3
 go_enter func73,ntmps73
 go_wp2_with fail
 rw[<-T,<-U,<-b8,<-d8,<-e1,<-b6];clear m0 m1 m2 m3 T U b8 d8 e1 b6
 go_loopw [4] (λv4 wr=>∃(i:Nat) (sv:Value) (R:Nat->Value),i<=n/\v4=.int .i64 (i:Int)/\ClI w wr N rb G i mc zc D sv R) (λv4 _=>n-(intOf v4).toNat)
 case atStart=>exact⟨0,_,_,Nat.zero_le _,rfl,HI.o⟩
 obtain⟨i,sv,R,hi,rfl,I⟩:=hrel;clear HI;have d5:=I.km;rw[S.o]at d5;obtain⟨⟨m0,m1,m2,m3⟩,_⟩:=cells4 d5;obtain⟨⟨q0,q1,q2,q3⟩,rz⟩:=cells4 I.kn;clear d5 m0 m1 m2 rz;obtain⟨sa,sc,e3,_,_⟩:=AC I.ow.top;have e3:sv=.slice sa i sc:=e3;subst e3;by_cases j5:i<n
 ·clear q0 q1 q2;have j4:(i:Int)<(n:Int):=by omega
  have j3:(0:Int)<=(i:Int):=by omega
  have f8:i<D.n:=by have:=HN.o;omega
  obtain⟨k1,k2,k3,k4,k5,k6,k7⟩:=a5.o i f8;have t0:=(I.be.cell (p:=(Ad b (d+i*2))) b1).trans k1;have t1:=(I.be.cell (p:=(Ad b (d+i*2+1))) b1).trans k2;obtain⟨wd,b9⟩:=exq<|wr.drew;have hd:Fr (λ_=>False) wr wd:=by rw[b9];exact(Fr.refl _ wr).drew
  have e7:∀k j v,k<D.na i->j<4->(arc4 D i k)[j]?=some v->wd.cell? (Ad (BB i) (O i+k*4+j))=some v:=λk j v hk hj hv=>by
   have a9:=(I.be.trans (hd.below I.be.size (λ_ e=>e.elim)));have b0:=(k6 (by omega)).1;obtain⟨t0,t1,t2,t3⟩:=k7 k hk;have:j=0\/j=1\/j=2\/j=3:=by omega
   rcases this with rfl|rfl|rfl|rfl
   ·cases hv;exact(a9.cell (p:=(Ad (BB i) (O i+k*4))) b0).trans t0
   ·cases hv;exact(a9.cell (p:=(Ad (BB i) (O i+k*4+1))) b0).trans t1
   ·cases hv;exact(a9.cell (p:=(Ad (BB i) (O i+k*4+2))) b0).trans t2
   cases hv;exact(a9.cell (p:=(Ad (BB i) (O i+k*4+3))) b0).trans t3
  have a6:0<D.na i->∃ad,A i=some ad/\∀j v,(cat (arc4 D i) (D.na i))[j]?=some v->wd.cell? (ad.add j)=some v:=λh0=>⟨_,k5 h0,Jm (by omega) (DV D i) λk j hk hj v hv=>e7 k j v hk hj hv⟩;have g4:=d7.o i f8;clear k1 k2 k3 k4 k5 k6 k7 e7;obtain⟨fi,b4⟩:=exq<|D.fin i;obtain⟨xa,e5⟩:∃x,x=A i:=⟨_,rfl⟩;obtain⟨xm,F⟩:∃x,x=D.na i:=⟨_,rfl⟩;obtain⟨xc,g6⟩:∃x,x=C i:=⟨_,rfl⟩;obtain⟨xs,X⟩:∃x,x=cat (arc4 D i) (D.na i):=⟨_,rfl⟩;have e6:xs.length=xm*4:=by rw[X,F];exact Cf (DV D i) _
  have e4:∀u ∈ xs,u.oneCell'=true:=by rw[X];exact GZ (λk v hv=>by simp[arc4]at hv;rcases hv with rfl|rfl|rfl|rfl<;>rfl) _
  rw[<-X,<-e5,<-F]at a6;rw[<-b4]at t0;rw[<-e5,<-F,<-g6]at t1;rw[<-F]at g4;have g:wd.cell? (Ad G 3)=some (.slice sa i sc)/\wd.cell? (Ad N 3)=some (.slice (some (Ad b d)) n cp)/\wd.cell? (Ad b (d+i*2))=some (.string fi)/\wd.cell? (Ad b (d+i*2+1))=some (.slice xa xm xc):=by rw[b9];exact⟨q3,m3,t0,t1⟩
  have l:=qh I;clear I;replace hd:=qh hd;replace a6:=qh a6;replace e6:=qh e6;replace e4:=qh e4;replace X:=qh X;replace b4:=qh b4;replace F:=qh F;clear e5 g6
  go_wp2_with fail
  refine Au (λwk=>wk.cell? (Ad G 3)=some (.slice sa i sc)/\wk.cell? (Ad N 3)=some (.slice (some (Ad b d)) n cp)/\wk.cell? (Ad b (d+i*2))=some (.string fi)/\wk.cell? (Ad b (d+i*2+1))=some (.slice xa xm xc)) 19 (by kernel_rfl) ?_;rw[<-b9];clear b9 q3 m3 t0 t1;refine Aa.tm 0 g ?_;refine Aa.tm 1 g ?_;refine Aa.tm 2 g ?_;refine Aa.tm 3 g ?_;refine Aa.tm 4 g ?_;refine Aa.tm 5 g ?_;refine Aa.tm 6 g ?_;refine Aa.tm 7 g ?_;refine Aa.tm 8 g ?_;refine Aa.tm 9 g ?_;refine Aa.tm 10 g ?_;refine Aa.tm 11 g ?_;refine Aa.tm 12 g ?_;refine Aa.tm 13 g ?_
  try simp only[Act.put,tryL]
  refine Aa.on 14 λK hK=>?_;refine z0a _ (.tmp 32) 55 rfl 59 i0 (.agg #[.int .i64 0,.int .i64 0,.string ⟨#[]⟩,.int .i64 0]) 4 40 underlying55 h5.o i2.o i3.o i4.o rfl (by omega) (by simp[Act.eval]) xa xm xc xs (by simp[Act.eval]) e6.o a6.o e4.o (by unfold maxLen;omega) (by omega) ?_;intro ga gc wx a2 B;have J:wx.cell? (Ad G 3)=some (.slice sa i sc)/\wx.cell? (Ad N 3)=some (.slice (some (Ad b d)) n cp)/\wx.cell? (Ad b (d+i*2))=some (.string fi)/\wx.cell? (Ad b (d+i*2+1))=some (.slice xa xm xc):=⟨B.cell g.1 (by simp),B.cell g.2.1 (by simp),B.cell g.2.2.1 (by simp),B.cell g.2.2.2 (by simp)⟩;refine hK.out _ _ (.inr J) ?_;clear hK K g;replace a2:=qh a2;replace B:=qh B
  try simp only[Act.put,tryL]
  refine Aa.tm 15 J ?_
  try simp only[Act.put,tryL]
  refine Aa.on 16 λK hK=>?_;go_simp;obtain⟨Z,W⟩:=exq<|wx.alloc (.cells #[.string fi,.slice ga xm gc] 57);obtain⟨H,hH⟩:=exq<|wx.heap.size;have m:wx.grownBy Z none:=by rw[W];exact World.grownBy_alloc _ _ _
  have d9:Z.heap[H]?=some (.cells #[.string fi,.slice ga xm gc] 57 (0,0)):=by rw[W,hH];exact han wx _
  have a7:Z.cell? (Ad G 3)=some (.slice sa i sc)/\Z.cell? (Ad N 3)=some (.slice (some (Ad b d)) n cp)/\Z.cell? (Ad b (d+i*2))=some (.string fi)/\Z.cell? (Ad b (d+i*2+1))=some (.slice xa xm xc):=⟨m.cell J.1 (by simp),m.cell J.2.1 (by simp),m.cell J.2.2.1 (by simp),m.cell J.2.2.2 (by simp)⟩;rw[<-W,<-hH];refine hK.out _ _ (.inr a7) ?_;clear hK K J;replace W:=qh W;replace hH:=qh hH;replace m:=qh m;replace d9:=qh d9
  try simp only[Act.put,tryL]
  have b2:Below w.heap.size w Z:=by
   have P:=l.o.be.trans<|hd.o.below l.o.be.size (λ_ e=>e.elim);exact(P.grown B.o P.size (by simp)).grown m.o (Nat.le_trans P.size B.o.size) (by simp)
  have E:wr.grownBy wx none:=AR hd.o.gbn B.o;have a4:Z.ownsRow w.heap.size 57 2 (.slice sa i sc) i (cat (st2 D R) i):=Bn (Bn l.o.ow.top E (λ_ _=>by simp)) m.o (λ_ _=>by simp);have g2:=(m.o.block N (by have P:=lbk l.o.km;have:=E.size;omega) (by simp)).trans ((E.block N (lbk l.o.km) (by simp)).trans l.o.km);have g5:=(m.o.block rb (by have P:=lbk l.o.kr;have:=E.size;omega) (by simp)).trans ((E.block rb (lbk l.o.kr) (by simp)).trans l.o.kr);have c8:=(m.o.block G (by have P:=lbk l.o.kn;have:=E.size;omega) (by simp)).trans ((E.block G (lbk l.o.kn) (by simp)).trans l.o.kn);have j2:=m.o.size;refine Aa.on 17 λK hK=>?_;refine wp_append_lies _ (.tmp 20) (.tmp 35) 22 rfl w.heap.size 57 i1 (.agg #[.string ⟨#[]⟩,.slice none 0 0]) 2 40 underlying22 h6.o h7.o h8.o h9.o rfl (by omega) (.slice sa i sc) i _ (by simp[Act.eval]) a4 (Ad H 0) 1 1 [.string fi,.slice ga xm gc] (by simp[Act.eval]) rfl (Fi d9.o) (by intro u hu;simp at hu;rcases hu with rfl|rfl<;>rfl) (by omega) (by unfold maxLen;omega) (by omega) b2.size Z.heap.size rfl ?_
  intro go gp we a3 s i5 g1;have b7:∀{bb:Nat} {c:Array Value},Z.heap[bb]?=some (.cells c 24 (0,0))->we.heap[bb]?=some (.cells c 24 (0,0)):=λ{bb c} h=>(s.block bb (lbk h) (λe=>Bj a4 h (by decide) e.symm)).trans h;have a1:=b7 g2;have e2:=b7 g5;have L:=b7 c8;have d1:∀{p:Addr} {v:Value},p.block<w.heap.size->Z.cell? p=some v->we.cell? p=some v:=λ{p v} hp h=>s.cell h (λe=>by have:=(World.ownsRow.lt a4 p.block e.symm).1;omega);have a8:we.cell? (Ad G 3)=some (.slice sa i sc)/\we.cell? (Ad N 3)=some (.slice (some (Ad b d)) n cp)/\we.cell? (Ad b (d+i*2))=some (.string fi)/\we.cell? (Ad b (d+i*2+1))=some (.slice xa xm xc):=⟨(cells4 L).1.2.2.2,by rw[S.o]at a1;exact(cells4 a1).1.2.2.2,d1 b1 a7.2.2.1,d1 b1 a7.2.2.2⟩;refine hK.out _ _ (.inr a8) ?_;clear hK K a7
  try simp only[Act.put,tryL]
  refine Aa.tm 18 a8 ?_
  try simp only[Act.put,tryL]
  have g3:=a8.1;have f3:=(cells4 L).2 3;clear a8;have z:OwM we w.heap.size (.slice (some (Ad go 0)) (i+1) gp) (cpD D (i+1)) (λj=>if j=i then .slice ga xm gc else R j):=by
   have P:=a2.o;rw[X.o,F.o]at P;have h2:=a3;rw[b4.o]at h2;refine(l.o.ow.kept hd.o.gbn (by simp)).push (w1:=wx) (o:=.cells #[.string fi,.slice ga xm gc] 57) (by have:=l.o.be.size;have:=hd.o.size;omega) B.o (by rw[F.o];exact P) h2 (by rw[<-W.o];exact s)
  have d0:Below w.heap.size w we:=b2.grown s b2.size (λk hk=>(World.ownsRow.lt a4 k hk).1);replace z:=qh z;clear a3;replace d0:=qh d0;clear b2 s i5 g1 b7 d1 a4;replace a1:=qh a1;clear g2;replace e2:=qh e2;clear g5;replace L:=qh L;clear c8 E j2;refine Aa.on 19 λK hK=>?_;go_simp;refine hK.out _ _ (.inl rfl) (Aa.dn ?_);clear hK K;go_wp2;go_roundw
  case rel =>
   refine⟨i+1,_,_,by omega,by go_num,⟨d0.o.setCell (p:=(Ad G 3)) i6 _,by rw[Ar i8];exact a1.o,by rw[Ar j1];exact e2.o,?_,z.o.other (p:=(Ad G 3)) (Zw z.o L.o) (λj hj=>Bj (z.o.row j hj) L.o (by decide)) _⟩⟩;simp[World.setCell,Array.getElem?_modify,L.o]
  simp[intOf];omega
 have d3:i=n:=by omega
 have Q:=I.kr;rw[c7.o]at Q;obtain⟨⟨r0,r1,r2,r3⟩,rz⟩:=cells4 Q;have f0:=rz 0;have f1:=rz 1;have f2:=rz 2;have f3:=rz 3;clear rz;have j7:¬((i:Int)<(n:Int)):=by omega
 replace d3:=qh d3;replace Q:=qh Q;have l:=qh I;clear I
 go_wp2_with fail
 refine bodyPost_ret (KG rfl _ (b:=rb) rfl (AG wr rb _ _ _ _ Q.o)) rfl ⟨AF l.o.be i7 _ _ _ _,_,R,rfl,?_⟩;have P:=l.o.ow;rw[show cpD D i=D by rw[d3.o,HN.o];rfl]at P;exact P.box4 Q.o _ _ _ _
structure ChI(w wr:World)(rb nb:Nat)(zc:Array Value)(D E:MD)(sv:Value)(R:Nat->Value):Prop where
 be:Below w.heap.size w wr
 kr:wr.heap[rb]?=some (.cells zc 24 (0,0))
 kn:wr.heap[nb]?=some (.cells #[.int .i64 D.kind,.int .i64 D.start,.string D.lead,sv] 24 (0,0))
 ow:OwM wr w.heap.size sv E R
theorem ChI.setIO{w wr:World}{rb nb:Nat}{m:Array Value}{D E:MD}{sv:Value}{R:Nat->Value}(h:ChI w wr rb nb m D E sv R){b ac q d:Nat}(j:q<E.n)(s:d<E.na q)(k:R q=.slice (some (Ad b 0)) (E.na q) ac)(x y:Int):
  ChI w ((wr.setCell (Ad b (d*4)) (.int .i64 x)).setCell (Ad b (d*4+1)) (.int .i64 y)) rb nb m D (E.setIO q d x y) sv R:=by
 have hb:(R q).ownBlock=some b:=by rw[k];rfl
 have l:=(World.ownsRow.lt (h.ow.row q j) b hb).1;have g:∀{i:Nat} {c:Array Value},wr.heap[i]?=some (.cells c 24 (0,0))->i≠b:=λ{i c} o e=>Bj (h.ow.row q j) o (by decide) (by rw[hb,e]);refine⟨(h.be.setCell (p:=(Ad b (d*4))) l _).setCell (p:=(Ad b (d*4+1))) l _,?_,?_,h.ow.setIO j s k x y⟩
 ·rw[Ar (g h.kr),Ar (g h.kr)];exact h.kr
 rw[Ar (g h.kn),Ar (g h.kn)];exact h.kn
def ChI.drewS{wr:World}{rb nb:Nat}{E:MD}{x y:Value}{p q:Addr}(h:ChI w ((wr.setCell p x).setCell q y) rb nb c D E sv R):ChI w ((wr.drew.setCell p x).setCell q y) rb nb c D E sv R :=
 ⟨h.be.drew,h.kr,h.kn,⟨h.ow.top,h.ow.row,h.ow.apart⟩⟩
def OwM.io{ac q d:Nat}(h:OwM w B sv D R)(l:q<D.n)(g:d<D.na q)(k:R q=.slice (some (Ad b 0)) (D.na q) ac):
  (w.cell? (Ad b (d*4))=some (.int .i64 (D.ain q d))/\w.cell? (Ad b (d*4+1))=some (.int .i64 (D.aout q d)))/\∀j,w.frozen? (Ad b j)=false:=by
 have c:=h.row q l;rw[k]at c;refine⟨⟨Dg c (by have:=Cv (DV D q) (i:=d) (j:=0) (by omega) g;rw[Nat.add_zero]at this;rw[this];rfl),Dg c (by rw[Cv (DV D q) (i:=d) (j:=1) (by omega) g];rfl)⟩,λj=>DK c j⟩
theorem ChI.start{w k g:World}{rb:Nat}{p:Array Value}{D:MD}{sv:Value}{R:Nat->Value}(c:Below w.heap.size w k)(o:k.heap[rb]?=some (.cells p 24 (0,0)))(h:Below k.heap.size k g)(l:OwM g k.heap.size sv D R):
  ChI w (g.alloc (.cells #[.int .i64 D.kind,.int .i64 D.start,.string D.lead,sv] 24)) rb g.heap.size p D D sv R:=by
 have m:=(h.block _ (lbk o)).trans o;have d:=(Below.refl g.heap.size g).alloc nlr (.cells #[.int .i64 D.kind,.int .i64 D.start,.string D.lead,sv] 24);have j:Below w.heap.size w g:=c.trans<|h.mono c.size;exact⟨j.trans (d.mono j.size),(d.block _ (lbk m)).trans m,han g _,
  ⟨Gx (Bn l.top (Ab d none) (λ_ _=>by simp)) c.size,λi hi=>Gx (Bn (l.row i hi) (Ab d none) (λ_ _=>by simp)) c.size,l.apart⟩⟩
def Tk(w:World)(hM:Ma none w mv D)(d0:MSz D):Calls prog 59 #[mv,.int .i64 1] w (MkE (VM D) D.inv 1 w):=by
 obtain⟨sv,rfl,hS⟩:=hM;obtain⟨a,cp,b,f5,A,C,BB,O,rfl,_⟩:=hS.open;obtain⟨X,I⟩:=exq<|#[Value.int .i64 0,.int .i64 0,.string ⟨#[]⟩,.slice none 0 0];obtain⟨Z,E⟩:=exq<|w.alloc (.cells #[.int .i64 D.kind,.int .i64 D.start,.string D.lead,.slice a D.n cp] 24);obtain⟨w3,H⟩:=exq<|Z.alloc (.cells #[.int .i64 0,.int .i64 0,.string ⟨#[]⟩,.slice none 0 0] 24);have d1:Z.heap.size=w.heap.size+1:=by rw[E];simp
 have c7:Fr (λ_=>False) w Z:=by rw[E];exact Fr.alloc _ _
 have a8:Fr (λ_=>False) Z w3:=by rw[H];exact Fr.alloc _ _
 have c8:Z.heap[w.heap.size]?=some (.cells #[.int .i64 D.kind,.int .i64 D.start,.string D.lead,.slice a D.n cp] 24 (0,0)):=by rw[E];exact han w _
 have a9:w3.heap[w.heap.size+1]?=some (.cells X 24 (0,0)):=by rw[<-d1,H,I];exact han Z _
 have P:w3.heap[w.heap.size]?=some (.cells #[.int .i64 D.kind,.int .i64 D.start,.string D.lead,.slice a D.n cp] 24 (0,0)):=(a8.block _ (by omega) (λe=>e)).trans c8;have a7:Below w.heap.size w w3:=(c7.trans a8).below nlr (λ_ e=>e.elim);obtain⟨mb,Q⟩:=exq<|w.heap.size;obtain⟨G,b3⟩:=exq<|w.heap.size+1;have c9:w.heap.size<=G:=by omega
 rw[<-Q]at P;rw[<-b3]at a9;obtain⟨⟨m0,m1,m2,m3⟩,_⟩:=cells4 P;have b7:=qh<|CR w3 (⟨_,rfl,hS.kept (Ab a7 none)⟩:Ma none w3 (.agg #[.int .i64 D.kind,.int .i64 D.start,.string D.lead,.slice a D.n cp]) D) d0;have d3:=qh<|show ∀W,Below w.heap.size w W->Ma none W (.agg #[.int .i64 D.kind,.int .i64 D.start,.string D.lead,.slice a D.n cp]) D from λW h=>⟨_,rfl,hS.kept (Ab h none)⟩;clear c7 a8 c8 d1 hS d0;have a1:=qh a7;clear a7;have a2:=qh P;clear P;have a3:=qh a9;clear a9;replace I:=qh I;rw[Q,H,E]at m0 m1 m2 m3
 go_enter func59,ntmps59
 go_wp2_with fail
 rw[<-E,<-H,<-b3,<-Q];clear m0 m1 m2 m3 E H b3 Q;refine b7.o.mono ?_;rintro r w4⟨N,hr⟩;have j:=a1.o.trans<|N.mono a1.o.size;have b0:=(N.block _ (lbk a2.o)).trans a2.o;have B:=(N.block _ (lbk a3.o)).trans a3.o;clear N b7 a1 a2 a3;replace j:=qh j;have d6:=qh B
 rcases hr with⟨hv,rfl⟩|⟨hv,rfl⟩
 rotate_left
 ·rw[I.o]at B;obtain⟨⟨r0,r1,r2,r3⟩,J⟩:=cells4 B;have f0:=J 0;have f1:=J 1;have f2:=J 2;have f3:=J 3;clear J b0;have HV:=qh hv;clear hv;have d2:=qh B;clear B
  go_wp2_with fail
  refine bodyPost_ret (AH rfl _ (b:=G) rfl rfl (AG w4 G _ _ _ _ d2.o)) rfl ⟨AF j.o c9 _ _ _ _,.inr ⟨HV.o,rfl⟩⟩
 clear B;obtain⟨⟨m0,m1,m2,m3⟩,_⟩:=cells4 b0;have b5:=qh<|MC w4 (d3.o w4 j.o) hv;have HV:=qh hv;clear hv b0
 go_wp2_with fail
 clear m0 m1 m2 m3;refine b5.o.mono ?_;rintro r w5⟨b8,sv,R,rfl,T⟩;clear b5;have l:=ChI.start j.o d6.o b8 T;obtain⟨w6,U⟩:=exq<|w5.alloc (.cells #[.int .i64 D.kind,.int .i64 D.start,.string D.lead,sv] 24);obtain⟨Y,b1⟩:=exq<|w5.heap.size;rw[<-U,<-b1]at l;have HI:=qh (show ChI w w6 G Y X D (D.symP (λi o=>(o,i)) 0 0) sv R from by rw[QE];exact l);clear l T b8;have e0:1<=D.n:=HV.o.n1;obtain⟨g,gp,b4,_,_,d9,d8⟩:=DL HI.o.ow.top (show 0<D.n by omega);have b4:sv=.slice (some (Ad g 0)) D.n gp:=b4;subst b4;have e1:D.n<=3000:=HV.o.n2;have m:∀i,i<D.n->D.na i<=30000:=λi hi=>by have h1:=Nat.le_trans (BA D (show i+1<=D.n by omega)) HV.o.arcs;have h2:Ac D (i+1)=Ac D i+D.na i:=rfl;omega
 have d4:=qh m;clear m;unfold maxLen at d8;obtain⟨n,hn⟩:=exq<|D.n;rw[<-hn]at e0 e1;have HN:=qh hn;rw[<-hn];rw[<-hn]at HI U;clear hn d9
 go_wp2_with fail
 rw[<-U,<-b1];clear b1 U
 go_loopw [7,8,9] (λv7 _ _ wr=>∃q:Nat,q<=n/\v7=.int .i64 (q:Int)/\ChI w wr G Y X D (D.symP (λi o=>(o,i)) q 0) (.slice (some (Ad g 0)) n gp) R) (λv7 _ _ _=>n-(intOf v7).toNat)
 case atStart=>exact⟨0,Nat.zero_le _,rfl,HI.o⟩
 obtain⟨q,hq,rfl,l⟩:=hrel;clear HI;obtain⟨⟨q0,q1,q2,q3⟩,_⟩:=cells4 l.kn;clear q0 q1 q2;have k:=qh l;clear l;by_cases e8:q<n
 ·have e2:(q:Int)<(n:Int):=by omega
  have e6:(0:Int)<=(q:Int):=by omega
  have z:q<D.n:=by have:=HN.o;omega
  obtain⟨ra,rc,hR,f4,e4⟩:=AC<|k.o.ow.row q z;unfold maxLen at e4;obtain⟨na,m⟩:=exq<|D.na q;have hR:R q=.slice ra na rc:=by rw[m];exact hR
  have e9:na<=30000:=by rw[m];exact d4.o q z
  have HR:=qh hR;clear hR;have L:=qh m;clear m
  go_wp2_with fail
  clear q3
  go_loopw [8,9] (λv8 _ wr=>∃d:Nat,d<=na/\v8=.int .i64 (d:Int)/\ChI w wr G Y X D (D.symP (λi o=>(o,i)) q d) (.slice (some (Ad g 0)) n gp) R) (λv8 _ _=>na-(intOf v8).toNat)
  case atStart=>exact⟨0,Nat.zero_le _,rfl,k.o⟩
  obtain⟨d,hd,rfl,l⟩:=hrel;clear k;obtain⟨⟨q0,q1,q2,q3⟩,_⟩:=cells4 l.kn;clear q0 q1 q2;have T:=l.ow;rw[HN.o]at T;have a0:=OwM.arcs_cell (D:=D.symP (λi o=>(o,i)) q d) (i:=q) (g:=g) (cap:=gp) T z;rw[HR.o]at a0;by_cases e7:d<na
  ·have d7:(d:Int)<(na:Int):=by omega
   have e5:(0:Int)<=(d:Int):=by omega
   obtain⟨s,cq,p,_⟩:=DL (T.row q z) (by show 0<D.na q;have:=L.o;omega);have p:R q=.slice (some (Ad s 0)) (D.na q) cq:=p;have e3:ra=some (Ad s 0):=by rw[HR.o]at p;injection p
   subst e3;obtain⟨⟨c0,c1⟩,fz⟩:=T.io z (by show d<D.na q;have:=L.o;omega) p;rw[(IE _ D q d).1]at c0;rw[(IE _ D q d).2]at c1;obtain⟨ai,a5⟩:=exq<|D.ain q d;obtain⟨ao,a6⟩:=exq<|D.aout q d;rw[<-a5]at c0;rw[<-a6]at c1;have S:=l.setIO (b:=s) (ac:=cq) (q:=q) (d:=d) z (by show d<D.na q;have:=L.o;omega) p ao ai;have S:ChI w ((wr.setCell (Ad s (d*4)) (.int .i64 ao)).setCell (Ad s (d*4+1)) (.int .i64 ai)) G Y X D (D.symP (λi o=>(o,i)) q (d+1)) (.slice (some (Ad g 0)) n gp) R:=by
    have h:=QD (λi o=>(o,i)) D q d;rw[<-h,<-a5,<-a6];exact S
   have b6:=qh S;clear S p T l a5 a6;have f0:=fz<|d*4;have f1:=fz<|d*4+1;clear fz
   go_wp2_with fail
   clear q3 a0;obtain⟨wd,F⟩:=exq<|wr.drew;have c:wd.cell? (Ad s (d*4))=some (.int .i64 ai)/\wd.cell? (Ad s (d*4+1))=some (.int .i64 ao):=by rw[F];exact⟨c0,c1⟩
   have f0:wd.frozen? (Ad s (d*4))=false:=by rw[F];exact f0
   have f1:wd.frozen? (Ad s (d*4+1))=false:=by rw[F];exact f1
   have d5:Hd (ChI w ((wd.setCell (Ad s (d*4)) (.int .i64 ao)).setCell (Ad s (d*4+1)) (.int .i64 ai)) G Y X D (D.symP (λi o=>(o,i)) q (d+1)) (.slice (some (Ad g 0)) n gp) R):=qh (by rw[F];exact b6.o.drewS);clear c0 c1 b6;refine Io (λwk=>wk.cell? (Ad s (d*4))=some (.int .i64 ai)/\wk.cell? (Ad s (d*4+1))=some (.int .i64 ao)) [1,10,11,12,13,14,15] (by kernel_rfl) ?_;rw[<-F];clear F;refine AnyL.tq 1 ?_
   try simp only[Act.put,tryL]
   refine AnyL.tm 0 c ?_;refine AnyL.tm 2 c ?_;refine AnyL.tm 3 c ?_;refine AnyL.tm 4 c ?_;refine AnyL.tm 5 c ?_;refine AnyL.tm 6 c ?_;refine AnyL.tm 7 c ?_;refine AnyL.tm 8 c ?_;refine AnyL.tm 9 c ?_
   try simp only[Act.put,tryL]
   refine AnyL.loose' (by kernel_rfl) ?_
   try simp only[Act.put,tryL]
   obtain⟨c0,c1⟩:=c;refine AnyL.tm 10 trivial ?_;refine AnyL.tm 11 trivial ?_
   try simp only[Act.put,tryL]
   refine AnyL.on 12 λK hK=>?_;go_simp;refine hK.out _ _ (.inr trivial) ?_;clear hK K
   try simp only[Act.put,tryL]
   refine AnyL.tm 13 trivial ?_;refine AnyL.tm 14 trivial ?_
   try simp only[Act.put,tryL]
   refine AnyL.on 15 λK hK=>?_;go_simp;refine hK.out _ _ (.inr trivial) (AnyL.dn ?_);clear hK K c0 c1 f0 f1;go_wp2;go_roundw
   case rel=>exact⟨d+1,by omega,by go_num,d5.o⟩
   simp[intOf];omega
  have b9:d=na:=by omega
  have a4:ChI w wr G Y X D (D.symP (λi o=>(o,i)) (q+1) 0) (.slice (some (Ad g 0)) n gp) R:={ l with ow:=by have h:=l.ow;rw[b9,L.o]at h;exact h.symRow };replace a4:=qh a4;clear l T;have d7:¬((d:Int)<(na:Int)):=by omega
  clear b9;go_wp2;go_roundw
  case rel=>exact⟨q+1,by omega,by go_num,a4.o⟩
  simp[intOf];omega
 have b2:q=D.n:=by have:=HN.o;omega
 have e2:¬((q:Int)<(n:Int)):=by omega
 have u:=k.o.kr;rw[I.o]at u;obtain⟨⟨r0,r1,r2,r3⟩,J⟩:=cells4 u;have f0:=J 0;have f1:=J 1;have f2:=J 2;have f3:=J 3;clear J;obtain⟨⟨m0,m1,m2,m3⟩,_⟩:=cells4 k.o.kn;replace b2:=qh b2;clear q3;replace u:=qh u
 go_wp2_with fail
 refine bodyPost_ret (AH rfl _ (b:=G) rfl rfl (AG wr G _ _ _ _ u.o)) rfl ⟨AF k.o.be c9 _ _ _ _,.inl ⟨HV.o,_,R,rfl,?_⟩⟩;exact(k.o.ow.symAll b2.o).box4 u.o _ _ _ _
def OwM.base{c:Nat}(h:OwM w c sv D R)(d:B<=c):OwM w B sv D R:=⟨Gx h.top d,λi hi=>Gx (h.row i hi) d,h.apart⟩
def Yk(w:World)(Y:Ma none w mv D)(G:MSz D):Calls prog 24 #[mv] w (MkE (VM D) D.inv 1 w):=by
 obtain⟨sv,rfl,N⟩:=Y;obtain⟨a,L,_,_,_,_,_,_,j,_⟩:=N.open;subst j;obtain⟨m,h⟩:=exq<|w.alloc (.cells #[.int .i64 D.kind,.int .i64 D.start,.string D.lead,.slice a D.n L] 24);obtain⟨l,k⟩:=exq<|m.alloc (.cells #[.int .i64 0,.int .i64 0,.string ⟨#[]⟩,.slice none 0 0] 24);have I:m.heap.size=w.heap.size+1:=by rw[h];simp
 have C:Fr (λ_=>False) w m:=by rw[h];exact Fr.alloc _ _
 have p:Fr (λ_=>False) m l:=by rw[k];exact Fr.alloc _ _
 have E:m.heap[w.heap.size]?=some (.cells #[.int .i64 D.kind,.int .i64 D.start,.string D.lead,.slice a D.n L] 24 (0,0)):=by rw[h];exact han w _
 have i:l.heap[w.heap.size+1]?=some (.cells #[.int .i64 0,.int .i64 0,.string ⟨#[]⟩,.slice none 0 0] 24 (0,0)):=by rw[<-I,k];exact han m _
 have s:l.heap[w.heap.size]?=some (.cells #[.int .i64 D.kind,.int .i64 D.start,.string D.lead,.slice a D.n L] 24 (0,0)):=(p.block _ (by omega) (λe=>e)).trans E;have d:Below w.heap.size w l:=(C.trans p).below nlr (λ_ e=>e.elim);obtain⟨U,u⟩:=exq<|w.heap.size;obtain⟨A,z⟩:=exq<|w.heap.size+1;have F:w.heap.size<=A:=by omega
 rw[<-u]at s;rw[<-z]at i;obtain⟨⟨m0,m1,S,T⟩,_⟩:=cells4 s;have B:=qh<|Tk l (⟨_,rfl,N.kept (Ab d none)⟩:Ma none l (.agg #[.int .i64 D.kind,.int .i64 D.start,.string D.lead,.slice a D.n L]) D) G;clear C p E I N G s;replace d:=qh d;replace i:=qh i;rw[u,k,h]at m0 m1 S T
 go_enter func24,ntmps24
 go_wp2_with fail
 rw[<-h,<-k,<-z];clear m0 m1 S T h k z u;refine B.o.mono ?_;rintro r Q⟨o,P⟩;have g:=(o.block _ (lbk i.o)).trans i.o;have c:=d.o.trans<|o.mono d.o.size;obtain⟨⟨r0,r1,r2,r3⟩,J⟩:=cells4 g;have Z:=J 0;have f1:=J 1;have f2:=J 2;have f3:=J 3;clear J o B;replace c:=qh c;replace g:=qh g;have P:(VM D/\∃sv R,r=.returned (.tuple #[.agg #[.int .i64 D.kind,.int .i64 D.start,.string D.lead,sv],.int .i64 0])/\OwM Q l.heap.size sv D.inv R)\/(¬VM D/\r=.returned (.tuple #[AE,.int .i64 1])):=P
 rcases P with⟨H,sv,R,rfl,O⟩|⟨H,rfl⟩
 ·obtain⟨W,X,j,_,_⟩:=AC O.top;have j:sv=.slice W D.n X:=j;subst j;have K:=qh<|And.intro H O;clear H O
  go_wp2_with fail
  refine bodyPost_ret (AH rfl _ (b:=A) rfl rfl (AG Q A _ _ _ _ g.o)) rfl ⟨AF c.o F _ _ _ _,.inl ⟨K.o.1,_,R,rfl,?_⟩⟩;exact(K.o.2.base d.o.size).box4 g.o _ _ _ _
 have K:=qh H;clear H;unfold AE
 go_wp2_with fail
 refine bodyPost_ret (AH rfl _ (b:=A) rfl rfl (AG Q A _ _ _ _ g.o)) rfl ⟨AF c.o F _ _ _ _,.inr ⟨K.o,rfl⟩⟩
end
end Go.Proofs.YteappjogmnogcaaGreatDoor
