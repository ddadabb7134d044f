/- Parts. -/
import Derived.Test.YtpldocnhbdlgfaaGreatDoorPa13
import Derived.Test.YtpldocnhbdlgfaaGreatDoorPa14
import Derived.Test.YtpldocnhbdlgfaaGreatDoorPa11
namespace Go.Proofs.YtpldocnhbdlgfaaGreatDoor
set_option maxRecDepth 100000
set_option linter.all false
set_option maxHeartbeats 16000000
open Go Tryz
section
open Go.RowKit Go.Deep
def Ac(E:MD):MD:=⟨1,0,⟨#[48]⟩,E.na 0+1,λi=>if i=E.na 0 then ⟨#[48]⟩ else ⟨#[]⟩,λi=>if i<E.na 0 then 1 else 0,λi _=>E.ain 0 i,λi _=>E.aout 0 i,λi _=>E.aw 0 i,λi _=>(i:Int)+1⟩
def LnE(D:MD)(w:World)(r:Ending)(w':World):Prop:=Below w.heap.size w w'/\∃sv R,r=.returned (.agg #[.int .i64 D.kind,.int .i64 D.start,.string D.lead,sv])/\OwM w' w.heap.size sv D R
def LnI(E:MD)(w:World)(rb mb:Nat)(i:Nat)(wr:World):Prop :=
 Below w.heap.size w wr/\wr.heap[rb]?=some (.cells #[.int .i64 0,.int .i64 0,.string ⟨#[]⟩,.slice none 0 0] 25 (0,0))/\
 ∃sv R,wr.heap[mb]?=some (.cells #[.int .i64 1,.int .i64 0,.string ⟨#[48]⟩,sv] 25 (0,0))/\OwM wr w.heap.size sv (cpD (Ac E) i) R
def DZ{E:MD}{v:Value}(w:World)(hA:ArS none w v E 0)(hn:E.na 0<=1000):Calls prog 43 #[v] w (LnE (Ac E) w):=by
 obtain⟨n,B⟩:=exq<|E.na 0;have g7:∃a c,v=.slice a n c/\n<=c/\c<=maxLen/\(0<n->∃b o,a=some (Ad b o)/\b<w.heap.size/\∀k,k<n->w.cell? (Ad b (o+k*4))=some (.int .i64 (E.ain 0 k))/\w.cell? (Ad b (o+k*4+1))=some (.int .i64 (E.aout 0 k))/\w.cell? (Ad b (o+k*4+2))=some (.string (E.aw 0 k))/\w.cell? (Ad b (o+k*4+3))=some (.int .i64 (E.ato 0 k))):=by
  rcases hA with⟨h0,a,c,hv,hc⟩|⟨b,o,c,hv,h1,h2,h3,h4⟩
  ·exact⟨a,c,by rw[hv,B,h0],by omega,hc,λh=>by omega⟩
  exact⟨_,c,by rw[hv,B],by omega,h3,λ_=>⟨b,o,rfl,h1.1,λk hk=>h4 k (by omega)⟩⟩
 obtain⟨a,c,rfl,g9,g3,I⟩:=g7;unfold maxLen at g3;rw[<-B]at hn;replace I:=qh I;clear hA;obtain⟨w1,a5⟩:=exq<|w.alloc (.cells #[.int .i64 0,.int .i64 0,.string ⟨#[]⟩,.slice none 0 0] 25);obtain⟨w2,b0⟩:=exq<|w1.alloc (.cells #[.int .i64 1,.int .i64 0,.string ⟨#[48]⟩,.slice none 0 0] 25);have f8:w1.heap.size=w.heap.size+1:=by rw[a5];simp
 obtain⟨L,d8⟩:=exq<|w.heap.size;obtain⟨s,d3⟩:=exq<|w.heap.size+1;have e8:Below w.heap.size w w1:=by rw[a5];exact(Below.refl _ w).alloc nlr _
 have Z:Below w1.heap.size w1 w2:=by rw[b0];exact(Below.refl _ w1).alloc nlr _
 have d1:w1.heap[L]?=some (.cells #[.int .i64 0,.int .i64 0,.string ⟨#[]⟩,.slice none 0 0] 25 (0,0)):=by rw[a5,d8];exact han w _
 have e9:=(Z.block _ (lbk d1)).trans d1;have f2:w2.heap[s]?=some (.cells #[.int .i64 1,.int .i64 0,.string ⟨#[48]⟩,.slice none 0 0] 25 (0,0)):=by rw[d3,<-f8,b0];exact han w1 _
 have h0:LnI E w L s 0 w2:=⟨e8.trans (Z.mono (by omega)),e9,.slice none 0 0,λ_=>.slice none 0 0,f2,World.ownsRow_nil _ _ _ _,λi hi=>absurd hi (Nat.not_lt_zero _),λi j hi=>absurd hi (Nat.not_lt_zero _)⟩;have H0:=qh h0;clear h0 d1 e9 f2 e8 Z;have f7:L≠s:=by omega
 have g5:w.heap.size<=L:=by omega
 have f0:w.heap.size<=s:=by omega
 have Q:=qh B;clear B
 go_enter func43,ntmps43
 go_wp2_with fail
 rw[<-a5,<-b0,<-d3,<-d8];clear a5 b0 d8 d3 f8
 go_loopw [4] (λi wr=>∃q:Nat,q<=n/\i=.int .i64 (q:Int)/\LnI E w L s q wr) (λi _=>n-(intOf i).toNat)
 case atStart=>exact⟨0,Nat.zero_le _,rfl,H0.o⟩
 clear H0;obtain⟨q,hq,rfl,m,A,sv,R,l,g⟩:=hrel;by_cases d2:q<n
 ·have g8:(q:Int)<(n:Int):=by omega
  obtain⟨b,o,rfl,a8,hc⟩:=I.o (by omega);obtain⟨k0,k1,k2,k3⟩:=hc q d2;have y0:=(m.cell (p:=(Ad b (o+q*4))) a8).trans k0;have y1:=(m.cell (p:=(Ad b (o+q*4+1))) a8).trans k1;have y2:=(m.cell (p:=(Ad b (o+q*4+2))) a8).trans k2;have y3:=(m.cell (p:=(Ad b (o+q*4+3))) a8).trans k3;clear k0 k1 k2 k3 hc;obtain⟨sa,sc,e6,_,_⟩:=Ax g.top;subst e6;have m3:=(cells4 l).1.2.2.2;have mz:=(cells4 l).2 3;have d4:s<wr.heap.size:=lbk l;have d9:L<wr.heap.size:=lbk A;obtain⟨i1,a4,D,F,G⟩:=CY FQ;obtain⟨W1,a6⟩:=exq<|wr.alloc (.cells #[.int .i64 (E.ain 0 q),.int .i64 (E.aout 0 q),.string (E.aw 0 q),.int .i64 ((q:Int)+1)] 59);obtain⟨O,Y⟩:=exq<|W1.alloc (.cells #[.int .i64 (E.ain 0 q),.int .i64 (E.aout 0 q),.string (E.aw 0 q),.int .i64 ((q:Int)+1)] 59);have e3:W1.heap.size=wr.heap.size+1:=by rw[a6];simp
  have e5:O.heap.size=wr.heap.size+1+1:=by rw[Y];simp[e3]
  have a9:wr.grownBy O none:=by
   have h1:Below wr.heap.size wr O:=by rw[Y,a6];exact((Below.refl _ wr).alloc nlr _).alloc (by simp) _
   exact Ab h1 none
  have a7:Below wr.heap.size wr O:=by rw[Y,a6];exact((Below.refl _ wr).alloc nlr _).alloc (by simp) _
  have e7:O.ownsRow wr.heap.size 59 4 (.slice (some (Ad (wr.heap.size+1) 0)) 1 1) 1 [.int .i64 (E.ain 0 q),.int .i64 (E.aout 0 q),.string (E.aw 0 q),.int .i64 ((q:Int)+1)] :=
   ⟨rfl,.inr ⟨wr.heap.size+1,1,#[.int .i64 (E.ain 0 q),.int .i64 (E.aout 0 q),.string (E.aw 0 q),.int .i64 ((q:Int)+1)],rfl,by omega,by rw[<-e3,Y];exact han W1 _,nlr,by unfold maxLen;omega,rfl,rfl⟩⟩
  have d6:∀o,(O.alloc o).heap[wr.heap.size+1+1]?=some o:=λo=>by rw[<-e5];exact han O o
  have C:O.ownsRow w.heap.size 63 2 (.slice sa q sc) q (cat (st2 (Ac E) R) q):=AK g.top a9 (λ_ _=>by simp);have B:(Value.slice sa q sc).ownBlock≠some s:=Ap g.top l (by decide);have b1:(Value.slice sa q sc).ownBlock≠some L:=Ap g.top A (by decide);have a2:∀o H,(O.alloc o).grownBy H (Value.slice sa q sc).ownBlock->∀N,N<wr.heap.size->(Value.slice sa q sc).ownBlock≠some N->H.heap[N]?=wr.heap[N]?:=λo H hg N h1 h2 =>
   (hg.block N (by simp;omega) (λe=>h2 e.symm)).trans ((blk_alloc_lt _ _ _ (by omega)).trans (a7.block N h1))
  have a1:w.heap.size<=wr.heap.size:=m.size;have P:=qh a2;clear a2;have T:=qh C;clear C;replace e7:=qh e7;replace a9:=qh a9;replace d6:=qh d6;have b2:=qh m;clear m;replace a7:=qh a7;have b5:=qh A;clear A;have b4:=qh l;clear l;have S:=qh g;clear g;have b6:=qh B;have b7:=qh b1;clear B b1;have b3:=qh a4;have U:=qh D;have W:=qh F;have X:=qh G;clear a4 D F G;have b8:=qh e5;have f9:=qh a6;have g0:=qh Y;clear e3 e5
  go_wp2_with (at_builtin;rw[<-f9.o,<-g0.o];refine wpList_append_lies _ rfl (.tmp 21) (.tmp 25) 23 rfl w.heap.size 63 i1 (.agg #[.string ⟨#[]⟩,.slice none 0 0]) 2 40 underlying23 b3.o U.o W.o X.o rfl (by omega) (.slice sa q sc) q _ (by first|rfl|simp[Act.eval,Act.put]) (World.ownsRow.alloc T.o _) (Ad (wr.heap.size+1+1) 0) 1 1 [.string ⟨#[]⟩,.slice (some (Ad (wr.heap.size+1) 0)) 1 1] (by first|rfl|simp[Act.eval,Act.put]) rfl (CF (cs:=#[.string ⟨#[]⟩,.slice (some (Ad (wr.heap.size+1) 0)) 1 1]) (d6.o _)) (by intro u hu;simp at hu;rcases hu with rfl|rfl<;>rfl) (by omega) (by unfold maxLen;omega) (by omega) (by have:=b8.o;simp;omega) _ rfl ?_;intro g2 cp H J d g1 f1;have z:=(P.o _ H d s d4 b6.o).trans b4.o;have e4:=(cells4 z).1.2.2.2;have f4:=(cells4 z).2 3)
  have d5:(Ac E).na q=1:=ifp (by rw[<-Q.o];exact d2);have d0:(Ac E).fin q=⟨#[]⟩:=ifn (by rw[<-Q.o];omega);have K:=OwM.push S.o a1 a9.o (v:=.slice (some (Ad (wr.heap.size+1) 0)) 1 1) (by rw[d5];exact e7.o) (by rw[d0];exact J) d;have d7:=K.other (p:=(Ad s 3)) (Ap K.top z (by decide)) (λj hj=>Ap (K.row j hj) z (by decide)) (.slice (some (Ad g2 0)) (q+1) cp);have b9:Below w.heap.size O (H.setCell (Ad s 3) (.slice (some (Ad g2 0)) (q+1) cp)):=(((Below.refl w.heap.size O).alloc (by have:=b8.o;omega) (.cells #[.string ⟨#[]⟩,.slice (some (Ad (wr.heap.size+1) 0)) 1 1] 63)).grown d (by have:=b8.o;simp;omega) (λk hk=>(World.ownsRow.lt S.o.top k hk).1)).setCell (p:=(Ad s 3)) f0 _;refine⟨⟨q+1,by omega,by norm_cast,(b2.o.trans (a7.o.mono a1)).trans b9,?_,_,_,?_,d7⟩,by simp[intOf];omega⟩
  ·exact(AN (p:=(Ad s 3)) f7 _).trans ((P.o _ H d L d9 b7.o).trans b5.o)
  simp[World.setCell,Array.getElem?_modify,z]
 have h5:¬((q:Int)<(n:Int)):=by omega
 have g6:q=n:=by omega
 subst g6;obtain⟨sa,sc,e6,_,_⟩:=Ax g.top;subst e6;obtain⟨⟨m0,m1,m2,m3⟩,mz⟩:=cells4 l;have h6:=mz 3;clear mz;have d4:s<wr.heap.size:=lbk l;have d9:L<wr.heap.size:=lbk A;obtain⟨i1,a4,D,F,G⟩:=CY FQ;have C:wr.ownsRow w.heap.size 63 2 (.slice sa q sc) q (cat (st2 (Ac E) R) q):=g.top;have a2:∀o H,(wr.alloc o).grownBy H (Value.slice sa q sc).ownBlock->∀N,N<wr.heap.size->(Value.slice sa q sc).ownBlock≠some N->H.heap[N]?=wr.heap[N]?:=λo H hg N h1 h2 =>
  (hg.block N (by simp;omega) (λe=>h2 e.symm)).trans (blk_alloc_lt _ _ _ h1)
 have a1:w.heap.size<=wr.heap.size:=m.size;have P:=qh a2;clear a2;have T:=qh C;clear C;have b6:=qh<|Ap g.top l (by decide);have b7:=qh<|Ap g.top A (by decide);have b2:=qh m;clear m;have b5:=qh A;clear A;have b4:=qh l;clear l;have S:=qh g;clear g;have b3:=qh a4;have U:=qh D;have W:=qh F;have X:=qh G;clear a4 D F G d2
 go_wp2_with (at_builtin;refine wpList_append_lies _ rfl (.tmp 29) (.tmp 31) 23 rfl w.heap.size 63 i1 (.agg #[.string ⟨#[]⟩,.slice none 0 0]) 2 40 underlying23 b3.o U.o W.o X.o rfl (by omega) (.slice sa q sc) q _ (by first|rfl|simp[Act.eval,Act.put]) (World.ownsRow.alloc T.o _) (Ad wr.heap.size 0) 1 1 [.string ⟨#[48]⟩,.slice none 0 0] (by first|rfl|simp[Act.eval,Act.put]) rfl (CF (cs:=#[.string ⟨#[48]⟩,.slice none 0 0]) (han wr _)) (by intro u hu;simp at hu;rcases hu with rfl|rfl<;>rfl) (by omega) (by unfold maxLen;omega) (by omega) (by simp;omega) _ rfl ?_;intro g2 cp H J d g1 f1;have z:=(P.o _ H d s d4 b6.o).trans b4.o;have f3:=(P.o _ H d L d9 b7.o).trans b5.o;obtain⟨⟨e0,e1,e2,e4⟩,ez⟩:=cells4 z;have f4:=ez 3;obtain⟨⟨r0,r1,r2,r3⟩,rz⟩:=cells4 f3;have s0:=rz 0;have s1:=rz 1;have s2:=rz 2;have s3:=rz 3;clear ez rz)
 have d5:(Ac E).na q=0:=ifn (by rw[<-Q.o];omega);have d0:(Ac E).fin q=⟨#[48]⟩:=ifp Q.o;have g4:wr.grownBy wr none:=⟨rfl,rfl,rfl,nlr,λ_ _ _=>rfl⟩;have K:=OwM.push S.o a1 g4 (v:=.slice none 0 0) (by rw[d5];exact World.ownsRow_nil _ _ _ _) (by rw[d0];exact J) d;have d7:=K.other (p:=(Ad s 3)) (Ap K.top z (by decide)) (λj hj=>Ap (K.row j hj) z (by decide)) (.slice (some (Ad g2 0)) (q+1) cp);have b9:Below w.heap.size wr (H.setCell (Ad s 3) (.slice (some (Ad g2 0)) (q+1) cp)):=(((Below.refl w.heap.size wr).alloc a1 (.cells #[.string ⟨#[48]⟩,.slice none 0 0] 63)).grown d (by simp;omega) (λk hk=>(World.ownsRow.lt S.o.top k hk).1)).setCell (p:=(Ad s 3)) f0 _;have f5:(H.setCell (Ad s 3) (.slice (some (Ad g2 0)) (q+1) cp)).heap[L]?=some (.cells #[.int .i64 0,.int .i64 0,.string ⟨#[]⟩,.slice none 0 0] 25 (0,0)):=(AN (p:=(Ad s 3)) f7 _).trans f3;have h9:=d7.box4 f5 (.int .i64 1) (.int .i64 0) (.string ⟨#[48]⟩) (.slice (some (Ad g2 0)) (q+1) cp);rw[show cpD (Ac E) (q+1)=Ac E by rw[Q.o];rfl]at h9;exact bodyPost_ret (OQ rfl _ (b:=L) rfl (AA _ L _ _ _ _ f5)) rfl ⟨Au (b2.o.trans b9) g5 _ _ _ _,.slice (some (Ad g2 0)) (q+1) cp,_,rfl,h9⟩
variable{w:World}{g:Nat}{A B D:MD}{sv u:Value}{R:Nat->Value}
theorem Cps.lead{j c:Nat}{s:Value}{m o:List Plc}{qv:Value}{k fl:Int}(h:Cps w j c A B s u m o D R sv g qv k fl)(l:ByteArray):
  Cps (w.setCell (Ad c 10) (.string l)) j c A B s u m o { D with lead:=l } R sv g qv k fl :=
 ⟨by have d:=h.blk;unfold ccs at d ⊢;simp[World.setCell,Array.getElem?_modify,d],by
  have d:=h.own.other (p:=(Ad c 10)) (Ap h.own.top h.blk (by decide)) (λi hi=>Ap (h.own.row i hi) h.blk (by decide)) (.string l);exact⟨d.top,d.row,d.apart⟩,BE h.que (p:=(Ad c 10)) (Ap h.que h.blk (by decide)) _,h.mp.kept (Ay (show g≠c from h.nep.symm)),h.low,h.lowp⟩
def Cps.times{W:World}{d s:Nat}{z:Value}{m o:List Plc}{qv:Value}{j:Int}(h:Cps w g d A B u z m o D R sv s qv j (0:Nat))(l:g<=w.heap.size){v x:ByteArray}(G:Ak A.kind v=true)(H:Ak A.kind x=true){r:Ending}(E:CtE d (Ae A.kind v x) w r W):
  r=.returned (.string (tmS A v x))/\∃fl:Nat,Cps W g d A B u z m o D R sv s qv j fl/\Below g w W/\(∀b,b<w.heap.size->b≠d->W.heap[b]?=w.heap[b]?)/\(fl=0/\(Ae A.kind v x).2=0\/fl=2/\(Ae A.kind v x).2≠0):=by
 obtain⟨rfl,J,hb,rfl⟩:=E;refine⟨rfl,?_⟩;obtain⟨k,I⟩:=h.below hb;by_cases i:(Ae A.kind v x).2=0
 ·rw[ifp i];exact⟨0,k,hb.mono l,λb c _=>hb.block b c,.inl ⟨rfl,i⟩⟩
 rw[ifn i];have C:(Ae A.kind v x).2=2:=(GD G H).resolve_left i;rw[C];exact⟨2,(k.err _).1,(hb.mono l).setCell (p:=(Ad d 15)) h.low _,λb c F=>(Ay F).trans (hb.block b c),.inr ⟨rfl,by omega⟩⟩
def Ih{base:Nat}{e:TypeId}{size:Nat}{v:Value}{n:Nat}{xs:List Value}(h:w.ownsRow base e size v n xs)(hn:0<n):∃g cap,v=.slice (some (Ad g 0)) n cap:=by
 rcases h.2 with⟨_,d⟩|⟨g,cap,cur,c,_⟩
 ·omega
 exact⟨g,cap,c⟩
theorem Ii:∀(l:List Plc) (n:Nat) (x:Plc),l[n]?=some x->(plL l)[n*3]?=some (.int .i64 (x.1:Int))/\(plL l)[n*3+1]?=some (.int .i64 (x.2.1:Int))/\(plL l)[n*3+2]?=some (.bool x.2.2)
 | [],n,x,h=>by simp at h
 |y::t,0,x,h=>by
  have e:y=x:=by simpa using h
  subst e;exact⟨rfl,rfl,rfl⟩
 |y::t,n+1,x,h=>by
  have h1:=Ii t n x (by simpa using h);have e:plL (y::t)=.int .i64 (y.1:Int)::.int .i64 (y.2.1:Int)::.bool y.2.2::plL t:=rfl;rw[e,show (n+1)*3=n*3+1+1+1 by omega];exact h1
theorem Cvi.start{A B:MD}{al:Nat->Bool}{fl:Nat}(c:VM A)(d:VM B)(h:fl=0/\(Ae A.kind A.lead B.lead).2=0\/fl=2/\(Ae A.kind A.lead B.lead).2≠0):Cvi A B al 0 (it0 A B) 0 fl:=by
 have:=c.s0;have:=c.s1;have:=d.s0;have:=d.s1;refine⟨by simp[it0],rfl,λx g=>?_,by simp[it0],λi=>?_,by omega,by omega,by omega,by omega,λe=>⟨by simp[it0],by omega,rfl,rfl,?_,λi p q f hi=>by omega⟩,λe=>.inl ⟨A.lead,B.lead,.inl rfl,.inl rfl,?_⟩⟩
 ·have e:x=(A.start.toNat,B.start.toNat,false):=List.mem_singleton.1 g;subst e;exact⟨by show A.start.toNat<A.n;omega,by show B.start.toNat<B.n;omega⟩
 ·show (if i=0 then 0 else 0)<=0
  split<;>omega
 ·rcases h with h|h
  ·exact h.2
  omega
 rcases h with h|h
 ·omega
 exact h.2
def CmL(B0 cb pb rb:Nat)(A B:MD)(sa sb:Value)(w:World)(n:Nat)(W:World):Prop :=
 ∃(S:List Plc × MD) (R:Nat->Value) (sv qv:Value) (ac fl:Nat),Cps W B0 cb A B sa sb S.1 S.1 S.2 R sv pb qv ac fl/\Cvi A B (alF A) n S ac fl/\Below B0 w W/\Fb cb W sv R S.2.n pb qv rb/\W.heap[rb]?=some (.cells #[.int .i64 0,.int .i64 0,.string ⟨#[]⟩,.slice none 0 0] 25 (0,0))
def CmE(A B:MD)(w:World)(r:Ending)(w':World):Prop :=
 Below w.heap.size w w'/\((VM A/\VM B/\A.kind=B.kind/\
  ((∃n M,CmpIs A B (alF A) n M/\∃sv R,r=.returned (.tuple #[.agg #[.int .i64 M.kind,.int .i64 M.start,.string M.lead,sv],.int .i64 0])/\OwM w' w.heap.size sv M R)\/(BadC A B/\r=.returned (.tuple #[AF,.int .i64 2]))))\/
  (VM A/\VM B/\A.kind≠B.kind/\r=.returned (.tuple #[AF,.int .i64 6]))\/(¬(VM A/\VM B)/\r=.returned (.tuple #[AF,.int .i64 1])))
def CW{D E:MD}{mv nv:Value}(w:World)(hM:Ma none w mv D)(hN:Ma none w nv E)(d5:MSz D)(d6:MSz E)(ht:Tab w):Calls prog 14 #[mv,nv] w (CmE D E w):=by
 obtain⟨sv,rfl,hS⟩:=hM;obtain⟨sw,rfl,e5⟩:=hN;obtain⟨a,cp,_,_,_,_,_,_,i9,_⟩:=hS.open;obtain⟨a2,s,_,_,_,_,_,_,q9,_⟩:=e5.open;subst i9;subst q9;have i3:∀W,Below w.heap.size w W->Ma none W (.agg #[.int .i64 D.kind,.int .i64 D.start,.string D.lead,.slice a D.n cp]) D:=λW h=>⟨_,rfl,hS.kept (Ab h none)⟩;have d3:∀W,Below w.heap.size w W->Ma none W (.agg #[.int .i64 E.kind,.int .i64 E.start,.string E.lead,.slice a2 E.n s]) E:=λW h=>⟨_,rfl,e5.kept (Ab h none)⟩;have d7:∀W,Below w.heap.size w W->Tab W:=λW h=>ht.below h nlr;obtain⟨w1,a7⟩:=exq<|w.alloc (.cells #[.int .i64 D.kind,.int .i64 D.start,.string D.lead,.slice a D.n cp] 25);obtain⟨w2,a8⟩:=exq<|w1.alloc (.cells #[.int .i64 E.kind,.int .i64 E.start,.string E.lead,.slice a2 E.n s] 25);obtain⟨w3,d8⟩:=exq<|w2.alloc (.cells #[.int .i64 0,.int .i64 0,.string ⟨#[]⟩,.slice none 0 0] 25);have j0:w1.heap.size=w.heap.size+1:=by rw[a7];simp
 have m9:w2.heap.size=w.heap.size+1+1:=by rw[a8];simp[j0]
 have l7:Fr (λ_=>False) w w1:=by rw[a7];exact Fr.alloc _ _
 have b9:Fr (λ_=>False) w1 w2:=by rw[a8];exact Fr.alloc _ _
 have e9:Fr (λ_=>False) w2 w3:=by rw[d8];exact Fr.alloc _ _
 have i2:w1.heap[w.heap.size]?=some (.cells #[.int .i64 D.kind,.int .i64 D.start,.string D.lead,.slice a D.n cp] 25 (0,0)):=by rw[a7];exact han w _
 have z:w3.heap[w.heap.size]?=some (.cells #[.int .i64 D.kind,.int .i64 D.start,.string D.lead,.slice a D.n cp] 25 (0,0)):=(e9.block _ (by omega) (λe=>e)).trans ((b9.block _ (lbk i2) (λe=>e)).trans i2);have g4:w2.heap[w.heap.size+1]?=some (.cells #[.int .i64 E.kind,.int .i64 E.start,.string E.lead,.slice a2 E.n s] 25 (0,0)):=by rw[<-j0,a8];exact han w1 _
 have H:w3.heap[w.heap.size+1]?=some (.cells #[.int .i64 E.kind,.int .i64 E.start,.string E.lead,.slice a2 E.n s] 25 (0,0)):=(e9.block _ (by omega) (λe=>e)).trans g4;have I:w3.heap[w.heap.size+1+1]?=some (.cells #[.int .i64 0,.int .i64 0,.string ⟨#[]⟩,.slice none 0 0] 25 (0,0)):=by rw[<-m9,d8];exact han w2 _
 have e6:Below w.heap.size w w3:=((l7.trans b9).trans e9).below nlr (λ_ e=>e.elim);obtain⟨mb,f7⟩:=exq<|w.heap.size;obtain⟨nb,i4⟩:=exq<|w.heap.size+1;obtain⟨k,i6⟩:=exq<|w.heap.size+1+1;have d1:w.heap.size<=k:=by omega
 rw[<-f7]at z;rw[<-i4]at H;rw[<-i6]at I;obtain⟨⟨m0,m1,m2,m3⟩,_⟩:=cells4 z;have l1:=qh<|Fi w3 (i3 w3 e6) d5 (d7 w3 e6);replace i3:=qh i3;replace d3:=qh d3;replace d7:=qh d7;replace ht:=qh ht;have g7:=qh e6;clear e6;have l:=qh z;clear z i2 l7 b9 e9 j0 m9 g4;have d:=qh H;clear H;have c:=qh I;clear I;replace d5:=qh d5;replace d6:=qh d6;have o4:=qh hS;have o5:=qh e5;clear hS e5;rw[f7,d8,a8,a7]at m0 m1 m2 m3
 go_enter func14,ntmps14
 go_wp2_with fail
 rw[<-a7,<-a8,<-d8,<-i6,<-i4,<-f7];clear m0 m1 m2 m3 a7 a8 d8 f7 i4 i6;refine l1.o.mono ?_;rintro r w4⟨b5,hr⟩;have z:=(b5.block _ (lbk l.o)).trans l.o;have H:=(b5.block _ (lbk d.o)).trans d.o;have I:=(b5.block _ (lbk c.o)).trans c.o;have a4:=qh<|g7.o.trans (b5.mono g7.o.size);clear b5 l d c l1 g7;have l:=qh z;clear z;have d:=qh H;clear H;have c:=qh I;clear I
 rcases hr with⟨hv,rfl⟩|⟨hv,rfl⟩
 rotate_left
 ·have HV:=qh hv;clear hv;obtain⟨⟨r0,r1,r2,r3⟩,j⟩:=cells4 c.o;have f0:=j 0;have f1:=j 1;have f2:=j 2;have f3:=j 3;clear j
  go_wp2_with fail
  exact bodyPost_ret (AE rfl _ (b:=k) rfl rfl (AA w4 k _ _ _ _ c.o)) rfl ⟨Au a4.o d1 _ _ _ _,.inr (.inr ⟨λh=>HV.o h.1,rfl⟩)⟩
 have HV:=qh hv;clear hv;obtain⟨⟨n0,n1,n2,n3⟩,_⟩:=cells4 d.o;have l2:=qh<|Fi w4 (d3.o w4 a4.o) d6.o (d7.o w4 a4.o)
 go_wp2_with fail
 clear n0 n1 n2 n3;refine l2.o.mono ?_;rintro r X⟨b6,hr⟩;have z:=(b6.block _ (lbk l.o)).trans l.o;have H:=(b6.block _ (lbk d.o)).trans d.o;have I:=(b6.block _ (lbk c.o)).trans c.o;have b0:=qh<|a4.o.trans (b6.mono a4.o.size);clear b6 l d c l2 a4;have l:=qh z;clear z;have d:=qh H;clear H;have c:=qh I;clear I
 rcases hr with⟨hv,rfl⟩|⟨hv,rfl⟩
 rotate_left
 ·have m:=qh hv;clear hv;obtain⟨⟨r0,r1,r2,r3⟩,j⟩:=cells4 c.o;have f0:=j 0;have f1:=j 1;have f2:=j 2;have f3:=j 3;clear j
  go_wp2_with fail
  exact bodyPost_ret (AE rfl _ (b:=k) rfl rfl (AA X k _ _ _ _ c.o)) rfl ⟨Au b0.o d1 _ _ _ _,.inr (.inr ⟨λh=>m.o h.2,rfl⟩)⟩
 have m:=qh hv;clear hv;obtain⟨⟨m0,m1,m2,m3⟩,_⟩:=cells4 l.o;obtain⟨⟨n0,n1,n2,n3⟩,_⟩:=cells4 d.o;by_cases Q:D.kind=E.kind
 rotate_left
 ·have p0:(D.kind==E.kind)=false:=by simp[Q]
  have p6:decide (D.kind=E.kind)=false:=by simp[Q]
  have o2:=qh Q;clear Q;obtain⟨⟨r0,r1,r2,r3⟩,j⟩:=cells4 c.o;have f0:=j 0;have f1:=j 1;have f2:=j 2;have f3:=j 3;clear j
  go_wp2_with fail
  exact bodyPost_ret (AE rfl _ (b:=k) rfl rfl (AA X k _ _ _ _ c.o)) rfl ⟨Au b0.o d1 _ _ _ _,.inr (.inl ⟨HV.o,m.o,o2.o,rfl⟩)⟩
 have p0:(D.kind==E.kind)=true:=by simp[Q]
 have p6:decide (D.kind=E.kind)=true:=by simp[Q]
 have e2:=qh Q;clear Q;obtain⟨pb,i5⟩:=exq<|X.heap.size;obtain⟨A,h7⟩:=exq<|X.heap.size+1;obtain⟨w6,a9⟩:=exq<|X.alloc (.map #[] 0);obtain⟨w7,U⟩:=exq<|w6.alloc (.cells (ccs D E (.slice a D.n cp) (.slice a2 E.n s) (AV D.kind 0 ⟨#[]⟩) (.slice none 0 0) pb (.slice none 0 0) 0 0) 70);have j1:w6.heap.size=X.heap.size+1:=by rw[a9];simp
 have r4:w7.heap.size=X.heap.size+1+1:=by rw[U];simp[j1]
 have h3:Below X.heap.size X w6:=by rw[a9];exact(Below.refl _ X).alloc nlr _
 have e7:Below w6.heap.size w6 w7:=by rw[U];exact(Below.refl _ w6).alloc nlr _
 have g6:MpP w6 pb []:=by rw[a9,i5];exact MpP.made X
 have P:w7.heap[A]?=some (.cells (ccs D E (.slice a D.n cp) (.slice a2 E.n s) (AV D.kind 0 ⟨#[]⟩) (.slice none 0 0) pb (.slice none 0 0) 0 0) 70 (0,0)):=by rw[h7,<-j1,U];exact han w6 _
 have m8:w.heap.size<=X.heap.size:=b0.o.size;have h6:Cps w7 w.heap.size A D E (.slice a D.n cp) (.slice a2 E.n s) [] [] (AV D.kind 0 ⟨#[]⟩) (λ_=>.slice none 0 0) (.slice none 0 0) pb (.slice none 0 0) 0 0 :=
  ⟨P,OwM.empty _ _ _ _ _ _,World.ownsRow_nil w7 _ _ 3,g6.kept (e7.block pb (by omega)),by omega,by omega⟩
 have b7:Below w.heap.size w w7:=b0.o.trans<|(h3.mono m8).trans (e7.mono (by omega));have C:Below X.heap.size X w7:=h3.trans<|e7.mono (by omega);have l0:=qh<|Jn w7 (Ccs.c0 P) (Ccs.c15 P) (Ccs.fz P 15) h6.lt D.lead E.lead d5.o.lead d6.o.lead (d7.o w7 b7);have k2:=(C.block _ (lbk l.o)).trans l.o;have k3:=(C.block _ (lbk d.o)).trans d.o;have k4:=(C.block _ (lbk c.o)).trans c.o;have p7:mb<X.heap.size:=lbk l.o;have p8:nb<X.heap.size:=lbk d.o;have q8:k<X.heap.size:=lbk c.o;have l9:mb≠A:=by omega
 have m4:nb≠A:=by omega
 have i7:k≠A:=by omega
 have m7:k≠pb:=by omega
 have F:Fb A w7 (.slice none 0 0) (λ_=>.slice none 0 0) 0 pb (.slice none 0 0) k:=⟨i7,by omega,m7,by simp[Value.ownBlock],λi hi=>absurd hi (Nat.not_lt_zero _),by simp[Value.ownBlock]⟩;have q2:=(cells4 k2).1.2.2.1;have q3:=(cells4 k3).1.2.2.1;have j7:=qh h6;clear h6;have g1:=qh b7;clear b7;have g2:w.heap.size<=w7.heap.size:=by omega
 have o:=qh F;clear F;have g0:=qh g2;clear g2;have k6:=qh l9;have k7:=qh m4;have k9:=qh i7;clear C h3 e7 g6 P j1 l9 m4 i7 m7 p7 p8 q8 r4 m8;have b1:=qh k2;have b2:=qh k3;have b3:=qh k4;clear k2 k3 k4 l d c b0;rw[U,a9]at q2 q3;unfold ccs AV at U q2 q3;rw[i5]at U q2 q3;have s6:=@run_makeMap prog
 go_wp2_with fail
 rw[<-a9,<-U,<-h7];clear q2 q3 a9 U h7 i5 m0 m1 m2 m3 n0 n1 n2 n3;refine l0.o.mono ?_;rintro r w8 l6;obtain⟨rfl,fl,b8,h4,f5,l8⟩:=j7.o.times g0.o (Ct HV.o.lead) (Ct (by rw[e2.o];exact m.o.lead)) l6;have k2:=(f5 mb (lbk b1.o) k6.o).trans b1.o;have k3:=(f5 nb (lbk b2.o) k7.o).trans b2.o;have k4:=(f5 k (lbk b3.o) k9.o).trans b3.o;have f4:Fb A w8 (.slice none 0 0) (λ_=>.slice none 0 0) 0 pb (.slice none 0 0) k:=⟨o.o.1,Nat.lt_of_lt_of_le o.o.2.1 h4.size,o.o.2.2⟩;have j5:=qh<|g1.o.trans h4;clear l6 f5 h4 l0 j7 g1 b1 b2 b3 o g0;have j9:=qh l8;clear l8;have e3:=Ccs.c10 b8.blk;have s3:=Ccs.fz b8.blk 10;unfold AV at e3
 dsimp only at e3
 obtain⟨w9,O⟩:=exq<|w8.setCell ⟨A,10,none⟩ (.string (tmS D D.lead E.lead));have e8:=b8.lead<|tmS D D.lead E.lead;rw[<-O]at e8;have j2:w9.heap[mb]?=_:=(by rw[O];exact Ay k6.o:w9.heap[mb]?=w8.heap[mb]?).trans k2;have j3:w9.heap[nb]?=_:=(by rw[O];exact Ay k7.o:w9.heap[nb]?=w8.heap[nb]?).trans k3;have j4:w9.heap[k]?=_:=(by rw[O];exact Ay k9.o:w9.heap[k]?=w8.heap[k]?).trans k4;have h5:Below w.heap.size w w9:=by rw[O];exact j5.o.setCell (p:=(Ad A 10)) b8.low _
 have f9:Fb A w9 (.slice none 0 0) (λ_=>.slice none 0 0) 0 pb (.slice none 0 0) k:=⟨f4.1,by rw[O,nblk_setCell];exact f4.2.1,f4.2.2⟩;have m1:=(cells4 j2).1.2.1;have n1:=(cells4 j3).1.2.1;rw[O]at m1 n1;have b4:=qh (My (x:=(D.start.toNat,E.start.toNat,false)) w9 e8 rfl h5.size (by simp) ⟨by have:=HV.o.s0;have:=HV.o.s1;have:=HV.o.n2;show D.start.toNat<=1000000;omega,by have:=m.o.s0;have:=m.o.s1;have:=m.o.n2;show E.start.toNat<=1000000;omega⟩);unfold plV at b4
 dsimp only at b4
 rw[Int.toNat_of_nonneg HV.o.s0,Int.toNat_of_nonneg m.o.s0]at b4;have n6:=qh e8;clear e8 b8 k2 k3 k4 f4 j2 j3;have j6:=qh h5;clear h5 j5;have h0:=qh f9;clear f9;have k0:=qh j4;clear j4
 go_wp2_with fail
 rw[<-O];clear e3 s3 m1 n1 O;refine b4.o.mono ?_;rintro r r9⟨rfl,⟨R1,r8,r6,a1,G⟩,g3⟩;have e0:numP ([],({ AV D.kind 0 ⟨#[]⟩ with lead:=tmS D D.lead E.lead }:MD)) (D.start.toNat,E.start.toNat,false)=it0 D E:=rfl;rw[e0]at a1 G;have e1:erN (it0 D E).2.n (fl:Int)=(fl:Int):=Hm (by show ¬3000<0+1;omega);rw[e1]at a1;have l3:CmL w.heap.size A pb k D E (.slice a D.n cp) (.slice a2 E.n s) w 0 r9:=⟨it0 D E,R1,r8,r6,0,fl,a1,Cvi.start HV.o m.o j9.o,j6.o.trans g3,G.fb h0.o,G.bx h0.o k0.o⟩;have k5:=qh l3;clear l3 a1 G g3 n6 j6 h0 k0 b4 e0 e1 j9
 go_wp2_with fail
 go_loopw [7] (λi W=>∃n:Nat,n<=3001/\i=.int .i64 (n:Int)/\CmL w.heap.size A pb k D E (.slice a D.n cp) (.slice a2 E.n s) w n W) (λi _=>3001-(intOf i).toNat)
 case atStart=>exact⟨0,by omega,rfl,k5.o⟩
 clear k5;obtain⟨n,s7,rfl,S,R,sv,qv,ac,fl,Z,u,Y,F,J⟩:=hrel;obtain⟨qa,qc,N,_,p9⟩:=Ax Z.que;have s4:qc<=9223372036854775807:=by unfold maxLen at p9;omega
 have i8:=u.le;have e4:=Ccs.c13 Z.blk;have B:=Ccs.c15 Z.blk;rw[N]at e4;by_cases h8:fl=0
 ·subst h8;by_cases d2:n<S.1.length
  ·obtain⟨x,hx⟩:∃x,S.1[n]?=some x:=⟨_,List.getElem?_eq_getElem d2⟩;obtain⟨p,q,f⟩:=x;obtain⟨g,o7,h9⟩:=Ih Z.que (by omega);have q7:qa=some (Ad g 0)/\qc=o7:=by rw[N]at h9;simpa using h9
   obtain⟨rfl,rfl⟩:=q7;have T:=Z.que;rw[N]at T;obtain⟨x0,x1,x2⟩:=Ii S.1 n (p,q,f) hx;have y0:=CM T x0;have y1:=CM T x1;have y2:=CM T x2
   dsimp only at y0 y1 y2
   have d9:=qh<|Sk wr o4.o o5.o Y HV.o m.o e2.o d5.o d6.o ht.o Z (u.lvi d2) hx;unfold plV at d9
   dsimp only at d9
   have g5:((n:Int)<(S.1.length:Int)):=by omega
   obtain⟨ln,L⟩:=exq<|S.1.length;rw[<-L]at g5 i8;have n9:=qh L;clear L;rw[<-n9.o]at e4;have HX:=qh hx;clear hx h9 T x0 x1 x2;have j8:=qh u;clear u;have a5:=qh Y;clear Y;have o:=qh F;clear F;have a6:=qh J;clear J;have h2:=qh N;clear N;clear Z d2
   go_wp2_with fail
   refine d9.o.mono ?_;rintro r W'⟨rfl,S',o6,o8,⟨⟨R',r7,r5,l5,d0⟩,l4⟩,hL,hz⟩;have d4:CmL w.heap.size A pb k D E (.slice a D.n cp) (.slice a2 E.n s) w (n+1) W':=⟨S',R',r7,r5,o6,o8,l5,j8.o.next (al:=alF D) HX.o hL hz,a5.o.trans l4,d0.fb o.o,d0.bx o.o a6.o⟩;replace d4:=qh d4;clear l5 d0 l4 hL hz d9 j8 HX a5 o a6 h2
   go_wp2_with fail
   exact⟨⟨n+1,by omega,by norm_cast,d4.o⟩,by simp[intOf];omega⟩
  have m5:¬((n:Int)<(S.1.length:Int)):=by omega
  have n7:=qh (u.is (by have:=u.nn;omega));clear u;obtain⟨ta,tc,i9,_,_⟩:=Ax Z.own.top;subst i9;have g8:=Ccs.c8 Z.blk;have g9:=Ccs.c9 Z.blk;have e3:=Ccs.c10 Z.blk;have s5:=Ccs.c11 Z.blk;obtain⟨⟨r0,r1,r2,r3⟩,j⟩:=cells4 J;have f0:=j 0;have f1:=j 1;have f2:=j 2;have f3:=j 3;clear j;have o3:=qh<|Z.own.box4 J (.int .i64 S.2.kind) (.int .i64 S.2.start) (.string S.2.lead) (.slice ta S.2.n tc);clear Z;obtain⟨ln,L⟩:=exq<|S.1.length;rw[<-L]at m5 i8 e4;clear d2 L;have a5:=qh Y;clear Y;have o:=qh F;clear F;have a6:=qh J;clear J;have h2:=qh N;clear N
  go_wp2_with fail
  exact bodyPost_ret (AE rfl _ (b:=k) rfl rfl (AA wr k _ _ _ _ a6.o)) rfl ⟨Au a5.o d1 _ _ _ _,.inl ⟨HV.o,m.o,e2.o,.inl ⟨n,S.2,n7.o,_,R,rfl,o3.o⟩⟩⟩
 have b9:fl=2:=u.fl2.resolve_left h8;subst b9;have n5:=qh<|u.badC rfl;clear u;obtain⟨⟨r0,r1,r2,r3⟩,j⟩:=cells4 J;have f0:=j 0;have f1:=j 1;have f2:=j 2;have f3:=j 3;clear j;obtain⟨ln,L⟩:=exq<|S.1.length;rw[<-L]at i8 e4;clear L Z h8;have a5:=qh Y;clear Y;have o:=qh F;clear F;have a6:=qh J;clear J;have h2:=qh N;clear N;have o9:(wr.drew.setCells k 0 [.int .i64 0,.int .i64 0,.string ⟨#[]⟩,.slice none 0 0]).cell? (Ad A 15)=some (.int .i64 2):=by
  have f8:=o.o.1;have h1:(wr.drew.setCells k 0 [.int .i64 0,.int .i64 0,.string ⟨#[]⟩,.slice none 0 0]).heap[A]?=wr.heap[A]?:=(Ay (Ne.symm f8)).trans ((Ay (Ne.symm f8)).trans ((Ay (Ne.symm f8)).trans (Ay (Ne.symm f8))));unfold World.cell? at B ⊢;rw[h1];exact B
 have B:wr.cell? (Ad A 15)=some (.int .i64 2):=B;by_cases d2:n<ln;have g5:((n:Int)<(ln:Int)):=by omega
 rotate_left
 have m5:¬((n:Int)<(ln:Int)):=by omega
 all_goals
  go_wp2_with fail
  refine AB (λwk=>wk.cell? (Ad A 15)=some (.int .i64 2)) 6 (by kernel_rfl) ?_;refine Aa.tm 0 B ?_;refine Aa.tm 1 B ?_;refine Aa.tm 2 B ?_;refine Aa.tm 3 B ?_;refine Aa.tm 4 B ?_
  try simp only[Act.put,tryL]
  refine Aa.on 5 λK hK=>?_;go_simp;refine hK.out _ _ (.inr o9) ?_;clear hK K
  try simp only[Act.put,tryL]
  refine Aa.on 6 λK hK=>?_;go_simp;refine hK.out _ _ (.inl rfl) (Aa.dn ?_);clear hK K
  go_wp2_with fail
  exact bodyPost_ret (AE rfl _ (b:=k) rfl rfl (AA wr.drew k _ _ _ _ a6.o)) rfl ⟨Au a5.o.drew d1 _ _ _ _,.inl ⟨HV.o,m.o,e2.o,.inr ⟨n5.o,rfl⟩⟩⟩
variable{x:Nat->Int}{na:Nat}
def Aa.pair{P:Program}{d:Array Oper}{Q:Exit->Act->World->Prop}{S:World->Prop}{s i j:Nat}{g:Nat}{c:Array Bool}{a:Act}(m:Region.ready .any d c=[i,j])
  (o:wpOp P d Q i (λa' w'=>(i=s\/S w')/\Aa P d Q S s g (c.setIfInBounds i true) a' w') a w)
  (p:wpOp P d Q j (λa' w'=>(j=s\/S w')/\Aa P d Q S s g (c.setIfInBounds j true) a' w') a w):Aa P d Q S s (g+1) c a w:=by
 refine⟨λl=>(by rw[m]at l;cases l),λk h=>?_⟩;rw[m]at h
 rcases List.mem_cons.1 h with rfl|h
 ·exact o
 obtain rfl:k=j:=by simpa using h
 exact p
def Up{n:Nat}(h:isWord n x=true):n<=200/\∀i,0<=atW n x i/\atW n x i<=500:=by
 unfold isWord at h;simp only[Bool.and_eq_true,decide_eq_true_eq]at h;refine⟨h.1,λi=>?_⟩;have c:=GK.1 h.2;unfold atW
 split
 ·rename_i hi;have:=c i hi;omega
 omega
abbrev wrd(D:MD)(na:Nat)(x:Nat->Int):MD:=Cs D.kind na x na x (oneF D.kind)
def BN(g:Aw D.kind=true)(h:isWord na x=true):VM (wrd D na x)/\MSz (wrd D na x)/\(wrd D na x).kind=D.kind/\(wrd D na x).start=0/\(wrd D na x).lead=oneF D.kind/\(wrd D na x).n=na+1:=by
 obtain⟨u,k⟩:=Up h;have p:max na na=na:=Nat.max_self na;have j:=GL D.kind na x na x (oneF D.kind) (max na na);have o:=(Lw (v:=oneF D.kind) g k k (N:=max na na+1) (max na na) (by omega)).setFin (q:=max na na) (s:=oneF D.kind) (.inr (by rw[j.1];exact Ey g)) (Ex g);have d:(wrd D na x).n=max na na+1:=CS D.kind na x na x (oneF D.kind) _;have m:(wrd D na x).start=0:=j.2.1;have i:(wrd D na x).kind=D.kind:=j.1;have l:(wrd D na x).lead=oneF D.kind:=j.2.2;refine⟨BOk.vm (c:=max na na) (by rw[d];exact o) (by rw[i];exact g) (by rw[d];omega) (by rw[d];omega) (by rw[m,d];omega) (by rw[i,l];exact Ey g) (by omega),YX g k k (Ex g) (by omega),i,m,l,by rw[d,p]⟩
def Jc{kind:Int}{u z:Value}{v:ByteArray}(w:World)(s:Si none w u na x)(p:(na:Int)<=9223372036854775807)(k:isWord na x=false):
  Calls prog 59 #[.int .i64 kind,u,z,.string v] w (λr w'=>Below w.heap.size w w'/\r=.returned (.tuple #[AF,.int .i64 1])):=by
 obtain⟨m,g⟩:=exq<|w.alloc (.cells #[.int .i64 0,.int .i64 0,.string ⟨#[]⟩,.slice none 0 0] 25);obtain⟨i,h⟩:=exq<|w.heap.size;have c:Below w.heap.size w m:=by rw[g];exact(Below.refl _ w).alloc nlr _
 have d:m.heap[i]?=some (.cells #[.int .i64 0,.int .i64 0,.string ⟨#[]⟩,.slice none 0 0] 25 (0,0)):=by rw[g,h];exact han w _
 have o:w.heap.size<=i:=by omega
 have j:=qh<|Ji m (s.kept (Ab c none)) p;rw[k]at j;replace c:=qh c;replace d:=qh d;clear s k
 go_enter func59,ntmps59
 go_wp2_with fail
 rw[<-g,<-h];clear g h;refine j.o.mono ?_;rintro r H⟨rfl,rfl⟩;obtain⟨⟨E,r1,F,G⟩,l⟩:=cells4 d.o;have A:=l 0;have B:=l 1;have C:=l 2;have D:=l 3;clear l
 go_wp2_with fail
 exact bodyPost_ret (AE rfl _ (b:=i) rfl rfl (AA _ i _ _ _ _ d.o)) rfl ⟨Au c.o o _ _ _ _,rfl⟩
def VE{w':World}{sv:Value}{B:Nat}{R:Nat->Value}(h:OwM w B sv D R)(hb:Below w.heap.size w w'):OwM w' B sv D R :=
 ⟨AK h.top (Ab hb none) (λ_ _=>by simp),λi hi=>AK (h.row i hi) (Ab hb none) (λ_ _=>by simp),h.apart⟩
def CO{b c:Nat}(h:b≠c)(d g i j:Value):(w.setCells c 0 [d,g,i,j]).heap[b]?=w.heap[b]? :=
 (Ay h).trans ((Ay h).trans ((Ay h).trans (Ay h)))
def CafE(na:Nat)(x:Nat->Int)(D:MD)(w:World)(r:Ending)(w':World):Prop :=
 Below w.heap.size w w'/\((VM D/\isWord na x=true/\
  ((∃n M,CmpIs (wrd D na x) D (alF (wrd D na x)) n M/\∃sv R,r=.returned (.tuple #[.agg #[.int .i64 M.kind,.int .i64 M.start,.string M.lead,sv],.int .i64 0])/\OwM w' w.heap.size sv M R)\/(BadC (wrd D na x) D/\r=.returned (.tuple #[AF,.int .i64 2]))))\/
  (¬(VM D/\isWord na x=true)/\r=.returned (.tuple #[AF,.int .i64 1])))
def LP{xv mv:Value}(w:World)(hx:Si none w xv na x)(hM:Ma none w mv D)(b7:(na:Int)<=9223372036854775807)(d9:MSz D)(ht:Tab w):Calls prog 26 #[xv,mv] w (CafE na x D w):=by
 obtain⟨ax,cx,rfl⟩:=hx.shape;obtain⟨sv,rfl,hS⟩:=hM;obtain⟨a,cp,_,_,_,_,_,_,Z,_⟩:=hS.open;subst Z;have d8:∀W,Below w.heap.size w W->Ma none W (.agg #[.int .i64 D.kind,.int .i64 D.start,.string D.lead,.slice a D.n cp]) D:=λW h=>⟨_,rfl,hS.kept (Ab h none)⟩;have b5:∀W,Below w.heap.size w W->Si none W (.slice ax na cx) na x:=λW h=>hx.kept (Ab h none);have b8:∀W,Below w.heap.size w W->Tab W:=λW h=>ht.below h nlr;obtain⟨w1,e0⟩:=exq<|w.alloc (.cells #[.int .i64 D.kind,.int .i64 D.start,.string D.lead,.slice a D.n cp] 25);obtain⟨w2,f7⟩:=exq<|w1.alloc (.cells #[.int .i64 0,.int .i64 0,.string ⟨#[]⟩,.slice none 0 0] 25);have h6:w1.heap.size=w.heap.size+1:=by rw[e0];simp
 have h5:Fr (λ_=>False) w w1:=by rw[e0];exact Fr.alloc _ _
 have g9:Fr (λ_=>False) w1 w2:=by rw[f7];exact Fr.alloc _ _
 obtain⟨mb,g4⟩:=exq<|w.heap.size;obtain⟨L,h2⟩:=exq<|w.heap.size+1;have h0:w1.heap[mb]?=some (.cells #[.int .i64 D.kind,.int .i64 D.start,.string D.lead,.slice a D.n cp] 25 (0,0)):=by rw[e0,g4];exact han w _
 have d7:w2.heap[mb]?=some (.cells #[.int .i64 D.kind,.int .i64 D.start,.string D.lead,.slice a D.n cp] 25 (0,0)):=(g9.block _ (lbk h0) (λe=>e)).trans h0;have f4:w2.heap[L]?=some (.cells #[.int .i64 0,.int .i64 0,.string ⟨#[]⟩,.slice none 0 0] 25 (0,0)):=by rw[h2,<-h6,f7];exact han w1 _
 have g1:Below w.heap.size w w2:=(h5.trans g9).below nlr (λ_ e=>e.elim);have b6:w.heap.size<=L:=by omega
 obtain⟨⟨m0,m1,m2,m3⟩,_⟩:=cells4 d7;have h4:=qh<|Fi w2 (d8 w2 g1) d9 (b8 w2 g1);replace d8:=qh d8;replace b5:=qh b5;clear hx;replace b8:=qh b8;clear ht;have g5:=qh g1;clear g1;have g6:=qh d7;clear d7 h0 h5 g9;have g7:=qh f4;clear f4;replace d9:=qh d9;clear hS;rw[g4,f7,e0]at m0 m1 m2 m3
 go_enter func26,ntmps26
 go_wp2_with fail
 rw[<-e0,<-f7,<-h2,<-g4];have h8:mb≠L:=by omega
 have h7:w.heap.size<=mb:=by omega
 clear m0 m1 m2 m3 e0 f7 g4 h2 h6;refine h4.o.mono ?_;rintro r w4⟨g2,hr⟩;have d7:=(g2.block _ (lbk g6.o)).trans g6.o;have f4:=(g2.block _ (lbk g7.o)).trans g7.o;have g0:=qh<|g5.o.trans (g2.mono g5.o.size);clear g2 g6 g7 h4 g5;have g8:=qh d7;clear d7;have e9:=qh f4;clear f4
 rcases hr with⟨hv,rfl⟩|⟨hv,rfl⟩
 rotate_left
 ·have HV:=qh hv;clear hv;obtain⟨⟨r0,r1,r2,r3⟩,O⟩:=cells4 e9.o;have f0:=O 0;have f1:=O 1;have f2:=O 2;have f3:=O 3;clear O
  go_wp2_with fail
  exact bodyPost_ret (AE rfl _ (b:=L) rfl rfl (AA w4 L _ _ _ _ e9.o)) rfl ⟨Au g0.o b6 _ _ _ _,.inr ⟨λh=>HV.o h.1,rfl⟩⟩
 have HV:=qh hv;clear hv;obtain⟨w5,f8⟩:=exq<|w4.drew;have g3:Below w4.heap.size w4 w5:=by rw[f8];exact(Below.refl _ w4).drew
 have G:=qh<|(g3.block _ (lbk g8.o)).trans g8.o;have a7:=qh<|(g3.block _ (lbk e9.o)).trans e9.o;have a5:=qh<|g0.o.trans (g3.mono g0.o.size);clear g3 g0 g8 e9;cases m:isWord na x
 ·replace m:=qh m
  go_wp2_with fail
  refine AB (λwk=>wk.cell? (Ad mb 0)=some (.int .i64 D.kind)) 13 (by kernel_rfl) ?_;rw[<-f8];clear f8;refine Aa.tm 0 (cells4 G.o).1.1 ?_;refine Aa.tm 1 (cells4 G.o).1.1 ?_;refine Aa.tm 2 (cells4 G.o).1.1 ?_;refine Aa.tm 3 (cells4 G.o).1.1 ?_;refine Aa.tm 4 (cells4 G.o).1.1 ?_;refine Aa.tm 5 (cells4 G.o).1.1 ?_
  try simp only[Act.put,tryL]
  refine Aa.pair (i:=6) (j:=11) (by kernel_rfl) (Bm rfl rfl λK g=>?_) (Bm rfl rfl λK g=>?_)
  ·go_simp;refine(Gt D.kind _).mono ?_;rintro r w6⟨rfl,P⟩;have C:=qh<|(P.block _ (lbk G.o)).trans G.o;have I:=qh<|(P.block _ (lbk a7.o)).trans a7.o;have B:=qh<|a5.o.trans (P.mono a5.o.size);clear P a5 G a7;refine g _ _ ⟨.inr (cells4 C.o).1.1,?_⟩;clear g K
   try simp only[Act.put,tryL]
   refine Aa.pair (i:=7) (j:=11) (by kernel_rfl) (Bm rfl rfl λK g=>?_) (Bm rfl rfl λK g=>?_)
   ·go_simp;refine(Jc w6 (b5.o w6 B.o) b7 m.o).mono ?_;rintro r Q⟨u,rfl⟩;unfold AF;have l:=qh<|(u.block _ (lbk C.o)).trans C.o;have H:=qh<|(u.block _ (lbk I.o)).trans I.o;have o:=qh<|B.o.trans (u.mono B.o.size);clear u B C I;refine g _ _ ⟨.inr (cells4 l.o).1.1,?_⟩;clear g K
    try simp only[Act.put,tryL]
    refine Aa.tm 8 (cells4 l.o).1.1 ?_;refine Aa.tm 9 (cells4 l.o).1.1 ?_;refine Aa.tm 10 (cells4 l.o).1.1 ?_
    try simp only[Act.put,tryL]
    refine Aa.on 11 λK g=>?_;go_simp;obtain⟨S,d1⟩:=exq<|Q.alloc (.cells #[.int .i64 0,.int .i64 0,.string ⟨#[]⟩,.slice none 0 0] 25);obtain⟨k,z⟩:=exq<|Q.heap.size;have s:Below Q.heap.size Q S:=by rw[d1];exact(Below.refl _ Q).alloc nlr _
    have E:=qh (show S.heap[k]?=some (.cells #[.int .i64 0,.int .i64 0,.string ⟨#[]⟩,.slice none 0 0] 25 (0,0)) by rw[d1,z];exact han Q _);have b4:w.heap.size<=k:=by rw[z];exact o.o.size
    have b3:L≠k:=by have:=lbk H.o;omega
    have b2:mb≠k:=by have:=lbk l.o;omega
    rw[<-d1,<-z];clear d1 z;have p:=qh<|(s.block _ (lbk l.o)).trans l.o;have U:=qh<|(s.block _ (lbk H.o)).trans H.o;have T:=qh<|o.o.trans (s.mono o.o.size);clear s o l H;refine g.out _ _ (.inr (cells4 p.o).1.1) ?_;clear g K
    try simp only[Act.put,tryL]
    obtain⟨⟨a0,a1,a2,a3⟩,X⟩:=cells4 E.o;have z0:=X 0;have z1:=X 1;have z2:=X 2;have z3:=X 3;clear X;refine Aa.on 12 λK g=>?_;go_simp;obtain⟨A,d⟩:∃A,A=(((S.setCell ⟨k,0,none⟩ (.int .i64 0)).setCell ⟨k,1,none⟩ (.int .i64 0)).setCell (Ad k 2) (.string ⟨#[]⟩)).setCell (Ad k 3) (.slice none 0 0):=⟨_,rfl⟩;have a6:=qh ((show A.heap[mb]?=S.heap[mb]? by rw[d];exact CO b2 _ _ _ _).trans p.o);have N:=qh ((show A.heap[L]?=S.heap[L]? by rw[d];exact CO b3 _ _ _ _).trans U.o);have d2:=qh (show A.heap[k]?=some (.cells #[.int .i64 0,.int .i64 0,.string ⟨#[]⟩,.slice none 0 0] 25 (0,0)) by rw[d];exact AA S k _ _ _ _ E.o);have F:=qh (show Below w.heap.size w A by rw[d];exact Au T.o b4 _ _ _ _);rw[<-d];clear d a0 a1 a2 a3 z0 z1 z2 z3 p U E T;refine g.out _ _ (.inr (cells4 a6.o).1.1) ?_;clear g K
    try simp only[Act.put,tryL]
    refine Aa.on 13 λK g=>?_;go_simp;refine g.out _ _ (.inl rfl) (Aa.dn ?_);clear g K;obtain⟨⟨r0,r1,r2,r3⟩,O⟩:=cells4 N.o;have f0:=O 0;have f1:=O 1;have f2:=O 2;have f3:=O 3;clear O
    go_wp2_with fail
    exact bodyPost_ret (AE rfl _ (b:=L) rfl rfl (AA _ L _ _ _ _ N.o)) rfl ⟨Au F.o b6 _ _ _ _,.inr ⟨λh=>absurd h.2 (by rw[m.o];decide),rfl⟩⟩
   go_simp;obtain⟨Q,d0⟩:=exq<|w6.alloc (.cells #[.int .i64 0,.int .i64 0,.string ⟨#[]⟩,.slice none 0 0] 25);obtain⟨k,z⟩:=exq<|w6.heap.size;have u:Below w6.heap.size w6 Q:=by rw[d0];exact(Below.refl _ w6).alloc nlr _
   have a4:=qh (show Q.heap[k]?=some (.cells #[.int .i64 0,.int .i64 0,.string ⟨#[]⟩,.slice none 0 0] 25 (0,0)) by rw[d0,z];exact han w6 _);have b4:w.heap.size<=k:=by rw[z];exact B.o.size
   have b3:L≠k:=by have:=lbk I.o;omega
   have b2:mb≠k:=by have:=lbk C.o;omega
   rw[<-d0,<-z];clear d0 z;have l:=qh<|(u.block _ (lbk C.o)).trans C.o;have H:=qh<|(u.block _ (lbk I.o)).trans I.o;have o:=qh<|B.o.trans (u.mono B.o.size);clear u B C I;refine g _ _ ⟨.inr (cells4 l.o).1.1,?_⟩;clear g K
   try simp only[Act.put,tryL]
   refine Aa.on 7 λK g=>?_;go_simp;refine(Jc Q (b5.o Q o.o) b7 m.o).mono ?_;rintro r S⟨s,rfl⟩;unfold AF;have p:=qh<|(s.block _ (lbk l.o)).trans l.o;have U:=qh<|(s.block _ (lbk H.o)).trans H.o;have E:=qh<|(s.block _ (lbk a4.o)).trans a4.o;have T:=qh<|o.o.trans (s.mono o.o.size);clear s o l H a4;refine g.out _ _ (.inr (cells4 p.o).1.1) ?_;clear g K
   try simp only[Act.put,tryL]
   refine Aa.tm 8 (cells4 p.o).1.1 ?_;refine Aa.tm 9 (cells4 p.o).1.1 ?_;refine Aa.tm 10 (cells4 p.o).1.1 ?_
   try simp only[Act.put,tryL]
   obtain⟨⟨a0,a1,a2,a3⟩,X⟩:=cells4 E.o;have z0:=X 0;have z1:=X 1;have z2:=X 2;have z3:=X 3;clear X;refine Aa.on 12 λK g=>?_;go_simp;obtain⟨A,d⟩:∃A,A=(((S.setCell ⟨k,0,none⟩ (.int .i64 0)).setCell ⟨k,1,none⟩ (.int .i64 0)).setCell (Ad k 2) (.string ⟨#[]⟩)).setCell (Ad k 3) (.slice none 0 0):=⟨_,rfl⟩;have a6:=qh ((show A.heap[mb]?=S.heap[mb]? by rw[d];exact CO b2 _ _ _ _).trans p.o);have N:=qh ((show A.heap[L]?=S.heap[L]? by rw[d];exact CO b3 _ _ _ _).trans U.o);have d2:=qh (show A.heap[k]?=some (.cells #[.int .i64 0,.int .i64 0,.string ⟨#[]⟩,.slice none 0 0] 25 (0,0)) by rw[d];exact AA S k _ _ _ _ E.o);have F:=qh (show Below w.heap.size w A by rw[d];exact Au T.o b4 _ _ _ _);rw[<-d];clear d a0 a1 a2 a3 z0 z1 z2 z3 p U E T;refine g.out _ _ (.inr (cells4 a6.o).1.1) ?_;clear g K
   try simp only[Act.put,tryL]
   refine Aa.on 13 λK g=>?_;go_simp;refine g.out _ _ (.inl rfl) (Aa.dn ?_);clear g K;obtain⟨⟨r0,r1,r2,r3⟩,O⟩:=cells4 N.o;have f0:=O 0;have f1:=O 1;have f2:=O 2;have f3:=O 3;clear O
   go_wp2_with fail
   exact bodyPost_ret (AE rfl _ (b:=L) rfl rfl (AA _ L _ _ _ _ N.o)) rfl ⟨Au F.o b6 _ _ _ _,.inr ⟨λh=>absurd h.2 (by rw[m.o];decide),rfl⟩⟩
  go_simp;obtain⟨w6,b9⟩:=exq<|w5.alloc (.cells #[.int .i64 0,.int .i64 0,.string ⟨#[]⟩,.slice none 0 0] 25);obtain⟨k,z⟩:=exq<|w5.heap.size;have P:Below w5.heap.size w5 w6:=by rw[b9];exact(Below.refl _ w5).alloc nlr _
  have d6:=qh (show w6.heap[k]?=some (.cells #[.int .i64 0,.int .i64 0,.string ⟨#[]⟩,.slice none 0 0] 25 (0,0)) by rw[b9,z];exact han w5 _);have b4:w.heap.size<=k:=by rw[z];exact a5.o.size
  have b3:L≠k:=by have:=lbk a7.o;omega
  have b2:mb≠k:=by have:=lbk G.o;omega
  rw[<-b9,<-z];clear b9 z;have C:=qh<|(P.block _ (lbk G.o)).trans G.o;have I:=qh<|(P.block _ (lbk a7.o)).trans a7.o;have B:=qh<|a5.o.trans (P.mono a5.o.size);clear P a5 G a7;refine g _ _ ⟨.inr (cells4 C.o).1.1,?_⟩;clear g K
  try simp only[Act.put,tryL]
  refine Aa.on 6 λK g=>?_;go_simp;refine(Gt D.kind _).mono ?_;rintro r Q⟨rfl,u⟩;have l:=qh<|(u.block _ (lbk C.o)).trans C.o;have H:=qh<|(u.block _ (lbk I.o)).trans I.o;have a4:=qh<|(u.block _ (lbk d6.o)).trans d6.o;have o:=qh<|B.o.trans (u.mono B.o.size);clear u B C I d6;refine g.out _ _ (.inr (cells4 l.o).1.1) ?_;clear g K
  try simp only[Act.put,tryL]
  refine Aa.on 7 λK g=>?_;go_simp;refine(Jc Q (b5.o Q o.o) b7 m.o).mono ?_;rintro r S⟨s,rfl⟩;unfold AF;have p:=qh<|(s.block _ (lbk l.o)).trans l.o;have U:=qh<|(s.block _ (lbk H.o)).trans H.o;have E:=qh<|(s.block _ (lbk a4.o)).trans a4.o;have T:=qh<|o.o.trans (s.mono o.o.size);clear s o l H a4;refine g.out _ _ (.inr (cells4 p.o).1.1) ?_;clear g K
  try simp only[Act.put,tryL]
  refine Aa.tm 8 (cells4 p.o).1.1 ?_;refine Aa.tm 9 (cells4 p.o).1.1 ?_;refine Aa.tm 10 (cells4 p.o).1.1 ?_
  try simp only[Act.put,tryL]
  obtain⟨⟨a0,a1,a2,a3⟩,X⟩:=cells4 E.o;have z0:=X 0;have z1:=X 1;have z2:=X 2;have z3:=X 3;clear X;refine Aa.on 12 λK g=>?_;go_simp;obtain⟨A,d⟩:∃A,A=(((S.setCell ⟨k,0,none⟩ (.int .i64 0)).setCell ⟨k,1,none⟩ (.int .i64 0)).setCell (Ad k 2) (.string ⟨#[]⟩)).setCell (Ad k 3) (.slice none 0 0):=⟨_,rfl⟩;have a6:=qh ((show A.heap[mb]?=S.heap[mb]? by rw[d];exact CO b2 _ _ _ _).trans p.o);have N:=qh ((show A.heap[L]?=S.heap[L]? by rw[d];exact CO b3 _ _ _ _).trans U.o);have d2:=qh (show A.heap[k]?=some (.cells #[.int .i64 0,.int .i64 0,.string ⟨#[]⟩,.slice none 0 0] 25 (0,0)) by rw[d];exact AA S k _ _ _ _ E.o);have F:=qh (show Below w.heap.size w A by rw[d];exact Au T.o b4 _ _ _ _);rw[<-d];clear d a0 a1 a2 a3 z0 z1 z2 z3 p U E T;refine g.out _ _ (.inr (cells4 a6.o).1.1) ?_;clear g K
  try simp only[Act.put,tryL]
  refine Aa.on 13 λK g=>?_;go_simp;refine g.out _ _ (.inl rfl) (Aa.dn ?_);clear g K;obtain⟨⟨r0,r1,r2,r3⟩,O⟩:=cells4 N.o;have f0:=O 0;have f1:=O 1;have f2:=O 2;have f3:=O 3;clear O
  go_wp2_with fail
  exact bodyPost_ret (AE rfl _ (b:=L) rfl rfl (AA _ L _ _ _ _ N.o)) rfl ⟨Au F.o b6 _ _ _ _,.inr ⟨λh=>absurd h.2 (by rw[m.o];decide),rfl⟩⟩
 replace m:=qh m
 go_wp2_with fail
 refine AB (λwk=>wk.cell? (Ad mb 0)=some (.int .i64 D.kind)) 13 (by kernel_rfl) ?_;rw[<-f8];clear f8;refine Aa.tm 0 (cells4 G.o).1.1 ?_;refine Aa.tm 1 (cells4 G.o).1.1 ?_;refine Aa.tm 2 (cells4 G.o).1.1 ?_;refine Aa.tm 3 (cells4 G.o).1.1 ?_;refine Aa.tm 4 (cells4 G.o).1.1 ?_;refine Aa.tm 5 (cells4 G.o).1.1 ?_
 try simp only[Act.put,tryL]
 refine Aa.pair (i:=6) (j:=11) (by kernel_rfl) (Bm rfl rfl λK g=>?_) (Bm rfl rfl λK g=>?_)
 ·go_simp;refine(Gt D.kind _).mono ?_;rintro r w6⟨rfl,P⟩;have C:=qh<|(P.block _ (lbk G.o)).trans G.o;have I:=qh<|(P.block _ (lbk a7.o)).trans a7.o;have B:=qh<|a5.o.trans (P.mono a5.o.size);clear P a5 G a7;refine g _ _ ⟨.inr (cells4 C.o).1.1,?_⟩;clear g K
  try simp only[Act.put,tryL]
  refine Aa.pair (i:=7) (j:=11) (by kernel_rfl) (Bm rfl rfl λK g=>?_) (Bm rfl rfl λK g=>?_)
  ·go_simp;refine(Jd w6 (b5.o w6 B.o) (b5.o w6 B.o) b7 b7 (Ex HV.o.kind) (b8.o w6 B.o) ⟨m.o,m.o,Ey HV.o.kind⟩).mono ?_;rintro r Q⟨u,sv,R,rfl,c⟩;have c:=CJ c B.o.size;obtain⟨sa,sc,Z,_,_⟩:=Ax c.top;rw[(BN HV.o.kind m.o).2.2.2.2.2]at Z;subst Z;have h3:=qh c;clear c;have l:=qh<|(u.block _ (lbk C.o)).trans C.o;have H:=qh<|(u.block _ (lbk I.o)).trans I.o;have o:=qh<|B.o.trans (u.mono B.o.size);clear u B C I;refine g _ _ ⟨.inr (cells4 l.o).1.1,?_⟩;clear g K
   try simp only[Act.put,tryL]
   refine Aa.tm 8 (cells4 l.o).1.1 ?_;refine Aa.tm 9 (cells4 l.o).1.1 ?_;refine Aa.tm 10 (cells4 l.o).1.1 ?_
   try simp only[Act.put,tryL]
   refine Aa.on 11 λK g=>?_;go_simp;obtain⟨S,d1⟩:=exq<|Q.alloc (.cells #[.int .i64 0,.int .i64 0,.string ⟨#[]⟩,.slice none 0 0] 25);obtain⟨k,z⟩:=exq<|Q.heap.size;have s:Below Q.heap.size Q S:=by rw[d1];exact(Below.refl _ Q).alloc nlr _
   have E:=qh (show S.heap[k]?=some (.cells #[.int .i64 0,.int .i64 0,.string ⟨#[]⟩,.slice none 0 0] 25 (0,0)) by rw[d1,z];exact han Q _);have b4:w.heap.size<=k:=by rw[z];exact o.o.size
   have b3:L≠k:=by have:=lbk H.o;omega
   have b2:mb≠k:=by have:=lbk l.o;omega
   rw[<-d1,<-z];clear d1 z;have p:=qh<|(s.block _ (lbk l.o)).trans l.o;have U:=qh<|(s.block _ (lbk H.o)).trans H.o;have d3:=qh<|VE h3.o s;have T:=qh<|o.o.trans (s.mono o.o.size);clear s o l H h3;refine g.out _ _ (.inr (cells4 p.o).1.1) ?_;clear g K
   try simp only[Act.put,tryL]
   obtain⟨⟨a0,a1,a2,a3⟩,X⟩:=cells4 E.o;have z0:=X 0;have z1:=X 1;have z2:=X 2;have z3:=X 3;clear X;refine Aa.on 12 λK g=>?_;go_simp;obtain⟨A,d⟩:∃A,A=(((S.setCell ⟨k,0,none⟩ (.int .i64 D.kind)).setCell (Ad k 1) (.int .i64 0)).setCell (Ad k 2) (.string (oneF D.kind))).setCell (Ad k 3) (.slice sa (na+1) sc):=⟨_,rfl⟩;have a6:=qh ((show A.heap[mb]?=S.heap[mb]? by rw[d];exact CO b2 _ _ _ _).trans p.o);have N:=qh ((show A.heap[L]?=S.heap[L]? by rw[d];exact CO b3 _ _ _ _).trans U.o);have d2:=qh (show A.heap[k]?=some (.cells #[.int .i64 D.kind,.int .i64 0,.string (oneF D.kind),.slice sa (na+1) sc] 25 (0,0)) by rw[d];exact AA S k _ _ _ _ E.o);have F:=qh (show Below w.heap.size w A by rw[d];exact Au T.o b4 _ _ _ _);have e7:=qh (show OwM A w.heap.size (.slice sa (na+1) sc) (wrd D na x) R by rw[d];exact d3.o.box4 E.o _ _ _ _);rw[<-d];clear d a0 a1 a2 a3 z0 z1 z2 z3 p U E T d3;refine g.out _ _ (.inr (cells4 a6.o).1.1) ?_;clear g K
   try simp only[Act.put,tryL]
   refine Aa.on 13 λK g=>?_;go_simp;refine g.out _ _ (.inl rfl) (Aa.dn ?_);clear g K;obtain⟨⟨m0,m1,m2,m3⟩,_⟩:=cells4 a6.o;obtain⟨⟨a0,a1,a2,a3⟩,_⟩:=cells4 d2.o;have b1:Ma none A (.agg #[.int .i64 D.kind,.int .i64 0,.string (oneF D.kind),.slice sa (na+1) sc]) (wrd D na x):=by
    obtain⟨_,_,e1,e2,e3,_⟩:=BN (x:=x) HV.o.kind m.o;have h1:=e7.o.ma<|Below.refl _ A;rw[e1,e2,e3]at h1;exact h1
   have e5:=qh<|CW A b1 (d8.o A F.o) (BN HV.o.kind m.o).2.1 d9.o (b8.o A F.o);clear b1
   go_wp2_with fail
   clear m0 m1 m2 m3 a0 a1 a2 a3;refine e5.o.mono ?_;rintro r d5⟨Y,hr⟩;have f9:=F.o.size;have J:=qh<|(Y.block _ (lbk N.o)).trans N.o;have a9:=qh<|F.o.trans (Y.mono F.o.size);clear Y F N;obtain⟨⟨r0,r1,r2,r3⟩,O⟩:=cells4 J.o;have f0:=O 0;have f1:=O 1;have f2:=O 2;have f3:=O 3;clear O
   rcases hr with⟨_,_,a8,⟨n,M,d4,sv,R',rfl,c⟩|⟨b0,rfl⟩⟩|⟨_,_,a8,rfl⟩|⟨f5,rfl⟩
   ·obtain⟨ta,tc,Z,_,_⟩:=Ax c.top;subst Z;have e8:=qh<|CJ (c.box4 J.o (.int .i64 M.kind) (.int .i64 M.start) (.string M.lead) (.slice ta M.n tc)) f9;clear c;have e6:=qh d4;clear d4;clear a8
    go_wp2_with fail
    exact bodyPost_ret (AE rfl _ (b:=L) rfl rfl (AA d5 L _ _ _ _ J.o)) rfl ⟨Au a9.o b6 _ _ _ _,.inl ⟨HV.o,m.o,.inl ⟨n,M,e6.o,_,R',rfl,e8.o⟩⟩⟩
   ·have e4:=qh b0;clear b0;clear a8;unfold AF
    go_wp2_with fail
    exact bodyPost_ret (AE rfl _ (b:=L) rfl rfl (AA d5 L _ _ _ _ J.o)) rfl ⟨Au a9.o b6 _ _ _ _,.inl ⟨HV.o,m.o,.inr ⟨e4.o,rfl⟩⟩⟩
   ·exact absurd (BN (x:=x) HV.o.kind m.o).2.2.1 a8
   exact absurd ⟨(BN HV.o.kind m.o).1,HV.o⟩ f5
  go_simp;obtain⟨Q,d0⟩:=exq<|w6.alloc (.cells #[.int .i64 0,.int .i64 0,.string ⟨#[]⟩,.slice none 0 0] 25);obtain⟨k,z⟩:=exq<|w6.heap.size;have u:Below w6.heap.size w6 Q:=by rw[d0];exact(Below.refl _ w6).alloc nlr _
  have a4:=qh (show Q.heap[k]?=some (.cells #[.int .i64 0,.int .i64 0,.string ⟨#[]⟩,.slice none 0 0] 25 (0,0)) by rw[d0,z];exact han w6 _);have b4:w.heap.size<=k:=by rw[z];exact B.o.size
  have b3:L≠k:=by have:=lbk I.o;omega
  have b2:mb≠k:=by have:=lbk C.o;omega
  rw[<-d0,<-z];clear d0 z;have l:=qh<|(u.block _ (lbk C.o)).trans C.o;have H:=qh<|(u.block _ (lbk I.o)).trans I.o;have o:=qh<|B.o.trans (u.mono B.o.size);clear u B C I;refine g _ _ ⟨.inr (cells4 l.o).1.1,?_⟩;clear g K
  try simp only[Act.put,tryL]
  refine Aa.on 7 λK g=>?_;go_simp;refine(Jd Q (b5.o Q o.o) (b5.o Q o.o) b7 b7 (Ex HV.o.kind) (b8.o Q o.o) ⟨m.o,m.o,Ey HV.o.kind⟩).mono ?_;rintro r S⟨s,sv,R,rfl,c⟩;have c:=CJ c o.o.size;obtain⟨sa,sc,Z,_,_⟩:=Ax c.top;rw[(BN HV.o.kind m.o).2.2.2.2.2]at Z;subst Z;have d3:=qh c;clear c;have p:=qh<|(s.block _ (lbk l.o)).trans l.o;have U:=qh<|(s.block _ (lbk H.o)).trans H.o;have E:=qh<|(s.block _ (lbk a4.o)).trans a4.o;have T:=qh<|o.o.trans (s.mono o.o.size);clear s o l H a4;refine g.out _ _ (.inr (cells4 p.o).1.1) ?_;clear g K
  try simp only[Act.put,tryL]
  refine Aa.tm 8 (cells4 p.o).1.1 ?_;refine Aa.tm 9 (cells4 p.o).1.1 ?_;refine Aa.tm 10 (cells4 p.o).1.1 ?_
  try simp only[Act.put,tryL]
  obtain⟨⟨a0,a1,a2,a3⟩,X⟩:=cells4 E.o;have z0:=X 0;have z1:=X 1;have z2:=X 2;have z3:=X 3;clear X;refine Aa.on 12 λK g=>?_;go_simp;obtain⟨A,d⟩:∃A,A=(((S.setCell ⟨k,0,none⟩ (.int .i64 D.kind)).setCell (Ad k 1) (.int .i64 0)).setCell (Ad k 2) (.string (oneF D.kind))).setCell (Ad k 3) (.slice sa (na+1) sc):=⟨_,rfl⟩;have a6:=qh ((show A.heap[mb]?=S.heap[mb]? by rw[d];exact CO b2 _ _ _ _).trans p.o);have N:=qh ((show A.heap[L]?=S.heap[L]? by rw[d];exact CO b3 _ _ _ _).trans U.o);have d2:=qh (show A.heap[k]?=some (.cells #[.int .i64 D.kind,.int .i64 0,.string (oneF D.kind),.slice sa (na+1) sc] 25 (0,0)) by rw[d];exact AA S k _ _ _ _ E.o);have F:=qh (show Below w.heap.size w A by rw[d];exact Au T.o b4 _ _ _ _);have e7:=qh (show OwM A w.heap.size (.slice sa (na+1) sc) (wrd D na x) R by rw[d];exact d3.o.box4 E.o _ _ _ _);rw[<-d];clear d a0 a1 a2 a3 z0 z1 z2 z3 p U E T d3;refine g.out _ _ (.inr (cells4 a6.o).1.1) ?_;clear g K
  try simp only[Act.put,tryL]
  refine Aa.on 13 λK g=>?_;go_simp;refine g.out _ _ (.inl rfl) (Aa.dn ?_);clear g K;obtain⟨⟨m0,m1,m2,m3⟩,_⟩:=cells4 a6.o;obtain⟨⟨a0,a1,a2,a3⟩,_⟩:=cells4 d2.o;have b1:Ma none A (.agg #[.int .i64 D.kind,.int .i64 0,.string (oneF D.kind),.slice sa (na+1) sc]) (wrd D na x):=by
   obtain⟨_,_,e1,e2,e3,_⟩:=BN (x:=x) HV.o.kind m.o;have h1:=e7.o.ma<|Below.refl _ A;rw[e1,e2,e3]at h1;exact h1
  have e5:=qh<|CW A b1 (d8.o A F.o) (BN HV.o.kind m.o).2.1 d9.o (b8.o A F.o);clear b1
  go_wp2_with fail
  clear m0 m1 m2 m3 a0 a1 a2 a3;refine e5.o.mono ?_;rintro r d5⟨Y,hr⟩;have f9:=F.o.size;have J:=qh<|(Y.block _ (lbk N.o)).trans N.o;have a9:=qh<|F.o.trans (Y.mono F.o.size);clear Y F N;obtain⟨⟨r0,r1,r2,r3⟩,O⟩:=cells4 J.o;have f0:=O 0;have f1:=O 1;have f2:=O 2;have f3:=O 3;clear O
  rcases hr with⟨_,_,a8,⟨n,M,d4,sv,R',rfl,c⟩|⟨b0,rfl⟩⟩|⟨_,_,a8,rfl⟩|⟨f5,rfl⟩
  ·obtain⟨ta,tc,Z,_,_⟩:=Ax c.top;subst Z;have e8:=qh<|CJ (c.box4 J.o (.int .i64 M.kind) (.int .i64 M.start) (.string M.lead) (.slice ta M.n tc)) f9;clear c;have e6:=qh d4;clear d4;clear a8
   go_wp2_with fail
   exact bodyPost_ret (AE rfl _ (b:=L) rfl rfl (AA d5 L _ _ _ _ J.o)) rfl ⟨Au a9.o b6 _ _ _ _,.inl ⟨HV.o,m.o,.inl ⟨n,M,e6.o,_,R',rfl,e8.o⟩⟩⟩
  ·have e4:=qh b0;clear b0;clear a8;unfold AF
   go_wp2_with fail
   exact bodyPost_ret (AE rfl _ (b:=L) rfl rfl (AA d5 L _ _ _ _ J.o)) rfl ⟨Au a9.o b6 _ _ _ _,.inl ⟨HV.o,m.o,.inr ⟨e4.o,rfl⟩⟩⟩
  ·exact absurd (BN (x:=x) HV.o.kind m.o).2.2.1 a8
  exact absurd ⟨(BN HV.o.kind m.o).1,HV.o⟩ f5
 go_simp;obtain⟨w6,b9⟩:=exq<|w5.alloc (.cells #[.int .i64 0,.int .i64 0,.string ⟨#[]⟩,.slice none 0 0] 25);obtain⟨k,z⟩:=exq<|w5.heap.size;have P:Below w5.heap.size w5 w6:=by rw[b9];exact(Below.refl _ w5).alloc nlr _
 have d6:=qh (show w6.heap[k]?=some (.cells #[.int .i64 0,.int .i64 0,.string ⟨#[]⟩,.slice none 0 0] 25 (0,0)) by rw[b9,z];exact han w5 _);have b4:w.heap.size<=k:=by rw[z];exact a5.o.size
 have b3:L≠k:=by have:=lbk a7.o;omega
 have b2:mb≠k:=by have:=lbk G.o;omega
 rw[<-b9,<-z];clear b9 z;have C:=qh<|(P.block _ (lbk G.o)).trans G.o;have I:=qh<|(P.block _ (lbk a7.o)).trans a7.o;have B:=qh<|a5.o.trans (P.mono a5.o.size);clear P a5 G a7;refine g _ _ ⟨.inr (cells4 C.o).1.1,?_⟩;clear g K
 try simp only[Act.put,tryL]
 refine Aa.on 6 λK g=>?_;go_simp;refine(Gt D.kind _).mono ?_;rintro r Q⟨rfl,u⟩;have l:=qh<|(u.block _ (lbk C.o)).trans C.o;have H:=qh<|(u.block _ (lbk I.o)).trans I.o;have a4:=qh<|(u.block _ (lbk d6.o)).trans d6.o;have o:=qh<|B.o.trans (u.mono B.o.size);clear u B C I d6;refine g.out _ _ (.inr (cells4 l.o).1.1) ?_;clear g K
 try simp only[Act.put,tryL]
 refine Aa.on 7 λK g=>?_;go_simp;refine(Jd Q (b5.o Q o.o) (b5.o Q o.o) b7 b7 (Ex HV.o.kind) (b8.o Q o.o) ⟨m.o,m.o,Ey HV.o.kind⟩).mono ?_;rintro r S⟨s,sv,R,rfl,c⟩;have c:=CJ c o.o.size;obtain⟨sa,sc,Z,_,_⟩:=Ax c.top;rw[(BN HV.o.kind m.o).2.2.2.2.2]at Z;subst Z;have d3:=qh c;clear c;have p:=qh<|(s.block _ (lbk l.o)).trans l.o;have U:=qh<|(s.block _ (lbk H.o)).trans H.o;have E:=qh<|(s.block _ (lbk a4.o)).trans a4.o;have T:=qh<|o.o.trans (s.mono o.o.size);clear s o l H a4;refine g.out _ _ (.inr (cells4 p.o).1.1) ?_;clear g K
 try simp only[Act.put,tryL]
 refine Aa.tm 8 (cells4 p.o).1.1 ?_;refine Aa.tm 9 (cells4 p.o).1.1 ?_;refine Aa.tm 10 (cells4 p.o).1.1 ?_
 try simp only[Act.put,tryL]
 obtain⟨⟨a0,a1,a2,a3⟩,X⟩:=cells4 E.o;have z0:=X 0;have z1:=X 1;have z2:=X 2;have z3:=X 3;clear X;refine Aa.on 12 λK g=>?_;go_simp;obtain⟨A,d⟩:∃A,A=(((S.setCell ⟨k,0,none⟩ (.int .i64 D.kind)).setCell (Ad k 1) (.int .i64 0)).setCell (Ad k 2) (.string (oneF D.kind))).setCell (Ad k 3) (.slice sa (na+1) sc):=⟨_,rfl⟩;have a6:=qh ((show A.heap[mb]?=S.heap[mb]? by rw[d];exact CO b2 _ _ _ _).trans p.o);have N:=qh ((show A.heap[L]?=S.heap[L]? by rw[d];exact CO b3 _ _ _ _).trans U.o);have d2:=qh (show A.heap[k]?=some (.cells #[.int .i64 D.kind,.int .i64 0,.string (oneF D.kind),.slice sa (na+1) sc] 25 (0,0)) by rw[d];exact AA S k _ _ _ _ E.o);have F:=qh (show Below w.heap.size w A by rw[d];exact Au T.o b4 _ _ _ _);have e7:=qh (show OwM A w.heap.size (.slice sa (na+1) sc) (wrd D na x) R by rw[d];exact d3.o.box4 E.o _ _ _ _);rw[<-d];clear d a0 a1 a2 a3 z0 z1 z2 z3 p U E T d3;refine g.out _ _ (.inr (cells4 a6.o).1.1) ?_;clear g K
 try simp only[Act.put,tryL]
 refine Aa.on 13 λK g=>?_;go_simp;refine g.out _ _ (.inl rfl) (Aa.dn ?_);clear g K;obtain⟨⟨m0,m1,m2,m3⟩,_⟩:=cells4 a6.o;obtain⟨⟨a0,a1,a2,a3⟩,_⟩:=cells4 d2.o;have b1:Ma none A (.agg #[.int .i64 D.kind,.int .i64 0,.string (oneF D.kind),.slice sa (na+1) sc]) (wrd D na x):=by
  obtain⟨_,_,e1,e2,e3,_⟩:=BN (x:=x) HV.o.kind m.o;have h1:=e7.o.ma<|Below.refl _ A;rw[e1,e2,e3]at h1;exact h1
 have e5:=qh<|CW A b1 (d8.o A F.o) (BN HV.o.kind m.o).2.1 d9.o (b8.o A F.o);clear b1
 go_wp2_with fail
 clear m0 m1 m2 m3 a0 a1 a2 a3;refine e5.o.mono ?_;rintro r d5⟨Y,hr⟩;have f9:=F.o.size;have J:=qh<|(Y.block _ (lbk N.o)).trans N.o;have a9:=qh<|F.o.trans (Y.mono F.o.size);clear Y F N;obtain⟨⟨r0,r1,r2,r3⟩,O⟩:=cells4 J.o;have f0:=O 0;have f1:=O 1;have f2:=O 2;have f3:=O 3;clear O
 rcases hr with⟨_,_,a8,⟨n,M,d4,sv,R',rfl,c⟩|⟨b0,rfl⟩⟩|⟨_,_,a8,rfl⟩|⟨f5,rfl⟩
 ·obtain⟨ta,tc,Z,_,_⟩:=Ax c.top;subst Z;have e8:=qh<|CJ (c.box4 J.o (.int .i64 M.kind) (.int .i64 M.start) (.string M.lead) (.slice ta M.n tc)) f9;clear c;have e6:=qh d4;clear d4;clear a8
  go_wp2_with fail
  exact bodyPost_ret (AE rfl _ (b:=L) rfl rfl (AA d5 L _ _ _ _ J.o)) rfl ⟨Au a9.o b6 _ _ _ _,.inl ⟨HV.o,m.o,.inl ⟨n,M,e6.o,_,R',rfl,e8.o⟩⟩⟩
 ·have e4:=qh b0;clear b0;clear a8;unfold AF
  go_wp2_with fail
  exact bodyPost_ret (AE rfl _ (b:=L) rfl rfl (AA d5 L _ _ _ _ J.o)) rfl ⟨Au a9.o b6 _ _ _ _,.inl ⟨HV.o,m.o,.inr ⟨e4.o,rfl⟩⟩⟩
 ·exact absurd (BN (x:=x) HV.o.kind m.o).2.2.1 a8
 exact absurd ⟨(BN HV.o.kind m.o).1,HV.o⟩ f5
def selE(i o:Int):Bool:=decide<|i=o
def Ty:∀args w,(callFunc 105 args).run prog w=.ok (.enter 105 args) w:=λargs w=>by kernel_rfl
def TA:∀args w,(callFunc 142 args).run prog w=.ok (.enter 142 args) w:=λargs w=>by kernel_rfl
def QX(w:World)(i o:Int)(s:ByteArray)(t:Int):Calls prog 105 #[.agg #[.int .i64 i,.int .i64 o,.string s,.int .i64 t]] w (λr w'=>r=.returned (.bool (selE i o))/\Below w.heap.size w w'):=by
 have c:=(Below.refl w.heap.size w).alloc nlr (.cells #[.int .i64 i,.int .i64 o,.string s,.int .i64 t] 59);replace c:=qh c
 go_enter func105,ntmps105
 go_wp2;go_ret;exact⟨AJ (by by_cases h:i=o<;>simp[selE,h]),c.o⟩
def Yr:TstA 105 #[] selE (λ_=>True) :=
 ⟨Ty,λc _ i o s t=>by
  have h:=QX c i o s t;rw[show ∀a:Value,(#[a]++#[]:Array Value)=#[a] from λ_=>rfl];exact h⟩
def PAl(tb nf:Nat)(w:World):Prop:=w.heap[tb]?=some (.cells #[.func (.func nf) #[] #[]] 116 (0,0))
def Ys{nf:Nat}{sel:Int->Int->Bool}(u:Nat)(L:TstA nf #[] sel (λ_=>True)):TstA 142 #[.pointer (some (Ad u 0))] (λi o=>!sel i o) (PAl u nf):=by
 refine⟨TA,λp E i o s t=>?_⟩;rw[show ∀a b:Value,(#[a]++#[b]:Array Value)=#[a,b] from λ_ _=>rfl];obtain⟨K,m⟩:=L;obtain⟨j,g⟩:=exq<|p.alloc (.cells #[.int .i64 i,.int .i64 o,.string s,.int .i64 t] 59);obtain⟨D,h⟩:=exq<|p.heap.size;have d:=(Below.refl p.heap.size p).alloc nlr (.cells #[.int .i64 i,.int .i64 o,.string s,.int .i64 t] 59);rw[<-g]at d;have H:j.heap[u]?=some (.cells #[.func (.func nf) #[] #[]] 116 (0,0)):=(d.block _ (lbk E)).trans E;have l:j.heap[D]?=some (.cells #[.int .i64 i,.int .i64 o,.string s,.int .i64 t] 59 (0,0)):=by rw[g,h];exact han p _
 obtain⟨J,F⟩:=exq<|j.drew;have I:j.cell? (Ad u 0)=some (.func (.func nf) #[] #[]):=by simp[World.cell?,H]
 obtain⟨⟨a0,B,C,a3⟩,_⟩:=cells4 l;have c:=m j trivial i o s t;rw[show ∀a:Value,(#[a]++#[]:Array Value)=#[a] from λ_=>rfl]at c;have G:=qh c;clear c m;have z:=qh d;clear d H l E F;rw[g]at I a0 B C a3;rw[h]at a0 B C a3
 go_enter func142,ntmps142
 go_wp2_with fail
 rw[<-g];clear I a0 B C a3 g h;refine G.o.mono ?_;rintro r N⟨rfl,k⟩;have A:=qh<|z.o.trans (k.mono z.o.size);clear k G z;go_wp2;go_ret;exact⟨AJ (by cases sel i o<;>rfl),A.o⟩
def LF:AccD D↔∀i,i<D.n->anyA D i (λa b=>!selE a b)=false:=by
 constructor
 ·intro h i hi;refine LV λd hd=>?_;have:=h i d hi hd;simp[selE,this]
 intro h q d k hd;have j:=h q k;cases c:selE (D.ain q d) (D.aout q d)
 ·have g:anyA D q (λa b=>!selE a b)=true:=Ja.2 ⟨d,hd,by simp[c]⟩;rw[j]at g;cases g
 unfold selE at c;simp at c;exact c.symm
def TstM(Q:Prop)(w:World)(r:Ending)(w':World):Prop:=Below w.heap.size w w'/\((Q/\r=.returned (.bool true))\/(¬Q/\r=.returned (.bool false)))
def Rm{mv:Value}(w:World)(hM:Ma none w mv D)(a2:MSz D)(ht:Tab w):Calls prog 104 #[mv,.func (.func 105) #[] #[]] w (TstM (VM D/\AccD D) w):=by
 obtain⟨sv,rfl,hS⟩:=hM;obtain⟨a,cp,b,b4,A,C,BB,O,d0,ha,hc,hm,hb,E⟩:=hS.open;subst d0;unfold maxLen at hm;obtain⟨P,u⟩:=exq<|w.alloc (.cells #[.int .i64 D.kind,.int .i64 D.start,.string D.lead,.slice a D.n cp] 25);obtain⟨G,F⟩:=exq<|P.alloc (.cells #[.func (.func 105) #[] #[]] 116);have b3:P.heap.size=w.heap.size+1:=by rw[u];simp
 have b0:Fr (λ_=>False) w P:=by rw[u];exact Fr.alloc _ _
 have Y:Fr (λ_=>False) P G:=by rw[F];exact Fr.alloc _ _
 have Z:P.heap[w.heap.size]?=some (.cells #[.int .i64 D.kind,.int .i64 D.start,.string D.lead,.slice a D.n cp] 25 (0,0)):=by rw[u];exact han w _
 have d:G.heap[w.heap.size]?=some (.cells #[.int .i64 D.kind,.int .i64 D.start,.string D.lead,.slice a D.n cp] 25 (0,0)):=(Y.block _ (lbk Z) (λe=>e)).trans Z;have s:PAl (w.heap.size+1) 105 G:=by show G.heap[w.heap.size+1]?=_;rw[<-b3,F];exact han P _
 have H:Below w.heap.size w G:=(b0.trans Y).below nlr (λ_ e=>e.elim);obtain⟨mb,a1⟩:=exq<|w.heap.size;obtain⟨tb,a4⟩:=exq<|w.heap.size+1;obtain⟨⟨m0,m1,m2,m3⟩,_⟩:=cells4 d;have a7:=qh<|Fi G (⟨_,rfl,hS.kept (Ab H none)⟩:Ma none G (.agg #[.int .i64 D.kind,.int .i64 D.start,.string D.lead,.slice a D.n cp]) D) a2 (ht.below H nlr);rw[<-a1]at d;rw[<-a4]at s;have b7:mb<G.heap.size:=lbk d;have Q:=qh H;clear H;have T:=qh d;clear d Z b0 Y b3;have o:=qh s;clear s;replace hS:=qh hS;replace ht:=qh ht;replace a2:=qh a2;replace ha:=qh ha;have HB:=qh hb;clear hb;replace E:=qh E;rw[F,u]at m0 m1 m2 m3
 go_enter func104,ntmps104
 go_wp2_with fail
 rw[<-u,<-F,<-a4,<-a1];clear m0 m1 m2 m3 u F a1 a4;refine a7.o.mono ?_;rintro r w3⟨I,hr⟩;have N:=Q.o.trans<|I.mono Q.o.size;have d:=(I.block _ (lbk T.o)).trans T.o;have s:PAl tb 105 w3:=(I.block _ (lbk o.o)).trans o.o;obtain⟨⟨m0,m1,m2,m3⟩,_⟩:=cells4 d;clear I T o a7 Q b7;have R:=qh N;clear N;have o:=qh s;clear s d
 rcases hr with⟨hv,rfl⟩|⟨hv,rfl⟩
 rotate_left
 ·have HV:=qh hv;clear hv;go_wp2;go_ret;exact⟨R.o,.inr ⟨λh=>HV.o h.1,rfl⟩⟩
 have b8:=hv.n1;have b9:=hv.n2;have HV:=qh hv;clear hv;obtain rfl:=ha.o (by omega);obtain⟨n,hn⟩:=exq<|D.n;rw[<-hn]at b8 b9 m3 hc;have HN:=qh hn;rw[<-hn];clear hn
 go_wp2_with fail
 clear m0 m1 m2 m3
 go_loopw [13] (λa6 wr=>∃i:Nat,i<=n/\a6=.int .i64 (i:Int)/\Below w.heap.size w wr/\PAl tb 105 wr/\∀j,j<i->anyA D j (λa b=>!selE a b)=false) (λa6 _=>n-(intOf a6).toNat)
 case atStart=>exact⟨0,Nat.zero_le _,rfl,R.o,o.o,λj hj=>by omega⟩
 obtain⟨i,hi,rfl,a9,b2,K⟩:=hrel;clear R o;replace K:=qh K;have m:=qh a9;clear a9;have U:=qh b2;clear b2;by_cases d4:i<n
 ·have d3:(i:Int)<(n:Int):=by omega
  have d1:(0:Int)<=(i:Int):=by omega
  have b6:i<D.n:=by have:=HN.o;omega
  have a8:=(HB.o (by have:=HN.o;omega)).1;obtain⟨k1,k2,k3,k4,k5,k6,k7⟩:=E.o i b6;have t0:=(m.o.cell (p:=(Ad b (b4+i*2))) a8).trans k1;have t1:=(m.o.cell (p:=(Ad b (b4+i*2+1))) a8).trans k2;clear k1 k2;have b1:D.na i<=30000:=by have h1:=Nat.le_trans (En D (show i+1<=D.n by omega)) HV.o.arcs;have h2:Ai D (i+1)=Ai D i+D.na i:=rfl;omega
  obtain⟨w4,a5⟩:=exq<|wr.alloc (.cells #[.string (D.fin i),.slice (A i) (D.na i) (C i)] 63);have W:Below wr.heap.size wr w4:=by rw[a5];exact(Below.refl _ wr).alloc nlr _
  have c:=m.o.trans<|W.mono m.o.size;have l:PAl tb 105 w4:=(W.block _ (lbk U.o)).trans U.o;have L:ArS none w4 (.slice (A i) (D.na i) (C i)) D i:=by
   by_cases h0:D.na i=0
   ·exact .inl ⟨h0,A i,C i,by rw[h0],k4⟩
   refine .inr ⟨BB i,O i,C i,by rw[k5 (by omega)],⟨Nat.lt_of_lt_of_le (k6 (by omega)).1 c.size,by simp⟩,k3,k4,λk hk=>?_⟩;obtain⟨u0,u1,u2,u3⟩:=k7 k hk;have J:=(k6 (by omega)).1;exact⟨(c.cell (p:=(Ad (BB i) (O i+k*4))) J).trans u0,(c.cell (p:=(Ad (BB i) (O i+k*4+1))) J).trans u1,(c.cell (p:=(Ad (BB i) (O i+k*4+2))) J).trans u2,(c.cell (p:=(Ad (BB i) (O i+k*4+3))) J).trans u3⟩
  have d5:∀(fn:Fn) (first cap:Array Value) (w:World),(Instr.makeFunc fn first cap).run prog w=.ok (.func fn first cap) w:=λ_ _ _ _=>rfl
  have HC:=qh<|Mw w4 L b1 (Ys tb Yr) (λwb hb=>(hb.block _ (lbk l)).trans l);have S:=qh c;clear c W L k3 k4 k5 k6 k7;have z:=qh l;clear l U m
  go_wp2_with fail
  rw[<-a5];clear t0 t1 a5;refine HC.o.mono ?_;rintro r w5⟨rfl,X⟩;have g:=S.o.trans<|X.mono S.o.size;have B:PAl tb 105 w5:=(X.block _ (lbk z.o)).trans z.o;replace g:=qh g;clear X S HC;replace B:=qh B;clear z;cases hp:anyA D i (λa b=>!selE a b)
  ·replace hp:=qh hp;go_wp2;go_roundw
   case rel=>exact⟨i+1,by omega,by go_num,g.o,B.o,λj hj=>by
    by_cases e:j=i
    ·subst e;exact hp.o
    exact K.o j (by omega)⟩
   simp[intOf];omega
  replace hp:=qh hp;go_wp2;go_ret;exact⟨g.o,.inr ⟨λh=>absurd (LF.1 h.2 i (by have:=HN.o;omega)) (by rw[hp.o];simp),rfl⟩⟩
 have b5:n=i:=by omega
 subst b5;have d2:¬((n:Int)<(n:Int)):=by omega
 go_wp2;go_ret;exact⟨m.o,.inl ⟨⟨HV.o,LF.2 (λi hi=>K.o i (by rw[HN.o];exact hi))⟩,rfl⟩⟩
def NC{G:Value}(w:World)(H:Ma none w G D)(o:MSz D)(B:Tab w):Calls prog 54 #[G] w (TstM (VM D/\AccD D) w):=by
 obtain⟨sv,rfl,u⟩:=H;obtain⟨a,s,b,J,A,C,BB,O,z,_⟩:=u.open;subst z;obtain⟨h,c⟩:=exq<|w.alloc (.cells #[.int .i64 D.kind,.int .i64 D.start,.string D.lead,.slice a D.n s] 25);have d:Below w.heap.size w h:=by rw[c];exact(Below.refl _ w).alloc nlr _
 have l:h.heap[w.heap.size]?=some (.cells #[.int .i64 D.kind,.int .i64 D.start,.string D.lead,.slice a D.n s] 25 (0,0)):=by rw[c];exact han w _
 obtain⟨⟨m0,m1,E,F⟩,_⟩:=cells4 l;have i:=qh<|Rm h (⟨_,rfl,u.kept (Ab d none)⟩:Ma none h (.agg #[.int .i64 D.kind,.int .i64 D.start,.string D.lead,.slice a D.n s]) D) o (B.below d nlr);have g:=qh d;clear d l o B u;rw[c]at m0 m1 E F
 go_enter func54,ntmps54
 go_wp2_with fail
 rw[<-c];clear m0 m1 E F c;refine i.o.mono ?_;rintro r K⟨k,I⟩;have j:=qh<|g.o.trans (k.mono g.o.size);clear k g i
 rcases I with⟨m,rfl⟩|⟨m,rfl⟩
 ·have p:=qh m;clear m;go_wp2;go_ret;exact⟨j.o,.inl ⟨p.o,rfl⟩⟩
 have p:=qh m;clear m;go_wp2;go_ret;exact⟨j.o,.inr ⟨p.o,rfl⟩⟩
def NotLg(n:Nat)(Ds:Nat->MD)(m:Nat)(na:Nat->Nat):Prop:=(∀i,i<n->(Ds i).n<=12/\Ai (Ds i) (Ds i).n<=60)/\∀i,i<m->na i<=8
def LgE(n:Nat)(Ds:Nat->MD)(m:Nat)(na:Nat->Nat)(w:World)(r:Ending)(w':World):Prop:=Below w.heap.size w w'/\∃b:Bool,r=.returned (.bool b)/\(b=false->NotLg n Ds m na)
def Nf{n m:Nat}{d:Nat->MD}{na:Nat->Nat}{lv wv:Value}(w:World)(hl:MsS w lv n d)(hw:WsS w wv m na)(hs:∀i,i<n->MSz (d i))(hm:m<=3)(g:∀i,i<m->na i<=140737488355328):
  Calls prog 12 #[lv,wv] w (LgE n d m na w):=by
 obtain⟨a,h0,b,B,F,rfl,h2,h3,h4,h5⟩:=hl;obtain⟨a',e7,b',g8,A,C,rfl,g2,g3,g4,g5⟩:=hw;have i7:(n:Int)<=9223372036854775807:=by unfold maxLen at h3;omega
 replace h5:=qh h5;replace g5:=qh g5;replace h4:=qh h4;have b0:=qh g4;clear g4;have HS:=qh hs;clear hs;have P:=qh g;clear g;have g9:=qh hm;clear h2 h3 g2 g3
 go_enter func12,ntmps12
 go_wp2_with fail
 go_loopw [5,6] (λy i W=>∃(j E:Nat),j<=m/\i=.int .i64 (j:Int)/\y=.int .i64 (E:Int)/\E=sM na j/\w=W) (λ_ i _=>m-(intOf i).toNat)
 case atStart=>exact⟨0,0,Nat.zero_le _,rfl,rfl,rfl,rfl⟩
 obtain⟨j,E,hj,rfl,rfl,o,rfl⟩:=hrel;have j1:E<=422212465065984:=by
  rw[o];exact Nat.le_trans (Gs j λi hi=>P.o i (by omega)) (by omega)
 replace o:=qh o;by_cases J:j<m
 ·have i4:(j:Int)<(m:Int):=by omega
  have f8:(0:Int)<=(j:Int):=by omega
  obtain rfl:=b0.o (by omega);obtain⟨O,c0⟩:=g5.o j J;have d8:=P.o j J;clear O;obtain⟨nj,z⟩:=exq<|na j;rw[<-z]at c0 d8;replace z:=qh z;generalize A j=aj at c0;generalize C j=cj at c0;have j0:IntKind.i64.wrap ((E:Int)+(nj:Int))=((E+nj:Nat):Int):=by rw[IntKind.wrap_i64];omega
  go_wp2;go_roundw
  case rel=>exact⟨j+1,E+nj,by omega,by go_num,by first|rfl|go_num,by rw[o.o,z.o];rfl,by first|rfl|trivial⟩
  simp[intOf];omega
 have i3:¬((j:Int)<(m:Int)):=by omega
 have b8:=qh (show j=m by omega);clear J
 go_wp2_with fail
 go_loopw [7] (λi W=>∃q:Nat,q<=n/\i=.int .i64 (q:Int)/\(∀l,l<q->(d l).n<=12/\Ai (d l) (d l).n<=60)/\Below w.heap.size w W) (λi _=>n-(intOf i).toNat)
 case atStart=>exact⟨0,Nat.zero_le _,rfl,λl hl=>by omega,blr⟩
 obtain⟨q,hq,rfl,a7,a4⟩:=hrel;have H:=qh a7;clear a7;have c:=qh a4;clear a4;by_cases a6:q<n
 rotate_left
 ·have e8:¬((q:Int)<(n:Int)):=by omega
  have b9:=qh (show q=n by omega);by_cases h8:(8:Int)<(E:Int)
  ·go_wp2;go_ret;exact⟨c.o,_,rfl,λh=>by simp[h8]at h⟩
  have h6:decide ((8:Int)<(E:Int))=false:=by simp;omega
  have HP:=qh (show NotLg n d m na from ⟨by rw[<-b9.o];exact H.o,λi hi=>by
   have h1:=Po (f:=na) m i hi;have h2:=o.o;rw[b8.o]at h2;omega⟩)
  go_wp2;go_ret;exact⟨c.o,_,rfl,λ_=>HP.o⟩
 have i8:(q:Int)<(n:Int):=by omega
 have g1:(0:Int)<=(q:Int):=by omega
 obtain rfl:=h4.o (by omega);obtain⟨O,k1,k2,k3,k4,k5⟩:=h5.o q a6;obtain⟨D,hD⟩:=exq<|d q;have N:=HS.o q a6;rw[<-hD]at k1 k2 k3 k5 N;obtain⟨sa,sc,sb,so,B1,C1,B2,O1,a9,e1,e2,e3,e4,e5⟩:=k5.open;rw[a9]at k4 k5;clear a9;unfold maxLen at e3;have h9:(D.n:Int)<=9223372036854775807:=by omega
 have HK:=qh<|show ∀W,Below w.heap.size w W->W.cell? (Ad b (B+q*4))=some (.int .i64 D.kind)/\W.cell? (Ad b (B+q*4+1))=some (.int .i64 D.start)/\W.cell? (Ad b (B+q*4+2))=some (.string D.lead)/\W.cell? (Ad b (B+q*4+3))=some (.slice sa D.n sc) from λW hb=>⟨(hb.cell (p:=(Ad b _)) O).trans k1,(hb.cell (p:=(Ad b _)) O).trans k2,(hb.cell (p:=(Ad b _)) O).trans k3,(hb.cell (p:=(Ad b _)) O).trans k4⟩;have d2:=qh<|show ∀W,Below w.heap.size w W->Ma none W (.agg #[.int .i64 D.kind,.int .i64 D.start,.string D.lead,.slice sa D.n sc]) D from λW hb=>⟨_,rfl,k5.kept (Ab hb none)⟩;replace N:=qh N;replace hD:=qh hD;have b2:=qh e1;have b3:=qh e4;have b4:=qh e5;clear O k1 k2 k3 k4 k5 e1 e2 e3 e4 e5;obtain⟨c0,c1,c2,c3⟩:=HK.o wr c.o;have i6:=N.o.lead;by_cases d3:(12:Int)<(D.n:Int)
 ·go_wp2;go_ret;exact⟨c.o,true,rfl,λh=>by cases h⟩
 have Y:decide ((12:Int)<(D.n:Int))=false:=by simp;omega
 have G:=qh<|LW wr (d2.o wr c.o) N.o (by omega);have b1:=qh (show D.n<=12 by omega);obtain⟨T,I⟩:=exq<|Ai D D.n;rw[<-I]at G;have R:=qh I;clear I d3
 go_wp2_with fail
 refine G.o.mono ?_;rintro r w2⟨rfl,g⟩;replace c:=qh<|c.o.trans (g.mono c.o.size);clear g c0 c1 c2 c3 G;obtain⟨c0,c1,c2,c3⟩:=HK.o w2 c.o;by_cases d5:(60:Int)<(T:Int)
 ·go_wp2;go_ret;exact⟨c.o,true,rfl,λh=>by cases h⟩
 have a1:decide ((60:Int)<(T:Int))=false:=by simp;omega
 have Q:=qh (show T<=60 by omega);clear d5;by_cases d4:(40:Int)<(D.lead.size:Int)
 ·go_wp2;go_ret;exact⟨c.o,true,rfl,λh=>by cases h⟩
 have Z:decide ((40:Int)<(D.lead.size:Int))=false:=by simp;omega
 clear d4;have S:=qh (show ∀l,l<q+1->(d l).n<=12/\Ai (d l) (d l).n<=60 from λl hl=>by
  by_cases e:l=q
  ·rw[e,<-hD.o,<-R.o];exact⟨b1.o,Q.o⟩
  exact H.o l (by omega))
 clear H R Q
 go_wp2_with fail
 clear Y a1 Z
 go_loopw [8] (λi W=>∃s:Nat,s<=D.n/\i=.int .i64 (s:Int)/\w2=W) (λi _=>D.n-(intOf i).toNat)
 case atStart=>exact⟨0,Nat.zero_le _,rfl,rfl⟩
 obtain⟨s,hs,rfl,rfl⟩:=hrel;by_cases d9:s<D.n
 rotate_left
 ·have e9:¬((s:Int)<(D.n:Int)):=by omega
  go_wp2;go_roundw
  case rel=>exact⟨q+1,by omega,by go_num,S.o,c.o⟩
  simp[intOf];omega
 have i9:(s:Int)<(D.n:Int):=by omega
 have g6:(0:Int)<=(s:Int):=by omega
 obtain rfl:=b2.o (by omega);have a8:=(b3.o (by omega)).1;obtain⟨f1,U,f3,f4,X,f6,f7⟩:=b4.o s d9;have d0:=(c.o.cell (p:=(Ad sb _)) a8).trans f1;have d1:=(c.o.cell (p:=(Ad sb _)) a8).trans U;unfold maxLen at f4;obtain⟨nd,K⟩:=exq<|D.na s;rw[<-K]at d1 f3;have g0:(nd:Int)<=9223372036854775807:=by omega
 generalize C1 s=cs at d1 f3 f4;obtain⟨ax,a2⟩:=exq<|B1 s;rw[<-a2]at d1 X;rw[<-K]at X f6 f7;obtain⟨bx,u⟩:=exq<|B2 s;obtain⟨ox,L⟩:=exq<|O1 s;rw[<-u,<-L]at X;rw[<-u]at f6;rw[<-u,<-L]at f7;have b5:=qh X;have b6:=qh f6;have b7:=qh f7;clear f1 U f3 f4 X f6 f7 a2 u L K;have i2:=N.o.fin s;by_cases d6:(40:Int)<((D.fin s).size:Int)
 ·go_wp2;go_ret;exact⟨c.o,true,rfl,λh=>by cases h⟩
 have a5:decide ((40:Int)<((D.fin s).size:Int))=false:=by simp;omega
 clear d6
 go_wp2_with fail
 clear a5 d0
 go_loopw [9] (λi W=>∃k:Nat,k<=nd/\i=.int .i64 (k:Int)/\w2=W) (λi _=>nd-(intOf i).toNat)
 case atStart=>exact⟨0,Nat.zero_le _,rfl,rfl⟩
 obtain⟨k,hk,rfl,rfl⟩:=hrel;by_cases d7:k<nd
 rotate_left
 ·have f0:¬((k:Int)<(nd:Int)):=by omega
  go_wp2;go_roundw
  case rel=>exact⟨s+1,by omega,by go_num,by first|rfl|trivial⟩
  simp[intOf];omega
 have i5:(k:Int)<(nd:Int):=by omega
 have f9:(0:Int)<=(k:Int):=by omega
 obtain rfl:=b5.o (by omega);have e6:=(b6.o (by omega)).1;obtain⟨_,_,U,_⟩:=b7.o k d7;have u2:=(c.o.cell (p:=(Ad bx _)) e6).trans U;clear U;have h7:=N.o.aw s k;by_cases e0:(40:Int)<((D.aw s k).size:Int)
 ·go_wp2;go_ret;exact⟨c.o,true,rfl,λh=>by cases h⟩
 have g7:decide ((40:Int)<((D.aw s k).size:Int))=false:=by simp;omega
 clear e0;go_wp2;go_roundw
 case rel=>exact⟨k+1,by omega,by go_num,by first|rfl|trivial⟩
 simp[intOf];omega
end
section
def MD.inZ(D:MD):MD:={ D with aout:=λ_ _=>0 }
def alR(D:MD)(st:StarO)(x:Nat->Int):Nat->WS
 |0=>(updS (zerR D.kind) D.start.toNat D.lead,0)
 |i+1=>if (alR D st x i).2≠0 then alR D st x i
  else if (rest8 D.kind D.n st (alR D st x i).1).2≠0 then ((alR D st x i).1,(rest8 D.kind D.n st (alR D st x i).1).2)
  else An D (x i) 0 (rest8 D.kind D.n st (alR D st x i).1).1 D.n (zerR D.kind,0)
def domR(D:MD)(st:StarO)(na:Nat)(x:Nat->Int):ByteArray × Nat :=
 if (alR D st x na).2≠0 then (⟨#[]⟩,(alR D st x na).2)
 else if (rest8 D.kind D.n st (alR D st x na).1).2≠0 then (⟨#[]⟩,(rest8 D.kind D.n st (alR D st x na).1).2)
 else endR D (rest8 D.kind D.n st (alR D st x na).1).1
theorem IZ{D:MD}{st:StarO}{x:Nat->Int}{i:Nat}(h:(alR D st x i).2≠0):∀d,alR D st x (i+d)=alR D st x i
 |0=>rfl
 |d+1=>by
  show (if (alR D st x (i+d)).2≠0 then alR D st x (i+d) else _)=_
  rw[IZ h d,ifp h]
theorem FE{D:MD}{st:StarO}{x:Nat->Int}(hl:smS D.lead):∀i j,smS ((alR D st x i).1 j)
 |0,j=>GG (λ_=>Dj D.kind) hl j
 |i+1,j=>by
  unfold alR
  split
  ·exact FE hl i j
  split
  ·exact FE hl i j
  exact Gx D.n (λ_=>Dj _) j
open CSR
section
variable{D:MD}(hV:VM D){k:KK}(hk:k.1=D.kind)
include hV hk
theorem LU{st:StarO}(hst:StOk k D st){na:Nat}{x:Nat->Int}(hx:∀i,i<na->x i≠0)(hz:∀q d,D.aout q d=0)(y:Nat->Int):∀i,i<=na->(alR D st x i).2=0 ->
  ∃vv:Nat->RK k,Rl8 k D.n (alR D st x i).1 vv/\dot D.n vv (cAt (rmOf k D) na x 0 y i 0)=rel (rmOf k D) (ls x na 0) []
 |0,_,_=>by
  refine⟨λp=>if p=(rmOf k D).start then (rmOf k D).lead else zero,λp hp=>?_,?_⟩
  ·show Sv k (updS (zerR D.kind) D.start.toNat D.lead p) _;unfold updS;by_cases e2:p=D.start.toNat
   ·rw[ifp e2];simp only[ifp (show p=(rmOf k D).start from e2)];exact GJ hk hV.lead
   rw[ifn e2];simp only[ifn (show ¬p=(rmOf k D).start from e2)];show Sv k (Aj D.kind) zero;rw[<-hk];exact Sv.zero
  have hs:=hV.stn k;unfold dot;have e1:sum (λq=>(if q=(rmOf k D).start then (rmOf k D).lead else zero)*cAt (rmOf k D) na x 0 y 0 0 q) (rmOf k D).n=(if (rmOf k D).start=(rmOf k D).start then (rmOf k D).lead else zero)*cAt (rmOf k D) na x 0 y 0 0 (rmOf k D).start :=
   sum_single _ hs (λq _ hq=>by rw[ifn hq,zm])
  rw[ifp rfl]at e1;exact e1
 |i+1,hi,he=>by
  have h0:(alR D st x i).2=0:=by
   by_cases e:(alR D st x i).2=0
   ·exact e
   have:=IZ (D:=D) (st:=st) (x:=x) e 1;rw[this]at he;exact absurd he e
  obtain⟨vv,hvv,hd⟩:=LU hst hx hz y i (by omega) h0;unfold alR at he ⊢;rw[ifn (by omega)]at he ⊢;by_cases h1:(rest8 D.kind D.n st (alR D st x i).1).2≠0
  ·rw[ifp h1]at he;exact absurd he h1
  rw[ifn h1]at he ⊢;have h2:=KJ hV hk hst hvv (by omega);have h3:=La hV hk (i:=x i) (o:=0) h2 D.n (s:=(zerR D.kind,0)) (lv:=λ_=>zero) nlr (λp _=>by rw[<-hk];exact Sv.zero) he;refine⟨stp (rmOf k D) (x i) 0 (rst (sil (rmOf k D)) D.n vv),λp hp=>?_,?_⟩
  ·have h4:Sv k _ (zero+stq (rmOf k D) (x i) 0 (rst (sil (rmOf k D)) D.n vv) D.n p):=h3 p hp;rw[z0]at h4;exact h4
  rw[<-hd];exact(Rp (A:=rmOf k D) (hV.inn k) hx y (by omega) vv).symm
theorem Tl{st:StarO}(g:StOk k D st){na:Nat}{x:Nat->Int}(p:∀i,i<na->x i≠0)(z:∀q d,D.aout q d=0)(c:(domR D st na x).2=0):Sv k (domR D st na x).1 (rel (rmOf k D) (ls x na 0) []):=by
 unfold domR at c ⊢;by_cases h:(alR D st x na).2≠0
 ·rw[ifp h]at c;exact absurd c h
 rw[ifn h]at c ⊢;obtain⟨o,m,hd⟩:=LU hV hk g p z x na nlr (by omega);by_cases j:(rest8 D.kind D.n st (alR D st x na).1).2≠0
 ·rw[ifp j]at c;exact absurd c j
 rw[ifn j]at c ⊢;have s:=KJ hV hk g m (by omega);have u:dot D.n o (cAt (rmOf k D) na x 0 x na 0)=dot D.n (rst (sil (rmOf k D)) D.n o) (rmOf k D).fin:=Ro (A:=rmOf k D) (hV.inn k) p x o;rw[<-hd,u];unfold endR at c ⊢;by_cases l:(finR D (rest8 D.kind D.n st (alR D st x na).1).1 D.n).2≠0
 ·rw[ifp l]at c;exact absurd c l
 rw[ifn l];exact JH hV hk s D.n nlr (by omega)
end
end
section
open Go.RowKit Go.Deep
def XH{D:MD}{sv:Value}{v:Nat->ByteArray}{vb:Nat}{i o:Int}(w:World)(hV:VM D)(hD:StS none w sv D)(g7:w.rowIs vb 9 D.n (λj=>.string (v j)))(g8:∀j,smS (v j))(b2:∀i k,smS (D.aw i k)):
  Calls prog 65 #[.agg #[.int .i64 D.kind,.int .i64 D.start,.string D.lead,sv],.slice (some (Ad vb 0)) D.n D.n,.int .i64 i,.int .i64 o,.bool true] w (VerE D.n (An D.inZ i 0 v D.n (zerR D.kind,0)) w):=by
 obtain⟨a,cp,b,f5,A,C,BB,O,rfl,ha,hc,hm,hb,d9⟩:=hD.open;unfold maxLen at hm;obtain⟨w1,b6⟩:=exq<|w.alloc (.cells #[.int .i64 D.kind,.int .i64 D.start,.string D.lead,.slice a D.n cp] 25);obtain⟨X,e8⟩:=exq<|w.heap.size;have l7:w1.heap.size=w.heap.size+1:=by rw[b6];simp
 have g5:Fr (λ_=>False) w w1:=by rw[b6];exact Fr.alloc _ _
 have b3:BxM w1 X D (.slice a D.n cp):=by rw[b6,e8];exact BxM.new w D _
 have hz:=FB (D:=D) (a:=a) (cap:=cp) w1 hV.n2;have HZ:=qh hz;clear hz;have f8:=qh<|show Below w.heap.size w w1 from g5.below nlr (λ_ e=>e.elim);have h8:=qh<|g5.row g7 (λe=>e);have k0:=qh g7.lt;have h6:=qh b3;obtain⟨kz,d6⟩:=exq<|Aj D.kind;replace d6:=qh d6;replace hV:=qh hV;replace ha:=qh ha;replace hb:=qh hb;replace d9:=qh d9;clear hD;replace g8:=qh g8;have j8:=qh b2;clear b2;have j9:=qh (show X<w1.heap.size by omega);have h7:=qh (show w.heap.size<=w1.heap.size by omega);have m0:=cellOf b3 0 rfl;have m1:=cellOf b3 1 rfl;have m2:=cellOf b3 2 rfl;have m3:=cellOf b3 3 rfl;have j3:D.n<=3000:=hV.o.n2;clear g7 g5 b3 hc l7;have l0:=m0;have l1:=m1;have l2:=m2;have l3:=m3;rw[b6,e8]at l0 l1 l2 l3
 go_enter func65,ntmps65
 go_wp2_with fail
 rw[<-b6,<-e8];clear b6 e8 l0 l1 l2 l3 m0 m1 m2 m3;refine HZ.o.mono ?_;rintro rr w2⟨g4,lb,rfl,j2,j6⟩;have g6:Fr (λ_=>False) w1 w2:=Fr.of_below g4;have H:=qh (show StI w w2 X vb lb D (.slice a D.n cp) v (An D.inZ i 0 v 0 (zerR D.kind,0)).1 from
  ⟨h6.o.kept g6 (λe=>e),g6.row h8.o (λe=>e),j6,f8.o.trans (g4.mono f8.o.size),Nat.le_trans h7.o j2,by have:=j9.o;omega,by have:=k0.o;have:=h7.o;omega⟩)
 clear g4 g6 j2 j6 HZ f8 h6 h8
 go_wp2_with fail
 go_loopw [13] (λh4 wr=>∃q:Nat,q<=D.n/\h4=.int .i64 (q:Int)/\(An D.inZ i 0 v q (zerR D.kind,0)).2=0/\StI w wr X vb lb D (.slice a D.n cp) v (An D.inZ i 0 v q (zerR D.kind,0)).1) (λh4 _=>D.n-(intOf h4).toNat)
 case atStart=>exact⟨0,Nat.zero_le _,rfl,rfl,H.o⟩
 obtain⟨q,hq,rfl,b4,hi⟩:=hrel;clear H;have H:=qh hi;clear hi;replace b4:=qh b4;have m0:=cellOf H.o.bx 0 rfl;have m3:=cellOf H.o.bx 3 rfl;by_cases d7:q<D.n
 ·have n6:(q:Int)<(D.n:Int):=by omega
  have m7:(0:Int)<=(q:Int):=by omega
  obtain rfl:=ha.o (by omega);have cv:=H.o.rv.cell d7;have l5:=(hb.o (by omega)).1;obtain⟨k1,k2,k3,k4,k5,k6,k7⟩:=d9.o q d7;unfold maxLen at k4;have m5:D.na q<=30000:=by have h1:=Nat.le_trans (En D (show q+1<=D.n by omega)) hV.o.arcs;have h2:Ai D (q+1)=Ai D q+D.na q:=rfl;omega
  obtain⟨aq,i6⟩:=exq<|A q;rw[<-i6]at k2 k5;replace k2:=qh k2;replace k5:=qh k5;replace k6:=qh k6;replace k7:=qh k7;clear i6 k1;obtain⟨Y,J⟩:=exq<|v q;rw[<-J]at cv;replace J:=qh J;obtain⟨s0,e9⟩:=exq<|An D.inZ i 0 v q (zerR D.kind,0);have e4:∀j,smS (s0.1 j):=by rw[e9];exact Gx q (λj=>Dj D.kind)
  have e3:An D.inZ i 0 v (q+1) (zerR D.kind,0)=rowR D.inZ i 0 v q s0:=by rw[e9];rfl
  rw[<-e9]at H b4;have h9:=qh e3;clear e3 e9;replace e4:=qh e4;have T:∀W,Fr (λ_=>False) wr W->(λg:World=>g.cell? (Ad vb q)=some (.string Y)/\g.cell? (Ad X 0)=some (.int .i64 D.kind)) W:=λW hf=>⟨hf.cell cv (λe=>e),hf.cell m0 (λe=>e)⟩;have E:=qh T;clear T;obtain⟨wd,g9⟩:=exq<|wr.drew;have j1:Fr (λ_=>False) wr wd:=by rw[g9];exact Fr.of_below<|(Below.refl wr.heap.size wr).drew
  have g1:=qh j1;clear j1;have h0:=DG D.kind wd;rw[<-d6.o]at h0;have i2:=qh h0;clear h0
  go_wp2_with fail
  have c:=E.o wd g1.o;refine AB (λg:World=>g.cell? (Ad vb q)=some (.string Y)/\g.cell? (Ad X 0)=some (.int .i64 D.kind)) 7 (by kernel_rfl) ?_;rw[<-g9];clear g9 cv m0 m3;refine Aa.tm 0 c ?_;refine Aa.tm 1 c ?_;refine Aa.tm 2 c ?_;refine Aa.tm 3 c ?_;refine Aa.tm 4 c ?_;refine Aa.tm 5 c ?_
  try simp only[Act.put,tryL]
  refine Aa.on 6 λK R=>?_;go_simp;refine i2.o.mono ?_;rintro rr w3⟨rfl,i7⟩;have g0:=qh<|g1.o.trans (Fr.of_below i7);have i4:=E.o w3 g0.o;clear i7 c i2;refine R.out _ _ (.inr i4) ?_;clear R K
  try simp only[Act.put,tryL]
  refine Aa.on 7 λK R=>?_;go_simp;refine R.out _ _ (.inl rfl) (Aa.dn ?_);clear R K i4;have g2:=qh<|H.o.new g0.o;clear H g1 E g0;cases hO:(Y.toList==kz.toList)
  ·have e5:v q≠Aj D.kind:=λe=>by rw[<-J.o,<-d6.o]at e;rw[e]at hO;simp at hO
   have b0:=qh<|h9.o.trans (ifn e5);clear e5
   go_wp2_with fail
   go_loopw [14] (λh5 wr=>∃d:Nat,d<=D.na q/\h5=.int .i64 (d:Int)/\(AI D.inZ i 0 v q d s0).2=0/\StI w wr X vb lb D (.slice (some (Ad b f5)) D.n cp) v (AI D.inZ i 0 v q d s0).1) (λh5 _=>D.na q-(intOf h5).toNat)
   case atStart=>exact⟨0,Nat.zero_le _,rfl,b4.o,g2.o⟩
   obtain⟨d,hd,rfl,b5,hi⟩:=hrel;clear g2;have H:=qh hi;clear hi;replace b5:=qh b5;have m0:=cellOf H.o.bx 0 rfl;have m3:=cellOf H.o.bx 3 rfl;have c1:=(H.o.be.cell (p:=(Ad b (f5+q*2+1))) l5).trans k2.o;by_cases i9:d<D.na q
   ·have n5:(d:Int)<(D.na q:Int):=by omega
    have m4:(0:Int)<=(d:Int):=by omega
    have e7:=(k6.o (by omega)).1;obtain⟨t0,t1,t2,t3⟩:=k7.o d i9;obtain rfl:=k5.o (by omega);have c2:=(H.o.be.cell (p:=(Ad (BB q) (O q+d*4))) e7).trans t0;have c3:=(H.o.be.cell (p:=(Ad (BB q) (O q+d*4+1))) e7).trans t1;have c4:=(H.o.be.cell (p:=(Ad (BB q) (O q+d*4+2))) e7).trans t2;have c5:=(H.o.be.cell (p:=(Ad (BB q) (O q+d*4+3))) e7).trans t3;clear t0 t1 t2 t3;have g3:=hV.o.arc q d d7 i9;obtain⟨L,f3⟩:∃L:Nat,D.ato q d=(L:Int):=⟨(D.ato q d).toNat,by have:=g3.t0;omega⟩;have j7:L<D.n:=by have:=g3.t1;omega
    obtain⟨s1,f0⟩:=exq<|AI D.inZ i 0 v q d s0;have a9:∀j,smS (s1.1 j):=by rw[f0];exact GW d e4.o
    rw[<-f0]at H b5;have j4:AI D.inZ i 0 v q (d+1) s0=if D.ain q d=i/\(0:Int)=0 then addR D.kind s1.1 L Y (D.aw q d) else s1:=by
     show (if (AI D.inZ i 0 v q d s0).2≠0 then AI D.inZ i 0 v q d s0 else if D.ain q d=i/\(0:Int)=0 then addR D.kind (AI D.inZ i 0 v q d s0).1 (D.ato q d).toNat (v q) (D.aw q d) else AI D.inZ i 0 v q d s0)=_
     rw[<-f0,ifn (by rw[b5.o];simp),f3,J.o];rfl
    have P:=qh j4;clear j4 f0;rw[f3]at c5;replace f3:=qh f3;obtain⟨I,i5⟩:=exq<|D.ain q d;obtain⟨ao,f7⟩:=exq<|D.aout q d;obtain⟨aw,b2⟩:=exq<|D.aw q d;have f2:smS aw:=by rw[b2];exact j8.o q d
    have f1:smS Y:=by rw[J.o];exact g8.o q
    rw[<-i5]at c2 P;rw[<-f7]at c3;rw[<-b2]at c4 P;clear i5 f7 b2 g3;obtain⟨w4,U⟩:=exq<|wr.alloc (.cells #[.int .i64 I,.int .i64 ao,.string aw,.int .i64 (L:Int)] 59);obtain⟨xb,b7⟩:=exq<|wr.heap.size;have j0:Fr (λ_=>False) wr w4:=by rw[U];exact Fr.alloc _ _
    have f4:w4.heap[xb]?=some (.cells #[.int .i64 I,.int .i64 ao,.string aw,.int .i64 (L:Int)] 59 (0,0)):=by rw[U,b7];exact han wr _
    have l:=qh<|H.o.new j0;have x0:=cellOf f4 0 rfl;have x1:=cellOf f4 1 rfl;have b1:=qh f4;have e0:=x0;have e1:=x1;rw[U,b7]at e0 e1;clear j0 f4;by_cases h1:I=i
    ·by_cases h2:ao=o
     ·have i3:(I==i)=true:=by simp[h1]
      have k9:(ao==o)=true:=by simp[h2]
      have u:=qh<|P.o.trans (ifp ⟨h1,rfl⟩);obtain⟨z,hz⟩:=exq<|addR D.kind s1.1 L Y aw;have a6:=λW (h:Fr (λ_=>False) w4 W)=>FD (k:=D.kind) (t:=L) (a:=Y) (b:=aw) W (h.row l.o.rl (λe=>e)) j7 j3 (a9 L) f1 f2;rw[<-hz]at a6 u;have b8:=qh a6;clear a6 hz;have T:∀W,Fr (λ_=>False) w4 W->(λg:World=>g.cell? (Ad X 0)=some (.int .i64 D.kind)/\g.cell? (Ad xb 3)=some (.int .i64 (L:Int))/\g.cell? (Ad vb q)=some (.string Y)/\g.cell? (Ad xb 2)=some (.string aw)) W:=λW hf =>
       ⟨hf.cell (cellOf l.o.bx 0 rfl) (λe=>e),hf.cell (cellOf b1.o 3 rfl) (λe=>e),hf.cell (by rw[J.o];exact l.o.rv.cell d7) (λe=>e),hf.cell (cellOf b1.o 2 rfl) (λe=>e)⟩
      have E:=qh T;clear T f2 f1 a9;obtain⟨Z,a8⟩:=exq<|w4.drew;have d5:Fr (λ_=>False) w4 Z:=by rw[a8];exact Fr.of_below<|(Below.refl w4.heap.size w4).drew
      have F:=qh d5;clear d5;have Q:∀G,Fr (λq=>q=lb) Z G->G.rowIs lb 9 D.n (λj=>.string (z.1 j))->StI w G X vb lb D (.slice (some (Ad b f5)) D.n cp) v z.1:=λG h r=>(l.o.new F.o).upd h r;have d2:=qh Q;clear Q;have d4:∀G,Fr (λq=>q=lb) Z G->(λg:World=>g.cell? (Ad X 0)=some (.int .i64 D.kind)/\g.cell? (Ad xb 3)=some (.int .i64 (L:Int))/\g.cell? (Ad vb q)=some (.string Y)/\g.cell? (Ad xb 2)=some (.string aw)) G:=λG h=>by
       obtain⟨a1,a2,a3,a4⟩:=E.o Z F.o;have e6:xb≠lb:=λe=>by
        obtain⟨cc,hh,_⟩:=l.o.rl;have:=b1.o;rw[e,hh]at this;simp at this
       exact⟨h.cell a1 l.o.ml,h.cell a2 e6,h.cell a3 l.o.vl,h.cell a4 e6⟩
      have b9:=qh d4;clear d4;clear P;subst h1 h2
      go_wp2_with fail
      rw[<-U,<-b7];have c:=E.o Z F.o;refine AB (λg:World=>g.cell? (Ad X 0)=some (.int .i64 D.kind)/\g.cell? (Ad xb 3)=some (.int .i64 (L:Int))/\g.cell? (Ad vb q)=some (.string Y)/\g.cell? (Ad xb 2)=some (.string aw)) 12 (by kernel_rfl) ?_;rw[<-a8];clear U b7 a8 c1 c2 c3 c4 c5 m0 m3 x0 x1 e0 e1;refine Aa.tm 0 c ?_;refine Aa.tm 1 c ?_;refine Aa.tm 2 c ?_;refine Aa.tm 3 c ?_;refine Aa.tm 4 c ?_;refine Aa.tm 5 c ?_;refine Aa.tm 6 c ?_;refine Aa.tm 7 c ?_;refine Aa.tm 8 c ?_;refine Aa.tm 9 c ?_;refine Aa.tm 10 c ?_
      try simp only[Act.put,tryL]
      refine Aa.on 11 λK R=>?_;go_simp;refine(b8.o Z F.o).mono ?_;rintro rr G⟨rfl,d8,a7⟩;have d1:=qh<|d2.o G a7 d8;have d3:=b9.o G a7;clear d8 a7 c b8 d2 b9 E F;refine R.out _ _ (.inr d3) ?_;clear R K
      try simp only[Act.put,tryL]
      refine Aa.on 12 λK R=>?_;go_simp;refine R.out _ _ (.inl rfl) (Aa.dn ?_);clear R K d3;by_cases B:z.2=0
      ·have h3:(z.2:Int)=0:=by omega
       have a5:=qh B;clear B;go_wp2;go_roundw
       case rel=>exact⟨d+1,by omega,by go_num,by rw[u.o];exact a5.o,by rw[u.o];exact d1.o⟩
       simp[intOf];omega
      have h3:¬((z.2:Int)=0):=by omega
      have l8:((z.2:Int)==0)=false:=by simp;omega
      have l9:decide ((z.2:Int)=0)=false:=by simp;omega
      have S:An D.inZ I 0 v D.n (zerR D.kind,0)=z:=by
       have e1:AI D.inZ I 0 v q (D.na q) s0=z:=by
        have h1:=GX (D:=D.inZ) (i:=I) (o:=0) (v:=v) (q:=q) (s:=s0) (m:=d+1) (by rw[u.o];exact B) (D.na q-(d+1));rw[show d+1+(D.na q-(d+1))=D.na q by omega,u.o]at h1;exact h1
       have e2:An D.inZ I 0 v (q+1) (zerR D.kind,0)=z:=b0.o.trans e1;have h2:=Gw (D:=D.inZ) (i:=I) (o:=0) (v:=v) (s:=(zerR D.kind,0)) (m:=q+1) (by rw[e2];exact B) (D.n-(q+1));rw[show q+1+(D.n-(q+1))=D.n by omega,e2]at h2;exact h2
      have N:=qh S;clear S;have a5:=qh B;clear B;go_wp2;go_ret2;exact⟨d1.o.be,.inr ⟨by rw[N.o];exact a5.o,by rw[N.o];rfl⟩⟩
     have i3:(I==i)=true:=by simp[h1]
     have k9:(ao==o)=false:=by simp[h2]
     have m9:decide (ao=o)=false:=by simp[h2]
     have u:=qh<|P.o.trans (ifp ⟨h1,rfl⟩);obtain⟨z,hz⟩:=exq<|addR D.kind s1.1 L Y aw;have a6:=λW (h:Fr (λ_=>False) w4 W)=>FD (k:=D.kind) (t:=L) (a:=Y) (b:=aw) W (h.row l.o.rl (λe=>e)) j7 j3 (a9 L) f1 f2;rw[<-hz]at a6 u;have b8:=qh a6;clear a6 hz;have T:∀W,Fr (λ_=>False) w4 W->(λg:World=>g.cell? (Ad X 0)=some (.int .i64 D.kind)/\g.cell? (Ad xb 3)=some (.int .i64 (L:Int))/\g.cell? (Ad vb q)=some (.string Y)/\g.cell? (Ad xb 2)=some (.string aw)) W:=λW hf =>
      ⟨hf.cell (cellOf l.o.bx 0 rfl) (λe=>e),hf.cell (cellOf b1.o 3 rfl) (λe=>e),hf.cell (by rw[J.o];exact l.o.rv.cell d7) (λe=>e),hf.cell (cellOf b1.o 2 rfl) (λe=>e)⟩
     have E:=qh T;clear T f2 f1 a9;obtain⟨Z,a8⟩:=exq<|w4.drew;have d5:Fr (λ_=>False) w4 Z:=by rw[a8];exact Fr.of_below<|(Below.refl w4.heap.size w4).drew
     have F:=qh d5;clear d5;have Q:∀G,Fr (λq=>q=lb) Z G->G.rowIs lb 9 D.n (λj=>.string (z.1 j))->StI w G X vb lb D (.slice (some (Ad b f5)) D.n cp) v z.1:=λG h r=>(l.o.new F.o).upd h r;have d2:=qh Q;clear Q;have d4:∀G,Fr (λq=>q=lb) Z G->(λg:World=>g.cell? (Ad X 0)=some (.int .i64 D.kind)/\g.cell? (Ad xb 3)=some (.int .i64 (L:Int))/\g.cell? (Ad vb q)=some (.string Y)/\g.cell? (Ad xb 2)=some (.string aw)) G:=λG h=>by
      obtain⟨a1,a2,a3,a4⟩:=E.o Z F.o;have e6:xb≠lb:=λe=>by
       obtain⟨cc,hh,_⟩:=l.o.rl;have:=b1.o;rw[e,hh]at this;simp at this
      exact⟨h.cell a1 l.o.ml,h.cell a2 e6,h.cell a3 l.o.vl,h.cell a4 e6⟩
     have b9:=qh d4;clear d4;clear P;subst h1
     go_wp2_with fail
     rw[<-U,<-b7];have c:=E.o Z F.o;refine AB (λg:World=>g.cell? (Ad X 0)=some (.int .i64 D.kind)/\g.cell? (Ad xb 3)=some (.int .i64 (L:Int))/\g.cell? (Ad vb q)=some (.string Y)/\g.cell? (Ad xb 2)=some (.string aw)) 12 (by kernel_rfl) ?_;rw[<-a8];clear U b7 a8 c1 c2 c3 c4 c5 m0 m3 x0 x1 e0 e1;refine Aa.tm 0 c ?_;refine Aa.tm 1 c ?_;refine Aa.tm 2 c ?_;refine Aa.tm 3 c ?_;refine Aa.tm 4 c ?_;refine Aa.tm 5 c ?_;refine Aa.tm 6 c ?_;refine Aa.tm 7 c ?_;refine Aa.tm 8 c ?_;refine Aa.tm 9 c ?_;refine Aa.tm 10 c ?_
     try simp only[Act.put,tryL]
     refine Aa.on 11 λK R=>?_;go_simp;refine(b8.o Z F.o).mono ?_;rintro rr G⟨rfl,d8,a7⟩;have d1:=qh<|d2.o G a7 d8;have d3:=b9.o G a7;clear d8 a7 c b8 d2 b9 E F;refine R.out _ _ (.inr d3) ?_;clear R K
     try simp only[Act.put,tryL]
     refine Aa.on 12 λK R=>?_;go_simp;refine R.out _ _ (.inl rfl) (Aa.dn ?_);clear R K d3;by_cases B:z.2=0
     ·have h3:(z.2:Int)=0:=by omega
      have a5:=qh B;clear B;go_wp2;go_roundw
      case rel=>exact⟨d+1,by omega,by go_num,by rw[u.o];exact a5.o,by rw[u.o];exact d1.o⟩
      simp[intOf];omega
     have h3:¬((z.2:Int)=0):=by omega
     have l8:((z.2:Int)==0)=false:=by simp;omega
     have l9:decide ((z.2:Int)=0)=false:=by simp;omega
     have S:An D.inZ I 0 v D.n (zerR D.kind,0)=z:=by
      have e1:AI D.inZ I 0 v q (D.na q) s0=z:=by
       have h1:=GX (D:=D.inZ) (i:=I) (o:=0) (v:=v) (q:=q) (s:=s0) (m:=d+1) (by rw[u.o];exact B) (D.na q-(d+1));rw[show d+1+(D.na q-(d+1))=D.na q by omega,u.o]at h1;exact h1
      have e2:An D.inZ I 0 v (q+1) (zerR D.kind,0)=z:=b0.o.trans e1;have h2:=Gw (D:=D.inZ) (i:=I) (o:=0) (v:=v) (s:=(zerR D.kind,0)) (m:=q+1) (by rw[e2];exact B) (D.n-(q+1));rw[show q+1+(D.n-(q+1))=D.n by omega,e2]at h2;exact h2
     have N:=qh S;clear S;have a5:=qh B;clear B;go_wp2;go_ret2;exact⟨d1.o.be,.inr ⟨by rw[N.o];exact a5.o,by rw[N.o];rfl⟩⟩
    have i3:(I==i)=false:=by simp[h1]
    have m8:decide (I=i)=false:=by simp[h1]
    have u:=qh<|P.o.trans (ifn (λe=>h1 e.1));clear P
    go_wp2_with fail
    rw[<-U];go_roundw
    case rel=>exact⟨d+1,by omega,by go_num,by rw[u.o];exact b5.o,by rw[u.o];exact l.o⟩
    simp[intOf];omega
   have i8:d=D.na q:=by omega
   have l6:¬((d:Int)<(D.na q:Int)):=by omega
   have he:=b5.o;have hi:=H.o;have l4:An D.inZ i 0 v (q+1) (zerR D.kind,0)=AI D.inZ i 0 v q (D.na q) s0:=b0.o;rw[i8,<-l4]at he hi;have f9:=qh he;have d0:=qh hi;clear he hi i8;go_wp2;go_roundw
   case rel=>exact⟨q+1,by omega,by go_num,f9.o,d0.o⟩
   simp[intOf];omega
  have e5:v q=Aj D.kind:=by rw[<-J.o,<-d6.o];exact toList_eq hO
  have e3:An D.inZ i 0 v (q+1) (zerR D.kind,0)=s0:=h9.o.trans<|ifp e5;have b0:=qh e3;clear e5 e3;go_wp2;go_roundw
  case rel=>exact⟨q+1,by omega,by go_num,by rw[b0.o];exact b4.o,by rw[b0.o];exact g2.o⟩
  simp[intOf];omega
 have j5:q=D.n:=by omega
 have l6:¬((q:Int)<(D.n:Int)):=by omega
 have he:=b4.o;have hi:=H.o;rw[j5]at he hi;have f9:=qh he;have d0:=qh hi;clear he hi j5;go_wp2;go_ret2;exact⟨d0.o.be,.inl ⟨f9.o,lb,rfl,d0.o.ll,d0.o.rl⟩⟩
end
end Go.Proofs.YtpldocnhbdlgfaaGreatDoor
