/- Parts. -/
import Derived.Test.YtpldocnhbdlgfaaGreatDoorPc36
import Derived.Test.YtpldocnhbdlgfaaGreatDoorPc31
namespace Go.Proofs.YtpldocnhbdlgfaaGreatDoor
set_option maxRecDepth 100000
set_option linter.all false
set_option maxHeartbeats 16000000
open Go Tryz
section
open Go.RowKit Go.Deep
def Ab(E:MD):MD:=⟨1,0,⟨#[48]⟩,E.na 0+1,λi=>if i=E.na 0 then ⟨#[48]⟩ else ⟨#[]⟩,λi=>if i<E.na 0 then 1 else 0,λi _=>E.ain 0 i,λi _=>E.aout 0 i,λi _=>E.aw 0 i,λi _=>(i:Int)+1⟩
def LnE(D:MD)(w:World)(r:Ending)(w':World):Prop:=Below w.heap.size w w'/\∃sv R,r=.returned (.agg #[.int .i64 D.kind,.int .i64 D.start,.string D.lead,sv])/\OwM w' w.heap.size sv D R
def LnI(E:MD)(w:World)(rb mb:Nat)(i:Nat)(wr:World):Prop :=
 Below w.heap.size w wr/\wr.heap[rb]?=some (.cells #[.int .i64 0,.int .i64 0,.string ⟨#[]⟩,.slice none 0 0] 25 (0,0))/\
 ∃sv R,wr.heap[mb]?=some (.cells #[.int .i64 1,.int .i64 0,.string ⟨#[48]⟩,sv] 25 (0,0))/\OwM wr w.heap.size sv (cpD (Ab E) i) R
def DX{E:MD}{v:Value}(w:World)(hA:ArS none w v E 0)(hn:E.na 0<=1000):Calls prog 43 #[v] w (LnE (Ab E) w):=by
 obtain⟨n,B⟩:=exq<|E.na 0;have g7:∃a c,v=.slice a n c/\n<=c/\c<=maxLen/\(0<n->∃b o,a=some (Ad b o)/\b<w.heap.size/\∀k,k<n->w.cell? (Ad b (o+k*4))=some (.int .i64 (E.ain 0 k))/\w.cell? (Ad b (o+k*4+1))=some (.int .i64 (E.aout 0 k))/\w.cell? (Ad b (o+k*4+2))=some (.string (E.aw 0 k))/\w.cell? (Ad b (o+k*4+3))=some (.int .i64 (E.ato 0 k))):=by
  rcases hA with⟨h0,a,c,hv,hc⟩|⟨b,o,c,hv,h1,h2,h3,h4⟩
  ·exact⟨a,c,by rw[hv,B,h0],by omega,hc,λh=>by omega⟩
  exact⟨_,c,by rw[hv,B],by omega,h3,λ_=>⟨b,o,rfl,h1.1,λk hk=>h4 k (by omega)⟩⟩
 obtain⟨a,c,rfl,g9,g3,I⟩:=g7;unfold maxLen at g3;rw[<-B]at hn;replace I:=qh I;clear hA;obtain⟨w1,a5⟩:=exq<|w.alloc (.cells #[.int .i64 0,.int .i64 0,.string ⟨#[]⟩,.slice none 0 0] 25);obtain⟨w2,b0⟩:=exq<|w1.alloc (.cells #[.int .i64 1,.int .i64 0,.string ⟨#[48]⟩,.slice none 0 0] 25);have f8:w1.heap.size=w.heap.size+1:=by rw[a5];simp
 obtain⟨L,d8⟩:=exq<|w.heap.size;obtain⟨s,d3⟩:=exq<|w.heap.size+1;have e8:Below w.heap.size w w1:=by rw[a5];exact(Below.refl _ w).alloc nlr _
 have Z:Below w1.heap.size w1 w2:=by rw[b0];exact(Below.refl _ w1).alloc nlr _
 have d1:w1.heap[L]?=some (.cells #[.int .i64 0,.int .i64 0,.string ⟨#[]⟩,.slice none 0 0] 25 (0,0)):=by rw[a5,d8];exact han w _
 have e9:=(Z.block _ (lbk d1)).trans d1;have f2:w2.heap[s]?=some (.cells #[.int .i64 1,.int .i64 0,.string ⟨#[48]⟩,.slice none 0 0] 25 (0,0)):=by rw[d3,<-f8,b0];exact han w1 _
 have h0:LnI E w L s 0 w2:=⟨e8.trans (Z.mono (by omega)),e9,.slice none 0 0,λ_=>.slice none 0 0,f2,World.ownsRow_nil _ _ _ _,λi hi=>absurd hi (Nat.not_lt_zero _),λi j hi=>absurd hi (Nat.not_lt_zero _)⟩;have H0:=qh h0;clear h0 d1 e9 f2 e8 Z;have f7:L≠s:=by omega
 have g5:w.heap.size<=L:=by omega
 have f0:w.heap.size<=s:=by omega
 have Q:=qh B;clear B
 go_enter func43,ntmps43
 go_wp2_with fail
 rw[<-a5,<-b0,<-d3,<-d8];clear a5 b0 d8 d3 f8
 go_loopw [4] (λi wr=>∃q:Nat,q<=n/\i=.int .i64 (q:Int)/\LnI E w L s q wr) (λi _=>n-(intOf i).toNat)
 case atStart=>exact⟨0,Nat.zero_le _,rfl,H0.o⟩
 clear H0;obtain⟨q,hq,rfl,m,A,sv,R,l,g⟩:=hrel;by_cases d2:q<n
 ·have g8:(q:Int)<(n:Int):=by omega
  obtain⟨b,o,rfl,a8,hc⟩:=I.o (by omega);obtain⟨k0,k1,k2,k3⟩:=hc q d2;have y0:=(m.cell (p:=(Ad b (o+q*4))) a8).trans k0;have y1:=(m.cell (p:=(Ad b (o+q*4+1))) a8).trans k1;have y2:=(m.cell (p:=(Ad b (o+q*4+2))) a8).trans k2;have y3:=(m.cell (p:=(Ad b (o+q*4+3))) a8).trans k3;clear k0 k1 k2 k3 hc;obtain⟨sa,sc,e6,_,_⟩:=Au g.top;subst e6;have m3:=(cells4 l).1.2.2.2;have mz:=(cells4 l).2 3;have d4:s<wr.heap.size:=lbk l;have d9:L<wr.heap.size:=lbk A;obtain⟨i1,a4,D,F,G⟩:=Dk Fc;obtain⟨W1,a6⟩:=exq<|wr.alloc (.cells #[.int .i64 (E.ain 0 q),.int .i64 (E.aout 0 q),.string (E.aw 0 q),.int .i64 ((q:Int)+1)] 59);obtain⟨O,Y⟩:=exq<|W1.alloc (.cells #[.int .i64 (E.ain 0 q),.int .i64 (E.aout 0 q),.string (E.aw 0 q),.int .i64 ((q:Int)+1)] 59);have e3:W1.heap.size=wr.heap.size+1:=by rw[a6];simp
  have e5:O.heap.size=wr.heap.size+1+1:=by rw[Y];simp[e3]
  have a9:wr.grownBy O none:=by
   have h1:Below wr.heap.size wr O:=by rw[Y,a6];exact((Below.refl _ wr).alloc nlr _).alloc (by simp) _
   exact Ae h1 none
  have a7:Below wr.heap.size wr O:=by rw[Y,a6];exact((Below.refl _ wr).alloc nlr _).alloc (by simp) _
  have e7:O.ownsRow wr.heap.size 59 4 (.slice (some (Ad (wr.heap.size+1) 0)) 1 1) 1 [.int .i64 (E.ain 0 q),.int .i64 (E.aout 0 q),.string (E.aw 0 q),.int .i64 ((q:Int)+1)] :=
   ⟨rfl,.inr ⟨wr.heap.size+1,1,#[.int .i64 (E.ain 0 q),.int .i64 (E.aout 0 q),.string (E.aw 0 q),.int .i64 ((q:Int)+1)],rfl,by omega,by rw[<-e3,Y];exact han W1 _,nlr,by unfold maxLen;omega,rfl,rfl⟩⟩
  have d6:∀o,(O.alloc o).heap[wr.heap.size+1+1]?=some o:=λo=>by rw[<-e5];exact han O o
  have C:O.ownsRow w.heap.size 63 2 (.slice sa q sc) q (cat (st2 (Ab E) R) q):=AG g.top a9 (λ_ _=>by simp);have B:(Value.slice sa q sc).ownBlock≠some s:=Az g.top l (by decide);have b1:(Value.slice sa q sc).ownBlock≠some L:=Az g.top A (by decide);have a2:∀o H,(O.alloc o).grownBy H (Value.slice sa q sc).ownBlock->∀N,N<wr.heap.size->(Value.slice sa q sc).ownBlock≠some N->H.heap[N]?=wr.heap[N]?:=λo H hg N h1 h2 =>
   (hg.block N (by simp;omega) (λe=>h2 e.symm)).trans ((blk_alloc_lt _ _ _ (by omega)).trans (a7.block N h1))
  have a1:w.heap.size<=wr.heap.size:=m.size;have P:=qh a2;clear a2;have T:=qh C;clear C;replace e7:=qh e7;replace a9:=qh a9;replace d6:=qh d6;have b2:=qh m;clear m;replace a7:=qh a7;have b5:=qh A;clear A;have b4:=qh l;clear l;have S:=qh g;clear g;have b6:=qh B;have b7:=qh b1;clear B b1;have b3:=qh a4;have U:=qh D;have W:=qh F;have X:=qh G;clear a4 D F G;have b8:=qh e5;have f9:=qh a6;have g0:=qh Y;clear e3 e5
  go_wp2_with (at_builtin;rw[<-f9.o,<-g0.o];refine wpList_append_lies _ rfl (.tmp 21) (.tmp 25) 23 rfl w.heap.size 63 i1 (.agg #[.string ⟨#[]⟩,.slice none 0 0]) 2 40 underlying23 b3.o U.o W.o X.o rfl (by omega) (.slice sa q sc) q _ (by first|rfl|simp[Act.eval,Act.put]) (World.ownsRow.alloc T.o _) (Ad (wr.heap.size+1+1) 0) 1 1 [.string ⟨#[]⟩,.slice (some (Ad (wr.heap.size+1) 0)) 1 1] (by first|rfl|simp[Act.eval,Act.put]) rfl (Dl (cs:=#[.string ⟨#[]⟩,.slice (some (Ad (wr.heap.size+1) 0)) 1 1]) (d6.o _)) (by intro u hu;simp at hu;rcases hu with rfl|rfl<;>rfl) (by omega) (by unfold maxLen;omega) (by omega) (by have:=b8.o;simp;omega) _ rfl ?_;intro g2 cp H J d g1 f1;have z:=(P.o _ H d s d4 b6.o).trans b4.o;have e4:=(cells4 z).1.2.2.2;have f4:=(cells4 z).2 3)
  have d5:(Ab E).na q=1:=ifp (by rw[<-Q.o];exact d2);have d0:(Ab E).fin q=⟨#[]⟩:=ifn (by rw[<-Q.o];omega);have K:=OwM.push S.o a1 a9.o (v:=.slice (some (Ad (wr.heap.size+1) 0)) 1 1) (by rw[d5];exact e7.o) (by rw[d0];exact J) d;have d7:=K.other (p:=(Ad s 3)) (Az K.top z (by decide)) (λj hj=>Az (K.row j hj) z (by decide)) (.slice (some (Ad g2 0)) (q+1) cp);have b9:Below w.heap.size O (H.setCell (Ad s 3) (.slice (some (Ad g2 0)) (q+1) cp)):=(((Below.refl w.heap.size O).alloc (by have:=b8.o;omega) (.cells #[.string ⟨#[]⟩,.slice (some (Ad (wr.heap.size+1) 0)) 1 1] 63)).grown d (by have:=b8.o;simp;omega) (λk hk=>(World.ownsRow.lt S.o.top k hk).1)).setCell (p:=(Ad s 3)) f0 _;refine⟨⟨q+1,by omega,by norm_cast,(b2.o.trans (a7.o.mono a1)).trans b9,?_,_,_,?_,d7⟩,by simp[intOf];omega⟩
  ·exact(Ay (p:=(Ad s 3)) f7 _).trans ((P.o _ H d L d9 b7.o).trans b5.o)
  simp[World.setCell,Array.getElem?_modify,z]
 have h5:¬((q:Int)<(n:Int)):=by omega
 have g6:q=n:=by omega
 subst g6;obtain⟨sa,sc,e6,_,_⟩:=Au g.top;subst e6;obtain⟨⟨m0,m1,m2,m3⟩,mz⟩:=cells4 l;have h6:=mz 3;clear mz;have d4:s<wr.heap.size:=lbk l;have d9:L<wr.heap.size:=lbk A;obtain⟨i1,a4,D,F,G⟩:=Dk Fc;have C:wr.ownsRow w.heap.size 63 2 (.slice sa q sc) q (cat (st2 (Ab E) R) q):=g.top;have a2:∀o H,(wr.alloc o).grownBy H (Value.slice sa q sc).ownBlock->∀N,N<wr.heap.size->(Value.slice sa q sc).ownBlock≠some N->H.heap[N]?=wr.heap[N]?:=λo H hg N h1 h2 =>
  (hg.block N (by simp;omega) (λe=>h2 e.symm)).trans (blk_alloc_lt _ _ _ h1)
 have a1:w.heap.size<=wr.heap.size:=m.size;have P:=qh a2;clear a2;have T:=qh C;clear C;have b6:=qh<|Az g.top l (by decide);have b7:=qh<|Az g.top A (by decide);have b2:=qh m;clear m;have b5:=qh A;clear A;have b4:=qh l;clear l;have S:=qh g;clear g;have b3:=qh a4;have U:=qh D;have W:=qh F;have X:=qh G;clear a4 D F G d2
 go_wp2_with (at_builtin;refine wpList_append_lies _ rfl (.tmp 29) (.tmp 31) 23 rfl w.heap.size 63 i1 (.agg #[.string ⟨#[]⟩,.slice none 0 0]) 2 40 underlying23 b3.o U.o W.o X.o rfl (by omega) (.slice sa q sc) q _ (by first|rfl|simp[Act.eval,Act.put]) (World.ownsRow.alloc T.o _) (Ad wr.heap.size 0) 1 1 [.string ⟨#[48]⟩,.slice none 0 0] (by first|rfl|simp[Act.eval,Act.put]) rfl (Dl (cs:=#[.string ⟨#[48]⟩,.slice none 0 0]) (han wr _)) (by intro u hu;simp at hu;rcases hu with rfl|rfl<;>rfl) (by omega) (by unfold maxLen;omega) (by omega) (by simp;omega) _ rfl ?_;intro g2 cp H J d g1 f1;have z:=(P.o _ H d s d4 b6.o).trans b4.o;have f3:=(P.o _ H d L d9 b7.o).trans b5.o;obtain⟨⟨e0,e1,e2,e4⟩,ez⟩:=cells4 z;have f4:=ez 3;obtain⟨⟨r0,r1,r2,r3⟩,rz⟩:=cells4 f3;have s0:=rz 0;have s1:=rz 1;have s2:=rz 2;have s3:=rz 3;clear ez rz)
 have d5:(Ab E).na q=0:=ifn (by rw[<-Q.o];omega);have d0:(Ab E).fin q=⟨#[48]⟩:=ifp Q.o;have g4:wr.grownBy wr none:=⟨rfl,rfl,rfl,nlr,λ_ _ _=>rfl⟩;have K:=OwM.push S.o a1 g4 (v:=.slice none 0 0) (by rw[d5];exact World.ownsRow_nil _ _ _ _) (by rw[d0];exact J) d;have d7:=K.other (p:=(Ad s 3)) (Az K.top z (by decide)) (λj hj=>Az (K.row j hj) z (by decide)) (.slice (some (Ad g2 0)) (q+1) cp);have b9:Below w.heap.size wr (H.setCell (Ad s 3) (.slice (some (Ad g2 0)) (q+1) cp)):=(((Below.refl w.heap.size wr).alloc a1 (.cells #[.string ⟨#[48]⟩,.slice none 0 0] 63)).grown d (by simp;omega) (λk hk=>(World.ownsRow.lt S.o.top k hk).1)).setCell (p:=(Ad s 3)) f0 _;have f5:(H.setCell (Ad s 3) (.slice (some (Ad g2 0)) (q+1) cp)).heap[L]?=some (.cells #[.int .i64 0,.int .i64 0,.string ⟨#[]⟩,.slice none 0 0] 25 (0,0)):=(Ay (p:=(Ad s 3)) f7 _).trans f3;have h9:=d7.box4 f5 (.int .i64 1) (.int .i64 0) (.string ⟨#[48]⟩) (.slice (some (Ad g2 0)) (q+1) cp);rw[show cpD (Ab E) (q+1)=Ab E by rw[Q.o];rfl]at h9;exact bodyPost_ret (Ht rfl _ (b:=L) rfl (AE _ L _ _ _ _ f5)) rfl ⟨Ax (b2.o.trans b9) g5 _ _ _ _,.slice (some (Ad g2 0)) (q+1) cp,_,rfl,h9⟩
def selE(i o:Int):Bool:=decide<|i=o
def Sx:∀args w,(callFunc 105 args).run prog w=.ok (.enter 105 args) w:=λargs w=>by kernel_rfl
def Sz:∀args w,(callFunc 142 args).run prog w=.ok (.enter 142 args) w:=λargs w=>by kernel_rfl
def Qi(w:World)(i o:Int)(s:ByteArray)(t:Int):Calls prog 105 #[.agg #[.int .i64 i,.int .i64 o,.string s,.int .i64 t]] w (λr w'=>r=.returned (.bool (selE i o))/\Below w.heap.size w w'):=by
 have c:=(Below.refl w.heap.size w).alloc nlr (.cells #[.int .i64 i,.int .i64 o,.string s,.int .i64 t] 59);replace c:=qh c
 go_enter func105,ntmps105
 go_wp2;go_ret;exact⟨AH (by by_cases h:i=o<;>simp[selE,h]),c.o⟩
def XK:TstA 105 #[] selE (λ_=>True) :=
 ⟨Sx,λc _ i o s t=>by
  have h:=Qi c i o s t;rw[show ∀a:Value,(#[a]++#[]:Array Value)=#[a] from λ_=>rfl];exact h⟩
def PAl(tb nf:Nat)(w:World):Prop:=w.heap[tb]?=some (.cells #[.func (.func nf) #[] #[]] 116 (0,0))
def XL{nf:Nat}{sel:Int->Int->Bool}(u:Nat)(L:TstA nf #[] sel (λ_=>True)):TstA 142 #[.pointer (some (Ad u 0))] (λi o=>!sel i o) (PAl u nf):=by
 refine⟨Sz,λp E i o s t=>?_⟩;rw[show ∀a b:Value,(#[a]++#[b]:Array Value)=#[a,b] from λ_ _=>rfl];obtain⟨K,m⟩:=L;obtain⟨j,g⟩:=exq<|p.alloc (.cells #[.int .i64 i,.int .i64 o,.string s,.int .i64 t] 59);obtain⟨D,h⟩:=exq<|p.heap.size;have d:=(Below.refl p.heap.size p).alloc nlr (.cells #[.int .i64 i,.int .i64 o,.string s,.int .i64 t] 59);rw[<-g]at d;have H:j.heap[u]?=some (.cells #[.func (.func nf) #[] #[]] 116 (0,0)):=(d.block _ (lbk E)).trans E;have l:j.heap[D]?=some (.cells #[.int .i64 i,.int .i64 o,.string s,.int .i64 t] 59 (0,0)):=by rw[g,h];exact han p _
 obtain⟨J,F⟩:=exq<|j.drew;have I:j.cell? (Ad u 0)=some (.func (.func nf) #[] #[]):=by simp[World.cell?,H]
 obtain⟨⟨a0,B,C,a3⟩,_⟩:=cells4 l;have c:=m j trivial i o s t;rw[show ∀a:Value,(#[a]++#[]:Array Value)=#[a] from λ_=>rfl]at c;have G:=qh c;clear c m;have z:=qh d;clear d H l E F;rw[g]at I a0 B C a3;rw[h]at a0 B C a3
 go_enter func142,ntmps142
 go_wp2_with fail
 rw[<-g];clear I a0 B C a3 g h;refine G.o.mono ?_;rintro r N⟨rfl,k⟩;have A:=qh<|z.o.trans (k.mono z.o.size);clear k G z;go_wp2;go_ret;exact⟨AH (by cases sel i o<;>rfl),A.o⟩
variable{D:MD}
def Le:AccD D↔∀i,i<D.n->anyA D i (λa b=>!selE a b)=false:=by
 constructor
 ·intro h i hi;refine Lm λd hd=>?_;have:=h i d hi hd;simp[selE,this]
 intro h q d k hd;have j:=h q k;cases c:selE (D.ain q d) (D.aout q d)
 ·have g:anyA D q (λa b=>!selE a b)=true:=Iz.2 ⟨d,hd,by simp[c]⟩;rw[j]at g;cases g
 unfold selE at c;simp at c;exact c.symm
def TstM(Q:Prop)(w:World)(r:Ending)(w':World):Prop:=Below w.heap.size w w'/\((Q/\r=.returned (.bool true))\/(¬Q/\r=.returned (.bool false)))
def Qt{mv:Value}(w:World)(hM:Ma none w mv D)(a2:MSz D)(ht:Tab w):Calls prog 104 #[mv,.func (.func 105) #[] #[]] w (TstM (VM D/\AccD D) w):=by
 obtain⟨sv,rfl,hS⟩:=hM;obtain⟨a,cp,b,b4,A,C,BB,O,d0,ha,hc,hm,hb,E⟩:=hS.open;subst d0;unfold maxLen at hm;obtain⟨P,u⟩:=exq<|w.alloc (.cells #[.int .i64 D.kind,.int .i64 D.start,.string D.lead,.slice a D.n cp] 25);obtain⟨G,F⟩:=exq<|P.alloc (.cells #[.func (.func 105) #[] #[]] 116);have b3:P.heap.size=w.heap.size+1:=by rw[u];simp
 have b0:Fr (λ_=>False) w P:=by rw[u];exact Fr.alloc _ _
 have Y:Fr (λ_=>False) P G:=by rw[F];exact Fr.alloc _ _
 have Z:P.heap[w.heap.size]?=some (.cells #[.int .i64 D.kind,.int .i64 D.start,.string D.lead,.slice a D.n cp] 25 (0,0)):=by rw[u];exact han w _
 have d:G.heap[w.heap.size]?=some (.cells #[.int .i64 D.kind,.int .i64 D.start,.string D.lead,.slice a D.n cp] 25 (0,0)):=(Y.block _ (lbk Z) (λe=>e)).trans Z;have s:PAl (w.heap.size+1) 105 G:=by show G.heap[w.heap.size+1]?=_;rw[<-b3,F];exact han P _
 have H:Below w.heap.size w G:=(b0.trans Y).below nlr (λ_ e=>e.elim);obtain⟨mb,a1⟩:=exq<|w.heap.size;obtain⟨tb,a4⟩:=exq<|w.heap.size+1;obtain⟨⟨m0,m1,m2,m3⟩,_⟩:=cells4 d;have a7:=qh<|Dz G (⟨_,rfl,hS.kept (Ae H none)⟩:Ma none G (.agg #[.int .i64 D.kind,.int .i64 D.start,.string D.lead,.slice a D.n cp]) D) a2 (ht.below H nlr);rw[<-a1]at d;rw[<-a4]at s;have b7:mb<G.heap.size:=lbk d;have Q:=qh H;clear H;have T:=qh d;clear d Z b0 Y b3;have o:=qh s;clear s;replace hS:=qh hS;replace ht:=qh ht;replace a2:=qh a2;replace ha:=qh ha;have HB:=qh hb;clear hb;replace E:=qh E;rw[F,u]at m0 m1 m2 m3
 go_enter func104,ntmps104
 go_wp2_with fail
 rw[<-u,<-F,<-a4,<-a1];clear m0 m1 m2 m3 u F a1 a4;refine a7.o.mono ?_;rintro r w3⟨I,hr⟩;have N:=Q.o.trans<|I.mono Q.o.size;have d:=(I.block _ (lbk T.o)).trans T.o;have s:PAl tb 105 w3:=(I.block _ (lbk o.o)).trans o.o;obtain⟨⟨m0,m1,m2,m3⟩,_⟩:=cells4 d;clear I T o a7 Q b7;have R:=qh N;clear N;have o:=qh s;clear s d
 rcases hr with⟨hv,rfl⟩|⟨hv,rfl⟩
 rotate_left
 ·have HV:=qh hv;clear hv;go_wp2;go_ret;exact⟨R.o,.inr ⟨λh=>HV.o h.1,rfl⟩⟩
 have b8:=hv.n1;have b9:=hv.n2;have HV:=qh hv;clear hv;obtain rfl:=ha.o (by omega);obtain⟨n,hn⟩:=exq<|D.n;rw[<-hn]at b8 b9 m3 hc;have HN:=qh hn;rw[<-hn];clear hn
 go_wp2_with fail
 clear m0 m1 m2 m3
 go_loopw [13] (λa6 wr=>∃i:Nat,i<=n/\a6=.int .i64 (i:Int)/\Below w.heap.size w wr/\PAl tb 105 wr/\∀j,j<i->anyA D j (λa b=>!selE a b)=false) (λa6 _=>n-(intOf a6).toNat)
 case atStart=>exact⟨0,Nat.zero_le _,rfl,R.o,o.o,λj hj=>by omega⟩
 obtain⟨i,hi,rfl,a9,b2,K⟩:=hrel;clear R o;replace K:=qh K;have m:=qh a9;clear a9;have U:=qh b2;clear b2;by_cases d4:i<n
 ·have d3:(i:Int)<(n:Int):=by omega
  have d1:(0:Int)<=(i:Int):=by omega
  have b6:i<D.n:=by have:=HN.o;omega
  have a8:=(HB.o (by have:=HN.o;omega)).1;obtain⟨k1,k2,k3,k4,k5,k6,k7⟩:=E.o i b6;have t0:=(m.o.cell (p:=(Ad b (b4+i*2))) a8).trans k1;have t1:=(m.o.cell (p:=(Ad b (b4+i*2+1))) a8).trans k2;clear k1 k2;have b1:D.na i<=30000:=by have h1:=Nat.le_trans (DR D (show i+1<=D.n by omega)) HV.o.arcs;have h2:Ai D (i+1)=Ai D i+D.na i:=rfl;omega
  obtain⟨w4,a5⟩:=exq<|wr.alloc (.cells #[.string (D.fin i),.slice (A i) (D.na i) (C i)] 63);have W:Below wr.heap.size wr w4:=by rw[a5];exact(Below.refl _ wr).alloc nlr _
  have c:=m.o.trans<|W.mono m.o.size;have l:PAl tb 105 w4:=(W.block _ (lbk U.o)).trans U.o;have L:ArS none w4 (.slice (A i) (D.na i) (C i)) D i:=by
   by_cases h0:D.na i=0
   ·exact .inl ⟨h0,A i,C i,by rw[h0],k4⟩
   refine .inr ⟨BB i,O i,C i,by rw[k5 (by omega)],⟨Nat.lt_of_lt_of_le (k6 (by omega)).1 c.size,by simp⟩,k3,k4,λk hk=>?_⟩;obtain⟨u0,u1,u2,u3⟩:=k7 k hk;have J:=(k6 (by omega)).1;exact⟨(c.cell (p:=(Ad (BB i) (O i+k*4))) J).trans u0,(c.cell (p:=(Ad (BB i) (O i+k*4+1))) J).trans u1,(c.cell (p:=(Ad (BB i) (O i+k*4+2))) J).trans u2,(c.cell (p:=(Ad (BB i) (O i+k*4+3))) J).trans u3⟩
  have d5:∀(fn:Fn) (first cap:Array Value) (w:World),(Instr.makeFunc fn first cap).run prog w=.ok (.func fn first cap) w:=λ_ _ _ _=>rfl
  have HC:=qh<|LP w4 L b1 (XL tb XK) (λwb hb=>(hb.block _ (lbk l)).trans l);have S:=qh c;clear c W L k3 k4 k5 k6 k7;have z:=qh l;clear l U m
  go_wp2_with fail
  rw[<-a5];clear t0 t1 a5;refine HC.o.mono ?_;rintro r w5⟨rfl,X⟩;have g:=S.o.trans<|X.mono S.o.size;have B:PAl tb 105 w5:=(X.block _ (lbk z.o)).trans z.o;replace g:=qh g;clear X S HC;replace B:=qh B;clear z;cases hp:anyA D i (λa b=>!selE a b)
  ·replace hp:=qh hp;go_wp2;go_roundw
   case rel=>exact⟨i+1,by omega,by go_num,g.o,B.o,λj hj=>by
    by_cases e:j=i
    ·subst e;exact hp.o
    exact K.o j (by omega)⟩
   simp[intOf];omega
  replace hp:=qh hp;go_wp2;go_ret;exact⟨g.o,.inr ⟨λh=>absurd (Le.1 h.2 i (by have:=HN.o;omega)) (by rw[hp.o];simp),rfl⟩⟩
 have b5:n=i:=by omega
 subst b5;have d2:¬((n:Int)<(n:Int)):=by omega
 go_wp2;go_ret;exact⟨m.o,.inl ⟨⟨HV.o,Le.2 (λi hi=>K.o i (by rw[HN.o];exact hi))⟩,rfl⟩⟩
def MW{G:Value}(w:World)(H:Ma none w G D)(o:MSz D)(B:Tab w):Calls prog 54 #[G] w (TstM (VM D/\AccD D) w):=by
 obtain⟨sv,rfl,u⟩:=H;obtain⟨a,s,b,J,A,C,BB,O,z,_⟩:=u.open;subst z;obtain⟨h,c⟩:=exq<|w.alloc (.cells #[.int .i64 D.kind,.int .i64 D.start,.string D.lead,.slice a D.n s] 25);have d:Below w.heap.size w h:=by rw[c];exact(Below.refl _ w).alloc nlr _
 have l:h.heap[w.heap.size]?=some (.cells #[.int .i64 D.kind,.int .i64 D.start,.string D.lead,.slice a D.n s] 25 (0,0)):=by rw[c];exact han w _
 obtain⟨⟨m0,m1,E,F⟩,_⟩:=cells4 l;have i:=qh<|Qt h (⟨_,rfl,u.kept (Ae d none)⟩:Ma none h (.agg #[.int .i64 D.kind,.int .i64 D.start,.string D.lead,.slice a D.n s]) D) o (B.below d nlr);have g:=qh d;clear d l o B u;rw[c]at m0 m1 E F
 go_enter func54,ntmps54
 go_wp2_with fail
 rw[<-c];clear m0 m1 E F c;refine i.o.mono ?_;rintro r K⟨k,I⟩;have j:=qh<|g.o.trans (k.mono g.o.size);clear k g i
 rcases I with⟨m,rfl⟩|⟨m,rfl⟩
 ·have p:=qh m;clear m;go_wp2;go_ret;exact⟨j.o,.inl ⟨p.o,rfl⟩⟩
 have p:=qh m;clear m;go_wp2;go_ret;exact⟨j.o,.inr ⟨p.o,rfl⟩⟩
end
end Go.Proofs.YtpldocnhbdlgfaaGreatDoor
