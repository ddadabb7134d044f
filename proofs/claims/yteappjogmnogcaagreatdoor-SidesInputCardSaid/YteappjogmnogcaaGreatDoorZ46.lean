/- Parts. -/
import Derived.Test.YteappjogmnogcaaGreatDoorZ39
namespace Go.Proofs.YteappjogmnogcaaGreatDoor
set_option maxRecDepth 100000
set_option linter.all false
set_option maxHeartbeats 16000000
open Go Tryz
section
open Go.RowKit Go.Deep
variable{D:MD}{x:Nat->Int}{i na:Nat}
def LS{st:StarO}(h:(alR D st x i).2≠0)(hi:i<=na):alR D st x na=alR D st x i:=by
 obtain⟨d,rfl⟩:=Nat.le.dest hi;exact IY h d
def Uc{st:StarO}(hi:i<=na)(h:(alR D st x i).2=0)(c:(rest8 D.kind D.n st (alR D st x i).1).2≠0):domR D st na x=(⟨#[]⟩,(rest8 D.kind D.n st (alR D st x i).1).2):=by
 unfold domR;by_cases e:i=na
 ·subst e;rw[ifn (by omega),ifp c]
 have d:alR D st x (i+1)=((alR D st x i).1,(rest8 D.kind D.n st (alR D st x i).1).2):=by
  show (if (alR D st x i).2≠0 then _ else if (rest8 D.kind D.n st (alR D st x i).1).2≠0 then ((alR D st x i).1,(rest8 D.kind D.n st (alR D st x i).1).2) else _)=_
  rw[ifn (by omega),ifp c]
 have g:=LS (D:=D) (st:=st) (x:=x) (i:=i+1) (na:=na) (by rw[d];exact c) (by omega);rw[g,d];exact ifp c
def Sg{st:StarO}(c:(alR D st x i).2=0)(d:(rest8 D.kind D.n st (alR D st x i).1).2=0):alR D st x (i+1)=Ak D (x i) 0 (rest8 D.kind D.n st (alR D st x i).1).1 D.n (zerR D.kind,0):=by
 show (if (alR D st x i).2≠0 then _ else if (rest8 D.kind D.n st (alR D st x i).1).2≠0 then _ else Ak D (x i) 0 (rest8 D.kind D.n st (alR D st x i).1).1 D.n (zerR D.kind,0))=_
 rw[ifn (by omega),ifn (by omega)]
theorem Ud{st:StarO}(hi:i<=na)(c:(alR D st x i).2≠0):domR D st na x=(⟨#[]⟩,(alR D st x i).2):=by
 unfold domR;rw[LS c hi,ifp c]
theorem Ub{st:StarO}(c:(alR D st x na).2=0)(d:(rest8 D.kind D.n st (alR D st x na).1).2=0):domR D st na x=endR D (rest8 D.kind D.n st (alR D st x na).1).1:=by
 unfold domR;rw[ifn (by omega),ifn (by omega)]
def AlI(D:MD)(st:StarO)(na:Nat)(x:Nat->Int)(i:Nat)(v:Nat->ByteArray):Prop :=
 (i<=na/\v=(alR D st x i).1/\(alR D st x i).2=0)\/(i=na+1/\v=(rest8 D.kind D.n st (alR D st x na).1).1/\(alR D st x na).2=0/\(rest8 D.kind D.n st (alR D st x na).1).2=0)
def Sk{sv xv f4:Value}{st:StarO}(w:World)(hV:VM D)(hD:StS none w sv D)(hs:MSz D)(hx:Si none w xv na x)(h7:na<=200)(c9:StV w f4 D.n st):
  Calls prog 58 #[.agg #[.int .i64 D.kind,.int .i64 D.start,.string D.lead,sv],xv,f4] w (PairEnd (domR D.inZ st na x) w):=by
 obtain⟨a,cp,_,_,_,_,_,_,g8,_⟩:=hD.open;subst g8;obtain⟨ax,cx,bx,ox,rfl,e2,_,_,P,d2⟩:=hx.open;have g4:D.n<=3000:=hV.n2;have h6:1<=D.n:=hV.n1;obtain⟨s0,I⟩:∃s0:Nat,D.start=(s0:Int):=⟨D.start.toNat,by have:=hV.s0;omega⟩;have g7:s0<D.n:=by have:=hV.s1;omega
 have g9:(s0:Int)<(D.n:Int):=by omega
 have f1:(0:Int)<=(s0:Int):=by omega
 obtain⟨w1,U⟩:=exq<|w.alloc (.cells #[.int .i64 D.kind,.int .i64 (s0:Int),.string D.lead,.slice a D.n cp] 24);obtain⟨m,a8⟩:=exq<|w.heap.size;have e4:Fr (λ_=>False) w w1:=by rw[U];exact Fr.alloc _ _
 have u:BxM w1 m D (.slice a D.n cp):=by rw[U,a8,<-I];exact BxM.new w D _
 have e3:Below w.heap.size w w1:=e4.below nlr (λ_ e=>e.elim);have d3:=FG (D:=D) (a:=a) (cap:=cp) w1 g4;have m0:=cellOf u 0 rfl;have m1:=cellOf u 1 rfl;have m2:=cellOf u 2 rfl;have m3:=cellOf u 3 rfl;rw[I]at m1;rw[I]at d3;have a3:=qh I;rw[I];clear I;have e1:=qh d3;clear d3;have Z:=qh e3;clear e3 e4;have h:=qh u;clear u;replace c9:=qh c9;replace hD:=qh hD;replace hx:=qh hx;have d5:=qh e2;clear e2;replace P:=qh P;replace d2:=qh d2;replace hV:=qh hV;replace hs:=qh hs;have l0:=m0;have l1:=m1;have l2:=m2;have l3:=m3;rw[U,a8]at l0 l1 l2 l3
 go_enter func58,ntmps58
 go_wp2_with fail
 rw[<-U,<-a8];clear U l0 l1 l2 l3 m0 m1 m2 m3;refine e1.o.mono ?_;rintro r w2⟨b7,l,rfl,f2,k⟩;have H:BxM w2 m D (.slice a D.n cp):=h.o.kept (Fr.of_below (C:=λ_=>False) b7) (λe=>e);have b2:=Z.o.trans<|b7.mono Z.o.size;have g2:w.heap.size<=l:=Nat.le_trans Z.o.size f2;have g3:m≠l:=by have:=h.o;have:=lbk this;omega
 clear b7 e1 Z h a8 f2;have m1:=cellOf H 1 rfl;have m2:=cellOf H 2 rfl;rw[a3.o]at m1;have c0:=k.cell g7;have f0:=k.frozen s0;have e5:Fr (λq=>q=l) w2 (w2.setCell (Ad l s0) (.string D.lead)):=(Fr.refl (λq=>q=l) w2).set (p:=(Ad l s0)) (.inl rfl) _;have c8:=(k.set s0 (.string D.lead)).congr (g:=λj=>.string ((alR D.inZ st x 0).1 j)) (λj _=>by
  show (if j=s0 then Value.string D.lead else .string (zerR D.kind j))=.string (updS (zerR D.kind) D.start.toNat D.lead j)
  unfold updS;rw[show D.start.toNat=s0 by have:=a3.o;omega]
  split<;>rfl)
 have b8:Below w.heap.size w (w2.setCell (Ad l s0) (.string D.lead)):=b2.setCell (p:=(Ad l s0)) g2 _;have S:BxM (w2.setCell (Ad l s0) (.string D.lead)) m D (.slice a D.n cp):=H.kept e5 g3;obtain⟨w3,d0⟩:=exq<|w2.setCell ⟨l,s0,none⟩ (.string D.lead);rw[<-d0]at c8 b8 S;have e0:=qh c8;clear c8 k;have d6:=qh b8;clear b8 b2 e5;have b1:=qh S;clear S H
 go_wp2_with fail
 rw[<-d0];clear d0 m1 m2 c0 f0 g9 f1
 go_loopw [8,9,10] (λv8 v9 d4 wr=>∃(i vb:Nat) (v:Nat->ByteArray),i<=na+1/\v8=.slice (some (Ad vb 0)) D.n D.n/\v9=.int .i64 0/\d4=.int .i64 (i:Int)/\AlI D.inZ st na x i v/\wr.rowIs vb 9 D.n (λj=>.string (v j))/\BxM wr m D (.slice a D.n cp)/\Below w.heap.size w wr) (λ_ _ d4 _=>na+1-(intOf d4).toNat)
 case atStart=>exact⟨0,l,_,by omega,rfl,rfl,rfl,.inl ⟨by omega,rfl,rfl⟩,e0.o,b1.o,d6.o⟩
 obtain⟨i,vb,v,hi,rfl,rfl,rfl,a5,k,u,hb⟩:=hrel;clear e0 b1 d6;have E:=qh k;clear k;have h:=qh u;clear u;have HB:=qh hb;clear hb;have m0:=cellOf h.o 0 rfl;have m1:=cellOf h.o 1 rfl;have m2:=cellOf h.o 2 rfl;have m3:=cellOf h.o 3 rfl;by_cases f9:i<=na
 ·have e6:(i:Int)<=(na:Int):=by omega
  obtain⟨hv,h0⟩:v=(alR D.inZ st x i).1/\(alR D.inZ st x i).2=0:=by
   rcases a5 with⟨_,h1,h2⟩|⟨h1,_⟩
   ·exact⟨h1,h2⟩
   omega
  have J:∀j,smS (v j):=by rw[hv];exact FJ (D:=D.inZ) hs.o.lead i
  have d9:=qh<|Py (D:=D) (a:=a) (cp:=cp) wr hV.o E.o J (c9.o.below (HB.o));have f5:=qh hv;clear hv a5;have b6:=qh h0;clear h0;have h4:=qh J;clear J
  go_wp2_with fail
  refine d9.o.mono ?_;rintro r w4⟨A,hr⟩;have Q:BxM w4 m D (.slice a D.n cp):=h.o.kept (Fr.of_below (C:=λ_=>False) A) (λe=>e);have F:=HB.o.trans<|A.mono HB.o.size;have c7:rest8 D.kind D.n st v=rest8 D.inZ.kind D.inZ.n st (alR D.inZ st x i).1:=by rw[f5.o];rfl
  rw[c7]at hr;clear d9 h HB m0 m1 m2 m3
  rcases hr with⟨hz,g,rfl,hg,e9⟩|⟨hz,rfl⟩
  rotate_left
  ·have O:=qh<|Uc (na:=na) f9 b6.o hz;obtain⟨ec,B⟩:∃ec:Nat,ec=(rest8 D.inZ.kind D.inZ.n st (alR D.inZ st x i).1).2:=⟨_,rfl⟩;rw[<-B]at O hz;rw[<-B];have b4:=qh F;clear B c7 F Q A;have f8:¬((ec:Int)=0):=by omega
   go_wp2;go_ret2;exact⟨by rw[O.o];rfl,b4.o⟩
  have HZ:=qh hz;clear hz;have a2:=qh e9;clear e9;have N:=qh Q;clear Q;have a1:=qh F;clear F A E c7;by_cases g0:i<na
  ·have e7:(i:Int)<(na:Int):=by omega
   have g1:(0:Int)<=(i:Int):=by omega
   obtain rfl:=d5.o (by omega);obtain⟨v1,a9⟩:∃v1,v1=(rest8 D.inZ.kind D.inZ.n st (alR D.inZ st x i).1).1:=⟨_,rfl⟩;have b3:∀j,smS (v1 j):=by rw[a9];exact KC<|FJ (D:=D.inZ) hs.o.lead i
   have b9:alR D.inZ st x (i+1)=Ak D.inZ (x i) 0 v1 D.n (zerR D.kind,0):=by rw[Sg b6.o HZ.o,<-a9];rfl
   rw[<-a9]at a2;replace b9:=qh b9;clear a9;obtain⟨X,d1⟩:=exq<|w4.drew;obtain⟨xi,W⟩:=exq<|x i;have a7:Fr (λ_=>False) w4 X:=by rw[d1];exact(Fr.refl _ _).drew
   have s:BxM X m D (.slice a D.n cp):=N.o.kept a7 (λe=>e);have a6:=a1.o.trans<|a7.below a1.o.size (λ_ e=>e.elim);have e8:=a7.row a2.o (λe=>e);have f3:X.cell? (Ad bx (ox+i))=some (.int .i64 xi):=by rw[W];exact(a6.cell (p:=(Ad bx (ox+i))) (P.o (by omega)).1).trans (d2.o i g0)
   have c:X.cell? (Ad m 0)=some (.int .i64 D.kind)/\X.cell? (Ad m 1)=some (.int .i64 (s0:Int))/\X.cell? (Ad m 2)=some (.string D.lead)/\X.cell? (Ad m 3)=some (.slice a D.n cp)/\X.cell? (Ad bx (ox+i))=some (.int .i64 xi) :=
    ⟨cellOf s 0 rfl,by rw[<-a3.o];exact cellOf s 1 rfl,cellOf s 2 rfl,cellOf s 3 rfl,f3⟩
   have a4:=qh<|Zg (i:=xi) (o:=0) X hV.o (hD.o.kept (Ab a6 none)) e8 b3 hs.o.aw;rw[a3.o,W,<-b9.o]at a4;rw[<-W]at a4;replace W:=qh W;have b0:=qh s;clear s;have b5:=qh a6;clear a6;clear e8 f3 a7 a2 N a1 b3 d5
   go_wp2_with fail
   refine Au (λwk=>wk.cell? (Ad m 0)=some (.int .i64 D.kind)/\wk.cell? (Ad m 1)=some (.int .i64 (s0:Int))/\wk.cell? (Ad m 2)=some (.string D.lead)/\wk.cell? (Ad m 3)=some (.slice a D.n cp)/\wk.cell? (Ad bx (ox+i))=some (.int .i64 xi)) 11 (by kernel_rfl) ?_;rw[<-d1];clear d1;refine Aa.tm 0 c ?_;refine Aa.tm 1 c ?_;refine Aa.tm 2 c ?_;refine Aa.tm 3 c ?_;refine Aa.tm 4 c ?_;refine Aa.tm 5 c ?_
   try simp only[Act.put,tryL]
   refine Aa.on 6 λK Y=>?_;go_simp;refine a4.o.mono ?_;rintro r w5⟨z,g6⟩;have d:w5.cell? (Ad m 0)=some (.int .i64 D.kind)/\w5.cell? (Ad m 1)=some (.int .i64 (s0:Int))/\w5.cell? (Ad m 2)=some (.string D.lead)/\w5.cell? (Ad m 3)=some (.slice a D.n cp)/\w5.cell? (Ad bx (ox+i))=some (.int .i64 xi) :=
    ⟨(Ab z none).cell c.1 (by simp),(Ab z none).cell c.2.1 (by simp),(Ab z none).cell c.2.2.1 (by simp),(Ab z none).cell c.2.2.2.1 (by simp),(Ab z none).cell c.2.2.2.2 (by simp)⟩
   have R:BxM w5 m D (.slice a D.n cp):=b0.o.kept (Fr.of_below (C:=λ_=>False) z) (λe=>e);have G:=b5.o.trans<|z.mono b5.o.size;clear z c;replace R:=qh R;clear b0;replace G:=qh G;clear b5 a4
   rcases g6 with⟨L,g5,rfl,h5,T⟩|⟨L,rfl⟩
   ·refine Y.out _ _ (.inr d) ?_;clear Y K
    try simp only[Act.put,tryL]
    refine Aa.tm 7 d ?_;refine Aa.tm 8 d ?_;refine Aa.tm 9 d ?_;refine Aa.tm 10 d ?_
    try simp only[Act.put,tryL]
    refine Aa.on 11 λK Y=>?_;go_simp;refine Y.out _ _ (.inl rfl) (Aa.dn ?_);clear Y K d;replace T:=qh T;have f7:=qh L;clear L;go_wp2;go_roundw
    case rel=>exact⟨i+1,g5,_,by omega,rfl,rfl,by go_num,.inl ⟨by omega,rfl,f7.o⟩,T.o,R.o,G.o⟩
    simp[intOf];omega
   have O:=qh<|Ud (D:=D.inZ) (st:=st) (x:=x) (i:=i+1) (na:=na) (by omega) L;obtain⟨ec,B⟩:∃ec:Nat,ec=(alR D.inZ st x (i+1)).2:=⟨_,rfl⟩;rw[<-B]at O L;rw[<-B];clear B;refine Y.out _ _ (.inr d) ?_;clear Y K
   try simp only[Act.put,tryL]
   refine Aa.tm 7 d ?_;refine Aa.tm 8 d ?_;refine Aa.tm 9 d ?_;refine Aa.tm 10 d ?_
   try simp only[Act.put,tryL]
   refine Aa.on 11 λK Y=>?_;go_simp;refine Y.out _ _ (.inl rfl) (Aa.dn ?_);clear Y K d;have f8:¬((ec:Int)=0):=by omega
   clear L;go_wp2;go_ret2;exact⟨by rw[O.o];rfl,G.o⟩
  obtain rfl:i=na:=by omega
  have e7:¬((i:Int)<(i:Int)):=by omega
  go_wp2;go_roundw
  case rel=>exact⟨i+1,g,_,by omega,rfl,rfl,by go_num,.inr ⟨rfl,rfl,b6.o,HZ.o⟩,a2.o,N.o,a1.o⟩
  simp[intOf]
 have e6:¬((i:Int)<=(na:Int)):=by omega
 obtain⟨hv,h0,h1⟩:v=(rest8 D.inZ.kind D.inZ.n st (alR D.inZ st x na).1).1/\(alR D.inZ st x na).2=0/\(rest8 D.inZ.kind D.inZ.n st (alR D.inZ st x na).1).2=0:=by
  rcases a5 with⟨h1,_⟩|⟨_,h1,h2,h3⟩
  ·omega
  exact⟨h1,h2,h3⟩
 have J:∀j,smS (v j):=by rw[hv];exact KC<|FJ (D:=D.inZ) hs.o.lead na
 have d8:=qh<|Nt (v:=v) wr hV.o (hD.o.kept (Ab HB.o none)) E.o J hs.o.fin;have d7:=qh (show domR D.inZ st na x=endR D v by rw[Ub h0 h1,<-hv];exact Ut D v);clear hv h0 h1 J a5
 go_wp2_with fail
 refine d8.o.mono ?_;rintro r w4⟨rfl,A⟩;have b4:=qh<|HB.o.trans (A.mono HB.o.size);clear A;clear d8 h E m0 m1 m2 m3;go_wp2;go_ret2;exact⟨by rw[d7.o];rfl,b4.o⟩
end
end Go.Proofs.YteappjogmnogcaaGreatDoor
