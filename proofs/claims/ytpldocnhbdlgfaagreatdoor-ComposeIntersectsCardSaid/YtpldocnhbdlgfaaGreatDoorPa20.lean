/- Parts. -/
import Derived.Test.YtpldocnhbdlgfaaGreatDoorPa18
namespace Go.Proofs.YtpldocnhbdlgfaaGreatDoor
set_option maxRecDepth 100000
set_option linter.all false
set_option maxHeartbeats 16000000
open Go Tryz
section
open Go.RowKit Go.Deep
variable{D:MD}{x:Nat->Int}{i na:Nat}
def LS{st:StarO}(h:(alR D st x i).2≠0)(hi:i<=na):alR D st x na=alR D st x i:=by
 obtain⟨d,rfl⟩:=Nat.le.dest hi;exact IZ h d
def Tj{st:StarO}(hi:i<=na)(h:(alR D st x i).2=0)(c:(rest8 D.kind D.n st (alR D st x i).1).2≠0):domR D st na x=(⟨#[]⟩,(rest8 D.kind D.n st (alR D st x i).1).2):=by
 unfold domR;by_cases e:i=na
 ·subst e;rw[ifn (by omega),ifp c]
 have d:alR D st x (i+1)=((alR D st x i).1,(rest8 D.kind D.n st (alR D st x i).1).2):=by
  show (if (alR D st x i).2≠0 then _ else if (rest8 D.kind D.n st (alR D st x i).1).2≠0 then ((alR D st x i).1,(rest8 D.kind D.n st (alR D st x i).1).2) else _)=_
  rw[ifn (by omega),ifp c]
 have g:=LS (D:=D) (st:=st) (x:=x) (i:=i+1) (na:=na) (by rw[d];exact c) (by omega);rw[g,d];exact ifp c
def Rl{st:StarO}(c:(alR D st x i).2=0)(d:(rest8 D.kind D.n st (alR D st x i).1).2=0):alR D st x (i+1)=An D (x i) 0 (rest8 D.kind D.n st (alR D st x i).1).1 D.n (zerR D.kind,0):=by
 show (if (alR D st x i).2≠0 then _ else if (rest8 D.kind D.n st (alR D st x i).1).2≠0 then _ else An D (x i) 0 (rest8 D.kind D.n st (alR D st x i).1).1 D.n (zerR D.kind,0))=_
 rw[ifn (by omega),ifn (by omega)]
theorem Tk{st:StarO}(hi:i<=na)(c:(alR D st x i).2≠0):domR D st na x=(⟨#[]⟩,(alR D st x i).2):=by
 unfold domR;rw[LS c hi,ifp c]
theorem Ti{st:StarO}(c:(alR D st x na).2=0)(d:(rest8 D.kind D.n st (alR D st x na).1).2=0):domR D st na x=endR D (rest8 D.kind D.n st (alR D st x na).1).1:=by
 unfold domR;rw[ifn (by omega),ifn (by omega)]
def AlI(D:MD)(st:StarO)(na:Nat)(x:Nat->Int)(i:Nat)(v:Nat->ByteArray):Prop :=
 (i<=na/\v=(alR D st x i).1/\(alR D st x i).2=0)\/(i=na+1/\v=(rest8 D.kind D.n st (alR D st x na).1).1/\(alR D st x na).2=0/\(rest8 D.kind D.n st (alR D st x na).1).2=0)
def Rn{sv xv f9:Value}{st:StarO}(w:World)(hV:VM D)(hD:StS none w sv D)(hs:MSz D)(hx:Si none w xv na x)(i3:na<=200)(d3:StV w f9 D.n st):
  Calls prog 106 #[.agg #[.int .i64 D.kind,.int .i64 D.start,.string D.lead,sv],xv,f9] w (PairEnd (domR D.inZ st na x) w):=by
 obtain⟨a,cp,_,_,_,_,_,_,h6,_⟩:=hD.open;subst h6;obtain⟨ax,cx,bx,ox,rfl,e6,_,_,P,d6⟩:=hx.open;have g9:D.n<=3000:=hV.n2;have i2:1<=D.n:=hV.n1;obtain⟨s0,I⟩:∃s0:Nat,D.start=(s0:Int):=⟨D.start.toNat,by have:=hV.s0;omega⟩;have h5:s0<D.n:=by have:=hV.s1;omega
 have h7:(s0:Int)<(D.n:Int):=by omega
 have f5:(0:Int)<=(s0:Int):=by omega
 obtain⟨w1,U⟩:=exq<|w.alloc (.cells #[.int .i64 D.kind,.int .i64 (s0:Int),.string D.lead,.slice a D.n cp] 25);obtain⟨m,a9⟩:=exq<|w.heap.size;have e8:Fr (λ_=>False) w w1:=by rw[U];exact Fr.alloc _ _
 have u:BxM w1 m D (.slice a D.n cp):=by rw[U,a9,<-I];exact BxM.new w D _
 have e7:Below w.heap.size w w1:=e8.below nlr (λ_ e=>e.elim);have d7:=FB (D:=D) (a:=a) (cap:=cp) w1 g9;have m0:=cellOf u 0 rfl;have m1:=cellOf u 1 rfl;have m2:=cellOf u 2 rfl;have m3:=cellOf u 3 rfl;rw[I]at m1;rw[I]at d7;have a4:=qh I;rw[I];clear I;have e5:=qh d7;clear d7;have Z:=qh e7;clear e7 e8;have h:=qh u;clear u;replace d3:=qh d3;replace hD:=qh hD;replace hx:=qh hx;have d9:=qh e6;clear e6;replace P:=qh P;replace d6:=qh d6;replace hV:=qh hV;replace hs:=qh hs;have l0:=m0;have l1:=m1;have l2:=m2;have l3:=m3;rw[U,a9]at l0 l1 l2 l3
 go_enter func106,ntmps106
 go_wp2_with fail
 rw[<-U,<-a9];clear U l0 l1 l2 l3 m0 m1 m2 m3;refine e5.o.mono ?_;rintro r w2⟨b8,l,rfl,f7,k⟩;have H:BxM w2 m D (.slice a D.n cp):=h.o.kept (Fr.of_below (C:=λ_=>False) b8) (λe=>e);have b3:=Z.o.trans<|b8.mono Z.o.size;have g7:w.heap.size<=l:=Nat.le_trans Z.o.size f7;have g8:m≠l:=by have:=h.o;have:=lbk this;omega
 clear b8 e5 Z h a9 f7;have m1:=cellOf H 1 rfl;have m2:=cellOf H 2 rfl;rw[a4.o]at m1;have c0:=k.cell h5;have f0:=k.frozen s0;have e9:Fr (λq=>q=l) w2 (w2.setCell (Ad l s0) (.string D.lead)):=(Fr.refl (λq=>q=l) w2).set (p:=(Ad l s0)) (.inl rfl) _;have d2:=(k.set s0 (.string D.lead)).congr (g:=λj=>.string ((alR D.inZ st x 0).1 j)) (λj _=>by
  show (if j=s0 then Value.string D.lead else .string (zerR D.kind j))=.string (updS (zerR D.kind) D.start.toNat D.lead j)
  unfold updS;rw[show D.start.toNat=s0 by have:=a4.o;omega]
  split<;>rfl)
 have b9:Below w.heap.size w (w2.setCell (Ad l s0) (.string D.lead)):=b3.setCell (p:=(Ad l s0)) g7 _;have S:BxM (w2.setCell (Ad l s0) (.string D.lead)) m D (.slice a D.n cp):=H.kept e9 g8;obtain⟨w3,d4⟩:=exq<|w2.setCell ⟨l,s0,none⟩ (.string D.lead);rw[<-d4]at d2 b9 S;have e4:=qh d2;clear d2 k;have e0:=qh b9;clear b9 b3 e9;have b2:=qh S;clear S H
 go_wp2_with fail
 rw[<-d4];clear d4 m1 m2 c0 f0 h7 f5
 go_loopw [8,9,10] (λv8 v9 d8 wr=>∃(i vb:Nat) (v:Nat->ByteArray),i<=na+1/\v8=.slice (some (Ad vb 0)) D.n D.n/\v9=.int .i64 0/\d8=.int .i64 (i:Int)/\AlI D.inZ st na x i v/\wr.rowIs vb 9 D.n (λj=>.string (v j))/\BxM wr m D (.slice a D.n cp)/\Below w.heap.size w wr) (λ_ _ d8 _=>na+1-(intOf d8).toNat)
 case atStart=>exact⟨0,l,_,by omega,rfl,rfl,rfl,.inl ⟨by omega,rfl,rfl⟩,e4.o,b2.o,e0.o⟩
 obtain⟨i,vb,v,hi,rfl,rfl,rfl,a6,k,u,hb⟩:=hrel;clear e4 b2 e0;have E:=qh k;clear k;have h:=qh u;clear u;have HB:=qh hb;clear hb;have m0:=cellOf h.o 0 rfl;have m1:=cellOf h.o 1 rfl;have m2:=cellOf h.o 2 rfl;have m3:=cellOf h.o 3 rfl;by_cases g3:i<=na
 ·have f1:(i:Int)<=(na:Int):=by omega
  obtain⟨hv,h0⟩:v=(alR D.inZ st x i).1/\(alR D.inZ st x i).2=0:=by
   rcases a6 with⟨_,h1,h2⟩|⟨h1,_⟩
   ·exact⟨h1,h2⟩
   omega
  have J:∀j,smS (v j):=by rw[hv];exact FE (D:=D.inZ) hs.o.lead i
  have e3:=qh<|OO (D:=D) (a:=a) (cp:=cp) wr hV.o E.o J (d3.o.below (HB.o));have g0:=qh hv;clear hv a6;have b7:=qh h0;clear h0;have h8:=qh J;clear J
  go_wp2_with fail
  refine e3.o.mono ?_;rintro r w4⟨A,hr⟩;have Q:BxM w4 m D (.slice a D.n cp):=h.o.kept (Fr.of_below (C:=λ_=>False) A) (λe=>e);have F:=HB.o.trans<|A.mono HB.o.size;have d1:rest8 D.kind D.n st v=rest8 D.inZ.kind D.inZ.n st (alR D.inZ st x i).1:=by rw[g0.o];rfl
  rw[d1]at hr;clear e3 h HB m0 m1 m2 m3
  rcases hr with⟨hz,g,rfl,hg,f4⟩|⟨hz,rfl⟩
  rotate_left
  ·have O:=qh<|Tj (na:=na) g3 b7.o hz;obtain⟨ec,B⟩:∃ec:Nat,ec=(rest8 D.inZ.kind D.inZ.n st (alR D.inZ st x i).1).2:=⟨_,rfl⟩;rw[<-B]at O hz;rw[<-B];have b5:=qh F;clear B d1 F Q A;have g2:¬((ec:Int)=0):=by omega
   go_wp2;go_ret2;exact⟨by rw[O.o];rfl,b5.o⟩
  have HZ:=qh hz;clear hz;have a2:=qh f4;clear f4;have N:=qh Q;clear Q;have a1:=qh F;clear F A E d1;by_cases g4:i<na
  ·have f2:(i:Int)<(na:Int):=by omega
   have g6:(0:Int)<=(i:Int):=by omega
   obtain rfl:=d9.o (by omega);obtain⟨v1,b0⟩:∃v1,v1=(rest8 D.inZ.kind D.inZ.n st (alR D.inZ st x i).1).1:=⟨_,rfl⟩;have b4:∀j,smS (v1 j):=by rw[b0];exact KI<|FE (D:=D.inZ) hs.o.lead i
   have d0:alR D.inZ st x (i+1)=An D.inZ (x i) 0 v1 D.n (zerR D.kind,0):=by rw[Rl b7.o HZ.o,<-b0];rfl
   rw[<-b0]at a2;replace d0:=qh d0;clear b0;obtain⟨X,d5⟩:=exq<|w4.drew;obtain⟨xi,W⟩:=exq<|x i;have a8:Fr (λ_=>False) w4 X:=by rw[d5];exact(Fr.refl _ _).drew
   have s:BxM X m D (.slice a D.n cp):=N.o.kept a8 (λe=>e);have a7:=a1.o.trans<|a8.below a1.o.size (λ_ e=>e.elim);have f3:=a8.row a2.o (λe=>e);have f8:X.cell? (Ad bx (ox+i))=some (.int .i64 xi):=by rw[W];exact(a7.cell (p:=(Ad bx (ox+i))) (P.o (by omega)).1).trans (d6.o i g4)
   have c:X.cell? (Ad m 0)=some (.int .i64 D.kind)/\X.cell? (Ad m 1)=some (.int .i64 (s0:Int))/\X.cell? (Ad m 2)=some (.string D.lead)/\X.cell? (Ad m 3)=some (.slice a D.n cp)/\X.cell? (Ad bx (ox+i))=some (.int .i64 xi) :=
    ⟨cellOf s 0 rfl,by rw[<-a4.o];exact cellOf s 1 rfl,cellOf s 2 rfl,cellOf s 3 rfl,f8⟩
   have a5:=qh<|XH (i:=xi) (o:=0) X hV.o (hD.o.kept (Ab a7 none)) f3 b4 hs.o.aw;rw[a4.o,W,<-d0.o]at a5;rw[<-W]at a5;replace W:=qh W;have b1:=qh s;clear s;have b6:=qh a7;clear a7;clear f3 f8 a8 a2 N a1 b4 d9
   go_wp2_with fail
   refine AB (λwk=>wk.cell? (Ad m 0)=some (.int .i64 D.kind)/\wk.cell? (Ad m 1)=some (.int .i64 (s0:Int))/\wk.cell? (Ad m 2)=some (.string D.lead)/\wk.cell? (Ad m 3)=some (.slice a D.n cp)/\wk.cell? (Ad bx (ox+i))=some (.int .i64 xi)) 11 (by kernel_rfl) ?_;rw[<-d5];clear d5;refine Aa.tm 0 c ?_;refine Aa.tm 1 c ?_;refine Aa.tm 2 c ?_;refine Aa.tm 3 c ?_;refine Aa.tm 4 c ?_;refine Aa.tm 5 c ?_
   try simp only[Act.put,tryL]
   refine Aa.on 6 λK Y=>?_;go_simp;refine a5.o.mono ?_;rintro r w5⟨z,h4⟩;have d:w5.cell? (Ad m 0)=some (.int .i64 D.kind)/\w5.cell? (Ad m 1)=some (.int .i64 (s0:Int))/\w5.cell? (Ad m 2)=some (.string D.lead)/\w5.cell? (Ad m 3)=some (.slice a D.n cp)/\w5.cell? (Ad bx (ox+i))=some (.int .i64 xi) :=
    ⟨(Ab z none).cell c.1 (by simp),(Ab z none).cell c.2.1 (by simp),(Ab z none).cell c.2.2.1 (by simp),(Ab z none).cell c.2.2.2.1 (by simp),(Ab z none).cell c.2.2.2.2 (by simp)⟩
   have R:BxM w5 m D (.slice a D.n cp):=b1.o.kept (Fr.of_below (C:=λ_=>False) z) (λe=>e);have G:=b6.o.trans<|z.mono b6.o.size;clear z c;replace R:=qh R;clear b1;replace G:=qh G;clear b6 a5
   rcases h4 with⟨L,g5,rfl,h9,T⟩|⟨L,rfl⟩
   ·refine Y.out _ _ (.inr d) ?_;clear Y K
    try simp only[Act.put,tryL]
    refine Aa.tm 7 d ?_;refine Aa.tm 8 d ?_;refine Aa.tm 9 d ?_;refine Aa.tm 10 d ?_
    try simp only[Act.put,tryL]
    refine Aa.on 11 λK Y=>?_;go_simp;refine Y.out _ _ (.inl rfl) (Aa.dn ?_);clear Y K d;replace T:=qh T;have g1:=qh L;clear L;go_wp2;go_roundw
    case rel=>exact⟨i+1,g5,_,by omega,rfl,rfl,by go_num,.inl ⟨by omega,rfl,g1.o⟩,T.o,R.o,G.o⟩
    simp[intOf];omega
   have O:=qh<|Tk (D:=D.inZ) (st:=st) (x:=x) (i:=i+1) (na:=na) (by omega) L;obtain⟨ec,B⟩:∃ec:Nat,ec=(alR D.inZ st x (i+1)).2:=⟨_,rfl⟩;rw[<-B]at O L;rw[<-B];clear B;refine Y.out _ _ (.inr d) ?_;clear Y K
   try simp only[Act.put,tryL]
   refine Aa.tm 7 d ?_;refine Aa.tm 8 d ?_;refine Aa.tm 9 d ?_;refine Aa.tm 10 d ?_
   try simp only[Act.put,tryL]
   refine Aa.on 11 λK Y=>?_;go_simp;refine Y.out _ _ (.inl rfl) (Aa.dn ?_);clear Y K d;have g2:¬((ec:Int)=0):=by omega
   clear L;go_wp2;go_ret2;exact⟨by rw[O.o];rfl,G.o⟩
  obtain rfl:i=na:=by omega
  have f2:¬((i:Int)<(i:Int)):=by omega
  go_wp2;go_roundw
  case rel=>exact⟨i+1,g,_,by omega,rfl,rfl,by go_num,.inr ⟨rfl,rfl,b7.o,HZ.o⟩,a2.o,N.o,a1.o⟩
  simp[intOf]
 have f1:¬((i:Int)<=(na:Int)):=by omega
 obtain⟨hv,h0,h1⟩:v=(rest8 D.inZ.kind D.inZ.n st (alR D.inZ st x na).1).1/\(alR D.inZ st x na).2=0/\(rest8 D.inZ.kind D.inZ.n st (alR D.inZ st x na).1).2=0:=by
  rcases a6 with⟨h1,_⟩|⟨_,h1,h2,h3⟩
  ·omega
  exact⟨h1,h2,h3⟩
 have J:∀j,smS (v j):=by rw[hv];exact KI<|FE (D:=D.inZ) hs.o.lead na
 have e2:=qh<|MS (v:=v) wr hV.o (hD.o.kept (Ab HB.o none)) E.o J hs.o.fin;have e1:=qh (show domR D.inZ st na x=endR D v by rw[Ti h0 h1,<-hv];exact Tx D v);clear hv h0 h1 J a6
 go_wp2_with fail
 refine e2.o.mono ?_;rintro r w4⟨rfl,A⟩;have b5:=qh<|HB.o.trans (A.mono HB.o.size);clear A;clear e2 h E m0 m1 m2 m3;go_wp2;go_ret2;exact⟨by rw[e1.o];rfl,b5.o⟩
end
end Go.Proofs.YtpldocnhbdlgfaaGreatDoor
