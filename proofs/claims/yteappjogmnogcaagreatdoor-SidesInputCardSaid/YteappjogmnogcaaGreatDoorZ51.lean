/- Parts. -/
import Derived.Test.YteappjogmnogcaaGreatDoorZ35
import Derived.Test.YteappjogmnogcaaGreatDoorZ50
namespace Go.Proofs.YteappjogmnogcaaGreatDoor
set_option maxRecDepth 100000
set_option linter.all false
set_option maxHeartbeats 16000000
open Go Tryz
theorem kb{w v:World}{b:Nat}{o:Obj}(g:Hd (w.heap[b]?=some o))(h:RowKit.Below w.heap.size w v):Hd (v.heap[b]?=some o):=(h.block _ (lbk g.o)).trans g.o
theorem nd{u w v:World}(d:Hd (RowKit.Below u.heap.size u w))(h:RowKit.Below w.heap.size w v):Hd (RowKit.Below u.heap.size u v):=d.o.trans (h.mono d.o.size)
theorem ho{w v:World}{b n c:Nat}{k s:Int}{l:ByteArray}{a:Option Addr}{D:MD}(g:Hd (Has w b k s l a n c D))(h:RowKit.Below w.heap.size w v):Hd (Has v b k s l a n c D):=g.o.on h
section
open Go.RowKit Go.Deep
def YO{D:MD}{mv xv:Value}{na:Nat}{x:Nat->Int}(w:World)(f7:Ma none w mv D)(i:MSz D)(hx:Si none w xv na x)(ht:Tab w):
  Calls prog 4 #[mv,xv] w (TrueB w):=by
 obtain⟨g3,e5,d4⟩:=f7;subst e5;obtain⟨b7,c9,_,_,_,_,_,_,A,_⟩:=d4.open;subst A;have J:=qh<|show ∀W,Below w.heap.size w W->Ma none W (.agg #[.int .i64 D.kind,.int .i64 D.start,.string D.lead,.slice b7 D.n c9]) D from λW h=>⟨_,rfl,d4.kept (Ab h none)⟩;clear d4;replace i:=qh i;obtain⟨c8,d3,_,_,f9,_,f8,b6,_,_⟩:=hx.open;subst f9;have d7:(na:Int)<=9223372036854775807:=by unfold maxLen at b6;omega
 clear f8 b6;have P:=qh<|show ∀W,Below w.heap.size w W->Si none W (.slice c8 na d3) na x from λW h=>hx.kept (Ab h none);clear hx;replace d7:=qh d7;have G:=qh<|show ∀W,Below w.heap.size w W->Tab W from λW h=>ht.below h nlr;clear ht;have d:=qh<|Below.refl w.heap.size w;obtain⟨w1,E⟩:=exq<|w.alloc (.cells #[.int .i64 D.kind,.int .i64 D.start,.string D.lead,.slice b7 D.n c9] 24);obtain⟨i1,a4⟩:=exq<|w.heap.size;have e6:w1.heap.size=w.heap.size+1:=by rw[E];simp
 have hb:Below w.heap.size w w1:=by rw[E];exact(Below.refl _ w).alloc nlr _
 have L:w1.heap[i1]?=some (.cells #[.int .i64 D.kind,.int .i64 D.start,.string D.lead,.slice b7 D.n c9] 24 (0,0)):=by rw[a4,E];exact han w _
 replace d:=nd d hb;clear hb;have g:=qh L;clear L;obtain⟨bA,a8⟩:∃x,x=i1:=⟨_,rfl⟩;rw[<-a8]at g
 go_enter func4,ntmps4
 obtain⟨⟨m0,m1,j,k⟩,_⟩:=cells4 g.o;rw[E]at m0 m1 j k;rw[a8,a4]at m0 m1 j k;have c:=qh<|Hq w1 (J.o w1 d.o) i.o
 go_wp2_with fail
 clear m0 m1 j k;rw[<-a4,<-E];rw[<-a8];clear E e6 a4;clear a8;refine c.o.mono ?_;rintro r w2⟨f5,rfl,d6,hb⟩;replace g:=kb g hb;replace d:=nd d hb;clear hb;clear c;cases f5
 rotate_left
 ·skip
  clear d6;have c:=qh<|CH w2 (G.o w2 d.o)
  go_wp2_with fail
  refine c.o.mono ?_;rintro r w3⟨rfl,hb⟩;replace g:=kb g hb;replace d:=nd d hb;clear hb;clear c;go_wp2;go_ret;exact⟨rfl,d.o⟩
 have g2:=qh (show ¬(8<D.n\/30<Ac D D.n) from λh=>by cases d6.2 h);clear d6;obtain⟨w4,N⟩:=exq<|w2.alloc (.cells #[.slice c8 na d3] 25);obtain⟨i4,a5⟩:=exq<|w2.heap.size;have e7:w4.heap.size=w2.heap.size+1:=by rw[N];simp
 have hb:Below w2.heap.size w2 w4:=by rw[N];exact(Below.refl _ w2).alloc nlr _
 have hk:w4.heap[i4]?=some (.cells #[.slice c8 na d3] 25 (0,0)):=by rw[a5,N];exact han w2 _
 replace g:=kb g hb;replace d:=nd d hb;clear hb;have HF:=qh<|UZ w4 (cellOf hk 0 rfl) (P.o w4 d.o) d7.o;clear hk;have c:=qh<|HF.o
 go_wp2_with fail
 rw[<-a5,<-N];clear N e7 a5;refine c.o.mono ?_;rintro r w5⟨bf,rfl,d5,hb⟩;replace g:=kb g hb;replace d:=nd d hb;clear hb;clear c;clear HF;cases bf
 rotate_left
 ·skip
  clear d5;have c:=qh<|CH w5 (G.o w5 d.o)
  go_wp2_with fail
  refine c.o.mono ?_;rintro r w6⟨rfl,hb⟩;replace g:=kb g hb;replace d:=nd d hb;clear hb;clear c;go_wp2;go_ret;exact⟨rfl,d.o⟩
 have I:=qh (Va λh=>by cases d5.2 h);clear d5;obtain⟨⟨m0,m1,j,k⟩,_⟩:=cells4 g.o;have c:=qh<|JL w5 (J.o w5 d.o) i.o (G.o w5 d.o)
 go_wp2_with fail
 clear m0 m1 j k;refine c.o.mono ?_;rintro r w7⟨hb,C⟩;replace g:=kb g hb;replace d:=nd d hb;clear hb;clear c;have C:(VM (D)/\∃sv R,r=.returned (.tuple #[.agg #[.int .i64 (D.kind),.int .i64 (D.start),.string (D.lead),sv],.int .i64 0])/\OwM w7 _ sv (D.inR) R)\/(¬VM (D)/\r=.returned (.tuple #[AE,.int .i64 1])):=C
 rcases C with⟨hv,e9,R,rfl,l⟩|⟨hv,rfl⟩
 rotate_left
 ·skip
  have e4:=qh hv;clear hv;unfold AE;obtain⟨w8,F⟩:=exq<|w7.alloc (.cells #[.int .i64 0,.int .i64 0,.string ⟨#[]⟩,.slice none 0 0] 24);obtain⟨i8,a6⟩:=exq<|w7.heap.size;have e8:w8.heap.size=w7.heap.size+1:=by rw[F];simp
  have hb:Below w7.heap.size w7 w8:=by rw[F];exact(Below.refl _ w7).alloc nlr _
  have L:w8.heap[i8]?=some (.cells #[.int .i64 0,.int .i64 0,.string ⟨#[]⟩,.slice none 0 0] 24 (0,0)):=by rw[a6,F];exact han w7 _
  replace g:=kb g hb;replace d:=nd d hb;clear hb;have K:=qh L;clear L;obtain⟨bN,Q⟩:∃x,x=i8:=⟨_,rfl⟩;rw[<-Q]at K;obtain⟨⟨m0,m1,j,k⟩,_⟩:=cells4 g.o;rw[F]at m0 m1 j k;have c:=qh<|Ia w8 (J.o w8 d.o) i.o (G.o w8 d.o)
  go_wp2_with fail
  clear m0 m1 j k;rw[<-a6,<-F];rw[<-Q];clear F e8 a6;clear Q;refine c.o.mono ?_;rintro r w9⟨hb,C⟩;replace g:=kb g hb;replace K:=kb K hb;replace d:=nd d hb;clear hb;clear c;have C:(VM (D)/\∃sv R,r=.returned (.tuple #[.agg #[.int .i64 (D.kind),.int .i64 (D.start),.string (D.lead),sv],.int .i64 0])/\OwM w9 _ sv (D.outR) R)\/(¬VM (D)/\r=.returned (.tuple #[AE,.int .i64 1])):=C
  rcases C with⟨hv,_⟩|⟨_,rfl⟩
  ·exact absurd hv e4.o
  unfold AE;obtain⟨Y,p⟩:=exq<|w9.alloc (.cells #[.int .i64 0,.int .i64 0,.string ⟨#[]⟩,.slice none 0 0] 24);obtain⟨b0,T⟩:=exq<|w9.heap.size;have d9:Y.heap.size=w9.heap.size+1:=by rw[p];simp
  have hb:Below w9.heap.size w9 Y:=by rw[p];exact(Below.refl _ w9).alloc nlr _
  have L:Y.heap[b0]?=some (.cells #[.int .i64 0,.int .i64 0,.string ⟨#[]⟩,.slice none 0 0] 24 (0,0)):=by rw[T,p];exact han w9 _
  replace g:=kb g hb;replace K:=kb K hb;replace d:=nd d hb;clear hb;have KO:=qh L;clear L;obtain⟨bO,S⟩:∃x,x=b0:=⟨_,rfl⟩;rw[<-S]at KO;obtain⟨⟨m0,m1,j,k⟩,_⟩:=cells4 g.o;rw[p]at m0 m1 j k;have c:=qh<|CR Y (J.o Y d.o) i.o
  go_wp2_with fail
  clear m0 m1 j k;rw[<-T,<-p];rw[<-S];clear p d9 T;clear S;refine c.o.mono ?_;rintro r f0⟨hb,C⟩;replace g:=kb g hb;replace K:=kb K hb;replace KO:=kb KO hb;replace d:=nd d hb;clear hb;clear c
  rcases C with⟨m,rfl⟩|⟨_,rfl⟩
  ·exact absurd m e4.o
  obtain⟨⟨m0,m1,j,k⟩,_⟩:=cells4 K.o;have c:=qh<|Gt f0 1 (G.o f0 d.o)
  go_wp2_with fail
  clear m0 m1 j k;refine c.o.mono ?_;rintro r f1⟨rfl,hb⟩;replace g:=kb g hb;replace K:=kb K hb;replace KO:=kb KO hb;replace d:=nd d hb;clear hb;clear c;obtain⟨⟨m0,m1,j,k⟩,_⟩:=cells4 KO.o;have c:=qh<|Gt f1 1 (G.o f1 d.o)
  go_wp2_with fail
  clear m0 m1 j k;refine c.o.mono ?_;rintro r g4⟨rfl,hb⟩;replace g:=kb g hb;replace K:=kb K hb;replace KO:=kb KO hb;replace d:=nd d hb;clear hb;clear c;go_wp2;go_ret;exact⟨rfl,d.o⟩
 have HV:=qh hv;clear hv;obtain⟨b9,d1,A,_,_⟩:=AC l.top;have A:_=Value.slice b9 D.n d1:=A;subst A;obtain⟨O,s⟩:=exq<|w7.alloc (.cells #[.int .i64 (D.kind),.int .i64 (D.start),.string (D.lead),.slice b9 D.n d1] 24);obtain⟨b1,U⟩:=exq<|w7.heap.size;have e0:O.heap.size=w7.heap.size+1:=by rw[s];simp
 have hb:Below w7.heap.size w7 O:=by rw[s];exact(Below.refl _ w7).alloc nlr _
 have L:Has O b1 (D.kind) (D.start) (D.lead) b9 D.n d1 (D.inR):=by rw[U,s];exact Has.new l ⟨rfl,rfl,rfl⟩
 clear l;replace g:=kb g hb;replace d:=nd d hb;clear hb;have o:=qh L;clear L;obtain⟨bN,Q⟩:∃x,x=b1:=⟨_,rfl⟩;rw[<-Q]at o;obtain⟨⟨m0,m1,j,k⟩,_⟩:=cells4 g.o;rw[s]at m0 m1 j k;have c:=qh<|Ia O (J.o O d.o) i.o (G.o O d.o)
 go_wp2_with fail
 clear m0 m1 j k;rw[<-U,<-s];rw[<-Q];clear s e0 U;clear Q;refine c.o.mono ?_;rintro r Z⟨hb,C⟩;replace o:=ho o hb;replace g:=kb g hb;replace d:=nd d hb;clear hb;clear c;have C:(VM (D)/\∃sv R,r=.returned (.tuple #[.agg #[.int .i64 (D.kind),.int .i64 (D.start),.string (D.lead),sv],.int .i64 0])/\OwM Z _ sv (D.outR) R)\/(¬VM (D)/\r=.returned (.tuple #[AE,.int .i64 1])):=C
 rcases C with⟨_,e9,R,rfl,l⟩|⟨m,_⟩
 rotate_left
 ·exact absurd HV.o m
 obtain⟨c7,d2,A,_,_⟩:=AC l.top;have A:_=Value.slice c7 D.n d2:=A;subst A;obtain⟨a1,u⟩:=exq<|Z.alloc (.cells #[.int .i64 (D.kind),.int .i64 (D.start),.string (D.lead),.slice c7 D.n d2] 24);obtain⟨b2,X⟩:=exq<|Z.heap.size;have e1:a1.heap.size=Z.heap.size+1:=by rw[u];simp
 have hb:Below Z.heap.size Z a1:=by rw[u];exact(Below.refl _ Z).alloc nlr _
 have L:Has a1 b2 (D.kind) (D.start) (D.lead) c7 D.n d2 (D.outR):=by rw[X,u];exact Has.new l ⟨rfl,rfl,rfl⟩
 clear l;replace o:=ho o hb;replace g:=kb g hb;replace d:=nd d hb;clear hb;have B:=qh L;clear L;obtain⟨bO,S⟩:∃x,x=b2:=⟨_,rfl⟩;rw[<-S]at B;obtain⟨⟨m0,m1,j,k⟩,_⟩:=cells4 g.o;rw[u]at m0 m1 j k;have c:=qh<|CR a1 (J.o a1 d.o) i.o
 go_wp2_with fail
 clear m0 m1 j k;rw[<-X,<-u];rw[<-S];clear u e1 X;clear S;refine c.o.mono ?_;rintro r e3⟨hb,C⟩;replace o:=ho o hb;replace B:=ho B hb;replace g:=kb g hb;replace d:=nd d hb;clear hb;clear c
 rcases C with⟨_,rfl⟩|⟨m,rfl⟩
 rotate_left
 ·exact absurd HV.o m
 obtain⟨⟨m0,m1,j,k⟩,_⟩:=cells4 g.o;have c:=qh (Ps (D:=D) e3 (J.o e3 d.o) i.o (P.o e3 d.o) (by have:=I.o.1;omega))
 go_wp2_with fail
 clear m0 m1 j k;refine c.o.mono ?_;rintro r f2⟨hb,⟨g8,g6⟩,rfl,hz⟩;replace o:=ho o hb;replace B:=ho B hb;replace g:=kb g hb;replace d:=nd d hb;clear hb;clear c
 rcases hz with⟨_,_,a7⟩|⟨m,_⟩
 rotate_left
 ·exact absurd ⟨HV.o,I.o.2⟩ m
 have f3:=qh a7;clear a7;obtain⟨⟨m0,m1,j,k⟩,_⟩:=cells4 g.o;have c:=qh<|Yk f2 (J.o f2 d.o) i.o
 go_wp2_with fail
 clear m0 m1 j k;refine c.o.mono ?_;rintro r a2⟨hb,C⟩;replace o:=ho o hb;replace B:=ho B hb;replace g:=kb g hb;replace d:=nd d hb;clear hb;clear c;have C:(VM (D)/\∃sv R,r=.returned (.tuple #[.agg #[.int .i64 (D.kind),.int .i64 (D.start),.string (D.lead),sv],.int .i64 0])/\OwM a2 _ sv (D.inv) R)\/(¬VM (D)/\r=.returned (.tuple #[AE,.int .i64 1])):=C
 rcases C with⟨_,e9,R,rfl,l⟩|⟨m,_⟩
 rotate_left
 ·exact absurd HV.o m
 obtain⟨b8,d0,A,_,_⟩:=AC l.top;have A:_=Value.slice b8 D.n d0:=A;subst A;obtain⟨a3,z⟩:=exq<|a2.alloc (.cells #[.int .i64 (D.kind),.int .i64 (D.start),.string (D.lead),.slice b8 D.n d0] 24);obtain⟨b3,H⟩:=exq<|a2.heap.size;have e2:a3.heap.size=a2.heap.size+1:=by rw[z];simp
 have hb:Below a2.heap.size a2 a3:=by rw[z];exact(Below.refl _ a2).alloc nlr _
 have L:Has a3 b3 (D.kind) (D.start) (D.lead) b8 D.n d0 (D.inv):=by rw[H,z];exact Has.new l ⟨rfl,rfl,rfl⟩
 clear l;replace o:=ho o hb;replace B:=ho B hb;replace g:=kb g hb;replace d:=nd d hb;clear hb;have HB:=qh L;clear L;obtain⟨bB,a9⟩:∃x,x=b3:=⟨_,rfl⟩;rw[<-a9]at HB;obtain⟨⟨m0,m1,j,k⟩,_⟩:=cells4 HB.o.1;rw[z]at m0 m1 j k;rw[a9,H]at m0 m1 j k;have c:=qh (Ps (D:=D.inv) a3 HB.o.ma ({ i.o with }:MSz (D.inv)) (P.o a3 d.o) (by have:=I.o.1;omega))
 go_wp2_with fail
 clear m0 m1 j k;rw[<-H,<-z];rw[<-a9];clear z e2 H;clear a9;refine c.o.mono ?_;rintro r g0⟨hb,⟨g9,g7⟩,rfl,hz⟩;replace o:=ho o hb;replace B:=ho B hb;replace HB:=ho HB hb;replace g:=kb g hb;replace d:=nd d hb;clear hb;clear c
 rcases hz with⟨_,_,a7⟩|⟨m,_⟩
 rotate_left
 ·exact absurd ⟨HV.o.inv,I.o.2⟩ m
 have f4:=qh a7;clear a7;obtain⟨⟨m0,m1,j,k⟩,_⟩:=cells4 o.o.1;obtain⟨⟨p0,p1,p2,p3⟩,_⟩:=cells4 B.o.1;obtain⟨⟨n0,n1,n2,n3⟩,_⟩:=cells4 g.o;have c:=qh<|Pm (D:=D.inR) g0 o.o.ma ({ i.o with }:MSz (D.inR))
 go_wp2_with fail
 clear m0 m1 j k;clear p0 p1 p2 p3;clear n0 n1 n2 n3;refine c.o.mono ?_;rintro r g1⟨hb,C⟩;replace o:=ho o hb;replace B:=ho B hb;replace HB:=ho HB hb;replace g:=kb g hb;replace d:=nd d hb;clear hb;clear c
 rcases C with⟨_,rfl⟩|⟨m,rfl⟩
 rotate_left
 ·exact absurd ⟨HV.o.inR,(RU D)⟩ m
 obtain⟨⟨m0,m1,j,k⟩,_⟩:=cells4 B.o.1;have c:=qh<|Pm (D:=D.outR) g1 B.o.ma ({ i.o with }:MSz (D.outR))
 go_wp2_with fail
 clear m0 m1 j k;refine c.o.mono ?_;rintro r b4⟨hb,C⟩;replace o:=ho o hb;replace B:=ho B hb;replace HB:=ho HB hb;replace g:=kb g hb;replace d:=nd d hb;clear hb;clear c
 rcases C with⟨_,rfl⟩|⟨m,rfl⟩
 rotate_left
 ·exact absurd ⟨HV.o.outR,(RX D)⟩ m
 obtain⟨⟨m0,m1,j,k⟩,_⟩:=cells4 o.o.1;have c:=qh<|FI b4 o.o.ma ({ i.o with }:MSz (D.inR)) (G.o b4 d.o) (P.o b4 d.o) (P.o b4 d.o) HV.o.inR I.o.2 I.o.2 (λz' d8 h0 hf=>Wv.dom HV.o d8 f3.o h0 hf)
 go_wp2_with fail
 clear m0 m1 j k;refine c.o.mono ?_;rintro r b5⟨rfl,hb⟩;replace o:=ho o hb;replace B:=ho B hb;replace HB:=ho HB hb;replace g:=kb g hb;replace d:=nd d hb;clear hb;clear c;obtain⟨⟨m0,m1,j,k⟩,_⟩:=cells4 B.o.1;have c:=qh<|FI b5 B.o.ma ({ i.o with }:MSz (D.outR)) (G.o b5 d.o) (P.o b5 d.o) (P.o b5 d.o) HV.o.outR I.o.2 I.o.2 (λz' d8 h0 hf=>Wv.dom (D:=D.inv) HV.o.inv d8 f4.o h0 hf)
 go_wp2_with fail
 clear m0 m1 j k;refine c.o.mono ?_;rintro r g5⟨rfl,hb⟩;replace o:=ho o hb;replace B:=ho B hb;replace HB:=ho HB hb;replace g:=kb g hb;replace d:=nd d hb;clear hb;clear c;go_wp2;go_ret;exact⟨rfl,d.o⟩
end
end Go.Proofs.YteappjogmnogcaaGreatDoor
