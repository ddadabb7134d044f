/- Parts. -/
import Derived.Test.YteappjogmnogcaaGreatDoorZ39
namespace Go.Proofs.YteappjogmnogcaaGreatDoor
set_option maxRecDepth 100000
set_option linter.all false
set_option maxHeartbeats 16000000
open Go Tryz
section
open Go.RowKit Go.Deep
def YP{D:MD}{mv xv yv:Value}{na nb:Nat}{x y:Nat->Int}(w:World)(d3:Ma none w mv D)(k:MSz D)(hx:Si none w xv na x)(hy:Si none w yv nb y)(ht:Tab w):
  Calls prog 3 #[mv,xv,yv] w (TrueB w):=by
 obtain⟨d7,c7,b1⟩:=d3;subst c7;obtain⟨a3,a7,_,_,_,_,_,_,O,_⟩:=b1.open;subst O;have H:=qh<|show ∀W,Below w.heap.size w W->Ma none W (.agg #[.int .i64 D.kind,.int .i64 D.start,.string D.lead,.slice a3 D.n a7]) D from λW h=>⟨_,rfl,b1.kept (Ab h none)⟩;clear b1;replace k:=qh k;obtain⟨a5,a9,_,_,b5,_,b2,p,_,_⟩:=hx.open;subst b5;have b6:(na:Int)<=9223372036854775807:=by unfold maxLen at p;omega
 clear b2 p;have a1:=qh<|show ∀W,Below w.heap.size w W->Si none W (.slice a5 na a9) na x from λW h=>hx.kept (Ab h none);clear hx;replace b6:=qh b6;obtain⟨a6,b0,_,_,b5,_,b2,p,_,_⟩:=hy.open;subst b5;have b7:(nb:Int)<=9223372036854775807:=by unfold maxLen at p;omega
 clear b2 p;have a2:=qh<|show ∀W,Below w.heap.size w W->Si none W (.slice a6 nb b0) nb y from λW h=>hy.kept (Ab h none);clear hy;replace b7:=qh b7;have I:=qh<|show ∀W,Below w.heap.size w W->Tab W from λW h=>ht.below h nlr;clear ht;have c:=qh<|Below.refl w.heap.size w;obtain⟨w1,l⟩:=exq<|w.alloc (.cells #[.int .i64 D.kind,.int .i64 D.start,.string D.lead,.slice a3 D.n a7] 24);obtain⟨i1,F⟩:=exq<|w.heap.size;have c8:w1.heap.size=w.heap.size+1:=by rw[l];simp
 have hb:Below w.heap.size w w1:=by rw[l];exact(Below.refl _ w).alloc nlr _
 have hh:w1.heap[i1]?=some (.cells #[.int .i64 D.kind,.int .i64 D.start,.string D.lead,.slice a3 D.n a7] 24 (0,0)):=by rw[F,l];exact han w _
 replace c:=qh<|c.o.trans (hb.mono c.o.size);clear hb;have g:=qh hh;clear hh;obtain⟨bA,S⟩:∃x,x=i1:=⟨_,rfl⟩;rw[<-S]at g
 go_enter func3,ntmps3
 obtain⟨⟨m0,m1,u,A⟩,_⟩:=cells4 g.o;rw[l]at m0 m1 u A;rw[S,F]at m0 m1 u A;have d:=qh<|Hq w1 (H.o w1 c.o) k.o
 go_wp2_with fail
 clear m0 m1 u A;rw[<-F,<-l];rw[<-S];clear l c8 F;clear S;refine d.o.mono ?_;rintro r Y⟨d2,rfl,b4,hb⟩;replace g:=qh<|(hb.block _ (lbk g.o)).trans g.o;replace c:=qh<|c.o.trans (hb.mono c.o.size);clear hb;clear d;cases d2
 rotate_left
 ·skip
  clear b4;have d:=qh<|CH Y (I.o Y c.o)
  go_wp2_with fail
  refine d.o.mono ?_;rintro r w3⟨rfl,hb⟩;replace g:=qh<|(hb.block _ (lbk g.o)).trans g.o;replace c:=qh<|c.o.trans (hb.mono c.o.size);clear hb;clear d;go_wp2;go_ret;exact⟨rfl,c.o⟩
 have d5:=qh (show ¬(8<D.n\/30<Ac D D.n) from λh=>by cases b4.2 h);clear b4;obtain⟨w4,s⟩:=exq<|Y.alloc (.cells #[.slice a5 na a9,.slice a6 nb b0] 25);obtain⟨i4,J⟩:=exq<|Y.heap.size;have c9:w4.heap.size=Y.heap.size+1:=by rw[s];simp
 have hb:Below Y.heap.size Y w4:=by rw[s];exact(Below.refl _ Y).alloc nlr _
 have hk:w4.heap[i4]?=some (.cells #[.slice a5 na a9,.slice a6 nb b0] 25 (0,0)):=by rw[J,s];exact han Y _
 replace g:=qh<|(hb.block _ (lbk g.o)).trans g.o;replace c:=qh<|c.o.trans (hb.mono c.o.size);clear hb;have HF:=qh<|JD w4 (cellOf hk 0 rfl) (cellOf hk 1 rfl) (a1.o w4 c.o) (a2.o w4 c.o) b6.o b7.o;clear hk;have d:=qh<|HF.o
 go_wp2_with fail
 rw[<-J,<-s];clear s c9 J;refine d.o.mono ?_;rintro r w5⟨bf,rfl,b3,hb⟩;replace g:=qh<|(hb.block _ (lbk g.o)).trans g.o;replace c:=qh<|c.o.trans (hb.mono c.o.size);clear hb;clear d;clear HF;cases bf
 rotate_left
 ·skip
  clear b3;have d:=qh<|CH w5 (I.o w5 c.o)
  go_wp2_with fail
  refine d.o.mono ?_;rintro r w6⟨rfl,hb⟩;replace g:=qh<|(hb.block _ (lbk g.o)).trans g.o;replace c:=qh<|c.o.trans (hb.mono c.o.size);clear hb;clear d;go_wp2;go_ret;exact⟨rfl,c.o⟩
 have P:=qh (JE λh=>by cases b3.2 h);clear b3;obtain⟨⟨m0,m1,u,A⟩,_⟩:=cells4 g.o;have d:=qh<|NG w5 (H.o w5 c.o) k.o (I.o w5 c.o)
 go_wp2_with fail
 clear m0 m1 u A;refine d.o.mono ?_;rintro r G⟨hb,hr⟩;replace g:=qh<|(hb.block _ (lbk g.o)).trans g.o;replace c:=qh<|c.o.trans (hb.mono c.o.size);clear hb;clear d;have hr:(VM D/\∃sv R,r=.returned (.tuple #[.agg #[.int .i64 D.kind,.int .i64 D.start,.string D.lead,sv],.int .i64 0])/\OwM G _ sv (D.inv) R)\/(¬VM D/\r=.returned (.tuple #[AE,.int .i64 1])):=hr
 rcases hr with⟨hv,d6,R,rfl,N⟩|⟨hv,rfl⟩
 rotate_left
 ·skip
  have d1:=qh hv;clear hv;unfold AE;obtain⟨w8,m⟩:=exq<|G.alloc (.cells #[.int .i64 0,.int .i64 0,.string ⟨#[]⟩,.slice none 0 0] 24);obtain⟨i8,K⟩:=exq<|G.heap.size;have d0:w8.heap.size=G.heap.size+1:=by rw[m];simp
  have hb:Below G.heap.size G w8:=by rw[m];exact(Below.refl _ G).alloc nlr _
  have hh:w8.heap[i8]?=some (.cells #[.int .i64 0,.int .i64 0,.string ⟨#[]⟩,.slice none 0 0] 24 (0,0)):=by rw[K,m];exact han G _
  replace g:=qh<|(hb.block _ (lbk g.o)).trans g.o;replace c:=qh<|c.o.trans (hb.mono c.o.size);clear hb;have Z:=qh hh;clear hh;obtain⟨bN,B⟩:∃x,x=i8:=⟨_,rfl⟩;rw[<-B]at Z;obtain⟨⟨m0,m1,u,A⟩,_⟩:=cells4 g.o;rw[m]at m0 m1 u A;have d:=qh<|CR w8 (H.o w8 c.o) k.o
  go_wp2_with fail
  clear m0 m1 u A;rw[<-K,<-m];rw[<-B];clear m d0 K;clear B;refine d.o.mono ?_;rintro r w9⟨hb,hr⟩;replace g:=qh<|(hb.block _ (lbk g.o)).trans g.o;replace Z:=qh<|(hb.block _ (lbk Z.o)).trans Z.o;replace c:=qh<|c.o.trans (hb.mono c.o.size);clear hb;clear d
  rcases hr with⟨L,rfl⟩|⟨_,rfl⟩
  ·exact absurd L d1.o
  obtain⟨⟨m0,m1,u,A⟩,_⟩:=cells4 Z.o;have d:=qh<|Gt w9 1 (I.o w9 c.o)
  go_wp2_with fail
  clear m0 m1 u A;refine d.o.mono ?_;rintro r d8⟨rfl,hb⟩;replace g:=qh<|(hb.block _ (lbk g.o)).trans g.o;replace Z:=qh<|(hb.block _ (lbk Z.o)).trans Z.o;replace c:=qh<|c.o.trans (hb.mono c.o.size);clear hb;clear d;go_wp2;go_ret;exact⟨rfl,c.o⟩
 have HV:=qh hv;clear hv;obtain⟨a4,a8,O,_,_⟩:=AC N.top;have O:_=Value.slice a4 D.n a8:=O;subst O;obtain⟨E,j⟩:=exq<|G.alloc (.cells #[.int .i64 (D.kind),.int .i64 (D.start),.string (D.lead),.slice a4 D.n a8] 24);obtain⟨T,C⟩:=exq<|G.heap.size;have b9:E.heap.size=G.heap.size+1:=by rw[j];simp
 have hb:Below G.heap.size G E:=by rw[j];exact(Below.refl _ G).alloc nlr _
 have hh:Has E T (D.kind) (D.start) (D.lead) a4 D.n a8 (D.inv):=by rw[C,j];exact Has.new N ⟨rfl,rfl,rfl⟩
 clear N;replace g:=qh<|(hb.block _ (lbk g.o)).trans g.o;replace c:=qh<|c.o.trans (hb.mono c.o.size);clear hb;have Q:=qh hh;clear hh;obtain⟨bN,B⟩:∃x,x=T:=⟨_,rfl⟩;rw[<-B]at Q;obtain⟨⟨m0,m1,u,A⟩,_⟩:=cells4 g.o;rw[j]at m0 m1 u A;have d:=qh<|CR E (H.o E c.o) k.o
 go_wp2_with fail
 clear m0 m1 u A;rw[<-C,<-j];rw[<-B];clear j b9 C;clear B;refine d.o.mono ?_;rintro r U⟨hb,hr⟩;replace Q:=qh<|Q.o.on hb;replace g:=qh<|(hb.block _ (lbk g.o)).trans g.o;replace c:=qh<|c.o.trans (hb.mono c.o.size);clear hb;clear d
 rcases hr with⟨_,rfl⟩|⟨L,rfl⟩
 rotate_left
 ·exact absurd HV.o L
 obtain⟨⟨m0,m1,u,A⟩,_⟩:=cells4 g.o;have d:=qh<|IQ U (H.o U c.o) k.o (a2.o U c.o) (a1.o U c.o)
 go_wp2_with fail
 clear m0 m1 u A;refine d.o.mono ?_;rintro r X⟨hb,z,rfl,hz⟩;replace Q:=qh<|Q.o.on hb;replace g:=qh<|(hb.block _ (lbk g.o)).trans g.o;replace c:=qh<|c.o.trans (hb.mono c.o.size);clear hb;clear d
 rcases hz with⟨_,_,_,b8⟩|⟨L,_⟩
 rotate_left
 ·exact absurd ⟨HV.o,P.o.2.2,P.o.1.2⟩ L
 replace b8:=qh b8;obtain⟨⟨m0,m1,u,A⟩,_⟩:=cells4 Q.o.1;obtain⟨⟨n0,n1,n2,n3⟩,_⟩:=cells4 g.o;have d:=qh<|FI X Q.o.ma ({ k.o with }:MSz D.inv) (I.o X c.o) (a1.o X c.o) (a2.o X c.o) (HV.o.sym (φ:=λi o=>(o,i)) λi o h1 h2 h3 h4=>⟨h3,h4,h1,h2⟩) P.o.1.2 P.o.2.2 (λz' d4 h0 hf=>Wv.inv HV.o d4 b8.o h0 hf)
 go_wp2_with fail
 clear m0 m1 u A;clear n0 n1 n2 n3;refine d.o.mono ?_;rintro r d9⟨rfl,hb⟩;replace Q:=qh<|Q.o.on hb;replace g:=qh<|(hb.block _ (lbk g.o)).trans g.o;replace c:=qh<|c.o.trans (hb.mono c.o.size);clear hb;clear d;go_wp2;go_ret;exact⟨rfl,c.o⟩
end
end Go.Proofs.YteappjogmnogcaaGreatDoor
