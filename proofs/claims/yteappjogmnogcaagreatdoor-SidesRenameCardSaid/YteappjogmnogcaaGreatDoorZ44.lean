/- Parts. -/
import Derived.Test.YteappjogmnogcaaGreatDoorZ39
import Derived.Test.YteappjogmnogcaaGreatDoorZ38
namespace Go.Proofs.YteappjogmnogcaaGreatDoor
set_option maxRecDepth 100000
set_option linter.all false
set_option maxHeartbeats 16000000
open Go Tryz
section
open Go.RowKit Go.Deep
def YR{D:MD}{mv lv xv yv:Value}{nl na nb:Nat}{U X:Nat->Int}{x y:Nat->Int}(w:World)(f5:Ma none w mv D)(o:MSz D)(hl:PrS none w lv nl U X)(hx:Si none w xv na x)(hy:Si none w yv nb y)(ht:Tab w):
  Calls prog 7 #[mv,lv,xv,yv] w (TrueB w):=by
 obtain⟨g2,e7,d5⟩:=f5;subst e7;obtain⟨b8,d0,_,_,_,_,_,_,B,_⟩:=d5.open;subst B;have a6:=qh<|show ∀W,Below w.heap.size w W->Ma none W (.agg #[.int .i64 D.kind,.int .i64 D.start,.string D.lead,.slice b8 D.n d0]) D from λW h=>⟨_,rfl,d5.kept (Ab h none)⟩;clear d5;replace o:=qh o;obtain⟨all,f3,_,_,a4,_,a3,m,_⟩:=hl.open;subst a4;have g1:(nl:Int)<=9223372036854775807:=by unfold maxLen at m;omega
 clear a3 m;have b4:=qh<|show ∀W,Below w.heap.size w W->PrS none W (.slice all nl f3) nl U X from λW h=>hl.kept (Ab h none);clear hl;obtain⟨c8,d3,_,_,a4,_,a3,m,_,_⟩:=hx.open;subst a4;have d8:(na:Int)<=9223372036854775807:=by unfold maxLen at m;omega
 clear a3 m;have b6:=qh<|show ∀W,Below w.heap.size w W->Si none W (.slice c8 na d3) na x from λW h=>hx.kept (Ab h none);clear hx;replace d8:=qh d8;obtain⟨c9,d4,_,_,a4,_,a3,m,_,_⟩:=hy.open;subst a4;have d9:(nb:Int)<=9223372036854775807:=by unfold maxLen at m;omega
 clear a3 m;have b7:=qh<|show ∀W,Below w.heap.size w W->Si none W (.slice c9 nb d4) nb y from λW h=>hy.kept (Ab h none);clear hy;replace d9:=qh d9;have T:=qh<|show ∀W,Below w.heap.size w W->Tab W from λW h=>ht.below h nlr;clear ht;have c:=qh<|Below.refl w.heap.size w;obtain⟨w1,p⟩:=exq<|w.alloc (.cells #[.int .i64 D.kind,.int .i64 D.start,.string D.lead,.slice b8 D.n d0] 24);obtain⟨i1,P⟩:=exq<|w.heap.size;have e8:w1.heap.size=w.heap.size+1:=by rw[p];simp
 have hb:Below w.heap.size w w1:=by rw[p];exact(Below.refl _ w).alloc nlr _
 have Q:w1.heap[i1]?=some (.cells #[.int .i64 D.kind,.int .i64 D.start,.string D.lead,.slice b8 D.n d0] 24 (0,0)):=by rw[P,p];exact han w _
 replace c:=qh<|c.o.trans (hb.mono c.o.size);clear hb;have g:=qh Q;clear Q;obtain⟨bA,a7⟩:∃x,x=i1:=⟨_,rfl⟩;rw[<-a7]at g
 go_enter func7,ntmps7
 obtain⟨⟨m0,m1,u,z⟩,_⟩:=cells4 g.o;rw[p]at m0 m1 u z;rw[a7,P]at m0 m1 u z;have d:=qh<|Hq w1 (a6.o w1 c.o) o.o
 go_wp2_with fail
 clear m0 m1 u z;rw[<-P,<-p];rw[<-a7];clear p e8 P;clear a7;refine d.o.mono ?_;rintro r w2⟨f2,rfl,d7,hb⟩;replace g:=qh<|(hb.block _ (lbk g.o)).trans g.o;replace c:=qh<|c.o.trans (hb.mono c.o.size);clear hb;clear d;cases f2
 rotate_left
 ·skip
  clear d7;have d:=qh<|CH w2 (T.o w2 c.o)
  go_wp2_with fail
  refine d.o.mono ?_;rintro r w3⟨rfl,hb⟩;replace g:=qh<|(hb.block _ (lbk g.o)).trans g.o;replace c:=qh<|c.o.trans (hb.mono c.o.size);clear hb;clear d;go_wp2;go_ret;exact⟨rfl,c.o⟩
 have f9:=qh (show ¬(8<D.n\/30<Ac D D.n) from λh=>by cases d7.2 h);clear d7;obtain⟨w4,F⟩:=exq<|w2.alloc (.cells #[.slice c8 na d3,.slice c9 nb d4] 25);obtain⟨i4,a1⟩:=exq<|w2.heap.size;have e9:w4.heap.size=w2.heap.size+1:=by rw[F];simp
 have hb:Below w2.heap.size w2 w4:=by rw[F];exact(Below.refl _ w2).alloc nlr _
 have hk:w4.heap[i4]?=some (.cells #[.slice c8 na d3,.slice c9 nb d4] 25 (0,0)):=by rw[a1,F];exact han w2 _
 replace g:=qh<|(hb.block _ (lbk g.o)).trans g.o;replace c:=qh<|c.o.trans (hb.mono c.o.size);clear hb;have HF:=qh<|JD w4 (cellOf hk 0 rfl) (cellOf hk 1 rfl) (b6.o w4 c.o) (b7.o w4 c.o) d8.o d9.o;clear hk;have d:=qh<|HF.o
 go_wp2_with fail
 rw[<-a1,<-F];clear F e9 a1;refine d.o.mono ?_;rintro r w5⟨bf,rfl,d6,hb⟩;replace g:=qh<|(hb.block _ (lbk g.o)).trans g.o;replace c:=qh<|c.o.trans (hb.mono c.o.size);clear hb;clear d;clear HF;cases bf
 rotate_left
 ·skip
  clear d6;have d:=qh<|CH w5 (T.o w5 c.o)
  go_wp2_with fail
  refine d.o.mono ?_;rintro r w6⟨rfl,hb⟩;replace g:=qh<|(hb.block _ (lbk g.o)).trans g.o;replace c:=qh<|c.o.trans (hb.mono c.o.size);clear hb;clear d;go_wp2;go_ret;exact⟨rfl,c.o⟩
 have a5:=qh (JE λh=>by cases d6.2 h);clear d6;by_cases f4:(50:Int)<(nl:Int)
 ·skip
  have d:=qh<|CH w5 (T.o w5 c.o)
  go_wp2_with fail
  refine d.o.mono ?_;rintro r w7⟨rfl,hb⟩;replace g:=qh<|(hb.block _ (lbk g.o)).trans g.o;replace c:=qh<|c.o.trans (hb.mono c.o.size);clear hb;clear d;go_wp2;go_ret;exact⟨rfl,c.o⟩
 have e6:decide ((50:Int)<(nl:Int))=false:=by simp;omega
 have b3:=qh (show nl<=1000 by omega);clear f4;obtain⟨⟨m0,m1,u,z⟩,_⟩:=cells4 g.o;have d:=qh<|Gu w5 (a6.o w5 c.o) o.o (b4.o w5 c.o) b3.o (T.o w5 c.o)
 go_wp2_with fail
 clear m0 m1 u z;refine d.o.mono ?_;rintro r S⟨hb,hr⟩;replace g:=qh<|(hb.block _ (lbk g.o)).trans g.o;replace c:=qh<|c.o.trans (hb.mono c.o.size);clear hb;clear d;clear e6;obtain⟨E,hE⟩:=exq<|D.ren (mapF nl U X);have hr:((VM D/\RenOk nl U X)/\∃sv R,r=.returned (.tuple #[.agg #[.int .i64 D.kind,.int .i64 D.start,.string D.lead,sv],.int .i64 0])/\OwM S _ sv (D.ren (mapF nl U X)) R)\/(¬(VM D/\RenOk nl U X)/\r=.returned (.tuple #[AE,.int .i64 1])):=hr
 rcases hr with⟨hv,f8,R,rfl,i⟩|⟨hv,rfl⟩
 rotate_left
 ·skip
  clear hE;have f1:=qh hv;clear hv;unfold AE;obtain⟨w9,s⟩:=exq<|S.alloc (.cells #[.int .i64 0,.int .i64 0,.string ⟨#[]⟩,.slice none 0 0] 24);obtain⟨i9,a2⟩:=exq<|S.heap.size;have f0:w9.heap.size=S.heap.size+1:=by rw[s];simp
  have hb:Below S.heap.size S w9:=by rw[s];exact(Below.refl _ S).alloc nlr _
  have Q:w9.heap[i9]?=some (.cells #[.int .i64 0,.int .i64 0,.string ⟨#[]⟩,.slice none 0 0] 24 (0,0)):=by rw[a2,s];exact han S _
  replace g:=qh<|(hb.block _ (lbk g.o)).trans g.o;replace c:=qh<|c.o.trans (hb.mono c.o.size);clear hb;have Z:=qh Q;clear Q;obtain⟨bN,J⟩:∃x,x=i9:=⟨_,rfl⟩;rw[<-J]at Z;obtain⟨⟨m0,m1,u,z⟩,_⟩:=cells4 g.o;rw[s]at m0 m1 u z;have d:=qh<|PK w9 (a6.o w9 c.o) o.o (b4.o w9 c.o) b3.o
  go_wp2_with fail
  clear m0 m1 u z;rw[<-a2,<-s];rw[<-J];clear s f0 a2;clear J;refine d.o.mono ?_;rintro r G⟨hb,hr⟩;replace g:=qh<|(hb.block _ (lbk g.o)).trans g.o;replace Z:=qh<|(hb.block _ (lbk Z.o)).trans Z.o;replace c:=qh<|c.o.trans (hb.mono c.o.size);clear hb;clear d;have hr:((VM D/\RenOk nl U X)/\∃sv R,r=.returned (.tuple #[.agg #[.int .i64 D.kind,.int .i64 D.start,.string D.lead,sv],.int .i64 0])/\OwM G _ sv (D.ren (mapF nl U X)) R)\/(¬(VM D/\RenOk nl U X)/\r=.returned (.tuple #[AE,.int .i64 1])):=hr
  rcases hr with⟨hv,_⟩|⟨_,rfl⟩
  ·exact absurd hv f1.o
  unfold AE;obtain⟨N,j⟩:=exq<|G.alloc (.cells #[.int .i64 0,.int .i64 0,.string ⟨#[]⟩,.slice none 0 0] 24);obtain⟨a9,K⟩:=exq<|G.heap.size;have e2:N.heap.size=G.heap.size+1:=by rw[j];simp
  have hb:Below G.heap.size G N:=by rw[j];exact(Below.refl _ G).alloc nlr _
  have Q:N.heap[a9]?=some (.cells #[.int .i64 0,.int .i64 0,.string ⟨#[]⟩,.slice none 0 0] 24 (0,0)):=by rw[K,j];exact han G _
  replace g:=qh<|(hb.block _ (lbk g.o)).trans g.o;replace Z:=qh<|(hb.block _ (lbk Z.o)).trans Z.o;replace c:=qh<|c.o.trans (hb.mono c.o.size);clear hb;have KB:=qh Q;clear Q;obtain⟨bB,C⟩:∃x,x=a9:=⟨_,rfl⟩;rw[<-C]at KB;obtain⟨⟨m0,m1,u,z⟩,_⟩:=cells4 Z.o;rw[j]at m0 m1 u z;have d:=qh<|Gt N 1 (T.o N c.o)
  go_wp2_with fail
  clear m0 m1 u z;rw[<-K,<-j];rw[<-C];clear j e2 K;clear C;refine d.o.mono ?_;rintro r g3⟨rfl,hb⟩;replace g:=qh<|(hb.block _ (lbk g.o)).trans g.o;replace Z:=qh<|(hb.block _ (lbk Z.o)).trans Z.o;replace KB:=qh<|(hb.block _ (lbk KB.o)).trans KB.o;replace c:=qh<|c.o.trans (hb.mono c.o.size);clear hb;clear d;go_wp2;go_ret;exact⟨rfl,c.o⟩
 have HV:=qh hv;clear hv;rw[<-hE]at i;have b5:=qh (show VM E by rw[hE];exact VM.ren HV.o.1 HV.o.2);have e5:=qh (show MSz E by rw[hE];exact { o.o with });have a8:D.kind=E.kind/\D.start=E.start/\D.lead=E.lead:=by rw[hE];exact⟨rfl,rfl,rfl⟩
 replace a8:=qh a8;replace hE:=qh hE;have g0:=qh (show E.n=D.n by rw[hE.o];rfl);obtain⟨c7,d2,B,_,_⟩:=AC i.top;have B:_=Value.slice c7 E.n d2:=B;subst B;obtain⟨H,k⟩:=exq<|S.alloc (.cells #[.int .i64 (D.kind),.int .i64 (D.start),.string (D.lead),.slice c7 E.n d2] 24);obtain⟨b0,L⟩:=exq<|S.heap.size;have e3:H.heap.size=S.heap.size+1:=by rw[k];simp
 have hb:Below S.heap.size S H:=by rw[k];exact(Below.refl _ S).alloc nlr _
 have Q:Has H b0 (D.kind) (D.start) (D.lead) c7 E.n d2 (E):=by rw[L,k];exact Has.new i a8.o
 clear i;replace g:=qh<|(hb.block _ (lbk g.o)).trans g.o;replace c:=qh<|c.o.trans (hb.mono c.o.size);clear hb;have Y:=qh Q;clear Q;obtain⟨bN,J⟩:∃x,x=b0:=⟨_,rfl⟩;rw[<-J]at Y;obtain⟨⟨m0,m1,u,z⟩,_⟩:=cells4 g.o;rw[k]at m0 m1 u z;have d:=qh<|PK H (a6.o H c.o) o.o (b4.o H c.o) b3.o
 go_wp2_with fail
 clear m0 m1 u z;rw[<-L,<-k];rw[<-J];clear k e3 L;clear J;refine d.o.mono ?_;rintro r O⟨hb,hr⟩;replace Y:=qh<|Y.o.on hb;replace g:=qh<|(hb.block _ (lbk g.o)).trans g.o;replace c:=qh<|c.o.trans (hb.mono c.o.size);clear hb;clear d;have hr:((VM D/\RenOk nl U X)/\∃sv R,r=.returned (.tuple #[.agg #[.int .i64 D.kind,.int .i64 D.start,.string D.lead,sv],.int .i64 0])/\OwM O _ sv (D.ren (mapF nl U X)) R)\/(¬(VM D/\RenOk nl U X)/\r=.returned (.tuple #[AE,.int .i64 1])):=hr
 rcases hr with⟨_,f8,R,rfl,i⟩|⟨e0,_⟩
 rotate_left
 ·exact absurd HV.o e0
 rw[<-hE.o]at i;obtain⟨b9,d1,B,_,_⟩:=AC i.top;have B:_=Value.slice b9 E.n d1:=B;subst B;obtain⟨I,l⟩:=exq<|O.alloc (.cells #[.int .i64 (D.kind),.int .i64 (D.start),.string (D.lead),.slice b9 E.n d1] 24);obtain⟨b1,A⟩:=exq<|O.heap.size;have e4:I.heap.size=O.heap.size+1:=by rw[l];simp
 have hb:Below O.heap.size O I:=by rw[l];exact(Below.refl _ O).alloc nlr _
 have Q:Has I b1 (D.kind) (D.start) (D.lead) b9 E.n d1 (E):=by rw[A,l];exact Has.new i a8.o
 clear i;replace Y:=qh<|Y.o.on hb;replace g:=qh<|(hb.block _ (lbk g.o)).trans g.o;replace c:=qh<|c.o.trans (hb.mono c.o.size);clear hb;have HB:=qh Q;clear Q;obtain⟨bB,C⟩:∃x,x=b1:=⟨_,rfl⟩;rw[<-C]at HB;obtain⟨⟨m0,m1,u,z⟩,_⟩:=cells4 HB.o.1;rw[l]at m0 m1 u z;rw[C,A]at m0 m1 u z;have d:=qh<|IQ (D:=E) I HB.o.ma e5.o (b6.o I c.o) (b7.o I c.o)
 go_wp2_with fail
 clear m0 m1 u z;rw[<-A,<-l];rw[<-C];clear l e4 A;clear C;refine d.o.mono ?_;rintro r b2⟨hb,⟨g6,g5⟩,rfl,hz⟩;replace Y:=qh<|Y.o.on hb;replace HB:=qh<|HB.o.on hb;replace g:=qh<|(hb.block _ (lbk g.o)).trans g.o;replace c:=qh<|c.o.trans (hb.mono c.o.size);clear hb;clear d
 rcases hz with⟨_,_,_,e1⟩|⟨e0,_⟩
 rotate_left
 ·exact absurd ⟨b5.o,a5.o.1.2,a5.o.2.2⟩ e0
 replace e1:=qh e1;obtain⟨⟨m0,m1,u,z⟩,_⟩:=cells4 Y.o.1;obtain⟨⟨n0,n1,n2,n3⟩,_⟩:=cells4 g.o;have d:=qh<|FI b2 Y.o.ma e5.o (T.o b2 c.o) (b6.o b2 c.o) (b7.o b2 c.o) b5.o a5.o.1.2 a5.o.2.2 (λz' f7 h0 hf=>Wv.same b5.o f7 e1.o h0 hf)
 go_wp2_with fail
 clear m0 m1 u z;clear n0 n1 n2 n3;refine d.o.mono ?_;rintro r g4⟨rfl,hb⟩;replace Y:=qh<|Y.o.on hb;replace HB:=qh<|HB.o.on hb;replace g:=qh<|(hb.block _ (lbk g.o)).trans g.o;replace c:=qh<|c.o.trans (hb.mono c.o.size);clear hb;clear d;go_wp2;go_ret;exact⟨rfl,c.o⟩
end
end Go.Proofs.YteappjogmnogcaaGreatDoor
