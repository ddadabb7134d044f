/- Parts. -/
import Derived.Test.YtpldocnhbdlgfaaGreatDoorPa19
import Derived.Test.YtpldocnhbdlgfaaGreatDoorPa22
namespace Go.Proofs.YtpldocnhbdlgfaaGreatDoor
set_option maxRecDepth 100000
set_option linter.all false
set_option maxHeartbeats 16000000
open Go Tryz
section
open Go.RowKit Go.Deep
def SA{D E:MD}{mv nv xv:Value}{na:Nat}{x:Nat->Int}(w:World)(v2:Ma none w mv D)(F:MSz D)(v3:Ma none w nv E)(G:MSz E)(hx:Si none w xv na x)(n6:na<=140737488355328)(ht:Tab w):
  Calls prog 5 #[mv,nv,xv] w (TrueB w):=by
 obtain⟨v8,j0,m9⟩:=v2;subst j0;obtain⟨h0,h8,_,_,_,_,_,_,O,_⟩:=m9.open;subst O;have b8:=qh<|show ∀W,Below w.heap.size w W->Ma none W (.agg #[.int .i64 D.kind,.int .i64 D.start,.string D.lead,.slice h0 D.n h8]) D from λW h=>⟨_,rfl,m9.kept (Ab h none)⟩;clear m9;replace F:=qh F;obtain⟨v9,j0,n5⟩:=v3;subst j0;obtain⟨h7,h9,_,_,_,_,_,_,O,_⟩:=n5.open;subst O;have b9:=qh<|show ∀W,Below w.heap.size w W->Ma none W (.agg #[.int .i64 E.kind,.int .i64 E.start,.string E.lead,.slice h7 E.n h9]) E from λW h=>⟨_,rfl,n5.kept (Ab h none)⟩;clear n5;replace G:=qh G;obtain⟨l9,m5,_,_,v5,_,v4,l7,_,_⟩:=hx.open;subst v5;have g3:(na:Int)<=9223372036854775807:=by unfold maxLen at l7;omega
 clear v4 l7;have j5:=qh<|show ∀W,Below w.heap.size w W->Si none W (.slice l9 na m5) na x from λW h=>hx.kept (Ab h none);clear hx;replace g3:=qh g3;replace n6:=qh n6;have P:=qh<|show ∀W,Below w.heap.size w W->Tab W from λW h=>ht.below h nlr;clear ht;have d:=qh<|Below.refl w.heap.size w;obtain⟨w1,a2⟩:=exq<|w.alloc (.cells #[.int .i64 D.kind,.int .i64 D.start,.string D.lead,.slice h0 D.n h8] 25);obtain⟨i1,g0⟩:=exq<|w.heap.size;have j1:w1.heap.size=w.heap.size+1:=by rw[a2];simp
 have hb:Below w.heap.size w w1:=by rw[a2];exact(Below.refl _ w).alloc nlr _
 have B:w1.heap[i1]?=some (.cells #[.int .i64 D.kind,.int .i64 D.start,.string D.lead,.slice h0 D.n h8] 25 (0,0)):=by rw[g0,a2];exact han w _
 replace d:=nd d hb;clear hb;have g:=qh B;clear B;obtain⟨bA,j6⟩:∃x,x=i1:=⟨_,rfl⟩;rw[<-j6]at g;obtain⟨w2,a6⟩:=exq<|w1.alloc (.cells #[.int .i64 E.kind,.int .i64 E.start,.string E.lead,.slice h7 E.n h9] 25);obtain⟨i2,g1⟩:=exq<|w.heap.size+1;have j2:w2.heap.size=w.heap.size+1+1:=by rw[a6];simp[j1]
 have hb:Below w1.heap.size w1 w2:=by rw[a6];exact(Below.refl _ w1).alloc nlr _
 have B:w2.heap[i2]?=some (.cells #[.int .i64 E.kind,.int .i64 E.start,.string E.lead,.slice h7 E.n h9] 25 (0,0)):=by rw[g1,<-j1,a6];exact han w1 _
 replace g:=kb g hb;replace d:=nd d hb;clear hb;have j:=qh B;clear B;obtain⟨bB,j7⟩:∃x,x=i2:=⟨_,rfl⟩;rw[<-j7]at j
 go_enter func5,ntmps5
 obtain⟨⟨m0,m1,Q,S⟩,-⟩:=cells4 g.o;rw[a6,a2]at m0 m1 Q S;rw[j6,g0]at m0 m1 Q S;obtain⟨⟨n0,n1,n2,n3⟩,-⟩:=cells4 j.o;rw[a6,a2]at n0 n1 n2 n3;rw[j7,g1]at n0 n1 n2 n3;obtain⟨w3,d0⟩:=exq<|w2.alloc (.cells #[.int .i64 D.kind,.int .i64 D.start,.string D.lead,.slice h0 D.n h8,.int .i64 E.kind,.int .i64 E.start,.string E.lead,.slice h7 E.n h9] 25);obtain⟨i3,i6⟩:=exq<|w.heap.size+1+1;have j3:w3.heap.size=w.heap.size+1+1+1:=by rw[d0];simp[j2]
 have hb:Below w2.heap.size w2 w3:=by rw[d0];exact(Below.refl _ w2).alloc nlr _
 have B:w3.heap[i3]?=some (.cells #[.int .i64 D.kind,.int .i64 D.start,.string D.lead,.slice h0 D.n h8,.int .i64 E.kind,.int .i64 E.start,.string E.lead,.slice h7 E.n h9] 25 (0,0)):=by rw[i6,<-j2,d0];exact han w2 _
 replace g:=kb g hb;replace j:=kb j hb;replace d:=nd d hb;clear hb;have k:=qh B;clear B;obtain⟨bL,m7⟩:∃x,x=i3:=⟨_,rfl⟩;rw[<-m7]at k;obtain⟨w4,d1⟩:=exq<|w3.alloc (.cells #[.slice l9 na m5] 26);obtain⟨i4,i7⟩:=exq<|w.heap.size+1+1+1;have r4:w4.heap.size=w.heap.size+1+1+1+1:=by rw[d1];simp[j3]
 have hb:Below w3.heap.size w3 w4:=by rw[d1];exact(Below.refl _ w3).alloc nlr _
 have B:w4.heap[i4]?=some (.cells #[.slice l9 na m5] 26 (0,0)):=by rw[i7,<-j3,d1];exact han w3 _
 replace g:=kb g hb;replace j:=kb j hb;replace k:=kb k hb;replace d:=nd d hb;clear hb;have l:=qh B;clear B;obtain⟨bV,m8⟩:∃x,x=i4:=⟨_,rfl⟩;rw[<-m8]at l;have c:=qh<|Nf w4 (MsS.two k.o (Ea (b8.o w4 d.o)) (Ea (b9.o w4 d.o))) (WsS.one l.o) (lt2 (p:=λi=>MSz (pk3 D E E i)) F.o G.o) (by omega) (lt1 (p:=λi=>pk3 na na na i<=140737488355328) n6.o)
 go_wp2_with fail
 clear m0 m1 Q S;clear n0 n1 n2 n3;rw[<-i7,<-i6,<-g1,<-g0,<-a2,<-a6,<-d0,<-d1];rw[<-j6];rw[<-j7];rw[<-m7];rw[<-m8];clear a2 j1 g0;clear a6 j2 g1;clear d0 j3 i6;clear d1 r4 i7;clear j6;clear j7;clear m7;clear m8;refine c.o.mono ?_;rintro r w5⟨hb,bl,rfl,n9⟩;replace g:=kb g hb;replace j:=kb j hb;replace k:=kb k hb;replace l:=kb l hb;replace d:=nd d hb;clear hb;clear c;cases bl
 rotate_left
 ·skip
  clear n9;have c:=qh<|Bh w5 (P.o w5 d.o)
  go_wp2_with fail
  refine c.o.mono ?_;rintro r w6⟨rfl,hb⟩;replace g:=kb g hb;replace j:=kb j hb;replace k:=kb k hb;replace l:=kb l hb;replace d:=nd d hb;clear hb;clear c;go_wp2;go_ret;exact⟨rfl,d.o⟩
 have s8:=qh<|n9 rfl;clear n9;have g2:=EB w5 (j5.o w5 d.o) g3.o;cases g4:isWord na x
 ·skip
  rw[g4]at g2;have c:=qh g2;clear g2;have v7:=qh g4;clear g4
  go_wp2_with fail
  refine c.o.mono ?_;rintro r w7⟨rfl,rfl⟩;clear c;have c:=qh<|Bh w7 (P.o w7 d.o)
  go_wp2_with fail
  refine c.o.mono ?_;rintro r w8⟨rfl,hb⟩;replace g:=kb g hb;replace j:=kb j hb;replace k:=kb k hb;replace l:=kb l hb;replace d:=nd d hb;clear hb;clear c;go_wp2;go_ret;exact⟨rfl,d.o⟩
 rw[g4]at g2;have c:=qh g2;clear g2;have j4:=qh g4;clear g4
 go_wp2_with fail
 refine c.o.mono ?_;rintro r w9⟨rfl,rfl⟩;clear c;obtain⟨⟨m0,m1,Q,S⟩,-⟩:=cells4 g.o;obtain⟨⟨n0,n1,n2,n3⟩,-⟩:=cells4 j.o;have c:=qh<|Fe w9 (b8.o w9 d.o) (b9.o w9 d.o) F.o G.o (P.o w9 d.o)
 go_wp2_with fail
 clear m0 m1 Q S;clear n0 n1 n2 n3;refine c.o.mono ?_;rintro r o⟨hb,hr⟩;replace g:=kb g hb;replace j:=kb j hb;replace k:=kb k hb;replace l:=kb l hb;replace d:=nd d hb;clear hb;clear c
 rcases hr with⟨f1,f2,b2,b3,f0,⟨n,M,i8,l5,R,rfl,C⟩|⟨i5,rfl⟩⟩|⟨f1,f2,f0,rfl⟩|⟨hv,rfl⟩
 rotate_left
 ·skip
  have U:=qh f1;clear f1;have a1:=qh f2;clear f2;have b1:=qh f0;clear f0;replace b2:=qh b2;replace b3:=qh b3;replace i5:=qh i5;unfold AF;obtain⟨d3,I⟩:=exq<|o.alloc (.cells #[.int .i64 0,.int .i64 0,.string ⟨#[]⟩,.slice none 0 0] 25);obtain⟨k4,e0⟩:=exq<|o.heap.size;have o3:d3.heap.size=o.heap.size+1:=by rw[I];simp
  have hb:Below o.heap.size o d3:=by rw[I];exact(Below.refl _ o).alloc nlr _
  have B:d3.heap[k4]?=some (.cells #[.int .i64 0,.int .i64 0,.string ⟨#[]⟩,.slice none 0 0] 25 (0,0)):=by rw[e0,I];exact han o _
  replace g:=kb g hb;replace j:=kb j hb;replace k:=kb k hb;replace l:=kb l hb;replace d:=nd d hb;clear hb;have s:=qh B;clear B;obtain⟨bM,H⟩:∃x,x=k4:=⟨_,rfl⟩;rw[<-H]at s;obtain⟨⟨m0,m1,Q,S⟩,-⟩:=cells4 g.o;rw[I]at m0 m1 Q S;obtain⟨⟨n0,n1,n2,n3⟩,-⟩:=cells4 j.o;rw[I]at n0 n1 n2 n3;have c:=qh<|Ix d3 (b8.o d3 d.o) (b9.o d3 d.o) F.o G.o
  go_wp2_with fail
  clear m0 m1 Q S;clear n0 n1 n2 n3;rw[<-e0,<-I];rw[<-H];clear I o3 e0;clear H;refine c.o.mono ?_;rintro r Y⟨hb,hr⟩;replace g:=kb g hb;replace j:=kb j hb;replace k:=kb k hb;replace l:=kb l hb;replace s:=kb s hb;replace d:=nd d hb;clear hb;clear c
  rcases hr with⟨-,-,-,-,-,⟨n',N,b4,f3,f4,l5,R,rfl,C⟩|rfl⟩|⟨-,-,m,b6⟩|⟨m,b6⟩
  rotate_left
  ·skip
   unfold AF;obtain⟨f5,a4⟩:=exq<|Y.alloc (.cells #[.int .i64 0,.int .i64 0,.string ⟨#[]⟩,.slice none 0 0] 25);obtain⟨k5,e1⟩:=exq<|Y.heap.size;have o4:f5.heap.size=Y.heap.size+1:=by rw[a4];simp
   have hb:Below Y.heap.size Y f5:=by rw[a4];exact(Below.refl _ Y).alloc nlr _
   have B:f5.heap[k5]?=some (.cells #[.int .i64 0,.int .i64 0,.string ⟨#[]⟩,.slice none 0 0] 25 (0,0)):=by rw[e1,a4];exact han Y _
   replace g:=kb g hb;replace j:=kb j hb;replace k:=kb k hb;replace l:=kb l hb;replace s:=kb s hb;replace d:=nd d hb;clear hb;have KN:=qh B;clear B;obtain⟨bN,z⟩:∃x,x=k5:=⟨_,rfl⟩;rw[<-z]at KN;have c:=qh<|Bh f5 (P.o f5 d.o)
   go_wp2_with fail
   rw[<-e1,<-a4];rw[<-z];clear a4 o4 e1;clear z;refine c.o.mono ?_;rintro r w0⟨rfl,hb⟩;replace g:=kb g hb;replace j:=kb j hb;replace k:=kb k hb;replace l:=kb l hb;replace s:=kb s hb;replace KN:=kb KN hb;replace d:=nd d hb;clear hb;clear c;go_wp2;go_ret;exact⟨rfl,d.o⟩
  ·exact absurd ⟨b2.o,b3.o,b1.o⟩ m
  ·exact absurd ⟨U.o,a1.o⟩ m
  have b5:=b4.kind U.o a1.o;rw[b5];have s6:=qh b4;clear b4;have t8:=qh f3;clear f3;have v0:=qh f4;clear f4;obtain⟨d8,d9,O,_,_⟩:=Ax C.top;have O:_=Value.slice d8 N.n d9:=O;subst O;obtain⟨b7,a5⟩:=exq<|Y.alloc (.cells #[.int .i64 (D.kind),.int .i64 (N.start),.string (N.lead),.slice d8 N.n d9] 25);obtain⟨k6,e2⟩:=exq<|Y.heap.size;have o5:b7.heap.size=Y.heap.size+1:=by rw[a5];simp
  have hb:Below Y.heap.size Y b7:=by rw[a5];exact(Below.refl _ Y).alloc nlr _
  have B:Has b7 k6 (D.kind) (N.start) (N.lead) d8 N.n d9 (N):=by rw[e2,a5];exact Has.new C ⟨b5.symm,rfl,rfl⟩
  clear C;replace g:=kb g hb;replace j:=kb j hb;replace k:=kb k hb;replace l:=kb l hb;replace s:=kb s hb;replace d:=nd d hb;clear hb;have T:=qh B;clear B;obtain⟨bN,z⟩:∃x,x=k6:=⟨_,rfl⟩;rw[<-z]at T;have s7:=qh b5;clear b5;have c:=qh (ON b7 (MsS.two k.o (Ea (b8.o b7 d.o)) (Ea (b9.o b7 d.o))) (WsS.nil b7 λ_=>0) (lt2 (p:=λi=>MSz (pk3 D E E i)) F.o G.o) (by omega) (by omega) s8.o.1 (λi hi=>by omega) (BadC.not2 U.o a1.o b1.o i5.o))
  go_wp2_with fail
  rw[<-e2,<-a5];rw[<-z];clear a5 o5 e2;clear z;refine c.o.mono ?_;rintro r r5⟨rfl,hb⟩;replace T:=ho T hb;replace g:=kb g hb;replace j:=kb j hb;replace k:=kb k hb;replace l:=kb l hb;replace s:=kb s hb;replace d:=nd d hb;clear hb;clear c;have c:=qh<|Bh r5 (P.o r5 d.o)
  go_wp2_with fail
  refine c.o.mono ?_;rintro r x0⟨rfl,hb⟩;replace T:=ho T hb;replace g:=kb g hb;replace j:=kb j hb;replace k:=kb k hb;replace l:=kb l hb;replace s:=kb s hb;replace d:=nd d hb;clear hb;clear c;go_wp2;go_ret;exact⟨rfl,d.o⟩
 ·skip
  have U:=qh f1;clear f1;have a1:=qh f2;clear f2;have b1:=qh f0;clear f0;unfold AF;obtain⟨d4,J⟩:=exq<|o.alloc (.cells #[.int .i64 0,.int .i64 0,.string ⟨#[]⟩,.slice none 0 0] 25);obtain⟨k7,e3⟩:=exq<|o.heap.size;have o6:d4.heap.size=o.heap.size+1:=by rw[J];simp
  have hb:Below o.heap.size o d4:=by rw[J];exact(Below.refl _ o).alloc nlr _
  have B:d4.heap[k7]?=some (.cells #[.int .i64 0,.int .i64 0,.string ⟨#[]⟩,.slice none 0 0] 25 (0,0)):=by rw[e3,J];exact han o _
  replace g:=kb g hb;replace j:=kb j hb;replace k:=kb k hb;replace l:=kb l hb;replace d:=nd d hb;clear hb;have s:=qh B;clear B;obtain⟨bM,H⟩:∃x,x=k7:=⟨_,rfl⟩;rw[<-H]at s;obtain⟨⟨m0,m1,Q,S⟩,-⟩:=cells4 g.o;rw[J]at m0 m1 Q S;obtain⟨⟨n0,n1,n2,n3⟩,-⟩:=cells4 j.o;rw[J]at n0 n1 n2 n3;have c:=qh<|Ix d4 (b8.o d4 d.o) (b9.o d4 d.o) F.o G.o
  go_wp2_with fail
  clear m0 m1 Q S;clear n0 n1 n2 n3;rw[<-e3,<-J];rw[<-H];clear J o6 e3;clear H;refine c.o.mono ?_;rintro r f7⟨hb,hr⟩;replace g:=kb g hb;replace j:=kb j hb;replace k:=kb k hb;replace l:=kb l hb;replace s:=kb s hb;replace d:=nd d hb;clear hb;clear c
  rcases hr with⟨_,_,h1,h2,h3,⟨n',N,b4,f3,f4,l5,R,rfl,C⟩|rfl⟩|⟨-,-,m,b6⟩|⟨m,b6⟩
  ·exact absurd ⟨h1,h2,h3⟩ b1.o
  ·exact absurd ⟨h1,h2,h3⟩ b1.o
  rotate_left
  ·exact absurd ⟨U.o,a1.o⟩ m
  clear m;subst b6;unfold AF;obtain⟨g5,a7⟩:=exq<|f7.alloc (.cells #[.int .i64 0,.int .i64 0,.string ⟨#[]⟩,.slice none 0 0] 25);obtain⟨k9,e4⟩:=exq<|f7.heap.size;have o7:g5.heap.size=f7.heap.size+1:=by rw[a7];simp
  have hb:Below f7.heap.size f7 g5:=by rw[a7];exact(Below.refl _ f7).alloc nlr _
  have B:g5.heap[k9]?=some (.cells #[.int .i64 0,.int .i64 0,.string ⟨#[]⟩,.slice none 0 0] 25 (0,0)):=by rw[e4,a7];exact han f7 _
  replace g:=kb g hb;replace j:=kb j hb;replace k:=kb k hb;replace l:=kb l hb;replace s:=kb s hb;replace d:=nd d hb;clear hb;have KN:=qh B;clear B;obtain⟨bN,z⟩:∃x,x=k9:=⟨_,rfl⟩;rw[<-z]at KN;have c:=qh<|Iv 6 (.slice (some (Ad bL 0)) 2 2) (.slice none 0 0) g5
  go_wp2_with fail
  rw[<-e4,<-a7];rw[<-z];clear a7 o7 e4;clear z;refine c.o.mono ?_;rintro r r6⟨rfl,hb⟩;replace g:=kb g hb;replace j:=kb j hb;replace k:=kb k hb;replace l:=kb l hb;replace s:=kb s hb;replace KN:=kb KN hb;replace d:=nd d hb;clear hb;clear c;have c:=qh<|Bh r6 (P.o r6 d.o)
  go_wp2_with fail
  refine c.o.mono ?_;rintro r x1⟨rfl,hb⟩;replace g:=kb g hb;replace j:=kb j hb;replace k:=kb k hb;replace l:=kb l hb;replace s:=kb s hb;replace KN:=kb KN hb;replace d:=nd d hb;clear hb;clear c;go_wp2;go_ret;exact⟨rfl,d.o⟩
 ·skip
  replace hv:=qh hv;unfold AF;obtain⟨d5,K⟩:=exq<|o.alloc (.cells #[.int .i64 0,.int .i64 0,.string ⟨#[]⟩,.slice none 0 0] 25);obtain⟨l0,e5⟩:=exq<|o.heap.size;have o8:d5.heap.size=o.heap.size+1:=by rw[K];simp
  have hb:Below o.heap.size o d5:=by rw[K];exact(Below.refl _ o).alloc nlr _
  have B:d5.heap[l0]?=some (.cells #[.int .i64 0,.int .i64 0,.string ⟨#[]⟩,.slice none 0 0] 25 (0,0)):=by rw[e5,K];exact han o _
  replace g:=kb g hb;replace j:=kb j hb;replace k:=kb k hb;replace l:=kb l hb;replace d:=nd d hb;clear hb;have s:=qh B;clear B;obtain⟨bM,H⟩:∃x,x=l0:=⟨_,rfl⟩;rw[<-H]at s;obtain⟨⟨m0,m1,Q,S⟩,-⟩:=cells4 g.o;rw[K]at m0 m1 Q S;obtain⟨⟨n0,n1,n2,n3⟩,-⟩:=cells4 j.o;rw[K]at n0 n1 n2 n3;have c:=qh<|Ix d5 (b8.o d5 d.o) (b9.o d5 d.o) F.o G.o
  go_wp2_with fail
  clear m0 m1 Q S;clear n0 n1 n2 n3;rw[<-e5,<-K];rw[<-H];clear K o8 e5;clear H;refine c.o.mono ?_;rintro r f8⟨hb,hr⟩;replace g:=kb g hb;replace j:=kb j hb;replace k:=kb k hb;replace l:=kb l hb;replace s:=kb s hb;replace d:=nd d hb;clear hb;clear c
  rcases hr with⟨h1,h2,_,_,_,⟨n',N,b4,f3,f4,l5,R,rfl,C⟩|rfl⟩|⟨h1,h2,m,b6⟩|⟨m,b6⟩
  ·exact absurd ⟨h1,h2⟩ hv.o
  ·exact absurd ⟨h1,h2⟩ hv.o
  ·exact absurd ⟨h1,h2⟩ hv.o
  clear m;subst b6;unfold AF;obtain⟨g6,a8⟩:=exq<|f8.alloc (.cells #[.int .i64 0,.int .i64 0,.string ⟨#[]⟩,.slice none 0 0] 25);obtain⟨l1,e6⟩:=exq<|f8.heap.size;have o9:g6.heap.size=f8.heap.size+1:=by rw[a8];simp
  have hb:Below f8.heap.size f8 g6:=by rw[a8];exact(Below.refl _ f8).alloc nlr _
  have B:g6.heap[l1]?=some (.cells #[.int .i64 0,.int .i64 0,.string ⟨#[]⟩,.slice none 0 0] 25 (0,0)):=by rw[e6,a8];exact han f8 _
  replace g:=kb g hb;replace j:=kb j hb;replace k:=kb k hb;replace l:=kb l hb;replace s:=kb s hb;replace d:=nd d hb;clear hb;have KN:=qh B;clear B;obtain⟨bN,z⟩:∃x,x=l1:=⟨_,rfl⟩;rw[<-z]at KN;have c:=qh<|Iv 1 (.slice (some (Ad bL 0)) 2 2) (.slice none 0 0) g6
  go_wp2_with fail
  rw[<-e6,<-a8];rw[<-z];clear a8 o9 e6;clear z;refine c.o.mono ?_;rintro r r7⟨rfl,hb⟩;replace g:=kb g hb;replace j:=kb j hb;replace k:=kb k hb;replace l:=kb l hb;replace s:=kb s hb;replace KN:=kb KN hb;replace d:=nd d hb;clear hb;clear c;have c:=qh<|Bh r7 (P.o r7 d.o)
  go_wp2_with fail
  refine c.o.mono ?_;rintro r x2⟨rfl,hb⟩;replace g:=kb g hb;replace j:=kb j hb;replace k:=kb k hb;replace l:=kb l hb;replace s:=kb s hb;replace KN:=kb KN hb;replace d:=nd d hb;clear hb;clear c;go_wp2;go_ret;exact⟨rfl,d.o⟩
 have U:=qh f1;clear f1;have a1:=qh f2;clear f2;have b1:=qh f0;clear f0;replace b2:=qh b2;replace b3:=qh b3;obtain⟨j9,k0,j8,-,-,-⟩:=i8.vm U.o a1.o b1.o F.o G.o;rw[j8];replace i8:=qh i8;replace j9:=qh j9;replace k0:=qh k0;obtain⟨l8,m4,O,_,_⟩:=Ax C.top;have O:_=Value.slice l8 M.n m4:=O;subst O;obtain⟨d6,L⟩:=exq<|o.alloc (.cells #[.int .i64 (D.kind),.int .i64 (M.start),.string (M.lead),.slice l8 M.n m4] 25);obtain⟨l2,e7⟩:=exq<|o.heap.size;have p6:d6.heap.size=o.heap.size+1:=by rw[L];simp
 have hb:Below o.heap.size o d6:=by rw[L];exact(Below.refl _ o).alloc nlr _
 have B:Has d6 l2 (D.kind) (M.start) (M.lead) l8 M.n m4 (M):=by rw[e7,L];exact Has.new C ⟨j8.symm,rfl,rfl⟩
 clear C;replace g:=kb g hb;replace j:=kb j hb;replace k:=kb k hb;replace l:=kb l hb;replace d:=nd d hb;clear hb;have A:=qh B;clear B;obtain⟨bM,H⟩:∃x,x=l2:=⟨_,rfl⟩;rw[<-H]at A;replace j8:=qh j8;obtain⟨⟨m0,m1,Q,S⟩,-⟩:=cells4 g.o;rw[L]at m0 m1 Q S;obtain⟨⟨n0,n1,n2,n3⟩,-⟩:=cells4 j.o;rw[L]at n0 n1 n2 n3;have c:=qh<|Ix d6 (b8.o d6 d.o) (b9.o d6 d.o) F.o G.o
 go_wp2_with fail
 clear m0 m1 Q S;clear n0 n1 n2 n3;rw[<-e7,<-L];rw[<-H];clear L p6 e7;clear H;refine c.o.mono ?_;rintro r Z⟨hb,hr⟩;replace A:=ho A hb;replace g:=kb g hb;replace j:=kb j hb;replace k:=kb k hb;replace l:=kb l hb;replace d:=nd d hb;clear hb;clear c
 rcases hr with⟨-,-,-,-,-,⟨n',N,b4,f3,f4,l5,R,rfl,C⟩|rfl⟩|⟨-,-,m,b6⟩|⟨m,b6⟩
 rotate_left
 ·skip
  unfold AF;obtain⟨f9,a9⟩:=exq<|Z.alloc (.cells #[.int .i64 0,.int .i64 0,.string ⟨#[]⟩,.slice none 0 0] 25);obtain⟨l3,e8⟩:=exq<|Z.heap.size;have p7:f9.heap.size=Z.heap.size+1:=by rw[a9];simp
  have hb:Below Z.heap.size Z f9:=by rw[a9];exact(Below.refl _ Z).alloc nlr _
  have B:f9.heap[l3]?=some (.cells #[.int .i64 0,.int .i64 0,.string ⟨#[]⟩,.slice none 0 0] 25 (0,0)):=by rw[e8,a9];exact han Z _
  replace A:=ho A hb;replace g:=kb g hb;replace j:=kb j hb;replace k:=kb k hb;replace l:=kb l hb;replace d:=nd d hb;clear hb;have KN:=qh B;clear B;obtain⟨bN,z⟩:∃x,x=l3:=⟨_,rfl⟩;rw[<-z]at KN;have c:=qh<|Bh f9 (P.o f9 d.o)
  go_wp2_with fail
  rw[<-e8,<-a9];rw[<-z];clear a9 p7 e8;clear z;refine c.o.mono ?_;rintro r x3⟨rfl,hb⟩;replace A:=ho A hb;replace g:=kb g hb;replace j:=kb j hb;replace k:=kb k hb;replace l:=kb l hb;replace KN:=kb KN hb;replace d:=nd d hb;clear hb;clear c;go_wp2;go_ret;exact⟨rfl,d.o⟩
 ·exact absurd ⟨b2.o,b3.o,b1.o⟩ m
 ·exact absurd ⟨U.o,a1.o⟩ m
 have b5:=b4.kind U.o a1.o;rw[b5];have s6:=qh b4;clear b4;have t8:=qh f3;clear f3;have v0:=qh f4;clear f4;obtain⟨d8,d9,O,_,_⟩:=Ax C.top;have O:_=Value.slice d8 N.n d9:=O;subst O;obtain⟨g7,X⟩:=exq<|Z.alloc (.cells #[.int .i64 (D.kind),.int .i64 (N.start),.string (N.lead),.slice d8 N.n d9] 25);obtain⟨l4,e9⟩:=exq<|Z.heap.size;have p8:g7.heap.size=Z.heap.size+1:=by rw[X];simp
 have hb:Below Z.heap.size Z g7:=by rw[X];exact(Below.refl _ Z).alloc nlr _
 have B:Has g7 l4 (D.kind) (N.start) (N.lead) d8 N.n d9 (N):=by rw[e9,X];exact Has.new C ⟨b5.symm,rfl,rfl⟩
 clear C;replace A:=ho A hb;replace g:=kb g hb;replace j:=kb j hb;replace k:=kb k hb;replace l:=kb l hb;replace d:=nd d hb;clear hb;have T:=qh B;clear B;obtain⟨bN,z⟩:∃x,x=l4:=⟨_,rfl⟩;rw[<-z]at T;have s7:=qh b5;clear b5;have q9:=qh<|i8.o.acc U.o a1.o b2.o b3.o;obtain⟨⟨m0,m1,Q,S⟩,-⟩:=cells4 A.o.1;rw[X]at m0 m1 Q S;have c:=qh<|Ed g7 A.o.ma k0.o
 go_wp2_with fail
 clear m0 m1 Q S;rw[<-e9,<-X];rw[<-z];clear X p8 e9;clear z;refine c.o.mono ?_;rintro r p9⟨hb,hr⟩;replace A:=ho A hb;replace T:=ho T hb;replace g:=kb g hb;replace j:=kb j hb;replace k:=kb k hb;replace l:=kb l hb;replace d:=nd d hb;clear hb;clear c
 rcases hr with⟨_,rfl⟩|⟨m,rfl⟩
 rotate_left
 ·exact absurd ⟨j9.o,q9.o⟩ m
 obtain⟨⟨m0,m1,Q,S⟩,-⟩:=cells4 g.o;obtain⟨⟨p0,p1,p2,p3⟩,-⟩:=cells4 A.o.1;have c:=qh<|Kx (D:=D) p9 (b8.o p9 d.o) F.o (j5.o p9 d.o) g3.o
 go_wp2_with fail
 clear m0 m1 Q S;clear p0 p1 p2 p3;refine c.o.mono ?_;rintro r q7⟨hb,⟨g8,r9⟩,rfl,hz⟩;replace A:=ho A hb;replace T:=ho T hb;replace g:=kb g hb;replace j:=kb j hb;replace k:=kb k hb;replace l:=kb l hb;replace d:=nd d hb;clear hb;clear c
 rcases hz with⟨_,_,_,d2⟩|⟨_,_,m,_⟩|⟨m,_⟩
 rotate_left
 ·exact absurd b2.o m
 ·exact absurd ⟨U.o,j4.o⟩ m
 have r0:=qh d2;clear d2;obtain⟨⟨m0,m1,Q,S⟩,-⟩:=cells4 j.o;have c:=qh<|Kx (D:=E) q7 (b9.o q7 d.o) G.o (j5.o q7 d.o) g3.o
 go_wp2_with fail
 clear m0 m1 Q S;refine c.o.mono ?_;rintro r r8⟨hb,⟨g9,s3⟩,rfl,hz⟩;replace A:=ho A hb;replace T:=ho T hb;replace g:=kb g hb;replace j:=kb j hb;replace k:=kb k hb;replace l:=kb l hb;replace d:=nd d hb;clear hb;clear c
 rcases hz with⟨_,_,_,d2⟩|⟨_,_,m,_⟩|⟨m,_⟩
 rotate_left
 ·exact absurd b3.o m
 ·exact absurd ⟨a1.o,j4.o⟩ m
 have r2:=qh d2;clear d2;obtain⟨⟨m0,m1,Q,S⟩,-⟩:=cells4 A.o.1;have c:=qh<|Kx (D:=M) r8 A.o.ma k0.o (j5.o r8 d.o) g3.o
 go_wp2_with fail
 clear m0 m1 Q S;refine c.o.mono ?_;rintro r d7⟨hb,⟨q8,s4⟩,rfl,hz⟩;replace A:=ho A hb;replace T:=ho T hb;replace g:=kb g hb;replace j:=kb j hb;replace k:=kb k hb;replace l:=kb l hb;replace d:=nd d hb;clear hb;clear c
 rcases hz with⟨_,_,_,d2⟩|⟨_,_,m,_⟩|⟨m,_⟩
 rotate_left
 ·exact absurd q9.o m
 ·exact absurd ⟨j9.o,j4.o⟩ m
 have t9:=qh d2;clear d2;by_cases b0:r9=0
 ·skip
  subst b0;by_cases b0:s3=0
  ·skip
   subst b0;by_cases b0:s4=0
   ·skip
    subst b0;obtain⟨kq,n7⟩:=U.o.kk;have s9:=qh<|show (g8.size:Int)<=9223372036854775807 from svsz (r0.o rfl kq n7);have t7:=qh<|show (g9.size:Int)<=9223372036854775807 from svsz (r2.o rfl kq (n7.trans b1.o));clear n7;obtain⟨⟨m0,m1,Q,S⟩,-⟩:=cells4 g.o;have c:=qh (Pt D.kind g8 g9 d7 (by have:=s9.o;omega) (by have:=t7.o;omega) (P.o d7 d.o))
    go_wp2_with fail
    clear m0 m1 Q S;refine c.o.mono ?_;rintro r l6⟨rfl,hb⟩;replace A:=ho A hb;replace T:=ho T hb;replace g:=kb g hb;replace j:=kb j hb;replace k:=kb k hb;replace l:=kb l hb;replace d:=nd d hb;clear hb;clear c;obtain⟨pp,i9⟩:=exq<|Ae D.kind g8 g9;rw[<-i9];replace i9:=qh i9;obtain⟨v6,s5⟩:=pp;by_cases b0:s5=0
    ·skip
     subst b0;have r3:v6=q8:=by
      have h4:(Ae D.kind g8 g9).2=0:=by rw[<-i9.o]
      have h5:=Wv.inter U.o a1.o b1.o F.o G.o (LQ D) i8.o b2.o b3.o (u:=(g8,0)) (v:=(g9,0)) (t:=(q8,0)) j4.o r0.o r2.o t9.o rfl rfl rfl h4;have h6:(Ae D.kind g8 g9).1=q8:=h5;rw[<-i9.o]at h6;exact h6
     subst r3;have c:=qh<|Bh l6 (P.o l6 d.o)
     go_wp2_with fail
     refine c.o.mono ?_;rintro r x4⟨rfl,hb⟩;replace A:=ho A hb;replace T:=ho T hb;replace g:=kb g hb;replace j:=kb j hb;replace k:=kb k hb;replace l:=kb l hb;replace d:=nd d hb;clear hb;clear c;go_wp2;go_ret;exact⟨rfl,d.o⟩
    skip
    have o2:¬((s5:Int)=0):=by omega
    clear b0;have c:=qh<|Bh l6 (P.o l6 d.o)
    go_wp2_with fail
    refine c.o.mono ?_;rintro r x5⟨rfl,hb⟩;replace A:=ho A hb;replace T:=ho T hb;replace g:=kb g hb;replace j:=kb j hb;replace k:=kb k hb;replace l:=kb l hb;replace d:=nd d hb;clear hb;clear c;go_wp2;go_ret;exact⟨rfl,d.o⟩
   skip
   have o2:¬((s4:Int)=0):=by omega
   clear b0;have c:=qh<|Bh d7 (P.o d7 d.o)
   go_wp2_with fail
   refine c.o.mono ?_;rintro r x6⟨rfl,hb⟩;replace A:=ho A hb;replace T:=ho T hb;replace g:=kb g hb;replace j:=kb j hb;replace k:=kb k hb;replace l:=kb l hb;replace d:=nd d hb;clear hb;clear c;go_wp2;go_ret;exact⟨rfl,d.o⟩
  skip
  have o2:¬((s3:Int)=0):=by omega
  clear b0;have c:=qh<|Bh d7 (P.o d7 d.o)
  go_wp2_with fail
  refine c.o.mono ?_;rintro r x7⟨rfl,hb⟩;replace A:=ho A hb;replace T:=ho T hb;replace g:=kb g hb;replace j:=kb j hb;replace k:=kb k hb;replace l:=kb l hb;replace d:=nd d hb;clear hb;clear c;go_wp2;go_ret;exact⟨rfl,d.o⟩
 skip
 have o2:¬((r9:Int)=0):=by omega
 clear b0;have c:=qh<|Bh d7 (P.o d7 d.o)
 go_wp2_with fail
 refine c.o.mono ?_;rintro r x8⟨rfl,hb⟩;replace A:=ho A hb;replace T:=ho T hb;replace g:=kb g hb;replace j:=kb j hb;replace k:=kb k hb;replace l:=kb l hb;replace d:=nd d hb;clear hb;clear c;go_wp2;go_ret;exact⟨rfl,d.o⟩
end
end Go.Proofs.YtpldocnhbdlgfaaGreatDoor
