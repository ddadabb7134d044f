/- Parts. -/
import Derived.Test.YtpldocnhbdlgfaaGreatDoorPa19
import Derived.Test.YtpldocnhbdlgfaaGreatDoorPa21
namespace Go.Proofs.YtpldocnhbdlgfaaGreatDoor
set_option maxRecDepth 100000
set_option linter.all false
set_option maxHeartbeats 16000000
open Go Tryz
section
open Go.RowKit Go.Deep
def SB{D E:MD}{mv nv xv yv zv:Value}{na nb nc:Nat}{x y z:Nat->Int}(w:World)(s7:Ma none w mv D)(F:MSz D)(s8:Ma none w nv E)(G:MSz E)(hx:Si none w xv na x)(m5:na<=140737488355328)(hy:Si none w yv nb y)(m7:nb<=140737488355328)(hz:Si none w zv nc z)(r0:nc<=140737488355328)(ht:Tab w):
  Calls prog 4 #[mv,nv,.agg #[xv,yv,zv]] w (TrueB w):=by
 obtain⟨t9,i7,l9⟩:=s7;subst i7;obtain⟨g5,g9,_,_,_,_,_,_,O,_⟩:=l9.open;subst O;have d2:=qh<|show ∀W,Below w.heap.size w W->Ma none W (.agg #[.int .i64 D.kind,.int .i64 D.start,.string D.lead,.slice g5 D.n g9]) D from λW h=>⟨_,rfl,l9.kept (Ab h none)⟩;clear l9;replace F:=qh F;obtain⟨v0,i7,m4⟩:=s8;subst i7;obtain⟨g6,h3,_,_,_,_,_,_,O,_⟩:=m4.open;subst O;have d3:=qh<|show ∀W,Below w.heap.size w W->Ma none W (.agg #[.int .i64 E.kind,.int .i64 E.start,.string E.lead,.slice g6 E.n h3]) E from λW h=>⟨_,rfl,m4.kept (Ab h none)⟩;clear m4;replace G:=qh G;obtain⟨g7,h4,_,_,i6,_,h9,X,_,_⟩:=hx.open;subst i6;have m9:(na:Int)<=9223372036854775807:=by unfold maxLen at X;omega
 clear h9 X;have q7:=qh<|show ∀W,Below w.heap.size w W->Si none W (.slice g7 na h4) na x from λW h=>hx.kept (Ab h none);clear hx;replace m9:=qh m9;replace m5:=qh m5;obtain⟨g8,h5,_,_,i6,_,h9,X,_,_⟩:=hy.open;subst i6;have n5:(nb:Int)<=9223372036854775807:=by unfold maxLen at X;omega
 clear h9 X;have q8:=qh<|show ∀W,Below w.heap.size w W->Si none W (.slice g8 nb h5) nb y from λW h=>hy.kept (Ab h none);clear hy;replace n5:=qh n5;replace m7:=qh m7;obtain⟨l4,l6,_,_,i6,_,h9,X,_,_⟩:=hz.open;subst i6;have r3:(nc:Int)<=9223372036854775807:=by unfold maxLen at X;omega
 clear h9 X;have t8:=qh<|show ∀W,Below w.heap.size w W->Si none W (.slice l4 nc l6) nc z from λW h=>hz.kept (Ab h none);clear hz;replace r3:=qh r3;replace r0:=qh r0;have a8:=qh<|show ∀W,Below w.heap.size w W->Tab W from λW h=>ht.below h nlr;clear ht;have d:=qh<|Below.refl w.heap.size w;obtain⟨w1,Y⟩:=exq<|w.alloc (.cells #[.int .i64 D.kind,.int .i64 D.start,.string D.lead,.slice g5 D.n g9] 25);obtain⟨i1,f5⟩:=exq<|w.heap.size;have i8:w1.heap.size=w.heap.size+1:=by rw[Y];simp
 have hb:Below w.heap.size w w1:=by rw[Y];exact(Below.refl _ w).alloc nlr _
 have B:w1.heap[i1]?=some (.cells #[.int .i64 D.kind,.int .i64 D.start,.string D.lead,.slice g5 D.n g9] 25 (0,0)):=by rw[f5,Y];exact han w _
 replace d:=nd d hb;clear hb;have g:=qh B;clear B;obtain⟨bA,j2⟩:∃x,x=i1:=⟨_,rfl⟩;rw[<-j2]at g;obtain⟨w2,Z⟩:=exq<|w1.alloc (.cells #[.int .i64 E.kind,.int .i64 E.start,.string E.lead,.slice g6 E.n h3] 25);obtain⟨i2,f7⟩:=exq<|w.heap.size+1;have i9:w2.heap.size=w.heap.size+1+1:=by rw[Z];simp[i8]
 have hb:Below w1.heap.size w1 w2:=by rw[Z];exact(Below.refl _ w1).alloc nlr _
 have B:w2.heap[i2]?=some (.cells #[.int .i64 E.kind,.int .i64 E.start,.string E.lead,.slice g6 E.n h3] 25 (0,0)):=by rw[f7,<-i8,Z];exact han w1 _
 replace g:=kb g hb;replace d:=nd d hb;clear hb;have j:=qh B;clear B;obtain⟨bB,j3⟩:∃x,x=i2:=⟨_,rfl⟩;rw[<-j3]at j;obtain⟨w3,a1⟩:=exq<|w2.alloc (.cells #[.slice g7 na h4,.slice g8 nb h5,.slice l4 nc l6] 28);obtain⟨i3,f8⟩:=exq<|w.heap.size+1+1;have j0:w3.heap.size=w.heap.size+1+1+1:=by rw[a1];simp[i9]
 have hb:Below w2.heap.size w2 w3:=by rw[a1];exact(Below.refl _ w2).alloc nlr _
 have B:w3.heap[i3]?=some (.cells #[.slice g7 na h4,.slice g8 nb h5,.slice l4 nc l6] 28 (0,0)):=by rw[f8,<-i9,a1];exact han w2 _
 replace g:=kb g hb;replace j:=kb j hb;replace d:=nd d hb;clear hb;have l:=qh B;clear B;obtain⟨bW,j4⟩:∃x,x=i3:=⟨_,rfl⟩;rw[<-j4]at l
 go_enter func4,ntmps4
 have m0:=cellOf g.o 0 rfl;have m1:=cellOf g.o 1 rfl;have m2:=cellOf g.o 2 rfl;have m3:=cellOf g.o 3 rfl;rw[a1,Z,Y]at m0 m1 m2 m3;rw[j2,f5]at m0 m1 m2 m3;have n0:=cellOf j.o 0 rfl;have n1:=cellOf j.o 1 rfl;have n2:=cellOf j.o 2 rfl;have n3:=cellOf j.o 3 rfl;rw[a1,Z,Y]at n0 n1 n2 n3;rw[j3,f7]at n0 n1 n2 n3;obtain⟨w4,b1⟩:=exq<|w3.alloc (.cells #[.int .i64 D.kind,.int .i64 D.start,.string D.lead,.slice g5 D.n g9,.int .i64 E.kind,.int .i64 E.start,.string E.lead,.slice g6 E.n h3] 25);obtain⟨i4,h7⟩:=exq<|w.heap.size+1+1+1;have j1:w4.heap.size=w.heap.size+1+1+1+1:=by rw[b1];simp[j0]
 have hb:Below w3.heap.size w3 w4:=by rw[b1];exact(Below.refl _ w3).alloc nlr _
 have B:w4.heap[i4]?=some (.cells #[.int .i64 D.kind,.int .i64 D.start,.string D.lead,.slice g5 D.n g9,.int .i64 E.kind,.int .i64 E.start,.string E.lead,.slice g6 E.n h3] 25 (0,0)):=by rw[h7,<-j0,b1];exact han w3 _
 replace g:=kb g hb;replace j:=kb j hb;replace l:=kb l hb;replace d:=nd d hb;clear hb;have m:=qh B;clear B;obtain⟨bL,l7⟩:∃x,x=i4:=⟨_,rfl⟩;rw[<-l7]at m;have q0:=cellOf l.o 0 rfl;have q1:=cellOf l.o 1 rfl;have q2:=cellOf l.o 2 rfl;rw[b1,a1,Z,Y]at q0 q1 q2;rw[j4,f8]at q0 q1 q2;obtain⟨w5,b6⟩:=exq<|w4.alloc (.cells #[.slice g7 na h4,.slice g8 nb h5] 26);obtain⟨i5,h8⟩:=exq<|w.heap.size+1+1+1+1;have r4:w5.heap.size=w.heap.size+1+1+1+1+1:=by rw[b6];simp[j1]
 have hb:Below w4.heap.size w4 w5:=by rw[b6];exact(Below.refl _ w4).alloc nlr _
 have B:w5.heap[i5]?=some (.cells #[.slice g7 na h4,.slice g8 nb h5] 26 (0,0)):=by rw[h8,<-j1,b6];exact han w4 _
 replace g:=kb g hb;replace j:=kb j hb;replace l:=kb l hb;replace m:=kb m hb;replace d:=nd d hb;clear hb;have o:=qh B;clear B;obtain⟨bV,l8⟩:∃x,x=i5:=⟨_,rfl⟩;rw[<-l8]at o;have c:=qh<|Nf w5 (MsS.two m.o (Ea (d2.o w5 d.o)) (Ea (d3.o w5 d.o))) (WsS.two o.o) (lt2 (p:=λi=>MSz (pk3 D E E i)) F.o G.o) (by omega) (lt2 (p:=λi=>pk3 na nb nb i<=140737488355328) m5.o m7.o)
 go_wp2_with fail
 clear m0 m1 m2 m3;clear n0 n1 n2 n3;clear q0 q1 q2;rw[<-h8,<-h7,<-f8,<-f7,<-f5,<-Y,<-Z,<-a1,<-b1,<-b6];rw[<-j2];rw[<-j3];rw[<-j4];rw[<-l7];rw[<-l8];clear Y i8 f5;clear Z i9 f7;clear a1 j0 f8;clear b1 j1 h7;clear b6 r4 h8;clear j2;clear j3;clear j4;clear l7;clear l8;refine c.o.mono ?_;rintro r w6⟨hb,bl,rfl,m8⟩;replace g:=kb g hb;replace j:=kb j hb;replace l:=kb l hb;replace m:=kb m hb;replace o:=kb o hb;replace d:=nd d hb;clear hb;clear c;cases bl
 rotate_left
 ·skip
  clear m8;have c:=qh<|Bh w6 (a8.o w6 d.o)
  go_wp2_with fail
  refine c.o.mono ?_;rintro r w7⟨rfl,hb⟩;replace g:=kb g hb;replace j:=kb j hb;replace l:=kb l hb;replace m:=kb m hb;replace o:=kb o hb;replace d:=nd d hb;clear hb;clear c;go_wp2;go_ret;exact⟨rfl,d.o⟩
 have s4:=qh<|m8 rfl;clear m8;have q0:=cellOf l.o 0 rfl;have q1:=cellOf l.o 1 rfl;have q2:=cellOf l.o 2 rfl;have P:=EB w6 (q7.o w6 d.o) m9.o;cases g0:isWord na x
 ·skip
  rw[g0]at P;have c:=qh P;clear P;have s5:=qh g0;clear g0
  go_wp2_with fail
  clear q0 q1 q2;refine c.o.mono ?_;rintro r w8⟨rfl,rfl⟩;clear c;have c:=qh<|Bh w8 (a8.o w8 d.o)
  go_wp2_with fail
  refine c.o.mono ?_;rintro r w9⟨rfl,hb⟩;replace g:=kb g hb;replace j:=kb j hb;replace l:=kb l hb;replace m:=kb m hb;replace o:=kb o hb;replace d:=nd d hb;clear hb;clear c;go_wp2;go_ret;exact⟨rfl,d.o⟩
 rw[g0]at P;have c:=qh P;clear P;have s9:=qh g0;clear g0
 go_wp2_with fail
 clear q0 q1 q2;refine c.o.mono ?_;rintro r r5⟨rfl,rfl⟩;clear c;have q0:=cellOf l.o 0 rfl;have q1:=cellOf l.o 1 rfl;have q2:=cellOf l.o 2 rfl;have P:=EB r5 (q8.o r5 d.o) n5.o;cases g1:isWord nb y
 ·skip
  rw[g1]at P;have c:=qh P;clear P;have s5:=qh g1;clear g1
  go_wp2_with fail
  clear q0 q1 q2;refine c.o.mono ?_;rintro r r6⟨rfl,rfl⟩;clear c;have c:=qh<|Bh r6 (a8.o r6 d.o)
  go_wp2_with fail
  refine c.o.mono ?_;rintro r v3⟨rfl,hb⟩;replace g:=kb g hb;replace j:=kb j hb;replace l:=kb l hb;replace m:=kb m hb;replace o:=kb o hb;replace d:=nd d hb;clear hb;clear c;go_wp2;go_ret;exact⟨rfl,d.o⟩
 rw[g1]at P;have c:=qh P;clear P;have t7:=qh g1;clear g1
 go_wp2_with fail
 clear q0 q1 q2;refine c.o.mono ?_;rintro r l2⟨rfl,rfl⟩;clear c;have m0:=cellOf g.o 0 rfl;have m1:=cellOf g.o 1 rfl;have m2:=cellOf g.o 2 rfl;have m3:=cellOf g.o 3 rfl;have n0:=cellOf j.o 0 rfl;have n1:=cellOf j.o 1 rfl;have n2:=cellOf j.o 2 rfl;have n3:=cellOf j.o 3 rfl;have c:=qh<|CW l2 (d2.o l2 d.o) (d3.o l2 d.o) F.o G.o (a8.o l2 d.o)
 go_wp2_with fail
 clear m0 m1 m2 m3;clear n0 n1 n2 n3;refine c.o.mono ?_;rintro r s⟨hb,hr⟩;replace g:=kb g hb;replace j:=kb j hb;replace l:=kb l hb;replace m:=kb m hb;replace o:=kb o hb;replace d:=nd d hb;clear hb;clear c
 rcases hr with⟨e7,e8,e6,⟨n,M,j5,l1,R,rfl,C⟩|⟨h6,rfl⟩⟩|⟨e7,e8,e6,rfl⟩|⟨hv,rfl⟩
 rotate_left
 ·skip
  have a9:=qh e7;clear e7;have b0:=qh e8;clear e8;have b2:=qh e6;clear e6;replace h6:=qh h6;unfold AF;obtain⟨b8,I⟩:=exq<|s.alloc (.cells #[.int .i64 0,.int .i64 0,.string ⟨#[]⟩,.slice none 0 0] 25);obtain⟨j7,d6⟩:=exq<|s.heap.size;have n7:b8.heap.size=s.heap.size+1:=by rw[I];simp
  have hb:Below s.heap.size s b8:=by rw[I];exact(Below.refl _ s).alloc nlr _
  have B:b8.heap[j7]?=some (.cells #[.int .i64 0,.int .i64 0,.string ⟨#[]⟩,.slice none 0 0] 25 (0,0)):=by rw[d6,I];exact han s _
  replace g:=kb g hb;replace j:=kb j hb;replace l:=kb l hb;replace m:=kb m hb;replace o:=kb o hb;replace d:=nd d hb;clear hb;have u:=qh B;clear B;obtain⟨bM,H⟩:∃x,x=j7:=⟨_,rfl⟩;rw[<-H]at u;have m0:=cellOf g.o 0 rfl;have m1:=cellOf g.o 1 rfl;have m2:=cellOf g.o 2 rfl;have m3:=cellOf g.o 3 rfl;rw[I]at m0 m1 m2 m3;have n0:=cellOf j.o 0 rfl;have n1:=cellOf j.o 1 rfl;have n2:=cellOf j.o 2 rfl;have n3:=cellOf j.o 3 rfl;rw[I]at n0 n1 n2 n3;have c:=qh<|Gm b8 (d2.o b8 d.o) (d3.o b8 d.o) F.o G.o
  go_wp2_with fail
  clear m0 m1 m2 m3;clear n0 n1 n2 n3;rw[<-d6,<-I];rw[<-H];clear I n7 d6;clear H;refine c.o.mono ?_;rintro r T⟨hb,hr⟩;replace g:=kb g hb;replace j:=kb j hb;replace l:=kb l hb;replace m:=kb m hb;replace o:=kb o hb;replace u:=kb u hb;replace d:=nd d hb;clear hb;clear c
  rcases hr with⟨-,-,-,⟨n',N,b3,e9,f0,l1,R,rfl,C⟩|rfl⟩|⟨_,_,Q,b7⟩|⟨Q,b7⟩
  rotate_left
  ·skip
   unfold AF;obtain⟨f1,a2⟩:=exq<|T.alloc (.cells #[.int .i64 0,.int .i64 0,.string ⟨#[]⟩,.slice none 0 0] 25);obtain⟨j8,d7⟩:=exq<|T.heap.size;have n9:f1.heap.size=T.heap.size+1:=by rw[a2];simp
   have hb:Below T.heap.size T f1:=by rw[a2];exact(Below.refl _ T).alloc nlr _
   have B:f1.heap[j8]?=some (.cells #[.int .i64 0,.int .i64 0,.string ⟨#[]⟩,.slice none 0 0] 25 (0,0)):=by rw[d7,a2];exact han T _
   replace g:=kb g hb;replace j:=kb j hb;replace l:=kb l hb;replace m:=kb m hb;replace o:=kb o hb;replace u:=kb u hb;replace d:=nd d hb;clear hb;have KN:=qh B;clear B;obtain⟨bN,A⟩:∃x,x=j8:=⟨_,rfl⟩;rw[<-A]at KN;have c:=qh<|Bh f1 (a8.o f1 d.o)
   go_wp2_with fail
   rw[<-d7,<-a2];rw[<-A];clear a2 n9 d7;clear A;refine c.o.mono ?_;rintro r v4⟨rfl,hb⟩;replace g:=kb g hb;replace j:=kb j hb;replace l:=kb l hb;replace m:=kb m hb;replace o:=kb o hb;replace u:=kb u hb;replace KN:=kb KN hb;replace d:=nd d hb;clear hb;clear c;go_wp2;go_ret;exact⟨rfl,d.o⟩
  ·exact absurd b2.o Q
  ·exact absurd ⟨a9.o,b0.o⟩ Q
  have b4:=b3.kind a9.o b0.o;rw[b4];have p7:=qh b3;clear b3;have p9:=qh e9;clear e9;have q9:=qh f0;clear f0;obtain⟨d4,d5,O,_,_⟩:=Ax C.top;have O:_=Value.slice d4 N.n d5:=O;subst O;obtain⟨b5,a4⟩:=exq<|T.alloc (.cells #[.int .i64 (D.kind),.int .i64 (N.start),.string (N.lead),.slice d4 N.n d5] 25);obtain⟨j9,d8⟩:=exq<|T.heap.size;have o2:b5.heap.size=T.heap.size+1:=by rw[a4];simp
  have hb:Below T.heap.size T b5:=by rw[a4];exact(Below.refl _ T).alloc nlr _
  have B:Has b5 j9 (D.kind) (N.start) (N.lead) d4 N.n d5 (N):=by rw[d8,a4];exact Has.new C ⟨b4.symm,rfl,rfl⟩
  clear C;replace g:=kb g hb;replace j:=kb j hb;replace l:=kb l hb;replace m:=kb m hb;replace o:=kb o hb;replace u:=kb u hb;replace d:=nd d hb;clear hb;have HN:=qh B;clear B;obtain⟨bN,A⟩:∃x,x=j9:=⟨_,rfl⟩;rw[<-A]at HN;have p8:=qh b4;clear b4;have c:=qh (ON b5 (MsS.two m.o (Ea (d2.o b5 d.o)) (Ea (d3.o b5 d.o))) (WsS.nil b5 λ_=>0) (lt2 (p:=λi=>MSz (pk3 D E E i)) F.o G.o) (by omega) (by omega) s4.o.1 (λi hi=>by omega) (BadC.not2 a9.o b0.o b2.o h6.o))
  go_wp2_with fail
  rw[<-d8,<-a4];rw[<-A];clear a4 o2 d8;clear A;refine c.o.mono ?_;rintro r r7⟨rfl,hb⟩;replace HN:=ho HN hb;replace g:=kb g hb;replace j:=kb j hb;replace l:=kb l hb;replace m:=kb m hb;replace o:=kb o hb;replace u:=kb u hb;replace d:=nd d hb;clear hb;clear c;have c:=qh<|Bh r7 (a8.o r7 d.o)
  go_wp2_with fail
  refine c.o.mono ?_;rintro r v5⟨rfl,hb⟩;replace HN:=ho HN hb;replace g:=kb g hb;replace j:=kb j hb;replace l:=kb l hb;replace m:=kb m hb;replace o:=kb o hb;replace u:=kb u hb;replace d:=nd d hb;clear hb;clear c;go_wp2;go_ret;exact⟨rfl,d.o⟩
 ·skip
  have a9:=qh e7;clear e7;have b0:=qh e8;clear e8;have b2:=qh e6;clear e6;unfold AF;obtain⟨b9,J⟩:=exq<|s.alloc (.cells #[.int .i64 0,.int .i64 0,.string ⟨#[]⟩,.slice none 0 0] 25);obtain⟨k0,d9⟩:=exq<|s.heap.size;have o3:b9.heap.size=s.heap.size+1:=by rw[J];simp
  have hb:Below s.heap.size s b9:=by rw[J];exact(Below.refl _ s).alloc nlr _
  have B:b9.heap[k0]?=some (.cells #[.int .i64 0,.int .i64 0,.string ⟨#[]⟩,.slice none 0 0] 25 (0,0)):=by rw[d9,J];exact han s _
  replace g:=kb g hb;replace j:=kb j hb;replace l:=kb l hb;replace m:=kb m hb;replace o:=kb o hb;replace d:=nd d hb;clear hb;have u:=qh B;clear B;obtain⟨bM,H⟩:∃x,x=k0:=⟨_,rfl⟩;rw[<-H]at u;have m0:=cellOf g.o 0 rfl;have m1:=cellOf g.o 1 rfl;have m2:=cellOf g.o 2 rfl;have m3:=cellOf g.o 3 rfl;rw[J]at m0 m1 m2 m3;have n0:=cellOf j.o 0 rfl;have n1:=cellOf j.o 1 rfl;have n2:=cellOf j.o 2 rfl;have n3:=cellOf j.o 3 rfl;rw[J]at n0 n1 n2 n3;have c:=qh<|Gm b9 (d2.o b9 d.o) (d3.o b9 d.o) F.o G.o
  go_wp2_with fail
  clear m0 m1 m2 m3;clear n0 n1 n2 n3;rw[<-d9,<-J];rw[<-H];clear J o3 d9;clear H;refine c.o.mono ?_;rintro r f2⟨hb,hr⟩;replace g:=kb g hb;replace j:=kb j hb;replace l:=kb l hb;replace m:=kb m hb;replace o:=kb o hb;replace u:=kb u hb;replace d:=nd d hb;clear hb;clear c
  rcases hr with⟨_,_,r2,⟨n',N,b3,e9,f0,l1,R,rfl,C⟩|rfl⟩|⟨_,_,Q,b7⟩|⟨Q,b7⟩
  ·exact absurd r2 b2.o
  ·exact absurd r2 b2.o
  rotate_left
  ·exact absurd ⟨a9.o,b0.o⟩ Q
  subst b7;unfold AF;obtain⟨g2,a5⟩:=exq<|f2.alloc (.cells #[.int .i64 0,.int .i64 0,.string ⟨#[]⟩,.slice none 0 0] 25);obtain⟨k4,e0⟩:=exq<|f2.heap.size;have o4:g2.heap.size=f2.heap.size+1:=by rw[a5];simp
  have hb:Below f2.heap.size f2 g2:=by rw[a5];exact(Below.refl _ f2).alloc nlr _
  have B:g2.heap[k4]?=some (.cells #[.int .i64 0,.int .i64 0,.string ⟨#[]⟩,.slice none 0 0] 25 (0,0)):=by rw[e0,a5];exact han f2 _
  replace g:=kb g hb;replace j:=kb j hb;replace l:=kb l hb;replace m:=kb m hb;replace o:=kb o hb;replace u:=kb u hb;replace d:=nd d hb;clear hb;have KN:=qh B;clear B;obtain⟨bN,A⟩:∃x,x=k4:=⟨_,rfl⟩;rw[<-A]at KN;have c:=qh<|Iv 6 (.slice (some (Ad bL 0)) 2 2) (.slice none 0 0) g2
  go_wp2_with fail
  rw[<-e0,<-a5];rw[<-A];clear a5 o4 e0;clear A;refine c.o.mono ?_;rintro r r8⟨rfl,hb⟩;replace g:=kb g hb;replace j:=kb j hb;replace l:=kb l hb;replace m:=kb m hb;replace o:=kb o hb;replace u:=kb u hb;replace KN:=kb KN hb;replace d:=nd d hb;clear hb;clear c;have c:=qh<|Bh r8 (a8.o r8 d.o)
  go_wp2_with fail
  refine c.o.mono ?_;rintro r v6⟨rfl,hb⟩;replace g:=kb g hb;replace j:=kb j hb;replace l:=kb l hb;replace m:=kb m hb;replace o:=kb o hb;replace u:=kb u hb;replace KN:=kb KN hb;replace d:=nd d hb;clear hb;clear c;go_wp2;go_ret;exact⟨rfl,d.o⟩
 ·skip
  replace hv:=qh hv;unfold AF;obtain⟨d0,K⟩:=exq<|s.alloc (.cells #[.int .i64 0,.int .i64 0,.string ⟨#[]⟩,.slice none 0 0] 25);obtain⟨k5,e1⟩:=exq<|s.heap.size;have o5:d0.heap.size=s.heap.size+1:=by rw[K];simp
  have hb:Below s.heap.size s d0:=by rw[K];exact(Below.refl _ s).alloc nlr _
  have B:d0.heap[k5]?=some (.cells #[.int .i64 0,.int .i64 0,.string ⟨#[]⟩,.slice none 0 0] 25 (0,0)):=by rw[e1,K];exact han s _
  replace g:=kb g hb;replace j:=kb j hb;replace l:=kb l hb;replace m:=kb m hb;replace o:=kb o hb;replace d:=nd d hb;clear hb;have u:=qh B;clear B;obtain⟨bM,H⟩:∃x,x=k5:=⟨_,rfl⟩;rw[<-H]at u;have m0:=cellOf g.o 0 rfl;have m1:=cellOf g.o 1 rfl;have m2:=cellOf g.o 2 rfl;have m3:=cellOf g.o 3 rfl;rw[K]at m0 m1 m2 m3;have n0:=cellOf j.o 0 rfl;have n1:=cellOf j.o 1 rfl;have n2:=cellOf j.o 2 rfl;have n3:=cellOf j.o 3 rfl;rw[K]at n0 n1 n2 n3;have c:=qh<|Gm d0 (d2.o d0 d.o) (d3.o d0 d.o) F.o G.o
  go_wp2_with fail
  clear m0 m1 m2 m3;clear n0 n1 n2 n3;rw[<-e1,<-K];rw[<-H];clear K o5 e1;clear H;refine c.o.mono ?_;rintro r f3⟨hb,hr⟩;replace g:=kb g hb;replace j:=kb j hb;replace l:=kb l hb;replace m:=kb m hb;replace o:=kb o hb;replace u:=kb u hb;replace d:=nd d hb;clear hb;clear c
  rcases hr with⟨h1,h2,_,⟨n',N,b3,e9,f0,l1,R,rfl,C⟩|rfl⟩|⟨h1,h2,_,_⟩|⟨Q,b7⟩
  ·exact absurd ⟨h1,h2⟩ hv.o
  ·exact absurd ⟨h1,h2⟩ hv.o
  ·exact absurd ⟨h1,h2⟩ hv.o
  subst b7;unfold AF;obtain⟨g3,a6⟩:=exq<|f3.alloc (.cells #[.int .i64 0,.int .i64 0,.string ⟨#[]⟩,.slice none 0 0] 25);obtain⟨k6,e2⟩:=exq<|f3.heap.size;have o6:g3.heap.size=f3.heap.size+1:=by rw[a6];simp
  have hb:Below f3.heap.size f3 g3:=by rw[a6];exact(Below.refl _ f3).alloc nlr _
  have B:g3.heap[k6]?=some (.cells #[.int .i64 0,.int .i64 0,.string ⟨#[]⟩,.slice none 0 0] 25 (0,0)):=by rw[e2,a6];exact han f3 _
  replace g:=kb g hb;replace j:=kb j hb;replace l:=kb l hb;replace m:=kb m hb;replace o:=kb o hb;replace u:=kb u hb;replace d:=nd d hb;clear hb;have KN:=qh B;clear B;obtain⟨bN,A⟩:∃x,x=k6:=⟨_,rfl⟩;rw[<-A]at KN;have c:=qh<|Iv 1 (.slice (some (Ad bL 0)) 2 2) (.slice none 0 0) g3
  go_wp2_with fail
  rw[<-e2,<-a6];rw[<-A];clear a6 o6 e2;clear A;refine c.o.mono ?_;rintro r r9⟨rfl,hb⟩;replace g:=kb g hb;replace j:=kb j hb;replace l:=kb l hb;replace m:=kb m hb;replace o:=kb o hb;replace u:=kb u hb;replace KN:=kb KN hb;replace d:=nd d hb;clear hb;clear c;have c:=qh<|Bh r9 (a8.o r9 d.o)
  go_wp2_with fail
  refine c.o.mono ?_;rintro r v7⟨rfl,hb⟩;replace g:=kb g hb;replace j:=kb j hb;replace l:=kb l hb;replace m:=kb m hb;replace o:=kb o hb;replace u:=kb u hb;replace KN:=kb KN hb;replace d:=nd d hb;clear hb;clear c;go_wp2;go_ret;exact⟨rfl,d.o⟩
 have a9:=qh e7;clear e7;have b0:=qh e8;clear e8;have b2:=qh e6;clear e6;obtain⟨n6,j6,f9,-,-,-⟩:=j5.vm a9.o b0.o b2.o F.o G.o;rw[f9];replace j5:=qh j5;replace n6:=qh n6;replace j6:=qh j6;obtain⟨l3,l5,O,_,_⟩:=Ax C.top;have O:_=Value.slice l3 M.n l5:=O;subst O;obtain⟨d1,L⟩:=exq<|s.alloc (.cells #[.int .i64 (D.kind),.int .i64 (M.start),.string (M.lead),.slice l3 M.n l5] 25);obtain⟨k7,e3⟩:=exq<|s.heap.size;have o7:d1.heap.size=s.heap.size+1:=by rw[L];simp
 have hb:Below s.heap.size s d1:=by rw[L];exact(Below.refl _ s).alloc nlr _
 have B:Has d1 k7 (D.kind) (M.start) (M.lead) l3 M.n l5 (M):=by rw[e3,L];exact Has.new C ⟨f9.symm,rfl,rfl⟩
 clear C;replace g:=kb g hb;replace j:=kb j hb;replace l:=kb l hb;replace m:=kb m hb;replace o:=kb o hb;replace d:=nd d hb;clear hb;have HM:=qh B;clear B;obtain⟨bM,H⟩:∃x,x=k7:=⟨_,rfl⟩;rw[<-H]at HM;replace f9:=qh f9;have m0:=cellOf g.o 0 rfl;have m1:=cellOf g.o 1 rfl;have m2:=cellOf g.o 2 rfl;have m3:=cellOf g.o 3 rfl;rw[L]at m0 m1 m2 m3;have n0:=cellOf j.o 0 rfl;have n1:=cellOf j.o 1 rfl;have n2:=cellOf j.o 2 rfl;have n3:=cellOf j.o 3 rfl;rw[L]at n0 n1 n2 n3;have c:=qh<|Gm d1 (d2.o d1 d.o) (d3.o d1 d.o) F.o G.o
 go_wp2_with fail
 clear m0 m1 m2 m3;clear n0 n1 n2 n3;rw[<-e3,<-L];rw[<-H];clear L o7 e3;clear H;refine c.o.mono ?_;rintro r U⟨hb,hr⟩;replace HM:=ho HM hb;replace g:=kb g hb;replace j:=kb j hb;replace l:=kb l hb;replace m:=kb m hb;replace o:=kb o hb;replace d:=nd d hb;clear hb;clear c
 rcases hr with⟨-,-,-,⟨n',N,b3,e9,f0,l1,R,rfl,C⟩|rfl⟩|⟨_,_,Q,b7⟩|⟨Q,b7⟩
 rotate_left
 ·skip
  unfold AF;obtain⟨f4,a7⟩:=exq<|U.alloc (.cells #[.int .i64 0,.int .i64 0,.string ⟨#[]⟩,.slice none 0 0] 25);obtain⟨k9,e4⟩:=exq<|U.heap.size;have o8:f4.heap.size=U.heap.size+1:=by rw[a7];simp
  have hb:Below U.heap.size U f4:=by rw[a7];exact(Below.refl _ U).alloc nlr _
  have B:f4.heap[k9]?=some (.cells #[.int .i64 0,.int .i64 0,.string ⟨#[]⟩,.slice none 0 0] 25 (0,0)):=by rw[e4,a7];exact han U _
  replace HM:=ho HM hb;replace g:=kb g hb;replace j:=kb j hb;replace l:=kb l hb;replace m:=kb m hb;replace o:=kb o hb;replace d:=nd d hb;clear hb;have KN:=qh B;clear B;obtain⟨bN,A⟩:∃x,x=k9:=⟨_,rfl⟩;rw[<-A]at KN;have c:=qh<|Bh f4 (a8.o f4 d.o)
  go_wp2_with fail
  rw[<-e4,<-a7];rw[<-A];clear a7 o8 e4;clear A;refine c.o.mono ?_;rintro r v8⟨rfl,hb⟩;replace HM:=ho HM hb;replace g:=kb g hb;replace j:=kb j hb;replace l:=kb l hb;replace m:=kb m hb;replace o:=kb o hb;replace KN:=kb KN hb;replace d:=nd d hb;clear hb;clear c;go_wp2;go_ret;exact⟨rfl,d.o⟩
 ·exact absurd b2.o Q
 ·exact absurd ⟨a9.o,b0.o⟩ Q
 have b4:=b3.kind a9.o b0.o;rw[b4];have p7:=qh b3;clear b3;have p9:=qh e9;clear e9;have q9:=qh f0;clear f0;obtain⟨d4,d5,O,_,_⟩:=Ax C.top;have O:_=Value.slice d4 N.n d5:=O;subst O;obtain⟨g4,S⟩:=exq<|U.alloc (.cells #[.int .i64 (D.kind),.int .i64 (N.start),.string (N.lead),.slice d4 N.n d5] 25);obtain⟨l0,e5⟩:=exq<|U.heap.size;have o9:g4.heap.size=U.heap.size+1:=by rw[S];simp
 have hb:Below U.heap.size U g4:=by rw[S];exact(Below.refl _ U).alloc nlr _
 have B:Has g4 l0 (D.kind) (N.start) (N.lead) d4 N.n d5 (N):=by rw[e5,S];exact Has.new C ⟨b4.symm,rfl,rfl⟩
 clear C;replace HM:=ho HM hb;replace g:=kb g hb;replace j:=kb j hb;replace l:=kb l hb;replace m:=kb m hb;replace o:=kb o hb;replace d:=nd d hb;clear hb;have HN:=qh B;clear B;obtain⟨bN,A⟩:∃x,x=l0:=⟨_,rfl⟩;rw[<-A]at HN;have p8:=qh b4;clear b4;have m0:=cellOf HM.o.1 0 rfl;have m1:=cellOf HM.o.1 1 rfl;have m2:=cellOf HM.o.1 2 rfl;have m3:=cellOf HM.o.1 3 rfl;rw[S]at m0 m1 m2 m3;have c:=qh<|Em g4 HM.o.ma j6.o
 go_wp2_with fail
 clear m0 m1 m2 m3;rw[<-e5,<-S];rw[<-A];clear S o9 e5;clear A;refine c.o.mono ?_;rintro r p6⟨hb,hr⟩;replace HM:=ho HM hb;replace HN:=ho HN hb;replace g:=kb g hb;replace j:=kb j hb;replace l:=kb l hb;replace m:=kb m hb;replace o:=kb o hb;replace d:=nd d hb;clear hb;clear c
 rcases hr with⟨_,rfl⟩|⟨Q,rfl⟩
 rotate_left
 ·exact absurd n6.o Q
 have m0:=cellOf HM.o.1 0 rfl;have m1:=cellOf HM.o.1 1 rfl;have m2:=cellOf HM.o.1 2 rfl;have m3:=cellOf HM.o.1 3 rfl;have n0:=cellOf g.o 0 rfl;have n1:=cellOf g.o 1 rfl;have n2:=cellOf g.o 2 rfl;have n3:=cellOf g.o 3 rfl;have p0:=cellOf HN.o.1 0 rfl;have p1:=cellOf HN.o.1 1 rfl;have p2:=cellOf HN.o.1 2 rfl;have p3:=cellOf HN.o.1 3 rfl;have q0:=cellOf l.o 0 rfl;have q1:=cellOf l.o 1 rfl;have q2:=cellOf l.o 2 rfl;have c:=qh<|TH p6 HM.o.ma HN.o.ma j6.o q9.o (q7.o p6 d.o) (q8.o p6 d.o) (λz z' v1 v2 x1 y1 k1 k2 h0 s6=>Wv.eq k1 k2 v1 (p8.o.trans f9.o.symm) (λk hk=>Sx a9.o b0.o p9.o b2.o F.o G.o j5.o p7.o (hk.trans f9.o) _ _) h0 s6)
 go_wp2_with fail
 clear m0 m1 m2 m3;clear n0 n1 n2 n3;clear p0 p1 p2 p3;clear q0 q1 q2;refine c.o.mono ?_;rintro r s3⟨rfl,hb⟩;replace HM:=ho HM hb;replace HN:=ho HN hb;replace g:=kb g hb;replace j:=kb j hb;replace l:=kb l hb;replace m:=kb m hb;replace o:=kb o hb;replace d:=nd d hb;clear hb;clear c;have c:=qh<|Bh s3 (a8.o s3 d.o)
 go_wp2_with fail
 refine c.o.mono ?_;rintro r v9⟨rfl,hb⟩;replace HM:=ho HM hb;replace HN:=ho HN hb;replace g:=kb g hb;replace j:=kb j hb;replace l:=kb l hb;replace m:=kb m hb;replace o:=kb o hb;replace d:=nd d hb;clear hb;clear c;go_wp2;go_ret;exact⟨rfl,d.o⟩
end
end Go.Proofs.YtpldocnhbdlgfaaGreatDoor
