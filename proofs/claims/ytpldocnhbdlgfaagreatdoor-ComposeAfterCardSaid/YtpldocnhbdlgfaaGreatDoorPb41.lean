/- Parts. -/
import Derived.Test.YtpldocnhbdlgfaaGreatDoorPb40
import Derived.Test.YtpldocnhbdlgfaaGreatDoorPb39
namespace Go.Proofs.YtpldocnhbdlgfaaGreatDoor
set_option maxRecDepth 100000
set_option linter.all false
set_option maxHeartbeats 16000000
open Go Tryz
section
open Go.RowKit Go.Deep
def RZ{D:MD}{mv xv yv zv:Value}{na nb nc:Nat}{x y z:Nat->Int}(w:World)(s5:Ma none w mv D)(E:MSz D)(hx:Si none w xv na x)(h5:na<=140737488355328)(hy:Si none w yv nb y)(l9:nb<=140737488355328)(hz:Si none w zv nc z)(j4:nc<=140737488355328)(ht:Tab w):
  Calls prog 7 #[mv,.agg #[xv,yv,zv]] w (TrueB w):=by
 obtain⟨t9,p0,l8⟩:=s5;subst p0;obtain⟨b4,b6,_,_,_,_,_,_,i5,_⟩:=l8.open;subst i5;have d3:=qh<|show ∀W,Below w.heap.size w W->Ma none W (.agg #[.int .i64 D.kind,.int .i64 D.start,.string D.lead,.slice b4 D.n b6]) D from λW h=>⟨_,rfl,l8.kept (Ag h none)⟩;clear l8;replace E:=qh E;obtain⟨b5,b7,_,_,h8,_,h6,Q,_,_⟩:=hx.open;subst h8;have m7:(na:Int)<=9223372036854775807:=by unfold maxLen at Q;omega
 clear h6 Q;have f8:=qh<|show ∀W,Below w.heap.size w W->Si none W (.slice b5 na b7) na x from λW h=>hx.kept (Ag h none);clear hx;replace m7:=qh m7;replace h5:=qh h5;obtain⟨g5,g7,_,_,h8,_,h6,Q,_,_⟩:=hy.open;subst h8;have m8:(nb:Int)<=9223372036854775807:=by unfold maxLen at Q;omega
 clear h6 Q;have l2:=qh<|show ∀W,Below w.heap.size w W->Si none W (.slice g5 nb g7) nb y from λW h=>hy.kept (Ag h none);clear hy;replace m8:=qh m8;replace l9:=qh l9;obtain⟨g6,g8,_,_,h8,_,h6,Q,_,_⟩:=hz.open;subst h8;have m9:(nc:Int)<=9223372036854775807:=by unfold maxLen at Q;omega
 clear h6 Q;have l3:=qh<|show ∀W,Below w.heap.size w W->Si none W (.slice g6 nc g8) nc z from λW h=>hz.kept (Ag h none);clear hz;replace m9:=qh m9;replace j4:=qh j4;have K:=qh<|show ∀W,Below w.heap.size w W->Tab W from λW h=>ht.below h nlr;clear ht;have g:=qh<|Below.refl w.heap.size w;obtain⟨w1,X⟩:=exq<|w.alloc (.cells #[.int .i64 D.kind,.int .i64 D.start,.string D.lead,.slice b4 D.n b6] 25);obtain⟨i1,f5⟩:=exq<|w.heap.size;have i9:w1.heap.size=w.heap.size+1:=by rw[X];simp
 have hb:Below w.heap.size w w1:=by rw[X];exact(Below.refl _ w).alloc nlr _
 have o:w1.heap[i1]?=some (.cells #[.int .i64 D.kind,.int .i64 D.start,.string D.lead,.slice b4 D.n b6] 25 (0,0)):=by rw[f5,X];exact han w _
 replace g:=qh<|g.o.trans (hb.mono g.o.size);clear hb;have j:=qh o;clear o;obtain⟨bA,j2⟩:∃x,x=i1:=⟨_,rfl⟩;rw[<-j2]at j;obtain⟨w2,a1⟩:=exq<|w1.alloc (.cells #[.slice b5 na b7,.slice g5 nb g7,.slice g6 nc g8] 28);obtain⟨i2,f7⟩:=exq<|w.heap.size+1;have j0:w2.heap.size=w.heap.size+1+1:=by rw[a1];simp[i9]
 have hb:Below w1.heap.size w1 w2:=by rw[a1];exact(Below.refl _ w1).alloc nlr _
 have o:w2.heap[i2]?=some (.cells #[.slice b5 na b7,.slice g5 nb g7,.slice g6 nc g8] 28 (0,0)):=by rw[f7,<-i9,a1];exact han w1 _
 replace j:=qh<|(hb.block _ (lbk j.o)).trans j.o;replace g:=qh<|g.o.trans (hb.mono g.o.size);clear hb;have k:=qh o;clear o;obtain⟨bW,j3⟩:∃x,x=i2:=⟨_,rfl⟩;rw[<-j3]at k
 go_enter func7,ntmps7
 have m0:=cellOf j.o 0 rfl;have m1:=cellOf j.o 1 rfl;have A:=cellOf j.o 2 rfl;have B:=cellOf j.o 3 rfl;rw[a1,X]at m0 m1 A B;rw[j2,f5]at m0 m1 A B;obtain⟨w3,b3⟩:=exq<|w2.alloc (.cells #[.int .i64 D.kind,.int .i64 D.start,.string D.lead,.slice b4 D.n b6] 25);obtain⟨i3,h0⟩:=exq<|w.heap.size+1+1;have j1:w3.heap.size=w.heap.size+1+1+1:=by rw[b3];simp[j0]
 have hb:Below w2.heap.size w2 w3:=by rw[b3];exact(Below.refl _ w2).alloc nlr _
 have o:w3.heap[i3]?=some (.cells #[.int .i64 D.kind,.int .i64 D.start,.string D.lead,.slice b4 D.n b6] 25 (0,0)):=by rw[h0,<-j0,b3];exact han w2 _
 replace j:=qh<|(hb.block _ (lbk j.o)).trans j.o;replace k:=qh<|(hb.block _ (lbk k.o)).trans k.o;replace g:=qh<|g.o.trans (hb.mono g.o.size);clear hb;have KL:=qh o;clear o;obtain⟨bL,l6⟩:∃x,x=i3:=⟨_,rfl⟩;rw[<-l6]at KL;have q0:=cellOf k.o 0 rfl;have q1:=cellOf k.o 1 rfl;have q2:=cellOf k.o 2 rfl;rw[b3,a1,X]at q0 q1 q2;rw[j3,f7]at q0 q1 q2;obtain⟨w4,b9⟩:=exq<|w3.alloc (.cells #[.slice b5 na b7,.slice g5 nb g7,.slice g6 nc g8] 26);obtain⟨i4,h3⟩:=exq<|w.heap.size+1+1+1;have p8:w4.heap.size=w.heap.size+1+1+1+1:=by rw[b9];simp[j1]
 have hb:Below w3.heap.size w3 w4:=by rw[b9];exact(Below.refl _ w3).alloc nlr _
 have o:w4.heap[i4]?=some (.cells #[.slice b5 na b7,.slice g5 nb g7,.slice g6 nc g8] 26 (0,0)):=by rw[h3,<-j1,b9];exact han w3 _
 replace j:=qh<|(hb.block _ (lbk j.o)).trans j.o;replace k:=qh<|(hb.block _ (lbk k.o)).trans k.o;replace KL:=qh<|(hb.block _ (lbk KL.o)).trans KL.o;replace g:=qh<|g.o.trans (hb.mono g.o.size);clear hb;have KV:=qh o;clear o;obtain⟨bV,l7⟩:∃x,x=i4:=⟨_,rfl⟩;rw[<-l7]at KV;have d:=qh<|TU w4 (MsS.one KL.o (Nn (d3.o w4 g.o))) (WsS.three KV.o) (lt1 (p:=λi=>MSz (pk3 D D D i)) E.o) (by omega) (lt3 (p:=λi=>pk3 na nb nc i<=140737488355328) h5.o l9.o j4.o)
 go_wp2_with fail
 clear m0 m1 A B;clear q0 q1 q2;rw[<-h3,<-h0,<-f7,<-f5,<-X,<-a1,<-b3,<-b9];rw[<-j2];rw[<-j3];rw[<-l6];rw[<-l7];clear X i9 f5;clear a1 j0 f7;clear b3 j1 h0;clear b9 p8 h3;clear j2;clear j3;clear l6;clear l7;refine d.o.mono ?_;rintro r w5⟨hb,bl,rfl,m5⟩;replace j:=qh<|(hb.block _ (lbk j.o)).trans j.o;replace k:=qh<|(hb.block _ (lbk k.o)).trans k.o;replace KL:=qh<|(hb.block _ (lbk KL.o)).trans KL.o;replace KV:=qh<|(hb.block _ (lbk KV.o)).trans KV.o;replace g:=qh<|g.o.trans (hb.mono g.o.size);clear hb;clear d;cases bl
 rotate_left
 ·skip
  clear m5;have d:=qh<|Cx w5 (K.o w5 g.o)
  go_wp2_with fail
  refine d.o.mono ?_;rintro r w6⟨rfl,hb⟩;replace j:=qh<|(hb.block _ (lbk j.o)).trans j.o;replace k:=qh<|(hb.block _ (lbk k.o)).trans k.o;replace KL:=qh<|(hb.block _ (lbk KL.o)).trans KL.o;replace KV:=qh<|(hb.block _ (lbk KV.o)).trans KV.o;replace g:=qh<|g.o.trans (hb.mono g.o.size);clear hb;clear d;go_wp2;go_ret;exact⟨rfl,g.o⟩
 have o8:=qh<|m5 rfl;clear m5;clear KL KV;have q0:=cellOf k.o 0 rfl;have q1:=cellOf k.o 1 rfl;have q2:=cellOf k.o 2 rfl;have m0:=cellOf j.o 0 rfl;have m1:=cellOf j.o 1 rfl;have A:=cellOf j.o 2 rfl;have B:=cellOf j.o 3 rfl;have d:=qh<|IR w5 (f8.o w5 g.o) (d3.o w5 g.o) m7.o E.o (K.o w5 g.o)
 go_wp2_with fail
 clear q0 q1 q2;clear m0 m1 A B;refine d.o.mono ?_;rintro r w7⟨hb,hr⟩;replace j:=qh<|(hb.block _ (lbk j.o)).trans j.o;replace k:=qh<|(hb.block _ (lbk k.o)).trans k.o;replace g:=qh<|g.o.trans (hb.mono g.o.size);clear hb;clear d
 rcases hr with⟨a6,a8,⟨n,M,h7,t8,R,rfl,h9⟩|⟨g9,rfl⟩⟩|⟨hv,rfl⟩
 rotate_left
 ·skip
  replace a6:=qh a6;replace a8:=qh a8;replace g9:=qh g9;unfold AQ;obtain⟨w8,a5⟩:=exq<|w7.alloc (.cells #[.int .i64 0,.int .i64 0,.string ⟨#[]⟩,.slice none 0 0] 25);obtain⟨i8,h4⟩:=exq<|w7.heap.size;have p9:w8.heap.size=w7.heap.size+1:=by rw[a5];simp
  have hb:Below w7.heap.size w7 w8:=by rw[a5];exact(Below.refl _ w7).alloc nlr _
  have o:w8.heap[i8]?=some (.cells #[.int .i64 0,.int .i64 0,.string ⟨#[]⟩,.slice none 0 0] 25 (0,0)):=by rw[h4,a5];exact han w7 _
  replace j:=qh<|(hb.block _ (lbk j.o)).trans j.o;replace k:=qh<|(hb.block _ (lbk k.o)).trans k.o;replace g:=qh<|g.o.trans (hb.mono g.o.size);clear hb;have s:=qh o;clear o;obtain⟨bM,S⟩:∃x,x=i8:=⟨_,rfl⟩;rw[<-S]at s;have q0:=cellOf k.o 0 rfl;have q1:=cellOf k.o 1 rfl;have q2:=cellOf k.o 2 rfl;rw[a5]at q0 q1 q2;have m0:=cellOf j.o 0 rfl;have m1:=cellOf j.o 1 rfl;have A:=cellOf j.o 2 rfl;have B:=cellOf j.o 3 rfl;rw[a5]at m0 m1 A B;have d:=qh<|Kr w8 (f8.o w8 g.o) (d3.o w8 g.o) E.o
  go_wp2_with fail
  clear q0 q1 q2;clear m0 m1 A B;rw[<-h4,<-a5];rw[<-S];clear a5 p9 h4;clear S;refine d.o.mono ?_;rintro r w9⟨hb,hr⟩;replace j:=qh<|(hb.block _ (lbk j.o)).trans j.o;replace k:=qh<|(hb.block _ (lbk k.o)).trans k.o;replace s:=qh<|(hb.block _ (lbk s.o)).trans s.o;replace g:=qh<|g.o.trans (hb.mono g.o.size);clear hb;clear d
  rcases hr with⟨-,-,rk,rs,rl,ra,rn,rc,e,rfl,he|he⟩|⟨U,_⟩
  rotate_left
  ·skip
   have T:(e:Int)=2:=by omega
   rw[T];clear he T;obtain⟨f1,Y⟩:=exq<|w9.alloc (.cells #[.int .i64 rk,.int .i64 rs,.string rl,.slice ra rn rc] 25);obtain⟨j5,d6⟩:=exq<|w9.heap.size;have n6:f1.heap.size=w9.heap.size+1:=by rw[Y];simp
   have hb:Below w9.heap.size w9 f1:=by rw[Y];exact(Below.refl _ w9).alloc nlr _
   have o:f1.heap[j5]?=some (.cells #[.int .i64 rk,.int .i64 rs,.string rl,.slice ra rn rc] 25 (0,0)):=by rw[d6,Y];exact han w9 _
   replace j:=qh<|(hb.block _ (lbk j.o)).trans j.o;replace k:=qh<|(hb.block _ (lbk k.o)).trans k.o;replace s:=qh<|(hb.block _ (lbk s.o)).trans s.o;replace g:=qh<|g.o.trans (hb.mono g.o.size);clear hb;have l:=qh o;clear o;obtain⟨bN,C⟩:∃x,x=j5:=⟨_,rfl⟩;rw[<-C]at l;have d:=qh<|Cx f1 (K.o f1 g.o)
   go_wp2_with fail
   rw[<-d6,<-Y];rw[<-C];clear Y n6 d6;clear C;refine d.o.mono ?_;rintro r v0⟨rfl,hb⟩;replace j:=qh<|(hb.block _ (lbk j.o)).trans j.o;replace k:=qh<|(hb.block _ (lbk k.o)).trans k.o;replace s:=qh<|(hb.block _ (lbk s.o)).trans s.o;replace l:=qh<|(hb.block _ (lbk l.o)).trans l.o;replace g:=qh<|g.o.trans (hb.mono g.o.size);clear hb;clear d;go_wp2;go_ret;exact⟨rfl,g.o⟩
  ·exact absurd ⟨a6.o,a8.o⟩ U
  have T:(e:Int)=0:=by omega
  rw[T];clear he T;obtain⟨a9,F⟩:=exq<|w9.alloc (.cells #[.int .i64 rk,.int .i64 rs,.string rl,.slice ra rn rc] 25);obtain⟨j6,d7⟩:=exq<|w9.heap.size;have e7:a9.heap.size=w9.heap.size+1:=by rw[F];simp
  have hb:Below w9.heap.size w9 a9:=by rw[F];exact(Below.refl _ w9).alloc nlr _
  have o:a9.heap[j6]?=some (.cells #[.int .i64 rk,.int .i64 rs,.string rl,.slice ra rn rc] 25 (0,0)):=by rw[d7,F];exact han w9 _
  replace j:=qh<|(hb.block _ (lbk j.o)).trans j.o;replace k:=qh<|(hb.block _ (lbk k.o)).trans k.o;replace s:=qh<|(hb.block _ (lbk s.o)).trans s.o;replace g:=qh<|g.o.trans (hb.mono g.o.size);clear hb;have l:=qh o;clear o;obtain⟨bN,C⟩:∃x,x=j6:=⟨_,rfl⟩;rw[<-C]at l;have m0:=cellOf j.o 0 rfl;have m1:=cellOf j.o 1 rfl;have A:=cellOf j.o 2 rfl;have B:=cellOf j.o 3 rfl;rw[F]at m0 m1 A B;obtain⟨b0,N⟩:=exq<|a9.alloc (.cells #[.int .i64 D.kind,.int .i64 D.start,.string D.lead,.slice b4 D.n b6] 25);obtain⟨j7,d8⟩:=exq<|w9.heap.size+1;have e8:b0.heap.size=w9.heap.size+1+1:=by rw[N];simp[e7]
  have hb:Below a9.heap.size a9 b0:=by rw[N];exact(Below.refl _ a9).alloc nlr _
  have o:b0.heap[j7]?=some (.cells #[.int .i64 D.kind,.int .i64 D.start,.string D.lead,.slice b4 D.n b6] 25 (0,0)):=by rw[d8,<-e7,N];exact han a9 _
  replace j:=qh<|(hb.block _ (lbk j.o)).trans j.o;replace k:=qh<|(hb.block _ (lbk k.o)).trans k.o;replace s:=qh<|(hb.block _ (lbk s.o)).trans s.o;replace l:=qh<|(hb.block _ (lbk l.o)).trans l.o;replace g:=qh<|g.o.trans (hb.mono g.o.size);clear hb;have KP:=qh o;clear o;obtain⟨bP,d4⟩:∃x,x=j7:=⟨_,rfl⟩;rw[<-d4]at KP;have q0:=cellOf k.o 0 rfl;have q1:=cellOf k.o 1 rfl;have q2:=cellOf k.o 2 rfl;rw[N,F]at q0 q1 q2;obtain⟨f2,Z⟩:=exq<|b0.alloc (.cells #[.slice b5 na b7] 26);obtain⟨j8,d9⟩:=exq<|w9.heap.size+1+1;have n7:f2.heap.size=w9.heap.size+1+1+1:=by rw[Z];simp[e8]
  have hb:Below b0.heap.size b0 f2:=by rw[Z];exact(Below.refl _ b0).alloc nlr _
  have o:f2.heap[j8]?=some (.cells #[.slice b5 na b7] 26 (0,0)):=by rw[d9,<-e8,Z];exact han b0 _
  replace j:=qh<|(hb.block _ (lbk j.o)).trans j.o;replace k:=qh<|(hb.block _ (lbk k.o)).trans k.o;replace s:=qh<|(hb.block _ (lbk s.o)).trans s.o;replace l:=qh<|(hb.block _ (lbk l.o)).trans l.o;replace KP:=qh<|(hb.block _ (lbk KP.o)).trans KP.o;replace g:=qh<|g.o.trans (hb.mono g.o.size);clear hb;have KQ:=qh o;clear o;obtain⟨bQ,d5⟩:∃x,x=j8:=⟨_,rfl⟩;rw[<-d5]at KQ;have r8:=qh<|show na<=8 from o8.o.2 0 (by omega);have d:=qh<|Wi f2 (MsS.one KP.o (Nn (d3.o f2 g.o))) (WsS.one KQ.o) (lt1 (p:=λi=>MSz (pk3 D D D i)) E.o) (by omega) (by omega) o8.o.1 (lt1 (p:=λi=>pk3 na na na i<=140737488355328) h5.o) (BadC.not1 a6.o a8.o r8.o g9.o)
  go_wp2_with fail
  clear m0 m1 A B;clear q0 q1 q2;rw[<-d9,<-d8,<-d7,<-F,<-N,<-Z];rw[<-C];rw[<-d4];rw[<-d5];clear F e7 d7;clear N e8 d8;clear Z n7 d9;clear C;clear d4;clear d5;refine d.o.mono ?_;rintro r q7⟨rfl,hb⟩;replace j:=qh<|(hb.block _ (lbk j.o)).trans j.o;replace k:=qh<|(hb.block _ (lbk k.o)).trans k.o;replace s:=qh<|(hb.block _ (lbk s.o)).trans s.o;replace l:=qh<|(hb.block _ (lbk l.o)).trans l.o;replace KP:=qh<|(hb.block _ (lbk KP.o)).trans KP.o;replace KQ:=qh<|(hb.block _ (lbk KQ.o)).trans KQ.o;replace g:=qh<|g.o.trans (hb.mono g.o.size);clear hb;clear d;have d:=qh<|Cx q7 (K.o q7 g.o)
  go_wp2_with fail
  refine d.o.mono ?_;rintro r v2⟨rfl,hb⟩;replace j:=qh<|(hb.block _ (lbk j.o)).trans j.o;replace k:=qh<|(hb.block _ (lbk k.o)).trans k.o;replace s:=qh<|(hb.block _ (lbk s.o)).trans s.o;replace l:=qh<|(hb.block _ (lbk l.o)).trans l.o;replace KP:=qh<|(hb.block _ (lbk KP.o)).trans KP.o;replace KQ:=qh<|(hb.block _ (lbk KQ.o)).trans KQ.o;replace g:=qh<|g.o.trans (hb.mono g.o.size);clear hb;clear d;go_wp2;go_ret;exact⟨rfl,g.o⟩
 ·skip
  replace hv:=qh hv;unfold AQ;obtain⟨d1,G⟩:=exq<|w7.alloc (.cells #[.int .i64 0,.int .i64 0,.string ⟨#[]⟩,.slice none 0 0] 25);obtain⟨j9,e0⟩:=exq<|w7.heap.size;have n9:d1.heap.size=w7.heap.size+1:=by rw[G];simp
  have hb:Below w7.heap.size w7 d1:=by rw[G];exact(Below.refl _ w7).alloc nlr _
  have o:d1.heap[j9]?=some (.cells #[.int .i64 0,.int .i64 0,.string ⟨#[]⟩,.slice none 0 0] 25 (0,0)):=by rw[e0,G];exact han w7 _
  replace j:=qh<|(hb.block _ (lbk j.o)).trans j.o;replace k:=qh<|(hb.block _ (lbk k.o)).trans k.o;replace g:=qh<|g.o.trans (hb.mono g.o.size);clear hb;have s:=qh o;clear o;obtain⟨bM,S⟩:∃x,x=j9:=⟨_,rfl⟩;rw[<-S]at s;have q0:=cellOf k.o 0 rfl;have q1:=cellOf k.o 1 rfl;have q2:=cellOf k.o 2 rfl;rw[G]at q0 q1 q2;have m0:=cellOf j.o 0 rfl;have m1:=cellOf j.o 1 rfl;have A:=cellOf j.o 2 rfl;have B:=cellOf j.o 3 rfl;rw[G]at m0 m1 A B;have d:=qh<|Kr d1 (f8.o d1 g.o) (d3.o d1 g.o) E.o
  go_wp2_with fail
  clear q0 q1 q2;clear m0 m1 A B;rw[<-e0,<-G];rw[<-S];clear G n9 e0;clear S;refine d.o.mono ?_;rintro r a7⟨hb,hr⟩;replace j:=qh<|(hb.block _ (lbk j.o)).trans j.o;replace k:=qh<|(hb.block _ (lbk k.o)).trans k.o;replace s:=qh<|(hb.block _ (lbk s.o)).trans s.o;replace g:=qh<|g.o.trans (hb.mono g.o.size);clear hb;clear d
  rcases hr with⟨h1,h2,_⟩|⟨U,rfl⟩
  ·exact absurd ⟨h1,h2⟩ hv.o
  clear U;unfold AQ;obtain⟨b1,H⟩:=exq<|a7.alloc (.cells #[.int .i64 0,.int .i64 0,.string ⟨#[]⟩,.slice none 0 0] 25);obtain⟨k0,e1⟩:=exq<|a7.heap.size;have e9:b1.heap.size=a7.heap.size+1:=by rw[H];simp
  have hb:Below a7.heap.size a7 b1:=by rw[H];exact(Below.refl _ a7).alloc nlr _
  have o:b1.heap[k0]?=some (.cells #[.int .i64 0,.int .i64 0,.string ⟨#[]⟩,.slice none 0 0] 25 (0,0)):=by rw[e1,H];exact han a7 _
  replace j:=qh<|(hb.block _ (lbk j.o)).trans j.o;replace k:=qh<|(hb.block _ (lbk k.o)).trans k.o;replace s:=qh<|(hb.block _ (lbk s.o)).trans s.o;replace g:=qh<|g.o.trans (hb.mono g.o.size);clear hb;have l:=qh o;clear o;obtain⟨bN,C⟩:∃x,x=k0:=⟨_,rfl⟩;rw[<-C]at l;have m0:=cellOf j.o 0 rfl;have m1:=cellOf j.o 1 rfl;have A:=cellOf j.o 2 rfl;have B:=cellOf j.o 3 rfl;rw[H]at m0 m1 A B;obtain⟨b2,O⟩:=exq<|b1.alloc (.cells #[.int .i64 D.kind,.int .i64 D.start,.string D.lead,.slice b4 D.n b6] 25);obtain⟨k4,e2⟩:=exq<|a7.heap.size+1;have f0:b2.heap.size=a7.heap.size+1+1:=by rw[O];simp[e9]
  have hb:Below b1.heap.size b1 b2:=by rw[O];exact(Below.refl _ b1).alloc nlr _
  have o:b2.heap[k4]?=some (.cells #[.int .i64 D.kind,.int .i64 D.start,.string D.lead,.slice b4 D.n b6] 25 (0,0)):=by rw[e2,<-e9,O];exact han b1 _
  replace j:=qh<|(hb.block _ (lbk j.o)).trans j.o;replace k:=qh<|(hb.block _ (lbk k.o)).trans k.o;replace s:=qh<|(hb.block _ (lbk s.o)).trans s.o;replace l:=qh<|(hb.block _ (lbk l.o)).trans l.o;replace g:=qh<|g.o.trans (hb.mono g.o.size);clear hb;have KP:=qh o;clear o;obtain⟨bP,d4⟩:∃x,x=k4:=⟨_,rfl⟩;rw[<-d4]at KP;have q0:=cellOf k.o 0 rfl;have q1:=cellOf k.o 1 rfl;have q2:=cellOf k.o 2 rfl;rw[O,H]at q0 q1 q2;obtain⟨g2,a2⟩:=exq<|b2.alloc (.cells #[.slice b5 na b7] 26);obtain⟨k5,e3⟩:=exq<|a7.heap.size+1+1;have o2:g2.heap.size=a7.heap.size+1+1+1:=by rw[a2];simp[f0]
  have hb:Below b2.heap.size b2 g2:=by rw[a2];exact(Below.refl _ b2).alloc nlr _
  have o:g2.heap[k5]?=some (.cells #[.slice b5 na b7] 26 (0,0)):=by rw[e3,<-f0,a2];exact han b2 _
  replace j:=qh<|(hb.block _ (lbk j.o)).trans j.o;replace k:=qh<|(hb.block _ (lbk k.o)).trans k.o;replace s:=qh<|(hb.block _ (lbk s.o)).trans s.o;replace l:=qh<|(hb.block _ (lbk l.o)).trans l.o;replace KP:=qh<|(hb.block _ (lbk KP.o)).trans KP.o;replace g:=qh<|g.o.trans (hb.mono g.o.size);clear hb;have KQ:=qh o;clear o;obtain⟨bQ,d5⟩:∃x,x=k5:=⟨_,rfl⟩;rw[<-d5]at KQ;have d:=qh<|Wj 1 (.slice (some (Ad bP 0)) 1 1) (.slice (some (Ad bQ 0)) 1 1) g2
  go_wp2_with fail
  clear m0 m1 A B;clear q0 q1 q2;rw[<-e3,<-e2,<-e1,<-H,<-O,<-a2];rw[<-C];rw[<-d4];rw[<-d5];clear H e9 e1;clear O f0 e2;clear a2 o2 e3;clear C;clear d4;clear d5;refine d.o.mono ?_;rintro r q8⟨rfl,hb⟩;replace j:=qh<|(hb.block _ (lbk j.o)).trans j.o;replace k:=qh<|(hb.block _ (lbk k.o)).trans k.o;replace s:=qh<|(hb.block _ (lbk s.o)).trans s.o;replace l:=qh<|(hb.block _ (lbk l.o)).trans l.o;replace KP:=qh<|(hb.block _ (lbk KP.o)).trans KP.o;replace KQ:=qh<|(hb.block _ (lbk KQ.o)).trans KQ.o;replace g:=qh<|g.o.trans (hb.mono g.o.size);clear hb;clear d;have d:=qh<|Cx q8 (K.o q8 g.o)
  go_wp2_with fail
  refine d.o.mono ?_;rintro r v3⟨rfl,hb⟩;replace j:=qh<|(hb.block _ (lbk j.o)).trans j.o;replace k:=qh<|(hb.block _ (lbk k.o)).trans k.o;replace s:=qh<|(hb.block _ (lbk s.o)).trans s.o;replace l:=qh<|(hb.block _ (lbk l.o)).trans l.o;replace KP:=qh<|(hb.block _ (lbk KP.o)).trans KP.o;replace KQ:=qh<|(hb.block _ (lbk KQ.o)).trans KQ.o;replace g:=qh<|g.o.trans (hb.mono g.o.size);clear hb;clear d;go_wp2;go_ret;exact⟨rfl,g.o⟩
 replace a6:=qh a6;replace a8:=qh a8;obtain⟨p6,b8,n5,-,-,-⟩:=Bs (x:=x) a6.o.kind a8.o;obtain⟨i7,g1,f9,-,-,-⟩:=h7.vm p6 a6.o n5 b8 E.o;have f9:M.kind=D.kind:=f9.trans n5;clear p6 b8 n5;rw[f9];replace h7:=qh h7;replace i7:=qh i7;replace g1:=qh g1;obtain⟨l4,l5,i5,_,_⟩:=Az h9.top;have i5:_=Value.slice l4 M.n l5:=i5;subst i5;obtain⟨d2,I⟩:=exq<|w7.alloc (.cells #[.int .i64 (D.kind),.int .i64 (M.start),.string (M.lead),.slice l4 M.n l5] 25);obtain⟨k6,e4⟩:=exq<|w7.heap.size;have o3:d2.heap.size=w7.heap.size+1:=by rw[I];simp
 have hb:Below w7.heap.size w7 d2:=by rw[I];exact(Below.refl _ w7).alloc nlr _
 have o:Has d2 k6 (D.kind) (M.start) (M.lead) l4 M.n l5 (M):=by rw[e4,I];exact Has.new h9 ⟨f9.symm,rfl,rfl⟩
 clear h9;replace j:=qh<|(hb.block _ (lbk j.o)).trans j.o;replace k:=qh<|(hb.block _ (lbk k.o)).trans k.o;replace g:=qh<|g.o.trans (hb.mono g.o.size);clear hb;have m:=qh o;clear o;obtain⟨bM,S⟩:∃x,x=k6:=⟨_,rfl⟩;rw[<-S]at m;have s8:=qh f9;clear f9;have q0:=cellOf k.o 0 rfl;have q1:=cellOf k.o 1 rfl;have q2:=cellOf k.o 2 rfl;rw[I]at q0 q1 q2;have m0:=cellOf j.o 0 rfl;have m1:=cellOf j.o 1 rfl;have A:=cellOf j.o 2 rfl;have B:=cellOf j.o 3 rfl;rw[I]at m0 m1 A B;have d:=qh<|Kr d2 (f8.o d2 g.o) (d3.o d2 g.o) E.o
 go_wp2_with fail
 clear q0 q1 q2;clear m0 m1 A B;rw[<-e4,<-I];rw[<-S];clear I o3 e4;clear S;refine d.o.mono ?_;rintro r J⟨hb,hr⟩;replace m:=qh<|m.o.on hb;replace j:=qh<|(hb.block _ (lbk j.o)).trans j.o;replace k:=qh<|(hb.block _ (lbk k.o)).trans k.o;replace g:=qh<|g.o.trans (hb.mono g.o.size);clear hb;clear d
 rcases hr with⟨-,-,rk,rs,rl,ra,rn,rc,e,rfl,he|he⟩|⟨U,_⟩
 rotate_left
 ·skip
  have T:(e:Int)=2:=by omega
  rw[T];clear he T;obtain⟨f3,a4⟩:=exq<|J.alloc (.cells #[.int .i64 rk,.int .i64 rs,.string rl,.slice ra rn rc] 25);obtain⟨k7,e5⟩:=exq<|J.heap.size;have o4:f3.heap.size=J.heap.size+1:=by rw[a4];simp
  have hb:Below J.heap.size J f3:=by rw[a4];exact(Below.refl _ J).alloc nlr _
  have o:f3.heap[k7]?=some (.cells #[.int .i64 rk,.int .i64 rs,.string rl,.slice ra rn rc] 25 (0,0)):=by rw[e5,a4];exact han J _
  replace m:=qh<|m.o.on hb;replace j:=qh<|(hb.block _ (lbk j.o)).trans j.o;replace k:=qh<|(hb.block _ (lbk k.o)).trans k.o;replace g:=qh<|g.o.trans (hb.mono g.o.size);clear hb;have l:=qh o;clear o;obtain⟨bN,C⟩:∃x,x=k7:=⟨_,rfl⟩;rw[<-C]at l;have d:=qh<|Cx f3 (K.o f3 g.o)
  go_wp2_with fail
  rw[<-e5,<-a4];rw[<-C];clear a4 o4 e5;clear C;refine d.o.mono ?_;rintro r v4⟨rfl,hb⟩;replace m:=qh<|m.o.on hb;replace j:=qh<|(hb.block _ (lbk j.o)).trans j.o;replace k:=qh<|(hb.block _ (lbk k.o)).trans k.o;replace l:=qh<|(hb.block _ (lbk l.o)).trans l.o;replace g:=qh<|g.o.trans (hb.mono g.o.size);clear hb;clear d;go_wp2;go_ret;exact⟨rfl,g.o⟩
 ·exact absurd ⟨a6.o,a8.o⟩ U
 have T:(e:Int)=0:=by omega
 rw[T];clear he T;obtain⟨g3,P⟩:=exq<|J.alloc (.cells #[.int .i64 rk,.int .i64 rs,.string rl,.slice ra rn rc] 25);obtain⟨k9,e6⟩:=exq<|J.heap.size;have o5:g3.heap.size=J.heap.size+1:=by rw[P];simp
 have hb:Below J.heap.size J g3:=by rw[P];exact(Below.refl _ J).alloc nlr _
 have o:g3.heap[k9]?=some (.cells #[.int .i64 rk,.int .i64 rs,.string rl,.slice ra rn rc] 25 (0,0)):=by rw[e6,P];exact han J _
 replace m:=qh<|m.o.on hb;replace j:=qh<|(hb.block _ (lbk j.o)).trans j.o;replace k:=qh<|(hb.block _ (lbk k.o)).trans k.o;replace g:=qh<|g.o.trans (hb.mono g.o.size);clear hb;have l:=qh o;clear o;obtain⟨bN,C⟩:∃x,x=k9:=⟨_,rfl⟩;rw[<-C]at l;have m0:=cellOf m.o.1 0 rfl;have m1:=cellOf m.o.1 1 rfl;have A:=cellOf m.o.1 2 rfl;have B:=cellOf m.o.1 3 rfl;rw[P]at m0 m1 A B;have d:=qh<|Ei g3 m.o.ma g1.o
 go_wp2_with fail
 clear m0 m1 A B;rw[<-e6,<-P];rw[<-C];clear P o5 e6;clear C;refine d.o.mono ?_;rintro r q9⟨hb,hr⟩;replace m:=qh<|m.o.on hb;replace j:=qh<|(hb.block _ (lbk j.o)).trans j.o;replace k:=qh<|(hb.block _ (lbk k.o)).trans k.o;replace l:=qh<|(hb.block _ (lbk l.o)).trans l.o;replace g:=qh<|g.o.trans (hb.mono g.o.size);clear hb;clear d
 rcases hr with⟨_,rfl⟩|⟨U,rfl⟩
 rotate_left
 ·exact absurd i7.o U
 have n0:=cellOf m.o.1 0 rfl;have n1:=cellOf m.o.1 1 rfl;have n2:=cellOf m.o.1 2 rfl;have n3:=cellOf m.o.1 3 rfl;have m0:=cellOf j.o 0 rfl;have m1:=cellOf j.o 1 rfl;have A:=cellOf j.o 2 rfl;have B:=cellOf j.o 3 rfl;have q0:=cellOf k.o 0 rfl;have q1:=cellOf k.o 1 rfl;have q2:=cellOf k.o 2 rfl;have L:=Gn q9 (l2.o q9 g.o) m8.o;cases g0:isWord nb y
 ·skip
  rw[g0]at L;have d:=qh L;clear L;have s3:=qh g0;clear g0
  go_wp2_with fail
  clear n0 n1 n2 n3;clear m0 m1 A B;clear q0 q1 q2;refine d.o.mono ?_;rintro r s6⟨rfl,rfl⟩;clear d;have m0:=cellOf m.o.1 0 rfl;have m1:=cellOf m.o.1 1 rfl;have A:=cellOf m.o.1 2 rfl;have B:=cellOf m.o.1 3 rfl;have n0:=cellOf j.o 0 rfl;have n1:=cellOf j.o 1 rfl;have n2:=cellOf j.o 2 rfl;have n3:=cellOf j.o 3 rfl;have d:=qh<|Ei s6 m.o.ma g1.o
  go_wp2_with fail
  clear m0 m1 A B;clear n0 n1 n2 n3;refine d.o.mono ?_;rintro r r0⟨hb,hr⟩;replace m:=qh<|m.o.on hb;replace j:=qh<|(hb.block _ (lbk j.o)).trans j.o;replace k:=qh<|(hb.block _ (lbk k.o)).trans k.o;replace l:=qh<|(hb.block _ (lbk l.o)).trans l.o;replace g:=qh<|g.o.trans (hb.mono g.o.size);clear hb;clear d
  rcases hr with⟨_,rfl⟩|⟨U,rfl⟩
  rotate_left
  ·exact absurd i7.o U
  have m0:=cellOf m.o.1 0 rfl;have m1:=cellOf m.o.1 1 rfl;have A:=cellOf m.o.1 2 rfl;have B:=cellOf m.o.1 3 rfl;have n0:=cellOf j.o 0 rfl;have n1:=cellOf j.o 1 rfl;have n2:=cellOf j.o 2 rfl;have n3:=cellOf j.o 3 rfl;have d:=qh<|Cx r0 (K.o r0 g.o)
  go_wp2_with fail
  clear m0 m1 A B;clear n0 n1 n2 n3;refine d.o.mono ?_;rintro r v5⟨rfl,hb⟩;replace m:=qh<|m.o.on hb;replace j:=qh<|(hb.block _ (lbk j.o)).trans j.o;replace k:=qh<|(hb.block _ (lbk k.o)).trans k.o;replace l:=qh<|(hb.block _ (lbk l.o)).trans l.o;replace g:=qh<|g.o.trans (hb.mono g.o.size);clear hb;clear d;go_wp2;go_ret;exact⟨rfl,g.o⟩
 rw[g0]at L;have d:=qh L;clear L;have s9:=qh g0;clear g0
 go_wp2_with fail
 clear n0 n1 n2 n3;clear m0 m1 A B;clear q0 q1 q2;refine d.o.mono ?_;rintro r r2⟨rfl,rfl⟩;clear d;have q0:=cellOf k.o 0 rfl;have q1:=cellOf k.o 1 rfl;have q2:=cellOf k.o 2 rfl;have L:=Gn r2 (l3.o r2 g.o) m9.o;cases b8:isWord nc z
 ·skip
  rw[b8]at L;have d:=qh L;clear L;have s3:=qh b8;clear b8
  go_wp2_with fail
  clear q0 q1 q2;refine d.o.mono ?_;rintro r s7⟨rfl,rfl⟩;clear d;have m0:=cellOf m.o.1 0 rfl;have m1:=cellOf m.o.1 1 rfl;have A:=cellOf m.o.1 2 rfl;have B:=cellOf m.o.1 3 rfl;have n0:=cellOf j.o 0 rfl;have n1:=cellOf j.o 1 rfl;have n2:=cellOf j.o 2 rfl;have n3:=cellOf j.o 3 rfl;have d:=qh<|Ei s7 m.o.ma g1.o
  go_wp2_with fail
  clear m0 m1 A B;clear n0 n1 n2 n3;refine d.o.mono ?_;rintro r r3⟨hb,hr⟩;replace m:=qh<|m.o.on hb;replace j:=qh<|(hb.block _ (lbk j.o)).trans j.o;replace k:=qh<|(hb.block _ (lbk k.o)).trans k.o;replace l:=qh<|(hb.block _ (lbk l.o)).trans l.o;replace g:=qh<|g.o.trans (hb.mono g.o.size);clear hb;clear d
  rcases hr with⟨_,rfl⟩|⟨U,rfl⟩
  rotate_left
  ·exact absurd i7.o U
  have m0:=cellOf m.o.1 0 rfl;have m1:=cellOf m.o.1 1 rfl;have A:=cellOf m.o.1 2 rfl;have B:=cellOf m.o.1 3 rfl;have n0:=cellOf j.o 0 rfl;have n1:=cellOf j.o 1 rfl;have n2:=cellOf j.o 2 rfl;have n3:=cellOf j.o 3 rfl;have d:=qh<|Cx r3 (K.o r3 g.o)
  go_wp2_with fail
  clear m0 m1 A B;clear n0 n1 n2 n3;refine d.o.mono ?_;rintro r v6⟨rfl,hb⟩;replace m:=qh<|m.o.on hb;replace j:=qh<|(hb.block _ (lbk j.o)).trans j.o;replace k:=qh<|(hb.block _ (lbk k.o)).trans k.o;replace l:=qh<|(hb.block _ (lbk l.o)).trans l.o;replace g:=qh<|g.o.trans (hb.mono g.o.size);clear hb;clear d;go_wp2;go_ret;exact⟨rfl,g.o⟩
 rw[b8]at L;have d:=qh L;clear L;have t7:=qh b8;clear b8
 go_wp2_with fail
 clear q0 q1 q2;refine d.o.mono ?_;rintro r o6⟨rfl,rfl⟩;clear d;have m0:=cellOf m.o.1 0 rfl;have m1:=cellOf m.o.1 1 rfl;have A:=cellOf m.o.1 2 rfl;have B:=cellOf m.o.1 3 rfl;have q0:=cellOf k.o 0 rfl;have q1:=cellOf k.o 1 rfl;have q2:=cellOf k.o 2 rfl;have d:=qh<|Qn (D:=M) o6 m.o.ma g1.o (l3.o o6 g.o) (l2.o o6 g.o)
 go_wp2_with fail
 clear m0 m1 A B;clear q0 q1 q2;refine d.o.mono ?_;rintro r o7⟨hb,⟨l1,l0⟩,rfl,hz⟩;replace m:=qh<|m.o.on hb;replace j:=qh<|(hb.block _ (lbk j.o)).trans j.o;replace k:=qh<|(hb.block _ (lbk k.o)).trans k.o;replace l:=qh<|(hb.block _ (lbk l.o)).trans l.o;replace g:=qh<|g.o.trans (hb.mono g.o.size);clear hb;clear d;have o9:=qh hz;clear hz;have q0:=cellOf k.o 0 rfl;have q1:=cellOf k.o 1 rfl;have q2:=cellOf k.o 2 rfl;have d:=qh (Yz o7 (l3.o o7 g.o) (f8.o o7 g.o) (by have:=j4.o;omega) (by have:=h5.o;omega))
 go_wp2_with fail
 clear q0 q1 q2;refine d.o.mono ?_;rintro r f4⟨⟨c,rfl,hc⟩,hb⟩;replace m:=qh<|m.o.on hb;replace j:=qh<|(hb.block _ (lbk j.o)).trans j.o;replace k:=qh<|(hb.block _ (lbk k.o)).trans k.o;replace l:=qh<|(hb.block _ (lbk l.o)).trans l.o;replace g:=qh<|g.o.trans (hb.mono g.o.size);clear hb;clear d;by_cases m4:c=0
 ·skip
  have r7:=qh<|ER.1 (hc.1 m4);clear hc;subst m4;have m0:=cellOf j.o 0 rfl;have m1:=cellOf j.o 1 rfl;have A:=cellOf j.o 2 rfl;have B:=cellOf j.o 3 rfl;have q0:=cellOf k.o 0 rfl;have q1:=cellOf k.o 1 rfl;have q2:=cellOf k.o 2 rfl;have d:=qh<|Qn (D:=D) f4 (d3.o f4 g.o) E.o (f8.o f4 g.o) (l2.o f4 g.o)
  go_wp2_with fail
  clear m0 m1 A B;clear q0 q1 q2;refine d.o.mono ?_;rintro r g4⟨hb,⟨r6,r5⟩,rfl,hz⟩;replace m:=qh<|m.o.on hb;replace j:=qh<|(hb.block _ (lbk j.o)).trans j.o;replace k:=qh<|(hb.block _ (lbk k.o)).trans k.o;replace l:=qh<|(hb.block _ (lbk l.o)).trans l.o;replace g:=qh<|g.o.trans (hb.mono g.o.size);clear hb;clear d;have s4:=qh hz;clear hz;by_cases d0:l0=0
  ·skip
   subst d0;by_cases d0:r5=0
   ·skip
    subst d0;have i6:l1=r6:=by
     rcases o9.o with⟨_,_,_,k1⟩|⟨_,k1⟩
     ·rcases s4.o with⟨_,_,_,k2⟩|⟨_,k2⟩
      ·exact Wv.after a6.o E.o a8.o (LF _) h7.o r7.o (u:=(l1,0)) (v:=(r6,0)) k1 k2 rfl rfl
      simp at k2
     simp at k1
    subst i6;have d:=qh<|Cx g4 (K.o g4 g.o)
    go_wp2_with fail
    refine d.o.mono ?_;rintro r v7⟨rfl,hb⟩;replace m:=qh<|m.o.on hb;replace j:=qh<|(hb.block _ (lbk j.o)).trans j.o;replace k:=qh<|(hb.block _ (lbk k.o)).trans k.o;replace l:=qh<|(hb.block _ (lbk l.o)).trans l.o;replace g:=qh<|g.o.trans (hb.mono g.o.size);clear hb;clear d;go_wp2;go_ret;exact⟨rfl,g.o⟩
   skip
   have p7:¬((r5:Int)=0):=by omega
   clear d0;have d:=qh<|Cx g4 (K.o g4 g.o)
   go_wp2_with fail
   refine d.o.mono ?_;rintro r v8⟨rfl,hb⟩;replace m:=qh<|m.o.on hb;replace j:=qh<|(hb.block _ (lbk j.o)).trans j.o;replace k:=qh<|(hb.block _ (lbk k.o)).trans k.o;replace l:=qh<|(hb.block _ (lbk l.o)).trans l.o;replace g:=qh<|g.o.trans (hb.mono g.o.size);clear hb;clear d;go_wp2;go_ret;exact⟨rfl,g.o⟩
  skip
  have p7:¬((l0:Int)=0):=by omega
  clear d0;have d:=qh<|Cx g4 (K.o g4 g.o)
  go_wp2_with fail
  refine d.o.mono ?_;rintro r v9⟨rfl,hb⟩;replace m:=qh<|m.o.on hb;replace j:=qh<|(hb.block _ (lbk j.o)).trans j.o;replace k:=qh<|(hb.block _ (lbk k.o)).trans k.o;replace l:=qh<|(hb.block _ (lbk l.o)).trans l.o;replace g:=qh<|g.o.trans (hb.mono g.o.size);clear hb;clear d;go_wp2;go_ret;exact⟨rfl,g.o⟩
 skip
 have r9:=qh<|show ¬(nc=na/\∀i,i<nc->z i=x i) from λh=>m4 (hc.2 (ER.2 h));clear hc;by_cases d0:l0=0
 ·skip
  subst d0;have i6:l1=Aj D.kind:=by
   rcases o9.o with⟨_,_,_,k1⟩|⟨_,k1⟩
   ·exact Wv.after0 a6.o E.o a8.o (LF _) h7.o r9.o (u:=(l1,0)) k1 rfl
   simp at k1
  subst i6;have m0:=cellOf j.o 0 rfl;have m1:=cellOf j.o 1 rfl;have A:=cellOf j.o 2 rfl;have B:=cellOf j.o 3 rfl;have d:=qh<|Xa D.kind f4
  go_wp2_with fail
  clear m0 m1 A B;refine d.o.mono ?_;rintro r r4⟨rfl,hb⟩;replace m:=qh<|m.o.on hb;replace j:=qh<|(hb.block _ (lbk j.o)).trans j.o;replace k:=qh<|(hb.block _ (lbk k.o)).trans k.o;replace l:=qh<|(hb.block _ (lbk l.o)).trans l.o;replace g:=qh<|g.o.trans (hb.mono g.o.size);clear hb;clear d;have d:=qh<|Cx r4 (K.o r4 g.o)
  go_wp2_with fail
  refine d.o.mono ?_;rintro r w0⟨rfl,hb⟩;replace m:=qh<|m.o.on hb;replace j:=qh<|(hb.block _ (lbk j.o)).trans j.o;replace k:=qh<|(hb.block _ (lbk k.o)).trans k.o;replace l:=qh<|(hb.block _ (lbk l.o)).trans l.o;replace g:=qh<|g.o.trans (hb.mono g.o.size);clear hb;clear d;go_wp2;go_ret;exact⟨rfl,g.o⟩
 skip
 have p7:¬((l0:Int)=0):=by omega
 clear d0;have d:=qh<|Cx f4 (K.o f4 g.o)
 go_wp2_with fail
 refine d.o.mono ?_;rintro r x0⟨rfl,hb⟩;replace m:=qh<|m.o.on hb;replace j:=qh<|(hb.block _ (lbk j.o)).trans j.o;replace k:=qh<|(hb.block _ (lbk k.o)).trans k.o;replace l:=qh<|(hb.block _ (lbk l.o)).trans l.o;replace g:=qh<|g.o.trans (hb.mono g.o.size);clear hb;clear d;go_wp2;go_ret;exact⟨rfl,g.o⟩
end
end Go.Proofs.YtpldocnhbdlgfaaGreatDoor
