/- Parts. -/
import Derived.Test.YtpldocnhbdlgfaaGreatDoorPa21
namespace Go.Proofs.YtpldocnhbdlgfaaGreatDoor
set_option maxRecDepth 100000
set_option linter.all false
set_option maxHeartbeats 16000000
open Go Tryz
section
open Go.RowKit Go.Deep
def CrnE(A B:MD)(w:World)(r:Ending)(w':World):Prop :=
 Below w.heap.size w w'/\((VM A/\VM B/\AccD A/\AccD B/\A.kind=B.kind/\
  ((∃n M,CmpIr A B n M/\VM M/\MSz M/\∃sv R,r=.returned (.tuple #[.agg #[.int .i64 M.kind,.int .i64 M.start,.string M.lead,sv],.int .i64 0])/\OwM w' w.heap.size sv M R)\/r=.returned (.tuple #[AF,.int .i64 2])))\/
  (VM A/\VM B/\¬(AccD A/\AccD B/\A.kind=B.kind)/\r=.returned (.tuple #[AF,.int .i64 6]))\/(¬(VM A/\VM B)/\r=.returned (.tuple #[AF,.int .i64 1])))
def Ix{D E:MD}{mv nv:Value}(w:World)(f9:Ma none w mv D)(g0:Ma none w nv E)(P:MSz D)(Q:MSz E):Calls prog 20 #[mv,nv] w (CrnE D E w):=by
 obtain⟨g2,b3,d9⟩:=f9;subst b3;obtain⟨d4,d6,_,_,_,_,_,_,X,_⟩:=d9.open;subst X;have b6:=qh<|show ∀W,Below w.heap.size w W->Ma none W (.agg #[.int .i64 D.kind,.int .i64 D.start,.string D.lead,.slice d4 D.n d6]) D from λW h=>⟨_,rfl,d9.kept (Ab h none)⟩;clear d9;replace P:=qh P;obtain⟨g3,b3,e0⟩:=g0;subst b3;obtain⟨d5,d7,_,_,_,_,_,_,X,_⟩:=e0.open;subst X;have b7:=qh<|show ∀W,Below w.heap.size w W->Ma none W (.agg #[.int .i64 E.kind,.int .i64 E.start,.string E.lead,.slice d5 E.n d7]) E from λW h=>⟨_,rfl,e0.kept (Ab h none)⟩;clear e0;replace Q:=qh Q;have c:=qh<|Below.refl w.heap.size w;obtain⟨w1,G⟩:=exq<|w.alloc (.cells #[.int .i64 D.kind,.int .i64 D.start,.string D.lead,.slice d4 D.n d6] 25);obtain⟨i1,a5⟩:=exq<|w.heap.size;have b4:w1.heap.size=w.heap.size+1:=by rw[G];simp
 have hb:Below w.heap.size w w1:=by rw[G];exact(Below.refl _ w).alloc nlr _
 have L:w1.heap[i1]?=some (.cells #[.int .i64 D.kind,.int .i64 D.start,.string D.lead,.slice d4 D.n d6] 25 (0,0)):=by rw[a5,G];exact han w _
 replace c:=nd c hb;clear hb;have j:=qh L;clear L;obtain⟨bA,d0⟩:∃x,x=i1:=⟨_,rfl⟩;rw[<-d0]at j;obtain⟨w2,H⟩:=exq<|w1.alloc (.cells #[.int .i64 E.kind,.int .i64 E.start,.string E.lead,.slice d5 E.n d7] 25);obtain⟨i2,a6⟩:=exq<|w.heap.size+1;have b5:w2.heap.size=w.heap.size+1+1:=by rw[H];simp[b4]
 have hb:Below w1.heap.size w1 w2:=by rw[H];exact(Below.refl _ w1).alloc nlr _
 have L:w2.heap[i2]?=some (.cells #[.int .i64 E.kind,.int .i64 E.start,.string E.lead,.slice d5 E.n d7] 25 (0,0)):=by rw[a6,<-b4,H];exact han w1 _
 replace j:=kb j hb;replace c:=nd c hb;clear hb;have l:=qh L;clear L;obtain⟨bB,d1⟩:∃x,x=i2:=⟨_,rfl⟩;rw[<-d1]at l;obtain⟨w3,I⟩:=exq<|w2.alloc (.cells #[.int .i64 0,.int .i64 0,.string ⟨#[]⟩,.slice none 0 0] 25);obtain⟨i3,a9⟩:=exq<|w.heap.size+1+1;have e7:w3.heap.size=w.heap.size+1+1+1:=by rw[I];simp[b5]
 have hb:Below w2.heap.size w2 w3:=by rw[I];exact(Below.refl _ w2).alloc nlr _
 have L:w3.heap[i3]?=some (.cells #[.int .i64 0,.int .i64 0,.string ⟨#[]⟩,.slice none 0 0] 25 (0,0)):=by rw[a9,<-b5,I];exact han w2 _
 replace j:=kb j hb;replace l:=kb l hb;replace c:=nd c hb;clear hb;have k:=qh L;clear L;obtain⟨K,d8⟩:∃x,x=i3:=⟨_,rfl⟩;rw[<-d8]at k;have J:=qh (show w.heap.size<=K by omega)
 go_enter func20,ntmps20
 have m0:=cellOf j.o 0 rfl;have m1:=cellOf j.o 1 rfl;have z:=cellOf j.o 2 rfl;have A:=cellOf j.o 3 rfl;rw[I,H,G]at m0 m1 z A;rw[d0,a5]at m0 m1 z A;have n0:=cellOf l.o 0 rfl;have n1:=cellOf l.o 1 rfl;have n2:=cellOf l.o 2 rfl;have n3:=cellOf l.o 3 rfl;rw[I,H,G]at n0 n1 n2 n3;rw[d1,a6]at n0 n1 n2 n3;have f7:=qh c.o.size;have d:=qh<|Gm w3 (b6.o w3 c.o) (b7.o w3 c.o) P.o Q.o
 go_wp2_with fail
 clear m0 m1 z A;clear n0 n1 n2 n3;rw[<-a9,<-a6,<-a5,<-G,<-H,<-I];rw[<-d0];rw[<-d1];rw[<-d8];clear G b4 a5;clear H b5 a6;clear I e7 a9;clear d0;clear d1;clear d8;refine d.o.mono ?_;rintro r B⟨hb,hr⟩;replace j:=kb j hb;replace l:=kb l hb;replace k:=kb k hb;replace c:=nd c hb;clear hb;clear d
 rcases hr with⟨Y,Z,U,⟨n,M,e1,e2,e3,g1,R,rfl,b2⟩|rfl⟩|⟨Y,Z,U,rfl⟩|⟨hv,rfl⟩
 rotate_left
 ·skip
  have s:=qh Y;clear Y;have u:=qh Z;clear Z;have a8:=qh U;clear U;unfold AF;obtain⟨w5,N⟩:=exq<|B.alloc (.cells #[.int .i64 0,.int .i64 0,.string ⟨#[]⟩,.slice none 0 0] 25);obtain⟨i5,b0⟩:=exq<|B.heap.size;have e8:w5.heap.size=B.heap.size+1:=by rw[N];simp
  have hb:Below B.heap.size B w5:=by rw[N];exact(Below.refl _ B).alloc nlr _
  have L:w5.heap[i5]?=some (.cells #[.int .i64 0,.int .i64 0,.string ⟨#[]⟩,.slice none 0 0] 25 (0,0)):=by rw[b0,N];exact han B _
  replace j:=kb j hb;replace l:=kb l hb;replace k:=kb k hb;replace c:=nd c hb;clear hb;have m:=qh L;clear L;obtain⟨bM,o⟩:∃x,x=i5:=⟨_,rfl⟩;rw[<-o]at m;have m0:=cellOf j.o 0 rfl;have m1:=cellOf j.o 1 rfl;have z:=cellOf j.o 2 rfl;have A:=cellOf j.o 3 rfl;rw[N]at m0 m1 z A;have d:=qh<|Ed w5 (b6.o w5 c.o) P.o
  go_wp2_with fail
  clear m0 m1 z A;rw[<-b0,<-N];rw[<-o];clear N e8 b0;clear o;refine d.o.mono ?_;rintro r w6⟨hb,hr⟩;replace j:=kb j hb;replace l:=kb l hb;replace k:=kb k hb;replace m:=kb m hb;replace c:=nd c hb;clear hb;clear d
  rcases hr with⟨g,rfl⟩|⟨g,rfl⟩
  ·skip
   have a2:=qh g.2;clear g;have m0:=cellOf l.o 0 rfl;have m1:=cellOf l.o 1 rfl;have z:=cellOf l.o 2 rfl;have A:=cellOf l.o 3 rfl;have d:=qh<|Ed w6 (b7.o w6 c.o) Q.o
   go_wp2_with fail
   clear m0 m1 z A;refine d.o.mono ?_;rintro r w7⟨hb,hr⟩;replace j:=kb j hb;replace l:=kb l hb;replace k:=kb k hb;replace m:=kb m hb;replace c:=nd c hb;clear hb;clear d
   rcases hr with⟨g,rfl⟩|⟨g,rfl⟩
   ·skip
    have a4:=qh g.2;clear g;have m0:=cellOf m.o 0 rfl;have m1:=cellOf m.o 1 rfl;have z:=cellOf m.o 2 rfl;have A:=cellOf m.o 3 rfl;obtain⟨⟨r0,r1,r2,r3⟩,i⟩:=cells4 k.o;have f0:=i 0;have f1:=i 1;have f2:=i 2;have f3:=i 3;clear i
    go_wp2_with fail
    clear m0 m1 z A;exact bodyPost_ret (AE rfl _ (b:=K) rfl rfl (AA w7 K _ _ _ _ k.o)) rfl ⟨Au c.o J.o _ _ _ _,.inl ⟨s.o,u.o,a2.o,a4.o,a8.o,.inr rfl⟩⟩
   skip
   have F:=qh g;clear g;obtain⟨⟨r0,r1,r2,r3⟩,i⟩:=cells4 k.o;have f0:=i 0;have f1:=i 1;have f2:=i 2;have f3:=i 3;clear i
   go_wp2_with fail
   exact bodyPost_ret (AE rfl _ (b:=K) rfl rfl (AA w7 K _ _ _ _ k.o)) rfl ⟨Au c.o J.o _ _ _ _,.inr (.inl ⟨s.o,u.o,λh=>F.o ⟨u.o,h.2.1⟩,rfl⟩)⟩
  skip
  have F:=qh g;clear g;obtain⟨⟨r0,r1,r2,r3⟩,i⟩:=cells4 k.o;have f0:=i 0;have f1:=i 1;have f2:=i 2;have f3:=i 3;clear i
  go_wp2_with fail
  exact bodyPost_ret (AE rfl _ (b:=K) rfl rfl (AA w6 K _ _ _ _ k.o)) rfl ⟨Au c.o J.o _ _ _ _,.inr (.inl ⟨s.o,u.o,λh=>F.o ⟨s.o,h.1⟩,rfl⟩)⟩
 ·skip
  have s:=qh Y;clear Y;have u:=qh Z;clear Z;have a8:=qh U;clear U;unfold AF;obtain⟨w8,O⟩:=exq<|B.alloc (.cells #[.int .i64 0,.int .i64 0,.string ⟨#[]⟩,.slice none 0 0] 25);obtain⟨i8,b1⟩:=exq<|B.heap.size;have e9:w8.heap.size=B.heap.size+1:=by rw[O];simp
  have hb:Below B.heap.size B w8:=by rw[O];exact(Below.refl _ B).alloc nlr _
  have L:w8.heap[i8]?=some (.cells #[.int .i64 0,.int .i64 0,.string ⟨#[]⟩,.slice none 0 0] 25 (0,0)):=by rw[b1,O];exact han B _
  replace j:=kb j hb;replace l:=kb l hb;replace k:=kb k hb;replace c:=nd c hb;clear hb;have m:=qh L;clear L;obtain⟨bM,o⟩:∃x,x=i8:=⟨_,rfl⟩;rw[<-o]at m;have m0:=cellOf j.o 0 rfl;have m1:=cellOf j.o 1 rfl;have z:=cellOf j.o 2 rfl;have A:=cellOf j.o 3 rfl;rw[O]at m0 m1 z A;have d:=qh<|Ed w8 (b6.o w8 c.o) P.o
  go_wp2_with fail
  clear m0 m1 z A;rw[<-b1,<-O];rw[<-o];clear O e9 b1;clear o;refine d.o.mono ?_;rintro r w9⟨hb,hr⟩;replace j:=kb j hb;replace l:=kb l hb;replace k:=kb k hb;replace m:=kb m hb;replace c:=nd c hb;clear hb;clear d
  rcases hr with⟨g,rfl⟩|⟨g,rfl⟩
  ·skip
   have a2:=qh g.2;clear g;have m0:=cellOf l.o 0 rfl;have m1:=cellOf l.o 1 rfl;have z:=cellOf l.o 2 rfl;have A:=cellOf l.o 3 rfl;have d:=qh<|Ed w9 (b7.o w9 c.o) Q.o
   go_wp2_with fail
   clear m0 m1 z A;refine d.o.mono ?_;rintro r f4⟨hb,hr⟩;replace j:=kb j hb;replace l:=kb l hb;replace k:=kb k hb;replace m:=kb m hb;replace c:=nd c hb;clear hb;clear d
   rcases hr with⟨g,rfl⟩|⟨g,rfl⟩
   ·skip
    have a4:=qh g.2;clear g;have m0:=cellOf m.o 0 rfl;have m1:=cellOf m.o 1 rfl;have z:=cellOf m.o 2 rfl;have A:=cellOf m.o 3 rfl;obtain⟨⟨r0,r1,r2,r3⟩,i⟩:=cells4 k.o;have f0:=i 0;have f1:=i 1;have f2:=i 2;have f3:=i 3;clear i
    go_wp2_with fail
    clear m0 m1 z A;exact bodyPost_ret (AE rfl _ (b:=K) rfl rfl (AA f4 K _ _ _ _ k.o)) rfl ⟨Au c.o J.o _ _ _ _,.inr (.inl ⟨s.o,u.o,λh=>a8.o h.2.2,rfl⟩)⟩
   skip
   have F:=qh g;clear g;obtain⟨⟨r0,r1,r2,r3⟩,i⟩:=cells4 k.o;have f0:=i 0;have f1:=i 1;have f2:=i 2;have f3:=i 3;clear i
   go_wp2_with fail
   exact bodyPost_ret (AE rfl _ (b:=K) rfl rfl (AA f4 K _ _ _ _ k.o)) rfl ⟨Au c.o J.o _ _ _ _,.inr (.inl ⟨s.o,u.o,λh=>F.o ⟨u.o,h.2.1⟩,rfl⟩)⟩
  skip
  have F:=qh g;clear g;obtain⟨⟨r0,r1,r2,r3⟩,i⟩:=cells4 k.o;have f0:=i 0;have f1:=i 1;have f2:=i 2;have f3:=i 3;clear i
  go_wp2_with fail
  exact bodyPost_ret (AE rfl _ (b:=K) rfl rfl (AA w9 K _ _ _ _ k.o)) rfl ⟨Au c.o J.o _ _ _ _,.inr (.inl ⟨s.o,u.o,λh=>F.o ⟨s.o,h.1⟩,rfl⟩)⟩
 ·skip
  replace hv:=qh hv;unfold AF;obtain⟨a7,p⟩:=exq<|B.alloc (.cells #[.int .i64 0,.int .i64 0,.string ⟨#[]⟩,.slice none 0 0] 25);obtain⟨d2,S⟩:=exq<|B.heap.size;have e4:a7.heap.size=B.heap.size+1:=by rw[p];simp
  have hb:Below B.heap.size B a7:=by rw[p];exact(Below.refl _ B).alloc nlr _
  have L:a7.heap[d2]?=some (.cells #[.int .i64 0,.int .i64 0,.string ⟨#[]⟩,.slice none 0 0] 25 (0,0)):=by rw[S,p];exact han B _
  replace j:=kb j hb;replace l:=kb l hb;replace k:=kb k hb;replace c:=nd c hb;clear hb;have m:=qh L;clear L;obtain⟨bM,o⟩:∃x,x=d2:=⟨_,rfl⟩;rw[<-o]at m;have m0:=cellOf m.o 0 rfl;have m1:=cellOf m.o 1 rfl;have z:=cellOf m.o 2 rfl;have A:=cellOf m.o 3 rfl;rw[p]at m0 m1 z A;rw[o,S]at m0 m1 z A;obtain⟨⟨r0,r1,r2,r3⟩,i⟩:=cells4 k.o;have f0:=i 0;have f1:=i 1;have f2:=i 2;have f3:=i 3;clear i;rw[p]at r0 r1 r2 r3 f0 f1 f2 f3
  go_wp2_with fail
  clear m0 m1 z A;rw[<-S,<-p];rw[<-o];clear p e4 S;clear o;exact bodyPost_ret (AE rfl _ (b:=K) rfl rfl (AA a7 K _ _ _ _ k.o)) rfl ⟨Au c.o J.o _ _ _ _,.inr (.inr ⟨hv.o,rfl⟩)⟩
 have s:=qh Y;clear Y;have u:=qh Z;clear Z;have a8:=qh U;clear U;replace e1:=qh e1;replace e2:=qh e2;replace e3:=qh e3;obtain⟨b8,b9,X,_,_⟩:=Ax b2.top;have X:_=Value.slice b8 M.n b9:=X;subst X;have OM:=qh<|CJ b2 f7.o;clear b2;obtain⟨a1,C⟩:=exq<|B.alloc (.cells #[.int .i64 M.kind,.int .i64 M.start,.string M.lead,.slice b8 M.n b9] 25);obtain⟨d3,T⟩:=exq<|B.heap.size;have e5:a1.heap.size=B.heap.size+1:=by rw[C];simp
 have hb:Below B.heap.size B a1:=by rw[C];exact(Below.refl _ B).alloc nlr _
 have L:a1.heap[d3]?=some (.cells #[.int .i64 M.kind,.int .i64 M.start,.string M.lead,.slice b8 M.n b9] 25 (0,0)):=by rw[T,C];exact han B _
 replace OM:=qh<|Dd OM.o hb;replace j:=kb j hb;replace l:=kb l hb;replace k:=kb k hb;replace c:=nd c hb;clear hb;have m:=qh L;clear L;obtain⟨bM,o⟩:∃x,x=d3:=⟨_,rfl⟩;rw[<-o]at m;have m0:=cellOf j.o 0 rfl;have m1:=cellOf j.o 1 rfl;have z:=cellOf j.o 2 rfl;have A:=cellOf j.o 3 rfl;rw[C]at m0 m1 z A;have d:=qh<|Ed a1 (b6.o a1 c.o) P.o
 go_wp2_with fail
 clear m0 m1 z A;rw[<-T,<-C];rw[<-o];clear C e5 T;clear o;refine d.o.mono ?_;rintro r e6⟨hb,hr⟩;replace OM:=qh<|Dd OM.o hb;replace j:=kb j hb;replace l:=kb l hb;replace k:=kb k hb;replace m:=kb m hb;replace c:=nd c hb;clear hb;clear d
 rcases hr with⟨g,rfl⟩|⟨g,rfl⟩
 ·skip
  have a2:=qh g.2;clear g;have m0:=cellOf l.o 0 rfl;have m1:=cellOf l.o 1 rfl;have z:=cellOf l.o 2 rfl;have A:=cellOf l.o 3 rfl;have d:=qh<|Ed e6 (b7.o e6 c.o) Q.o
  go_wp2_with fail
  clear m0 m1 z A;refine d.o.mono ?_;rintro r f5⟨hb,hr⟩;replace OM:=qh<|Dd OM.o hb;replace j:=kb j hb;replace l:=kb l hb;replace k:=kb k hb;replace m:=kb m hb;replace c:=nd c hb;clear hb;clear d
  rcases hr with⟨g,rfl⟩|⟨g,rfl⟩
  ·skip
   have a4:=qh g.2;clear g;have m0:=cellOf m.o 0 rfl;have m1:=cellOf m.o 1 rfl;have z:=cellOf m.o 2 rfl;have A:=cellOf m.o 3 rfl;obtain⟨⟨r0,r1,r2,r3⟩,i⟩:=cells4 k.o;have f0:=i 0;have f1:=i 1;have f2:=i 2;have f3:=i 3;clear i;have f8:=qh<|OM.o.box4 k.o (.int .i64 M.kind) (.int .i64 M.start) (.string M.lead) (.slice b8 M.n b9)
   go_wp2_with fail
   clear m0 m1 z A;exact bodyPost_ret (AE rfl _ (b:=K) rfl rfl (AA f5 K _ _ _ _ k.o)) rfl ⟨Au c.o J.o _ _ _ _,.inl ⟨s.o,u.o,a2.o,a4.o,a8.o,.inl ⟨n,M,e1.o,e2.o,e3.o,_,R,rfl,f8.o⟩⟩⟩
  skip
  have F:=qh g;clear g;obtain⟨⟨r0,r1,r2,r3⟩,i⟩:=cells4 k.o;have f0:=i 0;have f1:=i 1;have f2:=i 2;have f3:=i 3;clear i
  go_wp2_with fail
  exact bodyPost_ret (AE rfl _ (b:=K) rfl rfl (AA f5 K _ _ _ _ k.o)) rfl ⟨Au c.o J.o _ _ _ _,.inr (.inl ⟨s.o,u.o,λh=>F.o ⟨u.o,h.2.1⟩,rfl⟩)⟩
 skip
 have F:=qh g;clear g;obtain⟨⟨r0,r1,r2,r3⟩,i⟩:=cells4 k.o;have f0:=i 0;have f1:=i 1;have f2:=i 2;have f3:=i 3;clear i
 go_wp2_with fail
 exact bodyPost_ret (AE rfl _ (b:=K) rfl rfl (AA e6 K _ _ _ _ k.o)) rfl ⟨Au c.o J.o _ _ _ _,.inr (.inl ⟨s.o,u.o,λh=>F.o ⟨s.o,h.1⟩,rfl⟩)⟩
end
end Go.Proofs.YtpldocnhbdlgfaaGreatDoor
