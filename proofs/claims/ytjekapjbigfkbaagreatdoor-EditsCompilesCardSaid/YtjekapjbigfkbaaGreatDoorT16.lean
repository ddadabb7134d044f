/- Parts of a proof: W8V W8E W9A W9B W9C W9D. -/
import Derived.Test.YtjekapjbigfkbaaGreatDoorT08
import Derived.Test.YtjekapjbigfkbaaGreatDoorT07
import Derived.Test.YtjekapjbigfkbaaGreatDoorT14
import Derived.Test.YtjekapjbigfkbaaGreatDoorT15
import Derived.Test.YtjekapjbigfkbaaGreatDoorT12
import Derived.Test.YtjekapjbigfkbaaGreatDoorT10
namespace Go.Proofs.YtjekapjbigfkbaaGreatDoor
set_option maxRecDepth 100000
set_option linter.unusedSimpArgs false
set_option linter.unusedVariables false
set_option linter.unusedSectionVars false
set_option maxHeartbeats 16000000
open Go Tryz
section
open Go.RowKit Go.Deep
theorem v5i (w:World) (o:Obj):Below w.heap.size w (w.alloc o):=(Below.refl _ _).alloc (Nat.le_refl _) _
theorem y8h {D:MD} {v:Value} (w:World) (hM:Ma none w v D) (hs:MSz D):Calls prog 25 #[v] w (ValidE D w):=by
 obtain⟨sv,rfl,hS⟩:=hM;obtain⟨a,R,b,b0,A,C,BB,O,rfl,ha,hc,hm,hb,b7⟩:=hS.open;unfold maxLen at hm;clear hS;have E:=BoxM.new w D (.slice a D.n R);have b9:=v5i w (.cells #[.int .i64 D.kind,.int .i64 D.start,.string D.lead,.slice a D.n R] 36);have l0:=hs.n;have U:=qh hs;clear hs;have HA:=qh ha;clear ha;have HB:=qh hb;clear hb;have HR:=qh b7;clear b7;have m0:=E.c0;have m1:=E.c1;have m2:=E.c2;have m3:=E.c3;have S:=qh E;clear E;have B:=qh b9;clear b9;have h8:=qh (fun wx=>z1w D.kind wx);have i6:=qh (fun wx=>z6s D.kind D.lead wx U.out.lead)
 go_enter func25,ntmps25
 go_wp2_with fail
 refine(h8.out _).mono ?_;rintro r w1 ⟨rfl,rfl⟩;cases d6:z8i D.kind
 ·go_wp2_with fail
  go_ret;exact⟨B.out,.inr ⟨fun v=>by have u:=v.kind;rw[d6] at u;exact absurd u (by simp),rfl⟩⟩
 by_cases j9:D.n<1
 ·have g2:decide ((D.n:Int)<1)=true:=by simp;omega
  go_wp2_with fail
  go_ret;exact⟨B.out,.inr ⟨fun v=>by have u:=v.n1;omega,rfl⟩⟩
 have g2:decide ((D.n:Int)<1)=false:=by simp;omega
 by_cases k9:3000<D.n
 ·have f8:decide ((3000:Int)<(D.n:Int))=true:=by simp;omega
  go_wp2_with fail
  go_ret;exact⟨B.out,.inr ⟨fun v=>by have u:=v.n2;omega,rfl⟩⟩
 have f8:decide ((3000:Int)<(D.n:Int))=false:=by simp;omega
 by_cases j7:D.start<0
 ·go_wp2_with fail
  go_ret;exact⟨B.out,.inr ⟨fun v=>by have u:=v.s0;omega,rfl⟩⟩
 have j4:decide (D.start<0)=false:=by simp;omega
 by_cases k0:(D.n:Int)<=D.start
 ·go_wp2_with fail
  go_ret;exact⟨B.out,.inr ⟨fun v=>by have u:=v.s1;omega,rfl⟩⟩
 have i9:decide ((D.n:Int)<=D.start)=false:=by simp;omega
 have c6:1<=D.n/\D.n<=3000/\0<=D.start/\D.start<(D.n:Int):=by omega
 have g5:=qh c6;clear c6;have g7:=qh d6;clear d6
 go_wp2_with fail
 obtain⟨wm,a1⟩:=exq (w.alloc (.cells #[.int .i64 D.kind,.int .i64 D.start,.string D.lead,.slice a D.n R] 36));obtain⟨mb,b2⟩:=exq (w.heap.size);rw[<- a1,<- b2] at S;rw[<- a1] at B;rw[<- a1,<- b2] at m0 m1 m2 m3;rw[<- a1,<- b2];clear a1 b2;refine(i6.out _).mono ?_;rintro r w1 ⟨rfl,b3⟩;clear m0 m1 m2 m3;cases hw:z0r D.kind D.lead
 ·go_wp2_with fail
  go_ret;exact⟨B.out.trans (b3.mono B.out.size),.inr ⟨fun v=>by rw[v.lead] at hw;exact absurd hw (by simp),rfl⟩⟩
 have c9:=S.out.kept (z0c b3 none) (by simp);have c7:=B.out.trans (b3.mono B.out.size);clear b3;have h6:=qh hw;clear hw;have c8:=qh c9;clear c9 S;have b8:=qh c7;clear c7 B
 go_wp2_with fail
 go_loopw [3,4] (fun c i wr=>∃ q ct:Nat,q<=D.n/\i=.int .i64 (q:Int)/\c=.int .i64 (ct:Int)/\ct=z1k D q/\ct<=30000 /\
  (∀ l,l<q->(D.fin l=⟨#[]⟩\/z0r D.kind (D.fin l)=true)/\∀ k,k<D.na l->ArcOk D l k)/\BoxM wr mb D (.slice a D.n R)/\Below w.heap.size w wr) (fun _ i _=>D.n-(intOf i).toNat)
 case atStart=>exact⟨0,0,Nat.zero_le _,rfl,rfl,rfl,by omega,fun l hl=>by omega,c8.out,b8.out⟩
 obtain⟨q,ct,hq,rfl,rfl,b4,i2,g4,d0,e5⟩:=hrel;clear c8 b8;have m3:=d0.c3;have b1:=qh g4;clear g4;have S:=qh d0;clear d0;have a9:=qh e5;clear e5;by_cases s:q<D.n
 ·have j6:(q:Int)<(D.n:Int):=by omega
  have j5:(0:Int)<=(q:Int):=by omega
  obtain rfl:=HA.out (by omega);have d9:=(HB.out (by omega)).1;obtain⟨k1,k2,k3,k4,k5,k6,k7⟩:=HR.out q s;obtain⟨aq,f9⟩:=exq (A q);rw[<- f9] at k2 k5;clear f9;have c0:=(a9.out.cell (p:=⟨b,b0+q*2,none⟩) d9).trans k1;have c1:=(a9.out.cell (p:=⟨b,b0+q*2+1,none⟩) d9).trans k2;unfold maxLen at k4;have P:=fun o=>(BoxM.c0 (S.out.kept (World.grownBy_alloc wr o none) (by simp)));have b6:=qh (fun o=>S.out.kept (World.grownBy_alloc wr o none) (by simp));have N:=qh (fun o=>a9.out.alloc a9.out.size o);have e4:=qh (fun o=>z3i wr #[.string (D.fin q),.slice aq (D.na q) (C q)] o 1 _ rfl);clear k1 k2;have g3:=qh k7;clear k7;have e9:=qh k5;clear k5;have e6:=qh k6;clear k6;have j8:=U.out.na q;have i3:IntKind.i64.wrap ((ct:Int)+(D.na q:Int))=(ct:Int)+(D.na q:Int):=by rw[IntKind.wrap_i64];omega
  by_cases hG:30000<ct+D.na q
  ·have g9:decide ((30000:Int)<(ct:Int)+(D.na q:Int))=true:=by simp;omega
   go_wp2_with fail
   go_ret;exact⟨N.out _,.inr ⟨fun v=>by have u:=v.arcs;have K:=z5a D (show q+1<=D.n by omega);have h3:z1k D (q+1)=z1k D q+D.na q:=rfl;omega,rfl⟩⟩
  have g9:decide ((30000:Int)<(ct:Int)+(D.na q:Int))=false:=by simp;omega
  have i8:z1k D q+D.na q<=30000:=by omega
  subst b4;obtain⟨xb,Q⟩:=exq (wr.heap.size);cases hF:((D.fin q).toList==[])
  ·have h0:=qh (fun wx=>z6s D.kind (D.fin q) wx (U.out.fin q))
   go_wp2_with fail
   refine(h0.out _).mono ?_;rintro r w2 ⟨rfl,a6⟩;cases b5:z0r D.kind (D.fin q)
   ·go_wp2_with fail
    go_ret;exact⟨(N.out _).trans (a6.mono (N.out _).size),.inr ⟨fun v=>by
     rcases v.fin q s with u|u
     ·rw[u] at hF;exact absurd hF (by simp)
     rw[u] at b5;exact absurd b5 (by simp),rfl⟩⟩
   have d8:=(b6.out (.cells #[.string (D.fin q),.slice aq (D.na q) (C q)] 87)).kept (z0c a6 none) (by simp);have g0:=(N.out (.cells #[.string (D.fin q),.slice aq (D.na q) (C q)] 87)).trans (a6.mono (N.out _).size);have L:=(z0c a6 none).cell (e4.out _) (by simp);clear a6 P m3 c0 c1;rw[<- Q] at L;have X:=qh d8;clear d8;have a8:=qh g0;clear g0;have a4:=qh L;clear L;have d1:=qh (show D.fin q=⟨#[]⟩\/z0r D.kind (D.fin q)=true from .inr b5);clear b5
   go_wp2_with fail
   rw[<- Q];clear Q
   go_loopw [6] (fun i wr=>∃ d:Nat,d<=D.na q/\i=.int .i64 (d:Int)/\(∀ k,k<d->ArcOk D q k)/\BoxM wr mb D (.slice (some ⟨b,b0,none⟩) D.n R)/\wr.cell? ⟨xb,1,none⟩=some (.slice aq (D.na q) (C q))/\Below w.heap.size w wr) (fun i _=>D.na q-(intOf i).toNat)
   case atStart=>exact⟨0,Nat.zero_le _,rfl,fun k hk=>by omega,X.out,a4.out,a8.out⟩
   obtain⟨d,hd,rfl,T,H,x1,J⟩:=hrel;clear X a8 a4;have Z:=qh T;clear T;have z:=qh H;clear H;have j:=qh J;clear J;by_cases h:d<D.na q
   ·have h4:(d:Int)<(D.na q:Int):=by omega
    have e7:(0:Int)<=(d:Int):=by omega
    obtain rfl:=e9.out (by omega);have F:=(e6.out (by omega)).1;obtain⟨j0,j1,j2,j3⟩:=g3.out d h;have e0:=(j.out.cell (p:=⟨BB q,O q+d*4,none⟩) F).trans j0;have e1:=(j.out.cell (p:=⟨BB q,O q+d*4+1,none⟩) F).trans j1;have e2:=(j.out.cell (p:=⟨BB q,O q+d*4+2,none⟩) F).trans j2;have e3:=(j.out.cell (p:=⟨BB q,O q+d*4+3,none⟩) F).trans j3;clear j0 j1 j2 j3;have P:=fun o=>(BoxM.c0 (z.out.kept (World.grownBy_alloc wr o none) (by simp)));have d3:=fun o=>(BoxM.c3 (z.out.kept (World.grownBy_alloc wr o none) (by simp)));have a5:=qh (fun o=>z.out.kept (World.grownBy_alloc wr o none) (by simp));have W:=qh (fun o=>(World.grownBy_alloc wr o none).cell x1 (by simp));have g:=qh (fun o=>j.out.alloc j.out.size o);have a3:=qh (fun wx=>z6s D.kind (D.aw q d) wx (U.out.aw q d));by_cases h5:D.ain q d<0
    ·go_wp2_with fail
     go_ret;exact⟨g.out _,.inr ⟨fun v=>by have u:=(v.arc q d s h).i0;omega,rfl⟩⟩
    have f5:decide (D.ain q d<0)=false:=by simp;omega
    by_cases i7:500<D.ain q d
    ·go_wp2_with fail
     go_ret;exact⟨g.out _,.inr ⟨fun v=>by have u:=(v.arc q d s h).i1;omega,rfl⟩⟩
    have g1:decide ((500:Int)<D.ain q d)=false:=by simp;omega
    by_cases h9:D.aout q d<0
    ·go_wp2_with fail
     go_ret;exact⟨g.out _,.inr ⟨fun v=>by have u:=(v.arc q d s h).o0;omega,rfl⟩⟩
    have f7:decide (D.aout q d<0)=false:=by simp;omega
    by_cases i5:500<D.aout q d
    ·go_wp2_with fail
     go_ret;exact⟨g.out _,.inr ⟨fun v=>by have u:=(v.arc q d s h).o1;omega,rfl⟩⟩
    have f4:decide ((500:Int)<D.aout q d)=false:=by simp;omega
    by_cases g8:D.ato q d<0
    ·go_wp2_with fail
     go_ret;exact⟨g.out _,.inr ⟨fun v=>by have u:=(v.arc q d s h).t0;omega,rfl⟩⟩
    have g6:decide (D.ato q d<0)=false:=by simp;omega
    by_cases h7:(D.n:Int)<=D.ato q d
    ·go_wp2_with fail
     go_ret;exact⟨g.out _,.inr ⟨fun v=>by have u:=(v.arc q d s h).t1;omega,rfl⟩⟩
    have f1:decide ((D.n:Int)<=D.ato q d)=false:=by simp;omega
    go_wp2_with fail
    refine(a3.out _).mono ?_;rintro r w4 ⟨rfl,G⟩;have Y:=(a5.out _).kept (z0c G none) (by simp);have d4:=(z0c G none).cell (W.out _) (by simp);have I:=(g.out _).trans (G.mono (g.out _).size);clear G P d3 e0 e1 e2 e3 x1;cases a2:z0r D.kind (D.aw q d)
    ·go_wp2_with fail
     go_ret;exact⟨I,.inr ⟨fun v=>by have u:=(v.arc q d s h).wt;rw[a2] at u;exact absurd u (by simp),rfl⟩⟩
    have d7:=qh a2
    go_wp2_with fail
    go_roundw
    case rel =>
     refine⟨d+1,by omega,by go_num,fun k hk=>?_,Y,d4,I⟩
     rcases Nat.lt_succ_iff_lt_or_eq.1 hk with K|K
     ·exact Z.out k K
     subst K;exact⟨by omega,by omega,by omega,by omega,by omega,by omega,d7.out⟩
    simp[intOf];omega
   have a7:d=D.na q:=by omega
   have e8:¬ ((d:Int)<(D.na q:Int)):=by omega
   have d2:=qh a7;clear a7
   go_wp2_with fail
   go_roundw
   case rel =>
    refine⟨q+1,z1k D q+D.na q,by omega,by go_num,by go_num,rfl,by omega,fun l hl=>?_,z.out,j.out⟩
    rcases Nat.lt_succ_iff_lt_or_eq.1 hl with K|K
    ·exact b1.out l K
    subst K;exact⟨d1.out,fun k hk=>Z.out k (by have:=d2.out;omega)⟩
   simp[intOf];omega
  have f0:D.fin q=⟨#[]⟩:=by rw[beq_iff_eq,Lib.toList_data] at hF;exact ByteArray.ext (Array.toList_inj.1 hF)
  have d1:=qh (show D.fin q=⟨#[]⟩\/z0r D.kind (D.fin q)=true from .inl f0);clear f0;have X:=qh (b6.out (.cells #[.string (D.fin q),.slice aq (D.na q) (C q)] 87));have a8:=qh (N.out (.cells #[.string (D.fin q),.slice aq (D.na q) (C q)] 87));have L:=e4.out 87;rw[<- Q] at L;have a4:=qh L;clear L
  go_wp2_with fail
  rw[<- Q];clear Q P m3 c0 c1
  go_loopw [6] (fun i wr=>∃ d:Nat,d<=D.na q/\i=.int .i64 (d:Int)/\(∀ k,k<d->ArcOk D q k)/\BoxM wr mb D (.slice (some ⟨b,b0,none⟩) D.n R)/\wr.cell? ⟨xb,1,none⟩=some (.slice aq (D.na q) (C q))/\Below w.heap.size w wr) (fun i _=>D.na q-(intOf i).toNat)
  case atStart=>exact⟨0,Nat.zero_le _,rfl,fun k hk=>by omega,X.out,a4.out,a8.out⟩
  obtain⟨d,hd,rfl,T,H,x1,J⟩:=hrel;clear X a8 a4;have Z:=qh T;clear T;have z:=qh H;clear H;have j:=qh J;clear J;by_cases h:d<D.na q
  ·have h4:(d:Int)<(D.na q:Int):=by omega
   have e7:(0:Int)<=(d:Int):=by omega
   obtain rfl:=e9.out (by omega);have F:=(e6.out (by omega)).1;obtain⟨j0,j1,j2,j3⟩:=g3.out d h;have e0:=(j.out.cell (p:=⟨BB q,O q+d*4,none⟩) F).trans j0;have e1:=(j.out.cell (p:=⟨BB q,O q+d*4+1,none⟩) F).trans j1;have e2:=(j.out.cell (p:=⟨BB q,O q+d*4+2,none⟩) F).trans j2;have e3:=(j.out.cell (p:=⟨BB q,O q+d*4+3,none⟩) F).trans j3;clear j0 j1 j2 j3;have P:=fun o=>(BoxM.c0 (z.out.kept (World.grownBy_alloc wr o none) (by simp)));have d3:=fun o=>(BoxM.c3 (z.out.kept (World.grownBy_alloc wr o none) (by simp)));have a5:=qh (fun o=>z.out.kept (World.grownBy_alloc wr o none) (by simp));have W:=qh (fun o=>(World.grownBy_alloc wr o none).cell x1 (by simp));have g:=qh (fun o=>j.out.alloc j.out.size o);have a3:=qh (fun wx=>z6s D.kind (D.aw q d) wx (U.out.aw q d));by_cases h5:D.ain q d<0
   ·go_wp2_with fail
    go_ret;exact⟨g.out _,.inr ⟨fun v=>by have u:=(v.arc q d s h).i0;omega,rfl⟩⟩
   have f5:decide (D.ain q d<0)=false:=by simp;omega
   by_cases i7:500<D.ain q d
   ·go_wp2_with fail
    go_ret;exact⟨g.out _,.inr ⟨fun v=>by have u:=(v.arc q d s h).i1;omega,rfl⟩⟩
   have g1:decide ((500:Int)<D.ain q d)=false:=by simp;omega
   by_cases h9:D.aout q d<0
   ·go_wp2_with fail
    go_ret;exact⟨g.out _,.inr ⟨fun v=>by have u:=(v.arc q d s h).o0;omega,rfl⟩⟩
   have f7:decide (D.aout q d<0)=false:=by simp;omega
   by_cases i5:500<D.aout q d
   ·go_wp2_with fail
    go_ret;exact⟨g.out _,.inr ⟨fun v=>by have u:=(v.arc q d s h).o1;omega,rfl⟩⟩
   have f4:decide ((500:Int)<D.aout q d)=false:=by simp;omega
   by_cases g8:D.ato q d<0
   ·go_wp2_with fail
    go_ret;exact⟨g.out _,.inr ⟨fun v=>by have u:=(v.arc q d s h).t0;omega,rfl⟩⟩
   have g6:decide (D.ato q d<0)=false:=by simp;omega
   by_cases h7:(D.n:Int)<=D.ato q d
   ·go_wp2_with fail
    go_ret;exact⟨g.out _,.inr ⟨fun v=>by have u:=(v.arc q d s h).t1;omega,rfl⟩⟩
   have f1:decide ((D.n:Int)<=D.ato q d)=false:=by simp;omega
   go_wp2_with fail
   refine(a3.out _).mono ?_;rintro r w4 ⟨rfl,G⟩;have Y:=(a5.out _).kept (z0c G none) (by simp);have d4:=(z0c G none).cell (W.out _) (by simp);have I:=(g.out _).trans (G.mono (g.out _).size);clear G P d3 e0 e1 e2 e3 x1;cases a2:z0r D.kind (D.aw q d)
   ·go_wp2_with fail
    go_ret;exact⟨I,.inr ⟨fun v=>by have u:=(v.arc q d s h).wt;rw[a2] at u;exact absurd u (by simp),rfl⟩⟩
   have d7:=qh a2
   go_wp2_with fail
   go_roundw
   case rel =>
    refine⟨d+1,by omega,by go_num,fun k hk=>?_,Y,d4,I⟩
    rcases Nat.lt_succ_iff_lt_or_eq.1 hk with K|K
    ·exact Z.out k K
    subst K;exact⟨by omega,by omega,by omega,by omega,by omega,by omega,d7.out⟩
   simp[intOf];omega
  have a7:d=D.na q:=by omega
  have e8:¬ ((d:Int)<(D.na q:Int)):=by omega
  have d2:=qh a7;clear a7
  go_wp2_with fail
  go_roundw
  case rel =>
   refine⟨q+1,z1k D q+D.na q,by omega,by go_num,by go_num,rfl,by omega,fun l hl=>?_,z.out,j.out⟩
   rcases Nat.lt_succ_iff_lt_or_eq.1 hl with K|K
   ·exact b1.out l K
   subst K;exact⟨d1.out,fun k hk=>Z.out k (by have:=d2.out;omega)⟩
  simp[intOf];omega
 have d5:q=D.n:=by omega
 have e8:¬ ((q:Int)<(D.n:Int)):=by omega
 obtain⟨p1,p2,p3,p4⟩:=g5.out;rw[d5] at b4;have i4:=qh b4;clear b4;have f2:=qh d5;clear d5
 go_wp2_with fail
 go_ret;exact⟨a9.out,.inl ⟨⟨g7.out,p1,p2,p3,p4,h6.out,by rw[<- i4.out];exact i2,fun i hi=>(b1.out i (by have:=f2.out;omega)).1,fun i k hi hk=>(b1.out i (by have:=f2.out;omega)).2 k hk⟩,rfl⟩⟩
end
section
open Go.RowKit Go.Deep
abbrev TbR:=Nat->Nat->Nat->ByteArray
def updT (X:TbR) (a b:Nat) (v:Nat->ByteArray):TbR:=fun i j=>if i=a/\j=b then v else X i j
theorem v1p (X:TbR) (a b:Nat):updT X a b (X a b)=X:=by
 funext i j
 unfold updT
 split
 ·rename_i h;rw[h.1,h.2]
 rfl
def X0R (D:MD):TbR:=fun i j=>if i=0/\j=0 then updS (zerR D.kind) D.start.toNat D.lead else zerR D.kind
def kR (D:MD) (na:Nat) (x:Nat->Int) (nb:Nat) (y:Nat->Int) (i j u v:Nat) (s:TbR × Nat):TbR × Nat :=
 if s.2≠0\/na<i+u\/nb<j+v then s
 else if (z2c D (if u=1 then x i else 0) (if v=1 then y j else 0) (s.1 i j) D.n (zerR D.kind,0)).2≠0 then (s.1,(z2c D (if u=1 then x i else 0) (if v=1 then y j else 0) (s.1 i j) D.n (zerR D.kind,0)).2)
 else if (sumR D.kind (s.1 (i+u) (j+v)) (z2c D (if u=1 then x i else 0) (if v=1 then y j else 0) (s.1 i j) D.n (zerR D.kind,0)).1 D.n).2≠0 then (s.1,(sumR D.kind (s.1 (i+u) (j+v)) (z2c D (if u=1 then x i else 0) (if v=1 then y j else 0) (s.1 i j) D.n (zerR D.kind,0)).1 D.n).2)
 else (updT s.1 (i+u) (j+v) (sumR D.kind (s.1 (i+u) (j+v)) (z2c D (if u=1 then x i else 0) (if v=1 then y j else 0) (s.1 i j) D.n (zerR D.kind,0)).1 D.n).1,0)
def mvR (D:MD) (na:Nat) (x:Nat->Int) (nb:Nat) (y:Nat->Int) (i j:Nat):Nat->TbR × Nat->TbR × Nat
 | 0,s=>s
 | 1,s=>s
 | k+1,s=>kR D na x nb y i j (k % 2) (k / 2) (mvR D na x nb y i j k s)
def colR (D:MD) (na:Nat) (x:Nat->Int) (nb:Nat) (y:Nat->Int) (i:Nat):Nat->TbR × Nat->TbR × Nat
 | 0,s=>s
 | j+1,s=>mvR D na x nb y i j 4 (colR D na x nb y i j s)
def tabR (D:MD) (na:Nat) (x:Nat->Int) (nb:Nat) (y:Nat->Int):Nat->TbR × Nat->TbR × Nat
 | 0,s=>s
 | i+1,s=>colR D na x nb y i (nb+1) (tabR D na x nb y i s)
def wgtR (D:MD) (na:Nat) (x:Nat->Int) (nb:Nat) (y:Nat->Int):ByteArray × Nat :=
 if (tabR D na x nb y (na+1) (X0R D,0)).2≠0 then (⟨#[]⟩,(tabR D na x nb y (na+1) (X0R D,0)).2) else endR D ((tabR D na x nb y (na+1) (X0R D,0)).1 na nb)
section
variable {D:MD} {na:Nat} {x:Nat->Int} {nb:Nat} {y:Nat->Int}
theorem u4z {i j u v:Nat} {s:TbR × Nat} (h:s.2≠0):kR D na x nb y i j u v s=s:=if_pos (.inl h)
theorem v5p {i j k:Nat} {s:TbR × Nat} (c:0<k):mvR D na x nb y i j (k+1) s=kR D na x nb y i j (k % 2) (k / 2) (mvR D na x nb y i j k s):=by
 cases k with
 | zero=>omega
 | succ k=>rfl
theorem y4s {i j k:Nat} {s:TbR × Nat} (h:(mvR D na x nb y i j k s).2≠0):∀ d,mvR D na x nb y i j (k+d) s=mvR D na x nb y i j k s
 | 0=>rfl
 | d+1=>by
  by_cases hk:0<k+d
  ·rw[<- Nat.add_assoc,v5p hk,y4s h d,u4z h]
  have:k=0/\d=0:=by omega
  rw[this.1,this.2];rfl
theorem y1u {i j:Nat} {s:TbR × Nat} (h:(colR D na x nb y i j s).2≠0):∀ d,colR D na x nb y i (j+d) s=colR D na x nb y i j s
 | 0=>rfl
 | d+1=>by
  show mvR D na x nb y i (j+d) 4 (colR D na x nb y i (j+d) s)=_;rw[y1u h d];exact y4s (k:=0) h 4
theorem y5n {i:Nat} {s:TbR × Nat} (h:(tabR D na x nb y i s).2≠0):∀ d,tabR D na x nb y (i+d) s=tabR D na x nb y i s
 | 0=>rfl
 | d+1=>by
  show colR D na x nb y (i+d) (nb+1) (tabR D na x nb y (i+d) s)=_;rw[y5n h d];have:=y1u (D:=D) (na:=na) (x:=x) (nb:=nb) (y:=y) (i:=i+d) (j:=0) (s:=tabR D na x nb y i s) h (nb+1);rw[Nat.zero_add] at this;exact this
theorem y9e {i j k:Nat} {z1 z2 z3 z:TbR × Nat} (l:z1=tabR D na x nb y i (X0R D,0)) (h:z2=colR D na x nb y i j z1) (g:mvR D na x nb y i j k z2=z) (c:z.2≠0) (hi:i<=na) (v:j<=nb) (u:k<=4):wgtR D na x nb y=(⟨#[]⟩,z.2):=by
 have r:mvR D na x nb y i j 4 z2=z:=by
  have:=y4s (D:=D) (na:=na) (x:=x) (nb:=nb) (y:=y) (i:=i) (j:=j) (k:=k) (s:=z2) (by rw[g];exact c) (4-k);rw[show k+(4-k)=4 by omega,g] at this;exact this
 have e2:colR D na x nb y i (j+1) z1=z:=by show mvR D na x nb y i j 4 (colR D na x nb y i j z1)=z;rw[<- h];exact r
 have o:colR D na x nb y i (nb+1) z1=z:=by
  have:=y1u (D:=D) (na:=na) (x:=x) (nb:=nb) (y:=y) (i:=i) (j:=j+1) (s:=z1) (by rw[e2];exact c) (nb-j);rw[show j+1+(nb-j)=nb+1 by omega,e2] at this;exact this
 have d:tabR D na x nb y (i+1) (X0R D,0)=z:=by show colR D na x nb y i (nb+1) (tabR D na x nb y i (X0R D,0))=z;rw[<- l];exact o
 have p:tabR D na x nb y (na+1) (X0R D,0)=z:=by
  have:=y5n (D:=D) (na:=na) (x:=x) (nb:=nb) (y:=y) (i:=i+1) (s:=(X0R D,0)) (by rw[d];exact c) (na-i);rw[show i+1+(na-i)=na+1 by omega,d] at this;exact this
 unfold wgtR;rw[p,if_pos c]
end
def smT (X:TbR):Prop:=∀ i j p,smS (X i j p)
theorem smT.upd {X:TbR} (h:smT X) {a b:Nat} {v:Nat->ByteArray} (c:∀ p,smS (v p)):smT (updT X a b v):=fun i j p=>by
 unfold updT;split
 ·exact c p
 exact h i j p
theorem u4m {D:MD} (h:smS D.lead):smT (X0R D):=fun i j p=>by
 unfold X0R;split
 ·exact x3d (fun _=>y1y _) h p
 exact y1y _
def dn (k jd q j:Nat):Prop:=q+1<k\/(q+1=k/\j<jd)
instance (k jd q j:Nat):Decidable (dn k jd q j):=inferInstanceAs (Decidable (_\/_))
structure TQ (w:World) (B g n1 n2 n k jd:Nat) (r:Nat->Nat) (s:Nat->Nat->Nat) (z:ByteArray):Prop where
 top:w.rowIs g 66 n1 (fun q=>if q<k then .slice (some ⟨r q,0,none⟩) n2 n2 else .slice none 0 0)
 mid:∀ q,q<k->w.rowIs (r q) 67 n2 (fun j=>if dn k jd q j then .slice (some ⟨s q j,0,none⟩) n n else .slice none 0 0)/\B<=r q
 rinj:∀ q q',q<k->q' < k->r q=r q'->q=q'
 vec:∀ q j,q<k->j<n2->dn k jd q j->w.rowIs (s q j) 9 n (fun _=>.string z)/\B<=s q j
 vinj:∀ q j q' j',q<k->j<n2->dn k jd q j->q' < k->j' < n2->dn k jd q' j'->s q j=s q' j'->q=q'/\j=j'
 base:B<=g
theorem y1z {w:World} {g h:Nat} {t i:TypeId} {n m:Nat} {F G:Nat->Value} (l:w.rowIs g t n F) (o:w.rowIs h i m G) (k:t≠i):g≠h:=fun e=>by
 obtain⟨c,d,_⟩:=l;obtain⟨p,j,_⟩:=o;rw[e,j] at d;simp at d;exact k d.2.symm
namespace TQ
variable {w w':World} {B g n1 n2 n k jd:Nat} {r:Nat->Nat} {s:Nat->Nat->Nat} {z:ByteArray}
theorem new (h:TQ w B g n1 n2 n k jd r s z) (d:Fr (fun _=>False) w w'):TQ w' B g n1 n2 n k jd r s z :=
 ⟨d.row h.top (fun e=>e),fun q c=>⟨d.row (h.mid q c).1 (fun e=>e),(h.mid q c).2⟩,h.rinj,fun q j c l i=>⟨d.row (h.vec q j c l i).1 (fun e=>e),(h.vec q j c l i).2⟩,h.vinj,h.base⟩
theorem made (w:World) (d:B<=w.heap.size) (n1 n2 n:Nat) (z:ByteArray):TQ (w.alloc (.cells (madeCells #[.slice none 0 0] n1) 66)) B w.heap.size n1 n2 n 0 n2 (fun _=>0) (fun _ _=>0) z :=
 ⟨(World.rowIs_made w _ n1 _).congr (fun q _=>by rw[if_neg (Nat.not_lt_zero _)]),fun q c=>absurd c (Nat.not_lt_zero _),fun q _ c=>absurd c (Nat.not_lt_zero _),fun q _ c=>absurd c (Nat.not_lt_zero _),fun q _ _ _ c=>absurd c (Nat.not_lt_zero _),d⟩
theorem addRow (h:TQ w B g n1 n2 n k n2 r s z) (N:B<=w.heap.size) :
  TQ ((w.setCell ⟨g,k,none⟩ (.slice (some ⟨w.heap.size,0,none⟩) n2 n2)).alloc (.cells (madeCells #[.slice none 0 0] n2) 67)) B g n1 n2 n (k+1) 0 (fun q=>if q=k then w.heap.size else r q) s z:=by
 have J:=h.top.lt;rw[<- World.setCell_alloc_past _ _ _ _ J];have K:=World.rowIs_made w (.slice none 0 0) n2 67;have v:=h.new (Fr.alloc w (.cells (madeCells #[.slice none 0 0] n2) 67));generalize w.alloc (.cells (madeCells #[.slice none 0 0] n2) 67)=wa at K v;have I:Fr (fun q=>q=g) wa (wa.setCell ⟨g,k,none⟩ (.slice (some ⟨w.heap.size,0,none⟩) n2 n2)):=(Fr.refl (fun q=>q=g) _).set (p:=⟨g,k,none⟩) (.inl rfl) _;have D:∀ q j,q<k->j<n2->(dn (k+1) 0 q j↔dn k n2 q j):=fun q j E i=>by unfold dn;omega
 refine⟨(v.top.set k _).congr (fun q E=>?_),fun q E=>?_,fun q l E G A=>?_,fun q j E i d=>?_,fun q j l L E i d G C u A=>?_,h.base⟩
 ·by_cases e:q=k
  ·subst e;simp
  simp only[if_neg e];by_cases e2:q<k
  ·rw[if_pos e2,if_pos (by omega)]
  rw[if_neg e2,if_neg (by omega)]
 ·by_cases e:q=k
  ·simp only[if_pos e];refine⟨I.row (K.congr (fun j i=>?_)) (by omega),N⟩;rw[if_neg (by unfold dn;omega)]
  simp only[if_neg e];refine⟨I.row ((v.mid q (by omega)).1.congr (fun j i=>?_)) (y1z (v.mid q (by omega)).1 v.top (by decide)),(h.mid q (by omega)).2⟩;by_cases e2:dn k n2 q j
  ·rw[if_pos e2,if_pos ((D q j (by omega) i).2 e2)]
  rw[if_neg e2,if_neg (fun O=>e2 ((D q j (by omega) i).1 O))]
 ·by_cases e:q=k
  ·by_cases F:l=k
   ·omega
   simp only[if_pos e,if_neg F] at A;have:=(h.mid l (by omega)).1.lt;omega
  by_cases F:l=k
  ·simp only[if_neg e,if_pos F] at A;have:=(h.mid q (by omega)).1.lt;omega
  simp only[if_neg e,if_neg F] at A;exact h.rinj q l (by omega) (by omega) A
 ·have c:q<k:=by unfold dn at d;omega
  have H:=v.vec q j c i ((D q j c i).1 d);exact⟨I.row H.1 (y1z H.1 v.top (by decide)),H.2⟩
 have c:q<k:=by unfold dn at d;omega
 have o:l<k:=by unfold dn at u;omega
 exact h.vinj q j l L c i ((D q j c i).1 d) o C ((D l L o C).1 u) A
theorem addVec (h:TQ w B g n1 n2 n (k+1) jd r s z) (Q:jd<n2) {I:World} {v:Nat} (S:Fr (fun _=>False) w I) (P:I.rowIs v 9 n (fun _=>.string z)) (T:B<=w.heap.size) (R:w.heap.size<=v) :
  TQ (I.setCell ⟨r k,jd,none⟩ (.slice (some ⟨v,0,none⟩) n n)) B g n1 n2 n (k+1) (jd+1) r (fun a b=>if a=k/\b=jd then v else s a b) z:=by
 have F:=h.new S;have A:Fr (fun c=>c=r k) I (I.setCell ⟨r k,jd,none⟩ (.slice (some ⟨v,0,none⟩) n n)):=(Fr.refl (fun c=>c=r k) I).set (p:=⟨r k,jd,none⟩) (.inl rfl) _;have l:∀ q j,q<k+1->¬ (q=k/\j=jd)->(dn (k+1) (jd+1) q j↔dn (k+1) jd q j):=fun q j d U=>by unfold dn;omega
 have E:∀ q j,q<k+1->j<n2->dn (k+1) jd q j->s q j<w.heap.size:=fun q j d Q l=>(h.vec q j d Q l).1.lt;refine⟨A.row F.top (fun e=>y1z F.top (F.mid k (by omega)).1 (by decide) e),fun q d=>?_,h.rinj,fun q j d i C=>?_,fun q j G J d i C o K D L=>?_,h.base⟩
 ·by_cases e:q=k
  ·subst e;refine⟨((F.mid q d).1.set jd _).congr (fun j i=>?_),(h.mid q d).2⟩;by_cases e2:j=jd
   ·rw[if_pos e2,if_pos (by unfold dn;omega),if_pos ⟨rfl,e2⟩]
   rw[if_neg e2,if_neg (show ¬ (q=q/\j=jd) by omega)];by_cases u:dn (q+1) jd q j
   ·rw[if_pos u,if_pos ((l q j d (by omega)).2 u)]
   rw[if_neg u,if_neg (fun N=>u ((l q j d (by omega)).1 N))]
  refine⟨(A.row (F.mid q d).1 (fun e2=>e (h.rinj q k d (by omega) e2))).congr (fun j i=>?_),(h.mid q d).2⟩;rw[if_neg (show ¬ (q=k/\j=jd) by omega)];by_cases u:dn (k+1) jd q j
  ·rw[if_pos u,if_pos ((l q j d (by omega)).2 u)]
  rw[if_neg u,if_neg (fun N=>u ((l q j d (by omega)).1 N))]
 ·by_cases e:q=k/\j=jd
  ·simp only[if_pos e];exact⟨A.row P (y1z P (F.mid k (by omega)).1 (by decide)),by omega⟩
  simp only[if_neg e];have O:=F.vec q j d i ((l q j d e).1 C);exact⟨A.row O.1 (y1z O.1 (F.mid k (by omega)).1 (by decide)),O.2⟩
 by_cases e:q=k/\j=jd
 ·by_cases H:G=k/\J=jd
  ·omega
  simp only[if_pos e,if_neg H] at L;have:=E G J o K ((l G J o H).1 D);omega
 by_cases H:G=k/\J=jd
 ·simp only[if_neg e,if_pos H] at L;have:=E q j d i ((l q j d e).1 C);omega
 simp only[if_neg e,if_neg H] at L;exact h.vinj q j G J d i ((l q j d e).1 C) o K ((l G J o H).1 D) L
end TQ
structure TW (w:World) (B g n1 n2 n:Nat) (r:Nat->Nat) (s:Nat->Nat->Nat) (X:TbR):Prop where
 top:w.rowIs g 66 n1 (fun q=>.slice (some ⟨r q,0,none⟩) n2 n2)
 mid:∀ q,q<n1->w.rowIs (r q) 67 n2 (fun j=>.slice (some ⟨s q j,0,none⟩) n n)/\B<=r q
 rinj:∀ q q',q<n1->q' < n1->r q=r q'->q=q'
 vec:∀ q j,q<n1->j<n2->w.rowIs (s q j) 9 n (fun p=>.string (X q j p))
theorem TQ.whole {w:World} {B g n1 n2 n:Nat} {r:Nat->Nat} {s:Nat->Nat->Nat} {k:Int} (h:TQ w B g n1 n2 n n1 n2 r s (z2b k)):TW w B g n1 n2 n r s (fun _ _=>zerR k) :=
 ⟨h.top.congr (fun q c=>by rw[if_pos c]),fun q c=>⟨(h.mid q c).1.congr (fun j d=>by rw[if_pos (by unfold dn;omega)]),(h.mid q c).2⟩,h.rinj,fun q j c d=>(h.vec q j c d (by unfold dn;omega)).1⟩
theorem TQ.lead {w:World} {B g n1 n2:Nat} {r:Nat->Nat} {s:Nat->Nat->Nat} {D:MD} {d:Nat} (h:TQ w B g n1 n2 D.n n1 n2 r s (z2b D.kind)) (A:D.start=(d:Int)) (v:0<n1) (o:0<n2):TW (w.setCell ⟨s 0 0,d,none⟩ (.string D.lead)) B g n1 n2 D.n r s (X0R D)/\B<=s 0 0:=by
 have i:=h.whole;have u:=i.vec 0 0 v o;have k:Fr (fun c=>c=s 0 0) w (w.setCell ⟨s 0 0,d,none⟩ (.string D.lead)):=(Fr.refl (fun c=>c=s 0 0) w).set (p:=⟨s 0 0,d,none⟩) (.inl rfl) _;refine⟨⟨k.row i.top (fun e=>y1z i.top u (by decide) e),fun q l=>⟨k.row (i.mid q l).1 (fun e=>y1z (i.mid q l).1 u (by decide) e),(i.mid q l).2⟩,i.rinj,fun q j l z=>?_⟩,(h.vec 0 0 v o (by unfold dn;omega)).2⟩;by_cases e:q=0/\j=0
 ·obtain⟨rfl,rfl⟩:=e;refine(u.set d _).congr (fun p _=>?_);have C:X0R D 0 0 p=updS (zerR D.kind) d D.lead p:=by
   unfold X0R;rw[if_pos (show (0:Nat)=0/\(0:Nat)=0 from ⟨rfl,rfl⟩),show D.start.toNat=d by omega]
  show _=Value.string (X0R D 0 0 p);rw[C];unfold updS;by_cases e2:p=d
  ·rw[if_pos e2,if_pos e2]
  rw[if_neg e2,if_neg e2]
 refine(k.row (i.vec q j l z) (fun e2=>e (h.vinj q j 0 0 l z (by unfold dn;omega) v o (by unfold dn;omega) e2))).congr (fun p _=>?_);show _=Value.string ((if q=0/\j=0 then updS (zerR D.kind) D.start.toNat D.lead else zerR D.kind) p)
 rw[if_neg e]
namespace TW
variable {w w':World} {B g n1 n2 n:Nat} {r:Nat->Nat} {s:Nat->Nat->Nat} {X:TbR}
theorem new (h:TW w B g n1 n2 n r s X) (d:Fr (fun _=>False) w w'):TW w' B g n1 n2 n r s X :=
 ⟨d.row h.top (fun e=>e),fun q c=>⟨d.row (h.mid q c).1 (fun e=>e),(h.mid q c).2⟩,h.rinj,fun q j c i=>d.row (h.vec q j c i) (fun e=>e)⟩
theorem put (h:TW w B g n1 n2 n r s X) {q j v:Nat} {Z:Nat->ByteArray} (k:q<n1) (o:j<n2) (l:w.rowIs v 9 n (fun p=>.string (Z p))) :
  TW (w.setCell ⟨r q,j,none⟩ (.slice (some ⟨v,0,none⟩) n n)) B g n1 n2 n r (fun a b=>if a=q/\b=j then v else s a b) (updT X q j Z):=by
 have d:Fr (fun c=>c=r q) w (w.setCell ⟨r q,j,none⟩ (.slice (some ⟨v,0,none⟩) n n)):=(Fr.refl (fun c=>c=r q) w).set (p:=⟨r q,j,none⟩) (.inl rfl) _;refine⟨d.row h.top (fun e=>y1z h.top (h.mid q k).1 (by decide) e),fun a i=>?_,h.rinj,fun a b i hb=>?_⟩
 ·by_cases e:a=q
  ·subst e;refine⟨((h.mid a i).1.set j _).congr (fun b hb=>?_),(h.mid a i).2⟩;by_cases e2:b=j
   ·rw[if_pos e2,if_pos ⟨rfl,e2⟩]
   rw[if_neg e2,if_neg (show ¬ (a=a/\b=j) by omega)]
  refine⟨(d.row (h.mid a i).1 (fun e2=>e (h.rinj a q i k e2))).congr (fun b hb=>?_),(h.mid a i).2⟩;rw[if_neg (show ¬ (a=q/\b=j) by omega)]
 by_cases e:a=q/\b=j
 ·simp only[if_pos e];refine(d.row l (y1z l (h.mid q k).1 (by decide))).congr (fun p _=>?_);unfold updT;rw[if_pos e]
 simp only[if_neg e];refine(d.row (h.vec a b i hb) (y1z (h.vec a b i hb) (h.mid q k).1 (by decide))).congr (fun p _=>?_);unfold updT;rw[if_neg e]
end TW
end
section
abbrev WV:=Nat->V
def St (k:Int) (s:ByteArray) (v:V):Prop:=s=vtxt v/\fitV v/\okV k v
theorem St.prs {k:Int} {s:ByteArray} {v:V} (h:St k s v):vprs k s=some v:=by rw[h.1];exact y4i h.2.1 h.2.2
theorem St.of {k:Int} {s:ByteArray} {v:V} (h:vprs k s=some v):St k s v:=by
 obtain⟨c,d⟩:=z5i.1 h;exact⟨(z8f c).1,(z8f c).2,d⟩
theorem v2t {v:V} (h:(limV v).2=0):limV v=(vtxt v,0)/\fitV v:=by
 rcases x8q v with ⟨d,c⟩|⟨_,c⟩
 ·exact⟨c,d⟩
 rw[c] at h;cases h
theorem x6b {k:Int} {a b:ByteArray} {v u:V} (c:St k a v) (hb:St k b u) (h:(z1r k a b).2=0):St k (z1r k a b).1 (z1t k v u):=by
 have d:z1r k a b=limV (z1t k v u):=by unfold z1r;rw[c.prs,hb.prs]
 rw[d] at h ⊢;obtain⟨g,i⟩:=v2t h;rw[g];exact⟨rfl,i,z9f c.2.2 hb.2.2⟩
theorem v2q {k:Int} {a b:ByteArray} {v u:V} (c:St k a v) (hb:St k b u) (h:(z0y k a b).2=0):St k (z0y k a b).1 (z0d k v u):=by
 have d:z0y k a b=limV (z0d k v u):=by unfold z0y;rw[c.prs,hb.prs]
 rw[d] at h ⊢;obtain⟨g,i⟩:=v2t h;rw[g];exact⟨rfl,i,z6m c.2.2 hb.2.2⟩
theorem St.zero {k:Int} (c:k=1\/k=2\/k=3):St k (z2b k) (zeroV k):=⟨y8u c,by have:=v8e c;exact(z8f this).2,x6m c⟩
theorem St.zero_iff {k:Int} (c:k=1\/k=2\/k=3) {s:ByteArray} {v:V} (h:St k s v):s=z2b k↔v=zeroV k:=by
 constructor
 ·intro e;rw[h.1,(St.zero c).1] at e;exact x0a h.2.1 (St.zero c).2.1 e
 intro e;rw[h.1,e,(St.zero c).1]
theorem St.weight {k:Int} {s:ByteArray} (h:z0r k s=true):∃ v,St k s v:=by
 obtain⟨v,c,d⟩:=x2v h;exact⟨v,(z8f c).1,(z8f c).2,u4h d⟩
theorem VM.kd {D:MD} (h:VM D):D.kind=1\/D.kind=2\/D.kind=3:=by have:=h.kind;unfold z8i at this;simp at this;omega
def vOf (k:Int) (s:ByteArray):V:=(vprs k s).getD .inf
def addU (k:Int) (l:WV) (t:Nat) (a b:V):WV:=fun j=>if j=t then z1t k (l t) (z0d k a b) else l j
def arcU (D:MD) (i o:Int) (v:WV) (q k:Nat) (l:WV):WV:=if D.ain q k=i/\D.aout q k=o then addU D.kind l (D.ato q k).toNat (v q) (vOf D.kind (D.aw q k)) else l
def v2u (D:MD) (i o:Int) (v:WV) (q:Nat):Nat->WV->WV
 | 0,l=>l
 | k+1,l=>arcU D i o v q k (v2u D i o v q k l)
def rowU (D:MD) (i o:Int) (v:WV) (q:Nat) (l:WV):WV:=if v q=zeroV D.kind then l else v2u D i o v q (D.na q) l
def x4i (D:MD) (i o:Int) (v:WV):Nat->WV->WV
 | 0,l=>l
 | q+1,l=>rowU D i o v q (x4i D i o v q l)
def sumU (k:Int) (a b:WV):WV:=fun j=>z1t k (a j) (b j)
def finU (D:MD) (v:WV):Nat->V
 | 0=>zeroV D.kind
 | q+1=>if D.fin q=⟨#[]⟩ then finU D v q else z1t D.kind (finU D v q) (z0d D.kind (v q) (vOf D.kind (D.fin q)))
abbrev TbU:=Nat->Nat->WV
def updU (X:TbU) (a b:Nat) (v:WV):TbU:=fun i j=>if i=a/\j=b then v else X i j
def zerU (k:Int):WV:=fun _=>zeroV k
def X0U (D:MD):TbU:=fun i j p=>if i=0/\j=0/\p=D.start.toNat then vOf D.kind D.lead else zeroV D.kind
def kU (D:MD) (na:Nat) (x:Nat->Int) (nb:Nat) (y:Nat->Int) (i j u v:Nat) (X:TbU):TbU :=
 if na<i+u\/nb<j+v then X
 else updU X (i+u) (j+v) (sumU D.kind (X (i+u) (j+v)) (x4i D (if u=1 then x i else 0) (if v=1 then y j else 0) (X i j) D.n (zerU D.kind)))
def mvU (D:MD) (na:Nat) (x:Nat->Int) (nb:Nat) (y:Nat->Int) (i j:Nat):Nat->TbU->TbU
 | 0,s=>s
 | 1,s=>s
 | k+1,s=>kU D na x nb y i j (k % 2) (k / 2) (mvU D na x nb y i j k s)
def colU (D:MD) (na:Nat) (x:Nat->Int) (nb:Nat) (y:Nat->Int) (i:Nat):Nat->TbU->TbU
 | 0,s=>s
 | j+1,s=>mvU D na x nb y i j 4 (colU D na x nb y i j s)
def tabU (D:MD) (na:Nat) (x:Nat->Int) (nb:Nat) (y:Nat->Int):Nat->TbU->TbU
 | 0,s=>s
 | i+1,s=>colU D na x nb y i (nb+1) (tabU D na x nb y i s)
def wgtU (D:MD) (na:Nat) (x:Nat->Int) (nb:Nat) (y:Nat->Int):V:=finU D (tabU D na x nb y (na+1) (X0U D) na nb) D.n
def Rl (k:Int) (n:Nat) (l:Nat->ByteArray) (v:WV):Prop:=∀ p,p<n->St k (l p) (v p)
def Rt (k:Int) (n:Nat) (X:TbR) (U:TbU):Prop:=∀ i j,Rl k n (X i j) (U i j)
theorem v4c {k:Int} {n t:Nat} {l:Nat->ByteArray} {lv:WV} {a b:ByteArray} {g j:V} (h:Rl k n l lv) (v:t<n) (r:St k a g) (hb:St k b j) (c:(addR k l t a b).2=0):Rl k n (addR k l t a b).1 (addU k lv t g j):=by
 unfold addR at c ⊢;by_cases i:(z0y k a b).2≠0
 ·rw[if_pos i] at c;exact absurd c i
 rw[if_neg i] at c ⊢;have o:(z0y k a b).2=0:=by omega
 by_cases d:(z1r k (l t) (z0y k a b).1).2=0
 ·rw[if_pos d];have z:=v2q r hb o;have s:=x6b (h t v) z d;intro p u;show St k (updS l t _ p) (addU k lv t g j p);unfold updS addU;by_cases e:p=t
  ·rw[if_pos e,if_pos e];exact s
  rw[if_neg e,if_neg e];exact h p u
 rw[if_neg d] at c;exact absurd c d
section
variable {D:MD} (hV:VM D)
include hV
theorem x6r {i o:Int} {v:Nat->ByteArray} {vv:WV} {q:Nat} (hq:q<D.n) (hv:St D.kind (v q) (vv q)):∀ (k:Nat) {s:WS} {lv:WV},k<=D.na q->Rl D.kind D.n s.1 lv->(z6n D i o v q k s).2=0->Rl D.kind D.n (z6n D i o v q k s).1 (v2u D i o vv q k lv)
 | 0,s,lv,_,h,_=>h
 | k+1,s,lv,hk,h,he=>by
  have he0:(z6n D i o v q k s).2=0:=by
   by_cases e:(z6n D i o v q k s).2=0
   ·exact e
   unfold z6n arcR at he;rw[if_pos e] at he;exact he
  have ih:=x6r hq hv (i:=i) (o:=o) k (by omega) h he0;unfold z6n arcR at he ⊢;unfold v2u arcU;rw[if_neg (by omega)] at he ⊢;by_cases hm:D.ain q k=i/\D.aout q k=o
  ·rw[if_pos hm] at he ⊢;rw[if_pos hm];have ha:=hV.arc q k hq (by omega);obtain⟨wv,hw⟩:=St.weight ha.wt;have hwv:vOf D.kind (D.aw q k)=wv:=by unfold vOf;rw[hw.prs];rfl
   rw[hwv];exact v4c ih (by have:=ha.t0;have:=ha.t1;omega) hv hw he
  rw[if_neg hm];rw[if_neg hm];exact ih
theorem x6f {i o:Int} {v:Nat->ByteArray} {vv:WV} (hv:Rl D.kind D.n v vv):∀ (q:Nat) {s:WS} {lv:WV},q<=D.n->Rl D.kind D.n s.1 lv->(z2c D i o v q s).2=0->Rl D.kind D.n (z2c D i o v q s).1 (x4i D i o vv q lv)
 | 0,s,lv,_,h,_=>h
 | q+1,s,lv,hq,h,he=>by
  have he0:(z2c D i o v q s).2=0:=by
   by_cases e:(z2c D i o v q s).2=0
   ·exact e
   have h1:z2c D i o v (q+1) s=z2c D i o v q s:=y6i e 1;rw[h1] at he;exact he
  have ih:=x6f hv (i:=i) (o:=o) q (by omega) h he0;have hvq:=hv q (by omega);unfold z2c rowR at he ⊢;unfold x4i rowU;by_cases hz:v q=z2b D.kind
  ·rw[if_pos hz,if_pos ((St.zero_iff hV.kd hvq).1 hz)];exact ih
  rw[if_neg hz] at he;rw[if_neg hz,if_neg (fun e=>hz ((St.zero_iff hV.kd hvq).2 e))];exact x6r hV (by omega) hvq _ (Nat.le_refl _) ih he
omit hV in
theorem v0e {k:Int} {n:Nat} {a b:Nat->ByteArray} {av bv:WV} (ha:Rl k n a av) (hb:Rl k n b bv):∀ m,m<=n->(sumR k a b m).2=0->Rl k m (sumR k a b m).1 (sumU k av bv)
 | 0,_,_=>fun p hp=>absurd hp (Nat.not_lt_zero p)
 | m+1,hm,he=>by
  have he0:(sumR k a b m).2=0:=by
   by_cases e:(sumR k a b m).2=0
   ·exact e
   have h1:=y4y (k:=k) (a:=a) (b:=b) e 1;rw[h1] at he;exact he
  have ih:=v0e ha hb m (by omega) he0;unfold sumR at he ⊢;rw[if_neg (by omega)] at he ⊢;by_cases hp:(z1r k (a m) (b m)).2≠0
  ·rw[if_pos hp] at he;exact absurd he hp
  rw[if_neg hp];intro p hpm;show St k (updS _ m _ p) _;unfold updS;by_cases e:p=m
  ·rw[if_pos e,e];exact x6b (ha m (by omega)) (hb m (by omega)) (by omega)
  rw[if_neg e];exact ih p (by omega)
theorem v1m {v:Nat->ByteArray} {vv:WV} (hv:Rl D.kind D.n v vv):∀ q,q<=D.n->(finR D v q).2=0->St D.kind ((finR D v q).1 0) (finU D vv q)
 | 0,_,_=>St.zero hV.kd
 | q+1,hq,he=>by
  have he0:(finR D v q).2=0:=by
   by_cases e:(finR D v q).2=0
   ·exact e
   have h1:=y6m (D:=D) (v:=v) e 1;rw[h1] at he;exact he
  have ih:=v1m hv q (by omega) he0;unfold finR at he ⊢;unfold finU;rw[if_neg (by omega)] at he ⊢;by_cases hf:D.fin q=⟨#[]⟩
  ·rw[if_pos hf,if_pos hf];exact ih
  rw[if_neg hf] at he;rw[if_neg hf,if_neg hf];obtain⟨wv,hw⟩:=St.weight ((hV.fin q (by omega)).resolve_left hf);have hwv:vOf D.kind (D.fin q)=wv:=by unfold vOf;rw[hw.prs];rfl
  rw[hwv];have h1:=v4c (n:=1) (t:=0) (lv:=fun _=>finU D vv q) (l:=(finR D v q).1) (fun p hp=>by rw[show p=0 by omega];exact ih) (by omega) (hv q (by omega)) hw he 0 (by omega);unfold addU at h1;rw[if_pos rfl] at h1;exact h1
omit hV in
theorem Rt.upd {k:Int} {n:Nat} {X:TbR} {U:TbU} (h:Rt k n X U) {a b:Nat} {v:Nat->ByteArray} {vv:WV} (c:Rl k n v vv):Rt k n (updT X a b v) (updU U a b vv):=by
 intro i j;unfold updT updU;by_cases e:i=a/\j=b
 ·rw[if_pos e,if_pos e];exact c
 rw[if_neg e,if_neg e];exact h i j
variable {na:Nat} {x:Nat->Int} {nb:Nat} {y:Nat->Int}
theorem u5q {i j u v:Nat} {s:TbR × Nat} {U:TbU} (h:Rt D.kind D.n s.1 U) (z:s.2=0) (c:(kR D na x nb y i j u v s).2=0):Rt D.kind D.n (kR D na x nb y i j u v s).1 (kU D na x nb y i j u v U):=by
 unfold kR at c ⊢;unfold kU;by_cases g:na<i+u\/nb<j+v
 ·rw[if_pos (.inr g),if_pos g];exact h
 have l:¬ (s.2≠0\/na<i+u\/nb<j+v):=by omega
 rw[if_neg l] at c ⊢;rw[if_neg g];by_cases k:(z2c D (if u=1 then x i else 0) (if v=1 then y j else 0) (s.1 i j) D.n (zerR D.kind,0)).2≠0
 ·rw[if_pos k] at c;exact absurd c k
 rw[if_neg k] at c ⊢;have r:=x6f hV (h i j) (i:=if u=1 then x i else 0) (o:=if v=1 then y j else 0) D.n (s:=(zerR D.kind,0)) (lv:=zerU D.kind) (Nat.le_refl _) (fun p _=>St.zero hV.kd) (by omega)
 by_cases d:(sumR D.kind (s.1 (i+u) (j+v)) (z2c D (if u=1 then x i else 0) (if v=1 then y j else 0) (s.1 i j) D.n (zerR D.kind,0)).1 D.n).2≠0
 ·rw[if_pos d] at c;exact absurd c d
 rw[if_neg d];exact h.upd (v0e (h (i+u) (j+v)) r D.n (Nat.le_refl _) (by omega))
theorem v8v {i j:Nat}:∀ (k:Nat) {s:TbR × Nat} {U:TbU},Rt D.kind D.n s.1 U->(mvR D na x nb y i j k s).2=0->Rt D.kind D.n (mvR D na x nb y i j k s).1 (mvU D na x nb y i j k U)
 | 0,_,_,h,_=>h
 | 1,_,_,h,_=>h
 | k+2,s,U,h,he=>by
  have he0:(mvR D na x nb y i j (k+1) s).2=0:=by
   by_cases e:(mvR D na x nb y i j (k+1) s).2=0
   ·exact e
   have h1:=y4s (D:=D) (na:=na) (x:=x) (nb:=nb) (y:=y) (i:=i) (j:=j) e 1;rw[show k+1+1=k+2 from rfl] at h1;rw[h1] at he;exact he
  have ih:=v8v (k+1) h he0;exact u5q hV ih he0 he
theorem v2a {i:Nat}:∀ (j:Nat) {s:TbR × Nat} {U:TbU},Rt D.kind D.n s.1 U->(colR D na x nb y i j s).2=0->Rt D.kind D.n (colR D na x nb y i j s).1 (colU D na x nb y i j U)
 | 0,_,_,h,_=>h
 | j+1,s,U,h,he=>by
  have he0:(colR D na x nb y i j s).2=0:=by
   by_cases e:(colR D na x nb y i j s).2=0
   ·exact e
   rw[y1u (D:=D) (na:=na) (x:=x) (nb:=nb) (y:=y) e 1] at he;exact he
  exact v8v hV 4 (v2a j h he0) he
theorem x9w:∀ (i:Nat) {s:TbR × Nat} {U:TbU},Rt D.kind D.n s.1 U->(tabR D na x nb y i s).2=0->Rt D.kind D.n (tabR D na x nb y i s).1 (tabU D na x nb y i U)
 | 0,_,_,h,_=>h
 | i+1,s,U,h,he=>by
  have he0:(tabR D na x nb y i s).2=0:=by
   by_cases e:(tabR D na x nb y i s).2=0
   ·exact e
   rw[y5n (D:=D) (na:=na) (x:=x) (nb:=nb) (y:=y) e 1] at he;exact he
  exact v2a hV (nb+1) (x9w i h he0) he
theorem u5i:Rt D.kind D.n (X0R D) (X0U D):=by
 intro i j p d;unfold X0R X0U;by_cases e:i=0/\j=0
 ·rw[if_pos e];unfold updS;by_cases e2:p=D.start.toNat
  ·rw[if_pos e2,if_pos ⟨e.1,e.2,e2⟩];obtain⟨v,c⟩:=St.weight hV.lead;unfold vOf;rw[c.prs];exact c
  rw[if_neg e2,if_neg (fun h=>e2 h.2.2)];exact St.zero hV.kd
 rw[if_neg e,if_neg (fun h=>e ⟨h.1,h.2.1⟩)];exact St.zero hV.kd
theorem u1b (c:(wgtR D na x nb y).2=0):St D.kind (wgtR D na x nb y).1 (wgtU D na x nb y):=by
 unfold wgtR at c ⊢;by_cases g:(tabR D na x nb y (na+1) (X0R D,0)).2≠0
 ·rw[if_pos g] at c;exact absurd c g
 rw[if_neg g] at c ⊢;have h:=x9w hV (na:=na) (x:=x) (nb:=nb) (y:=y) (na+1) (s:=(X0R D,0)) (u5i hV) (by omega);unfold endR at c ⊢;by_cases d:(finR D ((tabR D na x nb y (na+1) (X0R D,0)).1 na nb) D.n).2≠0
 ·rw[if_pos d] at c;exact absurd c d
 rw[if_neg d];exact v1m hV (h na nb) D.n (Nat.le_refl _) (by omega)
end
end
section
theorem z7p (c d:Rat):z0d 1 (.fin c) (.fin d)=.fin (c+d):=by simp[z0d,zeroV]
theorem y2q (v:V):z0d 1 .inf v=.inf:=by simp[z0d,zeroV]
theorem y2m {a b x:V} (h:leV a x\/leV b x):leV (minV a b) x:=by
 rcases z2w a b with c|c
 ·rw[z4c c];rcases h with h|h
  ·exact h
  exact z3s c h
 rw[z4m c];rcases h with h|h
 ·exact z3s c h
 exact h
theorem x6i (a b:V):minV a b=a\/minV a b=b:=by
 rcases z2w a b with c|c
 ·exact .inl (z4c c)
 exact .inr (z4m c)
def Nf (v:V):Prop:=v=.inf\/∃ c,v=.fin c
theorem Nf.min {a b:V} (c:Nf a) (hb:Nf b):Nf (minV a b):=by
 rcases x6i a b with h|h<;>rw[h]<;>assumption
theorem Nf.times {a b:V} (g:Nf a) (hb:∃ d,b=.fin d):Nf (z0d 1 a b):=by
 obtain⟨d,rfl⟩:=hb
 rcases g with rfl|⟨c,rfl⟩
 ·rw[y2q];exact .inl rfl
 rw[z7p];exact .inr ⟨_,rfl⟩
theorem Nf.le {a:V} {c:Rat} (d:Nf a) (h:leV a (.fin c)):∃ u,a=.fin u/\u<=c:=by
 rcases d with rfl|⟨u,rfl⟩
 ·exact h.elim
 exact⟨u,rfl,h⟩
structure TM (D:MD):Prop where
 kind:D.kind=1
 aw:∀ q a,q<D.n->a<D.na q->∃ d,vOf 1 (D.aw q a)=.fin d
 fin:∀ q,q<D.n->D.fin q≠⟨#[]⟩->∃ d,vOf 1 (D.fin q)=.fin d
 lead:∃ d,vOf 1 D.lead=.fin d
def Ar (D:MD) (na:Nat) (x:Nat->Int) (nb:Nat) (y:Nat->Int) (i j m p a:Nat) (d:Rat):Prop :=
 p<D.n/\a<D.na p/\i+m % 2<=na/\j+m / 2<=nb/\D.ain p a=(if m % 2=1 then x i else 0)/\D.aout p a=(if m / 2=1 then y j else 0)/\vOf 1 (D.aw p a)=.fin d
inductive Mp (D:MD) (na:Nat) (x:Nat->Int) (nb:Nat) (y:Nat->Int):Nat->Nat->Nat->Rat->Prop
 | start {c:Rat}:vOf 1 D.lead=.fin c->Mp D na x nb y 0 0 D.start.toNat c
 | step {i j p m a:Nat} {c d:Rat}:Mp D na x nb y i j p c->1<=m->m<=3->Ar D na x nb y i j m p a d->Mp D na x nb y (i+m % 2) (j+m / 2) (D.ato p a).toNat (c+d)
structure SI (D:MD) (i o:Int) (v:WV) (Done:Nat->Nat->Prop) (l:WV):Prop where
 val:∀ t,Nf (l t)
 sound:∀ t c,l t=.fin c->∃ q a c0 d,q<D.n/\a<D.na q/\v q=.fin c0/\D.ain q a=i/\D.aout q a=o/\vOf 1 (D.aw q a)=.fin d/\(D.ato q a).toNat=t/\c=c0+d
 done:∀ q a c0 d,Done q a->q<D.n->a<D.na q->v q=.fin c0->D.ain q a=i->D.aout q a=o->vOf 1 (D.aw q a)=.fin d->leV (l (D.ato q a).toNat) (.fin (c0+d))
theorem SI.zero (D:MD) (i o:Int) (v:WV):SI D i o v (fun _ _=>False) (zerU 1):=⟨fun _=>.inl rfl,fun t c h=>(by cases h),fun _ _ _ _ h=>h.elim⟩
theorem SI.fits {D:MD} {i o:Int} {v l:WV} {g c:Nat->Nat->Prop} (h:SI D i o v g l) (r:∀ q a c0,c q a->v q=.fin c0->a<D.na q->g q a):SI D i o v c l :=
 ⟨h.val,h.sound,fun q a c0 d s p k j=>h.done q a c0 d (r q a c0 s j k) p k j⟩
theorem SI.arc {D:MD} (G:TM D) {i o:Int} {v l:WV} (I:∀ q,Nf (v q)) {k:Nat->Nat->Prop} {q a:Nat} (h:SI D i o v k l) (E:q<D.n) (H:a<D.na q):SI D i o v (fun q' a'=>k q' a'\/(q'=q/\a'=a)) (arcU D i o v q a l):=by
 unfold arcU;by_cases u:D.ain q a=i/\D.aout q a=o
 ·rw[if_pos u,G.kind];obtain⟨J,s⟩:=G.aw q a E H;rw[s];refine⟨fun t=>?_,fun t c g=>?_,fun q' a' c0 d j p C z B A r=>?_⟩
  ·unfold addU;rw[z5m]
   split
   ·exact(h.val _).min ((I q).times ⟨_,rfl⟩)
   exact h.val t
  ·unfold addU at g;rw[z5m] at g;by_cases e:t=(D.ato q a).toNat
   ·rw[if_pos e] at g
    rcases x6i (l (D.ato q a).toNat) (z0d 1 (v q) (.fin J)) with j|j
    ·rw[j] at g;rw[e];exact h.sound _ c g
    rw[j] at g
    rcases I q with p|⟨c0,p⟩
    ·rw[p,y2q] at g;cases g
    rw[p,z7p] at g;injection g with g;exact⟨q,a,c0,J,E,H,p,u.1,u.2,s,e.symm,g.symm⟩
   rw[if_neg e] at g;exact h.sound t c g
  unfold addU;rw[z5m]
  rcases j with j|⟨rfl,rfl⟩
  ·have F:=h.done q' a' c0 d j p C z B A r;by_cases e:(D.ato q' a').toNat=(D.ato q a).toNat
   ·rw[if_pos e];exact y2m (.inl (e ▸ F))
   rw[if_neg e];exact F
  rw[if_pos rfl,z,z7p];rw[s] at r;injection r with r;exact y2m (.inr (by rw[r];exact z5y _))
 rw[if_neg u];exact⟨h.val,h.sound,fun q' a' c0 d j p C z B A r=>by
  rcases j with j|⟨rfl,rfl⟩
  ·exact h.done q' a' c0 d j p C z B A r
  exact absurd ⟨B,A⟩ u⟩
theorem SI.arcs {D:MD} (hT:TM D) {i o:Int} {v l:WV} (hv:∀ q,Nf (v q)) {q:Nat} (hq:q<D.n) (h:SI D i o v (fun q' _=>q' < q) l):∀ k,k<=D.na q->SI D i o v (fun q' a'=>q' < q\/(q'=q/\a' < k)) (v2u D i o v q k l)
 | 0,_=>h.fits fun q' a' _ h1 _ _=>by rcases h1 with h1|h1;exact h1;omega
 | k+1,hk=>((SI.arcs hT hv hq h k (by omega)).arc hT hv hq (show k<D.na q by omega)).fits fun q' a' _ h1 _ _=>by
   rcases h1 with h1|⟨h1,h2⟩
   ·exact .inl (.inl h1)
   by_cases e:a'=k
   ·exact .inr ⟨h1,e⟩
   exact .inl (.inr ⟨h1,by omega⟩)
theorem SI.step {D:MD} (hT:TM D) {i o:Int} {v:WV} (hv:∀ q,Nf (v q)):∀ q,q<=D.n->SI D i o v (fun q' _=>q' < q) (x4i D i o v q (zerU 1))
 | 0,_=>(SI.zero D i o v).fits fun q' _ _ h _ _=>by omega
 | q+1,hq=>by
  have ih:=SI.step hT hv (i:=i) (o:=o) q (by omega);unfold x4i rowU;by_cases e:v q=zeroV D.kind
  ·rw[if_pos e];refine ih.fits fun q' a' c0 h1 h2 _=>?_;by_cases e2:q'=q
   ·rw[e2,e,hT.kind] at h2;cases h2
   omega
  rw[if_neg e];refine(SI.arcs hT hv (by omega) ih (D.na q) (Nat.le_refl _)).fits fun q' a' c0 h1 _ h3=>?_;by_cases e2:q'=q
  ·subst e2;exact .inr ⟨rfl,h3⟩
  exact .inl (by omega)
structure TI (D:MD) (na:Nat) (x:Nat->Int) (nb:Nat) (y:Nat->Int) (Done:Nat->Nat->Nat->Prop) (X:TbU):Prop where
 val:∀ i j p,Nf (X i j p)
 sound:∀ i j p c,X i j p=.fin c->Mp D na x nb y i j p c
 zero:leV (X 0 0 D.start.toNat) (vOf 1 D.lead)
 done:∀ i j m p a c d,Done i j m->1<=m->m<=3->X i j p=.fin c->Ar D na x nb y i j m p a d->leV (X (i+m % 2) (j+m / 2) (D.ato p a).toNat) (.fin (c+d))
section
variable {D:MD} (hT:TM D) {na:Nat} {x:Nat->Int} {nb:Nat} {y:Nat->Int}
include hT
theorem TI.start:TI D na x nb y (fun _ _ _=>False) (X0U D):=by
 obtain⟨c,d⟩:=hT.lead;refine⟨fun i j p=>?_,fun i j p g h=>?_,?_,fun _ _ _ _ _ _ _ h=>h.elim⟩
 ·unfold X0U;rw[hT.kind];split
  ·exact .inr ⟨c,d⟩
  exact .inl rfl
 ·unfold X0U at h;rw[hT.kind] at h;by_cases e:i=0/\j=0/\p=D.start.toNat
  ·rw[if_pos e] at h;obtain⟨rfl,rfl,rfl⟩:=e;exact .start h
  rw[if_neg e] at h;cases h
 unfold X0U;rw[if_pos ⟨rfl,rfl,rfl⟩,hT.kind];exact z5y _
omit hT in
theorem TI.fits {k g:Nat->Nat->Nat->Prop} {X:TbU} (h:TI D na x nb y k X) (s:∀ i j m,g i j m->1<=m->m<=3->i+m % 2<=na->j+m / 2<=nb->k i j m):TI D na x nb y g X :=
 ⟨h.val,h.sound,h.zero,fun i j m p a c d v r o u l=>h.done i j m p a c d (s i j m v r o l.2.2.1 l.2.2.2.1) r o u l⟩
theorem TI.move {r g:Nat->Nat->Nat->Prop} {X:TbU} {i j m:Nat} (h:TI D na x nb y r X) (R:1<=m) (O:m<=3) (N:∀ m',¬ g (i+m % 2) (j+m / 2) m') (J:∀ i' j' m',g i' j' m'->r i' j' m'\/(i'=i/\j'=j/\m'=m)):TI D na x nb y g (kU D na x nb y i j (m % 2) (m / 2) X):=by
 unfold kU;by_cases K:na<i+m % 2\/nb<j+m / 2
 ·rw[if_pos K];refine h.fits fun i' j' m' E _ _ Z hb=>?_
  rcases J i' j' m' E with s|⟨rfl,rfl,rfl⟩
  ·exact s
  omega
 rw[if_neg K,hT.kind];have A:=SI.step hT (i:=if m % 2=1 then x i else 0) (o:=if m / 2=1 then y j else 0) (v:=X i j) (fun q=>h.val i j q) D.n (Nat.le_refl _)
 generalize x4i D (if m % 2=1 then x i else 0) (if m / 2=1 then y j else 0) (X i j) D.n (zerU 1)=l at A
 have z:∀ a b t,leV (updU X (i+m % 2) (j+m / 2) (sumU 1 (X (i+m % 2) (j+m / 2)) l) a b t) (X a b t):=by
  intro a b t;unfold updU;by_cases e:a=i+m % 2/\b=j+m / 2
  ·rw[if_pos e,e.1,e.2];unfold sumU;rw[z5m];exact y2m (.inl (z5y _))
  rw[if_neg e];exact z5y _
 refine⟨fun a b t=>?_,fun a b t c k=>?_,z3s (z 0 0 _) h.zero,fun i' j' m' p a c d s S Q W L=>?_⟩
 ·unfold updU;by_cases e:a=i+m % 2/\b=j+m / 2
  ·rw[if_pos e];unfold sumU;rw[z5m];exact(h.val _ _ t).min (A.val t)
  rw[if_neg e];exact h.val a b t
 ·unfold updU at k;by_cases e:a=i+m % 2/\b=j+m / 2
  ·rw[if_pos e] at k;unfold sumU at k;rw[z5m] at k
   rcases x6i (X (i+m % 2) (j+m / 2) t) (l t) with s|s
   ·rw[s] at k;rw[e.1,e.2];exact h.sound _ _ _ _ k
   rw[s] at k;obtain⟨q,ar,c0,d,B,C,T,I,H,G,Y,U⟩:=A.sound t c k;rw[e.1,e.2,<- Y,U];exact .step (h.sound i j q c0 T) R O ⟨B,C,by omega,by omega,I,H,G⟩
  rw[if_neg e] at k;exact h.sound a b t c k
 have F:¬ (i'=i+m % 2/\j'=j+m / 2):=fun e=>N m' (by rw[<- e.1,<- e.2];exact s);have u:X i' j' p=.fin c:=by
  have:updU X (i+m % 2) (j+m / 2) (sumU 1 (X (i+m % 2) (j+m / 2)) l) i' j' p=X i' j' p:=by unfold updU;rw[if_neg F]
  rw[<- this];exact W
 rcases J i' j' m' s with P|⟨rfl,rfl,rfl⟩
 ·exact z3s (z _ _ _) (h.done i' j' m' p a c d P S Q u L)
 unfold updU;rw[if_pos ⟨rfl,rfl⟩];unfold sumU;rw[z5m];obtain⟨B,C,_,_,I,H,G⟩:=L;exact y2m (.inr (A.done p a c d B B C u I H G))
def Dm (i j m:Nat) (i' j' m':Nat):Prop:=i' < i\/(i'=i/\(j' < j\/(j'=j/\m' < m)))
theorem TI.moves {X:TbU} {i j:Nat} (h:TI D na x nb y (Dm i j 1) X):∀ m,1<=m->m<=4->TI D na x nb y (Dm i j m) (mvU D na x nb y i j m X)
 | 0,h1,_=>absurd h1 (by omega)
 | 1,_,_=>h
 | m+2,_,h4=>(TI.moves h (m+1) (by omega) (by omega)).move hT (by omega) (by omega) (fun m' hd=>by
    have:(m+1) % 2=1\/(m+1) / 2 ≥ 1:=by omega
    unfold Dm at hd;omega) (fun i' j' m' hd=>by unfold Dm at hd ⊢;omega)
theorem TI.cols {X:TbU} {i:Nat} (h:TI D na x nb y (Dm i 0 1) X):∀ j,TI D na x nb y (Dm i j 1) (colU D na x nb y i j X)
 | 0=>h
 | j+1=>(TI.moves hT (TI.cols h j) 4 (by omega) (by omega)).fits fun i' j' m' hd h1 h3 _ _=>by unfold Dm at hd ⊢;omega
theorem TI.rows:∀ i,TI D na x nb y (Dm i 0 1) (tabU D na x nb y i (X0U D))
 | 0=>(TI.start hT).fits fun i' j' m' hd h1 _ _ _=>by unfold Dm at hd;omega
 | i+1=>(TI.cols hT (TI.rows i) (nb+1)).fits fun i' j' m' hd h1 _ _ hb=>by unfold Dm at hd ⊢;omega
omit hT in
theorem TI.least {X:TbU} (h:TI D na x nb y (Dm (na+1) 0 1) X) {i j p:Nat} {c:Rat} (k:Mp D na x nb y i j p c):leV (X i j p) (.fin c):=by
 induction k with
 | start hc=>rw[<- hc];exact h.zero
 | step hm h1 h3 ha ih =>
  obtain⟨u,g,d⟩:=(h.val _ _ _).le ih;refine z3s (h.done _ _ _ _ _ u _ (.inl ?_) h1 h3 g ha) (Rat.add_le_add_right.2 d);have:=ha.2.2.1;omega
def Fp (D:MD) (na:Nat) (x:Nat->Int) (nb:Nat) (y:Nat->Int) (c:Rat):Prop:=∃ p c0 f,p<D.n/\Mp D na x nb y na nb p c0/\D.fin p≠⟨#[]⟩/\vOf 1 (D.fin p)=.fin f/\c=c0+f
theorem x0k {v:WV} (hv:∀ q,Nf (v q)):∀ n,n<=D.n->Nf (finU D v n)/\(∀ c,finU D v n=.fin c->∃ p c0 f,p<D.n/\v p=.fin c0/\D.fin p≠⟨#[]⟩/\vOf 1 (D.fin p)=.fin f/\c=c0+f)/\∀ p c0 f,p<n->v p=.fin c0->D.fin p≠⟨#[]⟩->vOf 1 (D.fin p)=.fin f->leV (finU D v n) (.fin (c0+f))
 | 0,_=>⟨by unfold finU;rw[hT.kind];exact .inl rfl,fun c h=>(by unfold finU at h;rw[hT.kind] at h;cases h),fun _ _ _ h=>by omega⟩
 | n+1,hn=>by
  obtain⟨h1,h2,h3⟩:=x0k hv n (by omega);unfold finU;by_cases e:D.fin n=⟨#[]⟩
  ·rw[if_pos e];refine⟨h1,h2,fun p c0 f hp hv' hf hw=>?_⟩;by_cases e2:p=n
   ·rw[e2] at hf;exact absurd e hf
   exact h3 p c0 f (by omega) hv' hf hw
  rw[if_neg e,hT.kind,z5m];obtain⟨d,hd⟩:=hT.fin n (by omega) e;rw[hd];refine⟨h1.min ((hv n).times ⟨_,rfl⟩),fun c hc=>?_,fun p c0 f hp hv' hf hw=>?_⟩
  ·rcases x6i (finU D v n) (z0d 1 (v n) (.fin d)) with h4|h4
   ·rw[h4] at hc;exact h2 c hc
   rw[h4] at hc
   rcases hv n with h5|⟨c0,h5⟩
   ·rw[h5,y2q] at hc;cases hc
   rw[h5,z7p] at hc;injection hc with hc;exact⟨n,c0,d,by omega,h5,e,hd,hc.symm⟩
  by_cases e2:p=n
  ·subst e2;rw[hd] at hw;injection hw with hw;rw[hv',z7p,hw];exact y2m (.inr (z5y _))
  exact y2m (.inl (h3 p c0 f (by omega) hv' hf hw))
theorem x8h:(wgtU D na x nb y=.inf/\∀ c,¬ Fp D na x nb y c)\/∃ c,wgtU D na x nb y=.fin c/\Fp D na x nb y c/\∀ c',Fp D na x nb y c'->c<=c':=by
 have h:=TI.rows hT (na:=na) (x:=x) (nb:=nb) (y:=y) (na+1);obtain⟨C,z,s⟩:=x0k hT (v:=tabU D na x nb y (na+1) (X0U D) na nb) (fun q=>h.val _ _ q) D.n (Nat.le_refl _);have d:∀ c,Fp D na x nb y c->leV (wgtU D na x nb y) (.fin c):=fun c ⟨p,c0,f,j,l,g,r,o⟩=>by
  obtain⟨u,B,d⟩:=(h.val _ _ _).le (h.least l);rw[o];exact z3s (s p u f j B g r) (Rat.add_le_add_right.2 d)
 have A:Nf (wgtU D na x nb y):=C
 rcases A with hi|⟨c,i⟩
 ·exact .inl ⟨hi,fun c k=>by have:=d c k;rw[hi] at this;exact this⟩
 refine .inr ⟨c,i,?_,fun c' k=>by have:=d c' k;rw[i] at this;exact this⟩;obtain⟨p,c0,f,j,l,g,r,o⟩:=z c i;exact⟨p,c0,f,j,h.sound _ _ _ _ l,g,r,o⟩
end
end
section
inductive Lab where
 | lev (k:Nat)
 | ch (k e s:Nat)
def nx (M:EM) (k e s:Nat):Lab:=if s=mxE (M.e e) then .lev (k+1) else .ch k e s
inductive AG (M:EM) (sg:Nat):Lab->Int->Int->ByteArray->Lab->Prop
 | cp {k b:Nat}:(k:Int)<=M.most->1<=b->b<=sg->AG M sg (.lev k) (b:Int) (b:Int) (oneF 1) (.lev k)
 | first {k e:Nat}:e<M.n->(k:Int)<M.most->AG M sg (.lev k) (atI (M.e e).nf (M.e e).f 0) (atI (M.e e).nt (M.e e).t 0) (M.e e).w (nx M k e 1)
 | more {k e s:Nat}:e<M.n->(k:Int)<M.most->1<=s->s<mxE (M.e e)->AG M sg (.ch k e s) (atI (M.e e).nf (M.e e).f s) (atI (M.e e).nt (M.e e).t s) (oneF 1) (nx M k e (s+1))
structure LbM (M:EM) (sg:Nat) (D:MD) (L:Nat->Lab):Prop where
 lev:∀ k:Nat,(k:Int)<=M.most->k<D.n/\L k=.lev k
 inj:∀ p,p<D.n->∀ k,L p=.lev k->p=k/\(k:Int)<=M.most
 fl:∀ p k,p<D.n->L p=.lev k->D.fin p=oneF 1
 fc:∀ p k e s,p<D.n->L p=.ch k e s->D.fin p=⟨#[]⟩
 arc:∀ p a,p<D.n->a<D.na p->∃ t:Nat,D.ato p a=(t:Int)/\t<D.n/\AG M sg (L p) (D.ain p a) (D.aout p a) (D.aw p a) (L t)
def updL (L:Nat->Lab) (n:Nat) (l:Lab):Nat->Lab:=fun p=>if p=n then l else L p
theorem y0y {L:Nat->Lab} {n p:Nat} {l:Lab} (h:p<n):updL L n l p=L p:=if_neg (by omega)
theorem y8k {L:Nat->Lab} {n:Nat} {l:Lab}:updL L n l n=l:=if_pos rfl
section
variable {M:EM} {sg:Nat} {D:MD} {L:Nat->Lab}
theorem LbM.state (h:LbM M sg D L) (k e s:Nat):LbM M sg (D.state ⟨#[]⟩) (updL L D.n (.ch k e s)):=by
 refine⟨fun j z=>?_,fun p i j d=>?_,fun p j i d=>?_,fun p j v B i d=>?_,fun p a i A=>?_⟩
 ·obtain⟨r,o⟩:=h.lev j z;exact⟨Nat.lt_succ_of_lt r,by rw[y0y r];exact o⟩
 ·by_cases g:p=D.n
  ·rw[g,y8k] at d;cases d
  have c:p<D.n:=by have:p<D.n+1:=i;omega
  rw[y0y c] at d;exact h.inj p c j d
 ·by_cases g:p=D.n
  ·rw[g,y8k] at d;cases d
  have c:p<D.n:=by have:p<D.n+1:=i;omega
  rw[y0y c] at d;show (if p=D.n then _ else D.fin p)=_
  rw[if_neg g];exact h.fl p j c d
 ·show (if p=D.n then _ else D.fin p)=_
  by_cases g:p=D.n
  ·rw[if_pos g]
  have c:p<D.n:=by have:p<D.n+1:=i;omega
  rw[y0y c] at d;rw[if_neg g];exact h.fc p j v B c d
 have l:a<(if p=D.n then 0 else D.na p):=A
 by_cases g:p=D.n
 ·rw[if_pos g] at l;omega
 rw[if_neg g] at l;have c:p<D.n:=by have:p<D.n+1:=i;omega
 obtain⟨t,r,o,u⟩:=h.arc p a c l;exact⟨t,r,Nat.lt_succ_of_lt o,by rw[y0y c,y0y o];exact u⟩
theorem LbM.arcs (h:LbM M sg D L) {p t:Nat} {i o:Int} {w:ByteArray} (l:p<D.n) (j:t<D.n) (d:AG M sg (L p) i o w (L t)):LbM M sg (D.arc p i o w (t:Int)) L:=by
 refine⟨h.lev,h.inj,h.fl,h.fc,fun q a k g=>?_⟩;have c:a<(if q=p then D.na p+1 else D.na q):=g
 show ∃ t':Nat,(if q=p/\a=D.na p then (t:Int) else D.ato q a)=(t':Int)/\t' < D.n/\AG M sg (L q) (if q=p/\a=D.na p then i else D.ain q a) (if q=p/\a=D.na p then o else D.aout q a) (if q=p/\a=D.na p then w else D.aw q a) (L t')
 by_cases e:q=p/\a=D.na p
 ·simp only[if_pos e];exact⟨t,rfl,j,by rw[e.1];exact d⟩
 simp only[if_neg e];refine h.arc q a k ?_;by_cases e2:q=p
 ·rw[if_pos e2] at c;subst e2;omega
 rw[if_neg e2] at c;exact c
def HasArc (D:MD) (p:Nat) (i o:Int) (w:ByteArray) (t:Nat):Prop:=p<D.n/\∃ a,a<D.na p/\D.ain p a=i/\D.aout p a=o/\D.aw p a=w/\D.ato p a=(t:Int)
def Ext (D D':MD):Prop:=∀ p i o w t,HasArc D p i o w t->HasArc D' p i o w t
theorem Ext.refl (D:MD):Ext D D:=fun _ _ _ _ _ h=>h
theorem Ext.trans {A B C:MD} (h:Ext A B) (c:Ext B C):Ext A C:=fun _ _ _ _ _ x=>c _ _ _ _ _ (h _ _ _ _ _ x)
theorem Ext.state (D:MD) (f:ByteArray):Ext D (D.state f):=fun p i o w t ⟨d,a,g,c⟩=>by
 refine⟨Nat.lt_succ_of_lt d,a,?_,c⟩;show a<(if p=D.n then 0 else D.na p)
 rw[if_neg (by omega)];exact g
theorem Ext.arc (D:MD) (q:Nat) (g o':Int) (h:ByteArray) (d:Int):Ext D (D.arc q g o' h d):=fun p i o w t ⟨r,a,j,l,k,s,u⟩=>by
 have c:¬ (p=q/\a=D.na q):=fun e=>by rw[e.1] at j;omega
 refine⟨r,a,?_,?_,?_,?_,?_⟩
 ·show a<(if p=q then D.na q+1 else D.na p)
  by_cases e:p=q
  ·rw[if_pos e,<- e];omega
  rw[if_neg e];exact j
 ·show (if p=q/\a=D.na q then g else D.ain p a)=i
  rw[if_neg c];exact l
 ·show (if p=q/\a=D.na q then o' else D.aout p a)=o
  rw[if_neg c];exact k
 ·show (if p=q/\a=D.na q then h else D.aw p a)=w
  rw[if_neg c];exact s
 show (if p=q/\a=D.na q then d else D.ato p a)=(t:Int)
 rw[if_neg c];exact u
theorem HasArc.new {p:Nat} (h:p<D.n) (i o:Int) (w:ByteArray) (t:Nat):HasArc (D.arc p i o w (t:Int)) p i o w t:=by
 have c:p=p/\D.na p=D.na p:=⟨rfl,rfl⟩;refine⟨h,D.na p,?_,?_,?_,?_,?_⟩
 ·show D.na p<(if p=p then D.na p+1 else D.na p)
  rw[if_pos rfl];omega
 ·show (if p=p/\D.na p=D.na p then i else _)=i
  rw[if_pos c]
 ·show (if p=p/\D.na p=D.na p then o else _)=o
  rw[if_pos c]
 ·show (if p=p/\D.na p=D.na p then w else _)=w
  rw[if_pos c]
 show (if p=p/\D.na p=D.na p then (t:Int) else _)=t
 rw[if_pos c]
end
def Chn (M:EM) (D:MD) (k e:Nat):Prop:=∃ id:Nat->Nat,id 0=k/\id (mxE (M.e e))=k+1/\∀ r,r<mxE (M.e e)->HasArc D (id r) (atI (M.e e).nf (M.e e).f r) (atI (M.e e).nt (M.e e).t r) (if r=0 then (M.e e).w else oneF 1) (id (r+1))
theorem Chn.ext {M:EM} {D c:MD} {k e:Nat} (h:Chn M D k e) (d:Ext D c):Chn M c k e:=by
 obtain⟨i,l,o,j⟩:=h;exact⟨i,l,o,fun r g=>d _ _ _ _ _ (j r g)⟩
theorem x3z {d:ED} {m t:Nat} {s:MD × Nat × ByteArray}:∀ i,Ext s.1 (edC d m t i s).1
 | 0=>Ext.refl _
 | i+1=>by
  have ih:=x3z (d:=d) (m:=m) (t:=t) (s:=s) i;unfold edC;split
  ·exact ih.trans ((Ext.state _ _).trans (Ext.arc _ _ _ _ _ _))
  exact ih.trans (Ext.arc _ _ _ _ _ _)
theorem v9b {M:EM} {sg:Nat} {k e:Nat} (he:e<M.n) (hk:(k:Int)<M.most) (hm:0<mxE (M.e e)) {D:MD} {L:Nat->Lab} (h:LbM M sg D L):∀ i,i<=mxE (M.e e)->∃ (L':Nat->Lab) (id:Nat->Nat),LbM M sg (edC (M.e e) (mxE (M.e e)) (k+1) i (D,k,(M.e e).w)).1 L'/\id 0=k /\
   (∀ r,r<i->HasArc (edC (M.e e) (mxE (M.e e)) (k+1) i (D,k,(M.e e).w)).1 (id r) (atI (M.e e).nf (M.e e).f r) (atI (M.e e).nt (M.e e).t r) (if r=0 then (M.e e).w else oneF 1) (id (r+1))) /\
   (i<mxE (M.e e)->(edC (M.e e) (mxE (M.e e)) (k+1) i (D,k,(M.e e).w)).2.1=id i/\id i<(edC (M.e e) (mxE (M.e e)) (k+1) i (D,k,(M.e e).w)).1.n/\(edC (M.e e) (mxE (M.e e)) (k+1) i (D,k,(M.e e).w)).2.2=(if i=0 then (M.e e).w else oneF 1)/\L' (id i)=(if i=0 then .lev k else .ch k e i)) /\
   (i=mxE (M.e e)->id i=k+1)
 | 0,_=>⟨L,fun _=>k,h,rfl,fun r hr=>absurd hr (Nat.not_lt_zero r),fun _=>⟨rfl,(h.lev k (by omega)).1,rfl,(h.lev k (by omega)).2⟩,fun h0=>by omega⟩
 | i+1,hi=>by
  obtain⟨L',id,h1,h2,h3,h4,_⟩:=v9b he hk hm h i (by omega);obtain⟨g1,g2,g3,g4⟩:=h4 (by omega);have hag:∀ l,l=nx M k e (i+1)->AG M sg (L' (id i)) (atI (M.e e).nf (M.e e).f i) (atI (M.e e).nt (M.e e).t i) (if i=0 then (M.e e).w else oneF 1) l:=by
   intro l hl;rw[hl,g4];by_cases e0:i=0
   ·subst e0;rw[if_pos rfl,if_pos rfl];exact .first he hk
   rw[if_neg e0,if_neg e0];exact .more he hk (by omega) (by omega)
  unfold edC;generalize edC (M.e e) (mxE (M.e e)) (k+1) i (D,k,(M.e e).w)=z at *;rw[g1,g3];by_cases hl:i+1<mxE (M.e e)
  ·simp only[if_pos hl];refine⟨updL L' z.1.n (.ch k e (i+1)),fun r=>if r<=i then id r else z.1.n,?_,?_,fun r hr=>?_,fun _=>⟨?_,?_,?_,?_⟩,fun h0=>by omega⟩
   ·refine(h1.state k e (i+1)).arcs (p:=id i) (t:=z.1.n) (Nat.lt_succ_of_lt g2) (Nat.lt_succ_self _) ?_;rw[y0y g2,y8k];exact hag _ (by unfold nx;rw[if_neg (by omega)])
   ·show (if 0<=i then id 0 else _)=k
    rw[if_pos (Nat.zero_le _)];exact h2
   ·show HasArc _ (if r<=i then id r else _) _ _ _ (if r+1<=i then id (r+1) else _)
    rw[if_pos (show r<=i by omega)];by_cases e1:r+1<=i
    ·rw[if_pos e1];exact Ext.arc _ _ _ _ _ _ _ _ _ _ _ (Ext.state _ _ _ _ _ _ _ (h3 r (by omega)))
    rw[if_neg e1];obtain rfl:r=i:=by omega
    exact HasArc.new (Nat.lt_succ_of_lt g2) _ _ _ _
   ·show z.1.n=(if i+1<=i then _ else z.1.n)
    rw[if_neg (by omega)]
   ·show (if i+1<=i then _ else z.1.n)<z.1.n+1
    rw[if_neg (by omega)];exact Nat.lt_succ_self _
   ·rw[if_neg (by omega)]
   show updL L' z.1.n _ (if i+1<=i then _ else z.1.n)=_
   rw[if_neg (by omega),if_neg (by omega),y8k]
  simp only[if_neg hl];obtain⟨q1,q2⟩:=h1.lev (k+1) (by omega);refine⟨L',fun r=>if r<=i then id r else k+1,?_,?_,fun r hr=>?_,fun h0=>absurd h0 hl,fun _=>?_⟩
  ·refine h1.arcs (p:=id i) (t:=k+1) g2 q1 ?_;rw[q2];exact hag _ (by unfold nx;rw[if_pos (by omega)])
  ·show (if 0<=i then id 0 else _)=k
   rw[if_pos (Nat.zero_le _)];exact h2
  ·show HasArc _ (if r<=i then id r else _) _ _ _ (if r+1<=i then id (r+1) else _)
   rw[if_pos (show r<=i by omega)];by_cases e1:r+1<=i
   ·rw[if_pos e1];exact Ext.arc _ _ _ _ _ _ _ _ _ _ _ (h3 r (by omega))
   rw[if_neg e1];obtain rfl:r=i:=by omega
   exact HasArc.new g2 _ _ _ _
  show (if i+1<=i then _ else k+1)=k+1
  rw[if_neg (by omega)]
theorem y5z {M:EM} (d:VE M) {e:Nat} (c:e<M.n):0<mxE (M.e e):=by have:=(d.ok e c).pos;unfold mxE;omega
theorem x5i {M:EM} {k:Nat} {D:MD}:∀ e,Ext D (edsC M k e D)
 | 0=>Ext.refl _
 | e+1=>by
  have ih:=x5i (M:=M) (k:=k) (D:=D) e;unfold edsC;split
  ·exact ih.trans (x3z (s:=(edsC M k e D,k,(M.e e).w)) _)
  exact ih
theorem v1z {M:EM} (hv:VE M) {sg k:Nat} {D:MD} {L:Nat->Lab} (h:LbM M sg D L):∀ e,e<=M.n->(∃ L',LbM M sg (edsC M k e D) L')/\((k:Int)<M.most->∀ e',e' < e->Chn M (edsC M k e D) k e')
 | 0,_=>⟨⟨L,h⟩,fun _ e' he=>absurd he (Nat.not_lt_zero _)⟩
 | e+1,he=>by
  obtain⟨⟨L',h1⟩,h2⟩:=v1z hv h e (by omega) (k:=k);unfold edsC;by_cases hk:(k:Int)<M.most
  ·rw[if_pos hk];obtain⟨L2,id,g1,g2,g3,_,g5⟩:=v9b (show e<M.n by omega) hk (y5z hv (show e<M.n by omega)) h1 _ (Nat.le_refl _);refine⟨⟨L2,g1⟩,fun _ e' he'=>?_⟩;by_cases e1:e'=e
   ·subst e1;exact⟨id,g2,g5 rfl,g3⟩
   exact(h2 hk e' (by omega)).ext (x3z (s:=(edsC M k e D,k,(M.e e).w)) _)
  rw[if_neg hk];exact⟨⟨L',h1⟩,fun hk'=>absurd hk' hk⟩
theorem v9g {M:EM} {sg k:Nat} (hk:(k:Int)<=M.most) {D:MD} {L:Nat->Lab} (h:LbM M sg D L):∀ s,s<=sg->LbM M sg (arC (oneF 1) k s D) L/\Ext D (arC (oneF 1) k s D)/\∀ b:Nat,1<=b->b<=s->HasArc (arC (oneF 1) k s D) k (b:Int) (b:Int) (oneF 1) k
 | 0,_=>⟨h,Ext.refl _,fun b h1 h2=>by omega⟩
 | s+1,hs=>by
  obtain⟨h1,h2,h3⟩:=v9g hk h s (by omega);obtain⟨q1,q2⟩:=h1.lev k hk;refine⟨h1.arcs q1 q1 ?_,h2.trans (Ext.arc _ _ _ _ _ _),fun b hb hb2=>?_⟩
  ·rw[q2];exact .cp hk (by omega) hs
  by_cases e:b=s+1
  ·subst e;exact HasArc.new q1 _ _ _ _
  exact Ext.arc _ _ _ _ _ _ _ _ _ _ _ (h3 b hb (by omega))
theorem v0n {M:EM} (hv:VE M) {sg:Nat} {D:MD} {L:Nat->Lab} (h:LbM M sg D L):∀ K:Nat,(K:Int)<=M.most+1->(∃ L',LbM M sg (allC M (oneF 1) sg K D) L')/\∀ k,k<K->(∀ b:Nat,1<=b->b<=sg->HasArc (allC M (oneF 1) sg K D) k (b:Int) (b:Int) (oneF 1) k)/\((k:Int)<M.most->∀ e,e<M.n->Chn M (allC M (oneF 1) sg K D) k e)
 | 0,_=>⟨⟨L,h⟩,fun k hk=>absurd hk (Nat.not_lt_zero _)⟩
 | K+1,hK=>by
  obtain⟨⟨L1,h1⟩,h2⟩:=v0n hv h K (by omega);obtain⟨g1,g2,g3⟩:=v9g (show (K:Int)<=M.most by omega) h1 sg (Nat.le_refl _);obtain⟨⟨L3,g4⟩,g5⟩:=v1z hv (k:=K) g1 M.n (Nat.le_refl _);have hx:=x5i (M:=M) (k:=K) (D:=arC (oneF 1) K sg (allC M (oneF 1) sg K D)) M.n;show (∃ L',LbM M sg (edsC M K M.n (arC (oneF 1) K sg (allC M (oneF 1) sg K D))) L')/\∀ k,k<K+1->(∀ b:Nat,1<=b->b<=sg->HasArc (edsC M K M.n (arC (oneF 1) K sg (allC M (oneF 1) sg K D))) k (b:Int) (b:Int) (oneF 1) k)/\((k:Int)<M.most->∀ e,e<M.n->Chn M (edsC M K M.n (arC (oneF 1) K sg (allC M (oneF 1) sg K D))) k e);refine⟨⟨L3,g4⟩,fun k hk=>?_⟩;by_cases e:k=K
  ·subst e;exact⟨fun b hb hb2=>hx _ _ _ _ _ (g3 b hb hb2),fun hk' e he=>g5 hk' e he⟩
  obtain⟨q1,q2⟩:=h2 k (by omega);exact⟨fun b hb hb2=>hx _ _ _ _ _ (g2 _ _ _ _ _ (q1 b hb hb2)),fun hk' e he=>(q2 hk' e he).ext (g2.trans hx)⟩
theorem x9x (one:ByteArray):∀ k p,p<k->(stC one k).fin p=one/\(stC one k).na p=0
 | 0,p,h=>absurd h (Nat.not_lt_zero _)
 | k+1,p,h=>by
  show (if p=(stC one k).n then one else (stC one k).fin p)=one/\(if p=(stC one k).n then 0 else (stC one k).na p)=0
  rw[x2b];by_cases e:p=k
  ·rw[if_pos e,if_pos e];exact⟨rfl,rfl⟩
  rw[if_neg e,if_neg e];exact x9x one k p (by omega)
theorem y2w {M:EM} (g:VE M) (sg:Nat):(∃ L,LbM M sg (cmpC M sg) L)/\∀ k:Nat,(k:Int)<=M.most->(∀ b:Nat,1<=b->b<=sg->HasArc (cmpC M sg) k (b:Int) (b:Int) (oneF 1) k)/\((k:Int)<M.most->∀ e,e<M.n->Chn M (cmpC M sg) k e):=by
 have r:=g.m0;have o:LbM M sg (stC (oneF 1) (M.most.toNat+1)) (fun p=>.lev p):=by
  refine⟨fun k h=>⟨by rw[x2b];omega,rfl⟩,fun p c k d=>?_,fun p k c _=>?_,fun p k e s _ d=>(by cases d),fun p a c i=>?_⟩
  ·rw[x2b] at c;injection d with d;omega
  ·rw[x2b] at c;exact(x9x _ _ p c).1
  rw[x2b] at c;rw[(x9x _ _ p c).2] at i;omega
 obtain⟨j,l⟩:=v0n g o (M.most.toNat+1) (by omega);exact⟨j,fun k h=>l k (by omega)⟩
def Cn (D:MD) (N A:Nat):Prop:=D.n<=N/\z1k D D.n<=A
theorem y5p {D D':MD}:∀ n,(∀ q,q<n->D'.na q=D.na q)->z1k D' n=z1k D n
 | 0,_=>rfl
 | n+1,h=>by show z1k D' n+D'.na n=z1k D n+D.na n;rw[y5p n (fun q hq=>h q (by omega)),h n (by omega)]
theorem Cn.state {D:MD} {N A:Nat} (h:Cn D N A) (f:ByteArray):Cn (D.state f) (N+1) A:=by
 refine⟨Nat.succ_le_succ h.1,?_⟩;show z1k (D.state f) D.n+(if D.n=D.n then 0 else D.na D.n)<=A
 rw[if_pos rfl,y5p (D:=D) D.n (fun q c=>by show (if q=D.n then 0 else D.na q)=_;rw[if_neg (by omega)])]
 exact h.2
theorem y8a {D:MD} {p:Nat} {i o t:Int} {w:ByteArray}:∀ n,z1k (D.arc p i o w t) n<=z1k D n+(if p<n then 1 else 0)
 | 0=>Nat.zero_le _
 | n+1=>by
  have ih:=y8a (D:=D) (p:=p) (i:=i) (o:=o) (t:=t) (w:=w) n;show z1k (D.arc p i o w t) n+(if n=p then D.na p+1 else D.na n)<=z1k D n+D.na n+_
  by_cases e:n=p
  ·subst e;rw[if_pos rfl,if_pos (by omega)];rw[if_neg (Nat.lt_irrefl _)] at ih;omega
  rw[if_neg e];by_cases e2:p<n
  ·rw[if_pos e2] at ih;rw[if_pos (by omega)];omega
  rw[if_neg e2] at ih;rw[if_neg (by omega)];omega
theorem Cn.arc {D:MD} {N A:Nat} (h:Cn D N A) (p:Nat) (i o:Int) (w:ByteArray) (t:Int):Cn (D.arc p i o w t) N (A+1):=by
 refine⟨h.1,?_⟩;have c:=y8a (D:=D) (p:=p) (i:=i) (o:=o) (t:=t) (w:=w) D.n;have d:=h.2;show z1k (D.arc p i o w t) D.n<=A+1
 split at c<;>omega
theorem Cn.mono {D:MD} {N A N' A':Nat} (h:Cn D N A) (d:N<=N') (c:A<=A'):Cn D N' A':=⟨Nat.le_trans h.1 d,Nat.le_trans h.2 c⟩
theorem v9k {d:ED} {m t N A:Nat} {s:MD × Nat × ByteArray} (h:Cn s.1 N A):∀ i,i<=m->Cn (edC d m t i s).1 (N+(if i<m then i else m-1)) (A+i)
 | 0,_=>h.mono (by omega) (by omega)
 | i+1,hi=>by
  have ih:=v9k (d:=d) (m:=m) (t:=t) h i (by omega);rw[if_pos (by omega)] at ih;unfold edC;by_cases hl:i+1<m
  ·rw[if_pos hl,if_pos hl];exact((ih.state _).arc _ _ _ _ _).mono (by omega) (by omega)
  rw[if_neg hl,if_neg hl];exact(ih.arc _ _ _ _ _).mono (by omega) (by omega)
theorem x3r {M:EM} (hv:VE M) {k N A:Nat} {D:MD} (h:Cn D N A):∀ e,e<=M.n->Cn (edsC M k e D) (N+if (k:Int)<M.most then szC M e-e else 0) (A+if (k:Int)<M.most then szC M e else 0)
 | 0,_=>h.mono (by omega) (by omega)
 | e+1,he=>by
  have ih:=x3r hv (k:=k) h e (by omega);have hp:=y5z hv (show e<M.n by omega);have hz:=(y6h hv e (by omega)).1;unfold edsC;by_cases hk:(k:Int)<M.most
  ·rw[if_pos hk,if_pos hk] at ih;rw[if_pos hk,if_pos hk,if_pos hk];have h1:=v9k (d:=M.e e) (m:=mxE (M.e e)) (t:=k+1) (s:=(edsC M k e D,k,(M.e e).w)) ih _ (Nat.le_refl _);rw[if_neg (Nat.lt_irrefl _)] at h1;refine h1.mono ?_ ?_
   ·show _<=N+(szC M e+mxE (M.e e)-(e+1));omega
   show _<=A+(szC M e+mxE (M.e e));omega
  rw[if_neg hk] at ih ⊢;rw[if_neg hk];rw[if_neg hk] at ih ⊢;exact ih
theorem v4h {one:ByteArray} {k N A:Nat} {D:MD} (h:Cn D N A):∀ s,Cn (arC one k s D) N (A+s)
 | 0=>h
 | s+1=>(v4h h s).arc _ _ _ _ _
theorem v1k {M:EM} (hv:VE M) {sg N A:Nat} {D:MD} (h:Cn D N A):∀ K:Nat,(K:Int)<=M.most->Cn (allC M (oneF 1) sg K D) (N+K*(szC M M.n-M.n)) (A+K*(sg+szC M M.n))
 | 0,_=>h.mono (by omega) (by omega)
 | K+1,hK=>by
  have ih:=v1k hv h K (by omega) (sg:=sg);have h1:=x3r hv (k:=K) (v4h (one:=oneF 1) (k:=K) ih sg) M.n (Nat.le_refl _);rw[if_pos (by omega),if_pos (by omega)] at h1;refine h1.mono ?_ ?_
  ·rw[Nat.succ_mul];omega
  rw[Nat.succ_mul];omega
theorem u0b (one:ByteArray):∀ k,Cn (stC one k) k 0
 | 0=>⟨Nat.le_refl _,Nat.le_refl _⟩
 | k+1=>(u0b one k).state one
theorem u3n {M:EM} (g:VE M) {sg:Nat} (o:InSz M (sg:Int)):(cmpC M sg).n<=3000/\z1k (cmpC M sg) (cmpC M sg).n<=30000:=by
 obtain⟨c,d⟩:∃ c:Nat,M.most=(c:Int):=⟨M.most.toNat,by have:=g.m0;omega⟩;have r:=g.m6;have s:=(y6h g M.n (Nat.le_refl _)).1;have p:=v1k g (u0b (oneF 1) (c+1)) c (by omega) (sg:=sg);have h:=x3r g (k:=c) (v4h (one:=oneF 1) (k:=c) p sg) M.n (Nat.le_refl _);rw[if_neg (by omega),if_neg (by omega)] at h;have l:cmpC M sg=edsC M c M.n (arC (oneF 1) c sg (allC M (oneF 1) sg c (stC (oneF 1) (c+1)))):=by unfold cmpC;rw[d];rfl
 rw[l];obtain⟨j,i⟩:=o;rw[d] at j i r;refine⟨Nat.le_trans h.1 ?_,Nat.le_trans h.2 ?_⟩
 ·rcases (show c=0\/c=1\/c=2\/c=3\/c=4\/c=5\/c=6 by omega) with rfl|rfl|rfl|rfl|rfl|rfl|rfl<;>simp at j ⊢<;>omega
 rcases (show c=0\/c=1\/c=2\/c=3\/c=4\/c=5\/c=6 by omega) with rfl|rfl|rfl|rfl|rfl|rfl|rfl<;>simp at i ⊢<;>omega
end
section
theorem x6x {s:ByteArray} {q:Rat} (h:prs s=some q):rdV s=some (.fin q):=by
 have d:s≠infS:=fun e=>by rw[e,y0z] at h;cases h
 have c:s≠lowS:=fun e=>by rw[e,y2x] at h;cases h
 unfold rdV;rw[if_neg d,if_neg c,h];rfl
theorem z8x {s:ByteArray} {q:Rat} (h:prs s=some q):z0r 1 s=true:=by
 unfold z0r;rw[x6x h];exact decide_eq_true (.inl rfl)
theorem z4d {s:ByteArray} {q:Rat} (h:prs s=some q):vOf 1 s=.fin q:=by
 unfold vOf;rw[z5i.2 ⟨x6x h,(.inl rfl:okV 1 (.fin q))⟩];rfl
theorem z2z:prs (oneF 1)=some 0:=by decide +kernel
theorem u4a:oneF 1≠⟨#[]⟩:=by decide +kernel
section
variable {M:EM} (hv:VE M) {sg:Nat} (hg:InSg M (sg:Int)) (h5:sg<=500)
include hv hg h5
theorem v8w {e:Nat} (g:e<M.n) (r:Nat):0<=atI (M.e e).nf (M.e e).f r/\atI (M.e e).nf (M.e e).f r<=(sg:Int)/\0<=atI (M.e e).nt (M.e e).t r/\atI (M.e e).nt (M.e e).t r<=(sg:Int):=by
 obtain⟨d,c⟩:=hg e g;unfold atI;refine⟨?_,?_,?_,?_⟩<;>split<;>(try omega)
 ·rename_i h;have:=d r h;omega
 ·rename_i h;exact(d r h).2
 ·rename_i h;have:=c r h;omega
 rename_i h;exact(c r h).2
theorem AG.ok {l l':Lab} {i o:Int} {w:ByteArray} (h:AG M sg l i o w l'):(0<=i/\i<=500)/\(0<=o/\o<=500)/\(∃ q,prs w=some q)/\silB i o=false:=by
 have d:∀ e r,e<M.n->r<mxE (M.e e)->silB (atI (M.e e).nf (M.e e).f r) (atI (M.e e).nt (M.e e).t r)=false:=fun e r c B=>by
  obtain⟨u,g⟩:=hg e c;unfold silB atI;by_cases v:r<(M.e e).nf
  ·have:=(u r v).1;rw[if_pos v];simp;intro C;omega
  have e2:r<(M.e e).nt:=by unfold mxE at B;omega
  have:=(g r e2).1;rw[if_pos e2];simp;intro _ C;omega
 cases h with
 | @cp k b hk u g=>exact⟨⟨by omega,by omega⟩,⟨by omega,by omega⟩,⟨_,z2z⟩,by unfold silB;simp;omega⟩
 | @first k e c hk =>
  obtain⟨p,z,j,A⟩:=v8w hv hg h5 c 0;exact⟨⟨p,by omega⟩,⟨j,by omega⟩,⟨_,(hv.ok e c).q⟩,d e 0 c (y5z hv c)⟩
 | @more k e s c hk u g =>
  obtain⟨p,z,j,A⟩:=v8w hv hg h5 c s;exact⟨⟨p,by omega⟩,⟨j,by omega⟩,⟨_,z2z⟩,d e s c g⟩
theorem y6k:(cmpC M sg).kind=1/\(cmpC M sg).start=0/\(cmpC M sg).lead=oneF 1:=y3g (y8c _ _) _
theorem v4r (j:InSz M (sg:Int)):VM (cmpC M sg):=by
 obtain⟨⟨L,g⟩,_⟩:=y2w hv sg;obtain⟨d,h,l⟩:=y6k hv hg h5;obtain⟨z,v⟩:=u3n hv j;have D:=(g.lev 0 hv.m0).1;refine⟨by rw[d];decide,by omega,z,by rw[h];omega,by rw[h];omega,by rw[d,l];exact z8x z2z,v,fun p c=>?_,fun p a c o=>?_⟩
 ·cases i:L p with
  | lev k=>right;rw[g.fl p k c i,d];exact z8x z2z
  | ch k e s=>left;exact g.fc p k e s c i
 obtain⟨t,t1,t2,t3⟩:=g.arc p a c o;obtain⟨⟨u,r⟩,⟨A,C⟩,⟨q,B⟩,_⟩:=t3.ok hv hg h5;exact⟨u,r,A,C,by rw[t1];omega,by rw[t1];omega,by rw[d];exact z8x B⟩
theorem u0k:NoSil (cmpC M sg):=fun p a d c=>by
 obtain⟨⟨L,g⟩,_⟩:=y2w hv sg;obtain⟨t,t1,t2,t3⟩:=g.arc p a d c;exact(t3.ok hv hg h5).2.2.2
theorem u3e:TM (cmpC M sg):=by
 obtain⟨⟨L,d⟩,_⟩:=y2w hv sg;obtain⟨l,r,h⟩:=y6k hv hg h5;refine⟨l,fun p a c j=>?_,fun p c i=>?_,⟨0,by rw[h];exact z4d z2z⟩⟩
 ·obtain⟨t,t1,t2,t3⟩:=d.arc p a c j;obtain⟨q,o⟩:=(t3.ok hv hg h5).2.2.1;exact⟨q,z4d o⟩
 cases g:L p with
 | lev k=>exact⟨0,by rw[d.fl p k c g];exact z4d z2z⟩
 | ch k e s=>exact absurd (d.fc p k e s c g) i
variable {na:Nat} {x:Nat->Int} {nb:Nat} {y:Nat->Int} (hx:∀ i,i<na->1<=x i) (hy:∀ j,j<nb->1<=y j)
include hx hy
def Rd37 (M:EM) (sg na:Nat) (x:Nat->Int) (nb:Nat) (y:Nat->Int) (L:Lab) (i j:Nat) (c:Rat):Prop :=
 (∀ r,r<i->x r<=(sg:Int))/\(∀ r,r<j->y r<=(sg:Int))/\match L with
 | .lev k=>Pth ⟨M,na,x,nb,y⟩ (k,i,j) c
 | .ch k e s=>(k:Int)<M.most/\e<M.n/\s<mxE (M.e e)/\∃ i0 j0 c0,Pth ⟨M,na,x,nb,y⟩ (k,i0,j0) c0/\c=c0+qv (M.e e).w/\i=i0+min s (M.e e).nf/\j=j0+min s (M.e e).nt/\i<=na/\j<=nb/\(∀ r,r<min s (M.e e).nf->x (i0+r)=(M.e e).f r)/\(∀ r,r<min s (M.e e).nt->y (j0+r)=(M.e e).t r)
omit hv hg h5 hx hy in
theorem v1b (W:VE M) (S:InSg M (sg:Int)) (N:∀ i,i<na->1<=x i) (T:∀ j,j<nb->1<=y j) {k e s:Nat} (F:e<M.n) (J:(k:Int)<M.most) (U:s<mxE (M.e e)) {i j m i0 g:Nat} {c0:Rat} (R:1<=m) (L:m<=3)
  (H:Pth ⟨M,na,x,nb,y⟩ (k,i0,g) c0) (hi:i=i0+min s (M.e e).nf) (X:j=g+min s (M.e e).nt) (E:i+m % 2<=na) (D:j+m / 2<=nb)
  (v:∀ r,r<min s (M.e e).nf->x (i0+r)=(M.e e).f r) (z:∀ r,r<min s (M.e e).nt->y (g+r)=(M.e e).t r) (O:∀ r,r<i->x r<=(sg:Int)) (Q:∀ r,r<j->y r<=(sg:Int))
  (d:atI (M.e e).nf (M.e e).f s=(if m % 2=1 then x i else 0)) (c:atI (M.e e).nt (M.e e).t s=(if m / 2=1 then y j else 0)):Rd37 M sg na x nb y (nx M k e (s+1)) (i+m % 2) (j+m / 2) (c0+qv (M.e e).w):=by
 obtain⟨K,I⟩:=S e F;have p:i+m % 2=i0+min (s+1) (M.e e).nf/\(∀ r,r<min (s+1) (M.e e).nf->x (i0+r)=(M.e e).f r):=by
  unfold atI at d;by_cases h:s<(M.e e).nf
  ·rw[if_pos h] at d;by_cases e2:m % 2=1
   ·rw[if_pos e2] at d;refine⟨by omega,fun r A=>?_⟩;by_cases l:r=s
    ·subst l;rw[show i0+r=i by omega];exact d.symm
    exact v r (by omega)
   rw[if_neg e2] at d;have:=(K s h).1;omega
  rw[if_neg h] at d;by_cases e2:m % 2=1
  ·rw[if_pos e2] at d;have:=N i (by omega);omega
  exact⟨by omega,fun r A=>v r (by omega)⟩
 have u:j+m / 2=g+min (s+1) (M.e e).nt/\(∀ r,r<min (s+1) (M.e e).nt->y (g+r)=(M.e e).t r):=by
  unfold atI at c;by_cases h:s<(M.e e).nt
  ·rw[if_pos h] at c;by_cases e2:m / 2=1
   ·rw[if_pos e2] at c;refine⟨by omega,fun r A=>?_⟩;by_cases l:r=s
    ·subst l;rw[show g+r=j by omega];exact c.symm
    exact z r (by omega)
   rw[if_neg e2] at c;have:=(I s h).1;omega
  rw[if_neg h] at c;by_cases e2:m / 2=1
  ·rw[if_pos e2] at c;have:=T j (by omega);omega
  exact⟨by omega,fun r A=>z r (by omega)⟩
 have G:∀ r,r<i+m % 2->x r<=(sg:Int):=fun r A=>by
  by_cases h:r<i
  ·exact O r h
  have e2:r-i0<min (s+1) (M.e e).nf:=by omega
  have l:=p.2 (r-i0) e2;rw[show i0+(r-i0)=r by omega] at l;rw[l];exact(K (r-i0) (by omega)).2
 have C:∀ r,r<j+m / 2->y r<=(sg:Int):=fun r A=>by
  by_cases h:r<j
  ·exact Q r h
  have e2:r-g<min (s+1) (M.e e).nt:=by omega
  have l:=u.2 (r-g) e2;rw[show g+(r-g)=r by omega] at l;rw[l];exact(I (r-g) (by omega)).2
 refine⟨G,C,?_⟩;unfold nx;by_cases B:s+1=mxE (M.e e)
 ·rw[if_pos B];have n1:min (s+1) (M.e e).nf=(M.e e).nf:=by unfold mxE at B;omega
  have n2:min (s+1) (M.e e).nt=(M.e e).nt:=by unfold mxE at B;omega
  rw[n1] at p;rw[n2] at u;show Pth ⟨M,na,x,nb,y⟩ (k+1,i+m % 2,j+m / 2) (c0+qv (M.e e).w);have o:Sp ⟨M,na,x,nb,y⟩ (k,i0,g) (some e) (k+1,i0+(M.e e).nf,g+(M.e e).nt) (qv (M.e e).w):=.edit (P:=⟨M,na,x,nb,y⟩) F J ⟨by show i0+(M.e e).nf<=na;omega,p.2⟩ ⟨by show g+(M.e e).nt<=nb;omega,u.2⟩;rw[p.1,u.1];exact .step H o
 rw[if_neg B];exact⟨J,F,by omega,i0,g,c0,H,rfl,p.1,u.1,E,D,p.2,u.2⟩
theorem v6y {L:Nat->Lab} (C:LbM M sg (cmpC M sg) L) {i j p:Nat} {c:Rat} (h:Mp (cmpC M sg) na x nb y i j p c):p<(cmpC M sg).n/\Rd37 M sg na x nb y (L p) i j c:=by
 obtain⟨R,D,K⟩:=y6k hv hg h5
 induction h with
 | start hc =>
  obtain⟨q1,q2⟩:=C.lev 0 hv.m0;rw[K,z4d z2z] at hc;injection hc with hc;rw[D];refine⟨q1,fun r l=>absurd l (Nat.not_lt_zero r),fun r l=>absurd l (Nat.not_lt_zero r),?_⟩;show match L 0 with | .lev k=>_ | .ch k e s=>_
  rw[q2,<- hc];exact .start
 | @step i j p m a c d hm h1 h3 ha ih =>
  obtain⟨E,v,u,o⟩:=ih;obtain⟨_,G,A,B,N,J,g⟩:=ha;obtain⟨t,t1,t2,t3⟩:=C.arc p a E G;rw[t1];refine⟨t2,?_⟩;show Rd37 M sg na x nb y (L t) _ _ _;rw[N,J] at t3;generalize (cmpC M sg).aw p a=wt at t3 g;generalize L t=lt at t3;generalize L p=lp at t3 o;generalize hI:(if m % 2=1 then x i else 0)=I at t3
  generalize hO:(if m / 2=1 then y j else 0)=O at t3
  cases t3 with
  | @cp k b hk b1 b2 =>
   rw[z4d z2z] at g;injection g with g;have z:m % 2=1:=by
    by_cases e:m % 2=1
    ·exact e
    rw[if_neg e] at hI;omega
   have v1:m / 2=1:=by
    by_cases e:m / 2=1
    ·exact e
    rw[if_neg e] at hO;omega
   rw[if_pos z] at hI;rw[if_pos v1] at hO;rw[z,v1];refine⟨fun r l=>?_,fun r l=>?_,?_⟩
   ·by_cases e:r=i
    ·rw[e,hI];omega
    exact v r (by omega)
   ·by_cases e:r=j
    ·rw[e,hO];omega
    exact u r (by omega)
   rw[<- g];exact .step o (.copy (P:=⟨M,na,x,nb,y⟩) (by show i<na;omega) (by show j<nb;omega) (by show x i=y j;rw[hI,hO]))
  | @first k e he hk =>
   rw[z4d (hv.ok e he).q] at g;injection g with g;rw[<- g];exact v1b hv hg hx hy he hk (y5z hv he) h1 h3 o (by omega) (by omega) A B (fun r l=>by omega) (fun r l=>by omega) v u hI.symm hO.symm
  | @more k e s he hk s1 s2 =>
   rw[z4d z2z] at g;injection g with g;obtain⟨_,_,_,i0,Q,c0,p1,p2,p3,p4,p5,S,H,F⟩:=o;rw[<- g,Rat.add_zero,p2];exact v1b hv hg hx hy he hk s2 h1 h3 p1 p3 p4 A B H F v u hI.symm hO.symm
omit h5 in
theorem y8z {D:MD} {i j p t:Nat} {u w:Int} {wt:ByteArray} {c d:Rat} {m:Nat} (h:Mp D na x nb y i j p c) (o:HasArc D p u w wt t) (s:1<=m) (k:m<=3) (hi:i+m % 2<=na) (v:j+m / 2<=nb) (r:u=if m % 2=1 then x i else 0) (l:w=if m / 2=1 then y j else 0) (g:prs wt=some d):Mp D na x nb y (i+m % 2) (j+m / 2) t (c+d):=by
 obtain⟨q1,a,q2,q3,q4,q5,q6⟩:=o;have:=Mp.step h s k (a:=a) (d:=d) ⟨q1,q2,hi,v,by rw[q3];exact r,by rw[q4];exact l,by rw[q5];exact z4d g⟩;rw[q6] at this;exact this
theorem x3b (sx:∀ i,i<na->x i<=(sg:Int)) (sy:∀ j,j<nb->y j<=(sg:Int)) {p:Pl} {c:Rat} (h:Pth ⟨M,na,x,nb,y⟩ p c):Mp (cmpC M sg) na x nb y p.2.1 p.2.2 p.1 c:=by
 obtain⟨k1,R,T⟩:=y6k hv hg h5;obtain⟨_,O⟩:=y2w hv sg
 induction h with
 | start =>
  have o:=Mp.start (D:=cmpC M sg) (na:=na) (x:=x) (nb:=nb) (y:=y) (c:=0) (by rw[T];exact z4d z2z);rw[R] at o;exact o
 | @step p c l q d hp H ih =>
  have I:=Pth.inR (P:=⟨M,na,x,nb,y⟩) hv.m0 hp;cases H with
  | @copy k i j c1 c2 c3 =>
   have hi:i<na:=c1;have hj:j<nb:=c2;have G:(k:Int)<=M.most:=I.1;obtain⟨b,hb⟩:∃ b:Nat,x i=(b:Int):=⟨(x i).toNat,by have:=hx i hi;omega⟩;have v:=(O k G).1 b (by have:=hx i hi;omega) (by have:=sx i hi;omega);exact y8z hv hg hx hy (m:=3) ih v (by omega) (by omega) (by show i+1<=na;omega) (by show j+1<=nb;omega) (by show (b:Int)=x i;exact hb.symm) (by show (b:Int)=y j;rw[<- hb];exact c3) z2z
  | @edit k i j e he G hbf hbt =>
   have u:e<M.n:=he;obtain⟨X,i1,U,Y⟩:=(O k (by have:(k:Int)<M.most:=G;omega)).2 G e u;obtain⟨w1,w2⟩:=hg e u;have Z:i+(M.e e).nf<=na:=hbf.1;have W:∀ r,r<(M.e e).nf->x (i+r)=(M.e e).f r:=hbf.2;have f3:j+(M.e e).nt<=nb:=hbt.1;have S:∀ r,r<(M.e e).nt->y (j+r)=(M.e e).t r:=hbt.2;have C:∀ s,s<=mxE (M.e e)->Mp (cmpC M sg) na x nb y (i+min s (M.e e).nf) (j+min s (M.e e).nt) (X s) (c+if s=0 then 0 else qv (M.e e).w):=by
    intro s
    induction s with
    | zero=>intro _;rw[i1,if_pos rfl,Rat.add_zero,Nat.zero_min,Nat.zero_min];exact ih
    | succ s ihs =>
     intro H;have o:=ihs (by omega);have v:=Y s (by omega);obtain⟨m,F,z,B,E⟩:∃ m,1<=m/\m<=3/\m % 2=(if s<(M.e e).nf then 1 else 0)/\m / 2=(if s<(M.e e).nt then 1 else 0):=by
      by_cases g:s<(M.e e).nf<;>by_cases e2:s<(M.e e).nt
      ·exact⟨3,by omega,by omega,by rw[if_pos g],by rw[if_pos e2]⟩
      ·exact⟨1,by omega,by omega,by rw[if_pos g],by rw[if_neg e2]⟩
      ·exact⟨2,by omega,by omega,by rw[if_neg g],by rw[if_pos e2]⟩
      unfold mxE at H;omega
     have K:atI (M.e e).nf (M.e e).f s=if m % 2=1 then x (i+min s (M.e e).nf) else 0:=by
      rw[B];unfold atI;by_cases g:s<(M.e e).nf
      ·rw[if_pos g,if_pos g,if_pos rfl,Nat.min_eq_left (by omega),W s g]
      rw[if_neg g,if_neg g,if_neg (by omega)]
     have L:atI (M.e e).nt (M.e e).t s=if m / 2=1 then y (j+min s (M.e e).nt) else 0:=by
      rw[E];unfold atI;by_cases g:s<(M.e e).nt
      ·rw[if_pos g,if_pos g,if_pos rfl,Nat.min_eq_left (by omega),S s g]
      rw[if_neg g,if_neg g,if_neg (by omega)]
     have N:i+min s (M.e e).nf+m % 2=i+min (s+1) (M.e e).nf:=by rw[B];split<;>omega
     have J:j+min s (M.e e).nt+m / 2=j+min (s+1) (M.e e).nt:=by rw[E];split<;>omega
     by_cases Q:s=0
     ·rw[if_pos Q] at o v;have A:=y8z hv hg hx hy o v F z (by omega) (by omega) K L (hv.ok e u).q;rw[N,J,Rat.add_zero] at A;rw[if_neg (by omega)];exact A
     rw[if_neg Q] at o v;have A:=y8z hv hg hx hy o v F z (by omega) (by omega) K L z2z;rw[N,J,Rat.add_zero] at A;rw[if_neg (by omega)];exact A
   have o:=C _ (Nat.le_refl _);have n1:min (mxE (M.e e)) (M.e e).nf=(M.e e).nf:=by unfold mxE;omega
   have n2:min (mxE (M.e e)) (M.e e).nt=(M.e e).nt:=by unfold mxE;omega
   rw[n1,n2,U,if_neg (by have:=y5z hv u;omega)] at o;exact o
theorem v9q {c:Rat} (h:Fp (cmpC M sg) na x nb y c):(∀ r,r<na->x r<=(sg:Int))/\(∀ r,r<nb->y r<=(sg:Int))/\∃ k,Pth ⟨M,na,x,nb,y⟩ (k,na,nb) c:=by
 obtain⟨⟨L,i⟩,_⟩:=y2w hv sg;obtain⟨p,c0,f,j,u,v,d,z⟩:=h;obtain⟨_,o,A,l⟩:=v6y hv hg h5 hx hy i u;cases g:L p with
 | lev k =>
  rw[g] at l;rw[i.fl p k j g,z4d z2z] at d;injection d with d;rw[z,<- d,Rat.add_zero];exact⟨o,A,k,l⟩
 | ch k e s=>exact absurd (i.fc p k e s j g) v
theorem x7f (A:InSz M (sg:Int)) (C:(wgtR (cmpC M sg) na x nb y).2=0) :
  (((∀ r,r<na->x r<=(sg:Int))/\(∀ r,r<nb->y r<=(sg:Int)))->∃ o,IsCost ⟨M,na,x,nb,y⟩ o/\(wgtR (cmpC M sg) na x nb y).1=y0f o) /\
  (¬ ((∀ r,r<na->x r<=(sg:Int))/\(∀ r,r<nb->y r<=(sg:Int)))->(wgtR (cmpC M sg) na x nb y).1=infS):=by
 obtain⟨⟨L,s⟩,_⟩:=y2w hv sg;have p:=u1b (v4r hv hg h5 A) C;have v:=x8h (u3e hv hg h5) (na:=na) (x:=x) (nb:=nb) (y:=y);refine⟨fun ⟨sx,sy⟩=>?_,fun j=>?_⟩
 ·have i:∀ k c,Pth ⟨M,na,x,nb,y⟩ (k,na,nb) c->Fp (cmpC M sg) na x nb y c:=fun k c g=>by
   have d:=x3b hv hg h5 hx hy sx sy g;obtain⟨q1,q2⟩:=s.lev k (Pth.inR (P:=⟨M,na,x,nb,y⟩) hv.m0 g).1;exact⟨k,c,0,q1,d,by rw[s.fl k k q1 q2];exact u4a,by rw[s.fl k k q1 q2];exact z4d z2z,by rw[Rat.add_zero]⟩
  rcases v with ⟨d,h⟩|⟨c,d,h,u⟩
  ·exact⟨none,.inl ⟨rfl,fun k c g=>h c (i k c g)⟩,by rw[p.1,d];rfl⟩
  obtain⟨_,_,k,g⟩:=v9q hv hg h5 hx hy h;exact⟨some c,.inr ⟨c,k,rfl,g,fun B z l=>u z (i B z l)⟩,by rw[p.1,d];rfl⟩
 rcases v with ⟨d,h⟩|⟨c,d,h,u⟩
 ·rw[p.1,d];rfl
 obtain⟨a,b,_⟩:=v9q hv hg h5 hx hy h;exact absurd ⟨a,b⟩ j
end
end
end Go.Proofs.YtjekapjbigfkbaaGreatDoor
