/- Parts. -/
import Derived.Test.YteappjogmnogcaaGreatDoorZ46
namespace Go.Proofs.YteappjogmnogcaaGreatDoor
set_option maxRecDepth 100000
set_option linter.all false
set_option maxHeartbeats 16000000
open Go Tryz
section
open Go.RowKit Go.Deep
def Pm{D:MD}{mv:Value}(w:World)(hM:Ma none w mv D)(a7:MSz D):Calls prog 25 #[mv] w (TstM (VM D/\AccD D) w):=by
 obtain⟨sv,rfl,hS⟩:=hM;obtain⟨a,W,b,R,A,C,BB,O,b3,ha,hc,hm,hb,u⟩:=hS.open;subst b3;unfold maxLen at hm;obtain⟨S,z⟩:=exq<|w.alloc (.cells #[.int .i64 D.kind,.int .i64 D.start,.string D.lead,.slice a D.n W] 24);have L:Below w.heap.size w S:=by rw[z];exact(Below.refl _ w).alloc nlr _
 obtain⟨mb,E⟩:=exq<|w.heap.size;have P:S.heap[mb]?=some (.cells #[.int .i64 D.kind,.int .i64 D.start,.string D.lead,.slice a D.n W] 24 (0,0)):=by rw[z,E];exact han w _
 obtain⟨⟨m0,m1,m2,H⟩,_⟩:=cells4 P;have U:=qh<|CR S (⟨_,rfl,hS.kept (Ab L none)⟩:Ma none S (.agg #[.int .i64 D.kind,.int .i64 D.start,.string D.lead,.slice a D.n W]) D) a7;have I:=qh L;clear L;have K:=qh P;clear P a7;replace hS:=qh hS;replace ha:=qh ha;replace hb:=qh hb;replace u:=qh u;rw[z,E]at m0 m1 m2 H
 go_enter func25,ntmps25
 go_wp2_with fail
 rw[<-z,<-E];clear m0 m1 m2 H z E;refine U.o.mono ?_;rintro r w2⟨N,hr⟩;have a4:=(N.block _ (lbk K.o)).trans K.o;have J:=qh<|I.o.trans (N.mono I.o.size);clear N U I K;have B:=qh a4;clear a4
 rcases hr with⟨Q,rfl⟩|⟨Q,rfl⟩
 rotate_left
 ·have HV:=qh Q;clear Q;go_wp2;go_ret;exact⟨J.o,.inr ⟨λh=>HV.o h.1,rfl⟩⟩
 have b1:=Q.n1;have b2:=Q.n2;have HV:=qh Q;clear Q;obtain rfl:=ha.o (by omega);obtain⟨n,hn⟩:=exq<|D.n;rw[<-hn]at b1 b2 hc;have T:=qh hn;rw[<-hn];clear hn
 go_wp2_with fail
 go_loopw [3] (λv3 wr=>∃i:Nat,i<=n/\v3=.int .i64 (i:Int)/\Below w.heap.size w wr/\wr.heap[mb]?=some (.cells #[.int .i64 D.kind,.int .i64 D.start,.string D.lead,.slice (some (Ad b R)) D.n W] 24 (0,0))/\∀j,j<i->∀d,d<D.na j->D.aout j d=D.ain j d) (λv3 _=>n-(intOf v3).toNat)
 case atStart=>exact⟨0,Nat.zero_le _,rfl,J.o,B.o,λj hj=>by omega⟩
 obtain⟨i,hi,rfl,o,s,G⟩:=hrel;clear J B;replace G:=qh G;have c:=qh o;clear o;have g:=qh s;clear s;have H:=(cells4 g.o).1.2.2.2;rw[<-T.o]at H;by_cases b8:i<n
 ·have b7:(i:Int)<(n:Int):=by omega
  have b5:(0:Int)<=(i:Int):=by omega
  have a3:i<D.n:=by have:=T.o;omega
  have a8:=(hb.o (by have:=T.o;omega)).1;obtain⟨k1,k2,k3,k4,k5,k6,k7⟩:=u.o i a3;have a6:D.na i<=30000:=by have h1:=Nat.le_trans (BA D (show i+1<=D.n by omega)) HV.o.arcs;have h2:Ac D (i+1)=Ac D i+D.na i:=rfl;omega
  have B:=qh k2;clear k1 k2;obtain⟨ni,k⟩:=exq<|D.na i;rw[<-k]at a6 k3 k5 k6 k7;replace k:=qh k;unfold maxLen at k4;replace k5:=qh k5;replace k6:=qh k6;replace k7:=qh k7
  go_wp2_with fail
  clear H
  go_loopw [4] (λv4 wr=>∃d:Nat,d<=ni/\v4=.int .i64 (d:Int)/\Below w.heap.size w wr/\wr.heap[mb]?=some (.cells #[.int .i64 D.kind,.int .i64 D.start,.string D.lead,.slice (some (Ad b R)) D.n W] 24 (0,0))/\∀e,e<d->D.aout i e=D.ain i e) (λv4 _=>ni-(intOf v4).toNat)
  case atStart=>exact⟨0,Nat.zero_le _,rfl,c.o,g.o,λj hj=>by omega⟩
  obtain⟨d,Z,rfl,o,s,F⟩:=hrel;clear c g;replace F:=qh F;have c:=qh o;clear o;have g:=qh s;clear s;have H:=(cells4 g.o).1.2.2.2;rw[<-T.o]at H;have t1:=(c.o.cell (p:=(Ad b (R+i*2+1))) a8).trans B.o;rw[<-k.o]at t1;by_cases a2:d<ni
  ·have b6:(d:Int)<(ni:Int):=by omega
   have b4:(0:Int)<=(d:Int):=by omega
   have Y:=(k6.o (by omega)).1;obtain⟨u0,u1,u2,u3⟩:=k7.o d a2;have X:=k5.o (by omega);rw[X]at t1;have c0:=(c.o.cell (p:=(Ad (BB i) (O i+d*4))) Y).trans u0;have c1:=(c.o.cell (p:=(Ad (BB i) (O i+d*4+1))) Y).trans u1;clear u0 u1 u2 u3 X;obtain⟨a0,l⟩:=exq<|D.ain i d;obtain⟨a1,m⟩:=exq<|D.aout i d;rw[<-l]at c0;rw[<-m]at c1;replace l:=qh l;replace m:=qh m;by_cases he:a0=a1
   ·have HE:=qh he;subst he
    go_wp2_with fail
    go_quiet (fail)
    go_wp2;go_roundw
    case rel=>exact⟨d+1,by omega,by go_num,below_drewN c.o _,g.o,λe he=>by
     by_cases h:e=d
     ·subst h;rw[<-l.o,<-m.o]
     exact F.o e (by omega)⟩
    simp[intOf];omega
   have HE:=qh he
   go_wp2_with fail
   go_quiet (fail)
   go_wp2;go_ret;exact⟨below_drewN c.o _,.inr ⟨λh=>HE.o (by rw[l.o,m.o];exact(h.2 i d a3 (by rw[<-k.o];exact a2)).symm),rfl⟩⟩
  have a9:ni=d:=by omega
  subst a9;have a5:¬((ni:Int)<(ni:Int)):=by omega
  go_wp2_with fail
  clear H t1;go_roundw
  case rel=>exact⟨i+1,by omega,by go_num,c.o,g.o,λj hj d Z=>by
   by_cases e:j=i
   ·subst e;exact F.o d (by rw[k.o];exact Z)
   exact G.o j (by omega) d Z⟩
  simp[intOf];omega
 have b0:n=i:=by omega
 subst b0;have a5:¬((n:Int)<(n:Int)):=by omega
 go_wp2;go_ret;exact⟨c.o,.inl ⟨⟨HV.o,λq d hq Z=>G.o q (by rw[T.o];exact hq) d Z⟩,rfl⟩⟩
end
end Go.Proofs.YteappjogmnogcaaGreatDoor
