/- Parts. -/
import Derived.Test.YteappjogmnogcaaGreatDoorZ49
namespace Go.Proofs.YteappjogmnogcaaGreatDoor
set_option maxRecDepth 100000
set_option linter.all false
set_option maxHeartbeats 16000000
open Go Tryz
section
open Go.RowKit Go.Deep
def Ps{D:MD}{mv xv:Value}{na:Nat}{x:Nat->Int}(w:World)(hM:Ma none w mv D)(m:MSz D)(X:Si none w xv na x)(a2:(na:Int)<=9223372036854775807):
  Calls prog 23 #[mv,xv] w (DomE D na x w):=by
 obtain⟨sv,rfl,hS⟩:=hM;obtain⟨a,Y,b,a5,A,C,BB,O,a3,_⟩:=hS.open;subst a3;obtain⟨ax,cx,rfl⟩:=X.shape;obtain⟨J,o⟩:=exq<|w.alloc (.cells #[.int .i64 D.kind,.int .i64 D.start,.string D.lead,.slice a D.n Y] 24);have E:Below w.heap.size w J:=by rw[o];exact(Below.refl _ w).alloc nlr _
 obtain⟨mb,p⟩:=exq<|w.heap.size;have H:J.heap[mb]?=some (.cells #[.int .i64 D.kind,.int .i64 D.start,.string D.lead,.slice a D.n Y] 24 (0,0)):=by rw[o,p];exact han w _
 obtain⟨⟨m0,m1,K,L⟩,_⟩:=cells4 H;have j:∀W,Below w.heap.size w W->StS none W (.slice a D.n Y) D:=λW h=>hS.kept (Ab h none);have Q:=qh<|CR J (⟨_,rfl,j J E⟩:Ma none J (.agg #[.int .i64 D.kind,.int .i64 D.start,.string D.lead,.slice a D.n Y]) D) m;replace j:=qh j;clear hS;have s:=qh E;clear E;have u:=qh H;clear H;replace m:=qh m;replace X:=qh X;rw[o,p]at m0 m1 K L
 go_enter func23,ntmps23
 go_wp2_with fail
 rw[<-o,<-p];clear m0 m1 K L o p;refine Q.o.mono ?_;rintro r w2⟨F,hr⟩;have I:=(F.block _ (lbk u.o)).trans u.o;have c:=qh<|s.o.trans (F.mono s.o.size);clear F Q s u;obtain⟨⟨m0,m1,K,L⟩,_⟩:=cells4 I;have z:=qh I;clear I
 rcases hr with⟨U,rfl⟩|⟨U,rfl⟩
 rotate_left
 ·have B:=qh U;clear U;go_wp2;go_ret2;exact⟨c.o,(⟨#[]⟩,1),rfl,.inr ⟨λh=>B.o h.1,rfl⟩⟩
 have B:=qh U;clear U;have HW:=qh<|It w2 (X.o.kept (Ab c.o none)) a2
 go_wp2_with fail
 refine HW.o.mono ?_;rintro r w3⟨rfl,rfl⟩;cases d:isWord na x
 ·go_wp2;go_ret2;exact⟨c.o,(⟨#[]⟩,1),rfl,.inr ⟨λh=>absurd h.2 (by rw[d];simp),rfl⟩⟩
 have T:=LE d;replace d:=qh d;clear HW;have P:=qh<|Qh (lo:=true) w3 B.o (j.o w3 c.o) (λq k=>m.o.aw q k)
 go_wp2_with fail
 refine P.o.mono ?_;rintro r w4⟨G,v,st,e,rfl,l,i⟩;have S:=(G.block _ (lbk z.o)).trans z.o;clear m0 m1 K L;have g:=qh<|c.o.trans (G.mono c.o.size);clear G P c z;obtain⟨⟨m0,m1,K,L⟩,_⟩:=cells4 S;clear S;replace l:=qh l;replace i:=qh i;by_cases Z:e=0
 ·subst Z;have N:=qh<|Sk w4 B.o (j.o w4 g.o) m.o (X.o.kept (Ab g.o none)) T l.o
  go_wp2_with fail
  clear m0 m1 K L;refine N.o.mono ?_;rintro r w5⟨rfl,R⟩;have a1:=qh<|g.o.trans (R.mono g.o.size);clear R g N;go_wp2;go_ret2;refine⟨a1.o,_,rfl,.inl ⟨B.o,d.o,λhz k hk=>?_⟩⟩;exact Ue B.o.inZ hk (i.o.stZ hk) (isWord.ne d.o) (λ_ _=>rfl) hz
 have a4:¬((e:Int)=0):=by omega
 replace Z:=qh Z;go_wp2;go_ret2;exact⟨g.o,(⟨#[]⟩,e),rfl,.inl ⟨B.o,d.o,λhz=>absurd hz Z.o⟩⟩
end
end Go.Proofs.YteappjogmnogcaaGreatDoor
