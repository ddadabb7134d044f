/- Parts. -/
import Derived.Test.YtpldocnhbdlgfaaGreatDoorPc17
namespace Go.Proofs.YtpldocnhbdlgfaaGreatDoor
set_option maxRecDepth 100000
set_option linter.all false
set_option maxHeartbeats 16000000
open Go Tryz
section
open Go.RowKit Go.Deep
structure ED where
 nf:Nat
 f:Nat->Int
 nt:Nat
 t:Nat->Int
 w:ByteArray
structure EM where
 n:Nat
 e:Nat->ED
 most:Int
def Ir(n:Nat)(x:Nat->Int)(sig:Int):Prop:=∀i,i<n->1<=x i/\x i<=sig
def Rz(s:ByteArray):Prop:=∃q,prs s=some q/\0<=q
structure EdOk(d:ED):Prop where
 f6:d.nf<=6
 t6:d.nt<=6
 pos:0<d.nf+d.nt
 fw:Ir d.nf d.f 500
 tw:Ir d.nt d.t 500
 wt:Rz d.w
def qv(s:ByteArray):Rat:=(prs s).getD 0
theorem EdOk.q{d:ED}(h:EdOk d):prs d.w=some (qv d.w):=by obtain⟨q,c,_⟩:=h.wt;unfold qv;rw[c];rfl
structure EP where
 M:EM
 a:Nat
 x:Nat->Int
 b:Nat
 y:Nat->Int
abbrev Pl:=Nat × Nat × Nat
variable{n nf:Nat}{x:Nat->Int}{v:Value}{c:Int}
def Si(z:Option Nat)(w:World)(v:Value)(n:Nat)(x:Nat->Int):Prop:=Rd z w v n λi=>.int .i64 (x i)
structure ESz(M:EM):Prop where
 n:(M.n:Int)<=9223372036854775807
 f:∀i,((M.e i).nf:Int)<=4611686018427387903
 t:∀i,((M.e i).nt:Int)<=4611686018427387903
 w:∀i,((M.e i).w.size:Int)<=9223372036854775807
 m0:-9223372036854775808<=M.most
 m1:M.most<=9223372036854775807
def TstF(nf:FuncId)(cap:Array Value)(p:Int->Bool)(w:World):Prop :=
 (∀args w,(callFunc nf args).run prog w=.ok (.enter nf args) w)/\∀s:Int,Calls prog nf (#[.int .i64 s]++cap) w (λr w'=>r=.returned (.bool (p s))/\w'=w)
def anyI(n:Nat)(x:Nat->Int)(p:Int->Bool):Bool:=(List.range n).any λi=>p (x i)
def GB{p:Int->Bool}:anyI n x p=true↔∃i,i<n/\p (x i)=true:=by simp[anyI]
theorem Tj{l:Array Value}{p:Int->Bool}(w:World)(C:Si none w v n x)(hn:(n:Int)<=9223372036854775807)(L:TstF nf l p w):
  Calls prog 158 #[v,.func (.func nf) #[] l] w (λr w'=>w'=w/\∃k:Int,r=.returned (.int .i64 k)/\(decide (0<=k)=anyI n x p)):=by
 obtain⟨a,D,b,N,rfl,z,O,J,hb,d⟩:=C.open;unfold maxLen at J;obtain⟨G,g⟩:=L;replace z:=qh z;replace hb:=qh hb;replace d:=qh d;clear C;replace g:=qh g
 go_enter func158,ntmps158
 go_wp2_with fail
 go_loop [8] (λi=>∃q:Nat,q<=n/\i=.int .i64 (q:Int)/\∀j,j<q->p (x j)=false) (λi=>n-(intOf i).toNat)
 case atStart=>exact⟨0,Nat.zero_le _,rfl,λj I=>by omega⟩
 obtain⟨q,P,rfl,h⟩:=hrel;replace h:=qh h;by_cases s:q<n
 ·have K:(q:Int)<(n:Int):=by omega
  have B:(0:Int)<=(q:Int):=by omega
  obtain rfl:=z.o (by omega);have c0:=d.o q s;have c:=g.o<|x q;replace c:=qh c
  go_wp2_with fail
  refine c.o.mono ?_;rintro r Q⟨rfl,rfl⟩;cases o:p (x q)
  ·replace o:=qh o;go_wp2
   go_round
   case rel=>exact⟨q+1,by omega,by go_num,λj I=>by
    by_cases e:j=q
    ·subst e;exact o.o
    exact h.o j (by omega)⟩
   simp[intOf];omega
  replace o:=qh o;go_wp2;go_ret;refine⟨rfl,_,rfl,?_⟩;have u:anyI n x p=true:=GB.2 ⟨q,s,o.o⟩;rw[u];simp
 have m:q=n:=by omega
 have H:¬((q:Int)<(n:Int)):=by omega
 replace m:=qh m;go_wp2;go_ret;refine⟨rfl,_,rfl,?_⟩;have u:anyI n x p=false:=by
  cases E:anyI n x p
  ·rfl
  obtain⟨i,F,A⟩:=GB.1 E;rw[h.o i (by rw[m.o];exact F)]at A;cases A
 rw[u];rfl
def Ry{c:Array Value}{p:Int->Bool}(w:World)(h:Si none w v n x)(hn:(n:Int)<=9223372036854775807)(g:TstF nf c p w):
  Calls prog 121 #[v,.func (.func nf) #[] c] w (λr w'=>r=.returned (.bool (anyI n x p))/\w'=w):=by
 have i:=qh<|Tj w h hn g;clear h hn g
 go_enter func121,ntmps121
 go_wp2_with fail
 refine i.o.mono ?_;rintro r j⟨rfl,k,rfl,d⟩;replace d:=qh d;go_wp2;go_ret;exact⟨AH d.o,rfl⟩
def offI(sig s:Int):Bool:=decide (s<1)||decide (sig<s)
def DK(n:Nat)(x:Nat->Int)(sig:Int):Bool:=!anyI n x (offI sig)
theorem Iq:DK n x c=true↔Ir n x c:=by
 unfold DK;rw[Bool.not_eq_true',Bool.eq_false_iff]
 constructor
 ·intro h i hi;cases d:offI c (x i)
  ·unfold offI at d;simp at d;omega
  exact absurd (GB.2 ⟨i,hi,d⟩) h
 intro h j;obtain⟨i,d,g⟩:=GB.1 j;have:=h i d;unfold offI at g;simp at g;omega
def PW:DK n x c=false↔¬Ir n x c:=by
 rw[<-Iq];simp
end
end Go.Proofs.YtpldocnhbdlgfaaGreatDoor
