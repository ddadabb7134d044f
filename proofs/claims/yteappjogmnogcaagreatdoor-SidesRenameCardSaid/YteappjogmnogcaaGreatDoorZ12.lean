/- Parts. -/
import Derived.Test.YteappjogmnogcaaGreatDoorZ11
namespace Go.Proofs.YteappjogmnogcaaGreatDoor
set_option maxRecDepth 100000
set_option linter.all false
set_option maxHeartbeats 16000000
open Go Tryz
section
open Go.RowKit Go.Deep
def cellOf{w:World}{b:Nat}{c:Array Value}{e:TypeId}{f:Nat × Nat}(h:w.heap[b]?=some (.cells c e f))(i:Nat){v:Value}(d:c[i]?=some v):w.cell? (Ad b i)=some v:=by
 simp[World.cell?,h,d]
variable{z:Option Nat}{w:World}{v:Value}{i:Nat}
structure MD where
 kind:Int
 start:Int
 lead:ByteArray
 n:Nat
 fin:Nat->ByteArray
 na:Nat->Nat
 ain:Nat->Nat->Int
 aout:Nat->Nat->Int
 aw:Nat->Nat->ByteArray
 ato:Nat->Nat->Int
def ArS(z:Option Nat)(w:World)(v:Value)(D:MD)(i:Nat):Prop :=
 (D.na i=0/\∃a cap,v=.slice a 0 cap/\cap<=maxLen)\/∃b off cap,v=.slice (some (Ad b off)) (D.na i) cap/\(b<w.heap.size/\some b≠z)/\D.na i<=cap/\cap<=maxLen/\∀k,k<D.na i ->
  w.cell? (Ad b (off+k*4))=some (.int .i64 (D.ain i k))/\w.cell? (Ad b (off+k*4+1))=some (.int .i64 (D.aout i k))/\w.cell? (Ad b (off+k*4+2))=some (.string (D.aw i k))/\w.cell? (Ad b (off+k*4+3))=some (.int .i64 (D.ato i k))
def StS(z:Option Nat)(w:World)(v:Value)(D:MD):Prop :=
 (D.n=0/\∃a cap,v=.slice a 0 cap/\cap<=maxLen)\/∃b off cap,∃A:Nat->Value,v=.slice (some (Ad b off)) D.n cap/\(b<w.heap.size/\some b≠z)/\D.n<=cap/\cap<=maxLen/\∀i,i<D.n ->
  w.cell? (Ad b (off+i*2))=some (.string (D.fin i))/\w.cell? (Ad b (off+i*2+1))=some (A i)/\ArS z w (A i) D i
def ArS.kept{l:World}{D:MD}(h:ArS z w v D i)(d:w.grownBy l z):ArS z l v D i:=by
 rcases h with h|⟨b,j,g,u,c,m,o,p⟩
 ·exact .inl h
 refine .inr ⟨b,j,g,u,⟨Nat.lt_of_lt_of_le c.1 d.size,c.2⟩,m,o,λk s=>?_⟩;obtain⟨c1,c2,c3,c4⟩:=p k s;exact⟨d.cell c1 c.2,d.cell c2 c.2,d.cell c3 c.2,d.cell c4 c.2⟩
theorem StS.kept{z:Option Nat}{w k:World}{v:Value}{D:MD}(h:StS z w v D)(d:w.grownBy k z):StS z k v D:=by
 rcases h with h|⟨b,j,g,A,p,c,l,m,o⟩
 ·exact .inl h
 refine .inr ⟨b,j,g,A,p,⟨Nat.lt_of_lt_of_le c.1 d.size,c.2⟩,l,m,λi hi=>?_⟩;obtain⟨c1,c2,c3⟩:=o i hi;exact⟨d.cell c1 c.2,d.cell c2 c.2,c3.kept d⟩
def StS.open{D:MD}(h:StS z w v D):∃a cap b off,∃(A:Nat->Option Addr) (C B O:Nat->Nat),v=.slice a D.n cap/\(0<D.n->a=some (Ad b off))/\D.n<=cap/\cap<=maxLen/\(0<D.n->b<w.heap.size/\some b≠z)/\
  ∀i,i<D.n->w.cell? (Ad b (off+i*2))=some (.string (D.fin i))/\w.cell? (Ad b (off+i*2+1))=some (.slice (A i) (D.na i) (C i))/\D.na i<=C i/\C i<=maxLen/\(0<D.na i->A i=some (Ad (B i) (O i)))/\(0<D.na i->B i<w.heap.size/\some (B i)≠z)/\
   ∀k,k<D.na i->w.cell? (Ad (B i) (O i+k*4))=some (.int .i64 (D.ain i k))/\w.cell? (Ad (B i) (O i+k*4+1))=some (.int .i64 (D.aout i k))/\w.cell? (Ad (B i) (O i+k*4+2))=some (.string (D.aw i k))/\w.cell? (Ad (B i) (O i+k*4+3))=some (.int .i64 (D.ato i k)):=by
 rcases h with⟨G,a,cap,rfl,K⟩|⟨b,off,cap,A,rfl,H,I,J,g⟩
 ·exact⟨a,cap,0,0,λ_=>none,λ_=>0,λ_=>0,λ_=>0,by rw[G],by omega,by omega,K,by omega,λi hi=>by omega⟩
 classical
 have c:∀i,∃t:Option Addr × Nat × Nat × Nat,i<D.n->A i=.slice t.1 (D.na i) t.2.1/\D.na i<=t.2.1/\t.2.1<=maxLen/\(0<D.na i->t.1=some (Ad t.2.2.1 t.2.2.2))/\(0<D.na i->t.2.2.1<w.heap.size/\some t.2.2.1≠z)/\
   ∀k,k<D.na i->w.cell? (Ad t.2.2.1 (t.2.2.2+k*4))=some (.int .i64 (D.ain i k))/\w.cell? (Ad t.2.2.1 (t.2.2.2+k*4+1))=some (.int .i64 (D.aout i k))/\w.cell? (Ad t.2.2.1 (t.2.2.2+k*4+2))=some (.string (D.aw i k))/\w.cell? (Ad t.2.2.1 (t.2.2.2+k*4+3))=some (.int .i64 (D.ato i k)):=λi=>by
  by_cases hi:i<D.n
  ·rcases (g i hi).2.2 with⟨u,F,d,e,j⟩|⟨s,E,d,e,l,m,o,p⟩
   ·exact⟨(F,d,0,0),λ_=>⟨by rw[e,u],by rw[u];exact Nat.zero_le _,j,by omega,by omega,λk P=>by omega⟩⟩
   exact⟨(some (Ad s E),d,s,E),λ_=>⟨e,m,o,λ_=>rfl,λ_=>l,p⟩⟩
  exact⟨(none,0,0,0),λh=>absurd h hi⟩
 refine⟨_,cap,b,off,λi=>(Classical.choose (c i)).1,λi=>(Classical.choose (c i)).2.1,λi=>(Classical.choose (c i)).2.2.1,λi=>(Classical.choose (c i)).2.2.2,rfl,λ_=>rfl,I,J,λ_=>H,λi hi=>?_⟩;obtain⟨l,m,o,p,L,N⟩:=Classical.choose_spec (c i) hi;exact⟨(g i hi).1,by rw[(g i hi).2.1,l],m,o,p,L,N⟩
def Ma(z:Option Nat)(w:World)(v:Value)(D:MD):Prop:=∃sv,v=.agg #[.int .i64 D.kind,.int .i64 D.start,.string D.lead,sv]/\StS z w sv D
def Ac(D:MD):Nat->Nat
 |0=>0
 |i+1=>Ac D i+D.na i
def BA(D:MD){j:Nat}(h:i<=j):Ac D i<=Ac D j:=by
 induction j with
 |zero =>
      have:i=0:=by omega
      subst this;exact nlr
 |succ j ih =>
  by_cases e:i=j+1
  ·subst e;exact nlr
  have:=ih (by omega);show _<=Ac D j+D.na j;omega
structure ArcOk(D:MD)(i k:Nat):Prop where
 i0:0<=D.ain i k
 i1:D.ain i k<=500
 o0:0<=D.aout i k
 o1:D.aout i k<=500
 t0:0<=D.ato i k
 t1:D.ato i k<(D.n:Int)
 wt:Aw D.kind (D.aw i k)=true
structure VM(D:MD):Prop where
 kind:Ao D.kind=true
 n1:1<=D.n
 n2:D.n<=3000
 s0:0<=D.start
 s1:D.start<(D.n:Int)
 lead:Aw D.kind D.lead=true
 arcs:Ac D D.n<=30000
 fin:∀i,i<D.n->D.fin i=⟨#[]⟩\/Aw D.kind (D.fin i)=true
 arc:∀i k,i<D.n->k<D.na i->ArcOk D i k
structure MSz(D:MD):Prop where
 lead:D.lead.size<=9223372036854775807
 fin:∀i,(D.fin i).size<=9223372036854775807
 aw:∀i k,(D.aw i k).size<=9223372036854775807
 na:∀i,D.na i<=140737488355328
 n:D.n<=140737488355328
 kind:-9223372036854775808<=D.kind/\D.kind<=9223372036854775807
variable{D:MD}{wr:World}{c:Nat}{sv:Value}
def QF(s:Int)(w:World):Calls prog 76 #[.int .i64 s] w λe w'=>e=.returned (.bool (decide (0<=s)&&decide (s<=500)))/\w=w':=by
 by_cases h:0<=s
 ·go_enter func76,ntmps76
  go_wp2;go_ret;exact⟨Az (by simp[h]),rfl⟩
 have c:decide (0<=s)=false:=by simp;omega
 go_enter func76,ntmps76
 go_wp2;go_ret;exact⟨Az rfl,rfl⟩
def CV(w:World)(cs:Array Value)(t:TypeId)(i:Nat)(v:Value)(h:cs[i]?=some v):(w.alloc (.cells cs t)).cell? (Ad w.heap.size i)=some v:=by
 have c:(w.alloc (.cells cs t)).heap[w.heap.size]?=some (.cells cs t (0,0)):=han w _;generalize w.heap.size=b at *;generalize w.alloc (.cells cs t)=w2 at *;simp[World.cell?,c,h]
def ValidE(D:MD)(w:World)(r:Ending)(w':World):Prop:=Below w.heap.size w w'/\((VM D/\r=.returned (.bool true))\/(¬VM D/\r=.returned (.bool false)))
def BoxM(wr:World)(mb:Nat)(D:MD)(sv:Value):Prop:=wr.heap[mb]?=some (.cells #[.int .i64 D.kind,.int .i64 D.start,.string D.lead,sv] 24 (0,0))
theorem BoxM.c0(h:BoxM wr c D sv):wr.cell? (Ad c 0)=some (.int .i64 D.kind):=by unfold BoxM at h;simp[World.cell?,h]
theorem BoxM.c1(h:BoxM wr c D sv):wr.cell? (Ad c 1)=some (.int .i64 D.start):=by unfold BoxM at h;simp[World.cell?,h]
theorem BoxM.c2(h:BoxM wr c D sv):wr.cell? (Ad c 2)=some (.string D.lead):=by unfold BoxM at h;simp[World.cell?,h]
theorem BoxM.c3(h:BoxM wr c D sv):wr.cell? (Ad c 3)=some sv:=by unfold BoxM at h;simp[World.cell?,h]
theorem BoxM.lt(h:BoxM wr c D sv):c<wr.heap.size:=(Array.getElem?_eq_some_iff.1 h).1
def BoxM.kept{d:World}{z:Option Nat}(h:BoxM wr c D sv)(g:wr.grownBy d z)(i:some c≠z):BoxM d c D sv:=by
 unfold BoxM;rw[g.block c h.lt i];exact h
def BoxM.new(w:World)(D:MD)(sv:Value):BoxM (w.alloc (.cells #[.int .i64 D.kind,.int .i64 D.start,.string D.lead,sv] 24)) w.heap.size D sv:=han w _
def Ds{v:Value}(w:World)(hM:Ma none w v D)(hs:MSz D)(ht:Tab w):Calls prog 34 #[v] w (ValidE D w):=by
 obtain⟨sv,rfl,hS⟩:=hM;obtain⟨a,J,b,b3,A,C,BB,O,rfl,ha,hc,hm,hb,S⟩:=hS.open;unfold maxLen at hm;clear hS;have j:=BoxM.new w D (.slice a D.n J);have a3:Below w.heap.size w (w.alloc (.cells #[.int .i64 D.kind,.int .i64 D.start,.string D.lead,.slice a D.n J] 24)):=blr.alloc nlr _;have f1:=hs.n;obtain⟨e8,e9⟩:=hs.kind;replace hs:=qh hs;replace ht:=qh ht;replace ha:=qh ha;have HB:=qh hb;clear hb;replace S:=qh S;have m0:=j.c0;have m1:=j.c1;have m2:=j.c2;have m3:=j.c3;have H:=qh j;clear j;have u:=qh a3;clear a3
 go_enter func34,ntmps34
 go_wp2_with fail
 all_goals first
  |(go_ret;exact⟨u.o,.inr ⟨λv=>by have s:=v.kind;have E:=v.n1;have h3:=v.n2;have h4:=v.s0;have h5:=v.s1;unfold Ao at s;simp at s;omega,rfl⟩⟩)
  |skip
 have b0:Ao D.kind=true:=by unfold Ao;simp;omega
 obtain⟨wm,U⟩:=exq<|w.alloc (.cells #[.int .i64 D.kind,.int .i64 D.start,.string D.lead,.slice a D.n J] 24);obtain⟨mb,P⟩:=exq<|w.heap.size;have R:1<=D.n/\D.n<=3000/\0<=D.start/\D.start<(D.n:Int):=by omega
 replace R:=qh R;replace b0:=qh b0;rw[<-U,<-P]at H;rw[<-U]at u;rw[<-P];rw[<-U]at m0 m1 m2 m3;rw[<-P]at m0 m1 m2 m3;rw[<-U];replace P:=qh P;clear U;have I:=Iv D.kind D.lead wm hs.o.lead (ht.o.below u.o nlr);replace I:=qh I;clear m0 m1 m2 m3;cases hw:Aw D.kind D.lead
 ·rw[hw]at I;refine I.o.mono ?_;rintro r w1⟨rfl,K⟩;go_wp2;go_ret;exact⟨u.o.trans (K.mono u.o.size),.inr ⟨λv=>by rw[v.lead]at hw;exact absurd hw (by simp),rfl⟩⟩
 rw[hw]at I;refine I.o.mono ?_;rintro r w1⟨rfl,K⟩;have N:=H.o.kept (Ab K none) (by simp);have a2:=u.o.trans<|K.mono u.o.size;clear K;have m3:=N.c3;have a1:=qh N;clear N H;have Z:=qh a2;clear a2 u
 go_wp2_with fail
 clear m3
 go_loopw [4,50] (λc i wr=>∃q:Nat,q<=D.n/\i=.int .i64 (q:Int)/\c=.int .i64 (Ac D q:Nat)/\Ac D q<=30000/\
  (∀l,l<q->(D.fin l=⟨#[]⟩\/Aw D.kind (D.fin l)=true)/\∀k,k<D.na l->ArcOk D l k)/\BoxM wr mb D (.slice a D.n J)/\Below w.heap.size w wr) (λ_ i _=>D.n-(intOf i).toNat)
 case atStart=>exact⟨0,Nat.zero_le _,rfl,rfl,by show 0<=30000;omega,λl hl=>by omega,a1.o,Z.o⟩
 obtain⟨q,hq,rfl,rfl,d3,Q,b7,F⟩:=hrel;clear a1 Z;replace Q:=qh Q;have H:=qh b7;clear b7;replace F:=qh F;by_cases G:q<D.n
 ·have f2:(q:Int)<(D.n:Int):=by omega
  have e4:(0:Int)<=(q:Int):=by omega
  obtain rfl:=ha.o (by omega);have b6:=(HB.o (by omega)).1;obtain⟨k1,k2,k3,k4,k5,k6,k7⟩:=S.o q G;generalize A q=aq at k2 k5;have c0:=(F.o.cell (p:=(Ad b (b3+q*2))) b6).trans k1;have c1:=(F.o.cell (p:=(Ad b (b3+q*2+1))) b6).trans k2;unfold maxLen at k4;have mA:=λo=>(BoxM.c0 (H.o.kept (World.grownBy_alloc wr o none) (by simp)));have mB:=λo=>H.o.kept (World.grownBy_alloc wr o none) (by simp);have Y:=λo=>F.o.alloc F.o.size o;replace mB:=qh mB;replace Y:=qh Y;clear k1 k2;replace k7:=qh k7;replace k5:=qh k5;replace k6:=qh k6;have f0:=hs.o.na q;by_cases hG:30000<Ac D q+D.na q
  ·have d2:(30000:Int)<(Ac D q:Nat)+(D.na q:Int):=by omega
   go_wp2;go_ret;exact⟨Y.o _,.inr ⟨λv=>by have s:=v.arcs;have E:=BA D (show q+1<=D.n by omega);have h3:Ac D (q+1)=Ac D q+D.na q:=rfl;omega,rfl⟩⟩
  have d2:decide ((30000:Int)<(Ac D q:Nat)+(D.na q:Int))=false:=by simp;omega
  cases hF:((D.fin q).toList==[])
  focus
   have b1:=λwx hb=>Iv D.kind (D.fin q) wx (hs.o.fin q) (ht.o.below (B:=w.heap.size) hb nlr);replace b1:=qh b1
   go_wp2_with fail
   refine(b1.o _ (Y.o _)).mono ?_;rintro r w2⟨rfl,L⟩;cases b2:Aw D.kind (D.fin q)
   ·go_wp2;go_ret;exact⟨(Y.o _).trans (L.mono (Y.o _).size),.inr ⟨λv=>by
     rcases v.fin q G with s|s
     ·rw[s]at hF;exact absurd hF (by simp)
     rw[s]at b2;exact absurd b2 (by simp),rfl⟩⟩
   have d0:=(mB.o (.cells #[.string (D.fin q),.slice aq (D.na q) (C q)] 57)).kept (Ab L none) (by simp);have d1:=(Y.o (.cells #[.string (D.fin q),.slice aq (D.na q) (C q)] 57)).trans (L.mono (Y.o _).size);have d7:w2.cell? (Ad wr.heap.size 1)=some (.slice aq (D.na q) (C q)):=by
    rw[L.cell (p:=(Ad wr.heap.size 1)) (by simp)];exact CV wr _ _ 1 _ rfl
   clear L;have a7:=qh d0;clear d0;have a8:=qh d1;clear d1;have b4:=qh<|show D.fin q=⟨#[]⟩\/Aw D.kind (D.fin q)=true from .inr b2
   go_wp2_with fail
   clear d7
  rotate_left
  focus
   have b9:D.fin q=⟨#[]⟩:=by rw[beq_iff_eq,Lib.toList_data]at hF;exact ByteArray.ext<|Array.toList_inj.1 hF
   have b4:=qh<|show D.fin q=⟨#[]⟩\/Aw D.kind (D.fin q)=true from .inl b9;clear b9;have a7:=qh<|mB.o (.cells #[.string (D.fin q),.slice aq (D.na q) (C q)] 57);have a8:=qh<|Y.o (.cells #[.string (D.fin q),.slice aq (D.na q) (C q)] 57)
   go_wp2_with fail
  all_goals
   go_loopw [77] (λi wr=>∃d:Nat,d<=D.na q/\i=.int .i64 (d:Int)/\(∀k,k<d->ArcOk D q k)/\BoxM wr mb D (.slice (some (Ad b b3)) D.n J)/\Below w.heap.size w wr) (λi _=>D.na q-(intOf i).toNat)
   case atStart=>exact⟨0,Nat.zero_le _,rfl,λk hk=>by omega,a7.o,a8.o⟩
   obtain⟨d,hd,rfl,X,z,g⟩:=hrel;clear a7 a8;replace X:=qh X;replace z:=qh z;replace g:=qh g;by_cases m:d<D.na q
   ·have e7:(d:Int)<(D.na q:Int):=by omega
    have d9:(0:Int)<=(d:Int):=by omega
    obtain rfl:=k5.o (by omega);have W:=(k6.o (by omega)).1;obtain⟨j0,j1,j2,j3⟩:=k7.o d m;have e0:=(g.o.cell (p:=(Ad (BB q) (O q+d*4))) W).trans j0;have e1:=(g.o.cell (p:=(Ad (BB q) (O q+d*4+1))) W).trans j1;have e2:=(g.o.cell (p:=(Ad (BB q) (O q+d*4+2))) W).trans j2;have e3:=(g.o.cell (p:=(Ad (BB q) (O q+d*4+3))) W).trans j3;clear j0 j1 j2 j3;have d8:=λo=>(BoxM.c0 (z.o.kept (World.grownBy_alloc wr o none) (by simp)));have b5:=qh<|λo=>z.o.kept (World.grownBy_alloc wr o none) (by simp);have h:=qh<|λo=>g.o.alloc g.o.size o;have T:=λwx hb=>Iv D.kind (D.aw q d) wx (hs.o.aw q d) (ht.o.below (B:=w.heap.size) hb nlr);replace T:=qh T
    go_wp2_with fail
    refine(QF _ _).mono ?_;rintro r w'⟨rfl,rfl⟩;cases c7:(decide (0<=D.ain q d)&&decide (D.ain q d<=500))
    ·have a5:=qh c7;go_wp2;go_ret;exact⟨h.o _,.inr ⟨λv=>by have s:=v.arc q d G m;have E:=a5.o;rw[decide_eq_true s.i0,decide_eq_true s.i1]at E;exact absurd E (by simp),rfl⟩⟩
    have a5:=qh c7
    go_wp2_with fail
    refine(QF _ _).mono ?_;rintro r w'⟨rfl,rfl⟩;cases c8:(decide (0<=D.aout q d)&&decide (D.aout q d<=500))
    ·have a6:=qh c8;go_wp2;go_ret;exact⟨h.o _,.inr ⟨λv=>by have s:=v.arc q d G m;have E:=a6.o;rw[decide_eq_true s.o0,decide_eq_true s.o1]at E;exact absurd E (by simp),rfl⟩⟩
    have a6:=qh c8;by_cases f3:D.ato q d<0
    ·go_wp2;go_ret;exact⟨h.o _,.inr ⟨λv=>by have s:=(v.arc q d G m).t0;omega,rfl⟩⟩
    have e5:decide (D.ato q d<0)=false:=by simp;omega
    by_cases f4:(D.n:Int)<=D.ato q d
    ·go_wp2;go_ret;exact⟨h.o _,.inr ⟨λv=>by have s:=(v.arc q d G m).t1;omega,rfl⟩⟩
    have e6:decide ((D.n:Int)<=D.ato q d)=false:=by simp;omega
    go_wp2_with fail
    refine(T.o _ (h.o _)).mono ?_;rintro r w4⟨rfl,a9⟩;have b8:=(b5.o _).kept (Ab a9 none) (by simp);have a4:=(h.o _).trans (a9.mono (h.o _).size);clear a9 d8 e0 e1 e2 e3;cases c9:Aw D.kind (D.aw q d)
    ·go_wp2;go_ret;exact⟨a4,.inr ⟨λv=>by have s:=(v.arc q d G m).wt;rw[c9]at s;exact absurd s (by simp),rfl⟩⟩
    go_wp2;go_roundw
    case rel =>
     refine⟨d+1,by omega,by go_num,λk hk=>?_,b8,a4⟩
     rcases Nat.lt_succ_iff_lt_or_eq.1 hk with E|E
     ·exact X.o k E
     subst E;have h3:=a5.o;have h4:=a6.o;simp only[Bool.and_eq_true,decide_eq_true_eq]at h3 h4;exact⟨h3.1,h3.2,h4.1,h4.2,by omega,by omega,c9⟩
    simp[intOf];omega
   have d4:d=D.na q:=by omega
   subst d4;have d5:¬((D.na q:Int)<(D.na q:Int)):=by omega
   go_wp2;go_roundw
   case rel =>
    refine⟨q+1,by omega,by go_num,rfl,by show Ac D q+D.na q<=30000;omega,λl hl=>?_,z.o,g.o⟩
    rcases Nat.lt_succ_iff_lt_or_eq.1 hl with E|E
    ·exact Q.o l E
    subst E;exact⟨b4.o,X.o⟩
   simp[intOf];omega
 have d6:q=D.n:=by omega
 subst d6;have d5:¬((D.n:Int)<(D.n:Int)):=by omega
 obtain⟨p1,p2,p3,p4⟩:=R.o;go_wp2;go_ret;exact⟨F.o,.inl ⟨⟨b0.o,p1,p2,p3,p4,hw,d3,λi hi=>(Q.o i hi).1,λi k hi hk=>(Q.o i hi).2 k hk⟩,rfl⟩⟩
end
section
open Go.RowKit Go.Deep
variable{z:Option Nat}{e q:Nat}{k:Int}{a b:ByteArray}
structure Fr(C:Nat->Prop)(w w':World):Prop where
 os:w'.os=w.os
 tape:w'.tape=w.tape
 output:w'.output=w.output
 size:w.heap.size<=w'.heap.size
 block:∀q,q<w.heap.size->¬C q->w'.heap[q]?=w.heap[q]?
namespace Fr
variable{C C':Nat->Prop}{w w' w2:World}
theorem refl(C:Nat->Prop)(w:World):Fr C w w:=⟨rfl,rfl,rfl,nlr,λ_ _ _=>rfl⟩
theorem trans(h:Fr C w w')(k:Fr C w' w2):Fr C w w2:=⟨k.os.trans h.os,k.tape.trans h.tape,k.output.trans h.output,Nat.le_trans h.size k.size,λq d c=>(k.block q (by have:=h.size;omega) c).trans (h.block q d c)⟩
theorem mono(h:Fr C w w')(d:∀q,q<w.heap.size->C q->C' q):Fr C' w w':=⟨h.os,h.tape,h.output,h.size,λq c g=>h.block q c λe=>g (d q c e)⟩
theorem of_gb(h:w.grownBy w' z)(g:∀q,z=some q->C q):Fr C w w':=⟨h.os,h.tape,h.output,h.size,λq d c=>h.block q d λe=>c (g q e.symm)⟩
theorem of_below(h:Below w.heap.size w w'):Fr C w w':=of_gb (Ab h none) (by simp)
theorem alloc(w:World)(o:Obj):Fr C w (w.alloc o):=of_gb (World.grownBy_alloc w o none) (by simp)
theorem drew(h:Fr C w w'):Fr C w w'.drew:=⟨h.os,h.tape,h.output,h.size,h.block⟩
theorem set(h:Fr C w w'){p:Addr}(g:C p.block\/w.heap.size<=p.block)(v:Value):Fr C w (w'.setCell p v) :=
 ⟨h.os,h.tape,h.output,by rw[nblk_setCell];exact h.size,λq i c=>(blk_setCell_other _ _ _ _ (by
  rcases g with e|e
  ·intro d;subst d;exact c e
  omega)).trans (h.block q i c)⟩
theorem below(h:Fr C w w'){B:Nat}(d:B<=w.heap.size)(c:∀q,C q->B<=q):Below B w w':=⟨h.os,h.tape,h.output,h.size,λq g=>h.block q (by omega) λe=>by have:=c q e;omega⟩
theorem gb(h:Fr (λq=>z=some q) w w'):w.grownBy w' z:=⟨h.os,h.tape,h.output,h.size,λq c d=>h.block q c λe=>d e.symm⟩
theorem cell(h:Fr C w w'){p:Addr}{v:Value}(c:w.cell? p=some v)(g:¬C p.block):w'.cell? p=some v:=by
 have d:p.block<w.heap.size:=by
  unfold World.cell? at c;cases hb:w.heap[p.block]? with
  |none=>simp[hb]at c
  |some o=>exact(Array.getElem?_eq_some_iff.1 hb).1
 unfold World.cell? at c ⊢;rw[h.block _ d g];exact c
theorem row(h:Fr C w w'){g:Nat}{t:TypeId}{n:Nat}{F:Nat->Value}(c:w.rowIs g t n F)(d:¬C g):w'.rowIs g t n F:=c.of_block<|h.block g c.lt d
end Fr
theorem Ar{w:World}{p:Addr}(h:q≠p.block)(v:Value):(w.setCell p v).heap[q]?=w.heap[q]?:=blk_setCell_other _ _ _ _ h
def AN(k:Int)(a b:ByteArray)(e:Nat):ByteArray × Nat:=if a=⟨#[]⟩\/e≠0 then (b,e) else Am k a b
def AQ(k:Int)(a b:ByteArray)(e:Nat):ByteArray × Nat:=if e≠0 then (a,e) else Al k a b
abbrev WS:=(Nat->ByteArray) × Nat
def updS(l:Nat->ByteArray)(t:Nat)(s:ByteArray):Nat->ByteArray:=λj=>if j=t then s else l j
def arcC(D:MD)(sel:Int->Int->Bool)(v:Nat->ByteArray)(q k:Nat)(s:WS):WS :=
 if sel (D.ain q k) (D.aout q k)=true then
  (updS s.1 (D.ato q k).toNat (AN D.kind (s.1 (D.ato q k).toNat) (AQ D.kind (v q) (D.aw q k) s.2).1 (AQ D.kind (v q) (D.aw q k) s.2).2).1,(AN D.kind (s.1 (D.ato q k).toNat) (AQ D.kind (v q) (D.aw q k) s.2).1 (AQ D.kind (v q) (D.aw q k) s.2).2).2)
 else s
def Cu(D:MD)(sel:Int->Int->Bool)(v:Nat->ByteArray)(q:Nat):Nat->WS->WS
 |0,s=>s
 |k+1,s=>arcC D sel v q k (Cu D sel v q k s)
def rowC(D:MD)(sel:Int->Int->Bool)(v:Nat->ByteArray)(q:Nat)(s:WS):WS:=if v q=⟨#[]⟩ then s else Cu D sel v q (D.na q) s
def Br(D:MD)(sel:Int->Int->Bool)(v:Nat->ByteArray):Nat->WS->WS
 |0,s=>s
 |q+1,s=>rowC D sel v q (Br D sel v q s)
def endC(D:MD)(v:Nat->ByteArray):Nat->ByteArray × Nat->ByteArray × Nat
 |0,s=>s
 |q+1,s=>if v q=⟨#[]⟩\/D.fin q=⟨#[]⟩ then endC D v q s else AN D.kind (endC D v q s).1 (AQ D.kind (v q) (D.fin q) (endC D v q s).2).1 (AQ D.kind (v q) (D.fin q) (endC D v q s).2).2
def finC(D:MD)(v:Nat->ByteArray)(e:Nat):ByteArray × Nat:=if (endC D v D.n (Af D.kind,e)).2≠0 then (⟨#[]⟩,(endC D v D.n (Af D.kind,e)).2) else ((endC D v D.n (Af D.kind,e)).1,0)
def Fx(D:MD):Nat->ByteArray:=λq=>if q=D.start.toNat then D.lead else ⟨#[]⟩
def Ax:Nat->ByteArray:=λ_=>⟨#[]⟩
def smS(s:ByteArray):Prop:=s.size<=9223372036854775807
theorem NV(v:V):smS (limV v).1:=by
 unfold smS;cases v with
 |inf=>decide
 |low=>decide
 |fin q=>exact Nat.le_trans (NT q) (by omega)
theorem Ic(k:Int)(a b:ByteArray):smS (Am k a b).1:=by
 unfold Am;split
 ·exact NV _
 show (str []).size<=_;decide
theorem QM(k:Int)(a b:ByteArray):smS (Al k a b).1:=by
 unfold Al;split
 ·exact NV _
 show (str []).size<=_;decide
theorem Ib(hb:smS b):smS (AN k a b e).1:=by
 unfold AN;split
 ·exact hb
 exact Ic _ _ _
theorem FB(c:smS a):smS (AQ k a b e).1:=by
 unfold AQ;split
 ·exact c
 exact QM _ _ _
theorem Sr{D:MD}{sel:Int->Int->Bool}{v:Nat->ByteArray}{k:Nat}{s:WS}(d:smS (v q))(c:∀j,smS (s.1 j))(j:Nat):smS ((arcC D sel v q k s).1 j):=by
 unfold arcC;split
 ·show smS (updS s.1 _ _ j);unfold updS;split
  ·exact Ib (FB d)
  exact c j
 exact c j
theorem Jb{D:MD}{sel:Int->Int->Bool}{v:Nat->ByteArray}{q:Nat}(hv:smS (v q)):∀(k:Nat) {s:WS},(∀j,smS (s.1 j))->∀j,smS ((Cu D sel v q k s).1 j)
 |0,_,hs=>hs
 |k+1,_,hs=>λj=>Sr hv (Jb hv k hs) j
theorem EJ{D:MD}{sel:Int->Int->Bool}{v:Nat->ByteArray}(hv:∀j,smS (v j)):∀(q:Nat) {s:WS},(∀j,smS (s.1 j))->∀j,smS ((Br D sel v q s).1 j)
 |0,_,hs=>hs
 |q+1,s,hs=>λj=>by
  show smS ((rowC D sel v q (Br D sel v q s)).1 j);unfold rowC;split
  ·exact EJ hv q hs j
  exact Jb (hv q) _ (EJ hv q hs) j
theorem Nh{D:MD}{v:Nat->ByteArray}(hv:∀j,smS (v j)):∀(q:Nat) {s:ByteArray × Nat},smS s.1->smS (endC D v q s).1
 |0,_,hs=>hs
 |q+1,s,hs=>by
  unfold endC;split
  ·exact Nh hv q hs
  exact Ib<|FB (hv q)
end
section
open Go.RowKit Go.Deep
structure ED where
 nf:Nat
 f:Nat->Int
 nt:Nat
 t:Nat->Int
 w:ByteArray
structure EM where
 n:Nat
 e:Nat->ED
 most:Int
def IT(n:Nat)(x:Nat->Int)(sig:Int):Prop:=∀i,i<n->1<=x i/\x i<=sig
def Tw(s:ByteArray):Prop:=∃q,prs s=some q/\0<=q
structure EdOk(d:ED):Prop where
 f6:d.nf<=6
 t6:d.nt<=6
 pos:0<d.nf+d.nt
 fw:IT d.nf d.f 500
 tw:IT d.nt d.t 500
 wt:Tw d.w
def qv(s:ByteArray):Rat:=(prs s).getD 0
theorem EdOk.q{d:ED}(h:EdOk d):prs d.w=some (qv d.w):=by obtain⟨q,c,_⟩:=h.wt;unfold qv;rw[c];rfl
structure EP where
 M:EM
 a:Nat
 x:Nat->Int
 b:Nat
 y:Nat->Int
abbrev Pl:=Nat × Nat × Nat
variable{n nf:Nat}{x:Nat->Int}{v:Value}{c:Int}
def Si(z:Option Nat)(w:World)(v:Value)(n:Nat)(x:Nat->Int):Prop:=Rd z w v n λi=>.int .i64 (x i)
structure ESz(M:EM):Prop where
 n:(M.n:Int)<=9223372036854775807
 f:∀i,((M.e i).nf:Int)<=4611686018427387903
 t:∀i,((M.e i).nt:Int)<=4611686018427387903
 w:∀i,((M.e i).w.size:Int)<=9223372036854775807
 m0:-9223372036854775808<=M.most
 m1:M.most<=9223372036854775807
def TstF(nf:FuncId)(cap:Array Value)(p:Int->Bool)(w:World):Prop :=
 (∀args w,(callFunc nf args).run prog w=.ok (.enter nf args) w)/\∀s:Int,Calls prog nf (#[.int .i64 s]++cap) w (λr w'=>r=.returned (.bool (p s))/\w'=w)
def anyI(n:Nat)(x:Nat->Int)(p:Int->Bool):Bool:=(List.range n).any λi=>p (x i)
theorem GO{p:Int->Bool}:anyI n x p=true↔∃i,i<n/\p (x i)=true:=by simp[anyI]
theorem Vo{l:Array Value}{p:Int->Bool}(w:World)(C:Si none w v n x)(hn:(n:Int)<=9223372036854775807)(L:TstF nf l p w):
  Calls prog 151 #[v,.func (.func nf) #[] l] w (λr w'=>w'=w/\∃k:Int,r=.returned (.int .i64 k)/\(decide (0<=k)=anyI n x p)):=by
 obtain⟨a,D,b,N,rfl,z,O,J,hb,d⟩:=C.open;unfold maxLen at J;obtain⟨G,g⟩:=L;replace z:=qh z;replace hb:=qh hb;replace d:=qh d;clear C;replace g:=qh g
 go_enter func151,ntmps151
 go_wp2_with fail
 go_loop [8] (λi=>∃q:Nat,q<=n/\i=.int .i64 (q:Int)/\∀j,j<q->p (x j)=false) (λi=>n-(intOf i).toNat)
 case atStart=>exact⟨0,Nat.zero_le _,rfl,λj I=>by omega⟩
 obtain⟨q,P,rfl,h⟩:=hrel;replace h:=qh h;by_cases s:q<n
 ·have K:(q:Int)<(n:Int):=by omega
  have B:(0:Int)<=(q:Int):=by omega
  obtain rfl:=z.o (by omega);have c0:=d.o q s;have c:=g.o<|x q;replace c:=qh c
  go_wp2_with fail
  refine c.o.mono ?_;rintro r Q⟨rfl,rfl⟩;cases o:p (x q)
  ·replace o:=qh o;go_wp2
   go_round
   case rel=>exact⟨q+1,by omega,by go_num,λj I=>by
    by_cases e:j=q
    ·subst e;exact o.o
    exact h.o j (by omega)⟩
   simp[intOf];omega
  replace o:=qh o;go_wp2;go_ret;refine⟨rfl,_,rfl,?_⟩;have u:anyI n x p=true:=GO.2 ⟨q,s,o.o⟩;rw[u];simp
 have m:q=n:=by omega
 have H:¬((q:Int)<(n:Int)):=by omega
 replace m:=qh m;go_wp2;go_ret;refine⟨rfl,_,rfl,?_⟩;have u:anyI n x p=false:=by
  cases E:anyI n x p
  ·rfl
  obtain⟨i,F,A⟩:=GO.1 E;rw[h.o i (by rw[m.o];exact F)]at A;cases A
 rw[u];rfl
theorem MI{c:Array Value}{p:Int->Bool}(w:World)(h:Si none w v n x)(hn:(n:Int)<=9223372036854775807)(g:TstF nf c p w):
  Calls prog 119 #[v,.func (.func nf) #[] c] w (λr w'=>r=.returned (.bool (anyI n x p))/\w'=w):=by
 have i:=qh<|Vo w h hn g;clear h hn g
 go_enter func119,ntmps119
 go_wp2_with fail
 refine i.o.mono ?_;rintro r j⟨rfl,k,rfl,d⟩;replace d:=qh d;go_wp2;go_ret;exact⟨Az d.o,rfl⟩
def offI(sig s:Int):Bool:=decide (s<1)||decide (sig<s)
def DC(n:Nat)(x:Nat->Int)(sig:Int):Bool:=!anyI n x (offI sig)
theorem GL:DC n x c=true↔IT n x c:=by
 unfold DC;rw[Bool.not_eq_true',Bool.eq_false_iff]
 constructor
 ·intro h i hi;cases d:offI c (x i)
  ·unfold offI at d;simp at d;omega
  exact absurd (GO.2 ⟨i,hi,d⟩) h
 intro h j;obtain⟨i,d,g⟩:=GO.1 j;have:=h i d;unfold offI at g;simp at g;omega
theorem Ry:DC n x c=false↔¬IT n x c:=by
 rw[<-GL];simp
end
section
open Go.RowKit
section
variable{P:Program}{ops:Array Oper}{Q:Exit->Act->World->Prop}
end
end
end Go.Proofs.YteappjogmnogcaaGreatDoor
