/- Parts. -/
import Derived.Test.YtpldocnhbdlgfaaGreatDoorPb13
namespace Go.Proofs.YtpldocnhbdlgfaaGreatDoor
set_option maxRecDepth 100000
set_option linter.all false
set_option maxHeartbeats 16000000
open Go Tryz
section
open Go.RowKit Go.Deep
variable{z:Option Nat}{w:World}{v:Value}{i:Nat}
structure MD where
 kind:Int
 start:Int
 lead:ByteArray
 n:Nat
 fin:Nat->ByteArray
 na:Nat->Nat
 ain:Nat->Nat->Int
 aout:Nat->Nat->Int
 aw:Nat->Nat->ByteArray
 ato:Nat->Nat->Int
def ArS(z:Option Nat)(w:World)(v:Value)(D:MD)(i:Nat):Prop :=
 (D.na i=0/\∃a cap,v=.slice a 0 cap/\cap<=maxLen)\/∃b off cap,v=.slice (some (Ad b off)) (D.na i) cap/\(b<w.heap.size/\some b≠z)/\D.na i<=cap/\cap<=maxLen/\∀k,k<D.na i ->
  w.cell? (Ad b (off+k*4))=some (.int .i64 (D.ain i k))/\w.cell? (Ad b (off+k*4+1))=some (.int .i64 (D.aout i k))/\w.cell? (Ad b (off+k*4+2))=some (.string (D.aw i k))/\w.cell? (Ad b (off+k*4+3))=some (.int .i64 (D.ato i k))
def StS(z:Option Nat)(w:World)(v:Value)(D:MD):Prop :=
 (D.n=0/\∃a cap,v=.slice a 0 cap/\cap<=maxLen)\/∃b off cap,∃A:Nat->Value,v=.slice (some (Ad b off)) D.n cap/\(b<w.heap.size/\some b≠z)/\D.n<=cap/\cap<=maxLen/\∀i,i<D.n ->
  w.cell? (Ad b (off+i*2))=some (.string (D.fin i))/\w.cell? (Ad b (off+i*2+1))=some (A i)/\ArS z w (A i) D i
def ArS.kept{w':World}{D:MD}(h:ArS z w v D i)(d:w.grownBy w' z):ArS z w' v D i:=by
 rcases h with h|⟨b,j,g,s,c,l,m,o⟩
 ·exact .inl h
 refine .inr ⟨b,j,g,s,⟨Nat.lt_of_lt_of_le c.1 d.size,c.2⟩,l,m,λk p=>?_⟩;obtain⟨c1,c2,c3,c4⟩:=o k p;exact⟨d.cell c1 c.2,d.cell c2 c.2,d.cell c3 c.2,d.cell c4 c.2⟩
theorem StS.kept{z:Option Nat}{w w':World}{v:Value}{D:MD}(h:StS z w v D)(d:w.grownBy w' z):StS z w' v D:=by
 rcases h with h|⟨b,j,g,A,o,c,k,l,m⟩
 ·exact .inl h
 refine .inr ⟨b,j,g,A,o,⟨Nat.lt_of_lt_of_le c.1 d.size,c.2⟩,k,l,λi hi=>?_⟩;obtain⟨c1,c2,c3⟩:=m i hi;exact⟨d.cell c1 c.2,d.cell c2 c.2,c3.kept d⟩
def StS.open{D:MD}(h:StS z w v D):∃a cap b off,∃(A:Nat->Option Addr) (C B O:Nat->Nat),v=.slice a D.n cap/\(0<D.n->a=some (Ad b off))/\D.n<=cap/\cap<=maxLen/\(0<D.n->b<w.heap.size/\some b≠z)/\
  ∀i,i<D.n->w.cell? (Ad b (off+i*2))=some (.string (D.fin i))/\w.cell? (Ad b (off+i*2+1))=some (.slice (A i) (D.na i) (C i))/\D.na i<=C i/\C i<=maxLen/\(0<D.na i->A i=some (Ad (B i) (O i)))/\(0<D.na i->B i<w.heap.size/\some (B i)≠z)/\
   ∀k,k<D.na i->w.cell? (Ad (B i) (O i+k*4))=some (.int .i64 (D.ain i k))/\w.cell? (Ad (B i) (O i+k*4+1))=some (.int .i64 (D.aout i k))/\w.cell? (Ad (B i) (O i+k*4+2))=some (.string (D.aw i k))/\w.cell? (Ad (B i) (O i+k*4+3))=some (.int .i64 (D.ato i k)):=by
 rcases h with⟨u,a,cap,rfl,H⟩|⟨b,off,cap,A,rfl,E,F,G,g⟩
 ·exact⟨a,cap,0,0,λ_=>none,λ_=>0,λ_=>0,λ_=>0,by rw[u],by omega,by omega,H,by omega,λi hi=>by omega⟩
 classical
 have c:∀i,∃t:Option Addr × Nat × Nat × Nat,i<D.n->A i=.slice t.1 (D.na i) t.2.1/\D.na i<=t.2.1/\t.2.1<=maxLen/\(0<D.na i->t.1=some (Ad t.2.2.1 t.2.2.2))/\(0<D.na i->t.2.2.1<w.heap.size/\some t.2.2.1≠z)/\
   ∀k,k<D.na i->w.cell? (Ad t.2.2.1 (t.2.2.2+k*4))=some (.int .i64 (D.ain i k))/\w.cell? (Ad t.2.2.1 (t.2.2.2+k*4+1))=some (.int .i64 (D.aout i k))/\w.cell? (Ad t.2.2.1 (t.2.2.2+k*4+2))=some (.string (D.aw i k))/\w.cell? (Ad t.2.2.1 (t.2.2.2+k*4+3))=some (.int .i64 (D.ato i k)):=λi=>by
  by_cases hi:i<D.n
  ·rcases (g i hi).2.2 with⟨o,s,d,e,j⟩|⟨m,p,d,e,k1,k2,k3,l⟩
   ·exact⟨(s,d,0,0),λ_=>⟨by rw[e,o],by rw[o];exact Nat.zero_le _,j,by omega,by omega,λk K=>by omega⟩⟩
   exact⟨(some (Ad m p),d,m,p),λ_=>⟨e,k2,k3,λ_=>rfl,λ_=>k1,l⟩⟩
  exact⟨(none,0,0,0),λh=>absurd h hi⟩
 refine⟨_,cap,b,off,λi=>(Classical.choose (c i)).1,λi=>(Classical.choose (c i)).2.1,λi=>(Classical.choose (c i)).2.2.1,λi=>(Classical.choose (c i)).2.2.2,rfl,λ_=>rfl,F,G,λ_=>E,λi hi=>?_⟩;obtain⟨k1,k2,k3,l,I,J⟩:=Classical.choose_spec (c i) hi;exact⟨(g i hi).1,by rw[(g i hi).2.1,k1],k2,k3,l,I,J⟩
def Ma(z:Option Nat)(w:World)(v:Value)(D:MD):Prop:=∃sv,v=.agg #[.int .i64 D.kind,.int .i64 D.start,.string D.lead,sv]/\StS z w sv D
def Ah(D:MD):Nat->Nat
 |0=>0
 |i+1=>Ah D i+D.na i
def FA(D:MD){j:Nat}(h:i<=j):Ah D i<=Ah D j:=by
 induction j with
 |zero =>
      have:i=0:=by omega
      subst this;exact nlr
 |succ j ih =>
  by_cases e:i=j+1
  ·subst e;exact nlr
  have:=ih (by omega);show _<=Ah D j+D.na j;omega
structure ArcOk(D:MD)(i k:Nat):Prop where
 i0:0<=D.ain i k
 i1:D.ain i k<=500
 o0:0<=D.aout i k
 o1:D.aout i k<=500
 t0:0<=D.ato i k
 t1:D.ato i k<(D.n:Int)
 wt:Am D.kind (D.aw i k)=true
structure VM(D:MD):Prop where
 kind:Au D.kind=true
 n1:1<=D.n
 n2:D.n<=3000
 s0:0<=D.start
 s1:D.start<(D.n:Int)
 lead:Am D.kind D.lead=true
 arcs:Ah D D.n<=30000
 fin:∀i,i<D.n->D.fin i=⟨#[]⟩\/Am D.kind (D.fin i)=true
 arc:∀i k,i<D.n->k<D.na i->ArcOk D i k
structure MSz(D:MD):Prop where
 lead:D.lead.size<=9223372036854775807
 fin:∀i,(D.fin i).size<=9223372036854775807
 aw:∀i k,(D.aw i k).size<=9223372036854775807
 na:∀i,D.na i<=140737488355328
 n:D.n<=140737488355328
 kind:-9223372036854775808<=D.kind/\D.kind<=9223372036854775807
variable{D:MD}{wr:World}{c:Nat}{sv:Value}
def PD(s:Int)(w:World):Calls prog 69 #[.int .i64 s] w λe w'=>e=.returned (.bool (decide (0<=s)&&decide (s<=500)))/\w=w':=by
 by_cases h:0<=s
 ·go_enter func69,ntmps69
  go_wp2;go_ret;exact⟨AI (by simp[h]),rfl⟩
 have c:decide (0<=s)=false:=by simp;omega
 go_enter func69,ntmps69
 go_wp2;go_ret;exact⟨AI rfl,rfl⟩
def Je(w:World)(cs:Array Value)(t:TypeId)(i:Nat)(v:Value)(h:cs[i]?=some v):(w.alloc (.cells cs t)).cell? (Ad w.heap.size i)=some v:=by
 have c:(w.alloc (.cells cs t)).heap[w.heap.size]?=some (.cells cs t (0,0)):=han w _;generalize w.heap.size=b at *;generalize w.alloc (.cells cs t)=w2 at *;simp[World.cell?,c,h]
def ValidE(D:MD)(w:World)(r:Ending)(w':World):Prop:=Below w.heap.size w w'/\((VM D/\r=.returned (.bool true))\/(¬VM D/\r=.returned (.bool false)))
def BoxM(wr:World)(mb:Nat)(D:MD)(sv:Value):Prop:=wr.heap[mb]?=some (.cells #[.int .i64 D.kind,.int .i64 D.start,.string D.lead,sv] 25 (0,0))
theorem BoxM.c0(h:BoxM wr c D sv):wr.cell? (Ad c 0)=some (.int .i64 D.kind):=by unfold BoxM at h;simp[World.cell?,h]
theorem BoxM.c1(h:BoxM wr c D sv):wr.cell? (Ad c 1)=some (.int .i64 D.start):=by unfold BoxM at h;simp[World.cell?,h]
theorem BoxM.c2(h:BoxM wr c D sv):wr.cell? (Ad c 2)=some (.string D.lead):=by unfold BoxM at h;simp[World.cell?,h]
theorem BoxM.c3(h:BoxM wr c D sv):wr.cell? (Ad c 3)=some sv:=by unfold BoxM at h;simp[World.cell?,h]
theorem BoxM.lt(h:BoxM wr c D sv):c<wr.heap.size:=(Array.getElem?_eq_some_iff.1 h).1
def BoxM.kept{w':World}{z:Option Nat}(h:BoxM wr c D sv)(d:wr.grownBy w' z)(g:some c≠z):BoxM w' c D sv:=by
 unfold BoxM;rw[d.block c h.lt g];exact h
def BoxM.new(w:World)(D:MD)(sv:Value):BoxM (w.alloc (.cells #[.int .i64 D.kind,.int .i64 D.start,.string D.lead,sv] 25)) w.heap.size D sv:=han w _
def Fc{v:Value}(w:World)(hM:Ma none w v D)(hs:MSz D)(ht:Tab w):Calls prog 31 #[v] w (ValidE D w):=by
 obtain⟨sv,rfl,hS⟩:=hM;obtain⟨a,J,b,b4,A,C,BB,O,rfl,ha,hc,hm,hb,S⟩:=hS.open;unfold maxLen at hm;clear hS;have j:=BoxM.new w D (.slice a D.n J);have a4:Below w.heap.size w (w.alloc (.cells #[.int .i64 D.kind,.int .i64 D.start,.string D.lead,.slice a D.n J] 25)):=blr.alloc nlr _;have f5:=hs.n;obtain⟨f2,f3⟩:=hs.kind;replace hs:=qh hs;replace ht:=qh ht;replace ha:=qh ha;have HB:=qh hb;clear hb;replace S:=qh S;have m0:=j.c0;have m1:=j.c1;have m2:=j.c2;have m3:=j.c3;have H:=qh j;clear j;have u:=qh a4;clear a4
 go_enter func31,ntmps31
 go_wp2_with fail
 all_goals first
  |(go_ret;exact⟨u.o,.inr ⟨λv=>by have s:=v.kind;have E:=v.n1;have h3:=v.n2;have h4:=v.s0;have h5:=v.s1;unfold Au at s;simp at s;omega,rfl⟩⟩)
  |skip
 have b1:Au D.kind=true:=by unfold Au;simp;omega
 obtain⟨wm,U⟩:=exq<|w.alloc (.cells #[.int .i64 D.kind,.int .i64 D.start,.string D.lead,.slice a D.n J] 25);obtain⟨mb,P⟩:=exq<|w.heap.size;have R:1<=D.n/\D.n<=3000/\0<=D.start/\D.start<(D.n:Int):=by omega
 replace R:=qh R;replace b1:=qh b1;rw[<-U,<-P]at H;rw[<-U]at u;rw[<-P];rw[<-U]at m0 m1 m2 m3;rw[<-P]at m0 m1 m2 m3;rw[<-U];replace P:=qh P;clear U;have I:=Io D.kind D.lead wm hs.o.lead (ht.o.below u.o nlr);replace I:=qh I;clear m0 m1 m2 m3;cases hw:Am D.kind D.lead
 ·rw[hw]at I;refine I.o.mono ?_;rintro r w1⟨rfl,K⟩;go_wp2;go_ret;exact⟨u.o.trans (K.mono u.o.size),.inr ⟨λv=>by rw[v.lead]at hw;exact absurd hw (by simp),rfl⟩⟩
 rw[hw]at I;refine I.o.mono ?_;rintro r w1⟨rfl,K⟩;have N:=H.o.kept (Ag K none) (by simp);have a2:=u.o.trans<|K.mono u.o.size;clear K;have m3:=N.c3;have a1:=qh N;clear N H;have Z:=qh a2;clear a2 u
 go_wp2_with fail
 clear m3
 go_loopw [4,50] (λc i wr=>∃q:Nat,q<=D.n/\i=.int .i64 (q:Int)/\c=.int .i64 (Ah D q:Nat)/\Ah D q<=30000/\
  (∀l,l<q->(D.fin l=⟨#[]⟩\/Am D.kind (D.fin l)=true)/\∀k,k<D.na l->ArcOk D l k)/\BoxM wr mb D (.slice a D.n J)/\Below w.heap.size w wr) (λ_ i _=>D.n-(intOf i).toNat)
 case atStart=>exact⟨0,Nat.zero_le _,rfl,rfl,by show 0<=30000;omega,λl hl=>by omega,a1.o,Z.o⟩
 obtain⟨q,hq,rfl,rfl,d7,Q,b8,F⟩:=hrel;clear a1 Z;replace Q:=qh Q;have H:=qh b8;clear b8;replace F:=qh F;by_cases G:q<D.n
 ·have f7:(q:Int)<(D.n:Int):=by omega
  have e8:(0:Int)<=(q:Int):=by omega
  obtain rfl:=ha.o (by omega);have b7:=(HB.o (by omega)).1;obtain⟨k1,k2,k3,k4,k5,k6,k7⟩:=S.o q G;generalize A q=aq at k2 k5;have c0:=(F.o.cell (p:=(Ad b (b4+q*2))) b7).trans k1;have c1:=(F.o.cell (p:=(Ad b (b4+q*2+1))) b7).trans k2;unfold maxLen at k4;have mA:=λo=>(BoxM.c0 (H.o.kept (World.grownBy_alloc wr o none) (by simp)));have mB:=λo=>H.o.kept (World.grownBy_alloc wr o none) (by simp);have Y:=λo=>F.o.alloc F.o.size o;replace mB:=qh mB;replace Y:=qh Y;clear k1 k2;replace k7:=qh k7;replace k5:=qh k5;replace k6:=qh k6;have f4:=hs.o.na q;by_cases hG:30000<Ah D q+D.na q
  ·have d6:(30000:Int)<(Ah D q:Nat)+(D.na q:Int):=by omega
   go_wp2;go_ret;exact⟨Y.o _,.inr ⟨λv=>by have s:=v.arcs;have E:=FA D (show q+1<=D.n by omega);have h3:Ah D (q+1)=Ah D q+D.na q:=rfl;omega,rfl⟩⟩
  have d6:decide ((30000:Int)<(Ah D q:Nat)+(D.na q:Int))=false:=by simp;omega
  cases hF:((D.fin q).toList==[])
  focus
   have b2:=λwx hb=>Io D.kind (D.fin q) wx (hs.o.fin q) (ht.o.below (B:=w.heap.size) hb nlr);replace b2:=qh b2
   go_wp2_with fail
   refine(b2.o _ (Y.o _)).mono ?_;rintro r w2⟨rfl,L⟩;cases b3:Am D.kind (D.fin q)
   ·go_wp2;go_ret;exact⟨(Y.o _).trans (L.mono (Y.o _).size),.inr ⟨λv=>by
     rcases v.fin q G with s|s
     ·rw[s]at hF;exact absurd hF (by simp)
     rw[s]at b3;exact absurd b3 (by simp),rfl⟩⟩
   have d4:=(mB.o (.cells #[.string (D.fin q),.slice aq (D.na q) (C q)] 63)).kept (Ag L none) (by simp);have d5:=(Y.o (.cells #[.string (D.fin q),.slice aq (D.na q) (C q)] 63)).trans (L.mono (Y.o _).size);have e5:w2.cell? (Ad wr.heap.size 1)=some (.slice aq (D.na q) (C q)):=by
    rw[L.cell (p:=(Ad wr.heap.size 1)) (by simp)];exact Je wr _ _ 1 _ rfl
   clear L;have a8:=qh d4;clear d4;have a9:=qh d5;clear d5;have b5:=qh<|show D.fin q=⟨#[]⟩\/Am D.kind (D.fin q)=true from .inr b3
   go_wp2_with fail
   clear e5
  rotate_left
  focus
   have d0:D.fin q=⟨#[]⟩:=by rw[beq_iff_eq,Lib.toList_data]at hF;exact ByteArray.ext<|Array.toList_inj.1 hF
   have b5:=qh<|show D.fin q=⟨#[]⟩\/Am D.kind (D.fin q)=true from .inl d0;clear d0;have a8:=qh<|mB.o (.cells #[.string (D.fin q),.slice aq (D.na q) (C q)] 63);have a9:=qh<|Y.o (.cells #[.string (D.fin q),.slice aq (D.na q) (C q)] 63)
   go_wp2_with fail
  all_goals
   go_loopw [77] (λi wr=>∃d:Nat,d<=D.na q/\i=.int .i64 (d:Int)/\(∀k,k<d->ArcOk D q k)/\BoxM wr mb D (.slice (some (Ad b b4)) D.n J)/\Below w.heap.size w wr) (λi _=>D.na q-(intOf i).toNat)
   case atStart=>exact⟨0,Nat.zero_le _,rfl,λk hk=>by omega,a8.o,a9.o⟩
   obtain⟨d,hd,rfl,X,z,g⟩:=hrel;clear a8 a9;replace X:=qh X;replace z:=qh z;replace g:=qh g;by_cases m:d<D.na q
   ·have f1:(d:Int)<(D.na q:Int):=by omega
    have e7:(0:Int)<=(d:Int):=by omega
    obtain rfl:=k5.o (by omega);have W:=(k6.o (by omega)).1;obtain⟨j0,j1,j2,j3⟩:=k7.o d m;have e0:=(g.o.cell (p:=(Ad (BB q) (O q+d*4))) W).trans j0;have e1:=(g.o.cell (p:=(Ad (BB q) (O q+d*4+1))) W).trans j1;have e2:=(g.o.cell (p:=(Ad (BB q) (O q+d*4+2))) W).trans j2;have e3:=(g.o.cell (p:=(Ad (BB q) (O q+d*4+3))) W).trans j3;clear j0 j1 j2 j3;have e6:=λo=>(BoxM.c0 (z.o.kept (World.grownBy_alloc wr o none) (by simp)));have b6:=qh<|λo=>z.o.kept (World.grownBy_alloc wr o none) (by simp);have h:=qh<|λo=>g.o.alloc g.o.size o;have T:=λwx hb=>Io D.kind (D.aw q d) wx (hs.o.aw q d) (ht.o.below (B:=w.heap.size) hb nlr);replace T:=qh T
    go_wp2_with fail
    refine(PD _ _).mono ?_;rintro r w'⟨rfl,rfl⟩;cases d1:(decide (0<=D.ain q d)&&decide (D.ain q d<=500))
    ·have a6:=qh d1;go_wp2;go_ret;exact⟨h.o _,.inr ⟨λv=>by have s:=v.arc q d G m;have E:=a6.o;rw[decide_eq_true s.i0,decide_eq_true s.i1]at E;exact absurd E (by simp),rfl⟩⟩
    have a6:=qh d1
    go_wp2_with fail
    refine(PD _ _).mono ?_;rintro r w'⟨rfl,rfl⟩;cases d2:(decide (0<=D.aout q d)&&decide (D.aout q d<=500))
    ·have a7:=qh d2;go_wp2;go_ret;exact⟨h.o _,.inr ⟨λv=>by have s:=v.arc q d G m;have E:=a7.o;rw[decide_eq_true s.o0,decide_eq_true s.o1]at E;exact absurd E (by simp),rfl⟩⟩
    have a7:=qh d2;by_cases f8:D.ato q d<0
    ·go_wp2;go_ret;exact⟨h.o _,.inr ⟨λv=>by have s:=(v.arc q d G m).t0;omega,rfl⟩⟩
    have e9:decide (D.ato q d<0)=false:=by simp;omega
    by_cases f9:(D.n:Int)<=D.ato q d
    ·go_wp2;go_ret;exact⟨h.o _,.inr ⟨λv=>by have s:=(v.arc q d G m).t1;omega,rfl⟩⟩
    have f0:decide ((D.n:Int)<=D.ato q d)=false:=by simp;omega
    go_wp2_with fail
    refine(T.o _ (h.o _)).mono ?_;rintro r w4⟨rfl,b0⟩;have b9:=(b6.o _).kept (Ag b0 none) (by simp);have a5:=(h.o _).trans (b0.mono (h.o _).size);clear b0 e6 e0 e1 e2 e3;cases d3:Am D.kind (D.aw q d)
    ·go_wp2;go_ret;exact⟨a5,.inr ⟨λv=>by have s:=(v.arc q d G m).wt;rw[d3]at s;exact absurd s (by simp),rfl⟩⟩
    go_wp2;go_roundw
    case rel =>
     refine⟨d+1,by omega,by go_num,λk hk=>?_,b9,a5⟩
     rcases Nat.lt_succ_iff_lt_or_eq.1 hk with E|E
     ·exact X.o k E
     subst E;have h3:=a6.o;have h4:=a7.o;simp only[Bool.and_eq_true,decide_eq_true_eq]at h3 h4;exact⟨h3.1,h3.2,h4.1,h4.2,by omega,by omega,d3⟩
    simp[intOf];omega
   have d8:d=D.na q:=by omega
   subst d8;have d9:¬((D.na q:Int)<(D.na q:Int)):=by omega
   go_wp2;go_roundw
   case rel =>
    refine⟨q+1,by omega,by go_num,rfl,by show Ah D q+D.na q<=30000;omega,λl hl=>?_,z.o,g.o⟩
    rcases Nat.lt_succ_iff_lt_or_eq.1 hl with E|E
    ·exact Q.o l E
    subst E;exact⟨b5.o,X.o⟩
   simp[intOf];omega
 have e4:q=D.n:=by omega
 subst e4;have d9:¬((D.n:Int)<(D.n:Int)):=by omega
 obtain⟨p1,p2,p3,p4⟩:=R.o;go_wp2;go_ret;exact⟨F.o,.inl ⟨⟨b1.o,p1,p2,p3,p4,hw,d7,λi hi=>(Q.o i hi).1,λi k hi hk=>(Q.o i hi).2 k hk⟩,rfl⟩⟩
end
end Go.Proofs.YtpldocnhbdlgfaaGreatDoor
