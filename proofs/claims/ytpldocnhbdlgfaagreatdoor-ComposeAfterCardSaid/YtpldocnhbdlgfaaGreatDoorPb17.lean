/- Parts. -/
import Derived.Test.YtpldocnhbdlgfaaGreatDoorPb14
import Derived.Test.YtpldocnhbdlgfaaGreatDoorPb15
import Derived.Test.YtpldocnhbdlgfaaGreatDoorPb05
namespace Go.Proofs.YtpldocnhbdlgfaaGreatDoor
set_option maxRecDepth 100000
set_option linter.all false
set_option maxHeartbeats 16000000
open Go Tryz
section
open Go.RowKit Go.Deep
structure Fr(C:Nat->Prop)(w w':World):Prop where
 os:w'.os=w.os
 tape:w'.tape=w.tape
 output:w'.output=w.output
 size:w.heap.size<=w'.heap.size
 block:∀q,q<w.heap.size->¬C q->w'.heap[q]?=w.heap[q]?
namespace Fr
variable{C C':Nat->Prop}{w w' w2:World}
theorem refl(C:Nat->Prop)(w:World):Fr C w w:=⟨rfl,rfl,rfl,nlr,λ_ _ _=>rfl⟩
theorem trans(h:Fr C w w')(k:Fr C w' w2):Fr C w w2:=⟨k.os.trans h.os,k.tape.trans h.tape,k.output.trans h.output,Nat.le_trans h.size k.size,λq d c=>(k.block q (by have:=h.size;omega) c).trans (h.block q d c)⟩
theorem mono(h:Fr C w w')(d:∀q,q<w.heap.size->C q->C' q):Fr C' w w':=⟨h.os,h.tape,h.output,h.size,λq c g=>h.block q c λe=>g (d q c e)⟩
theorem of_gb{z:Option Nat}(h:w.grownBy w' z)(g:∀q,z=some q->C q):Fr C w w':=⟨h.os,h.tape,h.output,h.size,λq d c=>h.block q d λe=>c (g q e.symm)⟩
theorem of_below(h:Below w.heap.size w w'):Fr C w w':=of_gb (Ag h none) (by simp)
theorem alloc(w:World)(o:Obj):Fr C w (w.alloc o):=of_gb (World.grownBy_alloc w o none) (by simp)
theorem drew(h:Fr C w w'):Fr C w w'.drew:=⟨h.os,h.tape,h.output,h.size,h.block⟩
theorem set(h:Fr C w w'){p:Addr}(g:C p.block\/w.heap.size<=p.block)(v:Value):Fr C w (w'.setCell p v) :=
 ⟨h.os,h.tape,h.output,by rw[nblk_setCell];exact h.size,λq i c=>(blk_setCell_other _ _ _ _ (by
  rcases g with e|e
  ·intro d;subst d;exact c e
  omega)).trans (h.block q i c)⟩
theorem below(h:Fr C w w'){B:Nat}(d:B<=w.heap.size)(c:∀q,C q->B<=q):Below B w w':=⟨h.os,h.tape,h.output,h.size,λq g=>h.block q (by omega) λe=>by have:=c q e;omega⟩
theorem cell(h:Fr C w w'){p:Addr}{v:Value}(c:w.cell? p=some v)(g:¬C p.block):w'.cell? p=some v:=by
 have d:p.block<w.heap.size:=by
  unfold World.cell? at c;cases hb:w.heap[p.block]? with
  |none=>simp[hb]at c
  |some o=>exact(Array.getElem?_eq_some_iff.1 hb).1
 unfold World.cell? at c ⊢;rw[h.block _ d g];exact c
theorem row(h:Fr C w w'){g:Nat}{t:TypeId}{n:Nat}{F:Nat->Value}(c:w.rowIs g t n F)(d:¬C g):w'.rowIs g t n F:=c.of_block<|h.block g c.lt d
end Fr
theorem AM{w:World}{p:Addr}{q:Nat}(h:q≠p.block)(v:Value):(w.setCell p v).heap[q]?=w.heap[q]?:=blk_setCell_other _ _ _ _ h
def HH(k:Int)(a b:ByteArray)(e:Nat):ByteArray × Nat:=if a=⟨#[]⟩\/e≠0 then (b,e) else Ar k a b
def Iz(k:Int)(a b:ByteArray)(e:Nat):ByteArray × Nat:=if e≠0 then (a,e) else Ae k a b
abbrev WS:=(Nat->ByteArray) × Nat
def updS(l:Nat->ByteArray)(t:Nat)(s:ByteArray):Nat->ByteArray:=λj=>if j=t then s else l j
def NI:Nat->ByteArray:=λ_=>⟨#[]⟩
def smS(s:ByteArray):Prop:=s.size<=9223372036854775807
theorem Nf(v:V):smS (limV v).1:=by
 unfold smS;cases v with
 |inf=>decide
 |low=>decide
 |fin q=>exact Nat.le_trans (Nb q) (by omega)
theorem Ke(k:Int)(a b:ByteArray):smS (Ar k a b).1:=by
 unfold Ar;split
 ·exact Nf _
 show (str []).size<=_;decide
theorem Gy(k:Int)(a b:ByteArray):smS (Ae k a b).1:=by
 unfold Ae;split
 ·exact Nf _
 show (str []).size<=_;decide
end
section
open Go.RowKit Go.Deep
def Scl(w:World)(cb:Nat)(D:MD)(sv star:Value)(e:Nat):Prop:=w.heap[cb]?=some (.cells #[.int .i64 D.kind,.int .i64 D.start,.string D.lead,sv,star,.int .i64 (e:Int)] 121 (0,0))
namespace Scl
variable{w w':World}{cb:Nat}{D:MD}{sv star:Value}{e:Nat}
theorem c0(h:Scl w cb D sv star e):w.cell? (Ad cb 0)=some (.int .i64 D.kind):=by unfold Scl at h;simp[World.cell?,h]
theorem c1(h:Scl w cb D sv star e):w.cell? (Ad cb 1)=some (.int .i64 D.start):=by unfold Scl at h;simp[World.cell?,h]
theorem c2(h:Scl w cb D sv star e):w.cell? (Ad cb 2)=some (.string D.lead):=by unfold Scl at h;simp[World.cell?,h]
theorem c3(h:Scl w cb D sv star e):w.cell? (Ad cb 3)=some sv:=by unfold Scl at h;simp[World.cell?,h]
theorem c4(h:Scl w cb D sv star e):w.cell? (Ad cb 4)=some star:=by unfold Scl at h;simp[World.cell?,h]
theorem c5(h:Scl w cb D sv star e):w.cell? (Ad cb 5)=some (.int .i64 (e:Int)):=by unfold Scl at h;simp[World.cell?,h]
end Scl
theorem FI{a:ByteArray}(h:(a.toList==[])=true):a=⟨#[]⟩:=toList_eq (b:=⟨#[]⟩) (by rw[Lib.toList_data ⟨#[]⟩];exact h)
end
section
open Go.RowKit Go.Deep
def TstA(nf:FuncId)(cap:Array Value)(sel:Int->Int->Bool)(P:World->Prop):Prop :=
 (∀args w,(callFunc nf args).run prog w=.ok (.enter nf args) w)/\∀w,P w->∀(i o:Int) (s:ByteArray) (t:Int),Calls prog nf (#[.agg #[.int .i64 i,.int .i64 o,.string s,.int .i64 t]]++cap) w (λr w'=>r=.returned (.bool (sel i o))/\Below w.heap.size w w')
structure ED where
 nf:Nat
 f:Nat->Int
 nt:Nat
 t:Nat->Int
 w:ByteArray
structure EM where
 n:Nat
 e:Nat->ED
 most:Int
def IJ(n:Nat)(x:Nat->Int)(sig:Int):Prop:=∀i,i<n->1<=x i/\x i<=sig
def Sb(s:ByteArray):Prop:=∃q,prs s=some q/\0<=q
structure EdOk(d:ED):Prop where
 f6:d.nf<=6
 t6:d.nt<=6
 pos:0<d.nf+d.nt
 fw:IJ d.nf d.f 500
 tw:IJ d.nt d.t 500
 wt:Sb d.w
def qv(s:ByteArray):Rat:=(prs s).getD 0
theorem EdOk.q{d:ED}(h:EdOk d):prs d.w=some (qv d.w):=by obtain⟨q,c,_⟩:=h.wt;unfold qv;rw[c];rfl
structure EP where
 M:EM
 a:Nat
 x:Nat->Int
 b:Nat
 y:Nat->Int
abbrev Pl:=Nat × Nat × Nat
variable{n nf:Nat}{x:Nat->Int}{v:Value}{c:Int}
def Si(z:Option Nat)(w:World)(v:Value)(n:Nat)(x:Nat->Int):Prop:=Rd z w v n λi=>.int .i64 (x i)
structure ESz(M:EM):Prop where
 n:(M.n:Int)<=9223372036854775807
 f:∀i,((M.e i).nf:Int)<=4611686018427387903
 t:∀i,((M.e i).nt:Int)<=4611686018427387903
 w:∀i,((M.e i).w.size:Int)<=9223372036854775807
 m0:-9223372036854775808<=M.most
 m1:M.most<=9223372036854775807
def TstF(nf:FuncId)(cap:Array Value)(p:Int->Bool)(w:World):Prop :=
 (∀args w,(callFunc nf args).run prog w=.ok (.enter nf args) w)/\∀s:Int,Calls prog nf (#[.int .i64 s]++cap) w (λr w'=>r=.returned (.bool (p s))/\w'=w)
def anyI(n:Nat)(x:Nat->Int)(p:Int->Bool):Bool:=(List.range n).any λi=>p (x i)
theorem GM{p:Int->Bool}:anyI n x p=true↔∃i,i<n/\p (x i)=true:=by simp[anyI]
theorem TG{l:Array Value}{p:Int->Bool}(w:World)(C:Si none w v n x)(hn:(n:Int)<=9223372036854775807)(L:TstF nf l p w):
  Calls prog 158 #[v,.func (.func nf) #[] l] w (λr w'=>w'=w/\∃k:Int,r=.returned (.int .i64 k)/\(decide (0<=k)=anyI n x p)):=by
 obtain⟨a,D,b,N,rfl,z,O,J,hb,d⟩:=C.open;unfold maxLen at J;obtain⟨G,g⟩:=L;replace z:=qh z;replace hb:=qh hb;replace d:=qh d;clear C;replace g:=qh g
 go_enter func158,ntmps158
 go_wp2_with fail
 go_loop [8] (λi=>∃q:Nat,q<=n/\i=.int .i64 (q:Int)/\∀j,j<q->p (x j)=false) (λi=>n-(intOf i).toNat)
 case atStart=>exact⟨0,Nat.zero_le _,rfl,λj I=>by omega⟩
 obtain⟨q,P,rfl,h⟩:=hrel;replace h:=qh h;by_cases s:q<n
 ·have K:(q:Int)<(n:Int):=by omega
  have B:(0:Int)<=(q:Int):=by omega
  obtain rfl:=z.o (by omega);have c0:=d.o q s;have c:=g.o<|x q;replace c:=qh c
  go_wp2_with fail
  refine c.o.mono ?_;rintro r Q⟨rfl,rfl⟩;cases o:p (x q)
  ·replace o:=qh o;go_wp2
   go_round
   case rel=>exact⟨q+1,by omega,by go_num,λj I=>by
    by_cases e:j=q
    ·subst e;exact o.o
    exact h.o j (by omega)⟩
   simp[intOf];omega
  replace o:=qh o;go_wp2;go_ret;refine⟨rfl,_,rfl,?_⟩;have u:anyI n x p=true:=GM.2 ⟨q,s,o.o⟩;rw[u];simp
 have m:q=n:=by omega
 have H:¬((q:Int)<(n:Int)):=by omega
 replace m:=qh m;go_wp2;go_ret;refine⟨rfl,_,rfl,?_⟩;have u:anyI n x p=false:=by
  cases E:anyI n x p
  ·rfl
  obtain⟨i,F,A⟩:=GM.1 E;rw[h.o i (by rw[m.o];exact F)]at A;cases A
 rw[u];rfl
theorem Sa{c:Array Value}{p:Int->Bool}(w:World)(h:Si none w v n x)(hn:(n:Int)<=9223372036854775807)(g:TstF nf c p w):
  Calls prog 121 #[v,.func (.func nf) #[] c] w (λr w'=>r=.returned (.bool (anyI n x p))/\w'=w):=by
 have i:=qh<|TG w h hn g;clear h hn g
 go_enter func121,ntmps121
 go_wp2_with fail
 refine i.o.mono ?_;rintro r j⟨rfl,k,rfl,d⟩;replace d:=qh d;go_wp2;go_ret;exact⟨AI d.o,rfl⟩
def offI(sig s:Int):Bool:=decide (s<1)||decide (sig<s)
def DK(n:Nat)(x:Nat->Int)(sig:Int):Bool:=!anyI n x (offI sig)
theorem Fu:DK n x c=true↔IJ n x c:=by
 unfold DK;rw[Bool.not_eq_true',Bool.eq_false_iff]
 constructor
 ·intro h i hi;cases d:offI c (x i)
  ·unfold offI at d;simp at d;omega
  exact absurd (GM.2 ⟨i,hi,d⟩) h
 intro h j;obtain⟨i,d,g⟩:=GM.1 j;have:=h i d;unfold offI at g;simp at g;omega
theorem Qr:DK n x c=false↔¬IJ n x c:=by
 rw[<-Fu];simp
def eqB(n m:Nat)(x y:Nat->Int):Bool:=decide (n=m)&&(List.range n).all λk=>x k==y k
theorem ER{m:Nat}{y:Nat->Int}:eqB n m x y=true↔n=m/\∀k,k<n->x k=y k:=by simp[eqB]
def isWord(n:Nat)(x:Nat->Int):Bool:=decide (n<=200)&&DK n x 500
def silB(i o:Int):Bool:=decide (i=0)&&decide (o=0)
theorem MB(t e:TypeId)(h:prog.underlying t=some (.slice e))(w:World)(a:Option Addr)(n c:Nat):(binOp .eql t (.slice a n c) (.slice none 0 0)).run prog w=.ok (.bool a.isNone) w:=by
 simp only[binOp];simp[run_equal_slice_nil w t e a n c h]
end
section
open Go.RowKit Go.Deep
abbrev VV:=Nat->ByteArray
def vrV(n:Nat):Option Nat->Value
 |none=>.slice none 0 0
 |some r=>.slice (some (Ad r 0)) n n
structure VR(w:World)(B:Nat)(g:Bool->Nat)(m n:Nat)(R:Bool->Nat->Option Nat)(S:Bool->Nat->Option VV):Prop where
 top:∀b,w.rowIs (g b) 118 m (λj=>vrV n (R b j))
 gne:g false≠g true
 low:∀b,B<=g b
 non:∀b j,j<m->(R b j=none↔S b j=none)
 row:∀b j r x,j<m->R b j=some r->S b j=some x->w.rowIs r 9 n (λq=>.string (x q))/\B<=r
 sep:∀b j b' j' r,j<m->j' < m->R b j=some r->R b' j'=some r->b=b'/\j=j'
 sm:∀b j x,S b j=some x->∀q,smS (x q)
theorem Wy{w:World}{g g' n m:Nat}{e e':TypeId}{F i:Nat->Value}(h:w.rowIs g e n F)(j:w.rowIs g' e' m i)(l:e≠e'):g≠g':=by
 rintro rfl;obtain⟨c,k,_⟩:=h;obtain⟨o,d,_⟩:=j;rw[k]at d;simp at d;exact l d.2
namespace VR
variable{w w':World}{B:Nat}{g:Bool->Nat}{m n:Nat}{R:Bool->Nat->Option Nat}{S:Bool->Nat->Option VV}
end VR
end
section
variable{a b s:ByteArray}{D:MD}{n p:Nat}
abbrev StarO:=Option<|Nat->Nat->ByteArray
def rstP(k:Int)(S:Nat->Nat->ByteArray)(v:Nat->ByteArray)(q:Nat):Nat->WS->WS
 |0,s=>s
 |p+1,s=>if v q=⟨#[]⟩\/S q p=Aj k then rstP k S v q p s
  else (updS (rstP k S v q p s).1 p (HH k ((rstP k S v q p s).1 p) (Iz k (v q) (S q p) (rstP k S v q p s).2).1 (Iz k (v q) (S q p) (rstP k S v q p s).2).2).1,(HH k ((rstP k S v q p s).1 p) (Iz k (v q) (S q p) (rstP k S v q p s).2).1 (Iz k (v q) (S q p) (rstP k S v q p s).2).2).2)
def rstQ(k:Int)(S:Nat->Nat->ByteArray)(v:Nat->ByteArray)(n:Nat):Nat->WS->WS
 |0,s=>s
 |q+1,s=>rstP k S v q n (rstQ k S v n q s)
def YW(k:Int)(n:Nat)(st:StarO)(v:Nat->ByteArray)(e:Nat):WS:=match st with
 |none=>(v,e)
 |some S=>if e≠0 then (v,e) else rstQ k S v n n (NI,e)
def Sv(k:KK)(s:ByteArray)(x:RK k):Prop:=s=vtxt x.1/\fitV x.1
def Pv(k:KK)(s:ByteArray)(x:RK k):Prop:=(s=⟨#[]⟩/\x=CSR.zero)\/Sv k s x
section
variable{k:KK}
theorem Sv.prs{x:RK k}(h:Sv k s x):vprs k.1 s=some x.1:=by rw[h.1];exact Qk h.2 x.2
theorem Sv.ne{x:RK k}(h:Sv k s x):s≠⟨#[]⟩:=λe=>by
 have c:=h.prs;rw[e]at c;have d:=(Fp (Dh.1 c).1).1;have i:(vtxt x.1).size=0:=by rw[<-d];rfl
 have g:=If h.2;rw[<-d]at g;exact absurd g (by rw[show rdV ⟨#[]⟩=none by decide +kernel];simp)
theorem Sv.inj{s:ByteArray}{x y:RK k}(h:Sv k s x)(d:Sv k s y):x=y:=by
 have c:=h.prs;rw[d.prs]at c;exact RK.ext (Option.some.inj c).symm
theorem Sv.text{t:ByteArray}{x:RK k}(h:Sv k s x)(c:Sv k t x):s=t:=by rw[h.1,c.1]
theorem Sv.zero:Sv k (Aj k.1) (CSR.zero:RK k):=(Is.zero k 0).2 rfl
theorem Sv.one:Sv k (oneF k.1) (CSR.one:RK k):=(Is.one k 0).2 rfl
theorem Sv.eq_zero{x:RK k}(h:Sv k s x):s=Aj k.1↔x=CSR.zero:=by
 constructor
 ·intro e;rw[e]at h;exact h.inj Sv.zero
 intro e;rw[e]at h;exact h.text Sv.zero
theorem Sv.val{x:RK k}(h:Sv k s x):wval k s=x:=by
 have d:=h.prs;unfold wval
 split
 ·rename_i v c;rw[d]at c;cases c;rfl
 rename_i c;rw[d]at c;cases c
theorem YR(h:Ak k.1 s=true):Sv k s (wval k s):=(IL h).2 rfl
theorem II{j:Int}(c:k.1=j)(h:Am j s=true):Sv k s (wval k s):=by subst c;exact YR<|Cu h
theorem Nh{v:V}(h:(limV v).2=0):limV v=(vtxt v,0)/\fitV v:=by
 rcases FR v with⟨d,c⟩|⟨_,c⟩
 ·exact⟨c,d⟩
 rw[c]at h;cases h
theorem Kf{x y:RK k}(g:Sv k a x)(hb:Sv k b y)(h:(Ar k.1 a b).2=0):Sv k (Ar k.1 a b).1 (x+y):=by
 have i:Ar k.1 a b=limV (x+y).1:=by unfold Ar;rw[g.prs,hb.prs];rfl
 rw[i]at h ⊢;obtain⟨c,d⟩:=Nh h;rw[c];exact⟨rfl,d⟩
theorem Le{x y:RK k}(g:Sv k a x)(hb:Sv k b y)(h:(Ae k.1 a b).2=0):Sv k (Ae k.1 a b).1 (x*y):=by
 have i:Ae k.1 a b=limV (x*y).1:=by unfold Ae;rw[g.prs,hb.prs];rfl
 rw[i]at h ⊢;obtain⟨c,d⟩:=Nh h;rw[c];exact⟨rfl,d⟩
end
def rmOf(k:KK)(D:MD):RM (RK k) :=
 { n:=D.n,start:=D.start.toNat,lead:=wval k D.lead,fin:=λq=>if D.fin q=⟨#[]⟩ then CSR.zero else wval k (D.fin q),na:=D.na,ain:=D.ain,aout:=D.aout,aw:=λq d=>wval k (D.aw q d),ato:=λq d=>(D.ato q d).toNat }
theorem VM.inn(h:VM D)(k:KK):Inn (rmOf k D):=λq d g hd=>by
 have c:=h.arc q d g hd;have:=c.t0;have:=c.t1;show (D.ato q d).toNat<D.n;omega
theorem VM.stn(h:VM D)(k:KK):(rmOf k D).start<(rmOf k D).n:=by
 have:=h.s0;have:=h.s1;show D.start.toNat<D.n;omega
theorem VM.kk(h:VM D):∃k:KK,k.1=D.kind:=by
 have c:=h.kind;unfold Au at c;simp at c;exact⟨⟨D.kind,by omega⟩,rfl⟩
section
variable{D:MD}(hV:VM D){k:KK}(hk:k.1=D.kind)
open CSR
def stq(A:RM (RK k))(i o:Int)(f:Nat->RK k)(q:Nat)(p:Nat):RK k:=sum (λq=>sum (λd=>if A.ain q d=i/\A.aout q d=o/\A.ato q d=p then f q*A.aw q d else zero) (A.na q)) q
include hV hk
omit hV hk
end
open CSR
def StOk(k:KK)(D:MD)(st:StarO):Prop:=match st with
 |none=>∀q p,q<D.n->p<D.n->sil (rmOf k D) q p=zero
 |some S=>∀q p,q<D.n->p<D.n->Sv k (S q p) (starM (sil (rmOf k D)) D.n q p)
theorem Po{R:Type}[CSR R]{M:Nat->Nat->R}(h:∀q p,q<n->p<n->M q p=zero){q:Nat}(d:q<n)(c:p<n):starM M n q p=eye q p:=by
 rw[starM_left M c,sum_congr (g:=λ_=>zero) (λr i=>by rw[h q r d i,zm]),sum_zero,a0]
theorem WF{R:Type}[CSR R]{M:Nat->Nat->R}(h:∀q p,q<n->p<n->M q p=zero)(v:Nat->R)(c:p<n):rst M n v p=v p:=by
 unfold rst;rw[sum_single _ c (λq g d=>by rw[Po h g c,eye,ifn d,m0]),Po h c c,eye,ifp rfl,m1]
def Orl(k:KK)(n:Nat)(o:Option VV)(u:Nat->RK k):Prop:=match o with
 |none=>∀p,p<n->u p=zero
 |some v=>∀p,p<n->Pv k (v p) (u p)
theorem Orl.getD{k:KK}{o:Option VV}{u:Nat->RK k}(h:Orl k n o u):∀p,p<n->Pv k ((o.getD NI) p) (u p):=λp c=>by
 cases o with
 |none=>exact .inl ⟨rfl,h p c⟩
 |some v=>exact h p c
section
variable{D:MD}(hV:VM D){k:KK}(hk:k.1=D.kind)
include hV hk
variable{na:Nat}{x:Nat->Int}{nb:Nat}{y:Nat->Int}{st:StarO}(hst:StOk k D st)
include hst
end
end
section
def AccD(D:MD):Prop:=∀q d,q<D.n->d<D.na q->D.aout q d=D.ain q d
theorem AccD.r{D:MD}(h:AccD D)(k:KK):AccR (rmOf k D):=λq d c hd=>h q d c hd
end
end Go.Proofs.YtpldocnhbdlgfaaGreatDoor
