/- Parts. -/
import Derived.Test.YtpldocnhbdlgfaaGreatDoorPc20
import Derived.Test.YtpldocnhbdlgfaaGreatDoorPc21
import Derived.Test.YtpldocnhbdlgfaaGreatDoorPc08
namespace Go.Proofs.YtpldocnhbdlgfaaGreatDoor
set_option maxRecDepth 100000
set_option linter.all false
set_option maxHeartbeats 16000000
open Go Tryz
section
open Go.RowKit Go.Deep
def TstA(nf:FuncId)(cap:Array Value)(sel:Int->Int->Bool)(P:World->Prop):Prop :=
 (∀args w,(callFunc nf args).run prog w=.ok (.enter nf args) w)/\∀w,P w->∀(i o:Int) (s:ByteArray) (t:Int),Calls prog nf (#[.agg #[.int .i64 i,.int .i64 o,.string s,.int .i64 t]]++cap) w (λr w'=>r=.returned (.bool (sel i o))/\Below w.heap.size w w')
def isWord(n:Nat)(x:Nat->Int):Bool:=decide (n<=200)&&DK n x 500
def silB(i o:Int):Bool:=decide (i=0)&&decide (o=0)
def Ml(t e:TypeId)(h:prog.underlying t=some (.slice e))(w:World)(a:Option Addr)(n c:Nat):(binOp .eql t (.slice a n c) (.slice none 0 0)).run prog w=.ok (.bool a.isNone) w:=by
 simp only[binOp];simp[run_equal_slice_nil w t e a n c h]
end
section
open Go.RowKit Go.Deep
abbrev VV:=Nat->ByteArray
def vrV(n:Nat):Option Nat->Value
 |none=>.slice none 0 0
 |some r=>.slice (some (Ad r 0)) n n
structure VR(w:World)(B:Nat)(g:Bool->Nat)(m n:Nat)(R:Bool->Nat->Option Nat)(S:Bool->Nat->Option VV):Prop where
 top:∀b,w.rowIs (g b) 118 m (λj=>vrV n (R b j))
 gne:g false≠g true
 low:∀b,B<=g b
 non:∀b j,j<m->(R b j=none↔S b j=none)
 row:∀b j r x,j<m->R b j=some r->S b j=some x->w.rowIs r 9 n (λq=>.string (x q))/\B<=r
 sep:∀b j b' j' r,j<m->j' < m->R b j=some r->R b' j'=some r->b=b'/\j=j'
 sm:∀b j x,S b j=some x->∀q,smS (x q)
def We{w:World}{g g' n m:Nat}{e e':TypeId}{F i:Nat->Value}(h:w.rowIs g e n F)(j:w.rowIs g' e' m i)(l:e≠e'):g≠g':=by
 rintro rfl;obtain⟨c,k,_⟩:=h;obtain⟨o,d,_⟩:=j;rw[k]at d;simp at d;exact l d.2
namespace VR
variable{w w':World}{B:Nat}{g:Bool->Nat}{m n:Nat}{R:Bool->Nat->Option Nat}{S:Bool->Nat->Option VV}
end VR
end
section
variable{a b s:ByteArray}{D:MD}{n p:Nat}
abbrev StarO:=Option<|Nat->Nat->ByteArray
def rstP(k:Int)(S:Nat->Nat->ByteArray)(v:Nat->ByteArray)(q:Nat):Nat->WS->WS
 |0,s=>s
 |p+1,s=>if v q=⟨#[]⟩\/S q p=Ak k then rstP k S v q p s
  else (updS (rstP k S v q p s).1 p (Hi k ((rstP k S v q p s).1 p) (Ie k (v q) (S q p) (rstP k S v q p s).2).1 (Ie k (v q) (S q p) (rstP k S v q p s).2).2).1,(Hi k ((rstP k S v q p s).1 p) (Ie k (v q) (S q p) (rstP k S v q p s).2).1 (Ie k (v q) (S q p) (rstP k S v q p s).2).2).2)
def rstQ(k:Int)(S:Nat->Nat->ByteArray)(v:Nat->ByteArray)(n:Nat):Nat->WS->WS
 |0,s=>s
 |q+1,s=>rstP k S v q n (rstQ k S v n q s)
def YJ(k:Int)(n:Nat)(st:StarO)(v:Nat->ByteArray)(e:Nat):WS:=match st with
 |none=>(v,e)
 |some S=>if e≠0 then (v,e) else rstQ k S v n n (Nq,e)
def Sv(k:KK)(s:ByteArray)(x:RK k):Prop:=s=vtxt x.1/\fitV x.1
def Pv(k:KK)(s:ByteArray)(x:RK k):Prop:=(s=⟨#[]⟩/\x=CSR.zero)\/Sv k s x
section
variable{k:KK}
theorem Sv.prs{x:RK k}(h:Sv k s x):vprs k.1 s=some x.1:=by rw[h.1];exact PO h.2 x.2
theorem Sv.inj{s:ByteArray}{x y:RK k}(h:Sv k s x)(d:Sv k s y):x=y:=by
 have c:=h.prs;rw[d.prs]at c;exact RK.ext (Option.some.inj c).symm
theorem Sv.text{t:ByteArray}{x:RK k}(h:Sv k s x)(c:Sv k t x):s=t:=by rw[h.1,c.1]
theorem Sv.zero:Sv k (Ak k.1) (CSR.zero:RK k):=(Is.zero k 0).2 rfl
theorem Sv.eq_zero{x:RK k}(h:Sv k s x):s=Ak k.1↔x=CSR.zero:=by
 constructor
 ·intro e;rw[e]at h;exact h.inj Sv.zero
 intro e;rw[e]at h;exact h.text Sv.zero
theorem Sv.val{x:RK k}(h:Sv k s x):wval k s=x:=by
 have d:=h.prs;unfold wval
 split
 ·rename_i v c;rw[d]at c;cases c;rfl
 rename_i c;rw[d]at c;cases c
theorem YD(h:Aj k.1 s=true):Sv k s (wval k s):=(Iu h).2 rfl
theorem Ip{j:Int}(c:k.1=j)(h:Am j s=true):Sv k s (wval k s):=by subst c;exact YD<|DL h
theorem MN{v:V}(h:(limV v).2=0):limV v=(vtxt v,0)/\fitV v:=by
 rcases FM v with⟨d,c⟩|⟨_,c⟩
 ·exact⟨c,d⟩
 rw[c]at h;cases h
theorem JL{x y:RK k}(g:Sv k a x)(hb:Sv k b y)(h:(Ap k.1 a b).2=0):Sv k (Ap k.1 a b).1 (x+y):=by
 have i:Ap k.1 a b=limV (x+y).1:=by unfold Ap;rw[g.prs,hb.prs];rfl
 rw[i]at h ⊢;obtain⟨c,d⟩:=MN h;rw[c];exact⟨rfl,d⟩
theorem KE{x y:RK k}(g:Sv k a x)(hb:Sv k b y)(h:(Ah k.1 a b).2=0):Sv k (Ah k.1 a b).1 (x*y):=by
 have i:Ah k.1 a b=limV (x*y).1:=by unfold Ah;rw[g.prs,hb.prs];rfl
 rw[i]at h ⊢;obtain⟨c,d⟩:=MN h;rw[c];exact⟨rfl,d⟩
end
def rmOf(k:KK)(D:MD):RM (RK k) :=
 { n:=D.n,start:=D.start.toNat,lead:=wval k D.lead,fin:=λq=>if D.fin q=⟨#[]⟩ then CSR.zero else wval k (D.fin q),na:=D.na,ain:=D.ain,aout:=D.aout,aw:=λq d=>wval k (D.aw q d),ato:=λq d=>(D.ato q d).toNat }
theorem VM.inn(h:VM D)(k:KK):Inn (rmOf k D):=λq d g hd=>by
 have c:=h.arc q d g hd;have:=c.t0;have:=c.t1;show (D.ato q d).toNat<D.n;omega
theorem VM.stn(h:VM D)(k:KK):(rmOf k D).start<(rmOf k D).n:=by
 have:=h.s0;have:=h.s1;show D.start.toNat<D.n;omega
theorem VM.kk(h:VM D):∃k:KK,k.1=D.kind:=by
 have c:=h.kind;unfold As at c;simp at c;exact⟨⟨D.kind,by omega⟩,rfl⟩
section
variable{D:MD}(hV:VM D){k:KK}(hk:k.1=D.kind)
open CSR
def stq(A:RM (RK k))(i o:Int)(f:Nat->RK k)(q:Nat)(p:Nat):RK k:=sum (λq=>sum (λd=>if A.ain q d=i/\A.aout q d=o/\A.ato q d=p then f q*A.aw q d else zero) (A.na q)) q
include hV hk
omit hV hk
end
open CSR
def StOk(k:KK)(D:MD)(st:StarO):Prop:=match st with
 |none=>∀q p,q<D.n->p<D.n->sil (rmOf k D) q p=zero
 |some S=>∀q p,q<D.n->p<D.n->Sv k (S q p) (starM (sil (rmOf k D)) D.n q p)
theorem OP{R:Type}[CSR R]{M:Nat->Nat->R}(h:∀q p,q<n->p<n->M q p=zero){q:Nat}(d:q<n)(c:p<n):starM M n q p=eye q p:=by
 rw[starM_left M c,sum_congr (g:=λ_=>zero) (λr i=>by rw[h q r d i,zm]),sum_zero,a0]
theorem Wk{R:Type}[CSR R]{M:Nat->Nat->R}(h:∀q p,q<n->p<n->M q p=zero)(v:Nat->R)(c:p<n):rst M n v p=v p:=by
 unfold rst;rw[sum_single _ c (λq g d=>by rw[OP h g c,eye,ifn d,m0]),OP h c c,eye,ifp rfl,m1]
def Orl(k:KK)(n:Nat)(o:Option VV)(u:Nat->RK k):Prop:=match o with
 |none=>∀p,p<n->u p=zero
 |some v=>∀p,p<n->Pv k (v p) (u p)
theorem Orl.getD{k:KK}{o:Option VV}{u:Nat->RK k}(h:Orl k n o u):∀p,p<n->Pv k ((o.getD Nq) p) (u p):=λp c=>by
 cases o with
 |none=>exact .inl ⟨rfl,h p c⟩
 |some v=>exact h p c
section
variable{D:MD}(hV:VM D){k:KK}(hk:k.1=D.kind)
include hV hk
variable{na:Nat}{x:Nat->Int}{nb:Nat}{y:Nat->Int}{st:StarO}(hst:StOk k D st)
include hst
end
end
section
def MD.inv(D:MD):MD:={ D with ain:=D.aout,aout:=D.ain }
def MD.sym(φ:Int->Int->Int × Int)(D:MD):MD:={ D with ain:=λq d=>(φ (D.ain q d) (D.aout q d)).1,aout:=λq d=>(φ (D.ain q d) (D.aout q d)).2 }
theorem Xo(D:MD):D.sym (λi o=>(o,i))=D.inv:=rfl
theorem Lt(φ:Int->Int->Int × Int)(D:MD):∀n,Ai (D.sym φ) n=Ai D n
 |0=>rfl
 |n+1=>by show Ai (D.sym φ) n+D.na n=Ai D n+D.na n;rw[Lt φ D n]
theorem VM.sym{D:MD}(h:VM D){φ:Int->Int->Int × Int}(hf:∀i o,0<=i->i<=500->0<=o->o<=500->0<=(φ i o).1/\(φ i o).1<=500/\0<=(φ i o).2/\(φ i o).2<=500):VM (D.sym φ) :=
 { h with
  arcs:=by rw[Lt];exact h.arcs
  arc:=λq d c hd =>
   let a:=h.arc q d c hd
   let b:=hf _ _ a.i0 a.i1 a.o0 a.o1
   { a with i0:=b.1,i1:=b.2.1,o0:=b.2.2.1,o1:=b.2.2.2 } }
def AccD(D:MD):Prop:=∀q d,q<D.n->d<D.na q->D.aout q d=D.ain q d
theorem AccD.r{D:MD}(h:AccD D)(k:KK):AccR (rmOf k D):=λq d c hd=>h q d c hd
end
end Go.Proofs.YtpldocnhbdlgfaaGreatDoor
