/- Parts. -/
import Derived.Test.YtpldocnhbdlgfaaGreatDoorPb17
import Derived.Test.YtpldocnhbdlgfaaGreatDoorPb18
import Derived.Test.YtpldocnhbdlgfaaGreatDoorPb16
import Derived.Lib.SlBuf
namespace Go.Proofs.YtpldocnhbdlgfaaGreatDoor
set_option maxRecDepth 100000
set_option linter.all false
set_option maxHeartbeats 16000000
open Go Tryz
section
open Go.RowKit Go.Deep
def Wx{w:World}{g b n:Nat}{e t:TypeId}{f:Nat->Value}{cs:Array Value}{fr:Nat × Nat}(h:w.rowIs g e n f)(hb:w.heap[b]?=some (.cells cs t fr))(i:t≠e):g≠b:=by
 rintro rfl;obtain⟨c,d,_⟩:=h;rw[d]at hb;simp at hb;exact i hb.2.1.symm
def Bx(w:World)(b:Nat)(t:TypeId)(v:Value):Prop:=w.heap[b]?=some (.cells #[v] t (0,0))
structure WE(w0 w:World)(cb c8 xb yb:Nat)(D:MD)(sv xv yv:Value)(e:Nat):Prop where
 hb:Below w0.heap.size w0 w
 sc:Scl w cb D sv (.slice none 0 0) e
 k8:Bx w c8 114 (.pointer (some (Ad cb 0)))
 kx:Bx w xb 26 xv
 ky:Bx w yb 26 yv
 lc:w0.heap.size<=cb
namespace WE
variable{w0 w w':World}{cb c8 xb yb:Nat}{D:MD}{sv xv yv:Value}{e:Nat}
end WE
namespace VR
variable{w w':World}{B:Nat}{g:Bool->Nat}{m n:Nat}{R:Bool->Nat->Option Nat}{S:Bool->Nat->Option VV}
theorem same(h:VR w B g m n R S)(b:Bool){j:Nat}:VR (w.setCell (Ad (g b) j) (vrV n (R b j))) B g m n R S:=by
 have hf:Fr (λq=>q=g b) w (w.setCell (Ad (g b) j) (vrV n (R b j))):=(Fr.refl (λq=>q=g b) w).set (p:=(Ad (g b) j)) (.inl rfl) _;refine⟨λc=>?_,h.gne,h.low,h.non,λc o s u d k l=>⟨hf.row (h.row c o s u d k l).1 (λe=>Wy (h.top b) (h.row c o s u d k l).1 (by decide) e.symm),(h.row c o s u d k l).2⟩,h.sep,h.sm⟩;by_cases e:c=b
 ·subst e;exact((h.top c).set j _).congr (λi _=>by
   by_cases e:i=j
   ·subst e;rw[ifp rfl]
   rw[ifn e])
 refine hf.row (h.top c) (λz=>?_);have A:=h.gne;cases c<;>cases b<;>first|exact e rfl|exact A z|exact A z.symm
end VR
end
section
open Go.RowKit Go.Deep
def StV(w:World)(stv:Value)(n:Nat)(st:StarO):Prop:=match st with
 |none=>stv=.slice none 0 0
 |some S=>Mt none w stv n (λ_=>n) S/\∀q p,q<n->p<n->smS (S q p)
end
section
def WQ(D:MD)(sel:Int->Int->Bool)(q d:Nat)(s:WS):WS :=
 if sel (D.ain q d) (D.aout q d)=true then (updS s.1 (D.ato q d).toNat (HH D.kind (s.1 (D.ato q d).toNat) (D.aw q d) s.2).1,(HH D.kind (s.1 (D.ato q d).toNat) (D.aw q d) s.2).2) else s
def OY(D:MD)(sel:Int->Int->Bool)(q:Nat):Nat->WS->WS
 |0,s=>s
 |d+1,s=>WQ D sel q d (OY D sel q d s)
def zrC(k:Int):Nat->ByteArray:=λ_=>Aj k
def srow(D:MD)(sel:Int->Int->Bool)(q e:Nat):WS:=OY D sel q (D.na q) (zrC D.kind,e)
def serr(D:MD)(sel:Int->Int->Bool):Nat->Nat
 |0=>0
 |q+1=>(srow D sel q (serr D sel q)).2
def smat(D:MD)(sel:Int->Int->Bool)(q:Nat):Nat->ByteArray:=(srow D sel q (serr D sel q)).1
open CSR
def sils{R:Type}[CSR R](A:RM R)(sel:Int->Int->Bool)(q p:Nat):R:=sum (λd=>if sel (A.ain q d) (A.aout q d)=true/\A.ato q d=p then A.aw q d else zero) (A.na q)
theorem Ph{R:Type}[CSR R](A:RM R)(q p:Nat):sils A silB q p=sil A q p:=by
 unfold sils sil;refine sum_congr λd _=>?_;unfold silB;simp only[Bool.and_eq_true,decide_eq_true_eq,and_assoc]
section
variable{D:MD}(hV:VM D){k:KK}(hk:k.1=D.kind)
include hV hk
end
def NoSel(D:MD)(sel:Int->Int->Bool):Prop:=∀q d,q<D.n->d<D.na q->sel (D.ain q d) (D.aout q d)=false
def SilOk(D:MD)(sel:Int->Int->Bool)(st:StarO)(e:Nat):Prop :=
 (NoSel D sel/\st=none/\e=0)\/
 (¬NoSel D sel/\D.n<=60/\e=0/\∃S,st=some S/\∀k:KK,k.1=D.kind->∀q p,q<D.n->p<D.n->Sv k (S q p) (starM (sils (rmOf k D) sel) D.n q p))\/
 (¬NoSel D sel/\e≠0/\st=none/\(60<D.n\/serr D sel D.n≠0\/∃k:KK,k.1=D.kind/\¬FitM D.n (λi j=>wval k (smat D sel i j))))
theorem SilOk.nosil{D:MD}{sel:Int->Int->Bool}(h:NoSel D sel)(k:KK)(q p:Nat)(j:q<D.n):sils (rmOf k D) sel q p=zero:=by
 unfold sils;rw[sum_congr (g:=λ_=>zero) (λd hd=>?_),sum_zero];have i:sel (D.ain q d) (D.aout q d)=false:=h q d j hd;exact ifn (λe=>by
  have c:sel (D.ain q d) (D.aout q d)=true:=e.1;rw[i]at c;cases c)
end
section
open Go CSR
variable{M:MD}{N c:Nat}{k:Int}
def asum(k:KK)(M:MD)(q:Nat)(f:Int->Int->RK k->Nat->RK k):RK k:=sum (λd=>f (M.ain q d) (M.aout q d) (wval k (M.aw q d)) (M.ato q d).toNat) (M.na q)
theorem GO(k:KK)(M:MD)(q:Nat)(a b:Int)(x:ByteArray)(t:Int)(p:Nat)(f:Int->Int->RK k->Nat->RK k):
  asum k (M.arc q a b x t) p f=asum k M p f+(if p=q then f a b (wval k x) t.toNat else zero):=by
 unfold asum;by_cases e:p=q
 ·subst e;have g:(M.arc p a b x t).na p=M.na p+1:=ifp rfl;rw[g,ifp rfl];show sum _ (M.na p)+_=_
  congr 1
  ·refine sum_congr λd hd=>?_;show f (if p=p/\d=M.na p then a else M.ain p d) (if p=p/\d=M.na p then b else M.aout p d) (wval k (if p=p/\d=M.na p then x else M.aw p d)) (if p=p/\d=M.na p then t else M.ato p d).toNat=_
   have c:d≠M.na p:=by omega
   simp[c]
  show f (if p=p/\M.na p=M.na p then a else M.ain p _) (if p=p/\M.na p=M.na p then b else M.aout p _) (wval k (if p=p/\M.na p=M.na p then x else M.aw p _)) (if p=p/\M.na p=M.na p then t else M.ato p _).toNat=_
  simp
 have g:(M.arc q a b x t).na p=M.na p:=ifn e;rw[g,ifn e,a0];refine sum_congr λd hd=>?_;show f (if p=q/\d=M.na q then a else M.ain p d) (if p=q/\d=M.na q then b else M.aout p d) (wval k (if p=q/\d=M.na q then x else M.aw p d)) (if p=q/\d=M.na q then t else M.ato p d).toNat=_
 have c:¬(p=q/\d=M.na q):=λh=>e h.1;simp only[ifn c]
theorem LP(k:KK)(M:MD)(s:ByteArray){p:Nat}(d:p≠M.n)(f:Int->Int->RK k->Nat->RK k):asum k (M.state s) p f=asum k M p f:=by
 unfold asum;have c:(M.state s).na p=M.na p:=ifn d;rw[c];rfl
structure BOk(M:MD)(N c:Nat):Prop where
 fin:∀i,M.fin i=⟨#[]⟩\/Am M.kind (M.fin i)=true
 arc:∀i d,d<M.na i->0<=M.ain i d/\M.ain i d<=500/\0<=M.aout i d/\M.aout i d<=500/\0<=M.ato i d/\M.ato i d<(N:Int)/\Am M.kind (M.aw i d)=true
 na:∀i,M.na i<=c
 cnt:∀n,Ah M n<=c
 fsm:∀i,smS (M.fin i)
 asm:∀i d,smS (M.aw i d)
theorem BOk.mono{g c':Nat}(h:BOk M N c)(z:N<=g)(j:c<=c'):BOk M g c' :=
 ⟨h.fin,λi d hd=>by obtain⟨k,l,m,o,p,u,s⟩:=h.arc i d hd;exact⟨k,l,m,o,p,by omega,s⟩,λi=>Nat.le_trans (h.na i) j,λn=>Nat.le_trans (h.cnt n) j,h.fsm,h.asm⟩
theorem LM{D:MD}{p:Nat}{i o t:Int}{w:ByteArray}:∀n,Ah (D.arc p i o w t) n<=Ah D n+(if p<n then 1 else 0)
 |0=>Nat.zero_le _
 |n+1=>by
  have ih:=LM (D:=D) (p:=p) (i:=i) (o:=o) (t:=t) (w:=w) n;show Ah (D.arc p i o w t) n+(if n=p then D.na p+1 else D.na n)<=Ah D n+D.na n+(if p<n+1 then 1 else 0)
  by_cases e:n=p
  ·subst e;rw[ifp rfl,ifp (by omega)];rw[ifn (by omega)]at ih;omega
  rw[ifn e];split at ih
  ·rw[ifp (by omega)];omega
  split<;>omega
theorem BOk.put{q:Nat}{a b t:Int}{x:ByteArray}(h:BOk M N c)(l:0<=a/\a<=500)(hb:0<=b/\b<=500)(m:0<=t/\t<(N:Int))(A:Am M.kind x=true)(z:smS x):BOk (M.arc q a b x t) N (c+1):=by
 refine⟨h.fin,λi d hd=>?_,λi=>?_,λn=>?_,h.fsm,λi d=>?_⟩
 ·have g:d<if i=q then M.na q+1 else M.na i:=hd
  show 0<=(if i=q/\d=M.na q then a else M.ain i d)/\(if i=q/\d=M.na q then a else M.ain i d)<=500/\0<=(if i=q/\d=M.na q then b else M.aout i d)/\(if i=q/\d=M.na q then b else M.aout i d)<=500/\0<=(if i=q/\d=M.na q then t else M.ato i d)/\(if i=q/\d=M.na q then t else M.ato i d)<(N:Int)/\Am M.kind (if i=q/\d=M.na q then x else M.aw i d)=true
  by_cases e:i=q/\d=M.na q
  ·simp only[ifp e];exact⟨l.1,l.2,hb.1,hb.2,m.1,m.2,A⟩
  simp only[ifn e];refine h.arc i d ?_;by_cases j:i=q
  ·rw[ifp j]at g;subst j;have:d≠M.na i:=λs=>e ⟨rfl,s⟩;omega
  rw[ifn j]at g;exact g
 ·show (if i=q then M.na q+1 else M.na i)<=c+1
  have k:=h.na q;have u:=h.na i
  split<;>omega
 ·have k:=LM (D:=M) (p:=q) (i:=a) (o:=b) (t:=t) (w:=x) n;have u:=h.cnt n
  split at k<;>omega
 show smS (if i=q/\d=M.na q then x else M.aw i d)
 split
 ·exact z
 exact h.asm i d
theorem BOk.setFin{M:MD}{N c q:Nat}{s:ByteArray}(h:BOk M N c)(g:s=⟨#[]⟩\/Am M.kind s=true)(d:smS s):BOk (M.setFin q s) N c :=
 ⟨λi=>by
  show (if i=q then s else M.fin i)=_\/Am M.kind (if i=q then s else M.fin i)=true
  split
  ·exact g
  ·exact h.fin i,h.arc,h.na,λn=>by rw[show Ah (M.setFin q s) n=Ah M n from by induction n with|zero=>rfl|succ n ih=>exact congrArg (·+M.na n) ih];exact h.cnt n,λi=>by
  show smS (if i=q then s else M.fin i)
  split
  ·exact d
  exact h.fsm i,h.asm⟩
theorem BOk.state{M:MD}{N c:Nat}{s:ByteArray}(h:BOk M N c)(l:s=⟨#[]⟩\/Am M.kind s=true)(k:smS s):BOk (M.state s) N c:=by
 have g:∀i,(M.state s).na i<=M.na i:=λi=>by
  show (if i=M.n then 0 else M.na i)<=_
  split<;>omega
 have j:∀n,Ah (M.state s) n<=Ah M n:=λn=>by
  induction n with
  |zero=>exact nlr
  |succ n ih=>exact Nat.add_le_add ih (g n)
 exact⟨λi=>by
  show (if i=M.n then s else M.fin i)=_\/Am M.kind (if i=M.n then s else M.fin i)=true
  split
  ·exact l
  ·exact h.fin i,λi d hd=>h.arc i d (Nat.lt_of_lt_of_le hd (g i)),λi=>Nat.le_trans (g i) (h.na i),λn=>Nat.le_trans (j n) (h.cnt n),λi=>by
  show smS (if i=M.n then s else M.fin i)
  split
  ·exact k
  exact h.fsm i,h.asm⟩
theorem BOk.empty(kd st:Int)(c:ByteArray)(N:Nat):BOk (AU kd st c) N 0 :=
 ⟨λ_=>.inl rfl,λ_ _ h=>absurd h (Nat.not_lt_zero _),λ_=>nlr,λn=>by
  induction n with
  |zero=>exact nlr
  |succ n ih=>exact ih,λ_=>Nat.zero_le _,λ_ _=>Nat.zero_le _⟩
theorem BOk.vm(h:BOk M M.n c)(A:Au M.kind=true)(s:1<=M.n)(u:M.n<=3000)(g:0<=M.start/\M.start<(M.n:Int))(B:Am M.kind M.lead=true)(z:c<=30000):VM M :=
 ⟨A,s,u,g.1,g.2,B,Nat.le_trans (h.cnt _) z,λi _=>h.fin i,λi d _ hd=>by obtain⟨j,k,a3,l,m,o,p⟩:=h.arc i d hd;exact⟨j,k,a3,l,m,o,p⟩⟩
theorem MO(h:Au k=true):-9223372036854775808<=k/\k<=9223372036854775807:=by unfold Au at h;simp at h;omega
theorem BOk.msz(h:BOk M N c)(g:Au M.kind=true)(hn:M.n<=140737488355328)(j:smS M.lead)(d:c<=140737488355328):MSz M :=
 ⟨j,h.fsm,h.asm,λi=>Nat.le_trans (h.na i) d,hn,MO g⟩
def revA(D:MD)(q:Nat):Nat->MD->MD
 |0,M=>M
 |d+1,M=>(revA D q d M).arc (D.ato q d).toNat (D.ain q d) (D.aout q d) (D.aw q d) (q:Int)
def revF(D:MD)(q:Nat)(M:MD):MD:=if D.fin q=⟨#[]⟩ then M else M.arc D.n 0 0 (D.fin q) (q:Int)
def revZ(D:MD):MD:=⟨D.kind,(D.n:Int),D.lead,D.n+1,λ_=>⟨#[]⟩,λ_=>0,λ_ _=>0,λ_ _=>0,λ_ _=>⟨#[]⟩,λ_ _=>0⟩
def revQ(D:MD):Nat->MD
 |0=>revZ D
 |q+1=>revF D q (revA D q (D.na q) (revQ D q))
theorem Db(h:Au k=true):Am k (oneF k)=true:=by
 unfold Au at h;simp at h;have:k=1\/k=2\/k=3:=by omega
 rcases this with rfl|rfl|rfl<;>decide +kernel
theorem DZ(h:Au k=true):smS (oneF k):=by
 unfold Au at h;simp at h;have:k=1\/k=2\/k=3:=by omega
 rcases this with rfl|rfl|rfl<;>(unfold smS;decide +kernel)
def atW(n:Nat)(x:Nat->Int)(i:Nat):Int:=if i<n then x i else 0
def An(kind:Int)(na:Nat)(x:Nat->Int)(nb:Nat)(y:Nat->Int)(v:ByteArray):Nat->MD
 |0=>(AU kind 0 v).state ⟨#[]⟩
 |i+1=>((An kind na x nb y v i).state ⟨#[]⟩).arc i (atW na x i) (atW nb y i) (oneF kind) ((i+1:Nat):Int)
def BN(kind:Int)(na:Nat)(x:Nat->Int)(nb:Nat)(y:Nat->Int)(v:ByteArray):MD:=(An kind na x nb y v (max na nb)).setFin (max na nb) (oneF kind)
end
section
open Go CSR
variable{a:ByteArray}{k:KK}
theorem QB{k:Int}(h:Am k a=true):∃q,rdV a=some (.fin q)/\wtV k (.fin q):=by
 unfold Am at h
 split at h
 ·rename_i v c;have h:=of_decide_eq_true h;cases v with
  |fin q=>exact⟨q,c,h⟩
  |inf=>exact h.elim
  |low=>exact h.elim
 cases h
theorem Fw(h:Am k.1 a=true):Sv k a (wval k a):=(IL (Cu h)).2 rfl
theorem YQ{p q:Rat}(d:wtV k.1 (.fin p))(g:wtV k.1 (.fin q)):wtV k.1 (Ai k.1 (.fin p) (.fin q)):=by
 have o:=k.2;have j:∀r,wtV k.1 (.fin r)->¬(V.fin r=zeroV k.1):=λr m e=>by
  unfold zeroV at e
  split at e
  ·cases e
  rename_i i;have:r=0:=by injection e
  subst this
  rcases m with h|⟨_,h⟩
  ·exact i h
  exact absurd h (by decide)
 unfold Ai;rw[ifn (λh=>h.elim (j p d) (j q g))];show wtV k.1 (if k.1=1 then V.fin (p+q) else V.fin (p*q))
 split
 ·rename_i c;exact .inl c
 rename_i c;have l:k.1=2\/k.1=3:=by omega
 rcases d with h|⟨_,d⟩
 ·exact absurd h c
 rcases g with h|⟨_,g⟩
 ·exact absurd h c
 exact .inr ⟨l,Rat.mul_pos d g⟩
theorem XM{b:ByteArray}(g:Am k.1 a=true)(hb:Am k.1 b=true)(h:(Ae k.1 a b).2=0):Am k.1 (Ae k.1 a b).1=true:=by
 have C:=Le (Fw g) (Fw hb) h;obtain⟨p,z,D⟩:=QB g;obtain⟨q,A,E⟩:=QB hb;have i:∀{s:ByteArray} {x:RK k} {v:V},Sv k s x->rdV s=some v->x.1=v:=λ{s x v} m o=>by
  have c:(rdV s).filter (λv=>decide (okV k.1 v))=some x.1:=m.prs;have d:=(Option.filter_eq_some_iff.1 c).1;rw[o]at d;exact(Option.some.inj d).symm
 have j:=i (Fw g) z;have l:=i (Fw hb) A;have B:rdV (Ae k.1 a b).1=some (Ai k.1 (.fin p) (.fin q)):=by
  have c:=C.prs;have d:(wval k a*wval k b).1=Ai k.1 (.fin p) (.fin q):=by
   show Ai k.1 (wval k a).1 (wval k b).1=_;rw[j,l]
  rw[d]at c;have u:(rdV (Ae k.1 a b).1).filter (λv=>decide (okV k.1 v))=some (Ai k.1 (.fin p) (.fin q)):=c;exact(Option.filter_eq_some_iff.1 u).1
 unfold Am;rw[B];exact decide_eq_true<|YQ D E
end
section
open Go.RowKit Go.Deep

end
end Go.Proofs.YtpldocnhbdlgfaaGreatDoor
