/- Parts. -/
import Derived.Test.YtpldocnhbdlgfaaGreatDoorPc23
import Derived.Test.YtpldocnhbdlgfaaGreatDoorPc22
import Derived.Test.YtpldocnhbdlgfaaGreatDoorPc19
import Derived.Lib.SlBuf
namespace Go.Proofs.YtpldocnhbdlgfaaGreatDoor
set_option maxRecDepth 100000
set_option linter.all false
set_option maxHeartbeats 16000000
open Go Tryz
section
open Go.RowKit Go.Deep
def Wd{w:World}{g b n:Nat}{e t:TypeId}{f:Nat->Value}{cs:Array Value}{fr:Nat × Nat}(h:w.rowIs g e n f)(hb:w.heap[b]?=some (.cells cs t fr))(i:t≠e):g≠b:=by
 rintro rfl;obtain⟨c,d,_⟩:=h;rw[d]at hb;simp at hb;exact i hb.2.1.symm
def Bx(w:World)(b:Nat)(t:TypeId)(v:Value):Prop:=w.heap[b]?=some (.cells #[v] t (0,0))
structure WE(w0 w:World)(cb c8 xb yb:Nat)(D:MD)(sv xv yv:Value)(e:Nat):Prop where
 hb:Below w0.heap.size w0 w
 sc:Scl w cb D sv (.slice none 0 0) e
 k8:Bx w c8 114 (.pointer (some (Ad cb 0)))
 kx:Bx w xb 26 xv
 ky:Bx w yb 26 yv
 lc:w0.heap.size<=cb
namespace WE
variable{w0 w w':World}{cb c8 xb yb:Nat}{D:MD}{sv xv yv:Value}{e:Nat}
end WE
namespace VR
variable{w w':World}{B:Nat}{g:Bool->Nat}{m n:Nat}{R:Bool->Nat->Option Nat}{S:Bool->Nat->Option VV}
theorem same(h:VR w B g m n R S)(b:Bool){j:Nat}:VR (w.setCell (Ad (g b) j) (vrV n (R b j))) B g m n R S:=by
 have hf:Fr (λq=>q=g b) w (w.setCell (Ad (g b) j) (vrV n (R b j))):=(Fr.refl (λq=>q=g b) w).set (p:=(Ad (g b) j)) (.inl rfl) _;refine⟨λc=>?_,h.gne,h.low,h.non,λc o s u d k l=>⟨hf.row (h.row c o s u d k l).1 (λe=>We (h.top b) (h.row c o s u d k l).1 (by decide) e.symm),(h.row c o s u d k l).2⟩,h.sep,h.sm⟩;by_cases e:c=b
 ·subst e;exact((h.top c).set j _).congr (λi _=>by
   by_cases e:i=j
   ·subst e;rw[ifp rfl]
   rw[ifn e])
 refine hf.row (h.top c) (λz=>?_);have A:=h.gne;cases c<;>cases b<;>first|exact e rfl|exact A z|exact A z.symm
end VR
end
section
open Go.RowKit Go.Deep
def StV(w:World)(stv:Value)(n:Nat)(st:StarO):Prop:=match st with
 |none=>stv=.slice none 0 0
 |some S=>Mt none w stv n (λ_=>n) S/\∀q p,q<n->p<n->smS (S q p)
end
section
def Wt(D:MD)(sel:Int->Int->Bool)(q d:Nat)(s:WS):WS :=
 if sel (D.ain q d) (D.aout q d)=true then (updS s.1 (D.ato q d).toNat (Hi D.kind (s.1 (D.ato q d).toNat) (D.aw q d) s.2).1,(Hi D.kind (s.1 (D.ato q d).toNat) (D.aw q d) s.2).2) else s
def Oz(D:MD)(sel:Int->Int->Bool)(q:Nat):Nat->WS->WS
 |0,s=>s
 |d+1,s=>Wt D sel q d (Oz D sel q d s)
def zrC(k:Int):Nat->ByteArray:=λ_=>Ak k
def srow(D:MD)(sel:Int->Int->Bool)(q e:Nat):WS:=Oz D sel q (D.na q) (zrC D.kind,e)
def serr(D:MD)(sel:Int->Int->Bool):Nat->Nat
 |0=>0
 |q+1=>(srow D sel q (serr D sel q)).2
def smat(D:MD)(sel:Int->Int->Bool)(q:Nat):Nat->ByteArray:=(srow D sel q (serr D sel q)).1
open CSR
def sils{R:Type}[CSR R](A:RM R)(sel:Int->Int->Bool)(q p:Nat):R:=sum (λd=>if sel (A.ain q d) (A.aout q d)=true/\A.ato q d=p then A.aw q d else zero) (A.na q)
theorem OI{R:Type}[CSR R](A:RM R)(q p:Nat):sils A silB q p=sil A q p:=by
 unfold sils sil;refine sum_congr λd _=>?_;unfold silB;simp only[Bool.and_eq_true,decide_eq_true_eq,and_assoc]
section
variable{D:MD}(hV:VM D){k:KK}(hk:k.1=D.kind)
include hV hk
end
def NoSel(D:MD)(sel:Int->Int->Bool):Prop:=∀q d,q<D.n->d<D.na q->sel (D.ain q d) (D.aout q d)=false
def SilOk(D:MD)(sel:Int->Int->Bool)(st:StarO)(e:Nat):Prop :=
 (NoSel D sel/\st=none/\e=0)\/
 (¬NoSel D sel/\D.n<=60/\e=0/\∃S,st=some S/\∀k:KK,k.1=D.kind->∀q p,q<D.n->p<D.n->Sv k (S q p) (starM (sils (rmOf k D) sel) D.n q p))\/
 (¬NoSel D sel/\e≠0/\st=none/\(60<D.n\/serr D sel D.n≠0\/∃k:KK,k.1=D.kind/\¬FitM D.n (λi j=>wval k (smat D sel i j))))
theorem SilOk.nosil{D:MD}{sel:Int->Int->Bool}(h:NoSel D sel)(k:KK)(q p:Nat)(j:q<D.n):sils (rmOf k D) sel q p=zero:=by
 unfold sils;rw[sum_congr (g:=λ_=>zero) (λd hd=>?_),sum_zero];have i:sel (D.ain q d) (D.aout q d)=false:=h q d j hd;exact ifn (λe=>by
  have c:sel (D.ain q d) (D.aout q d)=true:=e.1;rw[i]at c;cases c)
end
section
open Go CSR
variable{a:ByteArray}{k:KK}
theorem Qb{k:Int}(h:Am k a=true):∃q,rdV a=some (.fin q)/\wtV k (.fin q):=by
 unfold Am at h
 split at h
 ·rename_i v c;have h:=of_decide_eq_true h;cases v with
  |fin q=>exact⟨q,c,h⟩
  |inf=>exact h.elim
  |low=>exact h.elim
 cases h
theorem Ft(h:Am k.1 a=true):Sv k a (wval k a):=(Iu (DL h)).2 rfl
theorem YC{p q:Rat}(d:wtV k.1 (.fin p))(g:wtV k.1 (.fin q)):wtV k.1 (Ag k.1 (.fin p) (.fin q)):=by
 have o:=k.2;have j:∀r,wtV k.1 (.fin r)->¬(V.fin r=zeroV k.1):=λr m e=>by
  unfold zeroV at e
  split at e
  ·cases e
  rename_i i;have:r=0:=by injection e
  subst this
  rcases m with h|⟨_,h⟩
  ·exact i h
  exact absurd h (by decide)
 unfold Ag;rw[ifn (λh=>h.elim (j p d) (j q g))];show wtV k.1 (if k.1=1 then V.fin (p+q) else V.fin (p*q))
 split
 ·rename_i c;exact .inl c
 rename_i c;have l:k.1=2\/k.1=3:=by omega
 rcases d with h|⟨_,d⟩
 ·exact absurd h c
 rcases g with h|⟨_,g⟩
 ·exact absurd h c
 exact .inr ⟨l,Rat.mul_pos d g⟩
theorem Xy{b:ByteArray}(g:Am k.1 a=true)(hb:Am k.1 b=true)(h:(Ah k.1 a b).2=0):Am k.1 (Ah k.1 a b).1=true:=by
 have C:=KE (Ft g) (Ft hb) h;obtain⟨p,z,D⟩:=Qb g;obtain⟨q,A,E⟩:=Qb hb;have i:∀{s:ByteArray} {x:RK k} {v:V},Sv k s x->rdV s=some v->x.1=v:=λ{s x v} m o=>by
  have c:(rdV s).filter (λv=>decide (okV k.1 v))=some x.1:=m.prs;have d:=(Option.filter_eq_some_iff.1 c).1;rw[o]at d;exact(Option.some.inj d).symm
 have j:=i (Ft g) z;have l:=i (Ft hb) A;have B:rdV (Ah k.1 a b).1=some (Ag k.1 (.fin p) (.fin q)):=by
  have c:=C.prs;have d:(wval k a*wval k b).1=Ag k.1 (.fin p) (.fin q):=by
   show Ag k.1 (wval k a).1 (wval k b).1=_;rw[j,l]
  rw[d]at c;have u:(rdV (Ah k.1 a b).1).filter (λv=>decide (okV k.1 v))=some (Ag k.1 (.fin p) (.fin q)):=c;exact(Option.filter_eq_some_iff.1 u).1
 unfold Am;rw[B];exact decide_eq_true<|YC D E
end
section
open CSR
variable{m:Nat}{x y:List Int}
section
variable{R:Type}[CSR R]
variable[CSC R]
theorem IsCmp.inv{f g f' g':List Int->List Int->R}{v:R}(h:IsCmp m f g x y v)(hf:∀z,f x z=g' z x)(c:∀z,g z y=f' y z):IsCmp m f' g' y x v :=
 Lub.congr h (λL=>BN L (λz=>by rw[hf z,c z,mC]))
theorem IsCmp.none{f g:List Int->List Int->R}{v:R}(h:IsCmp m f g x y v)(hf:∀z',f x z'=zero):v=zero:=by
 refine le_anti (h.2 _ (λL=>?_)) (zero_le _);show le (ws m L (λz=>f x z*g z y)) zero;rw[BN L (λz=>by rw[hf z,zm]),Du];exact le_refl _
end
end
section
open Go.RowKit Go.Deep

end
end Go.Proofs.YtpldocnhbdlgfaaGreatDoor
