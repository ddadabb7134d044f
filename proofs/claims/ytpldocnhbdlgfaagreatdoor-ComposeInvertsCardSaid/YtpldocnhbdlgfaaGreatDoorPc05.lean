/- Parts. -/
import Derived.Test.YtpldocnhbdlgfaaGreatDoorPc01
namespace Go.Proofs.YtpldocnhbdlgfaaGreatDoor
set_option maxRecDepth 100000
set_option linter.all false
set_option maxHeartbeats 16000000
open Go Tryz
section
variable{k:Int}{s:ByteArray}{y:Rat}
inductive V where
 |inf|low|fin (q:Rat)
 deriving DecidableEq
def infS:ByteArray:=⟨#[105,110,102]⟩
def lowS:ByteArray:=⟨#[45,105,110,102]⟩
def okV(k:Int):V->Prop
 | .inf=>1<=k/\k<=3
 | .low=>k=1
 | .fin q=>k=1\/((k=2\/k=3)/\0<=q)
instance (k:Int) (v:V):Decidable (okV k v):=by cases v<;>unfold okV<;>infer_instance
def rdV(s:ByteArray):Option V:=if s=infS then some .inf else if s=lowS then some .low else (prs s).map .fin
def vprs(k:Int)(s:ByteArray):Option V:=(rdV s).filter λv=>decide (okV k v)
def vtxt:V->ByteArray
 | .inf=>infS
 | .low=>lowS
 | .fin q=>txt q
def fitV:V->Prop
 | .fin q=>fitQ q
 |_=>True
def limV:V->ByteArray × Nat
 | .fin q=>limR q
 |v=>(vtxt v,0)
def cmpV:V->V->Int
 | .inf,.inf=>0
 | .low,.low=>0
 | .low,_=>-1
 |_,.inf=>-1
 |_,.low=>1
 | .inf,_=>1
 | .fin x,.fin y=>cmpQ x y
def zeroV(k:Int):V:=if k=1 then .inf else .fin 0
def oneV(k:Int):V:=if k=1 then .fin 0 else .fin 1
def addV:V->V->V
 | .fin x,.fin y=>.fin (x+y)
 |_,_=>.inf
def Ar(k:Int)(v w:V):V:=if k=2 then addV v w else if k=1 then (if 0<cmpV v w then w else v) else (if cmpV v w<0 then w else v)
def Ag(k:Int)(v w:V):V :=
 if v=zeroV k\/w=zeroV k then zeroV k else match v,w with
  | .inf,_=>.inf
  |_,.inf=>.inf
  | .low,_=>.low
  |_,.low=>.low
  | .fin x,.fin y=>if k=1 then .fin (x+y) else .fin (x*y)
def Aw(k:Int)(v:V):V :=
 if k=1 then (if 0<=cmpV v (.fin 0) then .fin 0 else .low)
 else if k=3 then (if cmpV v (.fin 1)<=0 then .fin 1 else .inf)
 else match v with
  | .fin x=>if 0<=cmpQ x 1 then .inf else .fin (1 / (1-x))
  |_=>.inf
def wtV(k:Int):V->Prop
 | .fin q=>k=1\/((k=2\/k=3)/\0<q)
 |_=>False
instance (k:Int) (v:V):Decidable (wtV k v):=by cases v<;>unfold wtV<;>infer_instance
def Em(k:Int)(v w:V):Int:=if k=1 then cmpV v w else cmpV w v
def argS:ByteArray × Nat:=(str [],1)
def Aj(k:Int)(a:ByteArray):Bool:=(vprs k a).isSome
def Am(k:Int)(a:ByteArray):Bool:=match rdV a with|some v=>decide (wtV k v)|none=>false
def As(k:Int):Bool:=decide (1<=k)&&decide (k<=3)
def Ak(k:Int):ByteArray:=if As k then vtxt (zeroV k) else str []
def oneF(k:Int):ByteArray:=if As k then vtxt (oneV k) else str []
def Ap(k:Int)(a b:ByteArray):ByteArray × Nat:=match vprs k a,vprs k b with|some v,some w=>limV (Ar k v w)|_,_=>argS
def Ah(k:Int)(a b:ByteArray):ByteArray × Nat:=match vprs k a,vprs k b with|some v,some w=>limV (Ag k v w)|_,_=>argS
def AL(k:Int)(a:ByteArray):ByteArray × Nat:=match vprs k a with|some v=>limV (Aw k v)|none=>argS
def UT(k:Int)(v w:V):Prop:=(v=zeroV k\/wtV k v)/\wtV k w
instance (k:Int) (v w:V):Decidable (UT k v w):=inferInstanceAs<|Decidable (_/\_)
def Bj(k:Int)(a b:ByteArray):Int:=match vprs k a,vprs k b with|some v,some w=>Em k v w|_,_=>0
theorem Hm:prs infS=none:=by decide +kernel
theorem FZ:prs lowS=none:=by decide +kernel
def JY{v:V}(h:fitV v):rdV (vtxt v)=some v:=by
 cases v with
 |inf=>simp[rdV,vtxt]
 |low=>simp[rdV,vtxt,show lowS≠infS by decide]
 |fin q =>
  have c:=Bi h;have d:txt q≠infS:=by intro e;rw[e,Hm]at c;simp at c
  have g:txt q≠lowS:=by intro e;rw[e,FZ]at c;simp at c
  simp[rdV,vtxt,d,g,c]
theorem Gc{v:V}(h:rdV s=some v):s=vtxt v/\fitV v:=by
 unfold rdV at h
 split at h
 ·rename_i e;have:=Option.some.inj h;subst this;exact⟨e,trivial⟩
 split at h
 ·rename_i e;have:=Option.some.inj h;subst this;exact⟨e,trivial⟩
 cases c:prs s with
 |none=>rw[c]at h;simp at h
 |some q=>rw[c]at h;simp at h;subst h;exact AS c
def Dt{v:V}:vprs k s=some v↔rdV s=some v/\okV k v:=by
 unfold vprs;rw[Option.filter_eq_some_iff];simp
def KT{v w:V}(c:fitV v)(d:fitV w)(h:vtxt v=vtxt w):v=w:=by
 have:=JY c;rw[h,JY d]at this;exact(Option.some.inj this).symm
def PO{v:V}(h:fitV v)(c:okV k v):vprs k (vtxt v)=some v:=Dt.2 ⟨JY h,c⟩
theorem Et{v:V}(h:fitV v):limV v=(vtxt v,0):=by cases v<;>first|rfl|exact CX h
def leV:V->V->Prop
 | .low,_=>True
 |_,.inf=>True
 | .fin x,.fin y=>x<=y
 |_,_=>False
def BI(x y:Rat):(x<y/\cmpQ x y=-1)\/(x=y/\cmpQ x y=0)\/(y<x/\cmpQ x y=1):=by
 unfold cmpQ;by_cases c:x<y
 ·left;rw[ifp c];exact⟨c,rfl⟩
 by_cases d:x=y
 ·right;left;rw[ifn c,ifp d];exact⟨d,rfl⟩
 right;right;rw[ifn c,ifn d]
 refine⟨?_,rfl⟩;exact Rat.lt_of_le_of_ne (Rat.not_lt.1 c) (Ne.symm d)
theorem Cx(v w:V):cmpV v w<=0↔leV v w:=by
 cases v<;>cases w<;>simp[cmpV,leV]
 rename_i x y
 rcases BI x y with⟨h,e⟩|⟨h,e⟩|⟨h,e⟩<;>rw[e]
 ·simp[Rat.le_of_lt h]
 ·subst h;simp
 simp;exact Rat.not_le.2 h
def ER(v w:V):cmpV v w=-1\/cmpV v w=0\/cmpV v w=1:=by
 cases v<;>cases w<;>simp[cmpV]
 rename_i x y
 rcases BI x y with⟨h,e⟩|⟨h,e⟩|⟨h,e⟩<;>simp[e]
theorem GI(v w:V):cmpV v w=0↔v=w:=by
 cases v<;>cases w<;>simp[cmpV]
 rename_i x y
 rcases BI x y with⟨h,e⟩|⟨h,e⟩|⟨h,e⟩<;>rw[e]
 ·simp;exact Rat.ne_of_lt h
 ·simp[h]
 simp;exact Rat.ne_of_gt h
def Fz(v w:V):cmpV w v=- cmpV v w:=by
 cases v<;>cases w<;>simp[cmpV]
 rename_i x y
 rcases BI x y with⟨h,e⟩|⟨h,e⟩|⟨h,e⟩<;>rcases BI y x with⟨c,d⟩|⟨c,d⟩|⟨c,d⟩<;>rw[e,d]<;>try rfl
 ·exact absurd (Rat.le_of_lt c) (Rat.not_le.2 h)
 ·subst c;exact absurd h Rat.lt_irrefl
 ·subst h;exact absurd c Rat.lt_irrefl
 ·subst h;exact absurd c Rat.lt_irrefl
 ·subst c;exact absurd h Rat.lt_irrefl
 exact absurd (Rat.le_of_lt c) (Rat.not_le.2 h)
def Fe(v:V):leV v v:=by rw[<-Cx,(GI v v).2 rfl];omega
def Cf(v w:V):leV v w\/leV w v:=by rw[<-Cx,<-Cx,Fz v w];omega
def FL{v w:V}(d:leV v w)(c:leV w v):v=w:=by
 rw[<-Cx]at d c;rw[Fz v w]at c;exact(GI v w).1 (by omega)
def Bq{u v w:V}(c:leV u v)(d:leV v w):leV u w:=by
 cases u<;>cases v<;>cases w<;>simp_all [leV]
 exact Rat.le_trans c d
noncomputable def minV(v w:V):V:=open Classical in if leV v w then v else w
noncomputable def maxV(v w:V):V:=open Classical in if leV w v then v else w
theorem Ua(v w:V):(if 0<cmpV v w then w else v)=minV v w:=by
 unfold minV;have:=Cx v w;by_cases h:leV v w
 ·rw[ifp h,if_neg];have:=this.2 h;omega
 rw[ifn h,if_pos];have:¬cmpV v w<=0:=λc=>h (this.1 c);omega
theorem TV(v w:V):(if cmpV v w<0 then w else v)=maxV v w:=by
 unfold maxV;have:=Cx w v;rw[Fz v w]at this;by_cases h:leV w v
 ·rw[ifp h,if_neg];have:=this.2 h;omega
 rw[ifn h,if_pos];have:¬-cmpV v w<=0:=λc=>h (this.1 c);omega
def Ch{v w:V}(h:leV v w):minV v w=v:=by unfold minV;rw[ifp h]
theorem Cg{v w:V}(h:leV w v):minV v w=w:=by
 unfold minV;by_cases c:leV v w
 ·rw[ifp c];exact FL c h
 rw[ifn c]
theorem BX{v w:V}(h:leV v w):maxV v w=w:=by
 unfold maxV;by_cases c:leV w v
 ·rw[ifp c];exact FL h c ▸ rfl
 rw[ifn c]
theorem BW{v w:V}(h:leV w v):maxV v w=v:=by unfold maxV;rw[ifp h]
theorem MZ(v w:V):minV v w=minV w v:=by
 rcases Cf v w with h|h
 ·rw[Ch h,Cg h]
 rw[Cg h,Ch h]
theorem MX(v w:V):maxV v w=maxV w v:=by
 rcases Cf v w with h|h
 ·rw[BX h,BW h]
 rw[BW h,BX h]
theorem TZ(u v w:V):minV (minV u v) w=minV u (minV v w):=by
 rcases Cf u v with c|c<;>rcases Cf v w with d|d
 ·rw[Ch c,Ch d,Ch c,Ch (Bq c d)]
 ·rw[Ch c,Cg d]
 ·rw[Cg c,Ch d,Cg c]
 rw[Cg c,Cg d,Cg (Bq d c)]
theorem TU(u v w:V):maxV (maxV u v) w=maxV u (maxV v w):=by
 rcases Cf u v with c|c<;>rcases Cf v w with d|d
 ·rw[BX c,BX d,BX (Bq c d)]
 ·rw[BX c,BW d,BX c]
 ·rw[BW c,BX d]
 rw[BW c,BW d,BW c,BW (Bq d c)]
theorem Uj{f:V->V}(v w:V)(hf:∀x y,(x=v\/x=w)->(y=v\/y=w)->leV x y->leV (f x) (f y)):f (minV v w)=minV (f v) (f w):=by
 rcases Cf v w with h|h
 ·rw[Ch h,Ch (hf v w (.inl rfl) (.inr rfl) h)]
 rw[Cg h,Cg (hf w v (.inr rfl) (.inl rfl) h)]
theorem Ui{f:V->V}(v w:V)(hf:∀x y,(x=v\/x=w)->(y=v\/y=w)->leV x y->leV (f x) (f y)):f (maxV v w)=maxV (f v) (f w):=by
 rcases Cf v w with h|h
 ·rw[BX h,BX (hf v w (.inl rfl) (.inr rfl) h)]
 rw[BW h,BW (hf w v (.inr rfl) (.inl rfl) h)]
theorem Db(v w:V):Ar 1 v w=minV v w:=by unfold Ar;rw[ifn (by decide),ifp rfl,Ua]
theorem BY(v w:V):Ar 2 v w=addV v w:=by unfold Ar;rw[ifp rfl]
theorem Dc(v w:V):Ar 3 v w=maxV v w:=by unfold Ar;rw[ifn (by decide),ifn (by decide),TV]
theorem Da{v:V}(h:okV k v):k=1\/k=2\/k=3:=by
 cases v<;>simp only[okV]at h<;>omega
def AA{v:V}(h:okV k v)(c:k≠1):v≠.low:=by
 intro e;subst e;exact c h
def AC{v:V}(h:okV k v)(c:k≠1):v=.inf\/∃q,v=.fin q/\0<=q:=by
 cases v with
 |inf=>exact .inl rfl
 |low=>exact absurd h c
 |fin q=>right;refine⟨q,rfl,?_⟩;simp only[okV]at h;rcases h with h|h;exact absurd h c;exact h.2
def okV23'(c:k=2\/k=3){q:Rat}(h:0<=q):okV k (.fin q):=.inr ⟨c,h⟩
theorem times1(v w:V):Ag 1 v w=match v,w with
  | .inf,_=>.inf
  |_,.inf=>.inf
  | .low,_=>.low
  |_,.low=>.low
  | .fin x,.fin y=>.fin (x+y):=by
 unfold Ag zeroV;cases v<;>cases w<;>simp
def mulV(v w:V):V :=
 if v=.fin 0\/w=.fin 0 then .fin 0 else match v,w with
  | .fin x,.fin y=>.fin (x*y)
  |_,_=>.inf
def times23(c:k≠1){v w:V}(d:v≠.low)(g:w≠.low):Ag k v w=mulV v w:=by
 unfold Ag mulV zeroV;rw[ifn c];by_cases h:v=.fin 0\/w=.fin 0
 ·rw[ifp h,ifp h]
 rw[ifn h,ifn h];cases v<;>cases w<;>simp_all
theorem Ph(v w:V):Ag 1 v w=Ag 1 w v:=by
 rw[times1,times1];cases v<;>cases w<;>simp;exact Rat.add_comm ..
def Xv(u v w:V):Ag 1 (Ag 1 u v) w=Ag 1 u (Ag 1 v w):=by
 simp only[times1];cases u<;>cases v<;>cases w<;>simp;exact Rat.add_assoc ..
def KC(u:V){v w:V}(h:leV v w):leV (Ag 1 u v) (Ag 1 u w):=by
 simp only[times1];cases u<;>cases v<;>cases w<;>simp_all [leV]
 exact Rat.add_le_add_left.2 h
theorem Up(v w:V):mulV v w=mulV w v:=by
 unfold mulV;by_cases h:v=V.fin 0\/w=V.fin 0
 ·rw[ifp h,ifp h.symm]
 rw[ifn h,ifn (λe=>h e.symm)];cases v<;>cases w<;>simp;exact Rat.mul_comm ..
theorem CE(v:V):mulV v (.fin 0)=.fin 0:=by unfold mulV;simp
theorem Df(v:V):mulV (.fin 0) v=.fin 0:=by unfold mulV;simp
theorem Br(x y:Rat):mulV (.fin x) (.fin y)=.fin (x*y):=by
 unfold mulV;split
 ·rename_i h
  rcases h with h|h<;>(injection h with h;subst h;simp)
 rfl
theorem BE(h:y≠0):mulV .inf (.fin y)=.inf:=by unfold mulV;simp[h]
theorem Ci(h:y≠0):mulV (.fin y) .inf=.inf:=by unfold mulV;simp[h]
theorem Dy:mulV .inf .inf=.inf:=by unfold mulV;simp
def Uo{u v w:V}(l:u≠.low)(k:v≠.low)(i:w≠.low):mulV (mulV u v) w=mulV u (mulV v w):=by
 by_cases c:u=.fin 0
 ·subst c;simp only[Df]
 by_cases d:v=.fin 0
 ·subst d;simp only[Df,CE]
 by_cases g:w=.fin 0
 ·subst g;simp only[CE]
 have inj:∀{x:Rat},V.fin x≠V.fin 0->x≠0:=λh e=>h (by rw[e]);cases u with
 |low=>exact absurd rfl l
 |inf =>
  cases v with
  |low=>exact absurd rfl k
  |inf=>cases w with
   |low=>exact absurd rfl i
   |inf=>rfl
   |fin z=>rw[Dy,BE (inj g),Dy]
  |fin y=>cases w with
   |low=>exact absurd rfl i
   |inf=>rw[BE (inj d),Ci (inj d)]
   |fin z =>
    rw[BE (inj d),BE (inj g),Br,BE];intro e;rcases Rat.mul_eq_zero.1 e with e|e
    ·exact inj d e
    exact inj g e
 |fin x =>
  cases v with
  |low=>exact absurd rfl k
  |inf=>cases w with
   |low=>exact absurd rfl i
   |inf=>rw[Ci (inj c),Dy,Ci (inj c)]
   |fin z=>rw[Ci (inj c),BE (inj g),Ci (inj c)]
  |fin y =>
   have j:x*y≠0:=by
    intro e;rcases Rat.mul_eq_zero.1 e with e|e
    ·exact inj c e
    exact inj d e
   cases w with
   |low=>exact absurd rfl i
   |inf=>rw[Br,Ci j,Ci (inj d),Ci (inj c)]
   |fin z=>rw[Br,Br,Br,Br,Rat.mul_assoc]
theorem Jx{u v w:V}(l:u=.inf\/∃q,u=.fin q/\0<=q)(i:v=.inf\/∃q,v=.fin q/\0<=q)(j:w=.inf\/∃q,w=.fin q/\0<=q)(h:leV v w):leV (mulV u v) (mulV u w):=by
 rcases l with rfl|⟨x,rfl,m⟩
 ·rcases j with rfl|⟨z,rfl,o⟩
  ·rw[Dy];cases mulV .inf v<;>simp[leV]
  rcases i with rfl|⟨y,rfl,k⟩
  ·exact h.elim
  by_cases g:y=0
  ·subst g;rw[CE];by_cases c:z=0
   ·subst c;rw[CE];exact Fe _
   rw[BE c];trivial
  have c:z≠0:=by
   intro e;subst e;exact g<|Rat.le_antisymm h k
  rw[BE g,BE c];trivial
 by_cases d:x=0
 ·subst d;rw[Df,Df];exact Fe _
 rcases j with rfl|⟨z,rfl,o⟩
 ·rw[Ci d];cases mulV (.fin x) v<;>simp[leV]
 rcases i with rfl|⟨y,rfl,k⟩
 ·exact h.elim
 rw[Br,Br];exact Rat.mul_le_mul_of_nonneg_left h m
theorem Qp(v w:V):addV v w=addV w v:=by cases v<;>cases w<;>simp[addV];exact Rat.add_comm ..
theorem Qo(u v w:V):addV (addV u v) w=addV u (addV v w):=by cases u<;>cases v<;>cases w<;>simp[addV];exact Rat.add_assoc ..
def Un{u v w:V}(i:u=.inf\/∃q,u=.fin q/\0<=q)(k:v=.inf\/∃q,v=.fin q/\0<=q)(l:w=.inf\/∃q,w=.fin q/\0<=q):
  mulV u (addV v w)=addV (mulV u v) (mulV u w):=by
 rcases k with rfl|⟨y,rfl,m⟩
 ·by_cases d:u=.fin 0
  ·subst d;rw[Df,Df,Df];simp[addV,Rat.add_zero]
  have:mulV u .inf=.inf:=by
   rcases i with rfl|⟨x,rfl,_⟩
   ·exact Dy
   exact Ci (λe=>d (by rw[e]))
  have h:addV .inf w=.inf:=by cases w<;>rfl
  rw[h,this];cases mulV u w<;>rfl
 rcases l with rfl|⟨z,rfl,o⟩
 ·by_cases d:u=.fin 0
  ·subst d;rw[Df,Df,Df];simp[addV,Rat.add_zero]
  have:mulV u .inf=.inf:=by
   rcases i with rfl|⟨x,rfl,_⟩
   ·exact Dy
   exact Ci (λe=>d (by rw[e]))
  have h:addV (.fin y) .inf=.inf:=rfl;rw[h,this];cases mulV u (.fin y)<;>rfl
 rcases i with rfl|⟨x,rfl,p⟩
 ·simp only[addV];by_cases c:y=0
  ·subst c;rw[CE,Rat.zero_add];by_cases g:z=0
   ·subst g;rw[CE];simp[Rat.add_zero]
   rw[BE g]
  have:y+z≠0:=by
   intro e;have j:y<=0:=by
    have:y+0<=y+z:=Rat.add_le_add_left.2 o;rw[e,Rat.add_zero]at this;exact this
   exact c (Rat.le_antisymm j m)
  rw[BE c,BE this]
 simp only[addV];rw[Br,Br,Br,Rat.mul_add]
variable{u v w:V}{a:ByteArray}
def szV(k:Nat):V->Prop
 | .fin q=>szQ k q
 |_=>True
def szV.fit{k:Nat}(h:szV k v)(c:k<=400):fitV v:=by
 cases v<;>first|trivial|exact EW.2 (szQ.mono h c)
def Pf{k:Nat}(c:1<=k):szQ k 0:=by
 have:1<10 ^ k:=Nat.one_lt_pow (by omega) (by omega);exact⟨by show (0:Int).natAbs<_;simp;omega,by show 1<_;exact this⟩
def Xp{k:Nat}(c:1<=k):szQ k 1:=by
 have:1<10 ^ k:=Nat.one_lt_pow (by omega) (by omega);exact⟨by show (1:Int).natAbs<_;simpa using this,by show 1<_;exact this⟩
def Xr(kd:Int){k:Nat}(c:1<=k):szV k (zeroV kd):=by unfold zeroV;split;trivial;exact Pf c
def Xq(kd:Int){k:Nat}(c:1<=k):szV k (oneV kd):=by unfold oneV;split;exact Pf c;exact Xp c
def UO(c:k=1\/k=2\/k=3):okV k (zeroV k):=by
 unfold zeroV;split
 ·rename_i h;subst h;exact⟨by omega,by omega⟩
 right;exact⟨by omega,Rat.le_refl⟩
def NC(c:k=1\/k=2\/k=3):okV k (oneV k):=by
 unfold oneV;split
 ·rename_i h;exact .inl h
 right;exact⟨by omega,by decide⟩
def DC(c:k=1\/k=2\/k=3):okV k .inf:=⟨by omega,by omega⟩
def FT(d:okV k v)(g:okV k w):okV k (Ar k v w):=by
 have c:=Da d;unfold Ar
 split
 ·rename_i j
  rcases AC d (by omega) with rfl|⟨x,rfl,h⟩
  ·exact DC c
  rcases AC g (by omega) with rfl|⟨y,rfl,i⟩
  ·exact DC c
  exact .inr ⟨by omega,Rat.add_nonneg h i⟩
 split<;>split<;>assumption
def Fj(d:okV k v)(h:okV k w):okV k (Ag k v w):=by
 have g:=Da d;by_cases c:k=1
 ·subst c;rw[times1];cases v<;>cases w<;>simp[okV]
 rw[times23 c (AA d c) (AA h c)];unfold mulV
 split
 ·exact .inr ⟨by omega,Rat.le_refl⟩
 rcases AC d c with rfl|⟨x,rfl,i⟩
 ·exact DC g
 rcases AC h c with rfl|⟨y,rfl,j⟩
 ·exact DC g
 exact .inr ⟨by omega,Rat.mul_nonneg i j⟩
def NK(c:okV k v):Ar k v w=Ar k w v:=by
 rcases Da c with rfl|rfl|rfl
 ·rw[Db,Db,MZ]
 ·rw[BY,BY,Qp]
 rw[Dc,Dc,MX]
theorem JN(c:okV k v):Ar k (Ar k u v) w=Ar k u (Ar k v w):=by
 rcases Da c with rfl|rfl|rfl
 ·simp only[Db];rw[TZ]
 ·simp only[BY];rw[Qo]
 simp only[Dc];rw[TU]
theorem Pk(d:okV k v)(g:okV k w):Ag k v w=Ag k w v:=by
 by_cases c:k=1
 ·subst c;exact Ph v w
 rw[times23 c (AA d c) (AA g c),times23 c (AA g c) (AA d c),Up]
theorem Xz(g:okV k u)(d:okV k v)(h:okV k w):Ag k (Ag k u v) w=Ag k u (Ag k v w):=by
 by_cases c:k=1
 ·subst c;exact Xv u v w
 rw[times23 c (AA (Fj g d) c) (AA h c),times23 c (AA g c) (AA (Fj d h) c),times23 c (AA g c) (AA d c),times23 c (AA d c) (AA h c)];exact Uo (AA g c) (AA d c) (AA h c)
def XB(d:okV k u)(g:okV k v)(i:okV k w)(h:leV v w):leV (Ag k u v) (Ag k u w):=by
 by_cases c:k=1
 ·subst c;exact KC u h
 rw[times23 c (AA d c) (AA g c),times23 c (AA d c) (AA i c)];exact Jx (AC d c) (AC g c) (AC i c) h
def XC(d:okV k u)(g:okV k v)(i:okV k w):Ag k u (Ar k v w)=Ar k (Ag k u v) (Ag k u w):=by
 have j:∀x y,(x=v\/x=w)->(y=v\/y=w)->leV x y->leV (Ag k u x) (Ag k u y):=by
  intro x y l m h;refine XB d ?_ ?_ h
  ·rcases l with rfl|rfl<;>assumption
  rcases m with rfl|rfl<;>assumption
 rcases Da d with rfl|rfl|rfl
 ·rw[Db,Db];exact Uj (f:=Ag 1 u) v w j
 ·have c:(2:Int)≠1:=by decide
  rw[times23 c (AA d c) (AA (FT g i) c),times23 c (AA d c) (AA g c),times23 c (AA d c) (AA i c),BY,BY];exact Un (AC d c) (AC g c) (AC i c)
 rw[Dc,Dc];exact Ui (f:=Ag 3 u) v w j
def Vu(c:okV k v):Ar k v (zeroV k)=v:=by
 rcases Da c with rfl|rfl|rfl
 ·rw[Db];exact Ch (by cases v<;>trivial)
 ·rw[BY];show addV v (.fin 0)=v
  rcases AC c (by decide) with rfl|⟨x,rfl,d⟩
  ·rfl
  simp[addV,Rat.add_zero]
 rw[Dc];show maxV v (.fin 0)=v
 rcases AC c (by decide) with rfl|⟨x,rfl,d⟩
 ·exact BW trivial
 exact BW d
def Ig(d:okV k v):Ag k v (oneV k)=v:=by
 by_cases c:k=1
 ·subst c;rw[times1];cases v<;>simp[oneV,Rat.add_zero]
 rw[times23 c (AA d c) (by simp[oneV,c])];have:oneV k=.fin 1:=by simp[oneV,c]
 rw[this]
 rcases AC d c with rfl|⟨x,rfl,g⟩
 ·exact BE (by decide)
 rw[Br,Rat.mul_one]
theorem XD(k:Int)(v:V):Ag k v (zeroV k)=zeroV k:=by unfold Ag;rw[ifp (.inr rfl)]
theorem Xw{b:ByteArray}(c:vprs k a=some v)(hb:vprs k b=some w)(h:fitV (Ag k v w)):Ah k a b=(vtxt (Ag k v w),0):=by
 unfold Ah;rw[c,hb];exact Et h
def YE(c:k=1\/k=2\/k=3):Ak k=vtxt (zeroV k):=by
 have:As k=true:=by unfold As;rcases c with rfl|rfl|rfl<;>rfl
 unfold Ak;rw[this];rfl
def UP(c:k=1\/k=2\/k=3):oneF k=vtxt (oneV k):=by
 have:As k=true:=by unfold As;rcases c with rfl|rfl|rfl<;>rfl
 unfold oneF;rw[this];rfl
def PI(h:Aj k a=true):∃v,vprs k a=some v:=by
 unfold Aj at h;exact Option.isSome_iff_exists.1 h
def HQ(i:okV k v):okV k (Aw k v)/\Ar k (oneV k) (Ag k v (Aw k v))=Aw k v:=by
 rcases Da i with rfl|rfl|rfl
 ·have j:oneV 1=.fin 0:=rfl;rw[j,Db];have d:Aw 1 v=if 0<=cmpV v (.fin 0) then .fin 0 else .low:=rfl
  rw[d]
  split
  ·rename_i h;refine⟨.inl rfl,?_⟩;have l:Ag 1 v (.fin 0)=v:=Ig (k:=1) i;rw[l];have:=Fz v (.fin 0);exact Ch<|(Cx _ _).1 (by omega)
  rename_i h;refine⟨rfl,?_⟩;have:Ag 1 v .low=.low:=by
   rw[times1];cases v with
   |inf=>simp[cmpV]at h
   |low=>rfl
   |fin q=>rfl
  rw[this];exact Cg trivial
 ·have c:(2:Int)≠1:=by decide
  have j:oneV 2=.fin 1:=rfl;rw[j,BY]
  rcases AC i c with rfl|⟨x,rfl,u⟩
  ·have d:Aw 2 .inf=.inf:=rfl;rw[d,times23 c (by simp) (by simp),Dy];exact⟨DC (.inr (.inl rfl)),rfl⟩
  have d:Aw 2 (.fin x)=if 0<=cmpQ x 1 then .inf else .fin (1 / (1-x)):=rfl
  rw[d]
  split
  ·rename_i h;refine⟨DC (.inr (.inl rfl)),?_⟩;have g:x≠0:=by intro e;subst e;exact absurd h (by decide +kernel)
   rw[times23 c (by simp) (by simp),Ci g];rfl
  rename_i h;have p:x<1:=by rcases BI x 1 with⟨m,e⟩|⟨m,e⟩|⟨m,e⟩<;>first|exact m|(rw[e]at h;exact absurd h (by decide))
  have hd:0<1-x:=(Rat.lt_iff_sub_pos x 1).1 p;have o:1-x≠0:=Rat.ne_of_gt hd;refine⟨.inr ⟨.inl rfl,?_⟩,?_⟩
  ·rw[Rat.div_def,Rat.one_mul];exact Rat.le_of_lt<|Rat.inv_pos.2 hd
  rw[times23 c (by simp) (by simp),Br];show V.fin (1+x*(1 / (1-x)))=V.fin (1 / (1-x))
  congr 1
  rw[Rat.div_def,Rat.one_mul];have hi:=Rat.mul_inv_cancel (1-x) o;have s:(1-x)*(1-x)⁻¹+x*(1-x)⁻¹=(1-x)⁻¹:=by
   rw[<-Rat.add_mul,Rat.sub_add_cancel,Rat.one_mul]
  rw[hi]at s;exact s
 have c:(3:Int)≠1:=by decide
 have j:oneV 3=.fin 1:=rfl;rw[j,Dc];have d:Aw 3 v=if cmpV v (.fin 1)<=0 then .fin 1 else .inf:=rfl
 rw[d]
 split
 ·rename_i h;refine⟨.inr ⟨.inr rfl,by decide⟩,?_⟩;have l:Ag 3 v (.fin 1)=v:=Ig (k:=3) i;rw[l];exact BW<|(Cx _ _).1 h
 rename_i h;refine⟨DC (.inr (.inr rfl)),?_⟩;rw[times23 c (AA i c) (by simp)]
 rcases AC i c with rfl|⟨x,rfl,u⟩
 ·rw[Dy];exact BX trivial
 have g:x≠0:=by intro e;subst e;exact absurd h (by decide +kernel)
 rw[Ci g];exact BX trivial
structure Order(k:Int)(a b c s x y:ByteArray)(p:Int):Prop where
 pe:Bj k a b=p
 lo:-1<=p
 hi:p<=1
 sw:Bj k b a=-p
 eq:p=0↔a=b
 tr:p<=0->Bj k b c<=0->Bj k a c<=0
 se:Ap k a b=(s,0)
 s1:k≠2->p<=0->s=a
 s2:k≠2->0<p->s=b
 xe:Ah k a c=(x,0)
 ye:Ah k b c=(y,0)
 xy:p<=0->Bj k x y<=0
def Yz(h:wtV k v):∃q,v=.fin q/\(k=1\/((k=2\/k=3)/\0<q)):=by cases v<;>first|exact h.elim|exact⟨_,rfl,h⟩
def YB(h:wtV k v):okV k v:=by
 obtain⟨q,rfl,h⟩:=Yz h
 rcases h with h|⟨h,c⟩
 ·exact .inl h
 exact .inr ⟨h,Rat.le_of_lt c⟩
def Yo(h:Am k a=true):∃v,rdV a=some v/\wtV k v:=by
 unfold Am at h;cases c:rdV a with
 |none=>rw[c]at h;simp at h
 |some v=>rw[c]at h;exact⟨v,rfl,of_decide_eq_true h⟩
end
end Go.Proofs.YtpldocnhbdlgfaaGreatDoor
