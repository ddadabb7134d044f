/- Parts. -/
import Derived.Test.YtpldocnhbdlgfaaGreatDoorPa03
namespace Go.Proofs.YtpldocnhbdlgfaaGreatDoor
set_option maxRecDepth 100000
set_option linter.all false
set_option maxHeartbeats 16000000
open Go Tryz
section
variable{k:Int}{s:ByteArray}{y:Rat}
inductive V where
 |inf|low|fin (q:Rat)
 deriving DecidableEq
def infS:ByteArray:=⟨#[105,110,102]⟩
def lowS:ByteArray:=⟨#[45,105,110,102]⟩
def okV(k:Int):V->Prop
 | .inf=>1<=k/\k<=3
 | .low=>k=1
 | .fin q=>k=1\/((k=2\/k=3)/\0<=q)
instance (k:Int) (v:V):Decidable (okV k v):=by cases v<;>unfold okV<;>infer_instance
def rdV(s:ByteArray):Option V:=if s=infS then some .inf else if s=lowS then some .low else (prs s).map .fin
def vprs(k:Int)(s:ByteArray):Option V:=(rdV s).filter λv=>decide (okV k v)
def vtxt:V->ByteArray
 | .inf=>infS
 | .low=>lowS
 | .fin q=>txt q
def fitV:V->Prop
 | .fin q=>fitQ q
 |_=>True
def limV:V->ByteArray × Nat
 | .fin q=>limR q
 |v=>(vtxt v,0)
def cmpV:V->V->Int
 | .inf,.inf=>0
 | .low,.low=>0
 | .low,_=>-1
 |_,.inf=>-1
 |_,.low=>1
 | .inf,_=>1
 | .fin x,.fin y=>cmpQ x y
def zeroV(k:Int):V:=if k=1 then .inf else .fin 0
def oneV(k:Int):V:=if k=1 then .fin 0 else .fin 1
def addV:V->V->V
 | .fin x,.fin y=>.fin (x+y)
 |_,_=>.inf
def Av(k:Int)(v w:V):V:=if k=2 then addV v w else if k=1 then (if 0<cmpV v w then w else v) else (if cmpV v w<0 then w else v)
def Ah(k:Int)(v w:V):V :=
 if v=zeroV k\/w=zeroV k then zeroV k else match v,w with
  | .inf,_=>.inf
  |_,.inf=>.inf
  | .low,_=>.low
  |_,.low=>.low
  | .fin x,.fin y=>if k=1 then .fin (x+y) else .fin (x*y)
def Az(k:Int)(v:V):V :=
 if k=1 then (if 0<=cmpV v (.fin 0) then .fin 0 else .low)
 else if k=3 then (if cmpV v (.fin 1)<=0 then .fin 1 else .inf)
 else match v with
  | .fin x=>if 0<=cmpQ x 1 then .inf else .fin (1 / (1-x))
  |_=>.inf
def wtV(k:Int):V->Prop
 | .fin q=>k=1\/((k=2\/k=3)/\0<q)
 |_=>False
instance (k:Int) (v:V):Decidable (wtV k v):=by cases v<;>unfold wtV<;>infer_instance
def Eo(k:Int)(v w:V):Int:=if k=1 then cmpV v w else cmpV w v
def argS:ByteArray × Nat:=(str [],1)
def Ak(k:Int)(a:ByteArray):Bool:=(vprs k a).isSome
def Am(k:Int)(a:ByteArray):Bool:=match rdV a with|some v=>decide (wtV k v)|none=>false
def Aw(k:Int):Bool:=decide (1<=k)&&decide (k<=3)
def Aj(k:Int):ByteArray:=if Aw k then vtxt (zeroV k) else str []
def oneF(k:Int):ByteArray:=if Aw k then vtxt (oneV k) else str []
def Ar(k:Int)(a b:ByteArray):ByteArray × Nat:=match vprs k a,vprs k b with|some v,some w=>limV (Av k v w)|_,_=>argS
def Ae(k:Int)(a b:ByteArray):ByteArray × Nat:=match vprs k a,vprs k b with|some v,some w=>limV (Ah k v w)|_,_=>argS
def AO(k:Int)(a:ByteArray):ByteArray × Nat:=match vprs k a with|some v=>limV (Az k v)|none=>argS
def VD(k:Int)(v w:V):Prop:=(v=zeroV k\/wtV k v)/\wtV k w
instance (k:Int) (v w:V):Decidable (VD k v w):=inferInstanceAs<|Decidable (_/\_)
def Bn(k:Int)(a b:ByteArray):Int:=match vprs k a,vprs k b with|some v,some w=>Eo k v w|_,_=>0
theorem Im:prs infS=none:=by decide +kernel
theorem Gj:prs lowS=none:=by decide +kernel
def KB{v:V}(h:fitV v):rdV (vtxt v)=some v:=by
 cases v with
 |inf=>simp[rdV,vtxt]
 |low=>simp[rdV,vtxt,show lowS≠infS by decide]
 |fin q =>
  have c:=Bl h;have d:txt q≠infS:=by intro e;rw[e,Im]at c;simp at c
  have g:txt q≠lowS:=by intro e;rw[e,Gj]at c;simp at c
  simp[rdV,vtxt,d,g,c]
theorem Gn{v:V}(h:rdV s=some v):s=vtxt v/\fitV v:=by
 unfold rdV at h
 split at h
 ·rename_i e;have:=Option.some.inj h;subst this;exact⟨e,trivial⟩
 split at h
 ·rename_i e;have:=Option.some.inj h;subst this;exact⟨e,trivial⟩
 cases c:prs s with
 |none=>rw[c]at h;simp at h
 |some q=>rw[c]at h;simp at h;subst h;exact AT c
def Dx{v:V}:vprs k s=some v↔rdV s=some v/\okV k v:=by
 unfold vprs;rw[Option.filter_eq_some_iff];simp
def Lv{v w:V}(c:fitV v)(d:fitV w)(h:vtxt v=vtxt w):v=w:=by
 have:=KB c;rw[h,KB d]at this;exact(Option.some.inj this).symm
def QC{v:V}(h:fitV v)(c:okV k v):vprs k (vtxt v)=some v:=Dx.2 ⟨KB h,c⟩
theorem DY{v:V}(h:fitV v):limV v=(vtxt v,0):=by cases v<;>first|rfl|exact CZ h
def leV:V->V->Prop
 | .low,_=>True
 |_,.inf=>True
 | .fin x,.fin y=>x<=y
 |_,_=>False
def BJ(x y:Rat):(x<y/\cmpQ x y=-1)\/(x=y/\cmpQ x y=0)\/(y<x/\cmpQ x y=1):=by
 unfold cmpQ;by_cases c:x<y
 ·left;rw[ifp c];exact⟨c,rfl⟩
 by_cases d:x=y
 ·right;left;rw[ifn c,ifp d];exact⟨d,rfl⟩
 right;right;rw[ifn c,ifn d]
 refine⟨?_,rfl⟩;exact Rat.lt_of_le_of_ne (Rat.not_lt.1 c) (Ne.symm d)
theorem Cx(v w:V):cmpV v w<=0↔leV v w:=by
 cases v<;>cases w<;>simp[cmpV,leV]
 rename_i x y
 rcases BJ x y with⟨h,e⟩|⟨h,e⟩|⟨h,e⟩<;>rw[e]
 ·simp[Rat.le_of_lt h]
 ·subst h;simp
 simp;exact Rat.not_le.2 h
def ES(v w:V):cmpV v w=-1\/cmpV v w=0\/cmpV v w=1:=by
 cases v<;>cases w<;>simp[cmpV]
 rename_i x y
 rcases BJ x y with⟨h,e⟩|⟨h,e⟩|⟨h,e⟩<;>simp[e]
theorem Hh(v w:V):cmpV v w=0↔v=w:=by
 cases v<;>cases w<;>simp[cmpV]
 rename_i x y
 rcases BJ x y with⟨h,e⟩|⟨h,e⟩|⟨h,e⟩<;>rw[e]
 ·simp;exact Rat.ne_of_lt h
 ·simp[h]
 simp;exact Rat.ne_of_gt h
def FH(v w:V):cmpV w v=- cmpV v w:=by
 cases v<;>cases w<;>simp[cmpV]
 rename_i x y
 rcases BJ x y with⟨h,e⟩|⟨h,e⟩|⟨h,e⟩<;>rcases BJ y x with⟨c,d⟩|⟨c,d⟩|⟨c,d⟩<;>rw[e,d]<;>try rfl
 ·exact absurd (Rat.le_of_lt c) (Rat.not_le.2 h)
 ·subst c;exact absurd h Rat.lt_irrefl
 ·subst h;exact absurd c Rat.lt_irrefl
 ·subst h;exact absurd c Rat.lt_irrefl
 ·subst c;exact absurd h Rat.lt_irrefl
 exact absurd (Rat.le_of_lt c) (Rat.not_le.2 h)
def Fg(v:V):leV v v:=by rw[<-Cx,(Hh v v).2 rfl];omega
def Ch(v w:V):leV v w\/leV w v:=by rw[<-Cx,<-Cx,FH v w];omega
def FS{v w:V}(d:leV v w)(c:leV w v):v=w:=by
 rw[<-Cx]at d c;rw[FH v w]at c;exact(Hh v w).1 (by omega)
def Bt{u v w:V}(c:leV u v)(d:leV v w):leV u w:=by
 cases u<;>cases v<;>cases w<;>simp_all [leV]
 exact Rat.le_trans c d
noncomputable def minV(v w:V):V:=open Classical in if leV v w then v else w
noncomputable def maxV(v w:V):V:=open Classical in if leV w v then v else w
theorem UQ(v w:V):(if 0<cmpV v w then w else v)=minV v w:=by
 unfold minV;have:=Cx v w;by_cases h:leV v w
 ·rw[ifp h,if_neg];have:=this.2 h;omega
 rw[ifn h,if_pos];have:¬cmpV v w<=0:=λc=>h (this.1 c);omega
theorem UM(v w:V):(if cmpV v w<0 then w else v)=maxV v w:=by
 unfold maxV;have:=Cx w v;rw[FH v w]at this;by_cases h:leV w v
 ·rw[ifp h,if_neg];have:=this.2 h;omega
 rw[ifn h,if_pos];have:¬-cmpV v w<=0:=λc=>h (this.1 c);omega
def Cj{v w:V}(h:leV v w):minV v w=v:=by unfold minV;rw[ifp h]
theorem Ci{v w:V}(h:leV w v):minV v w=w:=by
 unfold minV;by_cases c:leV v w
 ·rw[ifp c];exact FS c h
 rw[ifn c]
theorem BZ{v w:V}(h:leV v w):maxV v w=w:=by
 unfold maxV;by_cases c:leV w v
 ·rw[ifp c];exact FS h c ▸ rfl
 rw[ifn c]
theorem BY{v w:V}(h:leV w v):maxV v w=v:=by unfold maxV;rw[ifp h]
theorem NF(v w:V):minV v w=minV w v:=by
 rcases Ch v w with h|h
 ·rw[Cj h,Ci h]
 rw[Ci h,Cj h]
theorem ND(v w:V):maxV v w=maxV w v:=by
 rcases Ch v w with h|h
 ·rw[BZ h,BY h]
 rw[BY h,BZ h]
theorem UP(u v w:V):minV (minV u v) w=minV u (minV v w):=by
 rcases Ch u v with c|c<;>rcases Ch v w with d|d
 ·rw[Cj c,Cj d,Cj c,Cj (Bt c d)]
 ·rw[Cj c,Ci d]
 ·rw[Ci c,Cj d,Ci c]
 rw[Ci c,Ci d,Ci (Bt d c)]
theorem UL(u v w:V):maxV (maxV u v) w=maxV u (maxV v w):=by
 rcases Ch u v with c|c<;>rcases Ch v w with d|d
 ·rw[BZ c,BZ d,BZ (Bt c d)]
 ·rw[BZ c,BY d,BZ c]
 ·rw[BY c,BZ d]
 rw[BY c,BY d,BY c,BY (Bt d c)]
theorem UW{f:V->V}(v w:V)(hf:∀x y,(x=v\/x=w)->(y=v\/y=w)->leV x y->leV (f x) (f y)):f (minV v w)=minV (f v) (f w):=by
 rcases Ch v w with h|h
 ·rw[Cj h,Cj (hf v w (.inl rfl) (.inr rfl) h)]
 rw[Ci h,Ci (hf w v (.inr rfl) (.inl rfl) h)]
theorem UV{f:V->V}(v w:V)(hf:∀x y,(x=v\/x=w)->(y=v\/y=w)->leV x y->leV (f x) (f y)):f (maxV v w)=maxV (f v) (f w):=by
 rcases Ch v w with h|h
 ·rw[BZ h,BZ (hf v w (.inl rfl) (.inr rfl) h)]
 rw[BY h,BY (hf w v (.inr rfl) (.inl rfl) h)]
theorem De(v w:V):Av 1 v w=minV v w:=by unfold Av;rw[ifn (by decide),ifp rfl,UQ]
theorem Ca(v w:V):Av 2 v w=addV v w:=by unfold Av;rw[ifp rfl]
theorem Df(v w:V):Av 3 v w=maxV v w:=by unfold Av;rw[ifn (by decide),ifn (by decide),UM]
theorem Dc{v:V}(h:okV k v):k=1\/k=2\/k=3:=by
 cases v<;>simp only[okV]at h<;>omega
def AC{v:V}(h:okV k v)(c:k≠1):v≠.low:=by
 intro e;subst e;exact c h
def AG{v:V}(h:okV k v)(c:k≠1):v=.inf\/∃q,v=.fin q/\0<=q:=by
 cases v with
 |inf=>exact .inl rfl
 |low=>exact absurd h c
 |fin q=>right;refine⟨q,rfl,?_⟩;simp only[okV]at h;rcases h with h|h;exact absurd h c;exact h.2
def okV23'(c:k=2\/k=3){q:Rat}(h:0<=q):okV k (.fin q):=.inr ⟨c,h⟩
theorem times1(v w:V):Ah 1 v w=match v,w with
  | .inf,_=>.inf
  |_,.inf=>.inf
  | .low,_=>.low
  |_,.low=>.low
  | .fin x,.fin y=>.fin (x+y):=by
 unfold Ah zeroV;cases v<;>cases w<;>simp
def mulV(v w:V):V :=
 if v=.fin 0\/w=.fin 0 then .fin 0 else match v,w with
  | .fin x,.fin y=>.fin (x*y)
  |_,_=>.inf
def times23(c:k≠1){v w:V}(d:v≠.low)(g:w≠.low):Ah k v w=mulV v w:=by
 unfold Ah mulV zeroV;rw[ifn c];by_cases h:v=.fin 0\/w=.fin 0
 ·rw[ifp h,ifp h]
 rw[ifn h,ifn h];cases v<;>cases w<;>simp_all
theorem PZ(v w:V):Ah 1 v w=Ah 1 w v:=by
 rw[times1,times1];cases v<;>cases w<;>simp;exact Rat.add_comm ..
def Yb(u v w:V):Ah 1 (Ah 1 u v) w=Ah 1 u (Ah 1 v w):=by
 simp only[times1];cases u<;>cases v<;>cases w<;>simp;exact Rat.add_assoc ..
def Lj(u:V){v w:V}(h:leV v w):leV (Ah 1 u v) (Ah 1 u w):=by
 simp only[times1];cases u<;>cases v<;>cases w<;>simp_all [leV]
 exact Rat.add_le_add_left.2 h
theorem Va(v w:V):mulV v w=mulV w v:=by
 unfold mulV;by_cases h:v=V.fin 0\/w=V.fin 0
 ·rw[ifp h,ifp h.symm]
 rw[ifn h,ifn (λe=>h e.symm)];cases v<;>cases w<;>simp;exact Rat.mul_comm ..
theorem CC(v:V):mulV v (.fin 0)=.fin 0:=by unfold mulV;simp
theorem Dk(v:V):mulV (.fin 0) v=.fin 0:=by unfold mulV;simp
theorem Bu(x y:Rat):mulV (.fin x) (.fin y)=.fin (x*y):=by
 unfold mulV;split
 ·rename_i h
  rcases h with h|h<;>(injection h with h;subst h;simp)
 rfl
theorem BG(h:y≠0):mulV .inf (.fin y)=.inf:=by unfold mulV;simp[h]
theorem Ck(h:y≠0):mulV (.fin y) .inf=.inf:=by unfold mulV;simp[h]
theorem DD:mulV .inf .inf=.inf:=by unfold mulV;simp
def UZ{u v w:V}(l:u≠.low)(k:v≠.low)(i:w≠.low):mulV (mulV u v) w=mulV u (mulV v w):=by
 by_cases c:u=.fin 0
 ·subst c;simp only[Dk]
 by_cases d:v=.fin 0
 ·subst d;simp only[Dk,CC]
 by_cases g:w=.fin 0
 ·subst g;simp only[CC]
 have inj:∀{x:Rat},V.fin x≠V.fin 0->x≠0:=λh e=>h (by rw[e]);cases u with
 |low=>exact absurd rfl l
 |inf =>
  cases v with
  |low=>exact absurd rfl k
  |inf=>cases w with
   |low=>exact absurd rfl i
   |inf=>rfl
   |fin z=>rw[DD,BG (inj g),DD]
  |fin y=>cases w with
   |low=>exact absurd rfl i
   |inf=>rw[BG (inj d),Ck (inj d)]
   |fin z =>
    rw[BG (inj d),BG (inj g),Bu,BG];intro e;rcases Rat.mul_eq_zero.1 e with e|e
    ·exact inj d e
    exact inj g e
 |fin x =>
  cases v with
  |low=>exact absurd rfl k
  |inf=>cases w with
   |low=>exact absurd rfl i
   |inf=>rw[Ck (inj c),DD,Ck (inj c)]
   |fin z=>rw[Ck (inj c),BG (inj g),Ck (inj c)]
  |fin y =>
   have j:x*y≠0:=by
    intro e;rcases Rat.mul_eq_zero.1 e with e|e
    ·exact inj c e
    exact inj d e
   cases w with
   |low=>exact absurd rfl i
   |inf=>rw[Bu,Ck j,Ck (inj d),Ck (inj c)]
   |fin z=>rw[Bu,Bu,Bu,Bu,Rat.mul_assoc]
theorem Ka{u v w:V}(l:u=.inf\/∃q,u=.fin q/\0<=q)(i:v=.inf\/∃q,v=.fin q/\0<=q)(j:w=.inf\/∃q,w=.fin q/\0<=q)(h:leV v w):leV (mulV u v) (mulV u w):=by
 rcases l with rfl|⟨x,rfl,m⟩
 ·rcases j with rfl|⟨z,rfl,o⟩
  ·rw[DD];cases mulV .inf v<;>simp[leV]
  rcases i with rfl|⟨y,rfl,k⟩
  ·exact h.elim
  by_cases g:y=0
  ·subst g;rw[CC];by_cases c:z=0
   ·subst c;rw[CC];exact Fg _
   rw[BG c];trivial
  have c:z≠0:=by
   intro e;subst e;exact g<|Rat.le_antisymm h k
  rw[BG g,BG c];trivial
 by_cases d:x=0
 ·subst d;rw[Dk,Dk];exact Fg _
 rcases j with rfl|⟨z,rfl,o⟩
 ·rw[Ck d];cases mulV (.fin x) v<;>simp[leV]
 rcases i with rfl|⟨y,rfl,k⟩
 ·exact h.elim
 rw[Bu,Bu];exact Rat.mul_le_mul_of_nonneg_left h m
theorem Rh(v w:V):addV v w=addV w v:=by cases v<;>cases w<;>simp[addV];exact Rat.add_comm ..
theorem Rf(u v w:V):addV (addV u v) w=addV u (addV v w):=by cases u<;>cases v<;>cases w<;>simp[addV];exact Rat.add_assoc ..
def UY{u v w:V}(i:u=.inf\/∃q,u=.fin q/\0<=q)(k:v=.inf\/∃q,v=.fin q/\0<=q)(l:w=.inf\/∃q,w=.fin q/\0<=q):
  mulV u (addV v w)=addV (mulV u v) (mulV u w):=by
 rcases k with rfl|⟨y,rfl,m⟩
 ·by_cases d:u=.fin 0
  ·subst d;rw[Dk,Dk,Dk];simp[addV,Rat.add_zero]
  have:mulV u .inf=.inf:=by
   rcases i with rfl|⟨x,rfl,_⟩
   ·exact DD
   exact Ck (λe=>d (by rw[e]))
  have h:addV .inf w=.inf:=by cases w<;>rfl
  rw[h,this];cases mulV u w<;>rfl
 rcases l with rfl|⟨z,rfl,o⟩
 ·by_cases d:u=.fin 0
  ·subst d;rw[Dk,Dk,Dk];simp[addV,Rat.add_zero]
  have:mulV u .inf=.inf:=by
   rcases i with rfl|⟨x,rfl,_⟩
   ·exact DD
   exact Ck (λe=>d (by rw[e]))
  have h:addV (.fin y) .inf=.inf:=rfl;rw[h,this];cases mulV u (.fin y)<;>rfl
 rcases i with rfl|⟨x,rfl,p⟩
 ·simp only[addV];by_cases c:y=0
  ·subst c;rw[CC,Rat.zero_add];by_cases g:z=0
   ·subst g;rw[CC];simp[Rat.add_zero]
   rw[BG g]
  have:y+z≠0:=by
   intro e;have j:y<=0:=by
    have:y+0<=y+z:=Rat.add_le_add_left.2 o;rw[e,Rat.add_zero]at this;exact this
   exact c (Rat.le_antisymm j m)
  rw[BG c,BG this]
 simp only[addV];rw[Bu,Bu,Bu,Rat.mul_add]
variable{u v w:V}{a:ByteArray}
def szV(k:Nat):V->Prop
 | .fin q=>szQ k q
 |_=>True
def szV.fit{k:Nat}(h:szV k v)(c:k<=400):fitV v:=by
 cases v<;>first|trivial|exact EX.2 (szQ.mono h c)
def PW{k:Nat}(c:1<=k):szQ k 0:=by
 have:1<10 ^ k:=Nat.one_lt_pow (by omega) (by omega);exact⟨by show (0:Int).natAbs<_;simp;omega,by show 1<_;exact this⟩
def XV{k:Nat}(c:1<=k):szQ k 1:=by
 have:1<10 ^ k:=Nat.one_lt_pow (by omega) (by omega);exact⟨by show (1:Int).natAbs<_;simpa using this,by show 1<_;exact this⟩
def XY(kd:Int){k:Nat}(c:1<=k):szV k (zeroV kd):=by unfold zeroV;split;trivial;exact PW c
def XW(kd:Int){k:Nat}(c:1<=k):szV k (oneV kd):=by unfold oneV;split;exact PW c;exact XV c
def Vy(c:k=1\/k=2\/k=3):okV k (zeroV k):=by
 unfold zeroV;split
 ·rename_i h;subst h;exact⟨by omega,by omega⟩
 right;exact⟨by omega,Rat.le_refl⟩
def Om(c:k=1\/k=2\/k=3):okV k (oneV k):=by
 unfold oneV;split
 ·rename_i h;exact .inl h
 right;exact⟨by omega,by decide⟩
def DF(c:k=1\/k=2\/k=3):okV k .inf:=⟨by omega,by omega⟩
def Gc(d:okV k v)(g:okV k w):okV k (Av k v w):=by
 have c:=Dc d;unfold Av
 split
 ·rename_i j
  rcases AG d (by omega) with rfl|⟨x,rfl,h⟩
  ·exact DF c
  rcases AG g (by omega) with rfl|⟨y,rfl,i⟩
  ·exact DF c
  exact .inr ⟨by omega,Rat.add_nonneg h i⟩
 split<;>split<;>assumption
def Fq(d:okV k v)(h:okV k w):okV k (Ah k v w):=by
 have g:=Dc d;by_cases c:k=1
 ·subst c;rw[times1];cases v<;>cases w<;>simp[okV]
 rw[times23 c (AC d c) (AC h c)];unfold mulV
 split
 ·exact .inr ⟨by omega,Rat.le_refl⟩
 rcases AG d c with rfl|⟨x,rfl,i⟩
 ·exact DF g
 rcases AG h c with rfl|⟨y,rfl,j⟩
 ·exact DF g
 exact .inr ⟨by omega,Rat.mul_nonneg i j⟩
def Ov(c:okV k v):Av k v w=Av k w v:=by
 rcases Dc c with rfl|rfl|rfl
 ·rw[De,De,NF]
 ·rw[Ca,Ca,Rh]
 rw[Df,Df,ND]
theorem Kn(c:okV k v):Av k (Av k u v) w=Av k u (Av k v w):=by
 rcases Dc c with rfl|rfl|rfl
 ·simp only[De];rw[UP]
 ·simp only[Ca];rw[Rf]
 simp only[Df];rw[UL]
theorem Qc(d:okV k v)(g:okV k w):Ah k v w=Ah k w v:=by
 by_cases c:k=1
 ·subst c;exact PZ v w
 rw[times23 c (AC d c) (AC g c),times23 c (AC g c) (AC d c),Va]
theorem Yg(g:okV k u)(d:okV k v)(h:okV k w):Ah k (Ah k u v) w=Ah k u (Ah k v w):=by
 by_cases c:k=1
 ·subst c;exact Yb u v w
 rw[times23 c (AC (Fq g d) c) (AC h c),times23 c (AC g c) (AC (Fq d h) c),times23 c (AC g c) (AC d c),times23 c (AC d c) (AC h c)];exact UZ (AC g c) (AC d c) (AC h c)
def Yi(d:okV k u)(g:okV k v)(i:okV k w)(h:leV v w):leV (Ah k u v) (Ah k u w):=by
 by_cases c:k=1
 ·subst c;exact Lj u h
 rw[times23 c (AC d c) (AC g c),times23 c (AC d c) (AC i c)];exact Ka (AG d c) (AG g c) (AG i c) h
def Yj(d:okV k u)(g:okV k v)(i:okV k w):Ah k u (Av k v w)=Av k (Ah k u v) (Ah k u w):=by
 have j:∀x y,(x=v\/x=w)->(y=v\/y=w)->leV x y->leV (Ah k u x) (Ah k u y):=by
  intro x y l m h;refine Yi d ?_ ?_ h
  ·rcases l with rfl|rfl<;>assumption
  rcases m with rfl|rfl<;>assumption
 rcases Dc d with rfl|rfl|rfl
 ·rw[De,De];exact UW (f:=Ah 1 u) v w j
 ·have c:(2:Int)≠1:=by decide
  rw[times23 c (AC d c) (AC (Gc g i) c),times23 c (AC d c) (AC g c),times23 c (AC d c) (AC i c),Ca,Ca];exact UY (AG d c) (AG g c) (AG i c)
 rw[Df,Df];exact UV (f:=Ah 3 u) v w j
def Wj(c:okV k v):Av k v (zeroV k)=v:=by
 rcases Dc c with rfl|rfl|rfl
 ·rw[De];exact Cj (by cases v<;>trivial)
 ·rw[Ca];show addV v (.fin 0)=v
  rcases AG c (by decide) with rfl|⟨x,rfl,d⟩
  ·rfl
  simp[addV,Rat.add_zero]
 rw[Df];show maxV v (.fin 0)=v
 rcases AG c (by decide) with rfl|⟨x,rfl,d⟩
 ·exact BY trivial
 exact BY d
def IL(d:okV k v):Ah k v (oneV k)=v:=by
 by_cases c:k=1
 ·subst c;rw[times1];cases v<;>simp[oneV,Rat.add_zero]
 rw[times23 c (AC d c) (by simp[oneV,c])];have:oneV k=.fin 1:=by simp[oneV,c]
 rw[this]
 rcases AG d c with rfl|⟨x,rfl,g⟩
 ·exact BG (by decide)
 rw[Bu,Rat.mul_one]
theorem Yk(k:Int)(v:V):Ah k v (zeroV k)=zeroV k:=by unfold Ah;rw[ifp (.inr rfl)]
theorem Yd{b:ByteArray}(c:vprs k a=some v)(hb:vprs k b=some w)(h:fitV (Ah k v w)):Ae k a b=(vtxt (Ah k v w),0):=by
 unfold Ae;rw[c,hb];exact DY h
def Zf(c:k=1\/k=2\/k=3):Aj k=vtxt (zeroV k):=by
 have:Aw k=true:=by unfold Aw;rcases c with rfl|rfl|rfl<;>rfl
 unfold Aj;rw[this];rfl
def Vz(c:k=1\/k=2\/k=3):oneF k=vtxt (oneV k):=by
 have:Aw k=true:=by unfold Aw;rcases c with rfl|rfl|rfl<;>rfl
 unfold oneF;rw[this];rfl
def Qx(h:Ak k a=true):∃v,vprs k a=some v:=by
 unfold Ak at h;exact Option.isSome_iff_exists.1 h
def IF(i:okV k v):okV k (Az k v)/\Av k (oneV k) (Ah k v (Az k v))=Az k v:=by
 rcases Dc i with rfl|rfl|rfl
 ·have j:oneV 1=.fin 0:=rfl;rw[j,De];have d:Az 1 v=if 0<=cmpV v (.fin 0) then .fin 0 else .low:=rfl
  rw[d]
  split
  ·rename_i h;refine⟨.inl rfl,?_⟩;have l:Ah 1 v (.fin 0)=v:=IL (k:=1) i;rw[l];have:=FH v (.fin 0);exact Cj<|(Cx _ _).1 (by omega)
  rename_i h;refine⟨rfl,?_⟩;have:Ah 1 v .low=.low:=by
   rw[times1];cases v with
   |inf=>simp[cmpV]at h
   |low=>rfl
   |fin q=>rfl
  rw[this];exact Ci trivial
 ·have c:(2:Int)≠1:=by decide
  have j:oneV 2=.fin 1:=rfl;rw[j,Ca]
  rcases AG i c with rfl|⟨x,rfl,u⟩
  ·have d:Az 2 .inf=.inf:=rfl;rw[d,times23 c (by simp) (by simp),DD];exact⟨DF (.inr (.inl rfl)),rfl⟩
  have d:Az 2 (.fin x)=if 0<=cmpQ x 1 then .inf else .fin (1 / (1-x)):=rfl
  rw[d]
  split
  ·rename_i h;refine⟨DF (.inr (.inl rfl)),?_⟩;have g:x≠0:=by intro e;subst e;exact absurd h (by decide +kernel)
   rw[times23 c (by simp) (by simp),Ck g];rfl
  rename_i h;have p:x<1:=by rcases BJ x 1 with⟨m,e⟩|⟨m,e⟩|⟨m,e⟩<;>first|exact m|(rw[e]at h;exact absurd h (by decide))
  have hd:0<1-x:=(Rat.lt_iff_sub_pos x 1).1 p;have o:1-x≠0:=Rat.ne_of_gt hd;refine⟨.inr ⟨.inl rfl,?_⟩,?_⟩
  ·rw[Rat.div_def,Rat.one_mul];exact Rat.le_of_lt<|Rat.inv_pos.2 hd
  rw[times23 c (by simp) (by simp),Bu];show V.fin (1+x*(1 / (1-x)))=V.fin (1 / (1-x))
  congr 1
  rw[Rat.div_def,Rat.one_mul];have hi:=Rat.mul_inv_cancel (1-x) o;have s:(1-x)*(1-x)⁻¹+x*(1-x)⁻¹=(1-x)⁻¹:=by
   rw[<-Rat.add_mul,Rat.sub_add_cancel,Rat.one_mul]
  rw[hi]at s;exact s
 have c:(3:Int)≠1:=by decide
 have j:oneV 3=.fin 1:=rfl;rw[j,Df];have d:Az 3 v=if cmpV v (.fin 1)<=0 then .fin 1 else .inf:=rfl
 rw[d]
 split
 ·rename_i h;refine⟨.inr ⟨.inr rfl,by decide⟩,?_⟩;have l:Ah 3 v (.fin 1)=v:=IL (k:=3) i;rw[l];exact BY<|(Cx _ _).1 h
 rename_i h;refine⟨DF (.inr (.inr rfl)),?_⟩;rw[times23 c (AC i c) (by simp)]
 rcases AG i c with rfl|⟨x,rfl,u⟩
 ·rw[DD];exact BZ trivial
 have g:x≠0:=by intro e;subst e;exact absurd h (by decide +kernel)
 rw[Ck g];exact BZ trivial
structure Order(k:Int)(a b c s x y:ByteArray)(p:Int):Prop where
 pe:Bn k a b=p
 lo:-1<=p
 hi:p<=1
 sw:Bn k b a=-p
 eq:p=0↔a=b
 tr:p<=0->Bn k b c<=0->Bn k a c<=0
 se:Ar k a b=(s,0)
 s1:k≠2->p<=0->s=a
 s2:k≠2->0<p->s=b
 xe:Ae k a c=(x,0)
 ye:Ae k b c=(y,0)
 xy:p<=0->Bn k x y<=0
def Za(h:wtV k v):∃q,v=.fin q/\(k=1\/((k=2\/k=3)/\0<q)):=by cases v<;>first|exact h.elim|exact⟨_,rfl,h⟩
def Zc(h:wtV k v):okV k v:=by
 obtain⟨q,rfl,h⟩:=Za h
 rcases h with h|⟨h,c⟩
 ·exact .inl h
 exact .inr ⟨h,Rat.le_of_lt c⟩
def YS(h:Am k a=true):∃v,rdV a=some v/\wtV k v:=by
 unfold Am at h;cases c:rdV a with
 |none=>rw[c]at h;simp at h
 |some v=>rw[c]at h;exact⟨v,rfl,of_decide_eq_true h⟩
end
section
variable{n p:Nat}
class CSR (R:Type) where
 add:R->R->R
 mul:R->R->R
 zero:R
 one:R
 star:R->R
 add_comm:∀a b,add a b=add b a
 add_assoc:∀a b c,add (add a b) c=add a (add b c)
 add_zero:∀a,add a zero=a
 mul_comm:∀a b,mul a b=mul b a
 mul_assoc:∀a b c,mul (mul a b) c=mul a (mul b c)
 mul_one:∀a,mul a one=a
 mul_zero:∀a,mul a zero=zero
 mul_add:∀a b c,mul a (add b c)=add (mul a b) (mul a c)
 star_eq:∀a,star a=add one (mul a (star a))
 park:∀a b x c,x=add (add (mul a x) b) c->∃d,x=add (mul (star a) b) d
 anti:∀a b c d,b=add a c->a=add b d->a=b
namespace CSR
section
variable{R:Type}[CSR R]
instance instAdd:Add R:=⟨add⟩
instance instMul:Mul R:=⟨mul⟩
theorem aC(a b:R):a+b=b+a:=add_comm a b
theorem aA(a b c:R):a+b+c=a+(b+c):=add_assoc a b c
theorem aL(a b c:R):a+(b+c)=b+(a+c):=by rw[<-aA,aC a b,aA]
theorem a0(a:R):a+zero=a:=add_zero a
theorem z0(a:R):zero+a=a:=by rw[aC,a0]
theorem mC(a b:R):a*b=b*a:=mul_comm a b
theorem mA(a b c:R):a*b*c=a*(b*c):=mul_assoc a b c
theorem m1(a:R):a*one=a:=mul_one a
theorem o1(a:R):one*a=a:=by rw[mC,m1]
theorem m0(a:R):a*zero=zero:=mul_zero a
theorem zm(a:R):zero*a=zero:=by rw[mC,m0]
theorem mD(a b c:R):a*(b+c)=a*b+a*c:=mul_add a b c
theorem dM(a b c:R):(a+b)*c=a*c+b*c:=by rw[mC,mD,mC c a,mC c b]
theorem sE(a:R):star a=one+a*star a:=star_eq a
def le(a b:R):Prop:=∃c,b=a+c
theorem le_refl(a:R):le a a:=⟨zero,(a0 a).symm⟩
theorem le_add(a b:R):le a (a+b):=⟨b,rfl⟩
theorem le_trans{a b c:R}(h:le a b)(k:le b c):le a c:=by
 obtain⟨x,rfl⟩:=h;obtain⟨y,rfl⟩:=k;exact⟨x+y,aA ..⟩
theorem le_plus{a b c d:R}(h:le a b)(k:le c d):le (a+c) (b+d):=by
 obtain⟨x,rfl⟩:=h;obtain⟨y,rfl⟩:=k;exact⟨x+y,by rw[aA,aA,aL x c y]⟩
theorem le_times{a b:R}(c:R)(h:le a b):le (c*a) (c*b):=by
 obtain⟨x,rfl⟩:=h;exact⟨c*x,mD ..⟩
theorem le_anti{a b:R}(h:le a b)(k:le b a):a=b:=by
 obtain⟨x,c⟩:=h;obtain⟨y,d⟩:=k;exact anti a b x y c d
def sum(f:Nat->R):Nat->R
 |0=>zero
 |n+1=>sum f n+f n
theorem sum_congr{f g:Nat->R}(h:∀i,i<n->f i=g i):sum f n=sum g n:=by
 induction n with
 |zero=>rfl
 |succ n ih=>simp only[sum];rw[ih (λi hi=>h i (by omega)),h n (by omega)]
theorem sum_zero(n:Nat):sum (λ_=>(zero:R)) n=zero:=by
 induction n with
 |zero=>rfl
 |succ n ih=>simp only[sum];rw[ih,a0]
theorem sum_add(f g:Nat->R)(n:Nat):sum (λi=>f i+g i) n=sum f n+sum g n:=by
 induction n with
 |zero=>exact(a0 _).symm
 |succ n ih=>simp only[sum];rw[ih,aA,aA,aL (sum g n)]
theorem mul_sum(a:R)(f:Nat->R)(n:Nat):a*sum f n=sum (λi=>a*f i) n:=by
 induction n with
 |zero=>exact m0 a
 |succ n ih=>simp only[sum];rw[mD,ih]
theorem sum_mul(a:R)(f:Nat->R)(n:Nat):sum f n*a=sum (λi=>f i*a) n:=by
 rw[mC,mul_sum];exact sum_congr λi _=>mC _ _
theorem sum_pick(f:Nat->R)(c:p<n):sum f n=f p+sum (λi=>if i=p then zero else f i) n:=by
 induction n with
 |zero=>omega
 |succ n ih =>
  simp only[sum];by_cases e:p=n
  ·subst e;rw[ifp rfl,a0,sum_congr (g:=λi=>if i=p then zero else f i) (λi hi=>by rw[ifn (by omega)]),aC]
  rw[ifn (by omega),ih (by omega),aA]
theorem sum_single(f:Nat->R)(c:p<n)(h:∀i,i<n->i≠p->f i=zero):sum f n=f p:=by
 rw[sum_pick f c,sum_congr (g:=λ_=>zero) (λi hi=>by split;rfl;exact h i hi (by assumption)),sum_zero,a0]
theorem sum_le{f g:Nat->R}(h:∀i,i<n->le (f i) (g i)):le (sum f n) (sum g n):=by
 induction n with
 |zero=>exact le_refl _
 |succ n ih=>exact le_plus (ih λi hi=>h i (by omega)) (h n (by omega))
def elim(p:Nat)(M:Nat->Nat->R):Nat->Nat->R:=λi j=>M i j+M i p*star (M p p)*M p j
def elims(M:Nat->Nat->R):Nat->Nat->Nat->R
 |0=>M
 |p+1=>elim p (elims M p)
def eye(i j:Nat):R:=if i=j then one else zero
def starM(M:Nat->Nat->R)(n:Nat):Nat->Nat->R:=λi j=>elims M n i j+eye i j
theorem elims_first(M:Nat->Nat->R)(p i j:Nat):elims M p i j=M i j+sum (λk=>M i k*elims M p k j) p:=by
 induction p generalizing j with
 |zero=>exact(a0 _).symm
 |succ p ih =>
  have c:=ih;generalize hNN:elims M p=N at c;have h:elims M (p+1)=elim p N:=by rw[<-hNN];rfl
  rw[h];simp only[sum];have d:sum (λk=>M i k*elim p N k j) p=sum (λk=>M i k*N k j) p+sum (λk=>M i k*N k p) p*(star (N p p)*N p j):=by
   rw[sum_mul,<-sum_add];refine sum_congr λk _=>?_;show M i k*(N k j+N k p*star (N p p)*N p j)=_;rw[mD,mA,mA]
  have g:M i p*elim p N p j=M i p*(star (N p p)*N p j):=by
   show M i p*(N p j+N p p*star (N p p)*N p j)=_
   congr 1
   conv=>rhs;rw[sE (N p p)]
   rw[dM,o1]
  rw[d,g];show N i j+N i p*star (N p p)*N p j=_;rw[aA,<-dM,<-aA,aC (sum _ _) (M i p),<-c j,<-c p,mA]
theorem starM_left(M:Nat->Nat->R){i j:Nat}(c:j<n):starM M n i j=eye i j+sum (λk=>M i k*starM M n k j) n:=by
 have h:sum (λk=>M i k*starM M n k j) n=sum (λk=>M i k*elims M n k j) n+M i j:=by
  show sum (λk=>M i k*(elims M n k j+eye k j)) n=_;rw[sum_congr (g:=λk=>M i k*elims M n k j+M i k*eye k j) (λk _=>mD ..),sum_add]
  congr 1
  rw[sum_single _ c (λk _ d=>by show M i k*eye k j=_;rw[eye,ifn d,m0])];show M i j*eye j j=_;rw[eye,ifp rfl,m1]
 rw[h,aC (sum _ _),<-elims_first,aC];rfl
theorem elims_congr{M M':Nat->Nat->R}(h:∀i j,i<n->j<n->M i j=M' i j)(d:p<=n):∀i j,i<n->j<n->elims M p i j=elims M' p i j:=by
 induction p with
 |zero=>exact h
 |succ p ih =>
  intro i j hi c;show elim p _ i j=elim p _ i j;unfold elim;rw[ih (by omega) i j hi c,ih (by omega) i p hi (by omega),ih (by omega) p p (by omega) (by omega),ih (by omega) p j (by omega) c]
theorem starM_congr{M M':Nat->Nat->R}(h:∀i j,i<n->j<n->M i j=M' i j):∀i j,i<n->j<n->starM M n i j=starM M' n i j:=by
 intro i j hi c;unfold starM;rw[elims_congr h (Nat.le_refl n) i j hi c]
def sumFrom(f:Nat->R)(p n:Nat):R:=sum (λk=>if k<p then zero else f k) n
theorem sumFrom_zero(f:Nat->R)(n:Nat):sumFrom f 0 n=sum f n:=sum_congr λk _=>by rw[ifn (by omega)]
theorem sumFrom_end(f:Nat->R)(n:Nat):sumFrom f n n=zero:=by
 rw[sumFrom,sum_congr (g:=λ_=>zero) (λk c=>by rw[ifp c]),sum_zero]
theorem sumFrom_step(f:Nat->R)(g:p<n):sumFrom f p n=f p+sumFrom f (p+1) n:=by
 unfold sumFrom;rw[sum_pick _ g,ifn (by omega)]
 congr 1
 exact sum_congr λk _=>by
  by_cases c:k=p
  ·rw[ifp c,ifp (by omega)]
  rw[ifn c];by_cases d:k<p
  ·rw[ifp d,ifp (by omega)]
  rw[ifn d,ifn (by omega)]
end
end CSR
end
section
variable{k:Int}{a b c u v x:V}
def KK:Type:={ k:Int // k=1\/k=2\/k=3 }
def RK(k:KK):Type:={ v:V // okV k.1 v }
theorem Fj(d:okV k u)(g:okV k c):if k=1 then leV (Av k u c) u else leV u (Av k u c):=by
 rcases Dc d with rfl|rfl|rfl
 ·rw[ifp rfl,De];unfold minV;split
  ·exact Fg _
  rcases Ch u c with h|h
  ·contradiction
  exact h
 ·rw[ifn (by decide),Ca]
  rcases AG d (by decide) with rfl|⟨x,rfl,j⟩
  ·exact trivial
  rcases AG g (by decide) with rfl|⟨y,rfl,i⟩
  ·exact trivial
  show x<=x+y;have:=Rat.add_le_add_left (c:=x).2 i
  rwa [Rat.add_zero]at this
 rw[ifn (by decide),Df];unfold maxV;split
 ·exact Fg _
 rcases Ch u c with h|h
 ·exact h
 contradiction
theorem NU(g:okV k u)(d:okV k v)(h:if k=1 then leV v u else leV u v):∃c,okV k c/\v=Av k u c:=by
 rcases Dc g with rfl|rfl|rfl
 ·rw[ifp rfl]at h;exact⟨v,d,by rw[De,Ci h]⟩
 ·rw[ifn (by decide)]at h
  rcases AG g (by decide) with rfl|⟨x,rfl,j⟩
  ·refine⟨.inf,DF (.inr (.inl rfl)),?_⟩
   rcases AG d (by decide) with rfl|⟨y,rfl,i⟩
   ·rfl
   exact h.elim
  rcases AG d (by decide) with rfl|⟨y,rfl,i⟩
  ·exact⟨.inf,DF (.inr (.inl rfl)),by rw[Ca];rfl⟩
  refine⟨.fin (y-x),.inr ⟨.inl rfl,(Rat.le_iff_sub_nonneg x y).1 h⟩,?_⟩;rw[Ca];show V.fin y=V.fin (x+(y-x));congr 1;rw[Rat.add_comm,Rat.sub_add_cancel]
 rw[ifn (by decide)]at h;exact⟨v,d,by rw[Df,BZ h]⟩
theorem NT(m:okV k a)(o:okV k x)(hb:okV k b)(i:okV k c)(h:x=Av k (Av k (Ah k a x) b) c):
  (if k=1 then leV x (Ah k a x) else leV (Ah k a x) x)/\(if k=1 then leV x b else leV b x):=by
 have d:okV k (Ah k a x):=Fq m o;have g:=Fj d (Gc hb i);have bx:=Fj hb (Gc d i);have j:Av k (Ah k a x) (Av k b c)=x:=by rw[<-Kn hb,<-h]
 have l:Av k b (Av k (Ah k a x) c)=x:=by rw[<-Kn d,Ov hb,<-h]
 rw[j]at g;rw[l]at bx;exact⟨g,bx⟩
theorem Qd(c:okV k v)(d:k=1\/k=2\/k=3):Ah k (oneV k) v=v:=by
 rw[Qc (Om d) c];exact IL c
theorem park1(u:okV 1 a)(z:okV 1 x)(hb:okV 1 b)(g:leV x (Ah 1 a x))(h:leV x b):leV x (Ah 1 (Az 1 a) b):=by
 have o:Az 1 a=if 0<=cmpV a (.fin 0) then .fin 0 else .low:=rfl
 rw[o]
 split
 ·have:Ah 1 (.fin 0) b=b:=Qd (k:=1) hb (.inl rfl);rw[this];exact h
 rename_i l;have d:leV a (.fin 0):=(Cx _ _).1 (by omega);cases b with
 |inf=>cases x<;>trivial
 |low=>rw[times1];exact h
 |fin q =>
  rw[times1];cases x with
  |low=>trivial
  |inf=>exact h.elim
  |fin y =>
   exfalso
   rw[times1]at g;cases a with
   |inf=>exact d.elim
   |low=>exact g.elim
   |fin r =>
    have m:r<=0:=d;have i:r≠0:=by intro e;subst e;exact l (by decide +kernel)
    have p:y<=r+y:=g;have s:r<0:=Rat.lt_of_le_of_ne m i;have j:=Rat.add_lt_add_right (c:=y).2 s;rw[Rat.zero_add]at j;exact absurd p (Rat.not_le.2 j)
theorem park3(m:okV 3 a)(o:okV 3 x)(hb:okV 3 b)(c:leV (Ah 3 a x) x)(i:leV b x):leV (Ah 3 (Az 3 a) b) x:=by
 have B:Az 3 a=if cmpV a (.fin 1)<=0 then .fin 1 else .inf:=rfl
 have n3:(3:Int)≠1:=by decide
 rw[B]
 split
 ·have:Ah 3 (.fin 1) b=b:=Qd (k:=3) hb (.inr (.inr rfl));rw[this];exact i
 rename_i z;rw[times23 n3 (by simp) (AC hb n3)];rw[times23 n3 (AC m n3) (AC o n3)]at c
 rcases AG o n3 with rfl|⟨y,rfl,p⟩
 ·cases (mulV .inf b)<;>trivial
 rcases AG hb n3 with rfl|⟨q,rfl,A⟩
 ·exact i.elim
 by_cases d:q=0
 ·subst d;rw[CC];exact p
 exfalso
 have g:q<=y:=i;have j:0<q:=Rat.lt_of_le_of_ne A (λe=>d e.symm);have h:0<y:=by
  refine Rat.lt_of_le_of_ne p (λe=>?_);rw[<-e]at g;exact absurd g (Rat.not_le.2 j)
 have l:y≠0:=Rat.ne_of_gt h
 rcases AG m n3 with rfl|⟨r,rfl,C⟩
 ·rw[BG l]at c;exact c.elim
 rw[Bu]at c;have s:r*y<=1*y:=by rw[Rat.one_mul];exact c
 have u:r<=1:=Rat.le_of_mul_le_mul_right s h;exact z<|(Cx _ _).2 u
theorem park2(l:okV 2 a)(B:okV 2 x)(hb:okV 2 b)(h:leV (addV (Ah 2 a x) b) x):leV (Ah 2 (Az 2 a) b) x:=by
 have n2:(2:Int)≠1:=by decide
 have u:okV 2 (Az 2 a):=(IF l).1;rw[times23 n2 (AC u n2) (AC hb n2)];rw[times23 n2 (AC l n2) (AC B n2)]at h
 rcases AG B n2 with rfl|⟨y,rfl,C⟩
 ·cases (mulV (Az 2 a) b)<;>trivial
 rcases AG hb n2 with rfl|⟨s,rfl,A⟩
 ·have:addV (mulV a (.fin y)) .inf=.inf:=by cases (mulV a (.fin y))<;>rfl
  rw[this]at h;exact h.elim
 rcases AG l n2 with rfl|⟨r,rfl,F⟩
 ·have e:Az 2 .inf=.inf:=rfl;rw[e];by_cases k:y=0
  ·subst k;rw[CC]at h;have j:(0:Rat)+s<=0:=h;rw[Rat.zero_add]at j;have:s=0:=Rat.le_antisymm j A;subst this;rw[CC];exact Rat.le_refl
  rw[BG k]at h;exact h.elim
 rw[Bu]at h;have j:r*y+s<=y:=h;have e:Az 2 (.fin r)=if 0<=cmpQ r 1 then .inf else .fin (1 / (1-r)):=rfl
 rw[e]
 split
 ·rename_i i;have p:1<=r:=by
   rcases BJ r 1 with⟨g,d⟩|⟨g,d⟩|⟨g,d⟩
   ·rw[d]at i;exact absurd i (by decide)
   ·rw[g];exact Rat.le_refl
   exact Rat.le_of_lt g
  have z:1*y<=r*y:=Rat.mul_le_mul_of_nonneg_right p C;rw[Rat.one_mul]at z;have D:r*y+s<=r*y+0:=by rw[Rat.add_zero];exact Rat.le_trans j z
  have E:s<=0:=Rat.add_le_add_left.1 D;have:s=0:=Rat.le_antisymm E A;subst this;rw[CC];exact C
 rename_i i;have o:r<1:=by
  rcases BJ r 1 with⟨g,d⟩|⟨g,d⟩|⟨g,d⟩
  ·exact g
  ·rw[d]at i;exact absurd (by decide) i
  rw[d]at i;exact absurd (by decide) i
 have hd:0<1-r:=(Rat.lt_iff_sub_pos r 1).1 o;have m:1-r≠0:=Rat.ne_of_gt hd;rw[Bu];show 1 / (1-r)*s<=y;refine Rat.le_of_mul_le_mul_left (c:=1-r) ?_ hd;rw[<-Rat.mul_assoc,Rat.div_def,Rat.one_mul,Rat.mul_inv_cancel _ m,Rat.one_mul];rw[Rat.sub_eq_add_neg,Rat.add_mul,Rat.one_mul,Rat.neg_mul,<-Rat.sub_eq_add_neg];refine Rat.le_sub_iff.2 ?_;rw[Rat.add_comm];exact j
theorem VJ(g:okV k a)(i:okV k x)(hb:okV k b)(m:okV k c)(h:x=Av k (Av k (Ah k a x) b) c):
  ∃d,okV k d/\x=Av k (Ah k (Az k a) b) d:=by
 have o:=(IF g).1;refine NU (Fq o hb) i ?_
 rcases Dc g with rfl|rfl|rfl
 ·obtain⟨j,l⟩:=NT g i hb m h;rw[ifp rfl]at j l ⊢;exact park1 g i hb j l
 ·rw[ifn (by decide)];have:=Fj (Gc (Fq g i) hb) m;rw[<-h,ifn (by decide),Ca]at this;exact park2 g i hb this
 obtain⟨j,l⟩:=NT g i hb m h;rw[ifn (by decide)]at j l ⊢;exact park3 g i hb j l
theorem Rq{d:V}(j:okV k a)(hb:okV k b)(l:okV k c)(hd:okV k d)(h:b=Av k a c)(i:a=Av k b d):a=b:=by
 have x:=Fj j l;have y:=Fj hb hd;rw[<-h]at x;rw[<-i]at y;by_cases g:k=1
 ·rw[ifp g]at x y;exact FS y x
 rw[ifn g]at x y;exact FS x y
namespace RK
variable{k:KK}
theorem ext{a b:RK k}(h:a.1=b.1):a=b:=Subtype.ext h
instance csr:CSR (RK k) where
 add a b:=⟨Av k.1 a.1 b.1,Gc a.2 b.2⟩
 mul a b:=⟨Ah k.1 a.1 b.1,Fq a.2 b.2⟩
 zero:=⟨zeroV k.1,Vy k.2⟩
 one:=⟨oneV k.1,Om k.2⟩
 star a:=⟨Az k.1 a.1,(IF a.2).1⟩
 add_comm a _:=ext<|Ov a.2
 add_assoc _ b _:=ext<|Kn b.2
 add_zero a:=ext<|Wj a.2
 mul_comm a b:=ext<|Qc a.2 b.2
 mul_assoc a b c:=ext<|Yg a.2 b.2 c.2
 mul_one a:=ext<|IL a.2
 mul_zero a:=ext<|Yk k.1 a.1
 mul_add a b c:=ext<|Yj a.2 b.2 c.2
 star_eq a:=ext (IF a.2).2.symm
 park a b x c h:=by
  obtain⟨d,hd,e⟩:=VJ a.2 x.2 b.2 c.2 (congrArg Subtype.val h);exact⟨⟨d,hd⟩,ext e⟩
 anti a b c d h1 h2:=ext<|Rq a.2 b.2 c.2 d.2 (congrArg Subtype.val h1) (congrArg Subtype.val h2)
end RK
end
section
variable{i m:Nat}
namespace CSR
section
variable{R:Type}[CSR R]
def Lub(S:Nat->R)(s:R):Prop:=(∀n,le (S n) s)/\∀u,(∀n,le (S n) u)->le s u
def Mono(S:Nat->R):Prop:=∀n,le (S n) (S (n+1))
def geo(a:R):Nat->R
 |0=>zero
 |n+1=>one+a*geo a n
end
end CSR
class CSC (R:Type) [CSR R]:Prop where
 lub_add:∀(S:Nat->R) (s b:R),CSR.Lub S s->∀u,(∀n,CSR.le (S n+b) u)->CSR.le (s+b) u
 lub_mul:∀(S:Nat->R) (s b:R),CSR.Lub S s->∀u,(∀n,CSR.le (S n*b) u)->CSR.le (s*b) u
 lub_star:∀(a u:R),(∀n,CSR.le (CSR.geo a n) u)->CSR.le (CSR.star a) u
namespace CSR
section
variable{R:Type}[CSR R]
theorem sum_comm(f:Nat->Nat->R)(m:Nat):∀n,sum (λi=>sum (f i) m) n=sum (λj=>sum (λi=>f i j) n) m
 |0=>by
  show zero=_;exact(sum_zero m).symm
 |n+1=>by
  show sum (λi=>sum (f i) m) n+sum (f n) m=_;rw[sum_comm f m n,<-sum_add];rfl
theorem zero_le(a:R):le zero a:=⟨a,(z0 a).symm⟩
theorem le_mul{a b c d:R}(h:le a b)(k:le c d):le (a*c) (b*d):=le_trans (le_times a k) (by rw[mC a d,mC b d];exact le_times d h)
theorem Mono.to{S:Nat->R}(h:Mono S){n:Nat}(c:n<=m):le (S n) (S m):=by
 induction m with
 |zero=>rw[Nat.le_zero.1 c];exact le_refl _
 |succ m ih =>
  by_cases e:n=m+1
  ·rw[e];exact le_refl _
  exact le_trans (ih (by omega)) (h m)
theorem Mono.const(s:R):Mono (λ_=>s):=λ_=>le_refl s
theorem Mono.add{S T:Nat->R}(h:Mono S)(k:Mono T):Mono (λn=>S n+T n):=λn=>le_plus (h n) (k n)
theorem Mono.mul{S T:Nat->R}(h:Mono S)(k:Mono T):Mono (λn=>S n*T n):=λn=>le_mul (h n) (k n)
theorem Mono.sum{S:Nat->Nat->R}(h:∀i,i<m->Mono (S i)):Mono (λn=>CSR.sum (λi=>S i n) m):=λn=>sum_le λi hi=>h i hi n
theorem Lub.const(s:R):Lub (λ_=>s) s:=⟨λ_=>le_refl s,λu h=>h 0⟩
theorem Lub.congr{S T:Nat->R}{s:R}(h:Lub S s)(c:∀n,S n=T n):Lub T s:=by
 have:S=T:=funext c;rw[<-this];exact h
theorem Lub.le_of{S T:Nat->R}{s t:R}(h:Lub S s)(k:Lub T t)(c:∀n,∃m,le (S n) (T m)):le s t :=
 h.2 t λn=>by obtain⟨m,d⟩:=c n;exact le_trans d (k.1 m)
theorem Lub.eq_of{S T:Nat->R}{s t:R}(h:Lub S s)(k:Lub T t)(c:∀n,∃m,le (S n) (T m))(d:∀n,∃m,le (T n) (S m)):s=t:=le_anti (h.le_of k c) (k.le_of h d)
theorem Lub.eq{S:Nat->R}{s t:R}(h:Lub S s)(k:Lub S t):s=t:=h.eq_of k (λn=>⟨n,le_refl _⟩) (λn=>⟨n,le_refl _⟩)
theorem geo_mono{a b:R}(h:le a b):∀{n m:Nat},n<=m->le (geo a n) (geo b m)
 |0,_,_=>zero_le _
 |n+1,m+1,hm=>le_plus (le_refl _) (le_mul h (geo_mono h (by omega)))
 |n+1,0,hm=>absurd hm (by omega)
theorem geo_le_star(a:R):∀n,le (geo a n) (star a)
 |0=>zero_le _
 |n+1=>by rw[sE a];exact le_plus (le_refl _) (le_times a (geo_le_star a n))
def way(M:Nat->Nat->R)(p:Nat):Nat->Nat->Nat->R
 |0,_,_=>zero
 |N+1,i,j=>M i j+sum (λk=>M i k*way M p N k j) p
theorem way_step(M:Nat->Nat->R)(p:Nat):∀N i j,le (way M p N i j) (way M p (N+1) i j)
 |0,_,_=>zero_le _
 |N+1,i,j=>le_plus (le_refl _) (sum_le λk _=>le_times _ (way_step M p N k j))
theorem way_mono(M:Nat->Nat->R)(p i j:Nat):Mono (λN=>way M p N i j):=λN=>way_step M p N i j
theorem way_le(M:Nat->Nat->R)(p:Nat):∀N i j,le (way M p N i j) (elims M p i j)
 |0,_,_=>zero_le _
 |N+1,i,j=>by rw[elims_first];exact le_plus (le_refl _) (sum_le λk _=>le_times _ (way_le M p N k j))
theorem way_cat(M:Nat->Nat->R)(p b j:Nat):∀a i,le (way M p a i p*way M (p+1) b p j+way M p a i j) (way M (p+1) (a+b) i j)
 |0,i=>by show le (zero*_+zero) _;rw[zm,a0];exact zero_le _
 |a+1,i=>by
  have ih:=way_cat M p b j a;have e:way M (p+1) (a+1+b) i j=M i j+(sum (λk=>M i k*way M (p+1) (a+b) k j) p+M i p*way M (p+1) (a+b) p j):=by
   rw[show a+1+b=a+b+1 by omega];rfl
  rw[e];show le ((M i p+sum (λk=>M i k*way M p a k p) p)*way M (p+1) b p j+(M i j+sum (λk=>M i k*way M p a k j) p)) _;have e2:(M i p+sum (λk=>M i k*way M p a k p) p)*way M (p+1) b p j+(M i j+sum (λk=>M i k*way M p a k j) p)
    = M i j+(sum (λk=>M i k*(way M p a k p*way M (p+1) b p j+way M p a k j)) p+M i p*way M (p+1) b p j):=by
   rw[dM,sum_mul];have:sum (λk=>M i k*(way M p a k p*way M (p+1) b p j+way M p a k j)) p=sum (λk=>M i k*way M p a k p*way M (p+1) b p j) p+sum (λk=>M i k*way M p a k j) p:=by
    rw[<-sum_add];exact sum_congr λk _=>by rw[mD,mA]
   rw[this,aL,aA,aC (M i p*way M (p+1) b p j)]
  rw[e2];refine le_plus (le_refl _) (le_plus (sum_le λk _=>le_times _ (ih k)) (le_times _ ?_));exact(way_mono M (p+1) p j).to (by omega)
theorem way_geo(M:Nat->Nat->R)(p a j:Nat):∀l,le (geo (way M p a p p) l*way M p a p j) (way M (p+1) (l*a) p j)
 |0=>by show le (zero*_) _;rw[zm];exact zero_le _
 |l+1=>by
  show le ((one+way M p a p p*geo (way M p a p p) l)*way M p a p j) _;rw[dM,o1,mA,aC];refine le_trans (le_plus (le_times _ (way_geo M p a j l)) (le_refl _)) ?_;have:=way_cat M p (l*a) j a p;rw[show (l+1)*a=a+l*a by rw[Nat.add_mul];omega];exact this
theorem way_star(M:Nat->Nat->R)(p a l i j:Nat):le (way M p a i p*(geo (way M p a p p) l*way M p a p j)+way M p a i j) (way M (p+1) (a+l*a) i j) :=
 le_trans (le_plus (le_times _ (way_geo M p a j l)) (le_refl _)) (way_cat M p (l*a) j a i)
variable[CSC R]
theorem Lub.add{S T:Nat->R}{s t:R}(h:Lub S s)(k:Lub T t)(g:Mono S)(i:Mono T):Lub (λn=>S n+T n) (s+t):=by
 refine⟨λn=>le_plus (h.1 n) (k.1 n),λu j=>?_⟩;have c:∀n m,le (S n+T m) u:=λn m=>le_trans (le_plus (g.to (Nat.le_max_left n m)) (i.to (Nat.le_max_right n m))) (j (max n m));have d:∀m,le (s+T m) u:=λm=>CSC.lub_add S s (T m) h u λn=>c n m;rw[aC];exact CSC.lub_add T t s k u λm=>by rw[aC];exact d m
theorem Lub.mul{S T:Nat->R}{s t:R}(h:Lub S s)(k:Lub T t)(g:Mono S)(i:Mono T):Lub (λn=>S n*T n) (s*t):=by
 refine⟨λn=>le_mul (h.1 n) (k.1 n),λu j=>?_⟩;have c:∀n m,le (S n*T m) u:=λn m=>le_trans (le_mul (g.to (Nat.le_max_left n m)) (i.to (Nat.le_max_right n m))) (j (max n m));have d:∀m,le (s*T m) u:=λm=>CSC.lub_mul S s (T m) h u λn=>c n m;rw[mC];exact CSC.lub_mul T t s k u λm=>by rw[mC];exact d m
theorem Lub.mulL{S:Nat->R}{s:R}(h:Lub S s)(b:R):Lub (λn=>b*S n) (b*s) :=
 ⟨λn=>le_times b (h.1 n),λu c=>by rw[mC];exact CSC.lub_mul S s b h u λn=>by rw[mC];exact c n⟩
theorem Lub.sum{S:Nat->Nat->R}{s:Nat->R}:∀{m:Nat},(∀i,i<m->Lub (S i) (s i))->(∀i,i<m->Mono (S i))->Lub (λn=>CSR.sum (λi=>S i n) m) (CSR.sum s m)
 |0,_,_=>Lub.const _
 |m+1,h,k=>(Lub.sum (λi hi=>h i (by omega)) (λi hi=>k i (by omega))).add (h m (by omega)) (Mono.sum λi hi=>k i (by omega)) (k m (by omega))
theorem Lub.geo{S:Nat->R}{s:R}(h:Lub S s)(hS:Mono S):∀l,Lub (λn=>CSR.geo (S n) l) (CSR.geo s l)
 |0=>Lub.const _
 |l+1=>(Lub.const one).add (h.mul (Lub.geo h hS l) hS (λn=>geo_mono (hS n) (Nat.le_refl l))) (Mono.const one) (hS.mul λn=>geo_mono (hS n) (Nat.le_refl l))
theorem Lub.star{S:Nat->R}{s:R}(h:Lub S s)(c:Mono S):Lub (λn=>CSR.geo (S n) n) (CSR.star s):=by
 refine⟨λn=>le_trans (geo_mono (h.1 n) (Nat.le_refl n)) (geo_le_star s n),λu d=>CSC.lub_star s u λl=>?_⟩;exact(h.geo c l).2 u λn=>le_trans (geo_mono (c.to (Nat.le_max_left n l)) (Nat.le_max_right n l)) (d (max n l))
theorem elims_lub(M:Nat->Nat->R):∀p i j,Lub (λN=>way M p N i j) (elims M p i j)
 |0,i,j=>⟨λN=>way_le M 0 N i j,λu hu=>by
   have h1:le (way M 0 1 i j) u:=hu 1;rw[show way M 0 1 i j=M i j from a0 _]at h1;exact h1⟩
 |p+1,i,j=>by
  refine⟨λN=>way_le M (p+1) N i j,λu hu=>?_⟩;have hm:=way_mono M p;have hl:Lub (λN=>way M p N i p*(CSR.geo (way M p N p p) N*way M p N p j)+way M p N i j) (elims M p i p*(CSR.star (elims M p p p)*elims M p p j)+elims M p i j) :=
   ((
    elims_lub M p i p).mul (((elims_lub M p p p).star (hm p p)).mul (elims_lub M p p j) (λn=>geo_mono (hm p p n) (by omega)) (hm p j)) (hm i p) (Mono.mul (λn=>geo_mono (hm p p n) (by omega)) (hm p j))).add (elims_lub M p i j)
    (Mono.mul (hm i p) (Mono.mul (λn=>geo_mono (hm p p n) (by omega)) (hm p j))) (hm i j)
  have:=hl.2 u λN=>le_trans (way_star M p N N i j) (hu _);show le (elims M p i j+elims M p i p*CSR.star (elims M p p p)*elims M p p j) u;rw[aC,mA];exact this
def rnd(M:Nat->Nat->R)(n:Nat)(r:Nat->Nat->R):Nat->Nat->R
 |0,_=>zero
 |N+1,i=>r N i+sum (λk=>M i k*rnd M n r N k) n
theorem rnd_mono(M:Nat->Nat->R)(n:Nat){r:Nat->Nat->R}(hr:∀i,i<n->Mono (λN=>r N i)):∀N i,i<n->le (rnd M n r N i) (rnd M n r (N+1) i)
 |0,_,_=>zero_le _
 |N+1,i,hi=>le_plus (hr i hi N) (sum_le λk hk=>le_times _ (rnd_mono M n hr N k hk))
def sol(M:Nat->Nat->R)(n:Nat)(r:Nat->R)(i:Nat):R:=sum (λj=>starM M n i j*r j) n
theorem sol_eq(M:Nat->Nat->R)(n:Nat)(r:Nat->R)(hi:i<n):sol M n r i=r i+sum (λk=>M i k*sol M n r k) n:=by
 have h:∀j,j<n->starM M n i j*r j=eye i j*r j+sum (λk=>M i k*(starM M n k j*r j)) n:=λj c=>by
  rw[starM_left M c,dM,sum_mul];congr 1;exact sum_congr λk _=>mA ..
 show sum (λj=>starM M n i j*r j) n=_;rw[sum_congr h,sum_add]
 congr 1
 ·rw[sum_single _ hi (λj _ c=>by unfold eye;rw[ifn (λe=>c e.symm),zm])];unfold eye;rw[ifp rfl,o1]
 rw[sum_comm];exact sum_congr λk _=>by unfold sol;rw[mul_sum]
theorem rnd_way(M:Nat->Nat->R)(n:Nat){r:Nat->Nat->R}(hr:∀i,i<n->Mono (λN=>r N i))(b:Nat):∀a i,i<n->le (sum (λj=>(way M n a i j+eye i j)*r b j) n) (rnd M n r (a+b+1) i)
 |0,i,hi=>by
  rw[sum_single _ hi (λj _ hj=>by show (zero+eye i j)*_=_;unfold eye;rw[ifn (λe=>hj e.symm),a0,zm])];show le ((zero+eye i i)*_) _;unfold eye;rw[ifp rfl,z0,o1,show 0+b+1=b+1 by omega];exact le_add ..
 |a+1,i,hi=>by
  have ih:=rnd_way M n hr b a;have h:∀j,j<n->(way M n (a+1) i j+eye i j)*r b j=eye i j*r b j+sum (λk=>M i k*((way M n a k j+eye k j)*r b j)) n:=λj hj=>by
   show (M i j+sum (λk=>M i k*way M n a k j) n+eye i j)*r b j=_;rw[dM,aC];congr 1;have e1:M i j=sum (λk=>M i k*eye k j) n:=by
    rw[sum_single _ hj (λk _ hk=>by unfold eye;rw[ifn hk,m0])];unfold eye;rw[ifp rfl,m1]
   rw[aC (M i j)]
   conv=>lhs;arg 1;arg 2;rw[e1]
   rw[<-sum_add,sum_mul];exact sum_congr λk _=>by rw[<-mD,mA]
  rw[sum_congr h,sum_add];rw[sum_single (λj=>eye i j*r b j) hi (λj _ hj=>by unfold eye;rw[ifn (λe=>hj e.symm),zm])];rw[show eye i i*r b i=r b i by unfold eye;rw[ifp rfl,o1]];rw[sum_comm,show a+1+b+1=(a+b+1)+1 by omega];refine le_plus ((hr i hi).to (by omega)) (sum_le λk hk=>?_);rw[<-mul_sum];exact le_times _ (ih k hk)
theorem rnd_lub(M:Nat->Nat->R)(n:Nat){r:Nat->Nat->R}{s:Nat->R}(d:∀i,i<n->Mono (λN=>r N i))(g:∀i,i<n->Lub (λN=>r N i) (s i))(hi:i<n):Lub (λN=>rnd M n r N i) (sol M n s i):=by
 constructor
 ·intro N
  induction N generalizing i with
  |zero=>exact zero_le _
  |succ N ih=>rw[sol_eq M n s hi];exact le_plus ((g i hi).1 N) (sum_le λk l=>le_times _ (ih l))
 intro u m;have h:Lub (λN=>sum (λj=>(way M n N i j+eye i j)*r N j) n) (sum (λj=>(elims M n i j+eye i j)*s j) n) :=
  Lub.sum (S:=λj N=>(way M n N i j+eye i j)*r N j) (λj c=>((elims_lub M n i j).add (Lub.const _) (way_mono M n i j) (Mono.const _)).mul (g j c) ((way_mono M n i j).add (Mono.const _)) (d j c))
   (λj c=>((way_mono M n i j).add (Mono.const _)).mul (d j c))
 exact h.2 u λN=>le_trans (rnd_way M n d N N i hi) (m _)
end
end CSR
end
section
variable{a sv u v x:V}{k:KK}{d:Rat}
theorem arch(hd:0<d)(u:Rat):∃n:Nat,u<(n:Rat)*d:=by
 have c:u / d<((((u / d).floor+1).toNat:Nat):Rat):=by
  have g:=Rat.lt_floor_add_one<|u / d;have h:(((u / d).floor+1:Int):Rat)<=((((u / d).floor+1).toNat:Nat):Rat):=by
   rw[<-Rat.intCast_natCast];exact Rat.intCast_le_intCast.2 (by omega)
  grind
 exact⟨_,(Rat.div_lt_iff hd).1 c⟩
theorem climb{P:Nat->Rat}(hd:0<d)(h:∀n,P n+d<=P (n+1))(u:Rat):∃n,u<P n:=by
 have c:∀n:Nat,P 0+(n:Rat)*d<=P n:=by
  intro n
  induction n with
  |zero=>rw[show ((0:Nat):Rat)=0 from rfl];grind
  |succ n ih =>
   have:=h n;rw[Rat.natCast_add];have e:((1:Nat):Rat)=1:=rfl;rw[e];grind
 obtain⟨n,g⟩:=arch hd (u-P 0);exact⟨n,by have:=c n;grind⟩
theorem JW(a b:V):leV (minV a b) a:=by
 rcases Ch a b with h|h
 ·rw[Cj h];exact Fg _
 rw[Ci h];exact h
theorem Nh(a b:V):leV (minV a b) b:=by rw[NF];exact JW b a
theorem Ux{b:V}(c:leV x a)(d:leV x b):leV x (minV a b):=by
 rcases Ch a b with h|h
 ·rw[Cj h];exact c
 rw[Ci h];exact d
theorem JV(a b:V):leV a (maxV a b):=by
 rcases Ch a b with h|h
 ·rw[BZ h];exact h
 rw[BY h];exact Fg _
theorem Ng(a b:V):leV b (maxV a b):=by rw[ND];exact JV b a
theorem Uw{b:V}(c:leV a x)(d:leV b x):leV (maxV a b) x:=by
 rcases Ch a b with h|h
 ·rw[BZ h];exact d
 rw[BY h];exact c
theorem Ev(v:V):leV v .inf:=by cases v<;>trivial
theorem JU(v:V):leV .low v:=by cases v<;>trivial
theorem JX(h:leV .inf v):v=.inf:=by cases v<;>first|rfl|exact h.elim
theorem Uv(h:leV v .low):v=.low:=by cases v<;>first|rfl|exact h.elim
theorem JS{k:Int}(d:k=2\/k=3)(h:okV k v):leV (.fin 0) v:=by
 rcases AG h (by omega) with rfl|⟨q,rfl,c⟩
 ·exact trivial
 exact c
namespace RK
theorem le_iff{a b:RK k}:CSR.le a b↔if k.1=1 then leV b.1 a.1 else leV a.1 b.1 :=
 ⟨λ⟨c,d⟩=>by
  have g:=Fj a.2 c.2;have i:b.1=Av k.1 a.1 c.1:=congrArg Subtype.val d;rw[<-i]at g;exact g,λh=>by
  obtain⟨c,d,e⟩:=NU a.2 b.2 h;exact⟨⟨c,d⟩,ext e⟩⟩
theorem le1(c:k.1=1){a b:RK k}:CSR.le a b↔leV b.1 a.1:=by rw[le_iff,ifp c]
theorem le23(c:k.1=2\/k.1=3){a b:RK k}:CSR.le a b↔leV a.1 b.1:=by rw[le_iff,ifn (by omega)]
end RK
theorem okV1(v:V):okV 1 v:=by
 cases v with
 |inf=>exact⟨by decide,by decide⟩
 |low=>rfl
 |fin q=>exact .inl rfl
theorem Ve{T:Nat->V}{k o:V}(p:∀v,(∀n,leV v (T n))->leV v sv)(m:∀n,leV o (Ah 1 (T n) k)):leV o (Ah 1 sv k):=by
 have i:(∀n,T n=.inf)->sv=.inf:=λh=>JX (p .inf λn=>by rw[h n];exact trivial);have g:∀v,Ah 1 .inf v=.inf:=λv=>by rw[times1]
 cases k with
 |inf=>rw[PZ,g];exact Ev _
 |low =>
  by_cases hi:∀n,T n=.inf
  ·rw[i hi,g];exact Ev _
  have ⟨n,hn⟩:∃n,T n≠.inf:=Classical.not_forall.1 hi;have d:=m n;have l:Ah 1 (T n) .low=.low:=by rw[times1];cases j:T n<;>first|rfl|exact absurd j hn
  rw[l]at d;rw[Uv d];exact JU _
 |fin y =>
  cases o with
  |low=>exact JU _
  |inf =>
   rw[i (λn=>?_),g];exact trivial;have d:=m n;rw[times1]at d;cases j:T n with
   |inf=>rfl
   |low=>rw[j]at d;exact d.elim
   |fin t=>rw[j]at d;exact d.elim
  |fin c =>
   have d:=p (.fin (c-y)) λn=>by
    have d:=m n;rw[times1]at d;cases j:T n with
    |inf=>exact trivial
    |low=>rw[j]at d;exact d.elim
    |fin t =>
     rw[j]at d;have l:c<=t+y:=d;show c-y<=t
     grind
   cases sv with
   |inf=>rw[g];exact trivial
   |low=>exact d.elim
   |fin s =>
    have l:c-y<=s:=d;rw[times1];show c<=s+y
    grind
theorem Vf{k:Int}(m:k=2\/k=3){T:Nat->V}{z:V}(C:∀n,okV k (T n))(o:okV k sv)(hb:okV k u)(l:okV k z)(B:∀v,okV k v->(∀n,leV (T n) v)->leV sv v)(D:∀n,leV (mulV (T n) u) z):leV (mulV sv u) z:=by
 have n1:k≠1:=by omega
 rcases AG hb n1 with rfl|⟨y,rfl,E⟩
 ·by_cases F:∀n,T n=.fin 0
  ·have d:=B (.fin 0) (okV23' m Rat.le_refl) (λn=>by rw[F n];exact Rat.le_refl);have i:=FS d (JS m o);rw[i,Dk];exact JS m l
  have ⟨n,hn⟩:∃n,T n≠.fin 0:=Classical.not_forall.1 F;have d:=D n;have i:mulV (T n) .inf=.inf:=by
   rcases AG (C n) n1 with h|⟨q,h,_⟩
   ·rw[h];exact DD
   rw[h];exact Ck<|λe=>hn (by rw[h,e])
  rw[i]at d;rw[JX d];exact Ev _
 by_cases g:y=0
 ·subst g;rw[CC];exact JS m l
 have p:0<y:=Rat.lt_of_le_of_ne E (λe=>g e.symm)
 rcases AG l n1 with rfl|⟨c,rfl,G⟩
 ·exact Ev _
 have j:(c / y)*y=c:=Rat.div_mul_cancel g;have d:=B (.fin (c / y)) (okV23' m (by
  refine Rat.le_of_mul_le_mul_right (c:=y) ?_ p;rw[j,Rat.zero_mul];exact G)) λn=>by
  have d:=D n
  rcases AG (C n) n1 with h|⟨t,h,_⟩
  ·rw[h,BG g]at d;exact d.elim
  rw[h,Bu]at d;rw[h];have i:t*y<=c:=d;show t<=c / y;exact Rat.le_of_mul_le_mul_right (by rw[j];exact i) p
 rcases AG o n1 with rfl|⟨s,rfl,_⟩
 ·exact d.elim
 rw[Bu];have i:s<=c / y:=d;show s*y<=c;have A:=Rat.mul_le_mul_of_nonneg_right i E;rw[j]at A;exact A
theorem XD{G:Nat->V}(m:G 1=minV (.fin 0) (Ah 1 a (G 0)))(o:∀n,G (n+1)=minV (.fin 0) (Ah 1 a (G n)))(h:∀n,leV u (G n)):leV u (Az 1 a):=by
 have i:leV (G 1) (.fin 0):=by rw[m];exact JW _ _
 have gs:∀n,leV (G (n+1)) (Ah 1 a (G n)):=λn=>by rw[o];exact Nh _ _
 have A:Az 1 a=if 0<=cmpV a (.fin 0) then .fin 0 else .low:=rfl
 rw[A]
 split
 ·exact Bt (h 1) i
 rename_i p;have g:leV a (.fin 0):=(Cx _ _).1 (by omega);cases a with
 |inf=>exact g.elim
 |low =>
  have k:leV (G 2) (Ah 1 .low (.fin 0)):=Bt (gs 1) (Lj _ i);rw[times1]at k;exact Bt (h 2) k
 |fin r =>
  have z:r<=0:=g;have j:r≠0:=by intro e;subst e;exact p (by decide +kernel)
  have C:r<0:=Rat.lt_of_le_of_ne z j;have hb:∀n:Nat,leV (G (n+1)) (.fin ((n:Rat)*r)):=by
   intro n
   induction n with
   |zero=>rw[show ((0:Nat):Rat)*r=0 by rw[show ((0:Nat):Rat)=0 from rfl];grind];exact i
   |succ n ih =>
    have l:=Bt (gs (n+1)) (Lj (.fin r) ih);rw[times1]at l;have e:((n+1:Nat):Rat)*r=r+(n:Rat)*r:=by
     rw[Rat.natCast_add,show ((1:Nat):Rat)=1 from rfl];grind
    rw[e];exact l
  cases u with
  |low=>exact JU _
  |inf=>have:=Bt (h 1) (hb 0);exact this.elim
  |fin c =>
   exfalso
   obtain⟨n,s⟩:=arch (d:=-r) (by grind) (-c);have B:c<=(n:Rat)*r:=Bt (h (n+1)) (hb n)
   grind
theorem XF{G:Nat->V}(z:okV 3 a)(l:okV 3 u)(g:∀n,okV 3 (G n))(s:∀n,G (n+1)=maxV (.fin 1) (mulV a (G n)))(k:∀n,leV (G n) u):leV (Az 3 a) u:=by
 have n3:(3:Int)≠1:=by decide
 have i:∀n,leV (.fin 1) (G (n+1)):=λn=>by rw[s];exact JV _ _
 have gs:∀n,leV (mulV a (G n)) (G (n+1)):=λn=>by rw[s];exact Ng _ _
 have E:Az 3 a=if cmpV a (.fin 1)<=0 then .fin 1 else .inf:=rfl
 rw[E]
 split
 ·exact Bt (i 0) (k 1)
 rename_i B;have o1:(V.fin 1:V)=.inf\/∃q,(V.fin 1:V)=.fin q/\0<=q:=.inr ⟨1,rfl,by decide +kernel⟩
 rcases AG z n3 with rfl|⟨r,rfl,D⟩
 ·have o:=Ka (u:=.inf) (.inl rfl) o1 (AG (g 1) n3) (i 0);rw[BG (by decide)]at o;exact Bt o (Bt (gs 1) (k 2))
 have A:1<r:=by
  have:¬leV (.fin r) (.fin 1):=λh=>B ((Cx _ _).2 h);exact Rat.not_le.1 this
 have hb:∀n:Nat,leV (.fin (1+(n:Rat)*(r-1))) (G (n+1)):=by
  intro n
  induction n with
  |zero=>rw[show (1:Rat)+((0:Nat):Rat)*(r-1)=1 by rw[show ((0:Nat):Rat)=0 from rfl];grind];exact i 0
  |succ n ih =>
   have j:(0:Rat)<=(n:Rat):=Rat.natCast_nonneg;have m:(0:Rat)<=(n:Rat)*(r-1):=Rat.mul_nonneg j (by grind);have p:=Ka (u:=.fin r) (v:=.fin (1+(n:Rat)*(r-1))) (.inr ⟨r,rfl,D⟩) (.inr ⟨_,rfl,by grind⟩) (AG (g (n+1)) n3) ih;rw[Bu]at p;refine Bt ?_ (Bt p (gs (n+1)));show 1+((n+1:Nat):Rat)*(r-1)<=r*(1+(n:Rat)*(r-1));rw[Rat.natCast_add,show ((1:Nat):Rat)=1 from rfl];have H:0<=(r-1)*((n:Rat)*(r-1)):=Rat.mul_nonneg (by grind) m
   grind
 rcases AG l n3 with rfl|⟨c,rfl,_⟩
 ·exact trivial
 exfalso
 obtain⟨n,C⟩:=arch (d:=r-1) (by grind) c;have F:1+(n:Rat)*(r-1)<=c:=Bt (hb n) (k (n+1))
 grind
theorem XE{G:Nat->V}(F:okV 2 a)(z:okV 2 u)(B:G 0=.fin 0)(l:∀n,G (n+1)=addV (.fin 1) (mulV a (G n)))(D:∀n,leV (G n) u):leV (Az 2 a) u:=by
 have n2:(2:Int)≠1:=by decide
 rcases AG F n2 with rfl|⟨r,rfl,K⟩
 ·have g:G 1=.fin (1+0):=by rw[l,B,CC];rfl
  have E:G 2=.inf:=by rw[l,g,BG (by decide +kernel)];rfl
  have C:=D 2;rw[E]at C;rw[JX C];exact Ev _
 have m:∃P:Nat->Rat,P 0=0/\(∀n,P (n+1)=1+r*P n)/\∀n,G n=.fin (P n):=by
  refine⟨λn=>Nat.rec 0 (λ_ p=>1+r*p) n,rfl,λn=>rfl,λn=>?_⟩
  induction n with
  |zero=>exact B
  |succ n ih=>rw[l,ih,Bu];rfl
 obtain⟨P,L,A,m⟩:=m;have N:∀n,0<=P n:=λn=>by
  induction n with
  |zero=>rw[L];exact Rat.le_refl
  |succ n ih=>rw[A];have:=Rat.mul_nonneg K ih;grind
 have e:Az 2 (.fin r)=if 0<=cmpQ r 1 then .inf else .fin (1 / (1-r)):=rfl
 rw[e]
 rcases AG z n2 with rfl|⟨c,rfl,H⟩
 ·exact Ev _
 have i:∀n,P n<=c:=λn=>by have:=D n;rw[m]at this;exact this
 split
 ·rename_i j
  exfalso
  have s:1<=r:=by
   rcases BJ r 1 with⟨g,h⟩|⟨g,h⟩|⟨g,h⟩
   ·rw[h]at j;exact absurd j (by decide)
   ·rw[g];exact Rat.le_refl
   exact Rat.le_of_lt g
  obtain⟨n,J⟩:=climb (P:=P) (d:=1) (by decide +kernel) (λn=>by
   rw[A];have g:=Rat.mul_le_mul_of_nonneg_right s (N n)
   grind) c
  have:=i n
  grind
 rename_i j;have o:r<1:=by
  rcases BJ r 1 with⟨g,h⟩|⟨g,h⟩|⟨g,h⟩
  ·exact g
  ·rw[h]at j;exact absurd (by decide) j
  rw[h]at j;exact absurd (by decide) j
 have hd:0<1-r:=(Rat.lt_iff_sub_pos r 1).1 o;have I:1-r≠0:=Rat.ne_of_gt hd;show 1 / (1-r)<=c;refine Rat.not_lt.1 λk=>?_;have O:c*(1-r)<1:=(Rat.lt_div_iff hd).1 k;obtain⟨n,J⟩:=climb (P:=P) (d:=1-c*(1-r)) (by grind) (λn=>by
  rw[A];have g:=Rat.mul_le_mul_of_nonneg_right (i n) (Rat.le_of_lt hd)
  grind) c
 have:=i n
 grind
theorem Gd{j:Int}(a:RK k)(h:k.1=j):okV j a.1:=h ▸ a.2
instance csc {k:KK}:CSC (RK k) where
 lub_add S s b h u hu:=by
  rcases k.2 with hk|hk|hk
  ·rw[RK.le1 hk];have e:∀x y:RK k,(x+y).1=minV x.1 y.1:=λx y=>(congrArg (λz=>Av z x.1 y.1) hk).trans (De _ _);rw[e];refine Ux ((RK.le1 hk).1 (h.2 u λn=>(RK.le1 hk).2 ?_)) ?_
   ·have:=(RK.le1 hk).1 (hu n);rw[e]at this;exact Bt this (JW _ _)
   ·have:=(RK.le1 hk).1 (hu 0);rw[e]at this;exact Bt this (Nh _ _)
  ·have hk':k.1=2\/k.1=3:=.inl hk;rw[RK.le23 hk'];have e:∀x y:RK k,(x+y).1=addV x.1 y.1:=λx y=>(congrArg (λz=>Av z x.1 y.1) hk).trans (Ca _ _);rw[e];have hu':=λn=>(RK.le23 hk').1 (hu n);have o:∀x:RK k,x.1=.inf\/∃q,x.1=.fin q/\0<=q:=λx=>AG x.2 (by omega)
   rcases o u with h1|⟨c,h1,hc⟩
   ·rw[h1];exact Ev _
   have hb:∃y,b.1=.fin y/\y<=c:=by
    have h2:=hu' 0;rw[e,h1]at h2
    rcases o b with h3|⟨y,h3,hy⟩
    ·rw[h3]at h2;cases hS:(S 0).1<;>rw[hS]at h2<;>exact h2.elim
    ·rw[h3]at h2
     rcases o (S 0) with h4|⟨t,h4,ht⟩
     ·rw[h4]at h2;exact h2.elim
     ·rw[h4]at h2;have h5:t+y<=c:=h2;exact⟨y,h3,by grind⟩
   obtain⟨y,hy,hyc⟩:=hb;have hs:=(RK.le23 hk').1 (h.2 ⟨.fin (c-y),okV23' hk' (by grind)⟩ λn=>(RK.le23 hk').2 (by
    have h2:=hu' n;rw[e,h1,hy]at h2
    rcases o (S n) with h4|⟨t,h4,ht⟩
    ·rw[h4]at h2;exact h2.elim
    ·rw[h4]at h2 ⊢;have h5:t+y<=c:=h2;show t<=c-y
     grind))
   rw[h1,hy]
   rcases o s with h4|⟨t,h4,ht⟩
   ·rw[h4]at hs;exact hs.elim
   ·rw[h4]at hs ⊢;have h5:t<=c-y:=hs;show t+y<=c
    grind
  ·have hk':k.1=2\/k.1=3:=.inr hk;rw[RK.le23 hk'];have e:∀x y:RK k,(x+y).1=maxV x.1 y.1:=λx y=>(congrArg (λz=>Av z x.1 y.1) hk).trans (Df _ _);rw[e];refine Uw ((RK.le23 hk').1 (h.2 u λn=>(RK.le23 hk').2 ?_)) ?_
   ·have:=(RK.le23 hk').1 (hu n);rw[e]at this;exact Bt (JV _ _) this
   ·have:=(RK.le23 hk').1 (hu 0);rw[e]at this;exact Bt (Ng _ _) this
 lub_mul S s b h u hu:=by
  by_cases hk:k.1=1
  ·rw[RK.le1 hk];have e:∀x y:RK k,(x*y).1=Ah 1 x.1 y.1:=λx y=>congrArg (λz=>Ah z x.1 y.1) hk;rw[e];refine Ve (T:=λn=>(S n).1) (λv hv=>?_) λn=>?_
   ·have hv':okV k.1 v:=by rw[hk];exact okV1 v
    exact(RK.le1 hk).1 (h.2 ⟨v,hv'⟩ λn=>(RK.le1 hk).2 (hv n))
   ·have:=(RK.le1 hk).1 (hu n);rw[e]at this;exact this
  ·have hk':k.1=2\/k.1=3:=by have:=k.2;omega
   rw[RK.le23 hk'];have e:∀x y:RK k,(x*y).1=mulV x.1 y.1:=λx y=>times23 hk (AC x.2 hk) (AC y.2 hk);rw[e];refine Vf hk' (T:=λn=>(S n).1) (λn=>(S n).2) s.2 b.2 u.2 (λv hv h2=>?_) λn=>?_
   ·exact(RK.le23 hk').1 (h.2 ⟨v,hv⟩ λn=>(RK.le23 hk').2 (h2 n))
   ·have:=(RK.le23 hk').1 (hu n);rw[e]at this;exact this
 lub_star a u hu:=by
  rcases k.2 with hk|hk|hk
  ·rw[RK.le1 hk];have hst:(CSR.star a).1=Az 1 a.1:=congrArg (λz=>Az z a.1) hk;have hg:∀n,(CSR.geo a (n+1)).1=minV (.fin 0) (Ah 1 a.1 (CSR.geo a n).1):=λn=>by
    have h1:(CSR.geo a (n+1)).1=Av k.1 (oneV k.1) (Ah k.1 a.1 (CSR.geo a n).1):=rfl;exact h1.trans<|(congrArg (λz=>Av z (oneV z) (Ah z a.1 (CSR.geo a n).1)) hk).trans (De _ _)
   rw[hst];exact XD (G:=λn=>(CSR.geo a n).1) (hg 0) hg λn=>(RK.le1 hk).1 (hu n)
  ·have hk':k.1=2\/k.1=3:=.inl hk;rw[RK.le23 hk'];have hst:(CSR.star a).1=Az 2 a.1:=congrArg (λz=>Az z a.1) hk;have hg:∀n,(CSR.geo a (n+1)).1=addV (.fin 1) (mulV a.1 (CSR.geo a n).1):=λn=>by
    have h1:(CSR.geo a (n+1)).1=Av k.1 (oneV k.1) (Ah k.1 a.1 (CSR.geo a n).1):=rfl;rw[h1,times23 (by omega) (AC a.2 (by omega)) (AC (CSR.geo a n).2 (by omega))];exact(congrArg (λz=>Av z (oneV z) (mulV a.1 (CSR.geo a n).1)) hk).trans (Ca _ _)
   have h0:(CSR.geo a 0).1=.fin 0:=by
    show zeroV k.1=_;unfold zeroV;rw[ifn (by omega)]
   rw[hst];have ha:okV 2 a.1:=Gd a hk;have hu2:okV 2 u.1:=Gd u hk;exact XE (G:=λn=>(CSR.geo a n).1) ha hu2 h0 hg λn=>(RK.le23 hk').1 (hu n)
  ·have hk':k.1=2\/k.1=3:=.inr hk;rw[RK.le23 hk'];have hst:(CSR.star a).1=Az 3 a.1:=congrArg (λz=>Az z a.1) hk;have hg:∀n,(CSR.geo a (n+1)).1=maxV (.fin 1) (mulV a.1 (CSR.geo a n).1):=λn=>by
    have h1:(CSR.geo a (n+1)).1=Av k.1 (oneV k.1) (Ah k.1 a.1 (CSR.geo a n).1):=rfl;rw[h1,times23 (by omega) (AC a.2 (by omega)) (AC (CSR.geo a n).2 (by omega))];exact(congrArg (λz=>Av z (oneV z) (mulV a.1 (CSR.geo a n).1)) hk).trans (Df _ _)
   rw[hst];have ha:okV 3 a.1:=Gd a hk;have hu2:okV 3 u.1:=Gd u hk;exact XF (G:=λn=>(CSR.geo a n).1) ha hu2 (λn=>Gd (CSR.geo a n) hk) hg λn=>(RK.le23 hk').1 (hu n)
end
section
variable{k q:Nat}{s:Int}{t x:List Int}
structure RM(R:Type)where
 n:Nat
 start:Nat
 lead:R
 fin:Nat->R
 na:Nat->Nat
 ain:Nat->Nat->Int
 aout:Nat->Nat->Int
 aw:Nat->Nat->R
 ato:Nat->Nat->Nat
def red(s:Int)(x:List Int):Option (List Int):=if s=0 then some x else match x with
 | []=>none
 |a::t=>if a=s then some t else none
theorem Ef(x:List Int):red 0 x=some x:=ifp rfl
theorem KF(h:s≠0):red s []=none:=by unfold red;rw[ifn h]
theorem KC(h:s≠0)(t:List Int):red s (s::t)=some t:=by unfold red;rw[ifn h];simp
theorem KE{a:Int}(h:s≠0)(c:a≠s)(t:List Int):red s (a::t)=none:=by unfold red;rw[ifn h];simp[c]
theorem It(h:red s x=some t):(s=0/\t=x)\/(s≠0/\x=s::t):=by
 unfold red at h;by_cases e:s=0
 ·rw[ifp e]at h;left;exact⟨e,by cases h;rfl⟩
 rw[ifn e]at h
 right
 cases x with
 |nil=>cases h
 |cons a x' =>
  by_cases c:a=s
  ·simp[c]at h;exact⟨e,by rw[c,h]⟩
  simp[c]at h
theorem Ir(h:red s x=some t):t.length<=x.length/\(s≠0->t.length<x.length):=by
 rcases It h with⟨c,rfl⟩|⟨c,rfl⟩
 ·exact⟨nlr,λh=>absurd c h⟩
 simp
open CSR
section
variable{R:Type}[CSR R]
def arcT(A:RM R)(f:Nat->List Int->List Int->R)(q k:Nat)(x y:List Int):R :=
 match red (A.ain q k) x,red (A.aout q k) y with
 |some x',some y'=>A.aw q k*f (A.ato q k) x' y'
 |_,_=>zero
def endT(A:RM R)(q:Nat)(x y:List Int):R:=if x=[]/\y=[] then A.fin q else zero
def unr(A:RM R):Nat->Nat->List Int->List Int->R
 |0,_,_,_=>zero
 |N+1,q,x,y=>endT A q x y+sum (λk=>arcT A (unr A N) q k x y) (A.na q)
theorem GV{A:RM R}{f g:Nat->List Int->List Int->R}(h:∀x y,le (f (A.ato q k) x y) (g (A.ato q k) x y))(x y:List Int):le (arcT A f q k x y) (arcT A g q k x y):=by
 unfold arcT
 split
 ·exact le_times _ (h _ _)
 exact le_refl _
theorem DK(A:RM R):∀N q x y,le (unr A N q x y) (unr A (N+1) q x y)
 |0,_,_,_=>zero_le _
 |N+1,q,x,y=>le_plus (le_refl _) (sum_le λk _=>GV (λx y=>DK A N _ x y) x y)
theorem YC(A:RM R)(q:Nat)(x y:List Int):Mono (λN=>unr A N q x y):=λN=>DK A N q x y
def Inn(A:RM R):Prop:=∀q k,q<A.n->k<A.na q->A.ato q k<A.n
def sil(A:RM R)(q p:Nat):R:=sum (λk=>if A.ain q k=0/\A.aout q k=0/\A.ato q k=p then A.aw q k else zero) (A.na q)
def nsT(A:RM R)(f:Nat->List Int->List Int->R)(q k:Nat)(x y:List Int):R:=if A.ain q k=0/\A.aout q k=0 then zero else arcT A f q k x y
theorem Lg(f:Nat->R)(t:Nat->Nat)(g:Nat->R)(c:Nat->Bool)(n:Nat):∀m,(∀k,k<m->t k<n) ->
  sum (λk=>if c k=true then f k*g (t k) else zero) m=sum (λp=>sum (λk=>if c k=true/\t k=p then f k else zero) m*g p) n
 |0,_=>by
  show zero=sum (λp=>zero*g p) n;rw[sum_congr (g:=λ_=>zero) (λp _=>zm _),sum_zero]
 |m+1,h=>by
  show sum _ m+_=sum (λp=>(sum _ m+_)*g p) n;rw[Lg f t g c n m (λk hk=>h k (by omega))];rw[sum_congr (f:=λp=>(sum (λk=>if c k=true/\t k=p then f k else zero) m+if c m=true/\t m=p then f m else zero)*g p) (g:=λp=>sum (λk=>if c k=true/\t k=p then f k else zero) m*g p+(if c m=true/\t m=p then f m else zero)*g p) (λp _=>dM ..),sum_add]
  congr 1
  show (if c m=true then f m*g (t m) else zero)=_
  by_cases hc:c m=true
  ·rw[ifp hc,sum_single _ (h m (by omega)) (λp _ hp=>by rw[ifn (λe=>hp e.2.symm),zm]),ifp ⟨hc,rfl⟩]
  rw[ifn hc,sum_congr (g:=λ_=>zero) (λp _=>by rw[ifn (λe=>hc e.1),zm]),sum_zero]
theorem Rw{A:RM R}(d:Inn A)(f:Nat->List Int->List Int->R)(i:q<A.n)(x y:List Int):
  sum (λk=>arcT A f q k x y) (A.na q)=sum (λk=>nsT A f q k x y) (A.na q)+sum (λp=>sil A q p*f p x y) A.n:=by
 have h:=Lg (λk=>A.aw q k) (λk=>A.ato q k) (λp=>f p x y) (λk=>decide (A.ain q k=0/\A.aout q k=0)) A.n (A.na q) (λk g=>d q k i g);have e:sum (λp=>sil A q p*f p x y) A.n=sum (λk=>if decide (A.ain q k=0/\A.aout q k=0)=true then A.aw q k*f (A.ato q k) x y else zero) (A.na q):=by
  rw[h];refine sum_congr λp _=>?_
  congr 1
  exact sum_congr λk _=>by simp only[decide_eq_true_eq,and_assoc]
 rw[e,<-sum_add];refine sum_congr λk _=>?_;unfold nsT;by_cases c:A.ain q k=0/\A.aout q k=0
 ·rw[ifp c,ifp (by simp[c]),z0];unfold arcT;rw[c.1,c.2,Ef,Ef]
 rw[ifn c,ifn (by simpa using c),a0]
def vlF(A:RM R):Nat->Nat->List Int->List Int->R
 |0,_,_,_=>zero
 |m+1,q,x,y=>sol (sil A) A.n (λp=>endT A p x y+sum (λk=>nsT A (vlF A m) p k x y) (A.na p)) q
def vl(A:RM R)(q:Nat)(x y:List Int):R:=vlF A (x.length+y.length+1) q x y
theorem Qp{A:RM R}(hA:Inn A)(x y:List Int):∀N q,q<A.n->unr A N q x y=rnd (sil A) A.n (λN p=>endT A p x y+sum (λk=>nsT A (unr A N) p k x y) (A.na p)) N q
 |0,_,_=>rfl
 |N+1,q,hq=>by
  show endT A q x y+sum (λk=>arcT A (unr A N) q k x y) (A.na q)=_;rw[Rw hA (unr A N) hq,<-aA];show _=_+sum (λk=>sil A q k*rnd (sil A) A.n _ N k) A.n
  congr 1
  exact sum_congr λp hp=>by rw[Qp hA x y N p hp]
theorem Vo{A:RM R}{f g:Nat->List Int->List Int->R}(h:∀x y,le (f (A.ato q k) x y) (g (A.ato q k) x y))(x y:List Int):le (nsT A f q k x y) (nsT A g q k x y):=by
 unfold nsT;split
 ·exact le_refl _
 exact GV h x y
variable[CSC R]
theorem Lt{A:RM R}(hA:Inn A):∀m x y,x.length+y.length<m->∀q,q<A.n->Lub (λN=>unr A N q x y) (vlF A m q x y)
 |0,_,_,h=>absurd h (by omega)
 |m+1,x,y,h=>λq hq=>by
  have hns:∀p k,p<A.n->k<A.na p->Lub (λN=>nsT A (unr A N) p k x y) (nsT A (vlF A m) p k x y):=by
   intro p k hp hk;unfold nsT;by_cases hc:A.ain p k=0/\A.aout p k=0
   ·simp only[ifp hc];exact Lub.const _
   simp only[ifn hc];unfold arcT;cases h1:red (A.ain p k) x with
   |none=>exact Lub.const _
   |some x' =>
    cases h2:red (A.aout p k) y with
    |none=>exact Lub.const _
    |some y' =>
     refine(Lt hA m x' y' ?_ _ (hA p k hp hk)).mulL _;have l1:=Ir h1;have l2:=Ir h2;by_cases e1:A.ain p k=0
     ·have:=l2.2<|λe2=>hc ⟨e1,e2⟩;omega
     have:=l1.2 e1;omega
  have hmo:∀p k,Mono (λN=>nsT A (unr A N) p k x y):=λp k N=>Vo (λx y=>DK A N _ x y) x y;refine(rnd_lub (sil A) A.n (r:=λN p=>endT A p x y+sum (λk=>nsT A (unr A N) p k x y) (A.na p)) (λp hp=>(Mono.const _).add (Mono.sum λk _=>hmo p k)) (λp hp=>(Lub.const _).add (Lub.sum (λk hk=>hns p k hp hk) λk _=>hmo p k) (Mono.const _) (Mono.sum λk _=>hmo p k)) hq).congr λN=>?_;exact(Qp hA x y N q hq).symm
theorem QA{A:RM R}(c:Inn A)(d:q<A.n)(x y:List Int):Lub (λN=>unr A N q x y) (vl A q x y):=Lt c _ x y (by omega) q d
theorem YN{A:RM R}(c:Inn A){m:Nat}(d:q<A.n){y:List Int}(h:x.length+y.length<m):vlF A m q x y=vl A q x y:=(Lt c m x y h q d).eq (QA c d x y)
def dT(A:RM R)(p:Nat)(x y:List Int):R:=endT A p x y+sum (λk=>nsT A (vl A) p k x y) (A.na p)
theorem Lu{A:RM R}(g:Inn A)(z:q<A.n)(x y:List Int):vl A q x y=sol (sil A) A.n (λp=>dT A p x y) q:=by
 show sum (λj=>starM (sil A) A.n q j*_) A.n=sum (λj=>starM (sil A) A.n q j*_) A.n;refine sum_congr λp o=>?_
 congr 1
 show endT A p x y+_=endT A p x y+_
 congr 1
 refine sum_congr λk m=>?_;unfold nsT;by_cases c:A.ain p k=0/\A.aout p k=0
 ·rw[ifp c,ifp c]
 rw[ifn c,ifn c];unfold arcT;cases i:red (A.ain p k) x with
 |none=>rfl
 |some x' =>
  cases l:red (A.aout p k) y with
  |none=>rfl
  |some y' =>
   show _*vlF A _ _ x' y'=_*vl A _ x' y';rw[YN g (g p k o m)];have s:=Ir i;have u:=Ir l;by_cases d:A.ain p k=0
   ·have:=u.2<|λh=>c ⟨d,h⟩;omega
   have:=s.2 d;omega
def rel(A:RM R)(x y:List Int):R:=A.lead*vl A A.start x y
theorem Fv{A:RM R}(c:Inn A)(d:A.start<A.n)(x y:List Int):Lub (λN=>A.lead*unr A N A.start x y) (rel A x y):=(QA c d x y).mulL _
end
end
section
variable{i j n:Nat}{x:Nat->Int}
def lsN(x:Nat->Int):Nat->Nat->List Int
 |0,_=>[]
 |k+1,i=>x i::lsN x k (i+1)
def ls(x:Nat->Int)(n i:Nat):List Int:=lsN x (n-i) i
theorem NA(h:n<=i):ls x n i=[]:=by unfold ls;rw[show n-i=0 by omega];rfl
theorem Nz(h:i<n):ls x n i=x i::ls x n (i+1):=by
 unfold ls;rw[show n-i=(n-(i+1))+1 by omega];rfl
theorem HQ(h:i<=n):ls x n i=[]↔i=n:=by
 constructor
 ·intro e;by_cases c:i<n
  ·rw[Nz c]at e;cases e
  omega
 intro e;exact NA (by omega)
theorem KD(g:∀i,i<n->x i≠0){s:Int}(d:s≠0):red s (ls x n i)=if i<n/\s=x i then some (ls x n (i+1)) else none:=by
 by_cases h:i<n
 ·rw[Nz h];by_cases e:s=x i
  ·rw[ifp ⟨h,e⟩,<-e,KC d]
  rw[ifn (λc=>e c.2),KE d (λc=>e c.symm)]
 rw[NA (by omega),KF d,ifn (λc=>h c.1)]
open CSR
section
variable{R:Type}[CSR R]
theorem ite2(a b:Prop)[Decidable a][Decidable b](v z:R):(if a then if b then v else z else z)=if a/\b then v else z:=by
 by_cases h:a<;>by_cases k:b<;>simp[h,k]
def dot(n:Nat)(v c:Nat->R):R:=sum (λq=>v q*c q) n
theorem BP{v v' c c':Nat->R}(h:∀q,q<n->v q=v' q)(k:∀q,q<n->c q=c' q):dot n v c=dot n v' c':=sum_congr λq d=>by rw[h q d,k q d]
theorem Jy(n:Nat)(v u c:Nat->R):dot n (λq=>v q+u q) c=dot n v c+dot n u c:=by
 unfold dot;rw[<-sum_add];exact sum_congr λq _=>dM ..
theorem Jz(n:Nat)(v c d:Nat->R):dot n v (λq=>c q+d q)=dot n v c+dot n v d:=by
 unfold dot;rw[<-sum_add];exact sum_congr λq _=>mD ..
theorem MJ(n:Nat)(c:Nat->R):dot n (λ_=>zero) c=zero:=by
 unfold dot;rw[sum_congr (g:=λ_=>zero) (λq _=>zm _),sum_zero]
theorem MK(n:Nat)(v:Nat->R):dot n v (λ_=>zero)=zero:=by
 unfold dot;rw[sum_congr (g:=λ_=>zero) (λq _=>m0 _),sum_zero]
def rst(M:Nat->Nat->R)(n:Nat)(v:Nat->R)(p:Nat):R:=sum (λq=>v q*starM M n q p) n
theorem JA(M:Nat->Nat->R)(n:Nat)(v d:Nat->R):dot n v (sol M n d)=dot n (rst M n v) d:=by
 unfold dot sol rst;rw[sum_congr (g:=λq=>sum (λp=>v q*(starM M n q p*d p)) n) (λq _=>mul_sum _ _ _),sum_comm];refine sum_congr λp _=>?_;rw[sum_mul];exact sum_congr λq _=>(mA ..).symm
def mmv(A:RM R)(i o:Int)(c:Nat->R)(q:Nat):R:=sum (λk=>if A.ain q k=i/\A.aout q k=o then A.aw q k*c (A.ato q k) else zero) (A.na q)
def stp(A:RM R)(i o:Int)(f:Nat->R)(p:Nat):R:=sum (λq=>sum (λk=>if A.ain q k=i/\A.aout q k=o/\A.ato q k=p then f q*A.aw q k else zero) (A.na q)) A.n
theorem Hl{A:RM R}(d:Inn A)(i o:Int)(f c:Nat->R):dot A.n (stp A i o f) c=dot A.n f (mmv A i o c):=by
 unfold dot stp mmv;rw[sum_congr (g:=λp=>sum (λq=>f q*(sum (λk=>if A.ain q k=i/\A.aout q k=o/\A.ato q k=p then A.aw q k else zero) (A.na q)*c p)) A.n) (λp _=>?_),sum_comm]
 ·refine sum_congr λq l=>?_;rw[<-mul_sum]
  congr 1
  have h:=Lg (λk=>A.aw q k) (λk=>A.ato q k) c (λk=>decide (A.ain q k=i/\A.aout q k=o)) A.n (A.na q) (λk j=>d q k l j);refine Eq.trans ?_ (h.symm.trans (sum_congr λk _=>by simp only[decide_eq_true_eq]));refine sum_congr λp _=>?_
  congr 1
  exact sum_congr λk _=>by simp only[decide_eq_true_eq,and_assoc]
 rw[sum_mul];refine sum_congr λq _=>?_;rw[<-mA,mul_sum]
 congr 1
 exact sum_congr λk _=>by
  by_cases e:A.ain q k=i/\A.aout q k=o/\A.ato q k=p
  ·rw[ifp e,ifp e]
  rw[ifn e,ifn e,m0]
variable[CSC R]
section
variable{A:RM R}{na nb:Nat}{x y:Nat->Int}(hx:∀i,i<na->x i≠0)(hy:∀j,j<nb->y j≠0)
def cAt(A:RM R)(na:Nat)(x:Nat->Int)(nb:Nat)(y:Nat->Int)(i j q:Nat):R:=vl A q (ls x na i) (ls y nb j)
def fAt(A:RM R)(na nb i j p:Nat):R:=if i=na/\j=nb then A.fin p else zero
def gAt(b:Bool)(v:R):R:=if b=true then v else zero
include hx hy
theorem Jo{p:Nat}(hi:i<=na)(u:j<=nb):dT A p (ls x na i) (ls y nb j) =
  fAt A na nb i j p+(gAt (decide (j<nb)) (mmv A 0 (y j) (cAt A na x nb y i (j+1)) p)+(gAt (decide (i<na)) (mmv A (x i) 0 (cAt A na x nb y (i+1) j) p)+gAt (decide (i<na)&&decide (j<nb)) (mmv A (x i) (y j) (cAt A na x nb y (i+1) (j+1)) p))):=by
 unfold dT;have B:endT A p (ls x na i) (ls y nb j)=fAt A na nb i j p:=by
  unfold endT fAt;by_cases e:i=na/\j=nb
  ·rw[ifp e,ifp ⟨(HQ hi).2 e.1,(HQ u).2 e.2⟩]
  rw[ifn e,ifn (λh=>e ⟨(HQ hi).1 h.1,(HQ u).1 h.2⟩)]
 rw[B]
 congr 1
 have s:∀(b:Bool) (f:Nat->R) (m:Nat),gAt b (sum f m)=sum (λk=>gAt b (f k)) m:=λb f m=>by
  unfold gAt;cases b
  ·simp only[Bool.false_eq_true,if_false];rw[sum_zero]
  simp
 unfold mmv;rw[s,s,s,<-sum_add,<-sum_add];refine sum_congr λk _=>?_;unfold nsT arcT gAt cAt;by_cases c:A.ain p k=0
 ·by_cases o0:A.aout p k=0
  ·rw[ifp ⟨c,o0⟩];have o:¬(decide (j<nb)=true/\A.ain p k=0/\A.aout p k=y j):=λh=>hy j (by simpa using h.1) (by rw[<-h.2.2,o0]);have g:¬(decide (i<na)=true/\A.ain p k=x i/\A.aout p k=0):=λh=>hx i (by simpa using h.1) (by rw[<-h.2.1,c]);have l:¬((decide (i<na)&&decide (j<nb))=true/\A.ain p k=x i/\A.aout p k=y j):=λh=>hx i (by have:=h.1;simp at this;exact this.1) (by rw[<-h.2.1,c]);rw[ite2,ifn o,ite2,ifn g,ite2,ifn l,a0,a0]
  rw[ifn (λh=>o0 h.2),c,Ef,KD hy o0];have g:¬(decide (i<na)=true/\(0:Int)=x i/\A.aout p k=0):=λh=>o0 h.2.2;have l:¬((decide (i<na)&&decide (j<nb))=true/\(0:Int)=x i/\A.aout p k=y j):=λh=>hx i (by have:=h.1;simp at this;exact this.1) h.2.1.symm;rw[ite2,ite2,ifn g,ite2,ifn l,a0,a0];by_cases e:j<nb/\A.aout p k=y j
  ·rw[ifp e,ifp ⟨by simpa using e.1,rfl,e.2⟩]
  rw[ifn e,ifn (λh=>e ⟨by simpa using h.1,h.2.2⟩)]
 rw[ifn (λh=>c h.1),KD hx c];have o:¬(decide (j<nb)=true/\A.ain p k=0/\A.aout p k=y j):=λh=>c h.2.1;rw[ite2,ifn o,z0];by_cases o0:A.aout p k=0
 ·rw[o0,Ef];have l:¬((decide (i<na)&&decide (j<nb))=true/\A.ain p k=x i/\(0:Int)=y j):=λh=>hy j (by have:=h.1;simp at this;exact this.2) h.2.2.symm;rw[ite2,ite2,ifn l,a0];by_cases e:i<na/\A.ain p k=x i
  ·rw[ifp e,ifp ⟨by simpa using e.1,e.2,rfl⟩]
  rw[ifn e,ifn (λh=>e ⟨by simpa using h.1,h.2.1⟩)]
 rw[KD hy o0];have g:¬(decide (i<na)=true/\A.ain p k=x i/\A.aout p k=0):=λh=>o0 h.2.2;rw[ite2,ifn g,ite2,z0];by_cases e:i<na/\A.ain p k=x i
 ·rw[ifp e];by_cases d:j<nb/\A.aout p k=y j
  ·rw[ifp d,ifp ⟨by simp[e.1,d.1],e.2,d.2⟩]
  rw[ifn d,ifn (λh=>d ⟨by have:=h.1;simp at this;exact this.2,h.2.2⟩)]
 have z:¬((decide (i<na)&&decide (j<nb))=true/\A.ain p k=x i/\A.aout p k=y j):=λh=>e ⟨by have:=h.1;simp at this;exact this.1,h.2.1⟩;rw[ifn e,ifn z]
omit hx hy
def phi(A:RM R)(na:Nat)(x:Nat->Int)(nb:Nat)(y:Nat->Int)(i j:Nat)(row next:Nat->Nat->R):R :=
 sumFrom (λj'=>dot A.n (row j') (cAt A na x nb y i j')) j (nb+1)+gAt (decide (i<na)) (sum (λj'=>dot A.n (next j') (cAt A na x nb y (i+1) j')) (nb+1))
theorem Lh{f g:Nat->R}{m:Nat}{d:R}(c:m<n)(h:g m=f m+d)(j:∀i,i<n->i≠m->g i=f i):sum g n=sum f n+d:=by
 rw[sum_pick g c,sum_pick f c,h,sum_congr (f:=λi=>if i=m then zero else g i) (g:=λi=>if i=m then zero else f i) (λi hi=>by
  by_cases e:i=m
  ·rw[ifp e,ifp e]
  rw[ifn e,ifn e,j i hi e]),aA,aA,aC d]
structure Cell(A:RM R)(na:Nat)(x:Nat->Int)(nb:Nat)(y:Nat->Int)(i j:Nat)(f:Nat->R)(row next row' next':Nat->Nat->R):Prop where
 hf:∀p,p<A.n->f p=rst (sil A) A.n (row j) p
 r1:j<nb->∀p,p<A.n->row' (j+1) p=row (j+1) p+stp A 0 (y j) f p
 ro:∀j',j<j'->j'<=nb->j'≠j+1->∀p,p<A.n->row' j' p=row j' p
 n0:i<na->∀p,p<A.n->next' j p=next j p+stp A (x i) 0 f p
 n1:i<na->j<nb->∀p,p<A.n->next' (j+1) p=next (j+1) p+stp A (x i) (y j) f p
 no:i<na->∀j',j'<=nb->j'≠j->j'≠j+1->∀p,p<A.n->next' j' p=next j' p
include hx hy
theorem Cell.phi{A:RM R}(B:Inn A){i j:Nat}{f:Nat->R}{row next o next':Nat->Nat->R}(h:Cell A na x nb y i j f row next o next')(hi:i<=na)(I:j<=nb):
  phi A na x nb y i j row next=dot A.n f (fAt A na nb i j)+phi A na x nb y i (j+1) o next':=by
 unfold Go.Proofs.YtpldocnhbdlgfaaGreatDoor.phi;rw[sumFrom_step _ (show j<nb+1 by omega)];have F:dot A.n (row j) (cAt A na x nb y i j)=dot A.n f (fAt A na nb i j)+(gAt (decide (j<nb)) (dot A.n (stp A 0 (y j) f) (cAt A na x nb y i (j+1)))+(gAt (decide (i<na)) (dot A.n (stp A (x i) 0 f) (cAt A na x nb y (i+1) j))+gAt (decide (i<na)&&decide (j<nb)) (dot A.n (stp A (x i) (y j) f) (cAt A na x nb y (i+1) (j+1))))):=by
  rw[BP (v':=row j) (c:=cAt A na x nb y i j) (c':=sol (sil A) A.n (λp=>dT A p (ls x na i) (ls y nb j))) (λ_ _=>rfl) (λq K=>Lu B K _ _),JA];rw[BP (v':=f) (c':=λp=>fAt A na nb i j p+(gAt (decide (j<nb)) (mmv A 0 (y j) (cAt A na x nb y i (j+1)) p)+(gAt (decide (i<na)) (mmv A (x i) 0 (cAt A na x nb y (i+1) j) p)+gAt (decide (i<na)&&decide (j<nb)) (mmv A (x i) (y j) (cAt A na x nb y (i+1) (j+1)) p)))) (λp J=>(h.hf p J).symm) (λp _=>Jo hx hy hi I)];rw[Jz,Jz,Jz];have C:∀(b:Bool) (c:Nat->R),dot A.n f (λp=>gAt b (c p))=gAt b (dot A.n f c):=λb c=>by
   unfold gAt;cases b
   ·simp only[Bool.false_eq_true,if_false];exact MK _ _
   simp
  rw[C,C,C,Hl B,Hl B,Hl B]
 have G:sumFrom (λg=>dot A.n (o g) (cAt A na x nb y i g)) (j+1) (nb+1)=sumFrom (λg=>dot A.n (row g) (cAt A na x nb y i g)) (j+1) (nb+1)+gAt (decide (j<nb)) (dot A.n (stp A 0 (y j) f) (cAt A na x nb y i (j+1))):=by
  unfold sumFrom;by_cases k:j<nb
  ·unfold gAt;rw[ifp (by simpa using k)];refine Lh (show j+1<nb+1 by omega) ?_ (λz u m=>?_)
   ·rw[ifn (by omega),ifn (by omega),<-Jy];exact BP (h.r1 k) (λ_ _=>rfl)
   by_cases e:z<j+1
   ·rw[ifp e,ifp e]
   rw[ifn e,ifn e];exact BP (h.ro z (by omega) (by omega) m) (λ_ _=>rfl)
  unfold gAt;rw[ifn (by simpa using k),a0];exact sum_congr λz u=>by rw[ifp (by omega),ifp (by omega)]
 have H:gAt (decide (i<na)) (sum (λg=>dot A.n (next' g) (cAt A na x nb y (i+1) g)) (nb+1))=gAt (decide (i<na)) (sum (λg=>dot A.n (next g) (cAt A na x nb y (i+1) g)) (nb+1))+(gAt (decide (i<na)) (dot A.n (stp A (x i) 0 f) (cAt A na x nb y (i+1) j))+gAt (decide (i<na)&&decide (j<nb)) (dot A.n (stp A (x i) (y j) f) (cAt A na x nb y (i+1) (j+1)))):=by
  by_cases l:i<na
  ·have D:sum (λg=>dot A.n (next' g) (cAt A na x nb y (i+1) g)) (nb+1)=sum (λg=>if g=j+1 then dot A.n (next g) (cAt A na x nb y (i+1) g) else dot A.n (next' g) (cAt A na x nb y (i+1) g)) (nb+1)+gAt (decide (j<nb)) (dot A.n (stp A (x i) (y j) f) (cAt A na x nb y (i+1) (j+1))):=by
    by_cases k:j<nb
    ·unfold gAt;rw[ifp (by simpa using k)];refine Lh (show j+1<nb+1 by omega) ?_ (λz u m=>by rw[ifn m]);rw[ifp rfl,<-Jy];exact BP (h.n1 l k) (λ_ _=>rfl)
    unfold gAt;rw[ifn (by simpa using k),a0];exact sum_congr λz u=>by rw[ifn (by omega)]
   have E:sum (λg=>if g=j+1 then dot A.n (next g) (cAt A na x nb y (i+1) g) else dot A.n (next' g) (cAt A na x nb y (i+1) g)) (nb+1)=sum (λg=>dot A.n (next g) (cAt A na x nb y (i+1) g)) (nb+1)+dot A.n (stp A (x i) 0 f) (cAt A na x nb y (i+1) j):=by
    refine Lh (show j<nb+1 by omega) ?_ (λz u m=>?_)
    ·rw[ifn (by omega),<-Jy];exact BP (h.n0 l) (λ_ _=>rfl)
    by_cases e:z=j+1
    ·rw[ifp e]
    rw[ifn e];exact BP (h.no l z (by omega) m e) (λ_ _=>rfl)
   unfold gAt at D ⊢;rw[decide_eq_true l,Bool.true_and,ifp rfl,ifp rfl,ifp rfl,D,E,aA]
  unfold gAt;rw[decide_eq_false l];simp[a0]
 rw[F,G,H];generalize dot A.n f (fAt A na nb i j)=a;generalize gAt (decide (j<nb)) (dot A.n (stp A 0 (y j) f) (cAt A na x nb y i (j+1)))=b;generalize gAt (decide (i<na)) (dot A.n (stp A (x i) 0 f) (cAt A na x nb y (i+1) j))=c;generalize gAt (decide (i<na)&&decide (j<nb)) (dot A.n (stp A (x i) (y j) f) (cAt A na x nb y (i+1) (j+1)))=d;generalize sumFrom (λg=>dot A.n (row g) (cAt A na x nb y i g)) (j+1) (nb+1)=s;generalize gAt (decide (i<na)) (sum (λg=>dot A.n (next g) (cAt A na x nb y (i+1) g)) (nb+1))=t;rw[aA,aA,aA]
 congr 1
 generalize c+d=e;rw[aL e s t,aL b s,aA s b]
 congr 1
 rw[aC e t]
omit hx hy
theorem VO{A:RM R}(B:Inn A)(k:A.start<A.n){row next:Nat->Nat->R}(i:∀p,p<A.n->row 0 p=if p=A.start then A.lead else zero)(z:∀j,0<j->j<=nb->∀p,p<A.n->row j p=zero)(hn:∀j,j<=nb->∀p,p<A.n->next j p=zero):
  phi A na x nb y 0 0 row next=rel A (ls x na 0) (ls y nb 0):=by
 unfold phi;have l:∀(v c:Nat->R),(∀p,p<A.n->v p=zero)->dot A.n v c=zero:=λv c h=>by rw[BP (v':=λ_=>zero) (c':=c) h (λ_ _=>rfl),MJ]
 have o:sum (λm=>dot A.n (next m) (cAt A na x nb y (0+1) m)) (nb+1)=zero:=by
  rw[sum_congr (g:=λ_=>zero) (λj s=>l _ _ (hn j (by omega))),sum_zero]
 rw[o,show gAt (decide (0<na)) (zero:R)=zero by unfold gAt;split<;>rfl,a0,sumFrom_zero,sum_single _ (show 0<nb+1 by omega) (λj s d=>l _ _ (z j (by omega) (by omega)))]
 unfold dot rel;rw[sum_single _ k (λp u d=>by rw[i p u,ifn d,zm]),i _ k,ifp rfl];rfl
theorem VN{A:RM R}{row next:Nat->Nat->R}(hi:i<na){next':Nat->Nat->R}(hn:∀j,j<=nb->∀p,p<A.n->next' j p=zero):
  phi A na x nb y i (nb+1) row next=phi A na x nb y (i+1) 0 next next':=by
 unfold phi;rw[sumFrom_end,z0,sumFrom_zero];have d:sum (λc=>dot A.n (next' c) (cAt A na x nb y (i+1+1) c)) (nb+1)=zero:=by
  rw[sum_congr (g:=λ_=>zero) (λj h=>by rw[BP (v':=λ_=>zero) (c':=_) (hn j (by omega)) (λ_ _=>rfl),MJ]),sum_zero]
 rw[d,show gAt (decide (i+1<na)) (zero:R)=zero by unfold gAt;split<;>rfl,a0]
 unfold gAt;rw[ifp (by simpa using hi)]
theorem VL{A:RM R}{row next:Nat->Nat->R}:phi A na x nb y na (nb+1) row next=zero:=by
 unfold phi gAt;rw[sumFrom_end,z0];simp
theorem Tm{A:RM R}(f:Nat->R)(h:¬(i=na/\j=nb)):dot A.n f (fAt A na nb i j)=zero:=by
 rw[BP (v':=f) (c':=λ_=>zero) (λ_ _=>rfl) (λp _=>by unfold fAt;rw[ifn h]),MK]
theorem Tn{A:RM R}(f:Nat->R):dot A.n f (fAt A na nb na nb)=dot A.n f A.fin:=BP (λ_ _=>rfl) (λp _=>by unfold fAt;rw[ifp ⟨rfl,rfl⟩])
end
end
end
section
open CSR
section
variable{R:Type}[CSR R]
def evO(f:List Int->List Int->R)(o p:Option (List Int)):R:=match o,p with
 |some a,some b=>f a b
 |_,_=>zero
theorem TI(c:R)(f:List Int->List Int->R)(o p:Option (List Int)):evO (λa b=>c*f a b) o p=c*evO f o p:=by
 cases o<;>cases p<;>first|rfl|exact(m0 c).symm
theorem TJ(c:R)(f:List Int->List Int->R)(o p:Option (List Int)):evO (λa b=>f a b*c) o p=evO f o p*c:=by
 cases o<;>cases p<;>first|rfl|exact(zm c).symm
theorem Dl(A:RM R)(f:Nat->List Int->List Int->R)(q k:Nat)(x y:List Int):arcT A f q k x y=A.aw q k*evO (f (A.ato q k)) (red (A.ain q k) x) (red (A.aout q k) y):=by
 unfold arcT evO;cases red (A.ain q k) x<;>cases red (A.aout q k) y<;>first|rfl|exact(m0 _).symm
end
end
section
open CSR
variable{na:Nat}{x:Nat->Int}
section
variable{R:Type}[CSR R]
theorem EV{f g:List Int->List Int->R}{o p:Option (List Int)}(h:∀a b,o=some a->p=some b->le (f a b) (g a b)):le (evO f o p) (evO g o p):=by
 cases o with
 |none=>exact le_refl _
 |some a=>cases p with
  |none=>exact le_refl _
  |some b=>exact h a b rfl rfl
def inZ(A:RM R):RM R:={ A with aout:=λ_ _=>0 }
theorem TK(f:List Int->List Int->R)(g:List Int->R)(o:Option (List Int))(h:∀a,f a a=g a):evO f o o=evO (λa _=>g a) o (some []):=by
 cases o with
 |none=>rfl
 |some a=>exact h a
def AccR(A:RM R):Prop:=∀q k,q<A.n->k<A.na q->A.aout q k=A.ain q k
theorem Qn{A:RM R}(h:AccR A)(hA:Inn A):∀N q,q<A.n->∀x,unr A N q x x=unr (inZ A) N q x []
 |0,_,_,_=>rfl
 |N+1,q,hq,x=>by
  show endT A q x x+sum (λk=>arcT A (unr A N) q k x x) (A.na q)=endT (inZ A) q x []+sum (λk=>arcT (inZ A) (unr (inZ A) N) q k x []) (A.na q)
  congr 1
  ·show (if x=[]/\x=[] then A.fin q else zero)=if x=[]/\[]=[] then A.fin q else zero
   simp
  refine sum_congr λk hk=>?_;rw[Dl,Dl,h q k hq hk];show A.aw q k*evO (unr A N (A.ato q k)) (red (A.ain q k) x) (red (A.ain q k) x)=A.aw q k*evO (unr (inZ A) N (A.ato q k)) (red (A.ain q k) x) (red 0 []);rw[Ef,TK _ (λa=>unr (inZ A) N (A.ato q k) a []) _ (λa=>Qn h hA N _ (hA q k hq hk) a)]
  congr 1
  cases red (A.ain q k) x<;>rfl
structure CatOf(A B C:RM R)(oa ob:Nat):Prop where
 start:C.start=oa+A.start
 lead:C.lead=A.lead*B.lead
 finA:∀q,q<A.n->C.fin (oa+q)=zero
 finB:∀p,p<B.n->C.fin (ob+p)=B.fin p
 arcsA:∀q,q<A.n->∀f:Int->Int->R->Nat->R,(∀s t q,f s t zero q=zero)->sum (λk=>f (C.ain (oa+q) k) (C.aout (oa+q) k) (C.aw (oa+q) k) (C.ato (oa+q) k)) (C.na (oa+q))=sum (λk=>f (A.ain q k) (A.aout q k) (A.aw q k) (oa+A.ato q k)) (A.na q)+f 0 0 (A.fin q) (ob+B.start)
 arcsB:∀p,p<B.n->∀f:Int->Int->R->Nat->R,sum (λk=>f (C.ain (ob+p) k) (C.aout (ob+p) k) (C.aw (ob+p) k) (C.ato (ob+p) k)) (C.na (ob+p))=sum (λk=>f (B.ain p k) (B.aout p k) (B.aw p k) (ob+B.ato p k)) (B.na p)
section
variable{A B C:RM R}{oa ob:Nat}(h:CatOf A B C oa ob)(hA:Inn A)(hB:Inn B)(hs:B.start<B.n)
include h
end
variable[CSC R]
theorem KH{A:RM R}(h:AccR A)(c:Inn A)(d:A.start<A.n)(x:List Int):rel A x x=rel (inZ A) x [] :=
 Lub.eq ((Fv c d x x).congr (λN=>by rw[Qn h c N _ d];rfl)) (Fv (show Inn (inZ A) from c) d x [])
theorem Rp{A:RM R}(c:Inn A)(k:∀i,i<na->x i≠0)(y:Nat->Int){i:Nat}(hi:i<na)(v:Nat->R):dot A.n v (cAt A na x 0 y i 0)=dot A.n (stp A (x i) 0 (rst (sil A) A.n v)) (cAt A na x 0 y (i+1) 0):=by
 have d:dot A.n v (cAt A na x 0 y i 0)=dot A.n v (sol (sil A) A.n (λp=>dT A p (ls x na i) (ls y 0 0))):=BP (λ_ _=>rfl) (λq h=>Lu c h _ _);rw[d,JA,Hl c];refine BP (λ_ _=>rfl) (λp l=>?_);rw[Jo k (λj g=>absurd g (Nat.not_lt_zero j)) (by omega) (Nat.le_refl 0)];unfold fAt gAt;simp[show ¬i=na by omega,hi,z0,a0]
theorem Ro{A:RM R}(d:Inn A)(k:∀i,i<na->x i≠0)(y:Nat->Int)(v:Nat->R):dot A.n v (cAt A na x 0 y na 0)=dot A.n (rst (sil A) A.n v) A.fin:=by
 have c:dot A.n v (cAt A na x 0 y na 0)=dot A.n v (sol (sil A) A.n (λp=>dT A p (ls x na na) (ls y 0 0))):=BP (λ_ _=>rfl) (λq h=>Lu d h _ _);rw[c,JA];refine BP (λ_ _=>rfl) (λp l=>?_);rw[Jo k (λj g=>absurd g (Nat.not_lt_zero j)) nlr (Nat.le_refl 0)];unfold fAt gAt;simp[z0,a0]
end
end
section
open CSR
variable{L L' N c:Nat}
section
variable{R:Type}[CSR R]
def ws(m:Nat):Nat->(List Int->R)->R
 |0,G=>G []
 |L+1,G=>G []+sum (λi=>ws m L (λz=>G (((i:Int)+1)::z))) m
section
variable{m:Nat}
theorem BO:∀(L:Nat) {G H:List Int->R},(∀z,G z=H z)->ws m L G=ws m L H
 |0,G,H,h=>h []
 |L+1,G,H,h=>by
  show G []+_=H []+_;rw[h [],sum_congr (λi _=>BO L (λz=>h _))]
theorem IV:∀(L:Nat) {G H:List Int->R},(∀z,le (G z) (H z))->le (ws m L G) (ws m L H)
 |0,G,H,h=>h []
 |L+1,G,H,h=>le_plus (h []) (sum_le λi _=>IV L (λz=>h _))
theorem GM:∀(L:Nat) (G H:List Int->R),ws m L (λz=>G z+H z)=ws m L G+ws m L H
 |0,_,_=>rfl
 |L+1,G,H=>by
  show G []+H []+sum _ m=(G []+sum _ m)+(H []+sum _ m);rw[sum_congr (λi _=>GM L (λz=>G (((i:Int)+1)::z)) (λz=>H (((i:Int)+1)::z))),sum_add,aA,aA,aL (H [])]
theorem GN(c:R):∀(L:Nat) (G:List Int->R),ws m L (λz=>c*G z)=c*ws m L G
 |0,_=>rfl
 |L+1,G=>by
  show c*G []+sum _ m=c*(G []+sum _ m);rw[mD,mul_sum,sum_congr (λi _=>GN c L (λz=>G (((i:Int)+1)::z)))]
theorem Di:∀(L:Nat),ws m L (λ_=>(zero:R))=zero
 |0=>rfl
 |L+1=>by
  show zero+sum _ m=zero;rw[z0,sum_congr (g:=λ_=>zero) (λi _=>Di L),sum_zero]
theorem GO(L:Nat)(G:Nat->List Int->R):∀n,ws m L (λz=>sum (λk=>G k z) n)=sum (λk=>ws m L (G k)) n
 |0=>Di L
 |n+1=>by
  show ws m L (λz=>sum (λk=>G k z) n+G n z)=_;rw[GM,GO L G n];rfl
theorem LA(L:Nat)(c:Prop)[Decidable c](G:List Int->R):ws m L (λz=>if c then G z else zero)=if c then ws m L G else zero:=by
 by_cases h:c
 ·simp only[ifp h]
 simp only[ifn h];exact Di L
theorem QM{G:List Int->R}(h:∀z,z≠[]->G z=zero):∀L,ws m L G=G []
 |0=>rfl
 |L+1=>by
  show G []+sum _ m=G [];rw[sum_congr (g:=λ_=>zero) (λi _=>(BO L (λz=>h _ (by simp))).trans (Di L)),sum_zero,a0]
theorem QO:∀(L:Nat) (G:List Int->R),le (ws m L G) (ws m (L+1) G)
 |0,G=>le_add _ _
 |L+1,G=>le_plus (le_refl _) (sum_le λi _=>QO L _)
theorem QP(h:L<=L')(G:List Int->R):le (ws m L G) (ws m L' G):=(show Mono (λL=>ws m L G) from λL=>QO L G).to h
theorem Lz(L:Nat)(f:List Int->List Int->List Int->R)(o p:Option (List Int)):ws m L (λz=>evO (λa b=>f a b z) o p)=evO (λa b=>ws m L (f a b)) o p:=by
 cases o<;>cases p<;>first|rfl|exact Di L
end
def arcF(A:RM R)(fl:Bool)(N p k:Nat)(x z:List Int):R:=if A.aout p k=0 then (if fl=false then arcT A (unr A N) p k x z else zero) else arcT A (unr A N) p k x z
def unrF(A:RM R)(fl:Bool):Nat->Nat->List Int->List Int->R
 |0,_,_,_=>zero
 |N+1,p,x,z=>endT A p x z+sum (λk=>arcF A fl N p k x z) (A.na p)
theorem Ln(A:RM R):∀N p x z,unrF A false N p x z=unr A N p x z
 |0,_,_,_=>rfl
 |N+1,p,x,z=>by
  show endT A p x z+_=endT A p x z+_
  congr 1
  refine sum_congr λk _=>?_;unfold arcF;split<;>rfl
theorem YA(A:RM R)(fl:Bool):∀N p x z,le (unrF A fl N p x z) (unrF A fl (N+1) p x z)
 |0,_,_,_=>zero_le _
 |N+1,p,x,z=>le_plus (le_refl _) (sum_le λk _=>by
  unfold arcF
  split
  ·split
   ·exact GV (λx y=>DK A N _ x y) x z
   exact le_refl _
  exact GV (λx y=>DK A N _ x y) x z)
theorem YB(A:RM R)(fl:Bool)(p:Nat)(x z:List Int)(h:N<=c):le (unrF A fl N p x z) (unrF A fl c p x z):=(show Mono (λN=>unrF A fl N p x z) from λN=>YA A fl N p x z).to h
theorem Qm{A:RM R}{p:Nat}(h:∀k,k<A.na p->A.aout p k≠0)(fl:Bool):∀N x z,unrF A fl N p x z=unrF A true N p x z
 |0,_,_=>rfl
 |N+1,x,z=>by
  show endT A p x z+_=endT A p x z+_
  congr 1
  refine sum_congr λk hk=>?_;unfold arcF;rw[ifn (h k hk),ifn (h k hk)]
def Hs(A B:RM R)(m L:Nat)(fl:Bool)(N N' p q:Nat)(x y:List Int):R:=ws m L (λz=>unrF A fl N p x z*unr B N' q z y)
theorem GP(A B:RM R)(m:Nat)(fl:Bool){K d:Nat}(p q:Nat)(x y:List Int)(g:L<=L')(h:N<=K)(i:d<=c):le (Hs A B m L fl N d p q x y) (Hs A B m L' fl K c p q x y) :=
 le_trans (IV L (λz=>le_mul (YB A fl p x z h) ((YC B q z y).to i))) (QP g _)
def SAt(A:RM R)(N p:Nat)(x z:List Int):R:=sum (λk=>if A.aout p k=0 then arcT A (unr A N) p k x z else zero) (A.na p)
def TAt(A:RM R)(N p:Nat)(x z:List Int):R:=sum (λk=>if A.aout p k=0 then zero else arcT A (unr A N) p k x z) (A.na p)
def SBt(B:RM R)(N q:Nat)(z y:List Int):R:=sum (λj=>if B.ain q j=0 then arcT B (unr B N) q j z y else zero) (B.na q)
def TBt(B:RM R)(N q:Nat)(z y:List Int):R:=sum (λj=>if B.ain q j=0 then zero else arcT B (unr B N) q j z y) (B.na q)
theorem Ql(A:RM R)(fl:Bool)(N p:Nat)(x z:List Int):unrF A fl (N+1) p x z=(if fl=false then SAt A N p x z else zero)+(endT A p x z+TAt A N p x z):=by
 show endT A p x z+sum (λk=>arcF A fl N p k x z) (A.na p)=_;rw[aL]
 congr 1
 unfold SAt TAt;cases fl
 ·rw[ifp rfl,<-sum_add];refine sum_congr λk _=>?_;unfold arcF;by_cases h:A.aout p k=0
  ·rw[ifp h,ifp h,ifp h,ifp rfl,a0]
  rw[ifn h,ifn h,ifn h,z0]
 rw[ifn (by simp),z0];refine sum_congr λk _=>?_;unfold arcF;by_cases h:A.aout p k=0
 ·rw[ifp h,ifp h,ifn (by simp)]
 rw[ifn h,ifn h]
theorem Yz(B:RM R)(N q:Nat)(z y:List Int):unr B (N+1) q z y=endT B q z y+(SBt B N q z y+TBt B N q z y):=by
 show endT B q z y+sum (λj=>arcT B (unr B N) q j z y) (B.na q)=_
 congr 1
 unfold SBt TBt;rw[<-sum_add];refine sum_congr λj _=>?_;by_cases h:B.ain q j=0
 ·rw[ifp h,ifp h,a0]
 rw[ifn h,ifn h,z0]
theorem LE(A:RM R)(N p:Nat)(x:List Int):TAt A N p x []=zero:=by
 unfold TAt;rw[sum_congr (g:=λ_=>zero) (λk _=>?_),sum_zero]
 split
 ·rfl
 rename_i h;rw[Dl,KF h];cases red (A.ain p k) x<;>exact m0 _
theorem QV(B:RM R)(N q:Nat)(y:List Int):TBt B N q [] y=zero:=by
 unfold TBt;rw[sum_congr (g:=λ_=>zero) (λk _=>?_),sum_zero]
 split
 ·rfl
 rename_i h;rw[Dl,KF h];exact m0 _
theorem Wk(A B:RM R)(fl:Bool)(N c p q:Nat)(x z y:List Int):unrF A fl (N+1) p x z*unr B (c+1) q z y =
  endT A p x z*endT B q z y+((if fl=false then SAt A N p x z*unr B (c+1) q z y else zero)+(unrF A true (N+1) p x z*SBt B c q z y+TAt A N p x z*TBt B c q z y)):=by
 have c1:endT A p x z*TBt B c q z y=zero:=by
  by_cases h:z=[]
  ·subst h;rw[QV,m0]
  rw[show endT A p x z=zero from ifn (λe=>h e.2),zm]
 have c2:TAt A N p x z*endT B q z y=zero:=by
  by_cases h:z=[]
  ·subst h;rw[LE,zm]
  rw[show endT B q z y=zero from ifn (λe=>h e.1),m0]
 have d:unrF A true (N+1) p x z=endT A p x z+TAt A N p x z:=by
  rw[Ql,ifn (by simp),z0]
 have g:(endT A p x z+TAt A N p x z)*unr B (c+1) q z y=endT A p x z*endT B q z y+((endT A p x z+TAt A N p x z)*SBt B c q z y+TAt A N p x z*TBt B c q z y):=by
  rw[Yz,mD,mD,dM _ _ (endT B q z y),c2,a0,dM _ _ (TBt B c q z y),c1,z0]
 rw[Ql,dM,d,g,aL]
 congr 1
 split
 ·rfl
 rw[zm]
theorem LD{A B:RM R}{m:Nat}(K:∀p k,p<A.n->k<A.na p->A.aout p k≠0->∃i:Nat,i<m/\A.aout p k=(i:Int)+1)(L:Nat)(fl:Bool)(N c p q:Nat)(P:p<A.n)(x y:List Int):
  Hs A B m (L+1) fl (N+1) (c+1) p q x y =
   (if x=[]/\y=[] then A.fin p*B.fin q else zero) +
   (sum (λk=>if A.aout p k=0 then (if fl=false then A.aw p k*evO (λa b=>Hs A B m (L+1) false N (c+1) (A.ato p k) q a b) (red (A.ain p k) x) (some y) else zero)
    else sum (λj=>if B.ain q j=A.aout p k then A.aw p k*B.aw q j*evO (λa b=>Hs A B m L false N c (A.ato p k) (B.ato q j) a b) (red (A.ain p k) x) (red (B.aout q j) y) else zero) (B.na q)) (A.na p) +
   sum (λj=>if B.ain q j=0 then B.aw q j*evO (λa b=>Hs A B m (L+1) true (N+1) c p (B.ato q j) a b) (some x) (red (B.aout q j) y) else zero) (B.na q)):=by
 have F:ws m (L+1) (λz=>endT A p x z*endT B q z y)=if x=[]/\y=[] then A.fin p*B.fin q else zero:=by
  rw[QM (λz Q=>by rw[show endT A p x z=zero from ifn (λe=>Q e.2),zm])];unfold endT;by_cases u:x=[]
  ·by_cases C:y=[]
   ·simp[u,C]
   simp[u,C,m0]
  simp[u,zm]
 have d:ws m (L+1) (λz=>if fl=false then SAt A N p x z*unr B (c+1) q z y else zero)=sum (λk=>if A.aout p k=0 then (if fl=false then A.aw p k*evO (λa b=>Hs A B m (L+1) false N (c+1) (A.ato p k) q a b) (red (A.ain p k) x) (some y) else zero) else zero) (A.na p):=by
  rw[LA];by_cases hf:fl=false
  ·rw[ifp hf];have l:∀z,SAt A N p x z*unr B (c+1) q z y=sum (λk=>if A.aout p k=0 then A.aw p k*evO (λa b=>unrF A false N (A.ato p k) a z*unr B (c+1) q z b) (red (A.ain p k) x) (some y) else zero) (A.na p):=λz=>by
    unfold SAt;rw[sum_mul];refine sum_congr λk _=>?_;by_cases h:A.aout p k=0
    ·rw[ifp h,ifp h,Dl,h,Ef,mA,<-TJ]
     congr 1
     cases red (A.ain p k) x with
     |none=>rfl
     |some a=>show unr A N (A.ato p k) a z*_=unrF A false N (A.ato p k) a z*_;rw[Ln]
    rw[ifn h,ifn h,zm]
   rw[BO _ l,GO];refine sum_congr λk _=>?_;rw[LA];by_cases h:A.aout p k=0
   ·rw[ifp h,ifp h,ifp hf,GN,Lz];rfl
   rw[ifn h,ifn h]
  rw[ifn hf,sum_congr (g:=λ_=>zero) (λk _=>by rw[ifn hf];split<;>rfl),sum_zero]
 have G:ws m (L+1) (λz=>unrF A true (N+1) p x z*SBt B c q z y)=sum (λj=>if B.ain q j=0 then B.aw q j*evO (λa b=>Hs A B m (L+1) true (N+1) c p (B.ato q j) a b) (some x) (red (B.aout q j) y) else zero) (B.na q):=by
  have l:∀z,unrF A true (N+1) p x z*SBt B c q z y=sum (λj=>if B.ain q j=0 then B.aw q j*evO (λa b=>unrF A true (N+1) p a z*unr B c (B.ato q j) z b) (some x) (red (B.aout q j) y) else zero) (B.na q):=λz=>by
   unfold SBt;rw[mul_sum];refine sum_congr λj _=>?_;by_cases h:B.ain q j=0
   ·rw[ifp h,ifp h,Dl,h,Ef,<-mA,mC (unrF _ _ _ _ _ _),mA,<-TI]
    congr 1
    cases red (B.aout q j) y<;>rfl
   rw[ifn h,ifn h,m0]
  rw[BO _ l,GO];refine sum_congr λj _=>?_;rw[LA];by_cases h:B.ain q j=0
  ·rw[ifp h,ifp h,GN,Lz];rfl
  rw[ifn h,ifn h]
 have I:ws m (L+1) (λz=>TAt A N p x z*TBt B c q z y)=sum (λk=>if A.aout p k=0 then zero else sum (λj=>if B.ain q j=A.aout p k then A.aw p k*B.aw q j*evO (λa b=>Hs A B m L false N c (A.ato p k) (B.ato q j) a b) (red (A.ain p k) x) (red (B.aout q j) y) else zero) (B.na q)) (A.na p):=by
  show TAt A N p x []*TBt B c q [] y+_=_;rw[LE,zm,z0];have l:∀i:Nat,ws m L (λz=>TAt A N p x (((i:Int)+1)::z)*TBt B c q (((i:Int)+1)::z) y) =
    sum (λk=>sum (λj=>if A.aout p k=(i:Int)+1/\B.ain q j=(i:Int)+1 then A.aw p k*B.aw q j*evO (λa b=>Hs A B m L false N c (A.ato p k) (B.ato q j) a b) (red (A.ain p k) x) (red (B.aout q j) y) else zero) (B.na q)) (A.na p):=λi=>by
   have hi:((i:Int)+1)≠0:=by omega
   have D:∀z,TAt A N p x (((i:Int)+1)::z)=sum (λk=>if A.aout p k=(i:Int)+1 then A.aw p k*evO (λa _=>unr A N (A.ato p k) a z) (red (A.ain p k) x) (some []) else zero) (A.na p):=λz=>by
    unfold TAt;refine sum_congr λk _=>?_;by_cases h:A.aout p k=0
    ·rw[ifp h,ifn (by omega)]
    rw[ifn h,Dl];by_cases d:A.aout p k=(i:Int)+1
    ·rw[ifp d,d,KC hi]
     congr 1
     cases red (A.ain p k) x<;>rfl
    rw[ifn d,KE h (λe=>d e.symm)];cases red (A.ain p k) x<;>exact m0 _
   have E:∀z,TBt B c q (((i:Int)+1)::z) y=sum (λj=>if B.ain q j=(i:Int)+1 then B.aw q j*evO (λ_ b=>unr B c (B.ato q j) z b) (some []) (red (B.aout q j) y) else zero) (B.na q):=λz=>by
    unfold TBt;refine sum_congr λj _=>?_;by_cases h:B.ain q j=0
    ·rw[ifp h,ifn (by omega)]
    rw[ifn h,Dl];by_cases d:B.ain q j=(i:Int)+1
    ·rw[ifp d,d,KC hi]
     congr 1
     cases red (B.aout q j) y<;>rfl
    rw[ifn d,KE h (λe=>d e.symm)];exact m0 _
   rw[BO L (λz=>by rw[D z,E z,sum_mul]),GO];refine sum_congr λk _=>?_;by_cases h:A.aout p k=(i:Int)+1
   ·simp only[ifp h];rw[BO L (λz=>mul_sum _ _ _),GO];refine sum_congr λj _=>?_;by_cases d:B.ain q j=(i:Int)+1
    ·simp only[ifp d,h,true_and,if_true];rw[BO (H:=λz=>A.aw p k*B.aw q j*evO (λa b=>unrF A false N (A.ato p k) a z*unr B c (B.ato q j) z b) (red (A.ain p k) x) (red (B.aout q j) y)) L (λz=>?_),GN,Lz]
     ·rfl
     rw[mA,mA]
     congr 1
     rw[<-mA,mC _ (B.aw q j),mA]
     congr 1
     cases red (A.ain p k) x with
     |none=>cases red (B.aout q j) y<;>exact zm _
     |some a=>cases red (B.aout q j) y with
      |none=>exact m0 _
      |some b=>show unr A N (A.ato p k) a z*unr B c (B.ato q j) z b=unrF A false N (A.ato p k) a z*unr B c (B.ato q j) z b;rw[Ln]
    simp only[ifn d];rw[ifn (λe=>d e.2),BO L (λz=>m0 _),Di]
   simp only[ifn h];rw[BO L (λz=>zm _),Di,sum_congr (g:=λ_=>zero) (λj _=>ifn (λe=>h e.1)),sum_zero]
  rw[sum_congr (λi _=>l i),sum_comm];refine sum_congr λk J=>?_;by_cases h:A.aout p k=0
  ·rw[ifp h,sum_congr (g:=λ_=>zero) (λi _=>by rw[sum_congr (g:=λ_=>zero) (λj _=>ifn (λe=>by omega)),sum_zero]),sum_zero]
  rw[ifn h];obtain⟨i0,o,s⟩:=K p k P J h;rw[sum_single _ o (λi _ O=>by rw[sum_congr (g:=λ_=>zero) (λj _=>ifn (λe=>by omega)),sum_zero])];refine sum_congr λj _=>?_;rw[s];simp only[true_and]
 unfold Hs;rw[BO _ (λz=>Wk A B fl N c p q x z y),GM,GM,GM,F,d,G,I]
 congr 1
 rw[aL,aC]
 congr 1
 rw[<-sum_add];refine sum_congr λk _=>?_;by_cases h:A.aout p k=0
 ·rw[ifp h,ifp h,ifp h,a0];rfl
 rw[ifn h,ifn h,ifn h,z0];rfl
structure CmpOf(A B M:RM R)(idx:Nat->Nat->Bool->Nat)(Rch:Nat->Nat->Bool->Prop):Prop where
 lead:M.lead=A.lead*B.lead
 start:M.start=idx A.start B.start false
 rs:Rch A.start B.start false
 lt:∀p q fl,Rch p q fl->idx p q fl<M.n/\p<A.n/\q<B.n
 fin:∀p q fl,Rch p q fl->M.fin (idx p q fl)=A.fin p*B.fin q
 arcs:∀p q fl,Rch p q fl->∃fl':Bool,(fl'=true\/∀k,k<A.na p->A.aout p k≠0)/\
  (∀k,k<A.na p->A.aout p k=0->fl=false->Rch (A.ato p k) q false)/\
  (∀k j,k<A.na p->j<B.na q->A.aout p k≠0->B.ain q j=A.aout p k->Rch (A.ato p k) (B.ato q j) false)/\
  (∀j,j<B.na q->B.ain q j=0->Rch p (B.ato q j) fl')/\
  ∀F:Int->Int->R->Nat->R,sum (λk=>F (M.ain (idx p q fl) k) (M.aout (idx p q fl) k) (M.aw (idx p q fl) k) (M.ato (idx p q fl) k)) (M.na (idx p q fl)) =
   sum (λk=>if A.aout p k=0 then (if fl=false then F (A.ain p k) 0 (A.aw p k) (idx (A.ato p k) q false) else zero)
    else sum (λj=>if B.ain q j=A.aout p k then F (A.ain p k) (B.aout q j) (A.aw p k*B.aw q j) (idx (A.ato p k) (B.ato q j) false) else zero) (B.na q)) (A.na p) +
   sum (λj=>if B.ain q j=0 then F 0 (B.aout q j) (B.aw q j) (idx p (B.ato q j) fl') else zero) (B.na q)
section
variable{A B M:RM R}{idx:Nat->Nat->Bool->Nat}{Rch:Nat->Nat->Bool->Prop}(h:CmpOf A B M idx Rch){m:Nat}(hm:∀p k,p<A.n->k<A.na p->A.aout p k≠0->∃i:Nat,i<m/\A.aout p k=(i:Int)+1)
include h
theorem CmpOf.unr{p q:Nat}{fl:Bool}(c:Rch p q fl)(N:Nat)(x y:List Int):∃fl':Bool,(fl'=true\/∀k,k<A.na p->A.aout p k≠0)/\
  (∀k,k<A.na p->A.aout p k=0->fl=false->Rch (A.ato p k) q false)/\
  (∀k j,k<A.na p->j<B.na q->A.aout p k≠0->B.ain q j=A.aout p k->Rch (A.ato p k) (B.ato q j) false)/\
  (∀j,j<B.na q->B.ain q j=0->Rch p (B.ato q j) fl')/\
  Go.Proofs.YtpldocnhbdlgfaaGreatDoor.unr M (N+1) (idx p q fl) x y=(if x=[]/\y=[] then A.fin p*B.fin q else zero) +
   (sum (λk=>if A.aout p k=0 then (if fl=false then A.aw p k*evO (Go.Proofs.YtpldocnhbdlgfaaGreatDoor.unr M N (idx (A.ato p k) q false)) (red (A.ain p k) x) (some y) else zero)
    else sum (λj=>if B.ain q j=A.aout p k then A.aw p k*B.aw q j*evO (Go.Proofs.YtpldocnhbdlgfaaGreatDoor.unr M N (idx (A.ato p k) (B.ato q j) false)) (red (A.ain p k) x) (red (B.aout q j) y) else zero) (B.na q)) (A.na p) +
   sum (λj=>if B.ain q j=0 then B.aw q j*evO (Go.Proofs.YtpldocnhbdlgfaaGreatDoor.unr M N (idx p (B.ato q j) fl')) (some x) (red (B.aout q j) y) else zero) (B.na q)):=by
 obtain⟨fl',d,g,i,l,m⟩:=h.arcs p q fl c;refine⟨fl',d,g,i,l,?_⟩;show endT M (idx p q fl) x y+sum (λk=>arcT M (Go.Proofs.YtpldocnhbdlgfaaGreatDoor.unr M N) (idx p q fl) k x y) (M.na (idx p q fl))=_
 congr 1
 ·unfold endT;rw[h.fin p q fl c]
 rw[sum_congr (λk _=>Dl M (Go.Proofs.YtpldocnhbdlgfaaGreatDoor.unr M N) (idx p q fl) k x y),m (λs t w r=>w*evO (Go.Proofs.YtpldocnhbdlgfaaGreatDoor.unr M N r) (red s x) (red t y))];simp only[Ef]
include hm
theorem CmpOf.upper:∀N p q fl,Rch p q fl->∀x y,le (Go.Proofs.YtpldocnhbdlgfaaGreatDoor.unr M N (idx p q fl) x y) (Hs A B m N fl N N p q x y)
 |0,_,_,_,_,_,_=>zero_le _
 |N+1,p,q,fl,hr,x,y=>by
  obtain⟨fl',h1,h2,h3,h4,h5⟩:=h.unr hr N x y;rw[h5,LD hm N fl N N p q (h.lt p q fl hr).2.1 x y];refine le_plus (le_refl _) (le_plus (sum_le λk hk=>?_) (sum_le λj hj=>?_))
  ·by_cases e:A.aout p k=0
   ·rw[ifp e,ifp e];by_cases e2:fl=false
    ·rw[ifp e2,ifp e2];refine le_times _ (EV λa b _ _=>?_);exact le_trans (CmpOf.upper N _ _ _ (h2 k hk e e2) a b) (GP A B m false _ _ a b (by omega) (by omega) (by omega))
    rw[ifn e2,ifn e2];exact le_refl _
   rw[ifn e,ifn e];refine sum_le λj hj=>?_;by_cases e2:B.ain q j=A.aout p k
   ·rw[ifp e2,ifp e2];refine le_times _ (EV λa b _ _=>?_);exact CmpOf.upper N _ _ _ (h3 k j hk hj e e2) a b
   rw[ifn e2,ifn e2];exact le_refl _
  by_cases e:B.ain q j=0
  ·rw[ifp e,ifp e];refine le_times _ (EV λa b _ _=>?_);have h6:=le_trans (CmpOf.upper N _ _ _ (h4 j hj e) a b) (GP A B m fl' (K:=N+1) _ _ a b (show N<=N+1 by omega) (show N<=N+1 by omega) (Nat.le_refl N));have h7:Hs A B m (N+1) fl' (N+1) N p (B.ato q j) a b=Hs A B m (N+1) true (N+1) N p (B.ato q j) a b:=by
    rcases h1 with e2|e2
    ·rw[e2]
    unfold Hs;exact BO _ (λz=>by rw[Qm e2 fl'])
   rw[h7]at h6;exact h6
  rw[ifn e,ifn e];exact le_refl _
theorem CmpOf.lower:∀T N N' L p q fl,N+N'=T->Rch p q fl->∀x y,le (Hs A B m L fl N N' p q x y) (Go.Proofs.YtpldocnhbdlgfaaGreatDoor.unr M T (idx p q fl) x y)
 |T,0,N',L,p,q,fl,_,_,x,y=>by
  have e:Hs A B m L fl 0 N' p q x y=zero:=(BO L (λz=>zm _)).trans (Di L);rw[e];exact zero_le _
 |T,N+1,0,L,p,q,fl,_,_,x,y=>by
  have e:Hs A B m L fl (N+1) 0 p q x y=zero:=(BO L (λz=>m0 _)).trans (Di L);rw[e];exact zero_le _
 |0,N+1,N'+1,L,p,q,fl,hT,_,x,y=>absurd hT (by omega)
 |T+1,N+1,N'+1,L,p,q,fl,hT,hr,x,y=>by
  obtain⟨fl',h1,h2,h3,h4,h5⟩:=h.unr hr T x y;refine le_trans (GP A B m fl p q x y (Nat.le_succ L) nlr nlr) ?_;rw[h5,LD hm L fl N N' p q (h.lt p q fl hr).2.1 x y];refine le_plus (le_refl _) (le_plus (sum_le λk hk=>?_) (sum_le λj hj=>?_))
  ·by_cases e:A.aout p k=0
   ·rw[ifp e,ifp e];by_cases e2:fl=false
    ·rw[ifp e2,ifp e2];refine le_times _ (EV λa b _ _=>?_);exact CmpOf.lower T N (N'+1) (L+1) _ _ _ (by omega) (h2 k hk e e2) a b
    rw[ifn e2,ifn e2];exact le_refl _
   rw[ifn e,ifn e];refine sum_le λj hj=>?_;by_cases e2:B.ain q j=A.aout p k
   ·rw[ifp e2,ifp e2];refine le_times _ (EV λa b _ _=>?_);refine le_trans ?_ (CmpOf.lower T N (N'+1) L _ _ _ (by omega) (h3 k j hk hj e e2) a b);exact GP A B m false _ _ a b nlr nlr (by omega)
   rw[ifn e2,ifn e2];exact le_refl _
  by_cases e:B.ain q j=0
  ·rw[ifp e,ifp e];refine le_times _ (EV λa b _ _=>?_);have h6:=CmpOf.lower T (N+1) N' (L+1) _ _ _ (by omega) (h4 j hj e) a b;have h7:Hs A B m (L+1) fl' (N+1) N' p (B.ato q j) a b=Hs A B m (L+1) true (N+1) N' p (B.ato q j) a b:=by
    rcases h1 with e2|e2
    ·rw[e2]
    unfold Hs;exact BO _ (λz=>by rw[Qm e2 fl'])
   rw[h7]at h6;exact h6
  rw[ifn e,ifn e];exact le_refl _
end
def IsCmp(m:Nat)(f g:List Int->List Int->R)(x y:List Int)(v:R):Prop:=Lub (λL=>ws m L (λz=>f x z*g z y)) v
theorem IsCmp.eq{m:Nat}{f g:List Int->List Int->R}{x y:List Int}{v w:R}(h:IsCmp m f g x y v)(k:IsCmp m f g x y w):v=w:=Lub.eq h k
variable[CSC R]
theorem QL{m:Nat}:∀(L:Nat) {G:Nat->List Int->R} {g:List Int->R},(∀z,Lub (λN=>G N z) (g z))->(∀z,Mono (λN=>G N z))->Lub (λN=>ws m L (G N)) (ws m L g)
 |0,_,_,h,_=>h []
 |L+1,G,g,h,k=>Lub.add (h []) (Lub.sum (λi _=>QL L (λz=>h _) (λz=>k _)) (λi _ N=>IV L (λz=>k _ N))) (k []) (λN=>sum_le λi _=>IV L (λz=>k _ N))
theorem CmpOf.rel{A B M:RM R}{o:Nat->Nat->Bool->Nat}{d:Nat->Nat->Bool->Prop}(h:CmpOf A B M o d){m:Nat}(s:∀p k,p<A.n->k<A.na p->A.aout p k≠0->∃i:Nat,i<m/\A.aout p k=(i:Int)+1)
  (E:Inn A) (F:Inn B) (G:Inn M) (x y:List Int):IsCmp m (Go.Proofs.YtpldocnhbdlgfaaGreatDoor.rel A) (Go.Proofs.YtpldocnhbdlgfaaGreatDoor.rel B) x y (Go.Proofs.YtpldocnhbdlgfaaGreatDoor.rel M x y):=by
 obtain⟨l,g,j⟩:=h.lt _ _ _ h.rs;have C:=Fv G (by rw[h.start];exact l) x y;have D:∀L,Lub (λN=>ws m L (λz=>A.lead*Go.Proofs.YtpldocnhbdlgfaaGreatDoor.unr A N A.start x z*(B.lead*Go.Proofs.YtpldocnhbdlgfaaGreatDoor.unr B N B.start z y))) (ws m L (λz=>Go.Proofs.YtpldocnhbdlgfaaGreatDoor.rel A x z*Go.Proofs.YtpldocnhbdlgfaaGreatDoor.rel B z y)):=λL =>
  QL L (λz=>(Fv E g x z).mul (Fv F j z y) (λN=>le_times _ (DK A N _ _ _)) (λN=>le_times _ (DK B N _ _ _)))
   (λz=>Mono.mul (λN=>le_times _ (DK A N _ _ _)) (λN=>le_times _ (DK B N _ _ _)))
 have e:∀L N,ws m L (λz=>A.lead*Go.Proofs.YtpldocnhbdlgfaaGreatDoor.unr A N A.start x z*(B.lead*Go.Proofs.YtpldocnhbdlgfaaGreatDoor.unr B N B.start z y))=M.lead*Hs A B m L false N N A.start B.start x y:=λL N=>by
  unfold Hs;rw[h.lead,<-GN];refine BO L (λz=>?_);rw[Ln,mA,mA,<-mA (Go.Proofs.YtpldocnhbdlgfaaGreatDoor.unr A N A.start x z) B.lead,mC (Go.Proofs.YtpldocnhbdlgfaaGreatDoor.unr A N A.start x z) B.lead,mA]
 refine⟨λL=>(D L).2 _ (λN=>?_),λu H=>C.2 u (λN=>?_)⟩
 ·show le (ws m L (λz=>A.lead*Go.Proofs.YtpldocnhbdlgfaaGreatDoor.unr A N A.start x z*(B.lead*Go.Proofs.YtpldocnhbdlgfaaGreatDoor.unr B N B.start z y))) _;rw[e L N];refine le_trans (le_times _ (h.lower s (N+N) N N L _ _ _ rfl h.rs x y)) ?_;have c:=C.1<|N+N;rw[h.start]at c;exact c
 have c:le (M.lead*Go.Proofs.YtpldocnhbdlgfaaGreatDoor.unr M N M.start x y) (M.lead*Hs A B m N false N N A.start B.start x y):=by
  rw[h.start];exact le_times _ (h.upper s N _ _ _ h.rs x y)
 rw[<-e N N]at c;exact le_trans c (le_trans ((D N).1 N) (H N))
end
end
end Go.Proofs.YtpldocnhbdlgfaaGreatDoor
