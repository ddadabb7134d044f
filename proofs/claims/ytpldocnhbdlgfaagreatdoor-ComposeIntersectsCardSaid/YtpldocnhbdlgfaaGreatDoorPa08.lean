/- Parts. -/
import Derived.Test.YtpldocnhbdlgfaaGreatDoorPa06
import Derived.Test.YtpldocnhbdlgfaaGreatDoorPa07
import Derived.Deep.OwnRows
import Derived.Deep.AppendLies
import Derived.Deep.Light
import Derived.Lib.SlBuf
namespace Go.Proofs.YtpldocnhbdlgfaaGreatDoor
set_option maxRecDepth 100000
set_option linter.all false
set_option maxHeartbeats 16000000
open Go Tryz
section
open Go.RowKit
def Gl(v u:V)(w:World)(A:fitV v)(p:fitV u):Calls prog 184 #[.string (vtxt v),.string (vtxt u)] w (IntEnd (cmpV v u) w):=by
 have K:∀(a b:ByteArray) (z:Int) (i:z=0/\a=b\/a≠b) (c:a≠b->a≠infS->a≠lowS->b≠infS->b≠lowS->Calls prog 136 #[.string a,.string b] w (IntEnd z w))
   (B:a≠b->((a=lowS\/b=infS)/\z=-1)\/(a≠lowS/\b≠infS/\(b=lowS\/a=infS)/\z=1)\/(a≠lowS/\b≠infS/\b≠lowS/\a≠infS)),
   Calls prog 184 #[.string a,.string b] w (IntEnd z w):=by
  intro a b z i c B
  rcases i with⟨rfl,rfl⟩|i
  ·clear c B
   go_enter func184,ntmps184
   go_wp2;go_ret;exact⟨rfl,blr⟩
  have R:(a.toList==b.toList)=false:=by rw[beq_eq_false_iff_ne];exact NR i
  have o:∀s:ByteArray,s≠lowS->(s.toList==[45,105,110,102])=false:=λs h=>BQ (l:=[45,105,110,102]) h;have D:∀s:ByteArray,s≠infS->(s.toList==[105,110,102])=false:=λs h=>BQ (l:=[105,110,102]) h;replace o:=qh o;replace D:=qh D
  rcases B i with⟨d,rfl⟩|⟨d,k,m,rfl⟩|⟨d,k,m,E⟩
  ·clear c B;by_cases j:a=lowS;have G:(a.toList==[45,105,110,102])=true:=by rw[j,Da];rfl
   rotate_left
   have G:=o.o a j;have L:(b.toList==[105,110,102])=true:=by rw[d.resolve_left j,Cg];rfl
   all_goals
    clear i d j
    go_enter func184,ntmps184
    go_wp2;go_ret;exact⟨rfl,blr⟩
  ·clear c B;have G:=o.o a d;have L:=D.o b k;by_cases g:b=lowS
   ·have N:(b.toList==[45,105,110,102])=true:=by rw[g,Da];rfl
    cases O:(a.toList==[105,110,102])
    all_goals
     clear i d k m g
     go_enter func184,ntmps184
     go_wp2;go_ret;exact⟨rfl,blr⟩
   have N:=o.o b g;have O:(a.toList==[105,110,102])=true:=by rw[m.resolve_left g,Cg];rfl
   clear i d k m g
   go_enter func184,ntmps184
   go_wp2;go_ret;exact⟨rfl,blr⟩
  have G:=o.o a d;have L:=D.o b k;have N:=o.o b m;have O:=D.o a E;have C:=qh<|c i E d k m;clear c B i d k m E
  go_enter func184,ntmps184
  go_wp2_with fail
  refine nxa C.o λS Q=>?_;go_wp2;go_ret;exact⟨rfl,Q.o⟩
 refine K _ _ _ ?_ ?_ ?_
 ·by_cases h:v=u
  ·subst h;exact .inl ⟨(Hh v v).2 rfl,rfl⟩
  exact .inr<|λe=>h (Lv A p e)
 ·intro _ d k m E;cases v with
  |inf=>exact absurd rfl d
  |low=>exact absurd rfl k
  |fin x =>
   cases u with
   |inf=>exact absurd rfl m
   |low=>exact absurd rfl E
   |fin y =>
    have P:=Pr (txt x) (txt y) w (by have:=Dg A;omega) (by have:=Dg p;omega);rw[OE A p]at P;exact P
 intro h;have F:infS≠lowS:=by decide
 have H:∀q:Rat,fitQ q->txt q≠infS:=λq J e=>by have:=GF J;rw[e,Cg]at this;simp at this
 have I:∀q:Rat,fitQ q->txt q≠lowS:=λq J e=>by have:=Lm J;rw[e,Da]at this;simp at this
 cases v with
 |inf =>
  cases u with
  |inf=>exact absurd rfl h
  |low=>exact .inr (.inl ⟨F,Ne.symm F,.inl rfl,rfl⟩)
  |fin y=>exact .inr (.inl ⟨F,H y p,.inr rfl,rfl⟩)
 |low =>
  cases u with
  |inf=>exact .inl ⟨.inl rfl,rfl⟩
  |low=>exact absurd rfl h
  |fin y=>exact .inl ⟨.inl rfl,rfl⟩
 |fin x =>
  cases u with
  |inf=>exact .inl ⟨.inr rfl,rfl⟩
  |low=>exact .inr (.inl ⟨I x A,Ne.symm F,.inl rfl,rfl⟩)
  |fin y=>exact .inr (.inr ⟨I x A,H y p,I y p,H x A⟩)
def Gp(k:Int)(w:World):Calls prog 52 #[.int .i64 k] w λe w'=>e=.returned (.bool (Aw k))/\w=w':=by
 go_enter func52,ntmps52
 unfold Aw;by_cases c:1<=k
 ·have d:decide (1<=k)=true:=by simpa using c
  go_wp2;go_ret;exact⟨by simp[c],rfl⟩
 have d:decide (1<=k)=false:=by simpa using c
 go_wp2;go_ret;exact⟨by simp[c],rfl⟩
def YF{k:Int}(j:Aw k=true)(a:ByteArray):Ak k a=bif (a.toList==[105,110,102])||(a.toList==[45,105,110,102]) then (a.toList==[105,110,102])||decide (k=1) else (prs a).isSome&&(decide (k=1)||decide (0<=Bp a ⟨#[48]⟩)):=by
 have i:k=1\/k=2\/k=3:=by
  rcases CB k with h|h|h|h
  ·exact .inl h
  ·exact .inr (.inl h)
  ·exact .inr (.inr h)
  rw[Eu h]at j;cases j
 by_cases d:a=infS
 ·rw[d,Qv i,Cg];rfl
 have m:(a.toList==[105,110,102])=false:=BQ (l:=[105,110,102]) d;by_cases g:a=lowS
 ·rw[g,Da]
  rcases i with rfl|rfl|rfl
  ·rw[Qw];rfl
  ·decide +kernel
  decide +kernel
 have o:(a.toList==[45,105,110,102])=false:=BQ (l:=[45,105,110,102]) g;rw[m,o];have p:natB a=((prs a).isSome&&decide (0<=Bp a ⟨#[48]⟩)):=by
  unfold natB;cases s:prs a with
  |none=>rfl
  |some q =>
   rw[Ks s]
   rcases BJ q 0 with⟨h,e⟩|⟨h,e⟩|⟨h,e⟩<;>rw[e]
   ·simp;exact Rat.not_le.2 h
   ·subst h;rfl
   simp;exact Rat.le_of_lt h
 by_cases c:k=1
 ·subst c;rw[Qt d g];simp
 rw[Qu (by omega) d,p];simp[c]
theorem CK(k:Int)(a:ByteArray)(w:World)(p:a.size<=9223372036854775807):Calls prog 96 #[.int .i64 k,.string a] w (BoolE (Ak k a) w):=by
 have B:=qh λs=>PU a s p;have C:=qh λs=>Pr a ⟨#[48]⟩ s p (by decide);have u:=qh λh=>YF (k:=k) h a;have z:=qh λh=>GH (k:=k) h a;clear p;generalize Ak k a=va,(prs a).isSome=o,Bp a ⟨#[48]⟩=c at *
 go_enter func96,ntmps96
 go_wp2_with fail
 refine(Gp _ _).mono ?_;rintro e G⟨rfl,rfl⟩;cases i:Aw k
 ·have D:va=false:=z.o (by rcases CB k with rfl|rfl|rfl|h;cases i;cases i;cases i;exact h)
  go_wp2;go_ret;exact⟨AJ D.symm,blr⟩
 have d:=qh<|u.o i;clear u z i;cases l:(a.toList==[105,110,102])<;>cases m:(a.toList==[45,105,110,102])
 rotate_left
 iterate 3
  by_cases g:k=1
  ·go_wp2_with fail
   all_goals
    go_ret;exact⟨AJ (by rw[d.o,l,m];simp[g]),blr⟩
  ·go_wp2_with fail
   all_goals
    go_ret;exact⟨AJ (by rw[d.o,l,m];simp[g]),blr⟩
 rw[l,m]at d
 go_wp2_with fail
 refine nx1 (B.o _) λE j=>?_;cases o
 ·go_wp2;go_ret;exact⟨AJ (by rw[d.o];rfl),j.o⟩
 by_cases g:k=1
 ·go_wp2;go_ret;exact⟨AJ (by rw[d.o];simp[g]),j.o⟩
 go_wp2_with fail
 refine nx2 (C.o _) j λF A=>?_;go_wp2;go_ret;exact⟨AJ (by rw[d.o];simp[g]),A.o⟩
theorem YT(k:Int)(a:ByteArray):Am k a=(Ak k a&&!(a.toList==[105,110,102])&&!(a.toList==[45,105,110,102])&&(k==1||!(a.toList==[48]))):=by
 cases c:rdV a with
 |none =>
  have i:Ak k a=false:=by unfold Ak vprs;rw[c];rfl
  have j:Am k a=false:=by unfold Am;rw[c]
  rw[i,j];rfl
 |some v =>
  obtain⟨m,g⟩:=Gn c;have i:Ak k a=decide (okV k v):=by
   unfold Ak vprs;rw[c];cases h:decide (okV k v)<;>simp[Option.filter,h]
  have j:Am k a=decide (wtV k v):=by unfold Am;rw[c]
  rw[i,j,m,Qq g,Qr g,Qs g];rw[Bool.eq_iff_iff];simp only[Bool.and_eq_true,Bool.or_eq_true,Bool.not_eq_true',decide_eq_true_eq,decide_eq_false_iff_not,beq_iff_eq];cases v with
  |inf=>simp[wtV]
  |low=>simp[wtV]
  |fin q =>
   simp only[wtV,okV,V.fin.injEq]
   constructor
   ·intro h
    rcases h with h|⟨h,d⟩
    ·exact⟨⟨⟨.inl h,by simp⟩,by simp⟩,.inl h⟩
    exact⟨⟨⟨.inr ⟨h,Rat.le_of_lt d⟩,by simp⟩,by simp⟩,.inr (Rat.ne_of_gt d)⟩
   rintro⟨⟨⟨h,_⟩,_⟩,o⟩;by_cases l:k=1
   ·exact .inl l
   right
   rcases h with h|⟨h,d⟩
   ·exact absurd h l
   refine⟨h,Rat.lt_of_le_of_ne d (Ne.symm (o.resolve_left l))⟩
def Kw(k:Int)(a:ByteArray)(w:World)(d:a.size<=9223372036854775807):Calls prog 53 #[.int .i64 k,.string a] w (BoolE (Am k a) w):=by
 rw[YT];have g:=qh λm=>CK k a m d;clear d;generalize Ak k a=o at *
 go_enter func53,ntmps53
 go_wp2_with fail
 refine nx1 (g.o _) λp c=>?_;cases o
 ·go_wp2;go_ret;exact⟨AJ (by simp),c.o⟩
 cases h:(a.toList==[105,110,102])<;>cases i:(a.toList==[45,105,110,102])<;>cases j:(a.toList==[48])<;>by_cases l:k=1
 all_goals
  go_wp2;go_ret;exact⟨AJ (by rw[h,i,j];simp[l]),c.o⟩
def DG(k:Int)(w:World):Calls prog 97 #[.int .i64 k] w (StrE (Aj k) w):=by
 have j:=qh (show Aw k=false->Aj k=⟨#[]⟩ from λh=>by unfold Aj;rw[h];rfl);have g:=qh (show Aw k=true->k=1->Aj k=⟨#[105,110,102]⟩ from λ_ h=>by rw[h];exact QR);have i:=qh (show Aw k=true->k≠1->Aj k=⟨#[48]⟩ from λh c=>by
  rcases CB k with e|e|e|e
  ·exact absurd e c
  ·rw[e];exact Fz
  ·rw[e];exact FA
  rw[Eu e]at h;cases h)
 generalize Aj k=z at *
 go_enter func97,ntmps97
 go_wp2_with fail
 refine(Gp _ _).mono ?_;rintro e l⟨rfl,rfl⟩;cases d:Aw k
 ·go_wp2;go_ret;exact⟨Dt (j.o d).symm,blr⟩
 by_cases c:k=1
 ·go_wp2;go_ret;exact⟨Dt (g.o d c).symm,blr⟩
 go_wp2;go_ret;exact⟨Dt (i.o d c).symm,blr⟩
def Ip(k:Int)(w:World):Calls prog 61 #[.int .i64 k] w (StrE (oneF k) w):=by
 have j:=qh (show Aw k=false->oneF k=⟨#[]⟩ from λh=>by unfold oneF;rw[h];rfl);have g:=qh (show Aw k=true->k=1->oneF k=⟨#[48]⟩ from λ_ h=>by rw[h];exact Ge);have i:=qh (show Aw k=true->k≠1->oneF k=⟨#[49]⟩ from λh c=>by
  rcases CB k with e|e|e|e
  ·exact absurd e c
  ·rw[e];exact Gf
  ·rw[e];exact Gg
  rw[Eu e]at h;cases h)
 generalize oneF k=z at *
 go_enter func61,ntmps61
 go_wp2_with fail
 refine(Gp _ _).mono ?_;rintro e l⟨rfl,rfl⟩;cases d:Aw k
 ·go_wp2;go_ret;exact⟨Dt (j.o d).symm,blr⟩
 by_cases c:k=1
 ·go_wp2;go_ret;exact⟨Dt (g.o d c).symm,blr⟩
 go_wp2;go_ret;exact⟨Dt (i.o d c).symm,blr⟩
def Wp(k:Int)(a b:ByteArray)(w:World)(G:a.size<=9223372036854775807)(hb:b.size<=9223372036854775807):Calls prog 155 #[.int .i64 k,.string a,.string b] w (IntEnd (Bn k a b) w):=by
 have H:=qh λc=>CK k a c G;have I:=qh λc=>CK k b c hb;have o:=qh λh=>RJ (k:=k) (a:=a) (b:=b) h;have p:=qh λh=>RL (k:=k) (a:=a) (b:=b) h;have J:=qh (show Ak k a=true->Ak k b=true->k=1->∀c,Calls prog 184 #[.string a,.string b] c (IntEnd (Bn k a b) c) from λd g i c=>by
  obtain⟨v,C,_,_,s,fv⟩:=BM d;obtain⟨u,B,_,_,z,A⟩:=BM g;rw[show Bn k a b=cmpV v u by unfold Bn;rw[C,B];simp[Eo,i],s,z];exact Gl v u c fv A)
 have m:=qh (show Ak k a=true->Ak k b=true->k≠1->∀c,Calls prog 184 #[.string b,.string a] c (IntEnd (Bn k a b) c) from λd g i c=>by
  obtain⟨v,C,_,_,s,fv⟩:=BM d;obtain⟨u,B,_,_,z,A⟩:=BM g;rw[show Bn k a b=cmpV u v by unfold Bn;rw[C,B];simp[Eo,i],s,z];exact Gl u v c A fv)
 clear G hb;generalize Bn k a b=r at *
 go_enter func155,ntmps155
 go_wp2_with fail
 refine nx1 (H.o _) λL D=>?_;cases d:Ak k a
 ·go_wp2;go_ret;exact⟨BS (o.o d).symm,D.o⟩
 go_wp2_with fail
 refine nx2 (I.o _) D λN j=>?_;cases g:Ak k b
 ·go_wp2;go_ret;exact⟨BS (p.o g).symm,j.o⟩
 have E:=qh d;clear d;have F:=qh g;clear g;by_cases i:k=1
 ·go_wp2_with fail
  refine nx2 (J.o E.o F.o i _) j λK l=>?_;go_wp2;go_ret;exact⟨rfl,l.o⟩
 go_wp2_with fail
 refine nx2 (m.o E.o F.o i _) j λK l=>?_;go_wp2;go_ret;exact⟨rfl,l.o⟩
def VZ{k:Int}{a b:ByteArray}(c:Ak k a=true)(A:Ak k b=true):Ar k a b=if k=2 then (bif (a.toList==[105,110,102])||(b.toList==[105,110,102]) then (⟨#[105,110,102]⟩,0) else Bb a b) else (if Bn k b a<0 then b else a,0):=by
 obtain⟨v,o,D,i,fv,p,_⟩:=IT c;obtain⟨u,m,C,j,l,s,_⟩:=IT A;rw[p,s];have B:Ar k a b=limV (Av k v u):=by unfold Ar;rw[o,m]
 have g:Bn k b a=Eo k u v:=by unfold Bn;rw[m,o]
 rw[B,g];by_cases d:k=2
 ·rw[ifp d];subst d;rw[Ca];cases v with
  |inf=>cases u<;>rfl
  |low=>exact absurd D (by decide)
  |fin x =>
   cases u with
   |inf=>rfl
   |low=>exact absurd C (by decide)
   |fin y=>rw[i,j];show limR (x+y)=Bb (txt x) (txt y);unfold Bb;rw[Bl fv,Bl l]
 rw[ifn d];have z:Av k v u=if Eo k u v<0 then u else v:=by
  unfold Av Eo;have:=FH v u;rw[ifn d];by_cases c:k=1
  ·rw[ifp c,ifp c];by_cases h:0<cmpV v u
   ·rw[ifp h,ifp (by omega)]
   rw[ifn h,ifn (by omega)]
  rw[ifn c,ifn c]
 rw[z];by_cases h:Eo k u v<0
 ·rw[ifp h,ifp h,DY l,<-j]
 rw[ifn h,ifn h,DY fv,<-i]
theorem Iq(k:Int)(a b:ByteArray)(w:World)(p:a.size<=9223372036854775807)(hb:b.size<=9223372036854775807):Calls prog 115 #[.int .i64 k,.string a,.string b] w (PairEnd (Ar k a b) w):=by
 have E:=qh λc=>CK k a c p;have F:=qh λc=>CK k b c hb;have G:=qh λc=>Wp k b a c hb p;have H:=qh λc=>KU a b c p hb;have g:=qh λh=>Wa (k:=k) (a:=a) (b:=b) h;have i:=qh λh=>Wb (k:=k) (a:=a) (b:=b) h;have u:=qh λj l=>VZ (k:=k) (a:=a) (b:=b) j l;clear p hb;generalize Ar k a b=r,Bn k b a=z,Bb a b=q at *;obtain⟨q1,q2⟩:=q
 go_enter func115,ntmps115
 go_wp2_with fail
 refine nx1 (E.o _) λK s=>?_;cases j:Ak k a
 ·go_wp2;go_ret2;exact⟨by rw[g.o j];rfl,s.o⟩
 go_wp2_with fail
 refine nx2 (F.o _) s λL m=>?_;cases l:Ak k b
 ·go_wp2;go_ret2;exact⟨by rw[i.o l];rfl,m.o⟩
 have d:=qh<|u.o j l;clear j l u g i;by_cases C:k=2
 ·rw[ifp C]at d;cases A:(a.toList==[105,110,102])<;>cases B:(b.toList==[105,110,102])
  ·go_wp2_with fail
   refine nx2 (H.o _) m λJ o=>?_;go_wp2;go_ret2;exact⟨by rw[d.o,A,B];rfl,o.o⟩
  all_goals
   go_wp2;go_ret2;exact⟨by rw[d.o,A,B];rfl,m.o⟩
 rw[ifn C]at d
 go_wp2_with fail
 refine nx2 (G.o _) m λJ o=>?_;by_cases D:z<0
 ·go_wp2;go_ret2;exact⟨by rw[d.o,ifp D];rfl,o.o⟩
 have I:decide (z<0)=false:=by simpa using D
 go_wp2;go_ret2;exact⟨by rw[d.o,ifn (by omega)];rfl,o.o⟩
def Kv(k:Int)(a b:ByteArray)(w:World)(B:a.size<=9223372036854775807)(hb:b.size<=9223372036854775807):Calls prog 41 #[.int .i64 k,.string a,.string b] w (PairEnd (Ae k a b) w):=by
 have G:=qh λd=>CK k a d B;have H:=qh λd=>CK k b d hb;have I:=qh λd=>DG k d;have N:=qh λd=>KU a b d B hb;have O:=qh λd=>Xw a b d B hb;have l:=qh λh=>Lk (k:=k) (a:=a) (b:=b) h;have m:=qh λh=>Qb (k:=k) (a:=a) (b:=b) h;have J:=qh λs u=>Qa (k:=k) (a:=a) (b:=b) s u;clear B hb;generalize Ae k a b=r,Aj k=z,Bb a b=q,BR a b=p at *;obtain⟨q1,q2⟩:=q;obtain⟨p1,p2⟩:=p
 go_enter func41,ntmps41
 go_wp2_with fail
 refine nx1 (G.o _) λQ C=>?_;cases s:Ak k a
 ·go_wp2;go_ret2;exact⟨by rw[l.o s];rfl,C.o⟩
 go_wp2_with fail
 refine nx2 (H.o _) C λR D=>?_;cases u:Ak k b
 ·go_wp2;go_ret2;exact⟨by rw[m.o u];rfl,D.o⟩
 have c:=qh<|J.o s u;clear s u J l m
 go_wp2_with fail
 refine nx2 (I.o _) D λS g=>?_;clear G H I C D;cases i:(a.toList==z.toList)
 rotate_left
 ·go_wp2;go_ret2;exact⟨by rw[c.o,i];rfl,g.o⟩
 cases j:(b.toList==z.toList)
 rotate_left
 ·go_wp2;go_ret2;exact⟨by rw[c.o,i,j];rfl,g.o⟩
 cases o:(a.toList==[105,110,102])
 rotate_left
 ·go_wp2;go_ret2;exact⟨by rw[c.o,i,j,o];rfl,g.o⟩
 cases A:(b.toList==[105,110,102])
 rotate_left
 ·go_wp2;go_ret2;exact⟨by rw[c.o,i,j,o,A];rfl,g.o⟩
 cases F:(a.toList==[45,105,110,102])
 rotate_left
 ·go_wp2;go_ret2;exact⟨by rw[c.o,i,j,o,A,F];rfl,g.o⟩
 cases K:(b.toList==[45,105,110,102])
 rotate_left
 ·go_wp2;go_ret2;exact⟨by rw[c.o,i,j,o,A,F,K];rfl,g.o⟩
 rw[i,j,o,A,F,K]at c;by_cases L:k=1
 ·go_wp2_with fail
  refine nx2 (N.o _) g λP E=>?_;go_wp2;go_ret2;exact⟨by rw[c.o];simp[L],E.o⟩
 go_wp2_with fail
 refine nx2 (O.o _) g λP E=>?_;go_wp2;go_ret2;exact⟨by rw[c.o];simp[L],E.o⟩
def Wu(k:Int)(a:ByteArray)(w:World)(g:a.size<=9223372036854775807)(d:Ak k a=false):Calls prog 215 #[.int .i64 k,.string a] w (PairEnd (AO k a) w):=by
 have c1:=λh=>CK k a h g;rw[d]at c1;rw[Xz d];replace c1:=qh c1;clear d g
 go_enter func215,ntmps215
 go_wp2_with fail
 refine nxa (c1.o w) λi c=>?_;go_wp2;go_ret2;exact⟨rfl,c.o⟩
def Wq(a:ByteArray)(w:World)(o:a.size<=9223372036854775807)(l:Ak 1 a=true):Calls prog 215 #[.int .i64 1,.string a] w (PairEnd (AO 1 a) w):=by
 have c1:=λh=>CK 1 a h o;rw[l]at c1;obtain⟨v,u,rv,C,m,i⟩:=BM l;have c2:=λh=>Ip 1 h;rw[Ge]at c2;have c3:=λh=>Gl v (.fin 0) h i EY;have s:AO 1 a=limV (if 0<=cmpV v (.fin 0) then .fin 0 else .low):=by unfold AO;rw[u];rfl
 have p:limV (if 0<=cmpV v (.fin 0) then .fin 0 else .low)=(if 0<=cmpV v (.fin 0) then ⟨#[48]⟩ else ⟨#[45,105,110,102]⟩,0):=by
  split
  ·exact(CZ EY).trans (by rw[Dw])
  rfl
 rw[s,p];change ∀h,Calls _ _ #[_,.string (txt 0)] h _ at c3;rw[Dw,<-m]at c3;have B:=ES v (.fin 0);generalize cmpV v (.fin 0)=z at *;replace c1:=qh c1;replace c2:=qh c2;replace c3:=qh c3;clear s p u rv C m i o l
 rcases B with rfl|rfl|rfl
 ·change Calls _ _ _ _ (PairEnd (⟨#[45,105,110,102]⟩,0) w)
  go_enter func215,ntmps215
  go_wp2_with fail
  refine nxa (c1.o w) λj c=>?_
  go_wp2_with fail
  refine nxb (c2.o j) c λk d=>?_
  go_wp2_with fail
  refine nxb (c3.o k) d λA g=>?_;go_wp2;go_ret2;exact⟨rfl,g.o⟩
 ·change Calls _ _ _ _ (PairEnd (⟨#[48]⟩,0) w)
  go_enter func215,ntmps215
  go_wp2_with fail
  refine nxa (c1.o w) λj c=>?_
  go_wp2_with fail
  refine nxb (c2.o j) c λk d=>?_
  go_wp2_with fail
  refine nxb (c3.o k) d λA g=>?_;go_wp2;go_ret2;exact⟨rfl,g.o⟩
 change Calls _ _ _ _ (PairEnd (⟨#[48]⟩,0) w)
 go_enter func215,ntmps215
 go_wp2_with fail
 refine nxa (c1.o w) λj c=>?_
 go_wp2_with fail
 refine nxb (c2.o j) c λk d=>?_
 go_wp2_with fail
 refine nxb (c3.o k) d λA g=>?_;go_wp2;go_ret2;exact⟨rfl,g.o⟩
def Ws(a:ByteArray)(w:World)(o:a.size<=9223372036854775807)(l:Ak 3 a=true):Calls prog 215 #[.int .i64 3,.string a] w (PairEnd (AO 3 a) w):=by
 have c1:=λh=>CK 3 a h o;rw[l]at c1;obtain⟨v,u,rv,C,m,i⟩:=BM l;have c2:=λh=>Ip 3 h;rw[Gg]at c2;have c3:=λh=>Gl v (.fin 1) h i EW;have s:AO 3 a=limV (if cmpV v (.fin 1)<=0 then .fin 1 else .inf):=by unfold AO;rw[u];rfl
 have p:limV (if cmpV v (.fin 1)<=0 then .fin 1 else .inf)=(if cmpV v (.fin 1)<=0 then ⟨#[49]⟩ else ⟨#[105,110,102]⟩,0):=by
  split
  ·exact(CZ EW).trans (by rw[El])
  rfl
 rw[s,p];change ∀h,Calls _ _ #[_,.string (txt 1)] h _ at c3;rw[El,<-m]at c3;have B:=ES v (.fin 1);generalize cmpV v (.fin 1)=z at *;replace c1:=qh c1;replace c2:=qh c2;replace c3:=qh c3;clear s p u rv C m i o l
 rcases B with rfl|rfl|rfl
 ·change Calls _ _ _ _ (PairEnd (⟨#[49]⟩,0) w)
  go_enter func215,ntmps215
  go_wp2_with fail
  refine nxa (c1.o w) λj c=>?_
  go_wp2_with fail
  refine nxb (c2.o j) c λk d=>?_
  go_wp2_with fail
  refine nxb (c3.o k) d λA g=>?_;go_wp2;go_ret2;exact⟨rfl,g.o⟩
 ·change Calls _ _ _ _ (PairEnd (⟨#[49]⟩,0) w)
  go_enter func215,ntmps215
  go_wp2_with fail
  refine nxa (c1.o w) λj c=>?_
  go_wp2_with fail
  refine nxb (c2.o j) c λk d=>?_
  go_wp2_with fail
  refine nxb (c3.o k) d λA g=>?_;go_wp2;go_ret2;exact⟨rfl,g.o⟩
 change Calls _ _ _ _ (PairEnd (⟨#[105,110,102]⟩,0) w)
 go_enter func215,ntmps215
 go_wp2_with fail
 refine nxa (c1.o w) λj c=>?_
 go_wp2_with fail
 refine nxb (c2.o j) c λk d=>?_
 go_wp2_with fail
 refine nxb (c3.o k) d λA g=>?_;go_wp2;go_ret2;exact⟨rfl,g.o⟩
def Wr(a:ByteArray)(w:World)(s:a.size<=9223372036854775807)(p:Ak 2 a=true):Calls prog 215 #[.int .i64 2,.string a] w (PairEnd (AO 2 a) w):=by
 have c1:=λk=>CK 2 a k s;rw[p]at c1;obtain⟨v,D,rv,C,o,c⟩:=BM p;have c2:=λk=>Ip 2 k;rw[Gf]at c2;have c3:=λk=>Gl v (.fin 1) k c EW;have B:AO 2 a=limV (Az 2 v):=by unfold AO;rw[D]
 rw[B];change ∀k,Calls _ _ #[_,.string (txt 1)] k _ at c3;rw[El,<-o]at c3;replace c1:=qh c1;replace c2:=qh c2
 rcases AG C (by decide) with rfl|⟨x,rfl,I⟩
 ·have l:limV (Az 2 .inf)=(⟨#[105,110,102]⟩,0):=rfl;have N:cmpV .inf (.fin 1)=1:=rfl;rw[l];rw[N]at c3;have m:=qh c3;clear c3 B l N D rv C o c s p
  go_enter func215,ntmps215
  go_wp2_with fail
  refine nxa (c1.o w) λu d=>?_
  go_wp2_with fail
  refine nxb (c2.o u) d λA g=>?_
  go_wp2_with fail
  refine nxb (m.o A) g λJ i=>?_;go_wp2;go_ret2;exact⟨rfl,i.o⟩
 have l:Az 2 (.fin x)=if 0<=cmpQ x 1 then .inf else .fin (1 / (1-x)):=rfl
 have G:cmpV (.fin x) (.fin 1)=cmpQ x 1:=rfl;rw[G]at c3
 rcases BJ x 1 with⟨h,e⟩|h
 ·have hf:=MU c I h;have hd:1-x≠0:=Rat.ne_of_gt<|(Rat.lt_iff_sub_pos x 1).1 h;have j:limV (Az 2 (.fin x))=limR (1 / (1-x)):=by rw[l,e];rfl
  have P:=Dg hf;have c4:=λk=>Xy ⟨#[49]⟩ a k (by decide) s;have c5:=λk=>Xm ⟨#[49]⟩ (txt (1-x)) k (by decide) (by omega);have K:Cb ⟨#[49]⟩ a=(txt (1-x),0):=by rw[o];show Cb ⟨#[49]⟩ (txt x)=_;unfold Cb;rw[Ft,Bl c];exact CZ hf
  have L:Bq ⟨#[49]⟩ (txt (1-x))=limR (1 / (1-x)):=by unfold Bq;rw[Ft,Bl hf];exact ifn hd
  rw[K]at c4;rw[L]at c5;rw[e]at c3;rw[j];generalize limR (1 / (1-x))=lr at *;obtain⟨ls,Q⟩:=lr;generalize txt (1-x)=b at *;have m:=qh c3;clear c3;replace c4:=qh c4;replace c5:=qh c5;clear B j l G h e hf hd P K L D rv C o c s p I
  go_enter func215,ntmps215
  go_wp2_with fail
  refine nxa (c1.o w) λu d=>?_
  go_wp2_with fail
  refine nxb (c2.o u) d λA g=>?_
  go_wp2_with fail
  refine nxb (m.o A) g λJ i=>?_
  go_wp2_with fail
  refine nxb (c4.o J) i λO E=>?_
  go_wp2_with fail
  refine nxb (c5.o O) E λR F=>?_;go_wp2;go_ret2;exact⟨rfl,F.o⟩
 have H:0<=cmpQ x 1:=by rcases h with⟨_,e⟩|⟨_,e⟩<;>rw[e]<;>decide
 have j:limV (Az 2 (.fin x))=(⟨#[105,110,102]⟩,0):=by rw[l,ifp H];rfl
 rw[j];generalize cmpQ x 1=z at *;have m:=qh c3;clear c3 B j l G h D rv C o c s p I
 go_enter func215,ntmps215
 go_wp2_with fail
 refine nxa (c1.o w) λu d=>?_
 go_wp2_with fail
 refine nxb (c2.o u) d λA g=>?_
 go_wp2_with fail
 refine nxb (m.o A) g λJ i=>?_;go_wp2;go_ret2;exact⟨rfl,i.o⟩
def Wt(k:Int)(a:ByteArray)(w:World)(d:a.size<=9223372036854775807):Calls prog 215 #[.int .i64 k,.string a] w (PairEnd (AO k a) w):=by
 cases c:Ak k a with
 |false=>exact Wu k a w d c
 |true =>
  rcases CB k with rfl|rfl|rfl|g
  ·exact Wq a w d c
  ·exact Wr a w d c
  ·exact Ws a w d c
  rw[GH g]at c;simp at c
end
section
open Go.RowKit Go.Deep
variable{a w w':World}{z:Option Nat}{B cap i n:Nat}{v:Value}{f:Nat->Value}{X Y:Nat->ByteArray}{e:TypeId}
def BW{b c:World}(h:a.grownBy b z)(k:b.grownBy c z):a.grownBy c z :=
 ⟨k.os.trans h.os,k.tape.trans h.tape,k.output.trans h.output,Nat.le_trans h.size k.size,λq d g=>(k.block q (Nat.lt_of_lt_of_le d h.size) g).trans (h.block q d g)⟩
def Ab(h:Below w.heap.size w w')(z:Option Nat):w.grownBy w' z:=⟨h.os,h.tape,h.output,h.size,λq c _=>h.block q c⟩
def MW(h:w.grownBy w' none):Below w.heap.size w w':=⟨h.os,h.tape,h.output,h.size,λq c=>h.block q c (by simp)⟩
def Dz(h:a.grownBy w z){p:Addr}(g:some p.block=z\/a.heap.size<=p.block)(v:Value):a.grownBy (w.setCell p v) z :=
 ⟨h.os,h.tape,h.output,by rw[nblk_setCell];exact h.size,λq i c=>by
  rw[blk_setCell_other _ _ _ _ (by rcases g with e|e;exact λd=>c (by rw[d,e]);omega)];exact h.block q i c⟩
def Rd(z:Option Nat)(w:World)(v:Value)(n:Nat)(f:Nat->Value):Prop :=
 (n=0/\∃a cap,v=.slice a 0 cap/\cap<=maxLen)\/∃b off cap,v=.slice (some (Ad b off)) n cap/\(b<w.heap.size/\some b≠z)/\n<=cap/\cap<=maxLen/\∀i,i<n->w.cell? (Ad b (off+i))=some (f i)
def Rd.kept(h:Rd z w v n f)(hb:w.grownBy w' z):Rd z w' v n f:=by
 rcases h with h|⟨b,c,g,m,d,j,k,l⟩
 ·exact .inl h
 exact .inr ⟨b,c,g,m,⟨Nat.lt_of_lt_of_le d.1 hb.size,d.2⟩,j,k,λi hi=>(hb.cell_far (Ad b (c+i)) d.1 d.2).trans (l i hi)⟩
def Rd.open(h:Rd z w v n f):∃a cap b off,v=.slice a n cap/\(0<n->a=some (Ad b off))/\n<=cap/\cap<=maxLen/\
  (0<n->b<w.heap.size/\some b≠z)/\∀i,i<n->w.cell? (Ad b (off+i))=some (f i):=by
 rcases h with⟨rfl,a,cap,c,l⟩|⟨b,off,cap,c,d,g,j,k⟩
 ·exact⟨a,cap,0,0,c,by simp,by simp,l,by simp,by simp⟩
 exact⟨_,cap,b,off,c,λ_=>rfl,g,j,λ_=>d,k⟩
def Rd.congr{g:Nat->Value}(h:Rd z w v n f)(e:∀i,i<n->f i=g i):Rd z w v n g:=by
 rcases h with h|⟨b,d,c,o,j,k,l,m⟩
 ·exact .inl h
 exact .inr ⟨b,d,c,o,j,k,l,λi hi=>by rw[m i hi,e i hi]⟩
def Rd.shape(h:Rd z w v n f):∃a cap,v=.slice a n cap:=by
 obtain⟨a,cap,_,_,c,_⟩:=h.open;exact⟨a,cap,c⟩
def Rd.any(h:Rd z w v n f):Rd none w v n f:=by
 rcases h with h|⟨b,d,c,j,g,i⟩
 ·exact .inl h
 exact .inr ⟨b,d,c,j,⟨g.1,by simp⟩,i⟩
def Rd.far{k:Nat}(h:Rd z w v n f)(l:w.heap.size<=k):Rd (some k) w v n f:=by
 rcases h with h|⟨b,d,c,j,g,i⟩
 ·exact .inl h
 exact .inr ⟨b,d,c,j,⟨g.1,by simp;omega⟩,i⟩
def Ss(z:Option Nat)(w:World)(v:Value)(n:Nat)(X:Nat->ByteArray):Prop:=Rd z w v n λi=>.string (X i)
def Mt(z:Option Nat)(w:World)(v:Value)(n:Nat)(L:Nat->Nat)(X:Nat->Nat->ByteArray):Prop:=∃R,Rd z w v n R/\∀i,i<n->Ss z w (R i) (L i) (X i)
section
variable{z:Option Nat}{w w':World}{v:Value}{n:Nat}{L L':Nat->Nat}{X X':Nat->Nat->ByteArray}
theorem Mt.kept(h:Mt z w v n L X)(hb:w.grownBy w' z):Mt z w' v n L X:=by
 obtain⟨R,c,d⟩:=h;exact⟨R,c.kept hb,λi hi=>Rd.kept (d i hi) hb⟩
theorem Mt.any(h:Mt z w v n L X):Mt none w v n L X:=by
 obtain⟨R,c,d⟩:=h;exact⟨R,c.any,λi hi=>Rd.any (d i hi)⟩
theorem Mt.far{k:Nat}(h:Mt z w v n L X)(c:w.heap.size<=k):Mt (some k) w v n L X:=by
 obtain⟨R,d,g⟩:=h;exact⟨R,d.far c,λi hi=>Rd.far (g i hi) c⟩
theorem Mt.congr(h:Mt z w v n L X)(g:∀i,i<n->L i=L' i)(k:∀i j,i<n->j<L i->X i j=X' i j):Mt z w v n L' X':=by
 obtain⟨R,c,d⟩:=h;exact⟨R,c,λi hi=>by rw[<-g i hi];exact Rd.congr (d i hi) λj l=>by rw[k i j hi l]⟩
theorem Mt.shape(h:Mt z w v n L X):∃a cap,v=.slice a n cap:=by
 obtain⟨R,c,_⟩:=h;exact c.shape
theorem Mt.open(h:Mt z w v n L X):
  ∃a cap b off,∃(A:Nat->Option Addr) (C B O:Nat->Nat),v=.slice a n cap/\(0<n->a=some (Ad b off))/\n<=cap/\cap<=maxLen/\(0<n->b<w.heap.size/\some b≠z)/\
   ∀i,i<n->w.cell? (Ad b (off+i))=some (.slice (A i) (L i) (C i))/\L i<=C i/\C i<=maxLen/\(0<L i->A i=some (Ad (B i) (O i)))/\(0<L i->B i<w.heap.size/\some (B i)≠z)/\Ss z w (.slice (A i) (L i) (C i)) (L i) (X i)/\
    ∀j,j<L i->w.cell? (Ad (B i) (O i+j))=some (.string (X i j)):=by
 obtain⟨R,u,m⟩:=h;obtain⟨a,cap,b,off,G,D,E,F,hb,d⟩:=u.open
 classical
 have c:∀i,∃t:Option Addr × Nat × Nat × Nat,i<n->R i=.slice t.1 (L i) t.2.1/\(0<L i->t.1=some (Ad t.2.2.1 t.2.2.2))/\L i<=t.2.1/\t.2.1<=maxLen/\(0<L i->t.2.2.1<w.heap.size/\some t.2.2.1≠z)/\
   ∀j,j<L i->w.cell? (Ad t.2.2.1 (t.2.2.2+j))=some (.string (X i j)):=λi=>by
  by_cases hi:i<n
  ·obtain⟨o,s,p,H,k1,k2,k3,g,k,l⟩:=Rd.open<|m i hi;exact⟨(o,s,p,H),λ_=>⟨k1,k2,k3,g,k,l⟩⟩
  exact⟨(none,0,0,0),λh=>absurd h hi⟩
 refine⟨a,cap,b,off,λi=>(Classical.choose (c i)).1,λi=>(Classical.choose (c i)).2.1,λi=>(Classical.choose (c i)).2.2.1,λi=>(Classical.choose (c i)).2.2.2,G,D,E,F,hb,λi hi=>?_⟩;obtain⟨k1,k2,k3,g,k,l⟩:=Classical.choose_spec (c i) hi;refine⟨by rw[d i hi,k1],k3,g,k2,k,?_,l⟩;rw[<-k1];exact m i hi
end
def strs(n:Nat)(X:Nat->ByteArray):List Value:=(List.range n).map λj=>.string (X j)
theorem PM(n:Nat)(X:Nat->ByteArray):(strs n X).length=n:=by simp[strs]
theorem IH(n:Nat)(X:Nat->ByteArray)(i:Nat)(h:i<n):(strs n X)[i]?=some (.string (X i)):=by simp[strs,h]
theorem XL(n:Nat)(X:Nat->ByteArray):strs n X++[.string (X n)]=strs (n+1) X:=by simp[strs,List.range_succ]
theorem XK(h:∀i,i<n->X i=Y i):strs n X=strs n Y:=by
 unfold strs;exact List.map_congr_left λi hi=>by rw[h i (List.mem_range.1 hi)]
def OwS(w:World)(B:Nat)(e:TypeId)(v:Value)(n:Nat)(X:Nat->ByteArray):Prop:=w.ownsRow B e 1 v n (strs n X)
def OwS.nil(w:World)(B:Nat)(e:TypeId)(X:Nat->ByteArray):OwS w B e (.slice none 0 0) 0 X:=World.ownsRow_nil w B e 1
def OwS.congr(h:OwS w B e v n X)(c:∀i,i<n->X i=Y i):OwS w B e v n Y:=by
 unfold OwS;rw[<-XK c];exact h
theorem OwS.kept{w w':World}{B:Nat}{e:TypeId}{v:Value}{n:Nat}{X:Nat->ByteArray}{z:Option Nat}(h:OwS w B e v n X)(hb:w.grownBy w' z)(d:∀k,z=some k->k<B):OwS w' B e v n X :=
 World.ownsRow.kept h hb (by
  cases c:v.ownBlock with
  |none=>exact .inl rfl
  |some k=>exact .inr (λe=>by have:=(World.ownsRow.lt h k c).1;have:=d k e.symm;omega))
def VC(x:ByteArray):∀u ∈ [Value.string x],u.oneCell'=true:=by intro u c;simp at c;subst c;rfl
def OwS.set{g:Nat}(h:OwS w B e (.slice (some (Ad g 0)) n cap) n X)(hi:i<n)(x:ByteArray):
  OwS (w.setCell (Ad g i) (.string x)) B e (.slice (some (Ad g 0)) n cap) n (λj=>if j=i then x else X j):=by
 refine⟨by rw[PM,Nat.mul_one],?_⟩
 rcases h.2 with⟨k,_⟩|⟨z,l,cur,k,p,d,s,u,m,o⟩
 ·cases k
 cases k;refine .inr ⟨g,cap,cur.setIfInBounds i (.string x),rfl,p,by simp[World.setCell,Array.getElem?_modify,d],s,u,by simpa using m,?_⟩;rw[Nat.mul_one]at m o ⊢;refine List.ext_getElem? λj=>?_;by_cases c:j<n
 ·rw[IH _ _ _ c,List.getElem?_take_of_lt c,Array.getElem?_toList,Array.getElem?_setIfInBounds];by_cases e:i=j
  ·subst e;rw[ifp rfl,ifp (by omega),ifp rfl]
  rw[ifn e,ifn (λh=>e h.symm)];have:=IH n X j c;rw[<-o,List.getElem?_take_of_lt c,Array.getElem?_toList]at this;exact this
 rw[List.getElem?_eq_none (by rw[List.length_take];omega),List.getElem?_eq_none (by rw[PM];omega)]
structure Gr(B:Nat)(z:Option Nat)(w w':World):Prop where
 os:w'.os=w.os
 tape:w'.tape=w.tape
 output:w'.output=w.output
 size:w.heap.size<=w'.heap.size
 block:∀q,q<B->some q≠z->w'.heap[q]?=w.heap[q]?
namespace Gr
variable{B:Nat}{z:Option Nat}{w w' w2:World}
theorem refl(B:Nat)(z:Option Nat)(w:World):Gr B z w w:=⟨rfl,rfl,rfl,nlr,λ_ _ _=>rfl⟩
theorem trans(h:Gr B z w w')(k:Gr B z w' w2):Gr B z w w2:=⟨k.os.trans h.os,k.tape.trans h.tape,k.output.trans h.output,Nat.le_trans h.size k.size,λq c d=>(k.block q c d).trans (h.block q c d)⟩
theorem of(h:w.grownBy w' z)(d:B<=w.heap.size):Gr B z w w':=⟨h.os,h.tape,h.output,h.size,λq g c=>h.block q (by omega) c⟩
theorem gb(h:Gr w.heap.size z w w'):w.grownBy w' z:=⟨h.os,h.tape,h.output,h.size,h.block⟩
theorem mono{c:Nat}(h:Gr B z w w')(g:c<=B):Gr c z w w':=⟨h.os,h.tape,h.output,h.size,λq i d=>h.block q (by omega) d⟩
theorem more{r:Option Nat}(h:Gr B z w w')(c:w'.grownBy w2 r)(j:B<=w'.heap.size)(g:∀k,r=some k->z=some k\/B<=k):Gr B z w w2 :=
 h.trans ⟨c.os,c.tape,c.output,c.size,λq l i=>c.block q (by omega) (λe=>by
  rcases g q e.symm with d|d
  ·exact i d.symm
  omega)⟩
theorem set(h:Gr B z w w'){p:Addr}(d:some p.block=z\/B<=p.block)(v:Value):Gr B z w (w'.setCell p v) :=
 h.trans ⟨rfl,rfl,rfl,by rw[nblk_setCell];exact nlr,λq i g=>blk_setCell_other _ _ _ _ (by
  rcases d with e|e
  ·intro c;exact g (by rw[c,e])
  omega)⟩
theorem drew(h:Gr B z w w'):Gr B z w w'.drew:=⟨h.os,h.tape,h.output,h.size,h.block⟩
end Gr
structure OM(w:World)(Z:Nat->Prop)(B:Nat)(eR eT:TypeId)(g n:Nat)(R:Nat->Value)(L:Nat->Nat)(X:Nat->Nat->ByteArray):Prop where
 top:w.rowIs g eT n R
 base:B<=g
 zg:¬Z g
 zlt:∀b,Z b->b<w.heap.size
 row:∀i,i<n->OwS w B eR (R i) (L i) (X i)
 far:∀i,i<n->∀b,(R i).ownBlock=some b->b≠g/\¬Z b
 apart:∀i j,i<n->j<n->i≠j->∀b,(R i).ownBlock=some b->(R j).ownBlock≠some b
namespace OM
variable{w w':World}{Z:Nat->Prop}{B:Nat}{eR eT:TypeId}{g n:Nat}{R:Nat->Value}{L:Nat->Nat}{X:Nat->Nat->ByteArray}
theorem kept{z:Option Nat}(h:OM w Z B eR eT g n R L X)(hb:w.grownBy w' z)(d:∀k,z=some k->k<B):OM w' Z B eR eT g n R L X :=
 ⟨h.top.of_block (hb.block g h.top.lt (λe=>by have:=d g e.symm;have:=h.base;omega)),h.base,h.zg,λb c=>Nat.lt_of_lt_of_le (h.zlt b c) hb.size,λi hi=>(h.row i hi).kept hb d,h.far,h.apart⟩
theorem congr{c:Nat->Nat->ByteArray}(h:OM w Z B eR eT g n R L X)(k:∀i j,i<n->j<L i->X i j=c i j):OM w Z B eR eT g n R L c :=
 ⟨h.top,h.base,h.zg,h.zlt,λi hi=>(h.row i hi).congr λj d=>k i j hi d,h.far,h.apart⟩
theorem congrL{L':Nat->Nat}(h:OM w Z B eR eT g n R L X)(c:∀i,i<n->L i=L' i):OM w Z B eR eT g n R L' X :=
 ⟨h.top,h.base,h.zg,h.zlt,λi hi=>by rw[<-c i hi];exact h.row i hi,h.far,h.apart⟩
theorem made(w:World)(Z:Nat->Prop)(d:∀b,Z b->b<w.heap.size)(B:Nat)(k:B<=w.heap.size)(g c:TypeId)(n:Nat)(X:Nat->Nat->ByteArray):
  OM (w.alloc (.cells (madeCells #[.slice none 0 0] n) c)) Z B g c w.heap.size n (λ_=>.slice none 0 0) (λ_=>0) X :=
 ⟨World.rowIs_made w _ n c,k,λh=>Nat.lt_irrefl _ (d _ h),λb h=>by have:=d b h;simp;omega,λi _=>OwS.nil _ _ _ _,λi _ b h=>by simp[Value.ownBlock]at h,λi j _ _ _ b h=>by simp[Value.ownBlock]at h⟩
theorem cell(h:OM w Z B eR eT g n R L X){i:Nat}(hi:i<n):w.cell? (Ad g i)=some (R i):=h.top.cell hi
theorem frozen(h:OM w Z B eR eT g n R L X)(i:Nat):w.frozen? (Ad g i)=false:=h.top.frozen i
theorem lt(h:OM w Z B eR eT g n R L X):g<w.heap.size:=h.top.lt
theorem rowLt(h:OM w Z B eR eT g n R L X)(hi:i<n):∀k,(R i).ownBlock=some k->B<=k/\k<w.heap.size:=World.ownsRow.lt<|h.row i hi
theorem form(h:OM w Z B eR eT g n R L X)(hi:i<n)(z:0<L i):∃b cap,R i=.slice (some (Ad b 0)) (L i) cap/\B<=b/\b<w.heap.size/\b≠g/\¬Z b/\L i<=cap/\cap<=maxLen/\
  (∀j,w.frozen? (Ad b j)=false)/\∀j,j<L i->w.cell? (Ad b j)=some (.string (X i j)):=by
 have c:=h.row i hi
 rcases c.2 with⟨_,p⟩|⟨b,cap,cur,d,hb,k,l,m,s,u⟩
 ·omega
 have hf:=h.far i hi b (by rw[d];rfl);refine⟨b,cap,d,hb,(Array.getElem?_eq_some_iff.1 k).1,hf.1,hf.2,l,m,λj=>by simp[World.frozen?,k],λj o=>?_⟩;rw[d]at c;have:=World.ownsRow.cells c (g:=b) rfl j _ (IH (L i) (X i) j o);rw[Addr.add_lit,Nat.zero_add]at this;exact this
theorem appended(h:OM w Z B eR eT g n R L X)(hi:i<n){wa z:World}(D:w.grownBy wa none){g' m:Nat}
  (s:z.ownsRow B eR 1 (.slice (some (Ad g' 0)) m cap) m (strs m Y)) (E:wa.grownBy z (R i).ownBlock) (p:(R i).ownBlock=some g'\/g'=wa.heap.size) :
  OM (z.setCell (Ad g i) (.slice (some (Ad g' 0)) m cap)) Z B eR eT g n (λk=>if k=i then .slice (some (Ad g' 0)) m cap else R k) (λk=>if k=i then m else L k) (λk=>if k=i then Y else X k):=by
 have K:=D.size;have F:=h.lt;have o:g'≠g/\¬Z g':=by
  rcases p with e|e
  ·exact h.far i hi g' e
  exact⟨by omega,λc=>by have:=h.zlt _ c;omega⟩
 have u:z.rowIs g eT n R:=(h.top.of_block (D.block g F (by simp))).of_block (E.block g (by omega) (λe=>(h.far i hi g e.symm).1 rfl));refine⟨(u.set i _),h.base,h.zg,λb hb=>?_,λk d=>?_,λk d b hb=>?_,λk l d A j b hb=>?_⟩
 ·rw[nblk_setCell];have:=h.zlt b hb;have:=E.size;omega
 ·by_cases e:k=i
  ·subst e;simp only[if_pos];exact World.ownsRow.kept s ⟨rfl,rfl,rfl,by simp,λq _ G=>blk_setCell_other _ _ _ _ (by show q≠g;intro e;exact G (by rw[e]))⟩ (row:=some g) (.inr (by simp[Value.ownBlock];exact o.1))
  simp only[ifn e];have I:OwS wa B eR (R k) (L k) (X k):=(h.row k d).kept D (by simp);have J:z.ownsRow B eR 1 (R k) (L k) (strs (L k) (X k)):=World.ownsRow.kept I E (by
   cases hb:(R k).ownBlock with
   |none=>exact .inl rfl
   |some b=>exact .inr (λc=>h.apart k i d hi e b hb c.symm))
  exact World.ownsRow.kept J ⟨rfl,rfl,rfl,by simp,λq _ G=>blk_setCell_other _ _ _ _ (by show q≠g;intro e;exact G (by rw[e]))⟩ (row:=some g) (by
   cases hb:(R k).ownBlock with
   |none=>exact .inl rfl
   |some b=>exact .inr (λc=>(h.far k d b hb).1 (Option.some.inj c)))
 ·by_cases e:k=i
  ·subst e;simp only[if_pos]at hb;simp[Value.ownBlock]at hb;subst hb;exact o
  simp only[ifn e]at hb;exact h.far k d b hb
 by_cases e:k=i
 ·subst e;simp only[if_pos]at hb;simp only[ifn (λe:l=k=>j e.symm)];simp[Value.ownBlock]at hb;subst hb
  rcases p with c|c
  ·exact h.apart k l d A j _ c
  intro C;have:=(h.rowLt A _ C).2;omega
 simp only[ifn e]at hb;by_cases c:l=i
 ·subst c;simp only[if_pos];simp[Value.ownBlock];intro C;subst C
  rcases p with H|H
  ·exact h.apart k l d A j _ hb H
  have:=(h.rowLt d _ hb).2;omega
 simp only[ifn c];exact h.apart k l d A j b hb
theorem stored(h:OM w Z B eR eT g n R L X){j b:Nat}(hi:i<n)(p:j<L i)(c:R i=.slice (some (Ad b 0)) (L i) cap)(x:ByteArray):
  OM (w.setCell (Ad b j) (.string x)) Z B eR eT g n R L (λk l=>if k=i/\l=j then x else X k l):=by
 have d:=(h.far i hi b (by rw[c];rfl)).1;refine⟨h.top.setOther (by show g≠b;exact λe=>d e.symm) _,h.base,h.zg,λb hb=>by rw[nblk_setCell];exact h.zlt b hb,λk m=>?_,h.far,h.apart⟩;by_cases e:k=i
 ·subst e;have:=h.row k m;rw[c]at this ⊢;exact(this.set p x).congr λl _=>by simp
 refine OwS.congr (World.ownsRow.kept (h.row k m) ⟨rfl,rfl,rfl,by simp,λq _ s=>blk_setCell_other _ _ _ _ (by show q≠b;intro e;exact s (by rw[e]))⟩ (row:=some b) (by
  cases hb:(R k).ownBlock with
  |none=>exact .inl rfl
  |some b'=>exact .inr (λo=>h.apart k i m hi e b' hb (by rw[c,Value.ownBlock];exact o.symm)))) λl _=>by simp[e]
theorem mt(h:OM w Z B eR eT g n R L X)(hn:n<=maxLen)(p:∀k,z=some k->k<B\/Z k):Mt z w (.slice (some (Ad g 0)) n n) n L X:=by
 refine⟨R,.inr ⟨g,0,n,rfl,⟨h.lt,λe=>?_⟩,nlr,hn,λi hi=>by rw[Nat.zero_add];exact h.cell hi⟩,λi hi=>?_⟩
 ·rcases p g e.symm with d|d
  ·have:=h.base;omega
  exact h.zg d
 have m:=h.row i hi
 rcases m.2 with⟨c,s⟩|⟨b,l,cur,c,hb,A,d,u,D,E⟩
 ·exact .inl ⟨s,none,0,c,Nat.zero_le _⟩
 refine .inr ⟨b,0,l,c,⟨(Array.getElem?_eq_some_iff.1 A).1,λe=>?_⟩,d,u,λj C=>?_⟩
 ·rcases p b e.symm with o|o
  ·omega
  exact(h.far i hi b (by rw[c];rfl)).2 o
 rw[c]at m;have:=World.ownsRow.cells m (g:=b) rfl j _ (IH (L i) (X i) j C);rw[Addr.add_lit]at this;exact this
end OM
end
section
open Go.RowKit Go.Deep
variable{k:KK}{e:Nat}{a b s:ByteArray}{r:ByteArray × Nat}
def Is(k:KK)(e:Nat)(s:ByteArray)(x:RK k):Prop:=s.size<=100000/\(e=0->s=vtxt x.1/\fitV x.1)
def Er(F:Prop)(e:Nat):Prop:=(e=0\/e=2)/\(F->e=0)
def kpE(e:Nat)(r:ByteArray × Nat):Nat:=if r.2≠0/\e=0 then r.2 else e
theorem Nc(h:kpE e r=0):e=0/\r.2=0:=by
 unfold kpE at h;split at h
 ·rename_i c;exact absurd h c.1
 rename_i c;subst h;exact⟨rfl,by simpa using c⟩
theorem Is.mono{e':Nat}{x:RK k}(h:Is k e s x)(d:e'=0->e=0):Is k e' s x:=⟨h.1,λc=>h.2 (d c)⟩
theorem Is.vprs{x:RK k}(h:Is k 0 s x):vprs k.1 s=some x.1:=by
 obtain⟨c,d⟩:=h.2 rfl;rw[c];exact QC d x.2
theorem FT(v:V):(fitV v/\limV v=(vtxt v,0))\/(¬fitV v/\(limV v).2=2):=by
 by_cases h:fitV v
 ·exact .inl ⟨h,DY h⟩
 right;refine⟨h,?_⟩
 cases v with
 |inf=>exact absurd trivial h
 |low=>exact absurd trivial h
 |fin q=>show (limR q).2=2;unfold limR;rw[ifn (show ¬fitQ q from h)]
theorem Kj{F:Prop}{z:RK k}{u:ByteArray}(g:e=0->r=limV z.1)(j:Er F e)(o:F->fitV z.1)(A:u.size<=100000)(p:kpE e r=0->u=r.1):
  Is k (kpE e r) u z/\Er F (kpE e r)/\(kpE e r=0->e=0):=by
 refine⟨⟨A,λd=>?_⟩,⟨?_,λhf=>?_⟩,λd=>(Nc d).1⟩
 ·obtain⟨i,l⟩:=Nc d;have m:=p d
  rcases FT z.1 with⟨hf,c⟩|⟨_,c⟩
  ·rw[m,g i,c];exact⟨rfl,hf⟩
  rw[g i]at l;omega
 ·unfold kpE;split
  ·rename_i h
   rcases FT z.1 with⟨_,c⟩|⟨_,c⟩
   ·rw[g h.2,c]at h;exact absurd rfl h.1
   rw[g h.2];exact .inr c
  exact j.1
 have d:=j.2 hf
 rcases FT z.1 with⟨_,c⟩|⟨s,_⟩
 ·unfold kpE;rw[g d,c,ifn (by simp)];exact d
 exact absurd (o hf) s
theorem Wg{x y:RK k}(d:Is k e a x)(hb:Is k e b y)(c:e=0):Ar k.1 a b=limV (x+y).1:=by
 subst c;unfold Ar;rw[d.vprs,hb.vprs];rfl
theorem Yh{x y:RK k}(d:Is k e a x)(hb:Is k e b y)(c:e=0):Ae k.1 a b=limV (x*y).1:=by
 subst c;unfold Ae;rw[d.vprs,hb.vprs];rfl
theorem XC{x:RK k}(d:Is k e a x)(c:e=0):AO k.1 a=limV (CSR.star x).1:=by
 subst c;unfold AO;rw[d.vprs];rfl
theorem Zi(k:KK):fitV (CSR.zero:RK k).1:=(XY k.1 (k:=1) (by omega)).fit (by omega)
theorem VB(k:KK):fitV (CSR.one:RK k).1:=(XW k.1 (k:=1) (by omega)).fit (by omega)
theorem Is.zero(k:KK)(e:Nat):Is k e (Aj k.1) CSR.zero:=⟨QS k.1,λ_=>⟨Zf k.2,Zi k⟩⟩
theorem Is.one(k:KK)(e:Nat):Is k e (oneF k.1) CSR.one:=⟨VA k.1,λ_=>⟨Vz k.2,VB k⟩⟩
theorem Is.eq_zero{x:RK k}(h:Is k 0 s x):s=Aj k.1↔x=CSR.zero:=by
 obtain⟨c,g⟩:=h.2 rfl;obtain⟨d,i⟩:=(Is.zero k 0).2 rfl
 constructor
 ·intro e;rw[c,d]at e;exact RK.ext<|Lv g i e
 intro e;rw[c,d,e]
theorem Is.of_valid(h:Ak k.1 s=true)(g:s.size<=100000)(e:Nat):∃x:RK k,Is k e s x:=by
 obtain⟨v,i⟩:=Qx h;obtain⟨c,d⟩:=Dx.1 i;exact⟨⟨v,d⟩,g,λ_=>Gn c⟩
def wval(k:KK)(s:ByteArray):RK k:=match h:vprs k.1 s with
 |some v=>⟨v,(Dx.1 h).2⟩
 |none=>CSR.zero
theorem Is.val{x:RK k}(h:Is k 0 s x):wval k s=x:=by
 have d:=h.vprs;unfold wval
 split
 ·rename_i v c;rw[d]at c;cases c;rfl
 rename_i c;rw[d]at c;cases c
theorem YJ{k:Int}(h:Ak k s=true):s.size<=802:=by
 obtain⟨v,g⟩:=Qx h;obtain⟨c,d⟩:=Gn (Dx.1 g).1;have:=FU v;rw[DY d]at this;rw[c];exact this
theorem IW(h:Ak k.1 s=true):Is k 0 s (wval k s):=by
 obtain⟨x,c⟩:=Is.of_valid h (by have:=YJ h;omega) 0;rw[c.val];exact c
theorem Ct{k:Int}(h:Am k s=true):Ak k s=true:=by
 obtain⟨v,c,d⟩:=YS h;unfold Ak;rw[Dx.2 ⟨c,Zc d⟩];rfl
variable{z:Option Nat}{w:World}{v:Value}{i:Nat}
structure MD where
 kind:Int
 start:Int
 lead:ByteArray
 n:Nat
 fin:Nat->ByteArray
 na:Nat->Nat
 ain:Nat->Nat->Int
 aout:Nat->Nat->Int
 aw:Nat->Nat->ByteArray
 ato:Nat->Nat->Int
def ArS(z:Option Nat)(w:World)(v:Value)(D:MD)(i:Nat):Prop :=
 (D.na i=0/\∃a cap,v=.slice a 0 cap/\cap<=maxLen)\/∃b off cap,v=.slice (some (Ad b off)) (D.na i) cap/\(b<w.heap.size/\some b≠z)/\D.na i<=cap/\cap<=maxLen/\∀k,k<D.na i ->
  w.cell? (Ad b (off+k*4))=some (.int .i64 (D.ain i k))/\w.cell? (Ad b (off+k*4+1))=some (.int .i64 (D.aout i k))/\w.cell? (Ad b (off+k*4+2))=some (.string (D.aw i k))/\w.cell? (Ad b (off+k*4+3))=some (.int .i64 (D.ato i k))
def StS(z:Option Nat)(w:World)(v:Value)(D:MD):Prop :=
 (D.n=0/\∃a cap,v=.slice a 0 cap/\cap<=maxLen)\/∃b off cap,∃A:Nat->Value,v=.slice (some (Ad b off)) D.n cap/\(b<w.heap.size/\some b≠z)/\D.n<=cap/\cap<=maxLen/\∀i,i<D.n ->
  w.cell? (Ad b (off+i*2))=some (.string (D.fin i))/\w.cell? (Ad b (off+i*2+1))=some (A i)/\ArS z w (A i) D i
theorem ArS.kept{w':World}{D:MD}(h:ArS z w v D i)(d:w.grownBy w' z):ArS z w' v D i:=by
 rcases h with h|⟨b,j,g,s,c,l,m,o⟩
 ·exact .inl h
 refine .inr ⟨b,j,g,s,⟨Nat.lt_of_lt_of_le c.1 d.size,c.2⟩,l,m,λk p=>?_⟩;obtain⟨c1,c2,c3,c4⟩:=o k p;exact⟨d.cell c1 c.2,d.cell c2 c.2,d.cell c3 c.2,d.cell c4 c.2⟩
theorem StS.kept{z:Option Nat}{w w':World}{v:Value}{D:MD}(h:StS z w v D)(d:w.grownBy w' z):StS z w' v D:=by
 rcases h with h|⟨b,j,g,A,o,c,k,l,m⟩
 ·exact .inl h
 refine .inr ⟨b,j,g,A,o,⟨Nat.lt_of_lt_of_le c.1 d.size,c.2⟩,k,l,λi hi=>?_⟩;obtain⟨c1,c2,c3⟩:=m i hi;exact⟨d.cell c1 c.2,d.cell c2 c.2,c3.kept d⟩
theorem StS.open{D:MD}(h:StS z w v D):∃a cap b off,∃(A:Nat->Option Addr) (C B O:Nat->Nat),v=.slice a D.n cap/\(0<D.n->a=some (Ad b off))/\D.n<=cap/\cap<=maxLen/\(0<D.n->b<w.heap.size/\some b≠z)/\
  ∀i,i<D.n->w.cell? (Ad b (off+i*2))=some (.string (D.fin i))/\w.cell? (Ad b (off+i*2+1))=some (.slice (A i) (D.na i) (C i))/\D.na i<=C i/\C i<=maxLen/\(0<D.na i->A i=some (Ad (B i) (O i)))/\(0<D.na i->B i<w.heap.size/\some (B i)≠z)/\
   ∀k,k<D.na i->w.cell? (Ad (B i) (O i+k*4))=some (.int .i64 (D.ain i k))/\w.cell? (Ad (B i) (O i+k*4+1))=some (.int .i64 (D.aout i k))/\w.cell? (Ad (B i) (O i+k*4+2))=some (.string (D.aw i k))/\w.cell? (Ad (B i) (O i+k*4+3))=some (.int .i64 (D.ato i k)):=by
 rcases h with⟨u,a,cap,rfl,H⟩|⟨b,off,cap,A,rfl,E,F,G,g⟩
 ·exact⟨a,cap,0,0,λ_=>none,λ_=>0,λ_=>0,λ_=>0,by rw[u],by omega,by omega,H,by omega,λi hi=>by omega⟩
 classical
 have c:∀i,∃t:Option Addr × Nat × Nat × Nat,i<D.n->A i=.slice t.1 (D.na i) t.2.1/\D.na i<=t.2.1/\t.2.1<=maxLen/\(0<D.na i->t.1=some (Ad t.2.2.1 t.2.2.2))/\(0<D.na i->t.2.2.1<w.heap.size/\some t.2.2.1≠z)/\
   ∀k,k<D.na i->w.cell? (Ad t.2.2.1 (t.2.2.2+k*4))=some (.int .i64 (D.ain i k))/\w.cell? (Ad t.2.2.1 (t.2.2.2+k*4+1))=some (.int .i64 (D.aout i k))/\w.cell? (Ad t.2.2.1 (t.2.2.2+k*4+2))=some (.string (D.aw i k))/\w.cell? (Ad t.2.2.1 (t.2.2.2+k*4+3))=some (.int .i64 (D.ato i k)):=λi=>by
  by_cases hi:i<D.n
  ·rcases (g i hi).2.2 with⟨o,s,d,e,j⟩|⟨m,p,d,e,k1,k2,k3,l⟩
   ·exact⟨(s,d,0,0),λ_=>⟨by rw[e,o],by rw[o];exact Nat.zero_le _,j,by omega,by omega,λk K=>by omega⟩⟩
   exact⟨(some (Ad m p),d,m,p),λ_=>⟨e,k2,k3,λ_=>rfl,λ_=>k1,l⟩⟩
  exact⟨(none,0,0,0),λh=>absurd h hi⟩
 refine⟨_,cap,b,off,λi=>(Classical.choose (c i)).1,λi=>(Classical.choose (c i)).2.1,λi=>(Classical.choose (c i)).2.2.1,λi=>(Classical.choose (c i)).2.2.2,rfl,λ_=>rfl,F,G,λ_=>E,λi hi=>?_⟩;obtain⟨k1,k2,k3,l,I,J⟩:=Classical.choose_spec (c i) hi;exact⟨(g i hi).1,by rw[(g i hi).2.1,k1],k2,k3,l,I,J⟩
def Ma(z:Option Nat)(w:World)(v:Value)(D:MD):Prop:=∃sv,v=.agg #[.int .i64 D.kind,.int .i64 D.start,.string D.lead,sv]/\StS z w sv D
def Ai(D:MD):Nat->Nat
 |0=>0
 |i+1=>Ai D i+D.na i
theorem En(D:MD){j:Nat}(h:i<=j):Ai D i<=Ai D j:=by
 induction j with
 |zero =>
      have:i=0:=by omega
      subst this;exact nlr
 |succ j ih =>
  by_cases e:i=j+1
  ·subst e;exact nlr
  have:=ih (by omega);show _<=Ai D j+D.na j;omega
structure ArcOk(D:MD)(i k:Nat):Prop where
 i0:0<=D.ain i k
 i1:D.ain i k<=500
 o0:0<=D.aout i k
 o1:D.aout i k<=500
 t0:0<=D.ato i k
 t1:D.ato i k<(D.n:Int)
 wt:Am D.kind (D.aw i k)=true
structure VM(D:MD):Prop where
 kind:Aw D.kind=true
 n1:1<=D.n
 n2:D.n<=3000
 s0:0<=D.start
 s1:D.start<(D.n:Int)
 lead:Am D.kind D.lead=true
 arcs:Ai D D.n<=30000
 fin:∀i,i<D.n->D.fin i=⟨#[]⟩\/Am D.kind (D.fin i)=true
 arc:∀i k,i<D.n->k<D.na i->ArcOk D i k
structure MSz(D:MD):Prop where
 lead:D.lead.size<=9223372036854775807
 fin:∀i,(D.fin i).size<=9223372036854775807
 aw:∀i k,(D.aw i k).size<=9223372036854775807
 na:∀i,D.na i<=140737488355328
 n:D.n<=140737488355328
 kind:-9223372036854775808<=D.kind/\D.kind<=9223372036854775807
variable{D:MD}{wr:World}{c:Nat}{sv:Value}
theorem PV(s:Int)(w:World):Calls prog 69 #[.int .i64 s] w λe w'=>e=.returned (.bool (decide (0<=s)&&decide (s<=500)))/\w=w':=by
 by_cases h:0<=s
 ·go_enter func69,ntmps69
  go_wp2;go_ret;exact⟨AJ (by simp[h]),rfl⟩
 have c:decide (0<=s)=false:=by simp;omega
 go_enter func69,ntmps69
 go_wp2;go_ret;exact⟨AJ rfl,rfl⟩
theorem Jl(w:World)(cs:Array Value)(t:TypeId)(i:Nat)(v:Value)(h:cs[i]?=some v):(w.alloc (.cells cs t)).cell? (Ad w.heap.size i)=some v:=by
 have c:(w.alloc (.cells cs t)).heap[w.heap.size]?=some (.cells cs t (0,0)):=han w _;generalize w.heap.size=b at *;generalize w.alloc (.cells cs t)=w2 at *;simp[World.cell?,c,h]
def ValidE(D:MD)(w:World)(r:Ending)(w':World):Prop:=Below w.heap.size w w'/\((VM D/\r=.returned (.bool true))\/(¬VM D/\r=.returned (.bool false)))
def BoxM(wr:World)(mb:Nat)(D:MD)(sv:Value):Prop:=wr.heap[mb]?=some (.cells #[.int .i64 D.kind,.int .i64 D.start,.string D.lead,sv] 25 (0,0))
theorem BoxM.c0(h:BoxM wr c D sv):wr.cell? (Ad c 0)=some (.int .i64 D.kind):=by unfold BoxM at h;simp[World.cell?,h]
theorem BoxM.c1(h:BoxM wr c D sv):wr.cell? (Ad c 1)=some (.int .i64 D.start):=by unfold BoxM at h;simp[World.cell?,h]
theorem BoxM.c2(h:BoxM wr c D sv):wr.cell? (Ad c 2)=some (.string D.lead):=by unfold BoxM at h;simp[World.cell?,h]
theorem BoxM.c3(h:BoxM wr c D sv):wr.cell? (Ad c 3)=some sv:=by unfold BoxM at h;simp[World.cell?,h]
theorem BoxM.lt(h:BoxM wr c D sv):c<wr.heap.size:=(Array.getElem?_eq_some_iff.1 h).1
theorem BoxM.kept{w':World}{z:Option Nat}(h:BoxM wr c D sv)(d:wr.grownBy w' z)(g:some c≠z):BoxM w' c D sv:=by
 unfold BoxM;rw[d.block c h.lt g];exact h
theorem BoxM.new(w:World)(D:MD)(sv:Value):BoxM (w.alloc (.cells #[.int .i64 D.kind,.int .i64 D.start,.string D.lead,sv] 25)) w.heap.size D sv:=han w _
theorem Fi{v:Value}(w:World)(hM:Ma none w v D)(hs:MSz D)(ht:Tab w):Calls prog 31 #[v] w (ValidE D w):=by
 obtain⟨sv,rfl,hS⟩:=hM;obtain⟨a,J,b,b4,A,C,BB,O,rfl,ha,hc,hm,hb,S⟩:=hS.open;unfold maxLen at hm;clear hS;have j:=BoxM.new w D (.slice a D.n J);have a4:Below w.heap.size w (w.alloc (.cells #[.int .i64 D.kind,.int .i64 D.start,.string D.lead,.slice a D.n J] 25)):=blr.alloc nlr _;have f5:=hs.n;obtain⟨f2,f3⟩:=hs.kind;replace hs:=qh hs;replace ht:=qh ht;replace ha:=qh ha;have HB:=qh hb;clear hb;replace S:=qh S;have m0:=j.c0;have m1:=j.c1;have m2:=j.c2;have m3:=j.c3;have H:=qh j;clear j;have u:=qh a4;clear a4
 go_enter func31,ntmps31
 go_wp2_with fail
 all_goals first
  |(go_ret;exact⟨u.o,.inr ⟨λv=>by have s:=v.kind;have E:=v.n1;have h3:=v.n2;have h4:=v.s0;have h5:=v.s1;unfold Aw at s;simp at s;omega,rfl⟩⟩)
  |skip
 have b1:Aw D.kind=true:=by unfold Aw;simp;omega
 obtain⟨wm,U⟩:=exq<|w.alloc (.cells #[.int .i64 D.kind,.int .i64 D.start,.string D.lead,.slice a D.n J] 25);obtain⟨mb,P⟩:=exq<|w.heap.size;have R:1<=D.n/\D.n<=3000/\0<=D.start/\D.start<(D.n:Int):=by omega
 replace R:=qh R;replace b1:=qh b1;rw[<-U,<-P]at H;rw[<-U]at u;rw[<-P];rw[<-U]at m0 m1 m2 m3;rw[<-P]at m0 m1 m2 m3;rw[<-U];replace P:=qh P;clear U;have I:=Iz D.kind D.lead wm hs.o.lead (ht.o.below u.o nlr);replace I:=qh I;clear m0 m1 m2 m3;cases hw:Am D.kind D.lead
 ·rw[hw]at I;refine I.o.mono ?_;rintro r w1⟨rfl,K⟩;go_wp2;go_ret;exact⟨u.o.trans (K.mono u.o.size),.inr ⟨λv=>by rw[v.lead]at hw;exact absurd hw (by simp),rfl⟩⟩
 rw[hw]at I;refine I.o.mono ?_;rintro r w1⟨rfl,K⟩;have N:=H.o.kept (Ab K none) (by simp);have a2:=u.o.trans<|K.mono u.o.size;clear K;have m3:=N.c3;have a1:=qh N;clear N H;have Z:=qh a2;clear a2 u
 go_wp2_with fail
 clear m3
 go_loopw [4,50] (λc i wr=>∃q:Nat,q<=D.n/\i=.int .i64 (q:Int)/\c=.int .i64 (Ai D q:Nat)/\Ai D q<=30000/\
  (∀l,l<q->(D.fin l=⟨#[]⟩\/Am D.kind (D.fin l)=true)/\∀k,k<D.na l->ArcOk D l k)/\BoxM wr mb D (.slice a D.n J)/\Below w.heap.size w wr) (λ_ i _=>D.n-(intOf i).toNat)
 case atStart=>exact⟨0,Nat.zero_le _,rfl,rfl,by show 0<=30000;omega,λl hl=>by omega,a1.o,Z.o⟩
 obtain⟨q,hq,rfl,rfl,d7,Q,b8,F⟩:=hrel;clear a1 Z;replace Q:=qh Q;have H:=qh b8;clear b8;replace F:=qh F;by_cases G:q<D.n
 ·have f7:(q:Int)<(D.n:Int):=by omega
  have e8:(0:Int)<=(q:Int):=by omega
  obtain rfl:=ha.o (by omega);have b7:=(HB.o (by omega)).1;obtain⟨k1,k2,k3,k4,k5,k6,k7⟩:=S.o q G;generalize A q=aq at k2 k5;have c0:=(F.o.cell (p:=(Ad b (b4+q*2))) b7).trans k1;have c1:=(F.o.cell (p:=(Ad b (b4+q*2+1))) b7).trans k2;unfold maxLen at k4;have mA:=λo=>(BoxM.c0 (H.o.kept (World.grownBy_alloc wr o none) (by simp)));have mB:=λo=>H.o.kept (World.grownBy_alloc wr o none) (by simp);have Y:=λo=>F.o.alloc F.o.size o;replace mB:=qh mB;replace Y:=qh Y;clear k1 k2;replace k7:=qh k7;replace k5:=qh k5;replace k6:=qh k6;have f4:=hs.o.na q;by_cases hG:30000<Ai D q+D.na q
  ·have d6:(30000:Int)<(Ai D q:Nat)+(D.na q:Int):=by omega
   go_wp2;go_ret;exact⟨Y.o _,.inr ⟨λv=>by have s:=v.arcs;have E:=En D (show q+1<=D.n by omega);have h3:Ai D (q+1)=Ai D q+D.na q:=rfl;omega,rfl⟩⟩
  have d6:decide ((30000:Int)<(Ai D q:Nat)+(D.na q:Int))=false:=by simp;omega
  cases hF:((D.fin q).toList==[])
  focus
   have b2:=λwx hb=>Iz D.kind (D.fin q) wx (hs.o.fin q) (ht.o.below (B:=w.heap.size) hb nlr);replace b2:=qh b2
   go_wp2_with fail
   refine(b2.o _ (Y.o _)).mono ?_;rintro r w2⟨rfl,L⟩;cases b3:Am D.kind (D.fin q)
   ·go_wp2;go_ret;exact⟨(Y.o _).trans (L.mono (Y.o _).size),.inr ⟨λv=>by
     rcases v.fin q G with s|s
     ·rw[s]at hF;exact absurd hF (by simp)
     rw[s]at b3;exact absurd b3 (by simp),rfl⟩⟩
   have d4:=(mB.o (.cells #[.string (D.fin q),.slice aq (D.na q) (C q)] 63)).kept (Ab L none) (by simp);have d5:=(Y.o (.cells #[.string (D.fin q),.slice aq (D.na q) (C q)] 63)).trans (L.mono (Y.o _).size);have e5:w2.cell? (Ad wr.heap.size 1)=some (.slice aq (D.na q) (C q)):=by
    rw[L.cell (p:=(Ad wr.heap.size 1)) (by simp)];exact Jl wr _ _ 1 _ rfl
   clear L;have a8:=qh d4;clear d4;have a9:=qh d5;clear d5;have b5:=qh<|show D.fin q=⟨#[]⟩\/Am D.kind (D.fin q)=true from .inr b3
   go_wp2_with fail
   clear e5
  rotate_left
  focus
   have d0:D.fin q=⟨#[]⟩:=by rw[beq_iff_eq,Lib.toList_data]at hF;exact ByteArray.ext<|Array.toList_inj.1 hF
   have b5:=qh<|show D.fin q=⟨#[]⟩\/Am D.kind (D.fin q)=true from .inl d0;clear d0;have a8:=qh<|mB.o (.cells #[.string (D.fin q),.slice aq (D.na q) (C q)] 63);have a9:=qh<|Y.o (.cells #[.string (D.fin q),.slice aq (D.na q) (C q)] 63)
   go_wp2_with fail
  all_goals
   go_loopw [77] (λi wr=>∃d:Nat,d<=D.na q/\i=.int .i64 (d:Int)/\(∀k,k<d->ArcOk D q k)/\BoxM wr mb D (.slice (some (Ad b b4)) D.n J)/\Below w.heap.size w wr) (λi _=>D.na q-(intOf i).toNat)
   case atStart=>exact⟨0,Nat.zero_le _,rfl,λk hk=>by omega,a8.o,a9.o⟩
   obtain⟨d,hd,rfl,X,z,g⟩:=hrel;clear a8 a9;replace X:=qh X;replace z:=qh z;replace g:=qh g;by_cases m:d<D.na q
   ·have f1:(d:Int)<(D.na q:Int):=by omega
    have e7:(0:Int)<=(d:Int):=by omega
    obtain rfl:=k5.o (by omega);have W:=(k6.o (by omega)).1;obtain⟨j0,j1,j2,j3⟩:=k7.o d m;have e0:=(g.o.cell (p:=(Ad (BB q) (O q+d*4))) W).trans j0;have e1:=(g.o.cell (p:=(Ad (BB q) (O q+d*4+1))) W).trans j1;have e2:=(g.o.cell (p:=(Ad (BB q) (O q+d*4+2))) W).trans j2;have e3:=(g.o.cell (p:=(Ad (BB q) (O q+d*4+3))) W).trans j3;clear j0 j1 j2 j3;have e6:=λo=>(BoxM.c0 (z.o.kept (World.grownBy_alloc wr o none) (by simp)));have b6:=qh<|λo=>z.o.kept (World.grownBy_alloc wr o none) (by simp);have h:=qh<|λo=>g.o.alloc g.o.size o;have T:=λwx hb=>Iz D.kind (D.aw q d) wx (hs.o.aw q d) (ht.o.below (B:=w.heap.size) hb nlr);replace T:=qh T
    go_wp2_with fail
    refine(PV _ _).mono ?_;rintro r w'⟨rfl,rfl⟩;cases d1:(decide (0<=D.ain q d)&&decide (D.ain q d<=500))
    ·have a6:=qh d1;go_wp2;go_ret;exact⟨h.o _,.inr ⟨λv=>by have s:=v.arc q d G m;have E:=a6.o;rw[decide_eq_true s.i0,decide_eq_true s.i1]at E;exact absurd E (by simp),rfl⟩⟩
    have a6:=qh d1
    go_wp2_with fail
    refine(PV _ _).mono ?_;rintro r w'⟨rfl,rfl⟩;cases d2:(decide (0<=D.aout q d)&&decide (D.aout q d<=500))
    ·have a7:=qh d2;go_wp2;go_ret;exact⟨h.o _,.inr ⟨λv=>by have s:=v.arc q d G m;have E:=a7.o;rw[decide_eq_true s.o0,decide_eq_true s.o1]at E;exact absurd E (by simp),rfl⟩⟩
    have a7:=qh d2;by_cases f8:D.ato q d<0
    ·go_wp2;go_ret;exact⟨h.o _,.inr ⟨λv=>by have s:=(v.arc q d G m).t0;omega,rfl⟩⟩
    have e9:decide (D.ato q d<0)=false:=by simp;omega
    by_cases f9:(D.n:Int)<=D.ato q d
    ·go_wp2;go_ret;exact⟨h.o _,.inr ⟨λv=>by have s:=(v.arc q d G m).t1;omega,rfl⟩⟩
    have f0:decide ((D.n:Int)<=D.ato q d)=false:=by simp;omega
    go_wp2_with fail
    refine(T.o _ (h.o _)).mono ?_;rintro r w4⟨rfl,b0⟩;have b9:=(b6.o _).kept (Ab b0 none) (by simp);have a5:=(h.o _).trans (b0.mono (h.o _).size);clear b0 e6 e0 e1 e2 e3;cases d3:Am D.kind (D.aw q d)
    ·go_wp2;go_ret;exact⟨a5,.inr ⟨λv=>by have s:=(v.arc q d G m).wt;rw[d3]at s;exact absurd s (by simp),rfl⟩⟩
    go_wp2;go_roundw
    case rel =>
     refine⟨d+1,by omega,by go_num,λk hk=>?_,b9,a5⟩
     rcases Nat.lt_succ_iff_lt_or_eq.1 hk with E|E
     ·exact X.o k E
     subst E;have h3:=a6.o;have h4:=a7.o;simp only[Bool.and_eq_true,decide_eq_true_eq]at h3 h4;exact⟨h3.1,h3.2,h4.1,h4.2,by omega,by omega,d3⟩
    simp[intOf];omega
   have d8:d=D.na q:=by omega
   subst d8;have d9:¬((D.na q:Int)<(D.na q:Int)):=by omega
   go_wp2;go_roundw
   case rel =>
    refine⟨q+1,by omega,by go_num,rfl,by show Ai D q+D.na q<=30000;omega,λl hl=>?_,z.o,g.o⟩
    rcases Nat.lt_succ_iff_lt_or_eq.1 hl with E|E
    ·exact Q.o l E
    subst E;exact⟨b5.o,X.o⟩
   simp[intOf];omega
 have e4:q=D.n:=by omega
 subst e4;have d9:¬((D.n:Int)<(D.n:Int)):=by omega
 obtain⟨p1,p2,p3,p4⟩:=R.o;go_wp2;go_ret;exact⟨F.o,.inl ⟨⟨b1.o,p1,p2,p3,p4,hw,d7,λi hi=>(Q.o i hi).1,λi k hi hk=>(Q.o i hi).2 k hk⟩,rfl⟩⟩
end
section
open Go.RowKit Go.Deep
structure Fr(C:Nat->Prop)(w w':World):Prop where
 os:w'.os=w.os
 tape:w'.tape=w.tape
 output:w'.output=w.output
 size:w.heap.size<=w'.heap.size
 block:∀q,q<w.heap.size->¬C q->w'.heap[q]?=w.heap[q]?
namespace Fr
variable{C C':Nat->Prop}{w w' w2:World}
theorem refl(C:Nat->Prop)(w:World):Fr C w w:=⟨rfl,rfl,rfl,nlr,λ_ _ _=>rfl⟩
theorem trans(h:Fr C w w')(k:Fr C w' w2):Fr C w w2:=⟨k.os.trans h.os,k.tape.trans h.tape,k.output.trans h.output,Nat.le_trans h.size k.size,λq d c=>(k.block q (by have:=h.size;omega) c).trans (h.block q d c)⟩
theorem mono(h:Fr C w w')(d:∀q,q<w.heap.size->C q->C' q):Fr C' w w':=⟨h.os,h.tape,h.output,h.size,λq c g=>h.block q c λe=>g (d q c e)⟩
theorem of_gb{z:Option Nat}(h:w.grownBy w' z)(g:∀q,z=some q->C q):Fr C w w':=⟨h.os,h.tape,h.output,h.size,λq d c=>h.block q d λe=>c (g q e.symm)⟩
theorem of_below(h:Below w.heap.size w w'):Fr C w w':=of_gb (Ab h none) (by simp)
theorem alloc(w:World)(o:Obj):Fr C w (w.alloc o):=of_gb (World.grownBy_alloc w o none) (by simp)
theorem drew(h:Fr C w w'):Fr C w w'.drew:=⟨h.os,h.tape,h.output,h.size,h.block⟩
theorem set(h:Fr C w w'){p:Addr}(g:C p.block\/w.heap.size<=p.block)(v:Value):Fr C w (w'.setCell p v) :=
 ⟨h.os,h.tape,h.output,by rw[nblk_setCell];exact h.size,λq i c=>(blk_setCell_other _ _ _ _ (by
  rcases g with e|e
  ·intro d;subst d;exact c e
  omega)).trans (h.block q i c)⟩
theorem below(h:Fr C w w'){B:Nat}(d:B<=w.heap.size)(c:∀q,C q->B<=q):Below B w w':=⟨h.os,h.tape,h.output,h.size,λq g=>h.block q (by omega) λe=>by have:=c q e;omega⟩
theorem cell(h:Fr C w w'){p:Addr}{v:Value}(c:w.cell? p=some v)(g:¬C p.block):w'.cell? p=some v:=by
 have d:p.block<w.heap.size:=by
  unfold World.cell? at c;cases hb:w.heap[p.block]? with
  |none=>simp[hb]at c
  |some o=>exact(Array.getElem?_eq_some_iff.1 hb).1
 unfold World.cell? at c ⊢;rw[h.block _ d g];exact c
theorem row(h:Fr C w w'){g:Nat}{t:TypeId}{n:Nat}{F:Nat->Value}(c:w.rowIs g t n F)(d:¬C g):w'.rowIs g t n F:=c.of_block<|h.block g c.lt d
end Fr
theorem AN{w:World}{p:Addr}{q:Nat}(h:q≠p.block)(v:Value):(w.setCell p v).heap[q]?=w.heap[q]?:=blk_setCell_other _ _ _ _ h
def Ij(k:Int)(a b:ByteArray)(e:Nat):ByteArray × Nat:=if a=⟨#[]⟩\/e≠0 then (b,e) else Ar k a b
def IJ(k:Int)(a b:ByteArray)(e:Nat):ByteArray × Nat:=if e≠0 then (a,e) else Ae k a b
abbrev WS:=(Nat->ByteArray) × Nat
def updS(l:Nat->ByteArray)(t:Nat)(s:ByteArray):Nat->ByteArray:=λj=>if j=t then s else l j
def NW:Nat->ByteArray:=λ_=>⟨#[]⟩
def smS(s:ByteArray):Prop:=s.size<=9223372036854775807
theorem Ns(v:V):smS (limV v).1:=by
 unfold smS;cases v with
 |inf=>decide
 |low=>decide
 |fin q=>exact Nat.le_trans (Nq q) (by omega)
theorem Kk(k:Int)(a b:ByteArray):smS (Ar k a b).1:=by
 unfold Ar;split
 ·exact Ns _
 show (str []).size<=_;decide
theorem GC(k:Int)(a b:ByteArray):smS (Ae k a b).1:=by
 unfold Ae;split
 ·exact Ns _
 show (str []).size<=_;decide
end
section
open Go.RowKit Go.Deep
def SumB(w:World)(sb:Nat)(k:Int)(e:Nat):Prop:=w.heap[sb]?=some (.cells #[.int .i64 k,.int .i64 (e:Int)] 177 (0,0))
end
section
open Go.RowKit Go.Deep
theorem JL:(prog.info? 9).map (λi=>(i.zero,i.size,i.bytes))=some (some (.string ⟨#[]⟩),1,16):=by kernel_rfl
theorem JM:(prog.info? 100).map (λi=>(i.zero,i.size,i.bytes))=some (some (.slice none 0 0),1,24):=by kernel_rfl
structure Tb(w:World)(k:Int)(B tb sb g n e:Nat)(R:Nat->Value)(X:Nat->Nat->ByteArray):Prop where
 tab:w.heap[tb]?=some (.cells #[.pointer (some (Ad sb 0)),.slice (some (Ad g 0)) n n] 201 (0,0))
 sum:SumB w sb k e
 om:OM w (λb=>b=tb) B 9 100 g n R (λ_=>n) X
 sbB:sb<B
 tbB:B<=tb
namespace Tb
variable{w w':World}{k:Int}{B tb sb g n e:Nat}{R:Nat->Value}{X:Nat->Nat->ByteArray}
theorem c0(h:Tb w k B tb sb g n e R X):w.cell? (Ad tb 0)=some (.pointer (some (Ad sb 0))):=by have:=h.tab;simp[World.cell?,this]
theorem c1(h:Tb w k B tb sb g n e R X):w.cell? (Ad tb 1)=some (.slice (some (Ad g 0)) n n):=by have:=h.tab;simp[World.cell?,this]
end Tb
def Prog{k:KK}(e p n i j:Nat)(M:Nat->Nat->RK k)(X Y:Nat->Nat->ByteArray):Prop :=
 ∀q l,q<n->l<n->if q<i\/(q=i/\l<j) then Is k e (Y q l) (CSR.elim p M q l) else Y q l=X q l
def MatIs{k:KK}(e n:Nat)(X:Nat->Nat->ByteArray)(M:Nat->Nat->RK k):Prop:=∀q l,q<n->l<n->Is k e (X q l) (M q l)
theorem MatIs.mono{k:KK}{e e' n:Nat}{X:Nat->Nat->ByteArray}{M:Nat->Nat->RK k}(h:MatIs e n X M)(c:e'=0->e=0):MatIs e' n X M:=λq l g d=>(h q l g d).mono c
theorem Prog.at{k:KK}{e p n i j:Nat}{M:Nat->Nat->RK k}{X Y:Nat->Nat->ByteArray}(h:Prog e p n i j M X Y)(hi:i<n)(c:j<n):Y i j=X i j:=by
 have:=h i j hi c;rwa [ifn (by omega)]at this
structure FitE{k:KK}(n p:Nat)(M:Nat->Nat->RK k):Prop where
 star:fitV (CSR.star (M p p)).1
 first:∀i,i<n->fitV (M i p*CSR.star (M p p)).1
 second:∀i j,i<n->j<n->fitV (M i p*CSR.star (M p p)*M p j).1
 sum:∀i j,i<n->j<n->fitV (CSR.elim p M i j).1
end
section
open Go.RowKit Go.Deep
theorem FK(w:World)(z:Option Nat):w.grownBy w.drew z:=⟨rfl,rfl,rfl,nlr,λ_ _ _=>rfl⟩
theorem toList_eq{a b:ByteArray}(h:(a.toList==b.toList)=true):a=b:=by
 rw[beq_iff_eq,Lib.toList_data,Lib.toList_data]at h;exact ByteArray.ext<|Array.toList_inj.1 h
end
section
open Go.RowKit Go.Deep
variable{a:Act}{w:World}{g i:Nat}{v:Value}
theorem tryL{α:Type}:(∀(l:List α) (i:Nat) (a:α),l.toArray.setIfInBounds i a=(l.set i a).toArray)/\(∀(a b:α) (l:List α),(a::l).set 0 b=b::l)/\(∀(a b:α) (l:List α) (n:Nat),(a::l).set (n+1) b=a::l.set n b)/\(∀(l:List α) (i:Nat) (h:i<l.toArray.size),l.toArray[i]=l[i]'(by simpa using h))/\(∀(a:α) (l:List α) (i:Nat) (h:i+1<(a::l).length),(a::l)[i+1]=l[i]'(by simpa using h))/\(∀(a:α) (l:List α) (h:0<(a::l).length),(a::l)[0]=a) :=
 ⟨λ_ _ _=>List.setIfInBounds_toArray ..,λ_ _ _=>rfl,λ_ _ _ _=>rfl,λ_ _ _=>rfl,λ_ _ _ _=>rfl,λ_ _ _=>rfl⟩
section
variable{P:Program}{ops:Array Oper}{Q:Exit->Act->World->Prop}{S:World->Prop}{s:Nat}
def Aa(P:Program)(ops:Array Oper)(Q:Exit->Act->World->Prop)(S:World->Prop)(s:Nat):Nat->Array Bool->Act->World->Prop
 |0,listed,a,w=>Region.ready .any ops listed=[]/\Q .normal a w
 |fuel+1,listed,a,w=>(Region.ready .any ops listed=[]->Q .normal a w)/\
  ∀i ∈ Region.ready .any ops listed,wpOp P ops Q i (λa' w'=>(i=s\/S w')/\Aa P ops Q S s fuel (listed.setIfInBounds i true) a' w') a w
theorem Aa.any:∀(fuel:Nat) (listed:Array Bool) (a:Act) (w:World),Aa P ops Q S s fuel listed a w->wpAny P .any ops Q fuel listed a w
 |0,_,_,_,h=>h
 |fuel+1,_,_,_,h=>⟨h.1,λi hi=>wpOp_mono (λa' w' h'=>Aa.any fuel _ a' w' h'.2) (h.2 i hi)⟩
def waits(ops:Array Oper):Nat->Nat->Nat->Bool
 |0,_,_=>false
 |f+1,s,i=>match ops[s]? with
  |some o=>o.after.any λe=>Region.binds .any e&&(e.on==i||waits ops f e.on i)
  |none=>false
def Closed(ops:Array Oper)(listed:Array Bool):Prop:=∀j o,listed.getD j false=true->ops[j]?=some o->∀e ∈ o.after,Region.binds .any e=true->listed.getD e.on false=true
def FG(ops:Array Oper)(listed:Array Bool):Bool:=(List.range ops.size).all λj=>!listed.getD j false||match ops[j]? with
 |some o=>o.after.all λe=>!Region.binds .any e||listed.getD e.on false
 |none=>true
theorem Mr{c:Array Bool}(h:FG ops c=true):Closed ops c:=λj o l i e k hb=>by
 have d:=List.all_eq_true.1 h j (List.mem_range.2 (Array.getElem?_eq_some_iff.1 i).1);rw[l,i]at d;simp only[Bool.not_true,Bool.false_or]at d;have g:=Array.all_eq_true_iff_forall_mem.1 d e k;rw[hb]at g;simpa using g
theorem Closed.set{c:Array Bool}{j:Nat}(h:Closed ops c)(s:j ∈ Region.ready .any ops c):Closed ops (c.setIfInBounds j true):=λk o m p e l hb=>by
 by_cases g:j=k
 ·subst g;obtain⟨_,u,i,d⟩:=mem_ready.1 s;rw[p]at i;cases i;exact getD_set_true<|d e l hb
 rw[getD_set_ne false g]at m;exact getD_set_true<|h k o m p e l hb
theorem QD{c:Array Bool}(u:Closed ops c):∀(f s:Nat),waits ops f s i=true->(∀o,ops[s]?=some o->∀e ∈ o.after,Region.binds .any e=true->c.getD e.on false=true)->c.getD i false=true:=by
 intro f
 induction f with
 |zero=>intro s h;simp[waits]at h
 |succ f ih =>
  intro s h A;unfold waits at h;cases k:ops[s]? with
  |none=>rw[k]at h;simp at h
  |some o =>
   rw[k]at h;obtain⟨e,z,hb⟩:=Array.any_eq_true'.1 h;simp only[Bool.and_eq_true,Bool.or_eq_true,beq_iff_eq]at hb;have m:=A o k e z hb.1
   rcases hb.2 with d|d
   ·rw[<-d];exact m
   exact ih e.on d (λB l p j g=>u e.on B m l p j g)
theorem Aa.first{F:Oper}(hi:ops[i]?=some F)(hw:waits ops ops.size s i=true)(C:∀(j:Nat) (o:Oper) cs b,ops[j]?=some o->o.op≠.select cs b)
  (hQ:∀c a w,Q (.panic c) (a.put F.dst v) w->Q (.panic c) a w) :
  ∀(g:Nat) (d:Array Bool) (a:Act) (w:World),
   (∀j oj,ops[j]?=some oj->j≠i->d.getD j true=false->(∀e ∈ oj.after,Region.binds .any e=true->e.on≠i)->F.apart ops oj=true) ->
   i ∈ Region.ready .any ops d->Closed ops d->YieldsIf P ops S F v a->S w ->
   Aa P ops Q S s g (d.setIfInBounds i true) (a.put F.dst v) w->Aa P ops Q S s (g+1) d a w:=by
 intro g
 induction g with
 |zero =>
  intro d a w _ E D T G H;refine⟨λh=>(by rw[h]at E;cases E),λj J=>?_⟩;by_cases l:j=i
  ·subst l;exact T.wpOp hi G ⟨.inr G,H⟩
  have:=ready_mono J l;rw[H.1]at this;cases this
 |succ g ih =>
  intro d a w m E D T G H;refine⟨λh=>(by rw[h]at E;cases E),λj J=>?_⟩;by_cases l:j=i
  ·subst l;exact T.wpOp hi G ⟨.inr G,H⟩
  have R:=H.2 j (ready_mono J l);obtain⟨B,oj,z,A⟩:=mem_ready.1 J;have p:d.getD i false=false:=by
   have h0:=(mem_ready.1 E).1
   rcases Nat.lt_or_ge i d.size with U|U
   ·simp[U]at h0 ⊢;exact h0
   simp[Array.getElem?_eq_none U]
  have L:∀e ∈ oj.after,Region.binds .any e=true->e.on≠i:=λe X hb Y=>by
   have R:=A e X hb;rw[Y,p]at R;cases R
  have Z:j≠s:=λe=>by
   subst e;have:=QD D _ _ hw (λo' N e X hb=>by rw[z]at N;cases N;exact A e X hb);rw[p]at this;cases this
  have h2:=wpOp_putIf z (m j oj z l B L) (λcs b=>C i F cs b hi) (λcs b=>C j oj cs b z) hQ T R;have u:∀k ok,ops[k]?=some ok->k≠i->(d.setIfInBounds j true).getD k true=false ->
    (∀e ∈ ok.after,Region.binds .any e=true->e.on≠i)->F.apart ops ok=true:=λk ok hk a1 O a2=>by
   refine m k ok hk a1 ?_ a2;by_cases K:j=k
   ·subst K;exact B
   rw[getD_set_ne true K]at O;exact O
  refine wpOp_mono (λa' w' W=>?_) h2;have I:S w':=W.2.1.resolve_left Z;refine⟨.inr I,ih (d.setIfInBounds j true) a' w' u (ready_mono E (Ne.symm l)) (D.set J) W.1 I ?_⟩;rw[Array.setIfInBounds_comm _ _ l];exact W.2.2
theorem Aa.take{j:Oper}{d:Array Bool}(hi:ops[i]?=some j)(p:waits ops ops.size s i=true)(k:FG ops d=true)
  (o:Region.noSelect ops=true) (hf:Region.free .any ops d i=true) (m:(Region.ready .any ops d).contains i=true)
  (hQ:∀c a w,Q (.panic c) (a.put j.dst v) w->Q (.panic c) a w) (l:S w) (u:YieldsIf P ops S j v a)
  (h:Aa P ops Q S s g (d.setIfInBounds i true) (a.put j.dst v) w):Aa P ops Q S s (g+1) d a w :=
 Aa.first hi p (Region.noSelect_spec o) hQ g d a w (Region.free_spec hi hf) (by simpa using m) (Mr k) u l h
def tkB(ops:Array Oper)(s i:Nat)(listed:Array Bool):Bool:=waits ops ops.size s i&&FG ops listed&&Region.noSelect ops&&Region.free .any ops listed i&&(Region.ready .any ops listed).contains i
theorem Aa.tk{j:Oper}{d:Array Bool}(hi:ops[i]?=some j)(hb:tkB ops s i d=true)(k:S w)(l:YieldsIf P ops S j v a)
  (h:Aa P ops Q S s g (d.setIfInBounds i true) (a.put j.dst v) w) (hQ:∀c a w,Q (.panic c) (a.put j.dst v) w->Q (.panic c) a w:=by exact λ_ _ _ h=>h):Aa P ops Q S s (g+1) d a w:=by
 unfold tkB at hb;simp only[Bool.and_eq_true]at hb;exact Aa.take hi hb.1.1.1.1 hb.1.1.1.2 hb.1.1.2 hb.1.2 hb.2 hQ k l h
theorem Aa.one{o:Oper}{d:Nat}{c:Array Bool}(A:ops[i]?=some o)(m:Region.ready .any ops c=[i])(g:Region.wanted o (yielded ops a.tmps)=true)
  (h:∀K:Act->World->Prop,Shut (∀a w,(i=s\/S w)->Aa P ops Q S s d (c.setIfInBounds i true) a w->K a w)->Oper.wp P o a w K Q):Aa P ops Q S s (d+1) c a w:=by
 refine⟨λk=>(by rw[m]at k;cases k),λj l=>?_⟩;rw[m]at l;obtain rfl:j=i:=by simpa using l
 exact wpOp_step A (λK p=>by rw[ifp g];exact h K (λa w u z=>p a w ⟨u,z⟩))
theorem Aa.tm(i:Nat){j:Oper}{d:Array Bool}(k:S w)
  (h:Aa P ops Q S s g (d.setIfInBounds i true) (a.put j.dst v) w) (hi:ops[i]?=some j:=by rfl) (hb:tkB ops s i d=true:=by kernel_rfl) (l:Region.wanted j (yielded ops a.tmps)=true:=by kernel_rfl)
  (m:∀w,S w->(execOp a.eval j).run P w=.ok (.value v) w:=by (intro w h;go_simp;try with_reducible rfl)) (hQ:∀c a w,Q (.panic c) (a.put j.dst v) w->Q (.panic c) a w:=by exact λ_ _ _ h=>h):Aa P ops Q S s (g+1) d a w:=Aa.tk hi hb k (.inl ⟨l,m⟩) h hQ
theorem Aa.ts(i:Nat){j:Oper}{d:Array Bool}(k:S w)
  (h:Aa P ops Q S s g (d.setIfInBounds i true) (a.put j.dst undef) w) (hi:ops[i]?=some j:=by rfl) (hb:tkB ops s i d=true:=by kernel_rfl) (l:Region.wanted j (yielded ops a.tmps)=false:=by kernel_rfl)
  (hQ:∀c a w,Q (.panic c) (a.put j.dst undef) w->Q (.panic c) a w:=by exact λ_ _ _ h=>h):Aa P ops Q S s (g+1) d a w:=Aa.tk hi hb k (.inr ⟨l,rfl⟩) h hQ
theorem Aa.on(i:Nat){o:Oper}{d:Nat}{c:Array Bool}(h:∀K:Act->World->Prop,Shut (∀a w,(i=s\/S w)->Aa P ops Q S s d (c.setIfInBounds i true) a w->K a w)->Oper.wp P o a w K Q)
  (j:ops[i]?=some o:=by rfl) (k:Region.ready .any ops c=[i]:=by kernel_rfl) (g:Region.wanted o (yielded ops a.tmps)=true:=by rfl):Aa P ops Q S s (d+1) c a w:=Aa.one j k g h
def tkH(ops:Array Oper)(i:Nat)(listed:Array Bool):Bool:=Region.noSelect ops&&Region.free .any ops listed i&&(Region.ready .any ops listed).contains i
theorem hTm(i:Nat){j:Oper}{d:Array Bool}(k:S w)
  (h:wpAnyH P .any ops Q S g (d.setIfInBounds i true) (a.put j.dst v) w) (hi:ops[i]?=some j:=by rfl) (hb:tkH ops i d=true:=by kernel_rfl) (l:Region.wanted j (yielded ops a.tmps)=true:=by kernel_rfl)
  (m:∀w,S w->(execOp a.eval j).run P w=.ok (.value v) w:=by (intro w h;go_simp;try with_reducible rfl)) (hQ:∀c a w,Q (.panic c) (a.put j.dst v) w->Q (.panic c) a w:=by exact λ_ _ _ h=>h):wpAnyH P .any ops Q S (g+1) d a w:=by
 unfold tkH at hb;simp only[Bool.and_eq_true]at hb;exact wpAnyH_take hi hb.1.1 hb.1.2 hb.2 hQ (.inl ⟨l,m⟩) k h
theorem hTs(i:Nat){j:Oper}{d:Array Bool}(k:S w)
  (h:wpAnyH P .any ops Q S g (d.setIfInBounds i true) (a.put j.dst undef) w) (hi:ops[i]?=some j:=by rfl) (hb:tkH ops i d=true:=by kernel_rfl) (l:Region.wanted j (yielded ops a.tmps)=false:=by kernel_rfl)
  (hQ:∀c a w,Q (.panic c) (a.put j.dst undef) w->Q (.panic c) a w:=by exact λ_ _ _ h=>h):wpAnyH P .any ops Q S (g+1) d a w:=by
 unfold tkH at hb;simp only[Bool.and_eq_true]at hb;exact wpAnyH_take hi hb.1.1 hb.1.2 hb.2 hQ (.inr ⟨l,rfl⟩) k h
theorem Aa.done{listed:Array Bool}(hr:Region.ready .any ops listed=[])(h:Q .normal a w):∀fuel,Aa P ops Q S s fuel listed a w
 |0=>⟨hr,h⟩
 |_+1=>⟨λ_=>h,by rw[hr];simp⟩
theorem Aa.dn{c:Array Bool}{d:Nat}(h:Q .normal a w)(g:Region.ready .any ops c=[]:=by kernel_rfl):Aa P ops Q S s d c a w:=Aa.done g h d
theorem AB(S:World->Prop)(s:Nat){d:Nat}(c:P.follows .mixedOrders=true)
  (h:Aa P ops Q S s ops.size (Array.replicate ops.size false) a w.drew):(Code.region d ops true).wp P Q a w :=
 wp_region_any c (Aa.any _ _ _ _ h)
end
end
section
open Go.RowKit Go.Deep
variable{k:KK}{e n:Nat}
structure FitM{k:KK}(n:Nat)(M:Nat->Nat->RK k):Prop where
 steps:∀p,p<n->FitE n p (CSR.elims M p)
 last:∀i,i<n->fitV (CSR.elims M n i i+CSR.one).1
def Diag{k:KK}(e n c:Nat)(Z:Nat->Nat->ByteArray)(N:Nat->Nat->RK k):Prop:=∀l j,l<n->j<n->Is k e (Z l j) (if l=j/\l<c then N l j+CSR.one else N l j)
theorem Diag.start{Z:Nat->Nat->ByteArray}{N:Nat->Nat->RK k}(h:MatIs e n Z N):Diag e n 0 Z N:=λl j d c=>by rw[ifn (by omega)];exact h l j d c
theorem Diag.next{e' c:Nat}{Z:Nat->Nat->ByteArray}{N:Nat->Nat->RK k}{u:ByteArray}(h:Diag e n c Z N)(i:e'=0->e=0)(p:Is k e' u (N c c+CSR.one)):Diag e' n (c+1) (λl j=>if l=c/\j=c then u else Z l j) N:=λl j o m=>by
 by_cases d:l=c/\j=c
 ·obtain⟨rfl,rfl⟩:=d;rw[ifp (by omega)];simpa using p
 have:=(h l j o m).mono i;simp only[ifn d];by_cases g:l=j/\l<c
 ·rw[ifp g]at this;rw[ifp (by omega)];exact this
 rw[ifn g]at this;rw[ifn (by omega)];exact this
theorem Diag.done{Z:Nat->Nat->ByteArray}{M:Nat->Nat->RK k}(h:Diag e n n Z (CSR.elims M n)):MatIs e n Z (CSR.starM M n):=λl j d g=>by
 have:=h l j d g;unfold CSR.starM CSR.eye;by_cases c:l=j
 ·rw[ifp ⟨c,d⟩]at this;rw[ifp c];exact this
 rw[ifn (λh=>c h.1)]at this;rw[ifn c,CSR.a0];exact this
end
section
open Go.RowKit Go.Deep
def Scl(w:World)(cb:Nat)(D:MD)(sv star:Value)(e:Nat):Prop:=w.heap[cb]?=some (.cells #[.int .i64 D.kind,.int .i64 D.start,.string D.lead,sv,star,.int .i64 (e:Int)] 121 (0,0))
namespace Scl
variable{w w':World}{cb:Nat}{D:MD}{sv star:Value}{e:Nat}
theorem c0(h:Scl w cb D sv star e):w.cell? (Ad cb 0)=some (.int .i64 D.kind):=by unfold Scl at h;simp[World.cell?,h]
theorem c1(h:Scl w cb D sv star e):w.cell? (Ad cb 1)=some (.int .i64 D.start):=by unfold Scl at h;simp[World.cell?,h]
theorem c2(h:Scl w cb D sv star e):w.cell? (Ad cb 2)=some (.string D.lead):=by unfold Scl at h;simp[World.cell?,h]
theorem c3(h:Scl w cb D sv star e):w.cell? (Ad cb 3)=some sv:=by unfold Scl at h;simp[World.cell?,h]
theorem c4(h:Scl w cb D sv star e):w.cell? (Ad cb 4)=some star:=by unfold Scl at h;simp[World.cell?,h]
theorem c5(h:Scl w cb D sv star e):w.cell? (Ad cb 5)=some (.int .i64 (e:Int)):=by unfold Scl at h;simp[World.cell?,h]
end Scl
theorem FM{a:ByteArray}(h:(a.toList==[])=true):a=⟨#[]⟩:=toList_eq (b:=⟨#[]⟩) (by rw[Lib.toList_data ⟨#[]⟩];exact h)
end
section
open Go.RowKit Go.Deep
def TstA(nf:FuncId)(cap:Array Value)(sel:Int->Int->Bool)(P:World->Prop):Prop :=
 (∀args w,(callFunc nf args).run prog w=.ok (.enter nf args) w)/\∀w,P w->∀(i o:Int) (s:ByteArray) (t:Int),Calls prog nf (#[.agg #[.int .i64 i,.int .i64 o,.string s,.int .i64 t]]++cap) w (λr w'=>r=.returned (.bool (sel i o))/\Below w.heap.size w w')
structure ED where
 nf:Nat
 f:Nat->Int
 nt:Nat
 t:Nat->Int
 w:ByteArray
structure EM where
 n:Nat
 e:Nat->ED
 most:Int
def IU(n:Nat)(x:Nat->Int)(sig:Int):Prop:=∀i,i<n->1<=x i/\x i<=sig
def SD(s:ByteArray):Prop:=∃q,prs s=some q/\0<=q
structure EdOk(d:ED):Prop where
 f6:d.nf<=6
 t6:d.nt<=6
 pos:0<d.nf+d.nt
 fw:IU d.nf d.f 500
 tw:IU d.nt d.t 500
 wt:SD d.w
def qv(s:ByteArray):Rat:=(prs s).getD 0
theorem EdOk.q{d:ED}(h:EdOk d):prs d.w=some (qv d.w):=by obtain⟨q,c,_⟩:=h.wt;unfold qv;rw[c];rfl
structure EP where
 M:EM
 a:Nat
 x:Nat->Int
 b:Nat
 y:Nat->Int
abbrev Pl:=Nat × Nat × Nat
variable{n nf:Nat}{x:Nat->Int}{v:Value}{c:Int}
def Si(z:Option Nat)(w:World)(v:Value)(n:Nat)(x:Nat->Int):Prop:=Rd z w v n λi=>.int .i64 (x i)
def TstF(nf:FuncId)(cap:Array Value)(p:Int->Bool)(w:World):Prop :=
 (∀args w,(callFunc nf args).run prog w=.ok (.enter nf args) w)/\∀s:Int,Calls prog nf (#[.int .i64 s]++cap) w (λr w'=>r=.returned (.bool (p s))/\w'=w)
def anyI(n:Nat)(x:Nat->Int)(p:Int->Bool):Bool:=(List.range n).any λi=>p (x i)
theorem GU{p:Int->Bool}:anyI n x p=true↔∃i,i<n/\p (x i)=true:=by simp[anyI]
theorem Uf{l:Array Value}{p:Int->Bool}(w:World)(C:Si none w v n x)(hn:(n:Int)<=9223372036854775807)(L:TstF nf l p w):
  Calls prog 158 #[v,.func (.func nf) #[] l] w (λr w'=>w'=w/\∃k:Int,r=.returned (.int .i64 k)/\(decide (0<=k)=anyI n x p)):=by
 obtain⟨a,D,b,N,rfl,z,O,J,hb,d⟩:=C.open;unfold maxLen at J;obtain⟨G,g⟩:=L;replace z:=qh z;replace hb:=qh hb;replace d:=qh d;clear C;replace g:=qh g
 go_enter func158,ntmps158
 go_wp2_with fail
 go_loop [8] (λi=>∃q:Nat,q<=n/\i=.int .i64 (q:Int)/\∀j,j<q->p (x j)=false) (λi=>n-(intOf i).toNat)
 case atStart=>exact⟨0,Nat.zero_le _,rfl,λj I=>by omega⟩
 obtain⟨q,P,rfl,h⟩:=hrel;replace h:=qh h;by_cases s:q<n
 ·have K:(q:Int)<(n:Int):=by omega
  have B:(0:Int)<=(q:Int):=by omega
  obtain rfl:=z.o (by omega);have c0:=d.o q s;have c:=g.o<|x q;replace c:=qh c
  go_wp2_with fail
  refine c.o.mono ?_;rintro r Q⟨rfl,rfl⟩;cases o:p (x q)
  ·replace o:=qh o;go_wp2
   go_round
   case rel=>exact⟨q+1,by omega,by go_num,λj I=>by
    by_cases e:j=q
    ·subst e;exact o.o
    exact h.o j (by omega)⟩
   simp[intOf];omega
  replace o:=qh o;go_wp2;go_ret;refine⟨rfl,_,rfl,?_⟩;have u:anyI n x p=true:=GU.2 ⟨q,s,o.o⟩;rw[u];simp
 have m:q=n:=by omega
 have H:¬((q:Int)<(n:Int)):=by omega
 replace m:=qh m;go_wp2;go_ret;refine⟨rfl,_,rfl,?_⟩;have u:anyI n x p=false:=by
  cases E:anyI n x p
  ·rfl
  obtain⟨i,F,A⟩:=GU.1 E;rw[h.o i (by rw[m.o];exact F)]at A;cases A
 rw[u];rfl
theorem SC{c:Array Value}{p:Int->Bool}(w:World)(h:Si none w v n x)(hn:(n:Int)<=9223372036854775807)(g:TstF nf c p w):
  Calls prog 121 #[v,.func (.func nf) #[] c] w (λr w'=>r=.returned (.bool (anyI n x p))/\w'=w):=by
 have i:=qh<|Uf w h hn g;clear h hn g
 go_enter func121,ntmps121
 go_wp2_with fail
 refine i.o.mono ?_;rintro r j⟨rfl,k,rfl,d⟩;replace d:=qh d;go_wp2;go_ret;exact⟨AJ d.o,rfl⟩
def offI(sig s:Int):Bool:=decide (s<1)||decide (sig<s)
def DO(n:Nat)(x:Nat->Int)(sig:Int):Bool:=!anyI n x (offI sig)
theorem GK:DO n x c=true↔IU n x c:=by
 unfold DO;rw[Bool.not_eq_true',Bool.eq_false_iff]
 constructor
 ·intro h i hi;cases d:offI c (x i)
  ·unfold offI at d;simp at d;omega
  exact absurd (GU.2 ⟨i,hi,d⟩) h
 intro h j;obtain⟨i,d,g⟩:=GU.1 j;have:=h i d;unfold offI at g;simp at g;omega
theorem QJ:DO n x c=false↔¬IU n x c:=by
 rw[<-GK];simp
def isWord(n:Nat)(x:Nat->Int):Bool:=decide (n<=200)&&DO n x 500
def silB(i o:Int):Bool:=decide (i=0)&&decide (o=0)
theorem MN(t e:TypeId)(h:prog.underlying t=some (.slice e))(w:World)(a:Option Addr)(n c:Nat):(binOp .eql t (.slice a n c) (.slice none 0 0)).run prog w=.ok (.bool a.isNone) w:=by
 simp only[binOp];simp[run_equal_slice_nil w t e a n c h]
end
section
open Go.RowKit Go.Deep
abbrev VV:=Nat->ByteArray
def vrV(n:Nat):Option Nat->Value
 |none=>.slice none 0 0
 |some r=>.slice (some (Ad r 0)) n n
structure VR(w:World)(B:Nat)(g:Bool->Nat)(m n:Nat)(R:Bool->Nat->Option Nat)(S:Bool->Nat->Option VV):Prop where
 top:∀b,w.rowIs (g b) 118 m (λj=>vrV n (R b j))
 gne:g false≠g true
 low:∀b,B<=g b
 non:∀b j,j<m->(R b j=none↔S b j=none)
 row:∀b j r x,j<m->R b j=some r->S b j=some x->w.rowIs r 9 n (λq=>.string (x q))/\B<=r
 sep:∀b j b' j' r,j<m->j' < m->R b j=some r->R b' j'=some r->b=b'/\j=j'
 sm:∀b j x,S b j=some x->∀q,smS (x q)
theorem WU{w:World}{g g' n m:Nat}{e e':TypeId}{F i:Nat->Value}(h:w.rowIs g e n F)(j:w.rowIs g' e' m i)(l:e≠e'):g≠g':=by
 rintro rfl;obtain⟨c,k,_⟩:=h;obtain⟨o,d,_⟩:=j;rw[k]at d;simp at d;exact l d.2
namespace VR
variable{w w':World}{B:Nat}{g:Bool->Nat}{m n:Nat}{R:Bool->Nat->Option Nat}{S:Bool->Nat->Option VV}
end VR
end
section
open Go.RowKit Go.Deep
theorem WT{w:World}{g b n:Nat}{e t:TypeId}{f:Nat->Value}{cs:Array Value}{fr:Nat × Nat}(h:w.rowIs g e n f)(hb:w.heap[b]?=some (.cells cs t fr))(i:t≠e):g≠b:=by
 rintro rfl;obtain⟨c,d,_⟩:=h;rw[d]at hb;simp at hb;exact i hb.2.1.symm
def Bx(w:World)(b:Nat)(t:TypeId)(v:Value):Prop:=w.heap[b]?=some (.cells #[v] t (0,0))
structure WE(w0 w:World)(cb c8 xb yb:Nat)(D:MD)(sv xv yv:Value)(e:Nat):Prop where
 hb:Below w0.heap.size w0 w
 sc:Scl w cb D sv (.slice none 0 0) e
 k8:Bx w c8 114 (.pointer (some (Ad cb 0)))
 kx:Bx w xb 26 xv
 ky:Bx w yb 26 yv
 lc:w0.heap.size<=cb
namespace WE
variable{w0 w w':World}{cb c8 xb yb:Nat}{D:MD}{sv xv yv:Value}{e:Nat}
end WE
namespace VR
variable{w w':World}{B:Nat}{g:Bool->Nat}{m n:Nat}{R:Bool->Nat->Option Nat}{S:Bool->Nat->Option VV}
theorem same(h:VR w B g m n R S)(b:Bool){j:Nat}:VR (w.setCell (Ad (g b) j) (vrV n (R b j))) B g m n R S:=by
 have hf:Fr (λq=>q=g b) w (w.setCell (Ad (g b) j) (vrV n (R b j))):=(Fr.refl (λq=>q=g b) w).set (p:=(Ad (g b) j)) (.inl rfl) _;refine⟨λc=>?_,h.gne,h.low,h.non,λc o s u d k l=>⟨hf.row (h.row c o s u d k l).1 (λe=>WU (h.top b) (h.row c o s u d k l).1 (by decide) e.symm),(h.row c o s u d k l).2⟩,h.sep,h.sm⟩;by_cases e:c=b
 ·subst e;exact((h.top c).set j _).congr (λi _=>by
   by_cases e:i=j
   ·subst e;rw[ifp rfl]
   rw[ifn e])
 refine hf.row (h.top c) (λz=>?_);have A:=h.gne;cases c<;>cases b<;>first|exact e rfl|exact A z|exact A z.symm
end VR
end
section
theorem cellOf{w:World}{b:Nat}{c:Array Value}{e:TypeId}{f:Nat × Nat}(h:w.heap[b]?=some (.cells c e f))(i:Nat){v:Value}(d:c[i]?=some v):w.cell? (Ad b i)=some v:=by
 simp[World.cell?,h,d]
end
section
variable{a b s:ByteArray}{D:MD}{n p:Nat}
abbrev StarO:=Option<|Nat->Nat->ByteArray
def rstP(k:Int)(S:Nat->Nat->ByteArray)(v:Nat->ByteArray)(q:Nat):Nat->WS->WS
 |0,s=>s
 |p+1,s=>if v q=⟨#[]⟩\/S q p=Aj k then rstP k S v q p s
  else (updS (rstP k S v q p s).1 p (Ij k ((rstP k S v q p s).1 p) (IJ k (v q) (S q p) (rstP k S v q p s).2).1 (IJ k (v q) (S q p) (rstP k S v q p s).2).2).1,(Ij k ((rstP k S v q p s).1 p) (IJ k (v q) (S q p) (rstP k S v q p s).2).1 (IJ k (v q) (S q p) (rstP k S v q p s).2).2).2)
def rstQ(k:Int)(S:Nat->Nat->ByteArray)(v:Nat->ByteArray)(n:Nat):Nat->WS->WS
 |0,s=>s
 |q+1,s=>rstP k S v q n (rstQ k S v n q s)
def Zk(k:Int)(n:Nat)(st:StarO)(v:Nat->ByteArray)(e:Nat):WS:=match st with
 |none=>(v,e)
 |some S=>if e≠0 then (v,e) else rstQ k S v n n (NW,e)
def Sv(k:KK)(s:ByteArray)(x:RK k):Prop:=s=vtxt x.1/\fitV x.1
def Pv(k:KK)(s:ByteArray)(x:RK k):Prop:=(s=⟨#[]⟩/\x=CSR.zero)\/Sv k s x
section
variable{k:KK}
theorem Sv.prs{x:RK k}(h:Sv k s x):vprs k.1 s=some x.1:=by rw[h.1];exact QC h.2 x.2
theorem Sv.inj{s:ByteArray}{x y:RK k}(h:Sv k s x)(d:Sv k s y):x=y:=by
 have c:=h.prs;rw[d.prs]at c;exact RK.ext (Option.some.inj c).symm
theorem Sv.text{t:ByteArray}{x:RK k}(h:Sv k s x)(c:Sv k t x):s=t:=by rw[h.1,c.1]
theorem Sv.zero:Sv k (Aj k.1) (CSR.zero:RK k):=(Is.zero k 0).2 rfl
theorem Sv.eq_zero{x:RK k}(h:Sv k s x):s=Aj k.1↔x=CSR.zero:=by
 constructor
 ·intro e;rw[e]at h;exact h.inj Sv.zero
 intro e;rw[e]at h;exact h.text Sv.zero
theorem Sv.val{x:RK k}(h:Sv k s x):wval k s=x:=by
 have d:=h.prs;unfold wval
 split
 ·rename_i v c;rw[d]at c;cases c;rfl
 rename_i c;rw[d]at c;cases c
theorem Ze(h:Ak k.1 s=true):Sv k s (wval k s):=(IW h).2 rfl
theorem GJ{j:Int}(c:k.1=j)(h:Am j s=true):Sv k s (wval k s):=by subst c;exact Ze<|Ct h
theorem Nu{v:V}(h:(limV v).2=0):limV v=(vtxt v,0)/\fitV v:=by
 rcases FT v with⟨d,c⟩|⟨_,c⟩
 ·exact⟨c,d⟩
 rw[c]at h;cases h
theorem Kl{x y:RK k}(g:Sv k a x)(hb:Sv k b y)(h:(Ar k.1 a b).2=0):Sv k (Ar k.1 a b).1 (x+y):=by
 have i:Ar k.1 a b=limV (x+y).1:=by unfold Ar;rw[g.prs,hb.prs];rfl
 rw[i]at h ⊢;obtain⟨c,d⟩:=Nu h;rw[c];exact⟨rfl,d⟩
theorem IK{x y:RK k}(g:Sv k a x)(hb:Sv k b y)(h:(Ae k.1 a b).2=0):Sv k (Ae k.1 a b).1 (x*y):=by
 have i:Ae k.1 a b=limV (x*y).1:=by unfold Ae;rw[g.prs,hb.prs];rfl
 rw[i]at h ⊢;obtain⟨c,d⟩:=Nu h;rw[c];exact⟨rfl,d⟩
end
def rmOf(k:KK)(D:MD):RM (RK k) :=
 { n:=D.n,start:=D.start.toNat,lead:=wval k D.lead,fin:=λq=>if D.fin q=⟨#[]⟩ then CSR.zero else wval k (D.fin q),na:=D.na,ain:=D.ain,aout:=D.aout,aw:=λq d=>wval k (D.aw q d),ato:=λq d=>(D.ato q d).toNat }
theorem VM.inn(h:VM D)(k:KK):Inn (rmOf k D):=λq d g hd=>by
 have c:=h.arc q d g hd;have:=c.t0;have:=c.t1;show (D.ato q d).toNat<D.n;omega
theorem VM.stn(h:VM D)(k:KK):(rmOf k D).start<(rmOf k D).n:=by
 have:=h.s0;have:=h.s1;show D.start.toNat<D.n;omega
theorem VM.kk(h:VM D):∃k:KK,k.1=D.kind:=by
 have c:=h.kind;unfold Aw at c;simp at c;exact⟨⟨D.kind,by omega⟩,rfl⟩
section
variable{D:MD}(hV:VM D){k:KK}(hk:k.1=D.kind)
open CSR
def stq(A:RM (RK k))(i o:Int)(f:Nat->RK k)(q:Nat)(p:Nat):RK k:=sum (λq=>sum (λd=>if A.ain q d=i/\A.aout q d=o/\A.ato q d=p then f q*A.aw q d else zero) (A.na q)) q
include hV hk
omit hV hk
end
open CSR
def StOk(k:KK)(D:MD)(st:StarO):Prop:=match st with
 |none=>∀q p,q<D.n->p<D.n->sil (rmOf k D) q p=zero
 |some S=>∀q p,q<D.n->p<D.n->Sv k (S q p) (starM (sil (rmOf k D)) D.n q p)
theorem PI{R:Type}[CSR R]{M:Nat->Nat->R}(h:∀q p,q<n->p<n->M q p=zero){q:Nat}(d:q<n)(c:p<n):starM M n q p=eye q p:=by
 rw[starM_left M c,sum_congr (g:=λ_=>zero) (λr i=>by rw[h q r d i,zm]),sum_zero,a0]
theorem WZ{R:Type}[CSR R]{M:Nat->Nat->R}(h:∀q p,q<n->p<n->M q p=zero)(v:Nat->R)(c:p<n):rst M n v p=v p:=by
 unfold rst;rw[sum_single _ c (λq g d=>by rw[PI h g c,eye,ifn d,m0]),PI h c c,eye,ifp rfl,m1]
def Orl(k:KK)(n:Nat)(o:Option VV)(u:Nat->RK k):Prop:=match o with
 |none=>∀p,p<n->u p=zero
 |some v=>∀p,p<n->Pv k (v p) (u p)
theorem Orl.getD{k:KK}{o:Option VV}{u:Nat->RK k}(h:Orl k n o u):∀p,p<n->Pv k ((o.getD NW) p) (u p):=λp c=>by
 cases o with
 |none=>exact .inl ⟨rfl,h p c⟩
 |some v=>exact h p c
section
variable{D:MD}(hV:VM D){k:KK}(hk:k.1=D.kind)
include hV hk
variable{na:Nat}{x:Nat->Int}{nb:Nat}{y:Nat->Int}{st:StarO}(hst:StOk k D st)
include hst
end
end
section
open Go.RowKit Go.Deep Go.Maps Go.WideMaps
def Sq(k:Int)(n:Nat)(L:Nat->Nat)(X:Nat->Nat->ByteArray):Prop:=∀i,i<n->L i=n/\∀j,j<n->Ak k (X i j)=true
theorem Sq.mat{k:KK}{n:Nat}{L:Nat->Nat}{X:Nat->Nat->ByteArray}(h:Sq k.1 n L X):MatIs 0 n X (λi j=>wval k (X i j)):=λi j hi c=>IW ((h i hi).2 j c)
end
section
open Go.RowKit Go.Deep
def TestE(p:Prop)(w:World)(r:Ending)(w':World):Prop:=∃b:Bool,r=.returned (.bool b)/\(b=true↔p)/\Below w.heap.size w w'
theorem UK{k0:Int}{n:Nat}{L:Nat->Nat}{X:Nat->Nat->ByteArray}{v:Value}(w:World)(hA:Mt none w v n L X)(hz:∀i j,(X i j).size<=maxLen)(P:Prop)(G:P↔(Aw k0=true/\Sq k0 n L X)):
  Calls prog 156 #[.int .i64 k0,v] w (TestE P w):=by
 replace G:=qh G;obtain⟨a,a8,b,R,A,C,BB,O,rfl,Z,hc,hm,hb,s⟩:=hA.open;unfold maxLen at hm;clear hA;replace hz:=qh hz;replace Z:=qh Z;replace hb:=qh hb;replace s:=qh s;have m:=Gp k0 w;cases S:Aw k0
 ·rw[S]at m;have U:=qh m;clear m
  go_enter func156,ntmps156
  go_wp2_with fail
  refine U.o.mono ?_;rintro r w1⟨rfl,rfl⟩;go_wp2;go_ret;exact⟨false,rfl,⟨(λh=>by cases h),λh=>absurd (G.o.1 h).1 (by rw[S];simp)⟩,blr⟩
 rw[S]at m;have U:=qh m;clear m
 go_enter func156,ntmps156
 go_wp2_with fail
 refine U.o.mono ?_;rintro r w1⟨rfl,rfl⟩
 go_wp2_with fail
 go_loopw [5] (λi wr=>∃q:Nat,q<=n/\i=.int .i64 (q:Int)/\(∀l,l<q->L l=n/\∀j,j<n->Ak k0 (X l j)=true)/\Below w.heap.size w wr) (λi _=>n-(intOf i).toNat)
 case atStart=>exact⟨0,Nat.zero_le _,rfl,λj hj=>by omega,blr⟩
 obtain⟨q,hq,rfl,z,o⟩:=hrel;replace z:=qh z;have c:=qh o;clear o;by_cases F:q<n
 ·have b0:(q:Int)<(n:Int):=by omega
  have a7:(0:Int)<=(q:Int):=by omega
  obtain rfl:=Z.o (by omega);have K:=(hb.o (by omega)).1;obtain⟨k1,k2,k3,k4,k5,_,T⟩:=s.o q F;have c0:=(c.o.cell (p:=(Ad b (R+q))) K).trans k1;unfold maxLen at k3;by_cases Y:L q=n
  ·have J:((L q:Int)==(n:Int))=true:=by simp;omega
   rw[Y]at c0 k4 k5 T k1 J;obtain Q:=k4 (by omega);have a1:=(k5 (by omega)).1;rw[Q]at c0 k1;replace T:=qh T;clear k4 k5 Q;replace k1:=qh k1
   go_wp2_with fail
   go_loopw [6] (λi wr=>∃d:Nat,d<=n/\i=.int .i64 (d:Int)/\(∀j,j<d->Ak k0 (X q j)=true)/\Below w.heap.size w wr) (λi _=>n-(intOf i).toNat)
   case atStart=>exact⟨0,Nat.zero_le _,rfl,λj hj=>by omega,c.o⟩
   obtain⟨d,hd,rfl,g,o⟩:=hrel;clear c c0;replace g:=qh g;have c:=qh o;clear o;by_cases D:d<n
   ·have a9:(d:Int)<(n:Int):=by omega
    have a6:(0:Int)<=(d:Int):=by omega
    obtain⟨x,I⟩:=exq<|X q d;have c0:=(c.o.cell (p:=(Ad b (R+q))) K).trans k1.o;have c1:=(c.o.cell (p:=(Ad (BB q) (O q+d))) a1).trans (T.o d D);rw[<-I]at c1;have B:=hz.o q d;rw[<-I]at B;have H:=CK k0 x wr (by unfold maxLen at B;exact B);clear B;replace I:=qh I;cases k:Ak k0 x
    ·rw[k]at H;have W:=qh H;clear H
     go_wp2_with fail
     refine W.o.mono ?_;rintro r w2⟨rfl,u⟩;clear c0 c1;go_wp2;go_ret;exact⟨false,rfl,⟨(λh=>by cases h),λh=>by have:=((G.o.1 h).2 q F).2 d D;rw[<-I.o,k]at this;exact absurd this (by simp)⟩,c.o.trans (u.mono c.o.size)⟩
    rw[k]at H;have W:=qh H;clear H
    go_wp2_with fail
    refine W.o.mono ?_;rintro r w2⟨rfl,u⟩;clear c0 c1;have N:=c.o.trans<|u.mono c.o.size;clear u;go_wp2;go_roundw
    case rel =>
     refine⟨d+1,by omega,by go_num,λj hj=>?_,N⟩
     rcases Nat.lt_succ_iff_lt_or_eq.1 hj with E|E
     ·exact g.o j E
     subst E;rw[<-I.o];exact k
    simp[intOf];omega
   have a2:d=n:=by omega
   subst a2;have a4:¬((d:Int)<(d:Int)):=by omega
   go_wp2;go_roundw
   case rel =>
    refine⟨q+1,by omega,by go_num,λl hl=>?_,c.o⟩
    rcases Nat.lt_succ_iff_lt_or_eq.1 hl with E|E
    ·exact z.o l E
    subst E;exact⟨Y,g.o⟩
   simp[intOf];omega
  have J:((L q:Int)==(n:Int))=false:=by simp;omega
  go_wp2;go_ret;exact⟨false,rfl,⟨(λh=>by cases h),λh=>absurd ((G.o.1 h).2 q F).1 Y⟩,c.o⟩
 have a5:q=n:=by omega
 subst a5;have a4:¬((q:Int)<(q:Int)):=by omega
 go_wp2;go_ret;exact⟨true,rfl,⟨λ_=>G.o.2 ⟨S,z.o⟩,λ_=>rfl⟩,c.o⟩
def StV(w:World)(stv:Value)(n:Nat)(st:StarO):Prop:=match st with
 |none=>stv=.slice none 0 0
 |some S=>Mt none w stv n (λ_=>n) S/\∀q p,q<n->p<n->smS (S q p)
end
section
def Xj(D:MD)(sel:Int->Int->Bool)(q d:Nat)(s:WS):WS :=
 if sel (D.ain q d) (D.aout q d)=true then (updS s.1 (D.ato q d).toNat (Ij D.kind (s.1 (D.ato q d).toNat) (D.aw q d) s.2).1,(Ij D.kind (s.1 (D.ato q d).toNat) (D.aw q d) s.2).2) else s
def Pp(D:MD)(sel:Int->Int->Bool)(q:Nat):Nat->WS->WS
 |0,s=>s
 |d+1,s=>Xj D sel q d (Pp D sel q d s)
def zrC(k:Int):Nat->ByteArray:=λ_=>Aj k
def srow(D:MD)(sel:Int->Int->Bool)(q e:Nat):WS:=Pp D sel q (D.na q) (zrC D.kind,e)
def serr(D:MD)(sel:Int->Int->Bool):Nat->Nat
 |0=>0
 |q+1=>(srow D sel q (serr D sel q)).2
def smat(D:MD)(sel:Int->Int->Bool)(q:Nat):Nat->ByteArray:=(srow D sel q (serr D sel q)).1
open CSR
def sils{R:Type}[CSR R](A:RM R)(sel:Int->Int->Bool)(q p:Nat):R:=sum (λd=>if sel (A.ain q d) (A.aout q d)=true/\A.ato q d=p then A.aw q d else zero) (A.na q)
theorem PC{R:Type}[CSR R](A:RM R)(q p:Nat):sils A silB q p=sil A q p:=by
 unfold sils sil;refine sum_congr λd _=>?_;unfold silB;simp only[Bool.and_eq_true,decide_eq_true_eq,and_assoc]
section
variable{D:MD}(hV:VM D){k:KK}(hk:k.1=D.kind)
include hV hk
end
def NoSel(D:MD)(sel:Int->Int->Bool):Prop:=∀q d,q<D.n->d<D.na q->sel (D.ain q d) (D.aout q d)=false
def SilOk(D:MD)(sel:Int->Int->Bool)(st:StarO)(e:Nat):Prop :=
 (NoSel D sel/\st=none/\e=0)\/
 (¬NoSel D sel/\D.n<=60/\e=0/\∃S,st=some S/\∀k:KK,k.1=D.kind->∀q p,q<D.n->p<D.n->Sv k (S q p) (starM (sils (rmOf k D) sel) D.n q p))\/
 (¬NoSel D sel/\e≠0/\st=none/\(60<D.n\/serr D sel D.n≠0\/∃k:KK,k.1=D.kind/\¬FitM D.n (λi j=>wval k (smat D sel i j))))
theorem SilOk.nosil{D:MD}{sel:Int->Int->Bool}(h:NoSel D sel)(k:KK)(q p:Nat)(j:q<D.n):sils (rmOf k D) sel q p=zero:=by
 unfold sils;rw[sum_congr (g:=λ_=>zero) (λd hd=>?_),sum_zero];have i:sel (D.ain q d) (D.aout q d)=false:=h q d j hd;exact ifn (λe=>by
  have c:sel (D.ain q d) (D.aout q d)=true:=e.1;rw[i]at c;cases c)
end
section
open Go.RowKit Go.Deep
def gvs(n:Nat)(X:Nat->Value):List Value:=(List.range n).map X
def OwV(w:World)(B:Nat)(e:TypeId)(v:Value)(n:Nat)(X:Nat->Value):Prop:=w.ownsRow B e 1 v n (gvs n X)
structure OMV(w:World)(Z:Nat->Prop)(B:Nat)(eR eT:TypeId)(g n:Nat)(R:Nat->Value)(L:Nat->Nat)(X:Nat->Nat->Value):Prop where
 top:w.rowIs g eT n R
 base:B<=g
 zg:¬Z g
 zlt:∀b,Z b->b<w.heap.size
 row:∀i,i<n->OwV w B eR (R i) (L i) (X i)
 far:∀i,i<n->∀b,(R i).ownBlock=some b->b≠g/\¬Z b
 apart:∀i j,i<n->j<n->i≠j->∀b,(R i).ownBlock=some b->(R j).ownBlock≠some b
namespace OMV
variable{w w':World}{Z:Nat->Prop}{B:Nat}{eR eT:TypeId}{g n:Nat}{R:Nat->Value}{L:Nat->Nat}{X:Nat->Nat->Value}
end OMV
end
section
open Go.RowKit Go.Deep
variable{w:World}{B b cap g i n s:Nat}{e:TypeId}{xs:List Value}{v:Value}{z:Option Nat}
def cat(c:Nat->List Value)(n:Nat):List Value:=(List.range n).flatMap c
theorem Dy(c:Nat->List Value)(n:Nat):cat c (n+1)=cat c n++c n:=by unfold cat;rw[List.range_succ,List.flatMap_append];simp
theorem Es{c:Nat->List Value}{s:Nat}(hc:∀i,(c i).length=s):∀n,(cat c n).length=n*s
 |0=>by simp[cat]
 |n+1=>by rw[Dy,List.length_append,Es hc n,hc n,Nat.add_mul,Nat.one_mul]
theorem DU{c d:Nat->List Value}:∀{n:Nat},(∀i,i<n->c i=d i)->cat c n=cat d n
 |0,_=>rfl
 |n+1,h=>by rw[Dy,Dy,DU (λi hi=>h i (by omega)),h n (by omega)]
theorem Hg{c:Nat->List Value}{s:Nat}(hc:∀i,(c i).length=s){i j:Nat}(hj:j<s):∀{n:Nat},i<n->(cat c n)[i*s+j]?=(c i)[j]?
 |0,h=>by omega
 |n+1,h=>by
  rw[Dy];by_cases e:i=n
  ·subst e;rw[List.getElem?_append_right (by rw[Es hc];omega),Es hc,Nat.add_sub_cancel_left]
  have h1:i<n:=by omega
  have h2:i*s+j<n*s:=Nat.lt_of_lt_of_le (by rw[Nat.add_lt_add_iff_left];exact hj:i*s+j<i*s+s) (by rw[<-Nat.succ_mul];exact Nat.mul_le_mul_right s h1);rw[List.getElem?_append_left (by rw[Es hc];exact h2)];exact Hg hc hj h1
theorem Jk{c:Nat->List Value}{s:Nat}(hc:∀i,(c i).length=s){i j:Nat}(hj:j<s)(x:Value):∀{n:Nat},i<n->(cat c n).set (i*s+j) x=cat (λk=>if k=i then (c i).set j x else c k) n
 |0,h=>by omega
 |n+1,h=>by
  rw[Dy,Dy];by_cases e:i=n
  ·subst e;rw[List.set_append_right _ _ (by rw[Es hc];omega),Es hc,Nat.add_sub_cancel_left,ifp rfl]
   congr 1
   exact DU λk hk=>by rw[ifn (by omega)]
  have h1:i<n:=by omega
  have h2:i*s+j<n*s:=Nat.lt_of_lt_of_le (by rw[Nat.add_lt_add_iff_left];exact hj:i*s+j<i*s+s) (by rw[<-Nat.succ_mul];exact Nat.mul_le_mul_right s h1);rw[List.set_append_left _ _ (by rw[Es hc];exact h2),Jk hc hj x h1,ifn (λe2=>e e2.symm)]
theorem OX(h:w.ownsRow B e s (.slice (some (Ad g 0)) n cap) n xs)(o:Nat)(x:Value):
  (w.setCell (Ad g o) x).ownsRow B e s (.slice (some (Ad g 0)) n cap) n (xs.set o x):=by
 refine⟨by rw[List.length_set];exact h.1,?_⟩
 rcases h.2 with⟨d,_⟩|⟨u,i,cur,d,j,c,k,l,m,p⟩
 ·cases d
 cases d;refine .inr ⟨g,cap,cur.setIfInBounds o x,rfl,j,by simp[World.setCell,Array.getElem?_modify,c],k,l,by simpa using m,?_⟩;rw[Array.toList_setIfInBounds,List.take_set,p]
theorem CM{o:Nat}{x:Value}(h:w.ownsRow B e s (.slice (some (Ad g 0)) n cap) n xs)(c:xs[o]?=some x):w.cell? (Ad g o)=some x:=by
 have:=World.ownsRow.cells h (g:=g) rfl o _ c;rw[Addr.add_lit,Nat.zero_add]at this;exact this
theorem EA(h:w.ownsRow B e s (.slice (some (Ad g 0)) n cap) n xs)(o:Nat):w.frozen? (Ad g o)=false:=by
 rcases h.2 with⟨d,_⟩|⟨j,i,cur,d,k,c,_⟩
 ·cases d
 cases d;simp[World.frozen?,c]
theorem DI(h:w.ownsRow B e s v n xs)(hn:0<n):∃g cap,v=.slice (some (Ad g 0)) n cap/\B<=g/\g<w.heap.size/\n<=cap/\cap<=maxLen:=by
 rcases h.2 with⟨_,d⟩|⟨g,cap,cur,rfl,d,c,i,j,_⟩
 ·omega
 exact⟨g,cap,rfl,d,(Array.getElem?_eq_some_iff.1 c).1,i,j⟩
theorem Ax(h:w.ownsRow B e s v n xs):∃a cap,v=.slice a n cap/\n<=cap/\cap<=maxLen:=by
 rcases h.2 with⟨rfl,c⟩|⟨g,cap,cur,rfl,c,j,d,i,_⟩
 ·exact⟨none,0,by rw[c],by omega,Nat.zero_le _⟩
 exact⟨_,cap,rfl,d,i⟩
theorem Gq{l:Nat}{e':TypeId}{A z:Nat}{v':Value}{i:List Value}(h:w.ownsRow B e s v n xs)(p:w.ownsRow l e' A v' z i)(u:e≠e')(hb:v.ownBlock=some b):v'.ownBlock≠some b:=by
 rcases h.2 with⟨rfl,_⟩|⟨g,m,cur,rfl,_,d,_⟩
 ·cases hb
 rcases p.2 with⟨rfl,_⟩|⟨C,j,k,rfl,_,c,_⟩
 ·simp[Value.ownBlock]
 simp[Value.ownBlock]at hb ⊢;intro o;subst hb;subst o;rw[d]at c;simp at c;exact u c.2
theorem AK{w':World}(h:w.ownsRow B e s v n xs)(c:w.grownBy w' z)(g:∀b,v.ownBlock=some b->z≠some b):w'.ownsRow B e s v n xs :=
 World.ownsRow.kept h c (by
  cases d:v.ownBlock with
  |none=>exact .inl rfl
  |some b=>exact .inr (λe=>g b d e.symm))
theorem BE(h:w.ownsRow B e s v n xs){p:Addr}(c:v.ownBlock≠some p.block)(x:Value):(w.setCell p x).ownsRow B e s v n xs :=
 AK h (z:=some p.block) ⟨rfl,rfl,rfl,by simp,λq _ d=>blk_setCell_other _ _ _ _ (λe=>d (by rw[e]))⟩ (λb hb e=>c (by rw[hb,e]))
def arc4(D:MD)(i k:Nat):List Value:=[.int .i64 (D.ain i k),.int .i64 (D.aout i k),.string (D.aw i k),.int .i64 (D.ato i k)]
def st2(D:MD)(R:Nat->Value)(i:Nat):List Value:=[.string (D.fin i),R i]
structure OwM(w:World)(B:Nat)(sv:Value)(D:MD)(R:Nat->Value):Prop where
 top:w.ownsRow B 63 2 sv D.n (cat (st2 D R) D.n)
 row:∀i,i<D.n->w.ownsRow B 59 4 (R i) (D.na i) (cat (arc4 D i) (D.na i))
 apart:∀i j,i<D.n->j<D.n->i≠j->∀b,(R i).ownBlock=some b->(R j).ownBlock≠some b
def AV(kd:Int)(start:Int)(lead:ByteArray):MD:=⟨kd,start,lead,0,λ_=>⟨#[]⟩,λ_=>0,λ_ _=>0,λ_ _=>0,λ_ _=>⟨#[]⟩,λ_ _=>0⟩
def MD.state(D:MD)(f:ByteArray):MD:={ D with n:=D.n+1,fin:=λi=>if i=D.n then f else D.fin i,na:=λi=>if i=D.n then 0 else D.na i }
def MD.setFin(D:MD)(q:Nat)(f:ByteArray):MD:={ D with fin:=λi=>if i=q then f else D.fin i }
def MD.arc(D:MD)(q:Nat)(a b:Int)(x:ByteArray)(t:Int):MD :=
 { D with
  na:=λi=>if i=q then D.na q+1 else D.na i
  ain:=λi k=>if i=q/\k=D.na q then a else D.ain i k
  aout:=λi k=>if i=q/\k=D.na q then b else D.aout i k
  aw:=λi k=>if i=q/\k=D.na q then x else D.aw i k
  ato:=λi k=>if i=q/\k=D.na q then t else D.ato i k }
theorem Rv(D:MD)(i k:Nat):(arc4 D i k).length=4:=rfl
theorem IE(D:MD)(R:Nat->Value)(i:Nat):(st2 D R i).length=2:=rfl
theorem OwM.empty(w:World)(B:Nat)(kd st:Int)(c:ByteArray)(R:Nat->Value):OwM w B (.slice none 0 0) (AV kd st c) R :=
 ⟨World.ownsRow_nil w B _ 2,λ_ hi=>absurd hi (Nat.not_lt_zero _),λ_ _ hi=>absurd hi (Nat.not_lt_zero _)⟩
namespace OwM
variable{w w':World}{B:Nat}{sv:Value}{D:MD}{R:Nat->Value}
theorem kept(h:OwM w B sv D R)(c:w.grownBy w' z)(d:∀k,z=some k->k<B):OwM w' B sv D R :=
 ⟨AK h.top c (λb hb e=>by have:=d b e;have:=(World.ownsRow.lt h.top b hb).1;omega),
  λi hi=>AK (h.row i hi) c (λb hb e=>by have:=d b e;have:=(World.ownsRow.lt (h.row i hi) b hb).1;omega),h.apart⟩
theorem other(h:OwM w B sv D R){p:Addr}(c:sv.ownBlock≠some p.block)(d:∀i,i<D.n->(R i).ownBlock≠some p.block)(v:Value):OwM (w.setCell p v) B sv D R :=
 ⟨BE h.top c v,λi hi=>BE (h.row i hi) (d i hi) v,h.apart⟩
theorem tne(h:OwM w B sv D R)(hi:i<D.n)(hb:(R i).ownBlock=some b):sv.ownBlock≠some b :=
 Gq (h.row i hi) h.top (by decide) hb
theorem fin_cell(h:OwM w B (.slice (some (Ad g 0)) D.n cap) D R)(hi:i<D.n):w.cell? (Ad g (i*2))=some (.string (D.fin i)) :=
 CM h.top (by have:=Hg (IE D R) (i:=i) (j:=0) (by omega) hi;rw[Nat.add_zero]at this;rw[this];rfl)
theorem arcs_cell(h:OwM w B (.slice (some (Ad g 0)) D.n cap) D R)(hi:i<D.n):w.cell? (Ad g (i*2+1))=some (R i) :=
 CM h.top (by rw[Hg (IE D R) (i:=i) (j:=1) (by omega) hi];rfl)
theorem sts(h:OwM w B sv D R):StS none w sv D:=by
 by_cases p:D.n=0
 ·obtain⟨a,l,m,_,d⟩:=Ax h.top;exact .inl ⟨p,a,l,by rw[m,p],d⟩
 obtain⟨g,l,rfl,_,E,u,z⟩:=DI h.top (by omega);refine .inr ⟨g,0,l,R,rfl,⟨E,by simp⟩,u,z,λi hi=>⟨by rw[Nat.zero_add];exact h.fin_cell hi,by rw[Nat.zero_add];exact h.arcs_cell hi,?_⟩⟩;have o:=h.row i hi;by_cases s:D.na i=0
 ·obtain⟨a,c,m,_,d⟩:=Ax o;exact .inl ⟨s,a,c,by rw[m,s],d⟩
 obtain⟨b,c,m,_,hb,A,C⟩:=DI o (by omega);rw[m]at o;refine .inr ⟨b,0,c,m,⟨hb,by simp⟩,A,C,λk G=>?_⟩;have d:∀j x,j<4->(arc4 D i k)[j]?=some x->w.cell? (Ad b (k*4+j))=some x:=λj x F H=>CM o (by rw[Hg (Rv D i) F G];exact H);rw[Nat.zero_add];exact⟨d 0 _ (by omega) rfl,d 1 _ (by omega) rfl,d 2 _ (by omega) rfl,d 3 _ (by omega) rfl⟩
theorem state{d:Value}{o:Obj}{f:ByteArray}(h:OwM w B sv D R)(m:w'.ownsRow B 63 2 d (D.n+1) (cat (st2 D R) D.n++[.string f,.slice none 0 0]))(p:(w.alloc o).grownBy w' sv.ownBlock):
  OwM w' B d (D.state f) (λi=>if i=D.n then .slice none 0 0 else R i):=by
 refine⟨?_,λi hi=>?_,λi j hi s g b hb=>?_⟩
 ·have e:cat (st2 (D.state f) (λi=>if i=D.n then .slice none 0 0 else R i)) (D.n+1)=cat (st2 D R) D.n++[.string f,.slice none 0 0]:=by
   rw[Dy]
   congr 1
   ·exact DU λi hi=>by simp[st2,MD.state,show i≠D.n by omega]
   simp[st2,MD.state]
  show w'.ownsRow B 63 2 d (D.n+1) (cat _ (D.n+1));rw[e];exact m
 ·by_cases e:i=D.n
  ·subst e;show w'.ownsRow B _ 4 (if D.n=D.n then _ else _) (if D.n=D.n then 0 else D.na D.n) (cat (arc4 (D.state f) D.n) (if D.n=D.n then 0 else D.na D.n))
   rw[ifp rfl,ifp rfl];exact World.ownsRow_nil w' B 59 4
  have c:i<D.n:=by have:i<D.n+1:=hi;omega
  show w'.ownsRow B _ 4 (if i=D.n then _ else R i) (if i=D.n then 0 else D.na i) (cat (arc4 D i) (if i=D.n then 0 else D.na i))
  rw[ifn e,ifn e];exact AK (World.ownsRow.alloc (h.row i c) o) p (λb hb=>h.tne c hb)
 have c:i<D.n+1:=hi;have u:j<D.n+1:=s;by_cases k:i=D.n
 ·simp only[ifp k]at hb;cases hb
 simp only[ifn k]at hb;by_cases l:j=D.n
 ·simp only[ifp l];simp[Value.ownBlock]
 simp only[ifn l];exact h.apart i j (by omega) (by omega) g b hb
theorem setFin{g cap q:Nat}(h:OwM w B (.slice (some (Ad g 0)) D.n cap) D R)(j:q<D.n)(f:ByteArray):OwM (w.setCell (Ad g (q*2)) (.string f)) B (.slice (some (Ad g 0)) D.n cap) (D.setFin q f) R:=by
 refine⟨?_,λi hi=>BE (p:=(Ad g (q*2))) (h.row i hi) (λe=>h.tne hi e rfl) (.string f),h.apart⟩;have c:=OX h.top (q*2+0) (.string f);rw[Jk (IE D R) (by omega) _ j,DU (d:=st2 (D.setFin q f) R) (λi hi=>by
  by_cases e:i=q
  ·subst e;rw[ifp rfl];simp[st2,MD.setFin]
  rw[ifn e];simp[st2,MD.setFin,e])]at c
 exact c
theorem arc{g cap q:Nat}{v':Value}{o:Obj}{a b t:Int}{x:ByteArray}(h:OwM w B (.slice (some (Ad g 0)) D.n cap) D R)(C:q<D.n)
  (I:w'.ownsRow B 59 4 v' (D.na q+1) (cat (arc4 D q) (D.na q)++[.int .i64 a,.int .i64 b,.string x,.int .i64 t])) (H:(w.alloc o).grownBy w' (R q).ownBlock)
  (z:∀c,v'.ownBlock=some c->(R q).ownBlock=some c\/w.heap.size<=c) :
  OwM (w'.setCell (Ad g (q*2+1)) v') B (.slice (some (Ad g 0)) D.n cap) (D.arc q a b x t) (λi=>if i=q then v' else R i):=by
 have K:w'.ownsRow B 63 2 (.slice (some (Ad g 0)) D.n cap) D.n (cat (st2 D R) D.n):=AK (World.ownsRow.alloc h.top o) H (λc l e=>h.tne C e.symm.symm l);have L:v'.ownBlock≠some g:=λe=>by
  rcases z g e with u|u
  ·exact h.tne C u rfl
  have:=(World.ownsRow.lt h.top g rfl).2;omega
 refine⟨?_,λi hi=>?_,λi j hi A s c l=>?_⟩
 ·have G:=OX K (q*2+1) v';rw[Jk (IE D R) (by omega) _ C,DU (d:=st2 (D.arc q a b x t) (λi=>if i=q then v' else R i)) (λi hi=>by
   by_cases e:i=q
   ·subst e;rw[ifp rfl];simp[st2,MD.arc]
   rw[ifn e];simp[st2,MD.arc,e])]at G
  exact G
 ·by_cases e:i=q
  ·subst e;show World.ownsRow _ B _ 4 (if i=i then v' else R i) (if i=i then D.na i+1 else D.na i) (cat _ (if i=i then D.na i+1 else D.na i))
   rw[ifp rfl,ifp rfl,Dy,DU (d:=arc4 D i) (λk J=>by simp[arc4,MD.arc,show k≠D.na i by omega])];have m:arc4 (D.arc i a b x t) i (D.na i)=[.int .i64 a,.int .i64 b,.string x,.int .i64 t]:=by simp[arc4,MD.arc]
   rw[m];exact BE I (by exact L) _
  show World.ownsRow _ B _ 4 (if i=q then v' else R i) (if i=q then D.na q+1 else D.na i) (cat _ (if i=q then D.na q+1 else D.na i))
  rw[ifn e,ifn e,DU (d:=arc4 D i) (λk J=>by simp[arc4,MD.arc,e])];exact BE (p:=(Ad g (q*2+1))) (AK (World.ownsRow.alloc (h.row i hi) o) H (λc l m=>h.apart i q hi C e c l m)) (λm=>h.tne hi m rfl) v'
 by_cases E:i=q
 ·subst E;simp only[if_pos]at l;simp only[ifn (λe:j=i=>s e.symm)]
  rcases z c l with u|u
  ·exact h.apart i j hi A s c u
  intro m;have:=(World.ownsRow.lt (h.row j A) c m).2;omega
 simp only[ifn E]at l;by_cases F:j=q
 ·subst F;simp only[if_pos];intro m
  rcases z c m with u|u
  ·exact h.apart i j hi A s c l u
  have:=(World.ownsRow.lt (h.row i hi) c l).2;omega
 simp only[ifn F];exact h.apart i j hi A s c l
end OwM
end
section
def AccD(D:MD):Prop:=∀q d,q<D.n->d<D.na q->D.aout q d=D.ain q d
theorem AccD.r{D:MD}(h:AccD D)(k:KK):AccR (rmOf k D):=λq d c hd=>h q d c hd
end
section
open Go CSR
variable{M:MD}{N c:Nat}{k:Int}
def asum(k:KK)(M:MD)(q:Nat)(f:Int->Int->RK k->Nat->RK k):RK k:=sum (λd=>f (M.ain q d) (M.aout q d) (wval k (M.aw q d)) (M.ato q d).toNat) (M.na q)
theorem Ha(k:KK)(M:MD)(q:Nat)(a b:Int)(x:ByteArray)(t:Int)(p:Nat)(f:Int->Int->RK k->Nat->RK k):
  asum k (M.arc q a b x t) p f=asum k M p f+(if p=q then f a b (wval k x) t.toNat else zero):=by
 unfold asum;by_cases e:p=q
 ·subst e;have g:(M.arc p a b x t).na p=M.na p+1:=ifp rfl;rw[g,ifp rfl];show sum _ (M.na p)+_=_
  congr 1
  ·refine sum_congr λd hd=>?_;show f (if p=p/\d=M.na p then a else M.ain p d) (if p=p/\d=M.na p then b else M.aout p d) (wval k (if p=p/\d=M.na p then x else M.aw p d)) (if p=p/\d=M.na p then t else M.ato p d).toNat=_
   have c:d≠M.na p:=by omega
   simp[c]
  show f (if p=p/\M.na p=M.na p then a else M.ain p _) (if p=p/\M.na p=M.na p then b else M.aout p _) (wval k (if p=p/\M.na p=M.na p then x else M.aw p _)) (if p=p/\M.na p=M.na p then t else M.ato p _).toNat=_
  simp
 have g:(M.arc q a b x t).na p=M.na p:=ifn e;rw[g,ifn e,a0];refine sum_congr λd hd=>?_;show f (if p=q/\d=M.na q then a else M.ain p d) (if p=q/\d=M.na q then b else M.aout p d) (wval k (if p=q/\d=M.na q then x else M.aw p d)) (if p=q/\d=M.na q then t else M.ato p d).toNat=_
 have c:¬(p=q/\d=M.na q):=λh=>e h.1;simp only[ifn c]
theorem Md(k:KK)(M:MD)(s:ByteArray){p:Nat}(d:p≠M.n)(f:Int->Int->RK k->Nat->RK k):asum k (M.state s) p f=asum k M p f:=by
 unfold asum;have c:(M.state s).na p=M.na p:=ifn d;rw[c];rfl
structure BOk(M:MD)(N c:Nat):Prop where
 fin:∀i,M.fin i=⟨#[]⟩\/Am M.kind (M.fin i)=true
 arc:∀i d,d<M.na i->0<=M.ain i d/\M.ain i d<=500/\0<=M.aout i d/\M.aout i d<=500/\0<=M.ato i d/\M.ato i d<(N:Int)/\Am M.kind (M.aw i d)=true
 na:∀i,M.na i<=c
 cnt:∀n,Ai M n<=c
 fsm:∀i,smS (M.fin i)
 asm:∀i d,smS (M.aw i d)
theorem BOk.mono{g c':Nat}(h:BOk M N c)(z:N<=g)(j:c<=c'):BOk M g c' :=
 ⟨h.fin,λi d hd=>by obtain⟨k,l,m,o,p,u,s⟩:=h.arc i d hd;exact⟨k,l,m,o,p,by omega,s⟩,λi=>Nat.le_trans (h.na i) j,λn=>Nat.le_trans (h.cnt n) j,h.fsm,h.asm⟩
theorem Mc{D:MD}{p:Nat}{i o t:Int}{w:ByteArray}:∀n,Ai (D.arc p i o w t) n<=Ai D n+(if p<n then 1 else 0)
 |0=>Nat.zero_le _
 |n+1=>by
  have ih:=Mc (D:=D) (p:=p) (i:=i) (o:=o) (t:=t) (w:=w) n;show Ai (D.arc p i o w t) n+(if n=p then D.na p+1 else D.na n)<=Ai D n+D.na n+(if p<n+1 then 1 else 0)
  by_cases e:n=p
  ·subst e;rw[ifp rfl,ifp (by omega)];rw[ifn (by omega)]at ih;omega
  rw[ifn e];split at ih
  ·rw[ifp (by omega)];omega
  split<;>omega
theorem BOk.put{q:Nat}{a b t:Int}{x:ByteArray}(h:BOk M N c)(l:0<=a/\a<=500)(hb:0<=b/\b<=500)(m:0<=t/\t<(N:Int))(A:Am M.kind x=true)(z:smS x):BOk (M.arc q a b x t) N (c+1):=by
 refine⟨h.fin,λi d hd=>?_,λi=>?_,λn=>?_,h.fsm,λi d=>?_⟩
 ·have g:d<if i=q then M.na q+1 else M.na i:=hd
  show 0<=(if i=q/\d=M.na q then a else M.ain i d)/\(if i=q/\d=M.na q then a else M.ain i d)<=500/\0<=(if i=q/\d=M.na q then b else M.aout i d)/\(if i=q/\d=M.na q then b else M.aout i d)<=500/\0<=(if i=q/\d=M.na q then t else M.ato i d)/\(if i=q/\d=M.na q then t else M.ato i d)<(N:Int)/\Am M.kind (if i=q/\d=M.na q then x else M.aw i d)=true
  by_cases e:i=q/\d=M.na q
  ·simp only[ifp e];exact⟨l.1,l.2,hb.1,hb.2,m.1,m.2,A⟩
  simp only[ifn e];refine h.arc i d ?_;by_cases j:i=q
  ·rw[ifp j]at g;subst j;have:d≠M.na i:=λs=>e ⟨rfl,s⟩;omega
  rw[ifn j]at g;exact g
 ·show (if i=q then M.na q+1 else M.na i)<=c+1
  have k:=h.na q;have u:=h.na i
  split<;>omega
 ·have k:=Mc (D:=M) (p:=q) (i:=a) (o:=b) (t:=t) (w:=x) n;have u:=h.cnt n
  split at k<;>omega
 show smS (if i=q/\d=M.na q then x else M.aw i d)
 split
 ·exact z
 exact h.asm i d
theorem BOk.setFin{M:MD}{N c q:Nat}{s:ByteArray}(h:BOk M N c)(g:s=⟨#[]⟩\/Am M.kind s=true)(d:smS s):BOk (M.setFin q s) N c :=
 ⟨λi=>by
  show (if i=q then s else M.fin i)=_\/Am M.kind (if i=q then s else M.fin i)=true
  split
  ·exact g
  ·exact h.fin i,h.arc,h.na,λn=>by rw[show Ai (M.setFin q s) n=Ai M n from by induction n with|zero=>rfl|succ n ih=>exact congrArg (·+M.na n) ih];exact h.cnt n,λi=>by
  show smS (if i=q then s else M.fin i)
  split
  ·exact d
  exact h.fsm i,h.asm⟩
theorem BOk.state{M:MD}{N c:Nat}{s:ByteArray}(h:BOk M N c)(l:s=⟨#[]⟩\/Am M.kind s=true)(k:smS s):BOk (M.state s) N c:=by
 have g:∀i,(M.state s).na i<=M.na i:=λi=>by
  show (if i=M.n then 0 else M.na i)<=_
  split<;>omega
 have j:∀n,Ai (M.state s) n<=Ai M n:=λn=>by
  induction n with
  |zero=>exact nlr
  |succ n ih=>exact Nat.add_le_add ih (g n)
 exact⟨λi=>by
  show (if i=M.n then s else M.fin i)=_\/Am M.kind (if i=M.n then s else M.fin i)=true
  split
  ·exact l
  ·exact h.fin i,λi d hd=>h.arc i d (Nat.lt_of_lt_of_le hd (g i)),λi=>Nat.le_trans (g i) (h.na i),λn=>Nat.le_trans (j n) (h.cnt n),λi=>by
  show smS (if i=M.n then s else M.fin i)
  split
  ·exact k
  exact h.fsm i,h.asm⟩
theorem BOk.empty(kd st:Int)(c:ByteArray)(N:Nat):BOk (AV kd st c) N 0 :=
 ⟨λ_=>.inl rfl,λ_ _ h=>absurd h (Nat.not_lt_zero _),λ_=>nlr,λn=>by
  induction n with
  |zero=>exact nlr
  |succ n ih=>exact ih,λ_=>Nat.zero_le _,λ_ _=>Nat.zero_le _⟩
theorem BOk.vm(h:BOk M M.n c)(A:Aw M.kind=true)(s:1<=M.n)(u:M.n<=3000)(g:0<=M.start/\M.start<(M.n:Int))(B:Am M.kind M.lead=true)(z:c<=30000):VM M :=
 ⟨A,s,u,g.1,g.2,B,Nat.le_trans (h.cnt _) z,λi _=>h.fin i,λi d _ hd=>by obtain⟨j,k,a3,l,m,o,p⟩:=h.arc i d hd;exact⟨j,k,a3,l,m,o,p⟩⟩
theorem Us(h:Aw k=true):-9223372036854775808<=k/\k<=9223372036854775807:=by unfold Aw at h;simp at h;omega
theorem BOk.msz(h:BOk M N c)(g:Aw M.kind=true)(hn:M.n<=140737488355328)(j:smS M.lead)(d:c<=140737488355328):MSz M :=
 ⟨j,h.fsm,h.asm,λi=>Nat.le_trans (h.na i) d,hn,Us g⟩
def revA(D:MD)(q:Nat):Nat->MD->MD
 |0,M=>M
 |d+1,M=>(revA D q d M).arc (D.ato q d).toNat (D.ain q d) (D.aout q d) (D.aw q d) (q:Int)
def revF(D:MD)(q:Nat)(M:MD):MD:=if D.fin q=⟨#[]⟩ then M else M.arc D.n 0 0 (D.fin q) (q:Int)
def revZ(D:MD):MD:=⟨D.kind,(D.n:Int),D.lead,D.n+1,λ_=>⟨#[]⟩,λ_=>0,λ_ _=>0,λ_ _=>0,λ_ _=>⟨#[]⟩,λ_ _=>0⟩
def revQ(D:MD):Nat->MD
 |0=>revZ D
 |q+1=>revF D q (revA D q (D.na q) (revQ D q))
theorem Ey(h:Aw k=true):Am k (oneF k)=true:=by
 unfold Aw at h;simp at h;have:k=1\/k=2\/k=3:=by omega
 rcases this with rfl|rfl|rfl<;>decide +kernel
theorem Ex(h:Aw k=true):smS (oneF k):=by
 unfold Aw at h;simp at h;have:k=1\/k=2\/k=3:=by omega
 rcases this with rfl|rfl|rfl<;>(unfold smS;decide +kernel)
def atW(n:Nat)(x:Nat->Int)(i:Nat):Int:=if i<n then x i else 0
def AR(kind:Int)(na:Nat)(x:Nat->Int)(nb:Nat)(y:Nat->Int)(v:ByteArray):Nat->MD
 |0=>(AV kind 0 v).state ⟨#[]⟩
 |i+1=>((AR kind na x nb y v i).state ⟨#[]⟩).arc i (atW na x i) (atW nb y i) (oneF kind) ((i+1:Nat):Int)
def Cs(kind:Int)(na:Nat)(x:Nat->Int)(nb:Nat)(y:Nat->Int)(v:ByteArray):MD:=(AR kind na x nb y v (max na nb)).setFin (max na nb) (oneF kind)
end
section
open Go CSR
variable{a:ByteArray}{k:KK}
theorem QQ{k:Int}(h:Am k a=true):∃q,rdV a=some (.fin q)/\wtV k (.fin q):=by
 unfold Am at h
 split at h
 ·rename_i v c;have h:=of_decide_eq_true h;cases v with
  |fin q=>exact⟨q,c,h⟩
  |inf=>exact h.elim
  |low=>exact h.elim
 cases h
theorem Fy(h:Am k.1 a=true):Sv k a (wval k a):=(IW (Ct h)).2 rfl
theorem Zd{p q:Rat}(d:wtV k.1 (.fin p))(g:wtV k.1 (.fin q)):wtV k.1 (Ah k.1 (.fin p) (.fin q)):=by
 have o:=k.2;have j:∀r,wtV k.1 (.fin r)->¬(V.fin r=zeroV k.1):=λr m e=>by
  unfold zeroV at e
  split at e
  ·cases e
  rename_i i;have:r=0:=by injection e
  subst this
  rcases m with h|⟨_,h⟩
  ·exact i h
  exact absurd h (by decide)
 unfold Ah;rw[ifn (λh=>h.elim (j p d) (j q g))];show wtV k.1 (if k.1=1 then V.fin (p+q) else V.fin (p*q))
 split
 ·rename_i c;exact .inl c
 rename_i c;have l:k.1=2\/k.1=3:=by omega
 rcases d with h|⟨_,d⟩
 ·exact absurd h c
 rcases g with h|⟨_,g⟩
 ·exact absurd h c
 exact .inr ⟨l,Rat.mul_pos d g⟩
theorem Yf{b:ByteArray}(g:Am k.1 a=true)(hb:Am k.1 b=true)(h:(Ae k.1 a b).2=0):Am k.1 (Ae k.1 a b).1=true:=by
 have C:=IK (Fy g) (Fy hb) h;obtain⟨p,z,D⟩:=QQ g;obtain⟨q,A,E⟩:=QQ hb;have i:∀{s:ByteArray} {x:RK k} {v:V},Sv k s x->rdV s=some v->x.1=v:=λ{s x v} m o=>by
  have c:(rdV s).filter (λv=>decide (okV k.1 v))=some x.1:=m.prs;have d:=(Option.filter_eq_some_iff.1 c).1;rw[o]at d;exact(Option.some.inj d).symm
 have j:=i (Fy g) z;have l:=i (Fy hb) A;have B:rdV (Ae k.1 a b).1=some (Ah k.1 (.fin p) (.fin q)):=by
  have c:=C.prs;have d:(wval k a*wval k b).1=Ah k.1 (.fin p) (.fin q):=by
   show Ah k.1 (wval k a).1 (wval k b).1=_;rw[j,l]
  rw[d]at c;have u:(rdV (Ae k.1 a b).1).filter (λv=>decide (okV k.1 v))=some (Ah k.1 (.fin p) (.fin q)):=c;exact(Option.filter_eq_some_iff.1 u).1
 unfold Am;rw[B];exact decide_eq_true<|Zd D E
end
section
open Go.RowKit Go.Deep
variable{a:Act}{w:World}{v:Value}{g i:Nat}
section
variable{P:Program}{ops:Array Oper}{Q:Exit->Act->World->Prop}{S:World->Prop}{s:List Nat}
def AnyL(P:Program)(ops:Array Oper)(Q:Exit->Act->World->Prop)(S:World->Prop)(s:List Nat):Nat->Array Bool->Act->World->Prop
 |0,listed,a,w=>Region.ready .any ops listed=[]/\Q .normal a w
 |fuel+1,listed,a,w=>(Region.ready .any ops listed=[]->Q .normal a w)/\
  ∀i ∈ Region.ready .any ops listed,wpOp P ops Q i (λa' w'=>(i ∈ s\/S w')/\AnyL P ops Q S s fuel (listed.setIfInBounds i true) a' w') a w
theorem AnyL.any:∀(fuel:Nat) (listed:Array Bool) (a:Act) (w:World),AnyL P ops Q S s fuel listed a w->wpAny P .any ops Q fuel listed a w
 |0,_,_,_,h=>h
 |fuel+1,_,_,_,h=>⟨h.1,λi hi=>wpOp_mono (λa' w' h'=>AnyL.any fuel _ a' w' h'.2) (h.2 i hi)⟩
theorem AnyL.first{G:Oper}(hi:ops[i]?=some G)(C:∀(j:Nat) (o:Oper) cs b,ops[j]?=some o->o.op≠.select cs b)
  (hQ:∀c a w,Q (.panic c) (a.put G.dst v) w->Q (.panic c) a w) :
  ∀(g:Nat) (d:Array Bool) (a:Act) (w:World),(∀x ∈ s,d.getD x false=true\/waits ops ops.size x i=true) ->
   (∀j oj,ops[j]?=some oj->j≠i->d.getD j true=false->(∀e ∈ oj.after,Region.binds .any e=true->e.on≠i)->G.apart ops oj=true) ->
   i ∈ Region.ready .any ops d->Closed ops d->YieldsIf P ops S G v a->S w ->
   AnyL P ops Q S s g (d.setIfInBounds i true) (a.put G.dst v) w->AnyL P ops Q S s (g+1) d a w:=by
 intro g
 induction g with
 |zero =>
  intro d a w hw _ F E U I H;refine⟨λh=>(by rw[h]at F;cases F),λj K=>?_⟩;by_cases l:j=i
  ·subst l;exact U.wpOp hi I ⟨.inr I,H⟩
  have:=ready_mono K l;rw[H.1]at this;cases this
 |succ g ih =>
  intro d a w hw p F E U I H;refine⟨λh=>(by rw[h]at F;cases F),λj K=>?_⟩;by_cases l:j=i
  ·subst l;exact U.wpOp hi I ⟨.inr I,H⟩
  have T:=H.2 j (ready_mono K l);obtain⟨m,oj,A,B⟩:=mem_ready.1 K;have u:d.getD i false=false:=by
   have h0:=(mem_ready.1 F).1
   rcases Nat.lt_or_ge i d.size with D|D
   ·simp[D]at h0 ⊢;exact h0
   simp[Array.getElem?_eq_none D]
  have N:∀e ∈ oj.after,Region.binds .any e=true->e.on≠i:=λe X hb Y=>by
   have T:=B e X hb;rw[Y,u]at T;cases T
  have a1:j ∉ s:=λe=>by
   have Z:d.getD j false=false:=by
    rcases Nat.lt_or_ge j d.size with D|D
    ·simp[D]at m ⊢;exact m
    simp[Array.getElem?_eq_none D]
   have a5:waits ops ops.size j i=true:=(hw j e).resolve_left (by rw[Z];simp);have:=QD E _ _ a5 (λo' O e X hb=>by rw[A]at O;cases O;exact B e X hb);rw[u]at this;cases this
  have h2:=wpOp_putIf A (p j oj A l m N) (λcs b=>C i G cs b hi) (λcs b=>C j oj cs b A) hQ U T;have z:∀k ok,ops[k]?=some ok->k≠i->(d.setIfInBounds j true).getD k true=false ->
    (∀e ∈ ok.after,Region.binds .any e=true->e.on≠i)->G.apart ops ok=true:=λk ok hk a2 R a4=>by
   refine p k ok hk a2 ?_ a4;by_cases L:j=k
   ·subst L;exact m
   rw[getD_set_ne true L]at R;exact R
  refine wpOp_mono (λa' w' W=>?_) h2;have J:S w':=W.2.1.resolve_left a1;refine⟨.inr J,ih (d.setIfInBounds j true) a' w' (λx hx=>(hw x hx).imp (λh=>getD_set_true h) id) z (ready_mono F (Ne.symm l)) (E.set K) W.1 J ?_⟩;rw[Array.setIfInBounds_comm _ _ l];exact W.2.2
theorem AnyL.firstP{E:Oper}(G:i ∈ s)(hi:ops[i]?=some E)(z:∀(j:Nat) (o:Oper) cs b,ops[j]?=some o->o.op≠.select cs b)
  (hQ:∀c a w,Q (.panic c) (a.put E.dst v) w->Q (.panic c) a w) :
  ∀(g:Nat) (d:Array Bool) (a:Act) (w:World),
   (∀j oj,ops[j]?=some oj->j≠i->d.getD j true=false->(∀e ∈ oj.after,Region.binds .any e=true->e.on≠i)->E.apart ops oj=true) ->
   i ∈ Region.ready .any ops d->YieldsIf P ops (λ_=>True) E v a ->
   AnyL P ops Q S s g (d.setIfInBounds i true) (a.put E.dst v) w->AnyL P ops Q S s (g+1) d a w:=by
 intro g
 induction g with
 |zero =>
  intro d a w _ D O H;refine⟨λh=>(by rw[h]at D;cases D),λj N=>?_⟩;by_cases l:j=i
  ·subst l;exact O.wpOp hi trivial ⟨.inl G,H⟩
  have:=ready_mono N l;rw[H.1]at this;cases this
 |succ g ih =>
  intro d a w m D O H;refine⟨λh=>(by rw[h]at D;cases D),λj N=>?_⟩;by_cases l:j=i
  ·subst l;exact O.wpOp hi trivial ⟨.inl G,H⟩
  have L:=H.2 j (ready_mono N l);obtain⟨u,oj,B,F⟩:=mem_ready.1 N;have C:d.getD i false=false:=by
   have Y:=(mem_ready.1 D).1
   rcases Nat.lt_or_ge i d.size with R|R
   ·simp[R]at Y ⊢;exact Y
   simp[Array.getElem?_eq_none R]
  have J:∀e ∈ oj.after,Region.binds .any e=true->e.on≠i:=λe he hb U=>by
   have L:=F e he hb;rw[U,C]at L;cases L
  have h2:=wpOp_putIf B (m j oj B l u J) (λcs b=>z i E cs b hi) (λcs b=>z j oj cs b B) hQ O L;have p:∀k ok,ops[k]?=some ok->k≠i->(d.setIfInBounds j true).getD k true=false ->
    (∀e ∈ ok.after,Region.binds .any e=true->e.on≠i)->E.apart ops ok=true:=λk ok hk W K X=>by
   refine m k ok hk W ?_ X;by_cases I:j=k
   ·subst I;exact u
   rw[getD_set_ne true I]at K;exact K
  refine wpOp_mono (λZ w' T=>?_) h2;refine⟨T.2.1,ih (d.setIfInBounds j true) Z w' p (ready_mono D (Ne.symm l)) T.1 ?_⟩;rw[Array.setIfInBounds_comm _ _ l];exact T.2.2
def tpBL(ops:Array Oper)(s:List Nat)(i:Nat)(listed:Array Bool):Bool:=s.contains i&&Region.noSelect ops&&Region.free .any ops listed i&&(Region.ready .any ops listed).contains i
theorem AnyL.tp{j:Oper}{d:Array Bool}(hi:ops[i]?=some j)(hb:tpBL ops s i d=true)(k:YieldsIf P ops (λ_=>True) j v a)
  (h:AnyL P ops Q S s g (d.setIfInBounds i true) (a.put j.dst v) w) (hQ:∀c a w,Q (.panic c) (a.put j.dst v) w->Q (.panic c) a w:=by exact λ_ _ _ h=>h):AnyL P ops Q S s (g+1) d a w:=by
 unfold tpBL at hb;simp only[Bool.and_eq_true]at hb;exact AnyL.firstP (by simpa using hb.1.1.1) hi (Region.noSelect_spec hb.1.1.2) hQ g d a w (Region.free_spec hi hb.1.2) (by simpa using hb.2) k h
theorem AnyL.take{j:Oper}{d:Array Bool}(hi:ops[i]?=some j)(p:(s.all λx=>d.getD x false||waits ops ops.size x i)=true)(k:FG ops d=true)
  (o:Region.noSelect ops=true) (hf:Region.free .any ops d i=true) (m:(Region.ready .any ops d).contains i=true)
  (hQ:∀c a w,Q (.panic c) (a.put j.dst v) w->Q (.panic c) a w) (l:S w) (z:YieldsIf P ops S j v a)
  (h:AnyL P ops Q S s g (d.setIfInBounds i true) (a.put j.dst v) w):AnyL P ops Q S s (g+1) d a w :=
 AnyL.first hi (Region.noSelect_spec o) hQ g d a w (λx u=>by simpa using List.all_eq_true.1 p x u) (Region.free_spec hi hf) (by simpa using m) (Mr k) z l h
def tkBL(ops:Array Oper)(s:List Nat)(i:Nat)(listed:Array Bool):Bool:=(s.all λx=>listed.getD x false||waits ops ops.size x i)&&FG ops listed&&Region.noSelect ops&&Region.free .any ops listed i&&(Region.ready .any ops listed).contains i
theorem AnyL.tk{j:Oper}{d:Array Bool}(hi:ops[i]?=some j)(hb:tkBL ops s i d=true)(k:S w)(l:YieldsIf P ops S j v a)
  (h:AnyL P ops Q S s g (d.setIfInBounds i true) (a.put j.dst v) w) (hQ:∀c a w,Q (.panic c) (a.put j.dst v) w->Q (.panic c) a w:=by exact λ_ _ _ h=>h):AnyL P ops Q S s (g+1) d a w:=by
 unfold tkBL at hb;simp only[Bool.and_eq_true]at hb;exact AnyL.take hi hb.1.1.1.1 hb.1.1.1.2 hb.1.1.2 hb.1.2 hb.2 hQ k l h
theorem AnyL.tm(i:Nat){j:Oper}{d:Array Bool}(k:S w)
  (h:AnyL P ops Q S s g (d.setIfInBounds i true) (a.put j.dst v) w) (hi:ops[i]?=some j:=by rfl) (hb:tkBL ops s i d=true:=by kernel_rfl) (l:Region.wanted j (yielded ops a.tmps)=true:=by kernel_rfl)
  (m:∀w,S w->(execOp a.eval j).run P w=.ok (.value v) w:=by (intro w h;go_simp;try with_reducible rfl)) (hQ:∀c a w,Q (.panic c) (a.put j.dst v) w->Q (.panic c) a w:=by exact λ_ _ _ h=>h):AnyL P ops Q S s (g+1) d a w:=AnyL.tk hi hb k (.inl ⟨l,m⟩) h hQ
theorem AnyL.tq(i:Nat){j:Oper}{d:Array Bool}
  (h:AnyL P ops Q S s g (d.setIfInBounds i true) (a.put j.dst v) w) (hi:ops[i]?=some j:=by rfl) (hb:tpBL ops s i d=true:=by kernel_rfl) (k:Region.wanted j (yielded ops a.tmps)=true:=by kernel_rfl)
  (l:∀w,True->(execOp a.eval j).run P w=.ok (.value v) w:=by (intro w h;go_simp;try with_reducible rfl)) (hQ:∀c a w,Q (.panic c) (a.put j.dst v) w->Q (.panic c) a w:=by exact λ_ _ _ h=>h):AnyL P ops Q S s (g+1) d a w:=AnyL.tp hi hb (.inl ⟨k,l⟩) h hQ
theorem AnyL.done{listed:Array Bool}(hr:Region.ready .any ops listed=[])(h:Q .normal a w):∀fuel,AnyL P ops Q S s fuel listed a w
 |0=>⟨hr,h⟩
 |_+1=>⟨λ_=>h,by rw[hr];simp⟩
theorem AnyL.dn{c:Array Bool}{d:Nat}(h:Q .normal a w)(g:Region.ready .any ops c=[]:=by kernel_rfl):AnyL P ops Q S s d c a w:=AnyL.done g h d
theorem KG(S:World->Prop)(s:List Nat){d:Nat}(c:P.follows .mixedOrders=true)
  (h:AnyL P ops Q S s ops.size (Array.replicate ops.size false) a w.drew):(Code.region d ops true).wp P Q a w :=
 wp_region_any c (AnyL.any _ _ _ _ h)
end
end
section
open Go.RowKit Go.Deep

end
end Go.Proofs.YtpldocnhbdlgfaaGreatDoor
