/- Parts. -/
import Derived.Test.YtpldocnhbdlgfaaGreatDoorPc14
import Derived.Test.YtpldocnhbdlgfaaGreatDoorPc15
import Derived.Deep.OwnRows
import Derived.Deep.AppendLies
import Derived.Test.YtpldocnhbdlgfaaGreatDoorPc07
namespace Go.Proofs.YtpldocnhbdlgfaaGreatDoor
set_option maxRecDepth 100000
set_option linter.all false
set_option maxHeartbeats 16000000
open Go Tryz
section
open Go.RowKit
def Gb(v u:V)(w:World)(A:fitV v)(p:fitV u):Calls prog 184 #[.string (vtxt v),.string (vtxt u)] w (IntEnd (cmpV v u) w):=by
 have K:∀(a b:ByteArray) (z:Int) (i:z=0/\a=b\/a≠b) (c:a≠b->a≠infS->a≠lowS->b≠infS->b≠lowS->Calls prog 136 #[.string a,.string b] w (IntEnd z w))
   (B:a≠b->((a=lowS\/b=infS)/\z=-1)\/(a≠lowS/\b≠infS/\(b=lowS\/a=infS)/\z=1)\/(a≠lowS/\b≠infS/\b≠lowS/\a≠infS)),
   Calls prog 184 #[.string a,.string b] w (IntEnd z w):=by
  intro a b z i c B
  rcases i with⟨rfl,rfl⟩|i
  ·clear c B
   go_enter func184,ntmps184
   go_wp2;go_ret;exact⟨rfl,blr⟩
  have R:(a.toList==b.toList)=false:=by rw[beq_eq_false_iff_ne];exact Nl i
  have o:∀s:ByteArray,s≠lowS->(s.toList==[45,105,110,102])=false:=λs h=>BQ (l:=[45,105,110,102]) h;have D:∀s:ByteArray,s≠infS->(s.toList==[105,110,102])=false:=λs h=>BQ (l:=[105,110,102]) h;replace o:=qh o;replace D:=qh D
  rcases B i with⟨d,rfl⟩|⟨d,k,m,rfl⟩|⟨d,k,m,E⟩
  ·clear c B;by_cases j:a=lowS;have G:(a.toList==[45,105,110,102])=true:=by rw[j,CY];rfl
   rotate_left
   have G:=o.o a j;have L:(b.toList==[105,110,102])=true:=by rw[d.resolve_left j,Ce];rfl
   all_goals
    clear i d j
    go_enter func184,ntmps184
    go_wp2;go_ret;exact⟨rfl,blr⟩
  ·clear c B;have G:=o.o a d;have L:=D.o b k;by_cases g:b=lowS
   ·have N:(b.toList==[45,105,110,102])=true:=by rw[g,CY];rfl
    cases O:(a.toList==[105,110,102])
    all_goals
     clear i d k m g
     go_enter func184,ntmps184
     go_wp2;go_ret;exact⟨rfl,blr⟩
   have N:=o.o b g;have O:(a.toList==[105,110,102])=true:=by rw[m.resolve_left g,Ce];rfl
   clear i d k m g
   go_enter func184,ntmps184
   go_wp2;go_ret;exact⟨rfl,blr⟩
  have G:=o.o a d;have L:=D.o b k;have N:=o.o b m;have O:=D.o a E;have C:=qh<|c i E d k m;clear c B i d k m E
  go_enter func184,ntmps184
  go_wp2_with fail
  refine nxa C.o λS Q=>?_;go_wp2;go_ret;exact⟨rfl,Q.o⟩
 refine K _ _ _ ?_ ?_ ?_
 ·by_cases h:v=u
  ·subst h;exact .inl ⟨(GI v v).2 rfl,rfl⟩
  exact .inr<|λe=>h (KT A p e)
 ·intro _ d k m E;cases v with
  |inf=>exact absurd rfl d
  |low=>exact absurd rfl k
  |fin x =>
   cases u with
   |inf=>exact absurd rfl m
   |low=>exact absurd rfl E
   |fin y =>
    have P:=OD (txt x) (txt y) w (by have:=Dd A;omega) (by have:=Dd p;omega);rw[NQ A p]at P;exact P
 intro h;have F:infS≠lowS:=by decide
 have H:∀q:Rat,fitQ q->txt q≠infS:=λq J e=>by have:=Gp J;rw[e,Ce]at this;simp at this
 have I:∀q:Rat,fitQ q->txt q≠lowS:=λq J e=>by have:=KI J;rw[e,CY]at this;simp at this
 cases v with
 |inf =>
  cases u with
  |inf=>exact absurd rfl h
  |low=>exact .inr (.inl ⟨F,Ne.symm F,.inl rfl,rfl⟩)
  |fin y=>exact .inr (.inl ⟨F,H y p,.inr rfl,rfl⟩)
 |low =>
  cases u with
  |inf=>exact .inl ⟨.inl rfl,rfl⟩
  |low=>exact absurd rfl h
  |fin y=>exact .inl ⟨.inl rfl,rfl⟩
 |fin x =>
  cases u with
  |inf=>exact .inl ⟨.inr rfl,rfl⟩
  |low=>exact .inr (.inl ⟨I x A,Ne.symm F,.inl rfl,rfl⟩)
  |fin y=>exact .inr (.inr ⟨I x A,H y p,I y p,H x A⟩)
def Gf(k:Int)(w:World):Calls prog 52 #[.int .i64 k] w λe w'=>e=.returned (.bool (As k))/\w=w':=by
 go_enter func52,ntmps52
 unfold As;by_cases c:1<=k
 ·have d:decide (1<=k)=true:=by simpa using c
  go_wp2;go_ret;exact⟨by simp[c],rfl⟩
 have d:decide (1<=k)=false:=by simpa using c
 go_wp2;go_ret;exact⟨by simp[c],rfl⟩
def Ya{k:Int}(j:As k=true)(a:ByteArray):Aj k a=bif (a.toList==[105,110,102])||(a.toList==[45,105,110,102]) then (a.toList==[105,110,102])||decide (k=1) else (prs a).isSome&&(decide (k=1)||decide (0<=Bm a ⟨#[48]⟩)):=by
 have i:k=1\/k=2\/k=3:=by
  rcases CC k with h|h|h|h
  ·exact .inl h
  ·exact .inr (.inl h)
  ·exact .inr (.inr h)
  rw[Ep h]at j;cases j
 by_cases d:a=infS
 ·rw[d,PG i,Ce];rfl
 have m:(a.toList==[105,110,102])=false:=BQ (l:=[105,110,102]) d;by_cases g:a=lowS
 ·rw[g,CY]
  rcases i with rfl|rfl|rfl
  ·rw[PH];rfl
  ·decide +kernel
  decide +kernel
 have o:(a.toList==[45,105,110,102])=false:=BQ (l:=[45,105,110,102]) g;rw[m,o];have p:natB a=((prs a).isSome&&decide (0<=Bm a ⟨#[48]⟩)):=by
  unfold natB;cases s:prs a with
  |none=>rfl
  |some q =>
   rw[JS s]
   rcases BI q 0 with⟨h,e⟩|⟨h,e⟩|⟨h,e⟩<;>rw[e]
   ·simp;exact Rat.not_le.2 h
   ·subst h;rfl
   simp;exact Rat.le_of_lt h
 by_cases c:k=1
 ·subst c;rw[PE d g];simp
 rw[PF (by omega) d,p];simp[c]
theorem CK(k:Int)(a:ByteArray)(w:World)(p:a.size<=9223372036854775807):Calls prog 96 #[.int .i64 k,.string a] w (BoolE (Aj k a) w):=by
 have B:=qh λs=>Pb a s p;have C:=qh λs=>OD a ⟨#[48]⟩ s p (by decide);have u:=qh λh=>Ya (k:=k) h a;have z:=qh λh=>Gq (k:=k) h a;clear p;generalize Aj k a=va,(prs a).isSome=o,Bm a ⟨#[48]⟩=c at *
 go_enter func96,ntmps96
 go_wp2_with fail
 refine(Gf _ _).mono ?_;rintro e G⟨rfl,rfl⟩;cases i:As k
 ·have D:va=false:=z.o (by rcases CC k with rfl|rfl|rfl|h;cases i;cases i;cases i;exact h)
  go_wp2;go_ret;exact⟨AH D.symm,blr⟩
 have d:=qh<|u.o i;clear u z i;cases l:(a.toList==[105,110,102])<;>cases m:(a.toList==[45,105,110,102])
 rotate_left
 iterate 3
  by_cases g:k=1
  ·go_wp2_with fail
   all_goals
    go_ret;exact⟨AH (by rw[d.o,l,m];simp[g]),blr⟩
  ·go_wp2_with fail
   all_goals
    go_ret;exact⟨AH (by rw[d.o,l,m];simp[g]),blr⟩
 rw[l,m]at d
 go_wp2_with fail
 refine nx1 (B.o _) λE j=>?_;cases o
 ·go_wp2;go_ret;exact⟨AH (by rw[d.o];rfl),j.o⟩
 by_cases g:k=1
 ·go_wp2;go_ret;exact⟨AH (by rw[d.o];simp[g]),j.o⟩
 go_wp2_with fail
 refine nx2 (C.o _) j λF A=>?_;go_wp2;go_ret;exact⟨AH (by rw[d.o];simp[g]),A.o⟩
theorem Yp(k:Int)(a:ByteArray):Am k a=(Aj k a&&!(a.toList==[105,110,102])&&!(a.toList==[45,105,110,102])&&(k==1||!(a.toList==[48]))):=by
 cases c:rdV a with
 |none =>
  have i:Aj k a=false:=by unfold Aj vprs;rw[c];rfl
  have j:Am k a=false:=by unfold Am;rw[c]
  rw[i,j];rfl
 |some v =>
  obtain⟨m,g⟩:=Gc c;have i:Aj k a=decide (okV k v):=by
   unfold Aj vprs;rw[c];cases h:decide (okV k v)<;>simp[Option.filter,h]
  have j:Am k a=decide (wtV k v):=by unfold Am;rw[c]
  rw[i,j,m,Pz g,PC g,PD g];rw[Bool.eq_iff_iff];simp only[Bool.and_eq_true,Bool.or_eq_true,Bool.not_eq_true',decide_eq_true_eq,decide_eq_false_iff_not,beq_iff_eq];cases v with
  |inf=>simp[wtV]
  |low=>simp[wtV]
  |fin q =>
   simp only[wtV,okV,V.fin.injEq]
   constructor
   ·intro h
    rcases h with h|⟨h,d⟩
    ·exact⟨⟨⟨.inl h,by simp⟩,by simp⟩,.inl h⟩
    exact⟨⟨⟨.inr ⟨h,Rat.le_of_lt d⟩,by simp⟩,by simp⟩,.inr (Rat.ne_of_gt d)⟩
   rintro⟨⟨⟨h,_⟩,_⟩,o⟩;by_cases l:k=1
   ·exact .inl l
   right
   rcases h with h|⟨h,d⟩
   ·exact absurd h l
   refine⟨h,Rat.lt_of_le_of_ne d (Ne.symm (o.resolve_left l))⟩
def JV(k:Int)(a:ByteArray)(w:World)(d:a.size<=9223372036854775807):Calls prog 53 #[.int .i64 k,.string a] w (BoolE (Am k a) w):=by
 rw[Yp];have g:=qh λm=>CK k a m d;clear d;generalize Aj k a=o at *
 go_enter func53,ntmps53
 go_wp2_with fail
 refine nx1 (g.o _) λp c=>?_;cases o
 ·go_wp2;go_ret;exact⟨AH (by simp),c.o⟩
 cases h:(a.toList==[105,110,102])<;>cases i:(a.toList==[45,105,110,102])<;>cases j:(a.toList==[48])<;>by_cases l:k=1
 all_goals
  go_wp2;go_ret;exact⟨AH (by rw[h,i,j];simp[l]),c.o⟩
def Eb(k:Int)(w:World):Calls prog 97 #[.int .i64 k] w (StrE (Ak k) w):=by
 have j:=qh (show As k=false->Ak k=⟨#[]⟩ from λh=>by unfold Ak;rw[h];rfl);have g:=qh (show As k=true->k=1->Ak k=⟨#[105,110,102]⟩ from λ_ h=>by rw[h];exact Qc);have i:=qh (show As k=true->k≠1->Ak k=⟨#[48]⟩ from λh c=>by
  rcases CC k with e|e|e|e
  ·exact absurd e c
  ·rw[e];exact Fu
  ·rw[e];exact Fv
  rw[Ep e]at h;cases h)
 generalize Ak k=z at *
 go_enter func97,ntmps97
 go_wp2_with fail
 refine(Gf _ _).mono ?_;rintro e l⟨rfl,rfl⟩;cases d:As k
 ·go_wp2;go_ret;exact⟨Do (j.o d).symm,blr⟩
 by_cases c:k=1
 ·go_wp2;go_ret;exact⟨Do (g.o d c).symm,blr⟩
 go_wp2;go_ret;exact⟨Do (i.o d c).symm,blr⟩
def Ho(k:Int)(w:World):Calls prog 61 #[.int .i64 k] w (StrE (oneF k) w):=by
 have j:=qh (show As k=false->oneF k=⟨#[]⟩ from λh=>by unfold oneF;rw[h];rfl);have g:=qh (show As k=true->k=1->oneF k=⟨#[48]⟩ from λ_ h=>by rw[h];exact FV);have i:=qh (show As k=true->k≠1->oneF k=⟨#[49]⟩ from λh c=>by
  rcases CC k with e|e|e|e
  ·exact absurd e c
  ·rw[e];exact FW
  ·rw[e];exact FX
  rw[Ep e]at h;cases h)
 generalize oneF k=z at *
 go_enter func61,ntmps61
 go_wp2_with fail
 refine(Gf _ _).mono ?_;rintro e l⟨rfl,rfl⟩;cases d:As k
 ·go_wp2;go_ret;exact⟨Do (j.o d).symm,blr⟩
 by_cases c:k=1
 ·go_wp2;go_ret;exact⟨Do (g.o d c).symm,blr⟩
 go_wp2;go_ret;exact⟨Do (i.o d c).symm,blr⟩
def VA(k:Int)(a b:ByteArray)(w:World)(G:a.size<=9223372036854775807)(hb:b.size<=9223372036854775807):Calls prog 155 #[.int .i64 k,.string a,.string b] w (IntEnd (Bj k a b) w):=by
 have H:=qh λc=>CK k a c G;have I:=qh λc=>CK k b c hb;have o:=qh λh=>QM (k:=k) (a:=a) (b:=b) h;have p:=qh λh=>QN (k:=k) (a:=a) (b:=b) h;have J:=qh (show Aj k a=true->Aj k b=true->k=1->∀c,Calls prog 184 #[.string a,.string b] c (IntEnd (Bj k a b) c) from λd g i c=>by
  obtain⟨v,C,_,_,s,fv⟩:=BL d;obtain⟨u,B,_,_,z,A⟩:=BL g;rw[show Bj k a b=cmpV v u by unfold Bj;rw[C,B];simp[Em,i],s,z];exact Gb v u c fv A)
 have m:=qh (show Aj k a=true->Aj k b=true->k≠1->∀c,Calls prog 184 #[.string b,.string a] c (IntEnd (Bj k a b) c) from λd g i c=>by
  obtain⟨v,C,_,_,s,fv⟩:=BL d;obtain⟨u,B,_,_,z,A⟩:=BL g;rw[show Bj k a b=cmpV u v by unfold Bj;rw[C,B];simp[Em,i],s,z];exact Gb u v c A fv)
 clear G hb;generalize Bj k a b=r at *
 go_enter func155,ntmps155
 go_wp2_with fail
 refine nx1 (H.o _) λL D=>?_;cases d:Aj k a
 ·go_wp2;go_ret;exact⟨BS (o.o d).symm,D.o⟩
 go_wp2_with fail
 refine nx2 (I.o _) D λN j=>?_;cases g:Aj k b
 ·go_wp2;go_ret;exact⟨BS (p.o g).symm,j.o⟩
 have E:=qh d;clear d;have F:=qh g;clear g;by_cases i:k=1
 ·go_wp2_with fail
  refine nx2 (J.o E.o F.o i _) j λK l=>?_;go_wp2;go_ret;exact⟨rfl,l.o⟩
 go_wp2_with fail
 refine nx2 (m.o E.o F.o i _) j λK l=>?_;go_wp2;go_ret;exact⟨rfl,l.o⟩
def Vm{k:Int}{a b:ByteArray}(c:Aj k a=true)(A:Aj k b=true):Ap k a b=if k=2 then (bif (a.toList==[105,110,102])||(b.toList==[105,110,102]) then (⟨#[105,110,102]⟩,0) else AZ a b) else (if Bj k b a<0 then b else a,0):=by
 obtain⟨v,o,D,i,fv,p,_⟩:=Io c;obtain⟨u,m,C,j,l,s,_⟩:=Io A;rw[p,s];have B:Ap k a b=limV (Ar k v u):=by unfold Ap;rw[o,m]
 have g:Bj k b a=Em k u v:=by unfold Bj;rw[m,o]
 rw[B,g];by_cases d:k=2
 ·rw[ifp d];subst d;rw[BY];cases v with
  |inf=>cases u<;>rfl
  |low=>exact absurd D (by decide)
  |fin x =>
   cases u with
   |inf=>rfl
   |low=>exact absurd C (by decide)
   |fin y=>rw[i,j];show limR (x+y)=AZ (txt x) (txt y);unfold AZ;rw[Bi fv,Bi l]
 rw[ifn d];have z:Ar k v u=if Em k u v<0 then u else v:=by
  unfold Ar Em;have:=Fz v u;rw[ifn d];by_cases c:k=1
  ·rw[ifp c,ifp c];by_cases h:0<cmpV v u
   ·rw[ifp h,ifp (by omega)]
   rw[ifn h,ifn (by omega)]
  rw[ifn c,ifn c]
 rw[z];by_cases h:Em k u v<0
 ·rw[ifp h,ifp h,Et l,<-j]
 rw[ifn h,ifn h,Et fv,<-i]
theorem Hp(k:Int)(a b:ByteArray)(w:World)(p:a.size<=9223372036854775807)(hb:b.size<=9223372036854775807):Calls prog 115 #[.int .i64 k,.string a,.string b] w (PairEnd (Ap k a b) w):=by
 have E:=qh λc=>CK k a c p;have F:=qh λc=>CK k b c hb;have G:=qh λc=>VA k b a c hb p;have H:=qh λc=>Kn a b c p hb;have g:=qh λh=>Vn (k:=k) (a:=a) (b:=b) h;have i:=qh λh=>Vo (k:=k) (a:=a) (b:=b) h;have u:=qh λj l=>Vm (k:=k) (a:=a) (b:=b) j l;clear p hb;generalize Ap k a b=r,Bj k b a=z,AZ a b=q at *;obtain⟨q1,q2⟩:=q
 go_enter func115,ntmps115
 go_wp2_with fail
 refine nx1 (E.o _) λK s=>?_;cases j:Aj k a
 ·go_wp2;go_ret2;exact⟨by rw[g.o j];rfl,s.o⟩
 go_wp2_with fail
 refine nx2 (F.o _) s λL m=>?_;cases l:Aj k b
 ·go_wp2;go_ret2;exact⟨by rw[i.o l];rfl,m.o⟩
 have d:=qh<|u.o j l;clear j l u g i;by_cases C:k=2
 ·rw[ifp C]at d;cases A:(a.toList==[105,110,102])<;>cases B:(b.toList==[105,110,102])
  ·go_wp2_with fail
   refine nx2 (H.o _) m λJ o=>?_;go_wp2;go_ret2;exact⟨by rw[d.o,A,B];rfl,o.o⟩
  all_goals
   go_wp2;go_ret2;exact⟨by rw[d.o,A,B];rfl,m.o⟩
 rw[ifn C]at d
 go_wp2_with fail
 refine nx2 (G.o _) m λJ o=>?_;by_cases D:z<0
 ·go_wp2;go_ret2;exact⟨by rw[d.o,ifp D];rfl,o.o⟩
 have I:decide (z<0)=false:=by simpa using D
 go_wp2;go_ret2;exact⟨by rw[d.o,ifn (by omega)];rfl,o.o⟩
def NT(k:Int)(a b:ByteArray)(w:World)(B:a.size<=9223372036854775807)(hb:b.size<=9223372036854775807):Calls prog 41 #[.int .i64 k,.string a,.string b] w (PairEnd (Ah k a b) w):=by
 have G:=qh λd=>CK k a d B;have H:=qh λd=>CK k b d hb;have I:=qh λd=>Eb k d;have N:=qh λd=>Kn a b d B hb;have O:=qh λd=>WK a b d B hb;have l:=qh λh=>KD (k:=k) (a:=a) (b:=b) h;have m:=qh λh=>Pj (k:=k) (a:=a) (b:=b) h;have J:=qh λs u=>Pi (k:=k) (a:=a) (b:=b) s u;clear B hb;generalize Ah k a b=r,Ak k=z,AZ a b=q,BR a b=p at *;obtain⟨q1,q2⟩:=q;obtain⟨p1,p2⟩:=p
 go_enter func41,ntmps41
 go_wp2_with fail
 refine nx1 (G.o _) λQ C=>?_;cases s:Aj k a
 ·go_wp2;go_ret2;exact⟨by rw[l.o s];rfl,C.o⟩
 go_wp2_with fail
 refine nx2 (H.o _) C λR D=>?_;cases u:Aj k b
 ·go_wp2;go_ret2;exact⟨by rw[m.o u];rfl,D.o⟩
 have c:=qh<|J.o s u;clear s u J l m
 go_wp2_with fail
 refine nx2 (I.o _) D λS g=>?_;clear G H I C D;cases i:(a.toList==z.toList)
 rotate_left
 ·go_wp2;go_ret2;exact⟨by rw[c.o,i];rfl,g.o⟩
 cases j:(b.toList==z.toList)
 rotate_left
 ·go_wp2;go_ret2;exact⟨by rw[c.o,i,j];rfl,g.o⟩
 cases o:(a.toList==[105,110,102])
 rotate_left
 ·go_wp2;go_ret2;exact⟨by rw[c.o,i,j,o];rfl,g.o⟩
 cases A:(b.toList==[105,110,102])
 rotate_left
 ·go_wp2;go_ret2;exact⟨by rw[c.o,i,j,o,A];rfl,g.o⟩
 cases F:(a.toList==[45,105,110,102])
 rotate_left
 ·go_wp2;go_ret2;exact⟨by rw[c.o,i,j,o,A,F];rfl,g.o⟩
 cases K:(b.toList==[45,105,110,102])
 rotate_left
 ·go_wp2;go_ret2;exact⟨by rw[c.o,i,j,o,A,F,K];rfl,g.o⟩
 rw[i,j,o,A,F,K]at c;by_cases L:k=1
 ·go_wp2_with fail
  refine nx2 (N.o _) g λP E=>?_;go_wp2;go_ret2;exact⟨by rw[c.o];simp[L],E.o⟩
 go_wp2_with fail
 refine nx2 (O.o _) g λP E=>?_;go_wp2;go_ret2;exact⟨by rw[c.o];simp[L],E.o⟩
def VF(k:Int)(a:ByteArray)(w:World)(g:a.size<=9223372036854775807)(d:Aj k a=false):Calls prog 215 #[.int .i64 k,.string a] w (PairEnd (AL k a) w):=by
 have c1:=λh=>CK k a h g;rw[d]at c1;rw[WN d];replace c1:=qh c1;clear d g
 go_enter func215,ntmps215
 go_wp2_with fail
 refine nxa (c1.o w) λi c=>?_;go_wp2;go_ret2;exact⟨rfl,c.o⟩
def VB(a:ByteArray)(w:World)(o:a.size<=9223372036854775807)(l:Aj 1 a=true):Calls prog 215 #[.int .i64 1,.string a] w (PairEnd (AL 1 a) w):=by
 have c1:=λh=>CK 1 a h o;rw[l]at c1;obtain⟨v,u,rv,C,m,i⟩:=BL l;have c2:=λh=>Ho 1 h;rw[FV]at c2;have c3:=λh=>Gb v (.fin 0) h i EX;have s:AL 1 a=limV (if 0<=cmpV v (.fin 0) then .fin 0 else .low):=by unfold AL;rw[u];rfl
 have p:limV (if 0<=cmpV v (.fin 0) then .fin 0 else .low)=(if 0<=cmpV v (.fin 0) then ⟨#[48]⟩ else ⟨#[45,105,110,102]⟩,0):=by
  split
  ·exact(CX EX).trans (by rw[Dr])
  rfl
 rw[s,p];change ∀h,Calls _ _ #[_,.string (txt 0)] h _ at c3;rw[Dr,<-m]at c3;have B:=ER v (.fin 0);generalize cmpV v (.fin 0)=z at *;replace c1:=qh c1;replace c2:=qh c2;replace c3:=qh c3;clear s p u rv C m i o l
 rcases B with rfl|rfl|rfl
 ·change Calls _ _ _ _ (PairEnd (⟨#[45,105,110,102]⟩,0) w)
  go_enter func215,ntmps215
  go_wp2_with fail
  refine nxa (c1.o w) λj c=>?_
  go_wp2_with fail
  refine nxb (c2.o j) c λk d=>?_
  go_wp2_with fail
  refine nxb (c3.o k) d λA g=>?_;go_wp2;go_ret2;exact⟨rfl,g.o⟩
 ·change Calls _ _ _ _ (PairEnd (⟨#[48]⟩,0) w)
  go_enter func215,ntmps215
  go_wp2_with fail
  refine nxa (c1.o w) λj c=>?_
  go_wp2_with fail
  refine nxb (c2.o j) c λk d=>?_
  go_wp2_with fail
  refine nxb (c3.o k) d λA g=>?_;go_wp2;go_ret2;exact⟨rfl,g.o⟩
 change Calls _ _ _ _ (PairEnd (⟨#[48]⟩,0) w)
 go_enter func215,ntmps215
 go_wp2_with fail
 refine nxa (c1.o w) λj c=>?_
 go_wp2_with fail
 refine nxb (c2.o j) c λk d=>?_
 go_wp2_with fail
 refine nxb (c3.o k) d λA g=>?_;go_wp2;go_ret2;exact⟨rfl,g.o⟩
def VD(a:ByteArray)(w:World)(o:a.size<=9223372036854775807)(l:Aj 3 a=true):Calls prog 215 #[.int .i64 3,.string a] w (PairEnd (AL 3 a) w):=by
 have c1:=λh=>CK 3 a h o;rw[l]at c1;obtain⟨v,u,rv,C,m,i⟩:=BL l;have c2:=λh=>Ho 3 h;rw[FX]at c2;have c3:=λh=>Gb v (.fin 1) h i EV;have s:AL 3 a=limV (if cmpV v (.fin 1)<=0 then .fin 1 else .inf):=by unfold AL;rw[u];rfl
 have p:limV (if cmpV v (.fin 1)<=0 then .fin 1 else .inf)=(if cmpV v (.fin 1)<=0 then ⟨#[49]⟩ else ⟨#[105,110,102]⟩,0):=by
  split
  ·exact(CX EV).trans (by rw[Ej])
  rfl
 rw[s,p];change ∀h,Calls _ _ #[_,.string (txt 1)] h _ at c3;rw[Ej,<-m]at c3;have B:=ER v (.fin 1);generalize cmpV v (.fin 1)=z at *;replace c1:=qh c1;replace c2:=qh c2;replace c3:=qh c3;clear s p u rv C m i o l
 rcases B with rfl|rfl|rfl
 ·change Calls _ _ _ _ (PairEnd (⟨#[49]⟩,0) w)
  go_enter func215,ntmps215
  go_wp2_with fail
  refine nxa (c1.o w) λj c=>?_
  go_wp2_with fail
  refine nxb (c2.o j) c λk d=>?_
  go_wp2_with fail
  refine nxb (c3.o k) d λA g=>?_;go_wp2;go_ret2;exact⟨rfl,g.o⟩
 ·change Calls _ _ _ _ (PairEnd (⟨#[49]⟩,0) w)
  go_enter func215,ntmps215
  go_wp2_with fail
  refine nxa (c1.o w) λj c=>?_
  go_wp2_with fail
  refine nxb (c2.o j) c λk d=>?_
  go_wp2_with fail
  refine nxb (c3.o k) d λA g=>?_;go_wp2;go_ret2;exact⟨rfl,g.o⟩
 change Calls _ _ _ _ (PairEnd (⟨#[105,110,102]⟩,0) w)
 go_enter func215,ntmps215
 go_wp2_with fail
 refine nxa (c1.o w) λj c=>?_
 go_wp2_with fail
 refine nxb (c2.o j) c λk d=>?_
 go_wp2_with fail
 refine nxb (c3.o k) d λA g=>?_;go_wp2;go_ret2;exact⟨rfl,g.o⟩
def VC(a:ByteArray)(w:World)(s:a.size<=9223372036854775807)(p:Aj 2 a=true):Calls prog 215 #[.int .i64 2,.string a] w (PairEnd (AL 2 a) w):=by
 have c1:=λk=>CK 2 a k s;rw[p]at c1;obtain⟨v,D,rv,C,o,c⟩:=BL p;have c2:=λk=>Ho 2 k;rw[FW]at c2;have c3:=λk=>Gb v (.fin 1) k c EV;have B:AL 2 a=limV (Aw 2 v):=by unfold AL;rw[D]
 rw[B];change ∀k,Calls _ _ #[_,.string (txt 1)] k _ at c3;rw[Ej,<-o]at c3;replace c1:=qh c1;replace c2:=qh c2
 rcases AC C (by decide) with rfl|⟨x,rfl,I⟩
 ·have l:limV (Aw 2 .inf)=(⟨#[105,110,102]⟩,0):=rfl;have N:cmpV .inf (.fin 1)=1:=rfl;rw[l];rw[N]at c3;have m:=qh c3;clear c3 B l N D rv C o c s p
  go_enter func215,ntmps215
  go_wp2_with fail
  refine nxa (c1.o w) λu d=>?_
  go_wp2_with fail
  refine nxb (c2.o u) d λA g=>?_
  go_wp2_with fail
  refine nxb (m.o A) g λJ i=>?_;go_wp2;go_ret2;exact⟨rfl,i.o⟩
 have l:Aw 2 (.fin x)=if 0<=cmpQ x 1 then .inf else .fin (1 / (1-x)):=rfl
 have G:cmpV (.fin x) (.fin 1)=cmpQ x 1:=rfl;rw[G]at c3
 rcases BI x 1 with⟨h,e⟩|h
 ·have hf:=Mq c I h;have hd:1-x≠0:=Rat.ne_of_gt<|(Rat.lt_iff_sub_pos x 1).1 h;have j:limV (Aw 2 (.fin x))=limR (1 / (1-x)):=by rw[l,e];rfl
  have P:=Dd hf;have c4:=λk=>WM ⟨#[49]⟩ a k (by decide) s;have c5:=λk=>Wx ⟨#[49]⟩ (txt (1-x)) k (by decide) (by omega);have K:BZ ⟨#[49]⟩ a=(txt (1-x),0):=by rw[o];show BZ ⟨#[49]⟩ (txt x)=_;unfold BZ;rw[Fl,Bi c];exact CX hf
  have L:Bn ⟨#[49]⟩ (txt (1-x))=limR (1 / (1-x)):=by unfold Bn;rw[Fl,Bi hf];exact ifn hd
  rw[K]at c4;rw[L]at c5;rw[e]at c3;rw[j];generalize limR (1 / (1-x))=lr at *;obtain⟨ls,Q⟩:=lr;generalize txt (1-x)=b at *;have m:=qh c3;clear c3;replace c4:=qh c4;replace c5:=qh c5;clear B j l G h e hf hd P K L D rv C o c s p I
  go_enter func215,ntmps215
  go_wp2_with fail
  refine nxa (c1.o w) λu d=>?_
  go_wp2_with fail
  refine nxb (c2.o u) d λA g=>?_
  go_wp2_with fail
  refine nxb (m.o A) g λJ i=>?_
  go_wp2_with fail
  refine nxb (c4.o J) i λO E=>?_
  go_wp2_with fail
  refine nxb (c5.o O) E λR F=>?_;go_wp2;go_ret2;exact⟨rfl,F.o⟩
 have H:0<=cmpQ x 1:=by rcases h with⟨_,e⟩|⟨_,e⟩<;>rw[e]<;>decide
 have j:limV (Aw 2 (.fin x))=(⟨#[105,110,102]⟩,0):=by rw[l,ifp H];rfl
 rw[j];generalize cmpQ x 1=z at *;have m:=qh c3;clear c3 B j l G h D rv C o c s p I
 go_enter func215,ntmps215
 go_wp2_with fail
 refine nxa (c1.o w) λu d=>?_
 go_wp2_with fail
 refine nxb (c2.o u) d λA g=>?_
 go_wp2_with fail
 refine nxb (m.o A) g λJ i=>?_;go_wp2;go_ret2;exact⟨rfl,i.o⟩
def VE(k:Int)(a:ByteArray)(w:World)(d:a.size<=9223372036854775807):Calls prog 215 #[.int .i64 k,.string a] w (PairEnd (AL k a) w):=by
 cases c:Aj k a with
 |false=>exact VF k a w d c
 |true =>
  rcases CC k with rfl|rfl|rfl|g
  ·exact VB a w d c
  ·exact VC a w d c
  ·exact VD a w d c
  rw[Gq g]at c;simp at c
end
section
open Go.RowKit Go.Deep
variable{a w w':World}{z:Option Nat}{B cap i n:Nat}{v:Value}{f:Nat->Value}{X Y:Nat->ByteArray}{e:TypeId}
def BP{b c:World}(h:a.grownBy b z)(k:b.grownBy c z):a.grownBy c z :=
 ⟨k.os.trans h.os,k.tape.trans h.tape,k.output.trans h.output,Nat.le_trans h.size k.size,λq d g=>(k.block q (Nat.lt_of_lt_of_le d h.size) g).trans (h.block q d g)⟩
def Ae(h:Below w.heap.size w w')(z:Option Nat):w.grownBy w' z:=⟨h.os,h.tape,h.output,h.size,λq c _=>h.block q c⟩
def Mu(h:w.grownBy w' none):Below w.heap.size w w':=⟨h.os,h.tape,h.output,h.size,λq c=>h.block q c (by simp)⟩
def Dw(h:a.grownBy w z){p:Addr}(g:some p.block=z\/a.heap.size<=p.block)(v:Value):a.grownBy (w.setCell p v) z :=
 ⟨h.os,h.tape,h.output,by rw[nblk_setCell];exact h.size,λq i c=>by
  rw[blk_setCell_other _ _ _ _ (by rcases g with e|e;exact λd=>c (by rw[d,e]);omega)];exact h.block q i c⟩
def Rd(z:Option Nat)(w:World)(v:Value)(n:Nat)(f:Nat->Value):Prop :=
 (n=0/\∃a cap,v=.slice a 0 cap/\cap<=maxLen)\/∃b off cap,v=.slice (some (Ad b off)) n cap/\(b<w.heap.size/\some b≠z)/\n<=cap/\cap<=maxLen/\∀i,i<n->w.cell? (Ad b (off+i))=some (f i)
def Rd.kept(h:Rd z w v n f)(hb:w.grownBy w' z):Rd z w' v n f:=by
 rcases h with h|⟨b,c,g,m,d,j,k,l⟩
 ·exact .inl h
 exact .inr ⟨b,c,g,m,⟨Nat.lt_of_lt_of_le d.1 hb.size,d.2⟩,j,k,λi hi=>(hb.cell_far (Ad b (c+i)) d.1 d.2).trans (l i hi)⟩
def Rd.open(h:Rd z w v n f):∃a cap b off,v=.slice a n cap/\(0<n->a=some (Ad b off))/\n<=cap/\cap<=maxLen/\
  (0<n->b<w.heap.size/\some b≠z)/\∀i,i<n->w.cell? (Ad b (off+i))=some (f i):=by
 rcases h with⟨rfl,a,cap,c,l⟩|⟨b,off,cap,c,d,g,j,k⟩
 ·exact⟨a,cap,0,0,c,by simp,by simp,l,by simp,by simp⟩
 exact⟨_,cap,b,off,c,λ_=>rfl,g,j,λ_=>d,k⟩
def Rd.congr{g:Nat->Value}(h:Rd z w v n f)(e:∀i,i<n->f i=g i):Rd z w v n g:=by
 rcases h with h|⟨b,d,c,o,j,k,l,m⟩
 ·exact .inl h
 exact .inr ⟨b,d,c,o,j,k,l,λi hi=>by rw[m i hi,e i hi]⟩
def Rd.shape(h:Rd z w v n f):∃a cap,v=.slice a n cap:=by
 obtain⟨a,cap,_,_,c,_⟩:=h.open;exact⟨a,cap,c⟩
def Rd.any(h:Rd z w v n f):Rd none w v n f:=by
 rcases h with h|⟨b,d,c,j,g,i⟩
 ·exact .inl h
 exact .inr ⟨b,d,c,j,⟨g.1,by simp⟩,i⟩
def Rd.far{k:Nat}(h:Rd z w v n f)(l:w.heap.size<=k):Rd (some k) w v n f:=by
 rcases h with h|⟨b,d,c,j,g,i⟩
 ·exact .inl h
 exact .inr ⟨b,d,c,j,⟨g.1,by simp;omega⟩,i⟩
def Ss(z:Option Nat)(w:World)(v:Value)(n:Nat)(X:Nat->ByteArray):Prop:=Rd z w v n λi=>.string (X i)
def Mt(z:Option Nat)(w:World)(v:Value)(n:Nat)(L:Nat->Nat)(X:Nat->Nat->ByteArray):Prop:=∃R,Rd z w v n R/\∀i,i<n->Ss z w (R i) (L i) (X i)
section
variable{z:Option Nat}{w w':World}{v:Value}{n:Nat}{L L':Nat->Nat}{X X':Nat->Nat->ByteArray}
theorem Mt.kept(h:Mt z w v n L X)(hb:w.grownBy w' z):Mt z w' v n L X:=by
 obtain⟨R,c,d⟩:=h;exact⟨R,c.kept hb,λi hi=>Rd.kept (d i hi) hb⟩
theorem Mt.any(h:Mt z w v n L X):Mt none w v n L X:=by
 obtain⟨R,c,d⟩:=h;exact⟨R,c.any,λi hi=>Rd.any (d i hi)⟩
theorem Mt.far{k:Nat}(h:Mt z w v n L X)(c:w.heap.size<=k):Mt (some k) w v n L X:=by
 obtain⟨R,d,g⟩:=h;exact⟨R,d.far c,λi hi=>Rd.far (g i hi) c⟩
theorem Mt.congr(h:Mt z w v n L X)(g:∀i,i<n->L i=L' i)(k:∀i j,i<n->j<L i->X i j=X' i j):Mt z w v n L' X':=by
 obtain⟨R,c,d⟩:=h;exact⟨R,c,λi hi=>by rw[<-g i hi];exact Rd.congr (d i hi) λj l=>by rw[k i j hi l]⟩
theorem Mt.shape(h:Mt z w v n L X):∃a cap,v=.slice a n cap:=by
 obtain⟨R,c,_⟩:=h;exact c.shape
theorem Mt.open(h:Mt z w v n L X):
  ∃a cap b off,∃(A:Nat->Option Addr) (C B O:Nat->Nat),v=.slice a n cap/\(0<n->a=some (Ad b off))/\n<=cap/\cap<=maxLen/\(0<n->b<w.heap.size/\some b≠z)/\
   ∀i,i<n->w.cell? (Ad b (off+i))=some (.slice (A i) (L i) (C i))/\L i<=C i/\C i<=maxLen/\(0<L i->A i=some (Ad (B i) (O i)))/\(0<L i->B i<w.heap.size/\some (B i)≠z)/\Ss z w (.slice (A i) (L i) (C i)) (L i) (X i)/\
    ∀j,j<L i->w.cell? (Ad (B i) (O i+j))=some (.string (X i j)):=by
 obtain⟨R,u,m⟩:=h;obtain⟨a,cap,b,off,G,D,E,F,hb,d⟩:=u.open
 classical
 have c:∀i,∃t:Option Addr × Nat × Nat × Nat,i<n->R i=.slice t.1 (L i) t.2.1/\(0<L i->t.1=some (Ad t.2.2.1 t.2.2.2))/\L i<=t.2.1/\t.2.1<=maxLen/\(0<L i->t.2.2.1<w.heap.size/\some t.2.2.1≠z)/\
   ∀j,j<L i->w.cell? (Ad t.2.2.1 (t.2.2.2+j))=some (.string (X i j)):=λi=>by
  by_cases hi:i<n
  ·obtain⟨o,s,p,H,k1,k2,k3,g,k,l⟩:=Rd.open<|m i hi;exact⟨(o,s,p,H),λ_=>⟨k1,k2,k3,g,k,l⟩⟩
  exact⟨(none,0,0,0),λh=>absurd h hi⟩
 refine⟨a,cap,b,off,λi=>(Classical.choose (c i)).1,λi=>(Classical.choose (c i)).2.1,λi=>(Classical.choose (c i)).2.2.1,λi=>(Classical.choose (c i)).2.2.2,G,D,E,F,hb,λi hi=>?_⟩;obtain⟨k1,k2,k3,g,k,l⟩:=Classical.choose_spec (c i) hi;refine⟨by rw[d i hi,k1],k3,g,k2,k,?_,l⟩;rw[<-k1];exact m i hi
end
def strs(n:Nat)(X:Nat->ByteArray):List Value:=(List.range n).map λj=>.string (X j)
theorem OT(n:Nat)(X:Nat->ByteArray):(strs n X).length=n:=by simp[strs]
theorem Ib(n:Nat)(X:Nat->ByteArray)(i:Nat)(h:i<n):(strs n X)[i]?=some (.string (X i)):=by simp[strs,h]
theorem WZ(n:Nat)(X:Nat->ByteArray):strs n X++[.string (X n)]=strs (n+1) X:=by simp[strs,List.range_succ]
theorem WY(h:∀i,i<n->X i=Y i):strs n X=strs n Y:=by
 unfold strs;exact List.map_congr_left λi hi=>by rw[h i (List.mem_range.1 hi)]
def OwS(w:World)(B:Nat)(e:TypeId)(v:Value)(n:Nat)(X:Nat->ByteArray):Prop:=w.ownsRow B e 1 v n (strs n X)
def OwS.nil(w:World)(B:Nat)(e:TypeId)(X:Nat->ByteArray):OwS w B e (.slice none 0 0) 0 X:=World.ownsRow_nil w B e 1
def OwS.congr(h:OwS w B e v n X)(c:∀i,i<n->X i=Y i):OwS w B e v n Y:=by
 unfold OwS;rw[<-WY c];exact h
theorem OwS.kept{w w':World}{B:Nat}{e:TypeId}{v:Value}{n:Nat}{X:Nat->ByteArray}{z:Option Nat}(h:OwS w B e v n X)(hb:w.grownBy w' z)(d:∀k,z=some k->k<B):OwS w' B e v n X :=
 World.ownsRow.kept h hb (by
  cases c:v.ownBlock with
  |none=>exact .inl rfl
  |some k=>exact .inr (λe=>by have:=(World.ownsRow.lt h k c).1;have:=d k e.symm;omega))
def US(x:ByteArray):∀u ∈ [Value.string x],u.oneCell'=true:=by intro u c;simp at c;subst c;rfl
def OwS.set{g:Nat}(h:OwS w B e (.slice (some (Ad g 0)) n cap) n X)(hi:i<n)(x:ByteArray):
  OwS (w.setCell (Ad g i) (.string x)) B e (.slice (some (Ad g 0)) n cap) n (λj=>if j=i then x else X j):=by
 refine⟨by rw[OT,Nat.mul_one],?_⟩
 rcases h.2 with⟨k,_⟩|⟨z,l,cur,k,p,d,s,u,m,o⟩
 ·cases k
 cases k;refine .inr ⟨g,cap,cur.setIfInBounds i (.string x),rfl,p,by simp[World.setCell,Array.getElem?_modify,d],s,u,by simpa using m,?_⟩;rw[Nat.mul_one]at m o ⊢;refine List.ext_getElem? λj=>?_;by_cases c:j<n
 ·rw[Ib _ _ _ c,List.getElem?_take_of_lt c,Array.getElem?_toList,Array.getElem?_setIfInBounds];by_cases e:i=j
  ·subst e;rw[ifp rfl,ifp (by omega),ifp rfl]
  rw[ifn e,ifn (λh=>e h.symm)];have:=Ib n X j c;rw[<-o,List.getElem?_take_of_lt c,Array.getElem?_toList]at this;exact this
 rw[List.getElem?_eq_none (by rw[List.length_take];omega),List.getElem?_eq_none (by rw[OT];omega)]
structure Gr(B:Nat)(z:Option Nat)(w w':World):Prop where
 os:w'.os=w.os
 tape:w'.tape=w.tape
 output:w'.output=w.output
 size:w.heap.size<=w'.heap.size
 block:∀q,q<B->some q≠z->w'.heap[q]?=w.heap[q]?
namespace Gr
variable{B:Nat}{z:Option Nat}{w w' w2:World}
theorem refl(B:Nat)(z:Option Nat)(w:World):Gr B z w w:=⟨rfl,rfl,rfl,nlr,λ_ _ _=>rfl⟩
theorem trans(h:Gr B z w w')(k:Gr B z w' w2):Gr B z w w2:=⟨k.os.trans h.os,k.tape.trans h.tape,k.output.trans h.output,Nat.le_trans h.size k.size,λq c d=>(k.block q c d).trans (h.block q c d)⟩
theorem of(h:w.grownBy w' z)(d:B<=w.heap.size):Gr B z w w':=⟨h.os,h.tape,h.output,h.size,λq g c=>h.block q (by omega) c⟩
theorem gb(h:Gr w.heap.size z w w'):w.grownBy w' z:=⟨h.os,h.tape,h.output,h.size,h.block⟩
theorem mono{c:Nat}(h:Gr B z w w')(g:c<=B):Gr c z w w':=⟨h.os,h.tape,h.output,h.size,λq i d=>h.block q (by omega) d⟩
theorem more{r:Option Nat}(h:Gr B z w w')(c:w'.grownBy w2 r)(j:B<=w'.heap.size)(g:∀k,r=some k->z=some k\/B<=k):Gr B z w w2 :=
 h.trans ⟨c.os,c.tape,c.output,c.size,λq l i=>c.block q (by omega) (λe=>by
  rcases g q e.symm with d|d
  ·exact i d.symm
  omega)⟩
theorem set(h:Gr B z w w'){p:Addr}(d:some p.block=z\/B<=p.block)(v:Value):Gr B z w (w'.setCell p v) :=
 h.trans ⟨rfl,rfl,rfl,by rw[nblk_setCell];exact nlr,λq i g=>blk_setCell_other _ _ _ _ (by
  rcases d with e|e
  ·intro c;exact g (by rw[c,e])
  omega)⟩
theorem drew(h:Gr B z w w'):Gr B z w w'.drew:=⟨h.os,h.tape,h.output,h.size,h.block⟩
end Gr
structure OM(w:World)(Z:Nat->Prop)(B:Nat)(eR eT:TypeId)(g n:Nat)(R:Nat->Value)(L:Nat->Nat)(X:Nat->Nat->ByteArray):Prop where
 top:w.rowIs g eT n R
 base:B<=g
 zg:¬Z g
 zlt:∀b,Z b->b<w.heap.size
 row:∀i,i<n->OwS w B eR (R i) (L i) (X i)
 far:∀i,i<n->∀b,(R i).ownBlock=some b->b≠g/\¬Z b
 apart:∀i j,i<n->j<n->i≠j->∀b,(R i).ownBlock=some b->(R j).ownBlock≠some b
namespace OM
variable{w w':World}{Z:Nat->Prop}{B:Nat}{eR eT:TypeId}{g n:Nat}{R:Nat->Value}{L:Nat->Nat}{X:Nat->Nat->ByteArray}
theorem kept{z:Option Nat}(h:OM w Z B eR eT g n R L X)(hb:w.grownBy w' z)(d:∀k,z=some k->k<B):OM w' Z B eR eT g n R L X :=
 ⟨h.top.of_block (hb.block g h.top.lt (λe=>by have:=d g e.symm;have:=h.base;omega)),h.base,h.zg,λb c=>Nat.lt_of_lt_of_le (h.zlt b c) hb.size,λi hi=>(h.row i hi).kept hb d,h.far,h.apart⟩
theorem congr{c:Nat->Nat->ByteArray}(h:OM w Z B eR eT g n R L X)(k:∀i j,i<n->j<L i->X i j=c i j):OM w Z B eR eT g n R L c :=
 ⟨h.top,h.base,h.zg,h.zlt,λi hi=>(h.row i hi).congr λj d=>k i j hi d,h.far,h.apart⟩
theorem congrL{L':Nat->Nat}(h:OM w Z B eR eT g n R L X)(c:∀i,i<n->L i=L' i):OM w Z B eR eT g n R L' X :=
 ⟨h.top,h.base,h.zg,h.zlt,λi hi=>by rw[<-c i hi];exact h.row i hi,h.far,h.apart⟩
theorem made(w:World)(Z:Nat->Prop)(d:∀b,Z b->b<w.heap.size)(B:Nat)(k:B<=w.heap.size)(g c:TypeId)(n:Nat)(X:Nat->Nat->ByteArray):
  OM (w.alloc (.cells (madeCells #[.slice none 0 0] n) c)) Z B g c w.heap.size n (λ_=>.slice none 0 0) (λ_=>0) X :=
 ⟨World.rowIs_made w _ n c,k,λh=>Nat.lt_irrefl _ (d _ h),λb h=>by have:=d b h;simp;omega,λi _=>OwS.nil _ _ _ _,λi _ b h=>by simp[Value.ownBlock]at h,λi j _ _ _ b h=>by simp[Value.ownBlock]at h⟩
theorem cell(h:OM w Z B eR eT g n R L X){i:Nat}(hi:i<n):w.cell? (Ad g i)=some (R i):=h.top.cell hi
theorem frozen(h:OM w Z B eR eT g n R L X)(i:Nat):w.frozen? (Ad g i)=false:=h.top.frozen i
theorem lt(h:OM w Z B eR eT g n R L X):g<w.heap.size:=h.top.lt
theorem rowLt(h:OM w Z B eR eT g n R L X)(hi:i<n):∀k,(R i).ownBlock=some k->B<=k/\k<w.heap.size:=World.ownsRow.lt<|h.row i hi
theorem form(h:OM w Z B eR eT g n R L X)(hi:i<n)(z:0<L i):∃b cap,R i=.slice (some (Ad b 0)) (L i) cap/\B<=b/\b<w.heap.size/\b≠g/\¬Z b/\L i<=cap/\cap<=maxLen/\
  (∀j,w.frozen? (Ad b j)=false)/\∀j,j<L i->w.cell? (Ad b j)=some (.string (X i j)):=by
 have c:=h.row i hi
 rcases c.2 with⟨_,p⟩|⟨b,cap,cur,d,hb,k,l,m,s,u⟩
 ·omega
 have hf:=h.far i hi b (by rw[d];rfl);refine⟨b,cap,d,hb,(Array.getElem?_eq_some_iff.1 k).1,hf.1,hf.2,l,m,λj=>by simp[World.frozen?,k],λj o=>?_⟩;rw[d]at c;have:=World.ownsRow.cells c (g:=b) rfl j _ (Ib (L i) (X i) j o);rw[Addr.add_lit,Nat.zero_add]at this;exact this
theorem appended(h:OM w Z B eR eT g n R L X)(hi:i<n){wa w1:World}(C:w.grownBy wa none){g' m:Nat}
  (s:w1.ownsRow B eR 1 (.slice (some (Ad g' 0)) m cap) m (strs m Y)) (D:wa.grownBy w1 (R i).ownBlock) (p:(R i).ownBlock=some g'\/g'=wa.heap.size) :
  OM (w1.setCell (Ad g i) (.slice (some (Ad g' 0)) m cap)) Z B eR eT g n (λk=>if k=i then .slice (some (Ad g' 0)) m cap else R k) (λk=>if k=i then m else L k) (λk=>if k=i then Y else X k):=by
 have J:=C.size;have E:=h.lt;have o:g'≠g/\¬Z g':=by
  rcases p with e|e
  ·exact h.far i hi g' e
  exact⟨by omega,λc=>by have:=h.zlt _ c;omega⟩
 have u:w1.rowIs g eT n R:=(h.top.of_block (C.block g E (by simp))).of_block (D.block g (by omega) (λe=>(h.far i hi g e.symm).1 rfl));refine⟨(u.set i _),h.base,h.zg,λb hb=>?_,λk d=>?_,λk d b hb=>?_,λk l d z j b hb=>?_⟩
 ·rw[nblk_setCell];have:=h.zlt b hb;have:=D.size;omega
 ·by_cases e:k=i
  ·subst e;simp only[if_pos];exact World.ownsRow.kept s ⟨rfl,rfl,rfl,by simp,λq _ F=>blk_setCell_other _ _ _ _ (by show q≠g;intro e;exact F (by rw[e]))⟩ (row:=some g) (.inr (by simp[Value.ownBlock];exact o.1))
  simp only[ifn e];have H:OwS wa B eR (R k) (L k) (X k):=(h.row k d).kept C (by simp);have I:w1.ownsRow B eR 1 (R k) (L k) (strs (L k) (X k)):=World.ownsRow.kept H D (by
   cases hb:(R k).ownBlock with
   |none=>exact .inl rfl
   |some b=>exact .inr (λc=>h.apart k i d hi e b hb c.symm))
  exact World.ownsRow.kept I ⟨rfl,rfl,rfl,by simp,λq _ F=>blk_setCell_other _ _ _ _ (by show q≠g;intro e;exact F (by rw[e]))⟩ (row:=some g) (by
   cases hb:(R k).ownBlock with
   |none=>exact .inl rfl
   |some b=>exact .inr (λc=>(h.far k d b hb).1 (Option.some.inj c)))
 ·by_cases e:k=i
  ·subst e;simp only[if_pos]at hb;simp[Value.ownBlock]at hb;subst hb;exact o
  simp only[ifn e]at hb;exact h.far k d b hb
 by_cases e:k=i
 ·subst e;simp only[if_pos]at hb;simp only[ifn (λe:l=k=>j e.symm)];simp[Value.ownBlock]at hb;subst hb
  rcases p with c|c
  ·exact h.apart k l d z j _ c
  intro A;have:=(h.rowLt z _ A).2;omega
 simp only[ifn e]at hb;by_cases c:l=i
 ·subst c;simp only[if_pos];simp[Value.ownBlock];intro A;subst A
  rcases p with G|G
  ·exact h.apart k l d z j _ hb G
  have:=(h.rowLt d _ hb).2;omega
 simp only[ifn c];exact h.apart k l d z j b hb
theorem stored(h:OM w Z B eR eT g n R L X){j b:Nat}(hi:i<n)(p:j<L i)(c:R i=.slice (some (Ad b 0)) (L i) cap)(x:ByteArray):
  OM (w.setCell (Ad b j) (.string x)) Z B eR eT g n R L (λk l=>if k=i/\l=j then x else X k l):=by
 have d:=(h.far i hi b (by rw[c];rfl)).1;refine⟨h.top.setOther (by show g≠b;exact λe=>d e.symm) _,h.base,h.zg,λb hb=>by rw[nblk_setCell];exact h.zlt b hb,λk m=>?_,h.far,h.apart⟩;by_cases e:k=i
 ·subst e;have:=h.row k m;rw[c]at this ⊢;exact(this.set p x).congr λl _=>by simp
 refine OwS.congr (World.ownsRow.kept (h.row k m) ⟨rfl,rfl,rfl,by simp,λq _ s=>blk_setCell_other _ _ _ _ (by show q≠b;intro e;exact s (by rw[e]))⟩ (row:=some b) (by
  cases hb:(R k).ownBlock with
  |none=>exact .inl rfl
  |some b'=>exact .inr (λo=>h.apart k i m hi e b' hb (by rw[c,Value.ownBlock];exact o.symm)))) λl _=>by simp[e]
theorem mt(h:OM w Z B eR eT g n R L X)(hn:n<=maxLen)(p:∀k,z=some k->k<B\/Z k):Mt z w (.slice (some (Ad g 0)) n n) n L X:=by
 refine⟨R,.inr ⟨g,0,n,rfl,⟨h.lt,λe=>?_⟩,nlr,hn,λi hi=>by rw[Nat.zero_add];exact h.cell hi⟩,λi hi=>?_⟩
 ·rcases p g e.symm with d|d
  ·have:=h.base;omega
  exact h.zg d
 have m:=h.row i hi
 rcases m.2 with⟨c,s⟩|⟨b,l,cur,c,hb,A,d,u,D,E⟩
 ·exact .inl ⟨s,none,0,c,Nat.zero_le _⟩
 refine .inr ⟨b,0,l,c,⟨(Array.getElem?_eq_some_iff.1 A).1,λe=>?_⟩,d,u,λj C=>?_⟩
 ·rcases p b e.symm with o|o
  ·omega
  exact(h.far i hi b (by rw[c];rfl)).2 o
 rw[c]at m;have:=World.ownsRow.cells m (g:=b) rfl j _ (Ib (L i) (X i) j C);rw[Addr.add_lit]at this;exact this
end OM
end
section
open Go.RowKit
variable{k:KK}{e:Nat}{a b s:ByteArray}{r:ByteArray × Nat}
def Is(k:KK)(e:Nat)(s:ByteArray)(x:RK k):Prop:=s.size<=100000/\(e=0->s=vtxt x.1/\fitV x.1)
def Er(F:Prop)(e:Nat):Prop:=(e=0\/e=2)/\(F->e=0)
def kpE(e:Nat)(r:ByteArray × Nat):Nat:=if r.2≠0/\e=0 then r.2 else e
theorem MA(h:kpE e r=0):e=0/\r.2=0:=by
 unfold kpE at h;split at h
 ·rename_i c;exact absurd h c.1
 rename_i c;subst h;exact⟨rfl,by simpa using c⟩
theorem Is.mono{e':Nat}{x:RK k}(h:Is k e s x)(d:e'=0->e=0):Is k e' s x:=⟨h.1,λc=>h.2 (d c)⟩
theorem Is.vprs{x:RK k}(h:Is k 0 s x):vprs k.1 s=some x.1:=by
 obtain⟨c,d⟩:=h.2 rfl;rw[c];exact PO d x.2
theorem FM(v:V):(fitV v/\limV v=(vtxt v,0))\/(¬fitV v/\(limV v).2=2):=by
 by_cases h:fitV v
 ·exact .inl ⟨h,Et h⟩
 right;refine⟨h,?_⟩
 cases v with
 |inf=>exact absurd trivial h
 |low=>exact absurd trivial h
 |fin q=>show (limR q).2=2;unfold limR;rw[ifn (show ¬fitQ q from h)]
theorem JJ{F:Prop}{z:RK k}{u:ByteArray}(g:e=0->r=limV z.1)(j:Er F e)(o:F->fitV z.1)(A:u.size<=100000)(p:kpE e r=0->u=r.1):
  Is k (kpE e r) u z/\Er F (kpE e r)/\(kpE e r=0->e=0):=by
 refine⟨⟨A,λd=>?_⟩,⟨?_,λhf=>?_⟩,λd=>(MA d).1⟩
 ·obtain⟨i,l⟩:=MA d;have m:=p d
  rcases FM z.1 with⟨hf,c⟩|⟨_,c⟩
  ·rw[m,g i,c];exact⟨rfl,hf⟩
  rw[g i]at l;omega
 ·unfold kpE;split
  ·rename_i h
   rcases FM z.1 with⟨_,c⟩|⟨_,c⟩
   ·rw[g h.2,c]at h;exact absurd rfl h.1
   rw[g h.2];exact .inr c
  exact j.1
 have d:=j.2 hf
 rcases FM z.1 with⟨_,c⟩|⟨s,_⟩
 ·unfold kpE;rw[g d,c,ifn (by simp)];exact d
 exact absurd (o hf) s
theorem Vr{x y:RK k}(d:Is k e a x)(hb:Is k e b y)(c:e=0):Ap k.1 a b=limV (x+y).1:=by
 subst c;unfold Ap;rw[d.vprs,hb.vprs];rfl
theorem XA{x y:RK k}(d:Is k e a x)(hb:Is k e b y)(c:e=0):Ah k.1 a b=limV (x*y).1:=by
 subst c;unfold Ah;rw[d.vprs,hb.vprs];rfl
theorem WP{x:RK k}(d:Is k e a x)(c:e=0):AL k.1 a=limV (CSR.star x).1:=by
 subst c;unfold AL;rw[d.vprs];rfl
theorem YH(k:KK):fitV (CSR.zero:RK k).1:=(Xr k.1 (k:=1) (by omega)).fit (by omega)
theorem UR(k:KK):fitV (CSR.one:RK k).1:=(Xq k.1 (k:=1) (by omega)).fit (by omega)
theorem Is.zero(k:KK)(e:Nat):Is k e (Ak k.1) CSR.zero:=⟨Qd k.1,λ_=>⟨YE k.2,YH k⟩⟩
theorem Is.one(k:KK)(e:Nat):Is k e (oneF k.1) CSR.one:=⟨UQ k.1,λ_=>⟨UP k.2,UR k⟩⟩
theorem Is.eq_zero{x:RK k}(h:Is k 0 s x):s=Ak k.1↔x=CSR.zero:=by
 obtain⟨c,g⟩:=h.2 rfl;obtain⟨d,i⟩:=(Is.zero k 0).2 rfl
 constructor
 ·intro e;rw[c,d]at e;exact RK.ext<|KT g i e
 intro e;rw[c,d,e]
theorem Is.of_valid(h:Aj k.1 s=true)(g:s.size<=100000)(e:Nat):∃x:RK k,Is k e s x:=by
 obtain⟨v,i⟩:=PI h;obtain⟨c,d⟩:=Dt.1 i;exact⟨⟨v,d⟩,g,λ_=>Gc c⟩
def wval(k:KK)(s:ByteArray):RK k:=match h:vprs k.1 s with
 |some v=>⟨v,(Dt.1 h).2⟩
 |none=>CSR.zero
theorem Is.val{x:RK k}(h:Is k 0 s x):wval k s=x:=by
 have d:=h.vprs;unfold wval
 split
 ·rename_i v c;rw[d]at c;cases c;rfl
 rename_i c;rw[d]at c;cases c
theorem Yf{k:Int}(h:Aj k s=true):s.size<=802:=by
 obtain⟨v,g⟩:=PI h;obtain⟨c,d⟩:=Gc (Dt.1 g).1;have:=GV v;rw[Et d]at this;rw[c];exact this
theorem Iu(h:Aj k.1 s=true):Is k 0 s (wval k s):=by
 obtain⟨x,c⟩:=Is.of_valid h (by have:=Yf h;omega) 0;rw[c.val];exact c
theorem DL{k:Int}(h:Am k s=true):Aj k s=true:=by
 obtain⟨v,c,d⟩:=Yo h;unfold Aj;rw[Dt.2 ⟨c,YB d⟩];rfl
end
end Go.Proofs.YtpldocnhbdlgfaaGreatDoor
