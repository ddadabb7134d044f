/- Parts. -/
import Derived.Test.YteappjogmnogcaaGreatDoorZ08
import Derived.Test.YteappjogmnogcaaGreatDoorZ09
import Derived.Deep.OwnRows
import Derived.Deep.AppendLies
namespace Go.Proofs.YteappjogmnogcaaGreatDoor
set_option maxRecDepth 100000
set_option linter.all false
set_option maxHeartbeats 16000000
open Go Tryz
section
open Go.RowKit
def Gq(v u:V)(w:World)(A:fitV v)(p:fitV u):Calls prog 167 #[.string (vtxt v),.string (vtxt u)] w (IntEnd (cmpV v u) w):=by
 have K:∀(a b:ByteArray) (z:Int) (i:z=0/\a=b\/a≠b) (c:a≠b->a≠infS->a≠lowS->b≠infS->b≠lowS->Calls prog 114 #[.string a,.string b] w (IntEnd z w))
   (B:a≠b->((a=lowS\/b=infS)/\z=-1)\/(a≠lowS/\b≠infS/\(b=lowS\/a=infS)/\z=1)\/(a≠lowS/\b≠infS/\b≠lowS/\a≠infS)),
   Calls prog 167 #[.string a,.string b] w (IntEnd z w):=by
  intro a b z i c B
  rcases i with⟨rfl,rfl⟩|i
  ·clear c B
   go_enter func167,ntmps167
   go_wp2;go_ret;exact⟨rfl,blr⟩
  have R:(a.toList==b.toList)=false:=by rw[beq_eq_false_iff_ne];exact Ov i
  have o:∀s:ByteArray,s≠lowS->(s.toList==[45,105,110,102])=false:=λs h=>BU (l:=[45,105,110,102]) h;have D:∀s:ByteArray,s≠infS->(s.toList==[105,110,102])=false:=λs h=>BU (l:=[105,110,102]) h;replace o:=qh o;replace D:=qh D
  rcases B i with⟨d,rfl⟩|⟨d,k,m,rfl⟩|⟨d,k,m,E⟩
  ·clear c B;by_cases j:a=lowS;have G:(a.toList==[45,105,110,102])=true:=by rw[j,Da];rfl
   rotate_left
   have G:=o.o a j;have L:(b.toList==[105,110,102])=true:=by rw[d.resolve_left j,Ck];rfl
   all_goals
    clear i d j
    go_enter func167,ntmps167
    go_wp2;go_ret;exact⟨rfl,blr⟩
  ·clear c B;have G:=o.o a d;have L:=D.o b k;by_cases g:b=lowS
   ·have N:(b.toList==[45,105,110,102])=true:=by rw[g,Da];rfl
    cases O:(a.toList==[105,110,102])
    all_goals
     clear i d k m g
     go_enter func167,ntmps167
     go_wp2;go_ret;exact⟨rfl,blr⟩
   have N:=o.o b g;have O:(a.toList==[105,110,102])=true:=by rw[m.resolve_left g,Ck];rfl
   clear i d k m g
   go_enter func167,ntmps167
   go_wp2;go_ret;exact⟨rfl,blr⟩
  have G:=o.o a d;have L:=D.o b k;have N:=o.o b m;have O:=D.o a E;have C:=qh<|c i E d k m;clear c B i d k m E
  go_enter func167,ntmps167
  go_wp2_with fail
  refine nxa C.o λS Q=>?_;go_wp2;go_ret;exact⟨rfl,Q.o⟩
 refine K _ _ _ ?_ ?_ ?_
 ·by_cases h:v=u
  ·subst h;exact .inl ⟨(Ha v v).2 rfl,rfl⟩
  exact .inr<|λe=>h (LC A p e)
 ·intro _ d k m E;cases v with
  |inf=>exact absurd rfl d
  |low=>exact absurd rfl k
  |fin x =>
   cases u with
   |inf=>exact absurd rfl m
   |low=>exact absurd rfl E
   |fin y =>
    have P:=Qa (txt x) (txt y) w (by have:=Di A;omega) (by have:=Di p;omega);rw[Pg A p]at P;exact P
 intro h;have F:infS≠lowS:=by decide
 have H:∀q:Rat,fitQ q->txt q≠infS:=λq J e=>by have:=GI J;rw[e,Ck]at this;simp at this
 have I:∀q:Rat,fitQ q->txt q≠lowS:=λq J e=>by have:=Lt J;rw[e,Da]at this;simp at this
 cases v with
 |inf =>
  cases u with
  |inf=>exact absurd rfl h
  |low=>exact .inr (.inl ⟨F,Ne.symm F,.inl rfl,rfl⟩)
  |fin y=>exact .inr (.inl ⟨F,H y p,.inr rfl,rfl⟩)
 |low =>
  cases u with
  |inf=>exact .inl ⟨.inl rfl,rfl⟩
  |low=>exact absurd rfl h
  |fin y=>exact .inl ⟨.inl rfl,rfl⟩
 |fin x =>
  cases u with
  |inf=>exact .inl ⟨.inr rfl,rfl⟩
  |low=>exact .inr (.inl ⟨I x A,Ne.symm F,.inl rfl,rfl⟩)
  |fin y=>exact .inr (.inr ⟨I x A,H y p,I y p,H x A⟩)
def Gw(k:Int)(w:World):Calls prog 49 #[.int .i64 k] w λe w'=>e=.returned (.bool (Ao k))/\w=w':=by
 go_enter func49,ntmps49
 unfold Ao;by_cases c:1<=k
 ·have d:decide (1<=k)=true:=by simpa using c
  go_wp2;go_ret;exact⟨by simp[c],rfl⟩
 have d:decide (1<=k)=false:=by simpa using c
 go_wp2;go_ret;exact⟨by simp[c],rfl⟩
def z0t{k:Int}(j:Ao k=true)(a:ByteArray):Ah k a=bif (a.toList==[105,110,102])||(a.toList==[45,105,110,102]) then (a.toList==[105,110,102])||decide (k=1) else (prs a).isSome&&(decide (k=1)||decide (0<=Bp a ⟨#[48]⟩)):=by
 have i:k=1\/k=2\/k=3:=by
  rcases CI k with h|h|h|h
  ·exact .inl h
  ·exact .inr (.inl h)
  ·exact .inr (.inr h)
  rw[Ew h]at j;cases j
 by_cases d:a=infS
 ·rw[d,Rk i,Ck];rfl
 have m:(a.toList==[105,110,102])=false:=BU (l:=[105,110,102]) d;by_cases g:a=lowS
 ·rw[g,Da]
  rcases i with rfl|rfl|rfl
  ·rw[Rl];rfl
  ·decide +kernel
  decide +kernel
 have o:(a.toList==[45,105,110,102])=false:=BU (l:=[45,105,110,102]) g;rw[m,o];have p:natB a=((prs a).isSome&&decide (0<=Bp a ⟨#[48]⟩)):=by
  unfold natB;cases s:prs a with
  |none=>rfl
  |some q =>
   rw[Kv s]
   rcases BM q 0 with⟨h,e⟩|⟨h,e⟩|⟨h,e⟩<;>rw[e]
   ·simp;exact Rat.not_le.2 h
   ·subst h;rfl
   simp;exact Rat.le_of_lt h
 by_cases c:k=1
 ·subst c;rw[Ri d g];simp
 rw[Rj (by omega) d,p];simp[c]
theorem CN(k:Int)(a:ByteArray)(w:World)(p:a.size<=9223372036854775807):Calls prog 66 #[.int .i64 k,.string a] w (BoolE (Ah k a) w):=by
 have B:=qh λs=>QC a s p;have C:=qh λs=>Qa a ⟨#[48]⟩ s p (by decide);have u:=qh λh=>z0t (k:=k) h a;have z:=qh λh=>En (k:=k) h a;clear p;generalize Ah k a=va,(prs a).isSome=o,Bp a ⟨#[48]⟩=c at *
 go_enter func66,ntmps66
 go_wp2_with fail
 refine(Gw _ _).mono ?_;rintro e G⟨rfl,rfl⟩;cases i:Ao k
 ·have D:va=false:=z.o (by rcases CI k with rfl|rfl|rfl|h;cases i;cases i;cases i;exact h)
  go_wp2;go_ret;exact⟨Az D.symm,blr⟩
 have d:=qh<|u.o i;clear u z i;cases l:(a.toList==[105,110,102])<;>cases m:(a.toList==[45,105,110,102])
 rotate_left
 iterate 3
  by_cases g:k=1
  ·go_wp2_with fail
   all_goals
    go_ret;exact⟨Az (by rw[d.o,l,m];simp[g]),blr⟩
  ·go_wp2_with fail
   all_goals
    go_ret;exact⟨Az (by rw[d.o,l,m];simp[g]),blr⟩
 rw[l,m]at d
 go_wp2_with fail
 refine nx1 (B.o _) λE j=>?_;cases o
 ·go_wp2;go_ret;exact⟨Az (by rw[d.o];rfl),j.o⟩
 by_cases g:k=1
 ·go_wp2;go_ret;exact⟨Az (by rw[d.o];simp[g]),j.o⟩
 go_wp2_with fail
 refine nx2 (C.o _) j λF A=>?_;go_wp2;go_ret;exact⟨Az (by rw[d.o];simp[g]),A.o⟩
theorem z0c(k:Int)(a:ByteArray):Aw k a=(Ah k a&&!(a.toList==[105,110,102])&&!(a.toList==[45,105,110,102])&&(k==1||!(a.toList==[48]))):=by
 cases c:rdV a with
 |none =>
  have i:Ah k a=false:=by unfold Ah vprs;rw[c];rfl
  have j:Aw k a=false:=by unfold Aw;rw[c]
  rw[i,j];rfl
 |some v =>
  obtain⟨m,g⟩:=Gs c;have i:Ah k a=decide (okV k v):=by
   unfold Ah vprs;rw[c];cases h:decide (okV k v)<;>simp[Option.filter,h]
  have j:Aw k a=decide (wtV k v):=by unfold Aw;rw[c]
  rw[i,j,m,Re g,Rf g,Rh g];rw[Bool.eq_iff_iff];simp only[Bool.and_eq_true,Bool.or_eq_true,Bool.not_eq_true',decide_eq_true_eq,decide_eq_false_iff_not,beq_iff_eq];cases v with
  |inf=>simp[wtV]
  |low=>simp[wtV]
  |fin q =>
   simp only[wtV,okV,V.fin.injEq]
   constructor
   ·intro h
    rcases h with h|⟨h,d⟩
    ·exact⟨⟨⟨.inl h,by simp⟩,by simp⟩,.inl h⟩
    exact⟨⟨⟨.inr ⟨h,Rat.le_of_lt d⟩,by simp⟩,by simp⟩,.inr (Rat.ne_of_gt d)⟩
   rintro⟨⟨⟨h,_⟩,_⟩,o⟩;by_cases l:k=1
   ·exact .inl l
   right
   rcases h with h|⟨h,d⟩
   ·exact absurd h l
   refine⟨h,Rat.lt_of_le_of_ne d (Ne.symm (o.resolve_left l))⟩
def Kx(k:Int)(a:ByteArray)(w:World)(d:a.size<=9223372036854775807):Calls prog 50 #[.int .i64 k,.string a] w (BoolE (Aw k a) w):=by
 rw[z0c];have g:=qh λm=>CN k a m d;clear d;generalize Ah k a=o at *
 go_enter func50,ntmps50
 go_wp2_with fail
 refine nx1 (g.o _) λp c=>?_;cases o
 ·go_wp2;go_ret;exact⟨Az (by simp),c.o⟩
 cases h:(a.toList==[105,110,102])<;>cases i:(a.toList==[45,105,110,102])<;>cases j:(a.toList==[48])<;>by_cases l:k=1
 all_goals
  go_wp2;go_ret;exact⟨Az (by rw[h,i,j];simp[l]),c.o⟩
def DJ(k:Int)(w:World):Calls prog 67 #[.int .i64 k] w (StrE (Af k) w):=by
 have j:=qh (show Ao k=false->Af k=⟨#[]⟩ from λh=>by unfold Af;rw[h];rfl);have g:=qh (show Ao k=true->k=1->Af k=⟨#[105,110,102]⟩ from λ_ h=>by rw[h];exact RF);have i:=qh (show Ao k=true->k≠1->Af k=⟨#[48]⟩ from λh c=>by
  rcases CI k with e|e|e|e
  ·exact absurd e c
  ·rw[e];exact FE
  ·rw[e];exact FF
  rw[Ew e]at h;cases h)
 generalize Af k=z at *
 go_enter func67,ntmps67
 go_wp2_with fail
 refine(Gw _ _).mono ?_;rintro e l⟨rfl,rfl⟩;cases d:Ao k
 ·go_wp2;go_ret;exact⟨Du (j.o d).symm,blr⟩
 by_cases c:k=1
 ·go_wp2;go_ret;exact⟨Du (g.o d c).symm,blr⟩
 go_wp2;go_ret;exact⟨Du (i.o d c).symm,blr⟩
def Ii(k:Int)(w:World):Calls prog 172 #[.int .i64 k] w (StrE (oneF k) w):=by
 have j:=qh (show Ao k=false->oneF k=⟨#[]⟩ from λh=>by unfold oneF;rw[h];rfl);have g:=qh (show Ao k=true->k=1->oneF k=⟨#[48]⟩ from λ_ h=>by rw[h];exact Gj);have i:=qh (show Ao k=true->k≠1->oneF k=⟨#[49]⟩ from λh c=>by
  rcases CI k with e|e|e|e
  ·exact absurd e c
  ·rw[e];exact Gk
  ·rw[e];exact Gl
  rw[Ew e]at h;cases h)
 generalize oneF k=z at *
 go_enter func172,ntmps172
 go_wp2_with fail
 refine(Gw _ _).mono ?_;rintro e l⟨rfl,rfl⟩;cases d:Ao k
 ·go_wp2;go_ret;exact⟨Du (j.o d).symm,blr⟩
 by_cases c:k=1
 ·go_wp2;go_ret;exact⟨Du (g.o d c).symm,blr⟩
 go_wp2;go_ret;exact⟨Du (i.o d c).symm,blr⟩
def Xz(k:Int)(a b:ByteArray)(w:World)(G:a.size<=9223372036854775807)(hb:b.size<=9223372036854775807):Calls prog 135 #[.int .i64 k,.string a,.string b] w (IntEnd (BR k a b) w):=by
 have H:=qh λc=>CN k a c G;have I:=qh λc=>CN k b c hb;have o:=qh λh=>SG (k:=k) (a:=a) (b:=b) h;have p:=qh λh=>SH (k:=k) (a:=a) (b:=b) h;have J:=qh (show Ah k a=true->Ah k b=true->k=1->∀c,Calls prog 167 #[.string a,.string b] c (IntEnd (BR k a b) c) from λd g i c=>by
  obtain⟨v,C,_,_,s,fv⟩:=BP d;obtain⟨u,B,_,_,z,A⟩:=BP g;rw[show BR k a b=cmpV v u by unfold BR;rw[C,B];simp[Et,i],s,z];exact Gq v u c fv A)
 have m:=qh (show Ah k a=true->Ah k b=true->k≠1->∀c,Calls prog 167 #[.string b,.string a] c (IntEnd (BR k a b) c) from λd g i c=>by
  obtain⟨v,C,_,_,s,fv⟩:=BP d;obtain⟨u,B,_,_,z,A⟩:=BP g;rw[show BR k a b=cmpV u v by unfold BR;rw[C,B];simp[Et,i],s,z];exact Gq u v c A fv)
 clear G hb;generalize BR k a b=r at *
 go_enter func135,ntmps135
 go_wp2_with fail
 refine nx1 (H.o _) λL D=>?_;cases d:Ah k a
 ·go_wp2;go_ret;exact⟨BK (o.o d).symm,D.o⟩
 go_wp2_with fail
 refine nx2 (I.o _) D λN j=>?_;cases g:Ah k b
 ·go_wp2;go_ret;exact⟨BK (p.o g).symm,j.o⟩
 have E:=qh d;clear d;have F:=qh g;clear g;by_cases i:k=1
 ·go_wp2_with fail
  refine nx2 (J.o E.o F.o i _) j λK l=>?_;go_wp2;go_ret;exact⟨rfl,l.o⟩
 go_wp2_with fail
 refine nx2 (m.o E.o F.o i _) j λK l=>?_;go_wp2;go_ret;exact⟨rfl,l.o⟩
def Xq{k:Int}{a b:ByteArray}(c:Ah k a=true)(A:Ah k b=true):Am k a b=if k=2 then (bif (a.toList==[105,110,102])||(b.toList==[105,110,102]) then (⟨#[105,110,102]⟩,0) else Be a b) else (if BR k b a<0 then b else a,0):=by
 obtain⟨v,o,D,i,fv,p,_⟩:=IN c;obtain⟨u,m,C,j,l,s,_⟩:=IN A;rw[p,s];have B:Am k a b=limV (As k v u):=by unfold Am;rw[o,m]
 have g:BR k b a=Et k u v:=by unfold BR;rw[m,o]
 rw[B,g];by_cases d:k=2
 ·rw[ifp d];subst d;rw[Cc];cases v with
  |inf=>cases u<;>rfl
  |low=>exact absurd D (by decide)
  |fin x =>
   cases u with
   |inf=>rfl
   |low=>exact absurd C (by decide)
   |fin y=>rw[i,j];show limR (x+y)=Be (txt x) (txt y);unfold Be;rw[Bm fv,Bm l]
 rw[ifn d];have z:As k v u=if Et k u v<0 then u else v:=by
  unfold As Et;have:=FM v u;rw[ifn d];by_cases c:k=1
  ·rw[ifp c,ifp c];by_cases h:0<cmpV v u
   ·rw[ifp h,ifp (by omega)]
   rw[ifn h,ifn (by omega)]
  rw[ifn c,ifn c]
 rw[z];by_cases h:Et k u v<0
 ·rw[ifp h,ifp h,Fh l,<-j]
 rw[ifn h,ifn h,Fh fv,<-i]
theorem Ij(k:Int)(a b:ByteArray)(w:World)(p:a.size<=9223372036854775807)(hb:b.size<=9223372036854775807):Calls prog 102 #[.int .i64 k,.string a,.string b] w (PairEnd (Am k a b) w):=by
 have E:=qh λc=>CN k a c p;have F:=qh λc=>CN k b c hb;have G:=qh λc=>Xz k b a c hb p;have H:=qh λc=>KY a b c p hb;have g:=qh λh=>Kp (k:=k) (a:=a) (b:=b) h;have i:=qh λh=>OU (k:=k) (a:=a) (b:=b) h;have u:=qh λj l=>Xq (k:=k) (a:=a) (b:=b) j l;clear p hb;generalize Am k a b=r,BR k b a=z,Be a b=q at *;obtain⟨q1,q2⟩:=q
 go_enter func102,ntmps102
 go_wp2_with fail
 refine nx1 (E.o _) λK s=>?_;cases j:Ah k a
 ·go_wp2;go_ret2;exact⟨by rw[g.o j];rfl,s.o⟩
 go_wp2_with fail
 refine nx2 (F.o _) s λL m=>?_;cases l:Ah k b
 ·go_wp2;go_ret2;exact⟨by rw[i.o l];rfl,m.o⟩
 have d:=qh<|u.o j l;clear j l u g i;by_cases C:k=2
 ·rw[ifp C]at d;cases A:(a.toList==[105,110,102])<;>cases B:(b.toList==[105,110,102])
  ·go_wp2_with fail
   refine nx2 (H.o _) m λJ o=>?_;go_wp2;go_ret2;exact⟨by rw[d.o,A,B];rfl,o.o⟩
  all_goals
   go_wp2;go_ret2;exact⟨by rw[d.o,A,B];rfl,m.o⟩
 rw[ifn C]at d
 go_wp2_with fail
 refine nx2 (G.o _) m λJ o=>?_;by_cases D:z<0
 ·go_wp2;go_ret2;exact⟨by rw[d.o,ifp D];rfl,o.o⟩
 have I:decide (z<0)=false:=by simpa using D
 go_wp2;go_ret2;exact⟨by rw[d.o,ifn (by omega)];rfl,o.o⟩
def Pj(k:Int)(a b:ByteArray)(w:World)(B:a.size<=9223372036854775807)(hb:b.size<=9223372036854775807):Calls prog 31 #[.int .i64 k,.string a,.string b] w (PairEnd (Al k a b) w):=by
 have G:=qh λd=>CN k a d B;have H:=qh λd=>CN k b d hb;have I:=qh λd=>DJ k d;have N:=qh λd=>KY a b d B hb;have O:=qh λd=>YX a b d B hb;have l:=qh λh=>Ls (k:=k) (a:=a) (b:=b) h;have m:=qh λh=>QK (k:=k) (a:=a) (b:=b) h;have J:=qh λs u=>QJ (k:=k) (a:=a) (b:=b) s u;clear B hb;generalize Al k a b=r,Af k=z,Be a b=q,BV a b=p at *;obtain⟨q1,q2⟩:=q;obtain⟨p1,p2⟩:=p
 go_enter func31,ntmps31
 go_wp2_with fail
 refine nx1 (G.o _) λQ C=>?_;cases s:Ah k a
 ·go_wp2;go_ret2;exact⟨by rw[l.o s];rfl,C.o⟩
 go_wp2_with fail
 refine nx2 (H.o _) C λR D=>?_;cases u:Ah k b
 ·go_wp2;go_ret2;exact⟨by rw[m.o u];rfl,D.o⟩
 have c:=qh<|J.o s u;clear s u J l m
 go_wp2_with fail
 refine nx2 (I.o _) D λS g=>?_;clear G H I C D;cases i:(a.toList==z.toList)
 rotate_left
 ·go_wp2;go_ret2;exact⟨by rw[c.o,i];rfl,g.o⟩
 cases j:(b.toList==z.toList)
 rotate_left
 ·go_wp2;go_ret2;exact⟨by rw[c.o,i,j];rfl,g.o⟩
 cases o:(a.toList==[105,110,102])
 rotate_left
 ·go_wp2;go_ret2;exact⟨by rw[c.o,i,j,o];rfl,g.o⟩
 cases A:(b.toList==[105,110,102])
 rotate_left
 ·go_wp2;go_ret2;exact⟨by rw[c.o,i,j,o,A];rfl,g.o⟩
 cases F:(a.toList==[45,105,110,102])
 rotate_left
 ·go_wp2;go_ret2;exact⟨by rw[c.o,i,j,o,A,F];rfl,g.o⟩
 cases K:(b.toList==[45,105,110,102])
 rotate_left
 ·go_wp2;go_ret2;exact⟨by rw[c.o,i,j,o,A,F,K];rfl,g.o⟩
 rw[i,j,o,A,F,K]at c;by_cases L:k=1
 ·go_wp2_with fail
  refine nx2 (N.o _) g λP E=>?_;go_wp2;go_ret2;exact⟨by rw[c.o];simp[L],E.o⟩
 go_wp2_with fail
 refine nx2 (O.o _) g λP E=>?_;go_wp2;go_ret2;exact⟨by rw[c.o];simp[L],E.o⟩
def XE(k:Int)(a:ByteArray)(w:World)(g:a.size<=9223372036854775807)(d:Ah k a=false):Calls prog 196 #[.int .i64 k,.string a] w (PairEnd (AL k a) w):=by
 have c1:=λh=>CN k a h g;rw[d]at c1;rw[Lh d];replace c1:=qh c1;clear d g
 go_enter func196,ntmps196
 go_wp2_with fail
 refine nxa (c1.o w) λi c=>?_;go_wp2;go_ret2;exact⟨rfl,c.o⟩
def XA(a:ByteArray)(w:World)(o:a.size<=9223372036854775807)(l:Ah 1 a=true):Calls prog 196 #[.int .i64 1,.string a] w (PairEnd (AL 1 a) w):=by
 have c1:=λh=>CN 1 a h o;rw[l]at c1;obtain⟨v,u,rv,C,m,i⟩:=BP l;have c2:=λh=>Ii 1 h;rw[Gj]at c2;have c3:=λh=>Gq v (.fin 0) h i Fa;have s:AL 1 a=limV (if 0<=cmpV v (.fin 0) then .fin 0 else .low):=by unfold AL;rw[u];rfl
 have p:limV (if 0<=cmpV v (.fin 0) then .fin 0 else .low)=(if 0<=cmpV v (.fin 0) then ⟨#[48]⟩ else ⟨#[45,105,110,102]⟩,0):=by
  split
  ·exact(CZ Fa).trans (by rw[Dy])
  rfl
 rw[s,p];change ∀h,Calls _ _ #[_,.string (txt 0)] h _ at c3;rw[Dy,<-m]at c3;have B:=EW v (.fin 0);generalize cmpV v (.fin 0)=z at *;replace c1:=qh c1;replace c2:=qh c2;replace c3:=qh c3;clear s p u rv C m i o l
 rcases B with rfl|rfl|rfl
 ·change Calls _ _ _ _ (PairEnd (⟨#[45,105,110,102]⟩,0) w)
  go_enter func196,ntmps196
  go_wp2_with fail
  refine nxa (c1.o w) λj c=>?_
  go_wp2_with fail
  refine nxb (c2.o j) c λk d=>?_
  go_wp2_with fail
  refine nxb (c3.o k) d λA g=>?_;go_wp2;go_ret2;exact⟨rfl,g.o⟩
 ·change Calls _ _ _ _ (PairEnd (⟨#[48]⟩,0) w)
  go_enter func196,ntmps196
  go_wp2_with fail
  refine nxa (c1.o w) λj c=>?_
  go_wp2_with fail
  refine nxb (c2.o j) c λk d=>?_
  go_wp2_with fail
  refine nxb (c3.o k) d λA g=>?_;go_wp2;go_ret2;exact⟨rfl,g.o⟩
 change Calls _ _ _ _ (PairEnd (⟨#[48]⟩,0) w)
 go_enter func196,ntmps196
 go_wp2_with fail
 refine nxa (c1.o w) λj c=>?_
 go_wp2_with fail
 refine nxb (c2.o j) c λk d=>?_
 go_wp2_with fail
 refine nxb (c3.o k) d λA g=>?_;go_wp2;go_ret2;exact⟨rfl,g.o⟩
def XC(a:ByteArray)(w:World)(o:a.size<=9223372036854775807)(l:Ah 3 a=true):Calls prog 196 #[.int .i64 3,.string a] w (PairEnd (AL 3 a) w):=by
 have c1:=λh=>CN 3 a h o;rw[l]at c1;obtain⟨v,u,rv,C,m,i⟩:=BP l;have c2:=λh=>Ii 3 h;rw[Gl]at c2;have c3:=λh=>Gq v (.fin 1) h i EZ;have s:AL 3 a=limV (if cmpV v (.fin 1)<=0 then .fin 1 else .inf):=by unfold AL;rw[u];rfl
 have p:limV (if cmpV v (.fin 1)<=0 then .fin 1 else .inf)=(if cmpV v (.fin 1)<=0 then ⟨#[49]⟩ else ⟨#[105,110,102]⟩,0):=by
  split
  ·exact(CZ EZ).trans (by rw[Em])
  rfl
 rw[s,p];change ∀h,Calls _ _ #[_,.string (txt 1)] h _ at c3;rw[Em,<-m]at c3;have B:=EW v (.fin 1);generalize cmpV v (.fin 1)=z at *;replace c1:=qh c1;replace c2:=qh c2;replace c3:=qh c3;clear s p u rv C m i o l
 rcases B with rfl|rfl|rfl
 ·change Calls _ _ _ _ (PairEnd (⟨#[49]⟩,0) w)
  go_enter func196,ntmps196
  go_wp2_with fail
  refine nxa (c1.o w) λj c=>?_
  go_wp2_with fail
  refine nxb (c2.o j) c λk d=>?_
  go_wp2_with fail
  refine nxb (c3.o k) d λA g=>?_;go_wp2;go_ret2;exact⟨rfl,g.o⟩
 ·change Calls _ _ _ _ (PairEnd (⟨#[49]⟩,0) w)
  go_enter func196,ntmps196
  go_wp2_with fail
  refine nxa (c1.o w) λj c=>?_
  go_wp2_with fail
  refine nxb (c2.o j) c λk d=>?_
  go_wp2_with fail
  refine nxb (c3.o k) d λA g=>?_;go_wp2;go_ret2;exact⟨rfl,g.o⟩
 change Calls _ _ _ _ (PairEnd (⟨#[105,110,102]⟩,0) w)
 go_enter func196,ntmps196
 go_wp2_with fail
 refine nxa (c1.o w) λj c=>?_
 go_wp2_with fail
 refine nxb (c2.o j) c λk d=>?_
 go_wp2_with fail
 refine nxb (c3.o k) d λA g=>?_;go_wp2;go_ret2;exact⟨rfl,g.o⟩
def XB(a:ByteArray)(w:World)(s:a.size<=9223372036854775807)(p:Ah 2 a=true):Calls prog 196 #[.int .i64 2,.string a] w (PairEnd (AL 2 a) w):=by
 have c1:=λk=>CN 2 a k s;rw[p]at c1;obtain⟨v,D,rv,C,o,c⟩:=BP p;have c2:=λk=>Ii 2 k;rw[Gk]at c2;have c3:=λk=>Gq v (.fin 1) k c EZ;have B:AL 2 a=limV (Av 2 v):=by unfold AL;rw[D]
 rw[B];change ∀k,Calls _ _ #[_,.string (txt 1)] k _ at c3;rw[Em,<-o]at c3;replace c1:=qh c1;replace c2:=qh c2
 rcases AD C (by decide) with rfl|⟨x,rfl,I⟩
 ·have l:limV (Av 2 .inf)=(⟨#[105,110,102]⟩,0):=rfl;have O:cmpV .inf (.fin 1)=1:=rfl;rw[l];rw[O]at c3;have m:=qh c3;clear c3 B l O D rv C o c s p
  go_enter func196,ntmps196
  go_wp2_with fail
  refine nxa (c1.o w) λu d=>?_
  go_wp2_with fail
  refine nxb (c2.o u) d λA g=>?_
  go_wp2_with fail
  refine nxb (m.o A) g λJ i=>?_;go_wp2;go_ret2;exact⟨rfl,i.o⟩
 have l:Av 2 (.fin x)=if 0<=cmpQ x 1 then .inf else .fin (1 / (1-x)):=rfl
 have G:cmpV (.fin x) (.fin 1)=cmpQ x 1:=rfl;rw[G]at c3
 rcases BM x 1 with⟨h,e⟩|h
 ·have hf:=Nw c I h;have N:1-x≠0:=Rat.ne_of_gt<|(Rat.lt_iff_sub_pos x 1).1 h;have j:limV (Av 2 (.fin x))=limR (1 / (1-x)):=by rw[l,e];rfl
  have Q:=Di hf;have c4:=λk=>YZ ⟨#[49]⟩ a k (by decide) s;have c5:=λk=>YF ⟨#[49]⟩ (txt (1-x)) k (by decide) (by omega);have K:Cd ⟨#[49]⟩ a=(txt (1-x),0):=by rw[o];show Cd ⟨#[49]⟩ (txt x)=_;unfold Cd;rw[Fs,Bm c];exact CZ hf
  have L:Bq ⟨#[49]⟩ (txt (1-x))=limR (1 / (1-x)):=by unfold Bq;rw[Fs,Bm hf];exact ifn N
  rw[K]at c4;rw[L]at c5;rw[e]at c3;rw[j];generalize limR (1 / (1-x))=lr at *;obtain⟨ls,R⟩:=lr;generalize txt (1-x)=b at *;have m:=qh c3;clear c3;replace c4:=qh c4;replace c5:=qh c5;clear B j l G h e hf N Q K L D rv C o c s p I
  go_enter func196,ntmps196
  go_wp2_with fail
  refine nxa (c1.o w) λu d=>?_
  go_wp2_with fail
  refine nxb (c2.o u) d λA g=>?_
  go_wp2_with fail
  refine nxb (m.o A) g λJ i=>?_
  go_wp2_with fail
  refine nxb (c4.o J) i λP E=>?_
  go_wp2_with fail
  refine nxb (c5.o P) E λS F=>?_;go_wp2;go_ret2;exact⟨rfl,F.o⟩
 have H:0<=cmpQ x 1:=by rcases h with⟨_,e⟩|⟨_,e⟩<;>rw[e]<;>decide
 have j:limV (Av 2 (.fin x))=(⟨#[105,110,102]⟩,0):=by rw[l,ifp H];rfl
 rw[j];generalize cmpQ x 1=z at *;have m:=qh c3;clear c3 B j l G h D rv C o c s p I
 go_enter func196,ntmps196
 go_wp2_with fail
 refine nxa (c1.o w) λu d=>?_
 go_wp2_with fail
 refine nxb (c2.o u) d λA g=>?_
 go_wp2_with fail
 refine nxb (m.o A) g λJ i=>?_;go_wp2;go_ret2;exact⟨rfl,i.o⟩
def XD(k:Int)(a:ByteArray)(w:World)(d:a.size<=9223372036854775807):Calls prog 196 #[.int .i64 k,.string a] w (PairEnd (AL k a) w):=by
 cases c:Ah k a with
 |false=>exact XE k a w d c
 |true =>
  rcases CI k with rfl|rfl|rfl|g
  ·exact XA a w d c
  ·exact XB a w d c
  ·exact XC a w d c
  rw[En g]at c;simp at c
end
section
open Go.RowKit Go.Deep
variable{a c w:World}{z:Option Nat}{B cap i n:Nat}{v:Value}{f:Nat->Value}{X Y:Nat->ByteArray}{e:TypeId}
def NA(w:World)(z:Option Nat):w.grownBy w z:=⟨rfl,rfl,rfl,nlr,λ_ _ _=>rfl⟩
def AR{b:World}(h:a.grownBy b z)(k:b.grownBy c z):a.grownBy c z :=
 ⟨k.os.trans h.os,k.tape.trans h.tape,k.output.trans h.output,Nat.le_trans h.size k.size,λq d g=>(k.block q (Nat.lt_of_lt_of_le d h.size) g).trans (h.block q d g)⟩
def Ab(h:Below w.heap.size w c)(z:Option Nat):w.grownBy c z:=⟨h.os,h.tape,h.output,h.size,λq d _=>h.block q d⟩
def Nz(h:w.grownBy c none):Below w.heap.size w c:=⟨h.os,h.tape,h.output,h.size,λq d=>h.block q d (by simp)⟩
def Dp(h:a.grownBy w z){p:Addr}(g:some p.block=z\/a.heap.size<=p.block)(v:Value):a.grownBy (w.setCell p v) z :=
 ⟨h.os,h.tape,h.output,by rw[nblk_setCell];exact h.size,λq i c=>by
  rw[blk_setCell_other _ _ _ _ (by rcases g with e|e;exact λd=>c (by rw[d,e]);omega)];exact h.block q i c⟩
def Rd(z:Option Nat)(w:World)(v:Value)(n:Nat)(f:Nat->Value):Prop :=
 (n=0/\∃a cap,v=.slice a 0 cap/\cap<=maxLen)\/∃b off cap,v=.slice (some (Ad b off)) n cap/\(b<w.heap.size/\some b≠z)/\n<=cap/\cap<=maxLen/\∀i,i<n->w.cell? (Ad b (off+i))=some (f i)
def Rd.kept{j:World}(h:Rd z w v n f)(hb:w.grownBy j z):Rd z j v n f:=by
 rcases h with h|⟨b,c,g,o,d,k,l,m⟩
 ·exact .inl h
 exact .inr ⟨b,c,g,o,⟨Nat.lt_of_lt_of_le d.1 hb.size,d.2⟩,k,l,λi hi=>(hb.cell_far (Ad b (c+i)) d.1 d.2).trans (m i hi)⟩
def Rd.open(h:Rd z w v n f):∃a cap b off,v=.slice a n cap/\(0<n->a=some (Ad b off))/\n<=cap/\cap<=maxLen/\
  (0<n->b<w.heap.size/\some b≠z)/\∀i,i<n->w.cell? (Ad b (off+i))=some (f i):=by
 rcases h with⟨rfl,a,cap,c,l⟩|⟨b,off,cap,c,d,g,j,k⟩
 ·exact⟨a,cap,0,0,c,by simp,by simp,l,by simp,by simp⟩
 exact⟨_,cap,b,off,c,λ_=>rfl,g,j,λ_=>d,k⟩
def Rd.congr{g:Nat->Value}(h:Rd z w v n f)(e:∀i,i<n->f i=g i):Rd z w v n g:=by
 rcases h with h|⟨b,d,c,o,j,k,l,m⟩
 ·exact .inl h
 exact .inr ⟨b,d,c,o,j,k,l,λi hi=>by rw[m i hi,e i hi]⟩
def Rd.shape(h:Rd z w v n f):∃a cap,v=.slice a n cap:=by
 obtain⟨a,cap,_,_,c,_⟩:=h.open;exact⟨a,cap,c⟩
def Rd.any(h:Rd z w v n f):Rd none w v n f:=by
 rcases h with h|⟨b,d,c,j,g,i⟩
 ·exact .inl h
 exact .inr ⟨b,d,c,j,⟨g.1,by simp⟩,i⟩
def Rd.far{k:Nat}(h:Rd z w v n f)(l:w.heap.size<=k):Rd (some k) w v n f:=by
 rcases h with h|⟨b,d,c,j,g,i⟩
 ·exact .inl h
 exact .inr ⟨b,d,c,j,⟨g.1,by simp;omega⟩,i⟩
def Ss(z:Option Nat)(w:World)(v:Value)(n:Nat)(X:Nat->ByteArray):Prop:=Rd z w v n λi=>.string (X i)
def Mt(z:Option Nat)(w:World)(v:Value)(n:Nat)(L:Nat->Nat)(X:Nat->Nat->ByteArray):Prop:=∃R,Rd z w v n R/\∀i,i<n->Ss z w (R i) (L i) (X i)
section
variable{z:Option Nat}{w w':World}{v:Value}{n:Nat}{L L':Nat->Nat}{X X':Nat->Nat->ByteArray}
theorem Mt.kept(h:Mt z w v n L X)(hb:w.grownBy w' z):Mt z w' v n L X:=by
 obtain⟨R,c,d⟩:=h;exact⟨R,c.kept hb,λi hi=>Rd.kept (d i hi) hb⟩
theorem Mt.any(h:Mt z w v n L X):Mt none w v n L X:=by
 obtain⟨R,c,d⟩:=h;exact⟨R,c.any,λi hi=>Rd.any (d i hi)⟩
theorem Mt.far{k:Nat}(h:Mt z w v n L X)(c:w.heap.size<=k):Mt (some k) w v n L X:=by
 obtain⟨R,d,g⟩:=h;exact⟨R,d.far c,λi hi=>Rd.far (g i hi) c⟩
theorem Mt.congr(h:Mt z w v n L X)(g:∀i,i<n->L i=L' i)(k:∀i j,i<n->j<L i->X i j=X' i j):Mt z w v n L' X':=by
 obtain⟨R,c,d⟩:=h;exact⟨R,c,λi hi=>by rw[<-g i hi];exact Rd.congr (d i hi) λj l=>by rw[k i j hi l]⟩
theorem Mt.shape(h:Mt z w v n L X):∃a cap,v=.slice a n cap:=by
 obtain⟨R,c,_⟩:=h;exact c.shape
theorem Mt.open(h:Mt z w v n L X):
  ∃a cap b off,∃(A:Nat->Option Addr) (C B O:Nat->Nat),v=.slice a n cap/\(0<n->a=some (Ad b off))/\n<=cap/\cap<=maxLen/\(0<n->b<w.heap.size/\some b≠z)/\
   ∀i,i<n->w.cell? (Ad b (off+i))=some (.slice (A i) (L i) (C i))/\L i<=C i/\C i<=maxLen/\(0<L i->A i=some (Ad (B i) (O i)))/\(0<L i->B i<w.heap.size/\some (B i)≠z)/\Ss z w (.slice (A i) (L i) (C i)) (L i) (X i)/\
    ∀j,j<L i->w.cell? (Ad (B i) (O i+j))=some (.string (X i j)):=by
 obtain⟨R,F,s⟩:=h;obtain⟨a,cap,b,off,J,G,H,I,hb,d⟩:=F.open
 classical
 have c:∀i,∃t:Option Addr × Nat × Nat × Nat,i<n->R i=.slice t.1 (L i) t.2.1/\(0<L i->t.1=some (Ad t.2.2.1 t.2.2.2))/\L i<=t.2.1/\t.2.1<=maxLen/\(0<L i->t.2.2.1<w.heap.size/\some t.2.2.1≠z)/\
   ∀j,j<L i->w.cell? (Ad t.2.2.1 (t.2.2.2+j))=some (.string (X i j)):=λi=>by
  by_cases hi:i<n
  ·obtain⟨u,E,D,K,g,k,l,m,o,p⟩:=Rd.open<|s i hi;exact⟨(u,E,D,K),λ_=>⟨g,k,l,m,o,p⟩⟩
  exact⟨(none,0,0,0),λh=>absurd h hi⟩
 refine⟨a,cap,b,off,λi=>(Classical.choose (c i)).1,λi=>(Classical.choose (c i)).2.1,λi=>(Classical.choose (c i)).2.2.1,λi=>(Classical.choose (c i)).2.2.2,J,G,H,I,hb,λi hi=>?_⟩;obtain⟨g,k,l,m,o,p⟩:=Classical.choose_spec (c i) hi;refine⟨by rw[d i hi,g],l,m,k,o,?_,p⟩;rw[<-g];exact s i hi
end
def strs(n:Nat)(X:Nat->ByteArray):List Value:=(List.range n).map λj=>.string (X j)
theorem Fz(n:Nat)(X:Nat->ByteArray):(strs n X).length=n:=by simp[strs]
theorem Fy(n:Nat)(X:Nat->ByteArray)(i:Nat)(h:i<n):(strs n X)[i]?=some (.string (X i)):=by simp[strs,h]
theorem Zm(n:Nat)(X:Nat->ByteArray):strs n X++[.string (X n)]=strs (n+1) X:=by simp[strs,List.range_succ]
theorem Zl(h:∀i,i<n->X i=Y i):strs n X=strs n Y:=by
 unfold strs;exact List.map_congr_left λi hi=>by rw[h i (List.mem_range.1 hi)]
def OwS(w:World)(B:Nat)(e:TypeId)(v:Value)(n:Nat)(X:Nat->ByteArray):Prop:=w.ownsRow B e 1 v n (strs n X)
def OwS.nil(w:World)(B:Nat)(e:TypeId)(X:Nat->ByteArray):OwS w B e (.slice none 0 0) 0 X:=World.ownsRow_nil w B e 1
def OwS.congr(h:OwS w B e v n X)(c:∀i,i<n->X i=Y i):OwS w B e v n Y:=by
 unfold OwS;rw[<-Zl c];exact h
theorem OwS.kept{w c:World}{B:Nat}{e:TypeId}{v:Value}{n:Nat}{X:Nat->ByteArray}{z:Option Nat}(h:OwS w B e v n X)(hb:w.grownBy c z)(g:∀k,z=some k->k<B):OwS c B e v n X :=
 World.ownsRow.kept h hb (by
  cases d:v.ownBlock with
  |none=>exact .inl rfl
  |some k=>exact .inr (λe=>by have:=(World.ownsRow.lt h k d).1;have:=g k e.symm;omega))
def WY(x:ByteArray):∀u ∈ [Value.string x],u.oneCell'=true:=by intro u c;simp at c;subst c;rfl
def Qv(n:Nat)(X:Nat->ByteArray):∀u ∈ strs n X,u.oneCell'=true:=by
 intro u c;simp[strs]at c;obtain⟨_,_,rfl⟩:=c;rfl
def OwS.set{g:Nat}(h:OwS w B e (.slice (some (Ad g 0)) n cap) n X)(hi:i<n)(x:ByteArray):
  OwS (w.setCell (Ad g i) (.string x)) B e (.slice (some (Ad g 0)) n cap) n (λj=>if j=i then x else X j):=by
 refine⟨by rw[Fz,Nat.mul_one],?_⟩
 rcases h.2 with⟨l,_⟩|⟨C,m,d,l,s,k,u,z,o,p⟩
 ·cases l
 cases l;refine .inr ⟨g,cap,d.setIfInBounds i (.string x),rfl,s,by simp[World.setCell,Array.getElem?_modify,k],u,z,by simpa using o,?_⟩;rw[Nat.mul_one]at o p ⊢;refine List.ext_getElem? λj=>?_;by_cases c:j<n
 ·rw[Fy _ _ _ c,List.getElem?_take_of_lt c,Array.getElem?_toList,Array.getElem?_setIfInBounds];by_cases e:i=j
  ·subst e;rw[ifp rfl,ifp (by omega),ifp rfl]
  rw[ifn e,ifn (λh=>e h.symm)];have:=Fy n X j c;rw[<-p,List.getElem?_take_of_lt c,Array.getElem?_toList]at this;exact this
 rw[List.getElem?_eq_none (by rw[List.length_take];omega),List.getElem?_eq_none (by rw[Fz];omega)]
structure Gr(B:Nat)(z:Option Nat)(w w':World):Prop where
 os:w'.os=w.os
 tape:w'.tape=w.tape
 output:w'.output=w.output
 size:w.heap.size<=w'.heap.size
 block:∀q,q<B->some q≠z->w'.heap[q]?=w.heap[q]?
namespace Gr
variable{B:Nat}{z:Option Nat}{w w' w2:World}
theorem refl(B:Nat)(z:Option Nat)(w:World):Gr B z w w:=⟨rfl,rfl,rfl,nlr,λ_ _ _=>rfl⟩
theorem trans(h:Gr B z w w')(k:Gr B z w' w2):Gr B z w w2:=⟨k.os.trans h.os,k.tape.trans h.tape,k.output.trans h.output,Nat.le_trans h.size k.size,λq c d=>(k.block q c d).trans (h.block q c d)⟩
theorem of(h:w.grownBy w' z)(d:B<=w.heap.size):Gr B z w w':=⟨h.os,h.tape,h.output,h.size,λq g c=>h.block q (by omega) c⟩
theorem gb(h:Gr w.heap.size z w w'):w.grownBy w' z:=⟨h.os,h.tape,h.output,h.size,h.block⟩
theorem mono{c:Nat}(h:Gr B z w w')(g:c<=B):Gr c z w w':=⟨h.os,h.tape,h.output,h.size,λq i d=>h.block q (by omega) d⟩
theorem more{r:Option Nat}(h:Gr B z w w')(c:w'.grownBy w2 r)(j:B<=w'.heap.size)(g:∀k,r=some k->z=some k\/B<=k):Gr B z w w2 :=
 h.trans ⟨c.os,c.tape,c.output,c.size,λq l i=>c.block q (by omega) (λe=>by
  rcases g q e.symm with d|d
  ·exact i d.symm
  omega)⟩
theorem set(h:Gr B z w w'){p:Addr}(d:some p.block=z\/B<=p.block)(v:Value):Gr B z w (w'.setCell p v) :=
 h.trans ⟨rfl,rfl,rfl,by rw[nblk_setCell];exact nlr,λq i g=>blk_setCell_other _ _ _ _ (by
  rcases d with e|e
  ·intro c;exact g (by rw[c,e])
  omega)⟩
theorem drew(h:Gr B z w w'):Gr B z w w'.drew:=⟨h.os,h.tape,h.output,h.size,h.block⟩
end Gr
structure OM(w:World)(Z:Nat->Prop)(B:Nat)(eR eT:TypeId)(g n:Nat)(R:Nat->Value)(L:Nat->Nat)(X:Nat->Nat->ByteArray):Prop where
 top:w.rowIs g eT n R
 base:B<=g
 zg:¬Z g
 zlt:∀b,Z b->b<w.heap.size
 row:∀i,i<n->OwS w B eR (R i) (L i) (X i)
 far:∀i,i<n->∀b,(R i).ownBlock=some b->b≠g/\¬Z b
 apart:∀i j,i<n->j<n->i≠j->∀b,(R i).ownBlock=some b->(R j).ownBlock≠some b
namespace OM
variable{w w':World}{Z:Nat->Prop}{B:Nat}{eR eT:TypeId}{g n:Nat}{R:Nat->Value}{L:Nat->Nat}{X:Nat->Nat->ByteArray}
theorem kept{z:Option Nat}(h:OM w Z B eR eT g n R L X)(hb:w.grownBy w' z)(d:∀k,z=some k->k<B):OM w' Z B eR eT g n R L X :=
 ⟨h.top.of_block (hb.block g h.top.lt (λe=>by have:=d g e.symm;have:=h.base;omega)),h.base,h.zg,λb c=>Nat.lt_of_lt_of_le (h.zlt b c) hb.size,λi hi=>(h.row i hi).kept hb d,h.far,h.apart⟩
theorem congr{c:Nat->Nat->ByteArray}(h:OM w Z B eR eT g n R L X)(k:∀i j,i<n->j<L i->X i j=c i j):OM w Z B eR eT g n R L c :=
 ⟨h.top,h.base,h.zg,h.zlt,λi hi=>(h.row i hi).congr λj d=>k i j hi d,h.far,h.apart⟩
theorem congrL{L':Nat->Nat}(h:OM w Z B eR eT g n R L X)(c:∀i,i<n->L i=L' i):OM w Z B eR eT g n R L' X :=
 ⟨h.top,h.base,h.zg,h.zlt,λi hi=>by rw[<-c i hi];exact h.row i hi,h.far,h.apart⟩
theorem made(w:World)(Z:Nat->Prop)(d:∀b,Z b->b<w.heap.size)(B:Nat)(k:B<=w.heap.size)(g c:TypeId)(n:Nat)(X:Nat->Nat->ByteArray):
  OM (w.alloc (.cells (madeCells #[.slice none 0 0] n) c)) Z B g c w.heap.size n (λ_=>.slice none 0 0) (λ_=>0) X :=
 ⟨World.rowIs_made w _ n c,k,λh=>Nat.lt_irrefl _ (d _ h),λb h=>by have:=d b h;simp;omega,λi _=>OwS.nil _ _ _ _,λi _ b h=>by simp[Value.ownBlock]at h,λi j _ _ _ b h=>by simp[Value.ownBlock]at h⟩
theorem fence(h:OM w Z B eR eT g n R L X)(o:Obj):OM (w.alloc o) (λb=>b=w.heap.size) B eR eT g n R L X:=by
 have c:=h.kept (World.grownBy_alloc w o none) (by simp);exact⟨c.top,c.base,λe=>by have:=h.top.lt;omega,λb e=>by subst e;simp,c.row,λi hi b hb=>⟨(h.far i hi b hb).1,λe=>by have:=(World.ownsRow.lt (h.row i hi) b hb).2;omega⟩,c.apart⟩
theorem cell(h:OM w Z B eR eT g n R L X){i:Nat}(hi:i<n):w.cell? (Ad g i)=some (R i):=h.top.cell hi
theorem frozen(h:OM w Z B eR eT g n R L X)(i:Nat):w.frozen? (Ad g i)=false:=h.top.frozen i
theorem lt(h:OM w Z B eR eT g n R L X):g<w.heap.size:=h.top.lt
theorem rowLt(h:OM w Z B eR eT g n R L X)(hi:i<n):∀k,(R i).ownBlock=some k->B<=k/\k<w.heap.size:=World.ownsRow.lt<|h.row i hi
theorem form(h:OM w Z B eR eT g n R L X)(hi:i<n)(C:0<L i):∃b cap,R i=.slice (some (Ad b 0)) (L i) cap/\B<=b/\b<w.heap.size/\b≠g/\¬Z b/\L i<=cap/\cap<=maxLen/\
  (∀j,w.frozen? (Ad b j)=false)/\∀j,j<L i->w.cell? (Ad b j)=some (.string (X i j)):=by
 have c:=h.row i hi
 rcases c.2 with⟨_,s⟩|⟨b,cap,l,d,hb,k,m,o,u,z⟩
 ·omega
 have hf:=h.far i hi b (by rw[d];rfl);refine⟨b,cap,d,hb,(Array.getElem?_eq_some_iff.1 k).1,hf.1,hf.2,m,o,λj=>by simp[World.frozen?,k],λj p=>?_⟩;rw[d]at c;have:=World.ownsRow.cells c (g:=b) rfl j _ (Fy (L i) (X i) j p);rw[Addr.add_lit,Nat.zero_add]at this;exact this
theorem appended(h:OM w Z B eR eT g n R L X)(hi:i<n){wa w1:World}(D:w.grownBy wa none){o m:Nat}
  (u:w1.ownsRow B eR 1 (.slice (some (Ad o 0)) m cap) m (strs m Y)) (E:wa.grownBy w1 (R i).ownBlock) (s:(R i).ownBlock=some o\/o=wa.heap.size) :
  OM (w1.setCell (Ad g i) (.slice (some (Ad o 0)) m cap)) Z B eR eT g n (λk=>if k=i then .slice (some (Ad o 0)) m cap else R k) (λk=>if k=i then m else L k) (λk=>if k=i then Y else X k):=by
 have K:=D.size;have F:=h.lt;have p:o≠g/\¬Z o:=by
  rcases s with e|e
  ·exact h.far i hi o e
  exact⟨by omega,λc=>by have:=h.zlt _ c;omega⟩
 have z:w1.rowIs g eT n R:=(h.top.of_block (D.block g F (by simp))).of_block (E.block g (by omega) (λe=>(h.far i hi g e.symm).1 rfl));refine⟨(z.set i _),h.base,h.zg,λb hb=>?_,λk d=>?_,λk d b hb=>?_,λk l d A j b hb=>?_⟩
 ·rw[nblk_setCell];have:=h.zlt b hb;have:=E.size;omega
 ·by_cases e:k=i
  ·subst e;simp only[if_pos];exact World.ownsRow.kept u ⟨rfl,rfl,rfl,by simp,λq _ G=>blk_setCell_other _ _ _ _ (by show q≠g;intro e;exact G (by rw[e]))⟩ (row:=some g) (.inr (by simp[Value.ownBlock];exact p.1))
  simp only[ifn e];have I:OwS wa B eR (R k) (L k) (X k):=(h.row k d).kept D (by simp);have J:w1.ownsRow B eR 1 (R k) (L k) (strs (L k) (X k)):=World.ownsRow.kept I E (by
   cases hb:(R k).ownBlock with
   |none=>exact .inl rfl
   |some b=>exact .inr (λc=>h.apart k i d hi e b hb c.symm))
  exact World.ownsRow.kept J ⟨rfl,rfl,rfl,by simp,λq _ G=>blk_setCell_other _ _ _ _ (by show q≠g;intro e;exact G (by rw[e]))⟩ (row:=some g) (by
   cases hb:(R k).ownBlock with
   |none=>exact .inl rfl
   |some b=>exact .inr (λc=>(h.far k d b hb).1 (Option.some.inj c)))
 ·by_cases e:k=i
  ·subst e;simp only[if_pos]at hb;simp[Value.ownBlock]at hb;subst hb;exact p
  simp only[ifn e]at hb;exact h.far k d b hb
 by_cases e:k=i
 ·subst e;simp only[if_pos]at hb;simp only[ifn (λe:l=k=>j e.symm)];simp[Value.ownBlock]at hb;subst hb
  rcases s with c|c
  ·exact h.apart k l d A j _ c
  intro C;have:=(h.rowLt A _ C).2;omega
 simp only[ifn e]at hb;by_cases c:l=i
 ·subst c;simp only[if_pos];simp[Value.ownBlock];intro C;subst C
  rcases s with H|H
  ·exact h.apart k l d A j _ hb H
  have:=(h.rowLt d _ hb).2;omega
 simp only[ifn c];exact h.apart k l d A j b hb
theorem stored(h:OM w Z B eR eT g n R L X){j b:Nat}(hi:i<n)(p:j<L i)(c:R i=.slice (some (Ad b 0)) (L i) cap)(x:ByteArray):
  OM (w.setCell (Ad b j) (.string x)) Z B eR eT g n R L (λk l=>if k=i/\l=j then x else X k l):=by
 have d:=(h.far i hi b (by rw[c];rfl)).1;refine⟨h.top.setOther (by show g≠b;exact λe=>d e.symm) _,h.base,h.zg,λb hb=>by rw[nblk_setCell];exact h.zlt b hb,λk m=>?_,h.far,h.apart⟩;by_cases e:k=i
 ·subst e;have:=h.row k m;rw[c]at this ⊢;exact(this.set p x).congr λl _=>by simp
 refine OwS.congr (World.ownsRow.kept (h.row k m) ⟨rfl,rfl,rfl,by simp,λq _ s=>blk_setCell_other _ _ _ _ (by show q≠b;intro e;exact s (by rw[e]))⟩ (row:=some b) (by
  cases hb:(R k).ownBlock with
  |none=>exact .inl rfl
  |some b'=>exact .inr (λo=>h.apart k i m hi e b' hb (by rw[c,Value.ownBlock];exact o.symm)))) λl _=>by simp[e]
theorem other(h:OM w Z B eR eT g n R L X){p:Addr}(l:Z p.block\/p.block<B)(v:Value):OM (w.setCell p v) Z B eR eT g n R L X:=by
 have d:∀b,(b=g\/∃i,i<n/\(R i).ownBlock=some b)->b≠p.block:=by
  intro b hb e;subst e
  rcases hb with rfl|⟨i,hi,e⟩
  ·rcases l with c|c
   ·exact h.zg c
   have:=h.base;omega
  rcases l with c|c
  ·exact(h.far i hi _ e).2 c
  have:=(h.rowLt hi _ e).1;omega
 refine⟨h.top.setOther (d g (.inl rfl)) _,h.base,h.zg,λb hb=>by rw[nblk_setCell];exact h.zlt b hb,λk j=>?_,h.far,h.apart⟩;exact World.ownsRow.kept (h.row k j) ⟨rfl,rfl,rfl,by simp,λq _ m=>blk_setCell_other _ _ _ _ (by intro e;exact m (by rw[e]))⟩ (row:=some p.block) (by
  cases hb:(R k).ownBlock with
  |none=>exact .inl rfl
  |some b=>exact .inr (λe=>by cases e;exact d _ (.inr ⟨k,j,hb⟩) rfl))
theorem mt(h:OM w Z B eR eT g n R L X)(hn:n<=maxLen)(p:∀k,z=some k->k<B\/Z k):Mt z w (.slice (some (Ad g 0)) n n) n L X:=by
 refine⟨R,.inr ⟨g,0,n,rfl,⟨h.lt,λe=>?_⟩,nlr,hn,λi hi=>by rw[Nat.zero_add];exact h.cell hi⟩,λi hi=>?_⟩
 ·rcases p g e.symm with d|d
  ·have:=h.base;omega
  exact h.zg d
 have m:=h.row i hi
 rcases m.2 with⟨c,u⟩|⟨b,l,s,c,hb,C,d,A,E,F⟩
 ·exact .inl ⟨u,none,0,c,Nat.zero_le _⟩
 refine .inr ⟨b,0,l,c,⟨(Array.getElem?_eq_some_iff.1 C).1,λe=>?_⟩,d,A,λj D=>?_⟩
 ·rcases p b e.symm with o|o
  ·omega
  exact(h.far i hi b (by rw[c];rfl)).2 o
 rw[c]at m;have:=World.ownsRow.cells m (g:=b) rfl j _ (Fy (L i) (X i) j D);rw[Addr.add_lit]at this;exact this
end OM
end
section
open Go.RowKit
variable{k:KK}{B e:Nat}{a b s:ByteArray}{w:World}{r:ByteArray × Nat}
def Is(k:KK)(e:Nat)(s:ByteArray)(x:RK k):Prop:=s.size<=100000/\(e=0->s=vtxt x.1/\fitV x.1)
def Er(F:Prop)(e:Nat):Prop:=(e=0\/e=2)/\(F->e=0)
def kpE(e:Nat)(r:ByteArray × Nat):Nat:=if r.2≠0/\e=0 then r.2 else e
theorem JR(h:kpE e r=0):e=0/\r.2=0:=by
 unfold kpE at h;split at h
 ·rename_i c;exact absurd h c.1
 rename_i c;subst h;exact⟨rfl,by simpa using c⟩
theorem Is.mono{e':Nat}{x:RK k}(h:Is k e s x)(d:e'=0->e=0):Is k e' s x:=⟨h.1,λc=>h.2 (d c)⟩
theorem Is.vprs{x:RK k}(h:Is k 0 s x):vprs k.1 s=some x.1:=by
 obtain⟨c,d⟩:=h.2 rfl;rw[c];exact Rs d x.2
theorem Hr(v:V):(fitV v/\limV v=(vtxt v,0))\/(¬fitV v/\(limV v).2=2):=by
 by_cases h:fitV v
 ·exact .inl ⟨h,Fh h⟩
 right;refine⟨h,?_⟩
 cases v with
 |inf=>exact absurd trivial h
 |low=>exact absurd trivial h
 |fin q=>show (limR q).2=2;unfold limR;rw[ifn (show ¬fitQ q from h)]
theorem Fq{F:Prop}{z:RK k}{u:ByteArray}(g:e=0->r=limV z.1)(j:Er F e)(o:F->fitV z.1)(A:u.size<=100000)(p:kpE e r=0->u=r.1):
  Is k (kpE e r) u z/\Er F (kpE e r)/\(kpE e r=0->e=0):=by
 refine⟨⟨A,λd=>?_⟩,⟨?_,λhf=>?_⟩,λd=>(JR d).1⟩
 ·obtain⟨i,l⟩:=JR d;have m:=p d
  rcases Hr z.1 with⟨hf,c⟩|⟨_,c⟩
  ·rw[m,g i,c];exact⟨rfl,hf⟩
  rw[g i]at l;omega
 ·unfold kpE;split
  ·rename_i h
   rcases Hr z.1 with⟨_,c⟩|⟨_,c⟩
   ·rw[g h.2,c]at h;exact absurd rfl h.1
   rw[g h.2];exact .inr c
  exact j.1
 have d:=j.2 hf
 rcases Hr z.1 with⟨_,c⟩|⟨s,_⟩
 ·unfold kpE;rw[g d,c,ifn (by simp)];exact d
 exact absurd (o hf) s
theorem OX{x y:RK k}(d:Is k e a x)(hb:Is k e b y)(c:e=0):Am k.1 a b=limV (x+y).1:=by
 subst c;unfold Am;rw[d.vprs,hb.vprs];rfl
theorem QO{x y:RK k}(d:Is k e a x)(hb:Is k e b y)(c:e=0):Al k.1 a b=limV (x*y).1:=by
 subst c;unfold Al;rw[d.vprs,hb.vprs];rfl
theorem Qs{x:RK k}(d:Is k e a x)(c:e=0):AL k.1 a=limV (CSR.star x).1:=by
 subst c;unfold AL;rw[d.vprs];rfl
theorem z1a(k:KK):fitV (CSR.zero:RK k).1:=(ZF k.1 (k:=1) (by omega)).fit (by omega)
theorem WX(k:KK):fitV (CSR.one:RK k).1:=(ZE k.1 (k:=1) (by omega)).fit (by omega)
theorem Is.zero(k:KK)(e:Nat):Is k e (Af k.1) CSR.zero:=⟨GM k.1,λ_=>⟨z0z k.2,z1a k⟩⟩
theorem Is.one(k:KK)(e:Nat):Is k e (oneF k.1) CSR.one:=⟨WW k.1,λ_=>⟨WV k.2,WX k⟩⟩
theorem Is.eq_zero{x:RK k}(h:Is k 0 s x):s=Af k.1↔x=CSR.zero:=by
 obtain⟨c,g⟩:=h.2 rfl;obtain⟨d,i⟩:=(Is.zero k 0).2 rfl
 constructor
 ·intro e;rw[c,d]at e;exact RK.ext<|LC g i e
 intro e;rw[c,d,e]
theorem Is.of_valid(h:Ah k.1 s=true)(g:s.size<=100000)(e:Nat):∃x:RK k,Is k e s x:=by
 obtain⟨v,i⟩:=Rm h;obtain⟨c,d⟩:=Dz.1 i;exact⟨⟨v,d⟩,g,λ_=>Gs c⟩
def TabB(B:Nat)(w:World):Prop:=∀w',Below B w w'->Tab w'
theorem TabB.tab(h:TabB B w):Tab w:=h w blr
theorem TabB.of(h:Tab w):TabB w.heap.size w:=λ_ hb=>h.below hb nlr
theorem TabB.kept{d:World}{z:Option Nat}(h:TabB B w)(c:w.grownBy d z)(g:∀k,z=some k->B<=k)(j:B<=w.heap.size):TabB B d:=λi hb =>
 h i (Below.trans ⟨c.os,c.tape,c.output,c.size,λq l=>c.block q (by omega) (λe=>by have:=g q e.symm;omega)⟩ hb)
def wval(k:KK)(s:ByteArray):RK k:=match h:vprs k.1 s with
 |some v=>⟨v,(Dz.1 h).2⟩
 |none=>CSR.zero
theorem Is.val{x:RK k}(h:Is k 0 s x):wval k s=x:=by
 have d:=h.vprs;unfold wval
 split
 ·rename_i v c;rw[d]at c;cases c;rfl
 rename_i c;rw[d]at c;cases c
theorem z0v{k:Int}(h:Ah k s=true):s.size<=802:=by
 obtain⟨v,g⟩:=Rm h;obtain⟨c,d⟩:=Gs (Dz.1 g).1;have:=Hs v;rw[Fh d]at this;rw[c];exact this
theorem RD(h:Ah k.1 s=true):Is k 0 s (wval k s):=by
 obtain⟨x,c⟩:=Is.of_valid h (by have:=z0v h;omega) 0;rw[c.val];exact c
theorem z0y{k:Int}(h:Aw k s=true):Ah k s=true:=by
 obtain⟨v,c,d⟩:=z0f h;unfold Ah;rw[Dz.2 ⟨c,z1q d⟩];rfl
end
end Go.Proofs.YteappjogmnogcaaGreatDoor
