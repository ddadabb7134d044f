/- Parts of a proof: EdL EdM WgF WgO WgR WgV EdV Gen OwM. -/
import Derived.Test.YtjekapjbigfkbaaGreatDoorT08
import Derived.Deep.QuietTactic
import Derived.BigQuiet
import Derived.Laws.Cover3
namespace Go.Proofs.YtjekapjbigfkbaaGreatDoor
set_option maxRecDepth 100000
set_option linter.unusedSimpArgs false
set_option linter.unusedVariables false
set_option linter.unusedSectionVars false
set_option maxHeartbeats 16000000
open Go Tryz
section
structure ED where
 nf:Nat
 f:Nat->Int
 nt:Nat
 t:Nat->Int
 w:ByteArray
structure EM where
 n:Nat
 e:Nat->ED
 most:Int
def y0g (n:Nat) (x:Nat->Int) (sig:Int):Prop:=∀ i,i<n->1<=x i/\x i<=sig
def y6a (s:ByteArray):Prop:=∃ q,prs s=some q/\0<=q
structure EdOk (d:ED):Prop where
 f6:d.nf<=6
 t6:d.nt<=6
 pos:0<d.nf+d.nt
 fw:y0g d.nf d.f 500
 tw:y0g d.nt d.t 500
 wt:y6a d.w
structure VE (M:EM):Prop where
 n4:M.n<=400
 m0:0<=M.most
 m6:M.most<=6
 ok:∀ i,i<M.n->EdOk (M.e i)
def qv (s:ByteArray):Rat:=(prs s).getD 0
theorem EdOk.q0 {d:ED} (h:EdOk d):0<=qv d.w:=by obtain⟨q,g,c⟩:=h.wt;unfold qv;rw[g];exact c
theorem EdOk.q {d:ED} (h:EdOk d):prs d.w=some (qv d.w):=by obtain⟨q,c,_⟩:=h.wt;unfold qv;rw[c];rfl
structure EP where
 M:EM
 a:Nat
 x:Nat->Int
 b:Nat
 y:Nat->Int
abbrev Pl:=Nat × Nat × Nat
def bgs (a:Nat) (x:Nat->Int) (i n:Nat) (u:Nat->Int):Prop:=i+n<=a/\∀ k,k<n->x (i+k)=u k
inductive Sp (P:EP):Pl->Option Nat->Pl->Rat->Prop
 | copy {k i j:Nat}:i<P.a->j<P.b->P.x i=P.y j->Sp P (k,i,j) none (k,i+1,j+1) 0
 | edit {k i j e:Nat}:e<P.M.n->(k:Int)<P.M.most->bgs P.a P.x i (P.M.e e).nf (P.M.e e).f->bgs P.b P.y j (P.M.e e).nt (P.M.e e).t->Sp P (k,i,j) (some e) (k+1,i+(P.M.e e).nf,j+(P.M.e e).nt) (qv (P.M.e e).w)
inductive Pth (P:EP):Pl->Rat->Prop
 | start:Pth P (0,0,0) 0
 | step {p:Pl} {c:Rat} {l:Option Nat} {q:Pl} {d:Rat}:Pth P p c->Sp P p l q d->Pth P q (c+d)
theorem Sp.fn {P:EP} {p q c:Pl} {l:Option Nat} {d g:Rat} (h:Sp P p l q d) (i:Sp P p l c g):q=c/\d=g:=by
 cases h<;>cases i<;>exact⟨rfl,rfl⟩
def InR (P:EP) (p:Pl):Prop:=(p.1:Int)<=P.M.most/\p.2.1<=P.a/\p.2.2<=P.b
theorem Sp.inR {P:EP} {p q:Pl} {l:Option Nat} {d:Rat} (h:Sp P p l q d) (i:InR P p):InR P q:=by
 obtain⟨g,k,j⟩:=i;cases h with
 | copy a b _=>exact⟨g,by show _+1<=P.a;omega,by show _+1<=P.b;omega⟩
 | edit a b c d=>exact⟨by show ((_+1:Nat):Int)<=_;omega,c.1,d.1⟩
theorem Pth.inR {P:EP} (d:0<=P.M.most) {p:Pl} {c:Rat} (h:Pth P p c):InR P p:=by
 induction h with
 | start=>exact⟨d,Nat.zero_le _,Nat.zero_le _⟩
 | step _ hs ih=>exact hs.inR ih
abbrev TbE:=Pl->Option Rat
def relx (T:TbE) (q:Pl) (v:Rat):TbE:=fun r=>if r=q then (match T q with|none=>some v|some u=>if v<u then some v else some u) else T r
structure Dp (P:EP) (Done:Pl->Option Nat->Prop) (T:TbE):Prop where
 sound:∀ q c,T q=some c->Pth P q c
 zero:∃ c,T (0,0,0)=some c/\c<=0
 done:∀ p l c q d,Done p l->T p=some c->Sp P p l q d->∃ u,T q=some u/\u<=c+d
theorem Dp.start (P:EP):Dp P (fun _ _=>False) (fun q=>if q=(0,0,0) then some 0 else none):=by
 refine⟨fun q c h=>?_,⟨0,by simp,Rat.le_refl⟩,fun _ _ _ _ _ h=>h.elim⟩;by_cases e:q=(0,0,0)
 ·subst e;simp at h;subst h;exact .start
 simp[e] at h
theorem v5d {T:TbE} {q:Pl} {v:Rat} {r:Pl} {u:Rat} (h:T r=some u):∃ u',relx T q v r=some u'/\u'<=u:=by
 unfold relx;by_cases e:r=q
 ·subst e;rw[if_pos rfl,h];by_cases e2:v<u
  ·exact⟨v,by simp[e2],Rat.le_of_lt e2⟩
  exact⟨u,by simp[e2],Rat.le_refl⟩
 exact⟨u,by rw[if_neg e];exact h,Rat.le_refl⟩
theorem v8k (T:TbE) (q:Pl) (v:Rat):∃ u',relx T q v q=some u'/\u'<=v:=by
 unfold relx;rw[if_pos rfl];cases h:T q with
 | none=>exact⟨v,rfl,Rat.le_refl⟩
 | some u =>
  by_cases e2:v<u
  ·exact⟨v,by simp[e2],Rat.le_refl⟩
  exact⟨u,by simp[e2],Rat.not_lt.1 e2⟩
theorem y9d {T:TbE} {q r:Pl} {v:Rat} (h:r≠q):relx T q v r=T r:=if_neg h
theorem Dp.fits {P:EP} {i g:Pl->Option Nat->Prop} {T:TbE} (h:Dp P i T) (o:∀ p l c q d,g p l->T p=some c->Sp P p l q d->i p l):Dp P g T :=
 ⟨h.sound,h.zero,fun p l c q d r j k=>h.done p l c q d (o p l c q d r j k) j k⟩
theorem Dp.step {P:EP} {j g:Pl->Option Nat->Prop} {T:TbE} {p q:Pl} {l:Option Nat} {c d:Rat} (h:Dp P j T) (B:T p=some c) (C:Sp P p l q d) (H:∀ l',¬ g q l')
  (F:∀ p' l',g p' l'->j p' l'\/(p'=p/\l'=l)):Dp P g (relx T q (c+d)):=by
 refine⟨fun r u i=>?_,?_,fun p' l' N G K z k s=>?_⟩
 ·by_cases e:r=q
  ·subst e;unfold relx at i;rw[if_pos rfl] at i;cases D:T r with
   | none=>rw[D] at i;simp at i;subst i;exact .step (h.sound p c B) C
   | some o =>
    rw[D] at i;by_cases e2:c+d<o
    ·simp[e2] at i;subst i;exact .step (h.sound p c B) C
    simp[e2] at i;subst i;exact h.sound _ _ D
  rw[y9d e] at i;exact h.sound r u i
 ·obtain⟨u,z,k⟩:=h.zero;obtain⟨o,s,A⟩:=v5d (q:=q) (v:=c+d) z;exact⟨o,s,Rat.le_trans A k⟩
 have E:p'≠q:=fun e=>H l' (e ▸ z);rw[y9d E] at k
 rcases F p' l' z with A|⟨rfl,rfl⟩
 ·obtain⟨u,O,J⟩:=h.done p' l' N G K A k s;obtain⟨o,L,I⟩:=v5d (q:=q) (v:=c+d) O;exact⟨o,L,Rat.le_trans I J⟩
 obtain⟨rfl,rfl⟩:=C.fn s;rw[B] at k;cases k;exact v8k T q (c+d)
theorem Dp.least {P:EP} {d:Pl->Option Nat->Prop} {T:TbE} (h:Dp P d T) (v:0<=P.M.most) (g:∀ p l,InR P p->d p l) {q:Pl} {c:Rat} (k:Pth P q c):∃ u,T q=some u/\u<=c:=by
 induction k with
 | start=>exact h.zero
 | step h1 h2 ih =>
  obtain⟨u,o,i⟩:=ih;obtain⟨j,r,s⟩:=h.done _ _ _ _ _ (g _ _ (h1.inR v)) o h2;exact⟨j,r,Rat.le_trans s (Rat.add_le_add_right.2 i)⟩
def Dn (k i j:Nat) (L:Option Nat->Prop) (p:Pl) (l:Option Nat):Prop:=p.1<k\/(p.1=k/\(p.2.1<i\/(p.2.1=i/\(p.2.2<j\/(p.2.2=j/\L l)))))
def Lb (m:Nat) (l:Option Nat):Prop:=l=none\/∃ e,e<m/\l=some e
theorem Sp.later {P:EP} {k i j:Nat} {q:Pl} {l:Option Nat} {d:Rat} (h:Sp P (k,i,j) l q d) (L:Option Nat->Prop):∀ l',¬ Dn k i j L q l':=by
 intro l' g;cases h with
 | copy=>rcases g with c|⟨_,c|⟨c,_⟩⟩<;>simp at c<;>omega
 | edit=>rcases g with c|⟨c,_⟩<;>simp at c<;>omega
def IsCost (P:EP) (o:Option Rat):Prop:=(o=none/\∀ k c,¬ Pth P (k,P.a,P.b) c)\/∃ c k,o=some c/\Pth P (k,P.a,P.b) c/\∀ k' c',Pth P (k',P.a,P.b) c'->c<=c'
theorem IsCost.only {P:EP} {o o':Option Rat} (h:IsCost P o) (l:IsCost P o'):o=o':=by
 rcases h with ⟨rfl,d⟩|⟨c,k,rfl,d,j⟩<;>rcases l with ⟨rfl,g⟩|⟨p,r,rfl,g,i⟩
 ·rfl
 ·exact absurd g (d _ _)
 ·exact absurd d (g _ _)
 rw[Rat.le_antisymm (j _ _ g) (i _ _ d)]
def lstO (T:TbE) (a b:Nat):Nat->Option Rat
 | 0=>none
 | m+1=>match lstO T a b m,T (m,a,b) with
  | o,none=>o
  | none,some v=>some v
  | some u,some v=>if v<u then some v else some u
theorem v0t {T:TbE} {a b:Nat}:∀ {m k:Nat} {v:Rat},k<m->T (k,a,b)=some v->∃ u,lstO T a b m=some u/\u<=v
 | 0,_,_,h,_=>by omega
 | m+1,k,v,h,hv=>by
  by_cases e:k=m
  ·subst e;unfold lstO;rw[hv];cases h1:lstO T a b k with
   | none=>exact⟨v,rfl,Rat.le_refl⟩
   | some u =>
    by_cases e2:v<u
    ·exact⟨v,by simp[e2],Rat.le_refl⟩
    exact⟨u,by simp[e2],Rat.not_lt.1 e2⟩
  obtain⟨u,h1,h2⟩:=v0t (T:=T) (a:=a) (b:=b) (m:=m) (by omega) hv;unfold lstO;rw[h1];cases h3:T (m,a,b) with
  | none=>exact⟨u,rfl,h2⟩
  | some v' =>
   by_cases e2:v' < u
   ·exact⟨v',by simp[e2],Rat.le_trans (Rat.le_of_lt e2) h2⟩
   exact⟨u,by simp[e2],h2⟩
theorem x4w {T:TbE} {a b:Nat}:∀ {m:Nat} {u:Rat},lstO T a b m=some u->∃ k,k<m/\T (k,a,b)=some u
 | 0,_,h=>by simp[lstO] at h
 | m+1,u,h=>by
  unfold lstO at h;cases h1:lstO T a b m with
  | none =>
   cases h2:T (m,a,b) with
   | none=>rw[h1,h2] at h;simp at h
   | some v=>rw[h1,h2] at h;simp at h;subst h;exact⟨m,by omega,h2⟩
  | some u' =>
   have ih:=x4w h1;cases h2:T (m,a,b) with
   | none=>rw[h1,h2] at h;simp at h;subst h;obtain⟨k,h3,h4⟩:=ih;exact⟨k,by omega,h4⟩
   | some v =>
    rw[h1,h2] at h;by_cases e:v<u'
    ·simp[e] at h;subst h;exact⟨m,by omega,h2⟩
    simp[e] at h;subst h;obtain⟨k,h3,h4⟩:=ih;exact⟨k,by omega,h4⟩
theorem Dp.cost {P:EP} {d:Pl->Option Nat->Prop} {T:TbE} (h:Dp P d T) (A:0<=P.M.most) (B:∀ p l,InR P p->d p l):IsCost P (lstO T P.a P.b (P.M.most.toNat+1)):=by
 have v:∀ {k:Nat} {c:Rat},Pth P (k,P.a,P.b) c->∃ u,lstO T P.a P.b (P.M.most.toNat+1)=some u/\u<=c:=fun {k c} g=>by
  obtain⟨u,j,s⟩:=h.least A B g;have i:=(g.inR A).1;obtain⟨z,o,C⟩:=v0t (m:=P.M.most.toNat+1) (by show k<_;have:(k:Int)<=P.M.most:=i;omega) j;exact⟨z,o,Rat.le_trans C s⟩
 cases r:lstO T P.a P.b (P.M.most.toNat+1) with
 | none=>exact .inl ⟨rfl,fun k c g=>by obtain⟨u,j,_⟩:=v g;rw[r] at j;cases j⟩
 | some u =>
  obtain⟨k,_,s⟩:=x4w r;exact .inr ⟨u,k,rfl,h.sound _ _ s,fun E D g=>by obtain⟨z,i,o⟩:=v g;rw[r] at i;cases i;exact o⟩
def y0f:Option Rat->ByteArray
 | none=>infS
 | some q=>txt q
def TooL (P:EP):Prop:=∃ p c l q d,Pth P p c/\Sp P p l q d/\¬ fitQ (c+d)
end
section
open Go.RowKit Go.Deep
def Si (z:Option Nat) (w:World) (v:Value) (n:Nat) (x:Nat->Int):Prop:=Rd z w v n fun i=>.int .i64 (x i)
def EdS (z:Option Nat) (w:World) (v:Value) (M:EM):Prop :=
 (M.n=0/\∃ a cap,v=.slice a 0 cap/\cap<=maxLen)\/∃ b off cap,∃ F T:Nat->Value,v=.slice (some ⟨b,off,none⟩) M.n cap/\(b<w.heap.size/\some b≠z)/\M.n<=cap/\cap<=maxLen/\∀ i,i<M.n ->
  w.cell? ⟨b,off+i*3,none⟩=some (F i)/\w.cell? ⟨b,off+i*3+1,none⟩=some (T i)/\w.cell? ⟨b,off+i*3+2,none⟩=some (.string (M.e i).w)/\Si z w (F i) (M.e i).nf (M.e i).f/\Si z w (T i) (M.e i).nt (M.e i).t
theorem EdS.kept {z:Option Nat} {w k:World} {v:Value} {M:EM} (h:EdS z w v M) (c:w.grownBy k z):EdS z k v M:=by
 rcases h with h|⟨b,g,j,F,T,r,d,p,o,l⟩
 ·exact .inl h
 refine .inr ⟨b,g,j,F,T,r,⟨Nat.lt_of_lt_of_le d.1 c.size,d.2⟩,p,o,fun i hi=>?_⟩;obtain⟨c1,c2,c3,c4,c5⟩:=l i hi;exact⟨c.cell c1 d.2,c.cell c2 d.2,c.cell c3 d.2,c4.kept c,c5.kept c⟩
theorem EdS.open {z:Option Nat} {w:World} {v:Value} {M:EM} (h:EdS z w v M):∃ a cap b off,∃ (A A':Nat->Option Addr) (C C':Nat->Nat),v=.slice a M.n cap/\(0<M.n->a=some ⟨b,off,none⟩)/\M.n<=cap/\cap<=maxLen/\(0<M.n->b<w.heap.size/\some b≠z) /\
  ∀ i,i<M.n->w.cell? ⟨b,off+i*3,none⟩=some (.slice (A i) (M.e i).nf (C i))/\w.cell? ⟨b,off+i*3+1,none⟩=some (.slice (A' i) (M.e i).nt (C' i))/\w.cell? ⟨b,off+i*3+2,none⟩=some (.string (M.e i).w) /\
   Si z w (.slice (A i) (M.e i).nf (C i)) (M.e i).nf (M.e i).f/\Si z w (.slice (A' i) (M.e i).nt (C' i)) (M.e i).nt (M.e i).t:=by
 rcases h with ⟨p,a,cap,rfl,u⟩|⟨b,off,cap,F,T,rfl,B,o,k,j⟩
 ·exact⟨a,cap,0,0,fun _=>none,fun _=>none,fun _=>0,fun _=>0,by rw[p],by omega,by omega,u,by omega,fun i hi=>by omega⟩
 classical
 have c:∀ i,∃ t:(Option Addr × Nat) × (Option Addr × Nat),i<M.n->F i=.slice t.1.1 (M.e i).nf t.1.2/\T i=.slice t.2.1 (M.e i).nt t.2.2:=fun i=>by
  by_cases hi:i<M.n
  ·obtain⟨_,_,_,c4,c5⟩:=j i hi;obtain⟨s,g,l⟩:=c4.shape;obtain⟨r,d,e2⟩:=c5.shape;exact⟨((s,g),(r,d)),fun _=>⟨l,e2⟩⟩
  exact⟨((none,0),(none,0)),fun h=>absurd h hi⟩
 refine⟨_,cap,b,off,fun i=>(Classical.choose (c i)).1.1,fun i=>(Classical.choose (c i)).2.1,fun i=>(Classical.choose (c i)).1.2,fun i=>(Classical.choose (c i)).2.2,rfl,fun _=>rfl,o,k,fun _=>B,fun i hi=>?_⟩;obtain⟨g,d⟩:=Classical.choose_spec (c i) hi;obtain⟨c1,c2,c3,c4,c5⟩:=j i hi;rw[g] at c1 c4;rw[d] at c2 c5;exact⟨c1,c2,c3,c4,c5⟩
def Em (z:Option Nat) (w:World) (v:Value) (M:EM):Prop:=∃ sv,v=.agg #[sv,.int .i64 M.most]/\EdS z w sv M
structure ESz (M:EM):Prop where
 n:(M.n:Int)<=9223372036854775807
 f:∀ i,((M.e i).nf:Int)<=4611686018427387903
 t:∀ i,((M.e i).nt:Int)<=4611686018427387903
 w:∀ i,((M.e i).w.size:Int)<=9223372036854775807
 m0:-9223372036854775808<=M.most
 m1:M.most<=9223372036854775807
def TstF (nf:FuncId) (cap:Array Value) (p:Int->Bool) (w:World):Prop :=
 (∀ args w,(callFunc nf args).run prog w=.ok (.enter nf args) w)/\∀ s:Int,Calls prog nf (#[.int .i64 s]++cap) w (fun r w'=>r=.returned (.bool (p s))/\w'=w)
def anyI (n:Nat) (x:Nat->Int) (p:Int->Bool):Bool:=(List.range n).any fun i=>p (x i)
theorem y3z {n:Nat} {x:Nat->Int} {p:Int->Bool}:anyI n x p=true↔∃ i,i<n/\p (x i)=true:=by simp[anyI]
theorem v7f {n nf:Nat} {h:Array Value} {v:Value} {x:Nat->Int} {p:Int->Bool} (w:World) (C:Si none w v n x) (hn:(n:Int)<=9223372036854775807) (S:TstF nf h p w) :
  Calls prog 129 #[v,.func (.func nf) #[] h] w (fun r w'=>w'=w/\∃ k:Int,r=.returned (.int .i64 k)/\(decide (0<=k)=anyI n x p)):=by
 obtain⟨a,L,b,O,rfl,F,X,K,hb,d⟩:=C.open;unfold maxLen at K;obtain⟨Q,g⟩:=S;have W:=qh F;clear F;have HB:=qh hb;clear hb;have R:=qh d;clear d C;have G:=qh g;clear g
 go_enter func129,ntmps129
 go_wp2_with fail
 go_loop [8] (fun i=>∃ q:Nat,q<=n/\i=.int .i64 (q:Int)/\∀ j,j<q->p (x j)=false) (fun i=>n-(intOf i).toNat)
 case atStart=>exact⟨0,Nat.zero_le _,rfl,fun j U=>by omega⟩
 obtain⟨q,Y,rfl,l⟩:=hrel;have o:=qh l;clear l;by_cases s:q<n
 ·have N:(q:Int)<(n:Int):=by omega
  have E:(0:Int)<=(q:Int):=by omega
  obtain rfl:=W.out (by omega);have c0:=R.out q s;have c:=G.out (x q);have T:=qh c;clear c
  go_wp2_with fail
  refine T.out.mono ?_;rintro r Z ⟨rfl,rfl⟩;cases z:p (x q)
  ·have B:=qh z;clear z
   go_wp2_with fail
   go_round
   case rel=>exact⟨q+1,by omega,by go_num,fun j U=>by
    by_cases e:j=q
    ·subst e;exact B.out
    exact o.out j (by omega)⟩
   simp[intOf];omega
  have B:=qh z;clear z
  go_wp2_with fail
  go_ret;refine⟨rfl,_,rfl,?_⟩;have A:anyI n x p=true:=y3z.2 ⟨q,s,B.out⟩;rw[A];simp
 have u:q=n:=by omega
 have I:¬ ((q:Int)<(n:Int)):=by omega
 have J:=qh u;clear u
 go_wp2_with fail
 go_ret;refine⟨rfl,_,rfl,?_⟩;have A:anyI n x p=false:=by
  cases P:anyI n x p
  ·rfl
  obtain⟨i,H,D⟩:=y3z.1 P;rw[o.out i (by rw[J.out];exact H)] at D;cases D
 rw[A];rfl
theorem y3t {n nf:Nat} {c:Array Value} {v:Value} {x:Nat->Int} {p:Int->Bool} (w:World) (g:Si none w v n x) (hn:(n:Int)<=9223372036854775807) (h:TstF nf c p w) :
  Calls prog 89 #[v,.func (.func nf) #[] c] w (fun r w'=>r=.returned (.bool (anyI n x p))/\w'=w):=by
 have i:=qh (v7f w g hn h);clear g hn h
 go_enter func89,ntmps89
 go_wp2_with fail
 refine i.out.mono ?_;rintro r l ⟨rfl,k,rfl,d⟩;have j:=qh d;clear d
 go_wp2_with fail
 go_ret;exact⟨z0k j.out,rfl⟩
theorem v7g:∀ args w,(callFunc 90 args).run prog w=.ok (.enter 90 args) w:=fun args w=>by kernel_rfl
def offI (sig s:Int):Bool:=decide (s<1)||decide (sig<s)
def z3m (n:Nat) (x:Nat->Int) (sig:Int):Bool:=!anyI n x (offI sig)
theorem z1v {n:Nat} {x:Nat->Int} {sig:Int}:z3m n x sig=true↔y0g n x sig:=by
 unfold z3m;rw[Bool.not_eq_true',Bool.eq_false_iff]
 constructor
 ·intro h i hi;cases c:offI sig (x i)
  ·unfold offI at c;simp at c;omega
  exact absurd (y3z.2 ⟨i,hi,c⟩) h
 intro h g;obtain⟨i,c,d⟩:=y3z.1 g;have:=h i c;unfold offI at d;simp at d;omega
theorem z2i {n:Nat} {x:Nat->Int} {sig:Int}:z3m n x sig=false↔¬ y0g n x sig:=by
 rw[<- z1v];simp
def eqB (n m:Nat) (x y:Nat->Int):Bool:=decide (n=m)&&(List.range n).all fun k=>x k==y k
theorem y0x {n m:Nat} {x y:Nat->Int}:eqB n m x y=true↔n=m/\∀ k,k<n->x k=y k:=by simp[eqB]
theorem v4e {n m:Nat} {x y:Nat->Int} (h:¬ (n=m/\∀ k,k<n->x k=y k)):eqB n m x y=false:=by
 cases e:eqB n m x y
 ·rfl
 exact absurd (y0x.1 e) h
theorem v7t {d:Nat} {sig:Int} (w:World) (h:w.cell? ⟨d,0,none⟩=some (.int .i64 sig)) (s:Int) :
  Calls prog 90 #[.int .i64 s,.pointer (some ⟨d,0,none⟩)] w (fun r w'=>r=.returned (.bool (offI sig s))/\w'=w):=by
 by_cases g:s<1
 ·go_enter func90,ntmps90
  go_wp2_with fail
  go_ret;exact⟨z0k (by simp[offI,g]),rfl⟩
 have c:decide (s<1)=false:=by simp;omega
 go_enter func90,ntmps90
 go_wp2_with fail
 go_ret;exact⟨z0k (by simp[offI,c]),rfl⟩
theorem z4s {n:Nat} {v:Value} {x:Nat->Int} {sig:Int} (w:World) (u:Si none w v n x) (hn:(n:Int)<=9223372036854775807) :
  Calls prog 39 #[v,.int .i64 sig] w (fun r w'=>r=.returned (.bool (z3m n x sig))/\Below w.heap.size w w'):=by
 obtain⟨j,d⟩:=exq (w.alloc (.cells #[.int .i64 sig] 3));obtain⟨p,g⟩:=exq (w.heap.size);have c:=(Below.refl w.heap.size w).alloc (Nat.le_refl _) (.cells #[.int .i64 sig] 3);have i:(w.alloc (.cells #[.int .i64 sig] 3)).cell? ⟨w.heap.size,0,none⟩=some (.int .i64 sig):=z3i w _ _ 0 _ rfl;have k:Si none j v n x:=by rw[d];exact Rd.kept u (World.grownBy_alloc _ _ _)
 rw[<- d,<- g] at i;rw[<- d] at c;have l:TstF 90 #[.pointer (some ⟨p,0,none⟩)] (offI sig) j:=⟨v7g,fun s=>v7t j i s⟩;have o:=y3t j k hn l;clear l;obtain⟨a,h,rfl⟩:=u.shape;have A:=qh o;clear o i u k;have B:=qh c;clear c;have z:∀ (fn:Fn) (first h:Array Value) (w:World),(Instr.makeFunc fn first h).run prog w=.ok (.func fn first h) w:=fun _ _ _ _=>rfl
 go_enter func39,ntmps39
 go_wp2_with fail
 rw[<- d,<- g];clear d g;refine A.out.mono ?_;rintro r C ⟨rfl,rfl⟩
 go_wp2_with fail
 go_ret;exact⟨rfl,B.out⟩
theorem v3i {n m:Nat} {v v':Value} {x y:Nat->Int} (w:World) (K:Si none w v n x) (O:Si none w v' m y) (hn:(n:Int)<=9223372036854775807) (U:(m:Int)<=9223372036854775807) :
  Calls prog 167 #[v,v'] w (fun r w'=>r=.returned (.bool (eqB n m x y))/\Below w.heap.size w w'):=by
 obtain⟨a,S,b,F,rfl,N,hc,R,hb,g⟩:=K.open;obtain⟨a',J,X,z,rfl,D,Z,A,B,c⟩:=O.open;unfold maxLen at R A;clear K O;have HA:=qh N;clear N;have HB:=qh hb;clear hb;have HX:=qh g;clear g;have I:=qh D;clear D;have G:=qh B;clear B;have H:=qh c;clear c;by_cases o:n=m
 ·subst o
  go_enter func167,ntmps167
  go_wp2_with fail
  go_loopw [13] (fun i wr=>∃ q:Nat,q<=n/\i=.int .i64 (q:Int)/\(∀ j,j<q->x j=y j)/\Below w.heap.size w wr) (fun i _=>n-(intOf i).toNat)
  case atStart=>exact⟨0,Nat.zero_le _,rfl,fun j hj=>by omega,Below.refl _ _⟩
  obtain⟨q,hq,rfl,l,s⟩:=hrel;have d:=qh s;clear s;have u:=qh l;clear l;by_cases k:q<n
  ·have W:(q:Int)<(n:Int):=by omega
   have L:(0:Int)<=(q:Int):=by omega
   obtain rfl:=HA.out (by omega);obtain rfl:=I.out (by omega);have c0:=(d.out.cell (p:=⟨b,F+q,none⟩) (HB.out (by omega)).1).trans (HX.out q k);have c1:=(d.out.cell (p:=⟨X,z+q,none⟩) (G.out (by omega)).1).trans (H.out q k);by_cases E:x q=y q
   ·have Y:decide (x q=y q)=true:=by simp[E]
    rw[<- E] at c1
    go_wp2_with fail
    go_quiet (fail)
    go_wp2_with fail
    go_roundw
    case rel =>
     refine⟨q+1,by omega,by go_num,fun j hj=>?_,below_drewN d.out nq⟩;by_cases e:j=q
     ·subst e;exact E
     exact u.out j (by omega)
    simp[intOf];omega
   have HE:=qh E
   go_wp2_with fail
   go_quiet (fail)
   go_wp2_with fail
   go_ret;exact⟨z0k (v4e (fun h=>HE.out (h.2 q k))).symm,below_drewN d.out nq⟩
  have C:q=n:=by omega
  have P:¬ ((q:Int)<(n:Int)):=by omega
  have Q:=qh C;clear C
  go_wp2_with fail
  go_ret;exact⟨z0k (y0x.2 ⟨rfl,fun i hi=>u.out i (by rw[Q.out];exact hi)⟩).symm,d.out⟩
 have T:¬ (n:Int)=(m:Int):=by omega
 go_enter func167,ntmps167
 go_wp2_with fail
 go_ret;exact⟨z0k (v4e (fun h=>o h.1)).symm,Below.refl _ _⟩
theorem Rd.cut {z:Option Nat} {w:World} {a:Option Addr} {n cap:Nat} {f:Nat->Value} (h:Rd z w (.slice a n cap) n f) {m:Nat} (p:m<=n):Rd z w (.slice a m cap) m f:=by
 rcases h with ⟨rfl,s,k,c,j⟩|⟨b,d,k,c,l,r,o,g⟩
 ·have:m=0:=by omega
  subst this;cases c;exact .inl ⟨rfl,_,_,rfl,j⟩
 cases c;exact .inr ⟨b,d,cap,rfl,l,by omega,o,fun i hi=>g i (by omega)⟩
def bgB (n m:Nat) (x y:Nat->Int):Bool:=decide (m<=n)&&(List.range m).all fun k=>x k==y k
theorem u4f {n m:Nat} {x y:Nat->Int} (h:m<=n):bgB n m x y=eqB m m x y:=by simp[bgB,eqB,h]
theorem y7f {n m:Nat} {v v':Value} {x y:Nat->Int} (w:World) (o:Si none w v n x) (l:Si none w v' m y) (u:(m:Int)<=9223372036854775807) :
  Calls prog 131 #[v,v'] w (fun r w'=>r=.returned (.bool (bgB n m x y))/\Below w.heap.size w w'):=by
 obtain⟨a,p,b,G,rfl,B,K,J,hb,d⟩:=o.open;obtain⟨L,A,O,z,rfl,k,D,i,j,c⟩:=l.open;unfold maxLen at J i;by_cases g:m<=n
 ·have F:(m:Int)<=(n:Int):=by omega
  have I:(0:Int)<=(m:Int):=by omega
  have H:(m:Int)<=(p:Int):=by omega
  have h:=v3i w (o.cut g) l (by omega) u;have E:=qh h;clear h;have C:=qh g;clear g B hb d k j c o l
  go_enter func131,ntmps131
  go_wp2_with fail
  refine E.out.mono ?_;rintro r N ⟨rfl,hb⟩;have s:=qh hb;clear hb
  go_wp2_with fail
  go_ret;exact⟨z0k (u4f C.out).symm,s.out⟩
 have F:decide ((m:Int)<=(n:Int))=false:=by simp;omega
 clear B hb d k j c o l
 go_enter func131,ntmps131
 go_wp2_with fail
 go_ret;exact⟨z0k (by simp[bgB,g]),Below.refl _ _⟩
def y3y (s:ByteArray):Bool:=match prs s with|some q=>decide (0<=q)|none=>false
theorem z7q {s:ByteArray}:y3y s=true↔y6a s:=by
 unfold y3y y6a;cases h:prs s<;>simp
theorem x6n (s:ByteArray) (w:World) (C:s.size<=9223372036854775807) (o:Tab w):Calls prog 40 #[.string s] w (fun r w'=>r=.returned (.bool (y3y s))/\Below w.heap.size w w'):=by
 have d:=z9v s w C o;cases c:prs s with
 | none =>
  rw[c] at d;have B:=qh d;clear d;have A:=qh c;clear c o
  go_enter func40,ntmps40
  go_wp2_with fail
  refine B.out.mono ?_;rintro r j ⟨rfl,hb⟩;have p:=qh hb;clear hb
  go_wp2_with fail
  go_ret;exact⟨z0k (by unfold y3y;rw[A.out]),p.out⟩
 | some q =>
  rw[c] at d;have g:prs ⟨#[48]⟩=some 0:=by decide +kernel
  have l:z3q s ⟨#[48]⟩=cmpQ q 0:=by unfold z3q;rw[c,g]
  have v:=fun j (hb:Below w.heap.size w j)=>y0c s ⟨#[48]⟩ j C (by decide) (o.below hb (Nat.le_refl _));rw[l] at v;have D:=qh v;clear v l g;have B:=qh d;clear d;have A:=qh c;clear c o
  go_enter func40,ntmps40
  go_wp2_with fail
  refine B.out.mono ?_;rintro r j ⟨rfl,hb⟩;have k:=D.out j hb;have p:=qh hb;clear hb;have z:=qh k;clear k D
  go_wp2_with fail
  refine z.out.mono ?_;rintro r E ⟨rfl,i⟩;have u:=qh (p.out.trans (i.mono p.out.size));clear i
  go_wp2_with fail
  go_ret;exact⟨z0k (by
   unfold y3y;rw[A.out]
   rcases z1c q 0 with ⟨h,e⟩|⟨h,e⟩|⟨h,e⟩<;>rw[e]
   ·simp[Rat.not_le.2 h]
   ·subst h;simp
   simp[Rat.le_of_lt h]),u.out⟩
end
section
open Go.RowKit Go.Deep
theorem y3f {E vb:Nat} {D:MD} {sv star:Value} {e:Nat} {v:Nat->ByteArray} (w0 w:World) (hv:VM D) (hD:StS none w0 sv D) (b8:Below w0.heap.size w0 w) (ht:Tab w0)
  (hs:Scl w E D sv star e) (X:w.rowIs vb 9 D.n (fun j=>.string (v j))) (a9:w0.heap.size<=E) (a2:vb≠E) (b7:∀ j,smS (v j)) (b2:∀ i,smS (D.fin i)) :
  Calls prog 88 #[.pointer (some ⟨E,0,none⟩),.slice (some ⟨vb,0,none⟩) D.n D.n] w (fun r w'=>r=.returned (.tuple #[.string (finC D v e).1,.int .i64 ((finC D v e).2:Int)])/\Fr (fun q=>q=E) w w'):=by
 obtain⟨a,cp,b,W,A,C,BB,O,rfl,ha,hc,hm,hb,B⟩:=hD.open;unfold maxLen at hm;obtain⟨n,hn⟩:=exq (D.n);have e8:n<=3000:=by rw[hn];exact hv.n2
 have e7:1<=n:=by rw[hn];exact hv.n1
 rw[<- hn] at ha hc hb B X hs ⊢;have HN:=qh hn;clear hn;have HV:=qh hv;clear hv;have HA:=qh ha;clear ha;have HB:=qh hb;clear hb;have HR:=qh B;clear B hD;have b1:=qh ht;clear ht;have I:=qh b8;clear b8;have d8:=hs.c0;have HS:=qh hs;clear hs;have d7:=qh X;clear X;have d0:=qh b7;clear b7;have d9:=qh b2;clear b2;have e0:=qh a2;clear a2;have a1:=qh a9;clear a9;obtain rfl:=HA.out (by omega)
 go_enter func88,ntmps88
 go_wp2_with fail
 refine(x0s D.kind w).mono ?_;rintro r w1 ⟨rfl,Y⟩;have a6:Scl w1 E D (.slice (some ⟨b,W,none⟩) n cp) star e:=by unfold Scl;rw[Y.block E HS.out.lt];exact HS.out
 have b4:Fr (fun q=>q=E) w w1:=Fr.of_below Y;have c7:=qh a6;clear a6 Y HS;have b0:=qh b4;clear b4 d8
 go_wp2_with fail
 go_loopw [6,18] (fun s i wr=>∃ q:Nat,q<=n/\i=.int .i64 (q:Int)/\s=.string (endC D v q (z2b D.kind,e)).1/\Scl wr E D (.slice (some ⟨b,W,none⟩) n cp) star (endC D v q (z2b D.kind,e)).2/\Fr (fun q=>q=E) w wr) (fun _ i _=>n-(intOf i).toNat)
 case atStart=>exact⟨0,Nat.zero_le _,rfl,rfl,c7.out,b0.out⟩
 obtain⟨q,hq,rfl,rfl,a3,c6⟩:=hrel;clear c7 b0;have l:=qh a3;clear a3;have c:=qh c6;clear c6;by_cases c9:q<n
 ·have e6:(q:Int)<(n:Int):=by omega
  have e4:(0:Int)<=(q:Int):=by omega
  have cv:=c.out.cell (d7.out.cell c9) (p:=⟨vb,q,none⟩) e0.out;have c8:=qh (I.out.trans (c.out.below I.out.size (fun k hk=>by subst hk;exact a1.out)));have d5:=(HB.out (by omega)).1;obtain⟨k1,_,_,_,_,_,_⟩:=HR.out q c9;have c1:=(c8.out.cell (p:=⟨b,W+q*2,none⟩) d5).trans k1;have m3:=l.out.c3;clear k1;obtain⟨s0,g⟩:=exq (endC D v q (z2b D.kind,e));have a5:smS s0.1:=by rw[g];exact v4k d0.out q (show smS (z2b D.kind) from Nat.le_trans (y3b D.kind) (by omega))
  have b6:endC D v (q+1) (z2b D.kind,e)=if v q=⟨#[]⟩\/D.fin q=⟨#[]⟩ then s0 else y0h D.kind s0.1 (z4n D.kind (v q) (D.fin q) s0.2).1 (z4n D.kind (v q) (D.fin q) s0.2).2:=by
   rw[g];rfl
  rw[<- g] at l;rw[<- g];have d6:=qh a5;clear a5;have d:=qh b6;clear b6 g;obtain⟨G,J⟩:=exq (v q);obtain⟨F,K⟩:=exq (D.fin q);rw[<- J] at cv;rw[<- K] at c1;rw[<- J,<- K] at d;have T:smS G:=by rw[J];exact d0.out q
  have Q:smS F:=by rw[K];exact d9.out q
  have L:=qh T;clear T J;have a7:=qh Q;clear Q K;cases hE:(G.toList==[])
  ·cases hF:(F.toList==[])
   ·have h:¬ (G=⟨#[]⟩\/F=⟨#[]⟩):=fun e=>by
     rcases e with e|e
     ·rw[e] at hE;simp at hE
     rw[e] at hF;simp at hF
    rw[if_neg h] at d;clear h;obtain⟨tp,H⟩:=exq (z4n D.kind G F s0.2);obtain⟨zp,Z⟩:=exq (y0h D.kind s0.1 tp.1 tp.2);rw[<- H,<- Z] at d;have z:Tab wr:=b1.out.below c8.out (Nat.le_refl _);have b5:=qh (y7r G F wr l.out L.out a7.out z);rw[<- H] at b5;have P:smS tp.1:=by rw[H];exact y2d L.out
    have d2:=qh P;clear P H z;have e3:=qh Z;clear Z
    go_wp2_with fail
    refine b5.out.mono ?_;rintro r w2 ⟨rfl,N,a8⟩;have u:=c.out.trans a8;have o:Tab w2:=b1.out.below (I.out.trans (u.below I.out.size (fun k hk=>by subst hk;exact a1.out))) (Nat.le_refl _);have b9:=qh (x1b s0.1 tp.1 w2 N d6.out d2.out o);rw[<- e3.out] at b9;have d3:=qh u;clear u a8 N o cv c1 m3
    go_wp2_with fail
    refine b9.out.mono ?_;rintro r w3 ⟨rfl,R,d1⟩;have d4:=qh (d3.out.trans d1);clear d1;have a4:=qh R;clear R
    go_wp2_with fail
    go_roundw
    case rel=>exact⟨q+1,by omega,by go_num,by rw[d.out],by rw[d.out];exact a4.out,d4.out⟩
    simp[intOf];omega
   have h:(G=⟨#[]⟩\/F=⟨#[]⟩):=.inr (z4j hF);rw[if_pos h] at d;clear h
   go_wp2_with fail
   go_roundw
   case rel=>exact⟨q+1,by omega,by go_num,by rw[d.out],by rw[d.out];exact l.out,c.out⟩
   simp[intOf];omega
  have h:(G=⟨#[]⟩\/F=⟨#[]⟩):=.inl (z4j hE);rw[if_pos h] at d;clear h
  go_wp2_with fail
  go_roundw
  case rel=>exact⟨q+1,by omega,by go_num,by rw[d.out],by rw[d.out];exact l.out,c.out⟩
  simp[intOf];omega
 have b3:q=n:=by omega
 have e9:¬ ((q:Int)<(n:Int)):=by omega
 have e1:=qh b3;clear b3;obtain⟨s0,g⟩:=exq (endC D v q (z2b D.kind,e));have U:finC D v e=if s0.2≠0 then (⟨#[]⟩,s0.2) else (s0.1,0):=by unfold finC;rw[<- HN.out,<- e1.out,<- g]
 rw[<- g] at l;rw[<- g];have S:=qh U;clear U g;have m5:=l.out.c5;by_cases he:s0.2=0
 ·rw[he] at m5;have HE:=qh he;clear he
  go_wp2_with fail
  go_ret2;exact⟨by rw[S.out,if_neg (by rw[HE.out];simp)];rfl,c.out⟩
 have e5:¬ ((s0.2:Int)=0):=by omega
 have HE:=qh he;clear he
 go_wp2_with fail
 go_quiet (fail)
 go_wp2_with fail
 go_ret2;exact⟨by rw[S.out,if_pos HE.out];rfl,⟨c.out.os,c.out.tape,c.out.output,c.out.size,c.out.block⟩⟩
theorem v0w:∀ args w,(callFunc 123 args).run prog w=.ok (.enter 123 args) w:=fun args w=>by kernel_rfl
theorem v3g (w:World) (s:Int):Calls prog 123 #[.int .i64 s] w (fun r w'=>r=.returned (.bool (offI 500 s))/\w'=w):=by
 by_cases d:s<1
 ·go_enter func123,ntmps123
  go_wp2_with fail
  go_ret;exact⟨z0k (by simp[offI,d]),rfl⟩
 have c:decide (s<1)=false:=by simp;omega
 go_enter func123,ntmps123
 go_wp2_with fail
 go_ret;exact⟨z0k (by simp[offI,c]),rfl⟩
def isWord (n:Nat) (x:Nat->Int):Bool:=decide (n<=200)&&z3m n x 500
theorem x7b {n:Nat} {v:Value} {x:Nat->Int} (w:World) (d:Si none w v n x) (hn:(n:Int)<=9223372036854775807) :
  Calls prog 77 #[v] w (fun r w'=>r=.returned (.bool (isWord n x))/\w'=w):=by
 have c:=y3t w d hn (show TstF 123 #[] (offI 500) w from ⟨v0w,fun s=>v3g w s⟩);obtain⟨a,i,rfl⟩:=d.shape;have g:=qh c;clear c d;by_cases h:(n:Int)<=200
 ·go_enter func77,ntmps77
  go_wp2_with fail
  refine g.out.mono ?_;rintro r j ⟨rfl,rfl⟩
  go_wp2_with fail
  go_ret;exact⟨z0k (by unfold isWord z3m;rw[show decide (n<=200)=true by simp;omega];simp),rfl⟩
 have k:decide ((n:Int)<=200)=false:=by simp;omega
 go_enter func77,ntmps77
 go_wp2_with fail
 go_ret;exact⟨z0k (by unfold isWord;rw[show decide (n<=200)=false by simp;omega];rfl),rfl⟩
theorem x4h:∀ args w,(callFunc 79 args).run prog w=.ok (.enter 79 args) w:=fun args w=>by kernel_rfl
def silB (i o:Int):Bool:=decide (i=0)&&decide (o=0)
theorem x7e (w:World) (i o:Int) (s:ByteArray) (t:Int):Calls prog 79 #[.agg #[.int .i64 i,.int .i64 o,.string s,.int .i64 t]] w (fun r w'=>r=.returned (.bool (silB i o))/\Below w.heap.size w w'):=by
 have c:=(Below.refl w.heap.size w).alloc (Nat.le_refl _) (.cells #[.int .i64 i,.int .i64 o,.string s,.int .i64 t] 83);have d:=qh c;clear c;by_cases g:i=0
 ·subst g
  go_enter func79,ntmps79
  go_wp2_with fail
  go_ret;exact⟨z0k (by by_cases h:o=0<;>simp[silB,h]),d.out⟩
 go_enter func79,ntmps79
 go_wp2_with fail
 go_ret;exact⟨z0k (by simp[silB,g]),d.out⟩
def BxI (w:World) (xb:Nat) (n:Nat) (x:Nat->Int):Prop:=∃ v,w.cell? ⟨xb,0,none⟩=some v/\Si none w v n x
theorem u2f:∀ args w,(callFunc 85 args).run prog w=.ok (.enter 85 args) w:=fun args w=>by kernel_rfl
theorem u1h:∀ args w,(callFunc 86 args).run prog w=.ok (.enter 86 args) w:=fun args w=>by kernel_rfl
theorem u0y:∀ args w,(callFunc 87 args).run prog w=.ok (.enter 87 args) w:=fun args w=>by kernel_rfl
def sel2 (y:Int) (i o:Int):Bool:=decide (i=0)&&decide (o=y)
def sel3 (x:Int) (i o:Int):Bool:=decide (i=x)&&decide (o=0)
def sel4 (x y:Int) (i o:Int):Bool:=decide (i=x)&&decide (o=y)
theorem u3y {I K n j:Nat} {y:Nat->Int} (w:World) (T:BxI w I n y) (L:w.cell? ⟨K,0,none⟩=some (.int .i64 (j:Int))) (D:j<n) (i o:Int) (s:ByteArray) (t:Int) :
  Calls prog 85 #[.agg #[.int .i64 i,.int .i64 o,.string s,.int .i64 t],.pointer (some ⟨I,0,none⟩),.pointer (some ⟨K,0,none⟩)] w (fun r w'=>r=.returned (.bool (sel2 (y j) i o))/\Below w.heap.size w w'):=by
 obtain⟨v,G,u⟩:=T;obtain⟨a,P,b,S,rfl,J,U,O,hb,g⟩:=u.open;obtain rfl:=J (by omega);unfold maxLen at O;have c0:=g j D;clear g u;have R:(j:Int)<(n:Int):=by omega
 have F:(0:Int)<=(j:Int):=by omega
 obtain⟨p,c⟩:=exq (w.alloc (.cells #[.int .i64 i,.int .i64 o,.string s,.int .i64 t] 83));obtain⟨z,d⟩:=exq (w.heap.size);have k:=(Below.refl w.heap.size w).alloc (Nat.le_refl _) (.cells #[.int .i64 i,.int .i64 o,.string s,.int .i64 t] 83);have A:w.grownBy p none:=by rw[c];exact World.grownBy_alloc _ _ _
 rw[<- c] at k;have a0:p.cell? ⟨z,0,none⟩=some (.int .i64 i):=by rw[c,d];exact z3i w _ _ 0 _ rfl
 have Y:p.cell? ⟨z,1,none⟩=some (.int .i64 o):=by rw[c,d];exact z3i w _ _ 1 _ rfl
 have W:=A.cell G (by simp);have X:=A.cell L (by simp);have Q:=A.cell c0 (by simp);have N:=qh k;clear k hb J G L c0 A;obtain⟨E,l⟩:=exq (y j);rw[<- l] at Q;rw[<- l];clear l;by_cases H:i=0
 ·subst H
  go_enter func85,ntmps85
  go_wp2_with fail
  rw[<- c,<- d];have C:=qh c;clear c;have B:=qh d;clear d
  go_quiet (fail)
  go_wp2_with fail
  go_ret;exact⟨z0k (by by_cases h:o=E<;>simp[sel2,h]),below_drewN N.out _⟩
 go_enter func85,ntmps85
 go_wp2_with fail
 rw[<- c,<- d];have C:=qh c;clear c;have B:=qh d;clear d
 go_quiet (fail)
 go_wp2_with fail
 go_ret;exact⟨z0k (by simp[sel2,H]),below_drewN N.out _⟩
theorem u4i {F H n j:Nat} {x:Nat->Int} (w:World) (T:BxI w F n x) (L:w.cell? ⟨H,0,none⟩=some (.int .i64 (j:Int))) (D:j<n) (i o:Int) (s:ByteArray) (t:Int) :
  Calls prog 86 #[.agg #[.int .i64 i,.int .i64 o,.string s,.int .i64 t],.pointer (some ⟨F,0,none⟩),.pointer (some ⟨H,0,none⟩)] w (fun r w'=>r=.returned (.bool (sel3 (x j) i o))/\Below w.heap.size w w'):=by
 obtain⟨v,I,u⟩:=T;obtain⟨a,P,b,S,rfl,K,U,O,hb,g⟩:=u.open;obtain rfl:=K (by omega);unfold maxLen at O;have c0:=g j D;clear g u;have R:(j:Int)<(n:Int):=by omega
 have G:(0:Int)<=(j:Int):=by omega
 obtain⟨p,c⟩:=exq (w.alloc (.cells #[.int .i64 i,.int .i64 o,.string s,.int .i64 t] 83));obtain⟨z,d⟩:=exq (w.heap.size);have k:=(Below.refl w.heap.size w).alloc (Nat.le_refl _) (.cells #[.int .i64 i,.int .i64 o,.string s,.int .i64 t] 83);have A:w.grownBy p none:=by rw[c];exact World.grownBy_alloc _ _ _
 rw[<- c] at k;have a0:p.cell? ⟨z,0,none⟩=some (.int .i64 i):=by rw[c,d];exact z3i w _ _ 0 _ rfl
 have Y:p.cell? ⟨z,1,none⟩=some (.int .i64 o):=by rw[c,d];exact z3i w _ _ 1 _ rfl
 have W:=A.cell I (by simp);have X:=A.cell L (by simp);have Q:=A.cell c0 (by simp);have N:=qh k;clear k hb K I L c0 A;obtain⟨E,l⟩:=exq (x j);rw[<- l] at Q;rw[<- l];clear l;by_cases J:i=E
 ·subst J
  go_enter func86,ntmps86
  go_wp2_with fail
  rw[<- c,<- d];have C:=qh c;clear c;have B:=qh d;clear d
  go_quiet (fail)
  go_wp2_with fail
  go_ret;exact⟨z0k (by by_cases h:o=0<;>simp[sel3,h]),below_drewN N.out _⟩
 go_enter func86,ntmps86
 go_wp2_with fail
 rw[<- c,<- d];have C:=qh c;clear c;have B:=qh d;clear d
 go_quiet (fail)
 go_wp2_with fail
 go_ret;exact⟨z0k (by simp[sel3,J]),below_drewN N.out _⟩
theorem u5g {S U m k Z jb n j:Nat} {x y:Nat->Int} (w:World) (hx:BxI w S m x) (hk:w.cell? ⟨U,0,none⟩=some (.int .i64 (k:Int))) (R:k<m) (hy:BxI w Z n y) (hj:w.cell? ⟨jb,0,none⟩=some (.int .i64 (j:Int))) (K:j<n) (i o:Int) (s:ByteArray) (t:Int) :
  Calls prog 87 #[.agg #[.int .i64 i,.int .i64 o,.string s,.int .i64 t],.pointer (some ⟨S,0,none⟩),.pointer (some ⟨U,0,none⟩),.pointer (some ⟨Z,0,none⟩),.pointer (some ⟨jb,0,none⟩)] w (fun r w'=>r=.returned (.bool (sel4 (x k) (y j) i o))/\Below w.heap.size w w'):=by
 obtain⟨v',D,u⟩:=hx;obtain⟨a',W,b',a3,rfl,F,a9,L,P,g⟩:=u.open;obtain rfl:=F (by omega);have C:=g k R;unfold maxLen at L;have a4:(k:Int)<(m:Int):=by omega
 have a2:(0:Int)<=(k:Int):=by omega
 clear g u;obtain⟨v,X,G⟩:=hy;obtain⟨a,a7,b,b0,rfl,ha,hc,hm,hb,l⟩:=G.open;obtain rfl:=ha (by omega);unfold maxLen at hm;have c0:=l j K;clear l G;have a8:(j:Int)<(n:Int):=by omega
 have T:(0:Int)<=(j:Int):=by omega
 obtain⟨E,c⟩:=exq (w.alloc (.cells #[.int .i64 i,.int .i64 o,.string s,.int .i64 t] 83));obtain⟨H,d⟩:=exq (w.heap.size);have p:=(Below.refl w.heap.size w).alloc (Nat.le_refl _) (.cells #[.int .i64 i,.int .i64 o,.string s,.int .i64 t] 83);have z:w.grownBy E none:=by rw[c];exact World.grownBy_alloc _ _ _
 rw[<- c] at p;have a0:E.cell? ⟨H,0,none⟩=some (.int .i64 i):=by rw[c,d];exact z3i w _ _ 0 _ rfl
 have a1:E.cell? ⟨H,1,none⟩=some (.int .i64 o):=by rw[c,d];exact z3i w _ _ 1 _ rfl
 have d0:=z.cell X (by simp);have d1:=z.cell hj (by simp);have d2:=z.cell c0 (by simp);have a6:=z.cell D (by simp);have a5:=z.cell hk (by simp);have O:=z.cell C (by simp);have HB:=qh p;clear p hb ha X hj c0 z P F D hk C;obtain⟨Q,A⟩:=exq (x k);rw[<- A] at O;rw[<- A];clear A;obtain⟨N,B⟩:=exq (y j);rw[<- B] at d2;rw[<- B];clear B;by_cases Y:i=Q
 ·subst Y
  go_enter func87,ntmps87
  go_wp2_with fail
  rw[<- c,<- d];have J:=qh c;clear c;have I:=qh d;clear d
  go_quiet (fail)
  go_wp2_with fail
  go_ret;exact⟨z0k (by by_cases h:o=N<;>simp[sel4,h]),below_drewN HB.out _⟩
 go_enter func87,ntmps87
 go_wp2_with fail
 rw[<- c,<- d];have J:=qh c;clear c;have I:=qh d;clear d
 go_quiet (fail)
 go_wp2_with fail
 go_ret;exact⟨z0k (by simp[sel4,Y]),below_drewN HB.out _⟩
end
section
open Go.RowKit Go.Deep
theorem y2r (t e:TypeId) (h:prog.underlying t=some (.slice e)) (w:World) (a:Option Addr) (n c:Nat):(binOp .eql t (.slice a n c) (.slice none 0 0)).run prog w=.ok (.bool a.isNone) w:=by
 simp only[binOp];simp[run_equal_slice_nil w t e a n c h]
theorem v2m (t e:TypeId) (h:prog.underlying t=some (.slice e)) (w:World) (a:Option Addr) (n c:Nat):(binOp .neq t (.slice a n c) (.slice none 0 0)).run prog w=.ok (.bool (!a.isNone)) w:=run_neq_slice_nil w t e a n c h
def NoSil (D:MD):Prop:=∀ q k,q<D.n->k<D.na q->silB (D.ain q k) (D.aout q k)=false
def OpnE (D:MD) (sv:Value) (w:World) (r:Ending) (w':World):Prop :=
 Below w.heap.size w w'/\∃ cb,r=.returned (.pointer (some ⟨cb,0,none⟩))/\w.heap.size<=cb/\Scl w' cb D sv (.slice none 0 0) 0
theorem v7i {D:MD} {sv:Value} (w:World) (hv:VM D) (hD:StS none w sv D) (a5:NoSil D) :
  Calls prog 78 #[.agg #[.int .i64 D.kind,.int .i64 D.start,.string D.lead,sv],.func (.func 79) #[] #[]] w (OpnE D sv w):=by
 obtain⟨a,cp,b,g,A,C,BB,O,rfl,ha,hc,hm,hb,E⟩:=hD.open;unfold maxLen at hm;obtain⟨n,hn⟩:=exq (D.n);have d0:n<=3000:=by rw[hn];exact hv.n2
 have c9:1<=n:=by rw[hn];exact hv.n1
 rw[<- hn] at ha hc hb E ⊢;have b5:∀ w,(Instr.makeSlice 66 (.int .i64 0) (.int .i64 60)).run prog w=.ok (.slice (some ⟨w.heap.size,0,none⟩) 0 60) (w.alloc (.cells (madeCells #[.slice none 0 0] 60) 67)):=fun _=>by kernel_rfl
 have c8:=x4h;have HN:=qh hn;clear hn;have HV:=qh hv;clear hv;have HA:=qh ha;clear ha;have HB:=qh hb;clear hb;have HR:=qh E;clear E hD;have b4:=qh a5;clear a5;obtain rfl:=HA.out (by omega);obtain⟨P,s⟩:=exq (w.alloc (.cells #[.int .i64 D.kind,.int .i64 D.start,.string D.lead,.slice (some ⟨b,g,none⟩) n cp] 36));obtain⟨N,l⟩:=exq (P.alloc (.cells #[.int .i64 D.kind,.int .i64 D.start,.string D.lead,.slice (some ⟨b,g,none⟩) n cp,.slice none 0 0,.int .i64 0] 127));obtain⟨X,B⟩:=exq (N.alloc (.cells (madeCells #[.slice none 0 0] 60) 67));have T:P.heap.size=w.heap.size+1:=by rw[s];simp
 have a8:N.heap.size=w.heap.size+1+1:=by rw[l];simp[T]
 have a1:Below w.heap.size w P:=by rw[s];exact(Below.refl _ _).alloc (Nat.le_refl _) _
 have o:Below w.heap.size w N:=by rw[l];exact a1.alloc (by omega) _
 have a6:Below w.heap.size w X:=by rw[B];exact o.alloc (by omega) _
 have S:Scl N P.heap.size D (.slice (some ⟨b,g,none⟩) n cp) (.slice none 0 0) 0:=by rw[l];exact heap_alloc_new P _
 have R:Scl X P.heap.size D (.slice (some ⟨b,g,none⟩) n cp) (.slice none 0 0) 0:=by rw[B];unfold Scl;rw[blk_alloc_lt _ _ _ S.lt];exact S
 have m3:X.cell? ⟨w.heap.size,3,none⟩=some (.slice (some ⟨b,g,none⟩) n cp):=by
  rw[B,l,s];unfold World.cell?;rw[blk_alloc_lt _ _ _ (by simp;omega),blk_alloc_lt _ _ _ (by simp),heap_alloc_new];rfl
 rw[T] at R;have U:=qh R;clear R S;have a4:=qh a6;clear a6 o a1;clear T a8
 go_enter func78,ntmps78
 go_wp2_with fail
 rw[<- s,<- l,<- B];obtain⟨J,Q⟩:=exq (w.heap.size+1);have a9:w.heap.size<=J:=by omega
 rw[<- Q] at U;rw[<- Q];clear s l B m3 b5 Q
 go_loopw [7,24] (fun y i wr=>∃ q:Nat,q<=n/\i=.int .i64 (q:Int)/\y=.bool false/\Scl wr J D (.slice (some ⟨b,g,none⟩) n cp) (.slice none 0 0) 0/\Below w.heap.size w wr) (fun _ i _=>n-(intOf i).toNat)
 case atStart=>exact⟨0,Nat.zero_le _,rfl,rfl,U.out,a4.out⟩
 obtain⟨q,hq,rfl,rfl,v,u⟩:=hrel;clear U a4;have j:=qh v;clear v;have c:=qh u;clear u;by_cases b6:q<n
 ·have c7:(q:Int)<(n:Int):=by omega
  have c6:(0:Int)<=(q:Int):=by omega
  have W:=(HB.out (by omega)).1;obtain⟨k1,k2,k3,k4,k5,k6,k7⟩:=HR.out q b6;obtain⟨aq,Y⟩:=exq (A q);rw[<- Y] at k2 k5;clear Y;have c0:=(c.out.cell (p:=⟨b,g+q*2,none⟩) W).trans k1;have c1:=(c.out.cell (p:=⟨b,g+q*2+1,none⟩) W).trans k2;clear k1 k2;unfold maxLen at k4;have b8:D.na q<=30000:=by have h1:=Nat.le_trans (z5a D (show q+1<=D.n by have:=HN.out;omega)) HV.out.arcs;have h2:z1k D (q+1)=z1k D q+D.na q:=rfl;omega
  have b1:=qh k7;clear k7;have b3:=qh k5;clear k5;have a7:=qh k6;clear k6;obtain⟨I,h⟩:=exq (wr.alloc (.cells #[.string (D.fin q),.slice aq (D.na q) (C q)] 87));have H:Below w.heap.size w I:=by rw[h];exact c.out.alloc c.out.size _
  have G:Scl I J D (.slice (some ⟨b,g,none⟩) n cp) (.slice none 0 0) 0:=by rw[h];unfold Scl;rw[blk_alloc_lt _ _ _ j.out.lt];exact j.out
  have z:=qh H;clear H;have F:=qh G;clear G
  go_wp2_with fail
  rw[<- h];clear c0 c1 h j c
  go_loopw [7,31] (fun y i wr=>∃ d:Nat,d<=D.na q/\i=.int .i64 (d:Int)/\y=.bool false/\Scl wr J D (.slice (some ⟨b,g,none⟩) n cp) (.slice none 0 0) 0/\Below w.heap.size w wr) (fun _ i _=>D.na q-(intOf i).toNat)
  case atStart=>exact⟨0,Nat.zero_le _,rfl,rfl,F.out,z.out⟩
  obtain⟨d,hd,rfl,rfl,v,u⟩:=hrel;clear F z;have j:=qh v;clear v;have c:=qh u;clear u;by_cases a3:d<D.na q
  ·have d1:(d:Int)<(D.na q:Int):=by omega
   have b9:(0:Int)<=(d:Int):=by omega
   have K:=(a7.out (by omega)).1;obtain⟨t0,t1,t2,t3⟩:=b1.out d a3;obtain rfl:=b3.out (by omega);have c0:=(c.out.cell (p:=⟨BB q,O q+d*4,none⟩) K).trans t0;have c1:=(c.out.cell (p:=⟨BB q,O q+d*4+1,none⟩) K).trans t1;have c2:=(c.out.cell (p:=⟨BB q,O q+d*4+2,none⟩) K).trans t2;have c3:=(c.out.cell (p:=⟨BB q,O q+d*4+3,none⟩) K).trans t3;clear t0 t1 t2 t3;have L:=b4.out q d (by have:=HN.out;omega) a3;obtain⟨I,h⟩:=exq (wr.alloc (.cells #[.int .i64 (D.ain q d),.int .i64 (D.aout q d),.string (D.aw q d),.int .i64 (D.ato q d)] 83));have H:Below w.heap.size w I:=by rw[h];exact c.out.alloc c.out.size _
   have G:Scl I J D (.slice (some ⟨b,g,none⟩) n cp) (.slice none 0 0) 0:=by rw[h];unfold Scl;rw[blk_alloc_lt _ _ _ j.out.lt];exact j.out
   have k:=x7e I (D.ain q d) (D.aout q d) (D.aw q d) (D.ato q d);rw[L] at k;have HC:=qh k;clear k L;have z:=qh H;clear H;have F:=qh G;clear G
   go_wp2_with fail
   rw[<- h];clear h c0 c1 c2 c3;refine HC.out.mono ?_;rintro r N ⟨rfl,o⟩;have a2:=z.out.trans (o.mono z.out.size);have Z:Scl N J D (.slice (some ⟨b,g,none⟩) n cp) (.slice none 0 0) 0:=by unfold Scl;rw[o.block J F.out.lt];exact F.out
   have b7:=qh a2;clear a2 o;have b0:=qh Z;clear Z
   go_wp2_with fail
   go_roundw
   case rel=>exact⟨d+1,by omega,by go_num,rfl,b0.out,b7.out⟩
   simp[intOf];omega
  have b2:¬ ((d:Int)<(D.na q:Int)):=by omega
  go_wp2_with fail
  go_roundw
  case rel=>exact⟨q+1,by omega,by go_num,rfl,j.out,c.out⟩
  simp[intOf];omega
 have b2:¬ ((q:Int)<(n:Int)):=by omega
 go_wp2_with fail
 go_ret;exact⟨c.out,J,rfl,a9,j.out⟩
theorem v8f {c:Nat} {D:MD} {sv v:Value} {e:Nat} (w:World) (d:Scl w c D sv (.slice none 0 0) e) {a:Option Addr} {n cap:Nat} (g:v=.slice a n cap) :
  Calls prog 83 #[.pointer (some ⟨c,0,none⟩),v] w (fun r w'=>r=.returned v/\w'=w):=by
 subst g;have i:=d.c4;clear d;have h:=fun w=>y2r 66 67 underlying66 w none 0 0;rw[show (none:Option Addr).isNone=true from rfl] at h
 go_enter func83,ntmps83
 go_wp2_with fail
 go_ret;exact⟨rfl,rfl⟩
end
section
open Go.RowKit Go.Deep
abbrev VV:=Nat->ByteArray
abbrev RS:=(Bool->Nat->Option VV) × Nat
def updV (S:Bool->Nat->Option VV) (b:Bool) (j:Nat) (x:VV):Bool->Nat->Option VV:=fun b' j'=>if b'=b/\j'=j then some x else S b' j'
def z3y (D:MD) (b:Bool) (j:Nat) (sel:Int->Int->Bool) (v:VV) (s:RS):RS:=(updV s.1 b j (z6z D sel v D.n ((s.1 b j).getD z3j,s.2)).1,(z6z D sel v D.n ((s.1 b j).getD z3j,s.2)).2)
def cell1 (D:MD) (nb:Nat) (y:Nat->Int) (j:Nat) (v:VV) (s:RS):RS:=if j<nb then z3y D false (j+1) (sel2 (y j)) v s else s
def cell2 (D:MD) (na:Nat) (x:Nat->Int) (i j:Nat) (v:VV) (s:RS):RS:=if i<na then z3y D true j (sel3 (x i)) v s else s
def cell3 (D:MD) (na:Nat) (x:Nat->Int) (nb:Nat) (y:Nat->Int) (i j:Nat) (v:VV) (s:RS):RS:=if i<na/\j<nb then z3y D true (j+1) (sel4 (x i) (y j)) v s else s
def x9m (D:MD) (na:Nat) (x:Nat->Int) (nb:Nat) (y:Nat->Int) (i j:Nat) (s:RS):RS :=
 match s.1 false j with
 | none=>s
 | some v=>cell3 D na x nb y i j v (cell2 D na x i j v (cell1 D nb y j v s))
def colC (D:MD) (na:Nat) (x:Nat->Int) (nb:Nat) (y:Nat->Int) (i:Nat):Nat->RS->RS
 | 0,s=>s
 | j+1,s=>x9m D na x nb y i j (colC D na x nb y i j s)
def twoR (row next:Nat->Option VV):Bool->Nat->Option VV:=fun b=>if b then next else row
def outC (D:MD) (na:Nat) (x:Nat->Int) (nb:Nat) (y:Nat->Int):Nat->Nat->(Nat->Option VV)->Nat->ByteArray × Nat
 | 0,_,_,e=>finC D z3j e
 | k+1,i,row,e =>
  if e≠0 then finC D z3j e
  else if i=na/\((colC D na x nb y i (nb+1) (twoR row (fun _=>none),e)).1 false nb).isSome=true then
   finC D (((colC D na x nb y i (nb+1) (twoR row (fun _=>none),e)).1 false nb).getD z3j) (colC D na x nb y i (nb+1) (twoR row (fun _=>none),e)).2
  else outC D na x nb y k (i+1) ((colC D na x nb y i (nb+1) (twoR row (fun _=>none),e)).1 true) (colC D na x nb y i (nb+1) (twoR row (fun _=>none),e)).2
def wgtC (D:MD) (na:Nat) (x:Nat->Int) (nb:Nat) (y:Nat->Int):ByteArray × Nat:=outC D na x nb y (na+1) 0 (fun j=>if j=0 then some (y7n D) else none) 0
def vrV (n:Nat):Option Nat->Value
 | none=>.slice none 0 0
 | some r=>.slice (some ⟨r,0,none⟩) n n
structure VR (w:World) (B:Nat) (g:Bool->Nat) (m n:Nat) (R:Bool->Nat->Option Nat) (S:Bool->Nat->Option VV):Prop where
 top:∀ b,w.rowIs (g b) 124 m (fun j=>vrV n (R b j))
 gne:g false≠g true
 low:∀ b,B<=g b
 non:∀ b j,j<m->(R b j=none↔S b j=none)
 row:∀ b j r x,j<m->R b j=some r->S b j=some x->w.rowIs r 9 n (fun q=>.string (x q))/\B<=r
 sep:∀ b j b' j' r,j<m->j' < m->R b j=some r->R b' j'=some r->b=b'/\j=j'
 sm:∀ b j x,S b j=some x->∀ q,smS (x q)
theorem z7u {w:World} {g j n l:Nat} {e i:TypeId} {F k:Nat->Value} (h:w.rowIs g e n F) (r:w.rowIs j i l k) (p:e≠i):g≠j:=by
 rintro rfl;obtain⟨c,o,_⟩:=h;obtain⟨s,d,_⟩:=r;rw[o] at d;simp at d;exact p d.2
namespace VR
variable {w w':World} {B:Nat} {g:Bool->Nat} {m n:Nat} {R:Bool->Nat->Option Nat} {S:Bool->Nat->Option VV}
theorem some_of (h:VR w B g m n R S) {b:Bool} {j:Nat} {x:VV} (i:j<m) (d:S b j=some x):∃ r,R b j=some r/\w.rowIs r 9 n (fun q=>.string (x q))/\B<=r:=by
 cases c:R b j with
 | none=>have:=(h.non b j i).1 c;rw[d] at this;cases this
 | some r=>exact⟨r,rfl,h.row b j r x i c d⟩
theorem topne (h:VR w B g m n R S) {b b':Bool} {j r:Nat} {x:VV} (i:j<m) (d:R b j=some r) (c:S b j=some x):g b'≠r:=z7u (h.top b') (h.row b j r x i d c).1 (by decide)
theorem kept {C:Nat->Prop} (h:VR w B g m n R S) (k:Fr C w w') (l:∀ b,¬ C (g b)) (o:∀ b j r,j<m->R b j=some r->¬ C r):VR w' B g m n R S :=
 ⟨fun b=>k.row (h.top b) (l b),h.gne,h.low,h.non,fun b j r x d c i=>⟨k.row (h.row b j r x d c i).1 (o b j r d c),(h.row b j r x d c i).2⟩,h.sep,h.sm⟩
theorem stored (h:VR w B g m n R S) {b:Bool} {j r:Nat} {x:VV} (v:j<m) (p:R b j=some r) (C:Fr (fun q=>q=r) w w') (E:w'.rowIs r 9 n (fun q=>.string (x q))) (D:∀ q,smS (x q)):VR w' B g m n R (updV S b j x):=by
 have l:∃ s,S b j=some s:=by
  cases A:S b j with
  | none=>have:=(h.non b j v).2 A;rw[p] at this;cases this
  | some s=>exact⟨s,rfl⟩
 obtain⟨s,l⟩:=l;refine⟨fun c=>C.row (h.top c) (h.topne v p l),h.gne,h.low,fun c i d=>?_,fun c i z u d k o=>?_,h.sep,fun c i u k=>?_⟩
 ·unfold updV;by_cases e:c=b/\i=j
  ·obtain⟨rfl,rfl⟩:=e;rw[if_pos ⟨rfl,rfl⟩,p];simp
  rw[if_neg e];exact h.non c i d
 ·unfold updV at o;by_cases e:c=b/\i=j
  ·obtain⟨rfl,rfl⟩:=e;rw[if_pos ⟨rfl,rfl⟩] at o;cases o;rw[p] at k;cases k;exact⟨E,(h.row c i r s v p l).2⟩
  rw[if_neg e] at o;refine⟨C.row (h.row c i z u d k o).1 (fun e2=>?_),(h.row c i z u d k o).2⟩;subst e2;exact e (h.sep c i b j z d v k p)
 unfold updV at k;by_cases e:c=b/\i=j
 ·rw[if_pos e] at k;cases k;exact D
 rw[if_neg e] at k;exact h.sm c i u k
theorem fresh (h:VR w B g m n R S) {b:Bool} {j r:Nat} {x:VV} (K:B<=w.heap.size) (L:w.heap.size<=r) (G:Fr (fun q=>q=g b) w w') (I:w'.rowIs r 9 n (fun q=>.string (x q))) (H:∀ q,smS (x q))
  (J:w'.rowIs (g b) 124 m (fun j'=>if j'=j then vrV n (some r) else vrV n (R b j'))):VR w' B g m n (fun b' j'=>if b'=b/\j'=j then some r else R b' j') (updV S b j x):=by
 have s:∀ b' j' k,j' < m->R b' j'=some k->k<w.heap.size:=fun b' j' k d c=>by
  cases u:S b' j' with
  | none=>have:=(h.non b' j' d).2 u;rw[c] at this;cases this
  | some x0=>exact(h.row b' j' k x0 d c u).1.lt
 refine⟨fun b'=>?_,h.gne,h.low,fun b' j' d=>?_,fun b' j' k E d c i=>?_,fun F D z C k o p c i=>?_,fun b' j' E c=>?_⟩
 ·by_cases e:b'=b
  ·subst e;refine J.congr (fun j' _=>?_);by_cases e:j'=j
   ·rw[if_pos e,if_pos ⟨rfl,e⟩]
   rw[if_neg e,if_neg (fun h=>e h.2)]
  refine(G.row (h.top b') (fun e2=>?_)).congr (fun j' _=>by rw[if_neg (fun h=>e h.1)]);have l:=h.gne;cases b'<;>cases b<;>first|exact e rfl|exact l e2|exact l e2.symm
 ·unfold updV;by_cases e:b'=b/\j'=j
  ·rw[if_pos e,if_pos e];simp
  rw[if_neg e,if_neg e];exact h.non b' j' d
 ·unfold updV at i;by_cases e:b'=b/\j'=j
  ·rw[if_pos e] at c i;cases c;cases i;exact⟨I,by omega⟩
  rw[if_neg e] at c i;have l:=h.row b' j' k E d c i;exact⟨G.row l.1 (fun e2=>z7u (h.top b) l.1 (by decide) e2.symm),l.2⟩
 ·by_cases v:F=b/\D=j
  ·by_cases e2:z=b/\C=j
   ·exact⟨v.1.trans e2.1.symm,v.2.trans e2.2.symm⟩
   rw[if_pos v] at c;rw[if_neg e2] at i;cases c;have:=s z C r p i;omega
  rw[if_neg v] at c;by_cases e2:z=b/\C=j
  ·rw[if_pos e2] at i;cases i;have:=s F D r o c;omega
  rw[if_neg e2] at i;exact h.sep F D z C k o p c i
 unfold updV at c;by_cases e:b'=b/\j'=j
 ·rw[if_pos e] at c;cases c;exact H
 rw[if_neg e] at c;exact h.sm b' j' E c
end VR
def AtE (B:Nat) (g:Bool->Nat) (m n:Nat) (S:Bool->Nat->Option VV) (R:Bool->Nat->Option Nat) (b:Bool) (j:Nat) (w:World) (r:Ending) (w':World):Prop :=
 ∃ R' r0,r=.returned (.slice (some ⟨r0,0,none⟩) n n)/\R' b j=some r0/\(∀ b' j',¬ (b'=b/\j'=j)->R' b' j'=R b' j')/\VR w' B g m n R' (updV S b j ((S b j).getD z3j))/\Fr (fun q=>q=g b) w w'
theorem y4k (q:Nat):smS (z3j q):=by show (⟨#[]⟩:ByteArray).size<=_;decide
theorem x5s {cb c8 B m j:Nat} {b:Bool} {g:Bool->Nat} {R:Bool->Nat->Option Nat} {S:Bool->Nat->Option VV} {D:MD} {a:Option Addr} {cap:Nat} {star:Value} {e:Nat} (w:World) (h:VR w B g m D.n R S) (K:Scl w cb D (.slice a D.n cap) star e)
  (h8:w.cell? ⟨c8,0,none⟩=some (.pointer (some ⟨cb,0,none⟩))) (J:j<m) (hB:B<=w.heap.size) (h1:1<=D.n) (hn:D.n<=3000) :
  Calls prog 81 #[.slice (some ⟨g b,0,none⟩) m m,.int .i64 (j:Int),.pointer (some ⟨c8,0,none⟩)] w (AtE B g m D.n S R b j w):=by
 have a3:(j:Int)<(m:Int):=by omega
 have Y:(0:Int)<=(j:Int):=by omega
 obtain⟨gb,i⟩:=exq (g b);have c0:=(h.top b).cell J;rw[<- i] at c0;cases C:R b j with
 | none =>
  have N:=fun w=>y2r 124 9 underlying124 w none 0 0;rw[show (none:Option Addr).isNone=true from rfl] at N;rw[C] at c0;have O:w.cell? ⟨gb,j,none⟩=some (.slice none 0 0):=c0;clear c0;have T:=qh (y5k w K h1 hn);have c:=qh h;clear h;have HS:=qh K;clear K;have E:=qh C;clear C;have k:=qh i;rw[<- i];clear i
  go_enter func81,ntmps81
  go_wp2_with fail
  refine T.out.mono ?_;rintro r I ⟨rfl,p,P,hz⟩;obtain⟨nb,z⟩:=exq (w.heap.size);rw[<- z] at p;rw[<- z];have l:I.rowIs gb 124 m (fun j=>vrV D.n (R b j)):=by rw[k.out];exact P.row (c.out.top b) (fun e=>e)
  have f0:=l.frozen j;have X:=l.cell J;have s:=l.set j (vrV D.n (some nb));have G:nb≠gb:=by have:=(c.out.top b).lt;rw[<- k.out] at this;omega
  have o:=p.setOther (a:=⟨gb,j,none⟩) G (vrV D.n (some nb));have u:=c.out.low b;rw[<- k.out] at u;have v:Fr (fun q=>q=g b) w (I.setCell ⟨gb,j,none⟩ (vrV D.n (some nb))):=(P.mono (fun _ _ e=>e.elim)).set (.inl k.out) _;have d:(I.setCell ⟨gb,j,none⟩ (vrV D.n (some nb))).rowIs (g b) 124 m (fun A=>if A=j then vrV D.n (some nb) else vrV D.n (R b A)):=by rw[<- k.out];exact s
  have H:=c.out.fresh (j:=j) hB (show w.heap.size<=nb by omega) v o y4k d;have W:=d.cell J;rw[if_pos rfl,<- k.out] at W;have a1:(I.setCell ⟨gb,j,none⟩ (.slice (some ⟨nb,0,none⟩) D.n D.n)).cell? ⟨gb,j,none⟩=some (.slice (some ⟨nb,0,none⟩) D.n D.n):=W;have F:=qh H;clear H;have U:=qh v;clear v;rw[E.out] at X;have a2:I.cell? ⟨gb,j,none⟩=some (.slice none 0 0):=X;clear l s o p P hz z d W X u G
  go_wp2_with fail
  go_ret;have L:(S b j).getD z3j=z3j:=by
   rw[(c.out.non b j J).1 E.out];rfl
  exact⟨_,nb,rfl,if_pos ⟨rfl,rfl⟩,fun Q A h=>if_neg h,by rw[L];exact F.out,U.out⟩
 | some r0 =>
  rw[C] at c0;have O:w.cell? ⟨gb,j,none⟩=some (.slice (some ⟨r0,0,none⟩) D.n D.n):=c0;clear c0;have N:=fun w=>y2r 124 9 underlying124 w (some ⟨r0,0,none⟩) D.n D.n;rw[show (some (⟨r0,0,none⟩:Addr)).isNone=false from rfl] at N;have c:=qh h;clear h;have E:=qh C;clear C;rw[<- i];have k:=qh i;clear i;clear K
  go_enter func81,ntmps81
  go_wp2_with fail
  go_ret;refine⟨R,r0,rfl,E.out,fun Q A _=>rfl,?_,Fr.refl _ _⟩;cases Z:S b j with
  | none=>have:=(c.out.non b j J).2 Z;rw[E.out] at this;cases this
  | some x =>
   have hu:updV S b j ((some x).getD z3j)=S:=by
    funext Q A
    unfold updV;by_cases e:Q=b/\A=j
    ·rw[if_pos e,e.1,e.2,Z];rfl
    rw[if_neg e]
   rw[hu];exact c.out
end
section
open Go.RowKit Go.Deep
theorem z0e {w:World} {g b n:Nat} {e t:TypeId} {f:Nat->Value} {cs:Array Value} {fr:Nat × Nat} (h:w.rowIs g e n f) (hb:w.heap[b]?=some (.cells cs t fr)) (d:t≠e):g≠b:=by
 rintro rfl;obtain⟨c,i,_⟩:=h;rw[i] at hb;simp at hb;exact d hb.2.1.symm
def Bx (w:World) (b:Nat) (t:TypeId) (v:Value):Prop:=w.heap[b]?=some (.cells #[v] t (0,0))
theorem Bx.cell {w:World} {b:Nat} {t:TypeId} {v:Value} (h:Bx w b t v):w.cell? ⟨b,0,none⟩=some v:=by unfold Bx at h;simp[World.cell?,h]
theorem Bx.lt {w:World} {b:Nat} {t:TypeId} {v:Value} (h:Bx w b t v):b<w.heap.size:=(Array.getElem?_eq_some_iff.1 h).1
theorem Bx.kept {w c:World} {b:Nat} {t:TypeId} {v:Value} {C:Nat->Prop} (h:Bx w b t v) (g:Fr C w c) (d:¬ C b):Bx c b t v:=(g.block b h.lt d).trans h
theorem Bx.ne {w:World} {b c:Nat} {t g:TypeId} {v v':Value} (h:Bx w b t v) (d:Bx w c g v') (i:t≠g):b≠c:=by
 rintro rfl;unfold Bx at h d;rw[h] at d;simp at d;exact i d.2
structure WE (w0 w:World) (cb c8 xb yb:Nat) (D:MD) (sv xv yv:Value) (e:Nat):Prop where
 hb:Below w0.heap.size w0 w
 sc:Scl w cb D sv (.slice none 0 0) e
 k8:Bx w c8 120 (.pointer (some ⟨cb,0,none⟩))
 kx:Bx w xb 27 xv
 ky:Bx w yb 27 yv
 lc:w0.heap.size<=cb
namespace WE
variable {w0 w w':World} {cb c8 xb yb:Nat} {D:MD} {sv xv yv:Value} {e:Nat}
theorem n8 (h:WE w0 w cb c8 xb yb D sv xv yv e):c8≠cb:=by rintro rfl;have d:=h.sc;have c:=h.k8;unfold Scl at d;unfold Bx at c;rw[d] at c;simp at c
theorem nx (h:WE w0 w cb c8 xb yb D sv xv yv e):xb≠cb:=by rintro rfl;have d:=h.sc;have c:=h.kx;unfold Scl at d;unfold Bx at c;rw[d] at c;simp at c
theorem ny (h:WE w0 w cb c8 xb yb D sv xv yv e):yb≠cb:=by rintro rfl;have d:=h.sc;have c:=h.ky;unfold Scl at d;unfold Bx at c;rw[d] at c;simp at c
theorem kept {C:Nat->Prop} (h:WE w0 w cb c8 xb yb D sv xv yv e) (c:Fr C w w') (g:¬ C cb) (k:¬ C c8) (d:¬ C xb) (i:¬ C yb) (j:∀ q,C q->w0.heap.size<=q):WE w0 w' cb c8 xb yb D sv xv yv e :=
 ⟨h.hb.trans (c.below h.hb.size j),h.sc.kept c g,h.k8.kept c k,h.kx.kept c d,h.ky.kept c i,h.lc⟩
theorem stepped {lb n k:Nat} {F:Nat->Value} (h:WE w0 w cb c8 xb yb D sv xv yv e) (d:Fr (fun q=>q=cb\/q=lb) w w') (o:Scl w' cb D sv (.slice none 0 0) k) (i:w.rowIs lb 9 n F) (j:w0.heap.size<=lb):WE w0 w' cb c8 xb yb D sv xv yv k:=by
 have g:∀ q,q≠cb->q≠lb->¬ (q=cb\/q=lb):=fun q a b c=>c.elim a b;exact⟨h.hb.trans (d.below h.hb.size (fun q l=>by rcases l with rfl|rfl;exact h.lc;exact j)),o,h.k8.kept d (g _ h.n8 (z0e i h.k8 (by decide)).symm),h.kx.kept d (g _ h.nx (z0e i h.kx (by decide)).symm),h.ky.kept d (g _ h.ny (z0e i h.ky (by decide)).symm),h.lc⟩
end WE
structure PWt (w0:World) (cb xb yb ib jb:Nat) (xv yv:Value) (i j:Nat) (w:World):Prop where
 hb:Below w0.heap.size w0 w
 kx:Bx w xb 27 xv
 ky:Bx w yb 27 yv
 ki:Bx w ib 3 (.int .i64 (i:Int))
 kj:Bx w jb 3 (.int .i64 (j:Int))
 nx:xb≠cb
 ny:yb≠cb
 ni:ib≠cb
 nj:jb≠cb
theorem PWt.fr {l wa z:World} {d o s p r lb i j:Nat} {u v:Value} (h:PWt l d o s p r u v i j wa) (g:Fr (fun q=>q=d\/q=lb) wa z) (B:l.heap.size<=d) (D:l.heap.size<=lb) (lx:o≠lb) (E:s≠lb) (F:p≠lb) (A:r≠lb):PWt l d o s p r u v i j z:=by
 have k:∀ q,q≠d->q≠lb->¬ (q=d\/q=lb):=fun q a b c=>c.elim a b;exact⟨h.hb.trans (g.below h.hb.size (fun q C=>by rcases C with rfl|rfl;exact B;exact D)),h.kx.kept g (k _ h.nx lx),h.ky.kept g (k _ h.ny E),h.ki.kept g (k _ h.ni F),h.kj.kept g (k _ h.nj A),h.nx,h.ny,h.ni,h.nj⟩
theorem x6g {d w:World} {g n:Nat} {c:Value} {x:Nat->Int} (i:Si none d c n x) (hb:Below d.heap.size d w) (h:Bx w g 27 c):BxI w g n x:=⟨c,h.cell,i.kept (z0c hb none)⟩
theorem tst2 {g:World} {u s l v k n i j:Nat} {p o:Value} {y:Nat->Int} (z:Si none g o n y) (A:j<n):TstA 85 #[.pointer (some ⟨l,0,none⟩),.pointer (some ⟨k,0,none⟩)] (sel2 (y j)) (PWt g u s l v k p o i j) :=
 ⟨u2f,fun r d i0 o0 s0 t0=>by
  have h:=u3y r (x6g z d.hb d.ky) d.kj.cell A i0 o0 s0 t0;rw[show ∀ a b c:Value,(#[a]++#[b,c]:Array Value)=#[a,b,c] from fun _ _ _=>rfl];exact h⟩
theorem tst3 {o:World} {r k v l u n i j:Nat} {g z:Value} {x:Nat->Int} (s:Si none o g n x) (hi:i<n):TstA 86 #[.pointer (some ⟨k,0,none⟩),.pointer (some ⟨l,0,none⟩)] (sel3 (x i)) (PWt o r k v l u g z i j) :=
 ⟨u1h,fun p d i0 o0 s0 t0=>by
  have h:=u4i p (x6g s d.hb d.kx) d.ki.cell hi i0 o0 s0 t0;rw[show ∀ a b c:Value,(#[a]++#[b,c]:Array Value)=#[a,b,c] from fun _ _ _=>rfl];exact h⟩
theorem tst4 {k:World} {A o u p s n r i j:Nat} {l v:Value} {x y:Nat->Int} (C:Si none k l n x) (hi:i<n) (B:Si none k v r y) (D:j<r):TstA 87 #[.pointer (some ⟨o,0,none⟩),.pointer (some ⟨p,0,none⟩),.pointer (some ⟨u,0,none⟩),.pointer (some ⟨s,0,none⟩)] (sel4 (x i) (y j)) (PWt k A o u p s l v i j) :=
 ⟨u0y,fun z g i0 o0 s0 t0=>by
  have h:=u5g z (x6g C g.hb g.kx) g.ki.cell hi (x6g B g.hb g.ky) g.kj.cell D i0 o0 s0 t0;rw[show ∀ a b c d e:Value,(#[a]++#[b,c,d,e]:Array Value)=#[a,b,c,d,e] from fun _ _ _ _ _=>rfl];exact h⟩
theorem y8v {S:Bool->Nat->Option VV} {b b':Bool} {j c:Nat} {x:VV} (h:¬ (b'=b/\c=j)):updV S b j x b' c=S b' c:=if_neg h
theorem z8u (S:Bool->Nat->Option VV) (b:Bool) (j:Nat) (x:VV):updV S b j x b j=some x:=if_pos ⟨rfl,rfl⟩
theorem y1n {D:MD} {b b':Bool} {j c:Nat} {sel:Int->Int->Bool} {v:VV} {s:RS} (h:¬ (b'=b/\c=j)):(z3y D b j sel v s).1 b' c=s.1 b' c:=if_neg h
theorem z9s (S:Bool->Nat->Option VV) (b:Bool) (j:Nat) (x y:VV):updV (updV S b j x) b j y=updV S b j y:=by
 funext b' j';unfold updV;by_cases e:b'=b/\j'=j<;>simp[e]
namespace VR
variable {w w':World} {B:Nat} {g:Bool->Nat} {m n:Nat} {R:Bool->Nat->Option Nat} {S:Bool->Nat->Option VV}
theorem gne_of (h:VR w B g m n R S) {q:Nat} {cs:Array Value} {t:TypeId} {fr:Nat × Nat} (c:w.heap[q]?=some (.cells cs t fr)) (d:t≠124) (b:Bool):g b≠q:=z0e (h.top b) c d
theorem rne_of (h:VR w B g m n R S) {q:Nat} {cs:Array Value} {t:TypeId} {fr:Nat × Nat} (k:w.heap[q]?=some (.cells cs t fr)) (l:t≠9) {b:Bool} {j r:Nat} (d:j<m) (i:R b j=some r):r≠q:=by
 cases c:S b j with
 | none=>have:=(h.non b j d).2 c;rw[i] at this;cases this
 | some x0=>exact z0e (h.row b j r x0 d i c).1 k l
theorem step2 {b:Bool} {j r A:Nat} {x:VV} (h:VR w B g m n R S) (z:j<m) (p:R b j=some r) (F:Fr (fun q=>q=A\/q=r) w w') (D:∀ b,g b≠A) (C:∀ b j r,j<m->R b j=some r->r≠A) (H:w'.rowIs r 9 n (fun q=>.string (x q))) (G:∀ q,smS (x q)):VR w' B g m n R (updV S b j x):=by
 have l:∃ s,S b j=some s:=by
  cases E:S b j with
  | none=>have:=(h.non b j z).2 E;rw[p] at this;cases this
  | some s=>exact⟨s,rfl⟩
 obtain⟨s,l⟩:=l;refine⟨fun c=>F.row (h.top c) (fun e=>e.elim (D c) (h.topne z p l)),h.gne,h.low,fun c i d=>?_,fun c i u v d k o=>?_,h.sep,fun c i v k=>?_⟩
 ·unfold updV;by_cases e:c=b/\i=j
  ·obtain⟨rfl,rfl⟩:=e;rw[if_pos ⟨rfl,rfl⟩,p];simp
  rw[if_neg e];exact h.non c i d
 ·unfold updV at o;by_cases e:c=b/\i=j
  ·obtain⟨rfl,rfl⟩:=e;rw[if_pos ⟨rfl,rfl⟩] at o;cases o;rw[p] at k;cases k;exact⟨H,(h.row c i r s z p l).2⟩
  rw[if_neg e] at o;refine⟨F.row (h.row c i u v d k o).1 (fun e2=>?_),(h.row c i u v d k o).2⟩
  rcases e2 with e2|e2
  ·exact C c i u d k e2
  subst e2;exact e (h.sep c i b j u d z k p)
 unfold updV at k;by_cases e:c=b/\i=j
 ·rw[if_pos e] at k;cases k;exact G
 rw[if_neg e] at k;exact h.sm c i v k
theorem same (h:VR w B g m n R S) (b:Bool) {j:Nat}:VR (w.setCell ⟨g b,j,none⟩ (vrV n (R b j))) B g m n R S:=by
 have v:Fr (fun q=>q=g b) w (w.setCell ⟨g b,j,none⟩ (vrV n (R b j))):=(Fr.refl (fun q=>q=g b) w).set (p:=⟨g b,j,none⟩) (.inl rfl) _;refine⟨fun c=>?_,h.gne,h.low,h.non,fun c s r l d o k=>⟨v.row (h.row c s r l d o k).1 (fun e=>z7u (h.top b) (h.row c s r l d o k).1 (by decide) e.symm),(h.row c s r l d o k).2⟩,h.sep,h.sm⟩;by_cases e:c=b
 ·subst e;exact((h.top c).set j _).congr (fun i _=>by
   by_cases e:i=j
   ·subst e;rw[if_pos rfl]
   rw[if_neg e])
 refine v.row (h.top c) (fun e2=>?_);have u:=h.gne;cases c<;>cases b<;>first|exact e rfl|exact u e2|exact u e2.symm
end VR
structure VR1 (w:World) (B g m n:Nat) (R:Nat->Option Nat) (S:Nat->Option VV):Prop where
 top:w.rowIs g 124 m (fun j=>vrV n (R j))
 low:B<=g
 non:∀ j,j<m->(R j=none↔S j=none)
 row:∀ j r x,j<m->R j=some r->S j=some x->w.rowIs r 9 n (fun q=>.string (x q))/\B<=r
 sep:∀ j j' r,j<m->j' < m->R j=some r->R j'=some r->j=j'
 sm:∀ j x,S j=some x->∀ q,smS (x q)
theorem VR.one {w:World} {B:Nat} {g:Bool->Nat} {m n:Nat} {R:Bool->Nat->Option Nat} {S:Bool->Nat->Option VV} (h:VR w B g m n R S) (b:Bool):VR1 w B (g b) m n (R b) (S b) :=
 ⟨h.top b,h.low b,h.non b,h.row b,fun j d r k l i c=>(h.sep b j b d r k l i c).2,h.sm b⟩
theorem VR1.kept {w d:World} {B g m n:Nat} {R:Nat->Option Nat} {S:Nat->Option VV} (h:VR1 w B g m n R S) (l:Fr (fun _=>False) w d):VR1 d B g m n R S :=
 ⟨l.row h.top (fun e=>e),h.low,h.non,fun j r x k i c=>⟨l.row (h.row j r x k i c).1 (fun e=>e),(h.row j r x k i c).2⟩,h.sep,h.sm⟩
theorem VR1.two {w l:World} {B g d m n:Nat} {R:Nat->Option Nat} {S:Nat->Option VV} (h:VR1 w B g m n R S) (u:Fr (fun _=>False) w l) (D:w.heap.size<=d) (C:B<=w.heap.size) (s:l.rowIs d 124 m (fun _=>.slice none 0 0)) :
  VR l B (fun b=>if b then d else g) m n (fun b=>if b then fun _=>none else R) (twoR S (fun _=>none)):=by
 have p:=h.kept u;have z:=h.top.lt;refine⟨fun b=>?_,?_,fun b=>?_,fun b j i=>?_,fun b j r x i c k=>?_,fun b j A v r i o c k=>?_,fun b j x c=>?_⟩
 ·cases b
  ·exact p.top
  exact s
 ·show g≠d;omega
 ·cases b
  ·exact h.low
  show B<=d;omega
 ·cases b
  ·exact h.non j i
  exact⟨fun _=>rfl,fun _=>rfl⟩
 ·cases b
  ·exact p.row j r x i c k
  cases c
 ·cases b<;>cases A
  ·exact⟨rfl,h.sep j v r i o c k⟩
  ·cases k
  ·cases c
  cases c
 cases b
 ·exact h.sm j x c
 cases c
end
section
open Go.RowKit Go.Deep
def BoxE (wr:World) (mb:Nat) (M:EM) (sv:Value):Prop:=wr.heap[mb]?=some (.cells #[sv,.int .i64 M.most] 24 (0,0))
theorem BoxE.c0 {wr:World} {c:Nat} {M:EM} {sv:Value} (h:BoxE wr c M sv):wr.cell? ⟨c,0,none⟩=some sv:=by unfold BoxE at h;simp[World.cell?,h]
theorem BoxE.c1 {wr:World} {c:Nat} {M:EM} {sv:Value} (h:BoxE wr c M sv):wr.cell? ⟨c,1,none⟩=some (.int .i64 M.most):=by unfold BoxE at h;simp[World.cell?,h]
theorem BoxE.lt {wr:World} {c:Nat} {M:EM} {sv:Value} (h:BoxE wr c M sv):c<wr.heap.size:=(Array.getElem?_eq_some_iff.1 h).1
theorem BoxE.kept {wr d:World} {c:Nat} {M:EM} {sv:Value} {z:Option Nat} (h:BoxE wr c M sv) (g:wr.grownBy d z) (i:some c≠z):BoxE d c M sv:=by
 unfold BoxE;rw[g.block c h.lt i];exact h
theorem BoxE.new (w:World) (M:EM) (sv:Value):BoxE (w.alloc (.cells #[sv,.int .i64 M.most] 24)) w.heap.size M sv:=heap_alloc_new w _
def EvE (M:EM) (w:World) (r:Ending) (w':World):Prop:=Below w.heap.size w w'/\((VE M/\r=.returned (.bool true))\/(¬ VE M/\r=.returned (.bool false)))
theorem y0a {M:EM} {v:Value} (w:World) (hM:Em none w v M) (hs:ESz M) (ht:Tab w):Calls prog 13 #[v] w (EvE M w):=by
 obtain⟨sv,rfl,hS⟩:=hM;obtain⟨a,a6,b,a1,A,A',C,C',rfl,ha,hc,hm,hb,S⟩:=hS.open;unfold maxLen at hm;clear hS;have k:=BoxE.new w M (.slice a M.n a6);have U:Below w.heap.size w (w.alloc (.cells #[.slice a M.n a6,.int .i64 M.most] 24)):=(Below.refl _ _).alloc (Nat.le_refl _) _;have e8:=hs.n;have e9:=hs.m0;have f0:=hs.m1;obtain⟨mo,e0⟩:=exq (M.most);have Z:=qh hs;clear hs;have HT:=qh ht;clear ht;have HA:=qh ha;clear ha;have HB:=qh hb;clear hb;have HR:=qh S;clear S;have m0:=k.c0;have m1:=k.c1;have e3:=qh k;clear k;have Q:=qh U;clear U;clear e0
 go_enter func13,ntmps13
 go_wp2_with fail
 all_goals first
  | (go_ret;exact⟨Q.out,.inr ⟨fun v=>by have h1:=v.n4;have h2:=v.m0;have h3:=v.m6;omega,rfl⟩⟩)
  | skip
 have X:M.n<=400/\0<=M.most/\M.most<=6:=by omega
 have L:=qh X;clear X;obtain⟨wm,a3⟩:=exq (w.alloc (.cells #[.slice a M.n a6,.int .i64 M.most] 24));rw[<- a3] at Q;rw[<- a3];clear a3 m0 m1 e3
 go_loopw [22] (fun i wr=>∃ q:Nat,q<=M.n/\i=.int .i64 (q:Int)/\(∀ l,l<q->EdOk (M.e l))/\Below w.heap.size w wr) (fun i _=>M.n-(intOf i).toNat)
 case atStart=>exact⟨0,Nat.zero_le _,rfl,fun l hl=>by omega,Q.out⟩
 obtain⟨q,hq,rfl,d2,a9⟩:=hrel;clear Q;have b5:=qh d2;clear d2;have B:=qh a9;clear a9;by_cases b7:q<M.n
 ·have e5:(q:Int)<(M.n:Int):=by omega
  have e4:(0:Int)<=(q:Int):=by omega
  obtain rfl:=HA.out (by omega);have Y:=(HB.out (by omega)).1;obtain⟨k1,k2,k3,k4,k5⟩:=HR.out q b7;have c0:=(B.out.cell (p:=⟨b,a1+q*3,none⟩) Y).trans k1;have c1:=(B.out.cell (p:=⟨b,a1+q*3+1,none⟩) Y).trans k2;have c2:=(B.out.cell (p:=⟨b,a1+q*3+2,none⟩) Y).trans k3;clear k1 k2 k3;have b2:=Z.out.f q;have c6:=Z.out.t q;obtain⟨d,hd⟩:=exq (M.e q);rw[<- hd] at c0 c1 c2 k4 k5 b2 c6;obtain⟨nf,G⟩:=exq (d.nf);obtain⟨nt,N⟩:=exq (d.nt);rw[<- G] at c0 k4 b2;rw[<- N] at c1 k5 c6;have c8:¬ EdOk d->¬ VE M:=fun h v=>h (by rw[hd];exact v.ok q b7);have I:=qh c8;clear c8;have d6:=qh k4;clear k4;have d4:=qh k5;clear k5;have HD:=qh hd;clear hd;have s:=qh G;clear G;have z:=qh N;clear N;obtain⟨wa,u⟩:=exq (wr.alloc (.cells #[.slice (A q) nf (C q),.slice (A' q) nt (C' q),.string d.w] 50));have a8:=B.out.alloc B.out.size (.cells #[.slice (A q) nf (C q),.slice (A' q) nt (C' q),.string d.w] 50);rw[<- u] at a8;have K:wa.heap[wr.heap.size]?=some (.cells #[.slice (A q) nf (C q),.slice (A' q) nt (C' q),.string d.w] 50 (0,0)):=by rw[u];exact heap_alloc_new wr _
  obtain⟨ab,a2⟩:=exq (wr.heap.size);rw[<- a2] at K;have o:=qh a8;clear a8;have H:=qh K;clear K;by_cases h6:(6:Int)<max (nf:Int) (nt:Int)
  ·have c:¬ (d.nf<=6/\d.nt<=6):=by rw[<- s.out,<- z.out];omega
   have P:=qh c;clear c
   go_wp2_with fail
   go_ret;rw[<- u];exact⟨o.out,.inr ⟨I.out (fun h=>P.out ⟨h.f6,h.t6⟩),rfl⟩⟩
  have d8:decide ((6:Int)<max (nf:Int) (nt:Int))=false:=by simp;omega
  have b6:nf<=6/\nt<=6:=by omega
  have a7:=qh b6;clear b6 h6;have hw:IntKind.i64.wrap ((nf:Int)+(nt:Int))=(nf:Int)+(nt:Int):=by rw[IntKind.wrap_i64];have:=a7.out;omega
  by_cases e7:(nf:Int)+(nt:Int)=0
  ·have c:¬ (0<d.nf+d.nt):=by rw[<- s.out,<- z.out];omega
   have P:=qh c;clear c
   go_wp2_with fail
   go_ret;rw[<- u];exact⟨o.out,.inr ⟨I.out (fun h=>P.out h.pos),rfl⟩⟩
  have b0:0<d.nf+d.nt:=by rw[<- s.out,<- z.out];omega
  have d7:=qh b0;clear b0;have b9:=z4s (sig:=500) wa (d6.out.kept (z0c o.out none)) (by omega);have b3:=qh b9;clear b9
  go_wp2_with fail
  rw[<- u,<- a2];clear hw d8 a2 u c0 c1 c2;refine b3.out.mono ?_;rintro r w1 ⟨rfl,a4⟩;have W:=o.out.trans (a4.mono o.out.size);have j:=(a4.block ab (lt_of_block H.out)).trans H.out;have e1:w1.cell? ⟨ab,1,none⟩=some (.slice (A' q) nt (C' q)):=by simp[World.cell?,j]
  have D:=qh W;clear W a4 o H b3;have g:=qh j;clear j;cases O:z3m nf d.f 500
  ·have c:=z2i.1 O;have P:=qh c;clear c O
   go_wp2_with fail
   go_ret;exact⟨D.out,.inr ⟨I.out (fun h=>P.out (by rw[s.out];exact h.fw)),rfl⟩⟩
  have c:=z1v.1 O;have d9:=qh c;clear c O;have c9:=z4s (sig:=500) w1 (d4.out.kept (z0c D.out none)) (by omega);have b4:=qh c9;clear c9
  go_wp2_with fail
  refine b4.out.mono ?_;rintro r w2 ⟨rfl,a5⟩;have T:=D.out.trans (a5.mono D.out.size);have F:=(a5.block ab (lt_of_block g.out)).trans g.out;have e2:w2.cell? ⟨ab,2,none⟩=some (.string d.w):=by simp[World.cell?,F]
  have E:=qh T;clear T a5 D g b4 e1 F;cases R:z3m nt d.t 500
  ·have c:=z2i.1 R;have P:=qh c;clear c R
   go_wp2_with fail
   go_ret;exact⟨E.out,.inr ⟨I.out (fun h=>P.out (by rw[z.out];exact h.tw)),rfl⟩⟩
  have c:=z1v.1 R;have d5:=qh c;clear c R;have b1:=x6n d.w w2 (by rw[HD.out];have:=Z.out.w q;omega) (HT.out.below E.out (Nat.le_refl _));have d0:=qh b1;clear b1
  go_wp2_with fail
  refine d0.out.mono ?_;rintro r w3 ⟨rfl,b8⟩;have d1:=qh (E.out.trans (b8.mono E.out.size));clear b8 E d0 e2;cases J:y3y d.w
  ·have c:¬ y6a d.w:=fun h=>by rw[z7q.2 h] at J;cases J
   have P:=qh c;clear c J
   go_wp2_with fail
   go_ret;exact⟨d1.out,.inr ⟨I.out (fun h=>P.out h.wt),rfl⟩⟩
  have c:=z7q.1 J;have d3:=qh c;clear c J
  go_wp2_with fail
  go_roundw
  case rel =>
   refine⟨q+1,by omega,by go_num,fun l hl=>?_,d1.out⟩;by_cases e:l=q
   ·subst e;rw[<- HD.out];exact⟨by rw[<- s.out];exact a7.out.1,by rw[<- z.out];exact a7.out.2,d7.out,by rw[<- s.out];exact d9.out,by rw[<- z.out];exact d5.out,d3.out⟩
   exact b5.out l (by omega)
  simp[intOf];omega
 have c7:q=M.n:=by omega
 have e6:¬ ((q:Int)<(M.n:Int)):=by omega
 have HQ:=qh c7;clear c7
 go_wp2_with fail
 go_ret;exact⟨B.out,.inl ⟨⟨L.out.1,L.out.2.1,L.out.2.2,fun i hi=>b5.out i (by rw[HQ.out];exact hi)⟩,rfl⟩⟩
end
section
open Go.RowKit Go.Deep
def gvs (n:Nat) (X:Nat->Value):List Value:=(List.range n).map X
theorem v1s (n:Nat) (X:Nat->Value):(gvs n X).length=n:=by simp[gvs]
theorem x3t (n:Nat) (X:Nat->Value) (i:Nat) (h:i<n):(gvs n X)[i]?=some (X i):=by simp[gvs,h]
theorem v7v (n:Nat) (X:Nat->Value):gvs n X++[X n]=gvs (n+1) X:=by simp[gvs,List.range_succ]
theorem x1r {n:Nat} {X Y:Nat->Value} (h:∀ i,i<n->X i=Y i):gvs n X=gvs n Y:=by
 unfold gvs;exact List.map_congr_left fun i hi=>by rw[h i (List.mem_range.1 hi)]
def OwV (w:World) (B:Nat) (e:TypeId) (v:Value) (n:Nat) (X:Nat->Value):Prop:=w.ownsRow B e 1 v n (gvs n X)
theorem OwV.congr {w:World} {B:Nat} {e:TypeId} {v:Value} {n:Nat} {X Y:Nat->Value} (h:OwV w B e v n X) (c:∀ i,i<n->X i=Y i):OwV w B e v n Y:=by
 unfold OwV;rw[<- x1r c];exact h
theorem OwV.kept {w c:World} {B:Nat} {e:TypeId} {v:Value} {n:Nat} {X:Nat->Value} {z:Option Nat} (h:OwV w B e v n X) (hb:w.grownBy c z) (g:∀ k,z=some k->k<B):OwV c B e v n X :=
 World.ownsRow.kept h hb (by
  cases d:v.ownBlock with
  | none=>exact .inl rfl
  | some k=>exact .inr (fun e=>by have:=(World.ownsRow.lt h k d).1;have:=g k e.symm;omega))
theorem OwV.set {w:World} {B:Nat} {e:TypeId} {g n cap:Nat} {X:Nat->Value} (h:OwV w B e (.slice (some ⟨g,0,none⟩) n cap) n X) {i:Nat} (hi:i<n) (x:Value) :
  OwV (w.setCell ⟨g,i,none⟩ x) B e (.slice (some ⟨g,0,none⟩) n cap) n (fun j=>if j=i then x else X j):=by
 refine⟨by rw[v1s,Nat.mul_one],?_⟩
 rcases h.2 with ⟨k,_⟩|⟨z,o,l,k,v,d,u,s,r,p⟩
 ·cases k
 cases k;refine .inr ⟨g,cap,l.setIfInBounds i x,rfl,v,by simp[World.setCell,Array.getElem?_modify,d],u,s,by simpa using r,?_⟩;rw[Nat.mul_one] at r p ⊢;refine List.ext_getElem? fun j=>?_;by_cases c:j<n
 ·rw[x3t _ _ _ c,List.getElem?_take_of_lt c,Array.getElem?_toList,Array.getElem?_setIfInBounds];by_cases e:i=j
  ·subst e;rw[if_pos rfl,if_pos (by omega),if_pos rfl]
  rw[if_neg e,if_neg (fun h=>e h.symm)];have:=x3t n X j c;rw[<- p,List.getElem?_take_of_lt c,Array.getElem?_toList] at this;exact this
 rw[List.getElem?_eq_none (by rw[List.length_take];omega),List.getElem?_eq_none (by rw[v1s];omega)]
structure OMV (w:World) (Z:Nat->Prop) (B:Nat) (eR eT:TypeId) (g n:Nat) (R:Nat->Value) (L:Nat->Nat) (X:Nat->Nat->Value):Prop where
 top:w.rowIs g eT n R
 base:B<=g
 zg:¬ Z g
 zlt:∀ b,Z b->b<w.heap.size
 row:∀ i,i<n->OwV w B eR (R i) (L i) (X i)
 far:∀ i,i<n->∀ b,(R i).ownBlock=some b->b≠g/\¬ Z b
 apart:∀ i j,i<n->j<n->i≠j->∀ b,(R i).ownBlock=some b->(R j).ownBlock≠some b
namespace OMV
variable {w w':World} {Z:Nat->Prop} {B:Nat} {eR eT:TypeId} {g n:Nat} {R:Nat->Value} {L:Nat->Nat} {X:Nat->Nat->Value}
theorem kept {z:Option Nat} (h:OMV w Z B eR eT g n R L X) (hb:w.grownBy w' z) (d:∀ k,z=some k->k<B):OMV w' Z B eR eT g n R L X :=
 ⟨h.top.of_block (hb.block g h.top.lt (fun e=>by have:=d g e.symm;have:=h.base;omega)),h.base,h.zg,fun b c=>Nat.lt_of_lt_of_le (h.zlt b c) hb.size,fun i hi=>(h.row i hi).kept hb d,h.far,h.apart⟩
theorem congr {c:Nat->Nat->Value} (h:OMV w Z B eR eT g n R L X) (k:∀ i j,i<n->j<L i->X i j=c i j):OMV w Z B eR eT g n R L c :=
 ⟨h.top,h.base,h.zg,h.zlt,fun i hi=>(h.row i hi).congr fun j d=>k i j hi d,h.far,h.apart⟩
theorem frozen (h:OMV w Z B eR eT g n R L X) (i:Nat):w.frozen? ⟨g,i,none⟩=false:=h.top.frozen i
theorem lt (h:OMV w Z B eR eT g n R L X):g<w.heap.size:=h.top.lt
theorem rowLt (h:OMV w Z B eR eT g n R L X) {i:Nat} (hi:i<n):∀ k,(R i).ownBlock=some k->B<=k/\k<w.heap.size:=World.ownsRow.lt (h.row i hi)
theorem stored (h:OMV w Z B eR eT g n R L X) {i j b cap:Nat} (hi:i<n) (r:j<L i) (d:R i=.slice (some ⟨b,0,none⟩) (L i) cap) (x:Value) :
  OMV (w.setCell ⟨b,j,none⟩ x) Z B eR eT g n R L (fun k l=>if k=i/\l=j then x else X k l):=by
 have o:=(h.far i hi b (by rw[d];rfl)).1;refine⟨h.top.setOther (by show g≠b;exact fun e=>o e.symm) _,h.base,h.zg,fun b hb=>by rw[nblk_setCell];exact h.zlt b hb,fun k c=>?_,h.far,h.apart⟩;by_cases e:k=i
 ·subst e;have:=h.row k c;rw[d] at this ⊢;exact(this.set r x).congr fun l _=>by simp
 refine OwV.congr (World.ownsRow.kept (h.row k c) ⟨rfl,rfl,rfl,by simp,fun q _ p=>blk_setCell_other _ _ _ _ (by show q≠b;intro e;exact p (by rw[e]))⟩ (row:=some b) (by
  cases hb:(R k).ownBlock with
  | none=>exact .inl rfl
  | some b'=>exact .inr (fun e2=>h.apart k i c hi e b' hb (by rw[d,Value.ownBlock];exact e2.symm)))) fun l _=>by simp[e]
end OMV
end
section
open Go.RowKit Go.Deep
def cat (c:Nat->List Value) (n:Nat):List Value:=(List.range n).flatMap c
theorem z5z (c:Nat->List Value) (n:Nat):cat c (n+1)=cat c n++c n:=by unfold cat;rw[List.range_succ,List.flatMap_append];simp
theorem y0r {c:Nat->List Value} {s:Nat} (hc:∀ i,(c i).length=s):∀ n,(cat c n).length=n*s
 | 0=>by simp[cat]
 | n+1=>by rw[z5z,List.length_append,y0r hc n,hc n,Nat.add_mul,Nat.one_mul]
theorem z6g {c d:Nat->List Value}:∀ {n:Nat},(∀ i,i<n->c i=d i)->cat c n=cat d n
 | 0,_=>rfl
 | n+1,h=>by rw[z5z,z5z,z6g (fun i hi=>h i (by omega)),h n (by omega)]
theorem y6t {c:Nat->List Value} {s:Nat} (hc:∀ i,(c i).length=s) {i j:Nat} (hj:j<s):∀ {n:Nat},i<n->(cat c n)[i*s+j]?=(c i)[j]?
 | 0,h=>by omega
 | n+1,h=>by
  rw[z5z];by_cases e:i=n
  ·subst e;rw[List.getElem?_append_right (by rw[y0r hc];omega),y0r hc,Nat.add_sub_cancel_left]
  have h1:i<n:=by omega
  have h2:i*s+j<n*s:=Nat.lt_of_lt_of_le (by rw[Nat.add_lt_add_iff_left];exact hj:i*s+j<i*s+s) (by rw[<- Nat.succ_mul];exact Nat.mul_le_mul_right s h1);rw[List.getElem?_append_left (by rw[y0r hc];exact h2)];exact y6t hc hj h1
theorem v2c {c:Nat->List Value} {s:Nat} (hc:∀ i,(c i).length=s) {i j:Nat} (hj:j<s) (x:Value):∀ {n:Nat},i<n->(cat c n).set (i*s+j) x=cat (fun k=>if k=i then (c i).set j x else c k) n
 | 0,h=>by omega
 | n+1,h=>by
  rw[z5z,z5z];by_cases e:i=n
  ·subst e;rw[List.set_append_right _ _ (by rw[y0r hc];omega),y0r hc,Nat.add_sub_cancel_left,if_pos rfl]
   congr 1
   exact z6g fun k hk=>by rw[if_neg (by omega)]
  have h1:i<n:=by omega
  have h2:i*s+j<n*s:=Nat.lt_of_lt_of_le (by rw[Nat.add_lt_add_iff_left];exact hj:i*s+j<i*s+s) (by rw[<- Nat.succ_mul];exact Nat.mul_le_mul_right s h1);rw[List.set_append_left _ _ (by rw[y0r hc];exact h2),v2c hc hj x h1,if_neg (fun e2=>e e2.symm)]
theorem u2b {w:World} {B:Nat} {e:TypeId} {s g n cap:Nat} {xs:List Value} (h:w.ownsRow B e s (.slice (some ⟨g,0,none⟩) n cap) n xs) (o:Nat) (x:Value) :
  (w.setCell ⟨g,o,none⟩ x).ownsRow B e s (.slice (some ⟨g,0,none⟩) n cap) n (xs.set o x):=by
 refine⟨by rw[List.length_set];exact h.1,?_⟩
 rcases h.2 with ⟨c,_⟩|⟨v,j,d,c,u,i,p,r,l,k⟩
 ·cases c
 cases c;refine .inr ⟨g,cap,d.setIfInBounds o x,rfl,u,by simp[World.setCell,Array.getElem?_modify,i],p,r,by simpa using l,?_⟩;rw[Array.toList_setIfInBounds,List.take_set,k]
theorem z9k {w:World} {B:Nat} {e:TypeId} {s g n cap o:Nat} {xs:List Value} {x:Value} (h:w.ownsRow B e s (.slice (some ⟨g,0,none⟩) n cap) n xs) (c:xs[o]?=some x):w.cell? ⟨g,o,none⟩=some x:=by
 have:=World.ownsRow.cells h (g:=g) rfl o _ c;rw[Addr.add_lit,Nat.zero_add] at this;exact this
theorem x4p {w:World} {B:Nat} {e:TypeId} {s g n cap:Nat} {xs:List Value} (h:w.ownsRow B e s (.slice (some ⟨g,0,none⟩) n cap) n xs) (o:Nat):w.frozen? ⟨g,o,none⟩=false:=by
 rcases h.2 with ⟨c,_⟩|⟨k,i,j,c,l,d,_⟩
 ·cases c
 cases c;simp[World.frozen?,d]
theorem y1w {w:World} {B:Nat} {e:TypeId} {s n:Nat} {v:Value} {xs:List Value} (h:w.ownsRow B e s v n xs) (hn:0<n):∃ g cap,v=.slice (some ⟨g,0,none⟩) n cap/\B<=g/\g<w.heap.size/\n<=cap/\cap<=maxLen:=by
 rcases h.2 with ⟨_,d⟩|⟨g,cap,i,rfl,d,c,j,k,_⟩
 ·omega
 exact⟨g,cap,rfl,d,(Array.getElem?_eq_some_iff.1 c).1,j,k⟩
theorem z5r {w:World} {B:Nat} {e:TypeId} {s n:Nat} {v:Value} {xs:List Value} (h:w.ownsRow B e s v n xs):∃ a cap,v=.slice a n cap/\n<=cap/\cap<=maxLen:=by
 rcases h.2 with ⟨rfl,c⟩|⟨g,cap,d,rfl,c,k,i,j,_⟩
 ·exact⟨none,0,by rw[c],by omega,Nat.zero_le _⟩
 exact⟨_,cap,rfl,i,j⟩
theorem u0d {w:World} {B z:Nat} {e k:TypeId} {s C n u:Nat} {v v':Value} {xs d:List Value} (h:w.ownsRow B e s v n xs) (D:w.ownsRow z k C v' u d) (r:e≠k) {b:Nat} (hb:v.ownBlock=some b):v'.ownBlock≠some b:=by
 rcases h.2 with ⟨rfl,_⟩|⟨g,A,o,rfl,_,i,_⟩
 ·cases hb
 rcases D.2 with ⟨rfl,_⟩|⟨E,l,j,rfl,_,c,_⟩
 ·simp[Value.ownBlock]
 simp[Value.ownBlock] at hb ⊢;intro p;subst hb;subst p;rw[i] at c;simp at c;exact r c.2
theorem z2g {w c:World} {B:Nat} {e:TypeId} {s n:Nat} {v:Value} {xs:List Value} {z:Option Nat} (h:w.ownsRow B e s v n xs) (d:w.grownBy c z) (i:∀ b,v.ownBlock=some b->z≠some b):c.ownsRow B e s v n xs :=
 World.ownsRow.kept h d (by
  cases g:v.ownBlock with
  | none=>exact .inl rfl
  | some b=>exact .inr (fun e=>i b g e.symm))
theorem y1r {w:World} {B:Nat} {e:TypeId} {s n:Nat} {v:Value} {xs:List Value} (h:w.ownsRow B e s v n xs) {p:Addr} (d:v.ownBlock≠some p.block) (x:Value):(w.setCell p x).ownsRow B e s v n xs :=
 z2g h (z:=some p.block) ⟨rfl,rfl,rfl,by simp,fun q _ c=>blk_setCell_other _ _ _ _ (fun e=>c (by rw[e]))⟩ (fun b hb e=>d (by rw[hb,e]))
def arc4 (D:MD) (i k:Nat):List Value:=[.int .i64 (D.ain i k),.int .i64 (D.aout i k),.string (D.aw i k),.int .i64 (D.ato i k)]
def st2 (D:MD) (R:Nat->Value) (i:Nat):List Value:=[.string (D.fin i),R i]
structure OwM (w:World) (B:Nat) (sv:Value) (D:MD) (R:Nat->Value):Prop where
 top:w.ownsRow B 87 2 sv D.n (cat (st2 D R) D.n)
 row:∀ i,i<D.n->w.ownsRow B 83 4 (R i) (D.na i) (cat (arc4 D i) (D.na i))
 apart:∀ i j,i<D.n->j<D.n->i≠j->∀ b,(R i).ownBlock=some b->(R j).ownBlock≠some b
def v8x (kd:Int) (start:Int) (lead:ByteArray):MD:=⟨kd,start,lead,0,fun _=>⟨#[]⟩,fun _=>0,fun _ _=>0,fun _ _=>0,fun _ _=>⟨#[]⟩,fun _ _=>0⟩
def MD.state (D:MD) (f:ByteArray):MD:={ D with n:=D.n+1,fin:=fun i=>if i=D.n then f else D.fin i,na:=fun i=>if i=D.n then 0 else D.na i }
def MD.arc (D:MD) (q:Nat) (a b:Int) (x:ByteArray) (t:Int):MD :=
 { D with
  na:=fun i=>if i=q then D.na q+1 else D.na i
  ain:=fun i k=>if i=q/\k=D.na q then a else D.ain i k
  aout:=fun i k=>if i=q/\k=D.na q then b else D.aout i k
  aw:=fun i k=>if i=q/\k=D.na q then x else D.aw i k
  ato:=fun i k=>if i=q/\k=D.na q then t else D.ato i k }
theorem v7e (D:MD) (i k:Nat):(arc4 D i k).length=4:=rfl
theorem x4c (D:MD) (R:Nat->Value) (i:Nat):(st2 D R i).length=2:=rfl
theorem OwM.empty (w:World) (B:Nat) (kd d:Int) (c:ByteArray) (R:Nat->Value):OwM w B (.slice none 0 0) (v8x kd d c) R :=
 ⟨World.ownsRow_nil w B _ 2,fun _ hi=>absurd hi (Nat.not_lt_zero _),fun _ _ hi=>absurd hi (Nat.not_lt_zero _)⟩
namespace OwM
variable {w w':World} {B:Nat} {sv:Value} {D:MD} {R:Nat->Value}
theorem kept {z:Option Nat} (h:OwM w B sv D R) (c:w.grownBy w' z) (d:∀ k,z=some k->k<B):OwM w' B sv D R :=
 ⟨z2g h.top c (fun b hb e=>by have:=d b e;have:=(World.ownsRow.lt h.top b hb).1;omega),
  fun i hi=>z2g (h.row i hi) c (fun b hb e=>by have:=d b e;have:=(World.ownsRow.lt (h.row i hi) b hb).1;omega),h.apart⟩
theorem other (h:OwM w B sv D R) {p:Addr} (d:sv.ownBlock≠some p.block) (c:∀ i,i<D.n->(R i).ownBlock≠some p.block) (v:Value):OwM (w.setCell p v) B sv D R :=
 ⟨y1r h.top d v,fun i hi=>y1r (h.row i hi) (c i hi) v,h.apart⟩
theorem tne (h:OwM w B sv D R) {i:Nat} (hi:i<D.n) {b:Nat} (hb:(R i).ownBlock=some b):sv.ownBlock≠some b :=
 u0d (h.row i hi) h.top (by decide) hb
theorem fin_cell {g cap:Nat} (h:OwM w B (.slice (some ⟨g,0,none⟩) D.n cap) D R) {i:Nat} (hi:i<D.n):w.cell? ⟨g,i*2,none⟩=some (.string (D.fin i)) :=
 z9k h.top (by have:=y6t (x4c D R) (i:=i) (j:=0) (by omega) hi;rw[Nat.add_zero] at this;rw[this];rfl)
theorem arcs_cell {g cap:Nat} (h:OwM w B (.slice (some ⟨g,0,none⟩) D.n cap) D R) {i:Nat} (hi:i<D.n):w.cell? ⟨g,i*2+1,none⟩=some (R i) :=
 z9k h.top (by rw[y6t (x4c D R) (i:=i) (j:=1) (by omega) hi];rfl)
theorem sts (h:OwM w B sv D R):StS none w sv D:=by
 by_cases r:D.n=0
 ·obtain⟨a,l,o,_,d⟩:=z5r h.top;exact .inl ⟨r,a,l,by rw[o,r],d⟩
 obtain⟨g,l,rfl,_,A,F,z⟩:=y1w h.top (by omega);refine .inr ⟨g,0,l,R,rfl,⟨A,by simp⟩,F,z,fun i hi=>⟨by rw[Nat.zero_add];exact h.fin_cell hi,by rw[Nat.zero_add];exact h.arcs_cell hi,?_⟩⟩;have p:=h.row i hi;by_cases s:D.na i=0
 ·obtain⟨a,c,o,_,d⟩:=z5r p;exact .inl ⟨s,a,c,by rw[o,s],d⟩
 obtain⟨b,c,o,_,hb,v,u⟩:=y1w p (by omega);rw[o] at p;refine .inr ⟨b,0,c,o,⟨hb,by simp⟩,v,u,fun k C=>?_⟩;have d:∀ j x,j<4->(arc4 D i k)[j]?=some x->w.cell? ⟨b,k*4+j,none⟩=some x:=fun j x G E=>z9k p (by rw[y6t (v7e D i) G C];exact E);rw[Nat.zero_add];exact⟨d 0 _ (by omega) rfl,d 1 _ (by omega) rfl,d 2 _ (by omega) rfl,d 3 _ (by omega) rfl⟩
theorem state {c:Value} {o:Obj} {f:ByteArray} (h:OwM w B sv D R) (r:w'.ownsRow B 87 2 c (D.n+1) (cat (st2 D R) D.n++[.string f,.slice none 0 0])) (p:(w.alloc o).grownBy w' sv.ownBlock) :
  OwM w' B c (D.state f) (fun i=>if i=D.n then .slice none 0 0 else R i):=by
 refine⟨?_,fun i hi=>?_,fun i j hi u g b hb=>?_⟩
 ·have e:cat (st2 (D.state f) (fun i=>if i=D.n then .slice none 0 0 else R i)) (D.n+1)=cat (st2 D R) D.n++[.string f,.slice none 0 0]:=by
   rw[z5z]
   congr 1
   ·exact z6g fun i hi=>by simp[st2,MD.state,show i≠D.n by omega]
   simp[st2,MD.state]
  show w'.ownsRow B 87 2 c (D.n+1) (cat _ (D.n+1));rw[e];exact r
 ·by_cases e:i=D.n
  ·subst e;show w'.ownsRow B _ 4 (if D.n=D.n then _ else _) (if D.n=D.n then 0 else D.na D.n) (cat (arc4 (D.state f) D.n) (if D.n=D.n then 0 else D.na D.n))
   rw[if_pos rfl,if_pos rfl];exact World.ownsRow_nil w' B 83 4
  have d:i<D.n:=by have:i<D.n+1:=hi;omega
  show w'.ownsRow B _ 4 (if i=D.n then _ else R i) (if i=D.n then 0 else D.na i) (cat (arc4 D i) (if i=D.n then 0 else D.na i))
  rw[if_neg e,if_neg e];exact z2g (World.ownsRow.alloc (h.row i d) o) p (fun b hb=>h.tne d hb)
 have d:i<D.n+1:=hi;have s:j<D.n+1:=u;by_cases k:i=D.n
 ·simp only[if_pos k] at hb;cases hb
 simp only[if_neg k] at hb;by_cases l:j=D.n
 ·simp only[if_pos l];simp[Value.ownBlock]
 simp only[if_neg l];exact h.apart i j (by omega) (by omega) g b hb
theorem arc {g cap q:Nat} {v':Value} {o:Obj} {a b t:Int} {x:ByteArray} (h:OwM w B (.slice (some ⟨g,0,none⟩) D.n cap) D R) (v:q<D.n)
  (J:w'.ownsRow B 83 4 v' (D.na q+1) (cat (arc4 D q) (D.na q)++[.int .i64 a,.int .i64 b,.string x,.int .i64 t])) (E:(w.alloc o).grownBy w' (R q).ownBlock)
  (u:∀ c,v'.ownBlock=some c->(R q).ownBlock=some c\/w.heap.size<=c) :
  OwM (w'.setCell ⟨g,q*2+1,none⟩ v') B (.slice (some ⟨g,0,none⟩) D.n cap) (D.arc q a b x t) (fun i=>if i=q then v' else R i):=by
 have H:w'.ownsRow B 87 2 (.slice (some ⟨g,0,none⟩) D.n cap) D.n (cat (st2 D R) D.n):=z2g (World.ownsRow.alloc h.top o) E (fun c l e=>h.tne v e.symm.symm l);have I:v'.ownBlock≠some g:=fun e=>by
  rcases u g e with s|s
  ·exact h.tne v s rfl
  have:=(World.ownsRow.lt h.top g rfl).2;omega
 refine⟨?_,fun i hi=>?_,fun i j hi z r c l=>?_⟩
 ·have C:=u2b H (q*2+1) v';rw[v2c (x4c D R) (by omega) _ v,z6g (d:=st2 (D.arc q a b x t) (fun i=>if i=q then v' else R i)) (fun i hi=>by
   by_cases e:i=q
   ·subst e;rw[if_pos rfl];simp[st2,MD.arc]
   rw[if_neg e];simp[st2,MD.arc,e])] at C
  exact C
 ·by_cases e:i=q
  ·subst e;show World.ownsRow _ B _ 4 (if i=i then v' else R i) (if i=i then D.na i+1 else D.na i) (cat _ (if i=i then D.na i+1 else D.na i))
   rw[if_pos rfl,if_pos rfl,z5z,z6g (d:=arc4 D i) (fun k G=>by simp[arc4,MD.arc,show k≠D.na i by omega])];have e2:arc4 (D.arc i a b x t) i (D.na i)=[.int .i64 a,.int .i64 b,.string x,.int .i64 t]:=by simp[arc4,MD.arc]
   rw[e2];exact y1r J (by exact I) _
  show World.ownsRow _ B _ 4 (if i=q then v' else R i) (if i=q then D.na q+1 else D.na i) (cat _ (if i=q then D.na q+1 else D.na i))
  rw[if_neg e,if_neg e,z6g (d:=arc4 D i) (fun k G=>by simp[arc4,MD.arc,e])];exact y1r (p:=⟨g,q*2+1,none⟩) (z2g (World.ownsRow.alloc (h.row i hi) o) E (fun c l e2=>h.apart i q hi v e c l e2)) (fun e2=>h.tne hi e2 rfl) v'
 by_cases A:i=q
 ·subst A;simp only[if_pos] at l;simp only[if_neg (fun e:j=i=>r e.symm)]
  rcases u c l with s|s
  ·exact h.apart i j hi z r c s
  intro e2;have:=(World.ownsRow.lt (h.row j z) c e2).2;omega
 simp only[if_neg A] at l;by_cases F:j=q
 ·subst F;simp only[if_pos];intro e2
  rcases u c e2 with s|s
  ·exact h.apart i j hi z r c l s
  have:=(World.ownsRow.lt (h.row i hi) c l).2;omega
 simp only[if_neg F];exact h.apart i j hi z r c l
end OwM
end
end Go.Proofs.YtjekapjbigfkbaaGreatDoor
