/- Parts. -/
import Derived.Test.YtpldocnhbdlgfaaGreatDoorPb15
import Derived.Test.YtpldocnhbdlgfaaGreatDoorPb05
namespace Go.Proofs.YtpldocnhbdlgfaaGreatDoor
set_option maxRecDepth 100000
set_option linter.all false
set_option maxHeartbeats 16000000
open Go Tryz
section
open Go.RowKit Go.Deep Go.Maps Go.WideMaps
def Sq(k:Int)(n:Nat)(L:Nat->Nat)(X:Nat->Nat->ByteArray):Prop:=∀i,i<n->L i=n/\∀j,j<n->Ak k (X i j)=true
def Sq.mat{k:KK}{n:Nat}{L:Nat->Nat}{X:Nat->Nat->ByteArray}(h:Sq k.1 n L X):MatIs 0 n X (λi j=>wval k (X i j)):=λi j hi c=>IL ((h i hi).2 j c)
end
section
open Go.RowKit Go.Deep
def TestE(p:Prop)(w:World)(r:Ending)(w':World):Prop:=∃b:Bool,r=.returned (.bool b)/\(b=true↔p)/\Below w.heap.size w w'
def Uo{k0:Int}{n:Nat}{L:Nat->Nat}{X:Nat->Nat->ByteArray}{v:Value}(w:World)(hA:Mt none w v n L X)(hz:∀i j,(X i j).size<=maxLen)(P:Prop)(G:P↔(Au k0=true/\Sq k0 n L X)):
  Calls prog 156 #[.int .i64 k0,v] w (TestE P w):=by
 replace G:=qh G;obtain⟨a,a8,b,R,A,C,BB,O,rfl,Z,hc,hm,hb,s⟩:=hA.open;unfold maxLen at hm;clear hA;replace hz:=qh hz;replace Z:=qh Z;replace hb:=qh hb;replace s:=qh s;have m:=Gl k0 w;cases S:Au k0
 ·rw[S]at m;have U:=qh m;clear m
  go_enter func156,ntmps156
  go_wp2_with fail
  refine U.o.mono ?_;rintro r w1⟨rfl,rfl⟩;go_wp2;go_ret;exact⟨false,rfl,⟨(λh=>by cases h),λh=>absurd (G.o.1 h).1 (by rw[S];simp)⟩,blr⟩
 rw[S]at m;have U:=qh m;clear m
 go_enter func156,ntmps156
 go_wp2_with fail
 refine U.o.mono ?_;rintro r w1⟨rfl,rfl⟩
 go_wp2_with fail
 go_loopw [5] (λi wr=>∃q:Nat,q<=n/\i=.int .i64 (q:Int)/\(∀l,l<q->L l=n/\∀j,j<n->Ak k0 (X l j)=true)/\Below w.heap.size w wr) (λi _=>n-(intOf i).toNat)
 case atStart=>exact⟨0,Nat.zero_le _,rfl,λj hj=>by omega,blr⟩
 obtain⟨q,hq,rfl,z,o⟩:=hrel;replace z:=qh z;have c:=qh o;clear o;by_cases F:q<n
 ·have b0:(q:Int)<(n:Int):=by omega
  have a7:(0:Int)<=(q:Int):=by omega
  obtain rfl:=Z.o (by omega);have K:=(hb.o (by omega)).1;obtain⟨k1,k2,k3,k4,k5,_,T⟩:=s.o q F;have c0:=(c.o.cell (p:=(Ad b (R+q))) K).trans k1;unfold maxLen at k3;by_cases Y:L q=n
  ·have J:((L q:Int)==(n:Int))=true:=by simp;omega
   rw[Y]at c0 k4 k5 T k1 J;obtain Q:=k4 (by omega);have a1:=(k5 (by omega)).1;rw[Q]at c0 k1;replace T:=qh T;clear k4 k5 Q;replace k1:=qh k1
   go_wp2_with fail
   go_loopw [6] (λi wr=>∃d:Nat,d<=n/\i=.int .i64 (d:Int)/\(∀j,j<d->Ak k0 (X q j)=true)/\Below w.heap.size w wr) (λi _=>n-(intOf i).toNat)
   case atStart=>exact⟨0,Nat.zero_le _,rfl,λj hj=>by omega,c.o⟩
   obtain⟨d,hd,rfl,g,o⟩:=hrel;clear c c0;replace g:=qh g;have c:=qh o;clear o;by_cases D:d<n
   ·have a9:(d:Int)<(n:Int):=by omega
    have a6:(0:Int)<=(d:Int):=by omega
    obtain⟨x,I⟩:=exq<|X q d;have c0:=(c.o.cell (p:=(Ad b (R+q))) K).trans k1.o;have c1:=(c.o.cell (p:=(Ad (BB q) (O q+d))) a1).trans (T.o d D);rw[<-I]at c1;have B:=hz.o q d;rw[<-I]at B;have H:=CL k0 x wr (by unfold maxLen at B;exact B);clear B;replace I:=qh I;cases k:Ak k0 x
    ·rw[k]at H;have W:=qh H;clear H
     go_wp2_with fail
     refine W.o.mono ?_;rintro r w2⟨rfl,u⟩;clear c0 c1;go_wp2;go_ret;exact⟨false,rfl,⟨(λh=>by cases h),λh=>by have:=((G.o.1 h).2 q F).2 d D;rw[<-I.o,k]at this;exact absurd this (by simp)⟩,c.o.trans (u.mono c.o.size)⟩
    rw[k]at H;have W:=qh H;clear H
    go_wp2_with fail
    refine W.o.mono ?_;rintro r w2⟨rfl,u⟩;clear c0 c1;have N:=c.o.trans<|u.mono c.o.size;clear u;go_wp2;go_roundw
    case rel =>
     refine⟨d+1,by omega,by go_num,λj hj=>?_,N⟩
     rcases Nat.lt_succ_iff_lt_or_eq.1 hj with E|E
     ·exact g.o j E
     subst E;rw[<-I.o];exact k
    simp[intOf];omega
   have a2:d=n:=by omega
   subst a2;have a4:¬((d:Int)<(d:Int)):=by omega
   go_wp2;go_roundw
   case rel =>
    refine⟨q+1,by omega,by go_num,λl hl=>?_,c.o⟩
    rcases Nat.lt_succ_iff_lt_or_eq.1 hl with E|E
    ·exact z.o l E
    subst E;exact⟨Y,g.o⟩
   simp[intOf];omega
  have J:((L q:Int)==(n:Int))=false:=by simp;omega
  go_wp2;go_ret;exact⟨false,rfl,⟨(λh=>by cases h),λh=>absurd ((G.o.1 h).2 q F).1 Y⟩,c.o⟩
 have a5:q=n:=by omega
 subst a5;have a4:¬((q:Int)<(q:Int)):=by omega
 go_wp2;go_ret;exact⟨true,rfl,⟨λ_=>G.o.2 ⟨S,z.o⟩,λ_=>rfl⟩,c.o⟩
end
section
open CSR
variable{m:Nat}{x y z:List Int}
section
variable{R:Type}[CSR R]
def Wd(m:Nat)(z:List Int):Prop:=∀a ∈ z,∃i:Nat,i<m/\a=(i:Int)+1
def Wd.tail{a:Int}(h:Wd m (a::z)):Wd m z:=λb hb=>h b (by simp[hb])
theorem Qy{m:Nat}:∀(x:List Int),Wd m x->∀(L:Nat),x.length<=L->∀{G:List Int->R},(∀z,z≠x->G z=zero)->ws m L G=G x
 | [],_,L,_,G,h=>Qx h L
 |a::t,hw,0,hl,G,h=>absurd hl (by simp)
 |a::t,hw,L+1,hl,G,h=>by
  obtain⟨i,hi,rfl⟩:=hw a (by simp);show G []+sum (λi=>ws m L (λz=>G (((i:Int)+1)::z))) m=_;rw[h [] (by simp),z0,sum_single _ hi (λj _ hj=>(BO L (λz=>h _ (λe=>hj (by
   have h1:=(List.cons.inj e).1;omega)))).trans (Di L))]
  exact Qy t hw.tail L (by simp at hl;omega) (λz hz=>h _ (λe=>hz (List.cons.inj e).2))
variable[CSC R]
theorem IsCmp.alone{f g:List Int->List Int->R}{v:R}(h:IsCmp m f g x y v)(i:Wd m z)(hf:∀z',z'≠z->f x z'=zero):v=f x z*g z y:=by
 have e:∀L,z.length<=L->ws m L (λz'=>f x z'*g z' y)=f x z*g z y:=λL d=>Qy z i L d (λz' c=>by rw[hf z' c,zm]);refine le_anti (h.2 _ (λL=>?_)) ?_
 ·rw[<-e (max L z.length) (Nat.le_max_right _ _)];exact QA (Nat.le_max_left _ _) _
 rw[<-e z.length nlr];exact h.1 z.length
def IsCmp.none{f g:List Int->List Int->R}{v:R}(h:IsCmp m f g x y v)(hf:∀z',f x z'=zero):v=zero:=by
 refine le_anti (h.2 _ (λL=>?_)) (zero_le _);show le (ws m L (λz=>f x z*g z y)) zero;rw[BO L (λz=>by rw[hf z,zm]),Di];exact le_refl _
structure LineR(W:RM R)(X:Nat->Int)(n:Nat):Prop where
 nn:W.n=n+1
 start:W.start=0
 lead:W.lead=one
 fin:∀q,q<n->W.fin q=zero
 finN:W.fin n=one
 na:∀q,q<n->W.na q=1
 naN:W.na n=0
 arc:∀q,q<n->W.ain q 0=X q/\W.aout q 0=X q/\W.aw q 0=one/\W.ato q 0=q+1
theorem LineR.unr{W:RM R}{X:Nat->Int}{n:Nat}(h:LineR W X n)(hX:∀i,i<n->X i≠0):∀N q,q<=n->∀x z,Go.Proofs.YtpldocnhbdlgfaaGreatDoor.unr W N q x z=if n<q+N/\x=ls X n q/\z=ls X n q then one else zero
 |0,q,hq,x,z=>by rw[ifn (by omega)];rfl
 |N+1,q,hq,x,z=>by
  show endT W q x z+sum (λk=>arcT W (Go.Proofs.YtpldocnhbdlgfaaGreatDoor.unr W N) q k x z) (W.na q)=_;by_cases e:q=n
  ·subst e;rw[h.naN,JS nlr];show (if x=[]/\z=[] then W.fin q else zero)+zero=_
   rw[a0,h.finN];by_cases h1:x=[]/\z=[]
   ·rw[ifp h1,ifp ⟨by omega,h1⟩]
   rw[ifn h1,ifn (λe=>h1 e.2)]
  have hlt:q<n:=by omega
  obtain⟨a1,a2,a3,a4⟩:=h.arc q hlt;have e0:endT W q x z=zero:=by unfold endT;rw[h.fin q hlt];split<;>rfl
  rw[h.na q hlt,e0,z0];show zero+arcT W (Go.Proofs.YtpldocnhbdlgfaaGreatDoor.unr W N) q 0 x z=_;rw[z0,DN,a1,a2,a3,a4,o1,Tj (λa b=>LineR.unr h hX N (q+1) (by omega) a b),JR hlt];cases h1:red (X q) x with
  |none =>
   rw[ifn (λe=>by rw[e.2.1,Fq (hX q hlt)]at h1;cases h1)];rfl
  |some a =>
   have ha:=(Ow (hX q hlt)).1 h1;cases h2:red (X q) z with
   |none =>
    rw[ifn (λe=>by rw[e.2.2,Fq (hX q hlt)]at h2;cases h2)];rfl
   |some b =>
    have hb:=(Ow (hX q hlt)).1 h2;subst ha hb;show (if n<q+1+N/\a=ls X n (q+1)/\b=ls X n (q+1) then one else zero)=_
    simp only[List.cons.injEq,true_and,show q+1+N=q+(N+1) by omega]
theorem LineR.rel{W:RM R}{X:Nat->Int}{n:Nat}(h:LineR W X n)(d:∀i,i<n->X i≠0)(c:Inn W)(x z:List Int):Go.Proofs.YtpldocnhbdlgfaaGreatDoor.rel W x z=if x=ls X n 0/\z=ls X n 0 then one else zero:=by
 have l:=(Ii c (by rw[h.start,h.nn];omega) x z).shift (λN=>le_times _ (Dv W N _ _ _)) (n+1);refine Lub.eq l ((Lub.const _).congr (λN=>?_));rw[h.lead,h.start,o1,h.unr d (N+(n+1)) 0 nzl x z];by_cases e:x=ls X n 0/\z=ls X n 0
 ·rw[ifp e,ifp ⟨by omega,e⟩]
 rw[ifn e,ifn (λk=>e k.2)]
end
end
section
open Go.RowKit Go.Deep
variable{a:Act}{w:World}{v:Value}{g i:Nat}
section
variable{P:Program}{ops:Array Oper}{Q:Exit->Act->World->Prop}{S:World->Prop}{s:List Nat}
def AnyL(P:Program)(ops:Array Oper)(Q:Exit->Act->World->Prop)(S:World->Prop)(s:List Nat):Nat->Array Bool->Act->World->Prop
 |0,listed,a,w=>Region.ready .any ops listed=[]/\Q .normal a w
 |fuel+1,listed,a,w=>(Region.ready .any ops listed=[]->Q .normal a w)/\
  ∀i ∈ Region.ready .any ops listed,wpOp P ops Q i (λa' w'=>(i ∈ s\/S w')/\AnyL P ops Q S s fuel (listed.setIfInBounds i true) a' w') a w
theorem AnyL.any:∀(fuel:Nat) (listed:Array Bool) (a:Act) (w:World),AnyL P ops Q S s fuel listed a w->wpAny P .any ops Q fuel listed a w
 |0,_,_,_,h=>h
 |fuel+1,_,_,_,h=>⟨h.1,λi hi=>wpOp_mono (λa' w' h'=>AnyL.any fuel _ a' w' h'.2) (h.2 i hi)⟩
def AnyL.first{G:Oper}(hi:ops[i]?=some G)(C:∀(j:Nat) (o:Oper) cs b,ops[j]?=some o->o.op≠.select cs b)
  (hQ:∀c a w,Q (.panic c) (a.put G.dst v) w->Q (.panic c) a w) :
  ∀(g:Nat) (d:Array Bool) (a:Act) (w:World),(∀x ∈ s,d.getD x false=true\/waits ops ops.size x i=true) ->
   (∀j oj,ops[j]?=some oj->j≠i->d.getD j true=false->(∀e ∈ oj.after,Region.binds .any e=true->e.on≠i)->G.apart ops oj=true) ->
   i ∈ Region.ready .any ops d->Closed ops d->YieldsIf P ops S G v a->S w ->
   AnyL P ops Q S s g (d.setIfInBounds i true) (a.put G.dst v) w->AnyL P ops Q S s (g+1) d a w:=by
 intro g
 induction g with
 |zero =>
  intro d a w hw _ F E U I H;refine⟨λh=>(by rw[h]at F;cases F),λj K=>?_⟩;by_cases l:j=i
  ·subst l;exact U.wpOp hi I ⟨.inr I,H⟩
  have:=ready_mono K l;rw[H.1]at this;cases this
 |succ g ih =>
  intro d a w hw p F E U I H;refine⟨λh=>(by rw[h]at F;cases F),λj K=>?_⟩;by_cases l:j=i
  ·subst l;exact U.wpOp hi I ⟨.inr I,H⟩
  have T:=H.2 j (ready_mono K l);obtain⟨m,oj,A,B⟩:=mem_ready.1 K;have u:d.getD i false=false:=by
   have h0:=(mem_ready.1 F).1
   rcases Nat.lt_or_ge i d.size with D|D
   ·simp[D]at h0 ⊢;exact h0
   simp[Array.getElem?_eq_none D]
  have N:∀e ∈ oj.after,Region.binds .any e=true->e.on≠i:=λe X hb Y=>by
   have T:=B e X hb;rw[Y,u]at T;cases T
  have a1:j ∉ s:=λe=>by
   have Z:d.getD j false=false:=by
    rcases Nat.lt_or_ge j d.size with D|D
    ·simp[D]at m ⊢;exact m
    simp[Array.getElem?_eq_none D]
   have a5:waits ops ops.size j i=true:=(hw j e).resolve_left (by rw[Z];simp);have:=Ql E _ _ a5 (λo' O e X hb=>by rw[A]at O;cases O;exact B e X hb);rw[u]at this;cases this
  have h2:=wpOp_putIf A (p j oj A l m N) (λcs b=>C i G cs b hi) (λcs b=>C j oj cs b A) hQ U T;have z:∀k ok,ops[k]?=some ok->k≠i->(d.setIfInBounds j true).getD k true=false ->
    (∀e ∈ ok.after,Region.binds .any e=true->e.on≠i)->G.apart ops ok=true:=λk ok hk a2 R a4=>by
   refine p k ok hk a2 ?_ a4;by_cases L:j=k
   ·subst L;exact m
   rw[getD_set_ne true L]at R;exact R
  refine wpOp_mono (λa' w' W=>?_) h2;have J:S w':=W.2.1.resolve_left a1;refine⟨.inr J,ih (d.setIfInBounds j true) a' w' (λx hx=>(hw x hx).imp (λh=>getD_set_true h) id) z (ready_mono F (Ne.symm l)) (E.set K) W.1 J ?_⟩;rw[Array.setIfInBounds_comm _ _ l];exact W.2.2
def AnyL.firstP{E:Oper}(G:i ∈ s)(hi:ops[i]?=some E)(z:∀(j:Nat) (o:Oper) cs b,ops[j]?=some o->o.op≠.select cs b)
  (hQ:∀c a w,Q (.panic c) (a.put E.dst v) w->Q (.panic c) a w) :
  ∀(g:Nat) (d:Array Bool) (a:Act) (w:World),
   (∀j oj,ops[j]?=some oj->j≠i->d.getD j true=false->(∀e ∈ oj.after,Region.binds .any e=true->e.on≠i)->E.apart ops oj=true) ->
   i ∈ Region.ready .any ops d->YieldsIf P ops (λ_=>True) E v a ->
   AnyL P ops Q S s g (d.setIfInBounds i true) (a.put E.dst v) w->AnyL P ops Q S s (g+1) d a w:=by
 intro g
 induction g with
 |zero =>
  intro d a w _ D O H;refine⟨λh=>(by rw[h]at D;cases D),λj N=>?_⟩;by_cases l:j=i
  ·subst l;exact O.wpOp hi trivial ⟨.inl G,H⟩
  have:=ready_mono N l;rw[H.1]at this;cases this
 |succ g ih =>
  intro d a w m D O H;refine⟨λh=>(by rw[h]at D;cases D),λj N=>?_⟩;by_cases l:j=i
  ·subst l;exact O.wpOp hi trivial ⟨.inl G,H⟩
  have L:=H.2 j (ready_mono N l);obtain⟨u,oj,B,F⟩:=mem_ready.1 N;have C:d.getD i false=false:=by
   have Y:=(mem_ready.1 D).1
   rcases Nat.lt_or_ge i d.size with R|R
   ·simp[R]at Y ⊢;exact Y
   simp[Array.getElem?_eq_none R]
  have J:∀e ∈ oj.after,Region.binds .any e=true->e.on≠i:=λe he hb U=>by
   have L:=F e he hb;rw[U,C]at L;cases L
  have h2:=wpOp_putIf B (m j oj B l u J) (λcs b=>z i E cs b hi) (λcs b=>z j oj cs b B) hQ O L;have p:∀k ok,ops[k]?=some ok->k≠i->(d.setIfInBounds j true).getD k true=false ->
    (∀e ∈ ok.after,Region.binds .any e=true->e.on≠i)->E.apart ops ok=true:=λk ok hk W K X=>by
   refine m k ok hk W ?_ X;by_cases I:j=k
   ·subst I;exact u
   rw[getD_set_ne true I]at K;exact K
  refine wpOp_mono (λZ w' T=>?_) h2;refine⟨T.2.1,ih (d.setIfInBounds j true) Z w' p (ready_mono D (Ne.symm l)) T.1 ?_⟩;rw[Array.setIfInBounds_comm _ _ l];exact T.2.2
def tpBL(ops:Array Oper)(s:List Nat)(i:Nat)(listed:Array Bool):Bool:=s.contains i&&Region.noSelect ops&&Region.free .any ops listed i&&(Region.ready .any ops listed).contains i
def AnyL.tp{j:Oper}{d:Array Bool}(hi:ops[i]?=some j)(hb:tpBL ops s i d=true)(k:YieldsIf P ops (λ_=>True) j v a)
  (h:AnyL P ops Q S s g (d.setIfInBounds i true) (a.put j.dst v) w) (hQ:∀c a w,Q (.panic c) (a.put j.dst v) w->Q (.panic c) a w:=by exact λ_ _ _ h=>h):AnyL P ops Q S s (g+1) d a w:=by
 unfold tpBL at hb;simp only[Bool.and_eq_true]at hb;exact AnyL.firstP (by simpa using hb.1.1.1) hi (Region.noSelect_spec hb.1.1.2) hQ g d a w (Region.free_spec hi hb.1.2) (by simpa using hb.2) k h
def AnyL.take{j:Oper}{d:Array Bool}(hi:ops[i]?=some j)(p:(s.all λx=>d.getD x false||waits ops ops.size x i)=true)(k:FC ops d=true)
  (o:Region.noSelect ops=true) (hf:Region.free .any ops d i=true) (m:(Region.ready .any ops d).contains i=true)
  (hQ:∀c a w,Q (.panic c) (a.put j.dst v) w->Q (.panic c) a w) (l:S w) (z:YieldsIf P ops S j v a)
  (h:AnyL P ops Q S s g (d.setIfInBounds i true) (a.put j.dst v) w):AnyL P ops Q S s (g+1) d a w :=
 AnyL.first hi (Region.noSelect_spec o) hQ g d a w (λx u=>by simpa using List.all_eq_true.1 p x u) (Region.free_spec hi hf) (by simpa using m) (Mh k) z l h
def tkBL(ops:Array Oper)(s:List Nat)(i:Nat)(listed:Array Bool):Bool:=(s.all λx=>listed.getD x false||waits ops ops.size x i)&&FC ops listed&&Region.noSelect ops&&Region.free .any ops listed i&&(Region.ready .any ops listed).contains i
def AnyL.tk{j:Oper}{d:Array Bool}(hi:ops[i]?=some j)(hb:tkBL ops s i d=true)(k:S w)(l:YieldsIf P ops S j v a)
  (h:AnyL P ops Q S s g (d.setIfInBounds i true) (a.put j.dst v) w) (hQ:∀c a w,Q (.panic c) (a.put j.dst v) w->Q (.panic c) a w:=by exact λ_ _ _ h=>h):AnyL P ops Q S s (g+1) d a w:=by
 unfold tkBL at hb;simp only[Bool.and_eq_true]at hb;exact AnyL.take hi hb.1.1.1.1 hb.1.1.1.2 hb.1.1.2 hb.1.2 hb.2 hQ k l h
def AnyL.tm(i:Nat){j:Oper}{d:Array Bool}(k:S w)
  (h:AnyL P ops Q S s g (d.setIfInBounds i true) (a.put j.dst v) w) (hi:ops[i]?=some j:=by rfl) (hb:tkBL ops s i d=true:=by kernel_rfl) (l:Region.wanted j (yielded ops a.tmps)=true:=by kernel_rfl)
  (m:∀w,S w->(execOp a.eval j).run P w=.ok (.value v) w:=by (intro w h;go_simp;try with_reducible rfl)) (hQ:∀c a w,Q (.panic c) (a.put j.dst v) w->Q (.panic c) a w:=by exact λ_ _ _ h=>h):AnyL P ops Q S s (g+1) d a w:=AnyL.tk hi hb k (.inl ⟨l,m⟩) h hQ
def AnyL.tq(i:Nat){j:Oper}{d:Array Bool}
  (h:AnyL P ops Q S s g (d.setIfInBounds i true) (a.put j.dst v) w) (hi:ops[i]?=some j:=by rfl) (hb:tpBL ops s i d=true:=by kernel_rfl) (k:Region.wanted j (yielded ops a.tmps)=true:=by kernel_rfl)
  (l:∀w,True->(execOp a.eval j).run P w=.ok (.value v) w:=by (intro w h;go_simp;try with_reducible rfl)) (hQ:∀c a w,Q (.panic c) (a.put j.dst v) w->Q (.panic c) a w:=by exact λ_ _ _ h=>h):AnyL P ops Q S s (g+1) d a w:=AnyL.tp hi hb (.inl ⟨k,l⟩) h hQ
def AnyL.done{listed:Array Bool}(hr:Region.ready .any ops listed=[])(h:Q .normal a w):∀fuel,AnyL P ops Q S s fuel listed a w
 |0=>⟨hr,h⟩
 |_+1=>⟨λ_=>h,by rw[hr];simp⟩
theorem AnyL.dn{c:Array Bool}{d:Nat}(h:Q .normal a w)(g:Region.ready .any ops c=[]:=by kernel_rfl):AnyL P ops Q S s d c a w:=AnyL.done g h d
def Ky(S:World->Prop)(s:List Nat){d:Nat}(c:P.follows .mixedOrders=true)
  (h:AnyL P ops Q S s ops.size (Array.replicate ops.size false) a w.drew):(Code.region d ops true).wp P Q a w :=
 wp_region_any c (AnyL.any _ _ _ _ h)
end
end
end Go.Proofs.YtpldocnhbdlgfaaGreatDoor
