/- Parts. -/
import Derived.Test.YtpldocnhbdlgfaaGreatDoorPc18
namespace Go.Proofs.YtpldocnhbdlgfaaGreatDoor
set_option maxRecDepth 100000
set_option linter.all false
set_option maxHeartbeats 16000000
open Go Tryz
section
open Go.RowKit Go.Deep Go.Maps Go.WideMaps
def Sq(k:Int)(n:Nat)(L:Nat->Nat)(X:Nat->Nat->ByteArray):Prop:=∀i,i<n->L i=n/\∀j,j<n->Aj k (X i j)=true
def Sq.mat{k:KK}{n:Nat}{L:Nat->Nat}{X:Nat->Nat->ByteArray}(h:Sq k.1 n L X):MatIs 0 n X (λi j=>wval k (X i j)):=λi j hi c=>Iu ((h i hi).2 j c)
end
section
open Go.RowKit Go.Deep
def TestE(p:Prop)(w:World)(r:Ending)(w':World):Prop:=∃b:Bool,r=.returned (.bool b)/\(b=true↔p)/\Below w.heap.size w w'
def TT{k0:Int}{n:Nat}{L:Nat->Nat}{X:Nat->Nat->ByteArray}{v:Value}(w:World)(hA:Mt none w v n L X)(hz:∀i j,(X i j).size<=maxLen)(P:Prop)(G:P↔(As k0=true/\Sq k0 n L X)):
  Calls prog 156 #[.int .i64 k0,v] w (TestE P w):=by
 replace G:=qh G;obtain⟨a,a8,b,R,A,C,BB,O,rfl,Z,hc,hm,hb,s⟩:=hA.open;unfold maxLen at hm;clear hA;replace hz:=qh hz;replace Z:=qh Z;replace hb:=qh hb;replace s:=qh s;have m:=Gf k0 w;cases S:As k0
 ·rw[S]at m;have U:=qh m;clear m
  go_enter func156,ntmps156
  go_wp2_with fail
  refine U.o.mono ?_;rintro r w1⟨rfl,rfl⟩;go_wp2;go_ret;exact⟨false,rfl,⟨(λh=>by cases h),λh=>absurd (G.o.1 h).1 (by rw[S];simp)⟩,blr⟩
 rw[S]at m;have U:=qh m;clear m
 go_enter func156,ntmps156
 go_wp2_with fail
 refine U.o.mono ?_;rintro r w1⟨rfl,rfl⟩
 go_wp2_with fail
 go_loopw [5] (λi wr=>∃q:Nat,q<=n/\i=.int .i64 (q:Int)/\(∀l,l<q->L l=n/\∀j,j<n->Aj k0 (X l j)=true)/\Below w.heap.size w wr) (λi _=>n-(intOf i).toNat)
 case atStart=>exact⟨0,Nat.zero_le _,rfl,λj hj=>by omega,blr⟩
 obtain⟨q,hq,rfl,z,o⟩:=hrel;replace z:=qh z;have c:=qh o;clear o;by_cases F:q<n
 ·have b0:(q:Int)<(n:Int):=by omega
  have a7:(0:Int)<=(q:Int):=by omega
  obtain rfl:=Z.o (by omega);have K:=(hb.o (by omega)).1;obtain⟨k1,k2,k3,k4,k5,_,T⟩:=s.o q F;have c0:=(c.o.cell (p:=(Ad b (R+q))) K).trans k1;unfold maxLen at k3;by_cases Y:L q=n
  ·have J:((L q:Int)==(n:Int))=true:=by simp;omega
   rw[Y]at c0 k4 k5 T k1 J;obtain Q:=k4 (by omega);have a1:=(k5 (by omega)).1;rw[Q]at c0 k1;replace T:=qh T;clear k4 k5 Q;replace k1:=qh k1
   go_wp2_with fail
   go_loopw [6] (λi wr=>∃d:Nat,d<=n/\i=.int .i64 (d:Int)/\(∀j,j<d->Aj k0 (X q j)=true)/\Below w.heap.size w wr) (λi _=>n-(intOf i).toNat)
   case atStart=>exact⟨0,Nat.zero_le _,rfl,λj hj=>by omega,c.o⟩
   obtain⟨d,hd,rfl,g,o⟩:=hrel;clear c c0;replace g:=qh g;have c:=qh o;clear o;by_cases D:d<n
   ·have a9:(d:Int)<(n:Int):=by omega
    have a6:(0:Int)<=(d:Int):=by omega
    obtain⟨x,I⟩:=exq<|X q d;have c0:=(c.o.cell (p:=(Ad b (R+q))) K).trans k1.o;have c1:=(c.o.cell (p:=(Ad (BB q) (O q+d))) a1).trans (T.o d D);rw[<-I]at c1;have B:=hz.o q d;rw[<-I]at B;have H:=CK k0 x wr (by unfold maxLen at B;exact B);clear B;replace I:=qh I;cases k:Aj k0 x
    ·rw[k]at H;have W:=qh H;clear H
     go_wp2_with fail
     refine W.o.mono ?_;rintro r w2⟨rfl,u⟩;clear c0 c1;go_wp2;go_ret;exact⟨false,rfl,⟨(λh=>by cases h),λh=>by have:=((G.o.1 h).2 q F).2 d D;rw[<-I.o,k]at this;exact absurd this (by simp)⟩,c.o.trans (u.mono c.o.size)⟩
    rw[k]at H;have W:=qh H;clear H
    go_wp2_with fail
    refine W.o.mono ?_;rintro r w2⟨rfl,u⟩;clear c0 c1;have N:=c.o.trans<|u.mono c.o.size;clear u;go_wp2;go_roundw
    case rel =>
     refine⟨d+1,by omega,by go_num,λj hj=>?_,N⟩
     rcases Nat.lt_succ_iff_lt_or_eq.1 hj with E|E
     ·exact g.o j E
     subst E;rw[<-I.o];exact k
    simp[intOf];omega
   have a2:d=n:=by omega
   subst a2;have a4:¬((d:Int)<(d:Int)):=by omega
   go_wp2;go_roundw
   case rel =>
    refine⟨q+1,by omega,by go_num,λl hl=>?_,c.o⟩
    rcases Nat.lt_succ_iff_lt_or_eq.1 hl with E|E
    ·exact z.o l E
    subst E;exact⟨Y,g.o⟩
   simp[intOf];omega
  have J:((L q:Int)==(n:Int))=false:=by simp;omega
  go_wp2;go_ret;exact⟨false,rfl,⟨(λh=>by cases h),λh=>absurd ((G.o.1 h).2 q F).1 Y⟩,c.o⟩
 have a5:q=n:=by omega
 subst a5;have a4:¬((q:Int)<(q:Int)):=by omega
 go_wp2;go_ret;exact⟨true,rfl,⟨λ_=>G.o.2 ⟨S,z.o⟩,λ_=>rfl⟩,c.o⟩
end
section
open Go.RowKit Go.Deep
variable{a:Act}{w:World}{v:Value}{g i:Nat}
section
variable{P:Program}{ops:Array Oper}{Q:Exit->Act->World->Prop}{S:World->Prop}{s:List Nat}
def AnyL(P:Program)(ops:Array Oper)(Q:Exit->Act->World->Prop)(S:World->Prop)(s:List Nat):Nat->Array Bool->Act->World->Prop
 |0,listed,a,w=>Region.ready .any ops listed=[]/\Q .normal a w
 |fuel+1,listed,a,w=>(Region.ready .any ops listed=[]->Q .normal a w)/\
  ∀i ∈ Region.ready .any ops listed,wpOp P ops Q i (λa' w'=>(i ∈ s\/S w')/\AnyL P ops Q S s fuel (listed.setIfInBounds i true) a' w') a w
theorem AnyL.any:∀(fuel:Nat) (listed:Array Bool) (a:Act) (w:World),AnyL P ops Q S s fuel listed a w->wpAny P .any ops Q fuel listed a w
 |0,_,_,_,h=>h
 |fuel+1,_,_,_,h=>⟨h.1,λi hi=>wpOp_mono (λa' w' h'=>AnyL.any fuel _ a' w' h'.2) (h.2 i hi)⟩
def AnyL.first{G:Oper}(hi:ops[i]?=some G)(C:∀(j:Nat) (o:Oper) cs b,ops[j]?=some o->o.op≠.select cs b)
  (hQ:∀c a w,Q (.panic c) (a.put G.dst v) w->Q (.panic c) a w) :
  ∀(g:Nat) (d:Array Bool) (a:Act) (w:World),(∀x ∈ s,d.getD x false=true\/waits ops ops.size x i=true) ->
   (∀j oj,ops[j]?=some oj->j≠i->d.getD j true=false->(∀e ∈ oj.after,Region.binds .any e=true->e.on≠i)->G.apart ops oj=true) ->
   i ∈ Region.ready .any ops d->Closed ops d->YieldsIf P ops S G v a->S w ->
   AnyL P ops Q S s g (d.setIfInBounds i true) (a.put G.dst v) w->AnyL P ops Q S s (g+1) d a w:=by
 intro g
 induction g with
 |zero =>
  intro d a w hw _ F E U I H;refine⟨λh=>(by rw[h]at F;cases F),λj K=>?_⟩;by_cases l:j=i
  ·subst l;exact U.wpOp hi I ⟨.inr I,H⟩
  have:=ready_mono K l;rw[H.1]at this;cases this
 |succ g ih =>
  intro d a w hw p F E U I H;refine⟨λh=>(by rw[h]at F;cases F),λj K=>?_⟩;by_cases l:j=i
  ·subst l;exact U.wpOp hi I ⟨.inr I,H⟩
  have T:=H.2 j (ready_mono K l);obtain⟨m,oj,A,B⟩:=mem_ready.1 K;have u:d.getD i false=false:=by
   have h0:=(mem_ready.1 F).1
   rcases Nat.lt_or_ge i d.size with D|D
   ·simp[D]at h0 ⊢;exact h0
   simp[Array.getElem?_eq_none D]
  have N:∀e ∈ oj.after,Region.binds .any e=true->e.on≠i:=λe X hb Y=>by
   have T:=B e X hb;rw[Y,u]at T;cases T
  have a1:j ∉ s:=λe=>by
   have Z:d.getD j false=false:=by
    rcases Nat.lt_or_ge j d.size with D|D
    ·simp[D]at m ⊢;exact m
    simp[Array.getElem?_eq_none D]
   have a5:waits ops ops.size j i=true:=(hw j e).resolve_left (by rw[Z];simp);have:=PP E _ _ a5 (λo' O e X hb=>by rw[A]at O;cases O;exact B e X hb);rw[u]at this;cases this
  have h2:=wpOp_putIf A (p j oj A l m N) (λcs b=>C i G cs b hi) (λcs b=>C j oj cs b A) hQ U T;have z:∀k ok,ops[k]?=some ok->k≠i->(d.setIfInBounds j true).getD k true=false ->
    (∀e ∈ ok.after,Region.binds .any e=true->e.on≠i)->G.apart ops ok=true:=λk ok hk a2 R a4=>by
   refine p k ok hk a2 ?_ a4;by_cases L:j=k
   ·subst L;exact m
   rw[getD_set_ne true L]at R;exact R
  refine wpOp_mono (λa' w' W=>?_) h2;have J:S w':=W.2.1.resolve_left a1;refine⟨.inr J,ih (d.setIfInBounds j true) a' w' (λx hx=>(hw x hx).imp (λh=>getD_set_true h) id) z (ready_mono F (Ne.symm l)) (E.set K) W.1 J ?_⟩;rw[Array.setIfInBounds_comm _ _ l];exact W.2.2
def AnyL.firstP{E:Oper}(G:i ∈ s)(hi:ops[i]?=some E)(z:∀(j:Nat) (o:Oper) cs b,ops[j]?=some o->o.op≠.select cs b)
  (hQ:∀c a w,Q (.panic c) (a.put E.dst v) w->Q (.panic c) a w) :
  ∀(g:Nat) (d:Array Bool) (a:Act) (w:World),
   (∀j oj,ops[j]?=some oj->j≠i->d.getD j true=false->(∀e ∈ oj.after,Region.binds .any e=true->e.on≠i)->E.apart ops oj=true) ->
   i ∈ Region.ready .any ops d->YieldsIf P ops (λ_=>True) E v a ->
   AnyL P ops Q S s g (d.setIfInBounds i true) (a.put E.dst v) w->AnyL P ops Q S s (g+1) d a w:=by
 intro g
 induction g with
 |zero =>
  intro d a w _ D O H;refine⟨λh=>(by rw[h]at D;cases D),λj N=>?_⟩;by_cases l:j=i
  ·subst l;exact O.wpOp hi trivial ⟨.inl G,H⟩
  have:=ready_mono N l;rw[H.1]at this;cases this
 |succ g ih =>
  intro d a w m D O H;refine⟨λh=>(by rw[h]at D;cases D),λj N=>?_⟩;by_cases l:j=i
  ·subst l;exact O.wpOp hi trivial ⟨.inl G,H⟩
  have L:=H.2 j (ready_mono N l);obtain⟨u,oj,B,F⟩:=mem_ready.1 N;have C:d.getD i false=false:=by
   have Y:=(mem_ready.1 D).1
   rcases Nat.lt_or_ge i d.size with R|R
   ·simp[R]at Y ⊢;exact Y
   simp[Array.getElem?_eq_none R]
  have J:∀e ∈ oj.after,Region.binds .any e=true->e.on≠i:=λe he hb U=>by
   have L:=F e he hb;rw[U,C]at L;cases L
  have h2:=wpOp_putIf B (m j oj B l u J) (λcs b=>z i E cs b hi) (λcs b=>z j oj cs b B) hQ O L;have p:∀k ok,ops[k]?=some ok->k≠i->(d.setIfInBounds j true).getD k true=false ->
    (∀e ∈ ok.after,Region.binds .any e=true->e.on≠i)->E.apart ops ok=true:=λk ok hk W K X=>by
   refine m k ok hk W ?_ X;by_cases I:j=k
   ·subst I;exact u
   rw[getD_set_ne true I]at K;exact K
  refine wpOp_mono (λZ w' T=>?_) h2;refine⟨T.2.1,ih (d.setIfInBounds j true) Z w' p (ready_mono D (Ne.symm l)) T.1 ?_⟩;rw[Array.setIfInBounds_comm _ _ l];exact T.2.2
def tpBL(ops:Array Oper)(s:List Nat)(i:Nat)(listed:Array Bool):Bool:=s.contains i&&Region.noSelect ops&&Region.free .any ops listed i&&(Region.ready .any ops listed).contains i
def AnyL.tp{j:Oper}{d:Array Bool}(hi:ops[i]?=some j)(hb:tpBL ops s i d=true)(k:YieldsIf P ops (λ_=>True) j v a)
  (h:AnyL P ops Q S s g (d.setIfInBounds i true) (a.put j.dst v) w) (hQ:∀c a w,Q (.panic c) (a.put j.dst v) w->Q (.panic c) a w:=by exact λ_ _ _ h=>h):AnyL P ops Q S s (g+1) d a w:=by
 unfold tpBL at hb;simp only[Bool.and_eq_true]at hb;exact AnyL.firstP (by simpa using hb.1.1.1) hi (Region.noSelect_spec hb.1.1.2) hQ g d a w (Region.free_spec hi hb.1.2) (by simpa using hb.2) k h
def AnyL.take{j:Oper}{d:Array Bool}(hi:ops[i]?=some j)(p:(s.all λx=>d.getD x false||waits ops ops.size x i)=true)(k:Fy ops d=true)
  (o:Region.noSelect ops=true) (hf:Region.free .any ops d i=true) (m:(Region.ready .any ops d).contains i=true)
  (hQ:∀c a w,Q (.panic c) (a.put j.dst v) w->Q (.panic c) a w) (l:S w) (z:YieldsIf P ops S j v a)
  (h:AnyL P ops Q S s g (d.setIfInBounds i true) (a.put j.dst v) w):AnyL P ops Q S s (g+1) d a w :=
 AnyL.first hi (Region.noSelect_spec o) hQ g d a w (λx u=>by simpa using List.all_eq_true.1 p x u) (Region.free_spec hi hf) (by simpa using m) (LK k) z l h
def tkBL(ops:Array Oper)(s:List Nat)(i:Nat)(listed:Array Bool):Bool:=(s.all λx=>listed.getD x false||waits ops ops.size x i)&&Fy ops listed&&Region.noSelect ops&&Region.free .any ops listed i&&(Region.ready .any ops listed).contains i
def AnyL.tk{j:Oper}{d:Array Bool}(hi:ops[i]?=some j)(hb:tkBL ops s i d=true)(k:S w)(l:YieldsIf P ops S j v a)
  (h:AnyL P ops Q S s g (d.setIfInBounds i true) (a.put j.dst v) w) (hQ:∀c a w,Q (.panic c) (a.put j.dst v) w->Q (.panic c) a w:=by exact λ_ _ _ h=>h):AnyL P ops Q S s (g+1) d a w:=by
 unfold tkBL at hb;simp only[Bool.and_eq_true]at hb;exact AnyL.take hi hb.1.1.1.1 hb.1.1.1.2 hb.1.1.2 hb.1.2 hb.2 hQ k l h
def AnyL.one{o:Oper}{d:Nat}{c:Array Bool}(A:ops[i]?=some o)(m:Region.ready .any ops c=[i])(g:Region.wanted o (yielded ops a.tmps)=true)
  (h:∀K:Act->World->Prop,Shut (∀a w,(i ∈ s\/S w)->AnyL P ops Q S s d (c.setIfInBounds i true) a w->K a w)->Oper.wp P o a w K Q):AnyL P ops Q S s (d+1) c a w:=by
 refine⟨λk=>(by rw[m]at k;cases k),λj l=>?_⟩;rw[m]at l;obtain rfl:j=i:=by simpa using l
 exact wpOp_step A (λK p=>by rw[ifp g];exact h K (λa w u z=>p a w ⟨u,z⟩))
def AnyL.tm(i:Nat){j:Oper}{d:Array Bool}(k:S w)
  (h:AnyL P ops Q S s g (d.setIfInBounds i true) (a.put j.dst v) w) (hi:ops[i]?=some j:=by rfl) (hb:tkBL ops s i d=true:=by kernel_rfl) (l:Region.wanted j (yielded ops a.tmps)=true:=by kernel_rfl)
  (m:∀w,S w->(execOp a.eval j).run P w=.ok (.value v) w:=by (intro w h;go_simp;try with_reducible rfl)) (hQ:∀c a w,Q (.panic c) (a.put j.dst v) w->Q (.panic c) a w:=by exact λ_ _ _ h=>h):AnyL P ops Q S s (g+1) d a w:=AnyL.tk hi hb k (.inl ⟨l,m⟩) h hQ
def AnyL.tq(i:Nat){j:Oper}{d:Array Bool}
  (h:AnyL P ops Q S s g (d.setIfInBounds i true) (a.put j.dst v) w) (hi:ops[i]?=some j:=by rfl) (hb:tpBL ops s i d=true:=by kernel_rfl) (k:Region.wanted j (yielded ops a.tmps)=true:=by kernel_rfl)
  (l:∀w,True->(execOp a.eval j).run P w=.ok (.value v) w:=by (intro w h;go_simp;try with_reducible rfl)) (hQ:∀c a w,Q (.panic c) (a.put j.dst v) w->Q (.panic c) a w:=by exact λ_ _ _ h=>h):AnyL P ops Q S s (g+1) d a w:=AnyL.tp hi hb (.inl ⟨k,l⟩) h hQ
def AnyL.on(i:Nat){o:Oper}{d:Nat}{c:Array Bool}(h:∀K:Act->World->Prop,Shut (∀a w,(i ∈ s\/S w)->AnyL P ops Q S s d (c.setIfInBounds i true) a w->K a w)->Oper.wp P o a w K Q)
  (j:ops[i]?=some o:=by rfl) (k:Region.ready .any ops c=[i]:=by kernel_rfl) (g:Region.wanted o (yielded ops a.tmps)=true:=by rfl):AnyL P ops Q S s (d+1) c a w:=AnyL.one j k g h
def AnyL.done{listed:Array Bool}(hr:Region.ready .any ops listed=[])(h:Q .normal a w):∀fuel,AnyL P ops Q S s fuel listed a w
 |0=>⟨hr,h⟩
 |_+1=>⟨λ_=>h,by rw[hr];simp⟩
theorem AnyL.dn{c:Array Bool}{d:Nat}(h:Q .normal a w)(g:Region.ready .any ops c=[]:=by kernel_rfl):AnyL P ops Q S s d c a w:=AnyL.done g h d
theorem AnyL.loose{late:List Nat}:∀{fuel:Nat} {listed:Array Bool} {a:Act} {w:World},(∀i,i<listed.size->listed.getD i true=false->i ∈ late)->AnyL P ops Q (λ_=>True) [] fuel listed a w->AnyL P ops Q S late fuel listed a w
 |0,_,_,_,_,h=>h
 |fuel+1,listed,a,w,hl,h=>by
  refine⟨h.1,λi hi=>wpOp_mono (λa' w' h'=>⟨.inl ?_,AnyL.loose (λj hj hf=>?_) h'.2⟩) (h.2 i hi)⟩
  ·obtain⟨h1,_⟩:=mem_ready.1 hi;refine hl i ?_ h1
   rcases Nat.lt_or_ge i listed.size with h' |h'
   ·exact h'
   simp[Array.getD,Nat.not_lt.2 h']at h1
  refine hl j (by simpa using hj) ?_;by_cases e:i=j
  ·subst e;have hj':i<listed.size:=by simpa using hj
   simp[Array.getD,hj']at hf
  rwa [getD_set_ne true e]at hf
def Tz(late:List Nat)(listed:Array Bool):Bool:=(List.range listed.size).all λi=>listed.getD i true||late.contains i
def AnyL.loose'{late:List Nat}{d:Nat}{c:Array Bool}(h:Tz late c=true)(g:AnyL P ops Q (λ_=>True) [] d c a w):AnyL P ops Q S late d c a w :=
 AnyL.loose (λi hi hf=>by
  have:=List.all_eq_true.1 h i (List.mem_range.2 hi);rw[hf]at this;simpa using this) g
def Gd(S:World->Prop)(s:List Nat){d:Nat}(c:P.follows .mixedOrders=true)
  (h:AnyL P ops Q S s ops.size (Array.replicate ops.size false) a w.drew):(Code.region d ops true).wp P Q a w :=
 wp_region_any c (AnyL.any _ _ _ _ h)
end
end
end Go.Proofs.YtpldocnhbdlgfaaGreatDoor
