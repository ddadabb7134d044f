/- Parts. -/
import Derived.Test.YtpldocnhbdlgfaaGreatDoorPc16
import Derived.Deep.Light
namespace Go.Proofs.YtpldocnhbdlgfaaGreatDoor
set_option maxRecDepth 100000
set_option linter.all false
set_option maxHeartbeats 16000000
open Go Tryz
section
open Go.RowKit Go.Deep
def SumB(w:World)(sb:Nat)(k:Int)(e:Nat):Prop:=w.heap[sb]?=some (.cells #[.int .i64 k,.int .i64 (e:Int)] 177 (0,0))
end
section
open Go.RowKit Go.Deep
def Jj:(prog.info? 9).map (λi=>(i.zero,i.size,i.bytes))=some (some (.string ⟨#[]⟩),1,16):=by kernel_rfl
def Jk:(prog.info? 100).map (λi=>(i.zero,i.size,i.bytes))=some (some (.slice none 0 0),1,24):=by kernel_rfl
structure Tb(w:World)(k:Int)(B tb sb g n e:Nat)(R:Nat->Value)(X:Nat->Nat->ByteArray):Prop where
 tab:w.heap[tb]?=some (.cells #[.pointer (some (Ad sb 0)),.slice (some (Ad g 0)) n n] 201 (0,0))
 sum:SumB w sb k e
 om:OM w (λb=>b=tb) B 9 100 g n R (λ_=>n) X
 sbB:sb<B
 tbB:B<=tb
namespace Tb
variable{w w':World}{k:Int}{B tb sb g n e:Nat}{R:Nat->Value}{X:Nat->Nat->ByteArray}
theorem c0(h:Tb w k B tb sb g n e R X):w.cell? (Ad tb 0)=some (.pointer (some (Ad sb 0))):=by have:=h.tab;simp[World.cell?,this]
theorem c1(h:Tb w k B tb sb g n e R X):w.cell? (Ad tb 1)=some (.slice (some (Ad g 0)) n n):=by have:=h.tab;simp[World.cell?,this]
end Tb
def Prog{k:KK}(e p n i j:Nat)(M:Nat->Nat->RK k)(X Y:Nat->Nat->ByteArray):Prop :=
 ∀q l,q<n->l<n->if q<i\/(q=i/\l<j) then Is k e (Y q l) (CSR.elim p M q l) else Y q l=X q l
def MatIs{k:KK}(e n:Nat)(X:Nat->Nat->ByteArray)(M:Nat->Nat->RK k):Prop:=∀q l,q<n->l<n->Is k e (X q l) (M q l)
theorem MatIs.mono{k:KK}{e e' n:Nat}{X:Nat->Nat->ByteArray}{M:Nat->Nat->RK k}(h:MatIs e n X M)(c:e'=0->e=0):MatIs e' n X M:=λq l g d=>(h q l g d).mono c
theorem Prog.at{k:KK}{e p n i j:Nat}{M:Nat->Nat->RK k}{X Y:Nat->Nat->ByteArray}(h:Prog e p n i j M X Y)(hi:i<n)(c:j<n):Y i j=X i j:=by
 have:=h i j hi c;rwa [ifn (by omega)]at this
structure FitE{k:KK}(n p:Nat)(M:Nat->Nat->RK k):Prop where
 star:fitV (CSR.star (M p p)).1
 first:∀i,i<n->fitV (M i p*CSR.star (M p p)).1
 second:∀i j,i<n->j<n->fitV (M i p*CSR.star (M p p)*M p j).1
 sum:∀i j,i<n->j<n->fitV (CSR.elim p M i j).1
end
section
open Go.RowKit Go.Deep
theorem FC(w:World)(z:Option Nat):w.grownBy w.drew z:=⟨rfl,rfl,rfl,nlr,λ_ _ _=>rfl⟩
theorem toList_eq{a b:ByteArray}(h:(a.toList==b.toList)=true):a=b:=by
 rw[beq_iff_eq,Lib.toList_data,Lib.toList_data]at h;exact ByteArray.ext<|Array.toList_inj.1 h
end
section
open Go.RowKit Go.Deep
variable{a:Act}{w:World}{g i:Nat}{v:Value}
theorem tryL{α:Type}:(∀(l:List α) (i:Nat) (a:α),l.toArray.setIfInBounds i a=(l.set i a).toArray)/\(∀(a b:α) (l:List α),(a::l).set 0 b=b::l)/\(∀(a b:α) (l:List α) (n:Nat),(a::l).set (n+1) b=a::l.set n b)/\(∀(l:List α) (i:Nat) (h:i<l.toArray.size),l.toArray[i]=l[i]'(by simpa using h))/\(∀(a:α) (l:List α) (i:Nat) (h:i+1<(a::l).length),(a::l)[i+1]=l[i]'(by simpa using h))/\(∀(a:α) (l:List α) (h:0<(a::l).length),(a::l)[0]=a) :=
 ⟨λ_ _ _=>List.setIfInBounds_toArray ..,λ_ _ _=>rfl,λ_ _ _ _=>rfl,λ_ _ _=>rfl,λ_ _ _ _=>rfl,λ_ _ _=>rfl⟩
section
variable{P:Program}{ops:Array Oper}{Q:Exit->Act->World->Prop}{S:World->Prop}{s:Nat}
def Aa(P:Program)(ops:Array Oper)(Q:Exit->Act->World->Prop)(S:World->Prop)(s:Nat):Nat->Array Bool->Act->World->Prop
 |0,listed,a,w=>Region.ready .any ops listed=[]/\Q .normal a w
 |fuel+1,listed,a,w=>(Region.ready .any ops listed=[]->Q .normal a w)/\
  ∀i ∈ Region.ready .any ops listed,wpOp P ops Q i (λa' w'=>(i=s\/S w')/\Aa P ops Q S s fuel (listed.setIfInBounds i true) a' w') a w
theorem Aa.any:∀(fuel:Nat) (listed:Array Bool) (a:Act) (w:World),Aa P ops Q S s fuel listed a w->wpAny P .any ops Q fuel listed a w
 |0,_,_,_,h=>h
 |fuel+1,_,_,_,h=>⟨h.1,λi hi=>wpOp_mono (λa' w' h'=>Aa.any fuel _ a' w' h'.2) (h.2 i hi)⟩
def waits(ops:Array Oper):Nat->Nat->Nat->Bool
 |0,_,_=>false
 |f+1,s,i=>match ops[s]? with
  |some o=>o.after.any λe=>Region.binds .any e&&(e.on==i||waits ops f e.on i)
  |none=>false
def Closed(ops:Array Oper)(listed:Array Bool):Prop:=∀j o,listed.getD j false=true->ops[j]?=some o->∀e ∈ o.after,Region.binds .any e=true->listed.getD e.on false=true
def Fy(ops:Array Oper)(listed:Array Bool):Bool:=(List.range ops.size).all λj=>!listed.getD j false||match ops[j]? with
 |some o=>o.after.all λe=>!Region.binds .any e||listed.getD e.on false
 |none=>true
theorem LK{c:Array Bool}(h:Fy ops c=true):Closed ops c:=λj o l i e k hb=>by
 have d:=List.all_eq_true.1 h j (List.mem_range.2 (Array.getElem?_eq_some_iff.1 i).1);rw[l,i]at d;simp only[Bool.not_true,Bool.false_or]at d;have g:=Array.all_eq_true_iff_forall_mem.1 d e k;rw[hb]at g;simpa using g
theorem Closed.set{c:Array Bool}{j:Nat}(h:Closed ops c)(s:j ∈ Region.ready .any ops c):Closed ops (c.setIfInBounds j true):=λk o m p e l hb=>by
 by_cases g:j=k
 ·subst g;obtain⟨_,u,i,d⟩:=mem_ready.1 s;rw[p]at i;cases i;exact getD_set_true<|d e l hb
 rw[getD_set_ne false g]at m;exact getD_set_true<|h k o m p e l hb
theorem PP{c:Array Bool}(u:Closed ops c):∀(f s:Nat),waits ops f s i=true->(∀o,ops[s]?=some o->∀e ∈ o.after,Region.binds .any e=true->c.getD e.on false=true)->c.getD i false=true:=by
 intro f
 induction f with
 |zero=>intro s h;simp[waits]at h
 |succ f ih =>
  intro s h A;unfold waits at h;cases k:ops[s]? with
  |none=>rw[k]at h;simp at h
  |some o =>
   rw[k]at h;obtain⟨e,z,hb⟩:=Array.any_eq_true'.1 h;simp only[Bool.and_eq_true,Bool.or_eq_true,beq_iff_eq]at hb;have m:=A o k e z hb.1
   rcases hb.2 with d|d
   ·rw[<-d];exact m
   exact ih e.on d (λB l p j g=>u e.on B m l p j g)
theorem Aa.first{F:Oper}(hi:ops[i]?=some F)(hw:waits ops ops.size s i=true)(C:∀(j:Nat) (o:Oper) cs b,ops[j]?=some o->o.op≠.select cs b)
  (hQ:∀c a w,Q (.panic c) (a.put F.dst v) w->Q (.panic c) a w) :
  ∀(g:Nat) (d:Array Bool) (a:Act) (w:World),
   (∀j oj,ops[j]?=some oj->j≠i->d.getD j true=false->(∀e ∈ oj.after,Region.binds .any e=true->e.on≠i)->F.apart ops oj=true) ->
   i ∈ Region.ready .any ops d->Closed ops d->YieldsIf P ops S F v a->S w ->
   Aa P ops Q S s g (d.setIfInBounds i true) (a.put F.dst v) w->Aa P ops Q S s (g+1) d a w:=by
 intro g
 induction g with
 |zero =>
  intro d a w _ E D T G H;refine⟨λh=>(by rw[h]at E;cases E),λj J=>?_⟩;by_cases l:j=i
  ·subst l;exact T.wpOp hi G ⟨.inr G,H⟩
  have:=ready_mono J l;rw[H.1]at this;cases this
 |succ g ih =>
  intro d a w m E D T G H;refine⟨λh=>(by rw[h]at E;cases E),λj J=>?_⟩;by_cases l:j=i
  ·subst l;exact T.wpOp hi G ⟨.inr G,H⟩
  have R:=H.2 j (ready_mono J l);obtain⟨B,oj,z,A⟩:=mem_ready.1 J;have p:d.getD i false=false:=by
   have h0:=(mem_ready.1 E).1
   rcases Nat.lt_or_ge i d.size with U|U
   ·simp[U]at h0 ⊢;exact h0
   simp[Array.getElem?_eq_none U]
  have L:∀e ∈ oj.after,Region.binds .any e=true->e.on≠i:=λe X hb Y=>by
   have R:=A e X hb;rw[Y,p]at R;cases R
  have Z:j≠s:=λe=>by
   subst e;have:=PP D _ _ hw (λo' N e X hb=>by rw[z]at N;cases N;exact A e X hb);rw[p]at this;cases this
  have h2:=wpOp_putIf z (m j oj z l B L) (λcs b=>C i F cs b hi) (λcs b=>C j oj cs b z) hQ T R;have u:∀k ok,ops[k]?=some ok->k≠i->(d.setIfInBounds j true).getD k true=false ->
    (∀e ∈ ok.after,Region.binds .any e=true->e.on≠i)->F.apart ops ok=true:=λk ok hk a1 O a2=>by
   refine m k ok hk a1 ?_ a2;by_cases K:j=k
   ·subst K;exact B
   rw[getD_set_ne true K]at O;exact O
  refine wpOp_mono (λa' w' W=>?_) h2;have I:S w':=W.2.1.resolve_left Z;refine⟨.inr I,ih (d.setIfInBounds j true) a' w' u (ready_mono E (Ne.symm l)) (D.set J) W.1 I ?_⟩;rw[Array.setIfInBounds_comm _ _ l];exact W.2.2
theorem Aa.take{j:Oper}{d:Array Bool}(hi:ops[i]?=some j)(p:waits ops ops.size s i=true)(k:Fy ops d=true)
  (o:Region.noSelect ops=true) (hf:Region.free .any ops d i=true) (m:(Region.ready .any ops d).contains i=true)
  (hQ:∀c a w,Q (.panic c) (a.put j.dst v) w->Q (.panic c) a w) (l:S w) (u:YieldsIf P ops S j v a)
  (h:Aa P ops Q S s g (d.setIfInBounds i true) (a.put j.dst v) w):Aa P ops Q S s (g+1) d a w :=
 Aa.first hi p (Region.noSelect_spec o) hQ g d a w (Region.free_spec hi hf) (by simpa using m) (LK k) u l h
def tkB(ops:Array Oper)(s i:Nat)(listed:Array Bool):Bool:=waits ops ops.size s i&&Fy ops listed&&Region.noSelect ops&&Region.free .any ops listed i&&(Region.ready .any ops listed).contains i
theorem Aa.tk{j:Oper}{d:Array Bool}(hi:ops[i]?=some j)(hb:tkB ops s i d=true)(k:S w)(l:YieldsIf P ops S j v a)
  (h:Aa P ops Q S s g (d.setIfInBounds i true) (a.put j.dst v) w) (hQ:∀c a w,Q (.panic c) (a.put j.dst v) w->Q (.panic c) a w:=by exact λ_ _ _ h=>h):Aa P ops Q S s (g+1) d a w:=by
 unfold tkB at hb;simp only[Bool.and_eq_true]at hb;exact Aa.take hi hb.1.1.1.1 hb.1.1.1.2 hb.1.1.2 hb.1.2 hb.2 hQ k l h
theorem Aa.one{o:Oper}{d:Nat}{c:Array Bool}(A:ops[i]?=some o)(m:Region.ready .any ops c=[i])(g:Region.wanted o (yielded ops a.tmps)=true)
  (h:∀K:Act->World->Prop,Shut (∀a w,(i=s\/S w)->Aa P ops Q S s d (c.setIfInBounds i true) a w->K a w)->Oper.wp P o a w K Q):Aa P ops Q S s (d+1) c a w:=by
 refine⟨λk=>(by rw[m]at k;cases k),λj l=>?_⟩;rw[m]at l;obtain rfl:j=i:=by simpa using l
 exact wpOp_step A (λK p=>by rw[ifp g];exact h K (λa w u z=>p a w ⟨u,z⟩))
theorem Aa.tm(i:Nat){j:Oper}{d:Array Bool}(k:S w)
  (h:Aa P ops Q S s g (d.setIfInBounds i true) (a.put j.dst v) w) (hi:ops[i]?=some j:=by rfl) (hb:tkB ops s i d=true:=by kernel_rfl) (l:Region.wanted j (yielded ops a.tmps)=true:=by kernel_rfl)
  (m:∀w,S w->(execOp a.eval j).run P w=.ok (.value v) w:=by (intro w h;go_simp;try with_reducible rfl)) (hQ:∀c a w,Q (.panic c) (a.put j.dst v) w->Q (.panic c) a w:=by exact λ_ _ _ h=>h):Aa P ops Q S s (g+1) d a w:=Aa.tk hi hb k (.inl ⟨l,m⟩) h hQ
theorem Aa.ts(i:Nat){j:Oper}{d:Array Bool}(k:S w)
  (h:Aa P ops Q S s g (d.setIfInBounds i true) (a.put j.dst undef) w) (hi:ops[i]?=some j:=by rfl) (hb:tkB ops s i d=true:=by kernel_rfl) (l:Region.wanted j (yielded ops a.tmps)=false:=by kernel_rfl)
  (hQ:∀c a w,Q (.panic c) (a.put j.dst undef) w->Q (.panic c) a w:=by exact λ_ _ _ h=>h):Aa P ops Q S s (g+1) d a w:=Aa.tk hi hb k (.inr ⟨l,rfl⟩) h hQ
theorem Aa.on(i:Nat){o:Oper}{d:Nat}{c:Array Bool}(h:∀K:Act->World->Prop,Shut (∀a w,(i=s\/S w)->Aa P ops Q S s d (c.setIfInBounds i true) a w->K a w)->Oper.wp P o a w K Q)
  (j:ops[i]?=some o:=by rfl) (k:Region.ready .any ops c=[i]:=by kernel_rfl) (g:Region.wanted o (yielded ops a.tmps)=true:=by rfl):Aa P ops Q S s (d+1) c a w:=Aa.one j k g h
def tkH(ops:Array Oper)(i:Nat)(listed:Array Bool):Bool:=Region.noSelect ops&&Region.free .any ops listed i&&(Region.ready .any ops listed).contains i
theorem hTm(i:Nat){j:Oper}{d:Array Bool}(k:S w)
  (h:wpAnyH P .any ops Q S g (d.setIfInBounds i true) (a.put j.dst v) w) (hi:ops[i]?=some j:=by rfl) (hb:tkH ops i d=true:=by kernel_rfl) (l:Region.wanted j (yielded ops a.tmps)=true:=by kernel_rfl)
  (m:∀w,S w->(execOp a.eval j).run P w=.ok (.value v) w:=by (intro w h;go_simp;try with_reducible rfl)) (hQ:∀c a w,Q (.panic c) (a.put j.dst v) w->Q (.panic c) a w:=by exact λ_ _ _ h=>h):wpAnyH P .any ops Q S (g+1) d a w:=by
 unfold tkH at hb;simp only[Bool.and_eq_true]at hb;exact wpAnyH_take hi hb.1.1 hb.1.2 hb.2 hQ (.inl ⟨l,m⟩) k h
theorem hTs(i:Nat){j:Oper}{d:Array Bool}(k:S w)
  (h:wpAnyH P .any ops Q S g (d.setIfInBounds i true) (a.put j.dst undef) w) (hi:ops[i]?=some j:=by rfl) (hb:tkH ops i d=true:=by kernel_rfl) (l:Region.wanted j (yielded ops a.tmps)=false:=by kernel_rfl)
  (hQ:∀c a w,Q (.panic c) (a.put j.dst undef) w->Q (.panic c) a w:=by exact λ_ _ _ h=>h):wpAnyH P .any ops Q S (g+1) d a w:=by
 unfold tkH at hb;simp only[Bool.and_eq_true]at hb;exact wpAnyH_take hi hb.1.1 hb.1.2 hb.2 hQ (.inr ⟨l,rfl⟩) k h
theorem Aa.done{listed:Array Bool}(hr:Region.ready .any ops listed=[])(h:Q .normal a w):∀fuel,Aa P ops Q S s fuel listed a w
 |0=>⟨hr,h⟩
 |_+1=>⟨λ_=>h,by rw[hr];simp⟩
theorem Aa.dn{c:Array Bool}{d:Nat}(h:Q .normal a w)(g:Region.ready .any ops c=[]:=by kernel_rfl):Aa P ops Q S s d c a w:=Aa.done g h d
theorem AD(S:World->Prop)(s:Nat){d:Nat}(c:P.follows .mixedOrders=true)
  (h:Aa P ops Q S s ops.size (Array.replicate ops.size false) a w.drew):(Code.region d ops true).wp P Q a w :=
 wp_region_any c (Aa.any _ _ _ _ h)
end
end
section
open Go.RowKit Go.Deep
variable{k:KK}{e n:Nat}
structure FitM{k:KK}(n:Nat)(M:Nat->Nat->RK k):Prop where
 steps:∀p,p<n->FitE n p (CSR.elims M p)
 last:∀i,i<n->fitV (CSR.elims M n i i+CSR.one).1
def Diag{k:KK}(e n c:Nat)(Z:Nat->Nat->ByteArray)(N:Nat->Nat->RK k):Prop:=∀l j,l<n->j<n->Is k e (Z l j) (if l=j/\l<c then N l j+CSR.one else N l j)
theorem Diag.start{Z:Nat->Nat->ByteArray}{N:Nat->Nat->RK k}(h:MatIs e n Z N):Diag e n 0 Z N:=λl j d c=>by rw[ifn (by omega)];exact h l j d c
theorem Diag.next{e' c:Nat}{Z:Nat->Nat->ByteArray}{N:Nat->Nat->RK k}{u:ByteArray}(h:Diag e n c Z N)(i:e'=0->e=0)(p:Is k e' u (N c c+CSR.one)):Diag e' n (c+1) (λl j=>if l=c/\j=c then u else Z l j) N:=λl j o m=>by
 by_cases d:l=c/\j=c
 ·obtain⟨rfl,rfl⟩:=d;rw[ifp (by omega)];simpa using p
 have:=(h l j o m).mono i;simp only[ifn d];by_cases g:l=j/\l<c
 ·rw[ifp g]at this;rw[ifp (by omega)];exact this
 rw[ifn g]at this;rw[ifn (by omega)];exact this
theorem Diag.done{Z:Nat->Nat->ByteArray}{M:Nat->Nat->RK k}(h:Diag e n n Z (CSR.elims M n)):MatIs e n Z (CSR.starM M n):=λl j d g=>by
 have:=h l j d g;unfold CSR.starM CSR.eye;by_cases c:l=j
 ·rw[ifp ⟨c,d⟩]at this;rw[ifp c];exact this
 rw[ifn (λh=>c h.1)]at this;rw[ifn c,CSR.a0];exact this
end
end Go.Proofs.YtpldocnhbdlgfaaGreatDoor
