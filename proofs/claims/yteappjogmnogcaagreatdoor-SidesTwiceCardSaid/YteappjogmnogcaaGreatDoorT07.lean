/- Parts of a proof: C5 WgS WgT EdL EdM WgF WgO WgR WgV. -/
import Derived.Test.YteappjogmnogcaaGreatDoorT06
import Derived.Deep.RegionHeld2
import Derived.Deep.QuietTactic
import Derived.BigQuiet
import Derived.Laws.Cover3
namespace Go.Proofs.YteappjogmnogcaaGreatDoor
set_option maxRecDepth 100000
set_option linter.unusedSimpArgs false
set_option linter.unusedVariables false
set_option linter.unusedSectionVars false
set_option maxHeartbeats 16000000
open Go Tryz
section
open Go.RowKit Go.Deep
theorem tryL {α:Type}:(∀ (l:List α) (i:Nat) (a:α),l.toArray.setIfInBounds i a=(l.set i a).toArray)/\(∀ (a b:α) (l:List α),(a::l).set 0 b=b::l)/\(∀ (a b:α) (l:List α) (n:Nat),(a::l).set (n+1) b=a::l.set n b)/\(∀ (l:List α) (i:Nat) (h:i<l.toArray.size),l.toArray[i]=l[i]'(by simpa using h))/\(∀ (a:α) (l:List α) (i:Nat) (h:i+1<(a::l).length),(a::l)[i+1]=l[i]'(by simpa using h))/\(∀ (a:α) (l:List α) (h:0<(a::l).length),(a::l)[0]=a) :=
 ⟨fun _ _ _=>List.setIfInBounds_toArray ..,fun _ _ _=>rfl,fun _ _ _ _=>rfl,fun _ _ _=>rfl,fun _ _ _ _=>rfl,fun _ _ _=>rfl⟩
section
variable {P:Program} {ops:Array Oper} {Q:Exit->Act->World->Prop} {S:World->Prop} {s:Nat}
def z0c (P:Program) (ops:Array Oper) (Q:Exit->Act->World->Prop) (S:World->Prop) (s:Nat):Nat->Array Bool->Act->World->Prop
 | 0,listed,a,w=>Region.ready .any ops listed=[]/\Q .normal a w
 | fuel+1,listed,a,w=>(Region.ready .any ops listed=[]->Q .normal a w) /\
  ∀ i ∈ Region.ready .any ops listed,wpOp P ops Q i (fun a' w'=>(i=s\/S w')/\z0c P ops Q S s fuel (listed.setIfInBounds i true) a' w') a w
theorem z0c.any:∀ (fuel:Nat) (listed:Array Bool) (a:Act) (w:World),z0c P ops Q S s fuel listed a w->wpAny P .any ops Q fuel listed a w
 | 0,_,_,_,h=>h
 | fuel+1,_,_,_,h=>⟨h.1,fun i hi=>wpOp_mono (fun a' w' h'=>z0c.any fuel _ a' w' h'.2) (h.2 i hi)⟩
def waits (ops:Array Oper):Nat->Nat->Nat->Bool
 | 0,_,_=>false
 | f+1,s,i=>match ops[s]? with
  | some o=>o.after.any fun e=>Region.binds .any e&&(e.on==i||waits ops f e.on i)
  | none=>false
def Closed (ops:Array Oper) (listed:Array Bool):Prop:=∀ j o,listed.getD j false=true->ops[j]?=some o->∀ e ∈ o.after,Region.binds .any e=true->listed.getD e.on false=true
def y3n (ops:Array Oper) (listed:Array Bool):Bool:=(List.range ops.size).all fun j=>!listed.getD j false||match ops[j]? with
 | some o=>o.after.all fun e=>!Region.binds .any e||listed.getD e.on false
 | none=>true
theorem y9t {c:Array Bool} (h:y3n ops c=true):Closed ops c:=fun j o k g e l hb=>by
 have d:=List.all_eq_true.1 h j (List.mem_range.2 (Array.getElem?_eq_some_iff.1 g).1);rw[k,g] at d;simp only[Bool.not_true,Bool.false_or] at d;have i:=Array.all_eq_true_iff_forall_mem.1 d e l;rw[hb] at i;simpa using i
theorem Closed.set {c:Array Bool} {j:Nat} (h:Closed ops c) (s:j ∈ Region.ready .any ops c):Closed ops (c.setIfInBounds j true):=fun k o p m e l hb=>by
 by_cases i:j=k
 ·subst i;obtain⟨_,u,d,g⟩:=mem_ready.1 s;rw[m] at d;cases d;exact getD_set_true (g e l hb)
 rw[getD_set_ne false i] at p;exact getD_set_true (h k o p m e l hb)
theorem y2a {c:Array Bool} (A:Closed ops c) {i:Nat}:∀ (f s:Nat),waits ops f s i=true->(∀ o,ops[s]?=some o->∀ e ∈ o.after,Region.binds .any e=true->c.getD e.on false=true)->c.getD i false=true:=by
 intro f
 induction f with
 | zero=>intro s h;simp[waits] at h
 | succ f ih =>
  intro s h z;unfold waits at h;cases j:ops[s]? with
  | none=>rw[j] at h;simp at h
  | some o =>
   rw[j] at h;obtain⟨e,p,hb⟩:=Array.any_eq_true'.1 h;simp only[Bool.and_eq_true,Bool.or_eq_true,beq_iff_eq] at hb;have m:=z o j e p hb.1
   rcases hb.2 with l|l
   ·rw[<- l];exact m
   exact ih e.on l (fun B d u k g=>A e.on B m d u k g)
theorem z0c.first {i:Nat} {D:Oper} {v:Value} (hi:ops[i]?=some D) (hw:waits ops ops.size s i=true) (C:∀ (j:Nat) (o:Oper) cs b,ops[j]?=some o->o.op≠.select cs b)
  (hQ:∀ c a w,Q (.panic c) (a.put D.dst v) w->Q (.panic c) a w) :
  ∀ (g:Nat) (d:Array Bool) (a:Act) (w:World),
   (∀ j oj,ops[j]?=some oj->j≠i->d.getD j true=false->(∀ e ∈ oj.after,Region.binds .any e=true->e.on≠i)->D.apart ops oj=true) ->
   i ∈ Region.ready .any ops d->Closed ops d->YieldsIf P ops S D v a->S w ->
   z0c P ops Q S s g (d.setIfInBounds i true) (a.put D.dst v) w->z0c P ops Q S s (g+1) d a w:=by
 intro g
 induction g with
 | zero =>
  intro d a w _ F E R G H;refine⟨fun h=>(by rw[h] at F;cases F),fun j I=>?_⟩;by_cases l:j=i
  ·subst l;exact R.wpOp hi G ⟨.inr G,H⟩
  have:=ready_mono I l;rw[H.1] at this;cases this
 | succ g ih =>
  intro d a w m F E R G H;refine⟨fun h=>(by rw[h] at F;cases F),fun j I=>?_⟩;by_cases l:j=i
  ·subst l;exact R.wpOp hi G ⟨.inr G,H⟩
  have T:=H.2 j (ready_mono I l);obtain⟨A,oj,z,B⟩:=mem_ready.1 I;have p:d.getD i false=false:=by
   have h0:=(mem_ready.1 F).1
   rcases Nat.lt_or_ge i d.size with h' | h'
   ·simp[h'] at h0 ⊢;exact h0
   simp[Array.getElem?_eq_none h']
  have O:∀ e ∈ oj.after,Region.binds .any e=true->e.on≠i:=fun e Z hb U=>by
   have T:=B e Z hb;rw[U,p] at T;cases T
  have Y:j≠s:=fun e=>by
   subst e;have:=y2a E _ _ hw (fun o' K e Z hb=>by rw[z] at K;cases K;exact B e Z hb);rw[p] at this;cases this
  have h2:=wpOp_putIf z (m j oj z l A O) (fun cs b=>C i D cs b hi) (fun cs b=>C j oj cs b z) hQ R T;have u:∀ k ok,ops[k]?=some ok->k≠i->(d.setIfInBounds j true).getD k true=false ->
    (∀ e ∈ ok.after,Region.binds .any e=true->e.on≠i)->D.apart ops ok=true:=fun k ok hk X N W=>by
   refine m k ok hk X ?_ W;by_cases J:j=k
   ·subst J;exact A
   rw[getD_set_ne true J] at N;exact N
  refine wpOp_mono (fun a' w' h3=>?_) h2;have L:S w':=h3.2.1.resolve_left Y;refine⟨.inr L,ih (d.setIfInBounds j true) a' w' u (ready_mono F (Ne.symm l)) (E.set I) h3.1 L ?_⟩;rw[Array.setIfInBounds_comm _ _ l];exact h3.2.2
theorem z0c.take {i:Nat} {j:Oper} {v:Value} {g:Nat} {d:Array Bool} {a:Act} {w:World} (hi:ops[i]?=some j) (p:waits ops ops.size s i=true) (k:y3n ops d=true)
  (o:Region.noSelect ops=true) (hf:Region.free .any ops d i=true) (m:(Region.ready .any ops d).contains i=true)
  (hQ:∀ c a w,Q (.panic c) (a.put j.dst v) w->Q (.panic c) a w) (u:S w) (l:YieldsIf P ops S j v a)
  (h:z0c P ops Q S s g (d.setIfInBounds i true) (a.put j.dst v) w):z0c P ops Q S s (g+1) d a w :=
 z0c.first hi p (Region.noSelect_spec o) hQ g d a w (Region.free_spec hi hf) (by simpa using m) (y9t k) l u h
def tkB (ops:Array Oper) (s i:Nat) (listed:Array Bool):Bool:=waits ops ops.size s i&&y3n ops listed&&Region.noSelect ops&&Region.free .any ops listed i&&(Region.ready .any ops listed).contains i
theorem z0c.tk {i:Nat} {j:Oper} {v:Value} {g:Nat} {d:Array Bool} {a:Act} {w:World} (hi:ops[i]?=some j) (hb:tkB ops s i d=true) (l:S w) (k:YieldsIf P ops S j v a)
  (h:z0c P ops Q S s g (d.setIfInBounds i true) (a.put j.dst v) w) (hQ:∀ c a w,Q (.panic c) (a.put j.dst v) w->Q (.panic c) a w:=by exact fun _ _ _ h=>h):z0c P ops Q S s (g+1) d a w:=by
 unfold tkB at hb;simp only[Bool.and_eq_true] at hb;exact z0c.take hi hb.1.1.1.1 hb.1.1.1.2 hb.1.1.2 hb.1.2 hb.2 hQ l k h
theorem z0c.one {i:Nat} {o:Oper} {d:Nat} {c:Array Bool} {a:Act} {w:World} (u:ops[i]?=some o) (m:Region.ready .any ops c=[i]) (g:Region.wanted o (yielded ops a.tmps)=true)
  (h:∀ K:Act->World->Prop,Shut (∀ a w,(i=s\/S w)->z0c P ops Q S s d (c.setIfInBounds i true) a w->K a w)->Oper.wp P o a w K Q):z0c P ops Q S s (d+1) c a w:=by
 refine⟨fun l=>(by rw[m] at l;cases l),fun j k=>?_⟩;rw[m] at k;obtain rfl:j=i:=by simpa using k
 exact wpOp_step u (fun K p=>by rw[if_pos g];exact h K (fun a w A z=>p a w ⟨A,z⟩))
theorem z0c.tm (i:Nat) {j:Oper} {v:Value} {g:Nat} {d:Array Bool} {a:Act} {w:World} (l:S w)
  (h:z0c P ops Q S s g (d.setIfInBounds i true) (a.put j.dst v) w) (hi:ops[i]?=some j:=by rfl) (hb:tkB ops s i d=true:=by kernel_rfl) (m:Region.wanted j (yielded ops a.tmps)=true:=by kernel_rfl)
  (k:∀ w,S w->(execOp a.eval j).run P w=.ok (.value v) w:=by (intro w h;go_simp;try with_reducible rfl)) (hQ:∀ c a w,Q (.panic c) (a.put j.dst v) w->Q (.panic c) a w:=by exact fun _ _ _ h=>h):z0c P ops Q S s (g+1) d a w:=z0c.tk hi hb l (.inl ⟨m,k⟩) h hQ
theorem z0c.on (i:Nat) {o:Oper} {d:Nat} {c:Array Bool} {a:Act} {w:World} (h:∀ K:Act->World->Prop,Shut (∀ a w,(i=s\/S w)->z0c P ops Q S s d (c.setIfInBounds i true) a w->K a w)->Oper.wp P o a w K Q)
  (k:ops[i]?=some o:=by rfl) (j:Region.ready .any ops c=[i]:=by kernel_rfl) (g:Region.wanted o (yielded ops a.tmps)=true:=by rfl):z0c P ops Q S s (d+1) c a w:=z0c.one k j g h
theorem z0c.done {listed:Array Bool} {a:Act} {w:World} (hr:Region.ready .any ops listed=[]) (h:Q .normal a w):∀ fuel,z0c P ops Q S s fuel listed a w
 | 0=>⟨hr,h⟩
 | _+1=>⟨fun _=>h,by rw[hr];simp⟩
theorem z0c.dn {c:Array Bool} {a:Act} {w:World} {d:Nat} (h:Q .normal a w) (g:Region.ready .any ops c=[]:=by kernel_rfl):z0c P ops Q S s d c a w:=z0c.done g h d
theorem z0g (S:World->Prop) (s:Nat) {c:Nat} {a:Act} {w:World} (d:P.follows .mixedOrders=true)
  (h:z0c P ops Q S s ops.size (Array.replicate ops.size false) a w.drew):(Code.region c ops true).wp P Q a w :=
 wp_region_any d (z0c.any _ _ _ _ h)
end
end
section
open Go.RowKit Go.Deep
theorem v3a:∀ args w,(callFunc 183 args).run prog w=.ok (.enter 183 args) w:=fun args w=>by kernel_rfl
def EachE {k:KK} (F:Prop) (B tb sb g n e:Nat) (R:Nat->Value) (M:Nat->Nat->RK k) (w:World) (r:Ending) (w':World):Prop :=
 ∃ e' Y,r=.returned (.tuple #[])/\Tb w' k.1 B tb sb g n e' R Y/\MatIs e' n Y (CSR.elims M n)/\Er F e'/\(e'=0->e=0)/\Gr B (some sb) w w'
theorem v0v {k:KK} {F:Prop} {N B O u g n e:Nat} {R:Nat->Value} {X:Nat->Nat->ByteArray} {M:Nat->Nat->RK k} {w:World} {a:Option Addr} {cap b j:Nat} {W:Nat->Value} (hn:n<=60)
  (ha:0<n->a=some ⟨b,j,none⟩) (hb:0<n->b<B/\b≠u) (c:∀ i,i<n->w.cell? ⟨b,j+i,none⟩=some (W i))
  (K:Tb w k.1 B O u g n e R X) (C:MatIs e n X M) (he:Er F e) (hF:F->∀ p,p<n->FitE n p (CSR.elims M p)) (ht:TabB N w) (hB:N<=u) :
  Calls prog 182 #[.slice a n cap,.func (.func 183) #[.pointer (some ⟨O,0,none⟩)] #[]] w (EachE F B O u g n e R M w):=by
 have a5:=v3a;have z:=qh K;clear K;have G:=qh C;clear C;have D:=qh he;clear he;have HF:=qh hF;clear hF;have d:=qh ht;clear ht;have HC:=qh c;clear c;have HA:=qh ha;clear ha;have HB:=qh hb;clear hb
 go_enter func182,ntmps182
 go_wp2_with fail
 go_loopw [8] (fun i wr=>∃ (q s:Nat) (Y:Nat->Nat->ByteArray),q<=n/\i=.int .i64 (q:Int)/\Tb wr k.1 B O u g n s R Y/\MatIs s n Y (CSR.elims M q)/\Er F s/\(s=0->e=0)/\TabB N wr/\Gr B (some u) w wr)
  (fun i _=>n-(intOf i).toNat)
 case atStart=>exact⟨0,e,X,Nat.zero_le _,rfl,z.out,G.out,D.out,fun h=>h,d.out,Gr.refl _ _ _⟩
 obtain⟨q,s,Y,hq,rfl,K,C,hE,hm,E,hG⟩:=hrel;clear z G D d;have z:=qh K;clear K;have G:=qh C;clear C;have D:=qh hE;clear hE;have HM:=qh hm;clear hm;have d:=qh E;clear E;have HG:=qh hG;clear hG;by_cases o:q<n
 ·have a6:(q:Int)<(n:Int):=by omega
  have a3:(0:Int)<=(q:Int):=by omega
  obtain rfl:=HA.out (by omega);obtain⟨P,a1⟩:=HB.out (by omega);have c0:wr.cell? ⟨b,j+q,none⟩=some (W q):=(World.cell?_of_block (w:=w) (a:=⟨b,j+q,none⟩) (HG.out.block b P (by simp;exact a1))).trans (HC.out q o)
  go_wp2_with fail
  refine(v3k (W q) hn o z.out G.out D.out (fun f=>HF.out f q o) d.out hB).mono ?_;rintro r w1 ⟨e1,Y1,rfl,I,L,J,H,m⟩;have l:TabB N w1:=d.out.gr m (by intro q hq;cases hq;exact hB) (by have:=z.out.sbB;omega);have Q:=qh I;clear I;have T:=qh L;clear L;have S:=qh J;clear J;have U:=qh H;clear H;have a2:=qh m;clear m;have A:=qh l;clear l;clear c0;go_wp2;go_roundw
  case rel=>exact⟨q+1,e1,Y1,by omega,by go_num,Q.out,T.out,S.out,fun h=>HM.out (U.out h),A.out,HG.out.trans a2.out⟩
  simp[intOf];omega
 have Z:q=n:=by omega
 subst Z;have a4:¬ ((q:Int)<(q:Int)):=by omega
 go_wp2_with fail
 go_end0
 exact⟨s,Y,rfl,z.out,G.out,D.out,HM.out,HG.out⟩
structure FitM {k:KK} (n:Nat) (M:Nat->Nat->RK k):Prop where
 steps:∀ p,p<n->FitE n p (CSR.elims M p)
 last:∀ i,i<n->fitV (CSR.elims M n i i+CSR.one).1
def PowE {k:KK} (F:Prop) (sb n e:Nat) (M:Nat->Nat->RK k) (w:World) (r:Ending) (w':World):Prop :=
 ∃ v e' Y,r=.returned v/\Mt (some sb) w' v n (fun _=>n) Y/\MatIs e' n Y (CSR.starM M n)/\Er F e'/\(e'=0->e=0)/\SumB w' sb k.1 e'/\w.grownBy w' (some sb)
def PW (w:World) (sb n:Nat):World:=(w.alloc (.cells (madeCells #[.slice none 0 0] n) 79)).alloc (.cells #[.pointer (some ⟨sb,0,none⟩),.slice (some ⟨w.heap.size,0,none⟩) n n] 184)
theorem u2n (w:World) (c n:Nat):(PW w c n).heap[w.heap.size+1]?=some (.cells #[.pointer (some ⟨c,0,none⟩),.slice (some ⟨w.heap.size,0,none⟩) n n] 184 (0,0)):=by
 have:=heap_alloc_new (w.alloc (.cells (madeCells #[.slice none 0 0] n) 79)) (.cells #[.pointer (some ⟨c,0,none⟩),.slice (some ⟨w.heap.size,0,none⟩) n n] 184);rw[show (w.alloc (.cells (madeCells #[.slice none 0 0] n) 79)).heap.size=w.heap.size+1 by simp] at this;exact this
theorem u4v (w:World) (c n:Nat) (X:Nat->Nat->ByteArray):OM (PW w c n) (fun b=>b=w.heap.size+1) w.heap.size 9 79 w.heap.size n (fun _=>.slice none 0 0) (fun l=>if l<0 then n else 0) X:=by
 have h:=(OM.made w (fun _=>False) (by simp) w.heap.size nlr 9 79 n X).fence (.cells #[.pointer (some ⟨c,0,none⟩),.slice (some ⟨w.heap.size,0,none⟩) n n] 184);rw[show (w.alloc (.cells (madeCells #[.slice none 0 0] n) 79)).heap.size=w.heap.size+1 by simp] at h;exact h.congrL fun _ _=>by simp
theorem v3u (w:World) (c n:Nat):Below w.heap.size w (PW w c n):=(blr.alloc nlr _).alloc (by simp) _
theorem y7g {w:World} {b c n:Nat} {X:Nat->ByteArray} (h:∀ j,j<n->w.cell? ⟨b,c+j,none⟩=some (.string (X j))):∀ j u,(strs n X)[j]?=some u->w.cell? ((⟨b,c,none⟩:Addr).add j)=some u:=by
 intro j u d;have i:j<n:=by
  rcases Nat.lt_or_ge j n with g|g
  ·exact g
  rw[List.getElem?_eq_none (by rw[z8g];exact g)] at d;cases d
 rw[z8j _ _ _ i] at d;cases d;rw[Addr.add_lit];exact h j i
theorem v3r {wr wa:World} {c:Nat} {o:Obj} {z:Option Nat} (h:wr.heap[c]?=some o) (i:wr.drew.grownBy wa z) (g:some c≠z) {p:Addr} (d:c≠p.block) (v:Value):(wa.setCell p v).heap[c]?=some o:=by
 rw[blk_setCell_other _ _ _ _ d,i.block c (Array.getElem?_eq_some_iff.1 h).1 g];exact h
def Diag {k:KK} (e n c:Nat) (Z:Nat->Nat->ByteArray) (N:Nat->Nat->RK k):Prop:=∀ l j,l<n->j<n->Is k e (Z l j) (if l=j/\l<c then N l j+CSR.one else N l j)
theorem Diag.start {k:KK} {e n:Nat} {Z:Nat->Nat->ByteArray} {N:Nat->Nat->RK k} (h:MatIs e n Z N):Diag e n 0 Z N:=fun l j d c=>by rw[if_neg (by omega)];exact h l j d c
theorem Diag.next {k:KK} {e e' n c:Nat} {Z:Nat->Nat->ByteArray} {N:Nat->Nat->RK k} {u:ByteArray} (h:Diag e n c Z N) (p:e'=0->e=0) (o:Is k e' u (N c c+CSR.one)):Diag e' n (c+1) (fun l j=>if l=c/\j=c then u else Z l j) N:=fun l j m i=>by
 by_cases d:l=c/\j=c
 ·obtain⟨rfl,rfl⟩:=d;rw[if_pos (by omega)];simpa using o
 have:=(h l j m i).mono p;simp only[if_neg d];by_cases g:l=j/\l<c
 ·rw[if_pos g] at this;rw[if_pos (by omega)];exact this
 rw[if_neg g] at this;rw[if_neg (by omega)];exact this
theorem Diag.done {k:KK} {e n:Nat} {Z:Nat->Nat->ByteArray} {M:Nat->Nat->RK k} (h:Diag e n n Z (CSR.elims M n)):MatIs e n Z (CSR.starM M n):=fun l j d g=>by
 have:=h l j d g;unfold CSR.starM CSR.eye;by_cases c:l=j
 ·rw[if_pos ⟨c,d⟩] at this;rw[if_pos c];exact this
 rw[if_neg (fun h=>c h.1)] at this;rw[if_neg c,CSR.a0];exact this
abbrev S4 (a b c d:Addr) (u v x y:Value) (wk:World):Prop:=wk.cell? a=some u/\wk.cell? b=some v/\wk.cell? c=some x/\wk.cell? d=some y
theorem x5y {k:KK} {F:Prop} {B0 m n e:Nat} {X:Nat->Nat->ByteArray} {M:Nat->Nat->RK k} {w:World} {v:Value} (hn:n<=60)
  (hA:Mt (some m) w v n (fun _=>n) X) (hX:MatIs e n X M) (hs:SumB w m k.1 e) (he:Er F e) (hF:F->FitM n M) (ht:TabB B0 w) (hB:B0<=m) :
  Calls prog 155 #[.pointer (some ⟨m,0,none⟩),v] w (PowE F m n e M w):=by
 obtain⟨a,l5,b,s,A,C,BB,O,rfl,ha,hc,hm,hb,a4⟩:=hA.open;unfold maxLen at hm;have b3:=hs.lt;have HS:=qh hs;clear hs;have HX:=qh hX;clear hX;have HE:=qh he;clear he;have HF:=qh hF;clear hF;have h5:=qh ht;clear ht;have HA:=qh ha;clear ha;have HB:=qh hb;clear hb;have HR:=qh a4;clear a4 hA;have j2:=run_make_row' (P:=prog) 75 79 (.slice none 0 0) 24 underlying75 y5f rfl .i64 .i64 n (by omega) (by omega)
 go_enter func155,ntmps155
 go_wp2_with fail
 change Code.wp _ _ _ _ (PW w m n);clear j2;have e6:=qh (u2n w m n);have d1:=qh (u4v w m n X);have h4:=qh (v3u w m n);generalize PW w m n=wp at *;obtain⟨B,J⟩:=exq (w.heap.size+1);obtain⟨g,D⟩:=exq (w.heap.size);rw[<- J,<- D];rw[<- D] at b3 J;have a2:=qh (show wp.heap[B]?=some (.cells #[.pointer (some ⟨m,0,none⟩),.slice (some ⟨g,0,none⟩) n n] 184 (0,0)) from by rw[J,D];exact e6.out);have a9:=qh (show OM wp (fun b=>b=B) g 9 79 g n (fun _=>.slice none 0 0) (fun l=>if l<0 then n else 0) X from by rw[J,D];exact d1.out)
 have a3:=qh (show Below g w wp from by rw[D];exact h4.out);have b8:=qh (show 0<n->b<g/\b≠m from fun h=>by rw[D];exact⟨(HB.out h).1,by have:=(HB.out h).2;simpa using this⟩);have f2:=qh (show ∀ i,i<n->w.cell? ⟨b,s+i,none⟩=some (.slice (A i) n (C i))/\n<=C i/\C i<=maxLen/\(0<n->A i=some ⟨BB i,O i,none⟩)/\(0<n->BB i<g)/\∀ j,j<n->w.cell? ⟨BB i,O i+j,none⟩=some (.string (X i j)) from fun i hi=>by
  obtain⟨k1,k2,k3,k4,k5,_,k7⟩:=HR.out i hi;exact⟨k1,k2,k3,k4,fun h=>by rw[D];exact(k5 h).1,k7⟩)
 have E:=qh D;clear D;have b2:=qh J;clear J;clear e6 d1 h4 HB HR
 go_loopw [16] (fun i wr=>∃ (q:Nat) (R2:Nat->Value),q<=n/\i=.int .i64 (q:Int)/\wr.heap[B]?=some (.cells #[.pointer (some ⟨m,0,none⟩),.slice (some ⟨g,0,none⟩) n n] 184 (0,0)) /\
  OM wr (fun b=>b=B) g 9 79 g n R2 (fun l=>if l<q then n else 0) X /\
  (∀ l,q<=l->R2 l=.slice none 0 0)/\Below g w wr) (fun i _=>n-(intOf i).toNat)
 case atStart=>exact⟨0,_,Nat.zero_le _,rfl,a2.out,a9.out,fun _ _=>rfl,a3.out⟩
 obtain⟨q,R2,hq,rfl,a6,f0,a7,f4⟩:=hrel;clear a2 a9 a3;have Q:=qh a6;clear a6;have L:=qh f0;clear f0;have b4:=qh a7;clear a7;have G:=qh f4;clear f4;by_cases o:q<n
 ·have l8:(q:Int)<(n:Int):=by omega
  have l2:(0:Int)<=(q:Int):=by omega
  obtain rfl:=HA.out (by omega);obtain⟨c9,k0⟩:=b8.out (by omega);obtain⟨k1,k2,k3,k4,k5,k7⟩:=f2.out q o;have d7:=k4 (by omega);have b5:=k5 (by omega);rw[d7] at k1;have c0:=(G.out.cell (p:=⟨b,s+q,none⟩) c9).trans k1;have d3:=qh (fun j (hj:j<n)=>(G.out.cell (p:=⟨BB q,O q+j,none⟩) b5).trans (k7 j hj));have t1:wr.cell? ⟨B,1,none⟩=some (.slice (some ⟨g,0,none⟩) n n):=by have:=Q.out;simp[World.cell?,this]
  have o0:=L.out.cell o;rw[b4.out q nlr] at o0;unfold maxLen at k3;have b6:=y1c wr none;have j5:=L.out.lt;have g8:g<=wr.heap.size:=by rw[E.out];exact G.out.size
  have l6:(C q:Int)<=9223372036854775807:=by omega
  clear k1 k4 k5 k7 d7;have m3:BB q<g:=b5;clear b5 c9 k0;obtain⟨i0,i9,j6,i2,j8⟩:=info_parts x4y;have j3:=qh (show ∀ j,j<n->wr.drew.cell? ⟨BB q,O q+j,none⟩=some (.string (X q j)) from d3.out);clear d3
  go_wp2_with fail
  have d:S4 ⟨B,1,none⟩ ⟨g,q,none⟩ ⟨b,s+q,none⟩ ⟨b,s+q,none⟩ (.slice (some ⟨g,0,none⟩) n n) (.slice none 0 0) (.slice (some ⟨BB q,O q,none⟩) n (C q)) (.slice (some ⟨BB q,O q,none⟩) n (C q)) wr.drew:=⟨t1,o0,c0,c0⟩;refine z0g (S4 ⟨B,1,none⟩ ⟨g,q,none⟩ ⟨b,s+q,none⟩ ⟨b,s+q,none⟩ (.slice (some ⟨g,0,none⟩) n n) (.slice none 0 0) (.slice (some ⟨BB q,O q,none⟩) n (C q)) (.slice (some ⟨BB q,O q,none⟩) n (C q))) 18 (by kernel_rfl) ?_;refine z0c.tm 0 d ?_;refine z0c.tm 1 d ?_;refine z0c.tm 2 d ?_;refine z0c.tm 3 d ?_;refine z0c.tm 4 d ?_;refine z0c.tm 5 d ?_;refine z0c.tm 6 d ?_;refine z0c.tm 7 d ?_;refine z0c.tm 8 d ?_;refine z0c.tm 9 d ?_;refine z0c.tm 10 d ?_;refine z0c.tm 11 d ?_;refine z0c.tm 12 d ?_;refine z0c.tm 13 d ?_;refine z0c.tm 14 d ?_;refine z0c.tm 15 d ?_
  try simp only[Act.put,tryL]
  refine z0c.on 16 fun K H=>?_;refine wp_append_lies _ (.tmp 30) (.tmp 34) 79 rfl g 9 i0 (.string ⟨#[]⟩) 1 16 underlying79 i9 j6 i2 j8 rfl (by omega) (.slice none 0 0) 0 [] (by simp[Act.eval]) (World.ownsRow_nil _ _ _ _) ⟨BB q,O q,none⟩ n (C q) (strs n (X q)) (by simp[Act.eval]) (by rw[z8g,Nat.mul_one])
     (y7g j3.out) (x0h _ _) (by omega) (by unfold maxLen;omega) (by omega) g8 wr.heap.size rfl ?_
  intro go l1 wa f3 u j1 l0;have U:=z3g b6 u;have l7:=(U.frozen_far ⟨g,q,none⟩ j5 (by simp)).trans (L.out.frozen q);have i8:=U.cell o0 (by simp);have h0:S4 ⟨B,1,none⟩ ⟨g,q,none⟩ ⟨b,s+q,none⟩ ⟨b,s+q,none⟩ (.slice (some ⟨g,0,none⟩) n n) (.slice none 0 0) (.slice (some ⟨BB q,O q,none⟩) n (C q)) (.slice (some ⟨BB q,O q,none⟩) n (C q)) wa :=
   ⟨U.cell t1 (by simp),i8,U.cell c0 (by simp),U.cell c0 (by simp)⟩
  refine H.out _ _ (.inr h0) ?_;clear H K
  try simp only[Act.put,tryL]
  refine z0c.tm 17 h0 ?_
  try simp only[Act.put,tryL]
  refine z0c.on 18 fun K H=>?_;go_simp;refine H.out _ _ (.inl rfl) (z0c.dn ?_);clear H K;go_wp2;go_roundw
  case rel =>
   obtain⟨R3,h1,h2⟩:=x0m L.out o b4.out f3 u j1;exact⟨q+1,R3,by omega,by go_num,v3r Q.out u (by simp[Value.ownBlock]) (by show B≠g;have:=b2.out;omega) _,h1,h2,((G.out.drew).grown u (by show g<=wr.heap.size;exact g8) (by simp[Value.ownBlock])).setCell nlr _⟩
  simp[intOf];omega
 have j9:q=n:=by omega
 subst j9;have d4:OM wr (fun b=>b=B) g 9 79 g q R2 (fun _=>q) X:=L.out.congrL fun l hl=>by rw[if_pos hl]
 have h9:¬ ((q:Int)<(q:Int)):=by omega
 have d8:Tb wr k.1 g (B) m g q e R2 X:=⟨Q.out,HS.out.kept (E.out ▸ G.out),d4,b3,by have:=b2.out;omega⟩;have a5:TabB B0 wr:=h5.out.kept (z:=none) (z0b (E.out ▸ G.out) _) (by simp) (by have:=E.out;omega);have e7:Gr g (some m) w wr:=Gr.of (z0b (E.out ▸ G.out) _) (by rw[E.out];exact nlr);clear L b4 d4;have d0:=qh d8;clear d8 HS;have S:=qh a5;clear a5 h5;have g3:=qh e7;clear e7;have I:∀ i,i<q->wr.cell? ⟨b,s+i,none⟩=some (.slice (A i) q (C i)):=fun i hi=>(G.out.cell (p:=⟨b,s+i,none⟩) (b8.out (by omega)).1).trans (f2.out i hi).1;have i6:=qh I;clear I
 go_wp2_with fail
 refine(v0v hn HA.out b8.out i6.out d0.out HX.out HE.out (fun f=>(HF.out f).steps) S.out hB).mono ?_;rintro r w2 ⟨e2,Y,rfl,f9,d6,d5,g0,b9⟩;have a8:TabB B0 w2:=S.out.gr b9 (by intro q hq;cases hq;exact hB) (by omega);have b1:=qh f9;clear f9 d0;have g9:=qh (Diag.start d6);clear d6;have e8:=qh d5;clear d5;have i4:=qh g0;clear g0;have g2:=qh (g3.out.trans b9);clear b9 g3;have a1:=qh a8;clear a8 S;have t1:=b1.out.c1
 go_wp2_with fail
 clear t1
 go_loopw [47] (fun i wr=>∃ (c e3:Nat) (Z:Nat->Nat->ByteArray),c<=q/\i=.int .i64 (c:Int)/\Tb wr k.1 g B m g q e3 R2 Z/\Diag e3 q c Z (CSR.elims M q)/\Er F e3/\(e3=0->e2=0)/\TabB B0 wr/\Gr g (some m) w wr)
  (fun i _=>q-(intOf i).toNat)
 case atStart=>exact⟨0,e2,Y,Nat.zero_le _,rfl,b1.out,g9.out,e8.out,fun h=>h,a1.out,g2.out⟩
 obtain⟨c,e3,Z,m2,rfl,hT,hX,hE,hm,g4,hG⟩:=hrel;clear b1 g9 e8 a1 g2;have W:=qh hT;clear hT;have b7:=qh hX;clear hX;have g7:=qh hE;clear hE;have HM:=qh hm;clear hm;have b0:=qh g4;clear g4;have HG:=qh hG;clear hG;by_cases o:c<q
 ·have l9:(c:Int)<(q:Int):=by omega
  have k6:(0:Int)<=(c:Int):=by omega
  obtain⟨T,cc,c8,e0,g5,l3,k9,m4,h6,h3,d2⟩:=W.out.om.form o (by omega);unfold maxLen at h6;have r0:=W.out.om.cell o;rw[c8] at r0;have r1:=d2 c o;have rf:=h3 c;have t1:=W.out.c1;have s0:=W.out.sum.c0;have h7:=qh c8;clear c8;clear h3 d2;have b6:=y1c wr (some m);have d:S4 ⟨B,1,none⟩ ⟨g,c,none⟩ ⟨T,c,none⟩ ⟨m,0,none⟩ (.slice (some ⟨g,0,none⟩) q q) (.slice (some ⟨T,0,none⟩) q cc) (.string (Z c c)) (.int .i64 k.1) wr.drew:=⟨t1,r0,r1,s0⟩;have i3:=b2.out;have f1:some B≠some m:=by simp;omega
  have e9:some g≠some m:=by simp;omega
  have c7:some T≠some m:=by simp;omega
  clear i3
  go_wp2_with fail
  refine z0g (S4 ⟨B,1,none⟩ ⟨g,c,none⟩ ⟨T,c,none⟩ ⟨m,0,none⟩ (.slice (some ⟨g,0,none⟩) q q) (.slice (some ⟨T,0,none⟩) q cc) (.string (Z c c)) (.int .i64 k.1)) 26 (by kernel_rfl) ?_;refine z0c.tm 0 d ?_;refine z0c.tm 1 d ?_;refine z0c.tm 2 d ?_;refine z0c.tm 3 d ?_;refine z0c.tm 4 d ?_;refine z0c.tm 5 d ?_;refine z0c.tm 6 d ?_;refine z0c.tm 7 d ?_;refine z0c.tm 8 d ?_;refine z0c.tm 9 d ?_;refine z0c.tm 10 d ?_;refine z0c.tm 11 d ?_;refine z0c.tm 12 d ?_;refine z0c.tm 13 d ?_;refine z0c.tm 14 d ?_;refine z0c.tm 15 d ?_;refine z0c.tm 16 d ?_;refine z0c.tm 17 d ?_;refine z0c.tm 18 d ?_;refine z0c.tm 19 d ?_;refine z0c.tm 20 d ?_;refine z0c.tm 21 d ?_;refine z0c.tm 22 d ?_
  try simp only[Act.put,tryL]
  refine z0c.on 23 fun K H=>?_;go_simp;refine(z6w k.1 _).mono ?_;rintro r w3 ⟨rfl,e1⟩;have R:=z3g b6 (z0b e1 (some m));have f5:SumB w3 m k.1 e3:=W.out.sum.drew.kept e1;have j7:S4 ⟨B,1,none⟩ ⟨g,c,none⟩ ⟨T,c,none⟩ ⟨m,0,none⟩ (.slice (some ⟨g,0,none⟩) q q) (.slice (some ⟨T,0,none⟩) q cc) (.string (Z c c)) (.int .i64 k.1) w3:=⟨R.cell t1 f1,R.cell r0 e9,R.cell r1 c7,f5.c0⟩;refine H.out _ _ (.inr j7) ?_;clear H K
  try simp only[Act.put,tryL]
  refine z0c.on 24 fun K H=>?_;go_simp;have i7:Is k e3 (Z c c) (CSR.elims M q c c):=by have:=b7.out c c o o;rwa [if_neg (by omega)] at this
  refine(x3s i7 (Is.one k e3) g7.out (fun f=>(HF.out f).last c o) (b0.out.kept R (by intro q hq;cases hq;exact hB) (by have:=W.out.sum.lt;omega)).tab f5).mono ?_;rintro r w4 ⟨u4,e4,rfl,j0,j4,g1,f7,h8⟩;have N:=z3g R h8;have l4:=(N.frozen_far ⟨T,c,none⟩ g5 c7).trans rf;have i5:=N.cell r1 c7;have g6:S4 ⟨B,1,none⟩ ⟨g,c,none⟩ ⟨T,c,none⟩ ⟨m,0,none⟩ (.slice (some ⟨g,0,none⟩) q q) (.slice (some ⟨T,0,none⟩) q cc) (.string (Z c c)) (.int .i64 k.1) w4:=⟨N.cell t1 f1,N.cell r0 e9,i5,f7.c0⟩;refine H.out _ _ (.inr g6) ?_;clear H K
  try simp only[Act.put,tryL]
  refine z0c.tm 25 g6 ?_
  try simp only[Act.put,tryL]
  refine z0c.on 26 fun K H=>?_;go_simp;refine H.out _ _ (.inl rfl) (z0c.dn ?_);clear H K;go_wp2;go_roundw
  case rel =>
   have f8:g<=wr.heap.size:=by rw[E.out];exact HG.out.size
   have d9:=((Gr.refl g (some m) wr).more N f8 (fun _ e=>.inl e)).set (p:=⟨T,c,none⟩) (.inr e0) (.string u4);exact⟨c+1,e4,_,by omega,by go_num,(W.out.kept N f7).stored o o h7.out u4,b7.out.next g1 j0,j4,fun h=>HM.out (g1 h),
    b0.out.gr d9 (by intro q hq;cases hq;exact hB) (by omega),HG.out.trans d9⟩
  simp[intOf];omega
 have e5:c=q:=by omega
 subst e5;have h9:¬ ((c:Int)<(c:Int)):=by omega
 have t1:=W.out.c1;go_wp2;go_ret;exact⟨_,e3,Z,rfl,W.out.om.mt (by unfold maxLen;omega) (by intro q hq;cases hq;exact .inl b3),b7.out.done,g7.out,fun h=>i4.out (HM.out h),W.out.sum,Gr.gb (by have h:=HG.out;rw[E.out] at h;exact h)⟩
end
section
open Go.RowKit Go.Deep
def Scl (w:World) (cb:Nat) (D:MD) (sv star:Value) (e:Nat):Prop:=w.heap[cb]?=some (.cells #[.int .i64 D.kind,.int .i64 D.start,.string D.lead,sv,star,.int .i64 (e:Int)] 105 (0,0))
namespace Scl
variable {w w':World} {cb:Nat} {D:MD} {sv star:Value} {e:Nat}
theorem lt (h:Scl w cb D sv star e):cb<w.heap.size:=(Array.getElem?_eq_some_iff.1 h).1
theorem c0 (h:Scl w cb D sv star e):w.cell? ⟨cb,0,none⟩=some (.int .i64 D.kind):=by unfold Scl at h;simp[World.cell?,h]
theorem c1 (h:Scl w cb D sv star e):w.cell? ⟨cb,1,none⟩=some (.int .i64 D.start):=by unfold Scl at h;simp[World.cell?,h]
theorem c2 (h:Scl w cb D sv star e):w.cell? ⟨cb,2,none⟩=some (.string D.lead):=by unfold Scl at h;simp[World.cell?,h]
theorem c3 (h:Scl w cb D sv star e):w.cell? ⟨cb,3,none⟩=some sv:=by unfold Scl at h;simp[World.cell?,h]
theorem c4 (h:Scl w cb D sv star e):w.cell? ⟨cb,4,none⟩=some star:=by unfold Scl at h;simp[World.cell?,h]
theorem c5 (h:Scl w cb D sv star e):w.cell? ⟨cb,5,none⟩=some (.int .i64 (e:Int)):=by unfold Scl at h;simp[World.cell?,h]
theorem fz (h:Scl w cb D sv star e) (j:Nat):w.frozen? ⟨cb,j,none⟩=false:=by unfold Scl at h;simp[World.frozen?,h]
theorem setE (h:Scl w cb D sv star e) (e':Nat):Scl (w.setCell ⟨cb,5,none⟩ (.int .i64 (e':Int))) cb D sv star e':=by
 unfold Scl at h ⊢;simp[World.setCell,Array.getElem?_modify,h]
theorem kept {C:Nat->Prop} (h:Scl w cb D sv star e) (hf:Fr C w w') (c:¬ C cb):Scl w' cb D sv star e:=by unfold Scl;rw[hf.block cb h.lt c];exact h
end Scl
theorem z7g {a:ByteArray} (h:(a.toList==[])=true):a=⟨#[]⟩:=toList_eq (b:=⟨#[]⟩) (by rw[Lib.toList_data ⟨#[]⟩];exact h)
theorem z9y {i:Nat} {D:MD} {sv star:Value} {e:Nat} (a b:ByteArray) (w:World) (m:Scl w i D sv star e) (E:smS a) (hb:smS b) (z:Tab w) :
  Calls prog 123 #[.pointer (some ⟨i,0,none⟩),.string a,.string b] w (fun r w'=>r=.returned (.string (z2e D.kind a b e).1)/\Scl w' i D sv star (z2e D.kind a b e).2/\Fr (fun q=>q=i) w w'):=by
 have I:=m.c0;have H:=m.c5;have l:=qh m;clear m;cases p:(a.toList==[])
 ·have g:a≠⟨#[]⟩:=fun e=>by rw[e] at p;simp at p
  by_cases u:e=0
  ·subst u;have j:z2e D.kind a b 0=z1i D.kind a b:=by unfold z2e;rw[if_neg (by intro h;rcases h with h|h;exact g h;exact h rfl)]
   rw[j];have B:=y2j D.kind a b w E hb z;have C:=qh B;clear B z
   go_enter func123,ntmps123
   go_wp2_with fail
   refine C.out.mono ?_;rintro r A ⟨rfl,d⟩;have k:Fr (fun q=>q=i) w A:=Fr.of_below d;have c:Scl A i D sv star 0:=by unfold Scl;rw[d.block i l.out.lt];exact l.out
   have J:=c.fz 5;have G:=c.c5;have s:=qh c;clear c d;have o:=qh k;clear k;go_wp2;go_ret;exact⟨rfl,s.out.setE _,o.out.set (.inl rfl) _⟩
  have j:z2e D.kind a b e=(b,e):=by unfold z2e;rw[if_pos (.inr u)]
  have F:¬ (e:Int)=0:=by omega
  rw[j]
  go_enter func123,ntmps123
  go_wp2;go_ret;exact⟨rfl,l.out,Fr.refl _ _⟩
 have g:a=⟨#[]⟩:=z7g p;have j:z2e D.kind a b e=(b,e):=by unfold z2e;rw[if_pos (.inl g)]
 rw[j]
 go_enter func123,ntmps123
 go_wp2;go_ret;exact⟨rfl,l.out,Fr.refl _ _⟩
theorem y1x {g:Nat} {D:MD} {sv star:Value} {e:Nat} (a b:ByteArray) (w:World) (i:Scl w g D sv star e) (A:smS a) (hb:smS b) (p:Tab w) :
  Calls prog 125 #[.pointer (some ⟨g,0,none⟩),.string a,.string b] w (fun r w'=>r=.returned (.string (z0t D.kind a b e).1)/\Scl w' g D sv star (z0t D.kind a b e).2/\Fr (fun q=>q=g) w w'):=by
 have F:=i.c0;have E:=i.c5;have j:=qh i;clear i;by_cases o:e=0
 ·subst o;have l:z0t D.kind a b 0=z0n D.kind a b:=by unfold z0t;rw[if_neg (by simp)]
  rw[l];have u:=z7c D.kind a b w A hb p;have z:=qh u;clear u p
  go_enter func125,ntmps125
  go_wp2_with fail
  refine z.out.mono ?_;rintro r s ⟨rfl,d⟩;have h:Fr (fun q=>q=g) w s:=Fr.of_below d;have c:Scl s g D sv star 0:=by unfold Scl;rw[d.block g j.out.lt];exact j.out
  have G:=c.fz 5;have C:=c.c5;have m:=qh c;clear c d;have k:=qh h;clear h;go_wp2;go_ret;exact⟨rfl,m.out.setE _,k.out.set (.inl rfl) _⟩
 have l:z0t D.kind a b e=(a,e):=by unfold z0t;rw[if_pos o]
 have B:¬ (e:Int)=0:=by omega
 rw[l]
 go_enter func125,ntmps125
 go_wp2;go_ret;exact⟨rfl,j.out,Fr.refl _ _⟩
theorem y9y:(prog.info? 9).map (fun i=>(i.zero,i.size,i.bytes))=some (some (.string ⟨#[]⟩),1,16):=by kernel_rfl
theorem y0f {c:Nat} {D:MD} {a:Option Addr} {cap:Nat} {star:Value} {e:Nat} (w:World) (g:Scl w c D (.slice a D.n cap) star e) (h:1<=D.n) (hn:D.n<=3000) :
  Calls prog 82 #[.pointer (some ⟨c,0,none⟩)] w (fun r w'=>r=.returned (.slice (some ⟨w.heap.size,0,none⟩) D.n D.n)/\w'.rowIs w.heap.size 9 D.n (fun q=>.string (z1d q))/\Fr (fun _=>False) w w'/\w'.heap.size=w.heap.size+1):=by
 have i:=g.c3;have d:=run_make_row' (P:=prog) 102 9 (.string ⟨#[]⟩) 16 underlying102 y9y rfl .i64 .i64 D.n (by omega) (by omega)
 go_enter func82,ntmps82
 go_wp2;go_ret;exact⟨rfl,World.rowIs_made w (.string ⟨#[]⟩) D.n 9,Fr.alloc _ _,by simp⟩
end
section
open Go.RowKit Go.Deep
theorem x6c {l:Nat} {D:MD} {a:Option Addr} {cap:Nat} {star:Value} {e:Nat} (w:World) (G:Scl w l D (.slice a D.n cap) star e) (T:1<=D.n) (hn:D.n<=3000) (C:0<=D.start) (i:D.start<(D.n:Int)) :
  Calls prog 80 #[.pointer (some ⟨l,0,none⟩)] w (fun r w'=>r=.returned (.slice (some ⟨w.heap.size,0,none⟩) D.n D.n)/\w'.rowIs w.heap.size 9 D.n (fun q=>.string (z7u D q))/\Fr (fun _=>False) w w'):=by
 obtain⟨st,k⟩:∃ st:Nat,D.start=(st:Int):=⟨D.start.toNat,by omega⟩;have o:st<D.n:=by omega
 have N:(st:Int)<(D.n:Int):=by omega
 have F:(0:Int)<=(st:Int):=by omega
 have A:=qh (y0f w G T hn);have S:=qh G;clear G;have u:z7u D=fun q=>if q=st then D.lead else ⟨#[]⟩:=by funext q;unfold z7u;rw[k,Int.toNat_natCast]
 have J:=qh u;clear u;have H:=qh k;clear k C i
 go_enter func80,ntmps80
 go_wp2_with fail
 refine A.out.mono ?_;rintro r I ⟨rfl,d,hf,E⟩;have i:=S.out.kept hf (fun h=>h);obtain⟨g,z⟩:=exq (w.heap.size);rw[<- z] at d;rw[<- z];have B:w.heap.size<=g:=by omega
 have P:=i.c1;rw[H.out] at P;have R:=i.c2;have gl:=d.cell o;have U:=d.frozen st;have s:=qh d;clear d;have Q:=qh hf;clear hf i E;have O:=qh z;clear z
 go_wp2_with fail
 have c:I.cell? ⟨l,1,none⟩=some (.int .i64 (st:Int))/\I.cell? ⟨l,2,none⟩=some (.string D.lead):=⟨P,R⟩;refine z0g (fun m=>m.cell? ⟨l,1,none⟩=some (.int .i64 (st:Int))/\m.cell? ⟨l,2,none⟩=some (.string D.lead)) 12 (by kernel_rfl) ?_;refine z0c.tm 0 c ?_;refine z0c.tm 1 c ?_;refine z0c.tm 2 c ?_;refine z0c.tm 3 c ?_;refine z0c.tm 4 c ?_;refine z0c.tm 5 c ?_;refine z0c.tm 6 c ?_;refine z0c.tm 7 c ?_;refine z0c.tm 8 c ?_;refine z0c.tm 9 c ?_;refine z0c.tm 10 c ?_;refine z0c.tm 11 c ?_
 try simp only[Act.put,tryL]
 refine z0c.on 12 fun K L=>?_;go_simp;refine L.out _ _ (.inl rfl) (z0c.dn ?_);clear L K;go_wp2;go_ret;refine⟨Eq.trans (b:=Ending.returned (.slice (some ⟨g,0,none⟩) D.n D.n)) rfl (by rw[O.out]),?_,(Q.out.set (p:=⟨g,st,none⟩) (.inr B) _).drew⟩;rw[J.out,<- O.out];exact(show (I.setCell ⟨g,st,none⟩ (.string D.lead)).rowIs g 9 D.n _ from s.out.set st _).congr (fun j _=>by
  show _=Value.string (if j=st then D.lead else ⟨#[]⟩)
  by_cases e:j=st
  ·rw[if_pos e,if_pos e]
  rw[if_neg e,if_neg e];rfl)
def TstA (nf:FuncId) (cap:Array Value) (sel:Int->Int->Bool) (P:World->Prop):Prop :=
 (∀ args w,(callFunc nf args).run prog w=.ok (.enter nf args) w)/\∀ w,P w->∀ (i o:Int) (s:ByteArray) (t:Int),Calls prog nf (#[.agg #[.int .i64 i,.int .i64 o,.string s,.int .i64 t]]++cap) w (fun r w'=>r=.returned (.bool (sel i o))/\Below w.heap.size w w')
def StpE (cb lb:Nat) (D:MD) (sv star:Value) (s:WS) (w:World) (r:Ending) (w':World):Prop :=
 r=.returned (.tuple #[])/\w'.rowIs lb 9 D.n (fun j=>.string (s.1 j))/\Scl w' cb D sv star s.2/\Fr (fun q=>q=cb\/q=lb) w w'
theorem y2s {u o vb nf:Nat} {cap:Array Value} {D:MD} {sv star:Value} {e:Nat} {l v:Nat->ByteArray} {sel:Int->Int->Bool} {P:World->Prop} (w0 w:World) (hv:VM D) (hD:StS none w0 sv D) (f9:Below w0.heap.size w0 w) (ht:Tab w0)
  (hs:Scl w u D sv star e) (hl:w.rowIs o 9 D.n (fun j=>.string (l j))) (f3:w.rowIs vb 9 D.n (fun j=>.string (v j))) (g4:w0.heap.size<=u) (g9:w0.heap.size<=o) (h6:u≠o) (g2:vb≠o) (g7:vb≠u)
  (g1:∀ j,smS (l j)) (g3:∀ j,smS (v j)) (f8:∀ i k,smS (D.aw i k)) (hP:P w) (i3:∀ wa wb,P wa->Fr (fun q=>q=u\/q=o) wa wb->P wb) (h3:TstA nf cap sel P) :
  Calls prog 84 #[.pointer (some ⟨u,0,none⟩),.slice (some ⟨o,0,none⟩) D.n D.n,.slice (some ⟨vb,0,none⟩) D.n D.n,.func (.func nf) #[] cap] w (StpE u o D sv star (z4c D sel v D.n (l,e)) w):=by
 obtain⟨a,cp,b,b4,A,C,BB,O,rfl,ha,hc,hm,hb,b1⟩:=hD.open;unfold maxLen at hm;obtain⟨n7,i9⟩:=h3;obtain⟨n,hn⟩:=exq (D.n);have n5:n<=3000:=by rw[hn];exact hv.n2
 have o3:1<=n:=by rw[hn];exact hv.n1
 rw[<- hn] at ha hc hb b1 hl f3 hs ⊢;have HN:=qh hn;clear hn;have HV:=qh hv;clear hv;have HA:=qh ha;clear ha;have HB:=qh hb;clear hb;have HR:=qh b1;clear b1 hD;have HT:=qh i9;clear i9;have j3:=qh ht;clear ht;have HP:=qh hP;clear hP;have j7:=qh i3;clear i3;have H:=qh f9;clear f9;have HS:=qh hs;clear hs;have HL:=qh hl;clear hl;have k9:=qh f3;clear f3;have j4:=qh g1;clear g1;have c7:=qh g3;clear g3;have l8:=qh f8;clear f8;have a4:=qh h6;clear h6;have l6:=qh g2;clear g2;have m4:=qh g7;clear g7;have d3:=qh g4;clear g4;have d1:=qh g9;clear g9;obtain rfl:=HA.out (by omega)
 go_enter func84,ntmps84
 go_wp2_with fail
 go_loopw [14] (fun i wr=>∃ q:Nat,q<=n/\i=.int .i64 (q:Int)/\wr.rowIs o 9 n (fun j=>.string ((z4c D sel v q (l,e)).1 j))/\Scl wr u D (.slice (some ⟨b,b4,none⟩) n cp) star (z4c D sel v q (l,e)).2/\Fr (fun q=>q=u\/q=o) w wr) (fun i _=>n-(intOf i).toNat)
 case atStart=>exact⟨0,Nat.zero_le _,rfl,HL.out,HS.out,Fr.refl _ _⟩
 obtain⟨q,hq,rfl,h7,i2,j2⟩:=hrel;clear HL HS;have X:=qh h7;clear h7;have R:=qh i2;clear i2;have W:=qh j2;clear j2;by_cases i5:q<n
 ·have n9:(q:Int)<(n:Int):=by omega
  have m9:(0:Int)<=(q:Int):=by omega
  have cv:=W.out.cell (k9.out.cell i5) (p:=⟨vb,q,none⟩) (by
   rintro(h|h)
   ·exact m4.out h
   exact l6.out h)
  have i7:=qh (H.out.trans (W.out.below H.out.size (fun k hk=>by rcases hk with rfl|rfl;exact d3.out;exact d1.out)))
  have l4:=(HB.out (by omega)).1;obtain⟨k1,k2,k3,k4,k5,k6,k7⟩:=HR.out q i5;obtain⟨aq,g8⟩:=exq (A q);rw[<- g8] at k2 k5;clear g8;have c1:=(i7.out.cell (p:=⟨b,b4+q*2+1,none⟩) l4).trans k2;have m3:=R.out.c3;clear k1 k2;unfold maxLen at k4;have m7:D.na q<=30000:=by have h1:=Nat.le_trans (z1u D (show q+1<=D.n by have:=HN.out;omega)) HV.out.arcs;have h2:z0f D (q+1)=z0f D q+D.na q:=rfl;omega
  have k0:=qh k7;clear k7;have l1:=qh k5;clear k5;have j5:=qh k6;clear k6;obtain⟨vq,U⟩:=exq (v q);rw[<- U] at cv;cases hE:(vq.toList==[])
  ·have a6:v q≠⟨#[]⟩:=fun e=>by rw[U,e] at hE;simp at hE
   have b8:z4c D sel v (q+1) (l,e)=z4f D sel v q (D.na q) (z4c D sel v q (l,e)):=by
    show rowC D sel v q _=_;unfold rowC;rw[if_neg a6]
   have Y:=qh b8;clear b8 a6;have e7:=qh U;clear U;obtain⟨s0,f0⟩:=exq (z4c D sel v q (l,e));have e2:∀ j,smS (s0.1 j):=by rw[f0];exact z6t c7.out q j4.out
   rw[<- f0] at X R Y;have l9:=qh e2;clear e2 f0
   go_wp2_with fail
   clear cv c1 m3
   go_loopw [31] (fun i wr=>∃ d:Nat,d<=D.na q/\i=.int .i64 (d:Int)/\wr.rowIs o 9 n (fun j=>.string ((z4f D sel v q d s0).1 j))/\Scl wr u D (.slice (some ⟨b,b4,none⟩) n cp) star (z4f D sel v q d s0).2/\Fr (fun q=>q=u\/q=o) w wr) (fun i _=>D.na q-(intOf i).toNat)
   case atStart=>exact⟨0,Nat.zero_le _,rfl,X.out,R.out,W.out⟩
   obtain⟨d,hd,rfl,G,L,e0⟩:=hrel;clear X R W i7;have z:=qh G;clear G;have F:=qh L;clear L;have J:=qh e0;clear e0;by_cases h5:d<D.na q
   ·have n6:(d:Int)<(D.na q:Int):=by omega
    have m8:(0:Int)<=(d:Int):=by omega
    have I:=qh (H.out.trans (J.out.below H.out.size (fun k hk=>by rcases hk with rfl|rfl;exact d3.out;exact d1.out)))
    have d4:=(j5.out (by omega)).1;obtain⟨t0,t1,t2,t3⟩:=k0.out d h5;obtain rfl:=l1.out (by omega);have c0:=(I.out.cell (p:=⟨BB q,O q+d*4,none⟩) d4).trans t0;have c1:=(I.out.cell (p:=⟨BB q,O q+d*4+1,none⟩) d4).trans t1;have c2:=(I.out.cell (p:=⟨BB q,O q+d*4+2,none⟩) d4).trans t2;have c3:=(I.out.cell (p:=⟨BB q,O q+d*4+3,none⟩) d4).trans t3;clear t0 t1 t2 t3;have e9:=HV.out.arc q d (by have:=HN.out;omega) h5;obtain⟨g,f4⟩:∃ g:Nat,D.ato q d=(g:Int):=⟨(D.ato q d).toNat,by have:=e9.t0;omega⟩;have h4:g<n:=by have:=e9.t1;have:=HN.out;omega
    rw[f4] at c3;have l2:=qh f4;clear f4 e9;obtain⟨Q,c9⟩:=exq (wr.heap.size);obtain⟨wa,a1⟩:=exq (wr.alloc (.cells #[.int .i64 (D.ain q d),.int .i64 (D.aout q d),.string (D.aw q d),.int .i64 (g:Int)] 59));have f5:Fr (fun q=>q=u\/q=o) wr wa:=by rw[a1];exact Fr.alloc _ _
    have d7:wa.heap[Q]?=some (.cells #[.int .i64 (D.ain q d),.int .i64 (D.aout q d),.string (D.aw q d),.int .i64 (g:Int)] 59 (0,0)):=by rw[a1,c9];exact heap_alloc_new wr _
    have a7:=HT.out wa (j7.out _ _ HP.out (J.out.trans f5)) (D.ain q d) (D.aout q d) (D.aw q d) (g:Int);have o2:Q≠o:=by have:=z.out.lt;omega
    have a8:Q≠u:=by have:=F.out.lt;omega
    have HC:=qh a7;clear a7;have d0:=qh f5;clear f5;have a9:=qh d7;clear d7
    go_wp2_with fail
    rw[<- a1,<- c9];clear c0 c1 c2 c3;have n3:=qh c9;clear c9;have e6:=qh a1;clear a1;refine HC.out.mono ?_;rintro r w1 ⟨rfl,Z⟩;have h0:Fr (fun q=>q=u\/q=o) w w1:=(J.out.trans d0.out).trans (Fr.of_below Z);have a2:=(Z.block Q (lt_of_block a9.out)).trans a9.out;have e5:Scl w1 u D (.slice (some ⟨b,b4,none⟩) n cp) star (z4f D sel v q d s0).2:=by
     unfold Scl;rw[Z.block u (by have:=F.out.lt;have:=d0.out.size;omega),e6.out,blk_alloc_lt _ _ _ F.out.lt];exact F.out
    have d5:w1.rowIs o 9 n (fun j=>.string ((z4f D sel v q d s0).1 j)):=z.out.of_block ((Z.block o (by have:=z.out.lt;have:=d0.out.size;omega)).trans (by rw[e6.out,blk_alloc_lt _ _ _ z.out.lt]));have a3:=qh h0;clear h0 Z d0 a9 HC F z J I e6;have m:=qh a2;clear a2;have N:=qh e5;clear e5;have B:=qh d5;clear d5;have d6:∀ j,smS ((z4f D sel v q d s0).1 j):=y7t (c7.out q) d l9.out;have e3:=qh d6;clear d6;cases b9:sel (D.ain q d) (D.aout q d)
    ·have b5:z4f D sel v q (d+1) s0=z4f D sel v q d s0:=by show arcC D sel v q d _=_;unfold arcC;rw[if_neg (by rw[b9];simp)]
     have b0:=qh b5;clear b5 b9;go_wp2;go_roundw
     case rel=>exact⟨d+1,by omega,by go_num,by rw[b0.out];exact B.out,by rw[b0.out];exact N.out,a3.out⟩
     simp[intOf];omega
    obtain⟨s1,f1⟩:=exq (z4f D sel v q d s0);obtain⟨tp,c8⟩:=exq (z0t D.kind vq (D.aw q d) s1.2);obtain⟨zp,e8⟩:=exq (z2e D.kind (s1.1 g) tp.1 tp.2);have b5:z4f D sel v q (d+1) s0=(updS s1.1 g zp.1,zp.2):=by
     show arcC D sel v q d _=_;unfold arcC;rw[if_pos b9,<- f1,l2.out,Int.toNat_natCast,<- e7.out,<- c8,<- e8]
    rw[<- f1] at N B e3;have b0:=qh b5;clear b5 b9 f1;have d9:smS tp.1:=by rw[c8];exact z6s (by rw[e7.out];exact c7.out q)
    have e1:smS vq:=by rw[e7.out];exact c7.out q
    have l7:=qh d9;clear d9;have g0:=qh e1;clear e1;have j8:=qh c8;clear c8;have l3:=qh e8;clear e8;have m5:(g:Int)<(n:Int):=by omega
    have l5:(0:Int)<=(g:Int):=by omega
    obtain⟨s,E⟩:=exq (w1.drew);have a3:Hid (Fr (fun q=>q=u\/q=o) w s):=qh (by rw[E];exact a3.out.drew);have m:Hid (s.heap[Q]?=some (.cells #[.int .i64 (D.ain q d),.int .i64 (D.aout q d),.string (D.aw q d),.int .i64 (g:Int)] 59 (0,0))):=qh (by rw[E];exact m.out);have N:Hid (Scl s u D (.slice (some ⟨b,b4,none⟩) n cp) star s1.2):=qh (by rw[E];exact N.out);have B:Hid (s.rowIs o 9 n (fun j=>.string (s1.1 j))):=qh (by rw[E];exact B.out);have b2:Tab s:=j3.out.below (H.out.trans (a3.out.below H.out.size (fun k hk=>by rcases hk with rfl|rfl;exact d3.out;exact d1.out))) nlr
    have c:s.cell? ⟨Q,3,none⟩=some (.int .i64 (g:Int))/\s.cell? ⟨Q,2,none⟩=some (.string (D.aw q d))/\s.cell? ⟨o,g,none⟩=some (.string (s1.1 g)) :=
     ⟨by simp[World.cell?,m.out],by simp[World.cell?,m.out],B.out.cell h4⟩
    have j0:=qh (y1x vq (D.aw q d) s N.out g0.out (l8.out q d) b2);rw[<- j8.out] at j0;clear b2
    go_wp2_with fail
    refine z0g (fun f2=>f2.cell? ⟨Q,3,none⟩=some (.int .i64 (g:Int))/\f2.cell? ⟨Q,2,none⟩=some (.string (D.aw q d))/\f2.cell? ⟨o,g,none⟩=some (.string (s1.1 g))) 16 (by kernel_rfl) ?_;rw[<- E];clear E;refine z0c.tm 0 c ?_;refine z0c.tm 1 c ?_;refine z0c.tm 2 c ?_;refine z0c.tm 3 c ?_;refine z0c.tm 4 c ?_;refine z0c.tm 5 c ?_;refine z0c.tm 6 c ?_;refine z0c.tm 7 c ?_;refine z0c.tm 8 c ?_;refine z0c.tm 9 c ?_;refine z0c.tm 10 c ?_;refine z0c.tm 11 c ?_;refine z0c.tm 12 c ?_
    try simp only[Act.put,tryL]
    refine z0c.on 13 fun K hK=>?_;go_simp;refine j0.out.mono ?_;rintro r w2 ⟨rfl,L,S⟩;have d2:w2.cell? ⟨Q,3,none⟩=some (.int .i64 (g:Int))/\w2.cell? ⟨Q,2,none⟩=some (.string (D.aw q d))/\w2.cell? ⟨o,g,none⟩=some (.string (s1.1 g)) :=
     ⟨S.cell c.1 a8,S.cell c.2.1 a8,S.cell c.2.2 (fun e=>a4.out e.symm)⟩
    have b6:Fr (fun q=>q=u\/q=o) w w2:=a3.out.trans (S.mono (fun _ _ e=>.inl e));have G:=S.row B.out (fun e=>a4.out e.symm);have a5:=(S.block Q (lt_of_block m.out) a8).trans m.out;have b7:Tab w2:=j3.out.below (H.out.trans (b6.below H.out.size (fun k hk=>by rcases hk with rfl|rfl;exact d3.out;exact d1.out))) nlr
    have g5:=qh (z9y (s1.1 g) tp.1 w2 L (e3.out g) l7.out b7);rw[<- l3.out] at g5;have m2:=qh b6;clear b6 S;have g6:=qh G;clear G;have j9:=qh a5;clear a5 L b7;refine hK.out _ _ (.inr d2) ?_;clear hK K
    try simp only[Act.put,tryL]
    refine z0c.on 14 fun K hK=>?_;go_simp;refine g5.out.mono ?_;rintro r w3 ⟨rfl,d8,T⟩;have f7:w3.cell? ⟨Q,3,none⟩=some (.int .i64 (g:Int))/\w3.cell? ⟨Q,2,none⟩=some (.string (D.aw q d))/\w3.cell? ⟨o,g,none⟩=some (.string (s1.1 g)) :=
     ⟨T.cell d2.1 a8,T.cell d2.2.1 a8,T.cell d2.2.2 (fun e=>a4.out e.symm)⟩
    have b3:=T.row g6.out (fun e=>a4.out e.symm);have e4:Fr (fun q=>q=u\/q=o) w w3:=m2.out.trans (T.mono (fun _ _ e=>.inl e));have fl:=b3.frozen g;have l0:=qh e4;clear e4 T;have i4:=qh b3;clear b3;have i8:=qh d8;clear d8;refine hK.out _ _ (.inr f7) ?_;clear hK K
    try simp only[Act.put,tryL]
    refine z0c.tm 15 f7 ?_
    try simp only[Act.put,tryL]
    have gl:=f7.2.2;refine z0c.on 16 fun K hK=>?_;go_simp;refine hK.out _ _ (.inl rfl) (z0c.dn ?_);clear hK K;go_wp2;go_roundw
    case rel =>
     refine⟨d+1,by omega,by go_num,?_,?_,l0.out.set (.inl (.inr rfl)) _⟩
     ·rw[b0.out];exact(i4.out.set g _).congr (fun j _=>by
       show _=Value.string (updS s1.1 g zp.1 j);unfold updS;by_cases e:j=g
       ·rw[if_pos e,if_pos e]
       rw[if_neg e,if_neg e])
     rw[b0.out];unfold Scl;rw[z0e (show u≠o from a4.out)];exact i8.out
    simp[intOf];omega
   have h9:d=D.na q:=by omega
   have j6:¬ ((d:Int)<(D.na q:Int)):=by omega
   have h8:=qh h9;clear h9;go_wp2;go_roundw
   case rel=>exact⟨q+1,by omega,by go_num,by rw[Y.out,<- h8.out];exact z.out,by rw[Y.out,<- h8.out];exact F.out,J.out⟩
   simp[intOf];omega
  have a6:v q=⟨#[]⟩:=by rw[<- U];exact z7g hE
  have b8:z4c D sel v (q+1) (l,e)=z4c D sel v q (l,e):=by
   show rowC D sel v q _=_;unfold rowC;rw[if_pos a6]
  have Y:=qh b8;clear b8 a6 U;go_wp2;go_roundw
  case rel=>exact⟨q+1,by omega,by go_num,by rw[Y.out];exact X.out,by rw[Y.out];exact R.out,W.out⟩
  simp[intOf];omega
 have j1:q=n:=by omega
 have j6:¬ ((q:Int)<(n:Int)):=by omega
 have i6:=qh j1;clear j1
 go_wp2_with fail
 go_end0
 exact⟨rfl,by rw[<- HN.out];rw[i6.out] at X;exact X.out,by rw[i6.out] at R;exact R.out,W.out⟩
end
section
structure ED where
 nf:Nat
 f:Nat->Int
 nt:Nat
 t:Nat->Int
 w:ByteArray
structure EM where
 n:Nat
 e:Nat->ED
 most:Int
def v6p (n:Nat) (x:Nat->Int) (sig:Int):Prop:=∀ i,i<n->1<=x i/\x i<=sig
def u2u (s:ByteArray):Prop:=∃ q,prs s=some q/\0<=q
structure EdOk (d:ED):Prop where
 f6:d.nf<=6
 t6:d.nt<=6
 pos:0<d.nf+d.nt
 fw:v6p d.nf d.f 500
 tw:v6p d.nt d.t 500
 wt:u2u d.w
structure VE (M:EM):Prop where
 n4:M.n<=400
 m0:0<=M.most
 m6:M.most<=6
 ok:∀ i,i<M.n->EdOk (M.e i)
def qv (s:ByteArray):Rat:=(prs s).getD 0
theorem EdOk.q0 {d:ED} (h:EdOk d):0<=qv d.w:=by obtain⟨q,c,g⟩:=h.wt;unfold qv;rw[c];exact g
theorem EdOk.q {d:ED} (h:EdOk d):prs d.w=some (qv d.w):=by obtain⟨q,c,_⟩:=h.wt;unfold qv;rw[c];rfl
structure EP where
 M:EM
 a:Nat
 x:Nat->Int
 b:Nat
 y:Nat->Int
abbrev Pl:=Nat × Nat × Nat
def bgs (a:Nat) (x:Nat->Int) (i n:Nat) (u:Nat->Int):Prop:=i+n<=a/\∀ k,k<n->x (i+k)=u k
inductive Sp (P:EP):Pl->Option Nat->Pl->Rat->Prop
 | copy {k i j:Nat}:i<P.a->j<P.b->P.x i=P.y j->Sp P (k,i,j) none (k,i+1,j+1) 0
 | edit {k i j e:Nat}:e<P.M.n->(k:Int)<P.M.most->bgs P.a P.x i (P.M.e e).nf (P.M.e e).f->bgs P.b P.y j (P.M.e e).nt (P.M.e e).t->Sp P (k,i,j) (some e) (k+1,i+(P.M.e e).nf,j+(P.M.e e).nt) (qv (P.M.e e).w)
inductive Pth (P:EP):Pl->Rat->Prop
 | start:Pth P (0,0,0) 0
 | step {p:Pl} {c:Rat} {l:Option Nat} {q:Pl} {d:Rat}:Pth P p c->Sp P p l q d->Pth P q (c+d)
theorem Sp.fn {P:EP} {p q c:Pl} {l:Option Nat} {d g:Rat} (h:Sp P p l q d) (i:Sp P p l c g):q=c/\d=g:=by
 cases h<;>cases i<;>exact⟨rfl,rfl⟩
abbrev TbE:=Pl->Option Rat
def relx (T:TbE) (q:Pl) (v:Rat):TbE:=fun r=>if r=q then (match T q with|none=>some v|some u=>if v<u then some v else some u) else T r
structure Dp (P:EP) (Done:Pl->Option Nat->Prop) (T:TbE):Prop where
 sound:∀ q c,T q=some c->Pth P q c
 zero:∃ c,T (0,0,0)=some c/\c<=0
 done:∀ p l c q d,Done p l->T p=some c->Sp P p l q d->∃ u,T q=some u/\u<=c+d
theorem Dp.start (P:EP):Dp P (fun _ _=>False) (fun q=>if q=(0,0,0) then some 0 else none):=by
 refine⟨fun q c h=>?_,⟨0,by simp,Rat.le_refl⟩,fun _ _ _ _ _ h=>h.elim⟩;by_cases e:q=(0,0,0)
 ·subst e;simp at h;subst h;exact .start
 simp[e] at h
theorem x9z {T:TbE} {q:Pl} {v:Rat} {r:Pl} {u:Rat} (h:T r=some u):∃ u',relx T q v r=some u'/\u'<=u:=by
 unfold relx;by_cases e:r=q
 ·subst e;rw[if_pos rfl,h];by_cases c:v<u
  ·exact⟨v,by simp[c],Rat.le_of_lt c⟩
  exact⟨u,by simp[c],Rat.le_refl⟩
 exact⟨u,by rw[if_neg e];exact h,Rat.le_refl⟩
theorem v6e (T:TbE) (q:Pl) (v:Rat):∃ u',relx T q v q=some u'/\u'<=v:=by
 unfold relx;rw[if_pos rfl];cases h:T q with
 | none=>exact⟨v,rfl,Rat.le_refl⟩
 | some u =>
  by_cases c:v<u
  ·exact⟨v,by simp[c],Rat.le_refl⟩
  exact⟨u,by simp[c],Rat.not_lt.1 c⟩
theorem x8m {T:TbE} {q r:Pl} {v:Rat} (h:r≠q):relx T q v r=T r:=if_neg h
theorem Dp.step {P:EP} {j g:Pl->Option Nat->Prop} {T:TbE} {p q:Pl} {l:Option Nat} {c d:Rat} (h:Dp P j T) (D:T p=some c) (B:Sp P p l q d) (I:∀ l',¬ g q l')
  (J:∀ p' l',g p' l'->j p' l'\/(p'=p/\l'=l)):Dp P g (relx T q (c+d)):=by
 refine⟨fun r u i=>?_,?_,fun p' l' H G O s k o=>?_⟩
 ·by_cases e:r=q
  ·subst e;unfold relx at i;rw[if_pos rfl] at i;cases z:T r with
   | none=>rw[z] at i;simp at i;subst i;exact .step (h.sound p c D) B
   | some m =>
    rw[z] at i;by_cases E:c+d<m
    ·simp[E] at i;subst i;exact .step (h.sound p c D) B
    simp[E] at i;subst i;exact h.sound _ _ z
  rw[x8m e] at i;exact h.sound r u i
 ·obtain⟨u,s,k⟩:=h.zero;obtain⟨m,o,A⟩:=x9z (q:=q) (v:=c+d) s;exact⟨m,o,Rat.le_trans A k⟩
 have C:p'≠q:=fun e=>I l' (e ▸ s);rw[x8m C] at k
 rcases J p' l' s with A|⟨rfl,rfl⟩
 ·obtain⟨u,K,F⟩:=h.done p' l' H G O A k o;obtain⟨m,L,N⟩:=x9z (q:=q) (v:=c+d) K;exact⟨m,L,Rat.le_trans N F⟩
 obtain⟨rfl,rfl⟩:=B.fn o;rw[D] at k;cases k;exact v6e T q (c+d)
def IsCost (P:EP) (o:Option Rat):Prop:=(o=none/\∀ k c,¬ Pth P (k,P.a,P.b) c)\/∃ c k,o=some c/\Pth P (k,P.a,P.b) c/\∀ k' c',Pth P (k',P.a,P.b) c'->c<=c'
theorem IsCost.only {P:EP} {o i:Option Rat} (h:IsCost P o) (j:IsCost P i):o=i:=by
 rcases h with ⟨rfl,d⟩|⟨c,k,rfl,d,m⟩<;>rcases j with ⟨rfl,g⟩|⟨p,s,rfl,g,l⟩
 ·rfl
 ·exact absurd g (d _ _)
 ·exact absurd d (g _ _)
 rw[Rat.le_antisymm (m _ _ g) (l _ _ d)]
end
section
open Go.RowKit Go.Deep
def Si (z:Option Nat) (w:World) (v:Value) (n:Nat) (x:Nat->Int):Prop:=Rd z w v n fun i=>.int .i64 (x i)
def EdS (z:Option Nat) (w:World) (v:Value) (M:EM):Prop :=
 (M.n=0/\∃ a cap,v=.slice a 0 cap/\cap<=maxLen)\/∃ b off cap,∃ F T:Nat->Value,v=.slice (some ⟨b,off,none⟩) M.n cap/\(b<w.heap.size/\some b≠z)/\M.n<=cap/\cap<=maxLen/\∀ i,i<M.n ->
  w.cell? ⟨b,off+i*3,none⟩=some (F i)/\w.cell? ⟨b,off+i*3+1,none⟩=some (T i)/\w.cell? ⟨b,off+i*3+2,none⟩=some (.string (M.e i).w)/\Si z w (F i) (M.e i).nf (M.e i).f/\Si z w (T i) (M.e i).nt (M.e i).t
theorem EdS.kept {z:Option Nat} {w k:World} {v:Value} {M:EM} (h:EdS z w v M) (c:w.grownBy k z):EdS z k v M:=by
 rcases h with h|⟨b,g,j,F,T,p,d,o,m,l⟩
 ·exact .inl h
 refine .inr ⟨b,g,j,F,T,p,⟨Nat.lt_of_lt_of_le d.1 c.size,d.2⟩,o,m,fun i hi=>?_⟩;obtain⟨c1,c2,c3,c4,c5⟩:=l i hi;exact⟨c.cell c1 d.2,c.cell c2 d.2,c.cell c3 d.2,c4.kept c,c5.kept c⟩
structure ESz (M:EM):Prop where
 n:(M.n:Int)<=9223372036854775807
 f:∀ i,((M.e i).nf:Int)<=4611686018427387903
 t:∀ i,((M.e i).nt:Int)<=4611686018427387903
 w:∀ i,((M.e i).w.size:Int)<=9223372036854775807
 m0:-9223372036854775808<=M.most
 m1:M.most<=9223372036854775807
def TstF (nf:FuncId) (cap:Array Value) (p:Int->Bool) (w:World):Prop :=
 (∀ args w,(callFunc nf args).run prog w=.ok (.enter nf args) w)/\∀ s:Int,Calls prog nf (#[.int .i64 s]++cap) w (fun r w'=>r=.returned (.bool (p s))/\w'=w)
def anyI (n:Nat) (x:Nat->Int) (p:Int->Bool):Bool:=(List.range n).any fun i=>p (x i)
theorem y2x {n:Nat} {x:Nat->Int} {p:Int->Bool}:anyI n x p=true↔∃ i,i<n/\p (x i)=true:=by simp[anyI]
theorem v6v {n nf:Nat} {h:Array Value} {v:Value} {x:Nat->Int} {p:Int->Bool} (w:World) (B:Si none w v n x) (hn:(n:Int)<=9223372036854775807) (F:TstF nf h p w) :
  Calls prog 151 #[v,.func (.func nf) #[] h] w (fun r w'=>w'=w/\∃ k:Int,r=.returned (.int .i64 k)/\(decide (0<=k)=anyI n x p)):=by
 obtain⟨a,S,b,P,rfl,E,X,T,hb,c⟩:=B.open;unfold maxLen at T;obtain⟨L,g⟩:=F;have J:=qh E;clear E;have W:=qh hb;clear hb;have I:=qh c;clear c B;have U:=qh g;clear g
 go_enter func151,ntmps151
 go_wp2_with fail
 go_loop [8] (fun i=>∃ q:Nat,q<=n/\i=.int .i64 (q:Int)/\∀ j,j<q->p (x j)=false) (fun i=>n-(intOf i).toNat)
 case atStart=>exact⟨0,Nat.zero_le _,rfl,fun j H=>by omega⟩
 obtain⟨q,Z,rfl,m⟩:=hrel;have l:=qh m;clear m;by_cases s:q<n
 ·have O:(q:Int)<(n:Int):=by omega
  have C:(0:Int)<=(q:Int):=by omega
  obtain rfl:=J.out (by omega);have c0:=I.out q s;have d:=U.out (x q);have G:=qh d;clear d
  go_wp2_with fail
  refine G.out.mono ?_;rintro r Y ⟨rfl,rfl⟩;cases u:p (x q)
  ·have z:=qh u;clear u;go_wp2
   go_round
   case rel=>exact⟨q+1,by omega,by go_num,fun j H=>by
    by_cases e:j=q
    ·subst e;exact z.out
    exact l.out j (by omega)⟩
   simp[intOf];omega
  have z:=qh u;clear u;go_wp2;go_ret;refine⟨rfl,_,rfl,?_⟩;have A:anyI n x p=true:=y2x.2 ⟨q,s,z.out⟩;rw[A];simp
 have o:q=n:=by omega
 have K:¬ ((q:Int)<(n:Int)):=by omega
 have N:=qh o;clear o;go_wp2;go_ret;refine⟨rfl,_,rfl,?_⟩;have A:anyI n x p=false:=by
  cases R:anyI n x p
  ·rfl
  obtain⟨i,Q,D⟩:=y2x.1 R;rw[l.out i (by rw[N.out];exact Q)] at D;cases D
 rw[A];rfl
theorem y2h {n nf:Nat} {c:Array Value} {v:Value} {x:Nat->Int} {p:Int->Bool} (w:World) (d:Si none w v n x) (hn:(n:Int)<=9223372036854775807) (h:TstF nf c p w) :
  Calls prog 119 #[v,.func (.func nf) #[] c] w (fun r w'=>r=.returned (.bool (anyI n x p))/\w'=w):=by
 have j:=qh (v6v w d hn h);clear d hn h
 go_enter func119,ntmps119
 go_wp2_with fail
 refine j.out.mono ?_;rintro r l ⟨rfl,k,rfl,g⟩;have i:=qh g;clear g;go_wp2;go_ret;exact⟨z0w i.out,rfl⟩
def offI (sig s:Int):Bool:=decide (s<1)||decide (sig<s)
def y5n (n:Nat) (x:Nat->Int) (sig:Int):Bool:=!anyI n x (offI sig)
theorem y3y {n:Nat} {x:Nat->Int} {c:Int}:y5n n x c=true↔v6p n x c:=by
 unfold y5n;rw[Bool.not_eq_true',Bool.eq_false_iff]
 constructor
 ·intro h i hi;cases d:offI c (x i)
  ·unfold offI at d;simp at d;omega
  exact absurd (y2x.2 ⟨i,hi,d⟩) h
 intro h j;obtain⟨i,d,g⟩:=y2x.1 j;have:=h i d;unfold offI at g;simp at g;omega
theorem x0j {n:Nat} {x:Nat->Int} {c:Int}:y5n n x c=false↔¬ v6p n x c:=by
 rw[<- y3y];simp
end
section
open Go.RowKit Go.Deep
theorem y1w {B vb:Nat} {D:MD} {sv star:Value} {e:Nat} {v:Nat->ByteArray} (w0 w:World) (hv:VM D) (hD:StS none w0 sv D) (a1:Below w0.heap.size w0 w) (ht:Tab w0)
  (hs:Scl w B D sv star e) (Y:w.rowIs vb 9 D.n (fun j=>.string (v j))) (a4:w0.heap.size<=B) (a8:vb≠B) (a2:∀ j,smS (v j)) (a9:∀ i,smS (D.fin i)) :
  Calls prog 88 #[.pointer (some ⟨B,0,none⟩),.slice (some ⟨vb,0,none⟩) D.n D.n] w (fun r w'=>r=.returned (.tuple #[.string (finC D v e).1,.int .i64 ((finC D v e).2:Int)])/\Fr (fun q=>q=B) w w'):=by
 obtain⟨a,cp,b,W,A,C,BB,O,rfl,ha,hc,hm,hb,m⟩:=hD.open;unfold maxLen at hm;obtain⟨n,hn⟩:=exq (D.n);have e6:n<=3000:=by rw[hn];exact hv.n2
 have e5:1<=n:=by rw[hn];exact hv.n1
 rw[<- hn] at ha hc hb m Y hs ⊢;have HN:=qh hn;clear hn;have HV:=qh hv;clear hv;have HA:=qh ha;clear ha;have HB:=qh hb;clear hb;have HR:=qh m;clear m hD;have d1:=qh ht;clear ht;have J:=qh a1;clear a1;have d2:=hs.c0;have HS:=qh hs;clear hs;have d7:=qh Y;clear Y;have b2:=qh a2;clear a2;have d5:=qh a9;clear a9;have e1:=qh a8;clear a8;have b8:=qh a4;clear a4;obtain rfl:=HA.out (by omega)
 go_enter func88,ntmps88
 go_wp2_with fail
 refine(z4u D.kind w).mono ?_;rintro r w1 ⟨rfl,U⟩;have b4:Scl w1 B D (.slice (some ⟨b,W,none⟩) n cp) star e:=by unfold Scl;rw[U.block B HS.out.lt];exact HS.out
 have b6:Fr (fun q=>q=B) w w1:=Fr.of_below U;have a7:=qh b4;clear b4 U HS;have b0:=qh b6;clear b6 d2
 go_wp2_with fail
 go_loopw [6,18] (fun s i wr=>∃ q:Nat,q<=n/\i=.int .i64 (q:Int)/\s=.string (endC D v q (z1h D.kind,e)).1/\Scl wr B D (.slice (some ⟨b,W,none⟩) n cp) star (endC D v q (z1h D.kind,e)).2/\Fr (fun q=>q=B) w wr) (fun _ i _=>n-(intOf i).toNat)
 case atStart=>exact⟨0,Nat.zero_le _,rfl,rfl,a7.out,b0.out⟩
 obtain⟨q,hq,rfl,rfl,d0,c9⟩:=hrel;clear a7 b0;have l:=qh d0;clear d0;have d:=qh c9;clear c9;by_cases b1:q<n
 ·have e7:(q:Int)<(n:Int):=by omega
  have e3:(0:Int)<=(q:Int):=by omega
  have cv:=d.out.cell (d7.out.cell b1) (p:=⟨vb,q,none⟩) e1.out;have b5:=qh (J.out.trans (d.out.below J.out.size (fun k hk=>by subst hk;exact b8.out)));have d3:=(HB.out (by omega)).1;obtain⟨k1,_,_,_,_,_,_⟩:=HR.out q b1;have c1:=(b5.out.cell (p:=⟨b,W+q*2,none⟩) d3).trans k1;have m3:=l.out.c3;clear k1;obtain⟨s0,g⟩:=exq (endC D v q (z1h D.kind,e));have a6:smS s0.1:=by rw[g];exact v2k b2.out q (show smS (z1h D.kind) from Nat.le_trans (z8e D.kind) (by omega))
  have b3:endC D v (q+1) (z1h D.kind,e)=if v q=⟨#[]⟩\/D.fin q=⟨#[]⟩ then s0 else z2e D.kind s0.1 (z0t D.kind (v q) (D.fin q) s0.2).1 (z0t D.kind (v q) (D.fin q) s0.2).2:=by
   rw[g];rfl
  rw[<- g] at l;rw[<- g];have d4:=qh a6;clear a6;have c:=qh b3;clear b3 g;obtain⟨G,E⟩:=exq (v q);obtain⟨F,I⟩:=exq (D.fin q);rw[<- E] at cv;rw[<- I] at c1;rw[<- E,<- I] at c;have Q:smS G:=by rw[E];exact b2.out q
  have T:smS F:=by rw[I];exact d5.out q
  have P:=qh Q;clear Q E;have a3:=qh T;clear T I;cases hE:(G.toList==[])
  ·cases hF:(F.toList==[])
   ·have h:¬ (G=⟨#[]⟩\/F=⟨#[]⟩):=fun e=>by
     rcases e with e|e
     ·rw[e] at hE;simp at hE
     rw[e] at hF;simp at hF
    rw[if_neg h] at c;clear h;obtain⟨tp,H⟩:=exq (z0t D.kind G F s0.2);obtain⟨zp,X⟩:=exq (z2e D.kind s0.1 tp.1 tp.2);rw[<- H,<- X] at c;have o:Tab wr:=d1.out.below b5.out nlr;have b9:=qh (y1x G F wr l.out P.out a3.out o);rw[<- H] at b9;have L:smS tp.1:=by rw[H];exact z6s P.out
    have d8:=qh L;clear L H o;have e2:=qh X;clear X
    go_wp2_with fail
    refine b9.out.mono ?_;rintro r w2 ⟨rfl,S,c7⟩;have u:=d.out.trans c7;have z:Tab w2:=d1.out.below (J.out.trans (u.below J.out.size (fun k hk=>by subst hk;exact b8.out))) nlr;have a5:=qh (z9y s0.1 tp.1 w2 S d4.out d8.out z);rw[<- e2.out] at a5;have d9:=qh u;clear u c7 S z cv c1 m3
    go_wp2_with fail
    refine a5.out.mono ?_;rintro r w3 ⟨rfl,R,Z⟩;have e0:=qh (d9.out.trans Z);clear Z;have b7:=qh R;clear R;go_wp2;go_roundw
    case rel=>exact⟨q+1,by omega,by go_num,by rw[c.out],by rw[c.out];exact b7.out,e0.out⟩
    simp[intOf];omega
   have h:(G=⟨#[]⟩\/F=⟨#[]⟩):=.inr (z7g hF);rw[if_pos h] at c;clear h;go_wp2;go_roundw
   case rel=>exact⟨q+1,by omega,by go_num,by rw[c.out],by rw[c.out];exact l.out,d.out⟩
   simp[intOf];omega
  have h:(G=⟨#[]⟩\/F=⟨#[]⟩):=.inl (z7g hE);rw[if_pos h] at c;clear h;go_wp2;go_roundw
  case rel=>exact⟨q+1,by omega,by go_num,by rw[c.out],by rw[c.out];exact l.out,d.out⟩
  simp[intOf];omega
 have c8:q=n:=by omega
 have e4:¬ ((q:Int)<(n:Int)):=by omega
 have d6:=qh c8;clear c8;obtain⟨s0,g⟩:=exq (endC D v q (z1h D.kind,e));have K:finC D v e=if s0.2≠0 then (⟨#[]⟩,s0.2) else (s0.1,0):=by unfold finC;rw[<- HN.out,<- d6.out,<- g]
 rw[<- g] at l;rw[<- g];have N:=qh K;clear K g;have m5:=l.out.c5;by_cases he:s0.2=0
 ·rw[he] at m5;have HE:=qh he;clear he;go_wp2;go_ret2;exact⟨by rw[N.out,if_neg (by rw[HE.out];simp)];rfl,d.out⟩
 have e8:¬ ((s0.2:Int)=0):=by omega
 have HE:=qh he;clear he
 go_wp2_with fail
 go_quiet (fail)
 go_wp2;go_ret2;exact⟨by rw[N.out,if_pos HE.out];rfl,⟨d.out.os,d.out.tape,d.out.output,d.out.size,d.out.block⟩⟩
theorem x9d:∀ args w,(callFunc 120 args).run prog w=.ok (.enter 120 args) w:=fun args w=>by kernel_rfl
theorem x9q (w:World) (s:Int):Calls prog 120 #[.int .i64 s] w (fun r w'=>r=.returned (.bool (offI 500 s))/\w'=w):=by
 by_cases d:s<1
 ·go_enter func120,ntmps120
  go_wp2;go_ret;exact⟨z0w (by simp[offI,d]),rfl⟩
 have c:decide (s<1)=false:=by simp;omega
 go_enter func120,ntmps120
 go_wp2;go_ret;exact⟨z0w (by simp[offI,c]),rfl⟩
def isWord (n:Nat) (x:Nat->Int):Bool:=decide (n<=200)&&y5n n x 500
theorem x4f {n:Nat} {v:Value} {x:Nat->Int} (w:World) (d:Si none w v n x) (hn:(n:Int)<=9223372036854775807) :
  Calls prog 77 #[v] w (fun r w'=>r=.returned (.bool (isWord n x))/\w'=w):=by
 have c:=y2h w d hn (show TstF 120 #[] (offI 500) w from ⟨x9d,fun s=>x9q w s⟩);obtain⟨a,g,rfl⟩:=d.shape;have i:=qh c;clear c d;by_cases h:(n:Int)<=200
 ·go_enter func77,ntmps77
  go_wp2_with fail
  refine i.out.mono ?_;rintro r k ⟨rfl,rfl⟩;go_wp2;go_ret;exact⟨z0w (by unfold isWord y5n;rw[show decide (n<=200)=true by simp;omega];simp),rfl⟩
 have j:decide ((n:Int)<=200)=false:=by simp;omega
 go_enter func77,ntmps77
 go_wp2;go_ret;exact⟨z0w (by unfold isWord;rw[show decide (n<=200)=false by simp;omega];rfl),rfl⟩
theorem x1f:∀ args w,(callFunc 79 args).run prog w=.ok (.enter 79 args) w:=fun args w=>by kernel_rfl
def silB (i o:Int):Bool:=decide (i=0)&&decide (o=0)
theorem x5t (w:World) (i o:Int) (s:ByteArray) (t:Int):Calls prog 79 #[.agg #[.int .i64 i,.int .i64 o,.string s,.int .i64 t]] w (fun r w'=>r=.returned (.bool (silB i o))/\Below w.heap.size w w'):=by
 have c:=(Below.refl w.heap.size w).alloc nlr (.cells #[.int .i64 i,.int .i64 o,.string s,.int .i64 t] 59);have g:=qh c;clear c;by_cases d:i=0
 ·subst d
  go_enter func79,ntmps79
  go_wp2;go_ret;exact⟨z0w (by by_cases h:o=0<;>simp[silB,h]),g.out⟩
 go_enter func79,ntmps79
 go_wp2;go_ret;exact⟨z0w (by simp[silB,d]),g.out⟩
def BxI (w:World) (xb:Nat) (n:Nat) (x:Nat->Int):Prop:=∃ v,w.cell? ⟨xb,0,none⟩=some v/\Si none w v n x
theorem v9n:∀ args w,(callFunc 85 args).run prog w=.ok (.enter 85 args) w:=fun args w=>by kernel_rfl
theorem u0h:∀ args w,(callFunc 86 args).run prog w=.ok (.enter 86 args) w:=fun args w=>by kernel_rfl
theorem u1s:∀ args w,(callFunc 87 args).run prog w=.ok (.enter 87 args) w:=fun args w=>by kernel_rfl
def sel2 (y:Int) (i o:Int):Bool:=decide (i=0)&&decide (o=y)
def sel3 (x:Int) (i o:Int):Bool:=decide (i=x)&&decide (o=0)
def sel4 (x y:Int) (i o:Int):Bool:=decide (i=x)&&decide (o=y)
theorem u3q {K L n j:Nat} {y:Nat->Int} (w:World) (N:BxI w K n y) (G:w.cell? ⟨L,0,none⟩=some (.int .i64 (j:Int))) (B:j<n) (i o:Int) (s:ByteArray) (t:Int) :
  Calls prog 85 #[.agg #[.int .i64 i,.int .i64 o,.string s,.int .i64 t],.pointer (some ⟨K,0,none⟩),.pointer (some ⟨L,0,none⟩)] w (fun r w'=>r=.returned (.bool (sel2 (y j) i o))/\Below w.heap.size w w'):=by
 obtain⟨v,I,p⟩:=N;obtain⟨a,R,b,Q,rfl,H,W,S,hb,g⟩:=p.open;obtain rfl:=H (by omega);unfold maxLen at S;have c0:=g j B;clear g p;have O:(j:Int)<(n:Int):=by omega
 have F:(0:Int)<=(j:Int):=by omega
 obtain⟨m,c⟩:=exq (w.alloc (.cells #[.int .i64 i,.int .i64 o,.string s,.int .i64 t] 59));obtain⟨z,d⟩:=exq (w.heap.size);have k:=(Below.refl w.heap.size w).alloc nlr (.cells #[.int .i64 i,.int .i64 o,.string s,.int .i64 t] 59);have u:w.grownBy m none:=by rw[c];exact World.grownBy_alloc _ _ _
 rw[<- c] at k;have a0:m.cell? ⟨z,0,none⟩=some (.int .i64 i):=by rw[c,d];exact z5f w _ _ 0 _ rfl
 have X:m.cell? ⟨z,1,none⟩=some (.int .i64 o):=by rw[c,d];exact z5f w _ _ 1 _ rfl
 have U:=u.cell I (by simp);have T:=u.cell G (by simp);have P:=u.cell c0 (by simp);have E:=qh k;clear k hb H I G c0 u;obtain⟨C,l⟩:=exq (y j);rw[<- l] at P;rw[<- l];clear l;by_cases J:i=0
 ·subst J
  go_enter func85,ntmps85
  go_wp2_with fail
  rw[<- c,<- d];have A:=qh c;clear c;have D:=qh d;clear d
  go_quiet (fail)
  go_wp2;go_ret;exact⟨z0w (by by_cases h:o=C<;>simp[sel2,h]),below_drewN E.out _⟩
 go_enter func85,ntmps85
 go_wp2_with fail
 rw[<- c,<- d];have A:=qh c;clear c;have D:=qh d;clear d
 go_quiet (fail)
 go_wp2;go_ret;exact⟨z0w (by simp[sel2,J]),below_drewN E.out _⟩
theorem u3v {xb I n j:Nat} {x:Nat->Int} (w:World) (L:BxI w xb n x) (G:w.cell? ⟨I,0,none⟩=some (.int .i64 (j:Int))) (B:j<n) (i o:Int) (s:ByteArray) (t:Int) :
  Calls prog 86 #[.agg #[.int .i64 i,.int .i64 o,.string s,.int .i64 t],.pointer (some ⟨xb,0,none⟩),.pointer (some ⟨I,0,none⟩)] w (fun r w'=>r=.returned (.bool (sel3 (x j) i o))/\Below w.heap.size w w'):=by
 obtain⟨v,J,p⟩:=L;obtain⟨a,Q,b,P,rfl,H,U,R,hb,g⟩:=p.open;obtain rfl:=H (by omega);unfold maxLen at R;have c0:=g j B;clear g p;have N:(j:Int)<(n:Int):=by omega
 have F:(0:Int)<=(j:Int):=by omega
 obtain⟨m,c⟩:=exq (w.alloc (.cells #[.int .i64 i,.int .i64 o,.string s,.int .i64 t] 59));obtain⟨z,d⟩:=exq (w.heap.size);have k:=(Below.refl w.heap.size w).alloc nlr (.cells #[.int .i64 i,.int .i64 o,.string s,.int .i64 t] 59);have u:w.grownBy m none:=by rw[c];exact World.grownBy_alloc _ _ _
 rw[<- c] at k;have a0:m.cell? ⟨z,0,none⟩=some (.int .i64 i):=by rw[c,d];exact z5f w _ _ 0 _ rfl
 have W:m.cell? ⟨z,1,none⟩=some (.int .i64 o):=by rw[c,d];exact z5f w _ _ 1 _ rfl
 have T:=u.cell J (by simp);have S:=u.cell G (by simp);have O:=u.cell c0 (by simp);have E:=qh k;clear k hb H J G c0 u;obtain⟨C,l⟩:=exq (x j);rw[<- l] at O;rw[<- l];clear l;by_cases K:i=C
 ·subst K
  go_enter func86,ntmps86
  go_wp2_with fail
  rw[<- c,<- d];have A:=qh c;clear c;have D:=qh d;clear d
  go_quiet (fail)
  go_wp2;go_ret;exact⟨z0w (by by_cases h:o=0<;>simp[sel3,h]),below_drewN E.out _⟩
 go_enter func86,ntmps86
 go_wp2_with fail
 rw[<- c,<- d];have A:=qh c;clear c;have D:=qh d;clear d
 go_quiet (fail)
 go_wp2;go_ret;exact⟨z0w (by simp[sel3,K]),below_drewN E.out _⟩
theorem u4e {xb ib m k yb jb n j:Nat} {x y:Nat->Int} (w:World) (hx:BxI w xb m x) (W:w.cell? ⟨ib,0,none⟩=some (.int .i64 (k:Int))) (I:k<m) (hy:BxI w yb n y) (X:w.cell? ⟨jb,0,none⟩=some (.int .i64 (j:Int))) (L:j<n) (i o:Int) (s:ByteArray) (t:Int) :
  Calls prog 87 #[.agg #[.int .i64 i,.int .i64 o,.string s,.int .i64 t],.pointer (some ⟨xb,0,none⟩),.pointer (some ⟨ib,0,none⟩),.pointer (some ⟨yb,0,none⟩),.pointer (some ⟨jb,0,none⟩)] w (fun r w'=>r=.returned (.bool (sel4 (x k) (y j) i o))/\Below w.heap.size w w'):=by
 obtain⟨v',D,u⟩:=hx;obtain⟨a',U,b',a2,rfl,E,a5,K,O,g⟩:=u.open;obtain rfl:=E (by omega);have F:=g k I;unfold maxLen at K;have a8:(k:Int)<(m:Int):=by omega
 have Y:(0:Int)<=(k:Int):=by omega
 clear g u;obtain⟨v,hv,G⟩:=hy;obtain⟨a,a9,b,a7,rfl,Z,hc,hm,hb,l⟩:=G.open;obtain rfl:=Z (by omega);unfold maxLen at hm;have c0:=l j L;clear l G;have a3:(j:Int)<(n:Int):=by omega
 have T:(0:Int)<=(j:Int):=by omega
 obtain⟨C,c⟩:=exq (w.alloc (.cells #[.int .i64 i,.int .i64 o,.string s,.int .i64 t] 59));obtain⟨H,d⟩:=exq (w.heap.size);have p:=(Below.refl w.heap.size w).alloc nlr (.cells #[.int .i64 i,.int .i64 o,.string s,.int .i64 t] 59);have z:w.grownBy C none:=by rw[c];exact World.grownBy_alloc _ _ _
 rw[<- c] at p;have a0:C.cell? ⟨H,0,none⟩=some (.int .i64 i):=by rw[c,d];exact z5f w _ _ 0 _ rfl
 have a1:C.cell? ⟨H,1,none⟩=some (.int .i64 o):=by rw[c,d];exact z5f w _ _ 1 _ rfl
 have d0:=z.cell hv (by simp);have d1:=z.cell X (by simp);have d2:=z.cell c0 (by simp);have a6:=z.cell D (by simp);have a4:=z.cell W (by simp);have N:=z.cell F (by simp);have S:=qh p;clear p hb Z hv X c0 z O E D W F;obtain⟨P,A⟩:=exq (x k);rw[<- A] at N;rw[<- A];clear A;obtain⟨Q,B⟩:=exq (y j);rw[<- B] at d2;rw[<- B];clear B;by_cases h1:i=P
 ·subst h1
  go_enter func87,ntmps87
  go_wp2_with fail
  rw[<- c,<- d];have J:=qh c;clear c;have R:=qh d;clear d
  go_quiet (fail)
  go_wp2;go_ret;exact⟨z0w (by by_cases h:o=Q<;>simp[sel4,h]),below_drewN S.out _⟩
 go_enter func87,ntmps87
 go_wp2_with fail
 rw[<- c,<- d];have J:=qh c;clear c;have R:=qh d;clear d
 go_quiet (fail)
 go_wp2;go_ret;exact⟨z0w (by simp[sel4,h1]),below_drewN S.out _⟩
end
section
open Go.RowKit Go.Deep
theorem y1n (t e:TypeId) (h:prog.underlying t=some (.slice e)) (w:World) (a:Option Addr) (n c:Nat):(binOp .eql t (.slice a n c) (.slice none 0 0)).run prog w=.ok (.bool a.isNone) w:=by
 simp only[binOp];simp[run_equal_slice_nil w t e a n c h]
theorem x7n (t e:TypeId) (h:prog.underlying t=some (.slice e)) (w:World) (a:Option Addr) (n c:Nat):(binOp .neq t (.slice a n c) (.slice none 0 0)).run prog w=.ok (.bool (!a.isNone)) w:=run_neq_slice_nil w t e a n c h
end
section
open Go.RowKit Go.Deep
abbrev VV:=Nat->ByteArray
abbrev RS:=(Bool->Nat->Option VV) × Nat
def updV (S:Bool->Nat->Option VV) (b:Bool) (j:Nat) (x:VV):Bool->Nat->Option VV:=fun b' j'=>if b'=b/\j'=j then some x else S b' j'
def z2z (D:MD) (b:Bool) (j:Nat) (sel:Int->Int->Bool) (v:VV) (s:RS):RS:=(updV s.1 b j (z4c D sel v D.n ((s.1 b j).getD z1d,s.2)).1,(z4c D sel v D.n ((s.1 b j).getD z1d,s.2)).2)
def cell1 (D:MD) (nb:Nat) (y:Nat->Int) (j:Nat) (v:VV) (s:RS):RS:=if j<nb then z2z D false (j+1) (sel2 (y j)) v s else s
def cell2 (D:MD) (na:Nat) (x:Nat->Int) (i j:Nat) (v:VV) (s:RS):RS:=if i<na then z2z D true j (sel3 (x i)) v s else s
def cell3 (D:MD) (na:Nat) (x:Nat->Int) (nb:Nat) (y:Nat->Int) (i j:Nat) (v:VV) (s:RS):RS:=if i<na/\j<nb then z2z D true (j+1) (sel4 (x i) (y j)) v s else s
def twoR (row next:Nat->Option VV):Bool->Nat->Option VV:=fun b=>if b then next else row
def vrV (n:Nat):Option Nat->Value
 | none=>.slice none 0 0
 | some r=>.slice (some ⟨r,0,none⟩) n n
structure VR (w:World) (B:Nat) (g:Bool->Nat) (m n:Nat) (R:Bool->Nat->Option Nat) (S:Bool->Nat->Option VV):Prop where
 top:∀ b,w.rowIs (g b) 102 m (fun j=>vrV n (R b j))
 gne:g false≠g true
 low:∀ b,B<=g b
 non:∀ b j,j<m->(R b j=none↔S b j=none)
 row:∀ b j r x,j<m->R b j=some r->S b j=some x->w.rowIs r 9 n (fun q=>.string (x q))/\B<=r
 sep:∀ b j b' j' r,j<m->j' < m->R b j=some r->R b' j'=some r->b=b'/\j=j'
 sm:∀ b j x,S b j=some x->∀ q,smS (x q)
theorem y7a {w:World} {g i n j:Nat} {e e':TypeId} {F k:Nat->Value} (h:w.rowIs g e n F) (m:w.rowIs i e' j k) (l:e≠e'):g≠i:=by
 rintro rfl;obtain⟨c,o,_⟩:=h;obtain⟨p,d,_⟩:=m;rw[o] at d;simp at d;exact l d.2
namespace VR
variable {w w':World} {B:Nat} {g:Bool->Nat} {m n:Nat} {R:Bool->Nat->Option Nat} {S:Bool->Nat->Option VV}
theorem some_of (h:VR w B g m n R S) {b:Bool} {j:Nat} {x:VV} (d:j<m) (i:S b j=some x):∃ r,R b j=some r/\w.rowIs r 9 n (fun q=>.string (x q))/\B<=r:=by
 cases c:R b j with
 | none=>have:=(h.non b j d).1 c;rw[i] at this;cases this
 | some r=>exact⟨r,rfl,h.row b j r x d c i⟩
theorem topne (h:VR w B g m n R S) {b b':Bool} {j r:Nat} {x:VV} (c:j<m) (d:R b j=some r) (i:S b j=some x):g b'≠r:=y7a (h.top b') (h.row b j r x c d i).1 (by decide)
theorem kept {C:Nat->Prop} (h:VR w B g m n R S) (hf:Fr C w w') (l:∀ b,¬ C (g b)) (k:∀ b j r,j<m->R b j=some r->¬ C r):VR w' B g m n R S :=
 ⟨fun b=>hf.row (h.top b) (l b),h.gne,h.low,h.non,fun b j r x c d i=>⟨hf.row (h.row b j r x c d i).1 (k b j r c d),(h.row b j r x c d i).2⟩,h.sep,h.sm⟩
theorem fresh (h:VR w B g m n R S) {b:Bool} {j r:Nat} {x:VV} (L:B<=w.heap.size) (N:w.heap.size<=r) (hf:Fr (fun q=>q=g b) w w') (I:w'.rowIs r 9 n (fun q=>.string (x q))) (K:∀ q,smS (x q))
  (J:w'.rowIs (g b) 102 m (fun j'=>if j'=j then vrV n (some r) else vrV n (R b j'))):VR w' B g m n (fun b' j'=>if b'=b/\j'=j then some r else R b' j') (updV S b j x):=by
 have s:∀ b' j' l,j' < m->R b' j'=some l->l<w.heap.size:=fun b' j' l d c=>by
  cases u:S b' j' with
  | none=>have:=(h.non b' j' d).2 u;rw[c] at this;cases this
  | some x0=>exact(h.row b' j' l x0 d c u).1.lt
 refine⟨fun b'=>?_,h.gne,h.low,fun b' j' d=>?_,fun b' j' l G d c i=>?_,fun H F C E l p z c i=>?_,fun b' j' G c=>?_⟩
 ·by_cases e:b'=b
  ·subst e;refine J.congr (fun j' _=>?_);by_cases e:j'=j
   ·rw[if_pos e,if_pos ⟨rfl,e⟩]
   rw[if_neg e,if_neg (fun h=>e h.2)]
  refine(hf.row (h.top b') (fun k=>?_)).congr (fun j' _=>by rw[if_neg (fun h=>e h.1)]);have o:=h.gne;cases b'<;>cases b<;>first|exact e rfl|exact o k|exact o k.symm
 ·unfold updV;by_cases e:b'=b/\j'=j
  ·rw[if_pos e,if_pos e];simp
  rw[if_neg e,if_neg e];exact h.non b' j' d
 ·unfold updV at i;by_cases e:b'=b/\j'=j
  ·rw[if_pos e] at c i;cases c;cases i;exact⟨I,by omega⟩
  rw[if_neg e] at c i;have o:=h.row b' j' l G d c i;exact⟨hf.row o.1 (fun k=>y7a (h.top b) o.1 (by decide) k.symm),o.2⟩
 ·by_cases D:H=b/\F=j
  ·by_cases k:C=b/\E=j
   ·exact⟨D.1.trans k.1.symm,D.2.trans k.2.symm⟩
   rw[if_pos D] at c;rw[if_neg k] at i;cases c;have:=s C E r z i;omega
  rw[if_neg D] at c;by_cases k:C=b/\E=j
  ·rw[if_pos k] at i;cases i;have:=s H F r p c;omega
  rw[if_neg k] at i;exact h.sep H F C E l p z c i
 unfold updV at c;by_cases e:b'=b/\j'=j
 ·rw[if_pos e] at c;cases c;exact K
 rw[if_neg e] at c;exact h.sm b' j' G c
end VR
def AtE (B:Nat) (g:Bool->Nat) (m n:Nat) (S:Bool->Nat->Option VV) (R:Bool->Nat->Option Nat) (b:Bool) (j:Nat) (w:World) (r:Ending) (w':World):Prop :=
 ∃ R' r0,r=.returned (.slice (some ⟨r0,0,none⟩) n n)/\R' b j=some r0/\(∀ b' j',¬ (b'=b/\j'=j)->R' b' j'=R b' j')/\VR w' B g m n R' (updV S b j ((S b j).getD z1d))/\Fr (fun q=>q=g b) w w'
theorem z8f (q:Nat):smS (z1d q):=by show (⟨#[]⟩:ByteArray).size<=_;decide
theorem x3v {cb c8 B m j:Nat} {b:Bool} {g:Bool->Nat} {R:Bool->Nat->Option Nat} {S:Bool->Nat->Option VV} {D:MD} {a:Option Addr} {cap:Nat} {star:Value} {e:Nat} (w:World) (h:VR w B g m D.n R S) (N:Scl w cb D (.slice a D.n cap) star e)
  (h8:w.cell? ⟨c8,0,none⟩=some (.pointer (some ⟨cb,0,none⟩))) (H:j<m) (hB:B<=w.heap.size) (h1:1<=D.n) (hn:D.n<=3000) :
  Calls prog 81 #[.slice (some ⟨g b,0,none⟩) m m,.int .i64 (j:Int),.pointer (some ⟨c8,0,none⟩)] w (AtE B g m D.n S R b j w):=by
 have a1:(j:Int)<(m:Int):=by omega
 have Z:(0:Int)<=(j:Int):=by omega
 obtain⟨gb,i⟩:=exq (g b);have c0:=(h.top b).cell H;rw[<- i] at c0;cases F:R b j with
 | none =>
  have Y:=fun w=>y1n 102 9 underlying102 w none 0 0;rw[show (none:Option Addr).isNone=true from rfl] at Y;rw[F] at c0;have X:w.cell? ⟨gb,j,none⟩=some (.slice none 0 0):=c0;clear c0;have P:=qh (y0f w N h1 hn);have c:=qh h;clear h;have HS:=qh N;clear N;have J:=qh F;clear F;have d:=qh i;rw[<- i];clear i
  go_enter func81,ntmps81
  go_wp2_with fail
  refine P.out.mono ?_;rintro r L ⟨rfl,s,hf,hz⟩;obtain⟨o,A⟩:=exq (w.heap.size);rw[<- A] at s;rw[<- A];have l:L.rowIs gb 102 m (fun j=>vrV D.n (R b j)):=by rw[d.out];exact hf.row (c.out.top b) (fun e=>e)
  have f0:=l.frozen j;have T:=l.cell H;have u:=l.set j (vrV D.n (some o));have I:o≠gb:=by have:=(c.out.top b).lt;rw[<- d.out] at this;omega
  have p:=s.setOther (a:=⟨gb,j,none⟩) I (vrV D.n (some o));have z:=c.out.low b;rw[<- d.out] at z;have C:Fr (fun q=>q=g b) w (L.setCell ⟨gb,j,none⟩ (vrV D.n (some o))):=(hf.mono (fun _ _ e=>e.elim)).set (.inl d.out) _;have k:(L.setCell ⟨gb,j,none⟩ (vrV D.n (some o))).rowIs (g b) 102 m (fun E=>if E=j then vrV D.n (some o) else vrV D.n (R b E)):=by rw[<- d.out];exact u
  have K:=c.out.fresh (j:=j) hB (show w.heap.size<=o by omega) C p z8f k;have W:=k.cell H;rw[if_pos rfl,<- d.out] at W;have a3:(L.setCell ⟨gb,j,none⟩ (.slice (some ⟨o,0,none⟩) D.n D.n)).cell? ⟨gb,j,none⟩=some (.slice (some ⟨o,0,none⟩) D.n D.n):=W;have G:=qh K;clear K;have Q:=qh C;clear C;rw[J.out] at T;have a2:L.cell? ⟨gb,j,none⟩=some (.slice none 0 0):=T;clear l u p s hf hz A k W T z I;go_wp2;go_ret;have O:(S b j).getD z1d=z1d:=by
   rw[(c.out.non b j H).1 J.out];rfl
  exact⟨_,o,rfl,if_pos ⟨rfl,rfl⟩,fun U E h=>if_neg h,by rw[O];exact G.out,Q.out⟩
 | some r0 =>
  rw[F] at c0;have X:w.cell? ⟨gb,j,none⟩=some (.slice (some ⟨r0,0,none⟩) D.n D.n):=c0;clear c0;have Y:=fun w=>y1n 102 9 underlying102 w (some ⟨r0,0,none⟩) D.n D.n;rw[show (some (⟨r0,0,none⟩:Addr)).isNone=false from rfl] at Y;have c:=qh h;clear h;have J:=qh F;clear F;rw[<- i];have d:=qh i;clear i;clear N
  go_enter func81,ntmps81
  go_wp2;go_ret;refine⟨R,r0,rfl,J.out,fun U E _=>rfl,?_,Fr.refl _ _⟩;cases hx:S b j with
  | none=>have:=(c.out.non b j H).2 hx;rw[J.out] at this;cases this
  | some x =>
   have hu:updV S b j ((some x).getD z1d)=S:=by
    funext U E
    unfold updV;by_cases e:U=b/\E=j
    ·rw[if_pos e,e.1,e.2,hx];rfl
    rw[if_neg e]
   rw[hu];exact c.out
end
section
open Go.RowKit Go.Deep
theorem z0h {w:World} {g b n:Nat} {e t:TypeId} {f:Nat->Value} {cs:Array Value} {fr:Nat × Nat} (h:w.rowIs g e n f) (hb:w.heap[b]?=some (.cells cs t fr)) (i:t≠e):g≠b:=by
 rintro rfl;obtain⟨c,d,_⟩:=h;rw[d] at hb;simp at hb;exact i hb.2.1.symm
def Bx (w:World) (b:Nat) (t:TypeId) (v:Value):Prop:=w.heap[b]?=some (.cells #[v] t (0,0))
theorem Bx.cell {w:World} {b:Nat} {t:TypeId} {v:Value} (h:Bx w b t v):w.cell? ⟨b,0,none⟩=some v:=by unfold Bx at h;simp[World.cell?,h]
theorem Bx.lt {w:World} {b:Nat} {t:TypeId} {v:Value} (h:Bx w b t v):b<w.heap.size:=(Array.getElem?_eq_some_iff.1 h).1
theorem Bx.kept {w c:World} {b:Nat} {t:TypeId} {v:Value} {C:Nat->Prop} (h:Bx w b t v) (hf:Fr C w c) (d:¬ C b):Bx c b t v:=(hf.block b h.lt d).trans h
theorem Bx.ne {w:World} {b c:Nat} {t g:TypeId} {v v':Value} (h:Bx w b t v) (d:Bx w c g v') (i:t≠g):b≠c:=by
 rintro rfl;unfold Bx at h d;rw[h] at d;simp at d;exact i d.2
structure WE (w0 w:World) (cb c8 xb yb:Nat) (D:MD) (sv xv yv:Value) (e:Nat):Prop where
 hb:Below w0.heap.size w0 w
 sc:Scl w cb D sv (.slice none 0 0) e
 k8:Bx w c8 98 (.pointer (some ⟨cb,0,none⟩))
 kx:Bx w xb 25 xv
 ky:Bx w yb 25 yv
 lc:w0.heap.size<=cb
namespace WE
variable {w0 w w':World} {cb c8 xb yb:Nat} {D:MD} {sv xv yv:Value} {e:Nat}
theorem kept {C:Nat->Prop} (h:WE w0 w cb c8 xb yb D sv xv yv e) (hf:Fr C w w') (d:¬ C cb) (i:¬ C c8) (g:¬ C xb) (c:¬ C yb) (j:∀ q,C q->w0.heap.size<=q):WE w0 w' cb c8 xb yb D sv xv yv e :=
 ⟨h.hb.trans (hf.below h.hb.size j),h.sc.kept hf d,h.k8.kept hf i,h.kx.kept hf g,h.ky.kept hf c,h.lc⟩
end WE
structure PWt (w0:World) (cb xb yb ib jb:Nat) (xv yv:Value) (i j:Nat) (w:World):Prop where
 hb:Below w0.heap.size w0 w
 kx:Bx w xb 25 xv
 ky:Bx w yb 25 yv
 ki:Bx w ib 3 (.int .i64 (i:Int))
 kj:Bx w jb 3 (.int .i64 (j:Int))
 nx:xb≠cb
 ny:yb≠cb
 ni:ib≠cb
 nj:jb≠cb
theorem PWt.fr {l wa u:World} {g xb o m p d i j:Nat} {z s:Value} (h:PWt l g xb o m p z s i j wa) (hf:Fr (fun q=>q=g\/q=d) wa u) (G:l.heap.size<=g) (C:l.heap.size<=d) (F:xb≠d) (A:o≠d) (B:m≠d) (D:p≠d):PWt l g xb o m p z s i j u:=by
 have k:∀ q,q≠g->q≠d->¬ (q=g\/q=d):=fun q a b c=>c.elim a b;exact⟨h.hb.trans (hf.below h.hb.size (fun q E=>by rcases E with rfl|rfl;exact G;exact C)),h.kx.kept hf (k _ h.nx F),h.ky.kept hf (k _ h.ny A),h.ki.kept hf (k _ h.ni B),h.kj.kept hf (k _ h.nj D),h.nx,h.ny,h.ni,h.nj⟩
theorem x3w {d w:World} {xb n:Nat} {c:Value} {x:Nat->Int} (g:Si none d c n x) (hb:Below d.heap.size d w) (h:Bx w xb 25 c):BxI w xb n x:=⟨c,h.cell,g.kept (z0b hb none)⟩
theorem tst2 {g:World} {s xb l z m n i j:Nat} {p k:Value} {y:Nat->Int} (o:Si none g k n y) (u:j<n):TstA 85 #[.pointer (some ⟨l,0,none⟩),.pointer (some ⟨m,0,none⟩)] (sel2 (y j)) (PWt g s xb l z m p k i j) :=
 ⟨v9n,fun A d i0 o0 s0 t0=>by
  have h:=u3q A (x3w o d.hb d.ky) d.kj.cell u i0 o0 s0 t0;rw[show ∀ a b c:Value,(#[a]++#[b,c]:Array Value)=#[a,b,c] from fun _ _ _=>rfl];exact h⟩
theorem tst3 {g:World} {p xb u l z n i j:Nat} {k o:Value} {x:Nat->Int} (m:Si none g k n x) (hi:i<n):TstA 86 #[.pointer (some ⟨xb,0,none⟩),.pointer (some ⟨l,0,none⟩)] (sel3 (x i)) (PWt g p xb u l z k o i j) :=
 ⟨u0h,fun s d i0 o0 s0 t0=>by
  have h:=u3v s (x3w m d.hb d.kx) d.ki.cell hi i0 o0 s0 t0;rw[show ∀ a b c:Value,(#[a]++#[b,c]:Array Value)=#[a,b,c] from fun _ _ _=>rfl];exact h⟩
theorem tst4 {k:World} {B xb s p u n l i j:Nat} {o m:Value} {x y:Nat->Int} (A:Si none k o n x) (hi:i<n) (z:Si none k m l y) (C:j<l):TstA 87 #[.pointer (some ⟨xb,0,none⟩),.pointer (some ⟨p,0,none⟩),.pointer (some ⟨s,0,none⟩),.pointer (some ⟨u,0,none⟩)] (sel4 (x i) (y j)) (PWt k B xb s p u o m i j) :=
 ⟨u1s,fun D g i0 o0 s0 t0=>by
  have h:=u4e D (x3w A g.hb g.kx) g.ki.cell hi (x3w z g.hb g.ky) g.kj.cell C i0 o0 s0 t0;rw[show ∀ a b c d e:Value,(#[a]++#[b,c,d,e]:Array Value)=#[a,b,c,d,e] from fun _ _ _ _ _=>rfl];exact h⟩
theorem y7y {S:Bool->Nat->Option VV} {b b':Bool} {j c:Nat} {x:VV} (h:¬ (b'=b/\c=j)):updV S b j x b' c=S b' c:=if_neg h
theorem z7d (S:Bool->Nat->Option VV) (b:Bool) (j:Nat) (x:VV):updV S b j x b j=some x:=if_pos ⟨rfl,rfl⟩
theorem y0u {D:MD} {b b':Bool} {j c:Nat} {sel:Int->Int->Bool} {v:VV} {s:RS} (h:¬ (b'=b/\c=j)):(z2z D b j sel v s).1 b' c=s.1 b' c:=if_neg h
theorem z8t (S:Bool->Nat->Option VV) (b:Bool) (j:Nat) (x y:VV):updV (updV S b j x) b j y=updV S b j y:=by
 funext b' j';unfold updV;by_cases e:b'=b/\j'=j<;>simp[e]
namespace VR
variable {w w':World} {B:Nat} {g:Bool->Nat} {m n:Nat} {R:Bool->Nat->Option Nat} {S:Bool->Nat->Option VV}
theorem gne_of (h:VR w B g m n R S) {q:Nat} {cs:Array Value} {t:TypeId} {fr:Nat × Nat} (c:w.heap[q]?=some (.cells cs t fr)) (d:t≠102) (b:Bool):g b≠q:=z0h (h.top b) c d
theorem rne_of (h:VR w B g m n R S) {q:Nat} {cs:Array Value} {t:TypeId} {fr:Nat × Nat} (k:w.heap[q]?=some (.cells cs t fr)) (l:t≠9) {b:Bool} {j r:Nat} (d:j<m) (i:R b j=some r):r≠q:=by
 cases c:S b j with
 | none=>have:=(h.non b j d).2 c;rw[i] at this;cases this
 | some x0=>exact z0h (h.row b j r x0 d i c).1 k l
theorem step2 {b:Bool} {j r E:Nat} {x:VV} (h:VR w B g m n R S) (A:j<m) (p:R b j=some r) (hf:Fr (fun q=>q=E\/q=r) w w') (D:∀ b,g b≠E) (G:∀ b j r,j<m->R b j=some r->r≠E) (H:w'.rowIs r 9 n (fun q=>.string (x q))) (I:∀ q,smS (x q)):VR w' B g m n R (updV S b j x):=by
 have l:∃ s,S b j=some s:=by
  cases F:S b j with
  | none=>have:=(h.non b j A).2 F;rw[p] at this;cases this
  | some s=>exact⟨s,rfl⟩
 obtain⟨s,l⟩:=l;refine⟨fun c=>hf.row (h.top c) (fun e=>e.elim (D c) (h.topne A p l)),h.gne,h.low,fun c i d=>?_,fun c i C z d k o=>?_,h.sep,fun c i z k=>?_⟩
 ·unfold updV;by_cases e:c=b/\i=j
  ·obtain⟨rfl,rfl⟩:=e;rw[if_pos ⟨rfl,rfl⟩,p];simp
  rw[if_neg e];exact h.non c i d
 ·unfold updV at o;by_cases e:c=b/\i=j
  ·obtain⟨rfl,rfl⟩:=e;rw[if_pos ⟨rfl,rfl⟩] at o;cases o;rw[p] at k;cases k;exact⟨H,(h.row c i r s A p l).2⟩
  rw[if_neg e] at o;refine⟨hf.row (h.row c i C z d k o).1 (fun u=>?_),(h.row c i C z d k o).2⟩
  rcases u with u|u
  ·exact G c i C d k u
  subst u;exact e (h.sep c i b j C d A k p)
 unfold updV at k;by_cases e:c=b/\i=j
 ·rw[if_pos e] at k;cases k;exact I
 rw[if_neg e] at k;exact h.sm c i z k
end VR
structure VR1 (w:World) (B g m n:Nat) (R:Nat->Option Nat) (S:Nat->Option VV):Prop where
 top:w.rowIs g 102 m (fun j=>vrV n (R j))
 low:B<=g
 non:∀ j,j<m->(R j=none↔S j=none)
 row:∀ j r x,j<m->R j=some r->S j=some x->w.rowIs r 9 n (fun q=>.string (x q))/\B<=r
 sep:∀ j j' r,j<m->j' < m->R j=some r->R j'=some r->j=j'
 sm:∀ j x,S j=some x->∀ q,smS (x q)
theorem VR.one {w:World} {B:Nat} {g:Bool->Nat} {m n:Nat} {R:Bool->Nat->Option Nat} {S:Bool->Nat->Option VV} (h:VR w B g m n R S) (b:Bool):VR1 w B (g b) m n (R b) (S b) :=
 ⟨h.top b,h.low b,h.non b,h.row b,fun j c r d l k i=>(h.sep b j b c r d l k i).2,h.sm b⟩
theorem VR1.kept {w i:World} {B g m n:Nat} {R:Nat->Option Nat} {S:Nat->Option VV} (h:VR1 w B g m n R S) (hf:Fr (fun _=>False) w i):VR1 i B g m n R S :=
 ⟨hf.row h.top (fun e=>e),h.low,h.non,fun j r x c d k=>⟨hf.row (h.row j r x c d k).1 (fun e=>e),(h.row j r x c d k).2⟩,h.sep,h.sm⟩
theorem VR1.two {w o:World} {B g i m n:Nat} {R:Nat->Option Nat} {S:Nat->Option VV} (h:VR1 w B g m n R S) (hf:Fr (fun _=>False) w o) (D:w.heap.size<=i) (C:B<=w.heap.size) (u:o.rowIs i 102 m (fun _=>.slice none 0 0)) :
  VR o B (fun b=>if b then i else g) m n (fun b=>if b then fun _=>none else R) (twoR S (fun _=>none)):=by
 have p:=h.kept hf;have A:=h.top.lt;refine⟨fun b=>?_,?_,fun b=>?_,fun b j d=>?_,fun b j r x d c k=>?_,fun b j s z r d l c k=>?_,fun b j x c=>?_⟩
 ·cases b
  ·exact p.top
  exact u
 ·show g≠i;omega
 ·cases b
  ·exact h.low
  show B<=i;omega
 ·cases b
  ·exact h.non j d
  exact⟨fun _=>rfl,fun _=>rfl⟩
 ·cases b
  ·exact p.row j r x d c k
  cases c
 ·cases b<;>cases s
  ·exact⟨rfl,h.sep j z r d l c k⟩
  ·cases k
  ·cases c
  cases c
 cases b
 ·exact h.sm j x c
 cases c
end
end Go.Proofs.YteappjogmnogcaaGreatDoor
