/- Parts of a proof: C5 WgS WgT EdL EdM WgF WgO WgR WgV. -/
import Derived.Test.YteappjogmnogcaaGreatDoorU06
import Derived.Deep.RegionHeld2
import Derived.Deep.QuietTactic
import Derived.BigQuiet
import Derived.Laws.Cover3
namespace Go.Proofs.YteappjogmnogcaaGreatDoor
set_option maxRecDepth 100000
set_option linter.unusedSimpArgs false
set_option linter.unusedVariables false
set_option linter.unusedSectionVars false
set_option maxHeartbeats 16000000
open Go Tryz
section
open Go.RowKit Go.Deep
theorem tryL {α:Type}:(∀ (l:List α) (i:Nat) (a:α),l.toArray.setIfInBounds i a=(l.set i a).toArray)/\(∀ (a b:α) (l:List α),(a::l).set 0 b=b::l)/\(∀ (a b:α) (l:List α) (n:Nat),(a::l).set (n+1) b=a::l.set n b)/\(∀ (l:List α) (i:Nat) (h:i<l.toArray.size),l.toArray[i]=l[i]'(by simpa using h))/\(∀ (a:α) (l:List α) (i:Nat) (h:i+1<(a::l).length),(a::l)[i+1]=l[i]'(by simpa using h))/\(∀ (a:α) (l:List α) (h:0<(a::l).length),(a::l)[0]=a) :=
 ⟨fun _ _ _=>List.setIfInBounds_toArray ..,fun _ _ _=>rfl,fun _ _ _ _=>rfl,fun _ _ _=>rfl,fun _ _ _ _=>rfl,fun _ _ _=>rfl⟩
section
variable {P:Program} {ops:Array Oper} {Q:Exit->Act->World->Prop} {S:World->Prop} {s:Nat}
def z0c (P:Program) (ops:Array Oper) (Q:Exit->Act->World->Prop) (S:World->Prop) (s:Nat):Nat->Array Bool->Act->World->Prop
 | 0,listed,a,w=>Region.ready .any ops listed=[]/\Q .normal a w
 | fuel+1,listed,a,w=>(Region.ready .any ops listed=[]->Q .normal a w) /\
  ∀ i ∈ Region.ready .any ops listed,wpOp P ops Q i (fun a' w'=>(i=s\/S w')/\z0c P ops Q S s fuel (listed.setIfInBounds i true) a' w') a w
theorem z0c.any:∀ (fuel:Nat) (listed:Array Bool) (a:Act) (w:World),z0c P ops Q S s fuel listed a w->wpAny P .any ops Q fuel listed a w
 | 0,_,_,_,h=>h
 | fuel+1,_,_,_,h=>⟨h.1,fun i hi=>wpOp_mono (fun a' w' h'=>z0c.any fuel _ a' w' h'.2) (h.2 i hi)⟩
def waits (ops:Array Oper):Nat->Nat->Nat->Bool
 | 0,_,_=>false
 | f+1,s,i=>match ops[s]? with
  | some o=>o.after.any fun e=>Region.binds .any e&&(e.on==i||waits ops f e.on i)
  | none=>false
def Closed (ops:Array Oper) (listed:Array Bool):Prop:=∀ j o,listed.getD j false=true->ops[j]?=some o->∀ e ∈ o.after,Region.binds .any e=true->listed.getD e.on false=true
def y3c (ops:Array Oper) (listed:Array Bool):Bool:=(List.range ops.size).all fun j=>!listed.getD j false||match ops[j]? with
 | some o=>o.after.all fun e=>!Region.binds .any e||listed.getD e.on false
 | none=>true
theorem y9k {c:Array Bool} (h:y3c ops c=true):Closed ops c:=fun j o k g e l hb=>by
 have d:=List.all_eq_true.1 h j (List.mem_range.2 (Array.getElem?_eq_some_iff.1 g).1);rw[k,g] at d;simp only[Bool.not_true,Bool.false_or] at d;have i:=Array.all_eq_true_iff_forall_mem.1 d e l;rw[hb] at i;simpa using i
theorem Closed.set {c:Array Bool} {j:Nat} (h:Closed ops c) (s:j ∈ Region.ready .any ops c):Closed ops (c.setIfInBounds j true):=fun k o m p e l hb=>by
 by_cases d:j=k
 ·subst d;obtain⟨_,u,i,g⟩:=mem_ready.1 s;rw[p] at i;cases i;exact getD_set_true (g e l hb)
 rw[getD_set_ne false d] at m;exact getD_set_true (h k o m p e l hb)
theorem y1z {c:Array Bool} (z:Closed ops c) {i:Nat}:∀ (f s:Nat),waits ops f s i=true->(∀ o,ops[s]?=some o->∀ e ∈ o.after,Region.binds .any e=true->c.getD e.on false=true)->c.getD i false=true:=by
 intro f
 induction f with
 | zero=>intro s h;simp[waits] at h
 | succ f ih =>
  intro s h B;unfold waits at h;cases j:ops[s]? with
  | none=>rw[j] at h;simp at h
  | some o =>
   rw[j] at h;obtain⟨e,p,hb⟩:=Array.any_eq_true'.1 h;simp only[Bool.and_eq_true,Bool.or_eq_true,beq_iff_eq] at hb;have m:=B o j e p hb.1
   rcases hb.2 with l|l
   ·rw[<- l];exact m
   exact ih e.on l (fun A g u d k=>z e.on A m g u d k)
theorem z0c.first {i:Nat} {D:Oper} {v:Value} (hi:ops[i]?=some D) (hw:waits ops ops.size s i=true) (C:∀ (j:Nat) (o:Oper) cs b,ops[j]?=some o->o.op≠.select cs b)
  (hQ:∀ c a w,Q (.panic c) (a.put D.dst v) w->Q (.panic c) a w) :
  ∀ (g:Nat) (d:Array Bool) (a:Act) (w:World),
   (∀ j oj,ops[j]?=some oj->j≠i->d.getD j true=false->(∀ e ∈ oj.after,Region.binds .any e=true->e.on≠i)->D.apart ops oj=true) ->
   i ∈ Region.ready .any ops d->Closed ops d->YieldsIf P ops S D v a->S w ->
   z0c P ops Q S s g (d.setIfInBounds i true) (a.put D.dst v) w->z0c P ops Q S s (g+1) d a w:=by
 intro g
 induction g with
 | zero =>
  intro d a w _ E F T J H;refine⟨fun h=>(by rw[h] at E;cases E),fun j O=>?_⟩;by_cases l:j=i
  ·subst l;exact T.wpOp hi J ⟨.inr J,H⟩
  have:=ready_mono O l;rw[H.1] at this;cases this
 | succ g ih =>
  intro d a w m E F T J H;refine⟨fun h=>(by rw[h] at E;cases E),fun j O=>?_⟩;by_cases l:j=i
  ·subst l;exact T.wpOp hi J ⟨.inr J,H⟩
  have R:=H.2 j (ready_mono O l);obtain⟨B,oj,z,A⟩:=mem_ready.1 O;have p:d.getD i false=false:=by
   have h0:=(mem_ready.1 E).1
   rcases Nat.lt_or_ge i d.size with Y|Y
   ·simp[Y] at h0 ⊢;exact h0
   simp[Array.getElem?_eq_none Y]
  have N:∀ e ∈ oj.after,Region.binds .any e=true->e.on≠i:=fun e U hb X=>by
   have R:=A e U hb;rw[X,p] at R;cases R
  have a1:j≠s:=fun e=>by
   subst e;have:=y1z F _ _ hw (fun o' L e U hb=>by rw[z] at L;cases L;exact A e U hb);rw[p] at this;cases this
  have h2:=wpOp_putIf z (m j oj z l B N) (fun cs b=>C i D cs b hi) (fun cs b=>C j oj cs b z) hQ T R;have u:∀ k ok,ops[k]?=some ok->k≠i->(d.setIfInBounds j true).getD k true=false ->
    (∀ e ∈ ok.after,Region.binds .any e=true->e.on≠i)->D.apart ops ok=true:=fun k ok hk W G Z=>by
   refine m k ok hk W ?_ Z;by_cases K:j=k
   ·subst K;exact B
   rw[getD_set_ne true K] at G;exact G
  refine wpOp_mono (fun a' w' h3=>?_) h2;have I:S w':=h3.2.1.resolve_left a1;refine⟨.inr I,ih (d.setIfInBounds j true) a' w' u (ready_mono E (Ne.symm l)) (F.set O) h3.1 I ?_⟩;rw[Array.setIfInBounds_comm _ _ l];exact h3.2.2
theorem z0c.take {i:Nat} {j:Oper} {v:Value} {g:Nat} {d:Array Bool} {a:Act} {w:World} (hi:ops[i]?=some j) (p:waits ops ops.size s i=true) (k:y3c ops d=true)
  (o:Region.noSelect ops=true) (hf:Region.free .any ops d i=true) (l:(Region.ready .any ops d).contains i=true)
  (hQ:∀ c a w,Q (.panic c) (a.put j.dst v) w->Q (.panic c) a w) (m:S w) (u:YieldsIf P ops S j v a)
  (h:z0c P ops Q S s g (d.setIfInBounds i true) (a.put j.dst v) w):z0c P ops Q S s (g+1) d a w :=
 z0c.first hi p (Region.noSelect_spec o) hQ g d a w (Region.free_spec hi hf) (by simpa using l) (y9k k) u m h
def tkB (ops:Array Oper) (s i:Nat) (listed:Array Bool):Bool:=waits ops ops.size s i&&y3c ops listed&&Region.noSelect ops&&Region.free .any ops listed i&&(Region.ready .any ops listed).contains i
theorem z0c.tk {i:Nat} {j:Oper} {v:Value} {g:Nat} {d:Array Bool} {a:Act} {w:World} (hi:ops[i]?=some j) (hb:tkB ops s i d=true) (k:S w) (l:YieldsIf P ops S j v a)
  (h:z0c P ops Q S s g (d.setIfInBounds i true) (a.put j.dst v) w) (hQ:∀ c a w,Q (.panic c) (a.put j.dst v) w->Q (.panic c) a w:=by exact fun _ _ _ h=>h):z0c P ops Q S s (g+1) d a w:=by
 unfold tkB at hb;simp only[Bool.and_eq_true] at hb;exact z0c.take hi hb.1.1.1.1 hb.1.1.1.2 hb.1.1.2 hb.1.2 hb.2 hQ k l h
theorem z0c.one {i:Nat} {o:Oper} {d:Nat} {c:Array Bool} {a:Act} {w:World} (A:ops[i]?=some o) (l:Region.ready .any ops c=[i]) (g:Region.wanted o (yielded ops a.tmps)=true)
  (h:∀ K:Act->World->Prop,Shut (∀ a w,(i=s\/S w)->z0c P ops Q S s d (c.setIfInBounds i true) a w->K a w)->Oper.wp P o a w K Q):z0c P ops Q S s (d+1) c a w:=by
 refine⟨fun m=>(by rw[l] at m;cases m),fun j k=>?_⟩;rw[l] at k;obtain rfl:j=i:=by simpa using k
 exact wpOp_step A (fun K z=>by rw[if_pos g];exact h K (fun a w u p=>z a w ⟨u,p⟩))
theorem z0c.tm (i:Nat) {j:Oper} {v:Value} {g:Nat} {d:Array Bool} {a:Act} {w:World} (l:S w)
  (h:z0c P ops Q S s g (d.setIfInBounds i true) (a.put j.dst v) w) (hi:ops[i]?=some j:=by rfl) (hb:tkB ops s i d=true:=by kernel_rfl) (k:Region.wanted j (yielded ops a.tmps)=true:=by kernel_rfl)
  (m:∀ w,S w->(execOp a.eval j).run P w=.ok (.value v) w:=by (intro w h;go_simp;try with_reducible rfl)) (hQ:∀ c a w,Q (.panic c) (a.put j.dst v) w->Q (.panic c) a w:=by exact fun _ _ _ h=>h):z0c P ops Q S s (g+1) d a w:=z0c.tk hi hb l (.inl ⟨k,m⟩) h hQ
theorem z0c.on (i:Nat) {o:Oper} {d:Nat} {c:Array Bool} {a:Act} {w:World} (h:∀ K:Act->World->Prop,Shut (∀ a w,(i=s\/S w)->z0c P ops Q S s d (c.setIfInBounds i true) a w->K a w)->Oper.wp P o a w K Q)
  (k:ops[i]?=some o:=by rfl) (j:Region.ready .any ops c=[i]:=by kernel_rfl) (g:Region.wanted o (yielded ops a.tmps)=true:=by rfl):z0c P ops Q S s (d+1) c a w:=z0c.one k j g h
theorem z0c.done {listed:Array Bool} {a:Act} {w:World} (hr:Region.ready .any ops listed=[]) (h:Q .normal a w):∀ fuel,z0c P ops Q S s fuel listed a w
 | 0=>⟨hr,h⟩
 | _+1=>⟨fun _=>h,by rw[hr];simp⟩
theorem z0c.dn {c:Array Bool} {a:Act} {w:World} {d:Nat} (h:Q .normal a w) (g:Region.ready .any ops c=[]:=by kernel_rfl):z0c P ops Q S s d c a w:=z0c.done g h d
theorem z0g (S:World->Prop) (s:Nat) {d:Nat} {a:Act} {w:World} (c:P.follows .mixedOrders=true)
  (h:z0c P ops Q S s ops.size (Array.replicate ops.size false) a w.drew):(Code.region d ops true).wp P Q a w :=
 wp_region_any c (z0c.any _ _ _ _ h)
end
end
section
open Go.RowKit Go.Deep
theorem v0z:∀ args w,(callFunc 183 args).run prog w=.ok (.enter 183 args) w:=fun args w=>by kernel_rfl
def EachE {k:KK} (F:Prop) (B tb sb g n e:Nat) (R:Nat->Value) (M:Nat->Nat->RK k) (w:World) (r:Ending) (w':World):Prop :=
 ∃ e' Y,r=.returned (.tuple #[])/\Tb w' k.1 B tb sb g n e' R Y/\MatIs e' n Y (CSR.elims M n)/\Er F e'/\(e'=0->e=0)/\Gr B (some sb) w w'
theorem v2v {k:KK} {F:Prop} {O B N s g n e:Nat} {R:Nat->Value} {X:Nat->Nat->ByteArray} {M:Nat->Nat->RK k} {w:World} {a:Option Addr} {cap b j:Nat} {U:Nat->Value} (hn:n<=60)
  (ha:0<n->a=some ⟨b,j,none⟩) (hb:0<n->b<B/\b≠s) (c:∀ i,i<n->w.cell? ⟨b,j+i,none⟩=some (U i))
  (C:Tb w k.1 B N s g n e R X) (J:MatIs e n X M) (he:Er F e) (hF:F->∀ p,p<n->FitE n p (CSR.elims M p)) (ht:TabB O w) (hB:O<=s) :
  Calls prog 182 #[.slice a n cap,.func (.func 183) #[.pointer (some ⟨N,0,none⟩)] #[]] w (EachE F B N s g n e R M w):=by
 have a7:=v0z;have u:=qh C;clear C;have L:=qh J;clear J;have H:=qh he;clear he;have HF:=qh hF;clear hF;have d:=qh ht;clear ht;have HC:=qh c;clear c;have HA:=qh ha;clear ha;have HB:=qh hb;clear hb
 go_enter func182,ntmps182
 go_wp2_with fail
 go_loopw [8] (fun i wr=>∃ (q z:Nat) (Y:Nat->Nat->ByteArray),q<=n/\i=.int .i64 (q:Int)/\Tb wr k.1 B N s g n z R Y/\MatIs z n Y (CSR.elims M q)/\Er F z/\(z=0->e=0)/\TabB O wr/\Gr B (some s) w wr)
  (fun i _=>n-(intOf i).toNat)
 case atStart=>exact⟨0,e,X,Nat.zero_le _,rfl,u.out,L.out,H.out,fun h=>h,d.out,Gr.refl _ _ _⟩
 obtain⟨q,z,Y,hq,rfl,C,J,hE,hm,E,hG⟩:=hrel;clear u L H d;have u:=qh C;clear C;have L:=qh J;clear J;have H:=qh hE;clear hE;have HM:=qh hm;clear hm;have d:=qh E;clear E;have P:=qh hG;clear hG;by_cases o:q<n
 ·have a6:(q:Int)<(n:Int):=by omega
  have a4:(0:Int)<=(q:Int):=by omega
  obtain rfl:=HA.out (by omega);obtain⟨T,a2⟩:=HB.out (by omega);have c0:wr.cell? ⟨b,j+q,none⟩=some (U q):=(World.cell?_of_block (w:=w) (a:=⟨b,j+q,none⟩) (P.out.block b T (by simp;exact a2))).trans (HC.out q o)
  go_wp2_with fail
  refine(v6m (U q) hn o u.out L.out H.out (fun f=>HF.out f q o) d.out hB).mono ?_;rintro r w1 ⟨e1,Y1,rfl,I,D,K,G,m⟩;have l:TabB O w1:=d.out.gr m (by intro q hq;cases hq;exact hB) (by have:=u.out.sbB;omega);have Z:=qh I;clear I;have a3:=qh D;clear D;have Q:=qh K;clear K;have S:=qh G;clear G;have W:=qh m;clear m;have A:=qh l;clear l;clear c0;go_wp2;go_roundw
  case rel=>exact⟨q+1,e1,Y1,by omega,by go_num,Z.out,a3.out,Q.out,fun h=>HM.out (S.out h),A.out,P.out.trans W.out⟩
  simp[intOf];omega
 have a1:q=n:=by omega
 subst a1;have a5:¬ ((q:Int)<(q:Int)):=by omega
 go_wp2_with fail
 go_end0
 exact⟨z,Y,rfl,u.out,L.out,H.out,HM.out,P.out⟩
structure FitM {k:KK} (n:Nat) (M:Nat->Nat->RK k):Prop where
 steps:∀ p,p<n->FitE n p (CSR.elims M p)
 last:∀ i,i<n->fitV (CSR.elims M n i i+CSR.one).1
def PowE {k:KK} (F:Prop) (sb n e:Nat) (M:Nat->Nat->RK k) (w:World) (r:Ending) (w':World):Prop :=
 ∃ v e' Y,r=.returned v/\Mt (some sb) w' v n (fun _=>n) Y/\MatIs e' n Y (CSR.starM M n)/\Er F e'/\(e'=0->e=0)/\SumB w' sb k.1 e'/\w.grownBy w' (some sb)
def PW (w:World) (sb n:Nat):World:=(w.alloc (.cells (madeCells #[.slice none 0 0] n) 79)).alloc (.cells #[.pointer (some ⟨sb,0,none⟩),.slice (some ⟨w.heap.size,0,none⟩) n n] 184)
theorem u3w (w:World) (c n:Nat):(PW w c n).heap[w.heap.size+1]?=some (.cells #[.pointer (some ⟨c,0,none⟩),.slice (some ⟨w.heap.size,0,none⟩) n n] 184 (0,0)):=by
 have:=heap_alloc_new (w.alloc (.cells (madeCells #[.slice none 0 0] n) 79)) (.cells #[.pointer (some ⟨c,0,none⟩),.slice (some ⟨w.heap.size,0,none⟩) n n] 184);rw[show (w.alloc (.cells (madeCells #[.slice none 0 0] n) 79)).heap.size=w.heap.size+1 by simp] at this;exact this
theorem u4r (w:World) (c n:Nat) (X:Nat->Nat->ByteArray):OM (PW w c n) (fun b=>b=w.heap.size+1) w.heap.size 9 79 w.heap.size n (fun _=>.slice none 0 0) (fun l=>if l<0 then n else 0) X:=by
 have h:=(OM.made w (fun _=>False) (by simp) w.heap.size nlr 9 79 n X).fence (.cells #[.pointer (some ⟨c,0,none⟩),.slice (some ⟨w.heap.size,0,none⟩) n n] 184);rw[show (w.alloc (.cells (madeCells #[.slice none 0 0] n) 79)).heap.size=w.heap.size+1 by simp] at h;exact h.congrL fun _ _=>by simp
theorem v4k (w:World) (c n:Nat):Below w.heap.size w (PW w c n):=(blr.alloc nlr _).alloc (by simp) _
theorem y7c {w:World} {b c n:Nat} {X:Nat->ByteArray} (h:∀ j,j<n->w.cell? ⟨b,c+j,none⟩=some (.string (X j))):∀ j u,(strs n X)[j]?=some u->w.cell? ((⟨b,c,none⟩:Addr).add j)=some u:=by
 intro j u d;have i:j<n:=by
  rcases Nat.lt_or_ge j n with g|g
  ·exact g
  rw[List.getElem?_eq_none (by rw[z8d];exact g)] at d;cases d
 rw[z8n _ _ _ i] at d;cases d;rw[Addr.add_lit];exact h j i
theorem v6a {wr wa:World} {c:Nat} {o:Obj} {z:Option Nat} (h:wr.heap[c]?=some o) (d:wr.drew.grownBy wa z) (i:some c≠z) {p:Addr} (g:c≠p.block) (v:Value):(wa.setCell p v).heap[c]?=some o:=by
 rw[blk_setCell_other _ _ _ _ g,d.block c (Array.getElem?_eq_some_iff.1 h).1 i];exact h
def Diag {k:KK} (e n c:Nat) (Z:Nat->Nat->ByteArray) (N:Nat->Nat->RK k):Prop:=∀ l j,l<n->j<n->Is k e (Z l j) (if l=j/\l<c then N l j+CSR.one else N l j)
theorem Diag.start {k:KK} {e n:Nat} {Z:Nat->Nat->ByteArray} {N:Nat->Nat->RK k} (h:MatIs e n Z N):Diag e n 0 Z N:=fun l j d c=>by rw[if_neg (by omega)];exact h l j d c
theorem Diag.next {k:KK} {e e' n c:Nat} {Z:Nat->Nat->ByteArray} {N:Nat->Nat->RK k} {u:ByteArray} (h:Diag e n c Z N) (m:e'=0->e=0) (o:Is k e' u (N c c+CSR.one)):Diag e' n (c+1) (fun l j=>if l=c/\j=c then u else Z l j) N:=fun l j p i=>by
 by_cases g:l=c/\j=c
 ·obtain⟨rfl,rfl⟩:=g;rw[if_pos (by omega)];simpa using o
 have:=(h l j p i).mono m;simp only[if_neg g];by_cases d:l=j/\l<c
 ·rw[if_pos d] at this;rw[if_pos (by omega)];exact this
 rw[if_neg d] at this;rw[if_neg (by omega)];exact this
theorem Diag.done {k:KK} {e n:Nat} {Z:Nat->Nat->ByteArray} {M:Nat->Nat->RK k} (h:Diag e n n Z (CSR.elims M n)):MatIs e n Z (CSR.starM M n):=fun l j d g=>by
 have:=h l j d g;unfold CSR.starM CSR.eye;by_cases c:l=j
 ·rw[if_pos ⟨c,d⟩] at this;rw[if_pos c];exact this
 rw[if_neg (fun h=>c h.1)] at this;rw[if_neg c,CSR.a0];exact this
abbrev S4 (a b c d:Addr) (u v x y:Value) (wk:World):Prop:=wk.cell? a=some u/\wk.cell? b=some v/\wk.cell? c=some x/\wk.cell? d=some y
theorem x6b {k:KK} {F:Prop} {B0 m n e:Nat} {X:Nat->Nat->ByteArray} {M:Nat->Nat->RK k} {w:World} {v:Value} (hn:n<=60)
  (hA:Mt (some m) w v n (fun _=>n) X) (hX:MatIs e n X M) (hs:SumB w m k.1 e) (he:Er F e) (hF:F->FitM n M) (ht:TabB B0 w) (hB:B0<=m) :
  Calls prog 155 #[.pointer (some ⟨m,0,none⟩),v] w (PowE F m n e M w):=by
 obtain⟨a,m4,b,s,A,C,BB,O,rfl,ha,hc,hm,hb,a6⟩:=hA.open;unfold maxLen at hm;have b8:=hs.lt;have HS:=qh hs;clear hs;have HX:=qh hX;clear hX;have HE:=qh he;clear he;have HF:=qh hF;clear hF;have d3:=qh ht;clear ht;have HA:=qh ha;clear ha;have HB:=qh hb;clear hb;have HR:=qh a6;clear a6 hA;have j3:=run_make_row' (P:=prog) 75 79 (.slice none 0 0) 24 underlying75 y4t rfl .i64 .i64 n (by omega) (by omega)
 go_enter func155,ntmps155
 go_wp2_with fail
 change Code.wp _ _ _ _ (PW w m n);clear j3;have c9:=qh (u3w w m n);have d0:=qh (u4r w m n X);have f9:=qh (v4k w m n);generalize PW w m n=wp at *;obtain⟨D,N⟩:=exq (w.heap.size+1);obtain⟨g,u⟩:=exq (w.heap.size);rw[<- N,<- u];rw[<- u] at b8 N;have a3:=qh (show wp.heap[D]?=some (.cells #[.pointer (some ⟨m,0,none⟩),.slice (some ⟨g,0,none⟩) n n] 184 (0,0)) from by rw[N,u];exact c9.out);have a5:=qh (show OM wp (fun b=>b=D) g 9 79 g n (fun _=>.slice none 0 0) (fun l=>if l<0 then n else 0) X from by rw[N,u];exact d0.out)
 have a7:=qh (show Below g w wp from by rw[u];exact f9.out);have b4:=qh (show 0<n->b<g/\b≠m from fun h=>by rw[u];exact⟨(HB.out h).1,by have:=(HB.out h).2;simpa using this⟩);have e0:=qh (show ∀ i,i<n->w.cell? ⟨b,s+i,none⟩=some (.slice (A i) n (C i))/\n<=C i/\C i<=maxLen/\(0<n->A i=some ⟨BB i,O i,none⟩)/\(0<n->BB i<g)/\∀ j,j<n->w.cell? ⟨BB i,O i+j,none⟩=some (.string (X i j)) from fun i hi=>by
  obtain⟨k1,k2,k3,k4,k5,_,k7⟩:=HR.out i hi;exact⟨k1,k2,k3,k4,fun h=>by rw[u];exact(k5 h).1,k7⟩)
 have G:=qh u;clear u;have c7:=qh N;clear N;clear c9 d0 f9 HB HR
 go_loopw [16] (fun i wr=>∃ (q:Nat) (R2:Nat->Value),q<=n/\i=.int .i64 (q:Int)/\wr.heap[D]?=some (.cells #[.pointer (some ⟨m,0,none⟩),.slice (some ⟨g,0,none⟩) n n] 184 (0,0)) /\
  OM wr (fun b=>b=D) g 9 79 g n R2 (fun l=>if l<q then n else 0) X /\
  (∀ l,q<=l->R2 l=.slice none 0 0)/\Below g w wr) (fun i _=>n-(intOf i).toNat)
 case atStart=>exact⟨0,_,Nat.zero_le _,rfl,a3.out,a5.out,fun _ _=>rfl,a7.out⟩
 obtain⟨q,R2,hq,rfl,a4,e5,a1,h0⟩:=hrel;clear a3 a5 a7;have U:=qh a4;clear a4;have L:=qh e5;clear e5;have b3:=qh a1;clear a1;have E:=qh h0;clear h0;by_cases o:q<n
 ·have l8:(q:Int)<(n:Int):=by omega
  have l2:(0:Int)<=(q:Int):=by omega
  obtain rfl:=HA.out (by omega);obtain⟨h5,i9⟩:=b4.out (by omega);obtain⟨k1,k2,k3,k4,k5,k7⟩:=e0.out q o;have g8:=k4 (by omega);have b2:=k5 (by omega);rw[g8] at k1;have c0:=(E.out.cell (p:=⟨b,s+q,none⟩) h5).trans k1;have h3:=qh (fun j (hj:j<n)=>(E.out.cell (p:=⟨BB q,O q+j,none⟩) b2).trans (k7 j hj));have t1:wr.cell? ⟨D,1,none⟩=some (.slice (some ⟨g,0,none⟩) n n):=by have:=U.out;simp[World.cell?,this]
  have o0:=L.out.cell o;rw[b3.out q nlr] at o0;unfold maxLen at k3;have b9:=y1e wr none;have h8:=L.out.lt;have g3:g<=wr.heap.size:=by rw[G.out];exact E.out.size
  have l9:(C q:Int)<=9223372036854775807:=by omega
  clear k1 k4 k5 k7 g8;have l5:BB q<g:=b2;clear b2 h5 i9;obtain⟨i0,j6,i4,i2,i3⟩:=info_parts x3p;have j1:=qh (show ∀ j,j<n->wr.drew.cell? ⟨BB q,O q+j,none⟩=some (.string (X q j)) from h3.out);clear h3
  go_wp2_with fail
  have d:S4 ⟨D,1,none⟩ ⟨g,q,none⟩ ⟨b,s+q,none⟩ ⟨b,s+q,none⟩ (.slice (some ⟨g,0,none⟩) n n) (.slice none 0 0) (.slice (some ⟨BB q,O q,none⟩) n (C q)) (.slice (some ⟨BB q,O q,none⟩) n (C q)) wr.drew:=⟨t1,o0,c0,c0⟩;refine z0g (S4 ⟨D,1,none⟩ ⟨g,q,none⟩ ⟨b,s+q,none⟩ ⟨b,s+q,none⟩ (.slice (some ⟨g,0,none⟩) n n) (.slice none 0 0) (.slice (some ⟨BB q,O q,none⟩) n (C q)) (.slice (some ⟨BB q,O q,none⟩) n (C q))) 18 (by kernel_rfl) ?_;refine z0c.tm 0 d ?_;refine z0c.tm 1 d ?_;refine z0c.tm 2 d ?_;refine z0c.tm 3 d ?_;refine z0c.tm 4 d ?_;refine z0c.tm 5 d ?_;refine z0c.tm 6 d ?_;refine z0c.tm 7 d ?_;refine z0c.tm 8 d ?_;refine z0c.tm 9 d ?_;refine z0c.tm 10 d ?_;refine z0c.tm 11 d ?_;refine z0c.tm 12 d ?_;refine z0c.tm 13 d ?_;refine z0c.tm 14 d ?_;refine z0c.tm 15 d ?_
  try simp only[Act.put,tryL]
  refine z0c.on 16 fun K H=>?_;refine wp_append_lies _ (.tmp 30) (.tmp 34) 79 rfl g 9 i0 (.string ⟨#[]⟩) 1 16 underlying79 j6 i4 i2 i3 rfl (by omega) (.slice none 0 0) 0 [] (by simp[Act.eval]) (World.ownsRow_nil _ _ _ _) ⟨BB q,O q,none⟩ n (C q) (strs n (X q)) (by simp[Act.eval]) (by rw[z8d,Nat.mul_one])
     (y7c j1.out) (x0t _ _) (by omega) (by unfold maxLen;omega) (by omega) g3 wr.heap.size rfl ?_
  intro go l3 wa f2 B h6 k9;have Q:=z3f b9 B;have l6:=(Q.frozen_far ⟨g,q,none⟩ h8 (by simp)).trans (L.out.frozen q);have j4:=Q.cell o0 (by simp);have d8:S4 ⟨D,1,none⟩ ⟨g,q,none⟩ ⟨b,s+q,none⟩ ⟨b,s+q,none⟩ (.slice (some ⟨g,0,none⟩) n n) (.slice none 0 0) (.slice (some ⟨BB q,O q,none⟩) n (C q)) (.slice (some ⟨BB q,O q,none⟩) n (C q)) wa :=
   ⟨Q.cell t1 (by simp),j4,Q.cell c0 (by simp),Q.cell c0 (by simp)⟩
  refine H.out _ _ (.inr d8) ?_;clear H K
  try simp only[Act.put,tryL]
  refine z0c.tm 17 d8 ?_
  try simp only[Act.put,tryL]
  refine z0c.on 18 fun K H=>?_;go_simp;refine H.out _ _ (.inl rfl) (z0c.dn ?_);clear H K;go_wp2;go_roundw
  case rel =>
   obtain⟨R3,h1,h2⟩:=y9f L.out o b3.out f2 B h6;exact⟨q+1,R3,by omega,by go_num,v6a U.out B (by simp[Value.ownBlock]) (by show D≠g;have:=c7.out;omega) _,h1,h2,((E.out.drew).grown B (by show g<=wr.heap.size;exact g3) (by simp[Value.ownBlock])).setCell nlr _⟩
  simp[intOf];omega
 have i8:q=n:=by omega
 subst i8;have f3:OM wr (fun b=>b=D) g 9 79 g q R2 (fun _=>q) X:=L.out.congrL fun l hl=>by rw[if_pos hl]
 have j8:¬ ((q:Int)<(q:Int)):=by omega
 have d4:Tb wr k.1 g (D) m g q e R2 X:=⟨U.out,HS.out.kept (G.out ▸ E.out),f3,b8,by have:=c7.out;omega⟩;have a2:TabB B0 wr:=d3.out.kept (z:=none) (z0b (G.out ▸ E.out) _) (by simp) (by have:=G.out;omega);have g0:Gr g (some m) w wr:=Gr.of (z0b (G.out ▸ E.out) _) (by rw[G.out];exact nlr);clear L b3 f3;have g7:=qh d4;clear d4 HS;have S:=qh a2;clear a2 d3;have g5:=qh g0;clear g0;have I:∀ i,i<q->wr.cell? ⟨b,s+i,none⟩=some (.slice (A i) q (C i)):=fun i hi=>(E.out.cell (p:=⟨b,s+i,none⟩) (b4.out (by omega)).1).trans (e0.out i hi).1;have j5:=qh I;clear I
 go_wp2_with fail
 refine(v2v hn HA.out b4.out j5.out g7.out HX.out HE.out (fun f=>(HF.out f).steps) S.out hB).mono ?_;rintro r w2 ⟨e2,Y,rfl,f1,f8,d7,d1,c8⟩;have a8:TabB B0 w2:=S.out.gr c8 (by intro q hq;cases hq;exact hB) (by omega);have b6:=qh f1;clear f1 g7;have d9:=qh (Diag.start f8);clear f8;have e1:=qh d7;clear d7;have j9:=qh d1;clear d1;have d5:=qh (g5.out.trans c8);clear c8 g5;have b0:=qh a8;clear a8 S;have t1:=b6.out.c1
 go_wp2_with fail
 clear t1
 go_loopw [47] (fun i wr=>∃ (c e3:Nat) (Z:Nat->Nat->ByteArray),c<=q/\i=.int .i64 (c:Int)/\Tb wr k.1 g D m g q e3 R2 Z/\Diag e3 q c Z (CSR.elims M q)/\Er F e3/\(e3=0->e2=0)/\TabB B0 wr/\Gr g (some m) w wr)
  (fun i _=>q-(intOf i).toNat)
 case atStart=>exact⟨0,e2,Y,Nat.zero_le _,rfl,b6.out,d9.out,e1.out,fun h=>h,b0.out,d5.out⟩
 obtain⟨c,e3,Z,m2,rfl,hT,hX,hE,hm,e8,hG⟩:=hrel;clear b6 d9 e1 b0 d5;have W:=qh hT;clear hT;have b5:=qh hX;clear hX;have g9:=qh hE;clear hE;have HM:=qh hm;clear hm;have a9:=qh e8;clear e8;have HG:=qh hG;clear hG;by_cases o:c<q
 ·have l4:(c:Int)<(q:Int):=by omega
  have k6:(0:Int)<=(c:Int):=by omega
  obtain⟨T,cc,b1,e9,d6,l0,l1,m3,i6,g1,g6⟩:=W.out.om.form o (by omega);unfold maxLen at i6;have r0:=W.out.om.cell o;rw[b1] at r0;have r1:=g6 c o;have rf:=g1 c;have t1:=W.out.c1;have s0:=W.out.sum.c0;have j0:=qh b1;clear b1;clear g1 g6;have b9:=y1e wr (some m);have d:S4 ⟨D,1,none⟩ ⟨g,c,none⟩ ⟨T,c,none⟩ ⟨m,0,none⟩ (.slice (some ⟨g,0,none⟩) q q) (.slice (some ⟨T,0,none⟩) q cc) (.string (Z c c)) (.int .i64 k.1) wr.drew:=⟨t1,r0,r1,s0⟩;have i7:=c7.out;have f7:some D≠some m:=by simp;omega
  have f4:some g≠some m:=by simp;omega
  have b7:some T≠some m:=by simp;omega
  clear i7
  go_wp2_with fail
  refine z0g (S4 ⟨D,1,none⟩ ⟨g,c,none⟩ ⟨T,c,none⟩ ⟨m,0,none⟩ (.slice (some ⟨g,0,none⟩) q q) (.slice (some ⟨T,0,none⟩) q cc) (.string (Z c c)) (.int .i64 k.1)) 26 (by kernel_rfl) ?_;refine z0c.tm 0 d ?_;refine z0c.tm 1 d ?_;refine z0c.tm 2 d ?_;refine z0c.tm 3 d ?_;refine z0c.tm 4 d ?_;refine z0c.tm 5 d ?_;refine z0c.tm 6 d ?_;refine z0c.tm 7 d ?_;refine z0c.tm 8 d ?_;refine z0c.tm 9 d ?_;refine z0c.tm 10 d ?_;refine z0c.tm 11 d ?_;refine z0c.tm 12 d ?_;refine z0c.tm 13 d ?_;refine z0c.tm 14 d ?_;refine z0c.tm 15 d ?_;refine z0c.tm 16 d ?_;refine z0c.tm 17 d ?_;refine z0c.tm 18 d ?_;refine z0c.tm 19 d ?_;refine z0c.tm 20 d ?_;refine z0c.tm 21 d ?_;refine z0c.tm 22 d ?_
  try simp only[Act.put,tryL]
  refine z0c.on 23 fun K H=>?_;go_simp;refine(z7a k.1 _).mono ?_;rintro r w3 ⟨rfl,g2⟩;have R:=z3f b9 (z0b g2 (some m));have f0:SumB w3 m k.1 e3:=W.out.sum.drew.kept g2;have j2:S4 ⟨D,1,none⟩ ⟨g,c,none⟩ ⟨T,c,none⟩ ⟨m,0,none⟩ (.slice (some ⟨g,0,none⟩) q q) (.slice (some ⟨T,0,none⟩) q cc) (.string (Z c c)) (.int .i64 k.1) w3:=⟨R.cell t1 f7,R.cell r0 f4,R.cell r1 b7,f0.c0⟩;refine H.out _ _ (.inr j2) ?_;clear H K
  try simp only[Act.put,tryL]
  refine z0c.on 24 fun K H=>?_;go_simp;have h9:Is k e3 (Z c c) (CSR.elims M q c c):=by have:=b5.out c c o o;rwa [if_neg (by omega)] at this
  refine(x3k h9 (Is.one k e3) g9.out (fun f=>(HF.out f).last c o) (a9.out.kept R (by intro q hq;cases hq;exact hB) (by have:=W.out.sum.lt;omega)).tab f0).mono ?_;rintro r w4 ⟨u4,e4,rfl,k0,j7,f5,h4,i5⟩;have J:=z3f R i5;have l7:=(J.frozen_far ⟨T,c,none⟩ d6 b7).trans rf;have h7:=J.cell r1 b7;have e6:S4 ⟨D,1,none⟩ ⟨g,c,none⟩ ⟨T,c,none⟩ ⟨m,0,none⟩ (.slice (some ⟨g,0,none⟩) q q) (.slice (some ⟨T,0,none⟩) q cc) (.string (Z c c)) (.int .i64 k.1) w4:=⟨J.cell t1 f7,J.cell r0 f4,h7,h4.c0⟩;refine H.out _ _ (.inr e6) ?_;clear H K
  try simp only[Act.put,tryL]
  refine z0c.tm 25 e6 ?_
  try simp only[Act.put,tryL]
  refine z0c.on 26 fun K H=>?_;go_simp;refine H.out _ _ (.inl rfl) (z0c.dn ?_);clear H K;go_wp2;go_roundw
  case rel =>
   have d2:g<=wr.heap.size:=by rw[G.out];exact HG.out.size
   have g4:=((Gr.refl g (some m) wr).more J d2 (fun _ e=>.inl e)).set (p:=⟨T,c,none⟩) (.inr e9) (.string u4);exact⟨c+1,e4,_,by omega,by go_num,(W.out.kept J h4).stored o o j0.out u4,b5.out.next f5 k0,j7,fun h=>HM.out (f5 h),
    a9.out.gr g4 (by intro q hq;cases hq;exact hB) (by omega),HG.out.trans g4⟩
  simp[intOf];omega
 have e7:c=q:=by omega
 subst e7;have j8:¬ ((c:Int)<(c:Int)):=by omega
 have t1:=W.out.c1;go_wp2;go_ret;exact⟨_,e3,Z,rfl,W.out.om.mt (by unfold maxLen;omega) (by intro q hq;cases hq;exact .inl b8),b5.out.done,g9.out,fun h=>j9.out (HM.out h),W.out.sum,Gr.gb (by have h:=HG.out;rw[G.out] at h;exact h)⟩
end
section
open Go.RowKit Go.Deep
def Scl (w:World) (cb:Nat) (D:MD) (sv star:Value) (e:Nat):Prop:=w.heap[cb]?=some (.cells #[.int .i64 D.kind,.int .i64 D.start,.string D.lead,sv,star,.int .i64 (e:Int)] 105 (0,0))
namespace Scl
variable {w w':World} {cb:Nat} {D:MD} {sv star:Value} {e:Nat}
theorem lt (h:Scl w cb D sv star e):cb<w.heap.size:=(Array.getElem?_eq_some_iff.1 h).1
theorem c0 (h:Scl w cb D sv star e):w.cell? ⟨cb,0,none⟩=some (.int .i64 D.kind):=by unfold Scl at h;simp[World.cell?,h]
theorem c1 (h:Scl w cb D sv star e):w.cell? ⟨cb,1,none⟩=some (.int .i64 D.start):=by unfold Scl at h;simp[World.cell?,h]
theorem c2 (h:Scl w cb D sv star e):w.cell? ⟨cb,2,none⟩=some (.string D.lead):=by unfold Scl at h;simp[World.cell?,h]
theorem c3 (h:Scl w cb D sv star e):w.cell? ⟨cb,3,none⟩=some sv:=by unfold Scl at h;simp[World.cell?,h]
theorem c4 (h:Scl w cb D sv star e):w.cell? ⟨cb,4,none⟩=some star:=by unfold Scl at h;simp[World.cell?,h]
theorem c5 (h:Scl w cb D sv star e):w.cell? ⟨cb,5,none⟩=some (.int .i64 (e:Int)):=by unfold Scl at h;simp[World.cell?,h]
theorem fz (h:Scl w cb D sv star e) (j:Nat):w.frozen? ⟨cb,j,none⟩=false:=by unfold Scl at h;simp[World.frozen?,h]
theorem setE (h:Scl w cb D sv star e) (e':Nat):Scl (w.setCell ⟨cb,5,none⟩ (.int .i64 (e':Int))) cb D sv star e':=by
 unfold Scl at h ⊢;simp[World.setCell,Array.getElem?_modify,h]
theorem kept {C:Nat->Prop} (h:Scl w cb D sv star e) (hf:Fr C w w') (c:¬ C cb):Scl w' cb D sv star e:=by unfold Scl;rw[hf.block cb h.lt c];exact h
end Scl
theorem z6r {a:ByteArray} (h:(a.toList==[])=true):a=⟨#[]⟩:=toList_eq (b:=⟨#[]⟩) (by rw[Lib.toList_data ⟨#[]⟩];exact h)
theorem z9z {d:Nat} {D:MD} {sv star:Value} {e:Nat} (a b:ByteArray) (w:World) (l:Scl w d D sv star e) (F:smS a) (hb:smS b) (A:Tab w) :
  Calls prog 123 #[.pointer (some ⟨d,0,none⟩),.string a,.string b] w (fun r w'=>r=.returned (.string (z2b D.kind a b e).1)/\Scl w' d D sv star (z2b D.kind a b e).2/\Fr (fun q=>q=d) w w'):=by
 have J:=l.c0;have I:=l.c5;have m:=qh l;clear l;cases o:(a.toList==[])
 ·have g:a≠⟨#[]⟩:=fun e=>by rw[e] at o;simp at o
  by_cases z:e=0
  ·subst z;have k:z2b D.kind a b 0=z1i D.kind a b:=by unfold z2b;rw[if_neg (by intro h;rcases h with h|h;exact g h;exact h rfl)]
   rw[k];have B:=y1y D.kind a b w F hb A;have E:=qh B;clear B A
   go_enter func123,ntmps123
   go_wp2_with fail
   refine E.out.mono ?_;rintro r u ⟨rfl,i⟩;have j:Fr (fun q=>q=d) w u:=Fr.of_below i;have c:Scl u d D sv star 0:=by unfold Scl;rw[i.block d m.out.lt];exact m.out
   have H:=c.fz 5;have G:=c.c5;have s:=qh c;clear c i;have p:=qh j;clear j;go_wp2;go_ret;exact⟨rfl,s.out.setE _,p.out.set (.inl rfl) _⟩
  have k:z2b D.kind a b e=(b,e):=by unfold z2b;rw[if_pos (.inr z)]
  have C:¬ (e:Int)=0:=by omega
  rw[k]
  go_enter func123,ntmps123
  go_wp2;go_ret;exact⟨rfl,m.out,Fr.refl _ _⟩
 have g:a=⟨#[]⟩:=z6r o;have k:z2b D.kind a b e=(b,e):=by unfold z2b;rw[if_pos (.inl g)]
 rw[k]
 go_enter func123,ntmps123
 go_wp2;go_ret;exact⟨rfl,m.out,Fr.refl _ _⟩
theorem y0u {d:Nat} {D:MD} {sv star:Value} {e:Nat} (a b:ByteArray) (w:World) (i:Scl w d D sv star e) (B:smS a) (hb:smS b) (s:Tab w) :
  Calls prog 125 #[.pointer (some ⟨d,0,none⟩),.string a,.string b] w (fun r w'=>r=.returned (.string (z0r D.kind a b e).1)/\Scl w' d D sv star (z0r D.kind a b e).2/\Fr (fun q=>q=d) w w'):=by
 have G:=i.c0;have F:=i.c5;have l:=qh i;clear i;by_cases p:e=0
 ·subst p;have m:z0r D.kind a b 0=z0n D.kind a b:=by unfold z0r;rw[if_neg (by simp)]
  rw[m];have u:=z7c D.kind a b w B hb s;have A:=qh u;clear u s
  go_enter func125,ntmps125
  go_wp2_with fail
  refine A.out.mono ?_;rintro r o ⟨rfl,g⟩;have h:Fr (fun q=>q=d) w o:=Fr.of_below g;have c:Scl o d D sv star 0:=by unfold Scl;rw[g.block d l.out.lt];exact l.out
  have E:=c.fz 5;have C:=c.c5;have k:=qh c;clear c g;have j:=qh h;clear h;go_wp2;go_ret;exact⟨rfl,k.out.setE _,j.out.set (.inl rfl) _⟩
 have m:z0r D.kind a b e=(a,e):=by unfold z0r;rw[if_pos p]
 have z:¬ (e:Int)=0:=by omega
 rw[m]
 go_enter func125,ntmps125
 go_wp2;go_ret;exact⟨rfl,l.out,Fr.refl _ _⟩
theorem y9j:(prog.info? 9).map (fun i=>(i.zero,i.size,i.bytes))=some (some (.string ⟨#[]⟩),1,16):=by kernel_rfl
theorem z7j {c:Nat} {D:MD} {a:Option Addr} {cap:Nat} {star:Value} {e:Nat} (w:World) (g:Scl w c D (.slice a D.n cap) star e) (h:1<=D.n) (hn:D.n<=3000) :
  Calls prog 82 #[.pointer (some ⟨c,0,none⟩)] w (fun r w'=>r=.returned (.slice (some ⟨w.heap.size,0,none⟩) D.n D.n)/\w'.rowIs w.heap.size 9 D.n (fun q=>.string (z1c q))/\Fr (fun _=>False) w w'/\w'.heap.size=w.heap.size+1):=by
 have i:=g.c3;have d:=run_make_row' (P:=prog) 102 9 (.string ⟨#[]⟩) 16 underlying102 y9j rfl .i64 .i64 D.n (by omega) (by omega)
 go_enter func82,ntmps82
 go_wp2;go_ret;exact⟨rfl,World.rowIs_made w (.string ⟨#[]⟩) D.n 9,Fr.alloc _ _,by simp⟩
end
section
open Go.RowKit Go.Deep
theorem y6e {l:Nat} {D:MD} {a:Option Addr} {cap:Nat} {star:Value} {e:Nat} (w:World) (B:Scl w l D (.slice a D.n cap) star e) (S:1<=D.n) (hn:D.n<=3000) (G:0<=D.start) (i:D.start<(D.n:Int)) :
  Calls prog 80 #[.pointer (some ⟨l,0,none⟩)] w (fun r w'=>r=.returned (.slice (some ⟨w.heap.size,0,none⟩) D.n D.n)/\w'.rowIs w.heap.size 9 D.n (fun q=>.string (z6k D q))/\Fr (fun _=>False) w w'):=by
 obtain⟨st,k⟩:∃ st:Nat,D.start=(st:Int):=⟨D.start.toNat,by omega⟩;have m:st<D.n:=by omega
 have N:(st:Int)<(D.n:Int):=by omega
 have H:(0:Int)<=(st:Int):=by omega
 have C:=qh (z7j w B S hn);have T:=qh B;clear B;have u:z6k D=fun q=>if q=st then D.lead else ⟨#[]⟩:=by funext q;unfold z6k;rw[k,Int.toNat_natCast]
 have I:=qh u;clear u;have E:=qh k;clear k G i
 go_enter func80,ntmps80
 go_wp2_with fail
 refine C.out.mono ?_;rintro r A ⟨rfl,d,hf,F⟩;have i:=T.out.kept hf (fun h=>h);obtain⟨g,z⟩:=exq (w.heap.size);rw[<- z] at d;rw[<- z];have J:w.heap.size<=g:=by omega
 have O:=i.c1;rw[E.out] at O;have R:=i.c2;have gl:=d.cell m;have U:=d.frozen st;have s:=qh d;clear d;have Q:=qh hf;clear hf i F;have L:=qh z;clear z
 go_wp2_with fail
 have c:A.cell? ⟨l,1,none⟩=some (.int .i64 (st:Int))/\A.cell? ⟨l,2,none⟩=some (.string D.lead):=⟨O,R⟩;refine z0g (fun o=>o.cell? ⟨l,1,none⟩=some (.int .i64 (st:Int))/\o.cell? ⟨l,2,none⟩=some (.string D.lead)) 12 (by kernel_rfl) ?_;refine z0c.tm 0 c ?_;refine z0c.tm 1 c ?_;refine z0c.tm 2 c ?_;refine z0c.tm 3 c ?_;refine z0c.tm 4 c ?_;refine z0c.tm 5 c ?_;refine z0c.tm 6 c ?_;refine z0c.tm 7 c ?_;refine z0c.tm 8 c ?_;refine z0c.tm 9 c ?_;refine z0c.tm 10 c ?_;refine z0c.tm 11 c ?_
 try simp only[Act.put,tryL]
 refine z0c.on 12 fun K P=>?_;go_simp;refine P.out _ _ (.inl rfl) (z0c.dn ?_);clear P K;go_wp2;go_ret;refine⟨Eq.trans (b:=Ending.returned (.slice (some ⟨g,0,none⟩) D.n D.n)) rfl (by rw[L.out]),?_,(Q.out.set (p:=⟨g,st,none⟩) (.inr J) _).drew⟩;rw[I.out,<- L.out];exact(show (A.setCell ⟨g,st,none⟩ (.string D.lead)).rowIs g 9 D.n _ from s.out.set st _).congr (fun j _=>by
  show _=Value.string (if j=st then D.lead else ⟨#[]⟩)
  by_cases e:j=st
  ·rw[if_pos e,if_pos e]
  rw[if_neg e,if_neg e];rfl)
def TstA (nf:FuncId) (cap:Array Value) (sel:Int->Int->Bool) (P:World->Prop):Prop :=
 (∀ args w,(callFunc nf args).run prog w=.ok (.enter nf args) w)/\∀ w,P w->∀ (i o:Int) (s:ByteArray) (t:Int),Calls prog nf (#[.agg #[.int .i64 i,.int .i64 o,.string s,.int .i64 t]]++cap) w (fun r w'=>r=.returned (.bool (sel i o))/\Below w.heap.size w w')
def StpE (cb lb:Nat) (D:MD) (sv star:Value) (s:WS) (w:World) (r:Ending) (w':World):Prop :=
 r=.returned (.tuple #[])/\w'.rowIs lb 9 D.n (fun j=>.string (s.1 j))/\Scl w' cb D sv star s.2/\Fr (fun q=>q=cb\/q=lb) w w'
theorem z9w {u o vb nf:Nat} {cap:Array Value} {D:MD} {sv star:Value} {e:Nat} {l v:Nat->ByteArray} {sel:Int->Int->Bool} {P:World->Prop} (w0 w:World) (hv:VM D) (hD:StS none w0 sv D) (h6:Below w0.heap.size w0 w) (ht:Tab w0)
  (hs:Scl w u D sv star e) (hl:w.rowIs o 9 D.n (fun j=>.string (l j))) (e8:w.rowIs vb 9 D.n (fun j=>.string (v j))) (j1:w0.heap.size<=u) (h3:w0.heap.size<=o) (i4:u≠o) (i3:vb≠o) (j0:vb≠u)
  (g0:∀ j,smS (l j)) (i5:∀ j,smS (v j)) (g9:∀ i k,smS (D.aw i k)) (hP:P w) (i9:∀ wa wb,P wa->Fr (fun q=>q=u\/q=o) wa wb->P wb) (i6:TstA nf cap sel P) :
  Calls prog 84 #[.pointer (some ⟨u,0,none⟩),.slice (some ⟨o,0,none⟩) D.n D.n,.slice (some ⟨vb,0,none⟩) D.n D.n,.func (.func nf) #[] cap] w (StpE u o D sv star (z2v D sel v D.n (l,e)) w):=by
 obtain⟨a,cp,b,b3,A,C,BB,O,rfl,ha,hc,hm,hb,b0⟩:=hD.open;unfold maxLen at hm;obtain⟨n9,f8⟩:=i6;obtain⟨n,hn⟩:=exq (D.n);have n6:n<=3000:=by rw[hn];exact hv.n2
 have n3:1<=n:=by rw[hn];exact hv.n1
 rw[<- hn] at ha hc hb b0 hl e8 hs ⊢;have HN:=qh hn;clear hn;have HV:=qh hv;clear hv;have HA:=qh ha;clear ha;have HB:=qh hb;clear hb;have HR:=qh b0;clear b0 hD;have HT:=qh f8;clear f8;have g2:=qh ht;clear ht;have HP:=qh hP;clear hP;have l7:=qh i9;clear i9;have H:=qh h6;clear h6;have HS:=qh hs;clear hs;have HL:=qh hl;clear hl;have k9:=qh e8;clear e8;have j4:=qh g0;clear g0;have d3:=qh i5;clear i5;have l1:=qh g9;clear g9;have b7:=qh i4;clear i4;have l2:=qh i3;clear i3;have j8:=qh j0;clear j0;have d4:=qh j1;clear j1;have d2:=qh h3;clear h3;obtain rfl:=HA.out (by omega)
 go_enter func84,ntmps84
 go_wp2_with fail
 go_loopw [14] (fun i wr=>∃ q:Nat,q<=n/\i=.int .i64 (q:Int)/\wr.rowIs o 9 n (fun j=>.string ((z2v D sel v q (l,e)).1 j))/\Scl wr u D (.slice (some ⟨b,b3,none⟩) n cp) star (z2v D sel v q (l,e)).2/\Fr (fun q=>q=u\/q=o) w wr) (fun i _=>n-(intOf i).toNat)
 case atStart=>exact⟨0,Nat.zero_le _,rfl,HL.out,HS.out,Fr.refl _ _⟩
 obtain⟨q,hq,rfl,f9,j2,j3⟩:=hrel;clear HL HS;have W:=qh f9;clear f9;have R:=qh j2;clear j2;have U:=qh j3;clear j3;by_cases h5:q<n
 ·have n7:(q:Int)<(n:Int):=by omega
  have m9:(0:Int)<=(q:Int):=by omega
  have cv:=U.out.cell (k9.out.cell h5) (p:=⟨vb,q,none⟩) (by
   rintro(h|h)
   ·exact j8.out h
   exact l2.out h)
  have h9:=qh (H.out.trans (U.out.below H.out.size (fun k hk=>by rcases hk with rfl|rfl;exact d4.out;exact d2.out)))
  have l3:=(HB.out (by omega)).1;obtain⟨k1,k2,k3,k4,k5,k6,k7⟩:=HR.out q h5;obtain⟨aq,i2⟩:=exq (A q);rw[<- i2] at k2 k5;clear i2;have c1:=(h9.out.cell (p:=⟨b,b3+q*2+1,none⟩) l3).trans k2;have m3:=R.out.c3;clear k1 k2;unfold maxLen at k4;have m7:D.na q<=30000:=by have h1:=Nat.le_trans (z1u D (show q+1<=D.n by have:=HN.out;omega)) HV.out.arcs;have h2:z0h D (q+1)=z0h D q+D.na q:=rfl;omega
  have l4:=qh k7;clear k7;have l0:=qh k5;clear k5;have l9:=qh k6;clear k6;obtain⟨vq,T⟩:=exq (v q);rw[<- T] at cv;cases hE:(vq.toList==[])
  ·have b1:v q≠⟨#[]⟩:=fun e=>by rw[T,e] at hE;simp at hE
   have Z:z2v D sel v (q+1) (l,e)=z3d D sel v q (D.na q) (z2v D sel v q (l,e)):=by
    show rowC D sel v q _=_;unfold rowC;rw[if_neg b1]
   have X:=qh Z;clear Z b1;have f1:=qh T;clear T;obtain⟨s0,f5⟩:=exq (z2v D sel v q (l,e));have e5:∀ j,smS (s0.1 j):=by rw[f5];exact z5u d3.out q j4.out
   rw[<- f5] at W R X;have l6:=qh e5;clear e5 f5
   go_wp2_with fail
   clear cv c1 m3
   go_loopw [31] (fun i wr=>∃ d:Nat,d<=D.na q/\i=.int .i64 (d:Int)/\wr.rowIs o 9 n (fun j=>.string ((z3d D sel v q d s0).1 j))/\Scl wr u D (.slice (some ⟨b,b3,none⟩) n cp) star (z3d D sel v q d s0).2/\Fr (fun q=>q=u\/q=o) w wr) (fun i _=>D.na q-(intOf i).toNat)
   case atStart=>exact⟨0,Nat.zero_le _,rfl,W.out,R.out,U.out⟩
   obtain⟨d,hd,rfl,J,L,d6⟩:=hrel;clear W R U h9;have z:=qh J;clear J;have F:=qh L;clear L;have G:=qh d6;clear d6;by_cases i7:d<D.na q
   ·have n5:(d:Int)<(D.na q:Int):=by omega
    have m8:(0:Int)<=(d:Int):=by omega
    have N:=qh (H.out.trans (G.out.below H.out.size (fun k hk=>by rcases hk with rfl|rfl;exact d4.out;exact d2.out)))
    have d1:=(l9.out (by omega)).1;obtain⟨t0,t1,t2,t3⟩:=l4.out d i7;obtain rfl:=l0.out (by omega);have c0:=(N.out.cell (p:=⟨BB q,O q+d*4,none⟩) d1).trans t0;have c1:=(N.out.cell (p:=⟨BB q,O q+d*4+1,none⟩) d1).trans t1;have c2:=(N.out.cell (p:=⟨BB q,O q+d*4+2,none⟩) d1).trans t2;have c3:=(N.out.cell (p:=⟨BB q,O q+d*4+3,none⟩) d1).trans t3;clear t0 t1 t2 t3;have e9:=HV.out.arc q d (by have:=HN.out;omega) i7;obtain⟨g,f3⟩:∃ g:Nat,D.ato q d=(g:Int):=⟨(D.ato q d).toNat,by have:=e9.t0;omega⟩;have i8:g<n:=by have:=e9.t1;have:=HN.out;omega
    rw[f3] at c3;have j5:=qh f3;clear f3 e9;obtain⟨Q,b9⟩:=exq (wr.heap.size);obtain⟨wa,a5⟩:=exq (wr.alloc (.cells #[.int .i64 (D.ain q d),.int .i64 (D.aout q d),.string (D.aw q d),.int .i64 (g:Int)] 59));have f7:Fr (fun q=>q=u\/q=o) wr wa:=by rw[a5];exact Fr.alloc _ _
    have d7:wa.heap[Q]?=some (.cells #[.int .i64 (D.ain q d),.int .i64 (D.aout q d),.string (D.aw q d),.int .i64 (g:Int)] 59 (0,0)):=by rw[a5,b9];exact heap_alloc_new wr _
    have b5:=HT.out wa (l7.out _ _ HP.out (G.out.trans f7)) (D.ain q d) (D.aout q d) (D.aw q d) (g:Int);have o3:Q≠o:=by have:=z.out.lt;omega
    have a6:Q≠u:=by have:=F.out.lt;omega
    have HC:=qh b5;clear b5;have c8:=qh f7;clear f7;have a8:=qh d7;clear d7
    go_wp2_with fail
    rw[<- a5,<- b9];clear c0 c1 c2 c3;have o2:=qh b9;clear b9;have f0:=qh a5;clear a5;refine HC.out.mono ?_;rintro r w1 ⟨rfl,b8⟩;have h4:Fr (fun q=>q=u\/q=o) w w1:=(G.out.trans c8.out).trans (Fr.of_below b8);have b6:=(b8.block Q (lt_of_block a8.out)).trans a8.out;have e1:Scl w1 u D (.slice (some ⟨b,b3,none⟩) n cp) star (z3d D sel v q d s0).2:=by
     unfold Scl;rw[b8.block u (by have:=F.out.lt;have:=c8.out.size;omega),f0.out,blk_alloc_lt _ _ _ F.out.lt];exact F.out
    have d9:w1.rowIs o 9 n (fun j=>.string ((z3d D sel v q d s0).1 j)):=z.out.of_block ((b8.block o (by have:=z.out.lt;have:=c8.out.size;omega)).trans (by rw[f0.out,blk_alloc_lt _ _ _ z.out.lt]));have b2:=qh h4;clear h4 b8 c8 a8 HC F z G N f0;have m:=qh b6;clear b6;have I:=qh e1;clear e1;have B:=qh d9;clear d9;have e4:∀ j,smS ((z3d D sel v q d s0).1 j):=y6v (d3.out q) d l6.out;have e3:=qh e4;clear e4;cases d0:sel (D.ain q d) (D.aout q d)
    ·have a9:z3d D sel v q (d+1) s0=z3d D sel v q d s0:=by show arcC D sel v q d _=_;unfold arcC;rw[if_neg (by rw[d0];simp)]
     have b4:=qh a9;clear a9 d0;go_wp2;go_roundw
     case rel=>exact⟨d+1,by omega,by go_num,by rw[b4.out];exact B.out,by rw[b4.out];exact I.out,b2.out⟩
     simp[intOf];omega
    obtain⟨s1,f4⟩:=exq (z3d D sel v q d s0);obtain⟨tp,c9⟩:=exq (z0r D.kind vq (D.aw q d) s1.2);obtain⟨zp,f2⟩:=exq (z2b D.kind (s1.1 g) tp.1 tp.2);have a9:z3d D sel v q (d+1) s0=(updS s1.1 g zp.1,zp.2):=by
     show arcC D sel v q d _=_;unfold arcC;rw[if_pos d0,<- f4,j5.out,Int.toNat_natCast,<- f1.out,<- c9,<- f2]
    rw[<- f4] at I B e3;have b4:=qh a9;clear a9 d0 f4;have d8:smS tp.1:=by rw[c9];exact z6j (by rw[f1.out];exact d3.out q)
    have d5:smS vq:=by rw[f1.out];exact d3.out q
    have l5:=qh d8;clear d8;have g6:=qh d5;clear d5;have m2:=qh c9;clear c9;have k0:=qh f2;clear f2;have m5:(g:Int)<(n:Int):=by omega
    have j6:(0:Int)<=(g:Int):=by omega
    obtain⟨s,E⟩:=exq (w1.drew);have b2:Hid (Fr (fun q=>q=u\/q=o) w s):=qh (by rw[E];exact b2.out.drew);have m:Hid (s.heap[Q]?=some (.cells #[.int .i64 (D.ain q d),.int .i64 (D.aout q d),.string (D.aw q d),.int .i64 (g:Int)] 59 (0,0))):=qh (by rw[E];exact m.out);have I:Hid (Scl s u D (.slice (some ⟨b,b3,none⟩) n cp) star s1.2):=qh (by rw[E];exact I.out);have B:Hid (s.rowIs o 9 n (fun j=>.string (s1.1 j))):=qh (by rw[E];exact B.out);have a7:Tab s:=g2.out.below (H.out.trans (b2.out.below H.out.size (fun k hk=>by rcases hk with rfl|rfl;exact d4.out;exact d2.out))) nlr
    have c:s.cell? ⟨Q,3,none⟩=some (.int .i64 (g:Int))/\s.cell? ⟨Q,2,none⟩=some (.string (D.aw q d))/\s.cell? ⟨o,g,none⟩=some (.string (s1.1 g)) :=
     ⟨by simp[World.cell?,m.out],by simp[World.cell?,m.out],B.out.cell i8⟩
    have g3:=qh (y0u vq (D.aw q d) s I.out g6.out (l1.out q d) a7);rw[<- m2.out] at g3;clear a7
    go_wp2_with fail
    refine z0g (fun e6=>e6.cell? ⟨Q,3,none⟩=some (.int .i64 (g:Int))/\e6.cell? ⟨Q,2,none⟩=some (.string (D.aw q d))/\e6.cell? ⟨o,g,none⟩=some (.string (s1.1 g))) 16 (by kernel_rfl) ?_;rw[<- E];clear E;refine z0c.tm 0 c ?_;refine z0c.tm 1 c ?_;refine z0c.tm 2 c ?_;refine z0c.tm 3 c ?_;refine z0c.tm 4 c ?_;refine z0c.tm 5 c ?_;refine z0c.tm 6 c ?_;refine z0c.tm 7 c ?_;refine z0c.tm 8 c ?_;refine z0c.tm 9 c ?_;refine z0c.tm 10 c ?_;refine z0c.tm 11 c ?_;refine z0c.tm 12 c ?_
    try simp only[Act.put,tryL]
    refine z0c.on 13 fun K hK=>?_;go_simp;refine g3.out.mono ?_;rintro r w2 ⟨rfl,L,S⟩;have c7:w2.cell? ⟨Q,3,none⟩=some (.int .i64 (g:Int))/\w2.cell? ⟨Q,2,none⟩=some (.string (D.aw q d))/\w2.cell? ⟨o,g,none⟩=some (.string (s1.1 g)) :=
     ⟨S.cell c.1 a6,S.cell c.2.1 a6,S.cell c.2.2 (fun e=>b7.out e.symm)⟩
    have a1:Fr (fun q=>q=u\/q=o) w w2:=b2.out.trans (S.mono (fun _ _ e=>.inl e));have J:=S.row B.out (fun e=>b7.out e.symm);have a2:=(S.block Q (lt_of_block m.out) a6).trans m.out;have a3:Tab w2:=g2.out.below (H.out.trans (a1.below H.out.size (fun k hk=>by rcases hk with rfl|rfl;exact d4.out;exact d2.out))) nlr
    have g8:=qh (z9z (s1.1 g) tp.1 w2 L (e3.out g) l5.out a3);rw[<- k0.out] at g8;have j9:=qh a1;clear a1 S;have h7:=qh J;clear J;have j7:=qh a2;clear a2 L a3;refine hK.out _ _ (.inr c7) ?_;clear hK K
    try simp only[Act.put,tryL]
    refine z0c.on 14 fun K hK=>?_;go_simp;refine g8.out.mono ?_;rintro r w3 ⟨rfl,e2,Y⟩;have e7:w3.cell? ⟨Q,3,none⟩=some (.int .i64 (g:Int))/\w3.cell? ⟨Q,2,none⟩=some (.string (D.aw q d))/\w3.cell? ⟨o,g,none⟩=some (.string (s1.1 g)) :=
     ⟨Y.cell c7.1 a6,Y.cell c7.2.1 a6,Y.cell c7.2.2 (fun e=>b7.out e.symm)⟩
    have a4:=Y.row h7.out (fun e=>b7.out e.symm);have e0:Fr (fun q=>q=u\/q=o) w w3:=j9.out.trans (Y.mono (fun _ _ e=>.inl e));have fl:=a4.frozen g;have l8:=qh e0;clear e0 Y;have g4:=qh a4;clear a4;have h8:=qh e2;clear e2;refine hK.out _ _ (.inr e7) ?_;clear hK K
    try simp only[Act.put,tryL]
    refine z0c.tm 15 e7 ?_
    try simp only[Act.put,tryL]
    have gl:=e7.2.2;refine z0c.on 16 fun K hK=>?_;go_simp;refine hK.out _ _ (.inl rfl) (z0c.dn ?_);clear hK K;go_wp2;go_roundw
    case rel =>
     refine⟨d+1,by omega,by go_num,?_,?_,l8.out.set (.inl (.inr rfl)) _⟩
     ·rw[b4.out];exact(g4.out.set g _).congr (fun j _=>by
       show _=Value.string (updS s1.1 g zp.1 j);unfold updS;by_cases e:j=g
       ·rw[if_pos e,if_pos e]
       rw[if_neg e,if_neg e])
     rw[b4.out];unfold Scl;rw[z0e (show u≠o from b7.out)];exact h8.out
    simp[intOf];omega
   have g1:d=D.na q:=by omega
   have m4:¬ ((d:Int)<(D.na q:Int)):=by omega
   have g7:=qh g1;clear g1;go_wp2;go_roundw
   case rel=>exact⟨q+1,by omega,by go_num,by rw[X.out,<- g7.out];exact z.out,by rw[X.out,<- g7.out];exact F.out,G.out⟩
   simp[intOf];omega
  have b1:v q=⟨#[]⟩:=by rw[<- T];exact z6r hE
  have Z:z2v D sel v (q+1) (l,e)=z2v D sel v q (l,e):=by
   show rowC D sel v q _=_;unfold rowC;rw[if_pos b1]
  have X:=qh Z;clear Z b1 T;go_wp2;go_roundw
  case rel=>exact⟨q+1,by omega,by go_num,by rw[X.out];exact W.out,by rw[X.out];exact R.out,U.out⟩
  simp[intOf];omega
 have h0:q=n:=by omega
 have m4:¬ ((q:Int)<(n:Int)):=by omega
 have g5:=qh h0;clear h0
 go_wp2_with fail
 go_end0
 exact⟨rfl,by rw[<- HN.out];rw[g5.out] at W;exact W.out,by rw[g5.out] at R;exact R.out,U.out⟩
end
section
structure ED where
 nf:Nat
 f:Nat->Int
 nt:Nat
 t:Nat->Int
 w:ByteArray
structure EM where
 n:Nat
 e:Nat->ED
 most:Int
def v3a (n:Nat) (x:Nat->Int) (sig:Int):Prop:=∀ i,i<n->1<=x i/\x i<=sig
def u3d (s:ByteArray):Prop:=∃ q,prs s=some q/\0<=q
structure EdOk (d:ED):Prop where
 f6:d.nf<=6
 t6:d.nt<=6
 pos:0<d.nf+d.nt
 fw:v3a d.nf d.f 500
 tw:v3a d.nt d.t 500
 wt:u3d d.w
structure VE (M:EM):Prop where
 n4:M.n<=400
 m0:0<=M.most
 m6:M.most<=6
 ok:∀ i,i<M.n->EdOk (M.e i)
def qv (s:ByteArray):Rat:=(prs s).getD 0
theorem EdOk.q0 {d:ED} (h:EdOk d):0<=qv d.w:=by obtain⟨q,g,c⟩:=h.wt;unfold qv;rw[g];exact c
theorem EdOk.q {d:ED} (h:EdOk d):prs d.w=some (qv d.w):=by obtain⟨q,c,_⟩:=h.wt;unfold qv;rw[c];rfl
structure EP where
 M:EM
 a:Nat
 x:Nat->Int
 b:Nat
 y:Nat->Int
abbrev Pl:=Nat × Nat × Nat
def bgs (a:Nat) (x:Nat->Int) (i n:Nat) (u:Nat->Int):Prop:=i+n<=a/\∀ k,k<n->x (i+k)=u k
inductive Sp (P:EP):Pl->Option Nat->Pl->Rat->Prop
 | copy {k i j:Nat}:i<P.a->j<P.b->P.x i=P.y j->Sp P (k,i,j) none (k,i+1,j+1) 0
 | edit {k i j e:Nat}:e<P.M.n->(k:Int)<P.M.most->bgs P.a P.x i (P.M.e e).nf (P.M.e e).f->bgs P.b P.y j (P.M.e e).nt (P.M.e e).t->Sp P (k,i,j) (some e) (k+1,i+(P.M.e e).nf,j+(P.M.e e).nt) (qv (P.M.e e).w)
inductive Pth (P:EP):Pl->Rat->Prop
 | start:Pth P (0,0,0) 0
 | step {p:Pl} {c:Rat} {l:Option Nat} {q:Pl} {d:Rat}:Pth P p c->Sp P p l q d->Pth P q (c+d)
theorem Sp.fn {P:EP} {p q c:Pl} {l:Option Nat} {d g:Rat} (h:Sp P p l q d) (i:Sp P p l c g):q=c/\d=g:=by
 cases h<;>cases i<;>exact⟨rfl,rfl⟩
abbrev TbE:=Pl->Option Rat
def relx (T:TbE) (q:Pl) (v:Rat):TbE:=fun r=>if r=q then (match T q with|none=>some v|some u=>if v<u then some v else some u) else T r
structure Dp (P:EP) (Done:Pl->Option Nat->Prop) (T:TbE):Prop where
 sound:∀ q c,T q=some c->Pth P q c
 zero:∃ c,T (0,0,0)=some c/\c<=0
 done:∀ p l c q d,Done p l->T p=some c->Sp P p l q d->∃ u,T q=some u/\u<=c+d
theorem Dp.start (P:EP):Dp P (fun _ _=>False) (fun q=>if q=(0,0,0) then some 0 else none):=by
 refine⟨fun q c h=>?_,⟨0,by simp,Rat.le_refl⟩,fun _ _ _ _ _ h=>h.elim⟩;by_cases e:q=(0,0,0)
 ·subst e;simp at h;subst h;exact .start
 simp[e] at h
theorem x8f {T:TbE} {q:Pl} {v:Rat} {r:Pl} {u:Rat} (h:T r=some u):∃ u',relx T q v r=some u'/\u'<=u:=by
 unfold relx;by_cases e:r=q
 ·subst e;rw[if_pos rfl,h];by_cases c:v<u
  ·exact⟨v,by simp[c],Rat.le_of_lt c⟩
  exact⟨u,by simp[c],Rat.le_refl⟩
 exact⟨u,by rw[if_neg e];exact h,Rat.le_refl⟩
theorem v5j (T:TbE) (q:Pl) (v:Rat):∃ u',relx T q v q=some u'/\u'<=v:=by
 unfold relx;rw[if_pos rfl];cases h:T q with
 | none=>exact⟨v,rfl,Rat.le_refl⟩
 | some u =>
  by_cases c:v<u
  ·exact⟨v,by simp[c],Rat.le_refl⟩
  exact⟨u,by simp[c],Rat.not_lt.1 c⟩
theorem x9h {T:TbE} {q r:Pl} {v:Rat} (h:r≠q):relx T q v r=T r:=if_neg h
theorem Dp.step {P:EP} {j g:Pl->Option Nat->Prop} {T:TbE} {p q:Pl} {l:Option Nat} {c d:Rat} (h:Dp P j T) (D:T p=some c) (A:Sp P p l q d) (K:∀ l',¬ g q l')
  (L:∀ p' l',g p' l'->j p' l'\/(p'=p/\l'=l)):Dp P g (relx T q (c+d)):=by
 refine⟨fun r u i=>?_,?_,fun p' l' O J I o k s=>?_⟩
 ·by_cases e:r=q
  ·subst e;unfold relx at i;rw[if_pos rfl] at i;cases C:T r with
   | none=>rw[C] at i;simp at i;subst i;exact .step (h.sound p c D) A
   | some m =>
    rw[C] at i;by_cases E:c+d<m
    ·simp[E] at i;subst i;exact .step (h.sound p c D) A
    simp[E] at i;subst i;exact h.sound _ _ C
  rw[x9h e] at i;exact h.sound r u i
 ·obtain⟨u,o,k⟩:=h.zero;obtain⟨m,s,z⟩:=x8f (q:=q) (v:=c+d) o;exact⟨m,s,Rat.le_trans z k⟩
 have B:p'≠q:=fun e=>K l' (e ▸ o);rw[x9h B] at k
 rcases L p' l' o with z|⟨rfl,rfl⟩
 ·obtain⟨u,H,N⟩:=h.done p' l' O J I z k s;obtain⟨m,G,F⟩:=x8f (q:=q) (v:=c+d) H;exact⟨m,G,Rat.le_trans F N⟩
 obtain⟨rfl,rfl⟩:=A.fn s;rw[D] at k;cases k;exact v5j T q (c+d)
def IsCost (P:EP) (o:Option Rat):Prop:=(o=none/\∀ k c,¬ Pth P (k,P.a,P.b) c)\/∃ c k,o=some c/\Pth P (k,P.a,P.b) c/\∀ k' c',Pth P (k',P.a,P.b) c'->c<=c'
theorem IsCost.only {P:EP} {o i:Option Rat} (h:IsCost P o) (l:IsCost P i):o=i:=by
 rcases h with ⟨rfl,d⟩|⟨c,k,rfl,d,m⟩<;>rcases l with ⟨rfl,g⟩|⟨s,p,rfl,g,j⟩
 ·rfl
 ·exact absurd g (d _ _)
 ·exact absurd d (g _ _)
 rw[Rat.le_antisymm (m _ _ g) (j _ _ d)]
end
section
open Go.RowKit Go.Deep
def Si (z:Option Nat) (w:World) (v:Value) (n:Nat) (x:Nat->Int):Prop:=Rd z w v n fun i=>.int .i64 (x i)
def EdS (z:Option Nat) (w:World) (v:Value) (M:EM):Prop :=
 (M.n=0/\∃ a cap,v=.slice a 0 cap/\cap<=maxLen)\/∃ b off cap,∃ F T:Nat->Value,v=.slice (some ⟨b,off,none⟩) M.n cap/\(b<w.heap.size/\some b≠z)/\M.n<=cap/\cap<=maxLen/\∀ i,i<M.n ->
  w.cell? ⟨b,off+i*3,none⟩=some (F i)/\w.cell? ⟨b,off+i*3+1,none⟩=some (T i)/\w.cell? ⟨b,off+i*3+2,none⟩=some (.string (M.e i).w)/\Si z w (F i) (M.e i).nf (M.e i).f/\Si z w (T i) (M.e i).nt (M.e i).t
theorem EdS.kept {z:Option Nat} {w k:World} {v:Value} {M:EM} (h:EdS z w v M) (c:w.grownBy k z):EdS z k v M:=by
 rcases h with h|⟨b,j,g,F,T,o,d,m,p,l⟩
 ·exact .inl h
 refine .inr ⟨b,j,g,F,T,o,⟨Nat.lt_of_lt_of_le d.1 c.size,d.2⟩,m,p,fun i hi=>?_⟩;obtain⟨c1,c2,c3,c4,c5⟩:=l i hi;exact⟨c.cell c1 d.2,c.cell c2 d.2,c.cell c3 d.2,c4.kept c,c5.kept c⟩
structure ESz (M:EM):Prop where
 n:(M.n:Int)<=9223372036854775807
 f:∀ i,((M.e i).nf:Int)<=4611686018427387903
 t:∀ i,((M.e i).nt:Int)<=4611686018427387903
 w:∀ i,((M.e i).w.size:Int)<=9223372036854775807
 m0:-9223372036854775808<=M.most
 m1:M.most<=9223372036854775807
def TstF (nf:FuncId) (cap:Array Value) (p:Int->Bool) (w:World):Prop :=
 (∀ args w,(callFunc nf args).run prog w=.ok (.enter nf args) w)/\∀ s:Int,Calls prog nf (#[.int .i64 s]++cap) w (fun r w'=>r=.returned (.bool (p s))/\w'=w)
def anyI (n:Nat) (x:Nat->Int) (p:Int->Bool):Bool:=(List.range n).any fun i=>p (x i)
theorem y2q {n:Nat} {x:Nat->Int} {p:Int->Bool}:anyI n x p=true↔∃ i,i<n/\p (x i)=true:=by simp[anyI]
theorem v4i {n nf:Nat} {h:Array Value} {v:Value} {x:Nat->Int} {p:Int->Bool} (w:World) (C:Si none w v n x) (hn:(n:Int)<=9223372036854775807) (G:TstF nf h p w) :
  Calls prog 151 #[v,.func (.func nf) #[] h] w (fun r w'=>w'=w/\∃ k:Int,r=.returned (.int .i64 k)/\(decide (0<=k)=anyI n x p)):=by
 obtain⟨a,L,b,F,rfl,E,Y,H,hb,c⟩:=C.open;unfold maxLen at H;obtain⟨S,g⟩:=G;have R:=qh E;clear E;have Z:=qh hb;clear hb;have U:=qh c;clear c C;have J:=qh g;clear g
 go_enter func151,ntmps151
 go_wp2_with fail
 go_loop [8] (fun i=>∃ q:Nat,q<=n/\i=.int .i64 (q:Int)/\∀ j,j<q->p (x j)=false) (fun i=>n-(intOf i).toNat)
 case atStart=>exact⟨0,Nat.zero_le _,rfl,fun j P=>by omega⟩
 obtain⟨q,X,rfl,m⟩:=hrel;have l:=qh m;clear m;by_cases s:q<n
 ·have Q:(q:Int)<(n:Int):=by omega
  have D:(0:Int)<=(q:Int):=by omega
  obtain rfl:=R.out (by omega);have c0:=U.out q s;have d:=J.out (x q);have T:=qh d;clear d
  go_wp2_with fail
  refine T.out.mono ?_;rintro r W ⟨rfl,rfl⟩;cases u:p (x q)
  ·have z:=qh u;clear u;go_wp2
   go_round
   case rel=>exact⟨q+1,by omega,by go_num,fun j P=>by
    by_cases e:j=q
    ·subst e;exact z.out
    exact l.out j (by omega)⟩
   simp[intOf];omega
  have z:=qh u;clear u;go_wp2;go_ret;refine⟨rfl,_,rfl,?_⟩;have A:anyI n x p=true:=y2q.2 ⟨q,s,z.out⟩;rw[A];simp
 have o:q=n:=by omega
 have O:¬ ((q:Int)<(n:Int)):=by omega
 have K:=qh o;clear o;go_wp2;go_ret;refine⟨rfl,_,rfl,?_⟩;have A:anyI n x p=false:=by
  cases N:anyI n x p
  ·rfl
  obtain⟨i,I,B⟩:=y2q.1 N;rw[l.out i (by rw[K.out];exact I)] at B;cases B
 rw[A];rfl
theorem y1s {n nf:Nat} {c:Array Value} {v:Value} {x:Nat->Int} {p:Int->Bool} (w:World) (h:Si none w v n x) (hn:(n:Int)<=9223372036854775807) (d:TstF nf c p w) :
  Calls prog 119 #[v,.func (.func nf) #[] c] w (fun r w'=>r=.returned (.bool (anyI n x p))/\w'=w):=by
 have i:=qh (v4i w h hn d);clear h hn d
 go_enter func119,ntmps119
 go_wp2_with fail
 refine i.out.mono ?_;rintro r l ⟨rfl,k,rfl,g⟩;have j:=qh g;clear g;go_wp2;go_ret;exact⟨z0v j.out,rfl⟩
def offI (sig s:Int):Bool:=decide (s<1)||decide (sig<s)
def y5e (n:Nat) (x:Nat->Int) (sig:Int):Bool:=!anyI n x (offI sig)
theorem y3n {n:Nat} {x:Nat->Int} {c:Int}:y5e n x c=true↔v3a n x c:=by
 unfold y5e;rw[Bool.not_eq_true',Bool.eq_false_iff]
 constructor
 ·intro h i hi;cases d:offI c (x i)
  ·unfold offI at d;simp at d;omega
  exact absurd (y2q.2 ⟨i,hi,d⟩) h
 intro h j;obtain⟨i,d,g⟩:=y2q.1 j;have:=h i d;unfold offI at g;simp at g;omega
theorem y9z {n:Nat} {x:Nat->Int} {c:Int}:y5e n x c=false↔¬ v3a n x c:=by
 rw[<- y3n];simp
end
section
open Go.RowKit Go.Deep
theorem z8k {B vb:Nat} {D:MD} {sv star:Value} {e:Nat} {v:Nat->ByteArray} (w0 w:World) (hv:VM D) (hD:StS none w0 sv D) (d1:Below w0.heap.size w0 w) (ht:Tab w0)
  (hs:Scl w B D sv star e) (X:w.rowIs vb 9 D.n (fun j=>.string (v j))) (b5:w0.heap.size<=B) (b2:vb≠B) (a5:∀ j,smS (v j)) (b1:∀ i,smS (D.fin i)) :
  Calls prog 88 #[.pointer (some ⟨B,0,none⟩),.slice (some ⟨vb,0,none⟩) D.n D.n] w (fun r w'=>r=.returned (.tuple #[.string (finC D v e).1,.int .i64 ((finC D v e).2:Int)])/\Fr (fun q=>q=B) w w'):=by
 obtain⟨a,cp,b,U,A,C,BB,O,rfl,ha,hc,hm,hb,z⟩:=hD.open;unfold maxLen at hm;obtain⟨n,hn⟩:=exq (D.n);have e6:n<=3000:=by rw[hn];exact hv.n2
 have e4:1<=n:=by rw[hn];exact hv.n1
 rw[<- hn] at ha hc hb z X hs ⊢;have HN:=qh hn;clear hn;have HV:=qh hv;clear hv;have HA:=qh ha;clear ha;have HB:=qh hb;clear hb;have HR:=qh z;clear z hD;have a6:=qh ht;clear ht;have H:=qh d1;clear d1;have e1:=hs.c0;have HS:=qh hs;clear hs;have d7:=qh X;clear X;have a3:=qh a5;clear a5;have d9:=qh b1;clear b1;have d4:=qh b2;clear b2;have a8:=qh b5;clear b5;obtain rfl:=HA.out (by omega)
 go_enter func88,ntmps88
 go_wp2_with fail
 refine(z4q D.kind w).mono ?_;rintro r w1 ⟨rfl,Y⟩;have a9:Scl w1 B D (.slice (some ⟨b,U,none⟩) n cp) star e:=by unfold Scl;rw[Y.block B HS.out.lt];exact HS.out
 have b8:Fr (fun q=>q=B) w w1:=Fr.of_below Y;have c7:=qh a9;clear a9 Y HS;have a1:=qh b8;clear b8 e1
 go_wp2_with fail
 go_loopw [6,18] (fun s i wr=>∃ q:Nat,q<=n/\i=.int .i64 (q:Int)/\s=.string (endC D v q (z1d D.kind,e)).1/\Scl wr B D (.slice (some ⟨b,U,none⟩) n cp) star (endC D v q (z1d D.kind,e)).2/\Fr (fun q=>q=B) w wr) (fun _ i _=>n-(intOf i).toNat)
 case atStart=>exact⟨0,Nat.zero_le _,rfl,rfl,c7.out,a1.out⟩
 obtain⟨q,hq,rfl,rfl,b4,d0⟩:=hrel;clear c7 a1;have l:=qh b4;clear b4;have d:=qh d0;clear d0;by_cases b9:q<n
 ·have e8:(q:Int)<(n:Int):=by omega
  have e3:(0:Int)<=(q:Int):=by omega
  have cv:=d.out.cell (d7.out.cell b9) (p:=⟨vb,q,none⟩) d4.out;have a2:=qh (H.out.trans (d.out.below H.out.size (fun k hk=>by subst hk;exact a8.out)));have d2:=(HB.out (by omega)).1;obtain⟨k1,_,_,_,_,_,_⟩:=HR.out q b9;have c1:=(a2.out.cell (p:=⟨b,U+q*2,none⟩) d2).trans k1;have m3:=l.out.c3;clear k1;obtain⟨s0,g⟩:=exq (endC D v q (z1d D.kind,e));have c9:smS s0.1:=by rw[g];exact x9e a3.out q (show smS (z1d D.kind) from Nat.le_trans (z8g D.kind) (by omega))
  have b3:endC D v (q+1) (z1d D.kind,e)=if v q=⟨#[]⟩\/D.fin q=⟨#[]⟩ then s0 else z2b D.kind s0.1 (z0r D.kind (v q) (D.fin q) s0.2).1 (z0r D.kind (v q) (D.fin q) s0.2).2:=by
   rw[g];rfl
  rw[<- g] at l;rw[<- g];have e2:=qh c9;clear c9;have c:=qh b3;clear b3 g;obtain⟨F,G⟩:=exq (v q);obtain⟨E,I⟩:=exq (D.fin q);rw[<- G] at cv;rw[<- I] at c1;rw[<- G,<- I] at c;have K:smS F:=by rw[G];exact a3.out q
  have S:smS E:=by rw[I];exact d9.out q
  have Q:=qh K;clear K G;have b7:=qh S;clear S I;cases hE:(F.toList==[])
  ·cases hF:(E.toList==[])
   ·have h:¬ (F=⟨#[]⟩\/E=⟨#[]⟩):=fun e=>by
     rcases e with e|e
     ·rw[e] at hE;simp at hE
     rw[e] at hF;simp at hF
    rw[if_neg h] at c;clear h;obtain⟨tp,J⟩:=exq (z0r D.kind F E s0.2);obtain⟨zp,W⟩:=exq (z2b D.kind s0.1 tp.1 tp.2);rw[<- J,<- W] at c;have u:Tab wr:=a6.out.below a2.out nlr;have a7:=qh (y0u F E wr l.out Q.out b7.out u);rw[<- J] at a7;have P:smS tp.1:=by rw[J];exact z6j Q.out
    have d3:=qh P;clear P J u;have d6:=qh W;clear W
    go_wp2_with fail
    refine a7.out.mono ?_;rintro r w2 ⟨rfl,T,c8⟩;have m:=d.out.trans c8;have o:Tab w2:=a6.out.below (H.out.trans (m.below H.out.size (fun k hk=>by subst hk;exact a8.out))) nlr;have b0:=qh (z9z s0.1 tp.1 w2 T e2.out d3.out o);rw[<- d6.out] at b0;have d5:=qh m;clear m c8 T o cv c1 m3
    go_wp2_with fail
    refine b0.out.mono ?_;rintro r w3 ⟨rfl,L,a4⟩;have e0:=qh (d5.out.trans a4);clear a4;have Z:=qh L;clear L;go_wp2;go_roundw
    case rel=>exact⟨q+1,by omega,by go_num,by rw[c.out],by rw[c.out];exact Z.out,e0.out⟩
    simp[intOf];omega
   have h:(F=⟨#[]⟩\/E=⟨#[]⟩):=.inr (z6r hF);rw[if_pos h] at c;clear h;go_wp2;go_roundw
   case rel=>exact⟨q+1,by omega,by go_num,by rw[c.out],by rw[c.out];exact l.out,d.out⟩
   simp[intOf];omega
  have h:(F=⟨#[]⟩\/E=⟨#[]⟩):=.inl (z6r hE);rw[if_pos h] at c;clear h;go_wp2;go_roundw
  case rel=>exact⟨q+1,by omega,by go_num,by rw[c.out],by rw[c.out];exact l.out,d.out⟩
  simp[intOf];omega
 have b6:q=n:=by omega
 have e7:¬ ((q:Int)<(n:Int)):=by omega
 have d8:=qh b6;clear b6;obtain⟨s0,g⟩:=exq (endC D v q (z1d D.kind,e));have N:finC D v e=if s0.2≠0 then (⟨#[]⟩,s0.2) else (s0.1,0):=by unfold finC;rw[<- HN.out,<- d8.out,<- g]
 rw[<- g] at l;rw[<- g];have R:=qh N;clear N g;have m5:=l.out.c5;by_cases he:s0.2=0
 ·rw[he] at m5;have HE:=qh he;clear he;go_wp2;go_ret2;exact⟨by rw[R.out,if_neg (by rw[HE.out];simp)];rfl,d.out⟩
 have e5:¬ ((s0.2:Int)=0):=by omega
 have HE:=qh he;clear he
 go_wp2_with fail
 go_quiet (fail)
 go_wp2;go_ret2;exact⟨by rw[R.out,if_pos HE.out];rfl,⟨d.out.os,d.out.tape,d.out.output,d.out.size,d.out.block⟩⟩
theorem v2w:∀ args w,(callFunc 120 args).run prog w=.ok (.enter 120 args) w:=fun args w=>by kernel_rfl
theorem x8n (w:World) (s:Int):Calls prog 120 #[.int .i64 s] w (fun r w'=>r=.returned (.bool (offI 500 s))/\w'=w):=by
 by_cases d:s<1
 ·go_enter func120,ntmps120
  go_wp2;go_ret;exact⟨z0v (by simp[offI,d]),rfl⟩
 have c:decide (s<1)=false:=by simp;omega
 go_enter func120,ntmps120
 go_wp2;go_ret;exact⟨z0v (by simp[offI,c]),rfl⟩
def isWord (n:Nat) (x:Nat->Int):Bool:=decide (n<=200)&&y5e n x 500
theorem y2h {n:Nat} {v:Value} {x:Nat->Int} (w:World) (d:Si none w v n x) (hn:(n:Int)<=9223372036854775807) :
  Calls prog 77 #[v] w (fun r w'=>r=.returned (.bool (isWord n x))/\w'=w):=by
 have c:=y1s w d hn (show TstF 120 #[] (offI 500) w from ⟨v2w,fun s=>x8n w s⟩);obtain⟨a,g,rfl⟩:=d.shape;have i:=qh c;clear c d;by_cases h:(n:Int)<=200
 ·go_enter func77,ntmps77
  go_wp2_with fail
  refine i.out.mono ?_;rintro r j ⟨rfl,rfl⟩;go_wp2;go_ret;exact⟨z0v (by unfold isWord y5e;rw[show decide (n<=200)=true by simp;omega];simp),rfl⟩
 have k:decide ((n:Int)<=200)=false:=by simp;omega
 go_enter func77,ntmps77
 go_wp2;go_ret;exact⟨z0v (by unfold isWord;rw[show decide (n<=200)=false by simp;omega];rfl),rfl⟩
theorem x3f:∀ args w,(callFunc 79 args).run prog w=.ok (.enter 79 args) w:=fun args w=>by kernel_rfl
def silB (i o:Int):Bool:=decide (i=0)&&decide (o=0)
theorem x6m (w:World) (i o:Int) (s:ByteArray) (t:Int):Calls prog 79 #[.agg #[.int .i64 i,.int .i64 o,.string s,.int .i64 t]] w (fun r w'=>r=.returned (.bool (silB i o))/\Below w.heap.size w w'):=by
 have c:=(Below.refl w.heap.size w).alloc nlr (.cells #[.int .i64 i,.int .i64 o,.string s,.int .i64 t] 59);have d:=qh c;clear c;by_cases g:i=0
 ·subst g
  go_enter func79,ntmps79
  go_wp2;go_ret;exact⟨z0v (by by_cases h:o=0<;>simp[silB,h]),d.out⟩
 go_enter func79,ntmps79
 go_wp2;go_ret;exact⟨z0v (by simp[silB,g]),d.out⟩
def BxI (w:World) (xb:Nat) (n:Nat) (x:Nat->Int):Prop:=∃ v,w.cell? ⟨xb,0,none⟩=some v/\Si none w v n x
theorem u0p:∀ args w,(callFunc 85 args).run prog w=.ok (.enter 85 args) w:=fun args w=>by kernel_rfl
theorem u0k:∀ args w,(callFunc 86 args).run prog w=.ok (.enter 86 args) w:=fun args w=>by kernel_rfl
theorem v9t:∀ args w,(callFunc 87 args).run prog w=.ok (.enter 87 args) w:=fun args w=>by kernel_rfl
def sel2 (y:Int) (i o:Int):Bool:=decide (i=0)&&decide (o=y)
def sel3 (x:Int) (i o:Int):Bool:=decide (i=x)&&decide (o=0)
def sel4 (x y:Int) (i o:Int):Bool:=decide (i=x)&&decide (o=y)
theorem u3x {K G n j:Nat} {y:Nat->Int} (w:World) (S:BxI w K n y) (I:w.cell? ⟨G,0,none⟩=some (.int .i64 (j:Int))) (A:j<n) (i o:Int) (s:ByteArray) (t:Int) :
  Calls prog 85 #[.agg #[.int .i64 i,.int .i64 o,.string s,.int .i64 t],.pointer (some ⟨K,0,none⟩),.pointer (some ⟨G,0,none⟩)] w (fun r w'=>r=.returned (.bool (sel2 (y j) i o))/\Below w.heap.size w w'):=by
 obtain⟨v,L,m⟩:=S;obtain⟨a,R,b,P,rfl,J,W,Q,hb,g⟩:=m.open;obtain rfl:=J (by omega);unfold maxLen at Q;have c0:=g j A;clear g m;have O:(j:Int)<(n:Int):=by omega
 have E:(0:Int)<=(j:Int):=by omega
 obtain⟨p,c⟩:=exq (w.alloc (.cells #[.int .i64 i,.int .i64 o,.string s,.int .i64 t] 59));obtain⟨z,d⟩:=exq (w.heap.size);have k:=(Below.refl w.heap.size w).alloc nlr (.cells #[.int .i64 i,.int .i64 o,.string s,.int .i64 t] 59);have u:w.grownBy p none:=by rw[c];exact World.grownBy_alloc _ _ _
 rw[<- c] at k;have a0:p.cell? ⟨z,0,none⟩=some (.int .i64 i):=by rw[c,d];exact z4p w _ _ 0 _ rfl
 have T:p.cell? ⟨z,1,none⟩=some (.int .i64 o):=by rw[c,d];exact z4p w _ _ 1 _ rfl
 have U:=u.cell L (by simp);have X:=u.cell I (by simp);have N:=u.cell c0 (by simp);have F:=qh k;clear k hb J L I c0 u;obtain⟨D,l⟩:=exq (y j);rw[<- l] at N;rw[<- l];clear l;by_cases H:i=0
 ·subst H
  go_enter func85,ntmps85
  go_wp2_with fail
  rw[<- c,<- d];have B:=qh c;clear c;have C:=qh d;clear d
  go_quiet (fail)
  go_wp2;go_ret;exact⟨z0v (by by_cases h:o=D<;>simp[sel2,h]),below_drewN F.out _⟩
 go_enter func85,ntmps85
 go_wp2_with fail
 rw[<- c,<- d];have B:=qh c;clear c;have C:=qh d;clear d
 go_quiet (fail)
 go_wp2;go_ret;exact⟨z0v (by simp[sel2,H]),below_drewN F.out _⟩
theorem u3t {xb E n j:Nat} {x:Nat->Int} (w:World) (R:BxI w xb n x) (I:w.cell? ⟨E,0,none⟩=some (.int .i64 (j:Int))) (A:j<n) (i o:Int) (s:ByteArray) (t:Int) :
  Calls prog 86 #[.agg #[.int .i64 i,.int .i64 o,.string s,.int .i64 t],.pointer (some ⟨xb,0,none⟩),.pointer (some ⟨E,0,none⟩)] w (fun r w'=>r=.returned (.bool (sel3 (x j) i o))/\Below w.heap.size w w'):=by
 obtain⟨v,K,m⟩:=R;obtain⟨a,Q,b,O,rfl,J,U,P,hb,g⟩:=m.open;obtain rfl:=J (by omega);unfold maxLen at P;have c0:=g j A;clear g m;have N:(j:Int)<(n:Int):=by omega
 have F:(0:Int)<=(j:Int):=by omega
 obtain⟨p,c⟩:=exq (w.alloc (.cells #[.int .i64 i,.int .i64 o,.string s,.int .i64 t] 59));obtain⟨z,d⟩:=exq (w.heap.size);have k:=(Below.refl w.heap.size w).alloc nlr (.cells #[.int .i64 i,.int .i64 o,.string s,.int .i64 t] 59);have u:w.grownBy p none:=by rw[c];exact World.grownBy_alloc _ _ _
 rw[<- c] at k;have a0:p.cell? ⟨z,0,none⟩=some (.int .i64 i):=by rw[c,d];exact z4p w _ _ 0 _ rfl
 have S:p.cell? ⟨z,1,none⟩=some (.int .i64 o):=by rw[c,d];exact z4p w _ _ 1 _ rfl
 have T:=u.cell K (by simp);have W:=u.cell I (by simp);have L:=u.cell c0 (by simp);have G:=qh k;clear k hb J K I c0 u;obtain⟨D,l⟩:=exq (x j);rw[<- l] at L;rw[<- l];clear l;by_cases H:i=D
 ·subst H
  go_enter func86,ntmps86
  go_wp2_with fail
  rw[<- c,<- d];have B:=qh c;clear c;have C:=qh d;clear d
  go_quiet (fail)
  go_wp2;go_ret;exact⟨z0v (by by_cases h:o=0<;>simp[sel3,h]),below_drewN G.out _⟩
 go_enter func86,ntmps86
 go_wp2_with fail
 rw[<- c,<- d];have B:=qh c;clear c;have C:=qh d;clear d
 go_quiet (fail)
 go_wp2;go_ret;exact⟨z0v (by simp[sel3,H]),below_drewN G.out _⟩
theorem u4a {xb U m k yb jb n j:Nat} {x y:Nat->Int} (w:World) (hx:BxI w xb m x) (Y:w.cell? ⟨U,0,none⟩=some (.int .i64 (k:Int))) (I:k<m) (hy:BxI w yb n y) (hj:w.cell? ⟨jb,0,none⟩=some (.int .i64 (j:Int))) (J:j<n) (i o:Int) (s:ByteArray) (t:Int) :
  Calls prog 87 #[.agg #[.int .i64 i,.int .i64 o,.string s,.int .i64 t],.pointer (some ⟨xb,0,none⟩),.pointer (some ⟨U,0,none⟩),.pointer (some ⟨yb,0,none⟩),.pointer (some ⟨jb,0,none⟩)] w (fun r w'=>r=.returned (.bool (sel4 (x k) (y j) i o))/\Below w.heap.size w w'):=by
 obtain⟨v',C,u⟩:=hx;obtain⟨a',Z,b',S,rfl,F,a8,R,O,g⟩:=u.open;obtain rfl:=F (by omega);have G:=g k I;unfold maxLen at R;have a2:(k:Int)<(m:Int):=by omega
 have T:(0:Int)<=(k:Int):=by omega
 clear g u;obtain⟨v,hv,D⟩:=hy;obtain⟨a,a6,b,a5,rfl,ha,hc,hm,hb,l⟩:=D.open;obtain rfl:=ha (by omega);unfold maxLen at hm;have c0:=l j J;clear l D;have a3:(j:Int)<(n:Int):=by omega
 have W:(0:Int)<=(j:Int):=by omega
 obtain⟨E,c⟩:=exq (w.alloc (.cells #[.int .i64 i,.int .i64 o,.string s,.int .i64 t] 59));obtain⟨H,d⟩:=exq (w.heap.size);have p:=(Below.refl w.heap.size w).alloc nlr (.cells #[.int .i64 i,.int .i64 o,.string s,.int .i64 t] 59);have z:w.grownBy E none:=by rw[c];exact World.grownBy_alloc _ _ _
 rw[<- c] at p;have a0:E.cell? ⟨H,0,none⟩=some (.int .i64 i):=by rw[c,d];exact z4p w _ _ 0 _ rfl
 have a1:E.cell? ⟨H,1,none⟩=some (.int .i64 o):=by rw[c,d];exact z4p w _ _ 1 _ rfl
 have d0:=z.cell hv (by simp);have d1:=z.cell hj (by simp);have d2:=z.cell c0 (by simp);have a4:=z.cell C (by simp);have a7:=z.cell Y (by simp);have Q:=z.cell G (by simp);have X:=qh p;clear p hb ha hv hj c0 z O F C Y G;obtain⟨N,B⟩:=exq (x k);rw[<- B] at Q;rw[<- B];clear B;obtain⟨P,A⟩:=exq (y j);rw[<- A] at d2;rw[<- A];clear A;by_cases h1:i=N
 ·subst h1
  go_enter func87,ntmps87
  go_wp2_with fail
  rw[<- c,<- d];have K:=qh c;clear c;have L:=qh d;clear d
  go_quiet (fail)
  go_wp2;go_ret;exact⟨z0v (by by_cases h:o=P<;>simp[sel4,h]),below_drewN X.out _⟩
 go_enter func87,ntmps87
 go_wp2_with fail
 rw[<- c,<- d];have K:=qh c;clear c;have L:=qh d;clear d
 go_quiet (fail)
 go_wp2;go_ret;exact⟨z0v (by simp[sel4,h1]),below_drewN X.out _⟩
end
section
open Go.RowKit Go.Deep
theorem y1a (t e:TypeId) (h:prog.underlying t=some (.slice e)) (w:World) (a:Option Addr) (n c:Nat):(binOp .eql t (.slice a n c) (.slice none 0 0)).run prog w=.ok (.bool a.isNone) w:=by
 simp only[binOp];simp[run_equal_slice_nil w t e a n c h]
theorem v0x (t e:TypeId) (h:prog.underlying t=some (.slice e)) (w:World) (a:Option Addr) (n c:Nat):(binOp .neq t (.slice a n c) (.slice none 0 0)).run prog w=.ok (.bool (!a.isNone)) w:=run_neq_slice_nil w t e a n c h
end
section
open Go.RowKit Go.Deep
abbrev VV:=Nat->ByteArray
abbrev RS:=(Bool->Nat->Option VV) × Nat
def updV (S:Bool->Nat->Option VV) (b:Bool) (j:Nat) (x:VV):Bool->Nat->Option VV:=fun b' j'=>if b'=b/\j'=j then some x else S b' j'
def z2z (D:MD) (b:Bool) (j:Nat) (sel:Int->Int->Bool) (v:VV) (s:RS):RS:=(updV s.1 b j (z2v D sel v D.n ((s.1 b j).getD z1c,s.2)).1,(z2v D sel v D.n ((s.1 b j).getD z1c,s.2)).2)
def cell1 (D:MD) (nb:Nat) (y:Nat->Int) (j:Nat) (v:VV) (s:RS):RS:=if j<nb then z2z D false (j+1) (sel2 (y j)) v s else s
def cell2 (D:MD) (na:Nat) (x:Nat->Int) (i j:Nat) (v:VV) (s:RS):RS:=if i<na then z2z D true j (sel3 (x i)) v s else s
def cell3 (D:MD) (na:Nat) (x:Nat->Int) (nb:Nat) (y:Nat->Int) (i j:Nat) (v:VV) (s:RS):RS:=if i<na/\j<nb then z2z D true (j+1) (sel4 (x i) (y j)) v s else s
def twoR (row next:Nat->Option VV):Bool->Nat->Option VV:=fun b=>if b then next else row
def vrV (n:Nat):Option Nat->Value
 | none=>.slice none 0 0
 | some r=>.slice (some ⟨r,0,none⟩) n n
structure VR (w:World) (B:Nat) (g:Bool->Nat) (m n:Nat) (R:Bool->Nat->Option Nat) (S:Bool->Nat->Option VV):Prop where
 top:∀ b,w.rowIs (g b) 102 m (fun j=>vrV n (R b j))
 gne:g false≠g true
 low:∀ b,B<=g b
 non:∀ b j,j<m->(R b j=none↔S b j=none)
 row:∀ b j r x,j<m->R b j=some r->S b j=some x->w.rowIs r 9 n (fun q=>.string (x q))/\B<=r
 sep:∀ b j b' j' r,j<m->j' < m->R b j=some r->R b' j'=some r->b=b'/\j=j'
 sm:∀ b j x,S b j=some x->∀ q,smS (x q)
theorem y7m {w:World} {g i n l:Nat} {e e':TypeId} {F o:Nat->Value} (h:w.rowIs g e n F) (k:w.rowIs i e' l o) (j:e≠e'):g≠i:=by
 rintro rfl;obtain⟨c,m,_⟩:=h;obtain⟨p,d,_⟩:=k;rw[m] at d;simp at d;exact j d.2
namespace VR
variable {w w':World} {B:Nat} {g:Bool->Nat} {m n:Nat} {R:Bool->Nat->Option Nat} {S:Bool->Nat->Option VV}
theorem some_of (h:VR w B g m n R S) {b:Bool} {j:Nat} {x:VV} (d:j<m) (c:S b j=some x):∃ r,R b j=some r/\w.rowIs r 9 n (fun q=>.string (x q))/\B<=r:=by
 cases i:R b j with
 | none=>have:=(h.non b j d).1 i;rw[c] at this;cases this
 | some r=>exact⟨r,rfl,h.row b j r x d i c⟩
theorem topne (h:VR w B g m n R S) {b b':Bool} {j r:Nat} {x:VV} (d:j<m) (i:R b j=some r) (c:S b j=some x):g b'≠r:=y7m (h.top b') (h.row b j r x d i c).1 (by decide)
theorem kept {C:Nat->Prop} (h:VR w B g m n R S) (hf:Fr C w w') (l:∀ b,¬ C (g b)) (k:∀ b j r,j<m->R b j=some r->¬ C r):VR w' B g m n R S :=
 ⟨fun b=>hf.row (h.top b) (l b),h.gne,h.low,h.non,fun b j r x c d i=>⟨hf.row (h.row b j r x c d i).1 (k b j r c d),(h.row b j r x c d i).2⟩,h.sep,h.sm⟩
theorem fresh (h:VR w B g m n R S) {b:Bool} {j r:Nat} {x:VV} (N:B<=w.heap.size) (L:w.heap.size<=r) (hf:Fr (fun q=>q=g b) w w') (J:w'.rowIs r 9 n (fun q=>.string (x q))) (I:∀ q,smS (x q))
  (K:w'.rowIs (g b) 102 m (fun j'=>if j'=j then vrV n (some r) else vrV n (R b j'))):VR w' B g m n (fun b' j'=>if b'=b/\j'=j then some r else R b' j') (updV S b j x):=by
 have s:∀ b' j' l,j' < m->R b' j'=some l->l<w.heap.size:=fun b' j' l d c=>by
  cases p:S b' j' with
  | none=>have:=(h.non b' j' d).2 p;rw[c] at this;cases this
  | some x0=>exact(h.row b' j' l x0 d c p).1.lt
 refine⟨fun b'=>?_,h.gne,h.low,fun b' j' d=>?_,fun b' j' l G d c i=>?_,fun F H E D l z u c i=>?_,fun b' j' G c=>?_⟩
 ·by_cases e:b'=b
  ·subst e;refine K.congr (fun j' _=>?_);by_cases e:j'=j
   ·rw[if_pos e,if_pos ⟨rfl,e⟩]
   rw[if_neg e,if_neg (fun h=>e h.2)]
  refine(hf.row (h.top b') (fun k=>?_)).congr (fun j' _=>by rw[if_neg (fun h=>e h.1)]);have o:=h.gne;cases b'<;>cases b<;>first|exact e rfl|exact o k|exact o k.symm
 ·unfold updV;by_cases e:b'=b/\j'=j
  ·rw[if_pos e,if_pos e];simp
  rw[if_neg e,if_neg e];exact h.non b' j' d
 ·unfold updV at i;by_cases e:b'=b/\j'=j
  ·rw[if_pos e] at c i;cases c;cases i;exact⟨J,by omega⟩
  rw[if_neg e] at c i;have o:=h.row b' j' l G d c i;exact⟨hf.row o.1 (fun k=>y7m (h.top b) o.1 (by decide) k.symm),o.2⟩
 ·by_cases C:F=b/\H=j
  ·by_cases k:E=b/\D=j
   ·exact⟨C.1.trans k.1.symm,C.2.trans k.2.symm⟩
   rw[if_pos C] at c;rw[if_neg k] at i;cases c;have:=s E D r u i;omega
  rw[if_neg C] at c;by_cases k:E=b/\D=j
  ·rw[if_pos k] at i;cases i;have:=s F H r z c;omega
  rw[if_neg k] at i;exact h.sep F H E D l z u c i
 unfold updV at c;by_cases e:b'=b/\j'=j
 ·rw[if_pos e] at c;cases c;exact I
 rw[if_neg e] at c;exact h.sm b' j' G c
end VR
def AtE (B:Nat) (g:Bool->Nat) (m n:Nat) (S:Bool->Nat->Option VV) (R:Bool->Nat->Option Nat) (b:Bool) (j:Nat) (w:World) (r:Ending) (w':World):Prop :=
 ∃ R' r0,r=.returned (.slice (some ⟨r0,0,none⟩) n n)/\R' b j=some r0/\(∀ b' j',¬ (b'=b/\j'=j)->R' b' j'=R b' j')/\VR w' B g m n R' (updV S b j ((S b j).getD z1c))/\Fr (fun q=>q=g b) w w'
theorem z6s (q:Nat):smS (z1c q):=by show (⟨#[]⟩:ByteArray).size<=_;decide
theorem x4x {cb c8 B m j:Nat} {b:Bool} {g:Bool->Nat} {R:Bool->Nat->Option Nat} {S:Bool->Nat->Option VV} {D:MD} {a:Option Addr} {cap:Nat} {star:Value} {e:Nat} (w:World) (h:VR w B g m D.n R S) (N:Scl w cb D (.slice a D.n cap) star e)
  (h8:w.cell? ⟨c8,0,none⟩=some (.pointer (some ⟨cb,0,none⟩))) (K:j<m) (hB:B<=w.heap.size) (h1:1<=D.n) (hn:D.n<=3000) :
  Calls prog 81 #[.slice (some ⟨g b,0,none⟩) m m,.int .i64 (j:Int),.pointer (some ⟨c8,0,none⟩)] w (AtE B g m D.n S R b j w):=by
 have a2:(j:Int)<(m:Int):=by omega
 have Z:(0:Int)<=(j:Int):=by omega
 obtain⟨gb,i⟩:=exq (g b);have c0:=(h.top b).cell K;rw[<- i] at c0;cases E:R b j with
 | none =>
  have Q:=fun w=>y1a 102 9 underlying102 w none 0 0;rw[show (none:Option Addr).isNone=true from rfl] at Q;rw[E] at c0;have X:w.cell? ⟨gb,j,none⟩=some (.slice none 0 0):=c0;clear c0;have P:=qh (z7j w N h1 hn);have c:=qh h;clear h;have HS:=qh N;clear N;have I:=qh E;clear E;have d:=qh i;rw[<- i];clear i
  go_enter func81,ntmps81
  go_wp2_with fail
  refine P.out.mono ?_;rintro r H ⟨rfl,u,hf,hz⟩;obtain⟨o,A⟩:=exq (w.heap.size);rw[<- A] at u;rw[<- A];have l:H.rowIs gb 102 m (fun j=>vrV D.n (R b j)):=by rw[d.out];exact hf.row (c.out.top b) (fun e=>e)
  have f0:=l.frozen j;have Y:=l.cell K;have p:=l.set j (vrV D.n (some o));have J:o≠gb:=by have:=(c.out.top b).lt;rw[<- d.out] at this;omega
  have s:=u.setOther (a:=⟨gb,j,none⟩) J (vrV D.n (some o));have z:=c.out.low b;rw[<- d.out] at z;have C:Fr (fun q=>q=g b) w (H.setCell ⟨gb,j,none⟩ (vrV D.n (some o))):=(hf.mono (fun _ _ e=>e.elim)).set (.inl d.out) _;have k:(H.setCell ⟨gb,j,none⟩ (vrV D.n (some o))).rowIs (g b) 102 m (fun F=>if F=j then vrV D.n (some o) else vrV D.n (R b F)):=by rw[<- d.out];exact p
  have L:=c.out.fresh (j:=j) hB (show w.heap.size<=o by omega) C s z6s k;have T:=k.cell K;rw[if_pos rfl,<- d.out] at T;have a3:(H.setCell ⟨gb,j,none⟩ (.slice (some ⟨o,0,none⟩) D.n D.n)).cell? ⟨gb,j,none⟩=some (.slice (some ⟨o,0,none⟩) D.n D.n):=T;have G:=qh L;clear L;have O:=qh C;clear C;rw[I.out] at Y;have a1:H.cell? ⟨gb,j,none⟩=some (.slice none 0 0):=Y;clear l p s u hf hz A k T Y z J;go_wp2;go_ret;have W:(S b j).getD z1c=z1c:=by
   rw[(c.out.non b j K).1 I.out];rfl
  exact⟨_,o,rfl,if_pos ⟨rfl,rfl⟩,fun U F h=>if_neg h,by rw[W];exact G.out,O.out⟩
 | some r0 =>
  rw[E] at c0;have X:w.cell? ⟨gb,j,none⟩=some (.slice (some ⟨r0,0,none⟩) D.n D.n):=c0;clear c0;have Q:=fun w=>y1a 102 9 underlying102 w (some ⟨r0,0,none⟩) D.n D.n;rw[show (some (⟨r0,0,none⟩:Addr)).isNone=false from rfl] at Q;have c:=qh h;clear h;have I:=qh E;clear E;rw[<- i];have d:=qh i;clear i;clear N
  go_enter func81,ntmps81
  go_wp2;go_ret;refine⟨R,r0,rfl,I.out,fun U F _=>rfl,?_,Fr.refl _ _⟩;cases hx:S b j with
  | none=>have:=(c.out.non b j K).2 hx;rw[I.out] at this;cases this
  | some x =>
   have hu:updV S b j ((some x).getD z1c)=S:=by
    funext U F
    unfold updV;by_cases e:U=b/\F=j
    ·rw[if_pos e,e.1,e.2,hx];rfl
    rw[if_neg e]
   rw[hu];exact c.out
end
section
open Go.RowKit Go.Deep
theorem z0f {w:World} {g b n:Nat} {e t:TypeId} {f:Nat->Value} {cs:Array Value} {fr:Nat × Nat} (h:w.rowIs g e n f) (hb:w.heap[b]?=some (.cells cs t fr)) (i:t≠e):g≠b:=by
 rintro rfl;obtain⟨c,d,_⟩:=h;rw[d] at hb;simp at hb;exact i hb.2.1.symm
def Bx (w:World) (b:Nat) (t:TypeId) (v:Value):Prop:=w.heap[b]?=some (.cells #[v] t (0,0))
theorem Bx.cell {w:World} {b:Nat} {t:TypeId} {v:Value} (h:Bx w b t v):w.cell? ⟨b,0,none⟩=some v:=by unfold Bx at h;simp[World.cell?,h]
theorem Bx.lt {w:World} {b:Nat} {t:TypeId} {v:Value} (h:Bx w b t v):b<w.heap.size:=(Array.getElem?_eq_some_iff.1 h).1
theorem Bx.kept {w c:World} {b:Nat} {t:TypeId} {v:Value} {C:Nat->Prop} (h:Bx w b t v) (hf:Fr C w c) (d:¬ C b):Bx c b t v:=(hf.block b h.lt d).trans h
theorem Bx.ne {w:World} {b c:Nat} {t g:TypeId} {v v':Value} (h:Bx w b t v) (d:Bx w c g v') (i:t≠g):b≠c:=by
 rintro rfl;unfold Bx at h d;rw[h] at d;simp at d;exact i d.2
structure WE (w0 w:World) (cb c8 xb yb:Nat) (D:MD) (sv xv yv:Value) (e:Nat):Prop where
 hb:Below w0.heap.size w0 w
 sc:Scl w cb D sv (.slice none 0 0) e
 k8:Bx w c8 98 (.pointer (some ⟨cb,0,none⟩))
 kx:Bx w xb 25 xv
 ky:Bx w yb 25 yv
 lc:w0.heap.size<=cb
namespace WE
variable {w0 w w':World} {cb c8 xb yb:Nat} {D:MD} {sv xv yv:Value} {e:Nat}
theorem kept {C:Nat->Prop} (h:WE w0 w cb c8 xb yb D sv xv yv e) (hf:Fr C w w') (g:¬ C cb) (i:¬ C c8) (j:¬ C xb) (c:¬ C yb) (d:∀ q,C q->w0.heap.size<=q):WE w0 w' cb c8 xb yb D sv xv yv e :=
 ⟨h.hb.trans (hf.below h.hb.size d),h.sc.kept hf g,h.k8.kept hf i,h.kx.kept hf j,h.ky.kept hf c,h.lc⟩
end WE
structure PWt (w0:World) (cb xb yb ib jb:Nat) (xv yv:Value) (i j:Nat) (w:World):Prop where
 hb:Below w0.heap.size w0 w
 kx:Bx w xb 25 xv
 ky:Bx w yb 25 yv
 ki:Bx w ib 3 (.int .i64 (i:Int))
 kj:Bx w jb 3 (.int .i64 (j:Int))
 nx:xb≠cb
 ny:yb≠cb
 ni:ib≠cb
 nj:jb≠cb
theorem PWt.fr {l wa z:World} {g xb o p m d i j:Nat} {s u:Value} (h:PWt l g xb o p m s u i j wa) (hf:Fr (fun q=>q=g\/q=d) wa z) (F:l.heap.size<=g) (C:l.heap.size<=d) (E:xb≠d) (G:o≠d) (B:p≠d) (A:m≠d):PWt l g xb o p m s u i j z:=by
 have k:∀ q,q≠g->q≠d->¬ (q=g\/q=d):=fun q a b c=>c.elim a b;exact⟨h.hb.trans (hf.below h.hb.size (fun q D=>by rcases D with rfl|rfl;exact F;exact C)),h.kx.kept hf (k _ h.nx E),h.ky.kept hf (k _ h.ny G),h.ki.kept hf (k _ h.ni B),h.kj.kept hf (k _ h.nj A),h.nx,h.ny,h.ni,h.nj⟩
theorem x0n {d w:World} {xb n:Nat} {c:Value} {x:Nat->Int} (g:Si none d c n x) (hb:Below d.heap.size d w) (h:Bx w xb 25 c):BxI w xb n x:=⟨c,h.cell,g.kept (z0b hb none)⟩
theorem tst2 {m:World} {p xb l A k n i j:Nat} {o g:Value} {y:Nat->Int} (u:Si none m g n y) (z:j<n):TstA 85 #[.pointer (some ⟨l,0,none⟩),.pointer (some ⟨k,0,none⟩)] (sel2 (y j)) (PWt m p xb l A k o g i j) :=
 ⟨u0p,fun s d i0 o0 s0 t0=>by
  have h:=u3x s (x0n u d.hb d.ky) d.kj.cell z i0 o0 s0 t0;rw[show ∀ a b c:Value,(#[a]++#[b,c]:Array Value)=#[a,b,c] from fun _ _ _=>rfl];exact h⟩
theorem tst3 {l:World} {m xb z k p n i j:Nat} {g o:Value} {x:Nat->Int} (u:Si none l g n x) (hi:i<n):TstA 86 #[.pointer (some ⟨xb,0,none⟩),.pointer (some ⟨k,0,none⟩)] (sel3 (x i)) (PWt l m xb z k p g o i j) :=
 ⟨u0k,fun s d i0 o0 s0 t0=>by
  have h:=u3t s (x0n u d.hb d.kx) d.ki.cell hi i0 o0 s0 t0;rw[show ∀ a b c:Value,(#[a]++#[b,c]:Array Value)=#[a,b,c] from fun _ _ _=>rfl];exact h⟩
theorem tst4 {k:World} {z xb s u o n p i j:Nat} {l m:Value} {x y:Nat->Int} (B:Si none k l n x) (hi:i<n) (C:Si none k m p y) (D:j<p):TstA 87 #[.pointer (some ⟨xb,0,none⟩),.pointer (some ⟨u,0,none⟩),.pointer (some ⟨s,0,none⟩),.pointer (some ⟨o,0,none⟩)] (sel4 (x i) (y j)) (PWt k z xb s u o l m i j) :=
 ⟨v9t,fun A g i0 o0 s0 t0=>by
  have h:=u4a A (x0n B g.hb g.kx) g.ki.cell hi (x0n C g.hb g.ky) g.kj.cell D i0 o0 s0 t0;rw[show ∀ a b c d e:Value,(#[a]++#[b,c,d,e]:Array Value)=#[a,b,c,d,e] from fun _ _ _ _ _=>rfl];exact h⟩
theorem y7k {S:Bool->Nat->Option VV} {b b':Bool} {j c:Nat} {x:VV} (h:¬ (b'=b/\c=j)):updV S b j x b' c=S b' c:=if_neg h
theorem z6w (S:Bool->Nat->Option VV) (b:Bool) (j:Nat) (x:VV):updV S b j x b j=some x:=if_pos ⟨rfl,rfl⟩
theorem y0n {D:MD} {b b':Bool} {j c:Nat} {sel:Int->Int->Bool} {v:VV} {s:RS} (h:¬ (b'=b/\c=j)):(z2z D b j sel v s).1 b' c=s.1 b' c:=if_neg h
theorem z8e (S:Bool->Nat->Option VV) (b:Bool) (j:Nat) (x y:VV):updV (updV S b j x) b j y=updV S b j y:=by
 funext b' j';unfold updV;by_cases e:b'=b/\j'=j<;>simp[e]
namespace VR
variable {w w':World} {B:Nat} {g:Bool->Nat} {m n:Nat} {R:Bool->Nat->Option Nat} {S:Bool->Nat->Option VV}
theorem gne_of (h:VR w B g m n R S) {q:Nat} {cs:Array Value} {t:TypeId} {fr:Nat × Nat} (d:w.heap[q]?=some (.cells cs t fr)) (c:t≠102) (b:Bool):g b≠q:=z0f (h.top b) d c
theorem rne_of (h:VR w B g m n R S) {q:Nat} {cs:Array Value} {t:TypeId} {fr:Nat × Nat} (l:w.heap[q]?=some (.cells cs t fr)) (k:t≠9) {b:Bool} {j r:Nat} (d:j<m) (i:R b j=some r):r≠q:=by
 cases c:S b j with
 | none=>have:=(h.non b j d).2 c;rw[i] at this;cases this
 | some x0=>exact z0f (h.row b j r x0 d i c).1 l k
theorem step2 {b:Bool} {j r E:Nat} {x:VV} (h:VR w B g m n R S) (A:j<m) (o:R b j=some r) (hf:Fr (fun q=>q=E\/q=r) w w') (F:∀ b,g b≠E) (G:∀ b j r,j<m->R b j=some r->r≠E) (I:w'.rowIs r 9 n (fun q=>.string (x q))) (H:∀ q,smS (x q)):VR w' B g m n R (updV S b j x):=by
 have l:∃ s,S b j=some s:=by
  cases D:S b j with
  | none=>have:=(h.non b j A).2 D;rw[o] at this;cases this
  | some s=>exact⟨s,rfl⟩
 obtain⟨s,l⟩:=l;refine⟨fun c=>hf.row (h.top c) (fun e=>e.elim (F c) (h.topne A o l)),h.gne,h.low,fun c k d=>?_,fun c k z C d i p=>?_,h.sep,fun c k C i=>?_⟩
 ·unfold updV;by_cases e:c=b/\k=j
  ·obtain⟨rfl,rfl⟩:=e;rw[if_pos ⟨rfl,rfl⟩,o];simp
  rw[if_neg e];exact h.non c k d
 ·unfold updV at p;by_cases e:c=b/\k=j
  ·obtain⟨rfl,rfl⟩:=e;rw[if_pos ⟨rfl,rfl⟩] at p;cases p;rw[o] at i;cases i;exact⟨I,(h.row c k r s A o l).2⟩
  rw[if_neg e] at p;refine⟨hf.row (h.row c k z C d i p).1 (fun u=>?_),(h.row c k z C d i p).2⟩
  rcases u with u|u
  ·exact G c k z d i u
  subst u;exact e (h.sep c k b j z d A i o)
 unfold updV at i;by_cases e:c=b/\k=j
 ·rw[if_pos e] at i;cases i;exact H
 rw[if_neg e] at i;exact h.sm c k C i
end VR
structure VR1 (w:World) (B g m n:Nat) (R:Nat->Option Nat) (S:Nat->Option VV):Prop where
 top:w.rowIs g 102 m (fun j=>vrV n (R j))
 low:B<=g
 non:∀ j,j<m->(R j=none↔S j=none)
 row:∀ j r x,j<m->R j=some r->S j=some x->w.rowIs r 9 n (fun q=>.string (x q))/\B<=r
 sep:∀ j j' r,j<m->j' < m->R j=some r->R j'=some r->j=j'
 sm:∀ j x,S j=some x->∀ q,smS (x q)
theorem VR.one {w:World} {B:Nat} {g:Bool->Nat} {m n:Nat} {R:Bool->Nat->Option Nat} {S:Bool->Nat->Option VV} (h:VR w B g m n R S) (b:Bool):VR1 w B (g b) m n (R b) (S b) :=
 ⟨h.top b,h.low b,h.non b,h.row b,fun j k r d i l c=>(h.sep b j b k r d i l c).2,h.sm b⟩
theorem VR1.kept {w d:World} {B g m n:Nat} {R:Nat->Option Nat} {S:Nat->Option VV} (h:VR1 w B g m n R S) (hf:Fr (fun _=>False) w d):VR1 d B g m n R S :=
 ⟨hf.row h.top (fun e=>e),h.low,h.non,fun j r x c i k=>⟨hf.row (h.row j r x c i k).1 (fun e=>e),(h.row j r x c i k).2⟩,h.sep,h.sm⟩
theorem VR1.two {w o:World} {B g d m n:Nat} {R:Nat->Option Nat} {S:Nat->Option VV} (h:VR1 w B g m n R S) (hf:Fr (fun _=>False) w o) (C:w.heap.size<=d) (D:B<=w.heap.size) (z:o.rowIs d 102 m (fun _=>.slice none 0 0)) :
  VR o B (fun b=>if b then d else g) m n (fun b=>if b then fun _=>none else R) (twoR S (fun _=>none)):=by
 have p:=h.kept hf;have u:=h.top.lt;refine⟨fun b=>?_,?_,fun b=>?_,fun b j i=>?_,fun b j r x i c k=>?_,fun b j s A r i l c k=>?_,fun b j x c=>?_⟩
 ·cases b
  ·exact p.top
  exact z
 ·show g≠d;omega
 ·cases b
  ·exact h.low
  show B<=d;omega
 ·cases b
  ·exact h.non j i
  exact⟨fun _=>rfl,fun _=>rfl⟩
 ·cases b
  ·exact p.row j r x i c k
  cases c
 ·cases b<;>cases s
  ·exact⟨rfl,h.sep j A r i l c k⟩
  ·cases k
  ·cases c
  cases c
 cases b
 ·exact h.sm j x c
 cases c
end
end Go.Proofs.YteappjogmnogcaaGreatDoor
