/- Parts of a proof: C5 WgS WgT EdL EdM WgF WgO WgR WgV. -/
import Derived.Test.YteappjogmnogcaaGreatDoorW06
import Derived.Deep.RegionHeld2
import Derived.Deep.QuietTactic
import Derived.BigQuiet
import Derived.Laws.Cover3
namespace Go.Proofs.YteappjogmnogcaaGreatDoor
set_option maxRecDepth 100000
set_option linter.unusedSimpArgs false
set_option linter.unusedVariables false
set_option linter.unusedSectionVars false
set_option maxHeartbeats 16000000
open Go Tryz
section
open Go.RowKit Go.Deep
theorem tryL {α:Type}:(∀ (l:List α) (i:Nat) (a:α),l.toArray.setIfInBounds i a=(l.set i a).toArray)/\(∀ (a b:α) (l:List α),(a::l).set 0 b=b::l)/\(∀ (a b:α) (l:List α) (n:Nat),(a::l).set (n+1) b=a::l.set n b)/\(∀ (l:List α) (i:Nat) (h:i<l.toArray.size),l.toArray[i]=l[i]'(by simpa using h))/\(∀ (a:α) (l:List α) (i:Nat) (h:i+1<(a::l).length),(a::l)[i+1]=l[i]'(by simpa using h))/\(∀ (a:α) (l:List α) (h:0<(a::l).length),(a::l)[0]=a) :=
 ⟨fun _ _ _=>List.setIfInBounds_toArray ..,fun _ _ _=>rfl,fun _ _ _ _=>rfl,fun _ _ _=>rfl,fun _ _ _ _=>rfl,fun _ _ _=>rfl⟩
section
variable {P:Program} {ops:Array Oper} {Q:Exit->Act->World->Prop} {S:World->Prop} {s:Nat}
def z0c (P:Program) (ops:Array Oper) (Q:Exit->Act->World->Prop) (S:World->Prop) (s:Nat):Nat->Array Bool->Act->World->Prop
 | 0,listed,a,w=>Region.ready .any ops listed=[]/\Q .normal a w
 | fuel+1,listed,a,w=>(Region.ready .any ops listed=[]->Q .normal a w) /\
  ∀ i ∈ Region.ready .any ops listed,wpOp P ops Q i (fun a' w'=>(i=s\/S w')/\z0c P ops Q S s fuel (listed.setIfInBounds i true) a' w') a w
theorem z0c.any:∀ (fuel:Nat) (listed:Array Bool) (a:Act) (w:World),z0c P ops Q S s fuel listed a w->wpAny P .any ops Q fuel listed a w
 | 0,_,_,_,h=>h
 | fuel+1,_,_,_,h=>⟨h.1,fun i hi=>wpOp_mono (fun a' w' h'=>z0c.any fuel _ a' w' h'.2) (h.2 i hi)⟩
def waits (ops:Array Oper):Nat->Nat->Nat->Bool
 | 0,_,_=>false
 | f+1,s,i=>match ops[s]? with
  | some o=>o.after.any fun e=>Region.binds .any e&&(e.on==i||waits ops f e.on i)
  | none=>false
def Closed (ops:Array Oper) (listed:Array Bool):Prop:=∀ j o,listed.getD j false=true->ops[j]?=some o->∀ e ∈ o.after,Region.binds .any e=true->listed.getD e.on false=true
def y3m (ops:Array Oper) (listed:Array Bool):Bool:=(List.range ops.size).all fun j=>!listed.getD j false||match ops[j]? with
 | some o=>o.after.all fun e=>!Region.binds .any e||listed.getD e.on false
 | none=>true
theorem x0a {c:Array Bool} (h:y3m ops c=true):Closed ops c:=fun j o l g e k hb=>by
 have d:=List.all_eq_true.1 h j (List.mem_range.2 (Array.getElem?_eq_some_iff.1 g).1);rw[l,g] at d;simp only[Bool.not_true,Bool.false_or] at d;have i:=Array.all_eq_true_iff_forall_mem.1 d e k;rw[hb] at i;simpa using i
theorem Closed.set {c:Array Bool} {j:Nat} (h:Closed ops c) (s:j ∈ Region.ready .any ops c):Closed ops (c.setIfInBounds j true):=fun k o l p e m hb=>by
 by_cases g:j=k
 ·subst g;obtain⟨_,u,i,d⟩:=mem_ready.1 s;rw[p] at i;cases i;exact getD_set_true (d e m hb)
 rw[getD_set_ne false g] at l;exact getD_set_true (h k o l p e m hb)
theorem y2i {c:Array Bool} (z:Closed ops c) {i:Nat}:∀ (f s:Nat),waits ops f s i=true->(∀ o,ops[s]?=some o->∀ e ∈ o.after,Region.binds .any e=true->c.getD e.on false=true)->c.getD i false=true:=by
 intro f
 induction f with
 | zero=>intro s h;simp[waits] at h
 | succ f ih =>
  intro s h u;unfold waits at h;cases d:ops[s]? with
  | none=>rw[d] at h;simp at h
  | some o =>
   rw[d] at h;obtain⟨e,B,hb⟩:=Array.any_eq_true'.1 h;simp only[Bool.and_eq_true,Bool.or_eq_true,beq_iff_eq] at hb;have m:=u o d e B hb.1
   rcases hb.2 with k|k
   ·rw[<- k];exact m
   exact ih e.on k (fun A l p j g=>z e.on A m l p j g)
theorem z0c.first {i:Nat} {D:Oper} {v:Value} (hi:ops[i]?=some D) (hw:waits ops ops.size s i=true) (A:∀ (j:Nat) (o:Oper) cs b,ops[j]?=some o->o.op≠.select cs b)
  (hQ:∀ c a w,Q (.panic c) (a.put D.dst v) w->Q (.panic c) a w) :
  ∀ (l:Nat) (d:Array Bool) (a:Act) (w:World),
   (∀ j oj,ops[j]?=some oj->j≠i->d.getD j true=false->(∀ e ∈ oj.after,Region.binds .any e=true->e.on≠i)->D.apart ops oj=true) ->
   i ∈ Region.ready .any ops d->Closed ops d->YieldsIf P ops S D v a->S w ->
   z0c P ops Q S s l (d.setIfInBounds i true) (a.put D.dst v) w->z0c P ops Q S s (l+1) d a w:=by
 intro l
 induction l with
 | zero =>
  intro d a w _ E F R J H;refine⟨fun h=>(by rw[h] at E;cases E),fun j I=>?_⟩;by_cases g:j=i
  ·subst g;exact R.wpOp hi J ⟨.inr J,H⟩
  have:=ready_mono I g;rw[H.1] at this;cases this
 | succ l ih =>
  intro d a w m E F R J H;refine⟨fun h=>(by rw[h] at E;cases E),fun j I=>?_⟩;by_cases g:j=i
  ·subst g;exact R.wpOp hi J ⟨.inr J,H⟩
  have T:=H.2 j (ready_mono I g);obtain⟨C,oj,u,B⟩:=mem_ready.1 I;have p:d.getD i false=false:=by
   have h0:=(mem_ready.1 E).1
   rcases Nat.lt_or_ge i d.size with U|U
   ·simp[U] at h0 ⊢;exact h0
   simp[Array.getElem?_eq_none U]
  have G:∀ e ∈ oj.after,Region.binds .any e=true->e.on≠i:=fun e W hb a1=>by
   have T:=B e W hb;rw[a1,p] at T;cases T
  have Y:j≠s:=fun e=>by
   subst e;have:=y2i F _ _ hw (fun o' O e W hb=>by rw[u] at O;cases O;exact B e W hb);rw[p] at this;cases this
  have h2:=wpOp_putIf u (m j oj u g C G) (fun cs b=>A i D cs b hi) (fun cs b=>A j oj cs b u) hQ R T;have z:∀ k ok,ops[k]?=some ok->k≠i->(d.setIfInBounds j true).getD k true=false ->
    (∀ e ∈ ok.after,Region.binds .any e=true->e.on≠i)->D.apart ops ok=true:=fun k ok hk Z L a2=>by
   refine m k ok hk Z ?_ a2;by_cases N:j=k
   ·subst N;exact C
   rw[getD_set_ne true N] at L;exact L
  refine wpOp_mono (fun a' w' X=>?_) h2;have K:S w':=X.2.1.resolve_left Y;refine⟨.inr K,ih (d.setIfInBounds j true) a' w' z (ready_mono E (Ne.symm g)) (F.set I) X.1 K ?_⟩;rw[Array.setIfInBounds_comm _ _ g];exact X.2.2
theorem z0c.take {i:Nat} {j:Oper} {v:Value} {g:Nat} {d:Array Bool} {a:Act} {w:World} (hi:ops[i]?=some j) (l:waits ops ops.size s i=true) (k:y3m ops d=true)
  (u:Region.noSelect ops=true) (hf:Region.free .any ops d i=true) (p:(Region.ready .any ops d).contains i=true)
  (hQ:∀ c a w,Q (.panic c) (a.put j.dst v) w->Q (.panic c) a w) (o:S w) (m:YieldsIf P ops S j v a)
  (h:z0c P ops Q S s g (d.setIfInBounds i true) (a.put j.dst v) w):z0c P ops Q S s (g+1) d a w :=
 z0c.first hi l (Region.noSelect_spec u) hQ g d a w (Region.free_spec hi hf) (by simpa using p) (x0a k) m o h
def tkB (ops:Array Oper) (s i:Nat) (listed:Array Bool):Bool:=waits ops ops.size s i&&y3m ops listed&&Region.noSelect ops&&Region.free .any ops listed i&&(Region.ready .any ops listed).contains i
theorem z0c.tk {i:Nat} {j:Oper} {v:Value} {g:Nat} {d:Array Bool} {a:Act} {w:World} (hi:ops[i]?=some j) (hb:tkB ops s i d=true) (l:S w) (k:YieldsIf P ops S j v a)
  (h:z0c P ops Q S s g (d.setIfInBounds i true) (a.put j.dst v) w) (hQ:∀ c a w,Q (.panic c) (a.put j.dst v) w->Q (.panic c) a w:=by exact fun _ _ _ h=>h):z0c P ops Q S s (g+1) d a w:=by
 unfold tkB at hb;simp only[Bool.and_eq_true] at hb;exact z0c.take hi hb.1.1.1.1 hb.1.1.1.2 hb.1.1.2 hb.1.2 hb.2 hQ l k h
theorem z0c.one {i:Nat} {o:Oper} {d:Nat} {c:Array Bool} {a:Act} {w:World} (A:ops[i]?=some o) (l:Region.ready .any ops c=[i]) (g:Region.wanted o (yielded ops a.tmps)=true)
  (h:∀ K:Act->World->Prop,Shut (∀ a w,(i=s\/S w)->z0c P ops Q S s d (c.setIfInBounds i true) a w->K a w)->Oper.wp P o a w K Q):z0c P ops Q S s (d+1) c a w:=by
 refine⟨fun k=>(by rw[l] at k;cases k),fun j m=>?_⟩;rw[l] at m;obtain rfl:j=i:=by simpa using m
 exact wpOp_step A (fun K p=>by rw[if_pos g];exact h K (fun a w z u=>p a w ⟨z,u⟩))
theorem z0c.tm (i:Nat) {j:Oper} {v:Value} {g:Nat} {d:Array Bool} {a:Act} {w:World} (l:S w)
  (h:z0c P ops Q S s g (d.setIfInBounds i true) (a.put j.dst v) w) (hi:ops[i]?=some j:=by rfl) (hb:tkB ops s i d=true:=by kernel_rfl) (m:Region.wanted j (yielded ops a.tmps)=true:=by kernel_rfl)
  (k:∀ w,S w->(execOp a.eval j).run P w=.ok (.value v) w:=by (intro w h;go_simp;try with_reducible rfl)) (hQ:∀ c a w,Q (.panic c) (a.put j.dst v) w->Q (.panic c) a w:=by exact fun _ _ _ h=>h):z0c P ops Q S s (g+1) d a w:=z0c.tk hi hb l (.inl ⟨m,k⟩) h hQ
theorem z0c.on (i:Nat) {o:Oper} {d:Nat} {c:Array Bool} {a:Act} {w:World} (h:∀ K:Act->World->Prop,Shut (∀ a w,(i=s\/S w)->z0c P ops Q S s d (c.setIfInBounds i true) a w->K a w)->Oper.wp P o a w K Q)
  (j:ops[i]?=some o:=by rfl) (k:Region.ready .any ops c=[i]:=by kernel_rfl) (g:Region.wanted o (yielded ops a.tmps)=true:=by rfl):z0c P ops Q S s (d+1) c a w:=z0c.one j k g h
theorem z0c.done {listed:Array Bool} {a:Act} {w:World} (hr:Region.ready .any ops listed=[]) (h:Q .normal a w):∀ fuel,z0c P ops Q S s fuel listed a w
 | 0=>⟨hr,h⟩
 | _+1=>⟨fun _=>h,by rw[hr];simp⟩
theorem z0c.dn {c:Array Bool} {a:Act} {w:World} {d:Nat} (h:Q .normal a w) (g:Region.ready .any ops c=[]:=by kernel_rfl):z0c P ops Q S s d c a w:=z0c.done g h d
theorem z0e (S:World->Prop) (s:Nat) {c:Nat} {a:Act} {w:World} (d:P.follows .mixedOrders=true)
  (h:z0c P ops Q S s ops.size (Array.replicate ops.size false) a w.drew):(Code.region c ops true).wp P Q a w :=
 wp_region_any d (z0c.any _ _ _ _ h)
end
end
section
open Go.RowKit Go.Deep
theorem v3i:∀ args w,(callFunc 183 args).run prog w=.ok (.enter 183 args) w:=fun args w=>by kernel_rfl
def EachE {k:KK} (F:Prop) (B tb sb g n e:Nat) (R:Nat->Value) (M:Nat->Nat->RK k) (w:World) (r:Ending) (w':World):Prop :=
 ∃ e' Y,r=.returned (.tuple #[])/\Tb w' k.1 B tb sb g n e' R Y/\MatIs e' n Y (CSR.elims M n)/\Er F e'/\(e'=0->e=0)/\Gr B (some sb) w w'
theorem v1x {k:KK} {F:Prop} {N B O s g n e:Nat} {R:Nat->Value} {X:Nat->Nat->ByteArray} {M:Nat->Nat->RK k} {w:World} {a:Option Addr} {cap b j:Nat} {U:Nat->Value} (hn:n<=60)
  (ha:0<n->a=some ⟨b,j,none⟩) (hb:0<n->b<B/\b≠s) (c:∀ i,i<n->w.cell? ⟨b,j+i,none⟩=some (U i))
  (L:Tb w k.1 B O s g n e R X) (C:MatIs e n X M) (he:Er F e) (hF:F->∀ p,p<n->FitE n p (CSR.elims M p)) (ht:TabB N w) (hB:N<=s) :
  Calls prog 182 #[.slice a n cap,.func (.func 183) #[.pointer (some ⟨O,0,none⟩)] #[]] w (EachE F B O s g n e R M w):=by
 have a6:=v3i;have z:=qh L;clear L;have J:=qh C;clear C;have K:=qh he;clear he;have HF:=qh hF;clear hF;have d:=qh ht;clear ht;have HC:=qh c;clear c;have HA:=qh ha;clear ha;have HB:=qh hb;clear hb
 go_enter func182,ntmps182
 go_wp2_with fail
 go_loopw [8] (fun i wr=>∃ (q u:Nat) (Y:Nat->Nat->ByteArray),q<=n/\i=.int .i64 (q:Int)/\Tb wr k.1 B O s g n u R Y/\MatIs u n Y (CSR.elims M q)/\Er F u/\(u=0->e=0)/\TabB N wr/\Gr B (some s) w wr)
  (fun i _=>n-(intOf i).toNat)
 case atStart=>exact⟨0,e,X,Nat.zero_le _,rfl,z.out,J.out,K.out,fun h=>h,d.out,Gr.refl _ _ _⟩
 obtain⟨q,u,Y,hq,rfl,L,C,hE,hm,D,hG⟩:=hrel;clear z J K d;have z:=qh L;clear L;have J:=qh C;clear C;have K:=qh hE;clear hE;have HM:=qh hm;clear hm;have d:=qh D;clear D;have W:=qh hG;clear hG;by_cases m:q<n
 ·have a7:(q:Int)<(n:Int):=by omega
  have a4:(0:Int)<=(q:Int):=by omega
  obtain rfl:=HA.out (by omega);obtain⟨P,a3⟩:=HB.out (by omega);have c0:wr.cell? ⟨b,j+q,none⟩=some (U q):=(World.cell?_of_block (w:=w) (a:=⟨b,j+q,none⟩) (W.out.block b P (by simp;exact a3))).trans (HC.out q m)
  go_wp2_with fail
  refine(v4r (U q) hn m z.out J.out K.out (fun f=>HF.out f q m) d.out hB).mono ?_;rintro r w1 ⟨e1,Y1,rfl,H,E,G,I,o⟩;have l:TabB N w1:=d.out.gr o (by intro q hq;cases hq;exact hB) (by have:=z.out.sbB;omega);have Q:=qh H;clear H;have T:=qh E;clear E;have S:=qh G;clear G;have Z:=qh I;clear I;have a2:=qh o;clear o;have A:=qh l;clear l;clear c0;go_wp2;go_roundw
  case rel=>exact⟨q+1,e1,Y1,by omega,by go_num,Q.out,T.out,S.out,fun h=>HM.out (Z.out h),A.out,W.out.trans a2.out⟩
  simp[intOf];omega
 have a1:q=n:=by omega
 subst a1;have a5:¬ ((q:Int)<(q:Int)):=by omega
 go_wp2_with fail
 go_end0
 exact⟨u,Y,rfl,z.out,J.out,K.out,HM.out,W.out⟩
structure FitM {k:KK} (n:Nat) (M:Nat->Nat->RK k):Prop where
 steps:∀ p,p<n->FitE n p (CSR.elims M p)
 last:∀ i,i<n->fitV (CSR.elims M n i i+CSR.one).1
def PowE {k:KK} (F:Prop) (sb n e:Nat) (M:Nat->Nat->RK k) (w:World) (r:Ending) (w':World):Prop :=
 ∃ v e' Y,r=.returned v/\Mt (some sb) w' v n (fun _=>n) Y/\MatIs e' n Y (CSR.starM M n)/\Er F e'/\(e'=0->e=0)/\SumB w' sb k.1 e'/\w.grownBy w' (some sb)
def PW (w:World) (sb n:Nat):World:=(w.alloc (.cells (madeCells #[.slice none 0 0] n) 79)).alloc (.cells #[.pointer (some ⟨sb,0,none⟩),.slice (some ⟨w.heap.size,0,none⟩) n n] 184)
theorem u4h (w:World) (c n:Nat):(PW w c n).heap[w.heap.size+1]?=some (.cells #[.pointer (some ⟨c,0,none⟩),.slice (some ⟨w.heap.size,0,none⟩) n n] 184 (0,0)):=by
 have:=heap_alloc_new (w.alloc (.cells (madeCells #[.slice none 0 0] n) 79)) (.cells #[.pointer (some ⟨c,0,none⟩),.slice (some ⟨w.heap.size,0,none⟩) n n] 184);rw[show (w.alloc (.cells (madeCells #[.slice none 0 0] n) 79)).heap.size=w.heap.size+1 by simp] at this;exact this
theorem u5e (w:World) (c n:Nat) (X:Nat->Nat->ByteArray):OM (PW w c n) (fun b=>b=w.heap.size+1) w.heap.size 9 79 w.heap.size n (fun _=>.slice none 0 0) (fun l=>if l<0 then n else 0) X:=by
 have h:=(OM.made w (fun _=>False) (by simp) w.heap.size nlr 9 79 n X).fence (.cells #[.pointer (some ⟨c,0,none⟩),.slice (some ⟨w.heap.size,0,none⟩) n n] 184);rw[show (w.alloc (.cells (madeCells #[.slice none 0 0] n) 79)).heap.size=w.heap.size+1 by simp] at h;exact h.congrL fun _ _=>by simp
theorem v6n (w:World) (c n:Nat):Below w.heap.size w (PW w c n):=(blr.alloc nlr _).alloc (by simp) _
theorem y7w {w:World} {b c n:Nat} {X:Nat->ByteArray} (h:∀ j,j<n->w.cell? ⟨b,c+j,none⟩=some (.string (X j))):∀ j u,(strs n X)[j]?=some u->w.cell? ((⟨b,c,none⟩:Addr).add j)=some u:=by
 intro j u d;have i:j<n:=by
  rcases Nat.lt_or_ge j n with g|g
  ·exact g
  rw[List.getElem?_eq_none (by rw[z8t];exact g)] at d;cases d
 rw[z8k _ _ _ i] at d;cases d;rw[Addr.add_lit];exact h j i
theorem v5k {wr wa:World} {c:Nat} {o:Obj} {z:Option Nat} (h:wr.heap[c]?=some o) (i:wr.drew.grownBy wa z) (g:some c≠z) {p:Addr} (d:c≠p.block) (v:Value):(wa.setCell p v).heap[c]?=some o:=by
 rw[blk_setCell_other _ _ _ _ d,i.block c (Array.getElem?_eq_some_iff.1 h).1 g];exact h
def Diag {k:KK} (e n c:Nat) (Z:Nat->Nat->ByteArray) (N:Nat->Nat->RK k):Prop:=∀ l j,l<n->j<n->Is k e (Z l j) (if l=j/\l<c then N l j+CSR.one else N l j)
theorem Diag.start {k:KK} {e n:Nat} {Z:Nat->Nat->ByteArray} {N:Nat->Nat->RK k} (h:MatIs e n Z N):Diag e n 0 Z N:=fun l j c d=>by rw[if_neg (by omega)];exact h l j c d
theorem Diag.next {k:KK} {e e' n c:Nat} {Z:Nat->Nat->ByteArray} {N:Nat->Nat->RK k} {u:ByteArray} (h:Diag e n c Z N) (p:e'=0->e=0) (i:Is k e' u (N c c+CSR.one)):Diag e' n (c+1) (fun l j=>if l=c/\j=c then u else Z l j) N:=fun l j m o=>by
 by_cases g:l=c/\j=c
 ·obtain⟨rfl,rfl⟩:=g;rw[if_pos (by omega)];simpa using i
 have:=(h l j m o).mono p;simp only[if_neg g];by_cases d:l=j/\l<c
 ·rw[if_pos d] at this;rw[if_pos (by omega)];exact this
 rw[if_neg d] at this;rw[if_neg (by omega)];exact this
theorem Diag.done {k:KK} {e n:Nat} {Z:Nat->Nat->ByteArray} {M:Nat->Nat->RK k} (h:Diag e n n Z (CSR.elims M n)):MatIs e n Z (CSR.starM M n):=fun l j d g=>by
 have:=h l j d g;unfold CSR.starM CSR.eye;by_cases c:l=j
 ·rw[if_pos ⟨c,d⟩] at this;rw[if_pos c];exact this
 rw[if_neg (fun h=>c h.1)] at this;rw[if_neg c,CSR.a0];exact this
abbrev S4 (a b c d:Addr) (u v x y:Value) (wk:World):Prop:=wk.cell? a=some u/\wk.cell? b=some v/\wk.cell? c=some x/\wk.cell? d=some y
theorem x6u {k:KK} {F:Prop} {B0 m n e:Nat} {X:Nat->Nat->ByteArray} {M:Nat->Nat->RK k} {w:World} {v:Value} (hn:n<=60)
  (hA:Mt (some m) w v n (fun _=>n) X) (hX:MatIs e n X M) (hs:SumB w m k.1 e) (he:Er F e) (hF:F->FitM n M) (ht:TabB B0 w) (hB:B0<=m) :
  Calls prog 155 #[.pointer (some ⟨m,0,none⟩),v] w (PowE F m n e M w):=by
 obtain⟨a,m4,b,s,A,C,BB,O,rfl,ha,hc,hm,hb,a9⟩:=hA.open;unfold maxLen at hm;have b5:=hs.lt;have HS:=qh hs;clear hs;have HX:=qh hX;clear hX;have HE:=qh he;clear he;have HF:=qh hF;clear hF;have d8:=qh ht;clear ht;have HA:=qh ha;clear ha;have HB:=qh hb;clear hb;have HR:=qh a9;clear a9 hA;have j9:=run_make_row' (P:=prog) 75 79 (.slice none 0 0) 24 underlying75 y3s rfl .i64 .i64 n (by omega) (by omega)
 go_enter func155,ntmps155
 go_wp2_with fail
 change Code.wp _ _ _ _ (PW w m n);clear j9;have e5:=qh (u4h w m n);have d7:=qh (u5e w m n X);have g3:=qh (v6n w m n);generalize PW w m n=wp at *;obtain⟨B,J⟩:=exq (w.heap.size+1);obtain⟨g,D⟩:=exq (w.heap.size);rw[<- J,<- D];rw[<- D] at b5 J;have a2:=qh (show wp.heap[B]?=some (.cells #[.pointer (some ⟨m,0,none⟩),.slice (some ⟨g,0,none⟩) n n] 184 (0,0)) from by rw[J,D];exact e5.out);have a7:=qh (show OM wp (fun b=>b=B) g 9 79 g n (fun _=>.slice none 0 0) (fun l=>if l<0 then n else 0) X from by rw[J,D];exact d7.out)
 have a1:=qh (show Below g w wp from by rw[D];exact g3.out);have c7:=qh (show 0<n->b<g/\b≠m from fun h=>by rw[D];exact⟨(HB.out h).1,by have:=(HB.out h).2;simpa using this⟩);have d3:=qh (show ∀ i,i<n->w.cell? ⟨b,s+i,none⟩=some (.slice (A i) n (C i))/\n<=C i/\C i<=maxLen/\(0<n->A i=some ⟨BB i,O i,none⟩)/\(0<n->BB i<g)/\∀ j,j<n->w.cell? ⟨BB i,O i+j,none⟩=some (.string (X i j)) from fun i hi=>by
  obtain⟨k1,k2,k3,k4,k5,_,k7⟩:=HR.out i hi;exact⟨k1,k2,k3,k4,fun h=>by rw[D];exact(k5 h).1,k7⟩)
 have G:=qh D;clear D;have b9:=qh J;clear J;clear e5 d7 g3 HB HR
 go_loopw [16] (fun i wr=>∃ (q:Nat) (R2:Nat->Value),q<=n/\i=.int .i64 (q:Int)/\wr.heap[B]?=some (.cells #[.pointer (some ⟨m,0,none⟩),.slice (some ⟨g,0,none⟩) n n] 184 (0,0)) /\
  OM wr (fun b=>b=B) g 9 79 g n R2 (fun l=>if l<q then n else 0) X /\
  (∀ l,q<=l->R2 l=.slice none 0 0)/\Below g w wr) (fun i _=>n-(intOf i).toNat)
 case atStart=>exact⟨0,_,Nat.zero_le _,rfl,a2.out,a7.out,fun _ _=>rfl,a1.out⟩
 obtain⟨q,R2,hq,rfl,a3,e9,b0,g7⟩:=hrel;clear a2 a7 a1;have U:=qh a3;clear a3;have L:=qh e9;clear e9;have b2:=qh b0;clear b0;have E:=qh g7;clear g7;by_cases o:q<n
 ·have l4:(q:Int)<(n:Int):=by omega
  have l1:(0:Int)<=(q:Int):=by omega
  obtain rfl:=HA.out (by omega);obtain⟨f4,j1⟩:=c7.out (by omega);obtain⟨k1,k2,k3,k4,k5,k7⟩:=d3.out q o;have h3:=k4 (by omega);have b4:=k5 (by omega);rw[h3] at k1;have c0:=(E.out.cell (p:=⟨b,s+q,none⟩) f4).trans k1;have d5:=qh (fun j (hj:j<n)=>(E.out.cell (p:=⟨BB q,O q+j,none⟩) b4).trans (k7 j hj));have t1:wr.cell? ⟨B,1,none⟩=some (.slice (some ⟨g,0,none⟩) n n):=by have:=U.out;simp[World.cell?,this]
  have o0:=L.out.cell o;rw[b2.out q nlr] at o0;unfold maxLen at k3;have c8:=y1n wr none;have j2:=L.out.lt;have e6:g<=wr.heap.size:=by rw[G.out];exact E.out.size
  have l5:(C q:Int)<=9223372036854775807:=by omega
  clear k1 k4 k5 k7 h3;have l7:BB q<g:=b4;clear b4 f4 j1;obtain⟨i0,j8,i3,j7,i4⟩:=info_parts x5a;have j5:=qh (show ∀ j,j<n->wr.drew.cell? ⟨BB q,O q+j,none⟩=some (.string (X q j)) from d5.out);clear d5
  go_wp2_with fail
  have d:S4 ⟨B,1,none⟩ ⟨g,q,none⟩ ⟨b,s+q,none⟩ ⟨b,s+q,none⟩ (.slice (some ⟨g,0,none⟩) n n) (.slice none 0 0) (.slice (some ⟨BB q,O q,none⟩) n (C q)) (.slice (some ⟨BB q,O q,none⟩) n (C q)) wr.drew:=⟨t1,o0,c0,c0⟩;refine z0e (S4 ⟨B,1,none⟩ ⟨g,q,none⟩ ⟨b,s+q,none⟩ ⟨b,s+q,none⟩ (.slice (some ⟨g,0,none⟩) n n) (.slice none 0 0) (.slice (some ⟨BB q,O q,none⟩) n (C q)) (.slice (some ⟨BB q,O q,none⟩) n (C q))) 18 (by kernel_rfl) ?_;refine z0c.tm 0 d ?_;refine z0c.tm 1 d ?_;refine z0c.tm 2 d ?_;refine z0c.tm 3 d ?_;refine z0c.tm 4 d ?_;refine z0c.tm 5 d ?_;refine z0c.tm 6 d ?_;refine z0c.tm 7 d ?_;refine z0c.tm 8 d ?_;refine z0c.tm 9 d ?_;refine z0c.tm 10 d ?_;refine z0c.tm 11 d ?_;refine z0c.tm 12 d ?_;refine z0c.tm 13 d ?_;refine z0c.tm 14 d ?_;refine z0c.tm 15 d ?_
  try simp only[Act.put,tryL]
  refine z0c.on 16 fun K H=>?_;refine wp_append_lies _ (.tmp 30) (.tmp 34) 79 rfl g 9 i0 (.string ⟨#[]⟩) 1 16 underlying79 j8 i3 j7 i4 rfl (by omega) (.slice none 0 0) 0 [] (by simp[Act.eval]) (World.ownsRow_nil _ _ _ _) ⟨BB q,O q,none⟩ n (C q) (strs n (X q)) (by simp[Act.eval]) (by rw[z8t,Nat.mul_one])
     (y7w j5.out) (x0d _ _) (by omega) (by unfold maxLen;omega) (by omega) e6 wr.heap.size rfl ?_
  intro go l3 wa d4 u i6 l0;have S:=z2y c8 u;have m3:=(S.frozen_far ⟨g,q,none⟩ j2 (by simp)).trans (L.out.frozen q);have i7:=S.cell o0 (by simp);have c9:S4 ⟨B,1,none⟩ ⟨g,q,none⟩ ⟨b,s+q,none⟩ ⟨b,s+q,none⟩ (.slice (some ⟨g,0,none⟩) n n) (.slice none 0 0) (.slice (some ⟨BB q,O q,none⟩) n (C q)) (.slice (some ⟨BB q,O q,none⟩) n (C q)) wa :=
   ⟨S.cell t1 (by simp),i7,S.cell c0 (by simp),S.cell c0 (by simp)⟩
  refine H.out _ _ (.inr c9) ?_;clear H K
  try simp only[Act.put,tryL]
  refine z0c.tm 17 c9 ?_
  try simp only[Act.put,tryL]
  refine z0c.on 18 fun K H=>?_;go_simp;refine H.out _ _ (.inl rfl) (z0c.dn ?_);clear H K;go_wp2;go_roundw
  case rel =>
   obtain⟨R3,h1,h2⟩:=y9h L.out o b2.out d4 u i6;exact⟨q+1,R3,by omega,by go_num,v5k U.out u (by simp[Value.ownBlock]) (by show B≠g;have:=b9.out;omega) _,h1,h2,((E.out.drew).grown u (by show g<=wr.heap.size;exact e6) (by simp[Value.ownBlock])).setCell nlr _⟩
  simp[intOf];omega
 have h7:q=n:=by omega
 subst h7;have d9:OM wr (fun b=>b=B) g 9 79 g q R2 (fun _=>q) X:=L.out.congrL fun l hl=>by rw[if_pos hl]
 have i2:¬ ((q:Int)<(q:Int)):=by omega
 have g9:Tb wr k.1 g (B) m g q e R2 X:=⟨U.out,HS.out.kept (G.out ▸ E.out),d9,b5,by have:=b9.out;omega⟩;have a5:TabB B0 wr:=d8.out.kept (z:=none) (z0b (G.out ▸ E.out) _) (by simp) (by have:=G.out;omega);have g4:Gr g (some m) w wr:=Gr.of (z0b (G.out ▸ E.out) _) (by rw[G.out];exact nlr);clear L b2 d9;have g8:=qh g9;clear g9 HS;have R:=qh a5;clear a5 d8;have h4:=qh g4;clear g4;have I:∀ i,i<q->wr.cell? ⟨b,s+i,none⟩=some (.slice (A i) q (C i)):=fun i hi=>(E.out.cell (p:=⟨b,s+i,none⟩) (c7.out (by omega)).1).trans (d3.out i hi).1;have j6:=qh I;clear I
 go_wp2_with fail
 refine(v1x hn HA.out c7.out j6.out g8.out HX.out HE.out (fun f=>(HF.out f).steps) R.out hB).mono ?_;rintro r w2 ⟨e2,Y,rfl,e0,f3,h5,f5,b3⟩;have a6:TabB B0 w2:=R.out.gr b3 (by intro q hq;cases hq;exact hB) (by omega);have b8:=qh e0;clear e0 g8;have f8:=qh (Diag.start f3);clear f3;have e8:=qh h5;clear h5;have j0:=qh f5;clear f5;have d6:=qh (h4.out.trans b3);clear b3 h4;have a4:=qh a6;clear a6 R;have t1:=b8.out.c1
 go_wp2_with fail
 clear t1
 go_loopw [47] (fun i wr=>∃ (c e3:Nat) (Z:Nat->Nat->ByteArray),c<=q/\i=.int .i64 (c:Int)/\Tb wr k.1 g B m g q e3 R2 Z/\Diag e3 q c Z (CSR.elims M q)/\Er F e3/\(e3=0->e2=0)/\TabB B0 wr/\Gr g (some m) w wr)
  (fun i _=>q-(intOf i).toNat)
 case atStart=>exact⟨0,e2,Y,Nat.zero_le _,rfl,b8.out,f8.out,e8.out,fun h=>h,a4.out,d6.out⟩
 obtain⟨c,e3,Z,m2,rfl,hT,hX,hE,hm,f7,hG⟩:=hrel;clear b8 f8 e8 a4 d6;have W:=qh hT;clear hT;have b6:=qh hX;clear hX;have d2:=qh hE;clear hE;have HM:=qh hm;clear hm;have a8:=qh f7;clear f7;have HG:=qh hG;clear hG;by_cases o:c<q
 ·have l6:(c:Int)<(q:Int):=by omega
  have k6:(0:Int)<=(c:Int):=by omega
  obtain⟨Q,cc,b7,f0,g6,k9,l2,l9,h9,e1,g0⟩:=W.out.om.form o (by omega);unfold maxLen at h9;have r0:=W.out.om.cell o;rw[b7] at r0;have r1:=g0 c o;have rf:=e1 c;have t1:=W.out.c1;have s0:=W.out.sum.c0;have h6:=qh b7;clear b7;clear e1 g0;have c8:=y1n wr (some m);have d:S4 ⟨B,1,none⟩ ⟨g,c,none⟩ ⟨Q,c,none⟩ ⟨m,0,none⟩ (.slice (some ⟨g,0,none⟩) q q) (.slice (some ⟨Q,0,none⟩) q cc) (.string (Z c c)) (.int .i64 k.1) wr.drew:=⟨t1,r0,r1,s0⟩;have j4:=b9.out;have g2:some B≠some m:=by simp;omega
  have e7:some g≠some m:=by simp;omega
  have b1:some Q≠some m:=by simp;omega
  clear j4
  go_wp2_with fail
  refine z0e (S4 ⟨B,1,none⟩ ⟨g,c,none⟩ ⟨Q,c,none⟩ ⟨m,0,none⟩ (.slice (some ⟨g,0,none⟩) q q) (.slice (some ⟨Q,0,none⟩) q cc) (.string (Z c c)) (.int .i64 k.1)) 26 (by kernel_rfl) ?_;refine z0c.tm 0 d ?_;refine z0c.tm 1 d ?_;refine z0c.tm 2 d ?_;refine z0c.tm 3 d ?_;refine z0c.tm 4 d ?_;refine z0c.tm 5 d ?_;refine z0c.tm 6 d ?_;refine z0c.tm 7 d ?_;refine z0c.tm 8 d ?_;refine z0c.tm 9 d ?_;refine z0c.tm 10 d ?_;refine z0c.tm 11 d ?_;refine z0c.tm 12 d ?_;refine z0c.tm 13 d ?_;refine z0c.tm 14 d ?_;refine z0c.tm 15 d ?_;refine z0c.tm 16 d ?_;refine z0c.tm 17 d ?_;refine z0c.tm 18 d ?_;refine z0c.tm 19 d ?_;refine z0c.tm 20 d ?_;refine z0c.tm 21 d ?_;refine z0c.tm 22 d ?_
  try simp only[Act.put,tryL]
  refine z0c.on 23 fun K H=>?_;go_simp;refine(z6s k.1 _).mono ?_;rintro r w3 ⟨rfl,d0⟩;have T:=z2y c8 (z0b d0 (some m));have g1:SumB w3 m k.1 e3:=W.out.sum.drew.kept d0;have k0:S4 ⟨B,1,none⟩ ⟨g,c,none⟩ ⟨Q,c,none⟩ ⟨m,0,none⟩ (.slice (some ⟨g,0,none⟩) q q) (.slice (some ⟨Q,0,none⟩) q cc) (.string (Z c c)) (.int .i64 k.1) w3:=⟨T.cell t1 g2,T.cell r0 e7,T.cell r1 b1,g1.c0⟩;refine H.out _ _ (.inr k0) ?_;clear H K
  try simp only[Act.put,tryL]
  refine z0c.on 24 fun K H=>?_;go_simp;have i5:Is k e3 (Z c c) (CSR.elims M q c c):=by have:=b6.out c c o o;rwa [if_neg (by omega)] at this
  refine(x4e i5 (Is.one k e3) d2.out (fun f=>(HF.out f).last c o) (a8.out.kept T (by intro q hq;cases hq;exact hB) (by have:=W.out.sum.lt;omega)).tab g1).mono ?_;rintro r w4 ⟨u4,e4,rfl,h8,j3,f1,f9,i9⟩;have N:=z2y T i9;have l8:=(N.frozen_far ⟨Q,c,none⟩ g6 b1).trans rf;have i8:=N.cell r1 b1;have f2:S4 ⟨B,1,none⟩ ⟨g,c,none⟩ ⟨Q,c,none⟩ ⟨m,0,none⟩ (.slice (some ⟨g,0,none⟩) q q) (.slice (some ⟨Q,0,none⟩) q cc) (.string (Z c c)) (.int .i64 k.1) w4:=⟨N.cell t1 g2,N.cell r0 e7,i8,f9.c0⟩;refine H.out _ _ (.inr f2) ?_;clear H K
  try simp only[Act.put,tryL]
  refine z0c.tm 25 f2 ?_
  try simp only[Act.put,tryL]
  refine z0c.on 26 fun K H=>?_;go_simp;refine H.out _ _ (.inl rfl) (z0c.dn ?_);clear H K;go_wp2;go_roundw
  case rel =>
   have g5:g<=wr.heap.size:=by rw[G.out];exact HG.out.size
   have h0:=((Gr.refl g (some m) wr).more N g5 (fun _ e=>.inl e)).set (p:=⟨Q,c,none⟩) (.inr f0) (.string u4);exact⟨c+1,e4,_,by omega,by go_num,(W.out.kept N f9).stored o o h6.out u4,b6.out.next f1 h8,j3,fun h=>HM.out (f1 h),
    a8.out.gr h0 (by intro q hq;cases hq;exact hB) (by omega),HG.out.trans h0⟩
  simp[intOf];omega
 have d1:c=q:=by omega
 subst d1;have i2:¬ ((c:Int)<(c:Int)):=by omega
 have t1:=W.out.c1;go_wp2;go_ret;exact⟨_,e3,Z,rfl,W.out.om.mt (by unfold maxLen;omega) (by intro q hq;cases hq;exact .inl b5),b6.out.done,d2.out,fun h=>j0.out (HM.out h),W.out.sum,Gr.gb (by have h:=HG.out;rw[G.out] at h;exact h)⟩
end
section
open Go.RowKit Go.Deep
def Scl (w:World) (cb:Nat) (D:MD) (sv star:Value) (e:Nat):Prop:=w.heap[cb]?=some (.cells #[.int .i64 D.kind,.int .i64 D.start,.string D.lead,sv,star,.int .i64 (e:Int)] 105 (0,0))
namespace Scl
variable {w w':World} {cb:Nat} {D:MD} {sv star:Value} {e:Nat}
theorem lt (h:Scl w cb D sv star e):cb<w.heap.size:=(Array.getElem?_eq_some_iff.1 h).1
theorem c0 (h:Scl w cb D sv star e):w.cell? ⟨cb,0,none⟩=some (.int .i64 D.kind):=by unfold Scl at h;simp[World.cell?,h]
theorem c1 (h:Scl w cb D sv star e):w.cell? ⟨cb,1,none⟩=some (.int .i64 D.start):=by unfold Scl at h;simp[World.cell?,h]
theorem c2 (h:Scl w cb D sv star e):w.cell? ⟨cb,2,none⟩=some (.string D.lead):=by unfold Scl at h;simp[World.cell?,h]
theorem c3 (h:Scl w cb D sv star e):w.cell? ⟨cb,3,none⟩=some sv:=by unfold Scl at h;simp[World.cell?,h]
theorem c4 (h:Scl w cb D sv star e):w.cell? ⟨cb,4,none⟩=some star:=by unfold Scl at h;simp[World.cell?,h]
theorem c5 (h:Scl w cb D sv star e):w.cell? ⟨cb,5,none⟩=some (.int .i64 (e:Int)):=by unfold Scl at h;simp[World.cell?,h]
theorem fz (h:Scl w cb D sv star e) (j:Nat):w.frozen? ⟨cb,j,none⟩=false:=by unfold Scl at h;simp[World.frozen?,h]
theorem setE (h:Scl w cb D sv star e) (e':Nat):Scl (w.setCell ⟨cb,5,none⟩ (.int .i64 (e':Int))) cb D sv star e':=by
 unfold Scl at h ⊢;simp[World.setCell,Array.getElem?_modify,h]
theorem kept {C:Nat->Prop} (h:Scl w cb D sv star e) (hf:Fr C w w') (c:¬ C cb):Scl w' cb D sv star e:=by unfold Scl;rw[hf.block cb h.lt c];exact h
end Scl
theorem z6q {a:ByteArray} (h:(a.toList==[])=true):a=⟨#[]⟩:=toList_eq (b:=⟨#[]⟩) (by rw[Lib.toList_data ⟨#[]⟩];exact h)
theorem y0c {i:Nat} {D:MD} {sv star:Value} {e:Nat} (a b:ByteArray) (w:World) (m:Scl w i D sv star e) (E:smS a) (hb:smS b) (z:Tab w) :
  Calls prog 123 #[.pointer (some ⟨i,0,none⟩),.string a,.string b] w (fun r w'=>r=.returned (.string (z2e D.kind a b e).1)/\Scl w' i D sv star (z2e D.kind a b e).2/\Fr (fun q=>q=i) w w'):=by
 have I:=m.c0;have H:=m.c5;have l:=qh m;clear m;cases o:(a.toList==[])
 ·have d:a≠⟨#[]⟩:=fun e=>by rw[e] at o;simp at o
  by_cases B:e=0
  ·subst B;have j:z2e D.kind a b 0=z1i D.kind a b:=by unfold z2e;rw[if_neg (by intro h;rcases h with h|h;exact d h;exact h rfl)]
   rw[j];have A:=y1z D.kind a b w E hb z;have F:=qh A;clear A z
   go_enter func123,ntmps123
   go_wp2_with fail
   refine F.out.mono ?_;rintro r u ⟨rfl,g⟩;have k:Fr (fun q=>q=i) w u:=Fr.of_below g;have c:Scl u i D sv star 0:=by unfold Scl;rw[g.block i l.out.lt];exact l.out
   have J:=c.fz 5;have C:=c.c5;have p:=qh c;clear c g;have s:=qh k;clear k;go_wp2;go_ret;exact⟨rfl,p.out.setE _,s.out.set (.inl rfl) _⟩
  have j:z2e D.kind a b e=(b,e):=by unfold z2e;rw[if_pos (.inr B)]
  have G:¬ (e:Int)=0:=by omega
  rw[j]
  go_enter func123,ntmps123
  go_wp2;go_ret;exact⟨rfl,l.out,Fr.refl _ _⟩
 have d:a=⟨#[]⟩:=z6q o;have j:z2e D.kind a b e=(b,e):=by unfold z2e;rw[if_pos (.inl d)]
 rw[j]
 go_enter func123,ntmps123
 go_wp2;go_ret;exact⟨rfl,l.out,Fr.refl _ _⟩
theorem y1r {g:Nat} {D:MD} {sv star:Value} {e:Nat} (a b:ByteArray) (w:World) (i:Scl w g D sv star e) (A:smS a) (hb:smS b) (p:Tab w) :
  Calls prog 125 #[.pointer (some ⟨g,0,none⟩),.string a,.string b] w (fun r w'=>r=.returned (.string (z0t D.kind a b e).1)/\Scl w' g D sv star (z0t D.kind a b e).2/\Fr (fun q=>q=g) w w'):=by
 have F:=i.c0;have E:=i.c5;have k:=qh i;clear i;by_cases u:e=0
 ·subst u;have j:z0t D.kind a b 0=z0n D.kind a b:=by unfold z0t;rw[if_neg (by simp)]
  rw[j];have s:=z6w D.kind a b w A hb p;have B:=qh s;clear s p
  go_enter func125,ntmps125
  go_wp2_with fail
  refine B.out.mono ?_;rintro r o ⟨rfl,d⟩;have h:Fr (fun q=>q=g) w o:=Fr.of_below d;have c:Scl o g D sv star 0:=by unfold Scl;rw[d.block g k.out.lt];exact k.out
  have G:=c.fz 5;have z:=c.c5;have l:=qh c;clear c d;have m:=qh h;clear h;go_wp2;go_ret;exact⟨rfl,l.out.setE _,m.out.set (.inl rfl) _⟩
 have j:z0t D.kind a b e=(a,e):=by unfold z0t;rw[if_pos u]
 have C:¬ (e:Int)=0:=by omega
 rw[j]
 go_enter func125,ntmps125
 go_wp2;go_ret;exact⟨rfl,k.out,Fr.refl _ _⟩
theorem y9s:(prog.info? 9).map (fun i=>(i.zero,i.size,i.bytes))=some (some (.string ⟨#[]⟩),1,16):=by kernel_rfl
theorem z9t {c:Nat} {D:MD} {a:Option Addr} {cap:Nat} {star:Value} {e:Nat} (w:World) (d:Scl w c D (.slice a D.n cap) star e) (i:1<=D.n) (hn:D.n<=3000) :
  Calls prog 82 #[.pointer (some ⟨c,0,none⟩)] w (fun r w'=>r=.returned (.slice (some ⟨w.heap.size,0,none⟩) D.n D.n)/\w'.rowIs w.heap.size 9 D.n (fun q=>.string (z1d q))/\Fr (fun _=>False) w w'/\w'.heap.size=w.heap.size+1):=by
 have h:=d.c3;have g:=run_make_row' (P:=prog) 102 9 (.string ⟨#[]⟩) 16 underlying102 y9s rfl .i64 .i64 D.n (by omega) (by omega)
 go_enter func82,ntmps82
 go_wp2;go_ret;exact⟨rfl,World.rowIs_made w (.string ⟨#[]⟩) D.n 9,Fr.alloc _ _,by simp⟩
end
section
open Go.RowKit Go.Deep
theorem x5n {l:Nat} {D:MD} {a:Option Addr} {cap:Nat} {star:Value} {e:Nat} (w:World) (I:Scl w l D (.slice a D.n cap) star e) (S:1<=D.n) (hn:D.n<=3000) (E:0<=D.start) (i:D.start<(D.n:Int)) :
  Calls prog 80 #[.pointer (some ⟨l,0,none⟩)] w (fun r w'=>r=.returned (.slice (some ⟨w.heap.size,0,none⟩) D.n D.n)/\w'.rowIs w.heap.size 9 D.n (fun q=>.string (z7y D q))/\Fr (fun _=>False) w w'):=by
 obtain⟨st,k⟩:∃ st:Nat,D.start=(st:Int):=⟨D.start.toNat,by omega⟩;have m:st<D.n:=by omega
 have P:(st:Int)<(D.n:Int):=by omega
 have A:(0:Int)<=(st:Int):=by omega
 have J:=qh (z9t w I S hn);have R:=qh I;clear I;have s:z7y D=fun q=>if q=st then D.lead else ⟨#[]⟩:=by funext q;unfold z7y;rw[k,Int.toNat_natCast]
 have G:=qh s;clear s;have C:=qh k;clear k E i
 go_enter func80,ntmps80
 go_wp2_with fail
 refine J.out.mono ?_;rintro r B ⟨rfl,d,hf,F⟩;have i:=R.out.kept hf (fun h=>h);obtain⟨g,z⟩:=exq (w.heap.size);rw[<- z] at d;rw[<- z];have H:w.heap.size<=g:=by omega
 have N:=i.c1;rw[C.out] at N;have T:=i.c2;have gl:=d.cell m;have U:=d.frozen st;have u:=qh d;clear d;have Q:=qh hf;clear hf i F;have O:=qh z;clear z
 go_wp2_with fail
 have c:B.cell? ⟨l,1,none⟩=some (.int .i64 (st:Int))/\B.cell? ⟨l,2,none⟩=some (.string D.lead):=⟨N,T⟩;refine z0e (fun o=>o.cell? ⟨l,1,none⟩=some (.int .i64 (st:Int))/\o.cell? ⟨l,2,none⟩=some (.string D.lead)) 12 (by kernel_rfl) ?_;refine z0c.tm 0 c ?_;refine z0c.tm 1 c ?_;refine z0c.tm 2 c ?_;refine z0c.tm 3 c ?_;refine z0c.tm 4 c ?_;refine z0c.tm 5 c ?_;refine z0c.tm 6 c ?_;refine z0c.tm 7 c ?_;refine z0c.tm 8 c ?_;refine z0c.tm 9 c ?_;refine z0c.tm 10 c ?_;refine z0c.tm 11 c ?_
 try simp only[Act.put,tryL]
 refine z0c.on 12 fun K L=>?_;go_simp;refine L.out _ _ (.inl rfl) (z0c.dn ?_);clear L K;go_wp2;go_ret;refine⟨Eq.trans (b:=Ending.returned (.slice (some ⟨g,0,none⟩) D.n D.n)) rfl (by rw[O.out]),?_,(Q.out.set (p:=⟨g,st,none⟩) (.inr H) _).drew⟩;rw[G.out,<- O.out];exact(show (B.setCell ⟨g,st,none⟩ (.string D.lead)).rowIs g 9 D.n _ from u.out.set st _).congr (fun j _=>by
  show _=Value.string (if j=st then D.lead else ⟨#[]⟩)
  by_cases e:j=st
  ·rw[if_pos e,if_pos e]
  rw[if_neg e,if_neg e];rfl)
def TstA (nf:FuncId) (cap:Array Value) (sel:Int->Int->Bool) (P:World->Prop):Prop :=
 (∀ args w,(callFunc nf args).run prog w=.ok (.enter nf args) w)/\∀ w,P w->∀ (i o:Int) (s:ByteArray) (t:Int),Calls prog nf (#[.agg #[.int .i64 i,.int .i64 o,.string s,.int .i64 t]]++cap) w (fun r w'=>r=.returned (.bool (sel i o))/\Below w.heap.size w w')
def StpE (cb lb:Nat) (D:MD) (sv star:Value) (s:WS) (w:World) (r:Ending) (w':World):Prop :=
 r=.returned (.tuple #[])/\w'.rowIs lb 9 D.n (fun j=>.string (s.1 j))/\Scl w' cb D sv star s.2/\Fr (fun q=>q=cb\/q=lb) w w'
theorem y2u {u o vb nf:Nat} {cap:Array Value} {D:MD} {sv star:Value} {e:Nat} {l v:Nat->ByteArray} {sel:Int->Int->Bool} {P:World->Prop} (w0 w:World) (hv:VM D) (hD:StS none w0 sv D) (h3:Below w0.heap.size w0 w) (ht:Tab w0)
  (hs:Scl w u D sv star e) (hl:w.rowIs o 9 D.n (fun j=>.string (l j))) (f5:w.rowIs vb 9 D.n (fun j=>.string (v j))) (i3:w0.heap.size<=u) (g5:w0.heap.size<=o) (h4:u≠o) (h6:vb≠o) (f8:vb≠u)
  (h7:∀ j,smS (l j)) (h0:∀ j,smS (v j)) (j1:∀ i k,smS (D.aw i k)) (hP:P w) (g1:∀ wa wb,P wa->Fr (fun q=>q=u\/q=o) wa wb->P wb) (i4:TstA nf cap sel P) :
  Calls prog 84 #[.pointer (some ⟨u,0,none⟩),.slice (some ⟨o,0,none⟩) D.n D.n,.slice (some ⟨vb,0,none⟩) D.n D.n,.func (.func nf) #[] cap] w (StpE u o D sv star (z3q D sel v D.n (l,e)) w):=by
 obtain⟨a,cp,b,a5,A,C,BB,O,rfl,ha,hc,hm,hb,b6⟩:=hD.open;unfold maxLen at hm;obtain⟨n7,j3⟩:=i4;obtain⟨n,hn⟩:=exq (D.n);have o3:n<=3000:=by rw[hn];exact hv.n2
 have n9:1<=n:=by rw[hn];exact hv.n1
 rw[<- hn] at ha hc hb b6 hl f5 hs ⊢;have HN:=qh hn;clear hn;have HV:=qh hv;clear hv;have HA:=qh ha;clear ha;have HB:=qh hb;clear hb;have HR:=qh b6;clear b6 hD;have HT:=qh j3;clear j3;have g4:=qh ht;clear ht;have HP:=qh hP;clear hP;have l5:=qh g1;clear g1;have H:=qh h3;clear h3;have HS:=qh hs;clear hs;have HL:=qh hl;clear hl;have l8:=qh f5;clear f5;have l1:=qh h7;clear h7;have c9:=qh h0;clear h0;have l7:=qh j1;clear j1;have a2:=qh h4;clear h4;have j6:=qh h6;clear h6;have l4:=qh f8;clear f8;have d3:=qh i3;clear i3;have d4:=qh g5;clear g5;obtain rfl:=HA.out (by omega)
 go_enter func84,ntmps84
 go_wp2_with fail
 go_loopw [14] (fun i wr=>∃ q:Nat,q<=n/\i=.int .i64 (q:Int)/\wr.rowIs o 9 n (fun j=>.string ((z3q D sel v q (l,e)).1 j))/\Scl wr u D (.slice (some ⟨b,a5,none⟩) n cp) star (z3q D sel v q (l,e)).2/\Fr (fun q=>q=u\/q=o) w wr) (fun i _=>n-(intOf i).toNat)
 case atStart=>exact⟨0,Nat.zero_le _,rfl,HL.out,HS.out,Fr.refl _ _⟩
 obtain⟨q,hq,rfl,f9,j2,h9⟩:=hrel;clear HL HS;have W:=qh f9;clear f9;have S:=qh j2;clear j2;have X:=qh h9;clear h9;by_cases i8:q<n
 ·have n5:(q:Int)<(n:Int):=by omega
  have m8:(0:Int)<=(q:Int):=by omega
  have cv:=X.out.cell (l8.out.cell i8) (p:=⟨vb,q,none⟩) (by
   rintro(h|h)
   ·exact l4.out h
   exact j6.out h)
  have h8:=qh (H.out.trans (X.out.below H.out.size (fun k hk=>by rcases hk with rfl|rfl;exact d3.out;exact d4.out)))
  have j5:=(HB.out (by omega)).1;obtain⟨k1,k2,k3,k4,k5,k6,k7⟩:=HR.out q i8;obtain⟨aq,j0⟩:=exq (A q);rw[<- j0] at k2 k5;clear j0;have c1:=(h8.out.cell (p:=⟨b,a5+q*2+1,none⟩) j5).trans k2;have m3:=S.out.c3;clear k1 k2;unfold maxLen at k4;have m5:D.na q<=30000:=by have h1:=Nat.le_trans (z1t D (show q+1<=D.n by have:=HN.out;omega)) HV.out.arcs;have h2:z0f D (q+1)=z0f D q+D.na q:=rfl;omega
  have l2:=qh k7;clear k7;have l6:=qh k5;clear k5;have l3:=qh k6;clear k6;obtain⟨vq,U⟩:=exq (v q);rw[<- U] at cv;cases hE:(vq.toList==[])
  ·have a4:v q≠⟨#[]⟩:=fun e=>by rw[U,e] at hE;simp at hE
   have a8:z3q D sel v (q+1) (l,e)=z4d D sel v q (D.na q) (z3q D sel v q (l,e)):=by
    show rowC D sel v q _=_;unfold rowC;rw[if_neg a4]
   have T:=qh a8;clear a8 a4;have f0:=qh U;clear U;obtain⟨s0,f2⟩:=exq (z3q D sel v q (l,e));have d8:∀ j,smS (s0.1 j):=by rw[f2];exact z7c c9.out q l1.out
   rw[<- f2] at W S T;have j9:=qh d8;clear d8 f2
   go_wp2_with fail
   clear cv c1 m3
   go_loopw [31] (fun i wr=>∃ d:Nat,d<=D.na q/\i=.int .i64 (d:Int)/\wr.rowIs o 9 n (fun j=>.string ((z4d D sel v q d s0).1 j))/\Scl wr u D (.slice (some ⟨b,a5,none⟩) n cp) star (z4d D sel v q d s0).2/\Fr (fun q=>q=u\/q=o) w wr) (fun i _=>D.na q-(intOf i).toNat)
   case atStart=>exact⟨0,Nat.zero_le _,rfl,W.out,S.out,X.out⟩
   obtain⟨d,hd,rfl,J,N,e0⟩:=hrel;clear W S X h8;have F:=qh J;clear J;have E:=qh N;clear N;have I:=qh e0;clear e0;by_cases i2:d<D.na q
   ·have n6:(d:Int)<(D.na q:Int):=by omega
    have m7:(0:Int)<=(d:Int):=by omega
    have L:=qh (H.out.trans (I.out.below H.out.size (fun k hk=>by rcases hk with rfl|rfl;exact d3.out;exact d4.out)))
    have d0:=(l3.out (by omega)).1;obtain⟨t0,t1,t2,t3⟩:=l2.out d i2;obtain rfl:=l6.out (by omega);have c0:=(L.out.cell (p:=⟨BB q,O q+d*4,none⟩) d0).trans t0;have c1:=(L.out.cell (p:=⟨BB q,O q+d*4+1,none⟩) d0).trans t1;have c2:=(L.out.cell (p:=⟨BB q,O q+d*4+2,none⟩) d0).trans t2;have c3:=(L.out.cell (p:=⟨BB q,O q+d*4+3,none⟩) d0).trans t3;clear t0 t1 t2 t3;have f1:=HV.out.arc q d (by have:=HN.out;omega) i2;obtain⟨g,e9⟩:∃ g:Nat,D.ato q d=(g:Int):=⟨(D.ato q d).toNat,by have:=f1.t0;omega⟩;have i7:g<n:=by have:=f1.t1;have:=HN.out;omega
    rw[e9] at c3;have j7:=qh e9;clear e9 f1;obtain⟨Q,c7⟩:=exq (wr.heap.size);obtain⟨wa,a1⟩:=exq (wr.alloc (.cells #[.int .i64 (D.ain q d),.int .i64 (D.aout q d),.string (D.aw q d),.int .i64 (g:Int)] 59));have e6:Fr (fun q=>q=u\/q=o) wr wa:=by rw[a1];exact Fr.alloc _ _
    have e4:wa.heap[Q]?=some (.cells #[.int .i64 (D.ain q d),.int .i64 (D.aout q d),.string (D.aw q d),.int .i64 (g:Int)] 59 (0,0)):=by rw[a1,c7];exact heap_alloc_new wr _
    have b2:=HT.out wa (l5.out _ _ HP.out (I.out.trans e6)) (D.ain q d) (D.aout q d) (D.aw q d) (g:Int);have n3:Q≠o:=by have:=F.out.lt;omega
    have b4:Q≠u:=by have:=E.out.lt;omega
    have HC:=qh b2;clear b2;have c8:=qh e6;clear e6;have b8:=qh e4;clear e4
    go_wp2_with fail
    rw[<- a1,<- c7];clear c0 c1 c2 c3;have o2:=qh c7;clear c7;have f4:=qh a1;clear a1;refine HC.out.mono ?_;rintro r w1 ⟨rfl,a9⟩;have g8:Fr (fun q=>q=u\/q=o) w w1:=(I.out.trans c8.out).trans (Fr.of_below a9);have a3:=(a9.block Q (lt_of_block b8.out)).trans b8.out;have e2:Scl w1 u D (.slice (some ⟨b,a5,none⟩) n cp) star (z4d D sel v q d s0).2:=by
     unfold Scl;rw[a9.block u (by have:=E.out.lt;have:=c8.out.size;omega),f4.out,blk_alloc_lt _ _ _ E.out.lt];exact E.out
    have e3:w1.rowIs o 9 n (fun j=>.string ((z4d D sel v q d s0).1 j)):=F.out.of_block ((a9.block o (by have:=F.out.lt;have:=c8.out.size;omega)).trans (by rw[f4.out,blk_alloc_lt _ _ _ F.out.lt]));have b0:=qh g8;clear g8 a9 c8 b8 HC E F I L f4;have m:=qh a3;clear a3;have G:=qh e2;clear e2;have B:=qh e3;clear e3;have e5:∀ j,smS ((z4d D sel v q d s0).1 j):=y8t (c9.out q) d j9.out;have d6:=qh e5;clear e5;cases d2:sel (D.ain q d) (D.aout q d)
    ·have b5:z4d D sel v q (d+1) s0=z4d D sel v q d s0:=by show arcC D sel v q d _=_;unfold arcC;rw[if_neg (by rw[d2];simp)]
     have a7:=qh b5;clear b5 d2;go_wp2;go_roundw
     case rel=>exact⟨d+1,by omega,by go_num,by rw[a7.out];exact B.out,by rw[a7.out];exact G.out,b0.out⟩
     simp[intOf];omega
    obtain⟨s1,f3⟩:=exq (z4d D sel v q d s0);obtain⟨tp,d1⟩:=exq (z0t D.kind vq (D.aw q d) s1.2);obtain⟨zp,e8⟩:=exq (z2e D.kind (s1.1 g) tp.1 tp.2);have b5:z4d D sel v q (d+1) s0=(updS s1.1 g zp.1,zp.2):=by
     show arcC D sel v q d _=_;unfold arcC;rw[if_pos d2,<- f3,j7.out,Int.toNat_natCast,<- f0.out,<- d1,<- e8]
    rw[<- f3] at G B d6;have a7:=qh b5;clear b5 d2 f3;have d5:smS tp.1:=by rw[d1];exact z6f (by rw[f0.out];exact c9.out q)
    have e1:smS vq:=by rw[f0.out];exact c9.out q
    have l0:=qh d5;clear d5;have g9:=qh e1;clear e1;have j8:=qh d1;clear d1;have m2:=qh e8;clear e8;have m9:(g:Int)<(n:Int):=by omega
    have m4:(0:Int)<=(g:Int):=by omega
    obtain⟨s,z⟩:=exq (w1.drew);have b0:Hid (Fr (fun q=>q=u\/q=o) w s):=qh (by rw[z];exact b0.out.drew);have m:Hid (s.heap[Q]?=some (.cells #[.int .i64 (D.ain q d),.int .i64 (D.aout q d),.string (D.aw q d),.int .i64 (g:Int)] 59 (0,0))):=qh (by rw[z];exact m.out);have G:Hid (Scl s u D (.slice (some ⟨b,a5,none⟩) n cp) star s1.2):=qh (by rw[z];exact G.out);have B:Hid (s.rowIs o 9 n (fun j=>.string (s1.1 j))):=qh (by rw[z];exact B.out);have Z:Tab s:=g4.out.below (H.out.trans (b0.out.below H.out.size (fun k hk=>by rcases hk with rfl|rfl;exact d3.out;exact d4.out))) nlr
    have c:s.cell? ⟨Q,3,none⟩=some (.int .i64 (g:Int))/\s.cell? ⟨Q,2,none⟩=some (.string (D.aw q d))/\s.cell? ⟨o,g,none⟩=some (.string (s1.1 g)) :=
     ⟨by simp[World.cell?,m.out],by simp[World.cell?,m.out],B.out.cell i7⟩
    have g7:=qh (y1r vq (D.aw q d) s G.out g9.out (l7.out q d) Z);rw[<- j8.out] at g7;clear Z
    go_wp2_with fail
    refine z0e (fun e7=>e7.cell? ⟨Q,3,none⟩=some (.int .i64 (g:Int))/\e7.cell? ⟨Q,2,none⟩=some (.string (D.aw q d))/\e7.cell? ⟨o,g,none⟩=some (.string (s1.1 g))) 16 (by kernel_rfl) ?_;rw[<- z];clear z;refine z0c.tm 0 c ?_;refine z0c.tm 1 c ?_;refine z0c.tm 2 c ?_;refine z0c.tm 3 c ?_;refine z0c.tm 4 c ?_;refine z0c.tm 5 c ?_;refine z0c.tm 6 c ?_;refine z0c.tm 7 c ?_;refine z0c.tm 8 c ?_;refine z0c.tm 9 c ?_;refine z0c.tm 10 c ?_;refine z0c.tm 11 c ?_;refine z0c.tm 12 c ?_
    try simp only[Act.put,tryL]
    refine z0c.on 13 fun K hK=>?_;go_simp;refine g7.out.mono ?_;rintro r w2 ⟨rfl,N,R⟩;have b9:w2.cell? ⟨Q,3,none⟩=some (.int .i64 (g:Int))/\w2.cell? ⟨Q,2,none⟩=some (.string (D.aw q d))/\w2.cell? ⟨o,g,none⟩=some (.string (s1.1 g)) :=
     ⟨R.cell c.1 b4,R.cell c.2.1 b4,R.cell c.2.2 (fun e=>a2.out e.symm)⟩
    have b7:Fr (fun q=>q=u\/q=o) w w2:=b0.out.trans (R.mono (fun _ _ e=>.inl e));have J:=R.row B.out (fun e=>a2.out e.symm);have b1:=(R.block Q (lt_of_block m.out) b4).trans m.out;have a6:Tab w2:=g4.out.below (H.out.trans (b7.below H.out.size (fun k hk=>by rcases hk with rfl|rfl;exact d3.out;exact d4.out))) nlr
    have g0:=qh (y0c (s1.1 g) tp.1 w2 N (d6.out g) l0.out a6);rw[<- m2.out] at g0;have l9:=qh b7;clear b7 R;have i6:=qh J;clear J;have k0:=qh b1;clear b1 N a6;refine hK.out _ _ (.inr b9) ?_;clear hK K
    try simp only[Act.put,tryL]
    refine z0c.on 14 fun K hK=>?_;go_simp;refine g0.out.mono ?_;rintro r w3 ⟨rfl,d7,Y⟩;have f7:w3.cell? ⟨Q,3,none⟩=some (.int .i64 (g:Int))/\w3.cell? ⟨Q,2,none⟩=some (.string (D.aw q d))/\w3.cell? ⟨o,g,none⟩=some (.string (s1.1 g)) :=
     ⟨Y.cell b9.1 b4,Y.cell b9.2.1 b4,Y.cell b9.2.2 (fun e=>a2.out e.symm)⟩
    have b3:=Y.row i6.out (fun e=>a2.out e.symm);have d9:Fr (fun q=>q=u\/q=o) w w3:=l9.out.trans (Y.mono (fun _ _ e=>.inl e));have fl:=b3.frozen g;have j4:=qh d9;clear d9 Y;have h5:=qh b3;clear b3;have g6:=qh d7;clear d7;refine hK.out _ _ (.inr f7) ?_;clear hK K
    try simp only[Act.put,tryL]
    refine z0c.tm 15 f7 ?_
    try simp only[Act.put,tryL]
    have gl:=f7.2.2;refine z0c.on 16 fun K hK=>?_;go_simp;refine hK.out _ _ (.inl rfl) (z0c.dn ?_);clear hK K;go_wp2;go_roundw
    case rel =>
     refine⟨d+1,by omega,by go_num,?_,?_,j4.out.set (.inl (.inr rfl)) _⟩
     ·rw[a7.out];exact(h5.out.set g _).congr (fun j _=>by
       show _=Value.string (updS s1.1 g zp.1 j);unfold updS;by_cases e:j=g
       ·rw[if_pos e,if_pos e]
       rw[if_neg e,if_neg e])
     rw[a7.out];unfold Scl;rw[z0g (show u≠o from a2.out)];exact g6.out
    simp[intOf];omega
   have i9:d=D.na q:=by omega
   have k9:¬ ((d:Int)<(D.na q:Int)):=by omega
   have i5:=qh i9;clear i9;go_wp2;go_roundw
   case rel=>exact⟨q+1,by omega,by go_num,by rw[T.out,<- i5.out];exact F.out,by rw[T.out,<- i5.out];exact E.out,I.out⟩
   simp[intOf];omega
  have a4:v q=⟨#[]⟩:=by rw[<- U];exact z6q hE
  have a8:z3q D sel v (q+1) (l,e)=z3q D sel v q (l,e):=by
   show rowC D sel v q _=_;unfold rowC;rw[if_pos a4]
  have T:=qh a8;clear a8 a4 U;go_wp2;go_roundw
  case rel=>exact⟨q+1,by omega,by go_num,by rw[T.out];exact W.out,by rw[T.out];exact S.out,X.out⟩
  simp[intOf];omega
 have g3:q=n:=by omega
 have k9:¬ ((q:Int)<(n:Int)):=by omega
 have g2:=qh g3;clear g3
 go_wp2_with fail
 go_end0
 exact⟨rfl,by rw[<- HN.out];rw[g2.out] at W;exact W.out,by rw[g2.out] at S;exact S.out,X.out⟩
end
section
structure ED where
 nf:Nat
 f:Nat->Int
 nt:Nat
 t:Nat->Int
 w:ByteArray
structure EM where
 n:Nat
 e:Nat->ED
 most:Int
def v4w (n:Nat) (x:Nat->Int) (sig:Int):Prop:=∀ i,i<n->1<=x i/\x i<=sig
def u3y (s:ByteArray):Prop:=∃ q,prs s=some q/\0<=q
structure EdOk (d:ED):Prop where
 f6:d.nf<=6
 t6:d.nt<=6
 pos:0<d.nf+d.nt
 fw:v4w d.nf d.f 500
 tw:v4w d.nt d.t 500
 wt:u3y d.w
structure VE (M:EM):Prop where
 n4:M.n<=400
 m0:0<=M.most
 m6:M.most<=6
 ok:∀ i,i<M.n->EdOk (M.e i)
def qv (s:ByteArray):Rat:=(prs s).getD 0
theorem EdOk.q0 {d:ED} (h:EdOk d):0<=qv d.w:=by obtain⟨q,c,g⟩:=h.wt;unfold qv;rw[c];exact g
theorem EdOk.q {d:ED} (h:EdOk d):prs d.w=some (qv d.w):=by obtain⟨q,c,_⟩:=h.wt;unfold qv;rw[c];rfl
structure EP where
 M:EM
 a:Nat
 x:Nat->Int
 b:Nat
 y:Nat->Int
abbrev Pl:=Nat × Nat × Nat
def bgs (a:Nat) (x:Nat->Int) (i n:Nat) (u:Nat->Int):Prop:=i+n<=a/\∀ k,k<n->x (i+k)=u k
inductive Sp (P:EP):Pl->Option Nat->Pl->Rat->Prop
 | copy {k i j:Nat}:i<P.a->j<P.b->P.x i=P.y j->Sp P (k,i,j) none (k,i+1,j+1) 0
 | edit {k i j e:Nat}:e<P.M.n->(k:Int)<P.M.most->bgs P.a P.x i (P.M.e e).nf (P.M.e e).f->bgs P.b P.y j (P.M.e e).nt (P.M.e e).t->Sp P (k,i,j) (some e) (k+1,i+(P.M.e e).nf,j+(P.M.e e).nt) (qv (P.M.e e).w)
inductive Pth (P:EP):Pl->Rat->Prop
 | start:Pth P (0,0,0) 0
 | step {p:Pl} {c:Rat} {l:Option Nat} {q:Pl} {d:Rat}:Pth P p c->Sp P p l q d->Pth P q (c+d)
theorem Sp.fn {P:EP} {p q c:Pl} {l:Option Nat} {d g:Rat} (h:Sp P p l q d) (i:Sp P p l c g):q=c/\d=g:=by
 cases h<;>cases i<;>exact⟨rfl,rfl⟩
abbrev TbE:=Pl->Option Rat
def relx (T:TbE) (q:Pl) (v:Rat):TbE:=fun r=>if r=q then (match T q with|none=>some v|some u=>if v<u then some v else some u) else T r
structure Dp (P:EP) (Done:Pl->Option Nat->Prop) (T:TbE):Prop where
 sound:∀ q c,T q=some c->Pth P q c
 zero:∃ c,T (0,0,0)=some c/\c<=0
 done:∀ p l c q d,Done p l->T p=some c->Sp P p l q d->∃ u,T q=some u/\u<=c+d
theorem Dp.start (P:EP):Dp P (fun _ _=>False) (fun q=>if q=(0,0,0) then some 0 else none):=by
 refine⟨fun q c h=>?_,⟨0,by simp,Rat.le_refl⟩,fun _ _ _ _ _ h=>h.elim⟩;by_cases e:q=(0,0,0)
 ·subst e;simp at h;subst h;exact .start
 simp[e] at h
theorem x7r {T:TbE} {q:Pl} {v:Rat} {r:Pl} {u:Rat} (h:T r=some u):∃ u',relx T q v r=some u'/\u'<=u:=by
 unfold relx;by_cases e:r=q
 ·subst e;rw[if_pos rfl,h];by_cases c:v<u
  ·exact⟨v,by simp[c],Rat.le_of_lt c⟩
  exact⟨u,by simp[c],Rat.le_refl⟩
 exact⟨u,by rw[if_neg e];exact h,Rat.le_refl⟩
theorem v4f (T:TbE) (q:Pl) (v:Rat):∃ u',relx T q v q=some u'/\u'<=v:=by
 unfold relx;rw[if_pos rfl];cases h:T q with
 | none=>exact⟨v,rfl,Rat.le_refl⟩
 | some u =>
  by_cases c:v<u
  ·exact⟨v,by simp[c],Rat.le_refl⟩
  exact⟨u,by simp[c],Rat.not_lt.1 c⟩
theorem x8y {T:TbE} {q r:Pl} {v:Rat} (h:r≠q):relx T q v r=T r:=if_neg h
theorem Dp.step {P:EP} {j g:Pl->Option Nat->Prop} {T:TbE} {p q:Pl} {l:Option Nat} {c d:Rat} (h:Dp P j T) (z:T p=some c) (D:Sp P p l q d) (H:∀ l',¬ g q l')
  (K:∀ p' l',g p' l'->j p' l'\/(p'=p/\l'=l)):Dp P g (relx T q (c+d)):=by
 refine⟨fun r u i=>?_,?_,fun p' l' N O G s k o=>?_⟩
 ·by_cases e:r=q
  ·subst e;unfold relx at i;rw[if_pos rfl] at i;cases A:T r with
   | none=>rw[A] at i;simp at i;subst i;exact .step (h.sound p c z) D
   | some m =>
    rw[A] at i;by_cases E:c+d<m
    ·simp[E] at i;subst i;exact .step (h.sound p c z) D
    simp[E] at i;subst i;exact h.sound _ _ A
  rw[x8y e] at i;exact h.sound r u i
 ·obtain⟨u,s,k⟩:=h.zero;obtain⟨m,o,C⟩:=x7r (q:=q) (v:=c+d) s;exact⟨m,o,Rat.le_trans C k⟩
 have B:p'≠q:=fun e=>H l' (e ▸ s);rw[x8y B] at k
 rcases K p' l' s with C|⟨rfl,rfl⟩
 ·obtain⟨u,F,I⟩:=h.done p' l' N O G C k o;obtain⟨m,L,J⟩:=x7r (q:=q) (v:=c+d) F;exact⟨m,L,Rat.le_trans J I⟩
 obtain⟨rfl,rfl⟩:=D.fn o;rw[z] at k;cases k;exact v4f T q (c+d)
def IsCost (P:EP) (o:Option Rat):Prop:=(o=none/\∀ k c,¬ Pth P (k,P.a,P.b) c)\/∃ c k,o=some c/\Pth P (k,P.a,P.b) c/\∀ k' c',Pth P (k',P.a,P.b) c'->c<=c'
theorem IsCost.only {P:EP} {o i:Option Rat} (h:IsCost P o) (m:IsCost P i):o=i:=by
 rcases h with ⟨rfl,d⟩|⟨c,k,rfl,d,l⟩<;>rcases m with ⟨rfl,g⟩|⟨p,s,rfl,g,j⟩
 ·rfl
 ·exact absurd g (d _ _)
 ·exact absurd d (g _ _)
 rw[Rat.le_antisymm (l _ _ g) (j _ _ d)]
end
section
open Go.RowKit Go.Deep
def Si (z:Option Nat) (w:World) (v:Value) (n:Nat) (x:Nat->Int):Prop:=Rd z w v n fun i=>.int .i64 (x i)
def EdS (z:Option Nat) (w:World) (v:Value) (M:EM):Prop :=
 (M.n=0/\∃ a cap,v=.slice a 0 cap/\cap<=maxLen)\/∃ b off cap,∃ F T:Nat->Value,v=.slice (some ⟨b,off,none⟩) M.n cap/\(b<w.heap.size/\some b≠z)/\M.n<=cap/\cap<=maxLen/\∀ i,i<M.n ->
  w.cell? ⟨b,off+i*3,none⟩=some (F i)/\w.cell? ⟨b,off+i*3+1,none⟩=some (T i)/\w.cell? ⟨b,off+i*3+2,none⟩=some (.string (M.e i).w)/\Si z w (F i) (M.e i).nf (M.e i).f/\Si z w (T i) (M.e i).nt (M.e i).t
theorem EdS.kept {z:Option Nat} {w k:World} {v:Value} {M:EM} (h:EdS z w v M) (c:w.grownBy k z):EdS z k v M:=by
 rcases h with h|⟨b,j,g,F,T,l,d,o,m,p⟩
 ·exact .inl h
 refine .inr ⟨b,j,g,F,T,l,⟨Nat.lt_of_lt_of_le d.1 c.size,d.2⟩,o,m,fun i hi=>?_⟩;obtain⟨c1,c2,c3,c4,c5⟩:=p i hi;exact⟨c.cell c1 d.2,c.cell c2 d.2,c.cell c3 d.2,c4.kept c,c5.kept c⟩
structure ESz (M:EM):Prop where
 n:(M.n:Int)<=9223372036854775807
 f:∀ i,((M.e i).nf:Int)<=4611686018427387903
 t:∀ i,((M.e i).nt:Int)<=4611686018427387903
 w:∀ i,((M.e i).w.size:Int)<=9223372036854775807
 m0:-9223372036854775808<=M.most
 m1:M.most<=9223372036854775807
def TstF (nf:FuncId) (cap:Array Value) (p:Int->Bool) (w:World):Prop :=
 (∀ args w,(callFunc nf args).run prog w=.ok (.enter nf args) w)/\∀ s:Int,Calls prog nf (#[.int .i64 s]++cap) w (fun r w'=>r=.returned (.bool (p s))/\w'=w)
def anyI (n:Nat) (x:Nat->Int) (p:Int->Bool):Bool:=(List.range n).any fun i=>p (x i)
theorem y2q {n:Nat} {x:Nat->Int} {p:Int->Bool}:anyI n x p=true↔∃ i,i<n/\p (x i)=true:=by simp[anyI]
theorem v6h {n nf:Nat} {g:Array Value} {v:Value} {x:Nat->Int} {p:Int->Bool} (w:World) (D:Si none w v n x) (hn:(n:Int)<=9223372036854775807) (H:TstF nf g p w) :
  Calls prog 151 #[v,.func (.func nf) #[] g] w (fun r w'=>w'=w/\∃ k:Int,r=.returned (.int .i64 k)/\(decide (0<=k)=anyI n x p)):=by
 obtain⟨a,P,b,I,rfl,C,X,K,hb,c⟩:=D.open;unfold maxLen at K;obtain⟨L,h⟩:=H;have N:=qh C;clear C;have Z:=qh hb;clear hb;have S:=qh c;clear c D;have U:=qh h;clear h
 go_enter func151,ntmps151
 go_wp2_with fail
 go_loop [8] (fun i=>∃ q:Nat,q<=n/\i=.int .i64 (q:Int)/\∀ j,j<q->p (x j)=false) (fun i=>n-(intOf i).toNat)
 case atStart=>exact⟨0,Nat.zero_le _,rfl,fun j G=>by omega⟩
 obtain⟨q,Y,rfl,s⟩:=hrel;have o:=qh s;clear s;by_cases l:q<n
 ·have J:(q:Int)<(n:Int):=by omega
  have B:(0:Int)<=(q:Int):=by omega
  obtain rfl:=N.out (by omega);have c0:=S.out q l;have d:=U.out (x q);have R:=qh d;clear d
  go_wp2_with fail
  refine R.out.mono ?_;rintro r W ⟨rfl,rfl⟩;cases u:p (x q)
  ·have z:=qh u;clear u;go_wp2
   go_round
   case rel=>exact⟨q+1,by omega,by go_num,fun j G=>by
    by_cases e:j=q
    ·subst e;exact z.out
    exact o.out j (by omega)⟩
   simp[intOf];omega
  have z:=qh u;clear u;go_wp2;go_ret;refine⟨rfl,_,rfl,?_⟩;have A:anyI n x p=true:=y2q.2 ⟨q,l,z.out⟩;rw[A];simp
 have m:q=n:=by omega
 have F:¬ ((q:Int)<(n:Int)):=by omega
 have T:=qh m;clear m;go_wp2;go_ret;refine⟨rfl,_,rfl,?_⟩;have A:anyI n x p=false:=by
  cases O:anyI n x p
  ·rfl
  obtain⟨i,Q,E⟩:=y2q.1 O;rw[o.out i (by rw[T.out];exact Q)] at E;cases E
 rw[A];rfl
theorem y1y {n nf:Nat} {c:Array Value} {v:Value} {x:Nat->Int} {p:Int->Bool} (w:World) (g:Si none w v n x) (hn:(n:Int)<=9223372036854775807) (d:TstF nf c p w) :
  Calls prog 119 #[v,.func (.func nf) #[] c] w (fun r w'=>r=.returned (.bool (anyI n x p))/\w'=w):=by
 have j:=qh (v6h w g hn d);clear g hn d
 go_enter func119,ntmps119
 go_wp2_with fail
 refine j.out.mono ?_;rintro r l ⟨rfl,k,rfl,h⟩;have i:=qh h;clear h;go_wp2;go_ret;exact⟨z0v i.out,rfl⟩
def offI (sig s:Int):Bool:=decide (s<1)||decide (sig<s)
def y5i (n:Nat) (x:Nat->Int) (sig:Int):Bool:=!anyI n x (offI sig)
theorem z7k {n:Nat} {x:Nat->Int} {c:Int}:y5i n x c=true↔v4w n x c:=by
 unfold y5i;rw[Bool.not_eq_true',Bool.eq_false_iff]
 constructor
 ·intro h i hi;cases d:offI c (x i)
  ·unfold offI at d;simp at d;omega
  exact absurd (y2q.2 ⟨i,hi,d⟩) h
 intro h j;obtain⟨i,d,g⟩:=y2q.1 j;have:=h i d;unfold offI at g;simp at g;omega
theorem y9m {n:Nat} {x:Nat->Int} {c:Int}:y5i n x c=false↔¬ v4w n x c:=by
 rw[<- z7k];simp
end
section
open Go.RowKit Go.Deep
theorem y1g {B vb:Nat} {D:MD} {sv star:Value} {e:Nat} {v:Nat->ByteArray} (w0 w:World) (hv:VM D) (hD:StS none w0 sv D) (b8:Below w0.heap.size w0 w) (ht:Tab w0)
  (hs:Scl w B D sv star e) (Y:w.rowIs vb 9 D.n (fun j=>.string (v j))) (a7:w0.heap.size<=B) (Z:vb≠B) (b7:∀ j,smS (v j)) (a2:∀ i,smS (D.fin i)) :
  Calls prog 88 #[.pointer (some ⟨B,0,none⟩),.slice (some ⟨vb,0,none⟩) D.n D.n] w (fun r w'=>r=.returned (.tuple #[.string (finC D v e).1,.int .i64 ((finC D v e).2:Int)])/\Fr (fun q=>q=B) w w'):=by
 obtain⟨a,cp,b,X,A,C,BB,O,rfl,ha,hc,hm,hb,o⟩:=hD.open;unfold maxLen at hm;obtain⟨n,hn⟩:=exq (D.n);have e7:n<=3000:=by rw[hn];exact hv.n2
 have e5:1<=n:=by rw[hn];exact hv.n1
 rw[<- hn] at ha hc hb o Y hs ⊢;have HN:=qh hn;clear hn;have HV:=qh hv;clear hv;have HA:=qh ha;clear ha;have HB:=qh hb;clear hb;have HR:=qh o;clear o hD;have a9:=qh ht;clear ht;have E:=qh b8;clear b8;have d7:=hs.c0;have HS:=qh hs;clear hs;have d6:=qh Y;clear Y;have b2:=qh b7;clear b7;have e1:=qh a2;clear a2;have d4:=qh Z;clear Z;have b0:=qh a7;clear a7;obtain rfl:=HA.out (by omega)
 go_enter func88,ntmps88
 go_wp2_with fail
 refine(z4p D.kind w).mono ?_;rintro r w1 ⟨rfl,W⟩;have a6:Scl w1 B D (.slice (some ⟨b,X,none⟩) n cp) star e:=by unfold Scl;rw[W.block B HS.out.lt];exact HS.out
 have b6:Fr (fun q=>q=B) w w1:=Fr.of_below W;have b9:=qh a6;clear a6 W HS;have a3:=qh b6;clear b6 d7
 go_wp2_with fail
 go_loopw [6,18] (fun s i wr=>∃ q:Nat,q<=n/\i=.int .i64 (q:Int)/\s=.string (endC D v q (z1j D.kind,e)).1/\Scl wr B D (.slice (some ⟨b,X,none⟩) n cp) star (endC D v q (z1j D.kind,e)).2/\Fr (fun q=>q=B) w wr) (fun _ i _=>n-(intOf i).toNat)
 case atStart=>exact⟨0,Nat.zero_le _,rfl,rfl,b9.out,a3.out⟩
 obtain⟨q,hq,rfl,rfl,d0,a5⟩:=hrel;clear b9 a3;have l:=qh d0;clear d0;have c:=qh a5;clear a5;by_cases b1:q<n
 ·have e4:(q:Int)<(n:Int):=by omega
  have e3:(0:Int)<=(q:Int):=by omega
  have cv:=c.out.cell (d6.out.cell b1) (p:=⟨vb,q,none⟩) d4.out;have a1:=qh (E.out.trans (c.out.below E.out.size (fun k hk=>by subst hk;exact b0.out)));have d3:=(HB.out (by omega)).1;obtain⟨k1,_,_,_,_,_,_⟩:=HR.out q b1;have c1:=(a1.out.cell (p:=⟨b,X+q*2,none⟩) d3).trans k1;have m3:=l.out.c3;clear k1;obtain⟨s0,g⟩:=exq (endC D v q (z1j D.kind,e));have b3:smS s0.1:=by rw[g];exact v1g b2.out q (show smS (z1j D.kind) from Nat.le_trans (z8s D.kind) (by omega))
  have c7:endC D v (q+1) (z1j D.kind,e)=if v q=⟨#[]⟩\/D.fin q=⟨#[]⟩ then s0 else z2e D.kind s0.1 (z0t D.kind (v q) (D.fin q) s0.2).1 (z0t D.kind (v q) (D.fin q) s0.2).2:=by
   rw[g];rfl
  rw[<- g] at l;rw[<- g];have e2:=qh b3;clear b3;have d:=qh c7;clear c7 g;obtain⟨G,I⟩:=exq (v q);obtain⟨H,J⟩:=exq (D.fin q);rw[<- I] at cv;rw[<- J] at c1;rw[<- I,<- J] at d;have L:smS G:=by rw[I];exact b2.out q
  have R:smS H:=by rw[J];exact e1.out q
  have Q:=qh L;clear L I;have c9:=qh R;clear R J;cases hE:(G.toList==[])
  ·cases hF:(H.toList==[])
   ·have h:¬ (G=⟨#[]⟩\/H=⟨#[]⟩):=fun e=>by
     rcases e with e|e
     ·rw[e] at hE;simp at hE
     rw[e] at hF;simp at hF
    rw[if_neg h] at d;clear h;obtain⟨tp,F⟩:=exq (z0t D.kind G H s0.2);obtain⟨zp,U⟩:=exq (z2e D.kind s0.1 tp.1 tp.2);rw[<- F,<- U] at d;have m:Tab wr:=a9.out.below a1.out nlr;have b5:=qh (y1r G H wr l.out Q.out c9.out m);rw[<- F] at b5;have K:smS tp.1:=by rw[F];exact z6f Q.out
    have d8:=qh K;clear K F m;have e0:=qh U;clear U
    go_wp2_with fail
    refine b5.out.mono ?_;rintro r w2 ⟨rfl,T,d1⟩;have z:=c.out.trans d1;have u:Tab w2:=a9.out.below (E.out.trans (z.below E.out.size (fun k hk=>by subst hk;exact b0.out))) nlr;have a4:=qh (y0c s0.1 tp.1 w2 T e2.out d8.out u);rw[<- e0.out] at a4;have d9:=qh z;clear z d1 T u cv c1 m3
    go_wp2_with fail
    refine a4.out.mono ?_;rintro r w3 ⟨rfl,N,c8⟩;have d2:=qh (d9.out.trans c8);clear c8;have b4:=qh N;clear N;go_wp2;go_roundw
    case rel=>exact⟨q+1,by omega,by go_num,by rw[d.out],by rw[d.out];exact b4.out,d2.out⟩
    simp[intOf];omega
   have h:(G=⟨#[]⟩\/H=⟨#[]⟩):=.inr (z6q hF);rw[if_pos h] at d;clear h;go_wp2;go_roundw
   case rel=>exact⟨q+1,by omega,by go_num,by rw[d.out],by rw[d.out];exact l.out,c.out⟩
   simp[intOf];omega
  have h:(G=⟨#[]⟩\/H=⟨#[]⟩):=.inl (z6q hE);rw[if_pos h] at d;clear h;go_wp2;go_roundw
  case rel=>exact⟨q+1,by omega,by go_num,by rw[d.out],by rw[d.out];exact l.out,c.out⟩
  simp[intOf];omega
 have a8:q=n:=by omega
 have e6:¬ ((q:Int)<(n:Int)):=by omega
 have d5:=qh a8;clear a8;obtain⟨s0,g⟩:=exq (endC D v q (z1j D.kind,e));have S:finC D v e=if s0.2≠0 then (⟨#[]⟩,s0.2) else (s0.1,0):=by unfold finC;rw[<- HN.out,<- d5.out,<- g]
 rw[<- g] at l;rw[<- g];have P:=qh S;clear S g;have m5:=l.out.c5;by_cases he:s0.2=0
 ·rw[he] at m5;have HE:=qh he;clear he;go_wp2;go_ret2;exact⟨by rw[P.out,if_neg (by rw[HE.out];simp)];rfl,c.out⟩
 have e8:¬ ((s0.2:Int)=0):=by omega
 have HE:=qh he;clear he
 go_wp2_with fail
 go_quiet (fail)
 go_wp2;go_ret2;exact⟨by rw[P.out,if_pos HE.out];rfl,⟨c.out.os,c.out.tape,c.out.output,c.out.size,c.out.block⟩⟩
theorem x9g:∀ args w,(callFunc 120 args).run prog w=.ok (.enter 120 args) w:=fun args w=>by kernel_rfl
theorem x8r (w:World) (s:Int):Calls prog 120 #[.int .i64 s] w (fun r w'=>r=.returned (.bool (offI 500 s))/\w'=w):=by
 by_cases d:s<1
 ·go_enter func120,ntmps120
  go_wp2;go_ret;exact⟨z0v (by simp[offI,d]),rfl⟩
 have c:decide (s<1)=false:=by simp;omega
 go_enter func120,ntmps120
 go_wp2;go_ret;exact⟨z0v (by simp[offI,c]),rfl⟩
def isWord (n:Nat) (x:Nat->Int):Bool:=decide (n<=200)&&y5i n x 500
theorem x4j {n:Nat} {v:Value} {x:Nat->Int} (w:World) (d:Si none w v n x) (hn:(n:Int)<=9223372036854775807) :
  Calls prog 77 #[v] w (fun r w'=>r=.returned (.bool (isWord n x))/\w'=w):=by
 have c:=y1y w d hn (show TstF 120 #[] (offI 500) w from ⟨x9g,fun s=>x8r w s⟩);obtain⟨a,i,rfl⟩:=d.shape;have g:=qh c;clear c d;by_cases h:(n:Int)<=200
 ·go_enter func77,ntmps77
  go_wp2_with fail
  refine g.out.mono ?_;rintro r j ⟨rfl,rfl⟩;go_wp2;go_ret;exact⟨z0v (by unfold isWord y5i;rw[show decide (n<=200)=true by simp;omega];simp),rfl⟩
 have k:decide ((n:Int)<=200)=false:=by simp;omega
 go_enter func77,ntmps77
 go_wp2;go_ret;exact⟨z0v (by unfold isWord;rw[show decide (n<=200)=false by simp;omega];rfl),rfl⟩
theorem x1d:∀ args w,(callFunc 79 args).run prog w=.ok (.enter 79 args) w:=fun args w=>by kernel_rfl
def silB (i o:Int):Bool:=decide (i=0)&&decide (o=0)
theorem x5s (w:World) (i o:Int) (s:ByteArray) (t:Int):Calls prog 79 #[.agg #[.int .i64 i,.int .i64 o,.string s,.int .i64 t]] w (fun r w'=>r=.returned (.bool (silB i o))/\Below w.heap.size w w'):=by
 have c:=(Below.refl w.heap.size w).alloc nlr (.cells #[.int .i64 i,.int .i64 o,.string s,.int .i64 t] 59);have g:=qh c;clear c;by_cases d:i=0
 ·subst d
  go_enter func79,ntmps79
  go_wp2;go_ret;exact⟨z0v (by by_cases h:o=0<;>simp[silB,h]),g.out⟩
 go_enter func79,ntmps79
 go_wp2;go_ret;exact⟨z0v (by simp[silB,d]),g.out⟩
def BxI (w:World) (xb:Nat) (n:Nat) (x:Nat->Int):Prop:=∃ v,w.cell? ⟨xb,0,none⟩=some v/\Si none w v n x
theorem v9u:∀ args w,(callFunc 85 args).run prog w=.ok (.enter 85 args) w:=fun args w=>by kernel_rfl
theorem u2j:∀ args w,(callFunc 86 args).run prog w=.ok (.enter 86 args) w:=fun args w=>by kernel_rfl
theorem u2m:∀ args w,(callFunc 87 args).run prog w=.ok (.enter 87 args) w:=fun args w=>by kernel_rfl
def sel2 (y:Int) (i o:Int):Bool:=decide (i=0)&&decide (o=y)
def sel3 (x:Int) (i o:Int):Bool:=decide (i=x)&&decide (o=0)
def sel4 (x y:Int) (i o:Int):Bool:=decide (i=x)&&decide (o=y)
theorem u3h {H I n j:Nat} {y:Nat->Int} (w:World) (Q:BxI w H n y) (E:w.cell? ⟨I,0,none⟩=some (.int .i64 (j:Int))) (B:j<n) (i o:Int) (s:ByteArray) (t:Int) :
  Calls prog 85 #[.agg #[.int .i64 i,.int .i64 o,.string s,.int .i64 t],.pointer (some ⟨H,0,none⟩),.pointer (some ⟨I,0,none⟩)] w (fun r w'=>r=.returned (.bool (sel2 (y j) i o))/\Below w.heap.size w w'):=by
 obtain⟨v,G,p⟩:=Q;obtain⟨a,R,b,O,rfl,F,W,P,hb,g⟩:=p.open;obtain rfl:=F (by omega);unfold maxLen at P;have c0:=g j B;clear g p;have N:(j:Int)<(n:Int):=by omega
 have K:(0:Int)<=(j:Int):=by omega
 obtain⟨m,c⟩:=exq (w.alloc (.cells #[.int .i64 i,.int .i64 o,.string s,.int .i64 t] 59));obtain⟨z,d⟩:=exq (w.heap.size);have k:=(Below.refl w.heap.size w).alloc nlr (.cells #[.int .i64 i,.int .i64 o,.string s,.int .i64 t] 59);have u:w.grownBy m none:=by rw[c];exact World.grownBy_alloc _ _ _
 rw[<- c] at k;have a0:m.cell? ⟨z,0,none⟩=some (.int .i64 i):=by rw[c,d];exact z5a w _ _ 0 _ rfl
 have U:m.cell? ⟨z,1,none⟩=some (.int .i64 o):=by rw[c,d];exact z5a w _ _ 1 _ rfl
 have T:=u.cell G (by simp);have X:=u.cell E (by simp);have S:=u.cell c0 (by simp);have L:=qh k;clear k hb F G E c0 u;obtain⟨A,l⟩:=exq (y j);rw[<- l] at S;rw[<- l];clear l;by_cases J:i=0
 ·subst J
  go_enter func85,ntmps85
  go_wp2_with fail
  rw[<- c,<- d];have D:=qh c;clear c;have C:=qh d;clear d
  go_quiet (fail)
  go_wp2;go_ret;exact⟨z0v (by by_cases h:o=A<;>simp[sel2,h]),below_drewN L.out _⟩
 go_enter func85,ntmps85
 go_wp2_with fail
 rw[<- c,<- d];have D:=qh c;clear c;have C:=qh d;clear d
 go_quiet (fail)
 go_wp2;go_ret;exact⟨z0v (by simp[sel2,J]),below_drewN L.out _⟩
theorem u3e {xb I n j:Nat} {x:Nat->Int} (w:World) (P:BxI w xb n x) (E:w.cell? ⟨I,0,none⟩=some (.int .i64 (j:Int))) (B:j<n) (i o:Int) (s:ByteArray) (t:Int) :
  Calls prog 86 #[.agg #[.int .i64 i,.int .i64 o,.string s,.int .i64 t],.pointer (some ⟨xb,0,none⟩),.pointer (some ⟨I,0,none⟩)] w (fun r w'=>r=.returned (.bool (sel3 (x j) i o))/\Below w.heap.size w w'):=by
 obtain⟨v,G,p⟩:=P;obtain⟨a,Q,b,N,rfl,F,U,O,hb,g⟩:=p.open;obtain rfl:=F (by omega);unfold maxLen at O;have c0:=g j B;clear g p;have L:(j:Int)<(n:Int):=by omega
 have J:(0:Int)<=(j:Int):=by omega
 obtain⟨m,c⟩:=exq (w.alloc (.cells #[.int .i64 i,.int .i64 o,.string s,.int .i64 t] 59));obtain⟨z,d⟩:=exq (w.heap.size);have k:=(Below.refl w.heap.size w).alloc nlr (.cells #[.int .i64 i,.int .i64 o,.string s,.int .i64 t] 59);have u:w.grownBy m none:=by rw[c];exact World.grownBy_alloc _ _ _
 rw[<- c] at k;have a0:m.cell? ⟨z,0,none⟩=some (.int .i64 i):=by rw[c,d];exact z5a w _ _ 0 _ rfl
 have T:m.cell? ⟨z,1,none⟩=some (.int .i64 o):=by rw[c,d];exact z5a w _ _ 1 _ rfl
 have S:=u.cell G (by simp);have W:=u.cell E (by simp);have R:=u.cell c0 (by simp);have K:=qh k;clear k hb F G E c0 u;obtain⟨A,l⟩:=exq (x j);rw[<- l] at R;rw[<- l];clear l;by_cases H:i=A
 ·subst H
  go_enter func86,ntmps86
  go_wp2_with fail
  rw[<- c,<- d];have D:=qh c;clear c;have C:=qh d;clear d
  go_quiet (fail)
  go_wp2;go_ret;exact⟨z0v (by by_cases h:o=0<;>simp[sel3,h]),below_drewN K.out _⟩
 go_enter func86,ntmps86
 go_wp2_with fail
 rw[<- c,<- d];have D:=qh c;clear c;have C:=qh d;clear d
 go_quiet (fail)
 go_wp2;go_ret;exact⟨z0v (by simp[sel3,H]),below_drewN K.out _⟩
theorem u3t {xb ib m k Y jb n j:Nat} {x y:Nat->Int} (w:World) (hx:BxI w xb m x) (S:w.cell? ⟨ib,0,none⟩=some (.int .i64 (k:Int))) (R:k<m) (hy:BxI w Y n y) (T:w.cell? ⟨jb,0,none⟩=some (.int .i64 (j:Int))) (K:j<n) (i o:Int) (s:ByteArray) (t:Int) :
  Calls prog 87 #[.agg #[.int .i64 i,.int .i64 o,.string s,.int .i64 t],.pointer (some ⟨xb,0,none⟩),.pointer (some ⟨ib,0,none⟩),.pointer (some ⟨Y,0,none⟩),.pointer (some ⟨jb,0,none⟩)] w (fun r w'=>r=.returned (.bool (sel4 (x k) (y j) i o))/\Below w.heap.size w w'):=by
 obtain⟨v',F,u⟩:=hx;obtain⟨a',a3,b',Z,rfl,C,b0,L,J,g⟩:=u.open;obtain rfl:=C (by omega);have D:=g k R;unfold maxLen at L;have a4:(k:Int)<(m:Int):=by omega
 have W:(0:Int)<=(k:Int):=by omega
 clear g u;obtain⟨v,X,G⟩:=hy;obtain⟨a,a8,b,a7,rfl,U,hc,hm,hb,l⟩:=G.open;obtain rfl:=U (by omega);unfold maxLen at hm;have c0:=l j K;clear l G;have a5:(j:Int)<(n:Int):=by omega
 have a2:(0:Int)<=(j:Int):=by omega
 obtain⟨E,c⟩:=exq (w.alloc (.cells #[.int .i64 i,.int .i64 o,.string s,.int .i64 t] 59));obtain⟨H,d⟩:=exq (w.heap.size);have p:=(Below.refl w.heap.size w).alloc nlr (.cells #[.int .i64 i,.int .i64 o,.string s,.int .i64 t] 59);have z:w.grownBy E none:=by rw[c];exact World.grownBy_alloc _ _ _
 rw[<- c] at p;have a0:E.cell? ⟨H,0,none⟩=some (.int .i64 i):=by rw[c,d];exact z5a w _ _ 0 _ rfl
 have a1:E.cell? ⟨H,1,none⟩=some (.int .i64 o):=by rw[c,d];exact z5a w _ _ 1 _ rfl
 have d0:=z.cell X (by simp);have d1:=z.cell T (by simp);have d2:=z.cell c0 (by simp);have a6:=z.cell F (by simp);have a9:=z.cell S (by simp);have Q:=z.cell D (by simp);have HB:=qh p;clear p hb U X T c0 z J C F S D;obtain⟨P,B⟩:=exq (x k);rw[<- B] at Q;rw[<- B];clear B;obtain⟨I,A⟩:=exq (y j);rw[<- A] at d2;rw[<- A];clear A;by_cases h1:i=P
 ·subst h1
  go_enter func87,ntmps87
  go_wp2_with fail
  rw[<- c,<- d];have O:=qh c;clear c;have N:=qh d;clear d
  go_quiet (fail)
  go_wp2;go_ret;exact⟨z0v (by by_cases h:o=I<;>simp[sel4,h]),below_drewN HB.out _⟩
 go_enter func87,ntmps87
 go_wp2_with fail
 rw[<- c,<- d];have O:=qh c;clear c;have N:=qh d;clear d
 go_quiet (fail)
 go_wp2;go_ret;exact⟨z0v (by simp[sel4,h1]),below_drewN HB.out _⟩
end
section
open Go.RowKit Go.Deep
theorem y1i (t e:TypeId) (h:prog.underlying t=some (.slice e)) (w:World) (a:Option Addr) (n c:Nat):(binOp .eql t (.slice a n c) (.slice none 0 0)).run prog w=.ok (.bool a.isNone) w:=by
 simp only[binOp];simp[run_equal_slice_nil w t e a n c h]
theorem v3m (t e:TypeId) (h:prog.underlying t=some (.slice e)) (w:World) (a:Option Addr) (n c:Nat):(binOp .neq t (.slice a n c) (.slice none 0 0)).run prog w=.ok (.bool (!a.isNone)) w:=run_neq_slice_nil w t e a n c h
end
section
open Go.RowKit Go.Deep
abbrev VV:=Nat->ByteArray
abbrev RS:=(Bool->Nat->Option VV) × Nat
def updV (S:Bool->Nat->Option VV) (b:Bool) (j:Nat) (x:VV):Bool->Nat->Option VV:=fun b' j'=>if b'=b/\j'=j then some x else S b' j'
def z2z (D:MD) (b:Bool) (j:Nat) (sel:Int->Int->Bool) (v:VV) (s:RS):RS:=(updV s.1 b j (z3q D sel v D.n ((s.1 b j).getD z1d,s.2)).1,(z3q D sel v D.n ((s.1 b j).getD z1d,s.2)).2)
def cell1 (D:MD) (nb:Nat) (y:Nat->Int) (j:Nat) (v:VV) (s:RS):RS:=if j<nb then z2z D false (j+1) (sel2 (y j)) v s else s
def cell2 (D:MD) (na:Nat) (x:Nat->Int) (i j:Nat) (v:VV) (s:RS):RS:=if i<na then z2z D true j (sel3 (x i)) v s else s
def cell3 (D:MD) (na:Nat) (x:Nat->Int) (nb:Nat) (y:Nat->Int) (i j:Nat) (v:VV) (s:RS):RS:=if i<na/\j<nb then z2z D true (j+1) (sel4 (x i) (y j)) v s else s
def twoR (row next:Nat->Option VV):Bool->Nat->Option VV:=fun b=>if b then next else row
def vrV (n:Nat):Option Nat->Value
 | none=>.slice none 0 0
 | some r=>.slice (some ⟨r,0,none⟩) n n
structure VR (w:World) (B:Nat) (g:Bool->Nat) (m n:Nat) (R:Bool->Nat->Option Nat) (S:Bool->Nat->Option VV):Prop where
 top:∀ b,w.rowIs (g b) 102 m (fun j=>vrV n (R b j))
 gne:g false≠g true
 low:∀ b,B<=g b
 non:∀ b j,j<m->(R b j=none↔S b j=none)
 row:∀ b j r x,j<m->R b j=some r->S b j=some x->w.rowIs r 9 n (fun q=>.string (x q))/\B<=r
 sep:∀ b j b' j' r,j<m->j' < m->R b j=some r->R b' j'=some r->b=b'/\j=j'
 sm:∀ b j x,S b j=some x->∀ q,smS (x q)
theorem y8c {w:World} {g i n l:Nat} {e e':TypeId} {F k:Nat->Value} (h:w.rowIs g e n F) (o:w.rowIs i e' l k) (m:e≠e'):g≠i:=by
 rintro rfl;obtain⟨c,j,_⟩:=h;obtain⟨p,d,_⟩:=o;rw[j] at d;simp at d;exact m d.2
namespace VR
variable {w w':World} {B:Nat} {g:Bool->Nat} {m n:Nat} {R:Bool->Nat->Option Nat} {S:Bool->Nat->Option VV}
theorem some_of (h:VR w B g m n R S) {b:Bool} {j:Nat} {x:VV} (c:j<m) (d:S b j=some x):∃ r,R b j=some r/\w.rowIs r 9 n (fun q=>.string (x q))/\B<=r:=by
 cases i:R b j with
 | none=>have:=(h.non b j c).1 i;rw[d] at this;cases this
 | some r=>exact⟨r,rfl,h.row b j r x c i d⟩
theorem topne (h:VR w B g m n R S) {b b':Bool} {j r:Nat} {x:VV} (c:j<m) (i:R b j=some r) (d:S b j=some x):g b'≠r:=y8c (h.top b') (h.row b j r x c i d).1 (by decide)
theorem kept {C:Nat->Prop} (h:VR w B g m n R S) (hf:Fr C w w') (l:∀ b,¬ C (g b)) (k:∀ b j r,j<m->R b j=some r->¬ C r):VR w' B g m n R S :=
 ⟨fun b=>hf.row (h.top b) (l b),h.gne,h.low,h.non,fun b j r x d c i=>⟨hf.row (h.row b j r x d c i).1 (k b j r d c),(h.row b j r x d c i).2⟩,h.sep,h.sm⟩
theorem fresh (h:VR w B g m n R S) {b:Bool} {j r:Nat} {x:VV} (N:B<=w.heap.size) (L:w.heap.size<=r) (hf:Fr (fun q=>q=g b) w w') (J:w'.rowIs r 9 n (fun q=>.string (x q))) (K:∀ q,smS (x q))
  (I:w'.rowIs (g b) 102 m (fun j'=>if j'=j then vrV n (some r) else vrV n (R b j'))):VR w' B g m n (fun b' j'=>if b'=b/\j'=j then some r else R b' j') (updV S b j x):=by
 have p:∀ b' j' l,j' < m->R b' j'=some l->l<w.heap.size:=fun b' j' l d c=>by
  cases z:S b' j' with
  | none=>have:=(h.non b' j' d).2 z;rw[c] at this;cases this
  | some x0=>exact(h.row b' j' l x0 d c z).1.lt
 refine⟨fun b'=>?_,h.gne,h.low,fun b' j' d=>?_,fun b' j' l F d c i=>?_,fun G H E C l s u c i=>?_,fun b' j' F c=>?_⟩
 ·by_cases e:b'=b
  ·subst e;refine I.congr (fun j' _=>?_);by_cases e:j'=j
   ·rw[if_pos e,if_pos ⟨rfl,e⟩]
   rw[if_neg e,if_neg (fun h=>e h.2)]
  refine(hf.row (h.top b') (fun k=>?_)).congr (fun j' _=>by rw[if_neg (fun h=>e h.1)]);have o:=h.gne;cases b'<;>cases b<;>first|exact e rfl|exact o k|exact o k.symm
 ·unfold updV;by_cases e:b'=b/\j'=j
  ·rw[if_pos e,if_pos e];simp
  rw[if_neg e,if_neg e];exact h.non b' j' d
 ·unfold updV at i;by_cases e:b'=b/\j'=j
  ·rw[if_pos e] at c i;cases c;cases i;exact⟨J,by omega⟩
  rw[if_neg e] at c i;have o:=h.row b' j' l F d c i;exact⟨hf.row o.1 (fun k=>y8c (h.top b) o.1 (by decide) k.symm),o.2⟩
 ·by_cases D:G=b/\H=j
  ·by_cases k:E=b/\C=j
   ·exact⟨D.1.trans k.1.symm,D.2.trans k.2.symm⟩
   rw[if_pos D] at c;rw[if_neg k] at i;cases c;have:=p E C r u i;omega
  rw[if_neg D] at c;by_cases k:E=b/\C=j
  ·rw[if_pos k] at i;cases i;have:=p G H r s c;omega
  rw[if_neg k] at i;exact h.sep G H E C l s u c i
 unfold updV at c;by_cases e:b'=b/\j'=j
 ·rw[if_pos e] at c;cases c;exact K
 rw[if_neg e] at c;exact h.sm b' j' F c
end VR
def AtE (B:Nat) (g:Bool->Nat) (m n:Nat) (S:Bool->Nat->Option VV) (R:Bool->Nat->Option Nat) (b:Bool) (j:Nat) (w:World) (r:Ending) (w':World):Prop :=
 ∃ R' r0,r=.returned (.slice (some ⟨r0,0,none⟩) n n)/\R' b j=some r0/\(∀ b' j',¬ (b'=b/\j'=j)->R' b' j'=R b' j')/\VR w' B g m n R' (updV S b j ((S b j).getD z1d))/\Fr (fun q=>q=g b) w w'
theorem z8r (q:Nat):smS (z1d q):=by show (⟨#[]⟩:ByteArray).size<=_;decide
theorem x4u {cb Z B m j:Nat} {b:Bool} {g:Bool->Nat} {R:Bool->Nat->Option Nat} {S:Bool->Nat->Option VV} {D:MD} {a:Option Addr} {cap:Nat} {star:Value} {e:Nat} (w:World) (h:VR w B g m D.n R S) (N:Scl w cb D (.slice a D.n cap) star e)
  (h8:w.cell? ⟨Z,0,none⟩=some (.pointer (some ⟨cb,0,none⟩))) (I:j<m) (hB:B<=w.heap.size) (h1:1<=D.n) (hn:D.n<=3000) :
  Calls prog 81 #[.slice (some ⟨g b,0,none⟩) m m,.int .i64 (j:Int),.pointer (some ⟨Z,0,none⟩)] w (AtE B g m D.n S R b j w):=by
 have a3:(j:Int)<(m:Int):=by omega
 have a1:(0:Int)<=(j:Int):=by omega
 obtain⟨gb,i⟩:=exq (g b);have c0:=(h.top b).cell I;rw[<- i] at c0;cases F:R b j with
 | none =>
  have X:=fun w=>y1i 102 9 underlying102 w none 0 0;rw[show (none:Option Addr).isNone=true from rfl] at X;rw[F] at c0;have U:w.cell? ⟨gb,j,none⟩=some (.slice none 0 0):=c0;clear c0;have P:=qh (z9t w N h1 hn);have c:=qh h;clear h;have HS:=qh N;clear N;have G:=qh F;clear F;have d:=qh i;rw[<- i];clear i
  go_enter func81,ntmps81
  go_wp2_with fail
  refine P.out.mono ?_;rintro r H ⟨rfl,s,hf,hz⟩;obtain⟨o,A⟩:=exq (w.heap.size);rw[<- A] at s;rw[<- A];have l:H.rowIs gb 102 m (fun j=>vrV D.n (R b j)):=by rw[d.out];exact hf.row (c.out.top b) (fun e=>e)
  have f0:=l.frozen j;have Q:=l.cell I;have p:=l.set j (vrV D.n (some o));have L:o≠gb:=by have:=(c.out.top b).lt;rw[<- d.out] at this;omega
  have u:=s.setOther (a:=⟨gb,j,none⟩) L (vrV D.n (some o));have z:=c.out.low b;rw[<- d.out] at z;have C:Fr (fun q=>q=g b) w (H.setCell ⟨gb,j,none⟩ (vrV D.n (some o))):=(hf.mono (fun _ _ e=>e.elim)).set (.inl d.out) _;have k:(H.setCell ⟨gb,j,none⟩ (vrV D.n (some o))).rowIs (g b) 102 m (fun E=>if E=j then vrV D.n (some o) else vrV D.n (R b E)):=by rw[<- d.out];exact p
  have K:=c.out.fresh (j:=j) hB (show w.heap.size<=o by omega) C u z8r k;have O:=k.cell I;rw[if_pos rfl,<- d.out] at O;have a2:(H.setCell ⟨gb,j,none⟩ (.slice (some ⟨o,0,none⟩) D.n D.n)).cell? ⟨gb,j,none⟩=some (.slice (some ⟨o,0,none⟩) D.n D.n):=O;have J:=qh K;clear K;have Y:=qh C;clear C;rw[G.out] at Q;have a4:H.cell? ⟨gb,j,none⟩=some (.slice none 0 0):=Q;clear l p u s hf hz A k O Q z L;go_wp2;go_ret;have W:(S b j).getD z1d=z1d:=by
   rw[(c.out.non b j I).1 G.out];rfl
  exact⟨_,o,rfl,if_pos ⟨rfl,rfl⟩,fun T E h=>if_neg h,by rw[W];exact J.out,Y.out⟩
 | some r0 =>
  rw[F] at c0;have U:w.cell? ⟨gb,j,none⟩=some (.slice (some ⟨r0,0,none⟩) D.n D.n):=c0;clear c0;have X:=fun w=>y1i 102 9 underlying102 w (some ⟨r0,0,none⟩) D.n D.n;rw[show (some (⟨r0,0,none⟩:Addr)).isNone=false from rfl] at X;have c:=qh h;clear h;have G:=qh F;clear F;rw[<- i];have d:=qh i;clear i;clear N
  go_enter func81,ntmps81
  go_wp2;go_ret;refine⟨R,r0,rfl,G.out,fun T E _=>rfl,?_,Fr.refl _ _⟩;cases hx:S b j with
  | none=>have:=(c.out.non b j I).2 hx;rw[G.out] at this;cases this
  | some x =>
   have hu:updV S b j ((some x).getD z1d)=S:=by
    funext T E
    unfold updV;by_cases e:T=b/\E=j
    ·rw[if_pos e,e.1,e.2,hx];rfl
    rw[if_neg e]
   rw[hu];exact c.out
end
section
open Go.RowKit Go.Deep
theorem z0h {w:World} {g b n:Nat} {e t:TypeId} {f:Nat->Value} {cs:Array Value} {fr:Nat × Nat} (h:w.rowIs g e n f) (hb:w.heap[b]?=some (.cells cs t fr)) (d:t≠e):g≠b:=by
 rintro rfl;obtain⟨c,i,_⟩:=h;rw[i] at hb;simp at hb;exact d hb.2.1.symm
def Bx (w:World) (b:Nat) (t:TypeId) (v:Value):Prop:=w.heap[b]?=some (.cells #[v] t (0,0))
theorem Bx.cell {w:World} {b:Nat} {t:TypeId} {v:Value} (h:Bx w b t v):w.cell? ⟨b,0,none⟩=some v:=by unfold Bx at h;simp[World.cell?,h]
theorem Bx.lt {w:World} {b:Nat} {t:TypeId} {v:Value} (h:Bx w b t v):b<w.heap.size:=(Array.getElem?_eq_some_iff.1 h).1
theorem Bx.kept {w c:World} {b:Nat} {t:TypeId} {v:Value} {C:Nat->Prop} (h:Bx w b t v) (hf:Fr C w c) (d:¬ C b):Bx c b t v:=(hf.block b h.lt d).trans h
theorem Bx.ne {w:World} {b c:Nat} {t g:TypeId} {v v':Value} (h:Bx w b t v) (d:Bx w c g v') (i:t≠g):b≠c:=by
 rintro rfl;unfold Bx at h d;rw[h] at d;simp at d;exact i d.2
structure WE (w0 w:World) (cb c8 xb yb:Nat) (D:MD) (sv xv yv:Value) (e:Nat):Prop where
 hb:Below w0.heap.size w0 w
 sc:Scl w cb D sv (.slice none 0 0) e
 k8:Bx w c8 98 (.pointer (some ⟨cb,0,none⟩))
 kx:Bx w xb 25 xv
 ky:Bx w yb 25 yv
 lc:w0.heap.size<=cb
namespace WE
variable {w0 w w':World} {cb c8 xb yb:Nat} {D:MD} {sv xv yv:Value} {e:Nat}
theorem kept {C:Nat->Prop} (h:WE w0 w cb c8 xb yb D sv xv yv e) (hf:Fr C w w') (c:¬ C cb) (j:¬ C c8) (d:¬ C xb) (g:¬ C yb) (i:∀ q,C q->w0.heap.size<=q):WE w0 w' cb c8 xb yb D sv xv yv e :=
 ⟨h.hb.trans (hf.below h.hb.size i),h.sc.kept hf c,h.k8.kept hf j,h.kx.kept hf d,h.ky.kept hf g,h.lc⟩
end WE
structure PWt (w0:World) (cb xb yb ib jb:Nat) (xv yv:Value) (i j:Nat) (w:World):Prop where
 hb:Below w0.heap.size w0 w
 kx:Bx w xb 25 xv
 ky:Bx w yb 25 yv
 ki:Bx w ib 3 (.int .i64 (i:Int))
 kj:Bx w jb 3 (.int .i64 (j:Int))
 nx:xb≠cb
 ny:yb≠cb
 ni:ib≠cb
 nj:jb≠cb
theorem PWt.fr {l wa s:World} {g xb m p o d i j:Nat} {z u:Value} (h:PWt l g xb m p o z u i j wa) (hf:Fr (fun q=>q=g\/q=d) wa s) (E:l.heap.size<=g) (A:l.heap.size<=d) (G:xb≠d) (B:m≠d) (D:p≠d) (F:o≠d):PWt l g xb m p o z u i j s:=by
 have k:∀ q,q≠g->q≠d->¬ (q=g\/q=d):=fun q a b c=>c.elim a b;exact⟨h.hb.trans (hf.below h.hb.size (fun q C=>by rcases C with rfl|rfl;exact E;exact A)),h.kx.kept hf (k _ h.nx G),h.ky.kept hf (k _ h.ny B),h.ki.kept hf (k _ h.ni D),h.kj.kept hf (k _ h.nj F),h.nx,h.ny,h.ni,h.nj⟩
theorem x3q {c w:World} {xb n:Nat} {d:Value} {x:Nat->Int} (g:Si none c d n x) (hb:Below c.heap.size c w) (h:Bx w xb 25 d):BxI w xb n x:=⟨d,h.cell,g.kept (z0b hb none)⟩
theorem tst2 {g:World} {s xb k z l n i j:Nat} {u m:Value} {y:Nat->Int} (o:Si none g m n y) (p:j<n):TstA 85 #[.pointer (some ⟨k,0,none⟩),.pointer (some ⟨l,0,none⟩)] (sel2 (y j)) (PWt g s xb k z l u m i j) :=
 ⟨v9u,fun A d i0 o0 s0 t0=>by
  have h:=u3h A (x3q o d.hb d.ky) d.kj.cell p i0 o0 s0 t0;rw[show ∀ a b c:Value,(#[a]++#[b,c]:Array Value)=#[a,b,c] from fun _ _ _=>rfl];exact h⟩
theorem tst3 {g:World} {p xb m l o n i j:Nat} {k u:Value} {x:Nat->Int} (s:Si none g k n x) (hi:i<n):TstA 86 #[.pointer (some ⟨xb,0,none⟩),.pointer (some ⟨l,0,none⟩)] (sel3 (x i)) (PWt g p xb m l o k u i j) :=
 ⟨u2j,fun z d i0 o0 s0 t0=>by
  have h:=u3e z (x3q s d.hb d.kx) d.ki.cell hi i0 o0 s0 t0;rw[show ∀ a b c:Value,(#[a]++#[b,c]:Array Value)=#[a,b,c] from fun _ _ _=>rfl];exact h⟩
theorem tst4 {k:World} {B xb m u o n l i j:Nat} {s p:Value} {x y:Nat->Int} (C:Si none k s n x) (hi:i<n) (z:Si none k p l y) (A:j<l):TstA 87 #[.pointer (some ⟨xb,0,none⟩),.pointer (some ⟨u,0,none⟩),.pointer (some ⟨m,0,none⟩),.pointer (some ⟨o,0,none⟩)] (sel4 (x i) (y j)) (PWt k B xb m u o s p i j) :=
 ⟨u2m,fun D g i0 o0 s0 t0=>by
  have h:=u3t D (x3q C g.hb g.kx) g.ki.cell hi (x3q z g.hb g.ky) g.kj.cell A i0 o0 s0 t0;rw[show ∀ a b c d e:Value,(#[a]++#[b,c,d,e]:Array Value)=#[a,b,c,d,e] from fun _ _ _ _ _=>rfl];exact h⟩
theorem y7e {S:Bool->Nat->Option VV} {b b':Bool} {j c:Nat} {x:VV} (h:¬ (b'=b/\c=j)):updV S b j x b' c=S b' c:=if_neg h
theorem z6v (S:Bool->Nat->Option VV) (b:Bool) (j:Nat) (x:VV):updV S b j x b j=some x:=if_pos ⟨rfl,rfl⟩
theorem y0t {D:MD} {b b':Bool} {j c:Nat} {sel:Int->Int->Bool} {v:VV} {s:RS} (h:¬ (b'=b/\c=j)):(z2z D b j sel v s).1 b' c=s.1 b' c:=if_neg h
theorem z8j (S:Bool->Nat->Option VV) (b:Bool) (j:Nat) (x y:VV):updV (updV S b j x) b j y=updV S b j y:=by
 funext b' j';unfold updV;by_cases e:b'=b/\j'=j<;>simp[e]
namespace VR
variable {w w':World} {B:Nat} {g:Bool->Nat} {m n:Nat} {R:Bool->Nat->Option Nat} {S:Bool->Nat->Option VV}
theorem gne_of (h:VR w B g m n R S) {q:Nat} {cs:Array Value} {t:TypeId} {fr:Nat × Nat} (d:w.heap[q]?=some (.cells cs t fr)) (c:t≠102) (b:Bool):g b≠q:=z0h (h.top b) d c
theorem rne_of (h:VR w B g m n R S) {q:Nat} {cs:Array Value} {t:TypeId} {fr:Nat × Nat} (l:w.heap[q]?=some (.cells cs t fr)) (k:t≠9) {b:Bool} {j r:Nat} (d:j<m) (i:R b j=some r):r≠q:=by
 cases c:S b j with
 | none=>have:=(h.non b j d).2 c;rw[i] at this;cases this
 | some x0=>exact z0h (h.row b j r x0 d i c).1 l k
theorem step2 {b:Bool} {j r D:Nat} {x:VV} (h:VR w B g m n R S) (C:j<m) (o:R b j=some r) (hf:Fr (fun q=>q=D\/q=r) w w') (E:∀ b,g b≠D) (F:∀ b j r,j<m->R b j=some r->r≠D) (H:w'.rowIs r 9 n (fun q=>.string (x q))) (I:∀ q,smS (x q)):VR w' B g m n R (updV S b j x):=by
 have l:∃ s,S b j=some s:=by
  cases G:S b j with
  | none=>have:=(h.non b j C).2 G;rw[o] at this;cases this
  | some s=>exact⟨s,rfl⟩
 obtain⟨s,l⟩:=l;refine⟨fun c=>hf.row (h.top c) (fun e=>e.elim (E c) (h.topne C o l)),h.gne,h.low,fun c i d=>?_,fun c i A z d k p=>?_,h.sep,fun c i z k=>?_⟩
 ·unfold updV;by_cases e:c=b/\i=j
  ·obtain⟨rfl,rfl⟩:=e;rw[if_pos ⟨rfl,rfl⟩,o];simp
  rw[if_neg e];exact h.non c i d
 ·unfold updV at p;by_cases e:c=b/\i=j
  ·obtain⟨rfl,rfl⟩:=e;rw[if_pos ⟨rfl,rfl⟩] at p;cases p;rw[o] at k;cases k;exact⟨H,(h.row c i r s C o l).2⟩
  rw[if_neg e] at p;refine⟨hf.row (h.row c i A z d k p).1 (fun u=>?_),(h.row c i A z d k p).2⟩
  rcases u with u|u
  ·exact F c i A d k u
  subst u;exact e (h.sep c i b j A d C k o)
 unfold updV at k;by_cases e:c=b/\i=j
 ·rw[if_pos e] at k;cases k;exact I
 rw[if_neg e] at k;exact h.sm c i z k
end VR
structure VR1 (w:World) (B g m n:Nat) (R:Nat->Option Nat) (S:Nat->Option VV):Prop where
 top:w.rowIs g 102 m (fun j=>vrV n (R j))
 low:B<=g
 non:∀ j,j<m->(R j=none↔S j=none)
 row:∀ j r x,j<m->R j=some r->S j=some x->w.rowIs r 9 n (fun q=>.string (x q))/\B<=r
 sep:∀ j j' r,j<m->j' < m->R j=some r->R j'=some r->j=j'
 sm:∀ j x,S j=some x->∀ q,smS (x q)
theorem VR.one {w:World} {B:Nat} {g:Bool->Nat} {m n:Nat} {R:Bool->Nat->Option Nat} {S:Bool->Nat->Option VV} (h:VR w B g m n R S) (b:Bool):VR1 w B (g b) m n (R b) (S b) :=
 ⟨h.top b,h.low b,h.non b,h.row b,fun j d r c l i k=>(h.sep b j b d r c l i k).2,h.sm b⟩
theorem VR1.kept {w i:World} {B g m n:Nat} {R:Nat->Option Nat} {S:Nat->Option VV} (h:VR1 w B g m n R S) (hf:Fr (fun _=>False) w i):VR1 i B g m n R S :=
 ⟨hf.row h.top (fun e=>e),h.low,h.non,fun j r x d c k=>⟨hf.row (h.row j r x d c k).1 (fun e=>e),(h.row j r x d c k).2⟩,h.sep,h.sm⟩
theorem VR1.two {w o:World} {B g i m n:Nat} {R:Nat->Option Nat} {S:Nat->Option VV} (h:VR1 w B g m n R S) (hf:Fr (fun _=>False) w o) (C:w.heap.size<=i) (D:B<=w.heap.size) (z:o.rowIs i 102 m (fun _=>.slice none 0 0)) :
  VR o B (fun b=>if b then i else g) m n (fun b=>if b then fun _=>none else R) (twoR S (fun _=>none)):=by
 have p:=h.kept hf;have s:=h.top.lt;refine⟨fun b=>?_,?_,fun b=>?_,fun b j d=>?_,fun b j r x d c k=>?_,fun b j A u r d l c k=>?_,fun b j x c=>?_⟩
 ·cases b
  ·exact p.top
  exact z
 ·show g≠i;omega
 ·cases b
  ·exact h.low
  show B<=i;omega
 ·cases b
  ·exact h.non j d
  exact⟨fun _=>rfl,fun _=>rfl⟩
 ·cases b
  ·exact p.row j r x d c k
  cases c
 ·cases b<;>cases A
  ·exact⟨rfl,h.sep j u r d l c k⟩
  ·cases k
  ·cases c
  cases c
 cases b
 ·exact h.sm j x c
 cases c
end
end Go.Proofs.YteappjogmnogcaaGreatDoor
