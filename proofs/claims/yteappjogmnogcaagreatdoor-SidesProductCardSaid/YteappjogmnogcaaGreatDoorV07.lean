/- Parts of a proof: C5 WgS WgT EdL EdM WgF WgO WgR WgV. -/
import Derived.Test.YteappjogmnogcaaGreatDoorV06
import Derived.Deep.RegionHeld2
import Derived.Deep.QuietTactic
import Derived.BigQuiet
import Derived.Laws.Cover3
namespace Go.Proofs.YteappjogmnogcaaGreatDoor
set_option maxRecDepth 100000
set_option linter.unusedSimpArgs false
set_option linter.unusedVariables false
set_option linter.unusedSectionVars false
set_option maxHeartbeats 16000000
open Go Tryz
section
open Go.RowKit Go.Deep
theorem tryL {α:Type}:(∀ (l:List α) (i:Nat) (a:α),l.toArray.setIfInBounds i a=(l.set i a).toArray)/\(∀ (a b:α) (l:List α),(a::l).set 0 b=b::l)/\(∀ (a b:α) (l:List α) (n:Nat),(a::l).set (n+1) b=a::l.set n b)/\(∀ (l:List α) (i:Nat) (h:i<l.toArray.size),l.toArray[i]=l[i]'(by simpa using h))/\(∀ (a:α) (l:List α) (i:Nat) (h:i+1<(a::l).length),(a::l)[i+1]=l[i]'(by simpa using h))/\(∀ (a:α) (l:List α) (h:0<(a::l).length),(a::l)[0]=a) :=
 ⟨fun _ _ _=>List.setIfInBounds_toArray ..,fun _ _ _=>rfl,fun _ _ _ _=>rfl,fun _ _ _=>rfl,fun _ _ _ _=>rfl,fun _ _ _=>rfl⟩
section
variable {P:Program} {ops:Array Oper} {Q:Exit->Act->World->Prop} {S:World->Prop} {s:Nat}
def z0c (P:Program) (ops:Array Oper) (Q:Exit->Act->World->Prop) (S:World->Prop) (s:Nat):Nat->Array Bool->Act->World->Prop
 | 0,listed,a,w=>Region.ready .any ops listed=[]/\Q .normal a w
 | fuel+1,listed,a,w=>(Region.ready .any ops listed=[]->Q .normal a w) /\
  ∀ i ∈ Region.ready .any ops listed,wpOp P ops Q i (fun a' w'=>(i=s\/S w')/\z0c P ops Q S s fuel (listed.setIfInBounds i true) a' w') a w
theorem z0c.any:∀ (fuel:Nat) (listed:Array Bool) (a:Act) (w:World),z0c P ops Q S s fuel listed a w->wpAny P .any ops Q fuel listed a w
 | 0,_,_,_,h=>h
 | fuel+1,_,_,_,h=>⟨h.1,fun i hi=>wpOp_mono (fun a' w' h'=>z0c.any fuel _ a' w' h'.2) (h.2 i hi)⟩
def waits (ops:Array Oper):Nat->Nat->Nat->Bool
 | 0,_,_=>false
 | f+1,s,i=>match ops[s]? with
  | some o=>o.after.any fun e=>Region.binds .any e&&(e.on==i||waits ops f e.on i)
  | none=>false
def Closed (ops:Array Oper) (listed:Array Bool):Prop:=∀ j o,listed.getD j false=true->ops[j]?=some o->∀ e ∈ o.after,Region.binds .any e=true->listed.getD e.on false=true
def y4a (ops:Array Oper) (listed:Array Bool):Bool:=(List.range ops.size).all fun j=>!listed.getD j false||match ops[j]? with
 | some o=>o.after.all fun e=>!Region.binds .any e||listed.getD e.on false
 | none=>true
theorem y9u {c:Array Bool} (h:y4a ops c=true):Closed ops c:=fun j o k g e l hb=>by
 have d:=List.all_eq_true.1 h j (List.mem_range.2 (Array.getElem?_eq_some_iff.1 g).1);rw[k,g] at d;simp only[Bool.not_true,Bool.false_or] at d;have i:=Array.all_eq_true_iff_forall_mem.1 d e l;rw[hb] at i;simpa using i
theorem Closed.set {c:Array Bool} {j:Nat} (h:Closed ops c) (s:j ∈ Region.ready .any ops c):Closed ops (c.setIfInBounds j true):=fun k o m p e l hb=>by
 by_cases g:j=k
 ·subst g;obtain⟨_,u,i,d⟩:=mem_ready.1 s;rw[p] at i;cases i;exact getD_set_true (d e l hb)
 rw[getD_set_ne false g] at m;exact getD_set_true (h k o m p e l hb)
theorem y2k {c:Array Bool} (z:Closed ops c) {i:Nat}:∀ (f s:Nat),waits ops f s i=true->(∀ o,ops[s]?=some o->∀ e ∈ o.after,Region.binds .any e=true->c.getD e.on false=true)->c.getD i false=true:=by
 intro f
 induction f with
 | zero=>intro s h;simp[waits] at h
 | succ f ih =>
  intro s h p;unfold waits at h;cases d:ops[s]? with
  | none=>rw[d] at h;simp at h
  | some o =>
   rw[d] at h;obtain⟨e,u,hb⟩:=Array.any_eq_true'.1 h;simp only[Bool.and_eq_true,Bool.or_eq_true,beq_iff_eq] at hb;have m:=p o d e u hb.1
   rcases hb.2 with g|g
   ·rw[<- g];exact m
   exact ih e.on g (fun B j A l k=>z e.on B m j A l k)
theorem z0c.first {i:Nat} {D:Oper} {v:Value} (hi:ops[i]?=some D) (hw:waits ops ops.size s i=true) (B:∀ (j:Nat) (o:Oper) cs b,ops[j]?=some o->o.op≠.select cs b)
  (hQ:∀ c a w,Q (.panic c) (a.put D.dst v) w->Q (.panic c) a w) :
  ∀ (l:Nat) (d:Array Bool) (a:Act) (w:World),
   (∀ j oj,ops[j]?=some oj->j≠i->d.getD j true=false->(∀ e ∈ oj.after,Region.binds .any e=true->e.on≠i)->D.apart ops oj=true) ->
   i ∈ Region.ready .any ops d->Closed ops d->YieldsIf P ops S D v a->S w ->
   z0c P ops Q S s l (d.setIfInBounds i true) (a.put D.dst v) w->z0c P ops Q S s (l+1) d a w:=by
 intro l
 induction l with
 | zero =>
  intro d a w _ E F R I H;refine⟨fun h=>(by rw[h] at E;cases E),fun j N=>?_⟩;by_cases g:j=i
  ·subst g;exact R.wpOp hi I ⟨.inr I,H⟩
  have:=ready_mono N g;rw[H.1] at this;cases this
 | succ l ih =>
  intro d a w m E F R I H;refine⟨fun h=>(by rw[h] at E;cases E),fun j N=>?_⟩;by_cases g:j=i
  ·subst g;exact R.wpOp hi I ⟨.inr I,H⟩
  have T:=H.2 j (ready_mono N g);obtain⟨A,oj,z,C⟩:=mem_ready.1 N;have p:d.getD i false=false:=by
   have h0:=(mem_ready.1 E).1
   rcases Nat.lt_or_ge i d.size with Z|Z
   ·simp[Z] at h0 ⊢;exact h0
   simp[Array.getElem?_eq_none Z]
  have O:∀ e ∈ oj.after,Region.binds .any e=true->e.on≠i:=fun e he hb U=>by
   have T:=C e he hb;rw[U,p] at T;cases T
  have W:j≠s:=fun e=>by
   subst e;have:=y2k F _ _ hw (fun o' J e he hb=>by rw[z] at J;cases J;exact C e he hb);rw[p] at this;cases this
  have h2:=wpOp_putIf z (m j oj z g A O) (fun cs b=>B i D cs b hi) (fun cs b=>B j oj cs b z) hQ R T;have u:∀ k ok,ops[k]?=some ok->k≠i->(d.setIfInBounds j true).getD k true=false ->
    (∀ e ∈ ok.after,Region.binds .any e=true->e.on≠i)->D.apart ops ok=true:=fun k ok hk a1 K X=>by
   refine m k ok hk a1 ?_ X;by_cases G:j=k
   ·subst G;exact A
   rw[getD_set_ne true G] at K;exact K
  refine wpOp_mono (fun a' w' Y=>?_) h2;have L:S w':=Y.2.1.resolve_left W;refine⟨.inr L,ih (d.setIfInBounds j true) a' w' u (ready_mono E (Ne.symm g)) (F.set N) Y.1 L ?_⟩;rw[Array.setIfInBounds_comm _ _ g];exact Y.2.2
theorem z0c.take {i:Nat} {j:Oper} {v:Value} {g:Nat} {d:Array Bool} {a:Act} {w:World} (hi:ops[i]?=some j) (l:waits ops ops.size s i=true) (k:y4a ops d=true)
  (o:Region.noSelect ops=true) (hf:Region.free .any ops d i=true) (m:(Region.ready .any ops d).contains i=true)
  (hQ:∀ c a w,Q (.panic c) (a.put j.dst v) w->Q (.panic c) a w) (u:S w) (p:YieldsIf P ops S j v a)
  (h:z0c P ops Q S s g (d.setIfInBounds i true) (a.put j.dst v) w):z0c P ops Q S s (g+1) d a w :=
 z0c.first hi l (Region.noSelect_spec o) hQ g d a w (Region.free_spec hi hf) (by simpa using m) (y9u k) p u h
def tkB (ops:Array Oper) (s i:Nat) (listed:Array Bool):Bool:=waits ops ops.size s i&&y4a ops listed&&Region.noSelect ops&&Region.free .any ops listed i&&(Region.ready .any ops listed).contains i
theorem z0c.tk {i:Nat} {j:Oper} {v:Value} {g:Nat} {d:Array Bool} {a:Act} {w:World} (hi:ops[i]?=some j) (hb:tkB ops s i d=true) (l:S w) (k:YieldsIf P ops S j v a)
  (h:z0c P ops Q S s g (d.setIfInBounds i true) (a.put j.dst v) w) (hQ:∀ c a w,Q (.panic c) (a.put j.dst v) w->Q (.panic c) a w:=by exact fun _ _ _ h=>h):z0c P ops Q S s (g+1) d a w:=by
 unfold tkB at hb;simp only[Bool.and_eq_true] at hb;exact z0c.take hi hb.1.1.1.1 hb.1.1.1.2 hb.1.1.2 hb.1.2 hb.2 hQ l k h
theorem z0c.one {i:Nat} {o:Oper} {d:Nat} {c:Array Bool} {a:Act} {w:World} (u:ops[i]?=some o) (k:Region.ready .any ops c=[i]) (g:Region.wanted o (yielded ops a.tmps)=true)
  (h:∀ K:Act->World->Prop,Shut (∀ a w,(i=s\/S w)->z0c P ops Q S s d (c.setIfInBounds i true) a w->K a w)->Oper.wp P o a w K Q):z0c P ops Q S s (d+1) c a w:=by
 refine⟨fun m=>(by rw[k] at m;cases m),fun j l=>?_⟩;rw[k] at l;obtain rfl:j=i:=by simpa using l
 exact wpOp_step u (fun K p=>by rw[if_pos g];exact h K (fun a w z A=>p a w ⟨z,A⟩))
theorem z0c.tm (i:Nat) {j:Oper} {v:Value} {g:Nat} {d:Array Bool} {a:Act} {w:World} (m:S w)
  (h:z0c P ops Q S s g (d.setIfInBounds i true) (a.put j.dst v) w) (hi:ops[i]?=some j:=by rfl) (hb:tkB ops s i d=true:=by kernel_rfl) (k:Region.wanted j (yielded ops a.tmps)=true:=by kernel_rfl)
  (l:∀ w,S w->(execOp a.eval j).run P w=.ok (.value v) w:=by (intro w h;go_simp;try with_reducible rfl)) (hQ:∀ c a w,Q (.panic c) (a.put j.dst v) w->Q (.panic c) a w:=by exact fun _ _ _ h=>h):z0c P ops Q S s (g+1) d a w:=z0c.tk hi hb m (.inl ⟨k,l⟩) h hQ
theorem z0c.on (i:Nat) {o:Oper} {d:Nat} {c:Array Bool} {a:Act} {w:World} (h:∀ K:Act->World->Prop,Shut (∀ a w,(i=s\/S w)->z0c P ops Q S s d (c.setIfInBounds i true) a w->K a w)->Oper.wp P o a w K Q)
  (k:ops[i]?=some o:=by rfl) (j:Region.ready .any ops c=[i]:=by kernel_rfl) (g:Region.wanted o (yielded ops a.tmps)=true:=by rfl):z0c P ops Q S s (d+1) c a w:=z0c.one k j g h
theorem z0c.done {listed:Array Bool} {a:Act} {w:World} (hr:Region.ready .any ops listed=[]) (h:Q .normal a w):∀ fuel,z0c P ops Q S s fuel listed a w
 | 0=>⟨hr,h⟩
 | _+1=>⟨fun _=>h,by rw[hr];simp⟩
theorem z0c.dn {c:Array Bool} {a:Act} {w:World} {d:Nat} (h:Q .normal a w) (g:Region.ready .any ops c=[]:=by kernel_rfl):z0c P ops Q S s d c a w:=z0c.done g h d
theorem z0h (S:World->Prop) (s:Nat) {c:Nat} {a:Act} {w:World} (d:P.follows .mixedOrders=true)
  (h:z0c P ops Q S s ops.size (Array.replicate ops.size false) a w.drew):(Code.region c ops true).wp P Q a w :=
 wp_region_any d (z0c.any _ _ _ _ h)
end
end
section
open Go.RowKit Go.Deep
theorem x8r:∀ args w,(callFunc 183 args).run prog w=.ok (.enter 183 args) w:=fun args w=>by kernel_rfl
def EachE {k:KK} (F:Prop) (B tb sb g n e:Nat) (R:Nat->Value) (M:Nat->Nat->RK k) (w:World) (r:Ending) (w':World):Prop :=
 ∃ e' Y,r=.returned (.tuple #[])/\Tb w' k.1 B tb sb g n e' R Y/\MatIs e' n Y (CSR.elims M n)/\Er F e'/\(e'=0->e=0)/\Gr B (some sb) w w'
theorem x9s {k:KK} {F:Prop} {N B O u g n e:Nat} {R:Nat->Value} {X:Nat->Nat->ByteArray} {M:Nat->Nat->RK k} {w:World} {a:Option Addr} {cap b j:Nat} {RA:Nat->Value} (hn:n<=60)
  (ha:0<n->a=some ⟨b,j,none⟩) (hb:0<n->b<B/\b≠u) (d:∀ i,i<n->w.cell? ⟨b,j+i,none⟩=some (RA i))
  (I:Tb w k.1 B O u g n e R X) (K:MatIs e n X M) (he:Er F e) (hF:F->∀ p,p<n->FitE n p (CSR.elims M p)) (ht:TabB N w) (hB:N<=u) :
  Calls prog 182 #[.slice a n cap,.func (.func 183) #[.pointer (some ⟨O,0,none⟩)] #[]] w (EachE F B O u g n e R M w):=by
 have a5:=x8r;have s:=qh I;clear I;have G:=qh K;clear K;have J:=qh he;clear he;have HF:=qh hF;clear hF;have c:=qh ht;clear ht;have HC:=qh d;clear d;have HA:=qh ha;clear ha;have HB:=qh hb;clear hb
 go_enter func182,ntmps182
 go_wp2_with fail
 go_loopw [8] (fun i wr=>∃ (q z:Nat) (Y:Nat->Nat->ByteArray),q<=n/\i=.int .i64 (q:Int)/\Tb wr k.1 B O u g n z R Y/\MatIs z n Y (CSR.elims M q)/\Er F z/\(z=0->e=0)/\TabB N wr/\Gr B (some u) w wr)
  (fun i _=>n-(intOf i).toNat)
 case atStart=>exact⟨0,e,X,Nat.zero_le _,rfl,s.out,G.out,J.out,fun h=>h,c.out,Gr.refl _ _ _⟩
 obtain⟨q,z,Y,hq,rfl,I,K,hE,hm,H,hG⟩:=hrel;clear s G J c;have s:=qh I;clear I;have G:=qh K;clear K;have J:=qh hE;clear hE;have HM:=qh hm;clear hm;have c:=qh H;clear H;have Q:=qh hG;clear hG;by_cases m:q<n
 ·have a4:(q:Int)<(n:Int):=by omega
  have a3:(0:Int)<=(q:Int):=by omega
  obtain rfl:=HA.out (by omega);obtain⟨a1,Z⟩:=HB.out (by omega);have c0:wr.cell? ⟨b,j+q,none⟩=some (RA q):=(World.cell?_of_block (w:=w) (a:=⟨b,j+q,none⟩) (Q.out.block b a1 (by simp;exact Z))).trans (HC.out q m)
  go_wp2_with fail
  refine(v6v (RA q) hn m s.out G.out J.out (fun f=>HF.out f q m) c.out hB).mono ?_;rintro r w1 ⟨e1,Y1,rfl,C,L,A,D,o⟩;have l:TabB N w1:=c.out.gr o (by intro q hq;cases hq;exact hB) (by have:=s.out.sbB;omega);have S:=qh C;clear C;have a2:=qh L;clear L;have P:=qh A;clear A;have U:=qh D;clear D;have T:=qh o;clear o;have E:=qh l;clear l;clear c0;go_wp2;go_roundw
  case rel=>exact⟨q+1,e1,Y1,by omega,by go_num,S.out,a2.out,P.out,fun h=>HM.out (U.out h),E.out,Q.out.trans T.out⟩
  simp[intOf];omega
 have W:q=n:=by omega
 subst W;have a6:¬ ((q:Int)<(q:Int)):=by omega
 go_wp2_with fail
 go_end0
 exact⟨z,Y,rfl,s.out,G.out,J.out,HM.out,Q.out⟩
structure FitM {k:KK} (n:Nat) (M:Nat->Nat->RK k):Prop where
 steps:∀ p,p<n->FitE n p (CSR.elims M p)
 last:∀ i,i<n->fitV (CSR.elims M n i i+CSR.one).1
def PowE {k:KK} (F:Prop) (sb n e:Nat) (M:Nat->Nat->RK k) (w:World) (r:Ending) (w':World):Prop :=
 ∃ v e' Y,r=.returned v/\Mt (some sb) w' v n (fun _=>n) Y/\MatIs e' n Y (CSR.starM M n)/\Er F e'/\(e'=0->e=0)/\SumB w' sb k.1 e'/\w.grownBy w' (some sb)
def PW (w:World) (sb n:Nat):World:=(w.alloc (.cells (madeCells #[.slice none 0 0] n) 79)).alloc (.cells #[.pointer (some ⟨sb,0,none⟩),.slice (some ⟨w.heap.size,0,none⟩) n n] 184)
theorem u4g (w:World) (c n:Nat):(PW w c n).heap[w.heap.size+1]?=some (.cells #[.pointer (some ⟨c,0,none⟩),.slice (some ⟨w.heap.size,0,none⟩) n n] 184 (0,0)):=by
 have:=heap_alloc_new (w.alloc (.cells (madeCells #[.slice none 0 0] n) 79)) (.cells #[.pointer (some ⟨c,0,none⟩),.slice (some ⟨w.heap.size,0,none⟩) n n] 184);rw[show (w.alloc (.cells (madeCells #[.slice none 0 0] n) 79)).heap.size=w.heap.size+1 by simp] at this;exact this
theorem u6s (w:World) (c n:Nat) (X:Nat->Nat->ByteArray):OM (PW w c n) (fun b=>b=w.heap.size+1) w.heap.size 9 79 w.heap.size n (fun _=>.slice none 0 0) (fun l=>if l<0 then n else 0) X:=by
 have h:=(OM.made w (fun _=>False) (by simp) w.heap.size nlr 9 79 n X).fence (.cells #[.pointer (some ⟨c,0,none⟩),.slice (some ⟨w.heap.size,0,none⟩) n n] 184);rw[show (w.alloc (.cells (madeCells #[.slice none 0 0] n) 79)).heap.size=w.heap.size+1 by simp] at h;exact h.congrL fun _ _=>by simp
theorem v5w (w:World) (c n:Nat):Below w.heap.size w (PW w c n):=(blr.alloc nlr _).alloc (by simp) _
theorem y8v {w:World} {b c n:Nat} {X:Nat->ByteArray} (h:∀ j,j<n->w.cell? ⟨b,c+j,none⟩=some (.string (X j))):∀ j u,(strs n X)[j]?=some u->w.cell? ((⟨b,c,none⟩:Addr).add j)=some u:=by
 intro j u d;have i:j<n:=by
  rcases Nat.lt_or_ge j n with g|g
  ·exact g
  rw[List.getElem?_eq_none (by rw[z5h];exact g)] at d;cases d
 rw[z4t _ _ _ i] at d;cases d;rw[Addr.add_lit];exact h j i
theorem v7z {wr wa:World} {c:Nat} {o:Obj} {z:Option Nat} (h:wr.heap[c]?=some o) (g:wr.drew.grownBy wa z) (d:some c≠z) {p:Addr} (i:c≠p.block) (v:Value):(wa.setCell p v).heap[c]?=some o:=by
 rw[blk_setCell_other _ _ _ _ i,g.block c (Array.getElem?_eq_some_iff.1 h).1 d];exact h
def Diag {k:KK} (e n c:Nat) (Z:Nat->Nat->ByteArray) (N:Nat->Nat->RK k):Prop:=∀ l j,l<n->j<n->Is k e (Z l j) (if l=j/\l<c then N l j+CSR.one else N l j)
theorem Diag.start {k:KK} {e n:Nat} {Z:Nat->Nat->ByteArray} {N:Nat->Nat->RK k} (h:MatIs e n Z N):Diag e n 0 Z N:=fun l j c d=>by rw[if_neg (by omega)];exact h l j c d
theorem Diag.next {k:KK} {e e' n c:Nat} {Z:Nat->Nat->ByteArray} {N:Nat->Nat->RK k} {u:ByteArray} (h:Diag e n c Z N) (o:e'=0->e=0) (p:Is k e' u (N c c+CSR.one)):Diag e' n (c+1) (fun l j=>if l=c/\j=c then u else Z l j) N:=fun l j i m=>by
 by_cases g:l=c/\j=c
 ·obtain⟨rfl,rfl⟩:=g;rw[if_pos (by omega)];simpa using p
 have:=(h l j i m).mono o;simp only[if_neg g];by_cases d:l=j/\l<c
 ·rw[if_pos d] at this;rw[if_pos (by omega)];exact this
 rw[if_neg d] at this;rw[if_neg (by omega)];exact this
theorem Diag.done {k:KK} {e n:Nat} {Z:Nat->Nat->ByteArray} {M:Nat->Nat->RK k} (h:Diag e n n Z (CSR.elims M n)):MatIs e n Z (CSR.starM M n):=fun l j d g=>by
 have:=h l j d g;unfold CSR.starM CSR.eye;by_cases c:l=j
 ·rw[if_pos ⟨c,d⟩] at this;rw[if_pos c];exact this
 rw[if_neg (fun h=>c h.1)] at this;rw[if_neg c,CSR.a0];exact this
abbrev S4 (a b c d:Addr) (u v x y:Value) (wk:World):Prop:=wk.cell? a=some u/\wk.cell? b=some v/\wk.cell? c=some x/\wk.cell? d=some y
theorem y5w {k:KK} {F:Prop} {B0 m n e:Nat} {X:Nat->Nat->ByteArray} {M:Nat->Nat->RK k} {w:World} {v:Value} (hn:n<=60)
  (hA:Mt (some m) w v n (fun _=>n) X) (hX:MatIs e n X M) (hs:SumB w m k.1 e) (he:Er F e) (hF:F->FitM n M) (ht:TabB B0 w) (hB:B0<=m) :
  Calls prog 155 #[.pointer (some ⟨m,0,none⟩),v] w (PowE F m n e M w):=by
 obtain⟨a,l8,b,s,A,C,BB,O,rfl,ha,hc,hm,hb,a1⟩:=hA.open;unfold maxLen at hm;have c8:=hs.lt;have HS:=qh hs;clear hs;have HX:=qh hX;clear hX;have HE:=qh he;clear he;have HF:=qh hF;clear hF;have e8:=qh ht;clear ht;have HA:=qh ha;clear ha;have HB:=qh hb;clear hb;have HR:=qh a1;clear a1 hA;have j4:=run_make_row' (P:=prog) 75 79 (.slice none 0 0) 24 underlying75 y0d rfl .i64 .i64 n (by omega) (by omega)
 go_enter func155,ntmps155
 go_wp2_with fail
 change Code.wp _ _ _ _ (PW w m n);clear j4;have g0:=qh (u4g w m n);have g5:=qh (u6s w m n X);have h3:=qh (v5w w m n);generalize PW w m n=wp at *;obtain⟨B,N⟩:=exq (w.heap.size+1);obtain⟨g,D⟩:=exq (w.heap.size);rw[<- N,<- D];rw[<- D] at c8 N;have a3:=qh (show wp.heap[B]?=some (.cells #[.pointer (some ⟨m,0,none⟩),.slice (some ⟨g,0,none⟩) n n] 184 (0,0)) from by rw[N,D];exact g0.out);have a2:=qh (show OM wp (fun b=>b=B) g 9 79 g n (fun _=>.slice none 0 0) (fun l=>if l<0 then n else 0) X from by rw[N,D];exact g5.out)
 have a9:=qh (show Below g w wp from by rw[D];exact h3.out);have b3:=qh (show 0<n->b<g/\b≠m from fun h=>by rw[D];exact⟨(HB.out h).1,by have:=(HB.out h).2;simpa using this⟩);have g4:=qh (show ∀ i,i<n->w.cell? ⟨b,s+i,none⟩=some (.slice (A i) n (C i))/\n<=C i/\C i<=maxLen/\(0<n->A i=some ⟨BB i,O i,none⟩)/\(0<n->BB i<g)/\∀ j,j<n->w.cell? ⟨BB i,O i+j,none⟩=some (.string (X i j)) from fun i hi=>by
  obtain⟨k1,k2,k3,k4,k5,_,k7⟩:=HR.out i hi;exact⟨k1,k2,k3,k4,fun h=>by rw[D];exact(k5 h).1,k7⟩)
 have E:=qh D;clear D;have b5:=qh N;clear N;clear g0 g5 h3 HB HR
 go_loopw [16] (fun i wr=>∃ (q:Nat) (R2:Nat->Value),q<=n/\i=.int .i64 (q:Int)/\wr.heap[B]?=some (.cells #[.pointer (some ⟨m,0,none⟩),.slice (some ⟨g,0,none⟩) n n] 184 (0,0)) /\
  OM wr (fun b=>b=B) g 9 79 g n R2 (fun l=>if l<q then n else 0) X /\
  (∀ l,q<=l->R2 l=.slice none 0 0)/\Below g w wr) (fun i _=>n-(intOf i).toNat)
 case atStart=>exact⟨0,_,Nat.zero_le _,rfl,a3.out,a2.out,fun _ _=>rfl,a9.out⟩
 obtain⟨q,R2,hq,rfl,a5,h0,a8,d9⟩:=hrel;clear a3 a2 a9;have U:=qh a5;clear a5;have L:=qh h0;clear h0;have b7:=qh a8;clear a8;have G:=qh d9;clear d9;by_cases o:q<n
 ·have l5:(q:Int)<(n:Int):=by omega
  have l2:(0:Int)<=(q:Int):=by omega
  obtain rfl:=HA.out (by omega);obtain⟨d6,j0⟩:=b3.out (by omega);obtain⟨k1,k2,k3,k4,k5,k7⟩:=g4.out q o;have f5:=k4 (by omega);have b8:=k5 (by omega);rw[f5] at k1;have c0:=(G.out.cell (p:=⟨b,s+q,none⟩) d6).trans k1;have f0:=qh (fun j (hj:j<n)=>(G.out.cell (p:=⟨BB q,O q+j,none⟩) b8).trans (k7 j hj));have t1:wr.cell? ⟨B,1,none⟩=some (.slice (some ⟨g,0,none⟩) n n):=by have:=U.out;simp[World.cell?,this]
  have o0:=L.out.cell o;rw[b7.out q nlr] at o0;unfold maxLen at k3;have b1:=z6i wr none;have j8:=L.out.lt;have e5:g<=wr.heap.size:=by rw[E.out];exact G.out.size
  have l7:(C q:Int)<=9223372036854775807:=by omega
  clear k1 k4 k5 k7 f5;have m4:BB q<g:=b8;clear b8 d6 j0;obtain⟨i0,j7,i8,i3,k0⟩:=info_parts y9a;have i6:=qh (show ∀ j,j<n->wr.drew.cell? ⟨BB q,O q+j,none⟩=some (.string (X q j)) from f0.out);clear f0
  go_wp2_with fail
  have d:S4 ⟨B,1,none⟩ ⟨g,q,none⟩ ⟨b,s+q,none⟩ ⟨b,s+q,none⟩ (.slice (some ⟨g,0,none⟩) n n) (.slice none 0 0) (.slice (some ⟨BB q,O q,none⟩) n (C q)) (.slice (some ⟨BB q,O q,none⟩) n (C q)) wr.drew:=⟨t1,o0,c0,c0⟩;refine z0h (S4 ⟨B,1,none⟩ ⟨g,q,none⟩ ⟨b,s+q,none⟩ ⟨b,s+q,none⟩ (.slice (some ⟨g,0,none⟩) n n) (.slice none 0 0) (.slice (some ⟨BB q,O q,none⟩) n (C q)) (.slice (some ⟨BB q,O q,none⟩) n (C q))) 18 (by kernel_rfl) ?_;refine z0c.tm 0 d ?_;refine z0c.tm 1 d ?_;refine z0c.tm 2 d ?_;refine z0c.tm 3 d ?_;refine z0c.tm 4 d ?_;refine z0c.tm 5 d ?_;refine z0c.tm 6 d ?_;refine z0c.tm 7 d ?_;refine z0c.tm 8 d ?_;refine z0c.tm 9 d ?_;refine z0c.tm 10 d ?_;refine z0c.tm 11 d ?_;refine z0c.tm 12 d ?_;refine z0c.tm 13 d ?_;refine z0c.tm 14 d ?_;refine z0c.tm 15 d ?_
  try simp only[Act.put,tryL]
  refine z0c.on 16 fun K I=>?_;refine wp_append_lies _ (.tmp 30) (.tmp 34) 79 rfl g 9 i0 (.string ⟨#[]⟩) 1 16 underlying79 j7 i8 i3 k0 rfl (by omega) (.slice none 0 0) 0 [] (by simp[Act.eval]) (World.ownsRow_nil _ _ _ _) ⟨BB q,O q,none⟩ n (C q) (strs n (X q)) (by simp[Act.eval]) (by rw[z5h,Nat.mul_one])
     (y8v i6.out) (x0a _ _) (by omega) (by unfold maxLen;omega) (by omega) e5 wr.heap.size rfl ?_
  intro go l3 wa d5 u j3 k6;have S:=z1g b1 u;have m3:=(S.frozen_far ⟨g,q,none⟩ j8 (by simp)).trans (L.out.frozen q);have i2:=S.cell o0 (by simp);have d7:S4 ⟨B,1,none⟩ ⟨g,q,none⟩ ⟨b,s+q,none⟩ ⟨b,s+q,none⟩ (.slice (some ⟨g,0,none⟩) n n) (.slice none 0 0) (.slice (some ⟨BB q,O q,none⟩) n (C q)) (.slice (some ⟨BB q,O q,none⟩) n (C q)) wa :=
   ⟨S.cell t1 (by simp),i2,S.cell c0 (by simp),S.cell c0 (by simp)⟩
  refine I.out _ _ (.inr d7) ?_;clear I K
  try simp only[Act.put,tryL]
  refine z0c.tm 17 d7 ?_
  try simp only[Act.put,tryL]
  refine z0c.on 18 fun K I=>?_;go_simp;refine I.out _ _ (.inl rfl) (z0c.dn ?_);clear I K;go_wp2;go_roundw
  case rel =>
   obtain⟨R3,h1,h2⟩:=x0q L.out o b7.out d5 u j3;exact⟨q+1,R3,by omega,by go_num,v7z U.out u (by simp[Value.ownBlock]) (by show B≠g;have:=b5.out;omega) _,h1,h2,((G.out.drew).grown u (by show g<=wr.heap.size;exact e5) (by simp[Value.ownBlock])).setCell nlr _⟩
  simp[intOf];omega
 have i9:q=n:=by omega
 subst i9;have d1:OM wr (fun b=>b=B) g 9 79 g q R2 (fun _=>q) X:=L.out.congrL fun l hl=>by rw[if_pos hl]
 have i4:¬ ((q:Int)<(q:Int)):=by omega
 have e6:Tb wr k.1 g (B) m g q e R2 X:=⟨U.out,HS.out.kept (E.out ▸ G.out),d1,c8,by have:=b5.out;omega⟩;have b0:TabB B0 wr:=e8.out.kept (z:=none) (z0b (E.out ▸ G.out) _) (by simp) (by have:=E.out;omega);have h5:Gr g (some m) w wr:=Gr.of (z0b (E.out ▸ G.out) _) (by rw[E.out];exact nlr);clear L b7 d1;have g7:=qh e6;clear e6 HS;have T:=qh b0;clear b0 e8;have d3:=qh h5;clear h5;have H:∀ i,i<q->wr.cell? ⟨b,s+i,none⟩=some (.slice (A i) q (C i)):=fun i hi=>(G.out.cell (p:=⟨b,s+i,none⟩) (b3.out (by omega)).1).trans (g4.out i hi).1;have h9:=qh H;clear H
 go_wp2_with fail
 refine(x9s hn HA.out b3.out h9.out g7.out HX.out HE.out (fun f=>(HF.out f).steps) T.out hB).mono ?_;rintro r w2 ⟨e2,Y,rfl,d4,g2,f9,d0,b4⟩;have a4:TabB B0 w2:=T.out.gr b4 (by intro q hq;cases hq;exact hB) (by omega);have b2:=qh d4;clear d4 g7;have f7:=qh (Diag.start g2);clear g2;have f3:=qh f9;clear f9;have j1:=qh d0;clear d0;have f2:=qh (d3.out.trans b4);clear b4 d3;have a7:=qh a4;clear a4 T;have t1:=b2.out.c1
 go_wp2_with fail
 clear t1
 go_loopw [47] (fun i wr=>∃ (c e3:Nat) (Z:Nat->Nat->ByteArray),c<=q/\i=.int .i64 (c:Int)/\Tb wr k.1 g B m g q e3 R2 Z/\Diag e3 q c Z (CSR.elims M q)/\Er F e3/\(e3=0->e2=0)/\TabB B0 wr/\Gr g (some m) w wr)
  (fun i _=>q-(intOf i).toNat)
 case atStart=>exact⟨0,e2,Y,Nat.zero_le _,rfl,b2.out,f7.out,f3.out,fun h=>h,a7.out,f2.out⟩
 obtain⟨c,e3,Z,m2,rfl,hT,hX,hE,hm,h4,hG⟩:=hrel;clear b2 f7 f3 a7 f2;have W:=qh hT;clear hT;have b9:=qh hX;clear hX;have e0:=qh hE;clear hE;have HM:=qh hm;clear hm;have a6:=qh h4;clear h4;have HG:=qh hG;clear hG;by_cases o:c<q
 ·have l6:(c:Int)<(q:Int):=by omega
  have l1:(0:Int)<=(c:Int):=by omega
  obtain⟨Q,cc,b6,g1,c9,l0,k9,l4,h6,e7,d2⟩:=W.out.om.form o (by omega);unfold maxLen at h6;have r0:=W.out.om.cell o;rw[b6] at r0;have r1:=d2 c o;have rf:=e7 c;have t1:=W.out.c1;have s0:=W.out.sum.c0;have i5:=qh b6;clear b6;clear e7 d2;have b1:=z6i wr (some m);have d:S4 ⟨B,1,none⟩ ⟨g,c,none⟩ ⟨Q,c,none⟩ ⟨m,0,none⟩ (.slice (some ⟨g,0,none⟩) q q) (.slice (some ⟨Q,0,none⟩) q cc) (.string (Z c c)) (.int .i64 k.1) wr.drew:=⟨t1,r0,r1,s0⟩;have j2:=b5.out;have f8:some B≠some m:=by simp;omega
  have f1:some g≠some m:=by simp;omega
  have c7:some Q≠some m:=by simp;omega
  clear j2
  go_wp2_with fail
  refine z0h (S4 ⟨B,1,none⟩ ⟨g,c,none⟩ ⟨Q,c,none⟩ ⟨m,0,none⟩ (.slice (some ⟨g,0,none⟩) q q) (.slice (some ⟨Q,0,none⟩) q cc) (.string (Z c c)) (.int .i64 k.1)) 26 (by kernel_rfl) ?_;refine z0c.tm 0 d ?_;refine z0c.tm 1 d ?_;refine z0c.tm 2 d ?_;refine z0c.tm 3 d ?_;refine z0c.tm 4 d ?_;refine z0c.tm 5 d ?_;refine z0c.tm 6 d ?_;refine z0c.tm 7 d ?_;refine z0c.tm 8 d ?_;refine z0c.tm 9 d ?_;refine z0c.tm 10 d ?_;refine z0c.tm 11 d ?_;refine z0c.tm 12 d ?_;refine z0c.tm 13 d ?_;refine z0c.tm 14 d ?_;refine z0c.tm 15 d ?_;refine z0c.tm 16 d ?_;refine z0c.tm 17 d ?_;refine z0c.tm 18 d ?_;refine z0c.tm 19 d ?_;refine z0c.tm 20 d ?_;refine z0c.tm 21 d ?_;refine z0c.tm 22 d ?_
  try simp only[Act.put,tryL]
  refine z0c.on 23 fun K I=>?_;go_simp;refine(z7f k.1 _).mono ?_;rintro r w3 ⟨rfl,g8⟩;have R:=z1g b1 (z0b g8 (some m));have g3:SumB w3 m k.1 e3:=W.out.sum.drew.kept g8;have j5:S4 ⟨B,1,none⟩ ⟨g,c,none⟩ ⟨Q,c,none⟩ ⟨m,0,none⟩ (.slice (some ⟨g,0,none⟩) q q) (.slice (some ⟨Q,0,none⟩) q cc) (.string (Z c c)) (.int .i64 k.1) w3:=⟨R.cell t1 f8,R.cell r0 f1,R.cell r1 c7,g3.c0⟩;refine I.out _ _ (.inr j5) ?_;clear I K
  try simp only[Act.put,tryL]
  refine z0c.on 24 fun K I=>?_;go_simp;have h7:Is k e3 (Z c c) (CSR.elims M q c c):=by have:=b9.out c c o o;rwa [if_neg (by omega)] at this
  refine(y3c h7 (Is.one k e3) e0.out (fun f=>(HF.out f).last c o) (a6.out.kept R (by intro q hq;cases hq;exact hB) (by have:=W.out.sum.lt;omega)).tab g3).mono ?_;rintro r w4 ⟨u4,e4,rfl,i7,h8,e9,f4,j6⟩;have J:=z1g R j6;have l9:=(J.frozen_far ⟨Q,c,none⟩ c9 c7).trans rf;have j9:=J.cell r1 c7;have g9:S4 ⟨B,1,none⟩ ⟨g,c,none⟩ ⟨Q,c,none⟩ ⟨m,0,none⟩ (.slice (some ⟨g,0,none⟩) q q) (.slice (some ⟨Q,0,none⟩) q cc) (.string (Z c c)) (.int .i64 k.1) w4:=⟨J.cell t1 f8,J.cell r0 f1,j9,f4.c0⟩;refine I.out _ _ (.inr g9) ?_;clear I K
  try simp only[Act.put,tryL]
  refine z0c.tm 25 g9 ?_
  try simp only[Act.put,tryL]
  refine z0c.on 26 fun K I=>?_;go_simp;refine I.out _ _ (.inl rfl) (z0c.dn ?_);clear I K;go_wp2;go_roundw
  case rel =>
   have g6:g<=wr.heap.size:=by rw[E.out];exact HG.out.size
   have e1:=((Gr.refl g (some m) wr).more J g6 (fun _ e=>.inl e)).set (p:=⟨Q,c,none⟩) (.inr g1) (.string u4);exact⟨c+1,e4,_,by omega,by go_num,(W.out.kept J f4).stored o o i5.out u4,b9.out.next e9 i7,h8,fun h=>HM.out (e9 h),
    a6.out.gr e1 (by intro q hq;cases hq;exact hB) (by omega),HG.out.trans e1⟩
  simp[intOf];omega
 have d8:c=q:=by omega
 subst d8;have i4:¬ ((c:Int)<(c:Int)):=by omega
 have t1:=W.out.c1;go_wp2;go_ret;exact⟨_,e3,Z,rfl,W.out.om.mt (by unfold maxLen;omega) (by intro q hq;cases hq;exact .inl c8),b9.out.done,e0.out,fun h=>j1.out (HM.out h),W.out.sum,Gr.gb (by have h:=HG.out;rw[E.out] at h;exact h)⟩
end
section
open Go.RowKit Go.Deep
def Scl (w:World) (cb:Nat) (D:MD) (sv star:Value) (e:Nat):Prop:=w.heap[cb]?=some (.cells #[.int .i64 D.kind,.int .i64 D.start,.string D.lead,sv,star,.int .i64 (e:Int)] 105 (0,0))
namespace Scl
variable {w w':World} {cb:Nat} {D:MD} {sv star:Value} {e:Nat}
theorem lt (h:Scl w cb D sv star e):cb<w.heap.size:=(Array.getElem?_eq_some_iff.1 h).1
theorem c0 (h:Scl w cb D sv star e):w.cell? ⟨cb,0,none⟩=some (.int .i64 D.kind):=by unfold Scl at h;simp[World.cell?,h]
theorem c1 (h:Scl w cb D sv star e):w.cell? ⟨cb,1,none⟩=some (.int .i64 D.start):=by unfold Scl at h;simp[World.cell?,h]
theorem c2 (h:Scl w cb D sv star e):w.cell? ⟨cb,2,none⟩=some (.string D.lead):=by unfold Scl at h;simp[World.cell?,h]
theorem c3 (h:Scl w cb D sv star e):w.cell? ⟨cb,3,none⟩=some sv:=by unfold Scl at h;simp[World.cell?,h]
theorem c4 (h:Scl w cb D sv star e):w.cell? ⟨cb,4,none⟩=some star:=by unfold Scl at h;simp[World.cell?,h]
theorem c5 (h:Scl w cb D sv star e):w.cell? ⟨cb,5,none⟩=some (.int .i64 (e:Int)):=by unfold Scl at h;simp[World.cell?,h]
theorem fz (h:Scl w cb D sv star e) (j:Nat):w.frozen? ⟨cb,j,none⟩=false:=by unfold Scl at h;simp[World.frozen?,h]
theorem setE (h:Scl w cb D sv star e) (e':Nat):Scl (w.setCell ⟨cb,5,none⟩ (.int .i64 (e':Int))) cb D sv star e':=by
 unfold Scl at h ⊢;simp[World.setCell,Array.getElem?_modify,h]
theorem kept {C:Nat->Prop} (h:Scl w cb D sv star e) (hf:Fr C w w') (c:¬ C cb):Scl w' cb D sv star e:=by unfold Scl;rw[hf.block cb h.lt c];exact h
end Scl
theorem z7h {a:ByteArray} (h:(a.toList==[])=true):a=⟨#[]⟩:=toList_eq (b:=⟨#[]⟩) (by rw[Lib.toList_data ⟨#[]⟩];exact h)
theorem y0x {g:Nat} {D:MD} {sv star:Value} {e:Nat} (a b:ByteArray) (w:World) (l:Scl w g D sv star e) (C:smS a) (hb:smS b) (B:Tab w) :
  Calls prog 123 #[.pointer (some ⟨g,0,none⟩),.string a,.string b] w (fun r w'=>r=.returned (.string (z2e D.kind a b e).1)/\Scl w' g D sv star (z2e D.kind a b e).2/\Fr (fun q=>q=g) w w'):=by
 have I:=l.c0;have H:=l.c5;have m:=qh l;clear l;cases o:(a.toList==[])
 ·have d:a≠⟨#[]⟩:=fun e=>by rw[e] at o;simp at o
  by_cases u:e=0
  ·subst u;have k:z2e D.kind a b 0=z1k D.kind a b:=by unfold z2e;rw[if_neg (by intro h;rcases h with h|h;exact d h;exact h rfl)]
   rw[k];have A:=y2b D.kind a b w C hb B;have F:=qh A;clear A B
   go_enter func123,ntmps123
   go_wp2_with fail
   refine F.out.mono ?_;rintro r z ⟨rfl,i⟩;have j:Fr (fun q=>q=g) w z:=Fr.of_below i;have c:Scl z g D sv star 0:=by unfold Scl;rw[i.block g m.out.lt];exact m.out
   have J:=c.fz 5;have G:=c.c5;have p:=qh c;clear c i;have s:=qh j;clear j;go_wp2;go_ret;exact⟨rfl,p.out.setE _,s.out.set (.inl rfl) _⟩
  have k:z2e D.kind a b e=(b,e):=by unfold z2e;rw[if_pos (.inr u)]
  have E:¬ (e:Int)=0:=by omega
  rw[k]
  go_enter func123,ntmps123
  go_wp2;go_ret;exact⟨rfl,m.out,Fr.refl _ _⟩
 have d:a=⟨#[]⟩:=z7h o;have k:z2e D.kind a b e=(b,e):=by unfold z2e;rw[if_pos (.inl d)]
 rw[k]
 go_enter func123,ntmps123
 go_wp2;go_ret;exact⟨rfl,m.out,Fr.refl _ _⟩
theorem y1m {d:Nat} {D:MD} {sv star:Value} {e:Nat} (a b:ByteArray) (w:World) (i:Scl w d D sv star e) (z:smS a) (hb:smS b) (u:Tab w) :
  Calls prog 125 #[.pointer (some ⟨d,0,none⟩),.string a,.string b] w (fun r w'=>r=.returned (.string (z0s D.kind a b e).1)/\Scl w' d D sv star (z0s D.kind a b e).2/\Fr (fun q=>q=d) w w'):=by
 have F:=i.c0;have E:=i.c5;have m:=qh i;clear i;by_cases o:e=0
 ·subst o;have j:z0s D.kind a b 0=z0g D.kind a b:=by unfold z0s;rw[if_neg (by simp)]
  rw[j];have s:=z4h D.kind a b w z hb u;have B:=qh s;clear s u
  go_enter func125,ntmps125
  go_wp2_with fail
  refine B.out.mono ?_;rintro r p ⟨rfl,g⟩;have h:Fr (fun q=>q=d) w p:=Fr.of_below g;have c:Scl p d D sv star 0:=by unfold Scl;rw[g.block d m.out.lt];exact m.out
  have G:=c.fz 5;have C:=c.c5;have k:=qh c;clear c g;have l:=qh h;clear h;go_wp2;go_ret;exact⟨rfl,k.out.setE _,l.out.set (.inl rfl) _⟩
 have j:z0s D.kind a b e=(a,e):=by unfold z0s;rw[if_pos o]
 have A:¬ (e:Int)=0:=by omega
 rw[j]
 go_enter func125,ntmps125
 go_wp2;go_ret;exact⟨rfl,m.out,Fr.refl _ _⟩
theorem x1u:(prog.info? 9).map (fun i=>(i.zero,i.size,i.bytes))=some (some (.string ⟨#[]⟩),1,16):=by kernel_rfl
theorem z8e {c:Nat} {D:MD} {a:Option Addr} {cap:Nat} {star:Value} {e:Nat} (w:World) (d:Scl w c D (.slice a D.n cap) star e) (h:1<=D.n) (hn:D.n<=3000) :
  Calls prog 82 #[.pointer (some ⟨c,0,none⟩)] w (fun r w'=>r=.returned (.slice (some ⟨w.heap.size,0,none⟩) D.n D.n)/\w'.rowIs w.heap.size 9 D.n (fun q=>.string (z1f q))/\Fr (fun _=>False) w w'/\w'.heap.size=w.heap.size+1):=by
 have i:=d.c3;have g:=run_make_row' (P:=prog) 102 9 (.string ⟨#[]⟩) 16 underlying102 x1u rfl .i64 .i64 D.n (by omega) (by omega)
 go_enter func82,ntmps82
 go_wp2;go_ret;exact⟨rfl,World.rowIs_made w (.string ⟨#[]⟩) D.n 9,Fr.alloc _ _,by simp⟩
end
section
open Go.RowKit Go.Deep
theorem y6b {l:Nat} {D:MD} {a:Option Addr} {cap:Nat} {star:Value} {e:Nat} (w:World) (I:Scl w l D (.slice a D.n cap) star e) (S:1<=D.n) (hn:D.n<=3000) (J:0<=D.start) (i:D.start<(D.n:Int)) :
  Calls prog 80 #[.pointer (some ⟨l,0,none⟩)] w (fun r w'=>r=.returned (.slice (some ⟨w.heap.size,0,none⟩) D.n D.n)/\w'.rowIs w.heap.size 9 D.n (fun q=>.string (z6k D q))/\Fr (fun _=>False) w w'):=by
 obtain⟨st,k⟩:∃ st:Nat,D.start=(st:Int):=⟨D.start.toNat,by omega⟩;have m:st<D.n:=by omega
 have O:(st:Int)<(D.n:Int):=by omega
 have B:(0:Int)<=(st:Int):=by omega
 have A:=qh (z8e w I S hn);have T:=qh I;clear I;have s:z6k D=fun q=>if q=st then D.lead else ⟨#[]⟩:=by funext q;unfold z6k;rw[k,Int.toNat_natCast]
 have H:=qh s;clear s;have G:=qh k;clear k J i
 go_enter func80,ntmps80
 go_wp2_with fail
 refine A.out.mono ?_;rintro r C ⟨rfl,d,hf,F⟩;have i:=T.out.kept hf (fun h=>h);obtain⟨g,z⟩:=exq (w.heap.size);rw[<- z] at d;rw[<- z];have E:w.heap.size<=g:=by omega
 have P:=i.c1;rw[G.out] at P;have R:=i.c2;have gl:=d.cell m;have U:=d.frozen st;have o:=qh d;clear d;have Q:=qh hf;clear hf i F;have L:=qh z;clear z
 go_wp2_with fail
 have c:C.cell? ⟨l,1,none⟩=some (.int .i64 (st:Int))/\C.cell? ⟨l,2,none⟩=some (.string D.lead):=⟨P,R⟩;refine z0h (fun u=>u.cell? ⟨l,1,none⟩=some (.int .i64 (st:Int))/\u.cell? ⟨l,2,none⟩=some (.string D.lead)) 12 (by kernel_rfl) ?_;refine z0c.tm 0 c ?_;refine z0c.tm 1 c ?_;refine z0c.tm 2 c ?_;refine z0c.tm 3 c ?_;refine z0c.tm 4 c ?_;refine z0c.tm 5 c ?_;refine z0c.tm 6 c ?_;refine z0c.tm 7 c ?_;refine z0c.tm 8 c ?_;refine z0c.tm 9 c ?_;refine z0c.tm 10 c ?_;refine z0c.tm 11 c ?_
 try simp only[Act.put,tryL]
 refine z0c.on 12 fun K N=>?_;go_simp;refine N.out _ _ (.inl rfl) (z0c.dn ?_);clear N K;go_wp2;go_ret;refine⟨Eq.trans (b:=Ending.returned (.slice (some ⟨g,0,none⟩) D.n D.n)) rfl (by rw[L.out]),?_,(Q.out.set (p:=⟨g,st,none⟩) (.inr E) _).drew⟩;rw[H.out,<- L.out];exact(show (C.setCell ⟨g,st,none⟩ (.string D.lead)).rowIs g 9 D.n _ from o.out.set st _).congr (fun j _=>by
  show _=Value.string (if j=st then D.lead else ⟨#[]⟩)
  by_cases e:j=st
  ·rw[if_pos e,if_pos e]
  rw[if_neg e,if_neg e];rfl)
def TstA (nf:FuncId) (cap:Array Value) (sel:Int->Int->Bool) (P:World->Prop):Prop :=
 (∀ args w,(callFunc nf args).run prog w=.ok (.enter nf args) w)/\∀ w,P w->∀ (i o:Int) (s:ByteArray) (t:Int),Calls prog nf (#[.agg #[.int .i64 i,.int .i64 o,.string s,.int .i64 t]]++cap) w (fun r w'=>r=.returned (.bool (sel i o))/\Below w.heap.size w w')
def StpE (cb lb:Nat) (D:MD) (sv star:Value) (s:WS) (w:World) (r:Ending) (w':World):Prop :=
 r=.returned (.tuple #[])/\w'.rowIs lb 9 D.n (fun j=>.string (s.1 j))/\Scl w' cb D sv star s.2/\Fr (fun q=>q=cb\/q=lb) w w'
theorem y0h {u o vb nf:Nat} {cap:Array Value} {D:MD} {sv star:Value} {e:Nat} {l v:Nat->ByteArray} {sel:Int->Int->Bool} {P:World->Prop} (w0 w:World) (hv:VM D) (hD:StS none w0 sv D) (i8:Below w0.heap.size w0 w) (ht:Tab w0)
  (hs:Scl w u D sv star e) (hl:w.rowIs o 9 D.n (fun j=>.string (l j))) (e9:w.rowIs vb 9 D.n (fun j=>.string (v j))) (f9:w0.heap.size<=u) (i2:w0.heap.size<=o) (g4:u≠o) (h5:vb≠o) (i7:vb≠u)
  (g9:∀ j,smS (l j)) (g2:∀ j,smS (v j)) (g1:∀ i k,smS (D.aw i k)) (hP:P w) (h3:∀ wa wb,P wa->Fr (fun q=>q=u\/q=o) wa wb->P wb) (f8:TstA nf cap sel P) :
  Calls prog 84 #[.pointer (some ⟨u,0,none⟩),.slice (some ⟨o,0,none⟩) D.n D.n,.slice (some ⟨vb,0,none⟩) D.n D.n,.func (.func nf) #[] cap] w (StpE u o D sv star (z2y D sel v D.n (l,e)) w):=by
 obtain⟨a,cp,b,Z,A,C,BB,O,rfl,ha,hc,hm,hb,a1⟩:=hD.open;unfold maxLen at hm;obtain⟨n7,h4⟩:=f8;obtain⟨n,hn⟩:=exq (D.n);have o2:n<=3000:=by rw[hn];exact hv.n2
 have o3:1<=n:=by rw[hn];exact hv.n1
 rw[<- hn] at ha hc hb a1 hl e9 hs ⊢;have HN:=qh hn;clear hn;have HV:=qh hv;clear hv;have HA:=qh ha;clear ha;have HB:=qh hb;clear hb;have HR:=qh a1;clear a1 hD;have HT:=qh h4;clear h4;have g5:=qh ht;clear ht;have HP:=qh hP;clear hP;have l1:=qh h3;clear h3;have J:=qh i8;clear i8;have HS:=qh hs;clear hs;have HL:=qh hl;clear hl;have l3:=qh e9;clear e9;have l8:=qh g9;clear g9;have c9:=qh g2;clear g2;have j8:=qh g1;clear g1;have b1:=qh g4;clear g4;have m2:=qh h5;clear h5;have j4:=qh i7;clear i7;have d1:=qh f9;clear f9;have c8:=qh i2;clear i2;obtain rfl:=HA.out (by omega)
 go_enter func84,ntmps84
 go_wp2_with fail
 go_loopw [14] (fun i wr=>∃ q:Nat,q<=n/\i=.int .i64 (q:Int)/\wr.rowIs o 9 n (fun j=>.string ((z2y D sel v q (l,e)).1 j))/\Scl wr u D (.slice (some ⟨b,Z,none⟩) n cp) star (z2y D sel v q (l,e)).2/\Fr (fun q=>q=u\/q=o) w wr) (fun i _=>n-(intOf i).toNat)
 case atStart=>exact⟨0,Nat.zero_le _,rfl,HL.out,HS.out,Fr.refl _ _⟩
 obtain⟨q,hq,rfl,i5,i9,h8⟩:=hrel;clear HL HS;have X:=qh i5;clear i5;have R:=qh i9;clear i9;have U:=qh h8;clear h8;by_cases j1:q<n
 ·have n6:(q:Int)<(n:Int):=by omega
  have m8:(0:Int)<=(q:Int):=by omega
  have cv:=U.out.cell (l3.out.cell j1) (p:=⟨vb,q,none⟩) (by
   rintro(h|h)
   ·exact j4.out h
   exact m2.out h)
  have g3:=qh (J.out.trans (U.out.below J.out.size (fun k hk=>by rcases hk with rfl|rfl;exact d1.out;exact c8.out)))
  have j9:=(HB.out (by omega)).1;obtain⟨k1,k2,k3,k4,k5,k6,k7⟩:=HR.out q j1;obtain⟨aq,j0⟩:=exq (A q);rw[<- j0] at k2 k5;clear j0;have c1:=(g3.out.cell (p:=⟨b,Z+q*2+1,none⟩) j9).trans k2;have m3:=R.out.c3;clear k1 k2;unfold maxLen at k4;have m5:D.na q<=30000:=by have h1:=Nat.le_trans (z1w D (show q+1<=D.n by have:=HN.out;omega)) HV.out.arcs;have h2:z0f D (q+1)=z0f D q+D.na q:=rfl;omega
  have l0:=qh k7;clear k7;have l7:=qh k5;clear k5;have j6:=qh k6;clear k6;obtain⟨vq,Y⟩:=exq (v q);rw[<- Y] at cv;cases hE:(vq.toList==[])
  ·have b2:v q≠⟨#[]⟩:=fun e=>by rw[Y,e] at hE;simp at hE
   have b0:z2y D sel v (q+1) (l,e)=z3f D sel v q (D.na q) (z2y D sel v q (l,e)):=by
    show rowC D sel v q _=_;unfold rowC;rw[if_neg b2]
   have W:=qh b0;clear b0 b2;have f5:=qh Y;clear Y;obtain⟨s0,f4⟩:=exq (z2y D sel v q (l,e));have d9:∀ j,smS (s0.1 j):=by rw[f4];exact z6b c9.out q l8.out
   rw[<- f4] at X R W;have k9:=qh d9;clear d9 f4
   go_wp2_with fail
   clear cv c1 m3
   go_loopw [31] (fun i wr=>∃ d:Nat,d<=D.na q/\i=.int .i64 (d:Int)/\wr.rowIs o 9 n (fun j=>.string ((z3f D sel v q d s0).1 j))/\Scl wr u D (.slice (some ⟨b,Z,none⟩) n cp) star (z3f D sel v q d s0).2/\Fr (fun q=>q=u\/q=o) w wr) (fun i _=>D.na q-(intOf i).toNat)
   case atStart=>exact⟨0,Nat.zero_le _,rfl,X.out,R.out,U.out⟩
   obtain⟨d,hd,rfl,I,L,d6⟩:=hrel;clear X R U g3;have E:=qh I;clear I;have z:=qh L;clear L;have N:=qh d6;clear d6;by_cases h0:d<D.na q
   ·have n9:(d:Int)<(D.na q:Int):=by omega
    have m7:(0:Int)<=(d:Int):=by omega
    have H:=qh (J.out.trans (N.out.below J.out.size (fun k hk=>by rcases hk with rfl|rfl;exact d1.out;exact c8.out)))
    have d3:=(j6.out (by omega)).1;obtain⟨t0,t1,t2,t3⟩:=l0.out d h0;obtain rfl:=l7.out (by omega);have c0:=(H.out.cell (p:=⟨BB q,O q+d*4,none⟩) d3).trans t0;have c1:=(H.out.cell (p:=⟨BB q,O q+d*4+1,none⟩) d3).trans t1;have c2:=(H.out.cell (p:=⟨BB q,O q+d*4+2,none⟩) d3).trans t2;have c3:=(H.out.cell (p:=⟨BB q,O q+d*4+3,none⟩) d3).trans t3;clear t0 t1 t2 t3;have e8:=HV.out.arc q d (by have:=HN.out;omega) h0;obtain⟨g,e7⟩:∃ g:Nat,D.ato q d=(g:Int):=⟨(D.ato q d).toNat,by have:=e8.t0;omega⟩;have i6:g<n:=by have:=e8.t1;have:=HN.out;omega
    rw[e7] at c3;have l4:=qh e7;clear e7 e8;obtain⟨Q,b9⟩:=exq (wr.heap.size);obtain⟨wa,b3⟩:=exq (wr.alloc (.cells #[.int .i64 (D.ain q d),.int .i64 (D.aout q d),.string (D.aw q d),.int .i64 (g:Int)] 59));have f0:Fr (fun q=>q=u\/q=o) wr wa:=by rw[b3];exact Fr.alloc _ _
    have e3:wa.heap[Q]?=some (.cells #[.int .i64 (D.ain q d),.int .i64 (D.aout q d),.string (D.aw q d),.int .i64 (g:Int)] 59 (0,0)):=by rw[b3,b9];exact heap_alloc_new wr _
    have b8:=HT.out wa (l1.out _ _ HP.out (N.out.trans f0)) (D.ain q d) (D.aout q d) (D.aw q d) (g:Int);have n3:Q≠o:=by have:=E.out.lt;omega
    have b5:Q≠u:=by have:=z.out.lt;omega
    have HC:=qh b8;clear b8;have d2:=qh f0;clear f0;have a9:=qh e3;clear e3
    go_wp2_with fail
    rw[<- b3,<- b9];clear c0 c1 c2 c3;have n5:=qh b9;clear b9;have e6:=qh b3;clear b3;refine HC.out.mono ?_;rintro r w1 ⟨rfl,a6⟩;have g8:Fr (fun q=>q=u\/q=o) w w1:=(N.out.trans d2.out).trans (Fr.of_below a6);have a4:=(a6.block Q (lt_of_block a9.out)).trans a9.out;have d8:Scl w1 u D (.slice (some ⟨b,Z,none⟩) n cp) star (z3f D sel v q d s0).2:=by
     unfold Scl;rw[a6.block u (by have:=z.out.lt;have:=d2.out.size;omega),e6.out,blk_alloc_lt _ _ _ z.out.lt];exact z.out
    have e0:w1.rowIs o 9 n (fun j=>.string ((z3f D sel v q d s0).1 j)):=E.out.of_block ((a6.block o (by have:=E.out.lt;have:=d2.out.size;omega)).trans (by rw[e6.out,blk_alloc_lt _ _ _ E.out.lt]));have b4:=qh g8;clear g8 a6 d2 a9 HC z E N H e6;have m:=qh a4;clear a4;have G:=qh d8;clear d8;have F:=qh e0;clear e0;have d5:∀ j,smS ((z3f D sel v q d s0).1 j):=y8h (c9.out q) d k9.out;have e1:=qh d5;clear d5;cases d4:sel (D.ain q d) (D.aout q d)
    ·have b7:z3f D sel v q (d+1) s0=z3f D sel v q d s0:=by show arcC D sel v q d _=_;unfold arcC;rw[if_neg (by rw[d4];simp)]
     have a7:=qh b7;clear b7 d4;go_wp2;go_roundw
     case rel=>exact⟨d+1,by omega,by go_num,by rw[a7.out];exact F.out,by rw[a7.out];exact G.out,b4.out⟩
     simp[intOf];omega
    obtain⟨s1,f7⟩:=exq (z3f D sel v q d s0);obtain⟨tp,d0⟩:=exq (z0s D.kind vq (D.aw q d) s1.2);obtain⟨zp,f1⟩:=exq (z2e D.kind (s1.1 g) tp.1 tp.2);have b7:z3f D sel v q (d+1) s0=(updS s1.1 g zp.1,zp.2):=by
     show arcC D sel v q d _=_;unfold arcC;rw[if_pos d4,<- f7,l4.out,Int.toNat_natCast,<- f5.out,<- d0,<- f1]
    rw[<- f7] at G F e1;have a7:=qh b7;clear b7 d4 f7;have e5:smS tp.1:=by rw[d0];exact z6u (by rw[f5.out];exact c9.out q)
    have d7:smS vq:=by rw[f5.out];exact c9.out q
    have j5:=qh e5;clear e5;have i4:=qh d7;clear d7;have l9:=qh d0;clear d0;have m4:=qh f1;clear f1;have m9:(g:Int)<(n:Int):=by omega
    have l6:(0:Int)<=(g:Int):=by omega
    obtain⟨s,B⟩:=exq (w1.drew);have b4:Hid (Fr (fun q=>q=u\/q=o) w s):=qh (by rw[B];exact b4.out.drew);have m:Hid (s.heap[Q]?=some (.cells #[.int .i64 (D.ain q d),.int .i64 (D.aout q d),.string (D.aw q d),.int .i64 (g:Int)] 59 (0,0))):=qh (by rw[B];exact m.out);have G:Hid (Scl s u D (.slice (some ⟨b,Z,none⟩) n cp) star s1.2):=qh (by rw[B];exact G.out);have F:Hid (s.rowIs o 9 n (fun j=>.string (s1.1 j))):=qh (by rw[B];exact F.out);have a8:Tab s:=g5.out.below (J.out.trans (b4.out.below J.out.size (fun k hk=>by rcases hk with rfl|rfl;exact d1.out;exact c8.out))) nlr
    have c:s.cell? ⟨Q,3,none⟩=some (.int .i64 (g:Int))/\s.cell? ⟨Q,2,none⟩=some (.string (D.aw q d))/\s.cell? ⟨o,g,none⟩=some (.string (s1.1 g)) :=
     ⟨by simp[World.cell?,m.out],by simp[World.cell?,m.out],F.out.cell i6⟩
    have j3:=qh (y1m vq (D.aw q d) s G.out i4.out (j8.out q d) a8);rw[<- l9.out] at j3;clear a8
    go_wp2_with fail
    refine z0h (fun f2=>f2.cell? ⟨Q,3,none⟩=some (.int .i64 (g:Int))/\f2.cell? ⟨Q,2,none⟩=some (.string (D.aw q d))/\f2.cell? ⟨o,g,none⟩=some (.string (s1.1 g))) 16 (by kernel_rfl) ?_;rw[<- B];clear B;refine z0c.tm 0 c ?_;refine z0c.tm 1 c ?_;refine z0c.tm 2 c ?_;refine z0c.tm 3 c ?_;refine z0c.tm 4 c ?_;refine z0c.tm 5 c ?_;refine z0c.tm 6 c ?_;refine z0c.tm 7 c ?_;refine z0c.tm 8 c ?_;refine z0c.tm 9 c ?_;refine z0c.tm 10 c ?_;refine z0c.tm 11 c ?_;refine z0c.tm 12 c ?_
    try simp only[Act.put,tryL]
    refine z0c.on 13 fun K hK=>?_;go_simp;refine j3.out.mono ?_;rintro r w2 ⟨rfl,L,S⟩;have c7:w2.cell? ⟨Q,3,none⟩=some (.int .i64 (g:Int))/\w2.cell? ⟨Q,2,none⟩=some (.string (D.aw q d))/\w2.cell? ⟨o,g,none⟩=some (.string (s1.1 g)) :=
     ⟨S.cell c.1 b5,S.cell c.2.1 b5,S.cell c.2.2 (fun e=>b1.out e.symm)⟩
    have b6:Fr (fun q=>q=u\/q=o) w w2:=b4.out.trans (S.mono (fun _ _ e=>.inl e));have I:=S.row F.out (fun e=>b1.out e.symm);have a3:=(S.block Q (lt_of_block m.out) b5).trans m.out;have a2:Tab w2:=g5.out.below (J.out.trans (b6.below J.out.size (fun k hk=>by rcases hk with rfl|rfl;exact d1.out;exact c8.out))) nlr
    have g0:=qh (y0x (s1.1 g) tp.1 w2 L (e1.out g) j5.out a2);rw[<- m4.out] at g0;have l5:=qh b6;clear b6 S;have g7:=qh I;clear I;have l2:=qh a3;clear a3 L a2;refine hK.out _ _ (.inr c7) ?_;clear hK K
    try simp only[Act.put,tryL]
    refine z0c.on 14 fun K hK=>?_;go_simp;refine g0.out.mono ?_;rintro r w3 ⟨rfl,e2,T⟩;have f3:w3.cell? ⟨Q,3,none⟩=some (.int .i64 (g:Int))/\w3.cell? ⟨Q,2,none⟩=some (.string (D.aw q d))/\w3.cell? ⟨o,g,none⟩=some (.string (s1.1 g)) :=
     ⟨T.cell c7.1 b5,T.cell c7.2.1 b5,T.cell c7.2.2 (fun e=>b1.out e.symm)⟩
    have a5:=T.row g7.out (fun e=>b1.out e.symm);have e4:Fr (fun q=>q=u\/q=o) w w3:=l5.out.trans (T.mono (fun _ _ e=>.inl e));have fl:=a5.frozen g;have k0:=qh e4;clear e4 T;have h7:=qh a5;clear a5;have h6:=qh e2;clear e2;refine hK.out _ _ (.inr f3) ?_;clear hK K
    try simp only[Act.put,tryL]
    refine z0c.tm 15 f3 ?_
    try simp only[Act.put,tryL]
    have gl:=f3.2.2;refine z0c.on 16 fun K hK=>?_;go_simp;refine hK.out _ _ (.inl rfl) (z0c.dn ?_);clear hK K;go_wp2;go_roundw
    case rel =>
     refine⟨d+1,by omega,by go_num,?_,?_,k0.out.set (.inl (.inr rfl)) _⟩
     ·rw[a7.out];exact(h7.out.set g _).congr (fun j _=>by
       show _=Value.string (updS s1.1 g zp.1 j);unfold updS;by_cases e:j=g
       ·rw[if_pos e,if_pos e]
       rw[if_neg e,if_neg e])
     rw[a7.out];unfold Scl;rw[z0e (show u≠o from b1.out)];exact h6.out
    simp[intOf];omega
   have j2:d=D.na q:=by omega
   have j7:¬ ((d:Int)<(D.na q:Int)):=by omega
   have h9:=qh j2;clear j2;go_wp2;go_roundw
   case rel=>exact⟨q+1,by omega,by go_num,by rw[W.out,<- h9.out];exact E.out,by rw[W.out,<- h9.out];exact z.out,N.out⟩
   simp[intOf];omega
  have b2:v q=⟨#[]⟩:=by rw[<- Y];exact z7h hE
  have b0:z2y D sel v (q+1) (l,e)=z2y D sel v q (l,e):=by
   show rowC D sel v q _=_;unfold rowC;rw[if_pos b2]
  have W:=qh b0;clear b0 b2 Y;go_wp2;go_roundw
  case rel=>exact⟨q+1,by omega,by go_num,by rw[W.out];exact X.out,by rw[W.out];exact R.out,U.out⟩
  simp[intOf];omega
 have g6:q=n:=by omega
 have j7:¬ ((q:Int)<(n:Int)):=by omega
 have i3:=qh g6;clear g6
 go_wp2_with fail
 go_end0
 exact⟨rfl,by rw[<- HN.out];rw[i3.out] at X;exact X.out,by rw[i3.out] at R;exact R.out,U.out⟩
end
section
structure ED where
 nf:Nat
 f:Nat->Int
 nt:Nat
 t:Nat->Int
 w:ByteArray
structure EM where
 n:Nat
 e:Nat->ED
 most:Int
def v4m (n:Nat) (x:Nat->Int) (sig:Int):Prop:=∀ i,i<n->1<=x i/\x i<=sig
def u5d (s:ByteArray):Prop:=∃ q,prs s=some q/\0<=q
structure EdOk (d:ED):Prop where
 f6:d.nf<=6
 t6:d.nt<=6
 pos:0<d.nf+d.nt
 fw:v4m d.nf d.f 500
 tw:v4m d.nt d.t 500
 wt:u5d d.w
structure VE (M:EM):Prop where
 n4:M.n<=400
 m0:0<=M.most
 m6:M.most<=6
 ok:∀ i,i<M.n->EdOk (M.e i)
def qv (s:ByteArray):Rat:=(prs s).getD 0
theorem EdOk.q0 {d:ED} (h:EdOk d):0<=qv d.w:=by obtain⟨q,g,c⟩:=h.wt;unfold qv;rw[g];exact c
theorem EdOk.q {d:ED} (h:EdOk d):prs d.w=some (qv d.w):=by obtain⟨q,c,_⟩:=h.wt;unfold qv;rw[c];rfl
structure EP where
 M:EM
 a:Nat
 x:Nat->Int
 b:Nat
 y:Nat->Int
abbrev Pl:=Nat × Nat × Nat
def bgs (a:Nat) (x:Nat->Int) (i n:Nat) (u:Nat->Int):Prop:=i+n<=a/\∀ k,k<n->x (i+k)=u k
inductive Sp (P:EP):Pl->Option Nat->Pl->Rat->Prop
 | copy {k i j:Nat}:i<P.a->j<P.b->P.x i=P.y j->Sp P (k,i,j) none (k,i+1,j+1) 0
 | edit {k i j e:Nat}:e<P.M.n->(k:Int)<P.M.most->bgs P.a P.x i (P.M.e e).nf (P.M.e e).f->bgs P.b P.y j (P.M.e e).nt (P.M.e e).t->Sp P (k,i,j) (some e) (k+1,i+(P.M.e e).nf,j+(P.M.e e).nt) (qv (P.M.e e).w)
inductive Pth (P:EP):Pl->Rat->Prop
 | start:Pth P (0,0,0) 0
 | step {p:Pl} {c:Rat} {l:Option Nat} {q:Pl} {d:Rat}:Pth P p c->Sp P p l q d->Pth P q (c+d)
theorem Sp.fn {P:EP} {p q g:Pl} {l:Option Nat} {d c:Rat} (h:Sp P p l q d) (i:Sp P p l g c):q=g/\d=c:=by
 cases h<;>cases i<;>exact⟨rfl,rfl⟩
abbrev TbE:=Pl->Option Rat
def relx (T:TbE) (q:Pl) (v:Rat):TbE:=fun r=>if r=q then (match T q with|none=>some v|some u=>if v<u then some v else some u) else T r
structure Dp (P:EP) (Done:Pl->Option Nat->Prop) (T:TbE):Prop where
 sound:∀ q c,T q=some c->Pth P q c
 zero:∃ c,T (0,0,0)=some c/\c<=0
 done:∀ p l c q d,Done p l->T p=some c->Sp P p l q d->∃ u,T q=some u/\u<=c+d
theorem Dp.start (P:EP):Dp P (fun _ _=>False) (fun q=>if q=(0,0,0) then some 0 else none):=by
 refine⟨fun q c h=>?_,⟨0,by simp,Rat.le_refl⟩,fun _ _ _ _ _ h=>h.elim⟩;by_cases e:q=(0,0,0)
 ·subst e;simp at h;subst h;exact .start
 simp[e] at h
theorem v1r {T:TbE} {q:Pl} {v:Rat} {r:Pl} {u:Rat} (h:T r=some u):∃ u',relx T q v r=some u'/\u'<=u:=by
 unfold relx;by_cases e:r=q
 ·subst e;rw[if_pos rfl,h];by_cases c:v<u
  ·exact⟨v,by simp[c],Rat.le_of_lt c⟩
  exact⟨u,by simp[c],Rat.le_refl⟩
 exact⟨u,by rw[if_neg e];exact h,Rat.le_refl⟩
theorem v5b (T:TbE) (q:Pl) (v:Rat):∃ u',relx T q v q=some u'/\u'<=v:=by
 unfold relx;rw[if_pos rfl];cases h:T q with
 | none=>exact⟨v,rfl,Rat.le_refl⟩
 | some u =>
  by_cases c:v<u
  ·exact⟨v,by simp[c],Rat.le_refl⟩
  exact⟨u,by simp[c],Rat.not_lt.1 c⟩
theorem v3j {T:TbE} {q r:Pl} {v:Rat} (h:r≠q):relx T q v r=T r:=if_neg h
theorem Dp.step {P:EP} {j g:Pl->Option Nat->Prop} {T:TbE} {p q:Pl} {l:Option Nat} {c d:Rat} (h:Dp P j T) (A:T p=some c) (B:Sp P p l q d) (K:∀ l',¬ g q l')
  (N:∀ p' l',g p' l'->j p' l'\/(p'=p/\l'=l)):Dp P g (relx T q (c+d)):=by
 refine⟨fun r u i=>?_,?_,fun p' l' H O I o k s=>?_⟩
 ·by_cases e:r=q
  ·subst e;unfold relx at i;rw[if_pos rfl] at i;cases C:T r with
   | none=>rw[C] at i;simp at i;subst i;exact .step (h.sound p c A) B
   | some m =>
    rw[C] at i;by_cases E:c+d<m
    ·simp[E] at i;subst i;exact .step (h.sound p c A) B
    simp[E] at i;subst i;exact h.sound _ _ C
  rw[v3j e] at i;exact h.sound r u i
 ·obtain⟨u,o,k⟩:=h.zero;obtain⟨m,s,z⟩:=v1r (q:=q) (v:=c+d) o;exact⟨m,s,Rat.le_trans z k⟩
 have D:p'≠q:=fun e=>K l' (e ▸ o);rw[v3j D] at k
 rcases N p' l' o with z|⟨rfl,rfl⟩
 ·obtain⟨u,F,J⟩:=h.done p' l' H O I z k s;obtain⟨m,G,L⟩:=v1r (q:=q) (v:=c+d) F;exact⟨m,G,Rat.le_trans L J⟩
 obtain⟨rfl,rfl⟩:=B.fn s;rw[A] at k;cases k;exact v5b T q (c+d)
def IsCost (P:EP) (o:Option Rat):Prop:=(o=none/\∀ k c,¬ Pth P (k,P.a,P.b) c)\/∃ c k,o=some c/\Pth P (k,P.a,P.b) c/\∀ k' c',Pth P (k',P.a,P.b) c'->c<=c'
theorem IsCost.only {P:EP} {o i:Option Rat} (h:IsCost P o) (l:IsCost P i):o=i:=by
 rcases h with ⟨rfl,g⟩|⟨c,k,rfl,g,m⟩<;>rcases l with ⟨rfl,d⟩|⟨p,s,rfl,d,j⟩
 ·rfl
 ·exact absurd d (g _ _)
 ·exact absurd g (d _ _)
 rw[Rat.le_antisymm (m _ _ d) (j _ _ g)]
end
section
open Go.RowKit Go.Deep
def Si (z:Option Nat) (w:World) (v:Value) (n:Nat) (x:Nat->Int):Prop:=Rd z w v n fun i=>.int .i64 (x i)
def EdS (z:Option Nat) (w:World) (v:Value) (M:EM):Prop :=
 (M.n=0/\∃ a cap,v=.slice a 0 cap/\cap<=maxLen)\/∃ b off cap,∃ F T:Nat->Value,v=.slice (some ⟨b,off,none⟩) M.n cap/\(b<w.heap.size/\some b≠z)/\M.n<=cap/\cap<=maxLen/\∀ i,i<M.n ->
  w.cell? ⟨b,off+i*3,none⟩=some (F i)/\w.cell? ⟨b,off+i*3+1,none⟩=some (T i)/\w.cell? ⟨b,off+i*3+2,none⟩=some (.string (M.e i).w)/\Si z w (F i) (M.e i).nf (M.e i).f/\Si z w (T i) (M.e i).nt (M.e i).t
theorem EdS.kept {z:Option Nat} {w k:World} {v:Value} {M:EM} (h:EdS z w v M) (c:w.grownBy k z):EdS z k v M:=by
 rcases h with h|⟨b,g,j,F,T,p,d,m,o,l⟩
 ·exact .inl h
 refine .inr ⟨b,g,j,F,T,p,⟨Nat.lt_of_lt_of_le d.1 c.size,d.2⟩,m,o,fun i hi=>?_⟩;obtain⟨c1,c2,c3,c4,c5⟩:=l i hi;exact⟨c.cell c1 d.2,c.cell c2 d.2,c.cell c3 d.2,c4.kept c,c5.kept c⟩
structure ESz (M:EM):Prop where
 n:(M.n:Int)<=9223372036854775807
 f:∀ i,((M.e i).nf:Int)<=4611686018427387903
 t:∀ i,((M.e i).nt:Int)<=4611686018427387903
 w:∀ i,((M.e i).w.size:Int)<=9223372036854775807
 m0:-9223372036854775808<=M.most
 m1:M.most<=9223372036854775807
def TstF (nf:FuncId) (cap:Array Value) (p:Int->Bool) (w:World):Prop :=
 (∀ args w,(callFunc nf args).run prog w=.ok (.enter nf args) w)/\∀ s:Int,Calls prog nf (#[.int .i64 s]++cap) w (fun r w'=>r=.returned (.bool (p s))/\w'=w)
def anyI (n:Nat) (x:Nat->Int) (p:Int->Bool):Bool:=(List.range n).any fun i=>p (x i)
theorem y3d {n:Nat} {x:Nat->Int} {p:Int->Bool}:anyI n x p=true↔∃ i,i<n/\p (x i)=true:=by simp[anyI]
theorem v4w {n nf:Nat} {h:Array Value} {v:Value} {x:Nat->Int} {p:Int->Bool} (w:World) (E:Si none w v n x) (hn:(n:Int)<=9223372036854775807) (Q:TstF nf h p w) :
  Calls prog 151 #[v,.func (.func nf) #[] h] w (fun r w'=>w'=w/\∃ k:Int,r=.returned (.int .i64 k)/\(decide (0<=k)=anyI n x p)):=by
 obtain⟨a,L,b,F,rfl,B,Z,N,hb,c⟩:=E.open;unfold maxLen at N;obtain⟨H,g⟩:=Q;have R:=qh B;clear B;have W:=qh hb;clear hb;have P:=qh c;clear c E;have J:=qh g;clear g
 go_enter func151,ntmps151
 go_wp2_with fail
 go_loop [8] (fun i=>∃ q:Nat,q<=n/\i=.int .i64 (q:Int)/\∀ j,j<q->p (x j)=false) (fun i=>n-(intOf i).toNat)
 case atStart=>exact⟨0,Nat.zero_le _,rfl,fun j T=>by omega⟩
 obtain⟨q,Y,rfl,m⟩:=hrel;have l:=qh m;clear m;by_cases s:q<n
 ·have G:(q:Int)<(n:Int):=by omega
  have C:(0:Int)<=(q:Int):=by omega
  obtain rfl:=R.out (by omega);have c0:=P.out q s;have d:=J.out (x q);have K:=qh d;clear d
  go_wp2_with fail
  refine K.out.mono ?_;rintro r X ⟨rfl,rfl⟩;cases u:p (x q)
  ·have z:=qh u;clear u;go_wp2
   go_round
   case rel=>exact⟨q+1,by omega,by go_num,fun j T=>by
    by_cases e:j=q
    ·subst e;exact z.out
    exact l.out j (by omega)⟩
   simp[intOf];omega
  have z:=qh u;clear u;go_wp2;go_ret;refine⟨rfl,_,rfl,?_⟩;have A:anyI n x p=true:=y3d.2 ⟨q,s,z.out⟩;rw[A];simp
 have o:q=n:=by omega
 have U:¬ ((q:Int)<(n:Int)):=by omega
 have S:=qh o;clear o;go_wp2;go_ret;refine⟨rfl,_,rfl,?_⟩;have A:anyI n x p=false:=by
  cases I:anyI n x p
  ·rfl
  obtain⟨i,O,D⟩:=y3d.1 I;rw[l.out i (by rw[S.out];exact O)] at D;cases D
 rw[A];rfl
theorem y2g {n nf:Nat} {c:Array Value} {v:Value} {x:Nat->Int} {p:Int->Bool} (w:World) (h:Si none w v n x) (hn:(n:Int)<=9223372036854775807) (g:TstF nf c p w) :
  Calls prog 119 #[v,.func (.func nf) #[] c] w (fun r w'=>r=.returned (.bool (anyI n x p))/\w'=w):=by
 have i:=qh (v4w w h hn g);clear h hn g
 go_enter func119,ntmps119
 go_wp2_with fail
 refine i.out.mono ?_;rintro r l ⟨rfl,k,rfl,d⟩;have j:=qh d;clear d;go_wp2;go_ret;exact⟨z0v j.out,rfl⟩
def offI (sig s:Int):Bool:=decide (s<1)||decide (sig<s)
def y5q (n:Nat) (x:Nat->Int) (sig:Int):Bool:=!anyI n x (offI sig)
theorem y5h {n:Nat} {x:Nat->Int} {c:Int}:y5q n x c=true↔v4m n x c:=by
 unfold y5q;rw[Bool.not_eq_true',Bool.eq_false_iff]
 constructor
 ·intro h i hi;cases d:offI c (x i)
  ·unfold offI at d;simp at d;omega
  exact absurd (y3d.2 ⟨i,hi,d⟩) h
 intro h j;obtain⟨i,d,g⟩:=y3d.1 j;have:=h i d;unfold offI at g;simp at g;omega
theorem x1t {n:Nat} {x:Nat->Int} {c:Int}:y5q n x c=false↔¬ v4m n x c:=by
 rw[<- y5h];simp
end
section
open Go.RowKit Go.Deep
theorem z9a {B vb:Nat} {D:MD} {sv star:Value} {e:Nat} {v:Nat->ByteArray} (Z w:World) (hv:VM D) (hD:StS none Z sv D) (b6:Below Z.heap.size Z w) (ht:Tab Z)
  (hs:Scl w B D sv star e) (Y:w.rowIs vb 9 D.n (fun j=>.string (v j))) (a3:Z.heap.size<=B) (b3:vb≠B) (a6:∀ j,smS (v j)) (b1:∀ i,smS (D.fin i)) :
  Calls prog 88 #[.pointer (some ⟨B,0,none⟩),.slice (some ⟨vb,0,none⟩) D.n D.n] w (fun r w'=>r=.returned (.tuple #[.string (finC D v e).1,.int .i64 ((finC D v e).2:Int)])/\Fr (fun q=>q=B) w w'):=by
 obtain⟨a,cp,b,U,A,C,BB,O,rfl,ha,hc,hm,hb,m⟩:=hD.open;unfold maxLen at hm;obtain⟨n,hn⟩:=exq (D.n);have e9:n<=3000:=by rw[hn];exact hv.n2
 have e6:1<=n:=by rw[hn];exact hv.n1
 rw[<- hn] at ha hc hb m Y hs ⊢;have HN:=qh hn;clear hn;have HV:=qh hv;clear hv;have HA:=qh ha;clear ha;have HB:=qh hb;clear hb;have HR:=qh m;clear m hD;have b4:=qh ht;clear ht;have F:=qh b6;clear b6;have d5:=hs.c0;have HS:=qh hs;clear hs;have d6:=qh Y;clear Y;have b2:=qh a6;clear a6;have e3:=qh b1;clear b1;have d3:=qh b3;clear b3;have a9:=qh a3;clear a3;obtain rfl:=HA.out (by omega)
 go_enter func88,ntmps88
 go_wp2_with fail
 refine(z2u D.kind w).mono ?_;rintro r w1 ⟨rfl,X⟩;have b9:Scl w1 B D (.slice (some ⟨b,U,none⟩) n cp) star e:=by unfold Scl;rw[X.block B HS.out.lt];exact HS.out
 have c8:Fr (fun q=>q=B) w w1:=Fr.of_below X;have c9:=qh b9;clear b9 X HS;have a8:=qh c8;clear c8 d5
 go_wp2_with fail
 go_loopw [6,18] (fun s i wr=>∃ q:Nat,q<=n/\i=.int .i64 (q:Int)/\s=.string (endC D v q (z0z D.kind,e)).1/\Scl wr B D (.slice (some ⟨b,U,none⟩) n cp) star (endC D v q (z0z D.kind,e)).2/\Fr (fun q=>q=B) w wr) (fun _ i _=>n-(intOf i).toNat)
 case atStart=>exact⟨0,Nat.zero_le _,rfl,rfl,c9.out,a8.out⟩
 obtain⟨q,hq,rfl,rfl,b8,a5⟩:=hrel;clear c9 a8;have l:=qh b8;clear b8;have d:=qh a5;clear a5;by_cases c7:q<n
 ·have e8:(q:Int)<(n:Int):=by omega
  have e4:(0:Int)<=(q:Int):=by omega
  have cv:=d.out.cell (d6.out.cell c7) (p:=⟨vb,q,none⟩) d3.out;have a7:=qh (F.out.trans (d.out.below F.out.size (fun k hk=>by subst hk;exact a9.out)));have e0:=(HB.out (by omega)).1;obtain⟨k1,_,_,_,_,_,_⟩:=HR.out q c7;have c1:=(a7.out.cell (p:=⟨b,U+q*2,none⟩) e0).trans k1;have m3:=l.out.c3;clear k1;obtain⟨s0,g⟩:=exq (endC D v q (z0z D.kind,e));have b5:smS s0.1:=by rw[g];exact v1u b2.out q (show smS (z0z D.kind) from Nat.le_trans (z8q D.kind) (by omega))
  have d1:endC D v (q+1) (z0z D.kind,e)=if v q=⟨#[]⟩\/D.fin q=⟨#[]⟩ then s0 else z2e D.kind s0.1 (z0s D.kind (v q) (D.fin q) s0.2).1 (z0s D.kind (v q) (D.fin q) s0.2).2:=by
   rw[g];rfl
  rw[<- g] at l;rw[<- g];have d9:=qh b5;clear b5;have c:=qh d1;clear d1 g;obtain⟨E,J⟩:=exq (v q);obtain⟨H,G⟩:=exq (D.fin q);rw[<- J] at cv;rw[<- G] at c1;rw[<- J,<- G] at c;have P:smS E:=by rw[J];exact b2.out q
  have T:smS H:=by rw[G];exact e3.out q
  have K:=qh P;clear P J;have d2:=qh T;clear T G;cases hE:(E.toList==[])
  ·cases hF:(H.toList==[])
   ·have h:¬ (E=⟨#[]⟩\/H=⟨#[]⟩):=fun e=>by
     rcases e with e|e
     ·rw[e] at hE;simp at hE
     rw[e] at hF;simp at hF
    rw[if_neg h] at c;clear h;obtain⟨tp,I⟩:=exq (z0s D.kind E H s0.2);obtain⟨zp,W⟩:=exq (z2e D.kind s0.1 tp.1 tp.2);rw[<- I,<- W] at c;have u:Tab wr:=b4.out.below a7.out nlr;have d0:=qh (y1m E H wr l.out K.out d2.out u);rw[<- I] at d0;have R:smS tp.1:=by rw[I];exact z6u K.out
    have d4:=qh R;clear R I u;have e2:=qh W;clear W
    go_wp2_with fail
    refine d0.out.mono ?_;rintro r w2 ⟨rfl,S,b0⟩;have z:=d.out.trans b0;have o:Tab w2:=b4.out.below (F.out.trans (z.below F.out.size (fun k hk=>by subst hk;exact a9.out))) nlr;have a4:=qh (y0x s0.1 tp.1 w2 S d9.out d4.out o);rw[<- e2.out] at a4;have d8:=qh z;clear z b0 S o cv c1 m3
    go_wp2_with fail
    refine a4.out.mono ?_;rintro r w3 ⟨rfl,N,a2⟩;have e1:=qh (d8.out.trans a2);clear a2;have a1:=qh N;clear N;go_wp2;go_roundw
    case rel=>exact⟨q+1,by omega,by go_num,by rw[c.out],by rw[c.out];exact a1.out,e1.out⟩
    simp[intOf];omega
   have h:(E=⟨#[]⟩\/H=⟨#[]⟩):=.inr (z7h hF);rw[if_pos h] at c;clear h;go_wp2;go_roundw
   case rel=>exact⟨q+1,by omega,by go_num,by rw[c.out],by rw[c.out];exact l.out,d.out⟩
   simp[intOf];omega
  have h:(E=⟨#[]⟩\/H=⟨#[]⟩):=.inl (z7h hE);rw[if_pos h] at c;clear h;go_wp2;go_roundw
  case rel=>exact⟨q+1,by omega,by go_num,by rw[c.out],by rw[c.out];exact l.out,d.out⟩
  simp[intOf];omega
 have b7:q=n:=by omega
 have e7:¬ ((q:Int)<(n:Int)):=by omega
 have d7:=qh b7;clear b7;obtain⟨s0,g⟩:=exq (endC D v q (z0z D.kind,e));have L:finC D v e=if s0.2≠0 then (⟨#[]⟩,s0.2) else (s0.1,0):=by unfold finC;rw[<- HN.out,<- d7.out,<- g]
 rw[<- g] at l;rw[<- g];have Q:=qh L;clear L g;have m5:=l.out.c5;by_cases he:s0.2=0
 ·rw[he] at m5;have HE:=qh he;clear he;go_wp2;go_ret2;exact⟨by rw[Q.out,if_neg (by rw[HE.out];simp)];rfl,d.out⟩
 have e5:¬ ((s0.2:Int)=0):=by omega
 have HE:=qh he;clear he
 go_wp2_with fail
 go_quiet (fail)
 go_wp2;go_ret2;exact⟨by rw[Q.out,if_pos HE.out];rfl,⟨d.out.os,d.out.tape,d.out.output,d.out.size,d.out.block⟩⟩
theorem x8t:∀ args w,(callFunc 120 args).run prog w=.ok (.enter 120 args) w:=fun args w=>by kernel_rfl
theorem v0t (w:World) (s:Int):Calls prog 120 #[.int .i64 s] w (fun r w'=>r=.returned (.bool (offI 500 s))/\w'=w):=by
 by_cases d:s<1
 ·go_enter func120,ntmps120
  go_wp2;go_ret;exact⟨z0v (by simp[offI,d]),rfl⟩
 have c:decide (s<1)=false:=by simp;omega
 go_enter func120,ntmps120
 go_wp2;go_ret;exact⟨z0v (by simp[offI,c]),rfl⟩
def isWord (n:Nat) (x:Nat->Int):Bool:=decide (n<=200)&&y5q n x 500
theorem y2q {n:Nat} {v:Value} {x:Nat->Int} (w:World) (d:Si none w v n x) (hn:(n:Int)<=9223372036854775807) :
  Calls prog 77 #[v] w (fun r w'=>r=.returned (.bool (isWord n x))/\w'=w):=by
 have c:=y2g w d hn (show TstF 120 #[] (offI 500) w from ⟨x8t,fun s=>v0t w s⟩);obtain⟨a,g,rfl⟩:=d.shape;have i:=qh c;clear c d;by_cases h:(n:Int)<=200
 ·go_enter func77,ntmps77
  go_wp2_with fail
  refine i.out.mono ?_;rintro r j ⟨rfl,rfl⟩;go_wp2;go_ret;exact⟨z0v (by unfold isWord y5q;rw[show decide (n<=200)=true by simp;omega];simp),rfl⟩
 have k:decide ((n:Int)<=200)=false:=by simp;omega
 go_enter func77,ntmps77
 go_wp2;go_ret;exact⟨z0v (by unfold isWord;rw[show decide (n<=200)=false by simp;omega];rfl),rfl⟩
theorem x2p:∀ args w,(callFunc 79 args).run prog w=.ok (.enter 79 args) w:=fun args w=>by kernel_rfl
def silB (i o:Int):Bool:=decide (i=0)&&decide (o=0)
theorem x6q (w:World) (i o:Int) (s:ByteArray) (t:Int):Calls prog 79 #[.agg #[.int .i64 i,.int .i64 o,.string s,.int .i64 t]] w (fun r w'=>r=.returned (.bool (silB i o))/\Below w.heap.size w w'):=by
 have c:=(Below.refl w.heap.size w).alloc nlr (.cells #[.int .i64 i,.int .i64 o,.string s,.int .i64 t] 59);have g:=qh c;clear c;by_cases d:i=0
 ·subst d
  go_enter func79,ntmps79
  go_wp2;go_ret;exact⟨z0v (by by_cases h:o=0<;>simp[silB,h]),g.out⟩
 go_enter func79,ntmps79
 go_wp2;go_ret;exact⟨z0v (by simp[silB,d]),g.out⟩
def BxI (w:World) (xb:Nat) (n:Nat) (x:Nat->Int):Prop:=∃ v,w.cell? ⟨xb,0,none⟩=some v/\Si none w v n x
theorem u1t:∀ args w,(callFunc 85 args).run prog w=.ok (.enter 85 args) w:=fun args w=>by kernel_rfl
theorem u1i:∀ args w,(callFunc 86 args).run prog w=.ok (.enter 86 args) w:=fun args w=>by kernel_rfl
theorem u2d:∀ args w,(callFunc 87 args).run prog w=.ok (.enter 87 args) w:=fun args w=>by kernel_rfl
def sel2 (y:Int) (i o:Int):Bool:=decide (i=0)&&decide (o=y)
def sel3 (x:Int) (i o:Int):Bool:=decide (i=x)&&decide (o=0)
def sel4 (x y:Int) (i o:Int):Bool:=decide (i=x)&&decide (o=y)
theorem u3w {L I n j:Nat} {y:Nat->Int} (w:World) (P:BxI w L n y) (K:w.cell? ⟨I,0,none⟩=some (.int .i64 (j:Int))) (D:j<n) (i o:Int) (s:ByteArray) (t:Int) :
  Calls prog 85 #[.agg #[.int .i64 i,.int .i64 o,.string s,.int .i64 t],.pointer (some ⟨L,0,none⟩),.pointer (some ⟨I,0,none⟩)] w (fun r w'=>r=.returned (.bool (sel2 (y j) i o))/\Below w.heap.size w w'):=by
 obtain⟨v,H,m⟩:=P;obtain⟨a,Q,b,N,rfl,E,X,R,hb,k⟩:=m.open;obtain rfl:=E (by omega);unfold maxLen at R;have c0:=k j D;clear k m;have S:(j:Int)<(n:Int):=by omega
 have F:(0:Int)<=(j:Int):=by omega
 obtain⟨p,c⟩:=exq (w.alloc (.cells #[.int .i64 i,.int .i64 o,.string s,.int .i64 t] 59));obtain⟨z,d⟩:=exq (w.heap.size);have g:=(Below.refl w.heap.size w).alloc nlr (.cells #[.int .i64 i,.int .i64 o,.string s,.int .i64 t] 59);have u:w.grownBy p none:=by rw[c];exact World.grownBy_alloc _ _ _
 rw[<- c] at g;have a0:p.cell? ⟨z,0,none⟩=some (.int .i64 i):=by rw[c,d];exact z2s w _ _ 0 _ rfl
 have W:p.cell? ⟨z,1,none⟩=some (.int .i64 o):=by rw[c,d];exact z2s w _ _ 1 _ rfl
 have U:=u.cell H (by simp);have T:=u.cell K (by simp);have O:=u.cell c0 (by simp);have G:=qh g;clear g hb E H K c0 u;obtain⟨C,l⟩:=exq (y j);rw[<- l] at O;rw[<- l];clear l;by_cases J:i=0
 ·subst J
  go_enter func85,ntmps85
  go_wp2_with fail
  rw[<- c,<- d];have B:=qh c;clear c;have A:=qh d;clear d
  go_quiet (fail)
  go_wp2;go_ret;exact⟨z0v (by by_cases h:o=C<;>simp[sel2,h]),below_drewN G.out _⟩
 go_enter func85,ntmps85
 go_wp2_with fail
 rw[<- c,<- d];have B:=qh c;clear c;have A:=qh d;clear d
 go_quiet (fail)
 go_wp2;go_ret;exact⟨z0v (by simp[sel2,J]),below_drewN G.out _⟩
theorem u4x {xb H n j:Nat} {x:Nat->Int} (w:World) (O:BxI w xb n x) (K:w.cell? ⟨H,0,none⟩=some (.int .i64 (j:Int))) (D:j<n) (i o:Int) (s:ByteArray) (t:Int) :
  Calls prog 86 #[.agg #[.int .i64 i,.int .i64 o,.string s,.int .i64 t],.pointer (some ⟨xb,0,none⟩),.pointer (some ⟨H,0,none⟩)] w (fun r w'=>r=.returned (.bool (sel3 (x j) i o))/\Below w.heap.size w w'):=by
 obtain⟨v,I,m⟩:=O;obtain⟨a,P,b,L,rfl,E,W,Q,hb,k⟩:=m.open;obtain rfl:=E (by omega);unfold maxLen at Q;have c0:=k j D;clear k m;have R:(j:Int)<(n:Int):=by omega
 have F:(0:Int)<=(j:Int):=by omega
 obtain⟨p,c⟩:=exq (w.alloc (.cells #[.int .i64 i,.int .i64 o,.string s,.int .i64 t] 59));obtain⟨z,d⟩:=exq (w.heap.size);have g:=(Below.refl w.heap.size w).alloc nlr (.cells #[.int .i64 i,.int .i64 o,.string s,.int .i64 t] 59);have u:w.grownBy p none:=by rw[c];exact World.grownBy_alloc _ _ _
 rw[<- c] at g;have a0:p.cell? ⟨z,0,none⟩=some (.int .i64 i):=by rw[c,d];exact z2s w _ _ 0 _ rfl
 have U:p.cell? ⟨z,1,none⟩=some (.int .i64 o):=by rw[c,d];exact z2s w _ _ 1 _ rfl
 have T:=u.cell I (by simp);have S:=u.cell K (by simp);have N:=u.cell c0 (by simp);have G:=qh g;clear g hb E I K c0 u;obtain⟨C,l⟩:=exq (x j);rw[<- l] at N;rw[<- l];clear l;by_cases J:i=C
 ·subst J
  go_enter func86,ntmps86
  go_wp2_with fail
  rw[<- c,<- d];have B:=qh c;clear c;have A:=qh d;clear d
  go_quiet (fail)
  go_wp2;go_ret;exact⟨z0v (by by_cases h:o=0<;>simp[sel3,h]),below_drewN G.out _⟩
 go_enter func86,ntmps86
 go_wp2_with fail
 rw[<- c,<- d];have B:=qh c;clear c;have A:=qh d;clear d
 go_quiet (fail)
 go_wp2;go_ret;exact⟨z0v (by simp[sel3,J]),below_drewN G.out _⟩
theorem u4q {xb W m k yb jb n j:Nat} {x y:Nat->Int} (w:World) (hx:BxI w xb m x) (hk:w.cell? ⟨W,0,none⟩=some (.int .i64 (k:Int))) (P:k<m) (hy:BxI w yb n y) (hj:w.cell? ⟨jb,0,none⟩=some (.int .i64 (j:Int))) (R:j<n) (i o:Int) (s:ByteArray) (t:Int) :
  Calls prog 87 #[.agg #[.int .i64 i,.int .i64 o,.string s,.int .i64 t],.pointer (some ⟨xb,0,none⟩),.pointer (some ⟨W,0,none⟩),.pointer (some ⟨yb,0,none⟩),.pointer (some ⟨jb,0,none⟩)] w (fun r w'=>r=.returned (.bool (sel4 (x k) (y j) i o))/\Below w.heap.size w w'):=by
 obtain⟨v',D,u⟩:=hx;obtain⟨a',Y,b',Z,rfl,F,a3,N,Q,g⟩:=u.open;obtain rfl:=F (by omega);have E:=g k P;unfold maxLen at N;have a6:(k:Int)<(m:Int):=by omega
 have X:(0:Int)<=(k:Int):=by omega
 clear g u;obtain⟨v,hv,C⟩:=hy;obtain⟨a,a4,b,a2,rfl,S,hc,hm,hb,p⟩:=C.open;obtain rfl:=S (by omega);unfold maxLen at hm;have c0:=p j R;clear p C;have a8:(j:Int)<(n:Int):=by omega
 have T:(0:Int)<=(j:Int):=by omega
 obtain⟨G,c⟩:=exq (w.alloc (.cells #[.int .i64 i,.int .i64 o,.string s,.int .i64 t] 59));obtain⟨H,d⟩:=exq (w.heap.size);have l:=(Below.refl w.heap.size w).alloc nlr (.cells #[.int .i64 i,.int .i64 o,.string s,.int .i64 t] 59);have A:w.grownBy G none:=by rw[c];exact World.grownBy_alloc _ _ _
 rw[<- c] at l;have a0:G.cell? ⟨H,0,none⟩=some (.int .i64 i):=by rw[c,d];exact z2s w _ _ 0 _ rfl
 have a1:G.cell? ⟨H,1,none⟩=some (.int .i64 o):=by rw[c,d];exact z2s w _ _ 1 _ rfl
 have d0:=A.cell hv (by simp);have d1:=A.cell hj (by simp);have d2:=A.cell c0 (by simp);have a7:=A.cell D (by simp);have a5:=A.cell hk (by simp);have L:=A.cell E (by simp);have U:=qh l;clear l hb S hv hj c0 A Q F D hk E;obtain⟨O,z⟩:=exq (x k);rw[<- z] at L;rw[<- z];clear z;obtain⟨K,B⟩:=exq (y j);rw[<- B] at d2;rw[<- B];clear B;by_cases h1:i=O
 ·subst h1
  go_enter func87,ntmps87
  go_wp2_with fail
  rw[<- c,<- d];have J:=qh c;clear c;have I:=qh d;clear d
  go_quiet (fail)
  go_wp2;go_ret;exact⟨z0v (by by_cases h:o=K<;>simp[sel4,h]),below_drewN U.out _⟩
 go_enter func87,ntmps87
 go_wp2_with fail
 rw[<- c,<- d];have J:=qh c;clear c;have I:=qh d;clear d
 go_quiet (fail)
 go_wp2;go_ret;exact⟨z0v (by simp[sel4,h1]),below_drewN U.out _⟩
end
section
open Go.RowKit Go.Deep
theorem y1w (t e:TypeId) (h:prog.underlying t=some (.slice e)) (w:World) (a:Option Addr) (n c:Nat):(binOp .eql t (.slice a n c) (.slice none 0 0)).run prog w=.ok (.bool a.isNone) w:=by
 simp only[binOp];simp[run_equal_slice_nil w t e a n c h]
theorem v2e (t e:TypeId) (h:prog.underlying t=some (.slice e)) (w:World) (a:Option Addr) (n c:Nat):(binOp .neq t (.slice a n c) (.slice none 0 0)).run prog w=.ok (.bool (!a.isNone)) w:=run_neq_slice_nil w t e a n c h
end
section
open Go.RowKit Go.Deep
abbrev VV:=Nat->ByteArray
abbrev RS:=(Bool->Nat->Option VV) × Nat
def updV (S:Bool->Nat->Option VV) (b:Bool) (j:Nat) (x:VV):Bool->Nat->Option VV:=fun b' j'=>if b'=b/\j'=j then some x else S b' j'
def z3d (D:MD) (b:Bool) (j:Nat) (sel:Int->Int->Bool) (v:VV) (s:RS):RS:=(updV s.1 b j (z2y D sel v D.n ((s.1 b j).getD z1f,s.2)).1,(z2y D sel v D.n ((s.1 b j).getD z1f,s.2)).2)
def cell1 (D:MD) (nb:Nat) (y:Nat->Int) (j:Nat) (v:VV) (s:RS):RS:=if j<nb then z3d D false (j+1) (sel2 (y j)) v s else s
def cell2 (D:MD) (na:Nat) (x:Nat->Int) (i j:Nat) (v:VV) (s:RS):RS:=if i<na then z3d D true j (sel3 (x i)) v s else s
def cell3 (D:MD) (na:Nat) (x:Nat->Int) (nb:Nat) (y:Nat->Int) (i j:Nat) (v:VV) (s:RS):RS:=if i<na/\j<nb then z3d D true (j+1) (sel4 (x i) (y j)) v s else s
def twoR (row next:Nat->Option VV):Bool->Nat->Option VV:=fun b=>if b then next else row
def vrV (n:Nat):Option Nat->Value
 | none=>.slice none 0 0
 | some r=>.slice (some ⟨r,0,none⟩) n n
structure VR (w:World) (B:Nat) (g:Bool->Nat) (m n:Nat) (R:Bool->Nat->Option Nat) (S:Bool->Nat->Option VV):Prop where
 top:∀ b,w.rowIs (g b) 102 m (fun j=>vrV n (R b j))
 gne:g false≠g true
 low:∀ b,B<=g b
 non:∀ b j,j<m->(R b j=none↔S b j=none)
 row:∀ b j r x,j<m->R b j=some r->S b j=some x->w.rowIs r 9 n (fun q=>.string (x q))/\B<=r
 sep:∀ b j b' j' r,j<m->j' < m->R b j=some r->R b' j'=some r->b=b'/\j=j'
 sm:∀ b j x,S b j=some x->∀ q,smS (x q)
theorem y7x {w:World} {g i n o:Nat} {e e':TypeId} {F m:Nat->Value} (h:w.rowIs g e n F) (l:w.rowIs i e' o m) (j:e≠e'):g≠i:=by
 rintro rfl;obtain⟨c,k,_⟩:=h;obtain⟨p,d,_⟩:=l;rw[k] at d;simp at d;exact j d.2
namespace VR
variable {w w':World} {B:Nat} {g:Bool->Nat} {m n:Nat} {R:Bool->Nat->Option Nat} {S:Bool->Nat->Option VV}
theorem some_of (h:VR w B g m n R S) {b:Bool} {j:Nat} {x:VV} (i:j<m) (c:S b j=some x):∃ r,R b j=some r/\w.rowIs r 9 n (fun q=>.string (x q))/\B<=r:=by
 cases d:R b j with
 | none=>have:=(h.non b j i).1 d;rw[c] at this;cases this
 | some r=>exact⟨r,rfl,h.row b j r x i d c⟩
theorem topne (h:VR w B g m n R S) {b b':Bool} {j r:Nat} {x:VV} (i:j<m) (d:R b j=some r) (c:S b j=some x):g b'≠r:=y7x (h.top b') (h.row b j r x i d c).1 (by decide)
theorem kept {C:Nat->Prop} (h:VR w B g m n R S) (hf:Fr C w w') (l:∀ b,¬ C (g b)) (k:∀ b j r,j<m->R b j=some r->¬ C r):VR w' B g m n R S :=
 ⟨fun b=>hf.row (h.top b) (l b),h.gne,h.low,h.non,fun b j r x c d i=>⟨hf.row (h.row b j r x c d i).1 (k b j r c d),(h.row b j r x c d i).2⟩,h.sep,h.sm⟩
theorem fresh (h:VR w B g m n R S) {b:Bool} {j r:Nat} {x:VV} (N:B<=w.heap.size) (L:w.heap.size<=r) (hf:Fr (fun q=>q=g b) w w') (I:w'.rowIs r 9 n (fun q=>.string (x q))) (J:∀ q,smS (x q))
  (K:w'.rowIs (g b) 102 m (fun j'=>if j'=j then vrV n (some r) else vrV n (R b j'))):VR w' B g m n (fun b' j'=>if b'=b/\j'=j then some r else R b' j') (updV S b j x):=by
 have u:∀ b' j' l,j' < m->R b' j'=some l->l<w.heap.size:=fun b' j' l d c=>by
  cases z:S b' j' with
  | none=>have:=(h.non b' j' d).2 z;rw[c] at this;cases this
  | some x0=>exact(h.row b' j' l x0 d c z).1.lt
 refine⟨fun b'=>?_,h.gne,h.low,fun b' j' d=>?_,fun b' j' l H d c i=>?_,fun G F E C l p s c i=>?_,fun b' j' H c=>?_⟩
 ·by_cases e:b'=b
  ·subst e;refine K.congr (fun j' _=>?_);by_cases e:j'=j
   ·rw[if_pos e,if_pos ⟨rfl,e⟩]
   rw[if_neg e,if_neg (fun h=>e h.2)]
  refine(hf.row (h.top b') (fun k=>?_)).congr (fun j' _=>by rw[if_neg (fun h=>e h.1)]);have o:=h.gne;cases b'<;>cases b<;>first|exact e rfl|exact o k|exact o k.symm
 ·unfold updV;by_cases e:b'=b/\j'=j
  ·rw[if_pos e,if_pos e];simp
  rw[if_neg e,if_neg e];exact h.non b' j' d
 ·unfold updV at i;by_cases e:b'=b/\j'=j
  ·rw[if_pos e] at c i;cases c;cases i;exact⟨I,by omega⟩
  rw[if_neg e] at c i;have o:=h.row b' j' l H d c i;exact⟨hf.row o.1 (fun k=>y7x (h.top b) o.1 (by decide) k.symm),o.2⟩
 ·by_cases D:G=b/\F=j
  ·by_cases k:E=b/\C=j
   ·exact⟨D.1.trans k.1.symm,D.2.trans k.2.symm⟩
   rw[if_pos D] at c;rw[if_neg k] at i;cases c;have:=u E C r s i;omega
  rw[if_neg D] at c;by_cases k:E=b/\C=j
  ·rw[if_pos k] at i;cases i;have:=u G F r p c;omega
  rw[if_neg k] at i;exact h.sep G F E C l p s c i
 unfold updV at c;by_cases e:b'=b/\j'=j
 ·rw[if_pos e] at c;cases c;exact J
 rw[if_neg e] at c;exact h.sm b' j' H c
end VR
def AtE (B:Nat) (g:Bool->Nat) (m n:Nat) (S:Bool->Nat->Option VV) (R:Bool->Nat->Option Nat) (b:Bool) (j:Nat) (w:World) (r:Ending) (w':World):Prop :=
 ∃ R' r0,r=.returned (.slice (some ⟨r0,0,none⟩) n n)/\R' b j=some r0/\(∀ b' j',¬ (b'=b/\j'=j)->R' b' j'=R b' j')/\VR w' B g m n R' (updV S b j ((S b j).getD z1f))/\Fr (fun q=>q=g b) w w'
theorem z7b (q:Nat):smS (z1f q):=by show (⟨#[]⟩:ByteArray).size<=_;decide
theorem x4h {cb c8 B m j:Nat} {b:Bool} {g:Bool->Nat} {R:Bool->Nat->Option Nat} {S:Bool->Nat->Option VV} {D:MD} {a:Option Addr} {cap:Nat} {star:Value} {e:Nat} (w:World) (h:VR w B g m D.n R S) (N:Scl w cb D (.slice a D.n cap) star e)
  (h8:w.cell? ⟨c8,0,none⟩=some (.pointer (some ⟨cb,0,none⟩))) (L:j<m) (hB:B<=w.heap.size) (h1:1<=D.n) (hn:D.n<=3000) :
  Calls prog 81 #[.slice (some ⟨g b,0,none⟩) m m,.int .i64 (j:Int),.pointer (some ⟨c8,0,none⟩)] w (AtE B g m D.n S R b j w):=by
 have a2:(j:Int)<(m:Int):=by omega
 have Z:(0:Int)<=(j:Int):=by omega
 obtain⟨gb,d⟩:=exq (g b);have c0:=(h.top b).cell L;rw[<- d] at c0;cases E:R b j with
 | none =>
  have W:=fun w=>y1w 102 9 underlying102 w none 0 0;rw[show (none:Option Addr).isNone=true from rfl] at W;rw[E] at c0;have X:w.cell? ⟨gb,j,none⟩=some (.slice none 0 0):=c0;clear c0;have O:=qh (z8e w N h1 hn);have c:=qh h;clear h;have HS:=qh N;clear N;have I:=qh E;clear E;have i:=qh d;rw[<- d];clear d
  go_enter func81,ntmps81
  go_wp2_with fail
  refine O.out.mono ?_;rintro r G ⟨rfl,p,hf,hz⟩;obtain⟨o,A⟩:=exq (w.heap.size);rw[<- A] at p;rw[<- A];have l:G.rowIs gb 102 m (fun j=>vrV D.n (R b j)):=by rw[i.out];exact hf.row (c.out.top b) (fun e=>e)
  have f0:=l.frozen j;have Q:=l.cell L;have s:=l.set j (vrV D.n (some o));have J:o≠gb:=by have:=(c.out.top b).lt;rw[<- i.out] at this;omega
  have u:=p.setOther (a:=⟨gb,j,none⟩) J (vrV D.n (some o));have z:=c.out.low b;rw[<- i.out] at z;have C:Fr (fun q=>q=g b) w (G.setCell ⟨gb,j,none⟩ (vrV D.n (some o))):=(hf.mono (fun _ _ e=>e.elim)).set (.inl i.out) _;have k:(G.setCell ⟨gb,j,none⟩ (vrV D.n (some o))).rowIs (g b) 102 m (fun F=>if F=j then vrV D.n (some o) else vrV D.n (R b F)):=by rw[<- i.out];exact s
  have H:=c.out.fresh (j:=j) hB (show w.heap.size<=o by omega) C u z7b k;have P:=k.cell L;rw[if_pos rfl,<- i.out] at P;have a3:(G.setCell ⟨gb,j,none⟩ (.slice (some ⟨o,0,none⟩) D.n D.n)).cell? ⟨gb,j,none⟩=some (.slice (some ⟨o,0,none⟩) D.n D.n):=P;have K:=qh H;clear H;have Y:=qh C;clear C;rw[I.out] at Q;have a1:G.cell? ⟨gb,j,none⟩=some (.slice none 0 0):=Q;clear l s u p hf hz A k P Q z J;go_wp2;go_ret;have T:(S b j).getD z1f=z1f:=by
   rw[(c.out.non b j L).1 I.out];rfl
  exact⟨_,o,rfl,if_pos ⟨rfl,rfl⟩,fun U F h=>if_neg h,by rw[T];exact K.out,Y.out⟩
 | some r0 =>
  rw[E] at c0;have X:w.cell? ⟨gb,j,none⟩=some (.slice (some ⟨r0,0,none⟩) D.n D.n):=c0;clear c0;have W:=fun w=>y1w 102 9 underlying102 w (some ⟨r0,0,none⟩) D.n D.n;rw[show (some (⟨r0,0,none⟩:Addr)).isNone=false from rfl] at W;have c:=qh h;clear h;have I:=qh E;clear E;rw[<- d];have i:=qh d;clear d;clear N
  go_enter func81,ntmps81
  go_wp2;go_ret;refine⟨R,r0,rfl,I.out,fun U F _=>rfl,?_,Fr.refl _ _⟩;cases hx:S b j with
  | none=>have:=(c.out.non b j L).2 hx;rw[I.out] at this;cases this
  | some x =>
   have hu:updV S b j ((some x).getD z1f)=S:=by
    funext U F
    unfold updV;by_cases e:U=b/\F=j
    ·rw[if_pos e,e.1,e.2,hx];rfl
    rw[if_neg e]
   rw[hu];exact c.out
end
section
open Go.RowKit Go.Deep
theorem z0j {w:World} {g b n:Nat} {e t:TypeId} {f:Nat->Value} {cs:Array Value} {fr:Nat × Nat} (h:w.rowIs g e n f) (hb:w.heap[b]?=some (.cells cs t fr)) (d:t≠e):g≠b:=by
 rintro rfl;obtain⟨c,i,_⟩:=h;rw[i] at hb;simp at hb;exact d hb.2.1.symm
def Bx (w:World) (b:Nat) (t:TypeId) (v:Value):Prop:=w.heap[b]?=some (.cells #[v] t (0,0))
theorem Bx.cell {w:World} {b:Nat} {t:TypeId} {v:Value} (h:Bx w b t v):w.cell? ⟨b,0,none⟩=some v:=by unfold Bx at h;simp[World.cell?,h]
theorem Bx.lt {w:World} {b:Nat} {t:TypeId} {v:Value} (h:Bx w b t v):b<w.heap.size:=(Array.getElem?_eq_some_iff.1 h).1
theorem Bx.kept {w c:World} {b:Nat} {t:TypeId} {v:Value} {C:Nat->Prop} (h:Bx w b t v) (hf:Fr C w c) (d:¬ C b):Bx c b t v:=(hf.block b h.lt d).trans h
theorem Bx.ne {w:World} {b c:Nat} {t g:TypeId} {v v':Value} (h:Bx w b t v) (d:Bx w c g v') (i:t≠g):b≠c:=by
 rintro rfl;unfold Bx at h d;rw[h] at d;simp at d;exact i d.2
structure WE (w0 w:World) (cb c8 xb yb:Nat) (D:MD) (sv xv yv:Value) (e:Nat):Prop where
 hb:Below w0.heap.size w0 w
 sc:Scl w cb D sv (.slice none 0 0) e
 k8:Bx w c8 98 (.pointer (some ⟨cb,0,none⟩))
 kx:Bx w xb 25 xv
 ky:Bx w yb 25 yv
 lc:w0.heap.size<=cb
namespace WE
variable {w0 w w':World} {cb c8 xb yb:Nat} {D:MD} {sv xv yv:Value} {e:Nat}
theorem kept {C:Nat->Prop} (h:WE w0 w cb c8 xb yb D sv xv yv e) (hf:Fr C w w') (d:¬ C cb) (c:¬ C c8) (i:¬ C xb) (j:¬ C yb) (g:∀ q,C q->w0.heap.size<=q):WE w0 w' cb c8 xb yb D sv xv yv e :=
 ⟨h.hb.trans (hf.below h.hb.size g),h.sc.kept hf d,h.k8.kept hf c,h.kx.kept hf i,h.ky.kept hf j,h.lc⟩
end WE
structure PWt (w0:World) (cb xb yb ib jb:Nat) (xv yv:Value) (i j:Nat) (w:World):Prop where
 hb:Below w0.heap.size w0 w
 kx:Bx w xb 25 xv
 ky:Bx w yb 25 yv
 ki:Bx w ib 3 (.int .i64 (i:Int))
 kj:Bx w jb 3 (.int .i64 (j:Int))
 nx:xb≠cb
 ny:yb≠cb
 ni:ib≠cb
 nj:jb≠cb
theorem PWt.fr {k wa z:World} {g xb o m p d i j:Nat} {u s:Value} (h:PWt k g xb o m p u s i j wa) (hf:Fr (fun q=>q=g\/q=d) wa z) (D:k.heap.size<=g) (B:k.heap.size<=d) (A:xb≠d) (G:o≠d) (E:m≠d) (F:p≠d):PWt k g xb o m p u s i j z:=by
 have l:∀ q,q≠g->q≠d->¬ (q=g\/q=d):=fun q a b c=>c.elim a b;exact⟨h.hb.trans (hf.below h.hb.size (fun q C=>by rcases C with rfl|rfl;exact D;exact B)),h.kx.kept hf (l _ h.nx A),h.ky.kept hf (l _ h.ny G),h.ki.kept hf (l _ h.ni E),h.kj.kept hf (l _ h.nj F),h.nx,h.ny,h.ni,h.nj⟩
theorem y9v {c w:World} {xb n:Nat} {d:Value} {x:Nat->Int} (g:Si none c d n x) (hb:Below c.heap.size c w) (h:Bx w xb 25 d):BxI w xb n x:=⟨d,h.cell,g.kept (z0b hb none)⟩
theorem tst2 {g:World} {u xb k p m n i j:Nat} {z l:Value} {y:Nat->Int} (o:Si none g l n y) (s:j<n):TstA 85 #[.pointer (some ⟨k,0,none⟩),.pointer (some ⟨m,0,none⟩)] (sel2 (y j)) (PWt g u xb k p m z l i j) :=
 ⟨u1t,fun A d i0 o0 s0 t0=>by
  have h:=u3w A (y9v o d.hb d.ky) d.kj.cell s i0 o0 s0 t0;rw[show ∀ a b c:Value,(#[a]++#[b,c]:Array Value)=#[a,b,c] from fun _ _ _=>rfl];exact h⟩
theorem tst3 {g:World} {o xb p k u n i j:Nat} {l s:Value} {x:Nat->Int} (m:Si none g l n x) (hi:i<n):TstA 86 #[.pointer (some ⟨xb,0,none⟩),.pointer (some ⟨k,0,none⟩)] (sel3 (x i)) (PWt g o xb p k u l s i j) :=
 ⟨u1i,fun z d i0 o0 s0 t0=>by
  have h:=u4x z (y9v m d.hb d.kx) d.ki.cell hi i0 o0 s0 t0;rw[show ∀ a b c:Value,(#[a]++#[b,c]:Array Value)=#[a,b,c] from fun _ _ _=>rfl];exact h⟩
theorem tst4 {k:World} {C xb m l s n u i j:Nat} {p o:Value} {x y:Nat->Int} (A:Si none k p n x) (hi:i<n) (z:Si none k o u y) (B:j<u):TstA 87 #[.pointer (some ⟨xb,0,none⟩),.pointer (some ⟨l,0,none⟩),.pointer (some ⟨m,0,none⟩),.pointer (some ⟨s,0,none⟩)] (sel4 (x i) (y j)) (PWt k C xb m l s p o i j) :=
 ⟨u2d,fun D g i0 o0 s0 t0=>by
  have h:=u4q D (y9v A g.hb g.kx) g.ki.cell hi (y9v z g.hb g.ky) g.kj.cell B i0 o0 s0 t0;rw[show ∀ a b c d e:Value,(#[a]++#[b,c,d,e]:Array Value)=#[a,b,c,d,e] from fun _ _ _ _ _=>rfl];exact h⟩
theorem y7i {S:Bool->Nat->Option VV} {b b':Bool} {j c:Nat} {x:VV} (h:¬ (b'=b/\c=j)):updV S b j x b' c=S b' c:=if_neg h
theorem z6x (S:Bool->Nat->Option VV) (b:Bool) (j:Nat) (x:VV):updV S b j x b j=some x:=if_pos ⟨rfl,rfl⟩
theorem y0a {D:MD} {b b':Bool} {j c:Nat} {sel:Int->Int->Bool} {v:VV} {s:RS} (h:¬ (b'=b/\c=j)):(z3d D b j sel v s).1 b' c=s.1 b' c:=if_neg h
theorem z8z (S:Bool->Nat->Option VV) (b:Bool) (j:Nat) (x y:VV):updV (updV S b j x) b j y=updV S b j y:=by
 funext b' j';unfold updV;by_cases e:b'=b/\j'=j<;>simp[e]
namespace VR
variable {w w':World} {B:Nat} {g:Bool->Nat} {m n:Nat} {R:Bool->Nat->Option Nat} {S:Bool->Nat->Option VV}
theorem gne_of (h:VR w B g m n R S) {q:Nat} {cs:Array Value} {t:TypeId} {fr:Nat × Nat} (c:w.heap[q]?=some (.cells cs t fr)) (d:t≠102) (b:Bool):g b≠q:=z0j (h.top b) c d
theorem rne_of (h:VR w B g m n R S) {q:Nat} {cs:Array Value} {t:TypeId} {fr:Nat × Nat} (k:w.heap[q]?=some (.cells cs t fr)) (l:t≠9) {b:Bool} {j r:Nat} (i:j<m) (d:R b j=some r):r≠q:=by
 cases c:S b j with
 | none=>have:=(h.non b j i).2 c;rw[d] at this;cases this
 | some x0=>exact z0j (h.row b j r x0 i d c).1 k l
theorem step2 {b:Bool} {j r E:Nat} {x:VV} (h:VR w B g m n R S) (C:j<m) (p:R b j=some r) (hf:Fr (fun q=>q=E\/q=r) w w') (F:∀ b,g b≠E) (D:∀ b j r,j<m->R b j=some r->r≠E) (H:w'.rowIs r 9 n (fun q=>.string (x q))) (I:∀ q,smS (x q)):VR w' B g m n R (updV S b j x):=by
 have l:∃ s,S b j=some s:=by
  cases G:S b j with
  | none=>have:=(h.non b j C).2 G;rw[p] at this;cases this
  | some s=>exact⟨s,rfl⟩
 obtain⟨s,l⟩:=l;refine⟨fun c=>hf.row (h.top c) (fun e=>e.elim (F c) (h.topne C p l)),h.gne,h.low,fun c k d=>?_,fun c k z A d i o=>?_,h.sep,fun c k A i=>?_⟩
 ·unfold updV;by_cases e:c=b/\k=j
  ·obtain⟨rfl,rfl⟩:=e;rw[if_pos ⟨rfl,rfl⟩,p];simp
  rw[if_neg e];exact h.non c k d
 ·unfold updV at o;by_cases e:c=b/\k=j
  ·obtain⟨rfl,rfl⟩:=e;rw[if_pos ⟨rfl,rfl⟩] at o;cases o;rw[p] at i;cases i;exact⟨H,(h.row c k r s C p l).2⟩
  rw[if_neg e] at o;refine⟨hf.row (h.row c k z A d i o).1 (fun u=>?_),(h.row c k z A d i o).2⟩
  rcases u with u|u
  ·exact D c k z d i u
  subst u;exact e (h.sep c k b j z d C i p)
 unfold updV at i;by_cases e:c=b/\k=j
 ·rw[if_pos e] at i;cases i;exact I
 rw[if_neg e] at i;exact h.sm c k A i
end VR
structure VR1 (w:World) (B g m n:Nat) (R:Nat->Option Nat) (S:Nat->Option VV):Prop where
 top:w.rowIs g 102 m (fun j=>vrV n (R j))
 low:B<=g
 non:∀ j,j<m->(R j=none↔S j=none)
 row:∀ j r x,j<m->R j=some r->S j=some x->w.rowIs r 9 n (fun q=>.string (x q))/\B<=r
 sep:∀ j j' r,j<m->j' < m->R j=some r->R j'=some r->j=j'
 sm:∀ j x,S j=some x->∀ q,smS (x q)
theorem VR.one {w:World} {B:Nat} {g:Bool->Nat} {m n:Nat} {R:Bool->Nat->Option Nat} {S:Bool->Nat->Option VV} (h:VR w B g m n R S) (b:Bool):VR1 w B (g b) m n (R b) (S b) :=
 ⟨h.top b,h.low b,h.non b,h.row b,fun j l r k i c d=>(h.sep b j b l r k i c d).2,h.sm b⟩
theorem VR1.kept {w k:World} {B g m n:Nat} {R:Nat->Option Nat} {S:Nat->Option VV} (h:VR1 w B g m n R S) (hf:Fr (fun _=>False) w k):VR1 k B g m n R S :=
 ⟨hf.row h.top (fun e=>e),h.low,h.non,fun j r x c i d=>⟨hf.row (h.row j r x c i d).1 (fun e=>e),(h.row j r x c i d).2⟩,h.sep,h.sm⟩
theorem VR1.two {w o:World} {B g d m n:Nat} {R:Nat->Option Nat} {S:Nat->Option VV} (h:VR1 w B g m n R S) (hf:Fr (fun _=>False) w o) (C:w.heap.size<=d) (D:B<=w.heap.size) (s:o.rowIs d 102 m (fun _=>.slice none 0 0)) :
  VR o B (fun b=>if b then d else g) m n (fun b=>if b then fun _=>none else R) (twoR S (fun _=>none)):=by
 have p:=h.kept hf;have u:=h.top.lt;refine⟨fun b=>?_,?_,fun b=>?_,fun b j i=>?_,fun b j r x i c k=>?_,fun b j z A r i l c k=>?_,fun b j x c=>?_⟩
 ·cases b
  ·exact p.top
  exact s
 ·show g≠d;omega
 ·cases b
  ·exact h.low
  show B<=d;omega
 ·cases b
  ·exact h.non j i
  exact⟨fun _=>rfl,fun _=>rfl⟩
 ·cases b
  ·exact p.row j r x i c k
  cases c
 ·cases b<;>cases z
  ·exact⟨rfl,h.sep j A r i l c k⟩
  ·cases k
  ·cases c
  cases c
 cases b
 ·exact h.sm j x c
 cases c
end
end Go.Proofs.YteappjogmnogcaaGreatDoor
