/- Parts of a proof: RegF. -/
import Derived.Test.YtjekapjbigfkbaaGreatDoorK19
import Derived.OrdersIn
namespace Go.Proofs.YtjekapjbigfkbaaGreatDoor
open Go Go.RowKit Go.Deep
set_option maxRecDepth 100000
set_option linter.unusedSimpArgs false
section
variable {F:Fence} {n:Nat} {P:Program} {ops:Array Oper} {Q:Exit→Act→World→Prop} {S:World→Prop} {s:Nat}
def YF (F:Fence) (P:Program) (ops:Array Oper) (S:World→Prop) (o:Oper) (v:Value) (a:Act):Prop:=YieldsIf P ops S o v a∧∀ w f,o.about P w a.eval=some f→F.fn f
theorem YF.here {i:Nat} {o:Oper} {v:Value} {a:Act} (hro:F.round=none) (hi:ops[i]?=some o) (hy:YF F P ops S o v a) {K:Act→World→Prop} {w:World} (hS:S w) (h:K (a.put o.dst v) w):wpOpIn F n P ops Q i K a w:=by
 have hab:∀ f,o.about P w a.eval=some f→F.fn f:=fun f hf=>hy.2 w f hf
 unfold wpOpIn
 simp only [hi]
 rcases hy.1 with ⟨hw,hv⟩ | ⟨hw,rfl⟩
 ·rw [if_pos hw]
  unfold Oper.wpIn
  refine ⟨hab,?_⟩
  rw [hro,Oper.semAt_none,hv w hS];exact h
 ·rw [if_neg (by rw [hw];simp)];exact ⟨hab,h⟩
theorem YF.past {o:Oper} {v:Value} {a a':Act} (hy:YF F P ops S o v a) (he:execOp a'.eval o=execOp a.eval o) (hw:Region.wanted o (yielded ops a'.tmps)=Region.wanted o (yielded ops a.tmps)) (hb:∀ w,o.about P w a'.eval=o.about P w a.eval):YF F P ops S o v a' :=
 ⟨hy.1.of_same he hw,fun w f hf=>hy.2 w f (by rw [← hb w];exact hf)⟩
theorem YF.swap {j:Nat} {oi oj:Oper} {v:Value} (hro:F.round=none) (hj:ops[j]?=some oj) (hap:oi.apart ops oj=true) (hsi:∀ cs b,oi.op≠.select cs b) (hsj:∀ cs b,oj.op≠.select cs b)
  (hQ:∀ c a w,Q (.panic c) (a.put oi.dst v) w→Q (.panic c) a w) {K:Act→World→Prop} {a:Act} {w:World} (hy:YF F P ops S oi v a) (h:wpOpIn F n P ops Q j K (a.put oi.dst v) w) :
  wpOpIn F n P ops Q j (fun a' w'=>YF F P ops S oi v a'∧K (a'.put oi.dst v) w') a w:=by
 obtain ⟨h1,h2,h3⟩:=Oper.apart_spec hap
 have kp:∀ b:Act,YF F P ops S oi v b→∀ u,YF F P ops S oi v (b.put oj.dst u):=fun b hb u=>hb.past (execOp_put oi hsi b oj.dst u h3) (wanted_put oi b oj.dst u h3) (fun w=>about_put oi w b oj.dst u h3)
 have kd:∀ d,YF F P ops S oi v { a with defers:=d::a.defers }:=fun d=>hy.past rfl rfl (fun _=>rfl)
 have fin:∀ (u:Value) (w':World),K ((a.put oi.dst v).put oj.dst u) w'→YF F P ops S oi v (a.put oj.dst u)∧K ((a.put oj.dst u).put oi.dst v) w':=fun u w' hk=>⟨kp a hy u,by rw [← Act.put_comm a v u h2];exact hk⟩
 unfold wpOpIn at h ⊢
 simp only [hj] at h ⊢
 rw [wanted_put oj a oi.dst v h1,about_put oj w a oi.dst v h1] at h
 by_cases hw:Region.wanted oj (yielded ops a.tmps)=true
 ·rw [if_pos hw] at h ⊢
  unfold Oper.wpIn at h ⊢
  rw [about_put oj w a oi.dst v h1,hro,Oper.semAt_none,execOp_put oj hsj a oi.dst v h1] at h
  rw [hro,Oper.semAt_none]
  obtain ⟨ha,h⟩:=h
  refine ⟨ha,?_⟩
  cases hr:(execOp a.eval oj).run P w with
  | ok x w' =>
   rw [hr] at h
   cases x with
   | value u=>exact fin u w' h
   | skip=>exact fin undef w' h
   | defer d =>
    refine ⟨kp _ (kd d) undef,?_⟩
    rw [← Act.put_comm _ v undef h2,← Act.put_defers];exact h
   | enter f args =>
    refine ⟨h.1,CallsIn.mono h.2 fun e w'' he=>?_⟩
    cases e with
    | returned u=>exact fin u w'' he
    | panicked c=>exact hQ _ _ _ he
    | outgrown=>exact he
   | row rr args=>exact ⟨h.1,RowsIn.mono h.2 fun u w'' he=>fin u w'' he⟩
   | round l f tmps assign body =>
    refine ⟨h.1,RoundIn.mono h.2 fun e w'' he=>?_⟩
    cases e with
    | returned u=>exact fin u w'' he
    | panicked c=>exact hQ _ _ _ he
    | outgrown=>exact he
   | _=>exact h.elim
  | halt x w' =>
   rw [hr] at h
   cases x with
   | panic u=>exact hQ _ _ _ h
   | _=>exact h.elim
 ·rw [if_neg hw] at h ⊢
  exact ⟨h.1,fin undef w h.2⟩
def AnyF (F:Fence) (n:Nat) (P:Program) (ops:Array Oper) (Q:Exit→Act→World→Prop) (S:World→Prop) (s:Nat):Nat→Array Bool→Act→World→Prop
 | 0,listed,a,w=>Region.ready .any ops listed=[]∧Q .normal a w
 | fuel+1,listed,a,w=>(Region.ready .any ops listed=[]→Q .normal a w) ∧
  ∀ i ∈ Region.ready .any ops listed,wpOpIn F n P ops Q i (fun a' w'=>(i=s∨listed.getD s false=true∨S w')∧AnyF F n P ops Q S s fuel (listed.setIfInBounds i true) a' w') a w
theorem AnyF.any:∀ (fuel:Nat) (listed:Array Bool) (a:Act) (w:World),AnyF F n P ops Q S s fuel listed a w→wpAnyIn F n P .any ops Q fuel listed a w
 | 0,_,_,_,h=>h
 | fuel+1,_,_,_,h=>⟨h.1,fun i hi=>wpOpIn_mono (fun a' w' h'=>AnyF.any fuel _ a' w' h'.2) (h.2 i hi)⟩
theorem AnyF.first {i:Nat} {oi:Oper} {v:Value} (hro:F.round=none) (hi:ops[i]?=some oi) (hw:waits ops ops.size s i=true) (hsel:∀ (j:Nat) (o:Oper) cs b,ops[j]?=some o→o.op≠.select cs b)
  (hQ:∀ c a w,Q (.panic c) (a.put oi.dst v) w→Q (.panic c) a w) :
  ∀ (fuel:Nat) (listed:Array Bool) (a:Act) (w:World),
   (∀ j oj,ops[j]?=some oj→j≠i→listed.getD j true=false→(∀ e ∈ oj.after,Region.binds .any e=true→e.on≠i)→oi.apart ops oj=true) →
   i ∈ Region.ready .any ops listed→Closed ops listed→YF F P ops S oi v a→S w →
   AnyF F n P ops Q S s fuel (listed.setIfInBounds i true) (a.put oi.dst v) w→AnyF F n P ops Q S s (fuel+1) listed a w:=by
 intro fuel
 induction fuel with
 | zero =>
  intro listed a w _ hr hcl hy hS H
  refine ⟨fun h=>(by rw [h] at hr;cases hr),fun j hj=>?_⟩
  by_cases hji:j=i
  ·subst hji;exact hy.here hro hi hS ⟨.inr (.inr hS),H⟩
  ·have:=ready_mono hj hji
   rw [H.1] at this
   cases this
 | succ fuel ih =>
  intro listed a w hfree hr hcl hy hS H
  refine ⟨fun h=>(by rw [h] at hr;cases hr),fun j hj=>?_⟩
  by_cases hji:j=i
  ·subst hji;exact hy.here hro hi hS ⟨.inr (.inr hS),H⟩
  ·have h1:=H.2 j (ready_mono hj hji)
   obtain ⟨hjun,oj,hoj,hall⟩:=mem_ready.1 hj
   have hopen:listed.getD i false=false:=by
    have h0:=(mem_ready.1 hr).1
    rcases Nat.lt_or_ge i listed.size with h' | h'
    ·simp [h'] at h0 ⊢;exact h0
    ·simp [Array.getElem?_eq_none h']
   have hnot:∀ e ∈ oj.after,Region.binds .any e=true→e.on≠i:=fun e he hb heq=>by
    have h1:=hall e he hb
    rw [heq,hopen] at h1;cases h1
   have hjs:j≠s:=fun e=>by
    subst e
    have:=waits_listed hcl _ _ hw (fun o' ho' e he hb=>by rw [hoj] at ho';cases ho';exact hall e he hb)
    rw [hopen] at this;cases this
   have h2:=YF.swap hro hoj (hfree j oj hoj hji hjun hnot) (fun cs b=>hsel i oi cs b hi) (fun cs b=>hsel j oj cs b hoj) hQ hy h1
   have hfree':∀ k ok,ops[k]?=some ok→k≠i→(listed.setIfInBounds j true).getD k true=false →
     (∀ e ∈ ok.after,Region.binds .any e=true→e.on≠i)→oi.apart ops ok=true:=fun k ok hk hki hun hno=>by
    refine hfree k ok hk hki ?_ hno
    by_cases hjk:j=k
    ·subst hjk;exact hjun
    ·rw [getD_set_ne true hjk] at hun;exact hun
   refine wpOpIn_mono (fun a' w' h3=>?_) h2
   have his:i≠s:=fun e0=>by
    subst e0
    obtain ⟨_,oi',hoi',halli⟩:=mem_ready.1 hr
    have:=waits_listed hcl _ _ hw (fun o' ho' e he hb=>by rw [hoi'] at ho';cases ho';exact halli e he hb)
    rw [hopen] at this;cases this
   have hns:(listed.setIfInBounds i true).getD s false≠true:=fun e=>by
    rw [getD_set_ne false his] at e
    have:=waits_listed hcl _ _ hw (fun o' ho' e' he hb=>hcl s o' e ho' e' he hb)
    rw [hopen] at this;cases this
   have hS':S w':=(h3.2.1.resolve_left hjs).resolve_left hns
   refine ⟨.inr (.inr hS'),ih (listed.setIfInBounds j true) a' w' hfree' (ready_mono hr (Ne.symm hji)) (hcl.set hj) h3.1 hS' ?_⟩
   rw [Array.setIfInBounds_comm _ _ hji]
   exact h3.2.2
theorem AnyF.tk {i:Nat} {oi:Oper} {v:Value} {fuel:Nat} {listed:Array Bool} {a:Act} {w:World} (hro:F.round=none) (hi:ops[i]?=some oi) (hb:tkB ops s i listed=true) (hS:S w) (hy:YieldsIf P ops S oi v a) (hab:∀ w f,oi.about P w a.eval=some f→F.fn f)
  (h:AnyF F n P ops Q S s fuel (listed.setIfInBounds i true) (a.put oi.dst v) w) (hQ:∀ c a w,Q (.panic c) (a.put oi.dst v) w→Q (.panic c) a w:=by exact fun _ _ _ h=>h):AnyF F n P ops Q S s (fuel+1) listed a w:=by
 unfold tkB at hb
 simp only [Bool.and_eq_true] at hb
 exact AnyF.first hro hi hb.1.1.1.1 (Region.noSelect_spec hb.1.1.2) hQ fuel listed a w (Region.free_spec hi hb.1.2) (by simpa using hb.2) (closed_of hb.1.1.1.2) ⟨hy,hab⟩ hS h
theorem AnyF.one {i:Nat} {o:Oper} {fuel:Nat} {listed:Array Bool} {a:Act} {w:World} (ho:ops[i]?=some o) (hr:Region.ready .any ops listed=[i]) (hwant:Region.wanted o (yielded ops a.tmps)=true)
  (h:∀ K:Act→World→Prop,Shut (∀ a w,(i=s∨listed.getD s false=true∨S w)→AnyF F n P ops Q S s fuel (listed.setIfInBounds i true) a w→K a w)→Oper.wpIn F n P o a w K Q):AnyF F n P ops Q S s (fuel+1) listed a w:=by
 refine ⟨fun h0=>(by rw [hr] at h0;cases h0),fun j hj=>?_⟩
 rw [hr] at hj
 obtain rfl:j=i:=by simpa using hj
 exact wpOpIn_step ho (fun K hK=>by rw [if_pos hwant];exact h K (fun a w hS hW=>hK a w ⟨hS,hW⟩))
theorem AnyF.pass {i:Nat} {o:Oper} {fuel:Nat} {listed:Array Bool} {a:Act} {w:World} (ho:ops[i]?=some o) (hr:Region.ready .any ops listed=[i]) (hwant:Region.wanted o (yielded ops a.tmps)=false)
  (hab:∀ f,o.about P w a.eval=some f→F.fn f) (hS:i=s∨listed.getD s false=true∨S w) (h:AnyF F n P ops Q S s fuel (listed.setIfInBounds i true) (a.put o.dst undef) w):AnyF F n P ops Q S s (fuel+1) listed a w:=by
 refine ⟨fun h0=>(by rw [hr] at h0;cases h0),fun j hj=>?_⟩
 rw [hr] at hj
 obtain rfl:j=i:=by simpa using hj
 unfold wpOpIn
 simp only [ho]
 rw [if_neg (by rw [hwant];simp)]
 exact ⟨hab,hS,h⟩
theorem AnyF.done {listed:Array Bool} {a:Act} {w:World} (hr:Region.ready .any ops listed=[]) (h:Q .normal a w):∀ fuel,AnyF F n P ops Q S s fuel listed a w
 | 0=>⟨hr,h⟩
 | _+1=>⟨fun _=>h,by rw [hr];simp⟩
theorem region_heldF (S:World→Prop) (s:Nat) {id:Nat} {a:Act} {w:World} (hm:P.follows .mixedOrders=true)
  (h:AnyF F n P ops Q S s ops.size (Array.replicate ops.size false) a w.drew):(Code.region id ops true).wpIn F n P Q a w :=
 wpIn_region_any hm (AnyF.any _ _ _ _ h)
end
end Go.Proofs.YtjekapjbigfkbaaGreatDoor
