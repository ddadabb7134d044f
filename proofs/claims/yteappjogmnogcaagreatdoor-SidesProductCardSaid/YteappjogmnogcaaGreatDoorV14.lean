/- Parts of a proof: RnL ExS BlH AloL RvA SdEr RnM RnW. -/
import Derived.Test.YteappjogmnogcaaGreatDoorV13
import Derived.Test.YteappjogmnogcaaGreatDoorV09
import Derived.Maps.Own
import Derived.Maps.Views
import Derived.Test.YteappjogmnogcaaGreatDoorV10
import Derived.Test.YteappjogmnogcaaGreatDoorV11
import Derived.Test.YteappjogmnogcaaGreatDoorV12
namespace Go.Proofs.YteappjogmnogcaaGreatDoor
set_option maxRecDepth 100000
set_option linter.unusedSimpArgs false
set_option linter.unusedVariables false
set_option linter.unusedSectionVars false
set_option maxHeartbeats 16000000
open Go Tryz
section
open Go.RowKit Go.Deep
def mpO (pi po:Nat->Int):Nat->Int->Option Int
 | 0,_=>none
 | q+1,s=>match mpO pi po q s with|some t=>some t|none=>if pi q=s then some (po q) else none
def mapF (n:Nat) (pi po:Nat->Int) (s:Int):Int:=(mpO pi po n s).getD s
def RenOk (n:Nat) (pi po:Nat->Int):Prop:=∀ i,i<n->1<=pi i/\pi i<=500/\0<=po i/\po i<=500
def PrS (z:Option Nat) (w:World) (v:Value) (n:Nat) (pi po:Nat->Int):Prop :=
 (n=0/\∃ a cap,v=.slice a 0 cap/\cap<=maxLen)\/∃ b off cap,v=.slice (some ⟨b,off,none⟩) n cap/\(b<w.heap.size/\some b≠z)/\n<=cap/\cap<=maxLen/\∀ i,i<n->w.cell? ⟨b,off+i*2,none⟩=some (.int .i64 (pi i))/\w.cell? ⟨b,off+i*2+1,none⟩=some (.int .i64 (po i))
theorem PrS.kept {z:Option Nat} {w m:World} {v:Value} {n:Nat} {k o:Nat->Int} (h:PrS z w v n k o) (j:w.grownBy m z):PrS z m v n k o:=by
 rcases h with h|⟨b,d,g,s,c,u,p,l⟩
 ·exact .inl h
 exact .inr ⟨b,d,g,s,⟨Nat.lt_of_lt_of_le c.1 j.size,c.2⟩,u,p,fun i hi=>⟨j.cell (l i hi).1 c.2,j.cell (l i hi).2 c.2⟩⟩
theorem PrS.open {z:Option Nat} {w:World} {v:Value} {n:Nat} {c d:Nat->Int} (h:PrS z w v n c d):∃ a cap b off,v=.slice a n cap/\(0<n->a=some ⟨b,off,none⟩)/\n<=cap/\cap<=maxLen/\(0<n->b<w.heap.size/\some b≠z)/\∀ i,i<n->w.cell? ⟨b,off+i*2,none⟩=some (.int .i64 (c i))/\w.cell? ⟨b,off+i*2+1,none⟩=some (.int .i64 (d i)):=by
 rcases h with ⟨o,a,cap,rfl,g⟩|⟨b,off,cap,rfl,m,l,j,k⟩
 ·exact⟨a,cap,0,0,by rw[o],by omega,by omega,g,by omega,fun i hi=>by omega⟩
 exact⟨_,cap,b,off,rfl,fun _=>rfl,l,j,fun _=>m,k⟩
def MpM (w:World) (pb q:Nat) (pi po:Nat->Int):Prop:=∃ D:DataW Unit,w.ownsMap prog 3 (plainElem prog 3) pb q D/\Maps.IsMap D/\∀ s z:Int,D.atKey (.int .i64 s) (.lit (.int .i64 z))=.lit (.int .i64 ((mpO pi po q s).getD z))
theorem u5u:Maps.Keyed prog 3:=Maps.int_keyed underlying3
theorem keyM {s:Int} (d:0<=s) (c:s<=500):keyOf prog 3 (.int .i64 s)=some (.int .i64 s):=Maps.keyOf_int_mk underlying3 (by simp[Lit.wf,IntKind.min,IntKind.max,IntKind.signed,IntKind.bits];omega)
theorem u6r (w:World):(zeroValue 3).run prog w=.ok (.int .i64 0) w:=by kernel_rfl
theorem u6d {s:Int} (d:0<=s) (c:s<=500):plainElem (H:=Unit) prog 3 (.int .i64 s)=some (.lit (.int .i64 s),[]):=plainElem_int underlying3 (by simp[Lit.wf,IntKind.min,IntKind.max,IntKind.signed,IntKind.bits];omega)
theorem MpM.made (w:World) (c d:Nat->Int):MpM (w.alloc (.map #[] 0)) w.heap.size 0 c d:=⟨.map [],World.ownsMap_made w _ _ _,⟨[],rfl⟩,fun _ _=>rfl⟩
theorem MpM.kept {w j:World} {d q:Nat} {g i:Nat->Int} {C:Nat->Prop} (h:MpM w d q g i) (hf:Fr C w j) (m:¬ C d):MpM j d q g i:=by
 obtain⟨D,⟨k,c,hb,p⟩,o,l⟩:=h;exact⟨D,⟨k,c,(hf.block d (Array.getElem?_eq_some_iff.1 hb).1 m).trans hb,p⟩,o,l⟩
theorem MpM.block {w:World} {i q:Nat} {j k:Nat->Int} (h:MpM w i q j k) {b:Nat} {c:Array Value} {t:TypeId} {f:Nat × Nat} (hb:w.heap[b]?=some (.cells c t f)):b≠i:=by
 obtain⟨D,⟨l,d,g,_⟩,_⟩:=h;rintro rfl;rw[hb] at g;cases g
theorem MpM.lt {w:World} {d q:Nat} {g j:Nat->Int} (h:MpM w d q g j):d<w.heap.size:=by
 obtain⟨D,⟨k,c,i,_⟩,_⟩:=h;exact(Array.getElem?_eq_some_iff.1 i).1
theorem MpM.look {w:World} {p q:Nat} {j i:Nat->Int} (h:MpM w p q j i) {s:Int} (A:0<=s) (z:s<=500) :
  (Instr.lookup 91 (.map (some p)) (.int .i64 s) true).run prog w=.ok (.tuple #[.int .i64 ((mpO j i q s).getD 0),.bool (mpO j i q s).isSome]) w:=by
 obtain⟨D,⟨E,m,hb,F,G,rfl⟩,_,k⟩:=h
 rcases Maps.fit_look true u5u underlying91 (u6r w) hb F (keyM A z) with ⟨d,_,g⟩|⟨C,y,_,_,d,l,g,_⟩
 ·have o:mpO j i q s=none:=by
   cases e:mpO j i q s with
   | none=>rfl
   | some t =>
    have a:=(g (.lit (.int .i64 (t+1)))).symm.trans (k s (t+1));rw[e] at a;simp only[Option.getD_some,DataW.lit.injEq,Lit.int.injEq,true_and] at a;omega
  rw[d,o];rfl
 obtain⟨c,B,u,_⟩:=plainElem_int_inv underlying3 l;have o:mpO j i q s=some c:=by
  cases e:mpO j i q s with
  | none =>
   have a:=(g (.lit (.int .i64 (c+1)))).symm.trans (k s (c+1));rw[e,u] at a;simp only[Option.getD_none,DataW.lit.injEq,Lit.int.injEq,true_and] at a;omega
  | some t =>
   have a:=(g (.lit (.int .i64 0))).symm.trans (k s 0);rw[e,u] at a;simp only[Option.getD_some,DataW.lit.injEq,Lit.int.injEq,true_and] at a;rw[a]
 rw[d,o,B];rfl
theorem MpM.put {i:World} {k q:Nat} {c d:Nat->Int} {D:DataW Unit} (j:Maps.IsMap D) (l:∀ s z:Int,D.atKey (.int .i64 s) (.lit (.int .i64 z))=.lit (.int .i64 ((mpO c d q s).getD z))) (g:mpO c d q (c q)=none)
  (m:i.ownsMap prog 3 (plainElem prog 3) k (q+1) (D.put (.int .i64 (c q)) (.lit (.int .i64 (d q))))):MpM i k (q+1) c d:=by
 refine⟨_,m,j.put _ _,fun s z=>?_⟩;by_cases e:s=c q
 ·subst e;rw[Maps.atKey_put_same j (by trivial)];show _=DataW.lit (.int .i64 ((mpO c d (q+1) (c q)).getD z));unfold mpO;rw[g];simp
 rw[Maps.atKey_put_other (fun h=>e (by simpa using h)),l s];show _=DataW.lit (.int .i64 ((mpO c d (q+1) s).getD z))
 conv=>rhs;unfold mpO
 cases o:mpO c d q s with
 | some t=>rfl
 | none=>simp[show ¬ c q=s from fun h=>e h.symm]
theorem MpM.same {i:World} {j q:Nat} {c g:Nat->Int} (h:MpM i j q c g) (d:(mpO c g q (c q)).isSome=true):MpM i j (q+1) c g:=by
 obtain⟨D,o,m,l⟩:=h;refine⟨D,o.mono (by omega),m,fun s z=>?_⟩;rw[l s z];show _=DataW.lit (.int .i64 ((mpO c g (q+1) s).getD z))
 conv=>rhs;unfold mpO
 cases k:mpO c g q s with
 | some t=>rfl
 | none =>
  have:¬ c q=s:=fun h=>by rw[h,k] at d;cases d
  simp[this]
def R1P (ob pb n:Nat) (pi po:Nat->Int) (w:World):Prop:=w.heap[ob]?=some (.cells #[.map (some pb)] 91 (0,0))/\MpM w pb n pi po
theorem R1P.kept {c d n:Nat} {g i:Nat->Int} {w j:World} {C:Nat->Prop} (h:R1P c d n g i w) (hf:Fr C w j) (l:¬ C c) (k:¬ C d):R1P c d n g i j:=⟨(hf.block c (lt_of_block h.1) l).trans h.1,h.2.kept hf k⟩
theorem v2w {j k n:Nat} {d g:Nat->Int} (w:World) (h:R1P j k n d g w) (s:Int) (m:0<=s) (l:s<=500) :
  Calls prog 70 #[.int .i64 s,.pointer (some ⟨j,0,none⟩)] w (fun r w'=>r=.returned (.int .i64 (mapF n d g s))/\w'=w):=by
 have c0:w.cell? ⟨j,0,none⟩=some (.map (some k)):=by simp[World.cell?,h.1]
 have c:=h.2.look m l;have i:mapF n d g s=(mpO d g n s).getD s:=rfl;rw[i];clear h i;cases e:mpO d g n s with
 | some t =>
  rw[e] at c;simp only[Option.getD_some,Option.isSome_some] at c ⊢;clear e
  go_enter func70,ntmps70
  go_wp2;go_ret;exact⟨rfl,rfl⟩
 | none =>
  rw[e] at c;simp only[Option.getD_none,Option.isSome_none] at c ⊢;clear e
  go_enter func70,ntmps70
  go_wp2;go_ret;exact⟨rfl,rfl⟩
def R2P (fb ob pb n:Nat) (pi po:Nat->Int) (w:World):Prop:=w.heap[fb]?=some (.cells #[.func (.func 70) #[] #[.pointer (some ⟨ob,0,none⟩)]] 93 (0,0))/\R1P ob pb n pi po w
theorem R2P.kept {c g d n:Nat} {i j:Nat->Int} {w k:World} {C:Nat->Prop} (h:R2P c g d n i j w) (hf:Fr C w k) (o:¬ C g) (m:¬ C d) (l:¬ C c):R2P c g d n i j k:=⟨(hf.block c (lt_of_block h.1) l).trans h.1,h.2.kept hf o m⟩
theorem R2P.lt {d g c n:Nat} {i j:Nat->Int} {w:World} (h:R2P d g c n i j w):d<w.heap.size/\g<w.heap.size/\c<w.heap.size:=⟨lt_of_block h.1,lt_of_block h.2.1,h.2.2.lt⟩
theorem v7m:∀ args w,(callFunc 71 args).run prog w=.ok (.enter 71 args) w:=fun args w=>by kernel_rfl
end
section
open Go CSR
def finB (k:Int) (s:ByteArray):Bool:=decide (s=⟨#[]⟩)||z0m k s
def arcB (D:MD) (i k:Nat):Bool:=(decide (0<=D.ain i k)&&decide (D.ain i k<=500))&&(decide (0<=D.aout i k)&&decide (D.aout i k<=500))&&(decide (0<=D.ato i k)&&decide (D.ato i k<(D.n:Int)))&&z0m D.kind (D.aw i k)
def vmB (D:MD):Bool:=z3v D.kind&&(decide (1<=D.n)&&decide (D.n<=3000))&&(decide (0<=D.start)&&decide (D.start<(D.n:Int)))&&z0m D.kind D.lead&&decide (z0f D D.n<=30000)&&((List.range D.n).all fun i=>finB D.kind (D.fin i)&&(List.range (D.na i)).all fun k=>arcB D i k)
theorem y4d {D:MD} (h:vmB D=true):VM D:=by
 unfold vmB at h;simp only[Bool.and_eq_true,decide_eq_true_eq,List.all_eq_true,List.mem_range] at h;obtain⟨⟨⟨⟨⟨s,p,A⟩,l,o⟩,z⟩,u⟩,j⟩:=h;refine⟨s,p,A,l,o,z,u,fun i hi=>?_,fun i k hi m=>?_⟩
 ·have:=(j i hi).1;unfold finB at this
  simpa using this
 have:=(j i hi).2 k m;unfold arcB at this;simp only[Bool.and_eq_true,decide_eq_true_eq] at this;obtain⟨⟨⟨⟨a,b⟩,c,d⟩,e,f⟩,g⟩:=this;exact⟨a,b,c,d,e,f,g⟩
instance (v:V):Decidable (fitV v):=by cases v<;>unfold fitV<;>infer_instance
def u4j {k:KK} (n p:Nat) (M:Nat->Nat->RK k):Bool:=decide (fitV (CSR.star (M p p)).1)&&(List.range n).all fun i=>decide (fitV (M i p*CSR.star (M p p)).1)&&(List.range n).all fun j =>
 decide (fitV (M i p*CSR.star (M p p)*M p j).1)&&decide (fitV (CSR.elim p M i j).1)
def u1a {k:KK} (n:Nat) (M:Nat->Nat->RK k):Bool:=((List.range n).all fun p=>u4j n p (CSR.elims M p))&&(List.range n).all fun i=>decide (fitV (CSR.elims M n i i+CSR.one).1)
theorem v6q {k:KK} {n:Nat} {M:Nat->Nat->RK k} (h:u1a n M=true):FitM n M:=by
 unfold u1a at h;simp only[Bool.and_eq_true,decide_eq_true_eq,List.all_eq_true,List.mem_range] at h;refine⟨fun p d=>?_,h.2⟩;have h:=h.1 p d;unfold u4j at h;simp only[Bool.and_eq_true,decide_eq_true_eq,List.all_eq_true,List.mem_range] at h;exact⟨h.1,fun i hi=>(h.2 i hi).1,fun i j hi c=>((h.2 i hi).2 j c).1,fun i j hi c=>((h.2 i hi).2 j c).2⟩
def selB (D:MD):Bool:=(List.range D.n).any fun q=>(List.range (D.na q)).any fun d=>silB (D.ain q d) (D.aout q d)
theorem y0w {D:MD}:NoSel D silB↔selB D=false:=by
 unfold selB NoSel;simp only[List.any_eq_false,List.mem_range,Bool.not_eq_true];exact⟨fun h q c d g=>h q d c g,fun h q d c g=>h q c d g⟩
def VOk (D:MD) (na:Nat) (x:Nat->Int) (nb:Nat) (y:Nat->Int) (s:ByteArray):Prop:=VM D/\isWord na x=true/\isWord nb y=true/\∀ st e,SilOk D silB st e->wgtG D st e na x nb y=(s,0)
def v9d (k:KK) (D:MD) (T:Nat->Nat->ByteArray):Bool:=(List.range D.n).all fun q=>(List.range D.n).all fun p=>decide (u0g k D silB q p=T q p)
def vokB (k:KK) (D:MD) (T:Nat->Nat->ByteArray) (na:Nat) (x:Nat->Int) (nb:Nat) (y:Nat->Int) (s:ByteArray):Bool :=
 (decide (k.1=D.kind)&&(isWord na x&&isWord nb y))&&(decide (D.n<=60)&&decide (serr D silB D.n=0))&&(if selB D then decide (wgtG D (some T) 0 na x nb y=(s,0)) else decide (wgtG D none 0 na x nb y=(s,0)))
theorem v8u {k:KK} {D:MD} {T:Nat->Nat->ByteArray} {na:Nat} {x:Nat->Int} {nb:Nat} {y:Nat->Int} {s:ByteArray} (l:VM D) (hf:u1a D.n (fun i j=>wval k (smat D silB i j))=true) (g:v9d k D T=true) (h:vokB k D T na x nb y s=true):VOk D na x nb y s:=by
 unfold vokB at h;simp only[Bool.and_eq_true,decide_eq_true_eq] at h;obtain⟨⟨⟨z,u,E⟩,m,o⟩,c⟩:=h;refine⟨l,u,E,fun st e F=>?_⟩
 rcases F.closed l z m o (v6q hf) (na:=na) (x:=x) (nb:=nb) (y:=y) with ⟨d,hb⟩|⟨d,hb⟩
 ·rw[y0w.1 hb] at c;rw[d];simpa using c
 have C:selB D=true:=by
  cases G:selB D
  ·exact absurd (y0w.2 G) hb
  rfl
 rw[C] at c;rw[d,v3a (S':=T) fun q p A B=>?_]
 ·simpa using c
 unfold v9d at g;simp only[List.all_eq_true,List.mem_range,decide_eq_true_eq] at g;exact g q A p B
theorem y4k {D:MD} {na:Nat} {x:Nat->Int} {nb:Nat} {y:Nat->Int} {s:ByteArray} (i:VM D) (g:selB D=false) (h:(isWord na x&&isWord nb y&&decide (wgtG D none 0 na x nb y=(s,0)))=true):VOk D na x nb y s:=by
 simp only[Bool.and_eq_true,decide_eq_true_eq] at h;obtain⟨⟨l,k⟩,j⟩:=h;refine⟨i,l,k,fun st e d=>?_⟩
 rcases d with ⟨_,rfl,rfl⟩|⟨c,_⟩|⟨c,_⟩
 ·exact j
 ·exact absurd (y0w.2 g) c
 exact absurd (y0w.2 g) c
def kTr:KK:=⟨1,.inl rfl⟩
def mD:MD:={ kind:=1,start:=0,lead:=⟨#[48]⟩,n:=2,fin:=fun i=>if i=0 then ⟨#[]⟩ else ⟨#[48]⟩,na:=fun i=>if i=0 then 2 else 0,ain:=fun _ _=>1,aout:=fun _ d=>if d=0 then 2 else 3,aw:=fun _ d=>if d=0 then ⟨#[49]⟩ else ⟨#[50]⟩,ato:=fun _ _=>1 }
def y12:Nat->Int:=fun i=>if i=0 then 1 else 2
def y21:Nat->Int:=fun i=>if i=0 then 2 else 1
def c1:Nat->Int:=fun _=>1
def c2:Nat->Int:=fun _=>2
def c3:Nat->Int:=fun _=>3
def dD:MD:=z9n 1 2 y12 1 c3 ⟨#[51]⟩
def abD:MD:=z9n 1 2 y12 2 y12 ⟨#[49]⟩
def kD:MD:=z9n 1 1 c3 1 c3 ⟨#[50]⟩
def cD:MD:=catD abD.inZ kD.outZ (z0g abD.kind abD.lead kD.lead).1
def nD:MD:=mD.ren (mapF 1 c2 c3)
theorem v6w:VM mD:=y4d (by decide +kernel)
theorem u5q:VM dD:=y4d (by decide +kernel)
theorem u5a:VM (revD dD):=y4d (by decide +kernel)
theorem v9i:VM abD:=y4d (by decide +kernel)
theorem u5n:VM kD:=y4d (by decide +kernel)
theorem u6k:VM cD:=y4d (by decide +kernel)
theorem u6q:VM nD:=y4d (by decide +kernel)
theorem u6w:VOk mD.inv 1 c2 1 c1 ⟨#[49]⟩:=y4k (y4d (by decide +kernel)) (by decide +kernel) (by decide +kernel)
theorem u7a:VOk mD.inv 1 c1 1 c2 ⟨#[105,110,102]⟩:=y4k (y4d (by decide +kernel)) (by decide +kernel) (by decide +kernel)
theorem ex_b:VOk mD.inR 1 c1 1 c1 ⟨#[49]⟩:=y4k (y4d (by decide +kernel)) (by decide +kernel) (by decide +kernel)
theorem ex_c:VOk mD.outR 1 c3 1 c3 ⟨#[50]⟩:=y4k (y4d (by decide +kernel)) (by decide +kernel) (by decide +kernel)
theorem ex_n:VOk nD 1 c1 1 c3 ⟨#[49]⟩:=y4k u6q (by decide +kernel) (by decide +kernel)
def tR (q p:Nat):ByteArray:=if q=p then ⟨#[48]⟩ else if q=3/\p=2 then ⟨#[48]⟩ else ⟨#[105,110,102]⟩
def tC (q p:Nat):ByteArray:=if q=p then ⟨#[48]⟩ else if q=4/\p=0 then ⟨#[48]⟩ else ⟨#[105,110,102]⟩
theorem ex_d:VOk (revD dD) 2 y21 1 c3 ⟨#[51]⟩:=v8u (k:=kTr) (T:=tR) u5a (by decide +kernel) (by decide +kernel) (by decide +kernel)
theorem ex_k:VOk cD 2 y12 1 c3 ⟨#[51]⟩:=v8u (k:=kTr) (T:=tC) u6k (by decide +kernel) (by decide +kernel) (by decide +kernel)
end
section
open Go.RowKit Go.Deep
theorem u1x:∀ args w,(callFunc 126 args).run prog w=.ok (.enter 126 args) w:=fun args w=>by kernel_rfl
theorem v6f (w:World) (s:Int):Calls prog 127 #[.int .i64 s] w (fun r w'=>r=.returned (.bool (!offI 500 s))/\w'=w):=by
 by_cases g:1<=s
 ·go_enter func127,ntmps127
  go_wp2;go_ret;exact⟨z0v (by
   unfold offI;rw[show decide (s<1)=false by simp;omega];by_cases c:s<=500
   ·simp[c]
   simp[c];omega),rfl⟩
 have d:decide (1<=s)=false:=by simp;omega
 go_enter func127,ntmps127
 go_wp2;go_ret;exact⟨z0v (by unfold offI;rw[show decide (s<1)=true by simp;omega];rfl),rfl⟩
theorem x6w (w:World) (s:Int):Calls prog 126 #[.int .i64 s] w (fun r w'=>r=.returned (.bool (offI 500 s))/\w'=w):=by
 have c:=qh (v6f w s)
 go_enter func126,ntmps126
 go_wp2_with fail
 refine c.out.mono ?_;rintro r d ⟨rfl,rfl⟩;go_wp2;go_ret;exact⟨z0v (by simp),rfl⟩
theorem x1y {n:Nat} {v:Value} {x:Nat->Int} (w:World) (d:Si none w v n x) (hn:(n:Int)<=9223372036854775807) :
  Calls prog 89 #[v] w (fun r w'=>r=.returned (.bool (isWord n x))/\w'=w):=by
 have c:=y2g w d hn (show TstF 126 #[] (offI 500) w from ⟨u1x,fun s=>by
  rw[show ∀ a:Value,(#[a]++#[]:Array Value)=#[a] from fun _=>rfl];exact x6w w s⟩)
 obtain⟨a,g,rfl⟩:=d.shape;have i:=qh c;clear c d;by_cases h:(n:Int)<=200
 ·go_enter func89,ntmps89
  go_wp2_with fail
  refine i.out.mono ?_;rintro r j ⟨rfl,rfl⟩;go_wp2;go_ret;exact⟨z0v (by unfold isWord y5q;rw[show decide (n<=200)=true by simp;omega];simp),rfl⟩
 have k:decide ((n:Int)<=200)=false:=by simp;omega
 go_enter func89,ntmps89
 go_wp2;go_ret;exact⟨z0v (by unfold isWord;rw[show decide (n<=200)=false by simp;omega];rfl),rfl⟩
theorem v3u {n i:Nat} {v:Value} {x:Nat->Int} (w:World) (j:Si none w v n x):Calls prog 93 #[v,.int .i64 (i:Int)] w (fun r w'=>r=.returned (.int .i64 (atW n x i))/\w'=w):=by
 obtain⟨a,o,b,m,rfl,g,u,p,hb,c⟩:=j.open;unfold maxLen at p;by_cases h:i<n
 ·have l:(i:Int)<(n:Int):=by omega
  have s:(0:Int)<=(i:Int):=by omega
  obtain rfl:=g (by omega);have c0:=c i h;have e:atW n x i=x i:=if_pos h;rw[e];obtain⟨k,d⟩:=exq (x i);rw[<- d] at c0;rw[<- d];clear c j hb g e d
  go_enter func93,ntmps93
  go_wp2;go_ret;exact⟨rfl,rfl⟩
 have l:¬ ((i:Int)<(n:Int)):=by omega
 have e:atW n x i=0:=if_neg h;rw[e];clear c j hb g e
 go_enter func93,ntmps93
 go_wp2;go_ret;exact⟨rfl,rfl⟩
theorem z5x (kind:Int) (na:Nat) (x:Nat->Int) (nb:Nat) (y:Nat->Int) (v:ByteArray):∀ i,(z4a kind na x nb y v i).n=i+1
 | 0=>rfl
 | i+1=>by
  show (z4a kind na x nb y v i).n+1=_;rw[z5x kind na x nb y v i]
theorem x5u (kind:Int) (na:Nat) (x:Nat->Int) (nb:Nat) (y:Nat->Int) (v:ByteArray):∀ i p,(z4a kind na x nb y v i).na p<=i
 | 0,p=>by show (if p=0 then 0 else 0)<=0;split<;>omega
 | i+1,p=>by
  have h1:=x5u kind na x nb y v i;show (if p=i then (if i=(z4a kind na x nb y v i).n then 0 else (z4a kind na x nb y v i).na i)+1 else (if p=(z4a kind na x nb y v i).n then 0 else (z4a kind na x nb y v i).na p))<=i+1
  have h2:=h1 i;have h3:=h1 p
  split<;>split<;>omega
theorem y7r (kind:Int) (na:Nat) (x:Nat->Int) (nb:Nat) (y:Nat->Int) (v:ByteArray):∀ i,(z4a kind na x nb y v i).kind=kind/\(z4a kind na x nb y v i).start=0/\(z4a kind na x nb y v i).lead=v
 | 0=>⟨rfl,rfl,rfl⟩
 | i+1=>y7r kind na x nb y v i
def u6m (kind:Int) (na:Nat) (x:Nat->Int) (nb:Nat) (y:Nat->Int) (v:ByteArray):Prop:=isWord na x=true/\isWord nb y=true/\z0m kind v=true
theorem Bld.c4 {w:World} {B db:Nat} {D:MD} {R:Nat->Value} {sv:Value} {one:ByteArray} {ac fl:Int} (h:Bld w B db D R sv one ac fl):w.cell? ⟨db,4,none⟩=some (.string one):=BlkB.c4 h.blk
theorem BlS.one {F:Nat->Prop} {B db:Nat} {D:MD} {one:ByteArray} {ac fl:Int} {w:World} (h:BlS F B db D one ac fl w):w.cell? ⟨db,4,none⟩=some (.string one):=by
 obtain⟨R,sv,c,d⟩:=h;exact c.c4
theorem y4v {kind:Int} {xv yv:Value} {na nb:Nat} {x y:Nat->Int} {v:ByteArray} (w:World) (hx:Si none w xv na x) (hy:Si none w yv nb y) (i9:(na:Int)<=9223372036854775807) (j0:(nb:Int)<=9223372036854775807) (hv:smS v) (ht:Tab w) (Z:u6m kind na x nb y v) :
  Calls prog 40 #[.int .i64 kind,xv,yv,.string v] w (fun r w'=>Below w.heap.size w w'/\∃ sv R,r=.returned (.tuple #[.agg #[.int .i64 kind,.int .i64 0,.string v,sv],.int .i64 0])/\OwM w' w.heap.size sv (z9n kind na x nb y v) R):=by
 obtain⟨ax,cx,rfl⟩:=hx.shape;obtain⟨ay,cy,rfl⟩:=hy.shape;obtain⟨Q,N,h3⟩:=Z;have k3:na<=200:=by unfold isWord at Q;simp at Q;exact Q.1
 have k1:nb<=200:=by unfold isWord at N;simp at N;exact N.1
 obtain⟨w1,a1⟩:=exq (w.alloc (.cells #[.int .i64 0,.int .i64 0,.string ⟨#[]⟩,.slice none 0 0] 24));obtain⟨rb,d5⟩:=exq (w.heap.size);have I:Below w.heap.size w w1:=by rw[a1];exact(Below.refl _ w).alloc nlr _
 have g8:w1.heap[rb]?=some (.cells #[.int .i64 0,.int .i64 0,.string ⟨#[]⟩,.slice none 0 0] 24 (0,0)):=by rw[a1,d5];exact heap_alloc_new w _
 have i5:w.heap.size<=rb:=by omega
 have e9:∀ W,Below w.heap.size w W->Si none W (.slice ax na cx) na x:=fun W h=>hx.kept (z0b h none);have d0:∀ W,Below w.heap.size w W->Si none W (.slice ay nb cy) nb y:=fun W h=>hy.kept (z0b h none);have d8:=qh (x1y w1 (e9 w1 I) i9);have e0:=qh (x1y w1 (d0 w1 I) j0);have d9:=z3g kind v w1 hv (ht.below I nlr);rw[h3] at d9;rw[Q] at d8;rw[N] at e0;have f8:=qh d9;clear d9 Q N h3 ht;have i2:=qh e9;clear e9 hx;have j5:=qh d0;clear d0 hy;have d1:=qh I;clear I;have e4:=qh g8;clear g8
 go_enter func40,ntmps40
 go_wp2_with fail
 rw[<- a1,<- d5];clear a1 d5;refine d8.out.mono ?_;rintro r l3 ⟨rfl,rfl⟩
 go_wp2_with fail
 refine e0.out.mono ?_;rintro r k5 ⟨rfl,rfl⟩
 go_wp2_with fail
 refine f8.out.mono ?_;rintro r w2 ⟨rfl,d6⟩;have a8:=d1.out.trans (d6.mono d1.out.size);have f7:=(d6.block _ (lt_of_block e4.out)).trans e4.out;have b0:=qh (y6f kind w2);have b9:=qh a8;clear a8 d6 d1 d8 e0 f8;have h7:=qh f7;clear f7 e4
 go_wp2_with fail
 refine b0.out.mono ?_;rintro r w3 ⟨F,rfl,e2,X,h9⟩;obtain⟨B,u⟩:=exq (w2.heap.size);rw[<- u] at e2 X h9;have d2:w.heap.size<=B:=by rw[u];exact b9.out.size
 have i7:B<=w3.heap.size:=by rw[u];rw[u] at X;exact X.size
 have T:=e2.old i7;obtain⟨⟨v1,j8⟩,i4,g6⟩:=T.cells;have j7:=g6 2;clear g6 j8;obtain⟨w4,a2⟩:=exq (w3.setCell ⟨F,2,none⟩ (.string v));have b8:BlS (fun b=>b<B) B F (z1e kind 0 v) (oneF kind) 0 0 w4:=by rw[a2];exact T.lead v
 have D:Below B w2 w4:=by rw[a2];exact X.setCell (p:=⟨F,2,none⟩) h9 _
 have j9:B<=w4.heap.size:=by rw[u];rw[u] at D;exact D.size
 have O:=qh (x2x ⟨#[]⟩ w4 b8 j9 (by show 0<=100000;omega));have b6:=qh D;clear D X e2 T b8 b0;have o:=qh u;clear u
 go_wp2_with fail
 rw[<- a2];clear a2 i4 j7;refine O.out.mono ?_;rintro r w5 ⟨rfl,a3⟩;have h0:(z1e kind 0 v).state ⟨#[]⟩=z4a kind na x nb y v 0:=rfl;rw[h0] at a3;have b1:BlN (fun b=>b<B) B F (z4a kind na x nb y v 0) (oneF kind) ((0:Nat):Int) 0 w5 w5:=BlN.refl a3.1;have b7:=b6.out.trans a3.2.2;have a7:=qh b1;clear b1 a3 h0 O;have U:=qh b7;clear b7 b6;obtain⟨m,hm⟩:=exq (max na nb);have k7:m<=200:=by omega
 have g2:max (na:Int) (nb:Int)=(m:Int):=by omega
 have HM:=qh hm;clear hm
 go_wp2_with fail
 clear g2
 go_loopw [11,43] (fun i6 e5 wr=>∃ i:Nat,i<=m/\i6=.int .i64 (i:Int)/\e5=.int .i64 (i:Int)/\BlN (fun b=>b<B) B F (z4a kind na x nb y v i) (oneF kind) (i:Int) 0 w5 wr) (fun _ e5 _=>m-(intOf e5).toNat)
 case atStart=>exact⟨0,Nat.zero_le _,rfl,rfl,a7.out⟩
 obtain⟨i,hi,rfl,rfl,h4⟩:=hrel;clear a7;have E:=qh h4;clear h4;have P:=U.out.trans E.out.2.2;have g5:B<=wr.heap.size:=by rw[o.out];rw[o.out] at P;exact P.size
 have l1:B<=w5.heap.size:=by have h:=U.out;rw[o.out];rw[o.out] at h;exact h.size
 by_cases l4:i<m
 ·have l2:(i:Int)<(m:Int):=by omega
  have d7:=x2x ⟨#[]⟩ wr E.out.1 g5 (by rw[z5x];omega);rw[z5x] at d7;have O:=qh d7;clear d7 P
  go_wp2_with fail
  refine O.out.mono ?_;rintro r w6 ⟨rfl,g4⟩;obtain⟨l,C⟩:=exq (w6.drew);have J:Fr (fun _=>False) w6 l:=by rw[C];exact(Fr.refl _ _).drew
  have d:Below w6.heap.size w6 l:=J.below nlr (fun _ e=>e.elim);have s:BlN (fun b=>b<B) B F ((z4a kind na x nb y v i).state ⟨#[]⟩) (oneF kind) (i:Int) 0 w5 l:=by
   have h1:=E.out.trans g4;exact⟨h1.1.kept d,fun b hb=>(d.block b (h1.1.lt.2.2 b hb)).trans (h1.2.1 b hb),h1.2.2.trans (d.mono (by have:=h1.2.2.size;omega))⟩
  have j:Below B w2 l:=U.out.trans s.2.2;have G:Below w.heap.size w l:=b9.out.trans (j.mono d2);have c4:=s.1.one;have i3:B<=l.heap.size:=by rw[o.out];rw[o.out] at j;exact j.size
  have f4:=qh (v3u (i:=i) l (i2.out l G));have c7:=qh (v3u (i:=i) l (j5.out l G));have e8:((z4a kind na x nb y v i).state ⟨#[]⟩).n=i+2:=by show (z4a kind na x nb y v i).n+1=_;rw[z5x]
  have a9:((z4a kind na x nb y v i).state ⟨#[]⟩).na i<=100000:=by
   show (if i=(z4a kind na x nb y v i).n then 0 else (z4a kind na x nb y v i).na i)<=100000
   have:=x5u kind na x nb y v i i
   split<;>omega
  have z:=u1h (q:=i) (atW na x i) (atW nb y i) ((i+1:Nat):Int) (oneF kind) l s.1 (by omega) (by omega) i3 (by rw[e8];omega) (by rw[e8];omega) a9;rw[show ((z4a kind na x nb y v i).state ⟨#[]⟩).arc i (atW na x i) (atW nb y i) (oneF kind) ((i+1:Nat):Int)=z4a kind na x nb y v (i+1) from rfl,show (i:Int)+1=((i+1:Nat):Int) by omega] at z;obtain⟨on,A⟩:=exq (oneF kind);rw[<- A] at c4 z;obtain⟨xi,c9⟩:=exq (atW na x i);obtain⟨yi,e3⟩:=exq (atW nb y i);rw[<- c9,<- e3] at z;rw[<- c9] at f4;rw[<- e3] at c7;have g1:=qh A;clear A;clear c9 e3;have b2:=qh z;clear z;have g3:=qh s;clear s g4 O E J d e8 a9 j G
  go_wp2_with fail
  refine z0h (fun wk=>wk.cell? ⟨F,4,none⟩=some (.string on)) 14 (by kernel_rfl) ?_;rw[<- C];clear C;refine z0c.tm 0 c4 ?_;refine z0c.tm 1 c4 ?_;refine z0c.tm 2 c4 ?_;refine z0c.tm 3 c4 ?_;refine z0c.tm 5 c4 ?_;refine z0c.tm 6 c4 ?_;refine z0c.tm 8 c4 ?_;refine z0c.tm 9 c4 ?_;refine z0c.tm 10 c4 ?_;refine z0c.tm 11 c4 ?_;refine z0c.tm 12 c4 ?_
  try simp only[Act.put,tryL]
  refine z0c.on 4 fun K L=>?_;go_simp;refine f4.out.mono ?_;rintro r k6 ⟨rfl,rfl⟩;refine L.out _ _ (.inr c4) ?_;clear L K
  try simp only[Act.put,tryL]
  refine z0c.on 7 fun K L=>?_;go_simp;refine c7.out.mono ?_;rintro r k4 ⟨rfl,rfl⟩;refine L.out _ _ (.inr c4) ?_;clear L K
  try simp only[Act.put,tryL]
  refine z0c.tm 13 c4 ?_
  try simp only[Act.put,tryL]
  refine z0c.on 14 fun K L=>?_;go_simp;refine b2.out.mono ?_;rintro r w7 ⟨rfl,e1⟩;refine L.out _ _ (.inl rfl) (z0c.dn ?_);clear L K c4;rw[g1.out] at e1;have j2:=qh (g3.out.trans e1);clear e1 b2 g3 f4 c7;go_wp2;go_roundw
  case rel=>exact⟨i+1,by omega,by go_num,by go_num,j2.out⟩
  simp[intOf];omega
 have j3:m=i:=by omega
 subst j3;have k2:¬ ((m:Int)<(m:Int)):=by omega
 obtain⟨l,C⟩:=exq (wr.drew);have J:Fr (fun _=>False) wr l:=by rw[C];exact(Fr.refl _ _).drew
 have d:Below wr.heap.size wr l:=J.below nlr (fun _ e=>e.elim);have f9:=E.out.1.kept d;have j:Below B w2 l:=P.trans (d.mono g5);obtain⟨R,sv,k,a4⟩:=f9;obtain⟨g,cp,rfl,j6,k9,_,_⟩:=z7v k.own.top (by rw[z5x];omega);have d3:=BlkB.c3 k.blk;have d4:=BlkB.c4 k.blk;have g0:=k.own.fin_cell (i:=m) (by rw[z5x];omega);have fg:=z5y k.own.top (m*2);have h6:=k.own.setFin (q:=m) (by rw[z5x];omega) (oneF kind);rw[z5x] at d3;have j1:F≠g:=fun e=>z2p k.own.top k.blk (by decide) (by rw[e];rfl);obtain⟨w8,S⟩:=exq (l.setCell ⟨g,m*2,none⟩ (.string (oneF kind)));have b3:BlS (fun b=>b<B) B F (z9n kind na x nb y v) (oneF kind) (m:Int) 0 w8:=by
  have e:z9n kind na x nb y v=(z4a kind na x nb y v m).setFin m (oneF kind):=by unfold z9n;rw[<- HM.out]
  rw[e,S];refine⟨R,_,⟨by rw[z0e j1];exact k.blk,h6,k.low⟩,fun b hb=>⟨(a4 b hb).1,by rw[nblk_setCell];exact(a4 b hb).2.1,(a4 b hb).2.2⟩⟩
 have b4:Below B w2 w8:=by rw[S];exact j.setCell (p:=⟨g,m*2,none⟩) j6 _
 have c:l.cell? ⟨F,3,none⟩=some (.slice (some ⟨g,0,none⟩) (m+1) cp)/\l.cell? ⟨F,4,none⟩=some (.string (oneF kind)):=⟨d3,d4⟩;have a5:(z9n kind na x nb y v).n=m+1:=by unfold z9n;rw[<- HM.out];exact z5x kind na x nb y v m
 have g7:(z9n kind na x nb y v).kind=kind/\(z9n kind na x nb y v).start=0/\(z9n kind na x nb y v).lead=v:=by unfold z9n;exact y7r kind na x nb y v _
 have e7:=v9h w8 b3 (by rw[a5];omega) (by omega) (by omega);rw[a5] at e7;have h2:=qh e7;clear e7 b3;have g2:(m:Int)<(m:Int)+1:=by omega
 have k0:(0:Int)<=(m:Int):=by omega
 obtain⟨on,A⟩:=exq (oneF kind);rw[<- A] at c S;have g1:=qh A;clear A;have a6:=qh b4;clear b4 j P;have e6:=qh g7;clear g7;have i8:=qh a5;clear a5;clear d3 d4 k a4 h6 E J d
 go_wp2_with fail
 refine z0h (fun wk=>wk.cell? ⟨F,3,none⟩=some (.slice (some ⟨g,0,none⟩) (m+1) cp)/\wk.cell? ⟨F,4,none⟩=some (.string on)) 12 (by kernel_rfl) ?_;rw[<- C];clear C;refine z0c.tm 0 c ?_;refine z0c.tm 1 c ?_;refine z0c.tm 2 c ?_;refine z0c.tm 3 c ?_;refine z0c.tm 4 c ?_;refine z0c.tm 5 c ?_;refine z0c.tm 6 c ?_;refine z0c.tm 7 c ?_;refine z0c.tm 8 c ?_;refine z0c.tm 9 c ?_;refine z0c.tm 10 c ?_;refine z0c.tm 11 c ?_
 try simp only[Act.put,tryL]
 refine z0c.on 12 fun K L=>?_;go_simp;refine L.out _ _ (.inl rfl) (z0c.dn ?_);clear L K c g0 fg;rw[<- S];clear S
 go_wp2_with fail
 refine h2.out.mono ?_;rintro r w9 ⟨h8,hr⟩;have Y:Below B w2 w9:=a6.out.trans (h8.mono (by have h:=a6.out;rw[o.out];rw[o.out] at h;exact h.size));have h5:=(Y.block _ (by rw[o.out];exact lt_of_block h7.out)).trans h7.out;have b5:=b9.out.trans (Y.mono d2);clear h8 Y h2;have j4:=qh b5;clear b5;have c8:=qh h5;clear h5;obtain⟨⟨r0,r1,r2,r3⟩,rz⟩:=cells4 c8.out;have f0:=rz 0;have f1:=rz 1;have f2:=rz 2;have f3:=rz 3;clear rz
 rcases hr with ⟨Z,l0,R',rfl,H⟩|⟨Z,rfl⟩
 rotate_left
 ·exact absurd (show dnOk 0 (m+1) (m:Int) from ⟨rfl,by omega,by omega⟩) Z
 rw[e6.out.1,e6.out.2.1,e6.out.2.2];obtain⟨sa,sc,f5,_,_⟩:=z1h H.top;rw[i8.out] at f5;subst f5;have g9:=qh (z4j (H.box4 c8.out (.int .i64 kind) (.int .i64 0) (.string v) (.slice sa (m+1) sc)) d2);clear H Z
 go_wp2_with fail
 exact bodyPost_ret (z0k rfl _ (b:=rb) rfl rfl (z0w w9 rb _ _ _ _ c8.out)) rfl ⟨z0d j4.out i5 _ _ _ _,_,R',rfl,g9.out⟩
end
section
open Go.RowKit Go.Deep
def allocs (w:World) (l:List Obj):World:=l.foldl World.alloc w
theorem y2i:∀ (l:List Obj) (w a:World) (B:Nat),Below B a w->B<=w.heap.size->Below B a (allocs w l)
 | [],_,_,_,h,_=>h
 | o::l,w,a,B,h,hB=>y2i l (w.alloc o) a B (h.alloc hB o) (by simp;omega)
theorem y6t:∀ (l:List Obj) (w:World) {q:Nat},q<w.heap.size->(allocs w l).heap[q]?=w.heap[q]?
 | [],_,_,_=>rfl
 | o::l,w,q,h=>(y6t l (w.alloc o) (by simp;omega)).trans (blk_alloc_lt _ _ _ h)
theorem z8u:∀ (l:List Obj) (w:World) {i:Nat} {o:Obj},l[i]?=some o->(allocs w l).heap[w.heap.size+i]?=some o
 | [],_,_,_,h=>by simp at h
 | o'::l,w,0,o,h=>by
  simp at h;subst h;exact(y6t l (w.alloc o') (by simp)).trans (heap_alloc_new w o')
 | o'::l,w,i+1,o,h=>by
  have:=z8u l (w.alloc o') (i:=i) (o:=o) (by simpa using h);rw[show (w.alloc o').heap.size+i=w.heap.size+(i+1) by simp;omega] at this;exact this
theorem z7p {w:World} {b n:Nat} {c:Array Value} {t:TypeId} {f:Nat × Nat} {x:Nat->Int} (h:w.heap[b]?=some (.cells c t f)) (hn:n<=maxLen) (d:∀ i,i<n->c[i]?=some (.int .i64 (x i))):Si none w (.slice (some ⟨b,0,none⟩) n n) n x :=
 .inr ⟨b,0,n,rfl,⟨lt_of_block h,by simp⟩,nlr,hn,fun i hi=>by rw[Nat.zero_add];exact cellOf h i (d i hi)⟩
theorem lt1 {p:Nat->Prop} (h:p 0):∀ i,i<1->p i:=fun i hi=>by
 have:i=0:=by omega
 subst this;exact h
theorem lt2 {p:Nat->Prop} (h:p 0) (c:p 1):∀ i,i<2->p i:=fun i hi=>by
 have:i=0\/i=1:=by omega
 rcases this with rfl|rfl<;>assumption
theorem y4h:1<=maxLen:=by unfold maxLen;omega
theorem y4t:2<=maxLen:=by unfold maxLen;omega
theorem u2a {w:World} {b:Nat} {c:Array Value} {t:TypeId} {f:Nat × Nat} {D:MD} {i:Nat} (h:w.heap[b]?=some (.cells c t f)) (hn:D.na i<=maxLen)
  (d:∀ k,k<D.na i->c[k*4]?=some (.int .i64 (D.ain i k))/\c[k*4+1]?=some (.int .i64 (D.aout i k))/\c[k*4+2]?=some (.string (D.aw i k))/\c[k*4+3]?=some (.int .i64 (D.ato i k))):ArS none w (.slice (some ⟨b,0,none⟩) (D.na i) (D.na i)) D i :=
 .inr ⟨b,0,D.na i,rfl,⟨lt_of_block h,by simp⟩,nlr,hn,fun k g=>by
  obtain⟨c1,c2,c3,c4⟩:=d k g;rw[Nat.zero_add];exact⟨cellOf h _ c1,cellOf h _ c2,cellOf h _ c3,cellOf h _ c4⟩⟩
theorem u0j (w:World) {D:MD} {i:Nat} (h:D.na i=0):ArS none w (.slice none 0 0) D i:=.inl ⟨h,none,0,rfl,Nat.zero_le _⟩
theorem u0q {w:World} {b:Nat} {c:Array Value} {t:TypeId} {f:Nat × Nat} {D:MD} {A:Nat->Value} (h:w.heap[b]?=some (.cells c t f)) (hn:D.n<=maxLen)
  (d:∀ i,i<D.n->c[i*2]?=some (.string (D.fin i))/\c[i*2+1]?=some (A i)/\ArS none w (A i) D i):StS none w (.slice (some ⟨b,0,none⟩) D.n D.n) D :=
 .inr ⟨b,0,D.n,A,rfl,⟨lt_of_block h,by simp⟩,nlr,hn,fun i hi=>by
  obtain⟨c1,c2,c3⟩:=d i hi;rw[Nat.zero_add];exact⟨cellOf h _ c1,cellOf h _ c2,c3⟩⟩
theorem u0u {w:World} {b n:Nat} {c:Array Value} {t:TypeId} {f:Nat × Nat} {x y:Nat->Int} (h:w.heap[b]?=some (.cells c t f)) (hn:n<=maxLen) (d:∀ i,i<n->c[i*2]?=some (.int .i64 (x i))/\c[i*2+1]?=some (.int .i64 (y i))):PrS none w (.slice (some ⟨b,0,none⟩) n n) n x y :=
 .inr ⟨b,0,n,rfl,⟨lt_of_block h,by simp⟩,nlr,hn,fun i hi=>by
  rw[Nat.zero_add];exact⟨cellOf h _ (d i hi).1,cellOf h _ (d i hi).2⟩⟩
theorem y8f:MSz mD:=⟨by decide,fun i=>by show (if i=0 then (⟨#[]⟩:ByteArray) else ⟨#[48]⟩).size<=_;split<;>decide,fun i d=>by show (if d=0 then (⟨#[49]⟩:ByteArray) else ⟨#[50]⟩).size<=_;split<;>decide,fun i=>by show (if i=0 then 2 else 0)<=_;split<;>omega,by decide,by decide⟩
theorem x4s {kind:Int} {na:Nat} {x:Nat->Int} {nb:Nat} {y:Nat->Int} {v:ByteArray} (hk:z3v kind=true) (hx:∀ i,0<=atW na x i/\atW na x i<=500) (hy:∀ i,0<=atW nb y i/\atW nb y i<=500) {N:Nat}:∀ i,i<N->BOk (z4a kind na x nb y v i) N i
 | 0,_=>(BOk.empty kind 0 v N).state (.inl rfl) (Nat.zero_le _)
 | i+1,hi=>by
  have ih:=x4s (v:=v) hk hx hy i (N:=N) (by omega);have hkk:((z4a kind na x nb y v i).state ⟨#[]⟩).kind=kind:=(y7r kind na x nb y v i).1;exact(ih.state (s:=⟨#[]⟩) (.inl rfl) (Nat.zero_le _)).put (hx i) (hy i) (by constructor<;>omega) (by rw[hkk];exact z9j hk) (y9n hk)
theorem y9c {kind:Int} {na:Nat} {x:Nat->Int} {nb:Nat} {y:Nat->Int} {v:ByteArray} (c:z3v kind=true) (l:∀ i,0<=atW na x i/\atW na x i<=500) (j:∀ i,0<=atW nb y i/\atW nb y i<=500) (g:smS v) (hn:max na nb<=1000):MSz (z9n kind na x nb y v):=by
 have d:=(y7r kind na x nb y v (max na nb));have k:=(x4s (v:=v) c l j (N:=max na nb+1) (max na nb) (by omega)).setFin (q:=max na nb) (s:=oneF kind) (.inr (by rw[d.1];exact z9j c)) (y9n c);have h:(z9n kind na x nb y v).n=max na nb+1:=z5x kind na x nb y v _;exact k.msz (by show z3v (z4a kind na x nb y v (max na nb)).kind=true;rw[d.1];exact c) (by show (z4a kind na x nb y v (max na nb)).n<=_;rw[z5x];omega) (by show smS (z4a kind na x nb y v (max na nb)).lead;rw[d.2.2];exact g) (by omega)
theorem y6w {n:Nat} {x:Nat->Int} (h:∀ i,0<=x i/\x i<=500) (i:Nat):0<=atW n x i/\atW n x i<=500:=by unfold atW;split;exact h i;omega
theorem v1s (i:Nat):0<=y12 i/\y12 i<=500:=by unfold y12;split<;>omega
theorem u4d:MSz dD:=y9c (by decide) (y6w v1s) (y6w fun _=>by unfold c3;omega) (by unfold smS;decide) (by decide)
theorem v8q:MSz abD:=y9c (by decide) (y6w v1s) (y6w v1s) (by unfold smS;decide) (by decide)
theorem u3u:MSz kD:=y9c (by decide) (y6w fun _=>by unfold c3;omega) (y6w fun _=>by unfold c3;omega) (by unfold smS;decide) (by decide)
theorem u6z:MSz (revD dD):=v0i u5q u4d
theorem v3h {D E:MD} (c:VM D) (h:MSz D) (d:VM E) (g:MSz E) (l:E.kind=D.kind) {lead:ByteArray} (i:smS lead):MSz (catD D E lead):=by
 obtain⟨o,m,j,k⟩:=x3k c h d g l lead;have:=c.n2;have:=d.n2;have:=c.arcs;have:=d.arcs;exact o.msz (by rw[j];exact c.kind) (by rw[m];omega) (by rw[k];exact i) (by omega)
theorem u6n:MSz cD:=v3h v9i.inZ { v8q with } (VM.outZ u5n) { u3u with } (by decide +kernel) (by unfold smS;decide +kernel)
def TrueB (w:World) (r:Ending) (w':World):Prop:=r=.returned (.bool true)/\Below w.heap.size w w'
def NewD (D:MD) (w:World) (r:Ending) (w':World):Prop:=Below w.heap.size w w'/\∃ sv,r=.returned (.agg #[.int .i64 D.kind,.int .i64 D.start,.string D.lead,sv])/\StS none w' sv D
theorem v5e (w:World):Calls prog 39 #[] w (NewD mD w):=by
 go_enter func39,ntmps39
 go_wp2_with fail
 obtain⟨l,c⟩:∃ l,l=[Obj.cells #[.int .i64 1,.int .i64 0,.string ⟨#[48]⟩,.slice (some ⟨w.heap.size+2,0,none⟩) 2 2] 24,.cells #[.int .i64 1,.int .i64 2,.string ⟨#[49]⟩,.int .i64 1,.int .i64 1,.int .i64 3,.string ⟨#[50]⟩,.int .i64 1] 59,
  .cells #[.string ⟨#[]⟩,.slice (some ⟨w.heap.size+1,0,none⟩) 2 2,.string ⟨#[48]⟩,.slice none 0 0] 57]:=⟨_,rfl⟩
 have g:(allocs w l).heap[w.heap.size+0]?=_:=z8u l w (i:=0) (by rw[c];rfl);have j:(allocs w l).heap[w.heap.size+1]?=_:=z8u l w (i:=1) (by rw[c];rfl);have k:(allocs w l).heap[w.heap.size+2]?=_:=z8u l w (i:=2) (by rw[c];rfl);have d:=y2i l w w w.heap.size blr nlr;subst c;refine bodyPost_ret (x8f rfl _ (b:=w.heap.size) rfl g) rfl ⟨d,_,rfl,?_⟩;refine u0q (D:=mD) (A:=fun i=>if i=0 then .slice (some ⟨w.heap.size+1,0,none⟩) 2 2 else .slice none 0 0) k y4t (fun i hi=>?_)
 have h:i=0\/i=1:=by have:i<2:=hi;omega
 rcases h with rfl|rfl
 ·exact⟨rfl,rfl,u2a (D:=mD) (i:=0) j y4t (lt2 ⟨rfl,rfl,rfl,rfl⟩ ⟨rfl,rfl,rfl,rfl⟩)⟩
 exact⟨rfl,rfl,u0j _ rfl⟩
theorem z5n {D:MD} {mv K J:Value} {na nb:Nat} {x y:Nat->Int} {s:ByteArray} (w:World) (Q:Ma none w mv D) (O:MSz D) (L:Tab w) (F:Si none w K na x) (B:Si none w J nb y) (G:na<=100) (z:nb<=100) (p:VOk D na x nb y s) :
  Calls prog 41 #[mv,K,J] w (fun r w'=>r=.returned (.string s)/\Below w.heap.size w w'):=by
 obtain⟨sv,rfl,E⟩:=Q;obtain⟨a,i,_,_,_,_,_,_,u,_⟩:=E.open;obtain⟨T,S,rfl⟩:=F.shape;obtain⟨W,U,rfl⟩:=B.shape;subst u;obtain⟨h,g⟩:=exq (w.alloc (.cells #[.int .i64 D.kind,.int .i64 D.start,.string D.lead,.slice a D.n i] 24));have o:Fr (fun _=>False) w h:=by rw[g];exact Fr.alloc _ _
 have c:Below w.heap.size w h:=o.below nlr (fun _ e=>e.elim);have I:=qh (x4c h (⟨_,rfl,E.kept (z0b c none)⟩:Ma none h (.agg #[.int .i64 D.kind,.int .i64 D.start,.string D.lead,.slice a D.n i]) D) O (L.below c nlr) (F.kept (z0b c none)) (B.kept (z0b c none)) (by omega) (by omega));have k:h.heap[w.heap.size]?=some (.cells #[.int .i64 D.kind,.int .i64 D.start,.string D.lead,.slice a D.n i] 24 (0,0)):=by rw[g];exact heap_alloc_new w _
 obtain⟨⟨m0,m1,N,H⟩,_⟩:=cells4 k;have j:=qh c;clear c o F B E L O k G z;have d:=qh p;clear p;rw[g] at m0 m1 N H
 go_enter func41,ntmps41
 go_wp2_with fail
 rw[<- g];clear g m0 m1 N H;refine I.out.mono ?_;rintro r R ⟨l,P⟩;have A:=qh (j.out.trans (l.mono j.out.size));clear l j I
 rcases P with ⟨_,_,_,st,e,m,rfl⟩|⟨C,rfl⟩
 rotate_left
 ·exact absurd ⟨d.out.1,d.out.2.1,d.out.2.2.1⟩ C
 rw[d.out.2.2.2 st e m];clear m d;go_wp2;go_ret;exact⟨rfl,A.out⟩
end
section
open Go.RowKit Go.Deep
def RvS (F:Nat->Prop) (B g cp:Nat) (M:MD) (w:World):Prop:=∃ R,OwM w B (.slice (some ⟨g,0,none⟩) M.n cp) M R/\∀ b,F b->Fre w (.slice (some ⟨g,0,none⟩) M.n cp) R M.n b
def RvN (F:Nat->Prop) (B g cp:Nat) (M:MD) (w w':World):Prop:=RvS F B g cp M w'/\(∀ b,F b->w'.heap[b]?=w.heap[b]?)/\Below B w w'
theorem RvS.sub {F c:Nat->Prop} {B g cp:Nat} {M:MD} {w:World} (h:RvS F B g cp M w) (j:∀ b,c b->F b):RvS c B g cp M w:=by
 obtain⟨R,i,d⟩:=h;exact⟨R,i,fun b hb=>d b (j b hb)⟩
theorem RvN.trans {F:Nat->Prop} {B g cp:Nat} {M M':MD} {w i d:World} (h:RvN F B g cp M w i) (c:RvN F B g cp M' i d):RvN F B g cp M' w d :=
 ⟨c.1,fun b hb=>(c.2.1 b hb).trans (h.2.1 b hb),h.2.2.trans c.2.2⟩
theorem RvN.sub {F d:Nat->Prop} {B g cp:Nat} {M:MD} {w c:World} (h:RvN F B g cp M w c) (i:∀ b,d b->F b):RvN d B g cp M w c:=⟨h.1.sub i,fun b hb=>h.2.1 b (i b hb),h.2.2⟩
theorem RvN.refl {F:Nat->Prop} {B g cp:Nat} {M:MD} {w:World} (h:RvS F B g cp M w):RvN F B g cp M w w:=⟨h,fun _ _=>rfl,blr⟩
theorem RvS.lt {F:Nat->Prop} {B g cp:Nat} {M:MD} {w:World} (h:RvS F B g cp M w):∀ b,F b->b<w.heap.size:=by
 obtain⟨R,d,c⟩:=h;exact fun b hb=>(c b hb).1
theorem RvS.kept {F:Nat->Prop} {B g cp:Nat} {M:MD} {w d:World} (h:RvS F B g cp M w) (hb:Below w.heap.size w d):RvS F B g cp M d:=by
 obtain⟨R,j,c⟩:=h;exact⟨R,j.kept (z0b hb none) (by simp),fun b i=>⟨Nat.lt_of_lt_of_le (c b i).1 hb.size,(c b i).2⟩⟩
theorem RvN.kept {F:Nat->Prop} {B g cp:Nat} {M:MD} {w c d:World} (h:RvN F B g cp M w c) (j:B<=w.heap.size) (hb:Below c.heap.size c d):RvN F B g cp M w d :=
 ⟨h.1.kept hb,fun b i=>(hb.block b (h.1.lt b i)).trans (h.2.1 b i),h.2.2.trans (hb.mono (Nat.le_trans j h.2.2.size))⟩
theorem RvS.grown {F:Nat->Prop} {B g cp:Nat} {M:MD} {w d:World} (h:RvS F B g cp M w) (hb:Below w.heap.size w d) (p:g<w.heap.size):RvS (fun b=>F b\/(w.heap.size<=b/\b<d.heap.size)) B g cp M d:=by
 obtain⟨R,k,j⟩:=h;refine⟨R,k.kept (z0b hb none) (by simp),fun b c=>?_⟩
 rcases c with c|⟨o,l⟩
 ·exact⟨Nat.lt_of_lt_of_le (j b c).1 hb.size,(j b c).2⟩
 refine⟨l,fun e=>?_,fun i hi e=>?_⟩
 ·have m:g=b:=by simpa [Value.ownBlock] using e
  omega
 have:=(World.ownsRow.lt (k.row i hi) b e).2;omega
theorem x9r {d m:World} {B g l cp u q:Nat} {M:MD} {R:Nat->Value} {o:Obj} {a b t:Int} {x:ByteArray} (P:B<=d.heap.size) (h:OwM d B (.slice (some ⟨g,0,none⟩) M.n cp) M R) (C:q<M.n)
  (O:m.ownsRow B 59 4 (.slice (some ⟨l,0,none⟩) (M.na q+1) u) (M.na q+1) (cat (arc4 M q) (M.na q)++[.int .i64 a,.int .i64 b,.string x,.int .i64 t])) (A:(d.alloc o).grownBy m (R q).ownBlock)
  (H:(R q).ownBlock=some l\/(d.alloc o).heap.size<=l) :
  OwM (m.setCell ⟨g,q*2+1,none⟩ (.slice (some ⟨l,0,none⟩) (M.na q+1) u)) B (.slice (some ⟨g,0,none⟩) M.n cp) (M.arc q a b x t) (fun i=>if i=q then .slice (some ⟨l,0,none⟩) (M.na q+1) u else R i) /\
  (m.cell? ⟨g,q*2+1,none⟩=some (R q)/\m.frozen? ⟨g,q*2+1,none⟩=false) /\
  (∀ c,Fre d (.slice (some ⟨g,0,none⟩) M.n cp) R M.n c->m.heap[c]?=d.heap[c]?/\(m.setCell ⟨g,q*2+1,none⟩ (.slice (some ⟨l,0,none⟩) (M.na q+1) u)).heap[c]?=d.heap[c]? /\
   Fre (m.setCell ⟨g,q*2+1,none⟩ (.slice (some ⟨l,0,none⟩) (M.na q+1) u)) (.slice (some ⟨g,0,none⟩) M.n cp) (fun i=>if i=q then .slice (some ⟨l,0,none⟩) (M.na q+1) u else R i) M.n c) /\
  Below B d (m.setCell ⟨g,q*2+1,none⟩ (.slice (some ⟨l,0,none⟩) (M.na q+1) u)):=by
 have Q:(d.alloc o).heap.size=d.heap.size+1:=by simp
 have I:∀ c,(Value.slice (some ⟨l,0,none⟩) (M.na q+1) u).ownBlock=some c->(R q).ownBlock=some c\/d.heap.size<=c:=fun c j=>by
  have e:l=c:=by simpa [Value.ownBlock] using j
  subst e
  rcases H with E|E
  ·exact .inl E
  right;omega
 have s:(R q).ownBlock≠some g:=fun e=>h.tne C e rfl;have D:=World.ownsRow.lt h.top g rfl;have G:=h.arc (a:=a) (b:=b) (x:=x) (t:=t) C O A I;have F:m.ownsRow B 57 2 (.slice (some ⟨g,0,none⟩) M.n cp) M.n (cat (st2 M R) M.n):=z2q (World.ownsRow.alloc h.top o) A (fun c j e=>by
  have J:g=c:=by simpa [Value.ownBlock] using j
  subst J;exact s e)
 have z:(d.alloc o).cell? ⟨g,q*2+1,none⟩=some (R q):=((Below.refl d.heap.size d).alloc nlr o).cell D.2 |>.trans (h.arcs_cell C)
 refine⟨G,⟨A.cell z (fun e=>s e.symm),z5y F _⟩,fun c j=>?_,?_⟩
 ·have K:c≠g:=fun e=>j.2.1 (by rw[e];rfl);have E:m.heap[c]?=d.heap[c]?:=(A.block c (by have:=j.1;omega) (fun e=>j.2.2 q C e.symm)).trans (blk_alloc_lt _ _ _ j.1);refine⟨E,by rw[z0e K];exact E,⟨by rw[nblk_setCell];have:=A.size;have:=j.1;omega,j.2.1,fun i hi=>?_⟩⟩
  dsimp only
  split
  ·intro e;have J:l=c:=by simpa [Value.ownBlock] using e
   subst J
   rcases H with L|L
   ·exact j.2.2 q C L
   have:=j.1;omega
  exact j.2.2 i hi
 exact(((Below.refl B d).alloc P o).grown A (by omega) (fun k N=>(World.ownsRow.lt (h.row q C) k N).1)).setCell (p:=⟨g,q*2+1,none⟩) D.1 _
end
section
open Go.RowKit Go.Deep
def RevE (D:MD) (w:World) (r:Ending) (w':World):Prop :=
 Below w.heap.size w w'/\((VM D/\VM (revD D)/\∃ sv R,r=.returned (.tuple #[.agg #[.int .i64 D.kind,.int .i64 (D.n:Int),.string D.lead,sv],.int .i64 0])/\OwM w' w.heap.size sv (revD D) R) \/
  (VM D/\¬ VM (revD D)/\r=.returned (.tuple #[z6z,.int .i64 2]))\/(¬ VM D/\r=.returned (.tuple #[z6z,.int .i64 1])))
theorem v8m {w:World} {B:Nat} {D:MD} {zs:Array Value} (h:B<=w.heap.size) (c:zs=madeCells (Value.agg #[.string ⟨#[]⟩,.slice none 0 0]).cells ((D.n+1)*2)) (hn:D.n+1<=maxLen) :
  OwM (w.alloc (.cells zs 57)) B (.slice (some ⟨w.heap.size,0,none⟩) (D.n+1) (D.n+1)) (revZ D) (fun _=>.slice none 0 0):=by
 refine⟨⟨?_,.inr ⟨w.heap.size,D.n+1,zs,rfl,h,heap_alloc_new w _,nlr,hn,by rw[c];exact size_madeCells _ _,?_⟩⟩,fun i _=>World.ownsRow_nil _ _ _ _,fun i j _ _ _ b hb=>by cases hb⟩
 ·exact z4r (z4y _ _) _
 have g:zs.toList=cat (st2 (revZ D) (fun _=>.slice none 0 0)) (D.n+1):=by
  rw[c];exact v5j (Value.agg #[.string ⟨#[]⟩,.slice none 0 0]).cells (by decide) (D.n+1)
 have d:(cat (st2 (revZ D) (fun _=>.slice none 0 0)) (D.n+1)).length=(D.n+1)*2:=z4r (z4y _ _) _;rw[g];show List.take ((D.n+1)*2) _=_;rw[<- d,List.take_length];rfl
theorem x2n {D:MD} {mv:Value} (w:World) (hM:Ma none w mv D) (l0:MSz D) (ht:Tab w):Calls prog 26 #[mv] w (RevE D w):=by
 obtain⟨sv,rfl,hS⟩:=hM;obtain⟨a,cp,b,v8,A,C,BB,O,rfl,ha,hc,hm,hb,a2⟩:=hS.open;obtain⟨w1,e6⟩:=exq (w.alloc (.cells #[.int .i64 D.kind,.int .i64 D.start,.string D.lead,.slice a D.n cp] 24));obtain⟨w2,g9⟩:=exq (w1.alloc (.cells #[.int .i64 0,.int .i64 0,.string ⟨#[]⟩,.slice none 0 0] 24));have g2:w1.heap.size=w.heap.size+1:=by rw[e6];simp
 have z5:Fr (fun _=>False) w w1:=by rw[e6];exact Fr.alloc _ _
 have x8:Fr (fun _=>False) w1 w2:=by rw[g9];exact Fr.alloc _ _
 have uu9:w1.heap[w.heap.size]?=some (.cells #[.int .i64 D.kind,.int .i64 D.start,.string D.lead,.slice a D.n cp] 24 (0,0)):=by rw[e6];exact heap_alloc_new w _
 have j2:w2.heap[w.heap.size]?=some (.cells #[.int .i64 D.kind,.int .i64 D.start,.string D.lead,.slice a D.n cp] 24 (0,0)):=(x8.block _ (lt_of_block uu9) (fun e=>e)).trans uu9;have v5:w2.heap[w.heap.size+1]?=some (.cells #[.int .i64 0,.int .i64 0,.string ⟨#[]⟩,.slice none 0 0] 24 (0,0)):=by rw[<- g2,g9];exact heap_alloc_new w1 _
 have l3:Below w.heap.size w w2:=(z5.trans x8).below nlr (fun _ e=>e.elim);obtain⟨mb,j7⟩:=exq (w.heap.size);obtain⟨k,t7⟩:=exq (w.heap.size+1);have l2:w.heap.size<=k:=by omega
 have C3:mb≠k:=by omega
 rw[<- j7] at j2;rw[<- t7] at v5;obtain⟨⟨m0,m1,m2,m3⟩,_⟩:=cells4 j2;have B7:=qh (z1v w2 (⟨_,rfl,hS.kept (z0b l3 none)⟩:Ma none w2 (.agg #[.int .i64 D.kind,.int .i64 D.start,.string D.lead,.slice a D.n cp]) D) l0 (ht.below l3 nlr));have s4:=qh l3;clear l3;have y0:=qh j2;clear j2 uu9 z5 x8 g2;have x6:=qh v5;clear v5;have x2:=qh l0;clear l0;have HT:=qh ht;clear ht;have HA:=qh ha;clear ha;have HB:=qh hb;clear hb;have HR:=qh a2;clear a2 hS;rw[j7,g9,e6] at m0 m1 m2 m3
 go_enter func26,ntmps26
 go_wp2_with fail
 rw[<- e6,<- g9,<- t7,<- j7];clear m0 m1 m2 m3 e6 g9 t7 j7;refine B7.out.mono ?_;rintro r w4 ⟨l5,hr⟩;have p6:=s4.out.trans (l5.mono s4.out.size);have z1:=(l5.block _ (lt_of_block y0.out)).trans y0.out;have y4:=(l5.block _ (lt_of_block x6.out)).trans x6.out;clear l5 B7 s4 y0 x6;have v2:=qh p6;clear p6;have x1:=qh z1;clear z1;have l7:=qh y4;clear y4
 rcases hr with ⟨hv,rfl⟩|⟨hv,rfl⟩
 rotate_left
 ·have HV:=qh hv;clear hv;obtain⟨⟨r0,r1,r2,r3⟩,rz⟩:=cells4 l7.out;have f0:=rz 0;have f1:=rz 1;have f2:=rz 2;have f3:=rz 3;clear rz
  go_wp2_with fail
  exact bodyPost_ret (z0k rfl _ (b:=k) rfl rfl (z0w w4 k _ _ _ _ l7.out)) rfl ⟨z0d v2.out l2 _ _ _ _,.inr (.inr ⟨HV.out,rfl⟩)⟩
 have D9:1<=D.n:=hv.n1;have D0:D.n<=3000:=hv.n2;have HV:=qh hv;clear hv;obtain rfl:=HA.out (by omega);unfold maxLen at hm;obtain⟨n,hn⟩:=exq (D.n);rw[<- hn] at D9 D0 hc;have v3:=z7c (P:=prog) 22 57 _ 2 40 underlying22 x9x .i64 .i64 (n+1) (by omega) (by omega);obtain⟨zs,uu6⟩:=exq (madeCells (Value.agg #[.string ⟨#[]⟩,.slice none 0 0]).cells ((n+1)*2));rw[<- uu6] at v3;have A6:((n+1:Nat):Int)=(n:Int)+1:=by omega
 rw[A6] at v3;have D7:=qh uu6;clear uu6;have HN:=qh hn;clear hn;obtain⟨⟨m0,m1,m2,m3⟩,_⟩:=cells4 x1.out;rw[<- HN.out] at m3;rw[<- HN.out]
 go_wp2_with fail
 refine z0h (fun wk=>wk.cell? ⟨mb,0,none⟩=some (.int .i64 D.kind)/\wk.cell? ⟨mb,2,none⟩=some (.string D.lead)) 9 (by kernel_rfl) ?_;obtain⟨h,u⟩:=exq (w4.drew);rw[<- u];have c:h.cell? ⟨mb,0,none⟩=some (.int .i64 D.kind)/\h.cell? ⟨mb,2,none⟩=some (.string D.lead):=by rw[u];exact⟨m0,m2⟩
 have g1:Below w.heap.size w h:=by rw[u];exact v2.out.drew
 have y6:h.heap[mb]?=some (.cells #[.int .i64 D.kind,.int .i64 D.start,.string D.lead,.slice (some ⟨b,v8,none⟩) D.n cp] 24 (0,0)):=by rw[u];exact x1.out
 have f9:h.heap[k]?=some (.cells #[.int .i64 0,.int .i64 0,.string ⟨#[]⟩,.slice none 0 0] 24 (0,0)):=by rw[u];exact l7.out
 clear m0 m1 m2 m3 u;have d1:=qh g1;clear g1 v2 x1 l7;have l4:=qh y6;clear y6;have z:=qh f9;clear f9;have E0:IntKind.i64.wrap ((n:Int)+1)=(n:Int)+1:=by rw[IntKind.wrap_i64];omega
 refine z0c.tm 0 c ?_;refine z0c.tm 1 c ?_;refine z0c.tm 2 c ?_;refine z0c.tm 3 c ?_;refine z0c.tm 4 c ?_;refine z0c.tm 5 c ?_;refine z0c.tm 6 c ?_
 try simp only[Act.put,tryL]
 clear E0;refine z0c.on 7 fun K J=>?_;go_simp;obtain⟨g,hg⟩:=exq (h.heap.size);obtain⟨wa,h3⟩:=exq (h.alloc (.cells zs 57));have e5:Below h.heap.size h wa:=by rw[h3];exact(Below.refl _ h).alloc nlr _
 have p0:OwM wa w.heap.size (.slice (some ⟨g,0,none⟩) (n+1) (n+1)) (revZ D) (fun _=>.slice none 0 0):=by
  have h1:=v8m (w:=h) (B:=w.heap.size) (D:=D) (zs:=zs) d1.out.size (by rw[D7.out,HN.out]) (by unfold maxLen;have:=HN.out;omega);rw[<- h3,<- hg,<- HN.out] at h1;exact h1
 have l1:=(e5.block _ (lt_of_block l4.out)).trans l4.out;have A9:=(e5.block _ (lt_of_block z.out)).trans z.out;have z6:=d1.out.trans (e5.mono d1.out.size);have z3:mb≠g/\k≠g:=by have:=lt_of_block l4.out;have:=lt_of_block z.out;omega
 have w9:g<wa.heap.size:=by rw[h3,hg];simp
 have F8:w.heap.size<=g:=by rw[hg];exact d1.out.size
 rw[<- h3,<- hg];have U:wa.cell? ⟨mb,0,none⟩=some (.int .i64 D.kind)/\wa.cell? ⟨mb,2,none⟩=some (.string D.lead):=⟨(cells4 l1).1.1,(cells4 l1).1.2.2.1⟩;refine J.out _ _ (.inr U) ?_;clear J K v3 A6 c h3 hg e5;have n9:=qh p0;clear p0;have t8:=qh l1;clear l1 l4;have j5:=qh A9;clear A9 z;have w3:=qh z6;clear z6 d1
 try simp only[Act.put,tryL]
 obtain⟨⟨r0,r1,r2,r3⟩,rz⟩:=cells4 j5.out;have f0:=rz 0;have f1:=rz 1;have f2:=rz 2;have f3:=rz 3;clear rz;refine z0c.on 8 fun K J=>?_;go_simp;refine J.out _ _ (.inr U) ?_;clear J K
 try simp only[Act.put,tryL]
 refine z0c.on 9 fun K J=>?_;go_simp;refine J.out _ _ (.inl rfl) (z0c.dn ?_);clear J K U;obtain⟨wb,i9⟩:∃ wb,wb=(((wa.setCell ⟨k,0,none⟩ (.int .i64 D.kind)).setCell ⟨k,1,none⟩ (.int .i64 (n:Int))).setCell ⟨k,2,none⟩ (.string D.lead)).setCell ⟨k,3,none⟩ (.slice (some ⟨g,0,none⟩) (n+1) (n+1)):=⟨_,rfl⟩;have x9:Fr (fun q=>q=k) wa wb:=by rw[i9];exact(((((Fr.refl (fun q=>q=k) wa).set (p:=⟨k,0,none⟩) (.inl rfl) _).set (p:=⟨k,1,none⟩) (.inl rfl) _).set (p:=⟨k,2,none⟩) (.inl rfl) _).set (p:=⟨k,3,none⟩) (.inl rfl) _)
 have x3:wb.heap[k]?=some (.cells #[.int .i64 D.kind,.int .i64 (n:Int),.string D.lead,.slice (some ⟨g,0,none⟩) (n+1) (n+1)] 24 (0,0)):=by rw[i9];exact z0w wa k _ _ _ _ j5.out
 have j6:=(x9.block mb (lt_of_block t8.out) C3).trans t8.out;have y7:Below w.heap.size w wb:=w3.out.trans (x9.below w3.out.size (fun q e=>by rw[e];exact l2));have q8:OwM wb w.heap.size (.slice (some ⟨g,0,none⟩) (n+1) (n+1)) (revZ D) (fun _=>.slice none 0 0):=by rw[i9];exact n9.out.box4 j5.out _ _ _ _
 obtain⟨F,hF⟩:∃ F:Nat->Prop,F=fun b=>b=mb\/b=k:=⟨_,rfl⟩;have d4:RvN F w.heap.size g (n+1) (revQ D 0) wb wb:=by
  have e:(revQ D 0).n=n+1:=by rw[HN.out];rfl
  refine RvN.refl ⟨fun _=>.slice none 0 0,by rw[e];exact q8,fun b hb=>⟨?_,?_,fun i _=>by simp[Value.ownBlock]⟩⟩
  ·rw[hF] at hb
   rcases hb with rfl|rfl
   ·exact lt_of_block j6
   exact lt_of_block x3
  rw[hF] at hb;intro e2;have e3:g=b:=by simpa [Value.ownBlock] using e2
  rcases hb with rfl|rfl
  ·exact z3.1 e3.symm
  exact z3.2 e3.symm
 have A2:F mb:=by rw[hF];exact .inl rfl
 have B3:F k:=by rw[hF];exact .inr rfl
 have m3:=(cells4 j6).1.2.2.2;rw[<- HN.out] at m3;rw[<- i9];clear i9 x9 n9 t8 j5 w3 r0 r1 r2 r3 f0 f1 f2 f3 q8;have b3:=qh d4;clear d4;have E2:=qh A2;clear A2;have b1:=qh B3;clear B3 hF;have A1:=qh x3;clear x3;have E4:=qh j6;clear j6;have j4:=qh y7;clear y7;obtain⟨i0,hi,z2,g2,A5⟩:=z9k x9k;have HI:=qh hi;have A3:=qh z2;have y9:=qh g2;have B1:=qh A5;clear hi z2 g2 A5
 go_wp2_with fail
 clear m3
 go_loopw [29] (fun y2 wr=>∃ q:Nat,q<=n/\y2=.int .i64 (q:Int)/\RvN F w.heap.size g (n+1) (revQ D q) wb wr) (fun y2 _=>n-(intOf y2).toNat)
 case atStart=>exact⟨0,Nat.zero_le _,rfl,b3.out⟩
 obtain⟨q,hq,rfl,i7⟩:=hrel;clear b3;have b7:=qh i7;clear i7;have C5:w.heap.size<=wb.heap.size:=j4.out.size;by_cases l9:q<n
 ·have F4:(q:Int)<(n:Int):=by omega
  have F1:(0:Int)<=(q:Int):=by omega
  have t9:q<D.n:=by have:=HN.out;omega
  have A7:=(HB.out (by have:=HN.out;omega)).1;obtain⟨k1,k2,k3,k4,k5,k6,k7⟩:=HR.out q t9;have d0:=j4.out.trans b7.out.2.2;have t0:=(d0.cell (p:=⟨b,v8+q*2,none⟩) A7).trans k1;have t1:=(d0.cell (p:=⟨b,v8+q*2+1,none⟩) A7).trans k2;clear k1 k2;unfold maxLen at k4;obtain⟨fq,s8⟩:=exq (D.fin q);obtain⟨aq,v6⟩:=exq (A q);obtain⟨nq,e7⟩:=exq (D.na q);obtain⟨g4,z8⟩:=exq (C q);rw[<- s8] at t0;rw[<- v6,<- e7,<- z8] at t1;rw[<- v6,<- e7] at k5;rw[<- e7] at k6 k7;have F0:nq<=30000:=by rw[e7];have h1:=Nat.le_trans (z1w D (show q+1<=D.n by omega)) HV.out.arcs;have h2:z0f D (q+1)=z0f D q+D.na q:=rfl;omega
  have y1:=qh s8;clear s8;have h8:=qh e7;clear e7;clear v6 z8 k3 k4;have E5:=qh k5;clear k5;have D1:=qh k6;clear k6;have C6:=qh k7;clear k7;have e0:(revQ D q).n=n+1:=by rw[(z2w D q).n,HN.out];rfl
  have o3:=x2z HV.out x2.out q (by omega);have B2:=qh o3;clear o3;have j8:=qh e0;clear e0;have G0:w.heap.size<=wr.heap.size:=d0.size;have s7:g<wr.heap.size:=by
   obtain⟨R,h1,_⟩:=b7.out.1;exact(World.ownsRow.lt h1.top g rfl).2
  obtain⟨sb,j0⟩:=exq (wr.heap.size);obtain⟨w5,e9⟩:=exq (wr.alloc (.cells #[.string fq,.slice aq nq g4] 57));have v4:Below wr.heap.size wr w5:=by rw[e9];exact(Below.refl _ wr).alloc nlr _
  have C9:w5.heap.size=wr.heap.size+1:=by rw[e9];simp
  have x7:w5.heap[sb]?=some (.cells #[.string fq,.slice aq nq g4] 57 (0,0)):=by rw[e9,j0];exact heap_alloc_new wr _
  obtain⟨F2,k0⟩:∃ F2:Nat->Prop,F2=fun b=>F b\/b=sb:=⟨_,rfl⟩;have r7:RvS F2 w.heap.size g (n+1) (revQ D q) w5:=(b7.out.1.grown v4 s7).sub (fun b hb=>by
   rw[k0] at hb;exact hb.imp id (fun e=>by rw[e,j0];omega))
  have o4:∀ b,F b->F2 b:=fun b hb=>by rw[k0];exact .inl hb
  have r8:F2 sb:=by rw[k0];exact .inr rfl
  have i5:=b7.out.kept C5 v4;have s1:w5.cell? ⟨sb,1,none⟩=some (.slice aq nq g4):=by simp[World.cell?,x7]
  rw[e9,j0] at s1;have r5:=qh (RvN.refl r7);clear r7;have b4:=qh i5;clear i5 b7 v4 d0;have C8:=qh x7;clear x7;have b2:=qh o4;clear o4;have n3:=qh r8;clear r8 k0;have D5:w.heap.size<=w5.heap.size:=by omega
  go_wp2_with fail
  rw[<- e9,<- j0];clear t0 t1 e9 j0 s1 C9
  go_loopw [37] (fun uu7 wr=>∃ d:Nat,d<=nq/\uu7=.int .i64 (d:Int)/\RvN F2 w.heap.size g (n+1) (revA D q d (revQ D q)) w5 wr) (fun uu7 _=>nq-(intOf uu7).toNat)
  case atStart=>exact⟨0,Nat.zero_le _,rfl,r5.out⟩
  obtain⟨d,hd,rfl,i7⟩:=hrel;clear r5;have z:=qh i7;clear i7;have A4:(revA D q d (revQ D q)).n=n+1:=by rw[(z7r D q (Skel.refl _) d).n];exact j8.out
  have h4:=(x2d HV.out x2.out t9 ((z2w D q).kind) B2.out d (by rw[<- h8.out];omega));have a5:=(j4.out.trans b4.out.2.2).trans z.out.2.2;have q7:w.heap.size<=wr.heap.size:=a5.size;have e1:∀ p,(revA D q d (revQ D q)).na p<=100000:=fun p=>Nat.le_trans (h4.na p) (by
   have h1:=Nat.le_trans (z1w D (show q+1<=D.n by omega)) HV.out.arcs;have h2:z0f D (q+1)=z0f D q+D.na q:=rfl;have:=h8.out;omega)
  have X:=(z.out.2.1 k (b2.out k b1.out)).trans ((b4.out.2.1 k b1.out).trans A1.out);have e4:=(z.out.2.1 sb n3.out).trans C8.out;by_cases B0:d<nq
  ·have F5:(d:Int)<(nq:Int):=by omega
   have E8:(0:Int)<=(d:Int):=by omega
   have l8:=(D1.out (by omega)).1;obtain⟨uu0,uu1,uu2,uu3⟩:=C6.out d B0;obtain rfl:=E5.out (by omega);have c0:=(a5.cell (p:=⟨BB q,O q+d*4,none⟩) l8).trans uu0;have c1:=(a5.cell (p:=⟨BB q,O q+d*4+1,none⟩) l8).trans uu1;have c2:=(a5.cell (p:=⟨BB q,O q+d*4+2,none⟩) l8).trans uu2;have c3:=(a5.cell (p:=⟨BB q,O q+d*4+3,none⟩) l8).trans uu3;clear uu0 uu1 uu2 uu3;have d5:=HV.out.arc q d t9 (by rw[<- h8.out];exact B0);obtain⟨Q,s5⟩:∃ Q:Nat,D.ato q d=(Q:Int):=⟨(D.ato q d).toNat,by have:=d5.t0;omega⟩;have i2:Q<=n:=by have:=d5.t1;have:=HN.out;omega
   have b9:Q<(revA D q d (revQ D q)).n:=by rw[A4];omega
   have B4:=e1 Q;rw[s5] at c3;have E1:=qh s5;clear s5 d5;obtain⟨ai,uu8⟩:=exq (D.ain q d);obtain⟨ao,d5⟩:=exq (D.aout q d);obtain⟨aw,s6⟩:=exq (D.aw q d);rw[<- uu8] at c0;rw[<- d5] at c1;rw[<- s6] at c2;have C7:=qh uu8;clear uu8;have E3:=qh d5;clear d5;have D4:=qh s6;clear s6;have s7:g<wr.heap.size:=by
    obtain⟨R,h1,_⟩:=z.out.1;exact(World.ownsRow.lt h1.top g rfl).2
   obtain⟨ab,k9⟩:=exq (wr.heap.size);obtain⟨w6,g3⟩:=exq (wr.alloc (.cells #[.int .i64 ai,.int .i64 ao,.string aw,.int .i64 (q:Int)] 59));have j3:Below wr.heap.size wr w6:=by rw[g3];exact(Below.refl _ wr).alloc nlr _
   have C1:w6.heap.size=wr.heap.size+1:=by rw[g3];simp
   have o7:w6.heap[ab]?=some (.cells #[.int .i64 ai,.int .i64 ao,.string aw,.int .i64 (q:Int)] 59 (0,0)):=by rw[g3,k9];exact heap_alloc_new wr _
   have o9:=(j3.block _ (lt_of_block X)).trans X;obtain⟨F3,j9⟩:∃ F3:Nat->Prop,F3=fun b=>F2 b\/b=ab:=⟨_,rfl⟩;have i8:RvS F3 w.heap.size g (n+1) (revA D q d (revQ D q)) w6:=(z.out.1.grown j3 s7).sub (fun b hb=>by
    rw[j9] at hb;exact hb.imp id (fun e=>by rw[e,k9];omega))
   have q9:∀ b,F2 b->F3 b:=fun b hb=>by rw[j9];exact .inl hb
   have r9:F3 ab:=by rw[j9];exact .inr rfl
   have h0:=z.out.kept D5 j3;have m7:w.heap.size<=w6.heap.size:=by omega
   have c8:∀ b,F3 b->b<w6.heap.size:=i8.lt;have uu5:=qh i8;clear i8;have w0:=qh h0;clear h0 z;have y3:=qh o7;clear o7;have r6:=qh o9;clear o9 X e4;have m8:=qh q9;clear q9;have B6:=qh r9;clear r9 j9;have s9:=qh c8;clear c8;clear j3 C1 a5 h4 e1;obtain⟨R,Z,E⟩:=uu5.out;obtain⟨ra,rc,d6,_,_⟩:=z1h (Z.row Q b9);obtain⟨h,u⟩:=exq (w6.drew);have a3:Fr (fun _=>False) w6 h:=by rw[u];exact(Fr.refl _ _).drew
   have j:Below w6.heap.size w6 h:=a3.below nlr (fun _ e=>e.elim);have a7:OwM h w.heap.size (.slice (some ⟨g,0,none⟩) (revA D q d (revQ D q)).n (n+1)) (revA D q d (revQ D q)) R:=Z.kept (z0b j none) (by simp);have a4:∀ b,F3 b->Fre h (.slice (some ⟨g,0,none⟩) (revA D q d (revQ D q)).n (n+1)) R (revA D q d (revQ D q)).n b:=fun b hb=>⟨Nat.lt_of_lt_of_le (E b hb).1 j.size,(E b hb).2⟩;have G:=(a3.block _ (lt_of_block r6.out) (fun e=>e)).trans r6.out;have l:=(a3.block _ (lt_of_block y3.out) (fun e=>e)).trans y3.out;have w8:w.heap.size<=h.heap.size:=Nat.le_trans m7 j.size;have g0:h.cell? ⟨g,Q*2+1,none⟩=some (.slice ra ((revA D q d (revQ D q)).na Q) rc):=by rw[a7.arcs_cell b9,d6]
   have c:h.cell? ⟨k,3,none⟩=some (.slice (some ⟨g,0,none⟩) (n+1) (n+1))/\h.cell? ⟨g,Q*2+1,none⟩=some (.slice ra ((revA D q d (revQ D q)).na Q) rc)/\h.cell? ⟨ab,0,none⟩=some (.int .i64 ai)/\h.cell? ⟨ab,1,none⟩=some (.int .i64 ao)/\h.cell? ⟨ab,2,none⟩=some (.string aw)/\h.cell? ⟨ab,3,none⟩=some (.int .i64 (q:Int)):=⟨(cells4 G).1.2.2.2,g0,by simp[World.cell?,l],by simp[World.cell?,l],by simp[World.cell?,l],by simp[World.cell?,l]⟩;have C0:(Q:Int)<(n:Int)+1:=by have:=i2;omega
   have B5:(0:Int)<=(Q:Int):=by omega
   have d9:=qh a7;clear a7 Z;have N:=qh a4;clear a4 E;have b5:=qh d6;clear d6;have L:=qh G;clear G;have T:=qh l;clear l g0;have d2:=qh j;clear j a3
   go_wp2_with fail
   refine z0h (fun wk=>wk.cell? ⟨k,3,none⟩=some (.slice (some ⟨g,0,none⟩) (n+1) (n+1))/\wk.cell? ⟨g,Q*2+1,none⟩=some (.slice ra ((revA D q d (revQ D q)).na Q) rc)/\wk.cell? ⟨ab,0,none⟩=some (.int .i64 ai)/\wk.cell? ⟨ab,1,none⟩=some (.int .i64 ao)/\wk.cell? ⟨ab,2,none⟩=some (.string aw)/\wk.cell? ⟨ab,3,none⟩=some (.int .i64 (q:Int))) 14 (by kernel_rfl) ?_;rw[<- g3,<- k9];clear c0 c1 c2 c3 g3 k9;rw[<- u];clear u;refine z0c.tm 0 c ?_;refine z0c.tm 1 c ?_;refine z0c.tm 2 c ?_;refine z0c.tm 3 c ?_;refine z0c.tm 4 c ?_;refine z0c.tm 5 c ?_;refine z0c.tm 6 c ?_;refine z0c.tm 7 c ?_;refine z0c.tm 8 c ?_;refine z0c.tm 9 c ?_
   try simp only[Act.put,tryL]
   refine z0c.on 10 fun K J=>?_;go_simp;obtain⟨wy,S⟩:=exq (h.alloc (.cells #[.int .i64 (ai),.int .i64 (ao),.string (aw),.int .i64 (q:Int)] 59));have b8:Below h.heap.size h wy:=by rw[S];exact(Below.refl _ h).alloc nlr _
   have d7:wy.heap[h.heap.size]?=some (.cells #[.int .i64 (ai),.int .i64 (ao),.string (aw),.int .i64 (q:Int)] 59 (0,0)):=by rw[S];exact heap_alloc_new h _
   have v0:wy.heap.size=h.heap.size+1:=by rw[S];simp
   have b0:=(b8.block _ (lt_of_block L.out)).trans L.out;have m:=(b8.block _ (lt_of_block T.out)).trans T.out;have U:wy.cell? ⟨k,3,none⟩=some (.slice (some ⟨g,0,none⟩) (n+1) (n+1))/\wy.cell? ⟨g,Q*2+1,none⟩=some (.slice ra ((revA D q d (revQ D q)).na Q) rc)/\wy.cell? ⟨ab,0,none⟩=some (.int .i64 ai)/\wy.cell? ⟨ab,1,none⟩=some (.int .i64 ao)/\wy.cell? ⟨ab,2,none⟩=some (.string aw)/\wy.cell? ⟨ab,3,none⟩=some (.int .i64 (q:Int)):=⟨(cells4 b0).1.2.2.2,b8.cell (World.ownsRow.lt d9.out.top g rfl).2 |>.trans c.2.1,by simp[World.cell?,m],by simp[World.cell?,m],by simp[World.cell?,m],by simp[World.cell?,m]⟩
   have a2:wy.ownsRow w.heap.size 59 4 (.slice ra ((revA D q d (revQ D q)).na Q) rc) ((revA D q d (revQ D q)).na Q) (cat (arc4 (revA D q d (revQ D q)) Q) ((revA D q d (revQ D q)).na Q)):=by rw[S,<- b5.out];exact World.ownsRow.alloc (d9.out.row Q b9) _
   have x5:w.heap.size<=wy.heap.size:=by omega
   obtain⟨H,hH⟩:=exq (h.heap.size);rw[<- hH] at d7 v0;rw[<- S,<- hH];have f5:=qh S;clear S;have E6:=qh hH;clear hH;have v9:=qh d7;clear d7;have A0:=qh b0;clear b0;have x4:=qh m;clear m;clear b8;refine J.out _ _ (.inr U) ?_;clear J K c
   try simp only[Act.put,tryL]
   refine z0c.on 11 fun K J=>?_;refine wp_append_lies _ (.tmp 53) (.tmp 55) 55 rfl w.heap.size 59 i0 (.agg #[.int .i64 0,.int .i64 0,.string ⟨#[]⟩,.int .i64 0]) 4 40 underlying55 HI.out A3.out y9.out B1.out rfl (by omega) (.slice ra ((revA D q d (revQ D q)).na Q) rc) ((revA D q d (revQ D q)).na Q) _ (by simp[Act.eval]) a2 ⟨H,0,none⟩ 1 1 [.int .i64 (ai),.int .i64 (ao),.string (aw),.int .i64 (q:Int)] (by simp[Act.eval]) rfl (y7w (cs:=#[.int .i64 (ai),.int .i64 (ao),.string (aw),.int .i64 (q:Int)]) v9.out) y7z (by omega) (by unfold maxLen;omega) (by omega) x5 _ rfl ?_;intro go cq we a9 a8 i6 l9;have i3:=x9r (o:=.cells #[.int .i64 (ai),.int .i64 (ao),.string (aw),.int .i64 (q:Int)] 59) w8 d9.out b9 a9 (by rw[<- f5.out,b5.out];exact a8) (by rw[<- f5.out,b5.out];exact i6.imp id (fun e=>Nat.le_of_eq e.symm));obtain⟨g6,⟨d8,v7⟩,a6,h9⟩:=i3;have W:=(a6 k (N.out k (m8.out k (b2.out k b1.out)))).1.trans L.out;have I:=(a6 ab (N.out ab B6.out)).1.trans T.out;rw[b5.out] at d8;have b6:we.cell? ⟨k,3,none⟩=some (.slice (some ⟨g,0,none⟩) (n+1) (n+1))/\we.cell? ⟨g,Q*2+1,none⟩=some (.slice ra ((revA D q d (revQ D q)).na Q) rc)/\we.cell? ⟨ab,0,none⟩=some (.int .i64 ai)/\we.cell? ⟨ab,1,none⟩=some (.int .i64 ao)/\we.cell? ⟨ab,2,none⟩=some (.string aw)/\we.cell? ⟨ab,3,none⟩=some (.int .i64 (q:Int)):=⟨(cells4 W).1.2.2.2,d8,by simp[World.cell?,I],by simp[World.cell?,I],by simp[World.cell?,I],by simp[World.cell?,I]⟩;have s:RvN F3 w.heap.size g (n+1) ((revA D q d (revQ D q)).arc Q (ai) (ao) (aw) (q:Int)) w6 (we.setCell ⟨g,Q*2+1,none⟩ (.slice (some ⟨go,0,none⟩) ((revA D q d (revQ D q)).na Q+1) cq)) :=
    ⟨⟨_,g6,fun b hb=>(a6 b (N.out b hb)).2.2⟩,fun b hb=>(a6 b (N.out b hb)).2.1.trans (d2.out.block b (s9.out b hb)),(d2.out.mono m7).trans h9⟩
   have c7:=qh s;clear s g6 a6 h9 W I a9 a8 i6 l9 a2;refine J.out _ _ (.inr b6) ?_;clear J K U
   try simp only[Act.put,tryL]
   refine z0c.tm 12 b6 ?_;refine z0c.tm 13 b6 ?_
   try simp only[Act.put,tryL]
   refine z0c.on 14 fun K J=>?_;go_simp;refine J.out _ _ (.inl rfl) (z0c.dn ?_);clear J K b6 d8 v7;obtain⟨wf,Y⟩:=exq (we.setCell ⟨g,Q*2+1,none⟩ (.slice (some ⟨go,0,none⟩) ((revA D q d (revQ D q)).na Q+1) cq));have s:=c7.out;rw[<- Y] at s;rw[<- Y];clear Y;have c9:RvN F2 w.heap.size g (n+1) (revA D q (d+1) (revQ D q)) w5 wf:=by
    have e:revA D q (d+1) (revQ D q)=(revA D q d (revQ D q)).arc Q ai ao aw (q:Int):=by
     show (revA D q d (revQ D q)).arc (D.ato q d).toNat (D.ain q d) (D.aout q d) (D.aw q d) (q:Int)=_;rw[E1.out,<- C7.out,<- E3.out,<- D4.out];rfl
    rw[e];exact w0.out.trans (s.sub m8.out)
   have f8:=qh c9;clear c9 s c7;go_wp2;go_roundw
   case rel=>exact⟨d+1,by omega,by go_num,f8.out⟩
   simp[intOf];omega
  have C2:nq=d:=by omega
  subst C2;have z7:¬ ((nq:Int)<(nq:Int)):=by omega
  have s0:wr.cell? ⟨sb,0,none⟩=some (.string fq):=by simp[World.cell?,e4]
  have o5:=qh X;clear X;have n7:=qh e4;clear e4;have d4:RvN F w.heap.size g (n+1) (revA D q nq (revQ D q)) wb wr:=⟨z.out.1.sub b2.out,fun b hb=>(z.out.2.1 b (b2.out b hb)).trans (b4.out.2.1 b hb),b4.out.2.2.trans z.out.2.2⟩;have b3:=qh d4;clear d4 a5 h4;by_cases e8:fq=⟨#[]⟩
  ·have j1:revQ D (q+1)=revA D q nq (revQ D q):=by
    show revF D q (revA D q (D.na q) (revQ D q))=_;unfold revF;rw[if_pos (by rw[<- y1.out];exact e8),h8.out]
   have hB:=b3.out;rw[<- j1] at hB;have w7:=qh hB;clear hB j1 b3 z;subst e8;go_wp2;go_roundw
   case rel=>exact⟨q+1,by omega,by go_num,w7.out⟩
   simp[intOf];omega
  have F6:(fq.toList==[])=false:=by
   cases hE:(fq.toList==[])
   ·rfl
   exact absurd (z7h hE) e8
  have j1:revQ D (q+1)=(revA D q nq (revQ D q)).arc n 0 0 fq (q:Int):=by
   show revF D q (revA D q (D.na q) (revQ D q))=_;unfold revF;rw[if_neg (by rw[<- y1.out];exact e8),h8.out,y1.out,HN.out]
  have b9:n<(revA D q nq (revQ D q)).n:=by rw[A4];omega
  have i2:n<=n:=nlr;have B4:=e1 n;have c8:∀ b,F2 b->b<wr.heap.size:=z.out.1.lt;have uu5:=qh z.out.1;have D2:=qh j1;clear j1;have s9:=qh c8;clear c8 e1;have F9:=qh e8;clear e8;obtain⟨R,Z,E⟩:=uu5.out;obtain⟨ra,rc,d6,_,_⟩:=z1h (Z.row n b9);obtain⟨h,u⟩:=exq (wr.drew);have a3:Fr (fun _=>False) wr h:=by rw[u];exact(Fr.refl _ _).drew
  have j:Below wr.heap.size wr h:=a3.below nlr (fun _ e=>e.elim);have a7:OwM h w.heap.size (.slice (some ⟨g,0,none⟩) (revA D q nq (revQ D q)).n (n+1)) (revA D q nq (revQ D q)) R:=Z.kept (z0b j none) (by simp);have a4:∀ b,F2 b->Fre h (.slice (some ⟨g,0,none⟩) (revA D q nq (revQ D q)).n (n+1)) R (revA D q nq (revQ D q)).n b:=fun b hb=>⟨Nat.lt_of_lt_of_le (E b hb).1 j.size,(E b hb).2⟩;have G:=(a3.block _ (lt_of_block o5.out) (fun e=>e)).trans o5.out;have l:=(a3.block _ (lt_of_block n7.out) (fun e=>e)).trans n7.out;have w8:w.heap.size<=h.heap.size:=Nat.le_trans q7 j.size;have g0:h.cell? ⟨g,n*2+1,none⟩=some (.slice ra ((revA D q nq (revQ D q)).na n) rc):=by rw[a7.arcs_cell b9,d6]
  have c:h.cell? ⟨k,3,none⟩=some (.slice (some ⟨g,0,none⟩) (n+1) (n+1))/\h.cell? ⟨g,n*2+1,none⟩=some (.slice ra ((revA D q nq (revQ D q)).na n) rc)/\h.cell? ⟨sb,0,none⟩=some (.string fq):=⟨(cells4 G).1.2.2.2,g0,by simp[World.cell?,l]⟩;have C0:(n:Int)<(n:Int)+1:=by have:=i2;omega
  have B5:(0:Int)<=(n:Int):=by omega
  have d9:=qh a7;clear a7 Z;have N:=qh a4;clear a4 E;have b5:=qh d6;clear d6;have L:=qh G;clear G;have T:=qh l;clear l g0;have d2:=qh j;clear j a3
  go_wp2_with fail
  refine z0h (fun wk=>wk.cell? ⟨k,3,none⟩=some (.slice (some ⟨g,0,none⟩) (n+1) (n+1))/\wk.cell? ⟨g,n*2+1,none⟩=some (.slice ra ((revA D q nq (revQ D q)).na n) rc)/\wk.cell? ⟨sb,0,none⟩=some (.string fq)) 17 (by kernel_rfl) ?_;rw[<- u];clear u s0;refine z0c.tm 0 c ?_;refine z0c.tm 1 c ?_;refine z0c.tm 2 c ?_;refine z0c.tm 3 c ?_;refine z0c.tm 4 c ?_;refine z0c.tm 5 c ?_;refine z0c.tm 6 c ?_;refine z0c.tm 7 c ?_;refine z0c.tm 8 c ?_;refine z0c.tm 9 c ?_;refine z0c.tm 10 c ?_;refine z0c.tm 11 c ?_;refine z0c.tm 12 c ?_
  try simp only[Act.put,tryL]
  refine z0c.on 13 fun K J=>?_;go_simp;obtain⟨wy,S⟩:=exq (h.alloc (.cells #[.int .i64 (0),.int .i64 (0),.string (fq),.int .i64 (q:Int)] 59));have b8:Below h.heap.size h wy:=by rw[S];exact(Below.refl _ h).alloc nlr _
  have d7:wy.heap[h.heap.size]?=some (.cells #[.int .i64 (0),.int .i64 (0),.string (fq),.int .i64 (q:Int)] 59 (0,0)):=by rw[S];exact heap_alloc_new h _
  have v0:wy.heap.size=h.heap.size+1:=by rw[S];simp
  have b0:=(b8.block _ (lt_of_block L.out)).trans L.out;have m:=(b8.block _ (lt_of_block T.out)).trans T.out;have U:wy.cell? ⟨k,3,none⟩=some (.slice (some ⟨g,0,none⟩) (n+1) (n+1))/\wy.cell? ⟨g,n*2+1,none⟩=some (.slice ra ((revA D q nq (revQ D q)).na n) rc)/\wy.cell? ⟨sb,0,none⟩=some (.string fq):=⟨(cells4 b0).1.2.2.2,b8.cell (World.ownsRow.lt d9.out.top g rfl).2 |>.trans c.2.1,by simp[World.cell?,m]⟩
  have a2:wy.ownsRow w.heap.size 59 4 (.slice ra ((revA D q nq (revQ D q)).na n) rc) ((revA D q nq (revQ D q)).na n) (cat (arc4 (revA D q nq (revQ D q)) n) ((revA D q nq (revQ D q)).na n)):=by rw[S,<- b5.out];exact World.ownsRow.alloc (d9.out.row n b9) _
  have x5:w.heap.size<=wy.heap.size:=by omega
  obtain⟨H,hH⟩:=exq (h.heap.size);rw[<- hH] at d7 v0;rw[<- S,<- hH];have f5:=qh S;clear S;have E6:=qh hH;clear hH;have v9:=qh d7;clear d7;have A0:=qh b0;clear b0;have x4:=qh m;clear m;clear b8;refine J.out _ _ (.inr U) ?_;clear J K c
  try simp only[Act.put,tryL]
  refine z0c.on 14 fun K J=>?_;refine wp_append_lies _ (.tmp 71) (.tmp 76) 55 rfl w.heap.size 59 i0 (.agg #[.int .i64 0,.int .i64 0,.string ⟨#[]⟩,.int .i64 0]) 4 40 underlying55 HI.out A3.out y9.out B1.out rfl (by omega) (.slice ra ((revA D q nq (revQ D q)).na n) rc) ((revA D q nq (revQ D q)).na n) _ (by simp[Act.eval]) a2 ⟨H,0,none⟩ 1 1 [.int .i64 (0),.int .i64 (0),.string (fq),.int .i64 (q:Int)] (by simp[Act.eval]) rfl (y7w (cs:=#[.int .i64 (0),.int .i64 (0),.string (fq),.int .i64 (q:Int)]) v9.out) y7z (by omega) (by unfold maxLen;omega) (by omega) x5 _ rfl ?_;intro go cq we a9 a8 i6 l9;have i3:=x9r (o:=.cells #[.int .i64 (0),.int .i64 (0),.string (fq),.int .i64 (q:Int)] 59) w8 d9.out b9 a9 (by rw[<- f5.out,b5.out];exact a8) (by rw[<- f5.out,b5.out];exact i6.imp id (fun e=>Nat.le_of_eq e.symm));obtain⟨g6,⟨d8,v7⟩,a6,h9⟩:=i3;have W:=(a6 k (N.out k (b2.out k b1.out))).1.trans L.out;have I:=(a6 sb (N.out sb n3.out)).1.trans T.out;rw[b5.out] at d8;have b6:we.cell? ⟨k,3,none⟩=some (.slice (some ⟨g,0,none⟩) (n+1) (n+1))/\we.cell? ⟨g,n*2+1,none⟩=some (.slice ra ((revA D q nq (revQ D q)).na n) rc)/\we.cell? ⟨sb,0,none⟩=some (.string fq):=⟨(cells4 W).1.2.2.2,d8,by simp[World.cell?,I]⟩;have s:RvN F2 w.heap.size g (n+1) ((revA D q nq (revQ D q)).arc n (0) (0) (fq) (q:Int)) wr (we.setCell ⟨g,n*2+1,none⟩ (.slice (some ⟨go,0,none⟩) ((revA D q nq (revQ D q)).na n+1) cq)) :=
   ⟨⟨_,g6,fun b hb=>(a6 b (N.out b hb)).2.2⟩,fun b hb=>(a6 b (N.out b hb)).2.1.trans (d2.out.block b (s9.out b hb)),(d2.out.mono q7).trans h9⟩
  have c7:=qh s;clear s g6 a6 h9 W I a9 a8 i6 l9 a2;refine J.out _ _ (.inr b6) ?_;clear J K U
  try simp only[Act.put,tryL]
  refine z0c.tm 15 b6 ?_;refine z0c.tm 16 b6 ?_
  try simp only[Act.put,tryL]
  refine z0c.on 17 fun K J=>?_;go_simp;refine J.out _ _ (.inl rfl) (z0c.dn ?_);clear J K b6 d8 v7;obtain⟨wf,Y⟩:=exq (we.setCell ⟨g,n*2+1,none⟩ (.slice (some ⟨go,0,none⟩) ((revA D q nq (revQ D q)).na n+1) cq));have s:=c7.out;rw[<- Y,<- D2.out] at s;rw[<- Y];clear Y;have c9:RvN F w.heap.size g (n+1) (revQ D (q+1)) wb wf:=b3.out.trans (s.sub b2.out);have f8:=qh c9;clear c9 s c7;go_wp2;go_roundw
  case rel=>exact⟨q+1,by omega,by go_num,f8.out⟩
  simp[intOf];omega
 have D6:n=q:=by omega
 subst D6;have z7:¬ ((n:Int)<(n:Int)):=by omega
 have X:=(b7.out.2.1 k b1.out).trans A1.out;have g7:=(b7.out.2.1 mb E2.out).trans E4.out;have d0:=j4.out.trans b7.out.2.2;obtain⟨st,uu4⟩:∃ st:Nat,D.start=(st:Int):=⟨D.start.toNat,by have:=HV.out.s0;omega⟩;have n6:D.start.toNat=st:=by omega
 have E9:st<n:=by have:=HV.out.s1;have:=HN.out;omega
 obtain⟨h,u⟩:=exq (wr.drew);have a3:Fr (fun _=>False) wr h:=by rw[u];exact(Fr.refl _ _).drew
 have j:Below wr.heap.size wr h:=a3.below nlr (fun _ e=>e.elim);have o6:=b7.out.1.kept j;have G:=(j.block _ (lt_of_block X)).trans X;have d3:=(j.block _ (lt_of_block g7)).trans g7;have g1:=d0.trans (j.mono d0.size);rw[uu4] at d3;have c:h.cell? ⟨k,3,none⟩=some (.slice (some ⟨g,0,none⟩) (n+1) (n+1))/\h.cell? ⟨mb,0,none⟩=some (.int .i64 D.kind)/\h.cell? ⟨mb,1,none⟩=some (.int .i64 (st:Int)):=⟨(cells4 G).1.2.2.2,(cells4 d3).1.1,(cells4 d3).1.2.1⟩;have l0:(st:Int)<(n:Int)+1:=by omega
 have E7:(0:Int)<=(st:Int):=by omega
 have A8:=qh o6;clear o6;have L:=qh G;clear G X;have m9:=qh d3;clear d3 g7;have d1:=qh g1;clear g1 d0 j a3;have F7:=qh uu4;clear uu4;have y5:=qh n6;clear n6
 go_wp2_with fail
 refine z0h (fun wk=>wk.cell? ⟨k,3,none⟩=some (.slice (some ⟨g,0,none⟩) (n+1) (n+1))/\wk.cell? ⟨mb,0,none⟩=some (.int .i64 D.kind)/\wk.cell? ⟨mb,1,none⟩=some (.int .i64 (st:Int))) 9 (by kernel_rfl) ?_;rw[<- u];clear u;refine z0c.tm 0 c ?_;refine z0c.tm 1 c ?_;refine z0c.tm 2 c ?_;refine z0c.tm 3 c ?_;refine z0c.tm 4 c ?_;refine z0c.tm 5 c ?_
 try simp only[Act.put,tryL]
 refine z0c.on 6 fun K J=>?_;go_simp;refine(z7f D.kind h).mono ?_;rintro r we ⟨rfl,f4⟩;have B9:=A8.out.kept f4;have W:=(f4.block _ (lt_of_block L.out)).trans L.out;have g8:=(f4.block _ (lt_of_block m9.out)).trans m9.out;have p8:=d1.out.trans (f4.mono d1.out.size);have U:we.cell? ⟨k,3,none⟩=some (.slice (some ⟨g,0,none⟩) (n+1) (n+1))/\we.cell? ⟨mb,0,none⟩=some (.int .i64 D.kind)/\we.cell? ⟨mb,1,none⟩=some (.int .i64 (st:Int)):=⟨(cells4 W).1.2.2.2,(cells4 g8).1.1,(cells4 g8).1.2.1⟩;obtain⟨R,Z,E⟩:=B9;have e0:(revQ D n).n=n+1:=by rw[(z2w D n).n,HN.out];rfl
 have D8:we.cell? ⟨g,st*2,none⟩=some (.string ((revQ D n).fin st)):=Z.fin_cell (by rw[e0];omega);have C4:=z5y Z.top (st*2);have a1:=Z.setFin (q:=st) (by rw[e0];omega) (oneF D.kind);have m5:k≠g:=fun e=>(E k b1.out).2.1 (by rw[e];rfl);have w9:=World.ownsRow.lt Z.top g rfl;refine J.out _ _ (.inr U) ?_;clear J K c f4;obtain⟨on,l6⟩:=exq (oneF D.kind);rw[<- l6] at a1;rw[<- l6];have D3:=qh l6;clear l6;have n5:=qh a1;clear a1 Z;have y8:=qh W;clear W;have B8:=qh p8;clear p8 g8;have j8:=qh e0;clear e0;have N:=qh E;clear E
 try simp only[Act.put,tryL]
 refine z0c.tm 7 U ?_;refine z0c.tm 8 U ?_
 try simp only[Act.put,tryL]
 refine z0c.on 9 fun K J=>?_;go_simp;refine J.out _ _ (.inl rfl) (z0c.dn ?_);clear J K U D8 C4;obtain⟨wf,Y⟩:=exq (we.setCell ⟨g,st*2,none⟩ (.string on));have f9:(revQ D n).setFin st on=revD D:=by
  unfold revD;rw[y5.out,<- HN.out,<- D3.out]
 have a1:=n5.out;rw[<- Y,f9] at a1;have h5:wf.heap[k]?=some (.cells #[.int .i64 D.kind,.int .i64 (n:Int),.string D.lead,.slice (some ⟨g,0,none⟩) (n+1) (n+1)] 24 (0,0)):=by rw[Y,z0e m5];exact y8.out
 have i4:Below w.heap.size w wf:=by rw[Y];exact B8.out.setCell (p:=⟨g,st*2,none⟩) w9.1 _
 rw[<- Y];clear Y f9 w9 m5;have o8:(revD D).kind=D.kind:=(z2w D D.n).kind;have r4:(revD D).start=(n:Int):=by rw[HN.out];exact(z2w D D.n).start
 have p7:(revD D).lead=D.lead:=(z2w D D.n).lead;have p9:Ma none wf (.agg #[.int .i64 D.kind,.int .i64 (n:Int),.string D.lead,.slice (some ⟨g,0,none⟩) (n+1) (n+1)]) (revD D):=by
  refine⟨.slice (some ⟨g,0,none⟩) (n+1) (n+1),by rw[o8,r4,p7],?_⟩;have h1:=a1.sts;rw[show (revQ D n).n=n+1 from j8.out] at h1;exact h1
 have z4:=qh (z1v wf p9 (v0i HV.out x2.out) (HT.out.below i4 nlr));obtain⟨⟨r0,r1,r2,r3⟩,_⟩:=cells4 h5;have f7:OwM wf w.heap.size (.slice (some ⟨g,0,none⟩) (n+1) (n+1)) (revD D) R:=by
  have h1:=a1;rw[show (revQ D n).n=n+1 from j8.out] at h1;exact h1
 have s3:=qh f7;clear f7 a1 n5;have o2:=qh h5;clear h5;have g5:=qh i4;clear i4 p9 o8 r4 p7
 go_wp2_with fail
 clear r0 r1 r2 r3;refine z4.out.mono ?_;rintro r wg ⟨m4,hr⟩;have h7:=(m4.block _ (lt_of_block o2.out)).trans o2.out;have x0:=qh (s3.out.kept (z0b m4 none) (by simp));have z9:=qh (g5.out.trans (m4.mono g5.out.size));clear m4 z4 g5;obtain⟨⟨r0,r1,r2,r3⟩,rz⟩:=cells4 h7;have f0:=rz 0;have f1:=rz 1;have f2:=rz 2;have f3:=rz 3;clear rz;have h6:=qh h7;clear h7
 rcases hr with ⟨hq,rfl⟩|⟨hq,rfl⟩
 ·have HQ:=qh hq;clear hq;have w7:=qh (x0.out.box4 h6.out (.int .i64 D.kind) (.int .i64 (n:Int)) (.string D.lead) (.slice (some ⟨g,0,none⟩) (n+1) (n+1)))
  go_wp2_with fail
  refine bodyPost_ret (z0k rfl _ (b:=k) rfl rfl (z0w wg k _ _ _ _ h6.out)) rfl ⟨z0d z9.out l2 _ _ _ _,.inl ⟨HV.out,HQ.out,.slice (some ⟨g,0,none⟩) (n+1) (n+1),R,?_,w7.out⟩⟩;rw[<- HN.out];rfl
 have HQ:=qh hq;clear hq
 go_wp2_with fail
 exact bodyPost_ret (z0k rfl _ (b:=k) rfl rfl (z0w wg k _ _ _ _ h6.out)) rfl ⟨z0d z9.out l2 _ _ _ _,.inr (.inl ⟨HV.out,HQ.out,rfl⟩)⟩
end
section
open Go.RowKit Go.Deep
theorem v9s {A B H n:Nat} {u s:Nat->Int} (w:World) (h:R2P A B H n u s w) (i o:Int) (E:0<=i) (D:i<=500) (k0:0<=o) (C:o<=500) :
  Calls prog 71 #[.int .i64 i,.int .i64 o,.pointer (some ⟨A,0,none⟩)] w (fun r w'=>r=.returned (.tuple #[.int .i64 (mapF n u s i),.int .i64 (mapF n u s o)])/\Below w.heap.size w w'):=by
 obtain⟨p,l⟩:=exq (w.drew);have hf:Fr (fun _=>False) w p:=by rw[l];exact(Fr.refl _ _).drew
 have z:=h.kept hf (fun e=>e) (fun e=>e) (fun e=>e);have c:p.cell? ⟨A,0,none⟩=some (.func (.func 70) #[] #[.pointer (some ⟨B,0,none⟩)]):=by simp[World.cell?,z.1]
 have k:=qh (v2w p z.2 i E D);have j:=qh (v2w p z.2 o k0 C);have I:=qh (hf.below nlr (fun _ e=>e.elim));clear hf z h E D k0 C;obtain⟨F,m⟩:=exq (mapF n u s i);obtain⟨G,g⟩:=exq (mapF n u s o);rw[<- m,<- g];rw[<- m] at k;rw[<- g] at j;clear m g
 go_enter func71,ntmps71
 go_wp2_with fail
 refine z0h (fun J=>J.cell? ⟨A,0,none⟩=some (.func (.func 70) #[] #[.pointer (some ⟨B,0,none⟩)])) 7 (by kernel_rfl) ?_;rw[<- l];clear l;refine z0c.tm 0 c ?_;refine z0c.tm 1 c ?_;refine z0c.tm 3 c ?_;refine z0c.tm 4 c ?_
 try simp only[Act.put,tryL]
 refine z0c.on 2 fun K d=>?_;go_simp;refine k.out.mono ?_;rintro r N ⟨rfl,rfl⟩;refine d.out _ _ (.inr c) ?_;clear d K k
 try simp only[Act.put,tryL]
 refine z0c.on 5 fun K d=>?_;go_simp;refine j.out.mono ?_;rintro r L ⟨rfl,rfl⟩;refine d.out _ _ (.inr c) ?_;clear d K j
 try simp only[Act.put,tryL]
 refine z0c.on 6 fun K d=>?_;go_simp;refine d.out _ _ (.inr c) ?_;clear d K
 try simp only[Act.put,tryL]
 refine z0c.on 7 fun K d=>?_;go_simp;refine d.out _ _ (.inl rfl) (z0c.dn ?_);clear d K;go_wp2;go_ret2;exact⟨rfl,I.out⟩
theorem u3q (j s l n:Nat) (d g:Nat->Int):SymF 71 #[.pointer (some ⟨j,0,none⟩)] (fun i o=>(mapF n d g i,mapF n d g o)) (R2P j s l n d g) :=
 ⟨v7m,fun w h i o u p m k=>by
  rw[show ∀ a b c:Value,(#[a,b]++#[c]:Array Value)=#[a,b,c] from fun _ _ _=>rfl];exact v9s w h i o u p m k⟩
end
section
open Go.RowKit Go.Deep
structure RnI (w0 wr:World) (mb rb ob pb n q:Nat) (mc:Array Value) (pi po:Nat->Int):Prop where
 kb:wr.heap[mb]?=some (.cells mc 24 (0,0))
 kr:wr.heap[rb]?=some (.cells #[.int .i64 0,.int .i64 0,.string ⟨#[]⟩,.slice none 0 0] 24 (0,0))
 rp:R1P ob pb q pi po wr
 be:Below w0.heap.size w0 wr
 lr:w0.heap.size<=rb
 lo:w0.heap.size<=ob
 lp:w0.heap.size<=pb
theorem RnI.new {l w m:World} {c rb k i n q:Nat} {d:Array Value} {g j:Nat->Int} (h:RnI l w c rb k i n q d g j) (hf:Fr (fun _=>False) w m):RnI l m c rb k i n q d g j :=
 ⟨(hf.block c (lt_of_block h.kb) (fun e=>e)).trans h.kb,(hf.block rb (lt_of_block h.kr) (fun e=>e)).trans h.kr,h.rp.kept hf (fun e=>e) (fun e=>e),h.be.trans (hf.below h.be.size (fun _ e=>e.elim)),h.lr,h.lo,h.lp⟩
theorem x6r {D:MD} {mv lv:Value} {n:Nat} {m u:Nat->Int} (w:World) (hM:Ma none w mv D) (d1:MSz D) (hL:PrS none w lv n m u) (hn:n<=1000) (ht:Tab w) :
  Calls prog 32 #[mv,lv] w (MkE (VM D/\RenOk n m u) (D.ren (mapF n m u)) 1 w):=by
 obtain⟨sv,rfl,hS⟩:=hM;obtain⟨a,cp,_,_,_,_,_,_,c9,_⟩:=hS.open;subst c9;obtain⟨al,cl,bl,ol,j6,g4,j5,j1,h9,Y⟩:=hL.open;subst j6;obtain⟨w1,Q⟩:=exq (w.alloc (.cells #[.int .i64 D.kind,.int .i64 D.start,.string D.lead,.slice a D.n cp] 24));obtain⟨w2,Z⟩:=exq (w1.alloc (.cells #[.int .i64 0,.int .i64 0,.string ⟨#[]⟩,.slice none 0 0] 24));have g8:w1.heap.size=w.heap.size+1:=by rw[Q];simp
 have h8:Fr (fun _=>False) w w1:=by rw[Q];exact Fr.alloc _ _
 have g0:Fr (fun _=>False) w1 w2:=by rw[Z];exact Fr.alloc _ _
 obtain⟨mb,b0⟩:=exq (w.heap.size);obtain⟨B,d7⟩:=exq (w.heap.size+1);obtain⟨mc,e5⟩:∃ mc:Array Value,mc=#[.int .i64 D.kind,.int .i64 D.start,.string D.lead,.slice a D.n cp]:=⟨_,rfl⟩;have e8:w1.heap[mb]?=some (.cells #[.int .i64 D.kind,.int .i64 D.start,.string D.lead,.slice a D.n cp] 24 (0,0)):=by rw[Q,b0];exact heap_alloc_new w _
 have f5:w2.heap[mb]?=some (.cells #[.int .i64 D.kind,.int .i64 D.start,.string D.lead,.slice a D.n cp] 24 (0,0)):=(g0.block _ (lt_of_block e8) (fun e=>e)).trans e8;have i2:w2.heap[B]?=some (.cells #[.int .i64 0,.int .i64 0,.string ⟨#[]⟩,.slice none 0 0] 24 (0,0)):=by rw[d7,<- g8,Z];exact heap_alloc_new w1 _
 have a8:Below w.heap.size w w2:=(h8.trans g0).below nlr (fun _ e=>e.elim);have J:w.heap.size<=B:=by omega
 have l2:mb≠B:=by omega
 obtain⟨⟨m0,m1,m2,m3⟩,_⟩:=cells4 f5;have i7:=qh (z1v w2 (⟨_,rfl,hS.kept (z0b a8 none)⟩:Ma none w2 (.agg #[.int .i64 D.kind,.int .i64 D.start,.string D.lead,.slice a D.n cp]) D) d1 (ht.below a8 nlr));have HS:=qh hS;clear hS;have j9:=qh d1;clear d1;have HT:=qh ht;clear ht;have HA:=qh g4;clear g4;have h3:=qh h9;clear h9;have i3:=qh Y;clear Y hL;have K:=qh i2;clear i2;have f7:=qh f5;clear f5 e8;have d0:=qh a8;clear a8 h8 g0 g8;clear j5 j1;have l4:=@run_makeMap prog;rw[Z,Q] at m0 m1 m2 m3;rw[b0] at m0 m1 m2 m3
 go_enter func32,ntmps32
 go_wp2_with fail
 rw[<- Q,<- Z,<- d7,<- b0];clear m0 m1 m2 m3 Q Z d7 b0;refine i7.out.mono ?_;rintro r w4 ⟨b1,hr⟩;have g3:=(b1.block _ (lt_of_block f7.out)).trans f7.out;have U:=(b1.block _ (lt_of_block K.out)).trans K.out;have T:=qh (d0.out.trans (b1.mono d0.out.size));clear b1 f7 K i7 d0;have b4:=qh g3;clear g3;have E:=qh U;clear U
 rcases hr with ⟨hv,rfl⟩|⟨hv,rfl⟩
 rotate_left
 ·have HV:=qh hv;clear hv;obtain⟨⟨r0,r1,r2,r3⟩,G⟩:=cells4 E.out;have f0:=G 0;have f1:=G 1;have f2:=G 2;have f3:=G 3;clear G
  go_wp2_with fail
  exact bodyPost_ret (z0k rfl _ (b:=B) rfl rfl (z0w w4 B _ _ _ _ E.out)) rfl ⟨z0d T.out J _ _ _ _,.inr ⟨fun h=>HV.out h.1,rfl⟩⟩
 have HV:=qh hv;clear hv;obtain⟨S,e4⟩:=exq (w4.heap.size);obtain⟨w5,a3⟩:=exq (w4.alloc (.map #[] 0));obtain⟨w6,a7⟩:=exq (w5.alloc (.cells #[.map (some S)] 91));have j0:w5.heap.size=w4.heap.size+1:=by rw[a3];simp
 obtain⟨ob,f8⟩:=exq (w4.heap.size+1);have g5:Fr (fun _=>False) w4 w5:=by rw[a3];exact Fr.alloc _ _
 have e3:Fr (fun _=>False) w5 w6:=by rw[a7];exact Fr.alloc _ _
 have b7:MpM w5 S 0 m u:=by rw[a3,e4];exact MpM.made w4 m u
 have i4:w6.heap[ob]?=some (.cells #[.map (some S)] 91 (0,0)):=by rw[f8,<- j0,a7];exact heap_alloc_new w5 _
 have a4:RnI w w6 mb B ob S n 0 mc m u:=by
  have e2:=g5.trans e3;rw[<- e5] at b4;exact⟨(e2.block mb (lt_of_block b4.out) (fun e=>e)).trans b4.out,(e2.block B (lt_of_block E.out) (fun e=>e)).trans E.out,⟨i4,b7.kept e3 (fun e=>e)⟩,T.out.trans (e2.below T.out.size (fun _ e=>e.elim)),J,by have:=T.out.size;omega,by have:=T.out.size;omega⟩
 have H:=qh a4;clear a4 i4 b7 g5 e3 j0 b4 E T
 go_wp2_with fail
 rw[<- f8,<- e4,<- a3,<- a7];clear e4 a3 a7 f8;have j4:=qh e5;clear e5
 go_loopw [19] (fun d4 k3=>∃ q:Nat,q<=n/\d4=.int .i64 (q:Int)/\(∀ j,j<q->1<=m j/\m j<=500/\0<=u j/\u j<=500)/\RnI w k3 mb B ob S n q mc m u) (fun d4 _=>n-(intOf d4).toNat)
 case atStart=>exact⟨0,Nat.zero_le _,rfl,fun j hj=>absurd hj (Nat.not_lt_zero _),H.out⟩
 obtain⟨q,hq,rfl,j2,a4⟩:=hrel;clear H;have e6:=qh j2;clear j2;have H:=qh a4;clear a4;by_cases d3:q<n
 ·have l0:(q:Int)<(n:Int):=by omega
  have k7:(0:Int)<=(q:Int):=by omega
  obtain rfl:=HA.out (by omega);have c0:=(H.out.be.cell (p:=⟨bl,ol+q*2,none⟩) (h3.out (by omega)).1).trans (i3.out q d3).1;have c1:=(H.out.be.cell (p:=⟨bl,ol+q*2+1,none⟩) (h3.out (by omega)).1).trans (i3.out q d3).2;obtain⟨F,d2⟩:=exq (m q);obtain⟨L,e9⟩:=exq (u q);rw[<- d2] at c0;rw[<- e9] at c1;have W:=qh d2;clear d2;have f4:=qh e9;clear e9;obtain⟨A,l⟩:=exq (wr.alloc (.cells #[.int .i64 F,.int .i64 L] 50));obtain⟨eb,g7⟩:=exq (wr.heap.size);have a6:Fr (fun _=>False) wr A:=by rw[l];exact Fr.alloc _ _
  have a5:A.heap[eb]?=some (.cells #[.int .i64 F,.int .i64 L] 50 (0,0)):=by rw[l,g7];exact heap_alloc_new wr _
  have N:=H.out.new a6;have e0:A.cell? ⟨eb,0,none⟩=some (.int .i64 F):=by simp[World.cell?,a5]
  have e1:A.cell? ⟨eb,1,none⟩=some (.int .i64 L):=by simp[World.cell?,a5]
  have o0:A.cell? ⟨ob,0,none⟩=some (.map (some S)):=by simp[World.cell?,N.rp.1]
  obtain⟨⟨r0,r1,r2,r3⟩,G⟩:=cells4 N.kr;have f0:=G 0;have f1:=G 1;have f2:=G 2;have f3:=G 3;have l7:=qh a5;clear a5;have d:=qh N;clear N;have b9:¬ (1<=F/\F<=500/\0<=L/\L<=500)->¬ RenOk n m u:=fun h hr=>h (by rw[W.out,f4.out];exact hr q d3);have O:=qh b9;clear b9;rw[l] at e0 e1 o0 r0 r1 r2 r3 f0 f1 f2 f3;clear G;rw[g7] at e0 e1;by_cases h1:F<1
  ·have I:=qh (O.out (by omega))
   go_wp2_with fail
   rw[<- l];exact bodyPost_ret (z0k rfl _ (b:=B) rfl rfl (z0w A B _ _ _ _ d.out.kr)) rfl ⟨z0d d.out.be J _ _ _ _,.inr ⟨fun h=>I.out h.2,rfl⟩⟩
  have k9:decide (F<1)=false:=by simp;omega
  by_cases h5:(500:Int)<F
  ·have I:=qh (O.out (by omega));clear h1
   go_wp2_with fail
   rw[<- l];exact bodyPost_ret (z0k rfl _ (b:=B) rfl rfl (z0w A B _ _ _ _ d.out.kr)) rfl ⟨z0d d.out.be J _ _ _ _,.inr ⟨fun h=>I.out h.2,rfl⟩⟩
  have l3:decide ((500:Int)<F)=false:=by simp;omega
  by_cases h6:L<0
  ·have I:=qh (O.out (by omega));clear h1 h5
   go_wp2_with fail
   rw[<- l];exact bodyPost_ret (z0k rfl _ (b:=B) rfl rfl (z0w A B _ _ _ _ d.out.kr)) rfl ⟨z0d d.out.be J _ _ _ _,.inr ⟨fun h=>I.out h.2,rfl⟩⟩
  have l5:decide (L<0)=false:=by simp;omega
  by_cases g:(500:Int)<L
  ·have I:=qh (O.out (by omega));clear h1 h5 h6
   go_wp2_with fail
   rw[<- l];exact bodyPost_ret (z0k rfl _ (b:=B) rfl rfl (z0w A B _ _ _ _ d.out.kr)) rfl ⟨z0d d.out.be J _ _ _ _,.inr ⟨fun h=>I.out h.2,rfl⟩⟩
  have l6:decide ((500:Int)<L)=false:=by simp;omega
  have b5:1<=F/\F<=500/\0<=L/\L<=500:=by omega
  have HR:=qh b5;clear b5 h1 h5 h6 g;clear r0 r1 r2 r3 f0 f1 f2 f3;have a9:=d.out.rp.2.look (s:=F) (by have:=HR.out;omega) (by have:=HR.out;omega);rw[l] at a9;have b8:∀ j,j<q+1->1<=m j/\m j<=500/\0<=u j/\u j<=500:=fun j hj=>by
   by_cases e:j=q
   ·subst e;rw[<- W.out,<- f4.out];exact HR.out
   exact e6.out j (by omega)
  have b6:=qh b8;clear b8;obtain⟨gd,i5⟩:∃ gd,gd=(mpO m u q F).getD 0:=⟨_,rfl⟩;rw[<- i5] at a9;clear i5;cases C:(mpO m u q F).isSome
  ·rw[C] at a9;obtain⟨D1,z,g6,h4⟩:=d.out.rp.2;rw[l] at z;have HM:=qh C;clear C;have a2:=qh z;clear z;have k5:=qh g6;clear g6;have k0:=qh h4;clear h4;have c7:=keyM (s:=F) (by have:=HR.out;omega) (by have:=HR.out;omega);have g9:=qh c7;clear c7;have i8:=u6d (s:=L) (by have:=HR.out;omega) (by have:=HR.out;omega);have j3:=qh i8;clear i8;have f9:=qh l
   go_wp2_with (at_mapUpdate;refine wpList_mapUpdate_own _ rfl _ _ _ 91 rfl 3 3 u5u underlying91 _ S q D1 rfl a2.out (by unfold maxLen;omega) _ _ (.int .i64 F) rfl rfl g9.out (.lit (.int .i64 L)) [] j3.out ?_;intro w8 X P;have k2:=qh X;clear X;have k1:=qh P;clear P)
   go_roundw
   case rel =>
    have i9:=k1.out;rw[<- f9.out] at i9;have b3:Fr (fun k=>k=S) A w8:=Fr.of_gb i9 (fun k e=>by cases e;rfl);have g:=d.out;have g2:∀ b c t f,A.heap[b]?=some (.cells c t f)->¬ b=S:=fun b c t f hb e=>g.rp.2.block hb e;have d9:mpO m u q (m q)=none:=by
     have:=HM.out;rw[W.out] at this;cases e:mpO m u q (m q) with
     | none=>rfl
     | some t=>rw[e] at this;cases this
    refine⟨q+1,by omega,by go_num,b6.out,⟨(b3.block mb (lt_of_block g.kb) (g2 _ _ _ _ g.kb)).trans g.kb,(b3.block B (lt_of_block g.kr) (g2 _ _ _ _ g.kr)).trans g.kr,⟨(b3.block ob (lt_of_block g.rp.1) (g2 _ _ _ _ g.rp.1)).trans g.rp.1,MpM.put k5.out k0.out d9 (by rw[<- W.out,<- f4.out];exact k2.out)⟩,g.be.trans (b3.below g.be.size (fun k e=>by rw[e];exact g.lp)),g.lr,g.lo,g.lp⟩⟩
   simp[intOf];omega
  rw[C] at a9;have HM:=qh C;clear C;have f9:=qh l;go_wp2;go_roundw
  case rel =>
   have g:=d.out;rw[f9.out] at g;refine⟨q+1,by omega,by go_num,b6.out,⟨g.kb,g.kr,⟨g.rp.1,g.rp.2.same (by rw[<- W.out];exact HM.out)⟩,g.be,g.lr,g.lo,g.lp⟩⟩
  simp[intOf];omega
 have j8:q=n:=by omega
 have k6:¬ ((q:Int)<(n:Int)):=by omega
 have c8:RenOk n m u:=fun i hi=>e6.out i (by omega);have a1:=H.out;rw[j8] at a1;have i6:=qh c8;clear c8 e6 H;obtain⟨fb,d8⟩:=exq (wr.heap.size);obtain⟨A,l⟩:=exq (wr.alloc (.cells #[.func (.func 70) #[] #[.pointer (some ⟨ob,0,none⟩)]] 93));have a6:Fr (fun _=>False) wr A:=by rw[l];exact Fr.alloc _ _
 have h2:A.heap[fb]?=some (.cells #[.func (.func 70) #[] #[.pointer (some ⟨ob,0,none⟩)]] 93 (0,0)):=by rw[l,d8];exact heap_alloc_new wr _
 have g:=a1.new a6;have d5:R2P fb ob S n m u A:=⟨h2,g.rp⟩;have e7:=g.kb;rw[j4.out] at e7;have d6:=z6q (φ:=fun i o=>(mapF n m u i,mapF n m u o)) A (⟨_,rfl,HS.out.kept (z0b g.be none)⟩:Ma none A (.agg #[.int .i64 D.kind,.int .i64 D.start,.string D.lead,.slice a D.n cp]) D) j9.out (HT.out.below g.be nlr) (u3q fb ob S n m u) d5 (fun wb hb=>d5.kept (Fr.of_below hb:Fr (fun _=>False) A wb) (fun e=>e) (fun e=>e) (fun e=>e));rw[u2i] at d6;obtain⟨⟨m0,m1,m2,m3⟩,_⟩:=cells4 e7;rw[l] at m0 m1 m2 m3;have h0:=qh d6;clear d6;have K:=qh g.kr;have b2:=qh g.be;clear g a1 d5 h2 e7 a6
 go_wp2_with fail
 rw[<- d8,<- l];clear m0 m1 m2 m3 d8 l;refine h0.out.mono ?_;rintro r w8 ⟨g1,hr⟩;have U:=(g1.block _ (lt_of_block K.out)).trans K.out;have j7:=qh (b2.out.trans (g1.mono b2.out.size));have k4:w.heap.size<=A.heap.size:=b2.out.size;clear g1 K h0 b2;have E:=qh U;clear U;obtain⟨⟨r0,r1,r2,r3⟩,G⟩:=cells4 E.out;have f0:=G 0;have f1:=G 1;have f2:=G 2;have f3:=G 3;clear G
 rcases hr with ⟨_,l1,R,rfl,z⟩|⟨d9,_⟩
 rotate_left
 ·exact absurd HV.out d9
 obtain⟨sa,sc,c9,_,_⟩:=z1h z.top;subst c9;have a2:=qh (z4j (z.box4 E.out (.int .i64 (D.ren (mapF n m u)).kind) (.int .i64 (D.ren (mapF n m u)).start) (.string (D.ren (mapF n m u)).lead) (.slice sa (D.ren (mapF n m u)).n sc)) k4);clear z
 go_wp2_with fail
 exact bodyPost_ret (z0k rfl _ (b:=B) rfl rfl (z0w w8 B _ _ _ _ E.out)) rfl ⟨z0d j7.out J _ _ _ _,.inl ⟨⟨HV.out,i6.out⟩,_,R,rfl,a2.out⟩⟩
end
end Go.Proofs.YteappjogmnogcaaGreatDoor
