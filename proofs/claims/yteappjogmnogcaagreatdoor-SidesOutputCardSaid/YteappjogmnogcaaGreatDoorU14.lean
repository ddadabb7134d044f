/- Parts of a proof: RnL ExS BlH AloL RvA SdEr RnM RnW. -/
import Derived.Test.YteappjogmnogcaaGreatDoorU13
import Derived.Test.YteappjogmnogcaaGreatDoorU09
import Derived.Maps.Own
import Derived.Maps.Views
import Derived.Test.YteappjogmnogcaaGreatDoorU10
import Derived.Test.YteappjogmnogcaaGreatDoorU11
import Derived.Test.YteappjogmnogcaaGreatDoorU12
namespace Go.Proofs.YteappjogmnogcaaGreatDoor
set_option maxRecDepth 100000
set_option linter.unusedSimpArgs false
set_option linter.unusedVariables false
set_option linter.unusedSectionVars false
set_option maxHeartbeats 16000000
open Go Tryz
section
open Go.RowKit Go.Deep
def mpO (pi po:Nat->Int):Nat->Int->Option Int
 | 0,_=>none
 | q+1,s=>match mpO pi po q s with|some t=>some t|none=>if pi q=s then some (po q) else none
def mapF (n:Nat) (pi po:Nat->Int) (s:Int):Int:=(mpO pi po n s).getD s
def RenOk (n:Nat) (pi po:Nat->Int):Prop:=∀ i,i<n->1<=pi i/\pi i<=500/\0<=po i/\po i<=500
def PrS (z:Option Nat) (w:World) (v:Value) (n:Nat) (pi po:Nat->Int):Prop :=
 (n=0/\∃ a cap,v=.slice a 0 cap/\cap<=maxLen)\/∃ b off cap,v=.slice (some ⟨b,off,none⟩) n cap/\(b<w.heap.size/\some b≠z)/\n<=cap/\cap<=maxLen/\∀ i,i<n->w.cell? ⟨b,off+i*2,none⟩=some (.int .i64 (pi i))/\w.cell? ⟨b,off+i*2+1,none⟩=some (.int .i64 (po i))
theorem PrS.kept {z:Option Nat} {w o:World} {v:Value} {n:Nat} {m l:Nat->Int} (h:PrS z w v n m l) (d:w.grownBy o z):PrS z o v n m l:=by
 rcases h with h|⟨b,j,g,s,c,p,u,k⟩
 ·exact .inl h
 exact .inr ⟨b,j,g,s,⟨Nat.lt_of_lt_of_le c.1 d.size,c.2⟩,p,u,fun i hi=>⟨d.cell (k i hi).1 c.2,d.cell (k i hi).2 c.2⟩⟩
theorem PrS.open {z:Option Nat} {w:World} {v:Value} {n:Nat} {d c:Nat->Int} (h:PrS z w v n d c):∃ a cap b off,v=.slice a n cap/\(0<n->a=some ⟨b,off,none⟩)/\n<=cap/\cap<=maxLen/\(0<n->b<w.heap.size/\some b≠z)/\∀ i,i<n->w.cell? ⟨b,off+i*2,none⟩=some (.int .i64 (d i))/\w.cell? ⟨b,off+i*2+1,none⟩=some (.int .i64 (c i)):=by
 rcases h with ⟨l,a,cap,rfl,o⟩|⟨b,off,cap,rfl,j,k,m,g⟩
 ·exact⟨a,cap,0,0,by rw[l],by omega,by omega,o,by omega,fun i hi=>by omega⟩
 exact⟨_,cap,b,off,rfl,fun _=>rfl,k,m,fun _=>j,g⟩
def MpM (w:World) (pb q:Nat) (pi po:Nat->Int):Prop:=∃ D:DataW Unit,w.ownsMap prog 3 (plainElem prog 3) pb q D/\Maps.IsMap D/\∀ s z:Int,D.atKey (.int .i64 s) (.lit (.int .i64 z))=.lit (.int .i64 ((mpO pi po q s).getD z))
theorem u2v:Maps.Keyed prog 3:=Maps.int_keyed underlying3
theorem keyM {s:Int} (d:0<=s) (c:s<=500):keyOf prog 3 (.int .i64 s)=some (.int .i64 s):=Maps.keyOf_int_mk underlying3 (by simp[Lit.wf,IntKind.min,IntKind.max,IntKind.signed,IntKind.bits];omega)
theorem u4s (w:World):(zeroValue 3).run prog w=.ok (.int .i64 0) w:=by kernel_rfl
theorem u3z {s:Int} (d:0<=s) (c:s<=500):plainElem (H:=Unit) prog 3 (.int .i64 s)=some (.lit (.int .i64 s),[]):=plainElem_int underlying3 (by simp[Lit.wf,IntKind.min,IntKind.max,IntKind.signed,IntKind.bits];omega)
theorem MpM.made (w:World) (d c:Nat->Int):MpM (w.alloc (.map #[] 0)) w.heap.size 0 d c:=⟨.map [],World.ownsMap_made w _ _ _,⟨[],rfl⟩,fun _ _=>rfl⟩
theorem MpM.kept {w j:World} {d q:Nat} {i g:Nat->Int} {C:Nat->Prop} (h:MpM w d q i g) (hf:Fr C w j) (l:¬ C d):MpM j d q i g:=by
 obtain⟨D,⟨k,c,hb,m⟩,o,p⟩:=h;exact⟨D,⟨k,c,(hf.block d (Array.getElem?_eq_some_iff.1 hb).1 l).trans hb,m⟩,o,p⟩
theorem MpM.block {w:World} {g q:Nat} {k j:Nat->Int} (h:MpM w g q k j) {b:Nat} {c:Array Value} {t:TypeId} {f:Nat × Nat} (hb:w.heap[b]?=some (.cells c t f)):b≠g:=by
 obtain⟨D,⟨l,d,i,_⟩,_⟩:=h;rintro rfl;rw[hb] at i;cases i
theorem MpM.lt {w:World} {d q:Nat} {i g:Nat->Int} (h:MpM w d q i g):d<w.heap.size:=by
 obtain⟨D,⟨k,c,j,_⟩,_⟩:=h;exact(Array.getElem?_eq_some_iff.1 j).1
theorem MpM.look {w:World} {u q:Nat} {j i:Nat->Int} (h:MpM w u q j i) {s:Int} (z:0<=s) (A:s<=500) :
  (Instr.lookup 91 (.map (some u)) (.int .i64 s) true).run prog w=.ok (.tuple #[.int .i64 ((mpO j i q s).getD 0),.bool (mpO j i q s).isSome]) w:=by
 obtain⟨D,⟨C,o,hb,F,E,rfl⟩,_,m⟩:=h
 rcases Maps.fit_look true u2v underlying91 (u4s w) hb F (keyM z A) with ⟨d,_,g⟩|⟨G,y,_,_,d,k,g,_⟩
 ·have l:mpO j i q s=none:=by
   cases e:mpO j i q s with
   | none=>rfl
   | some t =>
    have a:=(g (.lit (.int .i64 (t+1)))).symm.trans (m s (t+1));rw[e] at a;simp only[Option.getD_some,DataW.lit.injEq,Lit.int.injEq,true_and] at a;omega
  rw[d,l];rfl
 obtain⟨c,B,p,_⟩:=plainElem_int_inv underlying3 k;have l:mpO j i q s=some c:=by
  cases e:mpO j i q s with
  | none =>
   have a:=(g (.lit (.int .i64 (c+1)))).symm.trans (m s (c+1));rw[e,p] at a;simp only[Option.getD_none,DataW.lit.injEq,Lit.int.injEq,true_and] at a;omega
  | some t =>
   have a:=(g (.lit (.int .i64 0))).symm.trans (m s 0);rw[e,p] at a;simp only[Option.getD_some,DataW.lit.injEq,Lit.int.injEq,true_and] at a;rw[a]
 rw[d,l,B];rfl
theorem MpM.put {i:World} {j q:Nat} {c d:Nat->Int} {D:DataW Unit} (k:Maps.IsMap D) (m:∀ s z:Int,D.atKey (.int .i64 s) (.lit (.int .i64 z))=.lit (.int .i64 ((mpO c d q s).getD z))) (g:mpO c d q (c q)=none)
  (l:i.ownsMap prog 3 (plainElem prog 3) j (q+1) (D.put (.int .i64 (c q)) (.lit (.int .i64 (d q))))):MpM i j (q+1) c d:=by
 refine⟨_,l,k.put _ _,fun s z=>?_⟩;by_cases e:s=c q
 ·subst e;rw[Maps.atKey_put_same k (by trivial)];show _=DataW.lit (.int .i64 ((mpO c d (q+1) (c q)).getD z));unfold mpO;rw[g];simp
 rw[Maps.atKey_put_other (fun h=>e (by simpa using h)),m s];show _=DataW.lit (.int .i64 ((mpO c d (q+1) s).getD z))
 conv=>rhs;unfold mpO
 cases o:mpO c d q s with
 | some t=>rfl
 | none=>simp[show ¬ c q=s from fun h=>e h.symm]
theorem MpM.same {i:World} {j q:Nat} {c d:Nat->Int} (h:MpM i j q c d) (g:(mpO c d q (c q)).isSome=true):MpM i j (q+1) c d:=by
 obtain⟨D,l,m,o⟩:=h;refine⟨D,l.mono (by omega),m,fun s z=>?_⟩;rw[o s z];show _=DataW.lit (.int .i64 ((mpO c d (q+1) s).getD z))
 conv=>rhs;unfold mpO
 cases k:mpO c d q s with
 | some t=>rfl
 | none =>
  have:¬ c q=s:=fun h=>by rw[h,k] at g;cases g
  simp[this]
def R1P (ob pb n:Nat) (pi po:Nat->Int) (w:World):Prop:=w.heap[ob]?=some (.cells #[.map (some pb)] 91 (0,0))/\MpM w pb n pi po
theorem R1P.kept {c d n:Nat} {i g:Nat->Int} {w j:World} {C:Nat->Prop} (h:R1P c d n i g w) (hf:Fr C w j) (k:¬ C c) (l:¬ C d):R1P c d n i g j:=⟨(hf.block c (lt_of_block h.1) k).trans h.1,h.2.kept hf l⟩
theorem v0u {j k n:Nat} {g d:Nat->Int} (w:World) (h:R1P j k n g d w) (s:Int) (m:0<=s) (l:s<=500) :
  Calls prog 70 #[.int .i64 s,.pointer (some ⟨j,0,none⟩)] w (fun r w'=>r=.returned (.int .i64 (mapF n g d s))/\w'=w):=by
 have c0:w.cell? ⟨j,0,none⟩=some (.map (some k)):=by simp[World.cell?,h.1]
 have c:=h.2.look m l;have i:mapF n g d s=(mpO g d n s).getD s:=rfl;rw[i];clear h i;cases e:mpO g d n s with
 | some t =>
  rw[e] at c;simp only[Option.getD_some,Option.isSome_some] at c ⊢;clear e
  go_enter func70,ntmps70
  go_wp2;go_ret;exact⟨rfl,rfl⟩
 | none =>
  rw[e] at c;simp only[Option.getD_none,Option.isSome_none] at c ⊢;clear e
  go_enter func70,ntmps70
  go_wp2;go_ret;exact⟨rfl,rfl⟩
def R2P (fb ob pb n:Nat) (pi po:Nat->Int) (w:World):Prop:=w.heap[fb]?=some (.cells #[.func (.func 70) #[] #[.pointer (some ⟨ob,0,none⟩)]] 93 (0,0))/\R1P ob pb n pi po w
theorem R2P.kept {c d g n:Nat} {j i:Nat->Int} {w k:World} {C:Nat->Prop} (h:R2P c d g n j i w) (hf:Fr C w k) (l:¬ C d) (m:¬ C g) (o:¬ C c):R2P c d g n j i k:=⟨(hf.block c (lt_of_block h.1) o).trans h.1,h.2.kept hf l m⟩
theorem R2P.lt {c d g n:Nat} {j i:Nat->Int} {w:World} (h:R2P c d g n j i w):c<w.heap.size/\d<w.heap.size/\g<w.heap.size:=⟨lt_of_block h.1,lt_of_block h.2.1,h.2.2.lt⟩
theorem v4m:∀ args w,(callFunc 71 args).run prog w=.ok (.enter 71 args) w:=fun args w=>by kernel_rfl
end
section
open Go CSR
def finB (k:Int) (s:ByteArray):Bool:=decide (s=⟨#[]⟩)||z0t k s
def arcB (D:MD) (i k:Nat):Bool:=(decide (0<=D.ain i k)&&decide (D.ain i k<=500))&&(decide (0<=D.aout i k)&&decide (D.aout i k<=500))&&(decide (0<=D.ato i k)&&decide (D.ato i k<(D.n:Int)))&&z0t D.kind (D.aw i k)
def vmB (D:MD):Bool:=z4e D.kind&&(decide (1<=D.n)&&decide (D.n<=3000))&&(decide (0<=D.start)&&decide (D.start<(D.n:Int)))&&z0t D.kind D.lead&&decide (z0h D D.n<=30000)&&((List.range D.n).all fun i=>finB D.kind (D.fin i)&&(List.range (D.na i)).all fun k=>arcB D i k)
theorem y3i {D:MD} (h:vmB D=true):VM D:=by
 unfold vmB at h;simp only[Bool.and_eq_true,decide_eq_true_eq,List.all_eq_true,List.mem_range] at h;obtain⟨⟨⟨⟨⟨p,z,A⟩,l,o⟩,s⟩,m⟩,j⟩:=h;refine⟨p,z,A,l,o,s,m,fun i hi=>?_,fun i k hi u=>?_⟩
 ·have:=(j i hi).1;unfold finB at this
  simpa using this
 have:=(j i hi).2 k u;unfold arcB at this;simp only[Bool.and_eq_true,decide_eq_true_eq] at this;obtain⟨⟨⟨⟨a,b⟩,c,d⟩,e,f⟩,g⟩:=this;exact⟨a,b,c,d,e,f,g⟩
instance (v:V):Decidable (fitV v):=by cases v<;>unfold fitV<;>infer_instance
def u2h {k:KK} (n p:Nat) (M:Nat->Nat->RK k):Bool:=decide (fitV (CSR.star (M p p)).1)&&(List.range n).all fun i=>decide (fitV (M i p*CSR.star (M p p)).1)&&(List.range n).all fun j =>
 decide (fitV (M i p*CSR.star (M p p)*M p j).1)&&decide (fitV (CSR.elim p M i j).1)
def u0z {k:KK} (n:Nat) (M:Nat->Nat->RK k):Bool:=((List.range n).all fun p=>u2h n p (CSR.elims M p))&&(List.range n).all fun i=>decide (fitV (CSR.elims M n i i+CSR.one).1)
theorem v5k {k:KK} {n:Nat} {M:Nat->Nat->RK k} (h:u0z n M=true):FitM n M:=by
 unfold u0z at h;simp only[Bool.and_eq_true,decide_eq_true_eq,List.all_eq_true,List.mem_range] at h;refine⟨fun p d=>?_,h.2⟩;have h:=h.1 p d;unfold u2h at h;simp only[Bool.and_eq_true,decide_eq_true_eq,List.all_eq_true,List.mem_range] at h;exact⟨h.1,fun i hi=>(h.2 i hi).1,fun i j hi c=>((h.2 i hi).2 j c).1,fun i j hi c=>((h.2 i hi).2 j c).2⟩
def selB (D:MD):Bool:=(List.range D.n).any fun q=>(List.range (D.na q)).any fun d=>silB (D.ain q d) (D.aout q d)
theorem y0r {D:MD}:NoSel D silB↔selB D=false:=by
 unfold selB NoSel;simp only[List.any_eq_false,List.mem_range,Bool.not_eq_true];exact⟨fun h q g d c=>h q d g c,fun h q d g c=>h q g d c⟩
def VOk (D:MD) (na:Nat) (x:Nat->Int) (nb:Nat) (y:Nat->Int) (s:ByteArray):Prop:=VM D/\isWord na x=true/\isWord nb y=true/\∀ st e,SilOk D silB st e->wgtG D st e na x nb y=(s,0)
def v7k (k:KK) (D:MD) (T:Nat->Nat->ByteArray):Bool:=(List.range D.n).all fun q=>(List.range D.n).all fun p=>decide (u1z k D silB q p=T q p)
def vokB (k:KK) (D:MD) (T:Nat->Nat->ByteArray) (na:Nat) (x:Nat->Int) (nb:Nat) (y:Nat->Int) (s:ByteArray):Bool :=
 (decide (k.1=D.kind)&&(isWord na x&&isWord nb y))&&(decide (D.n<=60)&&decide (serr D silB D.n=0))&&(if selB D then decide (wgtG D (some T) 0 na x nb y=(s,0)) else decide (wgtG D none 0 na x nb y=(s,0)))
theorem v7x {k:KK} {D:MD} {T:Nat->Nat->ByteArray} {na:Nat} {x:Nat->Int} {nb:Nat} {y:Nat->Int} {s:ByteArray} (l:VM D) (hf:u0z D.n (fun i j=>wval k (smat D silB i j))=true) (d:v7k k D T=true) (h:vokB k D T na x nb y s=true):VOk D na x nb y s:=by
 unfold vokB at h;simp only[Bool.and_eq_true,decide_eq_true_eq] at h;obtain⟨⟨⟨u,F,G⟩,m,z⟩,c⟩:=h;refine⟨l,F,G,fun st e o=>?_⟩
 rcases o.closed l u m z (v5k hf) (na:=na) (x:=x) (nb:=nb) (y:=y) with ⟨g,hb⟩|⟨g,hb⟩
 ·rw[y0r.1 hb] at c;rw[g];simpa using c
 have C:selB D=true:=by
  cases A:selB D
  ·exact absurd (y0r.2 A) hb
  rfl
 rw[C] at c;rw[g,x8e (S':=T) fun q p B E=>?_]
 ·simpa using c
 unfold v7k at d;simp only[List.all_eq_true,List.mem_range,decide_eq_true_eq] at d;exact d q B p E
theorem y3k {D:MD} {na:Nat} {x:Nat->Int} {nb:Nat} {y:Nat->Int} {s:ByteArray} (i:VM D) (g:selB D=false) (h:(isWord na x&&isWord nb y&&decide (wgtG D none 0 na x nb y=(s,0)))=true):VOk D na x nb y s:=by
 simp only[Bool.and_eq_true,decide_eq_true_eq] at h;obtain⟨⟨k,l⟩,j⟩:=h;refine⟨i,k,l,fun st e d=>?_⟩
 rcases d with ⟨_,rfl,rfl⟩|⟨c,_⟩|⟨c,_⟩
 ·exact j
 ·exact absurd (y0r.2 g) c
 exact absurd (y0r.2 g) c
def kTr:KK:=⟨1,.inl rfl⟩
def mD:MD:={ kind:=1,start:=0,lead:=⟨#[48]⟩,n:=2,fin:=fun i=>if i=0 then ⟨#[]⟩ else ⟨#[48]⟩,na:=fun i=>if i=0 then 2 else 0,ain:=fun _ _=>1,aout:=fun _ d=>if d=0 then 2 else 3,aw:=fun _ d=>if d=0 then ⟨#[49]⟩ else ⟨#[50]⟩,ato:=fun _ _=>1 }
def y12:Nat->Int:=fun i=>if i=0 then 1 else 2
def y21:Nat->Int:=fun i=>if i=0 then 2 else 1
def c1:Nat->Int:=fun _=>1
def c2:Nat->Int:=fun _=>2
def c3:Nat->Int:=fun _=>3
def dD:MD:=z9i 1 2 y12 1 c3 ⟨#[51]⟩
def abD:MD:=z9i 1 2 y12 2 y12 ⟨#[49]⟩
def kD:MD:=z9i 1 1 c3 1 c3 ⟨#[50]⟩
def cD:MD:=catD abD.inZ kD.outZ (z0n abD.kind abD.lead kD.lead).1
def nD:MD:=mD.ren (mapF 1 c2 c3)
theorem v6j:VM mD:=y3i (by decide +kernel)
theorem u2c:VM dD:=y3i (by decide +kernel)
theorem u4n:VM (revD dD):=y3i (by decide +kernel)
theorem v7w:VM abD:=y3i (by decide +kernel)
theorem u2j:VM kD:=y3i (by decide +kernel)
theorem u5c:VM cD:=y3i (by decide +kernel)
theorem u4w:VM nD:=y3i (by decide +kernel)
theorem u4x:VOk mD.inv 1 c2 1 c1 ⟨#[49]⟩:=y3k (y3i (by decide +kernel)) (by decide +kernel) (by decide +kernel)
theorem u5d:VOk mD.inv 1 c1 1 c2 ⟨#[105,110,102]⟩:=y3k (y3i (by decide +kernel)) (by decide +kernel) (by decide +kernel)
theorem ex_b:VOk mD.inR 1 c1 1 c1 ⟨#[49]⟩:=y3k (y3i (by decide +kernel)) (by decide +kernel) (by decide +kernel)
theorem ex_c:VOk mD.outR 1 c3 1 c3 ⟨#[50]⟩:=y3k (y3i (by decide +kernel)) (by decide +kernel) (by decide +kernel)
theorem ex_n:VOk nD 1 c1 1 c3 ⟨#[49]⟩:=y3k u4w (by decide +kernel) (by decide +kernel)
def tR (q p:Nat):ByteArray:=if q=p then ⟨#[48]⟩ else if q=3/\p=2 then ⟨#[48]⟩ else ⟨#[105,110,102]⟩
def tC (q p:Nat):ByteArray:=if q=p then ⟨#[48]⟩ else if q=4/\p=0 then ⟨#[48]⟩ else ⟨#[105,110,102]⟩
theorem ex_d:VOk (revD dD) 2 y21 1 c3 ⟨#[51]⟩:=v7x (k:=kTr) (T:=tR) u4n (by decide +kernel) (by decide +kernel) (by decide +kernel)
theorem ex_k:VOk cD 2 y12 1 c3 ⟨#[51]⟩:=v7x (k:=kTr) (T:=tC) u5c (by decide +kernel) (by decide +kernel) (by decide +kernel)
end
section
open Go.RowKit Go.Deep
theorem v8m:∀ args w,(callFunc 126 args).run prog w=.ok (.enter 126 args) w:=fun args w=>by kernel_rfl
theorem v5t (w:World) (s:Int):Calls prog 127 #[.int .i64 s] w (fun r w'=>r=.returned (.bool (!offI 500 s))/\w'=w):=by
 by_cases g:1<=s
 ·go_enter func127,ntmps127
  go_wp2;go_ret;exact⟨z0v (by
   unfold offI;rw[show decide (s<1)=false by simp;omega];by_cases c:s<=500
   ·simp[c]
   simp[c];omega),rfl⟩
 have d:decide (1<=s)=false:=by simp;omega
 go_enter func127,ntmps127
 go_wp2;go_ret;exact⟨z0v (by unfold offI;rw[show decide (s<1)=true by simp;omega];rfl),rfl⟩
theorem x5v (w:World) (s:Int):Calls prog 126 #[.int .i64 s] w (fun r w'=>r=.returned (.bool (offI 500 s))/\w'=w):=by
 have c:=qh (v5t w s)
 go_enter func126,ntmps126
 go_wp2_with fail
 refine c.out.mono ?_;rintro r d ⟨rfl,rfl⟩;go_wp2;go_ret;exact⟨z0v (by simp),rfl⟩
theorem y9d {n:Nat} {v:Value} {x:Nat->Int} (w:World) (d:Si none w v n x) (hn:(n:Int)<=9223372036854775807) :
  Calls prog 89 #[v] w (fun r w'=>r=.returned (.bool (isWord n x))/\w'=w):=by
 have c:=y1s w d hn (show TstF 126 #[] (offI 500) w from ⟨v8m,fun s=>by
  rw[show ∀ a:Value,(#[a]++#[]:Array Value)=#[a] from fun _=>rfl];exact x5v w s⟩)
 obtain⟨a,g,rfl⟩:=d.shape;have i:=qh c;clear c d;by_cases h:(n:Int)<=200
 ·go_enter func89,ntmps89
  go_wp2_with fail
  refine i.out.mono ?_;rintro r j ⟨rfl,rfl⟩;go_wp2;go_ret;exact⟨z0v (by unfold isWord y5e;rw[show decide (n<=200)=true by simp;omega];simp),rfl⟩
 have k:decide ((n:Int)<=200)=false:=by simp;omega
 go_enter func89,ntmps89
 go_wp2;go_ret;exact⟨z0v (by unfold isWord;rw[show decide (n<=200)=false by simp;omega];rfl),rfl⟩
theorem v1n {n i:Nat} {v:Value} {x:Nat->Int} (w:World) (g:Si none w v n x):Calls prog 93 #[v,.int .i64 (i:Int)] w (fun r w'=>r=.returned (.int .i64 (atW n x i))/\w'=w):=by
 obtain⟨a,l,b,o,rfl,j,u,s,hb,c⟩:=g.open;unfold maxLen at s;by_cases h:i<n
 ·have m:(i:Int)<(n:Int):=by omega
  have p:(0:Int)<=(i:Int):=by omega
  obtain rfl:=j (by omega);have c0:=c i h;have e:atW n x i=x i:=if_pos h;rw[e];obtain⟨k,d⟩:=exq (x i);rw[<- d] at c0;rw[<- d];clear c g hb j e d
  go_enter func93,ntmps93
  go_wp2;go_ret;exact⟨rfl,rfl⟩
 have m:¬ ((i:Int)<(n:Int)):=by omega
 have e:atW n x i=0:=if_neg h;rw[e];clear c g hb j e
 go_enter func93,ntmps93
 go_wp2;go_ret;exact⟨rfl,rfl⟩
theorem z5i (kind:Int) (na:Nat) (x:Nat->Int) (nb:Nat) (y:Nat->Int) (v:ByteArray):∀ i,(z4a kind na x nb y v i).n=i+1
 | 0=>rfl
 | i+1=>by
  show (z4a kind na x nb y v i).n+1=_;rw[z5i kind na x nb y v i]
theorem x4s (kind:Int) (na:Nat) (x:Nat->Int) (nb:Nat) (y:Nat->Int) (v:ByteArray):∀ i p,(z4a kind na x nb y v i).na p<=i
 | 0,p=>by show (if p=0 then 0 else 0)<=0;split<;>omega
 | i+1,p=>by
  have h1:=x4s kind na x nb y v i;show (if p=i then (if i=(z4a kind na x nb y v i).n then 0 else (z4a kind na x nb y v i).na i)+1 else (if p=(z4a kind na x nb y v i).n then 0 else (z4a kind na x nb y v i).na p))<=i+1
  have h2:=h1 i;have h3:=h1 p
  split<;>split<;>omega
theorem y7n (kind:Int) (na:Nat) (x:Nat->Int) (nb:Nat) (y:Nat->Int) (v:ByteArray):∀ i,(z4a kind na x nb y v i).kind=kind/\(z4a kind na x nb y v i).start=0/\(z4a kind na x nb y v i).lead=v
 | 0=>⟨rfl,rfl,rfl⟩
 | i+1=>y7n kind na x nb y v i
def u5e (kind:Int) (na:Nat) (x:Nat->Int) (nb:Nat) (y:Nat->Int) (v:ByteArray):Prop:=isWord na x=true/\isWord nb y=true/\z0t kind v=true
theorem Bld.c4 {w:World} {B db:Nat} {D:MD} {R:Nat->Value} {sv:Value} {one:ByteArray} {ac fl:Int} (h:Bld w B db D R sv one ac fl):w.cell? ⟨db,4,none⟩=some (.string one):=BlkB.c4 h.blk
theorem BlS.one {F:Nat->Prop} {B db:Nat} {D:MD} {one:ByteArray} {ac fl:Int} {w:World} (h:BlS F B db D one ac fl w):w.cell? ⟨db,4,none⟩=some (.string one):=by
 obtain⟨R,sv,c,d⟩:=h;exact c.c4
theorem y3a {kind:Int} {xv yv:Value} {na nb:Nat} {x y:Nat->Int} {v:ByteArray} (w:World) (hx:Si none w xv na x) (hy:Si none w yv nb y) (j2:(na:Int)<=9223372036854775807) (i4:(nb:Int)<=9223372036854775807) (hv:smS v) (ht:Tab w) (I:u5e kind na x nb y v) :
  Calls prog 40 #[.int .i64 kind,xv,yv,.string v] w (fun r w'=>Below w.heap.size w w'/\∃ sv R,r=.returned (.tuple #[.agg #[.int .i64 kind,.int .i64 0,.string v,sv],.int .i64 0])/\OwM w' w.heap.size sv (z9i kind na x nb y v) R):=by
 obtain⟨ax,cx,rfl⟩:=hx.shape;obtain⟨ay,cy,rfl⟩:=hy.shape;obtain⟨U,S,g7⟩:=I;have k4:na<=200:=by unfold isWord at U;simp at U;exact U.1
 have k0:nb<=200:=by unfold isWord at S;simp at S;exact S.1
 obtain⟨w1,a2⟩:=exq (w.alloc (.cells #[.int .i64 0,.int .i64 0,.string ⟨#[]⟩,.slice none 0 0] 24));obtain⟨rb,c7⟩:=exq (w.heap.size);have H:Below w.heap.size w w1:=by rw[a2];exact(Below.refl _ w).alloc nlr _
 have f7:w1.heap[rb]?=some (.cells #[.int .i64 0,.int .i64 0,.string ⟨#[]⟩,.slice none 0 0] 24 (0,0)):=by rw[a2,c7];exact heap_alloc_new w _
 have j6:w.heap.size<=rb:=by omega
 have c8:∀ W,Below w.heap.size w W->Si none W (.slice ax na cx) na x:=fun W h=>hx.kept (z0b h none);have d0:∀ W,Below w.heap.size w W->Si none W (.slice ay nb cy) nb y:=fun W h=>hy.kept (z0b h none);have e8:=qh (y9d w1 (c8 w1 H) j2);have f4:=qh (y9d w1 (d0 w1 H) i4);have d1:=z3a kind v w1 hv (ht.below H nlr);rw[g7] at d1;rw[U] at e8;rw[S] at f4;have g3:=qh d1;clear d1 U S g7 ht;have j0:=qh c8;clear c8 hx;have i9:=qh d0;clear d0 hy;have d6:=qh H;clear H;have d8:=qh f7;clear f7
 go_enter func40,ntmps40
 go_wp2_with fail
 rw[<- a2,<- c7];clear a2 c7;refine e8.out.mono ?_;rintro r l1 ⟨rfl,rfl⟩
 go_wp2_with fail
 refine f4.out.mono ?_;rintro r k3 ⟨rfl,rfl⟩
 go_wp2_with fail
 refine g3.out.mono ?_;rintro r w2 ⟨rfl,e2⟩;have b6:=d6.out.trans (e2.mono d6.out.size);have g2:=(e2.block _ (lt_of_block d8.out)).trans d8.out;have b7:=qh (y5q kind w2);have e6:=qh b6;clear b6 e2 d6 e8 f4 g3;have g5:=qh g2;clear g2 d8
 go_wp2_with fail
 refine b7.out.mono ?_;rintro r w3 ⟨F,rfl,e1,Y,h4⟩;obtain⟨B,s⟩:=exq (w2.heap.size);rw[<- s] at e1 Y h4;have e3:w.heap.size<=B:=by rw[s];exact e6.out.size
 have i5:B<=w3.heap.size:=by rw[s];rw[s] at Y;exact Y.size
 have L:=e1.old i5;obtain⟨⟨v1,j9⟩,i3,g4⟩:=L.cells;have i7:=g4 2;clear g4 j9;obtain⟨w4,a4⟩:=exq (w3.setCell ⟨F,2,none⟩ (.string v));have b8:BlS (fun b=>b<B) B F (z1p kind 0 v) (oneF kind) 0 0 w4:=by rw[a4];exact L.lead v
 have D:Below B w2 w4:=by rw[a4];exact Y.setCell (p:=⟨F,2,none⟩) h4 _
 have j3:B<=w4.heap.size:=by rw[s];rw[s] at D;exact D.size
 have X:=qh (x1k ⟨#[]⟩ w4 b8 j3 (by show 0<=100000;omega));have a8:=qh D;clear D Y e1 L b8 b7;have o:=qh s;clear s
 go_wp2_with fail
 rw[<- a4];clear a4 i3 i7;refine X.out.mono ?_;rintro r w5 ⟨rfl,a1⟩;have h0:(z1p kind 0 v).state ⟨#[]⟩=z4a kind na x nb y v 0:=rfl;rw[h0] at a1;have b5:BlN (fun b=>b<B) B F (z4a kind na x nb y v 0) (oneF kind) ((0:Nat):Int) 0 w5 w5:=BlN.refl a1.1;have a7:=a8.out.trans a1.2.2;have b1:=qh b5;clear b5 a1 h0 X;have N:=qh a7;clear a7 a8;obtain⟨m,hm⟩:=exq (max na nb);have k6:m<=200:=by omega
 have g6:max (na:Int) (nb:Int)=(m:Int):=by omega
 have HM:=qh hm;clear hm
 go_wp2_with fail
 clear g6
 go_loopw [11,43] (fun j7 e9 wr=>∃ i:Nat,i<=m/\j7=.int .i64 (i:Int)/\e9=.int .i64 (i:Int)/\BlN (fun b=>b<B) B F (z4a kind na x nb y v i) (oneF kind) (i:Int) 0 w5 wr) (fun _ e9 _=>m-(intOf e9).toNat)
 case atStart=>exact⟨0,Nat.zero_le _,rfl,rfl,b1.out⟩
 obtain⟨i,hi,rfl,rfl,h8⟩:=hrel;clear b1;have E:=qh h8;clear h8;have T:=N.out.trans E.out.2.2;have f8:B<=wr.heap.size:=by rw[o.out];rw[o.out] at T;exact T.size
 have l2:B<=w5.heap.size:=by have h:=N.out;rw[o.out];rw[o.out] at h;exact h.size
 by_cases k9:i<m
 ·have l0:(i:Int)<(m:Int):=by omega
  have b9:=x1k ⟨#[]⟩ wr E.out.1 f8 (by rw[z5i];omega);rw[z5i] at b9;have X:=qh b9;clear b9 T
  go_wp2_with fail
  refine X.out.mono ?_;rintro r w6 ⟨rfl,h3⟩;obtain⟨l,A⟩:=exq (w6.drew);have Z:Fr (fun _=>False) w6 l:=by rw[A];exact(Fr.refl _ _).drew
  have d:Below w6.heap.size w6 l:=Z.below nlr (fun _ e=>e.elim);have z:BlN (fun b=>b<B) B F ((z4a kind na x nb y v i).state ⟨#[]⟩) (oneF kind) (i:Int) 0 w5 l:=by
   have h1:=E.out.trans h3;exact⟨h1.1.kept d,fun b hb=>(d.block b (h1.1.lt.2.2 b hb)).trans (h1.2.1 b hb),h1.2.2.trans (d.mono (by have:=h1.2.2.size;omega))⟩
  have j:Below B w2 l:=N.out.trans z.2.2;have Q:Below w.heap.size w l:=e6.out.trans (j.mono e3);have c4:=z.1.one;have j1:B<=l.heap.size:=by rw[o.out];rw[o.out] at j;exact j.size
  have d7:=qh (v1n (i:=i) l (j0.out l Q));have d9:=qh (v1n (i:=i) l (i9.out l Q));have e0:((z4a kind na x nb y v i).state ⟨#[]⟩).n=i+2:=by show (z4a kind na x nb y v i).n+1=_;rw[z5i]
  have b0:((z4a kind na x nb y v i).state ⟨#[]⟩).na i<=100000:=by
   show (if i=(z4a kind na x nb y v i).n then 0 else (z4a kind na x nb y v i).na i)<=100000
   have:=x4s kind na x nb y v i i
   split<;>omega
  have u:=u0w (q:=i) (atW na x i) (atW nb y i) ((i+1:Nat):Int) (oneF kind) l z.1 (by omega) (by omega) j1 (by rw[e0];omega) (by rw[e0];omega) b0;rw[show ((z4a kind na x nb y v i).state ⟨#[]⟩).arc i (atW na x i) (atW nb y i) (oneF kind) ((i+1:Nat):Int)=z4a kind na x nb y v (i+1) from rfl,show (i:Int)+1=((i+1:Nat):Int) by omega] at u;obtain⟨on,C⟩:=exq (oneF kind);rw[<- C] at c4 u;obtain⟨xi,d2⟩:=exq (atW na x i);obtain⟨yi,e4⟩:=exq (atW nb y i);rw[<- d2,<- e4] at u;rw[<- d2] at d7;rw[<- e4] at d9;have h9:=qh C;clear C;clear d2 e4;have a9:=qh u;clear u;have f5:=qh z;clear z h3 X E Z d e0 b0 j Q
  go_wp2_with fail
  refine z0g (fun wk=>wk.cell? ⟨F,4,none⟩=some (.string on)) 14 (by kernel_rfl) ?_;rw[<- A];clear A;refine z0c.tm 0 c4 ?_;refine z0c.tm 1 c4 ?_;refine z0c.tm 2 c4 ?_;refine z0c.tm 3 c4 ?_;refine z0c.tm 5 c4 ?_;refine z0c.tm 6 c4 ?_;refine z0c.tm 8 c4 ?_;refine z0c.tm 9 c4 ?_;refine z0c.tm 10 c4 ?_;refine z0c.tm 11 c4 ?_;refine z0c.tm 12 c4 ?_
  try simp only[Act.put,tryL]
  refine z0c.on 4 fun K O=>?_;go_simp;refine d7.out.mono ?_;rintro r k7 ⟨rfl,rfl⟩;refine O.out _ _ (.inr c4) ?_;clear O K
  try simp only[Act.put,tryL]
  refine z0c.on 7 fun K O=>?_;go_simp;refine d9.out.mono ?_;rintro r k1 ⟨rfl,rfl⟩;refine O.out _ _ (.inr c4) ?_;clear O K
  try simp only[Act.put,tryL]
  refine z0c.tm 13 c4 ?_
  try simp only[Act.put,tryL]
  refine z0c.on 14 fun K O=>?_;go_simp;refine a9.out.mono ?_;rintro r w7 ⟨rfl,d5⟩;refine O.out _ _ (.inl rfl) (z0c.dn ?_);clear O K c4;rw[h9.out] at d5;have j5:=qh (f5.out.trans d5);clear d5 a9 f5 d7 d9;go_wp2;go_roundw
  case rel=>exact⟨i+1,by omega,by go_num,by go_num,j5.out⟩
  simp[intOf];omega
 have i2:m=i:=by omega
 subst i2;have k5:¬ ((m:Int)<(m:Int)):=by omega
 obtain⟨l,A⟩:=exq (wr.drew);have Z:Fr (fun _=>False) wr l:=by rw[A];exact(Fr.refl _ _).drew
 have d:Below wr.heap.size wr l:=Z.below nlr (fun _ e=>e.elim);have g9:=E.out.1.kept d;have j:Below B w2 l:=T.trans (d.mono f8);obtain⟨R,sv,k,a3⟩:=g9;obtain⟨g,cp,rfl,i8,l4,_,_⟩:=z7p k.own.top (by rw[z5i];omega);have d3:=BlkB.c3 k.blk;have d4:=BlkB.c4 k.blk;have g0:=k.own.fin_cell (i:=m) (by rw[z5i];omega);have fg:=z6a k.own.top (m*2);have g8:=k.own.setFin (q:=m) (by rw[z5i];omega) (oneF kind);rw[z5i] at d3;have j8:F≠g:=fun e=>z2k k.own.top k.blk (by decide) (by rw[e];rfl);obtain⟨w8,G⟩:=exq (l.setCell ⟨g,m*2,none⟩ (.string (oneF kind)));have a6:BlS (fun b=>b<B) B F (z9i kind na x nb y v) (oneF kind) (m:Int) 0 w8:=by
  have e:z9i kind na x nb y v=(z4a kind na x nb y v m).setFin m (oneF kind):=by unfold z9i;rw[<- HM.out]
  rw[e,G];refine⟨R,_,⟨by rw[z0e j8];exact k.blk,g8,k.low⟩,fun b hb=>⟨(a3 b hb).1,by rw[nblk_setCell];exact(a3 b hb).2.1,(a3 b hb).2.2⟩⟩
 have b3:Below B w2 w8:=by rw[G];exact j.setCell (p:=⟨g,m*2,none⟩) i8 _
 have c:l.cell? ⟨F,3,none⟩=some (.slice (some ⟨g,0,none⟩) (m+1) cp)/\l.cell? ⟨F,4,none⟩=some (.string (oneF kind)):=⟨d3,d4⟩;have a5:(z9i kind na x nb y v).n=m+1:=by unfold z9i;rw[<- HM.out];exact z5i kind na x nb y v m
 have h6:(z9i kind na x nb y v).kind=kind/\(z9i kind na x nb y v).start=0/\(z9i kind na x nb y v).lead=v:=by unfold z9i;exact y7n kind na x nb y v _
 have c9:=v7p w8 a6 (by rw[a5];omega) (by omega) (by omega);rw[a5] at c9;have f9:=qh c9;clear c9 a6;have g6:(m:Int)<(m:Int)+1:=by omega
 have k2:(0:Int)<=(m:Int):=by omega
 obtain⟨on,C⟩:=exq (oneF kind);rw[<- C] at c G;have h9:=qh C;clear C;have b4:=qh b3;clear b3 j T;have e5:=qh h6;clear h6;have i6:=qh a5;clear a5;clear d3 d4 k a3 g8 E Z d
 go_wp2_with fail
 refine z0g (fun wk=>wk.cell? ⟨F,3,none⟩=some (.slice (some ⟨g,0,none⟩) (m+1) cp)/\wk.cell? ⟨F,4,none⟩=some (.string on)) 12 (by kernel_rfl) ?_;rw[<- A];clear A;refine z0c.tm 0 c ?_;refine z0c.tm 1 c ?_;refine z0c.tm 2 c ?_;refine z0c.tm 3 c ?_;refine z0c.tm 4 c ?_;refine z0c.tm 5 c ?_;refine z0c.tm 6 c ?_;refine z0c.tm 7 c ?_;refine z0c.tm 8 c ?_;refine z0c.tm 9 c ?_;refine z0c.tm 10 c ?_;refine z0c.tm 11 c ?_
 try simp only[Act.put,tryL]
 refine z0c.on 12 fun K O=>?_;go_simp;refine O.out _ _ (.inl rfl) (z0c.dn ?_);clear O K c g0 fg;rw[<- G];clear G
 go_wp2_with fail
 refine f9.out.mono ?_;rintro r w9 ⟨g1,hr⟩;have J:Below B w2 w9:=b4.out.trans (g1.mono (by have h:=b4.out;rw[o.out];rw[o.out] at h;exact h.size));have h2:=(J.block _ (by rw[o.out];exact lt_of_block g5.out)).trans g5.out;have b2:=e6.out.trans (J.mono e3);clear g1 J f9;have j4:=qh b2;clear b2;have e7:=qh h2;clear h2;obtain⟨⟨r0,r1,r2,r3⟩,rz⟩:=cells4 e7.out;have f0:=rz 0;have f1:=rz 1;have f2:=rz 2;have f3:=rz 3;clear rz
 rcases hr with ⟨I,l3,R',rfl,P⟩|⟨I,rfl⟩
 rotate_left
 ·exact absurd (show dnOk 0 (m+1) (m:Int) from ⟨rfl,by omega,by omega⟩) I
 rw[e5.out.1,e5.out.2.1,e5.out.2.2];obtain⟨sa,sc,h7,_,_⟩:=z1e P.top;rw[i6.out] at h7;subst h7;have h5:=qh (z4c (P.box4 e7.out (.int .i64 kind) (.int .i64 0) (.string v) (.slice sa (m+1) sc)) e3);clear P I
 go_wp2_with fail
 exact bodyPost_ret (z0j rfl _ (b:=rb) rfl rfl (z0w w9 rb _ _ _ _ e7.out)) rfl ⟨z0d j4.out j6 _ _ _ _,_,R',rfl,h5.out⟩
end
section
open Go.RowKit Go.Deep
def allocs (w:World) (l:List Obj):World:=l.foldl World.alloc w
theorem y1t:∀ (l:List Obj) (w a:World) (B:Nat),Below B a w->B<=w.heap.size->Below B a (allocs w l)
 | [],_,_,_,h,_=>h
 | o::l,w,a,B,h,hB=>y1t l (w.alloc o) a B (h.alloc hB o) (by simp;omega)
theorem y5n:∀ (l:List Obj) (w:World) {q:Nat},q<w.heap.size->(allocs w l).heap[q]?=w.heap[q]?
 | [],_,_,_=>rfl
 | o::l,w,q,h=>(y5n l (w.alloc o) (by simp;omega)).trans (blk_alloc_lt _ _ _ h)
theorem z8m:∀ (l:List Obj) (w:World) {i:Nat} {o:Obj},l[i]?=some o->(allocs w l).heap[w.heap.size+i]?=some o
 | [],_,_,_,h=>by simp at h
 | o'::l,w,0,o,h=>by
  simp at h;subst h;exact(y5n l (w.alloc o') (by simp)).trans (heap_alloc_new w o')
 | o'::l,w,i+1,o,h=>by
  have:=z8m l (w.alloc o') (i:=i) (o:=o) (by simpa using h);rw[show (w.alloc o').heap.size+i=w.heap.size+(i+1) by simp;omega] at this;exact this
theorem z7g {w:World} {b n:Nat} {c:Array Value} {t:TypeId} {f:Nat × Nat} {x:Nat->Int} (h:w.heap[b]?=some (.cells c t f)) (hn:n<=maxLen) (d:∀ i,i<n->c[i]?=some (.int .i64 (x i))):Si none w (.slice (some ⟨b,0,none⟩) n n) n x :=
 .inr ⟨b,0,n,rfl,⟨lt_of_block h,by simp⟩,nlr,hn,fun i hi=>by rw[Nat.zero_add];exact cellOf h i (d i hi)⟩
theorem lt1 {p:Nat->Prop} (h:p 0):∀ i,i<1->p i:=fun i hi=>by
 have:i=0:=by omega
 subst this;exact h
theorem lt2 {p:Nat->Prop} (h:p 0) (c:p 1):∀ i,i<2->p i:=fun i hi=>by
 have:i=0\/i=1:=by omega
 rcases this with rfl|rfl<;>assumption
theorem y3m:1<=maxLen:=by unfold maxLen;omega
theorem y3t:2<=maxLen:=by unfold maxLen;omega
theorem v9i {w:World} {b:Nat} {c:Array Value} {t:TypeId} {f:Nat × Nat} {D:MD} {i:Nat} (h:w.heap[b]?=some (.cells c t f)) (hn:D.na i<=maxLen)
  (d:∀ k,k<D.na i->c[k*4]?=some (.int .i64 (D.ain i k))/\c[k*4+1]?=some (.int .i64 (D.aout i k))/\c[k*4+2]?=some (.string (D.aw i k))/\c[k*4+3]?=some (.int .i64 (D.ato i k))):ArS none w (.slice (some ⟨b,0,none⟩) (D.na i) (D.na i)) D i :=
 .inr ⟨b,0,D.na i,rfl,⟨lt_of_block h,by simp⟩,nlr,hn,fun k g=>by
  obtain⟨c1,c2,c3,c4⟩:=d k g;rw[Nat.zero_add];exact⟨cellOf h _ c1,cellOf h _ c2,cellOf h _ c3,cellOf h _ c4⟩⟩
theorem u1g (w:World) {D:MD} {i:Nat} (h:D.na i=0):ArS none w (.slice none 0 0) D i:=.inl ⟨h,none,0,rfl,Nat.zero_le _⟩
theorem u1i {w:World} {b:Nat} {c:Array Value} {t:TypeId} {f:Nat × Nat} {D:MD} {A:Nat->Value} (h:w.heap[b]?=some (.cells c t f)) (hn:D.n<=maxLen)
  (d:∀ i,i<D.n->c[i*2]?=some (.string (D.fin i))/\c[i*2+1]?=some (A i)/\ArS none w (A i) D i):StS none w (.slice (some ⟨b,0,none⟩) D.n D.n) D :=
 .inr ⟨b,0,D.n,A,rfl,⟨lt_of_block h,by simp⟩,nlr,hn,fun i hi=>by
  obtain⟨c1,c2,c3⟩:=d i hi;rw[Nat.zero_add];exact⟨cellOf h _ c1,cellOf h _ c2,c3⟩⟩
theorem v9r {w:World} {b n:Nat} {c:Array Value} {t:TypeId} {f:Nat × Nat} {x y:Nat->Int} (h:w.heap[b]?=some (.cells c t f)) (hn:n<=maxLen) (d:∀ i,i<n->c[i*2]?=some (.int .i64 (x i))/\c[i*2+1]?=some (.int .i64 (y i))):PrS none w (.slice (some ⟨b,0,none⟩) n n) n x y :=
 .inr ⟨b,0,n,rfl,⟨lt_of_block h,by simp⟩,nlr,hn,fun i hi=>by
  rw[Nat.zero_add];exact⟨cellOf h _ (d i hi).1,cellOf h _ (d i hi).2⟩⟩
theorem y7p:MSz mD:=⟨by decide,fun i=>by show (if i=0 then (⟨#[]⟩:ByteArray) else ⟨#[48]⟩).size<=_;split<;>decide,fun i d=>by show (if d=0 then (⟨#[49]⟩:ByteArray) else ⟨#[50]⟩).size<=_;split<;>decide,fun i=>by show (if i=0 then 2 else 0)<=_;split<;>omega,by decide,by decide⟩
theorem x4g {kind:Int} {na:Nat} {x:Nat->Int} {nb:Nat} {y:Nat->Int} {v:ByteArray} (hk:z4e kind=true) (hx:∀ i,0<=atW na x i/\atW na x i<=500) (hy:∀ i,0<=atW nb y i/\atW nb y i<=500) {N:Nat}:∀ i,i<N->BOk (z4a kind na x nb y v i) N i
 | 0,_=>(BOk.empty kind 0 v N).state (.inl rfl) (Nat.zero_le _)
 | i+1,hi=>by
  have ih:=x4g (v:=v) hk hx hy i (N:=N) (by omega);have hkk:((z4a kind na x nb y v i).state ⟨#[]⟩).kind=kind:=(y7n kind na x nb y v i).1;exact(ih.state (s:=⟨#[]⟩) (.inl rfl) (Nat.zero_le _)).put (hx i) (hy i) (by constructor<;>omega) (by rw[hkk];exact z9d hk) (y8s hk)
theorem y7x {kind:Int} {na:Nat} {x:Nat->Int} {nb:Nat} {y:Nat->Int} {v:ByteArray} (c:z4e kind=true) (g:∀ i,0<=atW na x i/\atW na x i<=500) (k:∀ i,0<=atW nb y i/\atW nb y i<=500) (l:smS v) (hn:max na nb<=1000):MSz (z9i kind na x nb y v):=by
 have d:=(y7n kind na x nb y v (max na nb));have h:=(x4g (v:=v) c g k (N:=max na nb+1) (max na nb) (by omega)).setFin (q:=max na nb) (s:=oneF kind) (.inr (by rw[d.1];exact z9d c)) (y8s c);have j:(z9i kind na x nb y v).n=max na nb+1:=z5i kind na x nb y v _;exact h.msz (by show z4e (z4a kind na x nb y v (max na nb)).kind=true;rw[d.1];exact c) (by show (z4a kind na x nb y v (max na nb)).n<=_;rw[z5i];omega) (by show smS (z4a kind na x nb y v (max na nb)).lead;rw[d.2.2];exact l) (by omega)
theorem y5m {n:Nat} {x:Nat->Int} (h:∀ i,0<=x i/\x i<=500) (i:Nat):0<=atW n x i/\atW n x i<=500:=by unfold atW;split;exact h i;omega
theorem v0h (i:Nat):0<=y12 i/\y12 i<=500:=by unfold y12;split<;>omega
theorem u3q:MSz dD:=y7x (by decide) (y5m v0h) (y5m fun _=>by unfold c3;omega) (by unfold smS;decide) (by decide)
theorem v7q:MSz abD:=y7x (by decide) (y5m v0h) (y5m v0h) (by unfold smS;decide) (by decide)
theorem u2f:MSz kD:=y7x (by decide) (y5m fun _=>by unfold c3;omega) (y5m fun _=>by unfold c3;omega) (by unfold smS;decide) (by decide)
theorem u5a:MSz (revD dD):=x9k u2c u3q
theorem u1j {D E:MD} (c:VM D) (h:MSz D) (g:VM E) (d:MSz E) (j:E.kind=D.kind) {lead:ByteArray} (m:smS lead):MSz (catD D E lead):=by
 obtain⟨k,l,o,i⟩:=v1y c h g d j lead;have:=c.n2;have:=g.n2;have:=c.arcs;have:=g.arcs;exact k.msz (by rw[o];exact c.kind) (by rw[l];omega) (by rw[i];exact m) (by omega)
theorem u4v:MSz cD:=u1j v7w.inZ { v7q with } (VM.outZ u2j) { u2f with } (by decide +kernel) (by unfold smS;decide +kernel)
def TrueB (w:World) (r:Ending) (w':World):Prop:=r=.returned (.bool true)/\Below w.heap.size w w'
def NewD (D:MD) (w:World) (r:Ending) (w':World):Prop:=Below w.heap.size w w'/\∃ sv,r=.returned (.agg #[.int .i64 D.kind,.int .i64 D.start,.string D.lead,sv])/\StS none w' sv D
theorem v3k (w:World):Calls prog 39 #[] w (NewD mD w):=by
 go_enter func39,ntmps39
 go_wp2_with fail
 obtain⟨l,c⟩:∃ l,l=[Obj.cells #[.int .i64 1,.int .i64 0,.string ⟨#[48]⟩,.slice (some ⟨w.heap.size+2,0,none⟩) 2 2] 24,.cells #[.int .i64 1,.int .i64 2,.string ⟨#[49]⟩,.int .i64 1,.int .i64 1,.int .i64 3,.string ⟨#[50]⟩,.int .i64 1] 59,
  .cells #[.string ⟨#[]⟩,.slice (some ⟨w.heap.size+1,0,none⟩) 2 2,.string ⟨#[48]⟩,.slice none 0 0] 57]:=⟨_,rfl⟩
 have g:(allocs w l).heap[w.heap.size+0]?=_:=z8m l w (i:=0) (by rw[c];rfl);have j:(allocs w l).heap[w.heap.size+1]?=_:=z8m l w (i:=1) (by rw[c];rfl);have k:(allocs w l).heap[w.heap.size+2]?=_:=z8m l w (i:=2) (by rw[c];rfl);have d:=y1t l w w w.heap.size blr nlr;subst c;refine bodyPost_ret (x6z rfl _ (b:=w.heap.size) rfl g) rfl ⟨d,_,rfl,?_⟩;refine u1i (D:=mD) (A:=fun i=>if i=0 then .slice (some ⟨w.heap.size+1,0,none⟩) 2 2 else .slice none 0 0) k y3t (fun i hi=>?_)
 have h:i=0\/i=1:=by have:i<2:=hi;omega
 rcases h with rfl|rfl
 ·exact⟨rfl,rfl,v9i (D:=mD) (i:=0) j y3t (lt2 ⟨rfl,rfl,rfl,rfl⟩ ⟨rfl,rfl,rfl,rfl⟩)⟩
 exact⟨rfl,rfl,u1g _ rfl⟩
theorem z5r {D:MD} {mv J K:Value} {na nb:Nat} {x y:Nat->Int} {s:ByteArray} (w:World) (P:Ma none w mv D) (H:MSz D) (I:Tab w) (E:Si none w J na x) (F:Si none w K nb y) (B:na<=100) (C:nb<=100) (l:VOk D na x nb y s) :
  Calls prog 41 #[mv,J,K] w (fun r w'=>r=.returned (.string s)/\Below w.heap.size w w'):=by
 obtain⟨sv,rfl,z⟩:=P;obtain⟨a,j,_,_,_,_,_,_,u,_⟩:=z.open;obtain⟨T,S,rfl⟩:=E.shape;obtain⟨U,R,rfl⟩:=F.shape;subst u;obtain⟨h,d⟩:=exq (w.alloc (.cells #[.int .i64 D.kind,.int .i64 D.start,.string D.lead,.slice a D.n j] 24));have m:Fr (fun _=>False) w h:=by rw[d];exact Fr.alloc _ _
 have c:Below w.heap.size w h:=m.below nlr (fun _ e=>e.elim);have N:=qh (x2e h (⟨_,rfl,z.kept (z0b c none)⟩:Ma none h (.agg #[.int .i64 D.kind,.int .i64 D.start,.string D.lead,.slice a D.n j]) D) H (I.below c nlr) (E.kept (z0b c none)) (F.kept (z0b c none)) (by omega) (by omega));have p:h.heap[w.heap.size]?=some (.cells #[.int .i64 D.kind,.int .i64 D.start,.string D.lead,.slice a D.n j] 24 (0,0)):=by rw[d];exact heap_alloc_new w _
 obtain⟨⟨m0,m1,L,O⟩,_⟩:=cells4 p;have i:=qh c;clear c m E F z I H p B C;have g:=qh l;clear l;rw[d] at m0 m1 L O
 go_enter func41,ntmps41
 go_wp2_with fail
 rw[<- d];clear d m0 m1 L O;refine N.out.mono ?_;rintro r W ⟨o,Q⟩;have G:=qh (i.out.trans (o.mono i.out.size));clear o i N
 rcases Q with ⟨_,_,_,st,e,k,rfl⟩|⟨A,rfl⟩
 rotate_left
 ·exact absurd ⟨g.out.1,g.out.2.1,g.out.2.2.1⟩ A
 rw[g.out.2.2.2 st e k];clear k g;go_wp2;go_ret;exact⟨rfl,G.out⟩
end
section
open Go.RowKit Go.Deep
def RvS (F:Nat->Prop) (B g cp:Nat) (M:MD) (w:World):Prop:=∃ R,OwM w B (.slice (some ⟨g,0,none⟩) M.n cp) M R/\∀ b,F b->Fre w (.slice (some ⟨g,0,none⟩) M.n cp) R M.n b
def RvN (F:Nat->Prop) (B g cp:Nat) (M:MD) (w w':World):Prop:=RvS F B g cp M w'/\(∀ b,F b->w'.heap[b]?=w.heap[b]?)/\Below B w w'
theorem RvS.sub {F c:Nat->Prop} {B g cp:Nat} {M:MD} {w:World} (h:RvS F B g cp M w) (i:∀ b,c b->F b):RvS c B g cp M w:=by
 obtain⟨R,d,j⟩:=h;exact⟨R,d,fun b hb=>j b (i b hb)⟩
theorem RvN.trans {F:Nat->Prop} {B g cp:Nat} {M M':MD} {w d i:World} (h:RvN F B g cp M w d) (c:RvN F B g cp M' d i):RvN F B g cp M' w i :=
 ⟨c.1,fun b hb=>(c.2.1 b hb).trans (h.2.1 b hb),h.2.2.trans c.2.2⟩
theorem RvN.sub {F i:Nat->Prop} {B g cp:Nat} {M:MD} {w c:World} (h:RvN F B g cp M w c) (d:∀ b,i b->F b):RvN i B g cp M w c:=⟨h.1.sub d,fun b hb=>h.2.1 b (d b hb),h.2.2⟩
theorem RvN.refl {F:Nat->Prop} {B g cp:Nat} {M:MD} {w:World} (h:RvS F B g cp M w):RvN F B g cp M w w:=⟨h,fun _ _=>rfl,blr⟩
theorem RvS.lt {F:Nat->Prop} {B g cp:Nat} {M:MD} {w:World} (h:RvS F B g cp M w):∀ b,F b->b<w.heap.size:=by
 obtain⟨R,d,c⟩:=h;exact fun b hb=>(c b hb).1
theorem RvS.kept {F:Nat->Prop} {B g cp:Nat} {M:MD} {w c:World} (h:RvS F B g cp M w) (hb:Below w.heap.size w c):RvS F B g cp M c:=by
 obtain⟨R,j,i⟩:=h;exact⟨R,j.kept (z0b hb none) (by simp),fun b d=>⟨Nat.lt_of_lt_of_le (i b d).1 hb.size,(i b d).2⟩⟩
theorem RvN.kept {F:Nat->Prop} {B g cp:Nat} {M:MD} {w c d:World} (h:RvN F B g cp M w c) (j:B<=w.heap.size) (hb:Below c.heap.size c d):RvN F B g cp M w d :=
 ⟨h.1.kept hb,fun b i=>(hb.block b (h.1.lt b i)).trans (h.2.1 b i),h.2.2.trans (hb.mono (Nat.le_trans j h.2.2.size))⟩
theorem RvS.grown {F:Nat->Prop} {B g cp:Nat} {M:MD} {w d:World} (h:RvS F B g cp M w) (hb:Below w.heap.size w d) (o:g<w.heap.size):RvS (fun b=>F b\/(w.heap.size<=b/\b<d.heap.size)) B g cp M d:=by
 obtain⟨R,j,k⟩:=h;refine⟨R,j.kept (z0b hb none) (by simp),fun b c=>?_⟩
 rcases c with c|⟨p,l⟩
 ·exact⟨Nat.lt_of_lt_of_le (k b c).1 hb.size,(k b c).2⟩
 refine⟨l,fun e=>?_,fun i hi e=>?_⟩
 ·have m:g=b:=by simpa [Value.ownBlock] using e
  omega
 have:=(World.ownsRow.lt (j.row i hi) b e).2;omega
theorem v1r {d m:World} {B g l cp s q:Nat} {M:MD} {R:Nat->Value} {o:Obj} {a b t:Int} {x:ByteArray} (P:B<=d.heap.size) (h:OwM d B (.slice (some ⟨g,0,none⟩) M.n cp) M R) (C:q<M.n)
  (N:m.ownsRow B 59 4 (.slice (some ⟨l,0,none⟩) (M.na q+1) s) (M.na q+1) (cat (arc4 M q) (M.na q)++[.int .i64 a,.int .i64 b,.string x,.int .i64 t])) (A:(d.alloc o).grownBy m (R q).ownBlock)
  (D:(R q).ownBlock=some l\/(d.alloc o).heap.size<=l) :
  OwM (m.setCell ⟨g,q*2+1,none⟩ (.slice (some ⟨l,0,none⟩) (M.na q+1) s)) B (.slice (some ⟨g,0,none⟩) M.n cp) (M.arc q a b x t) (fun i=>if i=q then .slice (some ⟨l,0,none⟩) (M.na q+1) s else R i) /\
  (m.cell? ⟨g,q*2+1,none⟩=some (R q)/\m.frozen? ⟨g,q*2+1,none⟩=false) /\
  (∀ c,Fre d (.slice (some ⟨g,0,none⟩) M.n cp) R M.n c->m.heap[c]?=d.heap[c]?/\(m.setCell ⟨g,q*2+1,none⟩ (.slice (some ⟨l,0,none⟩) (M.na q+1) s)).heap[c]?=d.heap[c]? /\
   Fre (m.setCell ⟨g,q*2+1,none⟩ (.slice (some ⟨l,0,none⟩) (M.na q+1) s)) (.slice (some ⟨g,0,none⟩) M.n cp) (fun i=>if i=q then .slice (some ⟨l,0,none⟩) (M.na q+1) s else R i) M.n c) /\
  Below B d (m.setCell ⟨g,q*2+1,none⟩ (.slice (some ⟨l,0,none⟩) (M.na q+1) s)):=by
 have Q:(d.alloc o).heap.size=d.heap.size+1:=by simp
 have I:∀ c,(Value.slice (some ⟨l,0,none⟩) (M.na q+1) s).ownBlock=some c->(R q).ownBlock=some c\/d.heap.size<=c:=fun c j=>by
  have e:l=c:=by simpa [Value.ownBlock] using j
  subst e
  rcases D with H|H
  ·exact .inl H
  right;omega
 have u:(R q).ownBlock≠some g:=fun e=>h.tne C e rfl;have F:=World.ownsRow.lt h.top g rfl;have G:=h.arc (a:=a) (b:=b) (x:=x) (t:=t) C N A I;have E:m.ownsRow B 57 2 (.slice (some ⟨g,0,none⟩) M.n cp) M.n (cat (st2 M R) M.n):=z2n (World.ownsRow.alloc h.top o) A (fun c j e=>by
  have J:g=c:=by simpa [Value.ownBlock] using j
  subst J;exact u e)
 have z:(d.alloc o).cell? ⟨g,q*2+1,none⟩=some (R q):=((Below.refl d.heap.size d).alloc nlr o).cell F.2 |>.trans (h.arcs_cell C)
 refine⟨G,⟨A.cell z (fun e=>u e.symm),z6a E _⟩,fun c j=>?_,?_⟩
 ·have K:c≠g:=fun e=>j.2.1 (by rw[e];rfl);have H:m.heap[c]?=d.heap[c]?:=(A.block c (by have:=j.1;omega) (fun e=>j.2.2 q C e.symm)).trans (blk_alloc_lt _ _ _ j.1);refine⟨H,by rw[z0e K];exact H,⟨by rw[nblk_setCell];have:=A.size;have:=j.1;omega,j.2.1,fun i hi=>?_⟩⟩
  dsimp only
  split
  ·intro e;have J:l=c:=by simpa [Value.ownBlock] using e
   subst J
   rcases D with L|L
   ·exact j.2.2 q C L
   have:=j.1;omega
  exact j.2.2 i hi
 exact(((Below.refl B d).alloc P o).grown A (by omega) (fun k O=>(World.ownsRow.lt (h.row q C) k O).1)).setCell (p:=⟨g,q*2+1,none⟩) F.1 _
end
section
open Go.RowKit Go.Deep
def RevE (D:MD) (w:World) (r:Ending) (w':World):Prop :=
 Below w.heap.size w w'/\((VM D/\VM (revD D)/\∃ sv R,r=.returned (.tuple #[.agg #[.int .i64 D.kind,.int .i64 (D.n:Int),.string D.lead,sv],.int .i64 0])/\OwM w' w.heap.size sv (revD D) R) \/
  (VM D/\¬ VM (revD D)/\r=.returned (.tuple #[z7f,.int .i64 2]))\/(¬ VM D/\r=.returned (.tuple #[z7f,.int .i64 1])))
theorem v4q {w:World} {B:Nat} {D:MD} {zs:Array Value} (d:B<=w.heap.size) (c:zs=madeCells (Value.agg #[.string ⟨#[]⟩,.slice none 0 0]).cells ((D.n+1)*2)) (hn:D.n+1<=maxLen) :
  OwM (w.alloc (.cells zs 57)) B (.slice (some ⟨w.heap.size,0,none⟩) (D.n+1) (D.n+1)) (revZ D) (fun _=>.slice none 0 0):=by
 refine⟨⟨?_,.inr ⟨w.heap.size,D.n+1,zs,rfl,d,heap_alloc_new w _,nlr,hn,by rw[c];exact size_madeCells _ _,?_⟩⟩,fun i _=>World.ownsRow_nil _ _ _ _,fun i j _ _ _ b hb=>by cases hb⟩
 ·exact z4k (z4w _ _) _
 have g:zs.toList=cat (st2 (revZ D) (fun _=>.slice none 0 0)) (D.n+1):=by
  rw[c];exact v5v (Value.agg #[.string ⟨#[]⟩,.slice none 0 0]).cells (by decide) (D.n+1)
 have h:(cat (st2 (revZ D) (fun _=>.slice none 0 0)) (D.n+1)).length=(D.n+1)*2:=z4k (z4w _ _) _;rw[g];show List.take ((D.n+1)*2) _=_;rw[<- h,List.take_length];rfl
theorem x2m {D:MD} {mv:Value} (w:World) (hM:Ma none w mv D) (l0:MSz D) (ht:Tab w):Calls prog 26 #[mv] w (RevE D w):=by
 obtain⟨sv,rfl,hS⟩:=hM;obtain⟨a,cp,b,uu7,A,C,BB,O,rfl,ha,hc,hm,hb,a2⟩:=hS.open;obtain⟨w1,e9⟩:=exq (w.alloc (.cells #[.int .i64 D.kind,.int .i64 D.start,.string D.lead,.slice a D.n cp] 24));obtain⟨w2,i6⟩:=exq (w1.alloc (.cells #[.int .i64 0,.int .i64 0,.string ⟨#[]⟩,.slice none 0 0] 24));have f5:w1.heap.size=w.heap.size+1:=by rw[e9];simp
 have z3:Fr (fun _=>False) w w1:=by rw[e9];exact Fr.alloc _ _
 have t9:Fr (fun _=>False) w1 w2:=by rw[i6];exact Fr.alloc _ _
 have w0:w1.heap[w.heap.size]?=some (.cells #[.int .i64 D.kind,.int .i64 D.start,.string D.lead,.slice a D.n cp] 24 (0,0)):=by rw[e9];exact heap_alloc_new w _
 have j6:w2.heap[w.heap.size]?=some (.cells #[.int .i64 D.kind,.int .i64 D.start,.string D.lead,.slice a D.n cp] 24 (0,0)):=(t9.block _ (lt_of_block w0) (fun e=>e)).trans w0;have t8:w2.heap[w.heap.size+1]?=some (.cells #[.int .i64 0,.int .i64 0,.string ⟨#[]⟩,.slice none 0 0] 24 (0,0)):=by rw[<- f5,i6];exact heap_alloc_new w1 _
 have j7:Below w.heap.size w w2:=(z3.trans t9).below nlr (fun _ e=>e.elim);obtain⟨mb,j2⟩:=exq (w.heap.size);obtain⟨k,s5⟩:=exq (w.heap.size+1);have k9:w.heap.size<=k:=by omega
 have C1:mb≠k:=by omega
 rw[<- j2] at j6;rw[<- s5] at t8;obtain⟨⟨m0,m1,m2,m3⟩,_⟩:=cells4 j6;have B1:=qh (z1t w2 (⟨_,rfl,hS.kept (z0b j7 none)⟩:Ma none w2 (.agg #[.int .i64 D.kind,.int .i64 D.start,.string D.lead,.slice a D.n cp]) D) l0 (ht.below j7 nlr));have v0:=qh j7;clear j7;have x4:=qh j6;clear j6 w0 z3 t9 f5;have v3:=qh t8;clear t8;have x8:=qh l0;clear l0;have HT:=qh ht;clear ht;have HA:=qh ha;clear ha;have HB:=qh hb;clear hb;have HR:=qh a2;clear a2 hS;rw[j2,i6,e9] at m0 m1 m2 m3
 go_enter func26,ntmps26
 go_wp2_with fail
 rw[<- e9,<- i6,<- s5,<- j2];clear m0 m1 m2 m3 e9 i6 s5 j2;refine B1.out.mono ?_;rintro r w4 ⟨l8,hr⟩;have o4:=v0.out.trans (l8.mono v0.out.size);have z5:=(l8.block _ (lt_of_block x4.out)).trans x4.out;have B0:=(l8.block _ (lt_of_block v3.out)).trans v3.out;clear l8 B1 v0 x4 v3;have v6:=qh o4;clear o4;have uu4:=qh z5;clear z5;have j5:=qh B0;clear B0
 rcases hr with ⟨hv,rfl⟩|⟨hv,rfl⟩
 rotate_left
 ·have HV:=qh hv;clear hv;obtain⟨⟨r0,r1,r2,r3⟩,rz⟩:=cells4 j5.out;have f0:=rz 0;have f1:=rz 1;have f2:=rz 2;have f3:=rz 3;clear rz
  go_wp2_with fail
  exact bodyPost_ret (z0j rfl _ (b:=k) rfl rfl (z0w w4 k _ _ _ _ j5.out)) rfl ⟨z0d v6.out k9 _ _ _ _,.inr (.inr ⟨HV.out,rfl⟩)⟩
 have D7:1<=D.n:=hv.n1;have C6:D.n<=3000:=hv.n2;have HV:=qh hv;clear hv;obtain rfl:=HA.out (by omega);unfold maxLen at hm;obtain⟨n,hn⟩:=exq (D.n);rw[<- hn] at D7 C6 hc;have x7:=z6u (P:=prog) 22 57 _ 2 40 underlying22 x8w .i64 .i64 (n+1) (by omega) (by omega);obtain⟨zs,v4⟩:=exq (madeCells (Value.agg #[.string ⟨#[]⟩,.slice none 0 0]).cells ((n+1)*2));rw[<- v4] at x7;have A6:((n+1:Nat):Int)=(n:Int)+1:=by omega
 rw[A6] at x7;have E6:=qh v4;clear v4;have HN:=qh hn;clear hn;obtain⟨⟨m0,m1,m2,m3⟩,_⟩:=cells4 uu4.out;rw[<- HN.out] at m3;rw[<- HN.out]
 go_wp2_with fail
 refine z0g (fun wk=>wk.cell? ⟨mb,0,none⟩=some (.int .i64 D.kind)/\wk.cell? ⟨mb,2,none⟩=some (.string D.lead)) 9 (by kernel_rfl) ?_;obtain⟨h,u⟩:=exq (w4.drew);rw[<- u];have c:h.cell? ⟨mb,0,none⟩=some (.int .i64 D.kind)/\h.cell? ⟨mb,2,none⟩=some (.string D.lead):=by rw[u];exact⟨m0,m2⟩
 have g9:Below w.heap.size w h:=by rw[u];exact v6.out.drew
 have A5:h.heap[mb]?=some (.cells #[.int .i64 D.kind,.int .i64 D.start,.string D.lead,.slice (some ⟨b,uu7,none⟩) D.n cp] 24 (0,0)):=by rw[u];exact uu4.out
 have g0:h.heap[k]?=some (.cells #[.int .i64 0,.int .i64 0,.string ⟨#[]⟩,.slice none 0 0] 24 (0,0)):=by rw[u];exact j5.out
 clear m0 m1 m2 m3 u;have c8:=qh g9;clear g9 v6 uu4 j5;have j3:=qh A5;clear A5;have z:=qh g0;clear g0;have D5:IntKind.i64.wrap ((n:Int)+1)=(n:Int)+1:=by rw[IntKind.wrap_i64];omega
 refine z0c.tm 0 c ?_;refine z0c.tm 1 c ?_;refine z0c.tm 2 c ?_;refine z0c.tm 3 c ?_;refine z0c.tm 4 c ?_;refine z0c.tm 5 c ?_;refine z0c.tm 6 c ?_
 try simp only[Act.put,tryL]
 clear D5;refine z0c.on 7 fun K J=>?_;go_simp;obtain⟨g,hg⟩:=exq (h.heap.size);obtain⟨wa,h7⟩:=exq (h.alloc (.cells zs 57));have e4:Below h.heap.size h wa:=by rw[h7];exact(Below.refl _ h).alloc nlr _
 have q9:OwM wa w.heap.size (.slice (some ⟨g,0,none⟩) (n+1) (n+1)) (revZ D) (fun _=>.slice none 0 0):=by
  have h1:=v4q (w:=h) (B:=w.heap.size) (D:=D) (zs:=zs) c8.out.size (by rw[E6.out,HN.out]) (by unfold maxLen;have:=HN.out;omega);rw[<- h7,<- hg,<- HN.out] at h1;exact h1
 have l3:=(e4.block _ (lt_of_block j3.out)).trans j3.out;have A1:=(e4.block _ (lt_of_block z.out)).trans z.out;have y3:=c8.out.trans (e4.mono c8.out.size);have A0:mb≠g/\k≠g:=by have:=lt_of_block j3.out;have:=lt_of_block z.out;omega
 have y2:g<wa.heap.size:=by rw[h7,hg];simp
 have F4:w.heap.size<=g:=by rw[hg];exact c8.out.size
 rw[<- h7,<- hg];have X:wa.cell? ⟨mb,0,none⟩=some (.int .i64 D.kind)/\wa.cell? ⟨mb,2,none⟩=some (.string D.lead):=⟨(cells4 l3).1.1,(cells4 l3).1.2.2.1⟩;refine J.out _ _ (.inr X) ?_;clear J K x7 A6 c h7 hg e4;have n9:=qh q9;clear q9;have v2:=qh l3;clear l3 j3;have j8:=qh A1;clear A1 z;have uu5:=qh y3;clear y3 c8
 try simp only[Act.put,tryL]
 obtain⟨⟨r0,r1,r2,r3⟩,rz⟩:=cells4 j8.out;have f0:=rz 0;have f1:=rz 1;have f2:=rz 2;have f3:=rz 3;clear rz;refine z0c.on 8 fun K J=>?_;go_simp;refine J.out _ _ (.inr X) ?_;clear J K
 try simp only[Act.put,tryL]
 refine z0c.on 9 fun K J=>?_;go_simp;refine J.out _ _ (.inl rfl) (z0c.dn ?_);clear J K X;obtain⟨wb,g4⟩:∃ wb,wb=(((wa.setCell ⟨k,0,none⟩ (.int .i64 D.kind)).setCell ⟨k,1,none⟩ (.int .i64 (n:Int))).setCell ⟨k,2,none⟩ (.string D.lead)).setCell ⟨k,3,none⟩ (.slice (some ⟨g,0,none⟩) (n+1) (n+1)):=⟨_,rfl⟩;have w9:Fr (fun q=>q=k) wa wb:=by rw[g4];exact(((((Fr.refl (fun q=>q=k) wa).set (p:=⟨k,0,none⟩) (.inl rfl) _).set (p:=⟨k,1,none⟩) (.inl rfl) _).set (p:=⟨k,2,none⟩) (.inl rfl) _).set (p:=⟨k,3,none⟩) (.inl rfl) _)
 have s6:wb.heap[k]?=some (.cells #[.int .i64 D.kind,.int .i64 (n:Int),.string D.lead,.slice (some ⟨g,0,none⟩) (n+1) (n+1)] 24 (0,0)):=by rw[g4];exact z0w wa k _ _ _ _ j8.out
 have l9:=(w9.block mb (lt_of_block v2.out) C1).trans v2.out;have B7:Below w.heap.size w wb:=uu5.out.trans (w9.below uu5.out.size (fun q e=>by rw[e];exact k9));have m5:OwM wb w.heap.size (.slice (some ⟨g,0,none⟩) (n+1) (n+1)) (revZ D) (fun _=>.slice none 0 0):=by rw[g4];exact n9.out.box4 j8.out _ _ _ _
 obtain⟨F,hF⟩:∃ F:Nat->Prop,F=fun b=>b=mb\/b=k:=⟨_,rfl⟩;have c9:RvN F w.heap.size g (n+1) (revQ D 0) wb wb:=by
  have e:(revQ D 0).n=n+1:=by rw[HN.out];rfl
  refine RvN.refl ⟨fun _=>.slice none 0 0,by rw[e];exact m5,fun b hb=>⟨?_,?_,fun i _=>by simp[Value.ownBlock]⟩⟩
  ·rw[hF] at hb
   rcases hb with rfl|rfl
   ·exact lt_of_block l9
   exact lt_of_block s6
  rw[hF] at hb;intro e2;have e3:g=b:=by simpa [Value.ownBlock] using e2
  rcases hb with rfl|rfl
  ·exact A0.1 e3.symm
  exact A0.2 e3.symm
 have B2:F mb:=by rw[hF];exact .inl rfl
 have A2:F k:=by rw[hF];exact .inr rfl
 have m3:=(cells4 l9).1.2.2.2;rw[<- HN.out] at m3;rw[<- g4];clear g4 w9 n9 v2 j8 uu5 r0 r1 r2 r3 f0 f1 f2 f3 m5;have b3:=qh c9;clear c9;have C3:=qh B2;clear B2;have b1:=qh A2;clear A2 hF;have A7:=qh s6;clear s6;have E1:=qh l9;clear l9;have j9:=qh B7;clear B7;obtain⟨i0,hi,y6,f5,y5⟩:=z9e x7i;have HI:=qh hi;have z7:=qh y6;have y7:=qh f5;have B8:=qh y5;clear hi y6 f5 y5
 go_wp2_with fail
 clear m3
 go_loopw [29] (fun v7 wr=>∃ q:Nat,q<=n/\v7=.int .i64 (q:Int)/\RvN F w.heap.size g (n+1) (revQ D q) wb wr) (fun v7 _=>n-(intOf v7).toNat)
 case atStart=>exact⟨0,Nat.zero_le _,rfl,b3.out⟩
 obtain⟨q,hq,rfl,g7⟩:=hrel;clear b3;have b6:=qh g7;clear g7;have D1:w.heap.size<=wb.heap.size:=j9.out.size;by_cases l6:q<n
 ·have G0:(q:Int)<(n:Int):=by omega
  have F0:(0:Int)<=(q:Int):=by omega
  have x2:q<D.n:=by have:=HN.out;omega
  have z4:=(HB.out (by have:=HN.out;omega)).1;obtain⟨k1,k2,k3,k4,k5,k6,k7⟩:=HR.out q x2;have d4:=j9.out.trans b6.out.2.2;have t0:=(d4.cell (p:=⟨b,uu7+q*2,none⟩) z4).trans k1;have t1:=(d4.cell (p:=⟨b,uu7+q*2+1,none⟩) z4).trans k2;clear k1 k2;unfold maxLen at k4;obtain⟨fq,v5⟩:=exq (D.fin q);obtain⟨aq,x6⟩:=exq (A q);obtain⟨nq,e6⟩:=exq (D.na q);obtain⟨g6,z9⟩:=exq (C q);rw[<- v5] at t0;rw[<- x6,<- e6,<- z9] at t1;rw[<- x6,<- e6] at k5;rw[<- e6] at k6 k7;have E7:nq<=30000:=by rw[e6];have h1:=Nat.le_trans (z1u D (show q+1<=D.n by omega)) HV.out.arcs;have h2:z0h D (q+1)=z0h D q+D.na q:=rfl;omega
  have s7:=qh v5;clear v5;have h8:=qh e6;clear e6;clear x6 z9 k3 k4;have D8:=qh k5;clear k5;have E4:=qh k6;clear k6;have C7:=qh k7;clear k7;have d6:(revQ D q).n=n+1:=by rw[(z2s D q).n,HN.out];rfl
  have m7:=x2i HV.out x8.out q (by omega);have z6:=qh m7;clear m7;have j4:=qh d6;clear d6;have F7:w.heap.size<=wr.heap.size:=d4.size;have y1:g<wr.heap.size:=by
   obtain⟨R,h1,_⟩:=b6.out.1;exact(World.ownsRow.lt h1.top g rfl).2
  obtain⟨sb,h6⟩:=exq (wr.heap.size);obtain⟨w5,e7⟩:=exq (wr.alloc (.cells #[.string fq,.slice aq nq g6] 57));have v8:Below wr.heap.size wr w5:=by rw[e7];exact(Below.refl _ wr).alloc nlr _
  have E0:w5.heap.size=wr.heap.size+1:=by rw[e7];simp
  have uu8:w5.heap[sb]?=some (.cells #[.string fq,.slice aq nq g6] 57 (0,0)):=by rw[e7,h6];exact heap_alloc_new wr _
  obtain⟨F2,k0⟩:∃ F2:Nat->Prop,F2=fun b=>F b\/b=sb:=⟨_,rfl⟩;have n7:RvS F2 w.heap.size g (n+1) (revQ D q) w5:=(b6.out.1.grown v8 y1).sub (fun b hb=>by
   rw[k0] at hb;exact hb.imp id (fun e=>by rw[e,h6];omega))
  have r5:∀ b,F b->F2 b:=fun b hb=>by rw[k0];exact .inl hb
  have n3:F2 sb:=by rw[k0];exact .inr rfl
  have g8:=b6.out.kept D1 v8;have s1:w5.cell? ⟨sb,1,none⟩=some (.slice aq nq g6):=by simp[World.cell?,uu8]
  rw[e7,h6] at s1;have o9:=qh (RvN.refl n7);clear n7;have b9:=qh g8;clear g8 b6 v8 d4;have D6:=qh uu8;clear uu8;have b2:=qh r5;clear r5;have m8:=qh n3;clear n3 k0;have D0:w.heap.size<=w5.heap.size:=by omega
  go_wp2_with fail
  rw[<- e7,<- h6];clear t0 t1 e7 h6 s1 E0
  go_loopw [37] (fun w8 wr=>∃ d:Nat,d<=nq/\w8=.int .i64 (d:Int)/\RvN F2 w.heap.size g (n+1) (revA D q d (revQ D q)) w5 wr) (fun w8 _=>nq-(intOf w8).toNat)
  case atStart=>exact⟨0,Nat.zero_le _,rfl,o9.out⟩
  obtain⟨d,hd,rfl,g7⟩:=hrel;clear o9;have z:=qh g7;clear g7;have y8:(revA D q d (revQ D q)).n=n+1:=by rw[(z7u D q (Skel.refl _) d).n];exact j4.out
  have g1:=(x2s HV.out x8.out x2 ((z2s D q).kind) z6.out d (by rw[<- h8.out];omega));have a9:=(j9.out.trans b9.out.2.2).trans z.out.2.2;have r7:w.heap.size<=wr.heap.size:=a9.size;have e1:∀ p,(revA D q d (revQ D q)).na p<=100000:=fun p=>Nat.le_trans (g1.na p) (by
   have h1:=Nat.le_trans (z1u D (show q+1<=D.n by omega)) HV.out.arcs;have h2:z0h D (q+1)=z0h D q+D.na q:=rfl;have:=h8.out;omega)
  have W:=(z.out.2.1 k (b2.out k b1.out)).trans ((b9.out.2.1 k b1.out).trans A7.out);have e5:=(z.out.2.1 sb m8.out).trans D6.out;by_cases B5:d<nq
  ·have F9:(d:Int)<(nq:Int):=by omega
   have E9:(0:Int)<=(d:Int):=by omega
   have l7:=(E4.out (by omega)).1;obtain⟨uu0,uu1,uu2,uu3⟩:=C7.out d B5;obtain rfl:=D8.out (by omega);have c0:=(a9.cell (p:=⟨BB q,O q+d*4,none⟩) l7).trans uu0;have c1:=(a9.cell (p:=⟨BB q,O q+d*4+1,none⟩) l7).trans uu1;have c2:=(a9.cell (p:=⟨BB q,O q+d*4+2,none⟩) l7).trans uu2;have c3:=(a9.cell (p:=⟨BB q,O q+d*4+3,none⟩) l7).trans uu3;clear uu0 uu1 uu2 uu3;have d5:=HV.out.arc q d x2 (by rw[<- h8.out];exact B5);obtain⟨T,x9⟩:∃ T:Nat,D.ato q d=(T:Int):=⟨(D.ato q d).toNat,by have:=d5.t0;omega⟩;have j0:T<=n:=by have:=d5.t1;have:=HN.out;omega
   have b8:T<(revA D q d (revQ D q)).n:=by rw[y8];omega
   have z1:=e1 T;rw[x9] at c3;have D3:=qh x9;clear x9 d5;obtain⟨ai,uu9⟩:=exq (D.ain q d);obtain⟨ao,d5⟩:=exq (D.aout q d);obtain⟨aw,x0⟩:=exq (D.aw q d);rw[<- uu9] at c0;rw[<- d5] at c1;rw[<- x0] at c2;have E5:=qh uu9;clear uu9;have E2:=qh d5;clear d5;have C5:=qh x0;clear x0;have y1:g<wr.heap.size:=by
    obtain⟨R,h1,_⟩:=z.out.1;exact(World.ownsRow.lt h1.top g rfl).2
   obtain⟨ab,l5⟩:=exq (wr.heap.size);obtain⟨w6,h9⟩:=exq (wr.alloc (.cells #[.int .i64 ai,.int .i64 ao,.string aw,.int .i64 (q:Int)] 59));have l4:Below wr.heap.size wr w6:=by rw[h9];exact(Below.refl _ wr).alloc nlr _
   have C2:w6.heap.size=wr.heap.size+1:=by rw[h9];simp
   have r8:w6.heap[ab]?=some (.cells #[.int .i64 ai,.int .i64 ao,.string aw,.int .i64 (q:Int)] 59 (0,0)):=by rw[h9,l5];exact heap_alloc_new wr _
   have m9:=(l4.block _ (lt_of_block W)).trans W;obtain⟨F3,m4⟩:∃ F3:Nat->Prop,F3=fun b=>F2 b\/b=ab:=⟨_,rfl⟩;have h4:RvS F3 w.heap.size g (n+1) (revA D q d (revQ D q)) w6:=(z.out.1.grown l4 y1).sub (fun b hb=>by
    rw[m4] at hb;exact hb.imp id (fun e=>by rw[e,l5];omega))
   have p0:∀ b,F2 b->F3 b:=fun b hb=>by rw[m4];exact .inl hb
   have o2:F3 ab:=by rw[m4];exact .inr rfl
   have g3:=z.out.kept D0 l4;have q8:w.heap.size<=w6.heap.size:=by omega
   have c7:∀ b,F3 b->b<w6.heap.size:=h4.lt;have x5:=qh h4;clear h4;have s3:=qh g3;clear g3 z;have B4:=qh r8;clear r8;have q7:=qh m9;clear m9 W e5;have p8:=qh p0;clear p0;have z2:=qh o2;clear o2 m4;have w3:=qh c7;clear c7;clear l4 C2 a9 g1 e1;obtain⟨R,Y,G⟩:=x5.out;obtain⟨ra,rc,e0,_,_⟩:=z1e (Y.row T b8);obtain⟨h,u⟩:=exq (w6.drew);have a3:Fr (fun _=>False) w6 h:=by rw[u];exact(Fr.refl _ _).drew
   have j:Below w6.heap.size w6 h:=a3.below nlr (fun _ e=>e.elim);have a4:OwM h w.heap.size (.slice (some ⟨g,0,none⟩) (revA D q d (revQ D q)).n (n+1)) (revA D q d (revQ D q)) R:=Y.kept (z0b j none) (by simp);have a5:∀ b,F3 b->Fre h (.slice (some ⟨g,0,none⟩) (revA D q d (revQ D q)).n (n+1)) R (revA D q d (revQ D q)).n b:=fun b hb=>⟨Nat.lt_of_lt_of_le (G b hb).1 j.size,(G b hb).2⟩;have I:=(a3.block _ (lt_of_block q7.out) (fun e=>e)).trans q7.out;have m:=(a3.block _ (lt_of_block B4.out) (fun e=>e)).trans B4.out;have t7:w.heap.size<=h.heap.size:=Nat.le_trans q8 j.size;have j1:h.cell? ⟨g,T*2+1,none⟩=some (.slice ra ((revA D q d (revQ D q)).na T) rc):=by rw[a4.arcs_cell b8,e0]
   have c:h.cell? ⟨k,3,none⟩=some (.slice (some ⟨g,0,none⟩) (n+1) (n+1))/\h.cell? ⟨g,T*2+1,none⟩=some (.slice ra ((revA D q d (revQ D q)).na T) rc)/\h.cell? ⟨ab,0,none⟩=some (.int .i64 ai)/\h.cell? ⟨ab,1,none⟩=some (.int .i64 ao)/\h.cell? ⟨ab,2,none⟩=some (.string aw)/\h.cell? ⟨ab,3,none⟩=some (.int .i64 (q:Int)):=⟨(cells4 I).1.2.2.2,j1,by simp[World.cell?,m],by simp[World.cell?,m],by simp[World.cell?,m],by simp[World.cell?,m]⟩;have C4:(T:Int)<(n:Int)+1:=by have:=j0;omega
   have A9:(0:Int)<=(T:Int):=by omega
   have d9:=qh a4;clear a4 Y;have L:=qh a5;clear a5 G;have b7:=qh e0;clear e0;have N:=qh I;clear I;have S:=qh m;clear m j1;have d0:=qh j;clear j a3
   go_wp2_with fail
   refine z0g (fun wk=>wk.cell? ⟨k,3,none⟩=some (.slice (some ⟨g,0,none⟩) (n+1) (n+1))/\wk.cell? ⟨g,T*2+1,none⟩=some (.slice ra ((revA D q d (revQ D q)).na T) rc)/\wk.cell? ⟨ab,0,none⟩=some (.int .i64 ai)/\wk.cell? ⟨ab,1,none⟩=some (.int .i64 ao)/\wk.cell? ⟨ab,2,none⟩=some (.string aw)/\wk.cell? ⟨ab,3,none⟩=some (.int .i64 (q:Int))) 14 (by kernel_rfl) ?_;rw[<- h9,<- l5];clear c0 c1 c2 c3 h9 l5;rw[<- u];clear u;refine z0c.tm 0 c ?_;refine z0c.tm 1 c ?_;refine z0c.tm 2 c ?_;refine z0c.tm 3 c ?_;refine z0c.tm 4 c ?_;refine z0c.tm 5 c ?_;refine z0c.tm 6 c ?_;refine z0c.tm 7 c ?_;refine z0c.tm 8 c ?_;refine z0c.tm 9 c ?_
   try simp only[Act.put,tryL]
   refine z0c.on 10 fun K J=>?_;go_simp;obtain⟨wy,Q⟩:=exq (h.alloc (.cells #[.int .i64 (ai),.int .i64 (ao),.string (aw),.int .i64 (q:Int)] 59));have b5:Below h.heap.size h wy:=by rw[Q];exact(Below.refl _ h).alloc nlr _
   have d8:wy.heap[h.heap.size]?=some (.cells #[.int .i64 (ai),.int .i64 (ao),.string (aw),.int .i64 (q:Int)] 59 (0,0)):=by rw[Q];exact heap_alloc_new h _
   have x1:wy.heap.size=h.heap.size+1:=by rw[Q];simp
   have a6:=(b5.block _ (lt_of_block N.out)).trans N.out;have l:=(b5.block _ (lt_of_block S.out)).trans S.out;have X:wy.cell? ⟨k,3,none⟩=some (.slice (some ⟨g,0,none⟩) (n+1) (n+1))/\wy.cell? ⟨g,T*2+1,none⟩=some (.slice ra ((revA D q d (revQ D q)).na T) rc)/\wy.cell? ⟨ab,0,none⟩=some (.int .i64 ai)/\wy.cell? ⟨ab,1,none⟩=some (.int .i64 ao)/\wy.cell? ⟨ab,2,none⟩=some (.string aw)/\wy.cell? ⟨ab,3,none⟩=some (.int .i64 (q:Int)):=⟨(cells4 a6).1.2.2.2,b5.cell (World.ownsRow.lt d9.out.top g rfl).2 |>.trans c.2.1,by simp[World.cell?,l],by simp[World.cell?,l],by simp[World.cell?,l],by simp[World.cell?,l]⟩
   have a2:wy.ownsRow w.heap.size 59 4 (.slice ra ((revA D q d (revQ D q)).na T) rc) ((revA D q d (revQ D q)).na T) (cat (arc4 (revA D q d (revQ D q)) T) ((revA D q d (revQ D q)).na T)):=by rw[Q,<- b7.out];exact World.ownsRow.alloc (d9.out.row T b8) _
   have w7:w.heap.size<=wy.heap.size:=by omega
   obtain⟨H,hH⟩:=exq (h.heap.size);rw[<- hH] at d8 x1;rw[<- Q,<- hH];have h0:=qh Q;clear Q;have D4:=qh hH;clear hH;have uu6:=qh d8;clear d8;have y4:=qh a6;clear a6;have x3:=qh l;clear l;clear b5;refine J.out _ _ (.inr X) ?_;clear J K c
   try simp only[Act.put,tryL]
   refine z0c.on 11 fun K J=>?_;refine wp_append_lies _ (.tmp 53) (.tmp 55) 55 rfl w.heap.size 59 i0 (.agg #[.int .i64 0,.int .i64 0,.string ⟨#[]⟩,.int .i64 0]) 4 40 underlying55 HI.out z7.out y7.out B8.out rfl (by omega) (.slice ra ((revA D q d (revQ D q)).na T) rc) ((revA D q d (revQ D q)).na T) _ (by simp[Act.eval]) a2 ⟨H,0,none⟩ 1 1 [.int .i64 (ai),.int .i64 (ao),.string (aw),.int .i64 (q:Int)] (by simp[Act.eval]) rfl (y6w (cs:=#[.int .i64 (ai),.int .i64 (ao),.string (aw),.int .i64 (q:Int)]) uu6.out) y8i (by omega) (by unfold maxLen;omega) (by omega) w7 _ rfl ?_;intro go cq we a7 b0 h5 l6;have i9:=v1r (o:=.cells #[.int .i64 (ai),.int .i64 (ao),.string (aw),.int .i64 (q:Int)] 59) t7 d9.out b8 a7 (by rw[<- h0.out,b7.out];exact b0) (by rw[<- h0.out,b7.out];exact h5.imp id (fun e=>Nat.le_of_eq e.symm));obtain⟨i8,⟨d7,s9⟩,a8,i2⟩:=i9;have U:=(a8 k (L.out k (p8.out k (b2.out k b1.out)))).1.trans N.out;have E:=(a8 ab (L.out ab z2.out)).1.trans S.out;rw[b7.out] at d7;have b4:we.cell? ⟨k,3,none⟩=some (.slice (some ⟨g,0,none⟩) (n+1) (n+1))/\we.cell? ⟨g,T*2+1,none⟩=some (.slice ra ((revA D q d (revQ D q)).na T) rc)/\we.cell? ⟨ab,0,none⟩=some (.int .i64 ai)/\we.cell? ⟨ab,1,none⟩=some (.int .i64 ao)/\we.cell? ⟨ab,2,none⟩=some (.string aw)/\we.cell? ⟨ab,3,none⟩=some (.int .i64 (q:Int)):=⟨(cells4 U).1.2.2.2,d7,by simp[World.cell?,E],by simp[World.cell?,E],by simp[World.cell?,E],by simp[World.cell?,E]⟩;have s:RvN F3 w.heap.size g (n+1) ((revA D q d (revQ D q)).arc T (ai) (ao) (aw) (q:Int)) w6 (we.setCell ⟨g,T*2+1,none⟩ (.slice (some ⟨go,0,none⟩) ((revA D q d (revQ D q)).na T+1) cq)) :=
    ⟨⟨_,i8,fun b hb=>(a8 b (L.out b hb)).2.2⟩,fun b hb=>(a8 b (L.out b hb)).2.1.trans (d0.out.block b (w3.out b hb)),(d0.out.mono q8).trans i2⟩
   have d3:=qh s;clear s i8 a8 i2 U E a7 b0 h5 l6 a2;refine J.out _ _ (.inr b4) ?_;clear J K X
   try simp only[Act.put,tryL]
   refine z0c.tm 12 b4 ?_;refine z0c.tm 13 b4 ?_
   try simp only[Act.put,tryL]
   refine z0c.on 14 fun K J=>?_;go_simp;refine J.out _ _ (.inl rfl) (z0c.dn ?_);clear J K b4 d7 s9;obtain⟨wf,Z⟩:=exq (we.setCell ⟨g,T*2+1,none⟩ (.slice (some ⟨go,0,none⟩) ((revA D q d (revQ D q)).na T+1) cq));have s:=d3.out;rw[<- Z] at s;rw[<- Z];clear Z;have d2:RvN F2 w.heap.size g (n+1) (revA D q (d+1) (revQ D q)) w5 wf:=by
    have e:revA D q (d+1) (revQ D q)=(revA D q d (revQ D q)).arc T ai ao aw (q:Int):=by
     show (revA D q d (revQ D q)).arc (D.ato q d).toNat (D.ain q d) (D.aout q d) (D.aw q d) (q:Int)=_;rw[D3.out,<- E5.out,<- E2.out,<- C5.out];rfl
    rw[e];exact s3.out.trans (s.sub p8.out)
   have f7:=qh d2;clear d2 s d3;go_wp2;go_roundw
   case rel=>exact⟨d+1,by omega,by go_num,f7.out⟩
   simp[intOf];omega
  have C0:nq=d:=by omega
  subst C0;have A3:¬ ((nq:Int)<(nq:Int)):=by omega
  have s0:wr.cell? ⟨sb,0,none⟩=some (.string fq):=by simp[World.cell?,e5]
  have o7:=qh W;clear W;have o6:=qh e5;clear e5;have c9:RvN F w.heap.size g (n+1) (revA D q nq (revQ D q)) wb wr:=⟨z.out.1.sub b2.out,fun b hb=>(z.out.2.1 b (b2.out b hb)).trans (b9.out.2.1 b hb),b9.out.2.2.trans z.out.2.2⟩;have b3:=qh c9;clear c9 a9 g1;by_cases e8:fq=⟨#[]⟩
  ·have f9:revQ D (q+1)=revA D q nq (revQ D q):=by
    show revF D q (revA D q (D.na q) (revQ D q))=_;unfold revF;rw[if_pos (by rw[<- s7.out];exact e8),h8.out]
   have hB:=b3.out;rw[<- f9] at hB;have s4:=qh hB;clear hB f9 b3 z;subst e8;go_wp2;go_roundw
   case rel=>exact⟨q+1,by omega,by go_num,s4.out⟩
   simp[intOf];omega
  have F6:(fq.toList==[])=false:=by
   cases hE:(fq.toList==[])
   ·rfl
   exact absurd (z6r hE) e8
  have f9:revQ D (q+1)=(revA D q nq (revQ D q)).arc n 0 0 fq (q:Int):=by
   show revF D q (revA D q (D.na q) (revQ D q))=_;unfold revF;rw[if_neg (by rw[<- s7.out];exact e8),h8.out,s7.out,HN.out]
  have b8:n<(revA D q nq (revQ D q)).n:=by rw[y8];omega
  have j0:n<=n:=nlr;have z1:=e1 n;have c7:∀ b,F2 b->b<wr.heap.size:=z.out.1.lt;have x5:=qh z.out.1;have C9:=qh f9;clear f9;have w3:=qh c7;clear c7 e1;have F8:=qh e8;clear e8;obtain⟨R,Y,G⟩:=x5.out;obtain⟨ra,rc,e0,_,_⟩:=z1e (Y.row n b8);obtain⟨h,u⟩:=exq (wr.drew);have a3:Fr (fun _=>False) wr h:=by rw[u];exact(Fr.refl _ _).drew
  have j:Below wr.heap.size wr h:=a3.below nlr (fun _ e=>e.elim);have a4:OwM h w.heap.size (.slice (some ⟨g,0,none⟩) (revA D q nq (revQ D q)).n (n+1)) (revA D q nq (revQ D q)) R:=Y.kept (z0b j none) (by simp);have a5:∀ b,F2 b->Fre h (.slice (some ⟨g,0,none⟩) (revA D q nq (revQ D q)).n (n+1)) R (revA D q nq (revQ D q)).n b:=fun b hb=>⟨Nat.lt_of_lt_of_le (G b hb).1 j.size,(G b hb).2⟩;have I:=(a3.block _ (lt_of_block o7.out) (fun e=>e)).trans o7.out;have m:=(a3.block _ (lt_of_block o6.out) (fun e=>e)).trans o6.out;have t7:w.heap.size<=h.heap.size:=Nat.le_trans r7 j.size;have j1:h.cell? ⟨g,n*2+1,none⟩=some (.slice ra ((revA D q nq (revQ D q)).na n) rc):=by rw[a4.arcs_cell b8,e0]
  have c:h.cell? ⟨k,3,none⟩=some (.slice (some ⟨g,0,none⟩) (n+1) (n+1))/\h.cell? ⟨g,n*2+1,none⟩=some (.slice ra ((revA D q nq (revQ D q)).na n) rc)/\h.cell? ⟨sb,0,none⟩=some (.string fq):=⟨(cells4 I).1.2.2.2,j1,by simp[World.cell?,m]⟩;have C4:(n:Int)<(n:Int)+1:=by have:=j0;omega
  have A9:(0:Int)<=(n:Int):=by omega
  have d9:=qh a4;clear a4 Y;have L:=qh a5;clear a5 G;have b7:=qh e0;clear e0;have N:=qh I;clear I;have S:=qh m;clear m j1;have d0:=qh j;clear j a3
  go_wp2_with fail
  refine z0g (fun wk=>wk.cell? ⟨k,3,none⟩=some (.slice (some ⟨g,0,none⟩) (n+1) (n+1))/\wk.cell? ⟨g,n*2+1,none⟩=some (.slice ra ((revA D q nq (revQ D q)).na n) rc)/\wk.cell? ⟨sb,0,none⟩=some (.string fq)) 17 (by kernel_rfl) ?_;rw[<- u];clear u s0;refine z0c.tm 0 c ?_;refine z0c.tm 1 c ?_;refine z0c.tm 2 c ?_;refine z0c.tm 3 c ?_;refine z0c.tm 4 c ?_;refine z0c.tm 5 c ?_;refine z0c.tm 6 c ?_;refine z0c.tm 7 c ?_;refine z0c.tm 8 c ?_;refine z0c.tm 9 c ?_;refine z0c.tm 10 c ?_;refine z0c.tm 11 c ?_;refine z0c.tm 12 c ?_
  try simp only[Act.put,tryL]
  refine z0c.on 13 fun K J=>?_;go_simp;obtain⟨wy,Q⟩:=exq (h.alloc (.cells #[.int .i64 (0),.int .i64 (0),.string (fq),.int .i64 (q:Int)] 59));have b5:Below h.heap.size h wy:=by rw[Q];exact(Below.refl _ h).alloc nlr _
  have d8:wy.heap[h.heap.size]?=some (.cells #[.int .i64 (0),.int .i64 (0),.string (fq),.int .i64 (q:Int)] 59 (0,0)):=by rw[Q];exact heap_alloc_new h _
  have x1:wy.heap.size=h.heap.size+1:=by rw[Q];simp
  have a6:=(b5.block _ (lt_of_block N.out)).trans N.out;have l:=(b5.block _ (lt_of_block S.out)).trans S.out;have X:wy.cell? ⟨k,3,none⟩=some (.slice (some ⟨g,0,none⟩) (n+1) (n+1))/\wy.cell? ⟨g,n*2+1,none⟩=some (.slice ra ((revA D q nq (revQ D q)).na n) rc)/\wy.cell? ⟨sb,0,none⟩=some (.string fq):=⟨(cells4 a6).1.2.2.2,b5.cell (World.ownsRow.lt d9.out.top g rfl).2 |>.trans c.2.1,by simp[World.cell?,l]⟩
  have a2:wy.ownsRow w.heap.size 59 4 (.slice ra ((revA D q nq (revQ D q)).na n) rc) ((revA D q nq (revQ D q)).na n) (cat (arc4 (revA D q nq (revQ D q)) n) ((revA D q nq (revQ D q)).na n)):=by rw[Q,<- b7.out];exact World.ownsRow.alloc (d9.out.row n b8) _
  have w7:w.heap.size<=wy.heap.size:=by omega
  obtain⟨H,hH⟩:=exq (h.heap.size);rw[<- hH] at d8 x1;rw[<- Q,<- hH];have h0:=qh Q;clear Q;have D4:=qh hH;clear hH;have uu6:=qh d8;clear d8;have y4:=qh a6;clear a6;have x3:=qh l;clear l;clear b5;refine J.out _ _ (.inr X) ?_;clear J K c
  try simp only[Act.put,tryL]
  refine z0c.on 14 fun K J=>?_;refine wp_append_lies _ (.tmp 71) (.tmp 76) 55 rfl w.heap.size 59 i0 (.agg #[.int .i64 0,.int .i64 0,.string ⟨#[]⟩,.int .i64 0]) 4 40 underlying55 HI.out z7.out y7.out B8.out rfl (by omega) (.slice ra ((revA D q nq (revQ D q)).na n) rc) ((revA D q nq (revQ D q)).na n) _ (by simp[Act.eval]) a2 ⟨H,0,none⟩ 1 1 [.int .i64 (0),.int .i64 (0),.string (fq),.int .i64 (q:Int)] (by simp[Act.eval]) rfl (y6w (cs:=#[.int .i64 (0),.int .i64 (0),.string (fq),.int .i64 (q:Int)]) uu6.out) y8i (by omega) (by unfold maxLen;omega) (by omega) w7 _ rfl ?_;intro go cq we a7 b0 h5 l6;have i9:=v1r (o:=.cells #[.int .i64 (0),.int .i64 (0),.string (fq),.int .i64 (q:Int)] 59) t7 d9.out b8 a7 (by rw[<- h0.out,b7.out];exact b0) (by rw[<- h0.out,b7.out];exact h5.imp id (fun e=>Nat.le_of_eq e.symm));obtain⟨i8,⟨d7,s9⟩,a8,i2⟩:=i9;have U:=(a8 k (L.out k (b2.out k b1.out))).1.trans N.out;have E:=(a8 sb (L.out sb m8.out)).1.trans S.out;rw[b7.out] at d7;have b4:we.cell? ⟨k,3,none⟩=some (.slice (some ⟨g,0,none⟩) (n+1) (n+1))/\we.cell? ⟨g,n*2+1,none⟩=some (.slice ra ((revA D q nq (revQ D q)).na n) rc)/\we.cell? ⟨sb,0,none⟩=some (.string fq):=⟨(cells4 U).1.2.2.2,d7,by simp[World.cell?,E]⟩;have s:RvN F2 w.heap.size g (n+1) ((revA D q nq (revQ D q)).arc n (0) (0) (fq) (q:Int)) wr (we.setCell ⟨g,n*2+1,none⟩ (.slice (some ⟨go,0,none⟩) ((revA D q nq (revQ D q)).na n+1) cq)) :=
   ⟨⟨_,i8,fun b hb=>(a8 b (L.out b hb)).2.2⟩,fun b hb=>(a8 b (L.out b hb)).2.1.trans (d0.out.block b (w3.out b hb)),(d0.out.mono r7).trans i2⟩
  have d3:=qh s;clear s i8 a8 i2 U E a7 b0 h5 l6 a2;refine J.out _ _ (.inr b4) ?_;clear J K X
  try simp only[Act.put,tryL]
  refine z0c.tm 15 b4 ?_;refine z0c.tm 16 b4 ?_
  try simp only[Act.put,tryL]
  refine z0c.on 17 fun K J=>?_;go_simp;refine J.out _ _ (.inl rfl) (z0c.dn ?_);clear J K b4 d7 s9;obtain⟨wf,Z⟩:=exq (we.setCell ⟨g,n*2+1,none⟩ (.slice (some ⟨go,0,none⟩) ((revA D q nq (revQ D q)).na n+1) cq));have s:=d3.out;rw[<- Z,<- C9.out] at s;rw[<- Z];clear Z;have d2:RvN F w.heap.size g (n+1) (revQ D (q+1)) wb wf:=b3.out.trans (s.sub b2.out);have f7:=qh d2;clear d2 s d3;go_wp2;go_roundw
  case rel=>exact⟨q+1,by omega,by go_num,f7.out⟩
  simp[intOf];omega
 have E3:n=q:=by omega
 subst E3;have A3:¬ ((n:Int)<(n:Int)):=by omega
 have W:=(b6.out.2.1 k b1.out).trans A7.out;have f8:=(b6.out.2.1 mb C3.out).trans E1.out;have d4:=j9.out.trans b6.out.2.2;obtain⟨st,v9⟩:∃ st:Nat,D.start=(st:Int):=⟨D.start.toNat,by have:=HV.out.s0;omega⟩;have p9:D.start.toNat=st:=by omega
 have E8:st<n:=by have:=HV.out.s1;have:=HN.out;omega
 obtain⟨h,u⟩:=exq (wr.drew);have a3:Fr (fun _=>False) wr h:=by rw[u];exact(Fr.refl _ _).drew
 have j:Below wr.heap.size wr h:=a3.below nlr (fun _ e=>e.elim);have p7:=b6.out.1.kept j;have I:=(j.block _ (lt_of_block W)).trans W;have d1:=(j.block _ (lt_of_block f8)).trans f8;have g9:=d4.trans (j.mono d4.size);rw[v9] at d1;have c:h.cell? ⟨k,3,none⟩=some (.slice (some ⟨g,0,none⟩) (n+1) (n+1))/\h.cell? ⟨mb,0,none⟩=some (.int .i64 D.kind)/\h.cell? ⟨mb,1,none⟩=some (.int .i64 (st:Int)):=⟨(cells4 I).1.2.2.2,(cells4 d1).1.1,(cells4 d1).1.2.1⟩;have l0:(st:Int)<(n:Int)+1:=by omega
 have F1:(0:Int)<=(st:Int):=by omega
 have A4:=qh p7;clear p7;have N:=qh I;clear I W;have r9:=qh d1;clear d1 f8;have c8:=qh g9;clear g9 d4 j a3;have F5:=qh v9;clear v9;have z8:=qh p9;clear p9
 go_wp2_with fail
 refine z0g (fun wk=>wk.cell? ⟨k,3,none⟩=some (.slice (some ⟨g,0,none⟩) (n+1) (n+1))/\wk.cell? ⟨mb,0,none⟩=some (.int .i64 D.kind)/\wk.cell? ⟨mb,1,none⟩=some (.int .i64 (st:Int))) 9 (by kernel_rfl) ?_;rw[<- u];clear u;refine z0c.tm 0 c ?_;refine z0c.tm 1 c ?_;refine z0c.tm 2 c ?_;refine z0c.tm 3 c ?_;refine z0c.tm 4 c ?_;refine z0c.tm 5 c ?_
 try simp only[Act.put,tryL]
 refine z0c.on 6 fun K J=>?_;go_simp;refine(z7a D.kind h).mono ?_;rintro r we ⟨rfl,i4⟩;have y9:=A4.out.kept i4;have U:=(i4.block _ (lt_of_block N.out)).trans N.out;have h3:=(i4.block _ (lt_of_block r9.out)).trans r9.out;have o3:=c8.out.trans (i4.mono c8.out.size);have X:we.cell? ⟨k,3,none⟩=some (.slice (some ⟨g,0,none⟩) (n+1) (n+1))/\we.cell? ⟨mb,0,none⟩=some (.int .i64 D.kind)/\we.cell? ⟨mb,1,none⟩=some (.int .i64 (st:Int)):=⟨(cells4 U).1.2.2.2,(cells4 h3).1.1,(cells4 h3).1.2.1⟩;obtain⟨R,Y,G⟩:=y9;have d6:(revQ D n).n=n+1:=by rw[(z2s D n).n,HN.out];rfl
 have C8:we.cell? ⟨g,st*2,none⟩=some (.string ((revQ D n).fin st)):=Y.fin_cell (by rw[d6];omega);have D9:=z6a Y.top (st*2);have a1:=Y.setFin (q:=st) (by rw[d6];omega) (oneF D.kind);have o8:k≠g:=fun e=>(G k b1.out).2.1 (by rw[e];rfl);have y2:=World.ownsRow.lt Y.top g rfl;refine J.out _ _ (.inr X) ?_;clear J K c i4;obtain⟨on,l1⟩:=exq (oneF D.kind);rw[<- l1] at a1;rw[<- l1];have D2:=qh l1;clear l1;have p6:=qh a1;clear a1 Y;have B3:=qh U;clear U;have B6:=qh o3;clear o3 h3;have j4:=qh d6;clear d6;have L:=qh G;clear G
 try simp only[Act.put,tryL]
 refine z0c.tm 7 X ?_;refine z0c.tm 8 X ?_
 try simp only[Act.put,tryL]
 refine z0c.on 9 fun K J=>?_;go_simp;refine J.out _ _ (.inl rfl) (z0c.dn ?_);clear J K X C8 D9;obtain⟨wf,Z⟩:=exq (we.setCell ⟨g,st*2,none⟩ (.string on));have g0:(revQ D n).setFin st on=revD D:=by
  unfold revD;rw[z8.out,<- HN.out,<- D2.out]
 have a1:=p6.out;rw[<- Z,g0] at a1;have i3:wf.heap[k]?=some (.cells #[.int .i64 D.kind,.int .i64 (n:Int),.string D.lead,.slice (some ⟨g,0,none⟩) (n+1) (n+1)] 24 (0,0)):=by rw[Z,z0e o8];exact B3.out
 have g2:Below w.heap.size w wf:=by rw[Z];exact B6.out.setCell (p:=⟨g,st*2,none⟩) y2.1 _
 rw[<- Z];clear Z g0 y2 o8;have r4:(revD D).kind=D.kind:=(z2s D D.n).kind;have o5:(revD D).start=(n:Int):=by rw[HN.out];exact(z2s D D.n).start
 have r6:(revD D).lead=D.lead:=(z2s D D.n).lead;have n5:Ma none wf (.agg #[.int .i64 D.kind,.int .i64 (n:Int),.string D.lead,.slice (some ⟨g,0,none⟩) (n+1) (n+1)]) (revD D):=by
  refine⟨.slice (some ⟨g,0,none⟩) (n+1) (n+1),by rw[r4,o5,r6],?_⟩;have h1:=a1.sts;rw[show (revQ D n).n=n+1 from j4.out] at h1;exact h1
 have A8:=qh (z1t wf n5 (x9k HV.out x8.out) (HT.out.below g2 nlr));obtain⟨⟨r0,r1,r2,r3⟩,_⟩:=cells4 i3;have i7:OwM wf w.heap.size (.slice (some ⟨g,0,none⟩) (n+1) (n+1)) (revD D) R:=by
  have h1:=a1;rw[show (revQ D n).n=n+1 from j4.out] at h1;exact h1
 have s8:=qh i7;clear i7 a1 p6;have n6:=qh i3;clear i3;have f4:=qh g2;clear g2 n5 r4 o5 r6
 go_wp2_with fail
 clear r0 r1 r2 r3;refine A8.out.mono ?_;rintro r wg ⟨l2,hr⟩;have i5:=(l2.block _ (lt_of_block n6.out)).trans n6.out;have y0:=qh (s8.out.kept (z0b l2 none) (by simp));have B9:=qh (f4.out.trans (l2.mono f4.out.size));clear l2 A8 f4;obtain⟨⟨r0,r1,r2,r3⟩,rz⟩:=cells4 i5;have f0:=rz 0;have f1:=rz 1;have f2:=rz 2;have f3:=rz 3;clear rz;have g5:=qh i5;clear i5
 rcases hr with ⟨hq,rfl⟩|⟨hq,rfl⟩
 ·have HQ:=qh hq;clear hq;have s4:=qh (y0.out.box4 g5.out (.int .i64 D.kind) (.int .i64 (n:Int)) (.string D.lead) (.slice (some ⟨g,0,none⟩) (n+1) (n+1)))
  go_wp2_with fail
  refine bodyPost_ret (z0j rfl _ (b:=k) rfl rfl (z0w wg k _ _ _ _ g5.out)) rfl ⟨z0d B9.out k9 _ _ _ _,.inl ⟨HV.out,HQ.out,.slice (some ⟨g,0,none⟩) (n+1) (n+1),R,?_,s4.out⟩⟩;rw[<- HN.out];rfl
 have HQ:=qh hq;clear hq
 go_wp2_with fail
 exact bodyPost_ret (z0j rfl _ (b:=k) rfl rfl (z0w wg k _ _ _ _ g5.out)) rfl ⟨z0d B9.out k9 _ _ _ _,.inr (.inl ⟨HV.out,HQ.out,rfl⟩)⟩
end
section
open Go.RowKit Go.Deep
theorem u0t {z B I n:Nat} {u s:Nat->Int} (w:World) (h:R2P z B I n u s w) (i o:Int) (D:0<=i) (C:i<=500) (k0:0<=o) (F:o<=500) :
  Calls prog 71 #[.int .i64 i,.int .i64 o,.pointer (some ⟨z,0,none⟩)] w (fun r w'=>r=.returned (.tuple #[.int .i64 (mapF n u s i),.int .i64 (mapF n u s o)])/\Below w.heap.size w w'):=by
 obtain⟨p,k⟩:=exq (w.drew);have hf:Fr (fun _=>False) w p:=by rw[k];exact(Fr.refl _ _).drew
 have A:=h.kept hf (fun e=>e) (fun e=>e) (fun e=>e);have c:p.cell? ⟨z,0,none⟩=some (.func (.func 70) #[] #[.pointer (some ⟨B,0,none⟩)]):=by simp[World.cell?,A.1]
 have m:=qh (v0u p A.2 i D C);have j:=qh (v0u p A.2 o k0 F);have J:=qh (hf.below nlr (fun _ e=>e.elim));clear hf A h D C k0 F;obtain⟨E,l⟩:=exq (mapF n u s i);obtain⟨G,g⟩:=exq (mapF n u s o);rw[<- l,<- g];rw[<- l] at m;rw[<- g] at j;clear l g
 go_enter func71,ntmps71
 go_wp2_with fail
 refine z0g (fun H=>H.cell? ⟨z,0,none⟩=some (.func (.func 70) #[] #[.pointer (some ⟨B,0,none⟩)])) 7 (by kernel_rfl) ?_;rw[<- k];clear k;refine z0c.tm 0 c ?_;refine z0c.tm 1 c ?_;refine z0c.tm 3 c ?_;refine z0c.tm 4 c ?_
 try simp only[Act.put,tryL]
 refine z0c.on 2 fun K d=>?_;go_simp;refine m.out.mono ?_;rintro r N ⟨rfl,rfl⟩;refine d.out _ _ (.inr c) ?_;clear d K m
 try simp only[Act.put,tryL]
 refine z0c.on 5 fun K d=>?_;go_simp;refine j.out.mono ?_;rintro r L ⟨rfl,rfl⟩;refine d.out _ _ (.inr c) ?_;clear d K j
 try simp only[Act.put,tryL]
 refine z0c.on 6 fun K d=>?_;go_simp;refine d.out _ _ (.inr c) ?_;clear d K
 try simp only[Act.put,tryL]
 refine z0c.on 7 fun K d=>?_;go_simp;refine d.out _ _ (.inl rfl) (z0c.dn ?_);clear d K;go_wp2;go_ret2;exact⟨rfl,J.out⟩
theorem u0b (j k m n:Nat) (g d:Nat->Int):SymF 71 #[.pointer (some ⟨j,0,none⟩)] (fun i o=>(mapF n g d i,mapF n g d o)) (R2P j k m n g d) :=
 ⟨v4m,fun w h i o s p u l=>by
  rw[show ∀ a b c:Value,(#[a,b]++#[c]:Array Value)=#[a,b,c] from fun _ _ _=>rfl];exact u0t w h i o s p u l⟩
end
section
open Go.RowKit Go.Deep
structure RnI (w0 wr:World) (mb rb ob pb n q:Nat) (mc:Array Value) (pi po:Nat->Int):Prop where
 kb:wr.heap[mb]?=some (.cells mc 24 (0,0))
 kr:wr.heap[rb]?=some (.cells #[.int .i64 0,.int .i64 0,.string ⟨#[]⟩,.slice none 0 0] 24 (0,0))
 rp:R1P ob pb q pi po wr
 be:Below w0.heap.size w0 wr
 lr:w0.heap.size<=rb
 lo:w0.heap.size<=ob
 lp:w0.heap.size<=pb
theorem RnI.new {m w l:World} {c rb i k n q:Nat} {g:Array Value} {j d:Nat->Int} (h:RnI m w c rb i k n q g j d) (hf:Fr (fun _=>False) w l):RnI m l c rb i k n q g j d :=
 ⟨(hf.block c (lt_of_block h.kb) (fun e=>e)).trans h.kb,(hf.block rb (lt_of_block h.kr) (fun e=>e)).trans h.kr,h.rp.kept hf (fun e=>e) (fun e=>e),h.be.trans (hf.below h.be.size (fun _ e=>e.elim)),h.lr,h.lo,h.lp⟩
theorem x6w {D:MD} {mv lv:Value} {n:Nat} {m u:Nat->Int} (w:World) (hM:Ma none w mv D) (g1:MSz D) (hL:PrS none w lv n m u) (hn:n<=1000) (ht:Tab w) :
  Calls prog 32 #[mv,lv] w (MkE (VM D/\RenOk n m u) (D.ren (mapF n m u)) 1 w):=by
 obtain⟨sv,rfl,hS⟩:=hM;obtain⟨a,cp,_,_,_,_,_,_,f8,_⟩:=hS.open;subst f8;obtain⟨al,cl,bl,ol,k4,j3,j8,i8,h9,X⟩:=hL.open;subst k4;obtain⟨w1,S⟩:=exq (w.alloc (.cells #[.int .i64 D.kind,.int .i64 D.start,.string D.lead,.slice a D.n cp] 24));obtain⟨w2,Y⟩:=exq (w1.alloc (.cells #[.int .i64 0,.int .i64 0,.string ⟨#[]⟩,.slice none 0 0] 24));have h4:w1.heap.size=w.heap.size+1:=by rw[S];simp
 have i2:Fr (fun _=>False) w w1:=by rw[S];exact Fr.alloc _ _
 have e3:Fr (fun _=>False) w1 w2:=by rw[Y];exact Fr.alloc _ _
 obtain⟨mb,a7⟩:=exq (w.heap.size);obtain⟨B,d1⟩:=exq (w.heap.size+1);obtain⟨mc,e2⟩:∃ mc:Array Value,mc=#[.int .i64 D.kind,.int .i64 D.start,.string D.lead,.slice a D.n cp]:=⟨_,rfl⟩;have d3:w1.heap[mb]?=some (.cells #[.int .i64 D.kind,.int .i64 D.start,.string D.lead,.slice a D.n cp] 24 (0,0)):=by rw[S,a7];exact heap_alloc_new w _
 have d7:w2.heap[mb]?=some (.cells #[.int .i64 D.kind,.int .i64 D.start,.string D.lead,.slice a D.n cp] 24 (0,0)):=(e3.block _ (lt_of_block d3) (fun e=>e)).trans d3;have g5:w2.heap[B]?=some (.cells #[.int .i64 0,.int .i64 0,.string ⟨#[]⟩,.slice none 0 0] 24 (0,0)):=by rw[d1,<- h4,Y];exact heap_alloc_new w1 _
 have b1:Below w.heap.size w w2:=(i2.trans e3).below nlr (fun _ e=>e.elim);have L:w.heap.size<=B:=by omega
 have l0:mb≠B:=by omega
 obtain⟨⟨m0,m1,m2,m3⟩,_⟩:=cells4 d7;have i3:=qh (z1t w2 (⟨_,rfl,hS.kept (z0b b1 none)⟩:Ma none w2 (.agg #[.int .i64 D.kind,.int .i64 D.start,.string D.lead,.slice a D.n cp]) D) g1 (ht.below b1 nlr));have HS:=qh hS;clear hS;have j9:=qh g1;clear g1;have HT:=qh ht;clear ht;have HA:=qh j3;clear j3;have i9:=qh h9;clear h9;have j2:=qh X;clear X hL;have K:=qh g5;clear g5;have e9:=qh d7;clear d7 d3;have e8:=qh b1;clear b1 i2 e3 h4;clear j8 i8;have l1:=@run_makeMap prog;rw[Y,S] at m0 m1 m2 m3;rw[a7] at m0 m1 m2 m3
 go_enter func32,ntmps32
 go_wp2_with fail
 rw[<- S,<- Y,<- d1,<- a7];clear m0 m1 m2 m3 S Y d1 a7;refine i3.out.mono ?_;rintro r w4 ⟨b3,hr⟩;have h8:=(b3.block _ (lt_of_block e9.out)).trans e9.out;have a1:=(b3.block _ (lt_of_block K.out)).trans K.out;have T:=qh (e8.out.trans (b3.mono e8.out.size));clear b3 e9 K i3 e8;have b0:=qh h8;clear h8;have E:=qh a1;clear a1
 rcases hr with ⟨hv,rfl⟩|⟨hv,rfl⟩
 rotate_left
 ·have HV:=qh hv;clear hv;obtain⟨⟨r0,r1,r2,r3⟩,G⟩:=cells4 E.out;have f0:=G 0;have f1:=G 1;have f2:=G 2;have f3:=G 3;clear G
  go_wp2_with fail
  exact bodyPost_ret (z0j rfl _ (b:=B) rfl rfl (z0w w4 B _ _ _ _ E.out)) rfl ⟨z0d T.out L _ _ _ _,.inr ⟨fun h=>HV.out h.1,rfl⟩⟩
 have HV:=qh hv;clear hv;obtain⟨Q,d6⟩:=exq (w4.heap.size);obtain⟨w5,W⟩:=exq (w4.alloc (.map #[] 0));obtain⟨w6,a8⟩:=exq (w5.alloc (.cells #[.map (some Q)] 91));have g9:w5.heap.size=w4.heap.size+1:=by rw[W];simp
 obtain⟨Z,e6⟩:=exq (w4.heap.size+1);have g4:Fr (fun _=>False) w4 w5:=by rw[W];exact Fr.alloc _ _
 have e5:Fr (fun _=>False) w5 w6:=by rw[a8];exact Fr.alloc _ _
 have c8:MpM w5 Q 0 m u:=by rw[W,d6];exact MpM.made w4 m u
 have j1:w6.heap[Z]?=some (.cells #[.map (some Q)] 91 (0,0)):=by rw[e6,<- g9,a8];exact heap_alloc_new w5 _
 have a3:RnI w w6 mb B Z Q n 0 mc m u:=by
  have f4:=g4.trans e5;rw[<- e2] at b0;exact⟨(f4.block mb (lt_of_block b0.out) (fun e=>e)).trans b0.out,(f4.block B (lt_of_block E.out) (fun e=>e)).trans E.out,⟨j1,c8.kept e5 (fun e=>e)⟩,T.out.trans (f4.below T.out.size (fun _ e=>e.elim)),L,by have:=T.out.size;omega,by have:=T.out.size;omega⟩
 have H:=qh a3;clear a3 j1 c8 g4 e5 g9 b0 E T
 go_wp2_with fail
 rw[<- e6,<- d6,<- W,<- a8];clear d6 W a8 e6;have k2:=qh e2;clear e2
 go_loopw [19] (fun f5 j5=>∃ q:Nat,q<=n/\f5=.int .i64 (q:Int)/\(∀ j,j<q->1<=m j/\m j<=500/\0<=u j/\u j<=500)/\RnI w j5 mb B Z Q n q mc m u) (fun f5 _=>n-(intOf f5).toNat)
 case atStart=>exact⟨0,Nat.zero_le _,rfl,fun j hj=>absurd hj (Nat.not_lt_zero _),H.out⟩
 obtain⟨q,hq,rfl,g6,a3⟩:=hrel;clear H;have d8:=qh g6;clear g6;have H:=qh a3;clear a3;by_cases d9:q<n
 ·have l4:(q:Int)<(n:Int):=by omega
  have k7:(0:Int)<=(q:Int):=by omega
  obtain rfl:=HA.out (by omega);have c0:=(H.out.be.cell (p:=⟨bl,ol+q*2,none⟩) (i9.out (by omega)).1).trans (j2.out q d9).1;have c1:=(H.out.be.cell (p:=⟨bl,ol+q*2+1,none⟩) (i9.out (by omega)).1).trans (j2.out q d9).2;obtain⟨F,d5⟩:=exq (m q);obtain⟨I,f9⟩:=exq (u q);rw[<- d5] at c0;rw[<- f9] at c1;have a5:=qh d5;clear d5;have d0:=qh f9;clear f9;obtain⟨z,l⟩:=exq (wr.alloc (.cells #[.int .i64 F,.int .i64 I] 50));obtain⟨eb,h3⟩:=exq (wr.heap.size);have a9:Fr (fun _=>False) wr z:=by rw[l];exact Fr.alloc _ _
  have b2:z.heap[eb]?=some (.cells #[.int .i64 F,.int .i64 I] 50 (0,0)):=by rw[l,h3];exact heap_alloc_new wr _
  have O:=H.out.new a9;have e0:z.cell? ⟨eb,0,none⟩=some (.int .i64 F):=by simp[World.cell?,b2]
  have e1:z.cell? ⟨eb,1,none⟩=some (.int .i64 I):=by simp[World.cell?,b2]
  have o0:z.cell? ⟨Z,0,none⟩=some (.map (some Q)):=by simp[World.cell?,O.rp.1]
  obtain⟨⟨r0,r1,r2,r3⟩,G⟩:=cells4 O.kr;have f0:=G 0;have f1:=G 1;have f2:=G 2;have f3:=G 3;have l8:=qh b2;clear b2;have d:=qh O;clear O;have c7:¬ (1<=F/\F<=500/\0<=I/\I<=500)->¬ RenOk n m u:=fun h hr=>h (by rw[a5.out,d0.out];exact hr q d9);have P:=qh c7;clear c7;rw[l] at e0 e1 o0 r0 r1 r2 r3 f0 f1 f2 f3;clear G;rw[h3] at e0 e1;by_cases h1:F<1
  ·have J:=qh (P.out (by omega))
   go_wp2_with fail
   rw[<- l];exact bodyPost_ret (z0j rfl _ (b:=B) rfl rfl (z0w z B _ _ _ _ d.out.kr)) rfl ⟨z0d d.out.be L _ _ _ _,.inr ⟨fun h=>J.out h.2,rfl⟩⟩
  have l5:decide (F<1)=false:=by simp;omega
  by_cases h5:(500:Int)<F
  ·have J:=qh (P.out (by omega));clear h1
   go_wp2_with fail
   rw[<- l];exact bodyPost_ret (z0j rfl _ (b:=B) rfl rfl (z0w z B _ _ _ _ d.out.kr)) rfl ⟨z0d d.out.be L _ _ _ _,.inr ⟨fun h=>J.out h.2,rfl⟩⟩
  have l2:decide ((500:Int)<F)=false:=by simp;omega
  by_cases h6:I<0
  ·have J:=qh (P.out (by omega));clear h1 h5
   go_wp2_with fail
   rw[<- l];exact bodyPost_ret (z0j rfl _ (b:=B) rfl rfl (z0w z B _ _ _ _ d.out.kr)) rfl ⟨z0d d.out.be L _ _ _ _,.inr ⟨fun h=>J.out h.2,rfl⟩⟩
  have l3:decide (I<0)=false:=by simp;omega
  by_cases g:(500:Int)<I
  ·have J:=qh (P.out (by omega));clear h1 h5 h6
   go_wp2_with fail
   rw[<- l];exact bodyPost_ret (z0j rfl _ (b:=B) rfl rfl (z0w z B _ _ _ _ d.out.kr)) rfl ⟨z0d d.out.be L _ _ _ _,.inr ⟨fun h=>J.out h.2,rfl⟩⟩
  have l7:decide ((500:Int)<I)=false:=by simp;omega
  have b7:1<=F/\F<=500/\0<=I/\I<=500:=by omega
  have HR:=qh b7;clear b7 h1 h5 h6 g;clear r0 r1 r2 r3 f0 f1 f2 f3;have b5:=d.out.rp.2.look (s:=F) (by have:=HR.out;omega) (by have:=HR.out;omega);rw[l] at b5;have b6:∀ j,j<q+1->1<=m j/\m j<=500/\0<=u j/\u j<=500:=fun j hj=>by
   by_cases e:j=q
   ·subst e;rw[<- a5.out,<- d0.out];exact HR.out
   exact d8.out j (by omega)
  have b8:=qh b6;clear b6;obtain⟨gd,g8⟩:∃ gd,gd=(mpO m u q F).getD 0:=⟨_,rfl⟩;rw[<- g8] at b5;clear g8;cases C:(mpO m u q F).isSome
  ·rw[C] at b5;obtain⟨D1,A,i7,h2⟩:=d.out.rp.2;rw[l] at A;have HM:=qh C;clear C;have a2:=qh A;clear A;have k5:=qh i7;clear i7;have k1:=qh h2;clear h2;have c9:=keyM (s:=F) (by have:=HR.out;omega) (by have:=HR.out;omega);have g7:=qh c9;clear c9;have h0:=u3z (s:=I) (by have:=HR.out;omega) (by have:=HR.out;omega);have j6:=qh h0;clear h0;have e4:=qh l
   go_wp2_with (at_mapUpdate;refine wpList_mapUpdate_own _ rfl _ _ _ 91 rfl 3 3 u2v underlying91 _ Q q D1 rfl a2.out (by unfold maxLen;omega) _ _ (.int .i64 F) rfl rfl g7.out (.lit (.int .i64 I)) [] j6.out ?_;intro w8 U N;have k3:=qh U;clear U;have j4:=qh N;clear N)
   go_roundw
   case rel =>
    have j0:=j4.out;rw[<- e4.out] at j0;have b4:Fr (fun k=>k=Q) z w8:=Fr.of_gb j0 (fun k e=>by cases e;rfl);have g:=d.out;have g2:∀ b c t f,z.heap[b]?=some (.cells c t f)->¬ b=Q:=fun b c t f hb e=>g.rp.2.block hb e;have g0:mpO m u q (m q)=none:=by
     have:=HM.out;rw[a5.out] at this;cases e:mpO m u q (m q) with
     | none=>rfl
     | some t=>rw[e] at this;cases this
    refine⟨q+1,by omega,by go_num,b8.out,⟨(b4.block mb (lt_of_block g.kb) (g2 _ _ _ _ g.kb)).trans g.kb,(b4.block B (lt_of_block g.kr) (g2 _ _ _ _ g.kr)).trans g.kr,⟨(b4.block Z (lt_of_block g.rp.1) (g2 _ _ _ _ g.rp.1)).trans g.rp.1,MpM.put k5.out k1.out g0 (by rw[<- a5.out,<- d0.out];exact k3.out)⟩,g.be.trans (b4.below g.be.size (fun k e=>by rw[e];exact g.lp)),g.lr,g.lo,g.lp⟩⟩
   simp[intOf];omega
  rw[C] at b5;have HM:=qh C;clear C;have e4:=qh l;go_wp2;go_roundw
  case rel =>
   have g:=d.out;rw[e4.out] at g;refine⟨q+1,by omega,by go_num,b8.out,⟨g.kb,g.kr,⟨g.rp.1,g.rp.2.same (by rw[<- a5.out];exact HM.out)⟩,g.be,g.lr,g.lo,g.lp⟩⟩
  simp[intOf];omega
 have j7:q=n:=by omega
 have k9:¬ ((q:Int)<(n:Int)):=by omega
 have b9:RenOk n m u:=fun i hi=>d8.out i (by omega);have a4:=H.out;rw[j7] at a4;have i6:=qh b9;clear b9 d8 H;obtain⟨fb,e7⟩:=exq (wr.heap.size);obtain⟨z,l⟩:=exq (wr.alloc (.cells #[.func (.func 70) #[] #[.pointer (some ⟨Z,0,none⟩)]] 93));have a9:Fr (fun _=>False) wr z:=by rw[l];exact Fr.alloc _ _
 have i4:z.heap[fb]?=some (.cells #[.func (.func 70) #[] #[.pointer (some ⟨Z,0,none⟩)]] 93 (0,0)):=by rw[l,e7];exact heap_alloc_new wr _
 have g:=a4.new a9;have g3:R2P fb Z Q n m u z:=⟨i4,g.rp⟩;have f7:=g.kb;rw[k2.out] at f7;have d2:=z6g (φ:=fun i o=>(mapF n m u i,mapF n m u o)) z (⟨_,rfl,HS.out.kept (z0b g.be none)⟩:Ma none z (.agg #[.int .i64 D.kind,.int .i64 D.start,.string D.lead,.slice a D.n cp]) D) j9.out (HT.out.below g.be nlr) (u0b fb Z Q n m u) g3 (fun wb hb=>g3.kept (Fr.of_below hb:Fr (fun _=>False) z wb) (fun e=>e) (fun e=>e) (fun e=>e));rw[u1w] at d2;obtain⟨⟨m0,m1,m2,m3⟩,_⟩:=cells4 f7;rw[l] at m0 m1 m2 m3;have i5:=qh d2;clear d2;have K:=qh g.kr;have a6:=qh g.be;clear g a4 g3 i4 f7 a9
 go_wp2_with fail
 rw[<- e7,<- l];clear m0 m1 m2 m3 e7 l;refine i5.out.mono ?_;rintro r w8 ⟨d4,hr⟩;have a1:=(d4.block _ (lt_of_block K.out)).trans K.out;have k0:=qh (a6.out.trans (d4.mono a6.out.size));have k6:w.heap.size<=z.heap.size:=a6.out.size;clear d4 K i5 a6;have E:=qh a1;clear a1;obtain⟨⟨r0,r1,r2,r3⟩,G⟩:=cells4 E.out;have f0:=G 0;have f1:=G 1;have f2:=G 2;have f3:=G 3;clear G
 rcases hr with ⟨_,l6,R,rfl,A⟩|⟨g0,_⟩
 rotate_left
 ·exact absurd HV.out g0
 obtain⟨sa,sc,f8,_,_⟩:=z1e A.top;subst f8;have a2:=qh (z4c (A.box4 E.out (.int .i64 (D.ren (mapF n m u)).kind) (.int .i64 (D.ren (mapF n m u)).start) (.string (D.ren (mapF n m u)).lead) (.slice sa (D.ren (mapF n m u)).n sc)) k6);clear A
 go_wp2_with fail
 exact bodyPost_ret (z0j rfl _ (b:=B) rfl rfl (z0w w8 B _ _ _ _ E.out)) rfl ⟨z0d k0.out L _ _ _ _,.inl ⟨⟨HV.out,i6.out⟩,_,R,rfl,a2.out⟩⟩
end
end Go.Proofs.YteappjogmnogcaaGreatDoor
