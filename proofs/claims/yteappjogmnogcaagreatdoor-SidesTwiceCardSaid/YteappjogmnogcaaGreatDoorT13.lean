/- Parts of a proof: SdC BlG AccW R8L SilZ SidM WgD AccX SdD RnL ExS. -/
import Derived.Test.YteappjogmnogcaaGreatDoorT12
import Derived.Test.YteappjogmnogcaaGreatDoorT09
import Derived.Test.YteappjogmnogcaaGreatDoorT11
import Derived.Maps.Own
import Derived.Maps.Views
import Derived.Test.YteappjogmnogcaaGreatDoorT10
namespace Go.Proofs.YteappjogmnogcaaGreatDoor
set_option maxRecDepth 100000
set_option linter.unusedSimpArgs false
set_option linter.unusedVariables false
set_option linter.unusedSectionVars false
set_option maxHeartbeats 16000000
open Go Tryz
section
open Go.RowKit Go.Deep
theorem v8s:∀ args w,(callFunc 99 args).run prog w=.ok (.enter 99 args) w:=fun args w=>by kernel_rfl
theorem u1p:∀ args w,(callFunc 100 args).run prog w=.ok (.enter 100 args) w:=fun args w=>by kernel_rfl
theorem u1q:∀ args w,(callFunc 101 args).run prog w=.ok (.enter 101 args) w:=fun args w=>by kernel_rfl
theorem u3p (w:World) (i o:Int):Calls prog 99 #[.int .i64 i,.int .i64 o] w (fun r w'=>r=.returned (.tuple #[.int .i64 o,.int .i64 i])/\w'=w):=by
 go_enter func99,ntmps99
 go_wp2;go_ret2;exact⟨rfl,rfl⟩
theorem u2f (w:World) (i o:Int):Calls prog 100 #[.int .i64 i,.int .i64 o] w (fun r w'=>r=.returned (.tuple #[.int .i64 i,.int .i64 i])/\w'=w):=by
 go_enter func100,ntmps100
 go_wp2;go_ret2;exact⟨rfl,rfl⟩
theorem u2s (w:World) (i o:Int):Calls prog 101 #[.int .i64 i,.int .i64 o] w (fun r w'=>r=.returned (.tuple #[.int .i64 o,.int .i64 o])/\w'=w):=by
 go_enter func101,ntmps101
 go_wp2;go_ret2;exact⟨rfl,rfl⟩
theorem y4x {nf:FuncId} {φ:Int->Int->Int × Int} (c:∀ args w,(callFunc nf args).run prog w=.ok (.enter nf args) w) (h:∀ w i o,Calls prog nf #[.int .i64 i,.int .i64 o] w (fun r w'=>r=.returned (.tuple #[.int .i64 (φ i o).1,.int .i64 (φ i o).2])/\w'=w)):SymF nf #[] φ (fun _=>True) :=
 ⟨c,fun w _ i o _ _ _ _=>by
  rw[show ∀ a b:Value,(#[a,b]++#[]:Array Value)=#[a,b] from fun _ _=>rfl];exact(h w i o).mono fun r w' h=>⟨h.1,by rw[h.2];exact blr⟩⟩
theorem x6x {fn:Func} {p:Tmp} (h:fn.results=#[.cell p 70]) (c:Array Value) {w:World} {b:Nat} {i d g:FuncId} (m:c.getD p undef=.pointer (some ⟨b,0,none⟩)) (hb:w.heap[b]?=some (.cells #[.func (.func i) #[] #[],.func (.func d) #[] #[],.func (.func g) #[] #[]] 70 (0,0))) :
  (results fn c).run prog w=.ok (.agg #[.func (.func i) #[] #[],.func (.func d) #[] #[],.func (.func g) #[] #[]]) w:=by
 rw[z7w h,m];show ((loadVar 70 ⟨b,0,none⟩).run prog w)=_;have l:w.rangeAt b 0 [.func (.func i) #[] #[],.func (.func d) #[] #[],.func (.func g) #[] #[]]:=by
  intro j v k;have o:j<3:=by have:=(List.getElem?_eq_some_iff.1 k).1;simpa using this
  have:j=0\/j=1\/j=2:=by omega
  rcases this with rfl|rfl|rfl<;>(simp at k;subst k;simp[World.cell?,hb])
 exact run_loadVar_mid (P:=prog) w b 0 70 [.func (.func i) #[] #[],.func (.func d) #[] #[],.func (.func g) #[] #[]] _ l underlying70 rfl (by kernel_rfl)
theorem z9s (w:World):Calls prog 47 #[] w (fun r w'=>r=.returned (.agg #[.func (.func 99) #[] #[],.func (.func 100) #[] #[],.func (.func 101) #[] #[]])/\Below w.heap.size w w'):=by
 have c:=(Below.refl w.heap.size w).alloc nlr (.cells #[.func (.func 99) #[] #[],.func (.func 100) #[] #[],.func (.func 101) #[] #[]] 70);have d:=qh c;clear c
 go_enter func47,ntmps47
 go_wp2_with fail
 refine bodyPost_ret (x6x rfl _ (b:=w.heap.size) rfl (heap_alloc_new w _)) rfl ⟨rfl,d.out⟩
theorem z3s {w:World} {B d:Nat} {sv:Value} {D:MD} {R:Nat->Value} (h:OwM w B sv D R) (m:d<=B):OwM w d sv D R :=
 have k:∀ {e:TypeId} {s n:Nat} {v:Value} {xs:List Value},w.ownsRow B e s v n xs->w.ownsRow d e s v n xs:=fun h=>⟨h.1,h.2.imp id (fun ⟨g,c,j,l,p,o⟩=>⟨g,c,j,l,Nat.le_trans m p,o⟩)⟩
 ⟨k h.top,fun i hi=>k (h.row i hi),h.apart⟩
theorem y1d {D:MD} {mv:Value} (w:World) (hM:Ma none w mv D) (b6:MSz D) (ht:Tab w):Calls prog 16 #[mv] w (MkE (VM D) D.inv 1 w):=by
 obtain⟨sv,rfl,hS⟩:=hM;obtain⟨a,L,_,_,_,_,_,_,W,_⟩:=hS.open;subst W;obtain⟨I,z⟩:=exq (w.alloc (.cells #[.int .i64 D.kind,.int .i64 D.start,.string D.lead,.slice a D.n L] 24));obtain⟨w2,H⟩:=exq (I.alloc (.cells #[.int .i64 0,.int .i64 0,.string ⟨#[]⟩,.slice none 0 0] 24));obtain⟨wd,N⟩:=exq (w2.drew);have b1:I.heap.size=w.heap.size+1:=by rw[z];simp
 have b7:Fr (fun _=>False) w I:=by rw[z];exact Fr.alloc _ _
 have a4:Fr (fun _=>False) I wd:=by rw[N,H];exact(Fr.alloc _ _).drew
 obtain⟨g,T⟩:=exq (w.heap.size);obtain⟨h,a6⟩:=exq (w.heap.size+1);have a3:I.heap[g]?=some (.cells #[.int .i64 D.kind,.int .i64 D.start,.string D.lead,.slice a D.n L] 24 (0,0)):=by rw[z,T];exact heap_alloc_new w _
 have Y:wd.heap[g]?=some (.cells #[.int .i64 D.kind,.int .i64 D.start,.string D.lead,.slice a D.n L] 24 (0,0)):=(a4.block _ (lt_of_block a3) (fun e=>e)).trans a3;have d0:wd.heap[h]?=some (.cells #[.int .i64 0,.int .i64 0,.string ⟨#[]⟩,.slice none 0 0] 24 (0,0)):=by rw[N,a6,<- b1];show w2.heap[I.heap.size]?=_;rw[H];exact heap_alloc_new I _
 have b0:Below w.heap.size w wd:=(b7.trans a4).below nlr (fun _ e=>e.elim);have c7:w.heap.size<=h:=by omega
 have j:g≠h:=by omega
 have b3:=(cells4 Y).1;have HS:=qh hS;clear hS;have d2:=qh b6;clear b6;have HT:=qh ht;clear ht;have S:=qh d0;clear d0;have u:=qh Y;clear Y a3;have a5:=qh b0;clear b0 b7 a4 b1
 go_enter func16,ntmps16
 go_wp2_with fail
 refine z0g (fun wk=>wk.cell? ⟨g,0,none⟩=some (.int .i64 D.kind)/\wk.cell? ⟨g,1,none⟩=some (.int .i64 D.start)/\wk.cell? ⟨g,2,none⟩=some (.string D.lead)/\wk.cell? ⟨g,3,none⟩=some (.slice a D.n L)) 7 (by kernel_rfl) ?_;rw[<- z,<- H,<- N,<- a6,<- T];clear z H N a6 T;refine z0c.tm 2 b3 ?_
 try simp only[Act.put,tryL]
 refine z0c.on 0 fun K d=>?_;go_simp;refine(z9s _).mono ?_;rintro r w3 ⟨rfl,A⟩;have a2:w3.cell? ⟨g,0,none⟩=some (.int .i64 D.kind)/\w3.cell? ⟨g,1,none⟩=some (.int .i64 D.start)/\w3.cell? ⟨g,2,none⟩=some (.string D.lead)/\w3.cell? ⟨g,3,none⟩=some (.slice a D.n L):=(cells4 ((A.block _ (lt_of_block u.out)).trans u.out)).1;have a7:=(A.block _ (lt_of_block u.out)).trans u.out;have c9:=(A.block _ (lt_of_block S.out)).trans S.out;have l:=a5.out.trans (A.mono a5.out.size);have U:=z6p (φ:=fun i o=>(o,i)) w3 (⟨_,rfl,HS.out.kept (z0b l none)⟩:Ma none w3 (.agg #[.int .i64 D.kind,.int .i64 D.start,.string D.lead,.slice a D.n L]) D) d2.out (HT.out.below l nlr) (y4x v8s (fun w i o=>u3p w i o)) trivial (fun _ _=>trivial);rw[v9h] at U;refine d.out _ _ (.inr a2) ?_;clear d K b3 A;have a8:=qh U;clear U;have Q:=qh c9;clear c9 S;have m:=qh a7;clear a7 u;have G:=qh l;clear l a5
 try simp only[Act.put,tryL]
 have d1:∀ w,(Instr.index 70 (.agg #[.func (.func 99) #[] #[],.func (.func 100) #[] #[],.func (.func 101) #[] #[]]) (.int .i64 0)).run prog w=.ok (.agg #[.func (.func 99) #[] #[]]) w:=fun _=>by kernel_rfl
 refine z0c.tm 1 a2 ?_
 try simp only[Act.put,tryL]
 clear d1;refine z0c.on 3 fun K d=>?_;go_simp;refine a8.out.mono ?_;rintro r P ⟨B,hr⟩;have k:P.cell? ⟨g,0,none⟩=some (.int .i64 D.kind)/\P.cell? ⟨g,1,none⟩=some (.int .i64 D.start)/\P.cell? ⟨g,2,none⟩=some (.string D.lead)/\P.cell? ⟨g,3,none⟩=some (.slice a D.n L):=(cells4 ((B.block _ (lt_of_block m.out)).trans m.out)).1;have b4:=(B.block _ (lt_of_block m.out)).trans m.out;have a9:=(B.block _ (lt_of_block Q.out)).trans Q.out;have O:=G.out.trans (B.mono G.out.size);have b2:w.heap.size<=w3.heap.size:=G.out.size;clear B a2;have b9:=qh b4;clear b4 m;have J:=qh a9;clear a9 Q;have c8:=qh O;clear O G a8;obtain⟨⟨r0,r1,r2,r3⟩,rz⟩:=cells4 J.out;have f0:=rz 0;have f1:=rz 1;have f2:=rz 2;have f3:=rz 3;clear rz;unfold z7m at hr
 rcases hr with ⟨hv,d3,R,rfl,p⟩|⟨hv,rfl⟩
 ·have HV:=qh hv;clear hv;obtain⟨sa,sc,W,_,_⟩:=z0y p.top;subst W;have b8:=qh (p.box4 J.out (.int .i64 D.inv.kind) (.int .i64 D.inv.start) (.string D.inv.lead) (.slice sa D.inv.n sc));clear p;refine d.out _ _ (.inr k) ?_;clear d K
  try simp only[Act.put,tryL]
  refine z0c.tm 4 k ?_;refine z0c.tm 5 k ?_
  try simp only[Act.put,tryL]
  refine z0c.on 6 fun K d=>?_;go_simp;obtain⟨C,c⟩:∃ C,C=(((P.setCell ⟨h,0,none⟩ (.int .i64 D.inv.kind)).setCell ⟨h,1,none⟩ (.int .i64 D.inv.start)).setCell ⟨h,2,none⟩ (.string D.inv.lead)).setCell ⟨h,3,none⟩ (.slice sa D.inv.n sc):=⟨_,rfl⟩;have s:C.heap[g]?=some (.cells #[.int .i64 D.kind,.int .i64 D.start,.string D.lead,.slice a D.n L] 24 (0,0)):=by rw[c,z0e j,z0e j,z0e j,z0e j];exact b9.out
  have F:C.heap[h]?=some (.cells #[.int .i64 D.inv.kind,.int .i64 D.inv.start,.string D.inv.lead,.slice sa D.inv.n sc] 24 (0,0)):=by rw[c];exact z0v P h _ _ _ _ J.out
  have E:Below w.heap.size w C:=by rw[c];exact z0d c8.out c7 _ _ _ _
  have Z:=b8.out;rw[<- c] at Z;have b5:=qh Z;clear Z b8;rw[<- c];clear c;refine d.out _ _ (.inr (cells4 s).1) ?_;clear d K s;have X:=qh F;clear F;have a1:=qh E;clear E;clear r0 r1 r2 r3 f0 f1 f2 f3 k
  try simp only[Act.put,tryL]
  refine z0c.on 7 fun K d=>?_;go_simp;refine d.out _ _ (.inl rfl) (z0c.dn ?_);clear d K
  go_wp2_with fail
  refine bodyPost_ret (z0j rfl _ (b:=h) rfl rfl X.out) rfl ⟨a1.out,.inl ⟨HV.out,_,R,rfl,z3s b5.out b2⟩⟩
 have HV:=qh hv;clear hv;refine d.out _ _ (.inr k) ?_;clear d K
 try simp only[Act.put,tryL]
 refine z0c.tm 4 k ?_;refine z0c.tm 5 k ?_
 try simp only[Act.put,tryL]
 refine z0c.on 6 fun K d=>?_;go_simp;obtain⟨C,c⟩:∃ C,C=(((P.setCell ⟨h,0,none⟩ (.int .i64 0)).setCell ⟨h,1,none⟩ (.int .i64 0)).setCell ⟨h,2,none⟩ (.string ⟨#[]⟩)).setCell ⟨h,3,none⟩ (.slice none 0 0):=⟨_,rfl⟩;have s:C.heap[g]?=some (.cells #[.int .i64 D.kind,.int .i64 D.start,.string D.lead,.slice a D.n L] 24 (0,0)):=by rw[c,z0e j,z0e j,z0e j,z0e j];exact b9.out
 have F:C.heap[h]?=some (.cells #[.int .i64 0,.int .i64 0,.string ⟨#[]⟩,.slice none 0 0] 24 (0,0)):=by rw[c];exact z0v P h _ _ _ _ J.out
 have E:Below w.heap.size w C:=by rw[c];exact z0d c8.out c7 _ _ _ _
 rw[<- c];clear c;refine d.out _ _ (.inr (cells4 s).1) ?_;clear d K s;have X:=qh F;clear F;have a1:=qh E;clear E;clear r0 r1 r2 r3 f0 f1 f2 f3 k
 try simp only[Act.put,tryL]
 refine z0c.on 7 fun K d=>?_;go_simp;refine d.out _ _ (.inl rfl) (z0c.dn ?_);clear d K
 go_wp2_with fail
 refine bodyPost_ret (z0j rfl _ (b:=h) rfl rfl X.out) rfl ⟨a1.out,.inr ⟨HV.out,rfl⟩⟩
theorem v1y {D:MD} {mv:Value} (w:World) (hM:Ma none w mv D) (b6:MSz D) (ht:Tab w):Calls prog 21 #[mv] w (MkE (VM D) D.inR 1 w):=by
 obtain⟨sv,rfl,hS⟩:=hM;obtain⟨a,L,_,_,_,_,_,_,W,_⟩:=hS.open;subst W;obtain⟨I,z⟩:=exq (w.alloc (.cells #[.int .i64 D.kind,.int .i64 D.start,.string D.lead,.slice a D.n L] 24));obtain⟨w2,H⟩:=exq (I.alloc (.cells #[.int .i64 0,.int .i64 0,.string ⟨#[]⟩,.slice none 0 0] 24));obtain⟨wd,N⟩:=exq (w2.drew);have b1:I.heap.size=w.heap.size+1:=by rw[z];simp
 have b7:Fr (fun _=>False) w I:=by rw[z];exact Fr.alloc _ _
 have a4:Fr (fun _=>False) I wd:=by rw[N,H];exact(Fr.alloc _ _).drew
 obtain⟨g,T⟩:=exq (w.heap.size);obtain⟨h,a6⟩:=exq (w.heap.size+1);have a3:I.heap[g]?=some (.cells #[.int .i64 D.kind,.int .i64 D.start,.string D.lead,.slice a D.n L] 24 (0,0)):=by rw[z,T];exact heap_alloc_new w _
 have Y:wd.heap[g]?=some (.cells #[.int .i64 D.kind,.int .i64 D.start,.string D.lead,.slice a D.n L] 24 (0,0)):=(a4.block _ (lt_of_block a3) (fun e=>e)).trans a3;have d0:wd.heap[h]?=some (.cells #[.int .i64 0,.int .i64 0,.string ⟨#[]⟩,.slice none 0 0] 24 (0,0)):=by rw[N,a6,<- b1];show w2.heap[I.heap.size]?=_;rw[H];exact heap_alloc_new I _
 have b0:Below w.heap.size w wd:=(b7.trans a4).below nlr (fun _ e=>e.elim);have c7:w.heap.size<=h:=by omega
 have j:g≠h:=by omega
 have b3:=(cells4 Y).1;have HS:=qh hS;clear hS;have d2:=qh b6;clear b6;have HT:=qh ht;clear ht;have S:=qh d0;clear d0;have u:=qh Y;clear Y a3;have a5:=qh b0;clear b0 b7 a4 b1
 go_enter func21,ntmps21
 go_wp2_with fail
 refine z0g (fun wk=>wk.cell? ⟨g,0,none⟩=some (.int .i64 D.kind)/\wk.cell? ⟨g,1,none⟩=some (.int .i64 D.start)/\wk.cell? ⟨g,2,none⟩=some (.string D.lead)/\wk.cell? ⟨g,3,none⟩=some (.slice a D.n L)) 7 (by kernel_rfl) ?_;rw[<- z,<- H,<- N,<- a6,<- T];clear z H N a6 T;refine z0c.tm 2 b3 ?_
 try simp only[Act.put,tryL]
 refine z0c.on 0 fun K d=>?_;go_simp;refine(z9s _).mono ?_;rintro r w3 ⟨rfl,A⟩;have a2:w3.cell? ⟨g,0,none⟩=some (.int .i64 D.kind)/\w3.cell? ⟨g,1,none⟩=some (.int .i64 D.start)/\w3.cell? ⟨g,2,none⟩=some (.string D.lead)/\w3.cell? ⟨g,3,none⟩=some (.slice a D.n L):=(cells4 ((A.block _ (lt_of_block u.out)).trans u.out)).1;have a7:=(A.block _ (lt_of_block u.out)).trans u.out;have c9:=(A.block _ (lt_of_block S.out)).trans S.out;have l:=a5.out.trans (A.mono a5.out.size);have U:=z6p (φ:=fun i _=>(i,i)) w3 (⟨_,rfl,HS.out.kept (z0b l none)⟩:Ma none w3 (.agg #[.int .i64 D.kind,.int .i64 D.start,.string D.lead,.slice a D.n L]) D) d2.out (HT.out.below l nlr) (y4x u1p (fun w i o=>u2f w i o)) trivial (fun _ _=>trivial);rw[v8n] at U;refine d.out _ _ (.inr a2) ?_;clear d K b3 A;have a8:=qh U;clear U;have Q:=qh c9;clear c9 S;have m:=qh a7;clear a7 u;have G:=qh l;clear l a5
 try simp only[Act.put,tryL]
 have d1:∀ w,(Instr.index 70 (.agg #[.func (.func 99) #[] #[],.func (.func 100) #[] #[],.func (.func 101) #[] #[]]) (.int .i64 1)).run prog w=.ok (.agg #[.func (.func 100) #[] #[]]) w:=fun _=>by kernel_rfl
 refine z0c.tm 1 a2 ?_
 try simp only[Act.put,tryL]
 clear d1;refine z0c.on 3 fun K d=>?_;go_simp;refine a8.out.mono ?_;rintro r P ⟨B,hr⟩;have k:P.cell? ⟨g,0,none⟩=some (.int .i64 D.kind)/\P.cell? ⟨g,1,none⟩=some (.int .i64 D.start)/\P.cell? ⟨g,2,none⟩=some (.string D.lead)/\P.cell? ⟨g,3,none⟩=some (.slice a D.n L):=(cells4 ((B.block _ (lt_of_block m.out)).trans m.out)).1;have b4:=(B.block _ (lt_of_block m.out)).trans m.out;have a9:=(B.block _ (lt_of_block Q.out)).trans Q.out;have O:=G.out.trans (B.mono G.out.size);have b2:w.heap.size<=w3.heap.size:=G.out.size;clear B a2;have b9:=qh b4;clear b4 m;have J:=qh a9;clear a9 Q;have c8:=qh O;clear O G a8;obtain⟨⟨r0,r1,r2,r3⟩,rz⟩:=cells4 J.out;have f0:=rz 0;have f1:=rz 1;have f2:=rz 2;have f3:=rz 3;clear rz;unfold z7m at hr
 rcases hr with ⟨hv,d3,R,rfl,p⟩|⟨hv,rfl⟩
 ·have HV:=qh hv;clear hv;obtain⟨sa,sc,W,_,_⟩:=z0y p.top;subst W;have b8:=qh (p.box4 J.out (.int .i64 D.inR.kind) (.int .i64 D.inR.start) (.string D.inR.lead) (.slice sa D.inR.n sc));clear p;refine d.out _ _ (.inr k) ?_;clear d K
  try simp only[Act.put,tryL]
  refine z0c.tm 4 k ?_;refine z0c.tm 5 k ?_
  try simp only[Act.put,tryL]
  refine z0c.on 6 fun K d=>?_;go_simp;obtain⟨C,c⟩:∃ C,C=(((P.setCell ⟨h,0,none⟩ (.int .i64 D.inR.kind)).setCell ⟨h,1,none⟩ (.int .i64 D.inR.start)).setCell ⟨h,2,none⟩ (.string D.inR.lead)).setCell ⟨h,3,none⟩ (.slice sa D.inR.n sc):=⟨_,rfl⟩;have s:C.heap[g]?=some (.cells #[.int .i64 D.kind,.int .i64 D.start,.string D.lead,.slice a D.n L] 24 (0,0)):=by rw[c,z0e j,z0e j,z0e j,z0e j];exact b9.out
  have F:C.heap[h]?=some (.cells #[.int .i64 D.inR.kind,.int .i64 D.inR.start,.string D.inR.lead,.slice sa D.inR.n sc] 24 (0,0)):=by rw[c];exact z0v P h _ _ _ _ J.out
  have E:Below w.heap.size w C:=by rw[c];exact z0d c8.out c7 _ _ _ _
  have Z:=b8.out;rw[<- c] at Z;have b5:=qh Z;clear Z b8;rw[<- c];clear c;refine d.out _ _ (.inr (cells4 s).1) ?_;clear d K s;have X:=qh F;clear F;have a1:=qh E;clear E;clear r0 r1 r2 r3 f0 f1 f2 f3 k
  try simp only[Act.put,tryL]
  refine z0c.on 7 fun K d=>?_;go_simp;refine d.out _ _ (.inl rfl) (z0c.dn ?_);clear d K
  go_wp2_with fail
  refine bodyPost_ret (z0j rfl _ (b:=h) rfl rfl X.out) rfl ⟨a1.out,.inl ⟨HV.out,_,R,rfl,z3s b5.out b2⟩⟩
 have HV:=qh hv;clear hv;refine d.out _ _ (.inr k) ?_;clear d K
 try simp only[Act.put,tryL]
 refine z0c.tm 4 k ?_;refine z0c.tm 5 k ?_
 try simp only[Act.put,tryL]
 refine z0c.on 6 fun K d=>?_;go_simp;obtain⟨C,c⟩:∃ C,C=(((P.setCell ⟨h,0,none⟩ (.int .i64 0)).setCell ⟨h,1,none⟩ (.int .i64 0)).setCell ⟨h,2,none⟩ (.string ⟨#[]⟩)).setCell ⟨h,3,none⟩ (.slice none 0 0):=⟨_,rfl⟩;have s:C.heap[g]?=some (.cells #[.int .i64 D.kind,.int .i64 D.start,.string D.lead,.slice a D.n L] 24 (0,0)):=by rw[c,z0e j,z0e j,z0e j,z0e j];exact b9.out
 have F:C.heap[h]?=some (.cells #[.int .i64 0,.int .i64 0,.string ⟨#[]⟩,.slice none 0 0] 24 (0,0)):=by rw[c];exact z0v P h _ _ _ _ J.out
 have E:Below w.heap.size w C:=by rw[c];exact z0d c8.out c7 _ _ _ _
 rw[<- c];clear c;refine d.out _ _ (.inr (cells4 s).1) ?_;clear d K s;have X:=qh F;clear F;have a1:=qh E;clear E;clear r0 r1 r2 r3 f0 f1 f2 f3 k
 try simp only[Act.put,tryL]
 refine z0c.on 7 fun K d=>?_;go_simp;refine d.out _ _ (.inl rfl) (z0c.dn ?_);clear d K
 go_wp2_with fail
 refine bodyPost_ret (z0j rfl _ (b:=h) rfl rfl X.out) rfl ⟨a1.out,.inr ⟨HV.out,rfl⟩⟩
theorem x6v {D:MD} {mv:Value} (w:World) (hM:Ma none w mv D) (b6:MSz D) (ht:Tab w):Calls prog 22 #[mv] w (MkE (VM D) D.outR 1 w):=by
 obtain⟨sv,rfl,hS⟩:=hM;obtain⟨a,L,_,_,_,_,_,_,W,_⟩:=hS.open;subst W;obtain⟨I,z⟩:=exq (w.alloc (.cells #[.int .i64 D.kind,.int .i64 D.start,.string D.lead,.slice a D.n L] 24));obtain⟨w2,H⟩:=exq (I.alloc (.cells #[.int .i64 0,.int .i64 0,.string ⟨#[]⟩,.slice none 0 0] 24));obtain⟨wd,N⟩:=exq (w2.drew);have b1:I.heap.size=w.heap.size+1:=by rw[z];simp
 have b7:Fr (fun _=>False) w I:=by rw[z];exact Fr.alloc _ _
 have a4:Fr (fun _=>False) I wd:=by rw[N,H];exact(Fr.alloc _ _).drew
 obtain⟨g,T⟩:=exq (w.heap.size);obtain⟨h,a6⟩:=exq (w.heap.size+1);have a3:I.heap[g]?=some (.cells #[.int .i64 D.kind,.int .i64 D.start,.string D.lead,.slice a D.n L] 24 (0,0)):=by rw[z,T];exact heap_alloc_new w _
 have Y:wd.heap[g]?=some (.cells #[.int .i64 D.kind,.int .i64 D.start,.string D.lead,.slice a D.n L] 24 (0,0)):=(a4.block _ (lt_of_block a3) (fun e=>e)).trans a3;have d0:wd.heap[h]?=some (.cells #[.int .i64 0,.int .i64 0,.string ⟨#[]⟩,.slice none 0 0] 24 (0,0)):=by rw[N,a6,<- b1];show w2.heap[I.heap.size]?=_;rw[H];exact heap_alloc_new I _
 have b0:Below w.heap.size w wd:=(b7.trans a4).below nlr (fun _ e=>e.elim);have c7:w.heap.size<=h:=by omega
 have j:g≠h:=by omega
 have b3:=(cells4 Y).1;have HS:=qh hS;clear hS;have d2:=qh b6;clear b6;have HT:=qh ht;clear ht;have S:=qh d0;clear d0;have u:=qh Y;clear Y a3;have a5:=qh b0;clear b0 b7 a4 b1
 go_enter func22,ntmps22
 go_wp2_with fail
 refine z0g (fun wk=>wk.cell? ⟨g,0,none⟩=some (.int .i64 D.kind)/\wk.cell? ⟨g,1,none⟩=some (.int .i64 D.start)/\wk.cell? ⟨g,2,none⟩=some (.string D.lead)/\wk.cell? ⟨g,3,none⟩=some (.slice a D.n L)) 7 (by kernel_rfl) ?_;rw[<- z,<- H,<- N,<- a6,<- T];clear z H N a6 T;refine z0c.tm 2 b3 ?_
 try simp only[Act.put,tryL]
 refine z0c.on 0 fun K d=>?_;go_simp;refine(z9s _).mono ?_;rintro r w3 ⟨rfl,A⟩;have a2:w3.cell? ⟨g,0,none⟩=some (.int .i64 D.kind)/\w3.cell? ⟨g,1,none⟩=some (.int .i64 D.start)/\w3.cell? ⟨g,2,none⟩=some (.string D.lead)/\w3.cell? ⟨g,3,none⟩=some (.slice a D.n L):=(cells4 ((A.block _ (lt_of_block u.out)).trans u.out)).1;have a7:=(A.block _ (lt_of_block u.out)).trans u.out;have c9:=(A.block _ (lt_of_block S.out)).trans S.out;have l:=a5.out.trans (A.mono a5.out.size);have U:=z6p (φ:=fun _ o=>(o,o)) w3 (⟨_,rfl,HS.out.kept (z0b l none)⟩:Ma none w3 (.agg #[.int .i64 D.kind,.int .i64 D.start,.string D.lead,.slice a D.n L]) D) d2.out (HT.out.below l nlr) (y4x u1q (fun w i o=>u2s w i o)) trivial (fun _ _=>trivial);rw[v6q] at U;refine d.out _ _ (.inr a2) ?_;clear d K b3 A;have a8:=qh U;clear U;have Q:=qh c9;clear c9 S;have m:=qh a7;clear a7 u;have G:=qh l;clear l a5
 try simp only[Act.put,tryL]
 have d1:∀ w,(Instr.index 70 (.agg #[.func (.func 99) #[] #[],.func (.func 100) #[] #[],.func (.func 101) #[] #[]]) (.int .i64 2)).run prog w=.ok (.agg #[.func (.func 101) #[] #[]]) w:=fun _=>by kernel_rfl
 refine z0c.tm 1 a2 ?_
 try simp only[Act.put,tryL]
 clear d1;refine z0c.on 3 fun K d=>?_;go_simp;refine a8.out.mono ?_;rintro r P ⟨B,hr⟩;have k:P.cell? ⟨g,0,none⟩=some (.int .i64 D.kind)/\P.cell? ⟨g,1,none⟩=some (.int .i64 D.start)/\P.cell? ⟨g,2,none⟩=some (.string D.lead)/\P.cell? ⟨g,3,none⟩=some (.slice a D.n L):=(cells4 ((B.block _ (lt_of_block m.out)).trans m.out)).1;have b4:=(B.block _ (lt_of_block m.out)).trans m.out;have a9:=(B.block _ (lt_of_block Q.out)).trans Q.out;have O:=G.out.trans (B.mono G.out.size);have b2:w.heap.size<=w3.heap.size:=G.out.size;clear B a2;have b9:=qh b4;clear b4 m;have J:=qh a9;clear a9 Q;have c8:=qh O;clear O G a8;obtain⟨⟨r0,r1,r2,r3⟩,rz⟩:=cells4 J.out;have f0:=rz 0;have f1:=rz 1;have f2:=rz 2;have f3:=rz 3;clear rz;unfold z7m at hr
 rcases hr with ⟨hv,d3,R,rfl,p⟩|⟨hv,rfl⟩
 ·have HV:=qh hv;clear hv;obtain⟨sa,sc,W,_,_⟩:=z0y p.top;subst W;have b8:=qh (p.box4 J.out (.int .i64 D.outR.kind) (.int .i64 D.outR.start) (.string D.outR.lead) (.slice sa D.outR.n sc));clear p;refine d.out _ _ (.inr k) ?_;clear d K
  try simp only[Act.put,tryL]
  refine z0c.tm 4 k ?_;refine z0c.tm 5 k ?_
  try simp only[Act.put,tryL]
  refine z0c.on 6 fun K d=>?_;go_simp;obtain⟨C,c⟩:∃ C,C=(((P.setCell ⟨h,0,none⟩ (.int .i64 D.outR.kind)).setCell ⟨h,1,none⟩ (.int .i64 D.outR.start)).setCell ⟨h,2,none⟩ (.string D.outR.lead)).setCell ⟨h,3,none⟩ (.slice sa D.outR.n sc):=⟨_,rfl⟩;have s:C.heap[g]?=some (.cells #[.int .i64 D.kind,.int .i64 D.start,.string D.lead,.slice a D.n L] 24 (0,0)):=by rw[c,z0e j,z0e j,z0e j,z0e j];exact b9.out
  have F:C.heap[h]?=some (.cells #[.int .i64 D.outR.kind,.int .i64 D.outR.start,.string D.outR.lead,.slice sa D.outR.n sc] 24 (0,0)):=by rw[c];exact z0v P h _ _ _ _ J.out
  have E:Below w.heap.size w C:=by rw[c];exact z0d c8.out c7 _ _ _ _
  have Z:=b8.out;rw[<- c] at Z;have b5:=qh Z;clear Z b8;rw[<- c];clear c;refine d.out _ _ (.inr (cells4 s).1) ?_;clear d K s;have X:=qh F;clear F;have a1:=qh E;clear E;clear r0 r1 r2 r3 f0 f1 f2 f3 k
  try simp only[Act.put,tryL]
  refine z0c.on 7 fun K d=>?_;go_simp;refine d.out _ _ (.inl rfl) (z0c.dn ?_);clear d K
  go_wp2_with fail
  refine bodyPost_ret (z0j rfl _ (b:=h) rfl rfl X.out) rfl ⟨a1.out,.inl ⟨HV.out,_,R,rfl,z3s b5.out b2⟩⟩
 have HV:=qh hv;clear hv;refine d.out _ _ (.inr k) ?_;clear d K
 try simp only[Act.put,tryL]
 refine z0c.tm 4 k ?_;refine z0c.tm 5 k ?_
 try simp only[Act.put,tryL]
 refine z0c.on 6 fun K d=>?_;go_simp;obtain⟨C,c⟩:∃ C,C=(((P.setCell ⟨h,0,none⟩ (.int .i64 0)).setCell ⟨h,1,none⟩ (.int .i64 0)).setCell ⟨h,2,none⟩ (.string ⟨#[]⟩)).setCell ⟨h,3,none⟩ (.slice none 0 0):=⟨_,rfl⟩;have s:C.heap[g]?=some (.cells #[.int .i64 D.kind,.int .i64 D.start,.string D.lead,.slice a D.n L] 24 (0,0)):=by rw[c,z0e j,z0e j,z0e j,z0e j];exact b9.out
 have F:C.heap[h]?=some (.cells #[.int .i64 0,.int .i64 0,.string ⟨#[]⟩,.slice none 0 0] 24 (0,0)):=by rw[c];exact z0v P h _ _ _ _ J.out
 have E:Below w.heap.size w C:=by rw[c];exact z0d c8.out c7 _ _ _ _
 rw[<- c];clear c;refine d.out _ _ (.inr (cells4 s).1) ?_;clear d K s;have X:=qh F;clear F;have a1:=qh E;clear E;clear r0 r1 r2 r3 f0 f1 f2 f3 k
 try simp only[Act.put,tryL]
 refine z0c.on 7 fun K d=>?_;go_simp;refine d.out _ _ (.inl rfl) (z0c.dn ?_);clear d K
 go_wp2_with fail
 refine bodyPost_ret (z0j rfl _ (b:=h) rfl rfl X.out) rfl ⟨a1.out,.inr ⟨HV.out,rfl⟩⟩
end
section
open Go.RowKit Go.Deep
theorem BlS.old {F:Nat->Prop} {B db:Nat} {D:MD} {one:ByteArray} {ac fl:Int} {w:World} (h:BlS F B db D one ac fl w) (d:B<=w.heap.size):BlS (fun b=>b<B) B db D one ac fl w:=by
 obtain⟨R,sv,c,g⟩:=h;refine⟨R,sv,c,fun b hb=>⟨by have:=c.low;omega,by omega,fun e=>?_,fun i hi e=>?_⟩⟩
 ·have:=(World.ownsRow.lt c.own.top b e).1;omega
 have:=(World.ownsRow.lt (c.own.row i hi) b e).1;omega
def catA (D E:MD):Int:=(cpX E none E.n:Int)+(cpX D (some E.start.toNat) D.n:Int)
def CatE (D E:MD) (w:World) (r:Ending) (w':World):Prop :=
 Below w.heap.size w w'/\((VM D/\VM E/\D.kind=E.kind /\
  ((
   dnOk (tmF (z0n D.kind D.lead E.lead) 0) (E.n+D.n) (catA D E)/\∃ sv R,r=.returned (.tuple #[.agg #[.int .i64 D.kind,.int .i64 ((E.n:Int)+D.start),.string (z0n D.kind D.lead E.lead).1,sv],.int .i64 0])/\OwM w' w.heap.size sv (catD D E (z0n D.kind D.lead E.lead).1) R) \/
   (¬ dnOk (tmF (z0n D.kind D.lead E.lead) 0) (E.n+D.n) (catA D E)/\r=.returned (.tuple #[z7m,.int .i64 2])))) \/
  (VM D/\VM E/\D.kind≠E.kind/\r=.returned (.tuple #[z7m,.int .i64 6]))\/(¬ (VM D/\VM E)/\r=.returned (.tuple #[z7m,.int .i64 1])))
theorem x6a {D E:MD} {mv nv:Value} (w:World) (hM:Ma none w mv D) (hN:Ma none w nv E) (k7:MSz D) (l1:MSz E) (ht:Tab w) (g:E.n+D.n<=1000) (j1:z0f D D.n+z0f E E.n<=1000):Calls prog 65 #[mv,nv] w (CatE D E w):=by
 have hT:=fun W (hb:Below w.heap.size w W)=>v5u (D:=D) (E:=E) (mv:=mv) (nv:=nv) W ⟨_,hM.choose_spec.1,hM.choose_spec.2.kept (z0b hb none)⟩ ⟨_,hN.choose_spec.1,hN.choose_spec.2.kept (z0b hb none)⟩ k7 l1 (ht.below hb nlr);obtain⟨sv,rfl,hS⟩:=hM;obtain⟨sw,rfl,n5⟩:=hN;obtain⟨a,cp,_,_,_,_,_,_,k2,_⟩:=hS.open;obtain⟨a2,l9,_,_,_,_,_,_,r9,_⟩:=n5.open;subst k2;subst r9;obtain⟨w1,O⟩:=exq (w.alloc (.cells #[.int .i64 D.kind,.int .i64 D.start,.string D.lead,.slice a D.n cp] 24));obtain⟨w2,L⟩:=exq (w1.alloc (.cells #[.int .i64 E.kind,.int .i64 E.start,.string E.lead,.slice a2 E.n l9] 24));obtain⟨w3,a9⟩:=exq (w2.alloc (.cells #[.int .i64 0,.int .i64 0,.string ⟨#[]⟩,.slice none 0 0] 24));have a3:w1.heap.size=w.heap.size+1:=by rw[O];simp
 have q9:w2.heap.size=w.heap.size+1+1:=by rw[L];simp[a3]
 have o3:Fr (fun _=>False) w w1:=by rw[O];exact Fr.alloc _ _
 have m7:Fr (fun _=>False) w1 w2:=by rw[L];exact Fr.alloc _ _
 have f5:Fr (fun _=>False) w2 w3:=by rw[a9];exact Fr.alloc _ _
 have b1:w1.heap[w.heap.size]?=some (.cells #[.int .i64 D.kind,.int .i64 D.start,.string D.lead,.slice a D.n cp] 24 (0,0)):=by rw[O];exact heap_alloc_new w _
 have j:w3.heap[w.heap.size]?=some (.cells #[.int .i64 D.kind,.int .i64 D.start,.string D.lead,.slice a D.n cp] 24 (0,0)):=(f5.block _ (by omega) (fun e=>e)).trans ((m7.block _ (lt_of_block b1) (fun e=>e)).trans b1);have h7:w2.heap[w.heap.size+1]?=some (.cells #[.int .i64 E.kind,.int .i64 E.start,.string E.lead,.slice a2 E.n l9] 24 (0,0)):=by rw[<- a3,L];exact heap_alloc_new w1 _
 have Q:w3.heap[w.heap.size+1]?=some (.cells #[.int .i64 E.kind,.int .i64 E.start,.string E.lead,.slice a2 E.n l9] 24 (0,0)):=(f5.block _ (by omega) (fun e=>e)).trans h7;have a4:w3.heap[w.heap.size+1+1]?=some (.cells #[.int .i64 0,.int .i64 0,.string ⟨#[]⟩,.slice none 0 0] 24 (0,0)):=by rw[<- q9,a9];exact heap_alloc_new w2 _
 have k4:Below w.heap.size w w3:=((o3.trans m7).trans f5).below nlr (fun _ e=>e.elim);obtain⟨mb,g0⟩:=exq (w.heap.size);obtain⟨nb,g1⟩:=exq (w.heap.size+1);obtain⟨m,m8⟩:=exq (w.heap.size+1+1);have g2:w.heap.size<=m:=by omega
 have u4:mb≠m:=by omega
 have u5:nb≠m:=by omega
 have u6:w.heap.size<=mb:=by omega
 have u3:w.heap.size<=nb:=by omega
 rw[<- g0] at j;rw[<- g1] at Q;rw[<- m8] at a4;obtain⟨⟨m0,m1,m2,m3⟩,_⟩:=cells4 j;obtain⟨⟨n0,n1,n2,n3⟩,_⟩:=cells4 Q;have r7:=qh (hT w3 k4);clear hT;have j9:=qh k4;clear k4;have i:=qh j;clear j b1 o3 m7 f5 a3 q9 h7;have H:=qh Q;clear Q;have l:=qh a4;clear a4;have HS:=qh hS;clear hS;have s9:=qh n5;clear n5;have HT:=qh ht;clear ht;have m9:=qh k7;clear k7;have d4:=qh l1;clear l1;have e5:=qh g;clear g;have e0:=qh j1;clear j1;rw[g0,a9,L,O] at m0 m1 m2 m3;rw[g1,a9,L,O] at n0 n1 n2 n3
 go_enter func65,ntmps65
 go_wp2_with fail
 rw[<- O,<- L,<- a9,<- m8,<- g1,<- g0];clear m0 m1 m2 m3 n0 n1 n2 n3 O L a9 g0 g1 m8;refine r7.out.mono ?_;rintro r w4 ⟨e4,e,rfl,he⟩;have A:=j9.out.trans (e4.mono j9.out.size);have j:=(e4.block _ (lt_of_block i.out)).trans i.out;have Q:=(e4.block _ (lt_of_block H.out)).trans H.out;have a4:=(e4.block _ (lt_of_block l.out)).trans l.out;clear e4 i H l r7 j9;have S:=qh A;clear A;have i:=qh j;clear j;have H:=qh Q;clear Q;have l:=qh a4;clear a4;obtain⟨⟨r0,r1,r2,r3⟩,rz⟩:=cells4 l.out;have f0:=rz 0;have f1:=rz 1;have f2:=rz 2;have f3:=rz 3;clear rz;unfold twoN at he
 rcases he with ⟨hv,d7,hk,rfl⟩|⟨hv,d7,hk,rfl⟩|⟨hv,rfl⟩
 rotate_left
 ·have j4:=qh hv;have s3:=qh d7;have s7:=qh hk;clear hv d7 hk
  go_wp2_with fail
  exact bodyPost_ret (z0j rfl _ (b:=m) rfl rfl (z0v w4 m _ _ _ _ l.out)) rfl ⟨z0d S.out g2 _ _ _ _,.inr (.inl ⟨j4.out,s3.out,s7.out,rfl⟩)⟩
 ·have j4:=qh hv;clear hv
  go_wp2_with fail
  exact bodyPost_ret (z0j rfl _ (b:=m) rfl rfl (z0v w4 m _ _ _ _ l.out)) rfl ⟨z0d S.out g2 _ _ _ _,.inr (.inr ⟨j4.out,rfl⟩)⟩
 clear r0 r1 r2 r3 f0 f1 f2 f3;have HV:=qh hv;clear hv;have J:=qh d7;clear d7;have a5:=qh hk;clear hk;have m0:=(cells4 i.out).1.1;have T:=y6c D.kind w4;have g5:=qh T;clear T
 go_wp2_with fail
 refine g5.out.mono ?_;rintro r w5 ⟨db,rfl,j7,G,j8⟩;clear m0 g5;obtain⟨B,I⟩:=exq (w4.heap.size);rw[<- I] at j7 G j8;have l0:w.heap.size<=B:=by rw[I];exact S.out.size
 have s4:B<=w5.heap.size:=by rw[I];rw[I] at G;exact G.size
 have i3:=j7.old s4;have p9:smS D.lead:=m9.out.lead;have a3:smS E.lead:=d4.out.lead;have A:Below w.heap.size w w5:=S.out.trans (G.mono l0);have j5:Calls prog 109 #[.pointer (some ⟨db,0,none⟩),.string D.lead,.string E.lead] w5 (TmE (fun b=>b<B) B db (z1r D.kind 0 (oneF D.kind)) (oneF D.kind) 0 0 (z0n D.kind D.lead E.lead) w5):=u0a D.lead E.lead w5 i3 p9 a3 (HT.out.below A nlr);obtain⟨z,hz⟩:=exq (z0n D.kind D.lead E.lead);rw[<- hz] at j5;have r4:=qh j5;clear j5 p9 a3 j7 i3 A;have m2:=(cells4 ((G.block mb (by rw[I];exact lt_of_block i.out)).trans i.out)).1.2.2.1;have n2:=(cells4 ((G.block nb (by rw[I];exact lt_of_block H.out)).trans H.out)).1.2.2.1;have s8:=qh G;clear G;have d:=qh I;clear I;have HZ:=qh hz;clear hz;have k3:=qh j8;clear j8
 go_wp2_with fail
 refine r4.out.mono ?_;rintro r w6 ⟨rfl,g3⟩;clear m2 n2 r4;have i7:=s8.out.trans g3.2.2;obtain⟨⟨v1,k0⟩,l7,e1⟩:=g3.1.cells;have t7:=e1 2;clear e1 k0;obtain⟨w7,b5⟩:=exq (w6.setCell ⟨db,2,none⟩ (.string z.1));have g8:BlS (fun b=>b<B) B db (z1r D.kind 0 z.1) (oneF D.kind) 0 (tmF z 0) w7:=by rw[b5];exact g3.1.lead z.1
 have X:Below B w4 w7:=by rw[b5];exact i7.setCell (p:=⟨db,2,none⟩) k3.out _
 have r5:=s9.out.kept (z0b S.out none);have q7:=HS.out.kept (z0b S.out none);have a8:cpC E none E.n=z0f E E.n:=by unfold cpC;simp
 have a1:cpC D (some E.start.toNat) D.n=z0f D D.n+D.n:=by unfold cpC;simp
 have d5:=e5.out;have b6:=e0.out;have a6:=x0x E none E.n;have a7:=x0x D (some E.start.toNat) D.n;have c9:=v8c (F:=fun b=>b<B) (db:=db) (N:=E.n+D.n) (c:=0) (D:=E) (M:=z1r D.kind 0 z.1) (o:=none) (P:=fun _=>True) (one:=oneF D.kind) (ac:=0) (fl:=tmF z 0) w4 w7 J.out d4.out r5 (by rw[<- d.out];exact X) (by rw[<- d.out];exact g8) a5.out (BOk.empty _ _ _ _) (show 0+E.n<=E.n+D.n by omega) (by omega) (fun _ h=>by cases h) (by omega) (Int.le_refl _) (by omega) (by rw[<- d.out];exact u2e B db) trivial (fun _ _ _ _=>trivial);rw[<- d.out] at c9;have h8:=qh c9;clear c9;obtain⟨⟨n0,n1,n2,n3⟩,_⟩:=cells4 ((X.block nb (by rw[d.out];exact lt_of_block H.out)).trans H.out);have j2:=qh X;clear X i7 g3 g8;have t8:=qh q7;clear q7 r5;rw[b5] at n0 n1 n2 n3
 go_wp2_with fail
 rw[<- b5];clear n0 n1 n2 n3 b5 l7 t7;refine h8.out.mono ?_;rintro r w8 ⟨rfl,m5⟩;clear h8;obtain⟨se,l8⟩:∃ se:Nat,E.start=(se:Int):=⟨E.start.toNat,by have:=J.out.s0;omega⟩;have h6:E.start.toNat=se:=by omega
 rw[show (((z1r D.kind 0 z.1).n:Nat):Int)+E.start=(se:Int) by rw[l8];show ((0:Nat):Int)+(se:Int)=_;omega];have u:Below B w4 w8:=j2.out.trans m5.2.2;have j6:=(u.block mb (by rw[d.out];exact lt_of_block i.out)).trans i.out;have l6:=(u.block m (by rw[d.out];exact lt_of_block l.out)).trans l.out;obtain⟨wd,k9⟩:=exq (w8.drew);have r8:Fr (fun _=>False) w8 wd:=by rw[k9];exact(Fr.refl _ _).drew
 have b8:Below w8.heap.size w8 wd:=r8.below nlr (fun _ e=>e.elim);have i8:=m5.1.kept b8;have j0:Below B w4 wd:=u.trans (b8.mono (by rw[d.out];exact u.size));have l5:=(b8.block _ (lt_of_block j6)).trans j6;have o9:=(b8.block _ (lt_of_block l6)).trans l6;have b0:=(cells4 l5).1;have n9:=qh (v0m db se wd);have t9:se<E.n:=by have:=J.out.s1;omega
 have Y:=qh h6;clear h6;have u1:=qh l8;clear l8;have g4:=qh i8;clear i8 m5 u r8 b8;have c7:=qh j0;clear j0 j2;have l4:=qh l5;clear l5 j6;have k1:=qh o9;clear o9 l6;have o5:=qh a8;clear a8;have p8:=qh a1;clear a1;have n7:=qh a6;clear a6;have o6:=qh a7;clear a7;clear d5 b6
 go_wp2_with fail
 refine z0g (fun wk=>wk.cell? ⟨mb,0,none⟩=some (.int .i64 D.kind)/\wk.cell? ⟨mb,1,none⟩=some (.int .i64 D.start)/\wk.cell? ⟨mb,2,none⟩=some (.string D.lead)/\wk.cell? ⟨mb,3,none⟩=some (.slice a D.n cp)) 10 (by kernel_rfl) ?_;rw[<- k9];clear k9;refine z0c.tm 0 b0 ?_;refine z0c.tm 1 b0 ?_;refine z0c.tm 2 b0 ?_;refine z0c.tm 3 b0 ?_;refine z0c.tm 4 b0 ?_
 try simp only[Act.put,tryL]
 refine z0c.on 5 fun K hK=>?_;go_simp;refine n9.out.mono ?_;rintro r w9 ⟨cx,tx,rfl,f7,p7,n6,b4⟩;have k5:=(b4.block _ (lt_of_block l4.out)).trans l4.out;have r6:=(b4.block _ (lt_of_block k1.out)).trans k1.out;have o7:=(cells4 k5).1;have d0:=g4.out.grown b4;obtain⟨F1,d1⟩:∃ F1:Nat->Prop,F1=fun b=>b<B\/(wd.heap.size<=b/\b<w9.heap.size):=⟨_,rfl⟩;rw[<- d1] at d0;have g6:F1 cx:=by rw[d1];exact .inr ⟨p7,lt_of_block f7.1⟩
 have h4:F1 tx:=by rw[d1];exact .inr ⟨n6,lt_of_block f7.2⟩
 have b7:∀ b,b<B->F1 b:=fun b hb=>by rw[d1];exact .inl hb
 have e9:Below B w4 w9:=c7.out.trans (b4.mono (by rw[d.out];exact c7.out.size));have d5:=e5.out;have b6:=e0.out;have a8:=o5.out;have a1:=p8.out;have a6:=n7.out;have a7:=o6.out;have k6:(z4k E none (z1r D.kind 0 z.1)).n=E.n:=by
  unfold z4k;rw[(y3d _ _ _ _ _).2.2.2,y4k];exact Nat.zero_add _
 have j:(z4k E none (z1r D.kind 0 z.1)).kind=D.kind:=by
  unfold z4k;rw[(y3d _ _ _ _ _).1,(y0q _ _ _).1];rfl
 have g7:BOk (z4k E none (z1r D.kind 0 z.1)) (E.n+D.n) (0+cpC E none E.n):=by
  unfold z4k;exact y6p (o:=none) (low:=0) (M:=stsD E E.n (z1r D.kind 0 z.1)) (c:=0) J.out d4.out (fun _ h=>by cases h) (show 0+E.n<=E.n+D.n by omega) ((y0q _ _ _).1.trans a5.out) (y4m (M:=z1r D.kind 0 z.1) J.out d4.out a5.out (BOk.empty _ _ _ _) E.n nlr) E.n nlr
 have d9:=v8c (F:=F1) (db:=db) (N:=E.n+D.n) (c:=0+cpC E none E.n) (D:=D) (M:=z4k E none (z1r D.kind 0 z.1)) (o:=some se) (P:=PLk db cx tx se) (one:=oneF D.kind) (ac:=0+(cpX E none E.n:Int)) (fl:=tmF z 0) w4 w9 HV.out m9.out t8.out (by rw[<- d.out];exact e9) (by rw[<- d.out];exact d0) j g7 (by rw[k6];omega) (by omega) (fun t h=>by cases h;omega) (by rw[<- Y.out];omega) (by omega) (by rw[<- Y.out];omega) (by rw[<- d.out];exact u2q B db cx tx se) f7 (fun wa wb h hF=>⟨(hF cx g6).trans h.1,(hF tx h4).trans h.2⟩);rw[<- d.out] at d9;refine hK.out _ _ (.inr o7) ?_;clear hK K b0 n9 d5 b6 a8 a1 a6 a7 f7 p7 n6 b4;have i2:=qh d9;clear d9;have i4:=qh e9;clear e9 c7;have o4:=qh k5;clear k5 l4;have o2:=qh r6;clear r6 k1;have s5:=qh k6;clear k6;have u2:=qh j;clear j g7 d0 g4;have f9:=qh b7;clear b7 d1 g6 h4
 try simp only[Act.put,tryL]
 refine z0c.on 6 fun K hK=>?_;go_simp;refine i2.out.mono ?_;rintro r p6 ⟨rfl,g⟩;have c8:Below B w4 p6:=i4.out.trans g.2.2;have e3:=(g.2.1 mb (f9.out mb (by rw[d.out];exact lt_of_block i.out))).trans o4.out;have i5:=(g.2.1 m (f9.out m (by rw[d.out];exact lt_of_block l.out))).trans o2.out;have s:=(cells4 e3).1;obtain⟨⟨v1,k0⟩,l7,e1⟩:=g.1.cells;have s6:=e1 1;clear e1 l7;have d8:=(g.1.start ((E.n:Int)+D.start)).sub f9.out;rw[s5.out];refine hK.out _ _ (.inr s) ?_;clear hK K o7 i2 g;have b3:=qh c8;clear c8 i4;have u0:=qh e3;clear e3 o4;have h9:=qh i5;clear i5 o2;have e6:=qh d8;clear d8 f9
 try simp only[Act.put,tryL]
 refine z0c.tm 7 s ?_;refine z0c.tm 8 s ?_;refine z0c.tm 9 s ?_
 try simp only[Act.put,tryL]
 refine z0c.on 10 fun K hK=>?_;go_simp;refine hK.out _ _ (.inl rfl) (z0c.dn ?_);clear hK K s k0 s6;obtain⟨d2,C⟩:=exq (p6.setCell ⟨db,1,none⟩ (.int .i64 ((E.n:Int)+D.start)));rw[<- C];have k:=e6.out;rw[<- C] at k;have g9:({ z4k D (some se) (z4k E none (z1r D.kind 0 z.1)) with start:=(E.n:Int)+D.start }:MD)=catD D E z.1:=by rw[<- Y.out];rfl
 rw[g9] at k;have i6:mb≠db/\m≠db:=by
  have h1:=k3.out;have h2:=lt_of_block i.out;have h3:=lt_of_block l.out;rw[<- d.out] at h2 h3;exact⟨by omega,by omega⟩
 have b2:Below B w4 d2:=by rw[C];exact b3.out.setCell (p:=⟨db,1,none⟩) k3.out _
 have h5:d2.heap[m]?=some (.cells #[.int .i64 0,.int .i64 0,.string ⟨#[]⟩,.slice none 0 0] 24 (0,0)):=by rw[C,z0e (show m≠db from i6.2)];exact h9.out
 have Z:=x8r HV.out m9.out J.out d4.out a5.out.symm z.1;have hx:0+(cpX E none E.n:Int)+(cpX D (some se) D.n:Int)=catA D E:=by unfold catA;rw[Y.out,Int.zero_add]
 rw[hx] at k;have b6:=e0.out;have d5:=e5.out;have a8:=o5.out;have a1:=p8.out;have a6:=n7.out;have a7:=o6.out;have m4:catA D E<=1000000/\0<=catA D E:=by unfold catA;omega
 have l2:=v7z d2 k (by rw[Z.2.1];omega) m4.1 m4.2;rw[Z.2.1] at l2;have o8:=qh l2;clear l2 m4 b6 d5 a8 a1 a6 a7 hx g9 C k e6 i6;have b9:=qh b2;clear b2 b3;have d6:=qh h5;clear h5 h9;have h0:=qh Z;clear Z
 go_wp2_with fail
 refine o8.out.mono ?_;rintro r f8 ⟨f4,hr⟩;have e8:Below B w4 f8:=b9.out.trans (f4.mono (by rw[d.out];exact b9.out.size));have j3:=(f4.block _ (lt_of_block d6.out)).trans d6.out;have e7:Below w.heap.size w f8:=S.out.trans (e8.mono l0);clear f4 e8 o8;have i9:=qh e7;clear e7;have U:=qh j3;clear j3 d6;obtain⟨⟨r0,r1,r2,r3⟩,rz⟩:=cells4 U.out;have f0:=rz 0;have f1:=rz 1;have f2:=rz 2;have f3:=rz 3;clear rz;unfold z7m at hr
 rcases hr with ⟨e2,u7,R,rfl,d3⟩|⟨e2,rfl⟩
 ·have p0:=h0.out.2.2.1;have b1:=h0.out.2.2.2;rw[p0,b1];rw[show (catD D E z.1).start=(E.n:Int)+D.start from rfl];obtain⟨sa,sc,k2,_,_⟩:=z0y d3.top;subst k2;have q8:=qh (z3s (d3.box4 U.out (.int .i64 D.kind) (.int .i64 ((E.n:Int)+D.start)) (.string z.1) (.slice sa (catD D E z.1).n sc)) l0);clear d3 p0 b1;have l3:=qh e2;clear e2
  go_wp2_with fail
  refine bodyPost_ret (z0j rfl _ (b:=m) rfl rfl (z0v f8 m _ _ _ _ U.out)) rfl ⟨z0d i9.out g2 _ _ _ _,.inl ⟨HV.out,J.out,a5.out,.inl ⟨?_,.slice sa (catD D E z.1).n sc,R,?_,?_⟩⟩⟩
  ·rw[<- HZ.out];exact l3.out
  ·rw[<- HZ.out];rfl
  rw[<- HZ.out];exact q8.out
 have l3:=qh e2;clear e2
 go_wp2_with fail
 refine bodyPost_ret (z0j rfl _ (b:=m) rfl rfl (z0v f8 m _ _ _ _ U.out)) rfl ⟨z0d i9.out g2 _ _ _ _,.inl ⟨HV.out,J.out,a5.out,.inr ⟨?_,rfl⟩⟩⟩;rw[<- HZ.out];exact l3.out
end
section
open Go.RowKit Go.Deep
def anyA (D:MD) (i:Nat) (sel:Int->Int->Bool):Bool:=(List.range (D.na i)).any fun d=>sel (D.ain i d) (D.aout i d)
theorem y6v {D:MD} {i:Nat} {sel:Int->Int->Bool}:anyA D i sel=true↔∃ d,d<D.na i/\sel (D.ain i d) (D.aout i d)=true:=by simp[anyA]
theorem v0x {D:MD} {i:Nat} {sel:Int->Int->Bool} (h:∀ d,d<D.na i->sel (D.ain i d) (D.aout i d)=false):anyA D i sel=false:=by
 cases j:anyA D i sel
 ·rfl
 obtain⟨d,g,c⟩:=y6v.1 j;rw[h d g] at c;cases c
theorem v4k {D:MD} {i nf:Nat} {z:Array Value} {v:Value} {sel:Int->Int->Bool} {P:World->Prop} (w:World) (T:ArS none w v D i) (hn:D.na i<=30000) (X:TstA nf z sel P) (N:∀ wb,Below w.heap.size w wb->P wb) :
  Calls prog 173 #[v,.func (.func nf) #[] z] w (fun r w'=>Below w.heap.size w w'/\∃ k:Int,r=.returned (.int .i64 k)/\(decide (0<=k)=anyA D i sel)):=by
 obtain⟨a2,u⟩:=X;obtain⟨n,h⟩:=exq (D.na i);have hv:∃ a g b c,v=.slice a n g/\n<=g/\g<=maxLen/\(0<n->a=some ⟨b,c,none⟩/\b<w.heap.size)/\∀ k,k<n->w.cell? ⟨b,c+k*4,none⟩=some (.int .i64 (D.ain i k))/\w.cell? ⟨b,c+k*4+1,none⟩=some (.int .i64 (D.aout i k))/\w.cell? ⟨b,c+k*4+2,none⟩=some (.string (D.aw i k))/\w.cell? ⟨b,c+k*4+3,none⟩=some (.int .i64 (D.ato i k)):=by
  rcases T with ⟨h0,a,g,rfl,R⟩|⟨b,c,g,rfl,J,h2,h3,Y⟩
  ·exact⟨a,g,0,0,by rw[h,h0],by omega,R,by omega,fun k W=>by omega⟩
  exact⟨_,g,b,c,by rw[h],by omega,h3,fun _=>⟨rfl,J.1⟩,fun k W=>Y k (by omega)⟩
 obtain⟨a,g,b,c,rfl,R,hm,S,l⟩:=hv;unfold maxLen at hm;rw[<- h] at hn;have F:=qh h;clear h T;have HA:=qh S;clear S;have HX:=qh l;clear l;have HT:=qh u;clear u;have U:=qh N;clear N
 go_enter func173,ntmps173
 go_wp2_with fail
 go_loopw [8] (fun L wr=>∃ q:Nat,q<=n/\L=.int .i64 (q:Int)/\Below w.heap.size w wr/\∀ j,j<q->sel (D.ain i j) (D.aout i j)=false) (fun L _=>n-(intOf L).toNat)
 case atStart=>exact⟨0,Nat.zero_le _,rfl,blr,fun j Z=>by omega⟩
 obtain⟨q,hq,rfl,hb,E⟩:=hrel;have C:=qh E;clear E;have s:=qh hb;clear hb;by_cases H:q<n
 ·have a3:(q:Int)<(n:Int):=by omega
  have O:(0:Int)<=(q:Int):=by omega
  obtain⟨rfl,o⟩:=HA.out (by omega);obtain⟨t0,t1,t2,t3⟩:=HX.out q H;have c0:=(s.out.cell (p:=⟨b,c+q*4,none⟩) o).trans t0;have c1:=(s.out.cell (p:=⟨b,c+q*4+1,none⟩) o).trans t1;have c2:=(s.out.cell (p:=⟨b,c+q*4+2,none⟩) o).trans t2;have c3:=(s.out.cell (p:=⟨b,c+q*4+3,none⟩) o).trans t3;clear t0 t1 t2 t3;have m:=HT.out wr (U.out wr s.out) (D.ain i q) (D.aout i q) (D.aw i q) (D.ato i q);have Q:=qh m;clear m
  go_wp2_with fail
  clear c0 c1 c2 c3;refine Q.out.mono ?_;rintro r w1 ⟨rfl,B⟩;have I:=qh (s.out.trans (B.mono s.out.size));clear B Q;cases K:sel (D.ain i q) (D.aout i q)
  ·have A:=qh K;clear K;go_wp2;go_roundw
   case rel=>exact⟨q+1,by omega,by go_num,I.out,fun j Z=>by
    by_cases e:j=q
    ·subst e;exact A.out
    exact C.out j (by omega)⟩
   simp[intOf];omega
  have A:=qh K;clear K;go_wp2;go_ret;refine⟨I.out,_,rfl,?_⟩;have J:anyA D i sel=true:=y6v.2 ⟨q,by rw[<- F.out];exact H,A.out⟩;rw[J];simp
 have G:q=n:=by omega
 have a1:¬ ((q:Int)<(n:Int)):=by omega
 have HQ:=qh G;clear G;go_wp2;go_ret;refine⟨s.out,_,rfl,?_⟩;have J:anyA D i sel=false:=v0x fun d hd=>C.out d (by rw[HQ.out,F.out];exact hd);rw[J];rfl
theorem y6w {D:MD} {i nf:Nat} {c:Array Value} {v:Value} {sel:Int->Int->Bool} {P:World->Prop} (w:World) (g:ArS none w v D i) (hn:D.na i<=30000) (j:TstA nf c sel P) (d:∀ wb,Below w.heap.size w wb->P wb) :
  Calls prog 138 #[v,.func (.func nf) #[] c] w (fun r w'=>r=.returned (.bool (anyA D i sel))/\Below w.heap.size w w'):=by
 have o:=qh (v4k w g hn j d);clear g hn j d
 go_enter func138,ntmps138
 go_wp2_with fail
 refine o.out.mono ?_;rintro r p ⟨hb,k,rfl,h⟩;have m:=qh h;clear h;have l:=qh hb;clear hb;go_wp2;go_ret;exact⟨z0w m.out,l.out⟩
def selE (i o:Int):Bool:=decide (i=o)
theorem v7i:∀ args w,(callFunc 107 args).run prog w=.ok (.enter 107 args) w:=fun args w=>by kernel_rfl
theorem v3z:∀ args w,(callFunc 139 args).run prog w=.ok (.enter 139 args) w:=fun args w=>by kernel_rfl
theorem u1e (w:World) (i o:Int) (s:ByteArray) (t:Int):Calls prog 107 #[.agg #[.int .i64 i,.int .i64 o,.string s,.int .i64 t]] w (fun r w'=>r=.returned (.bool (selE i o))/\Below w.heap.size w w'):=by
 have c:=(Below.refl w.heap.size w).alloc nlr (.cells #[.int .i64 i,.int .i64 o,.string s,.int .i64 t] 59);have d:=qh c;clear c
 go_enter func107,ntmps107
 go_wp2;go_ret;exact⟨z0w (by by_cases h:i=o<;>simp[selE,h]),d.out⟩
theorem u4s:TstA 107 #[] selE (fun _=>True) :=
 ⟨v7i,fun c _ i o s t=>by
  have h:=u1e c i o s t;rw[show ∀ a:Value,(#[a]++#[]:Array Value)=#[a] from fun _=>rfl];exact h⟩
def PAl (tb nf:Nat) (w:World):Prop:=w.heap[tb]?=some (.cells #[.func (.func nf) #[] #[]] 100 (0,0))
theorem u4y {nf:Nat} {sel:Int->Int->Bool} (u:Nat) (N:TstA nf #[] sel (fun _=>True)):TstA 139 #[.pointer (some ⟨u,0,none⟩)] (fun i o=>!sel i o) (PAl u nf):=by
 refine⟨v3z,fun m G i o s t=>?_⟩;rw[show ∀ a b:Value,(#[a]++#[b]:Array Value)=#[a,b] from fun _ _=>rfl];obtain⟨L,k⟩:=N;obtain⟨j,g⟩:=exq (m.alloc (.cells #[.int .i64 i,.int .i64 o,.string s,.int .i64 t] 59));obtain⟨C,h⟩:=exq (m.heap.size);have d:=(Below.refl m.heap.size m).alloc nlr (.cells #[.int .i64 i,.int .i64 o,.string s,.int .i64 t] 59);rw[<- g] at d;have I:j.heap[u]?=some (.cells #[.func (.func nf) #[] #[]] 100 (0,0)):=(d.block _ (lt_of_block G)).trans G;have l:j.heap[C]?=some (.cells #[.int .i64 i,.int .i64 o,.string s,.int .i64 t] 59 (0,0)):=by rw[g,h];exact heap_alloc_new m _
 obtain⟨H,B⟩:=exq (j.drew);have K:j.cell? ⟨u,0,none⟩=some (.func (.func nf) #[] #[]):=by simp[World.cell?,I]
 obtain⟨⟨a0,F,z,D⟩,_⟩:=cells4 l;have c:=k j trivial i o s t;rw[show ∀ a:Value,(#[a]++#[]:Array Value)=#[a] from fun _=>rfl] at c;have J:=qh c;clear c k;have A:=qh d;clear d I l G B;rw[g] at K a0 F z D;rw[h] at a0 F z D
 go_enter func139,ntmps139
 go_wp2_with fail
 rw[<- g];clear K a0 F z D g h;refine J.out.mono ?_;rintro r O ⟨rfl,p⟩;have E:=qh (A.out.trans (p.mono A.out.size));clear p J A;go_wp2;go_ret;exact⟨z0w (by cases sel i o<;>rfl),E.out⟩
end
section
open Go.RowKit Go.Deep
end
section
theorem x3m {k:KK} {D:MD} {sel:Int->Int->Bool} (g:∀ i o,sel i o=decide (i=0)) (q p:Nat):sils (rmOf k D) sel q p=sil (rmOf k D.inZ) q p:=by
 unfold sils sil;refine CSR.sum_congr fun d _=>?_;show (if sel (D.ain q d) (D.aout q d)=true/\(D.ato q d).toNat=p then _ else _)=if D.ain q d=0/\(0:Int)=0/\(D.ato q d).toNat=p then _ else _
 rw[g];by_cases h:D.ain q d=0
 ·by_cases c:(D.ato q d).toNat=p
  ·rw[if_pos ⟨by simp[h],c⟩,if_pos ⟨h,rfl,c⟩];rfl
  rw[if_neg (fun e=>c e.2),if_neg (fun e=>c e.2.2)]
 rw[if_neg (fun e=>h (by simpa using e.1)),if_neg (fun e=>h e.1)]
theorem v2c (i o:Int):sel8 true i o=decide (i=0):=by unfold sel8;simp
theorem y1b (D:MD):∀ n,z0f D.inZ n=z0f D n
 | 0=>rfl
 | n+1=>by show z0f D.inZ n+D.na n=z0f D n+D.na n;rw[y1b D n]
theorem VM.inZ {D:MD} (h:VM D):VM D.inZ:={ h with arcs:=by rw[y1b];exact h.arcs,arc:=fun q d c g=>{ h.arc q d c g with o0:=by show (0:Int)<=0;omega,o1:=by show (0:Int)<=500;omega } }
theorem u3d {k:KK} {D:MD} {sel:Int->Int->Bool} (g:∀ i o,sel i o=decide (i=0)) {st:StarO} (h:(NoSel D sel/\st=none)\/∃ S,st=some S/\∀ q p,q<D.n->p<D.n->Sv k (S q p) (CSR.starM (sils (rmOf k D) sel) D.n q p)):StOk k D.inZ st:=by
 rcases h with ⟨m,rfl⟩|⟨S,rfl,s⟩
 ·intro q p c d;rw[<- x3m g];exact SilOk.nosil m k q p c
 intro q p c d;have l:=s q p c d;have e:=CSR.starM_congr (M:=sils (rmOf k D) sel) (M':=sil (rmOf k D.inZ)) (n:=D.n) (fun i j _ _=>x3m g i j) q p c d;rw[e] at l;exact l
theorem Sil8.stZ {k:KK} {D:MD} {st:StarO} (h:Sil8 D (sel8 true) st 0) (g:k.1=D.kind):StOk k D.inZ st:=by
 refine u3d v2c ?_
 rcases h with ⟨c,d,_⟩|⟨_,_,S,c,d⟩|⟨c,_⟩
 ·exact .inl ⟨c,d⟩
 ·exact .inr ⟨S,c,d k g⟩
 exact absurd rfl c
theorem SilOk.stZ {k:KK} {D:MD} {sel:Int->Int->Bool} (g:∀ i o,sel i o=decide (i=0)) {st:StarO} (h:SilOk D sel st 0) (j:k.1=D.kind):StOk k D.inZ st:=by
 refine u3d g ?_
 rcases h with ⟨c,d,_⟩|⟨_,_,_,S,c,d⟩|⟨_,c,_⟩
 ·exact .inl ⟨c,d⟩
 ·exact .inr ⟨S,c,d k j⟩
 exact absurd rfl c
end
section
theorem u0m (D:MD):D.sym (fun i _=>(i,0))=D.inZ:=rfl
def Dv (D:MD) (na:Nat) (x:Nat->Int) (z:ByteArray × Nat):Prop:=z.2=0->∀ k:KK,k.1=D.kind->Sv k z.1 (rel (rmOf k D.inZ) (ls x na 0) [])
end
section
open Go.RowKit Go.Deep
def selI (i _:Int):Bool:=decide (i=0)
structure PDt (w0:World) (xb ib:Nat) (xv:Value) (i:Nat) (w:World):Prop where
 hb:Below w0.heap.size w0 w
 kx:Bx w xb 25 xv
 ki:Bx w ib 3 (.int .i64 (i:Int))
def DomX (D:MD) (na:Nat) (x:Nat->Int) (w:World) (r:Ending) (w':World):Prop :=
 Below w.heap.size w w'/\((VM D/\isWord na x=true/\∃ st e0,SilOk D selI st e0/\r=.returned (.tuple #[.string (domE D.inZ st e0 na x).1,.int .i64 ((domE D.inZ st e0 na x).2:Int)])) \/
  (¬ (VM D/\isWord na x=true)/\r=.returned (.tuple #[.string ⟨#[]⟩,.int .i64 1])))
structure DI (w wo wr:World) (cb xb ib rb:Nat) (D:MD) (sv stv xv:Value) (i:Nat) (v:Nat->ByteArray) (e:Nat):Prop where
 hb:Below w.heap.size w wr
 gs:wo.grownBy wr (some cb)
 sc:Scl wr cb D sv stv e
 kx:Bx wr xb 25 xv
 ki:Bx wr ib 3 (.int .i64 (i:Int))
 rv:wr.rowIs rb 9 D.n (fun q=>.string (v q))
end
section
open Go.RowKit Go.Deep
theorem x3g {D:MD}:AccD D↔∀ i,i<D.n->anyA D i (fun a b=>!selE a b)=false:=by
 constructor
 ·intro h i hi;refine v0x fun d g=>?_;have:=h i d hi g;simp[selE,this]
 intro h q d l g;have k:=h q l;cases c:selE (D.ain q d) (D.aout q d)
 ·have j:anyA D q (fun a b=>!selE a b)=true:=y6v.2 ⟨d,g,by simp[c]⟩;rw[k] at j;cases j
 unfold selE at c;simp at c;exact c.symm
def TstM (Q:Prop) (w:World) (r:Ending) (w':World):Prop:=Below w.heap.size w w'/\((Q/\r=.returned (.bool true))\/(¬ Q/\r=.returned (.bool false)))
theorem u1w {D:MD} {mv:Value} (w:World) (hM:Ma none w mv D) (Z:MSz D) (ht:Tab w):Calls prog 106 #[mv,.func (.func 107) #[] #[]] w (TstM (VM D/\AccD D) w):=by
 obtain⟨sv,rfl,hS⟩:=hM;obtain⟨a,cp,b,a9,A,C,BB,O,b8,ha,hc,hm,hb,J⟩:=hS.open;subst b8;unfold maxLen at hm;obtain⟨L,o⟩:=exq (w.alloc (.cells #[.int .i64 D.kind,.int .i64 D.start,.string D.lead,.slice a D.n cp] 24));obtain⟨B,u⟩:=exq (L.alloc (.cells #[.func (.func 107) #[] #[]] 100));have b1:L.heap.size=w.heap.size+1:=by rw[o];simp
 have b6:Fr (fun _=>False) w L:=by rw[o];exact Fr.alloc _ _
 have a3:Fr (fun _=>False) L B:=by rw[u];exact Fr.alloc _ _
 have a2:L.heap[w.heap.size]?=some (.cells #[.int .i64 D.kind,.int .i64 D.start,.string D.lead,.slice a D.n cp] 24 (0,0)):=by rw[o];exact heap_alloc_new w _
 have d:B.heap[w.heap.size]?=some (.cells #[.int .i64 D.kind,.int .i64 D.start,.string D.lead,.slice a D.n cp] 24 (0,0)):=(a3.block _ (lt_of_block a2) (fun e=>e)).trans a2;have l:PAl (w.heap.size+1) 107 B:=by show B.heap[w.heap.size+1]?=_;rw[<- b1,u];exact heap_alloc_new L _
 have F:Below w.heap.size w B:=(b6.trans a3).below nlr (fun _ e=>e.elim);obtain⟨mb,T⟩:=exq (w.heap.size);obtain⟨tb,P⟩:=exq (w.heap.size+1);obtain⟨⟨m0,m1,m2,m3⟩,_⟩:=cells4 d;have b7:=qh (z2g B (⟨_,rfl,hS.kept (z0b F none)⟩:Ma none B (.agg #[.int .i64 D.kind,.int .i64 D.start,.string D.lead,.slice a D.n cp]) D) Z (ht.below F nlr));rw[<- T] at d;rw[<- P] at l;have d0:mb<B.heap.size:=lt_of_block d;have Y:=qh F;clear F;have U:=qh d;clear d a2 b6 a3 b1;have m:=qh l;clear l;have d7:=qh hS;clear hS;have HT:=qh ht;clear ht;have d6:=qh Z;clear Z;have HA:=qh ha;clear ha;have HB:=qh hb;clear hb;have HR:=qh J;clear J;rw[u,o] at m0 m1 m2 m3
 go_enter func106,ntmps106
 go_wp2_with fail
 rw[<- o,<- u,<- P,<- T];clear m0 m1 m2 m3 o u T P;refine b7.out.mono ?_;rintro r w3 ⟨E,hr⟩;have H:=Y.out.trans (E.mono Y.out.size);have d:=(E.block _ (lt_of_block U.out)).trans U.out;have l:PAl tb 107 w3:=(E.block _ (lt_of_block m.out)).trans m.out;obtain⟨⟨m0,m1,m2,m3⟩,_⟩:=cells4 d;clear E U m b7 Y d0;have S:=qh H;clear H;have m:=qh l;clear l d
 rcases hr with ⟨hv,rfl⟩|⟨hv,rfl⟩
 rotate_left
 ·have HV:=qh hv;clear hv;go_wp2;go_ret;exact⟨S.out,.inr ⟨fun h=>HV.out h.1,rfl⟩⟩
 have b9:=hv.n1;have c9:=hv.n2;have HV:=qh hv;clear hv;obtain rfl:=HA.out (by omega);obtain⟨n,hn⟩:=exq (D.n);rw[<- hn] at b9 c9 m3 hc;have HN:=qh hn;rw[<- hn];clear hn
 go_wp2_with fail
 clear m0 m1 m2 m3
 go_loopw [13] (fun W wr=>∃ i:Nat,i<=n/\W=.int .i64 (i:Int)/\Below w.heap.size w wr/\PAl tb 107 wr/\∀ j,j<i->anyA D j (fun a b=>!selE a b)=false) (fun W _=>n-(intOf W).toNat)
 case atStart=>exact⟨0,Nat.zero_le _,rfl,S.out,m.out,fun j hj=>by omega⟩
 obtain⟨i,hi,rfl,a8,b4,b3⟩:=hrel;clear S m;have a6:=qh b3;clear b3;have s:=qh a8;clear a8;have R:=qh b4;clear b4;by_cases d4:i<n
 ·have d3:(i:Int)<(n:Int):=by omega
  have d1:(0:Int)<=(i:Int):=by omega
  have c7:i<D.n:=by have:=HN.out;omega
  have a7:=(HB.out (by have:=HN.out;omega)).1;obtain⟨k1,k2,k3,k4,k5,k6,k7⟩:=HR.out i c7;have t0:=(s.out.cell (p:=⟨b,a9+i*2,none⟩) a7).trans k1;have t1:=(s.out.cell (p:=⟨b,a9+i*2+1,none⟩) a7).trans k2;clear k1 k2;have b0:D.na i<=30000:=by have h1:=Nat.le_trans (z1u D (show i+1<=D.n by omega)) HV.out.arcs;have h2:z0f D (i+1)=z0f D i+D.na i:=rfl;omega
  obtain⟨w4,Q⟩:=exq (wr.alloc (.cells #[.string (D.fin i),.slice (A i) (D.na i) (C i)] 57));have X:Below wr.heap.size wr w4:=by rw[Q];exact(Below.refl _ wr).alloc nlr _
  have c:=s.out.trans (X.mono s.out.size);have g:PAl tb 107 w4:=(X.block _ (lt_of_block R.out)).trans R.out;have I:ArS none w4 (.slice (A i) (D.na i) (C i)) D i:=by
   by_cases h0:D.na i=0
   ·exact .inl ⟨h0,A i,C i,by rw[h0],k4⟩
   refine .inr ⟨BB i,O i,C i,by rw[k5 (by omega)],⟨Nat.lt_of_lt_of_le (k6 (by omega)).1 c.size,by simp⟩,k3,k4,fun k hk=>?_⟩;obtain⟨u0,u1,u2,u3⟩:=k7 k hk;have G:=(k6 (by omega)).1;exact⟨(c.cell (p:=⟨BB i,O i+k*4,none⟩) G).trans u0,(c.cell (p:=⟨BB i,O i+k*4+1,none⟩) G).trans u1,(c.cell (p:=⟨BB i,O i+k*4+2,none⟩) G).trans u2,(c.cell (p:=⟨BB i,O i+k*4+3,none⟩) G).trans u3⟩
  have d5:∀ (fn:Fn) (first cap:Array Value) (w:World),(Instr.makeFunc fn first cap).run prog w=.ok (.func fn first cap) w:=fun _ _ _ _=>rfl
  have HC:=qh (y6w w4 I b0 (u4y tb u4s) (fun wb hb=>(hb.block _ (lt_of_block g)).trans g));have a4:=qh c;clear c X I k3 k4 k5 k6 k7;have z:=qh g;clear g R s
  go_wp2_with fail
  rw[<- Q];clear t0 t1 Q;refine HC.out.mono ?_;rintro r w5 ⟨rfl,a5⟩;have N:=a4.out.trans (a5.mono a4.out.size);have K:PAl tb 107 w5:=(a5.block _ (lt_of_block z.out)).trans z.out;have b5:=qh N;clear N a5 a4 HC;have b2:=qh K;clear K z;cases hp:anyA D i (fun a b=>!selE a b)
  ·have a1:=qh hp;clear hp;go_wp2;go_roundw
   case rel=>exact⟨i+1,by omega,by go_num,b5.out,b2.out,fun j hj=>by
    by_cases e:j=i
    ·subst e;exact a1.out
    exact a6.out j (by omega)⟩
   simp[intOf];omega
  have a1:=qh hp;clear hp;go_wp2;go_ret;exact⟨b5.out,.inr ⟨fun h=>absurd (x3g.1 h.2 i (by have:=HN.out;omega)) (by rw[a1.out];simp),rfl⟩⟩
 have c8:n=i:=by omega
 subst c8;have d2:¬ ((n:Int)<(n:Int)):=by omega
 go_wp2;go_ret;exact⟨s.out,.inl ⟨⟨HV.out,x3g.2 (fun i hi=>a6.out i (by rw[HN.out];exact hi))⟩,rfl⟩⟩
theorem x4x {D:MD} {mv:Value} (w:World) (I:Ma none w mv D) (o:MSz D) (B:Tab w):Calls prog 62 #[mv] w (TstM (VM D/\AccD D) w):=by
 obtain⟨sv,rfl,u⟩:=I;obtain⟨a,p,b,G,A,C,BB,O,z,_⟩:=u.open;subst z;obtain⟨h,c⟩:=exq (w.alloc (.cells #[.int .i64 D.kind,.int .i64 D.start,.string D.lead,.slice a D.n p] 24));have d:Below w.heap.size w h:=by rw[c];exact(Below.refl _ w).alloc nlr _
 have j:h.heap[w.heap.size]?=some (.cells #[.int .i64 D.kind,.int .i64 D.start,.string D.lead,.slice a D.n p] 24 (0,0)):=by rw[c];exact heap_alloc_new w _
 obtain⟨⟨m0,m1,F,E⟩,_⟩:=cells4 j;have i:=qh (u1w h (⟨_,rfl,u.kept (z0b d none)⟩:Ma none h (.agg #[.int .i64 D.kind,.int .i64 D.start,.string D.lead,.slice a D.n p]) D) o (B.below d nlr));have g:=qh d;clear d j o B u;rw[c] at m0 m1 F E
 go_enter func62,ntmps62
 go_wp2_with fail
 rw[<- c];clear m0 m1 F E c;refine i.out.mono ?_;rintro r J ⟨m,H⟩;have k:=qh (g.out.trans (m.mono g.out.size));clear m g i
 rcases H with ⟨l,rfl⟩|⟨l,rfl⟩
 ·have s:=qh l;clear l;go_wp2;go_ret;exact⟨k.out,.inl ⟨s.out,rfl⟩⟩
 have s:=qh l;clear l;go_wp2;go_ret;exact⟨k.out,.inr ⟨s.out,rfl⟩⟩
def DomE (D:MD) (na:Nat) (x:Nat->Int) (w:World) (r:Ending) (w':World):Prop :=
 Below w.heap.size w w'/\∃ z:ByteArray × Nat,r=.returned (.tuple #[.string z.1,.int .i64 (z.2:Int)])/\((VM D/\isWord na x=true/\Dv D na x z)\/(¬ (VM D/\isWord na x=true)/\z=(⟨#[]⟩,1)))
theorem DomX.v {D:MD} {na:Nat} {x:Nat->Int} {w:World} {r:Ending} {p:World} (h:DomX D na x w r p):DomE D na x w r p:=by
 refine⟨h.1,?_⟩
 rcases h.2 with ⟨o,l,st,i,A,c⟩|⟨B,c⟩
 ·refine⟨_,c,.inl ⟨o,l,fun j k m=>?_⟩⟩;by_cases g:i=0
  ·subst g;exact(u1c o.inZ m (A.stZ (fun _ _=>rfl) m) (isWord.ne l) j).2
  have z:=y0v j;have u:=y4c z;by_cases d:(dwE D.inZ st i x 0).2=0
  ·exact absurd d g
  have s:=y7p (D:=D.inZ) (st:=st) (x:=x) d na;rw[Nat.zero_add] at s;rw[s] at u;exact absurd u d
 exact⟨(⟨#[]⟩,1),c,.inr ⟨B,rfl⟩⟩
end
section
open Go.RowKit Go.Deep
def MD.outZ (D:MD):MD:={ D with ain:=fun _ _=>0 }
theorem v5y (D:MD):D.sym (fun _ o=>(0,o))=D.outZ:=rfl
theorem v9f:∀ args w,(callFunc 63 args).run prog w=.ok (.enter 63 args) w:=fun args w=>by kernel_rfl
theorem u0i:∀ args w,(callFunc 64 args).run prog w=.ok (.enter 64 args) w:=fun args w=>by kernel_rfl
theorem u2v (w:World) (i o:Int):Calls prog 63 #[.int .i64 i,.int .i64 o] w (fun r w'=>r=.returned (.tuple #[.int .i64 i,.int .i64 0])/\w'=w):=by
 go_enter func63,ntmps63
 go_wp2;go_ret2;exact⟨rfl,rfl⟩
theorem u4k (w:World) (i o:Int):Calls prog 64 #[.int .i64 i,.int .i64 o] w (fun r w'=>r=.returned (.tuple #[.int .i64 0,.int .i64 o])/\w'=w):=by
 go_enter func64,ntmps64
 go_wp2;go_ret2;exact⟨rfl,rfl⟩
theorem VM.outZ {D:MD} (h:VM D):VM D.outZ:=h.sym (φ:=fun _ o=>(0,o)) (fun i o _ _ c d=>⟨by show (0:Int)<=0;omega,by show (0:Int)<=500;omega,c,d⟩)
def accQ (D E:MD):Prop:=AccD D/\AccD E/\D.kind=E.kind
def CrsE (D E:MD) (w:World) (r:Ending) (w':World):Prop :=
 Below w.heap.size w w'/\((VM D/\VM E/\accQ D E /\
  ((
   dnOk (tmF (z0n D.kind D.lead E.lead) 0) (E.n+D.n) (catA D.inZ E.outZ)/\∃ sv R,r=.returned (.tuple #[.agg #[.int .i64 D.kind,.int .i64 ((E.n:Int)+D.start),.string (z0n D.kind D.lead E.lead).1,sv],.int .i64 0])/\OwM w' w.heap.size sv (catD D.inZ E.outZ (z0n D.kind D.lead E.lead).1) R) \/
   (¬ dnOk (tmF (z0n D.kind D.lead E.lead) 0) (E.n+D.n) (catA D.inZ E.outZ)/\r=.returned (.tuple #[z7m,.int .i64 2])))) \/
  (VM D/\VM E/\¬ accQ D E/\r=.returned (.tuple #[z7m,.int .i64 6]))\/(¬ (VM D/\VM E)/\r=.returned (.tuple #[z7m,.int .i64 1])))
theorem OwM.ma {w c:World} {B:Nat} {sv:Value} {D:MD} {R:Nat->Value} (h:OwM w B sv D R) (hb:Below w.heap.size w c):Ma none c (.agg #[.int .i64 D.kind,.int .i64 D.start,.string D.lead,sv]) D:=⟨sv,rfl,h.sts.kept (z0b hb none)⟩
theorem x9i {D E:MD} {mv nv:Value} (w:World) (hM:Ma none w mv D) (hN:Ma none w nv E) (f4:MSz D) (i4:MSz E) (ht:Tab w) (d8:E.n+D.n<=1000) (e2:z0f D D.n+z0f E E.n<=1000):Calls prog 29 #[mv,nv] w (CrsE D E w):=by
 obtain⟨sv,rfl,hS⟩:=hM;obtain⟨sw,rfl,g8⟩:=hN;obtain⟨a,cp,_,_,_,_,_,_,e7,_⟩:=hS.open;obtain⟨a2,d4,_,_,_,_,_,_,j6,_⟩:=g8.open;subst e7;subst j6;have f9:∀ W,Below w.heap.size w W->Ma none W (.agg #[.int .i64 D.kind,.int .i64 D.start,.string D.lead,.slice a D.n cp]) D:=fun W h=>⟨_,rfl,hS.kept (z0b h none)⟩;have e1:∀ W,Below w.heap.size w W->Ma none W (.agg #[.int .i64 E.kind,.int .i64 E.start,.string E.lead,.slice a2 E.n d4]) E:=fun W h=>⟨_,rfl,g8.kept (z0b h none)⟩;have f7:∀ W,Below w.heap.size w W->Tab W:=fun W h=>ht.below h nlr;obtain⟨w1,U⟩:=exq (w.alloc (.cells #[.int .i64 D.kind,.int .i64 D.start,.string D.lead,.slice a D.n cp] 24));obtain⟨w2,T⟩:=exq (w1.alloc (.cells #[.int .i64 E.kind,.int .i64 E.start,.string E.lead,.slice a2 E.n d4] 24));obtain⟨w3,b6⟩:=exq (w2.alloc (.cells #[.int .i64 0,.int .i64 0,.string ⟨#[]⟩,.slice none 0 0] 24));have e9:w1.heap.size=w.heap.size+1:=by rw[U];simp
 have j1:w2.heap.size=w.heap.size+1+1:=by rw[T];simp[e9]
 have h6:Fr (fun _=>False) w w1:=by rw[U];exact Fr.alloc _ _
 have g5:Fr (fun _=>False) w1 w2:=by rw[T];exact Fr.alloc _ _
 have c8:Fr (fun _=>False) w2 w3:=by rw[b6];exact Fr.alloc _ _
 have g4:w1.heap[w.heap.size]?=some (.cells #[.int .i64 D.kind,.int .i64 D.start,.string D.lead,.slice a D.n cp] 24 (0,0)):=by rw[U];exact heap_alloc_new w _
 have m:w3.heap[w.heap.size]?=some (.cells #[.int .i64 D.kind,.int .i64 D.start,.string D.lead,.slice a D.n cp] 24 (0,0)):=(c8.block _ (by omega) (fun e=>e)).trans ((g5.block _ (lt_of_block g4) (fun e=>e)).trans g4);have d6:w2.heap[w.heap.size+1]?=some (.cells #[.int .i64 E.kind,.int .i64 E.start,.string E.lead,.slice a2 E.n d4] 24 (0,0)):=by rw[<- e9,T];exact heap_alloc_new w1 _
 have j:w3.heap[w.heap.size+1]?=some (.cells #[.int .i64 E.kind,.int .i64 E.start,.string E.lead,.slice a2 E.n d4] 24 (0,0)):=(c8.block _ (by omega) (fun e=>e)).trans d6;have d:w3.heap[w.heap.size+1+1]?=some (.cells #[.int .i64 0,.int .i64 0,.string ⟨#[]⟩,.slice none 0 0] 24 (0,0)):=by rw[<- j1,b6];exact heap_alloc_new w2 _
 have d0:Below w.heap.size w w3:=((h6.trans g5).trans c8).below nlr (fun _ e=>e.elim);obtain⟨mb,d3⟩:=exq (w.heap.size);obtain⟨nb,g0⟩:=exq (w.heap.size+1);obtain⟨H,g6⟩:=exq (w.heap.size+1+1);have P:w.heap.size<=H:=by omega
 rw[<- d3] at m;rw[<- g0] at j;rw[<- g6] at d;obtain⟨⟨m0,m1,m2,m3⟩,_⟩:=cells4 m;have j4:=qh (z2g w3 (f9 w3 d0) f4 (f7 w3 d0));have j3:=qh f9;clear f9 hS;have e8:=qh e1;clear e1 g8;have a3:=qh f7;clear f7 ht;have e5:=qh d0;clear d0;have k:=qh m;clear m g4 h6 g5 c8 e9 j1 d6;have g:=qh j;clear j;have c:=qh d;clear d;have g7:=qh f4;clear f4;have d2:=qh i4;clear i4;have j0:=qh d8;clear d8;have i8:=qh e2;clear e2;rw[d3,b6,T,U] at m0 m1 m2 m3
 go_enter func29,ntmps29
 go_wp2_with fail
 rw[<- U,<- T,<- b6,<- g6,<- g0,<- d3];clear m0 m1 m2 m3 U T b6 d3 g0 g6;refine j4.out.mono ?_;rintro r w4 ⟨b8,G⟩;have m:=(b8.block _ (lt_of_block k.out)).trans k.out;have j:=(b8.block _ (lt_of_block g.out)).trans g.out;have d:=(b8.block _ (lt_of_block c.out)).trans c.out;have a1:=qh (e5.out.trans (b8.mono e5.out.size));clear b8 k g c j4 e5;have k:=qh m;clear m;have g:=qh j;clear j;have c:=qh d;clear d
 rcases G with ⟨hv,rfl⟩|⟨hv,rfl⟩
 rotate_left
 ·have HV:=qh hv;clear hv;obtain⟨⟨r0,r1,r2,r3⟩,l⟩:=cells4 c.out;have f0:=l 0;have f1:=l 1;have f2:=l 2;have f3:=l 3;clear l
  go_wp2_with fail
  exact bodyPost_ret (z0j rfl _ (b:=H) rfl rfl (z0v w4 H _ _ _ _ c.out)) rfl ⟨z0d a1.out P _ _ _ _,.inr (.inr ⟨fun h=>HV.out h.1,rfl⟩)⟩
 have HV:=qh hv;clear hv;obtain⟨⟨n0,n1,n2,n3⟩,_⟩:=cells4 g.out;have h9:=qh (z2g w4 (e8.out w4 a1.out) d2.out (a3.out w4 a1.out))
 go_wp2_with fail
 clear n0 n1 n2 n3;refine h9.out.mono ?_;rintro r w5 ⟨b0,G⟩;have m:=(b0.block _ (lt_of_block k.out)).trans k.out;have j:=(b0.block _ (lt_of_block g.out)).trans g.out;have d:=(b0.block _ (lt_of_block c.out)).trans c.out;have X:=qh (a1.out.trans (b0.mono a1.out.size));clear b0 k g c h9 a1;have k:=qh m;clear m;have g:=qh j;clear j;have c:=qh d;clear d
 rcases G with ⟨hv,rfl⟩|⟨hv,rfl⟩
 rotate_left
 ·have p:=qh hv;clear hv;obtain⟨⟨r0,r1,r2,r3⟩,l⟩:=cells4 c.out;have f0:=l 0;have f1:=l 1;have f2:=l 2;have f3:=l 3;clear l
  go_wp2_with fail
  exact bodyPost_ret (z0j rfl _ (b:=H) rfl rfl (z0v w5 H _ _ _ _ c.out)) rfl ⟨z0d X.out P _ _ _ _,.inr (.inr ⟨fun h=>p.out h.2,rfl⟩)⟩
 have p:=qh hv;clear hv;obtain⟨⟨m0,m1,m2,m3⟩,_⟩:=cells4 k.out;have h7:=qh (x4x w5 (j3.out w5 X.out) g7.out (a3.out w5 X.out))
 go_wp2_with fail
 clear m0 m1 m2 m3;refine h7.out.mono ?_;rintro r w6 ⟨b4,G⟩;have m:=(b4.block _ (lt_of_block k.out)).trans k.out;have j:=(b4.block _ (lt_of_block g.out)).trans g.out;have d:=(b4.block _ (lt_of_block c.out)).trans c.out;have Y:=qh (X.out.trans (b4.mono X.out.size));clear b4 k g c h7 X;have k:=qh m;clear m;have g:=qh j;clear j;have c:=qh d;clear d
 rcases G with ⟨hq,rfl⟩|⟨hq,rfl⟩
 rotate_left
 ·have a4:=qh (show ¬ accQ D E from fun h=>hq ⟨HV.out,h.1⟩);clear hq;obtain⟨⟨r0,r1,r2,r3⟩,l⟩:=cells4 c.out;have f0:=l 0;have f1:=l 1;have f2:=l 2;have f3:=l 3;clear l
  go_wp2_with fail
  exact bodyPost_ret (z0j rfl _ (b:=H) rfl rfl (z0v w6 H _ _ _ _ c.out)) rfl ⟨z0d Y.out P _ _ _ _,.inr (.inl ⟨HV.out,p.out,a4.out,rfl⟩)⟩
 have j9:=qh hq;clear hq;obtain⟨⟨n0,n1,n2,n3⟩,_⟩:=cells4 g.out;have j2:=qh (x4x w6 (e8.out w6 Y.out) d2.out (a3.out w6 Y.out))
 go_wp2_with fail
 clear n0 n1 n2 n3;refine j2.out.mono ?_;rintro r w7 ⟨a5,G⟩;have m:=(a5.block _ (lt_of_block k.out)).trans k.out;have j:=(a5.block _ (lt_of_block g.out)).trans g.out;have d:=(a5.block _ (lt_of_block c.out)).trans c.out;have C:=qh (Y.out.trans (a5.mono Y.out.size));clear a5 k g c j2 Y;have k:=qh m;clear m;have g:=qh j;clear j;have c:=qh d;clear d
 rcases G with ⟨hq,rfl⟩|⟨hq,rfl⟩
 rotate_left
 ·have a4:=qh (show ¬ accQ D E from fun h=>hq ⟨p.out,h.2.1⟩);clear hq;obtain⟨⟨r0,r1,r2,r3⟩,l⟩:=cells4 c.out;have f0:=l 0;have f1:=l 1;have f2:=l 2;have f3:=l 3;clear l
  go_wp2_with fail
  exact bodyPost_ret (z0j rfl _ (b:=H) rfl rfl (z0v w7 H _ _ _ _ c.out)) rfl ⟨z0d C.out P _ _ _ _,.inr (.inl ⟨HV.out,p.out,a4.out,rfl⟩)⟩
 have j8:=qh hq;clear hq;by_cases d1:D.kind=E.kind
 rotate_left
 ·have a4:=qh (show ¬ accQ D E from fun h=>d1 h.2.2);obtain⟨⟨r0,r1,r2,r3⟩,l⟩:=cells4 c.out;have f0:=l 0;have f1:=l 1;have f2:=l 2;have f3:=l 3;clear l;have m0:=(cells4 k.out).1.1;have n0:=(cells4 g.out).1.1
  go_wp2_with fail
  exact bodyPost_ret (z0j rfl _ (b:=H) rfl rfl (z0v w7 H _ _ _ _ c.out)) rfl ⟨z0d C.out P _ _ _ _,.inr (.inl ⟨HV.out,p.out,a4.out,rfl⟩)⟩
 have HQ:=qh (show accQ D E from ⟨j9.out.2,j8.out.2,d1⟩);have h5:=qh d1;clear d1;obtain⟨⟨m0,m1,m2,m3⟩,_⟩:=cells4 k.out;have n0:=(cells4 g.out).1.1;rw[<- h5.out] at n0;have e6:=z6p (φ:=fun i _=>(i,0)) w7 (j3.out w7 C.out) g7.out (a3.out w7 C.out) (y4x v9f (fun w i o=>u2v w i o)) trivial (fun _ _=>trivial);rw[u0m] at e6;have i5:=qh e6;clear e6
 go_wp2_with fail
 clear m0 m1 m2 m3 n0;refine i5.out.mono ?_;rintro r w8 ⟨c9,G⟩;have j:=(c9.block _ (lt_of_block g.out)).trans g.out;have d:=(c9.block _ (lt_of_block c.out)).trans c.out;have g3:=qh (C.out.trans (c9.mono C.out.size));have k3:w.heap.size<=w7.heap.size:=C.out.size;clear c9 k g c i5 C;have g:=qh j;clear j;have c:=qh d;clear d
 rcases G with ⟨_,k1,R1,rfl,L⟩|⟨a9,_⟩
 rotate_left
 ·exact absurd HV.out a9
 obtain⟨i7,i6,g9,_,_⟩:=z0y L.top;subst g9;obtain⟨ib,g2⟩:=exq (w8.heap.size);obtain⟨w9,b2⟩:=exq (w8.alloc (.cells #[.int .i64 D.inZ.kind,.int .i64 D.inZ.start,.string D.inZ.lead,.slice i7 D.inZ.n i6] 24));have a6:Below w8.heap.size w8 w9:=by rw[b2];exact(Below.refl _ w8).alloc nlr _
 have A:w9.heap[ib]?=some (.cells #[.int .i64 D.inZ.kind,.int .i64 D.inZ.start,.string D.inZ.lead,.slice i7 D.inZ.n i6] 24 (0,0)):=by rw[b2,g2];exact heap_alloc_new w8 _
 have j:=(a6.block _ (lt_of_block g.out)).trans g.out;have d:=(a6.block _ (lt_of_block c.out)).trans c.out;have S:=g3.out.trans (a6.mono g3.out.size);have b9:=z6p (φ:=fun _ o=>(0,o)) w9 (e8.out w9 S) d2.out (a3.out w9 S) (y4x u0i (fun w i o=>u4k w i o)) trivial (fun _ _=>trivial);rw[v5y] at b9;have d9:=fun W (h:Below w8.heap.size w8 W)=>L.ma h;obtain⟨⟨n0,n1,n2,n3⟩,_⟩:=cells4 j;rw[b2] at n0 n1 n2 n3;have e3:=qh b9;clear b9;have e4:=qh d9;clear d9 L;have f8:=qh a6;clear a6;have b5:=qh S;clear S g3;have O:=qh A;clear A;have g:=qh j;clear j;have c:=qh d;clear d
 go_wp2_with fail
 rw[<- g2,<- b2];clear n0 n1 n2 n3 g2 b2;refine e3.out.mono ?_;rintro r Z ⟨B,G⟩;have A:=(B.block _ (lt_of_block O.out)).trans O.out;have d:=(B.block _ (lt_of_block c.out)).trans c.out;have a7:=b5.out.trans (B.mono b5.out.size);have a8:=f8.out.trans (B.mono f8.out.size);clear B g c O e3 f8;have c:=qh d;clear d;have O:=qh A;clear A;have N:=qh a7;clear a7 b5;have J:=qh a8;clear a8
 rcases G with ⟨_,k4,R2,rfl,Q⟩|⟨a9,_⟩
 rotate_left
 ·exact absurd p.out a9
 obtain⟨h3,h8,j5,_,_⟩:=z0y Q.top;subst j5;obtain⟨ob,g1⟩:=exq (Z.heap.size);obtain⟨I,F⟩:=exq (Z.alloc (.cells #[.int .i64 E.outZ.kind,.int .i64 E.outZ.start,.string E.outZ.lead,.slice h3 E.outZ.n h8] 24));have s:Below Z.heap.size Z I:=by rw[F];exact(Below.refl _ Z).alloc nlr _
 have h0:I.heap[ob]?=some (.cells #[.int .i64 E.outZ.kind,.int .i64 E.outZ.start,.string E.outZ.lead,.slice h3 E.outZ.n h8] 24 (0,0)):=by rw[F,g1];exact heap_alloc_new Z _
 have A:=(s.block _ (lt_of_block O.out)).trans O.out;have d:=(s.block _ (lt_of_block c.out)).trans c.out;have K:=N.out.trans (s.mono N.out.size);have b1:=J.out.trans (s.mono J.out.size);have d5:=x6a I (e4.out I b1) (Q.ma s) ({ g7.out with }:MSz D.inZ) ({ d2.out with }:MSz E.outZ) (a3.out I K) j0.out (by
  have h1:z0f D.inZ D.n=z0f D D.n:=y1b D D.n;have h2:z0f E.outZ E.n=z0f E E.n:=y1s (fun _ o=>(0,o)) E E.n;have:=i8.out;show z0f D.inZ D.n+z0f E.outZ E.n<=1000;rw[h1,h2];exact this)
 obtain⟨⟨o0,o1,o2,o3⟩,_⟩:=cells4 h0;obtain⟨⟨i0,i1,i2,i3⟩,_⟩:=cells4 A;rw[F] at o0 o1 o2 o3 i0 i1 i2 i3;rw[g1] at o0 o1 o2 o3;have d7:=qh d5;clear d5;have u:=qh K;clear K N b1 J s Q e4;have c:=qh d;clear d A h0 O
 go_wp2_with fail
 rw[<- F];clear o0 o1 o2 o3 i0 i1 i2 i3 F g1;refine d7.out.mono ?_;rintro r h4 ⟨c7,G⟩;have d:=(c7.block _ (lt_of_block c.out)).trans c.out;have e0:=qh (u.out.trans (c7.mono u.out.size));have k0:w.heap.size<=I.heap.size:=u.out.size;clear c7 d7 u c;have c:=qh d;clear d;obtain⟨⟨r0,r1,r2,r3⟩,l⟩:=cells4 c.out;have f0:=l 0;have f1:=l 1;have f2:=l 2;have f3:=l 3;clear l;unfold z7m at G
 rcases G with ⟨-,-,-,G⟩|⟨_,_,j7,_⟩|⟨a9,_⟩
 rotate_left
 ·exact absurd h5.out j7
 ·exact absurd ⟨HV.out.inZ,p.out.outZ⟩ a9
 obtain⟨z,hz⟩:=exq (z0n D.kind D.lead E.lead);rw[show z0n D.inZ.kind D.inZ.lead E.outZ.lead=z from hz.symm] at G;have HZ:=qh hz;clear hz
 rcases G with ⟨b7,k2,R,rfl,b3⟩|⟨b7,rfl⟩
 ·obtain⟨sa,sc,e7,_,_⟩:=z0y b3.top;subst e7;have i9:=qh (z3s (b3.box4 c.out (.int .i64 D.inZ.kind) (.int .i64 ((E.outZ.n:Int)+D.inZ.start)) (.string z.1) (.slice sa (catD D.inZ E.outZ z.1).n sc)) k0);clear b3;have f5:=qh b7;clear b7
  go_wp2_with fail
  refine bodyPost_ret (z0j rfl _ (b:=H) rfl rfl (z0v h4 H _ _ _ _ c.out)) rfl ⟨z0d e0.out P _ _ _ _,.inl ⟨HV.out,p.out,HQ.out,.inl ⟨?_,.slice sa (catD D.inZ E.outZ z.1).n sc,R,?_,?_⟩⟩⟩
  ·rw[<- HZ.out];exact f5.out
  ·rw[<- HZ.out];rfl
  rw[<- HZ.out];exact i9.out
 have f5:=qh b7;clear b7
 go_wp2_with fail
 refine bodyPost_ret (z0j rfl _ (b:=H) rfl rfl (z0v h4 H _ _ _ _ c.out)) rfl ⟨z0d e0.out P _ _ _ _,.inl ⟨HV.out,p.out,HQ.out,.inr ⟨?_,rfl⟩⟩⟩;rw[<- HZ.out];exact f5.out
end
section
open Go.RowKit Go.Deep
def mpO (pi po:Nat->Int):Nat->Int->Option Int
 | 0,_=>none
 | q+1,s=>match mpO pi po q s with|some t=>some t|none=>if pi q=s then some (po q) else none
def mapF (n:Nat) (pi po:Nat->Int) (s:Int):Int:=(mpO pi po n s).getD s
def RenOk (n:Nat) (pi po:Nat->Int):Prop:=∀ i,i<n->1<=pi i/\pi i<=500/\0<=po i/\po i<=500
def PrS (z:Option Nat) (w:World) (v:Value) (n:Nat) (pi po:Nat->Int):Prop :=
 (n=0/\∃ a cap,v=.slice a 0 cap/\cap<=maxLen)\/∃ b off cap,v=.slice (some ⟨b,off,none⟩) n cap/\(b<w.heap.size/\some b≠z)/\n<=cap/\cap<=maxLen/\∀ i,i<n->w.cell? ⟨b,off+i*2,none⟩=some (.int .i64 (pi i))/\w.cell? ⟨b,off+i*2+1,none⟩=some (.int .i64 (po i))
theorem PrS.kept {z:Option Nat} {w l:World} {v:Value} {n:Nat} {o k:Nat->Int} (h:PrS z w v n o k) (j:w.grownBy l z):PrS z l v n o k:=by
 rcases h with h|⟨b,g,d,p,c,u,s,m⟩
 ·exact .inl h
 exact .inr ⟨b,g,d,p,⟨Nat.lt_of_lt_of_le c.1 j.size,c.2⟩,u,s,fun i hi=>⟨j.cell (m i hi).1 c.2,j.cell (m i hi).2 c.2⟩⟩
theorem PrS.open {z:Option Nat} {w:World} {v:Value} {n:Nat} {d c:Nat->Int} (h:PrS z w v n d c):∃ a cap b off,v=.slice a n cap/\(0<n->a=some ⟨b,off,none⟩)/\n<=cap/\cap<=maxLen/\(0<n->b<w.heap.size/\some b≠z)/\∀ i,i<n->w.cell? ⟨b,off+i*2,none⟩=some (.int .i64 (d i))/\w.cell? ⟨b,off+i*2+1,none⟩=some (.int .i64 (c i)):=by
 rcases h with ⟨g,a,cap,rfl,l⟩|⟨b,off,cap,rfl,k,o,j,m⟩
 ·exact⟨a,cap,0,0,by rw[g],by omega,by omega,l,by omega,fun i hi=>by omega⟩
 exact⟨_,cap,b,off,rfl,fun _=>rfl,o,j,fun _=>k,m⟩
def MpM (w:World) (pb q:Nat) (pi po:Nat->Int):Prop:=∃ D:DataW Unit,w.ownsMap prog 3 (plainElem prog 3) pb q D/\Maps.IsMap D/\∀ s z:Int,D.atKey (.int .i64 s) (.lit (.int .i64 z))=.lit (.int .i64 ((mpO pi po q s).getD z))
theorem u2w:Maps.Keyed prog 3:=Maps.int_keyed underlying3
theorem keyM {s:Int} (c:0<=s) (d:s<=500):keyOf prog 3 (.int .i64 s)=some (.int .i64 s):=Maps.keyOf_int_mk underlying3 (by simp[Lit.wf,IntKind.min,IntKind.max,IntKind.signed,IntKind.bits];omega)
theorem u5c (w:World):(zeroValue 3).run prog w=.ok (.int .i64 0) w:=by kernel_rfl
theorem u3f {s:Int} (c:0<=s) (d:s<=500):plainElem (H:=Unit) prog 3 (.int .i64 s)=some (.lit (.int .i64 s),[]):=plainElem_int underlying3 (by simp[Lit.wf,IntKind.min,IntKind.max,IntKind.signed,IntKind.bits];omega)
theorem MpM.made (w:World) (d c:Nat->Int):MpM (w.alloc (.map #[] 0)) w.heap.size 0 d c:=⟨.map [],World.ownsMap_made w _ _ _,⟨[],rfl⟩,fun _ _=>rfl⟩
theorem MpM.kept {w i:World} {d q:Nat} {j g:Nat->Int} {C:Nat->Prop} (h:MpM w d q j g) (hf:Fr C w i) (p:¬ C d):MpM i d q j g:=by
 obtain⟨D,⟨l,c,hb,k⟩,o,m⟩:=h;exact⟨D,⟨l,c,(hf.block d (Array.getElem?_eq_some_iff.1 hb).1 p).trans hb,k⟩,o,m⟩
theorem MpM.block {w:World} {g q:Nat} {k j:Nat->Int} (h:MpM w g q k j) {b:Nat} {c:Array Value} {t:TypeId} {f:Nat × Nat} (hb:w.heap[b]?=some (.cells c t f)):b≠g:=by
 obtain⟨D,⟨l,d,i,_⟩,_⟩:=h;rintro rfl;rw[hb] at i;cases i
theorem MpM.lt {w:World} {d q:Nat} {j g:Nat->Int} (h:MpM w d q j g):d<w.heap.size:=by
 obtain⟨D,⟨k,c,i,_⟩,_⟩:=h;exact(Array.getElem?_eq_some_iff.1 i).1
theorem MpM.look {w:World} {u q:Nat} {i j:Nat->Int} (h:MpM w u q i j) {s:Int} (A:0<=s) (z:s<=500) :
  (Instr.lookup 91 (.map (some u)) (.int .i64 s) true).run prog w=.ok (.tuple #[.int .i64 ((mpO i j q s).getD 0),.bool (mpO i j q s).isSome]) w:=by
 obtain⟨D,⟨C,l,hb,F,G,rfl⟩,_,o⟩:=h
 rcases Maps.fit_look true u2w underlying91 (u5c w) hb F (keyM A z) with ⟨d,_,g⟩|⟨E,y,_,_,d,m,g,_⟩
 ·have k:mpO i j q s=none:=by
   cases e:mpO i j q s with
   | none=>rfl
   | some t =>
    have a:=(g (.lit (.int .i64 (t+1)))).symm.trans (o s (t+1));rw[e] at a;simp only[Option.getD_some,DataW.lit.injEq,Lit.int.injEq,true_and] at a;omega
  rw[d,k];rfl
 obtain⟨c,B,p,_⟩:=plainElem_int_inv underlying3 m;have k:mpO i j q s=some c:=by
  cases e:mpO i j q s with
  | none =>
   have a:=(g (.lit (.int .i64 (c+1)))).symm.trans (o s (c+1));rw[e,p] at a;simp only[Option.getD_none,DataW.lit.injEq,Lit.int.injEq,true_and] at a;omega
  | some t =>
   have a:=(g (.lit (.int .i64 0))).symm.trans (o s 0);rw[e,p] at a;simp only[Option.getD_some,DataW.lit.injEq,Lit.int.injEq,true_and] at a;rw[a]
 rw[d,k,B];rfl
theorem MpM.put {j:World} {i q:Nat} {c d:Nat->Int} {D:DataW Unit} (k:Maps.IsMap D) (m:∀ s z:Int,D.atKey (.int .i64 s) (.lit (.int .i64 z))=.lit (.int .i64 ((mpO c d q s).getD z))) (g:mpO c d q (c q)=none)
  (l:j.ownsMap prog 3 (plainElem prog 3) i (q+1) (D.put (.int .i64 (c q)) (.lit (.int .i64 (d q))))):MpM j i (q+1) c d:=by
 refine⟨_,l,k.put _ _,fun s z=>?_⟩;by_cases e:s=c q
 ·subst e;rw[Maps.atKey_put_same k (by trivial)];show _=DataW.lit (.int .i64 ((mpO c d (q+1) (c q)).getD z));unfold mpO;rw[g];simp
 rw[Maps.atKey_put_other (fun h=>e (by simpa using h)),m s];show _=DataW.lit (.int .i64 ((mpO c d (q+1) s).getD z))
 conv=>rhs;unfold mpO
 cases o:mpO c d q s with
 | some t=>rfl
 | none=>simp[show ¬ c q=s from fun h=>e h.symm]
theorem MpM.same {j:World} {i q:Nat} {c d:Nat->Int} (h:MpM j i q c d) (g:(mpO c d q (c q)).isSome=true):MpM j i (q+1) c d:=by
 obtain⟨D,k,m,l⟩:=h;refine⟨D,k.mono (by omega),m,fun s z=>?_⟩;rw[l s z];show _=DataW.lit (.int .i64 ((mpO c d (q+1) s).getD z))
 conv=>rhs;unfold mpO
 cases o:mpO c d q s with
 | some t=>rfl
 | none =>
  have:¬ c q=s:=fun h=>by rw[h,o] at g;cases g
  simp[this]
def R1P (ob pb n:Nat) (pi po:Nat->Int) (w:World):Prop:=w.heap[ob]?=some (.cells #[.map (some pb)] 91 (0,0))/\MpM w pb n pi po
theorem R1P.kept {c d n:Nat} {j g:Nat->Int} {w i:World} {C:Nat->Prop} (h:R1P c d n j g w) (hf:Fr C w i) (k:¬ C c) (l:¬ C d):R1P c d n j g i:=⟨(hf.block c (lt_of_block h.1) k).trans h.1,h.2.kept hf l⟩
theorem v2f {j k n:Nat} {i g:Nat->Int} (w:World) (h:R1P j k n i g w) (s:Int) (l:0<=s) (m:s<=500) :
  Calls prog 70 #[.int .i64 s,.pointer (some ⟨j,0,none⟩)] w (fun r w'=>r=.returned (.int .i64 (mapF n i g s))/\w'=w):=by
 have c0:w.cell? ⟨j,0,none⟩=some (.map (some k)):=by simp[World.cell?,h.1]
 have c:=h.2.look l m;have d:mapF n i g s=(mpO i g n s).getD s:=rfl;rw[d];clear h d;cases e:mpO i g n s with
 | some t =>
  rw[e] at c;simp only[Option.getD_some,Option.isSome_some] at c ⊢;clear e
  go_enter func70,ntmps70
  go_wp2;go_ret;exact⟨rfl,rfl⟩
 | none =>
  rw[e] at c;simp only[Option.getD_none,Option.isSome_none] at c ⊢;clear e
  go_enter func70,ntmps70
  go_wp2;go_ret;exact⟨rfl,rfl⟩
def R2P (fb ob pb n:Nat) (pi po:Nat->Int) (w:World):Prop:=w.heap[fb]?=some (.cells #[.func (.func 70) #[] #[.pointer (some ⟨ob,0,none⟩)]] 93 (0,0))/\R1P ob pb n pi po w
theorem R2P.kept {c g d n:Nat} {k i:Nat->Int} {w j:World} {C:Nat->Prop} (h:R2P c g d n k i w) (hf:Fr C w j) (l:¬ C g) (o:¬ C d) (m:¬ C c):R2P c g d n k i j:=⟨(hf.block c (lt_of_block h.1) m).trans h.1,h.2.kept hf l o⟩
theorem R2P.lt {c g d n:Nat} {j i:Nat->Int} {w:World} (h:R2P c g d n j i w):c<w.heap.size/\g<w.heap.size/\d<w.heap.size:=⟨lt_of_block h.1,lt_of_block h.2.1,h.2.2.lt⟩
theorem v5g:∀ args w,(callFunc 71 args).run prog w=.ok (.enter 71 args) w:=fun args w=>by kernel_rfl
end
section
open Go CSR
def finB (k:Int) (s:ByteArray):Bool:=decide (s=⟨#[]⟩)||z0s k s
def arcB (D:MD) (i k:Nat):Bool:=(decide (0<=D.ain i k)&&decide (D.ain i k<=500))&&(decide (0<=D.aout i k)&&decide (D.aout i k<=500))&&(decide (0<=D.ato i k)&&decide (D.ato i k<(D.n:Int)))&&z0s D.kind (D.aw i k)
def vmB (D:MD):Bool:=z3t D.kind&&(decide (1<=D.n)&&decide (D.n<=3000))&&(decide (0<=D.start)&&decide (D.start<(D.n:Int)))&&z0s D.kind D.lead&&decide (z0f D D.n<=30000)&&((List.range D.n).all fun i=>finB D.kind (D.fin i)&&(List.range (D.na i)).all fun k=>arcB D i k)
theorem y4g {D:MD} (h:vmB D=true):VM D:=by
 unfold vmB at h;simp only[Bool.and_eq_true,decide_eq_true_eq,List.all_eq_true,List.mem_range] at h;obtain⟨⟨⟨⟨⟨u,s,p⟩,o,z⟩,l⟩,A⟩,j⟩:=h;refine⟨u,s,p,o,z,l,A,fun i hi=>?_,fun i k hi m=>?_⟩
 ·have:=(j i hi).1;unfold finB at this
  simpa using this
 have:=(j i hi).2 k m;unfold arcB at this;simp only[Bool.and_eq_true,decide_eq_true_eq] at this;obtain⟨⟨⟨⟨a,b⟩,c,d⟩,e,f⟩,g⟩:=this;exact⟨a,b,c,d,e,f,g⟩
instance (v:V):Decidable (fitV v):=by cases v<;>unfold fitV<;>infer_instance
def u2p {k:KK} (n p:Nat) (M:Nat->Nat->RK k):Bool:=decide (fitV (CSR.star (M p p)).1)&&(List.range n).all fun i=>decide (fitV (M i p*CSR.star (M p p)).1)&&(List.range n).all fun j =>
 decide (fitV (M i p*CSR.star (M p p)*M p j).1)&&decide (fitV (CSR.elim p M i j).1)
def u0y {k:KK} (n:Nat) (M:Nat->Nat->RK k):Bool:=((List.range n).all fun p=>u2p n p (CSR.elims M p))&&(List.range n).all fun i=>decide (fitV (CSR.elims M n i i+CSR.one).1)
theorem v7e {k:KK} {n:Nat} {M:Nat->Nat->RK k} (h:u0y n M=true):FitM n M:=by
 unfold u0y at h;simp only[Bool.and_eq_true,decide_eq_true_eq,List.all_eq_true,List.mem_range] at h;refine⟨fun p d=>?_,h.2⟩;have h:=h.1 p d;unfold u2p at h;simp only[Bool.and_eq_true,decide_eq_true_eq,List.all_eq_true,List.mem_range] at h;exact⟨h.1,fun i hi=>(h.2 i hi).1,fun i j hi c=>((h.2 i hi).2 j c).1,fun i j hi c=>((h.2 i hi).2 j c).2⟩
def selB (D:MD):Bool:=(List.range D.n).any fun q=>(List.range (D.na q)).any fun d=>silB (D.ain q d) (D.aout q d)
theorem y0c {D:MD}:NoSel D silB↔selB D=false:=by
 unfold selB NoSel;simp only[List.any_eq_false,List.mem_range,Bool.not_eq_true];exact⟨fun h q c d g=>h q d c g,fun h q d c g=>h q c d g⟩
def VOk (D:MD) (na:Nat) (x:Nat->Int) (nb:Nat) (y:Nat->Int) (s:ByteArray):Prop:=VM D/\isWord na x=true/\isWord nb y=true/\∀ st e,SilOk D silB st e->wgtG D st e na x nb y=(s,0)
def v7r (k:KK) (D:MD) (T:Nat->Nat->ByteArray):Bool:=(List.range D.n).all fun q=>(List.range D.n).all fun p=>decide (u1x k D silB q p=T q p)
def vokB (k:KK) (D:MD) (T:Nat->Nat->ByteArray) (na:Nat) (x:Nat->Int) (nb:Nat) (y:Nat->Int) (s:ByteArray):Bool :=
 (decide (k.1=D.kind)&&(isWord na x&&isWord nb y))&&(decide (D.n<=60)&&decide (serr D silB D.n=0))&&(if selB D then decide (wgtG D (some T) 0 na x nb y=(s,0)) else decide (wgtG D none 0 na x nb y=(s,0)))
theorem v7w {k:KK} {D:MD} {T:Nat->Nat->ByteArray} {na:Nat} {x:Nat->Int} {nb:Nat} {y:Nat->Int} {s:ByteArray} (l:VM D) (hf:u0y D.n (fun i j=>wval k (smat D silB i j))=true) (d:v7r k D T=true) (h:vokB k D T na x nb y s=true):VOk D na x nb y s:=by
 unfold vokB at h;simp only[Bool.and_eq_true,decide_eq_true_eq] at h;obtain⟨⟨⟨A,z,u⟩,o,C⟩,c⟩:=h;refine⟨l,z,u,fun st e F=>?_⟩
 rcases F.closed l A o C (v7e hf) (na:=na) (x:=x) (nb:=nb) (y:=y) with ⟨g,hb⟩|⟨g,hb⟩
 ·rw[y0c.1 hb] at c;rw[g];simpa using c
 have G:selB D=true:=by
  cases m:selB D
  ·exact absurd (y0c.2 m) hb
  rfl
 rw[G] at c;rw[g,x8x (S':=T) fun q p B E=>?_]
 ·simpa using c
 unfold v7r at d;simp only[List.all_eq_true,List.mem_range,decide_eq_true_eq] at d;exact d q B p E
theorem y3z {D:MD} {na:Nat} {x:Nat->Int} {nb:Nat} {y:Nat->Int} {s:ByteArray} (j:VM D) (g:selB D=false) (h:(isWord na x&&isWord nb y&&decide (wgtG D none 0 na x nb y=(s,0)))=true):VOk D na x nb y s:=by
 simp only[Bool.and_eq_true,decide_eq_true_eq] at h;obtain⟨⟨l,k⟩,i⟩:=h;refine⟨j,l,k,fun st e d=>?_⟩
 rcases d with ⟨_,rfl,rfl⟩|⟨c,_⟩|⟨c,_⟩
 ·exact i
 ·exact absurd (y0c.2 g) c
 exact absurd (y0c.2 g) c
def kTr:KK:=⟨1,.inl rfl⟩
def mD:MD:={ kind:=1,start:=0,lead:=⟨#[48]⟩,n:=2,fin:=fun i=>if i=0 then ⟨#[]⟩ else ⟨#[48]⟩,na:=fun i=>if i=0 then 2 else 0,ain:=fun _ _=>1,aout:=fun _ d=>if d=0 then 2 else 3,aw:=fun _ d=>if d=0 then ⟨#[49]⟩ else ⟨#[50]⟩,ato:=fun _ _=>1 }
def y12:Nat->Int:=fun i=>if i=0 then 1 else 2
def y21:Nat->Int:=fun i=>if i=0 then 2 else 1
def c1:Nat->Int:=fun _=>1
def c2:Nat->Int:=fun _=>2
def c3:Nat->Int:=fun _=>3
def dD:MD:=z9m 1 2 y12 1 c3 ⟨#[51]⟩
def abD:MD:=z9m 1 2 y12 2 y12 ⟨#[49]⟩
def kD:MD:=z9m 1 1 c3 1 c3 ⟨#[50]⟩
def cD:MD:=catD abD.inZ kD.outZ (z0n abD.kind abD.lead kD.lead).1
def nD:MD:=mD.ren (mapF 1 c2 c3)
theorem v4p:VM mD:=y4g (by decide +kernel)
theorem u4r:VM dD:=y4g (by decide +kernel)
theorem u3a:VM (revD dD):=y4g (by decide +kernel)
theorem v8b:VM abD:=y4g (by decide +kernel)
theorem u3k:VM kD:=y4g (by decide +kernel)
theorem u5a:VM cD:=y4g (by decide +kernel)
theorem u4x:VM nD:=y4g (by decide +kernel)
theorem u4u:VOk mD.inv 1 c2 1 c1 ⟨#[49]⟩:=y3z (y4g (by decide +kernel)) (by decide +kernel) (by decide +kernel)
theorem u4t:VOk mD.inv 1 c1 1 c2 ⟨#[105,110,102]⟩:=y3z (y4g (by decide +kernel)) (by decide +kernel) (by decide +kernel)
theorem ex_b:VOk mD.inR 1 c1 1 c1 ⟨#[49]⟩:=y3z (y4g (by decide +kernel)) (by decide +kernel) (by decide +kernel)
theorem ex_c:VOk mD.outR 1 c3 1 c3 ⟨#[50]⟩:=y3z (y4g (by decide +kernel)) (by decide +kernel) (by decide +kernel)
theorem ex_n:VOk nD 1 c1 1 c3 ⟨#[49]⟩:=y3z u4x (by decide +kernel) (by decide +kernel)
def tR (q p:Nat):ByteArray:=if q=p then ⟨#[48]⟩ else if q=3/\p=2 then ⟨#[48]⟩ else ⟨#[105,110,102]⟩
def tC (q p:Nat):ByteArray:=if q=p then ⟨#[48]⟩ else if q=4/\p=0 then ⟨#[48]⟩ else ⟨#[105,110,102]⟩
theorem ex_d:VOk (revD dD) 2 y21 1 c3 ⟨#[51]⟩:=v7w (k:=kTr) (T:=tR) u3a (by decide +kernel) (by decide +kernel) (by decide +kernel)
theorem ex_k:VOk cD 2 y12 1 c3 ⟨#[51]⟩:=v7w (k:=kTr) (T:=tC) u5a (by decide +kernel) (by decide +kernel) (by decide +kernel)
end
end Go.Proofs.YteappjogmnogcaaGreatDoor
