/- Parts of a proof: SdC BlG AccW R8L SilZ SidM WgD AccX SdD. -/
import Derived.Test.YteappjogmnogcaaGreatDoorV12
import Derived.Test.YteappjogmnogcaaGreatDoorV09
import Derived.Test.YteappjogmnogcaaGreatDoorV11
namespace Go.Proofs.YteappjogmnogcaaGreatDoor
set_option maxRecDepth 100000
set_option linter.unusedSimpArgs false
set_option linter.unusedVariables false
set_option linter.unusedSectionVars false
set_option maxHeartbeats 16000000
open Go Tryz
section
open Go.RowKit Go.Deep
theorem u2m:∀ args w,(callFunc 99 args).run prog w=.ok (.enter 99 args) w:=fun args w=>by kernel_rfl
theorem u2g:∀ args w,(callFunc 100 args).run prog w=.ok (.enter 100 args) w:=fun args w=>by kernel_rfl
theorem u1f:∀ args w,(callFunc 101 args).run prog w=.ok (.enter 101 args) w:=fun args w=>by kernel_rfl
theorem u5e (w:World) (i o:Int):Calls prog 99 #[.int .i64 i,.int .i64 o] w (fun r w'=>r=.returned (.tuple #[.int .i64 o,.int .i64 i])/\w'=w):=by
 go_enter func99,ntmps99
 go_wp2;go_ret2;exact⟨rfl,rfl⟩
theorem u4n (w:World) (i o:Int):Calls prog 100 #[.int .i64 i,.int .i64 o] w (fun r w'=>r=.returned (.tuple #[.int .i64 i,.int .i64 i])/\w'=w):=by
 go_enter func100,ntmps100
 go_wp2;go_ret2;exact⟨rfl,rfl⟩
theorem u6e (w:World) (i o:Int):Calls prog 101 #[.int .i64 i,.int .i64 o] w (fun r w'=>r=.returned (.tuple #[.int .i64 o,.int .i64 o])/\w'=w):=by
 go_enter func101,ntmps101
 go_wp2;go_ret2;exact⟨rfl,rfl⟩
theorem y3z {nf:FuncId} {φ:Int->Int->Int × Int} (c:∀ args w,(callFunc nf args).run prog w=.ok (.enter nf args) w) (h:∀ w i o,Calls prog nf #[.int .i64 i,.int .i64 o] w (fun r w'=>r=.returned (.tuple #[.int .i64 (φ i o).1,.int .i64 (φ i o).2])/\w'=w)):SymF nf #[] φ (fun _=>True) :=
 ⟨c,fun w _ i o _ _ _ _=>by
  rw[show ∀ a b:Value,(#[a,b]++#[]:Array Value)=#[a,b] from fun _ _=>rfl];exact(h w i o).mono fun r w' h=>⟨h.1,by rw[h.2];exact blr⟩⟩
theorem x6u {fn:Func} {p:Tmp} (h:fn.results=#[.cell p 70]) (c:Array Value) {w:World} {b:Nat} {d g i:FuncId} (m:c.getD p undef=.pointer (some ⟨b,0,none⟩)) (hb:w.heap[b]?=some (.cells #[.func (.func d) #[] #[],.func (.func g) #[] #[],.func (.func i) #[] #[]] 70 (0,0))) :
  (results fn c).run prog w=.ok (.agg #[.func (.func d) #[] #[],.func (.func g) #[] #[],.func (.func i) #[] #[]]) w:=by
 rw[z7q h,m];show ((loadVar 70 ⟨b,0,none⟩).run prog w)=_;have l:w.rangeAt b 0 [.func (.func d) #[] #[],.func (.func g) #[] #[],.func (.func i) #[] #[]]:=by
  intro j v k;have o:j<3:=by have:=(List.getElem?_eq_some_iff.1 k).1;simpa using this
  have:j=0\/j=1\/j=2:=by omega
  rcases this with rfl|rfl|rfl<;>(simp at k;subst k;simp[World.cell?,hb])
 exact run_loadVar_mid (P:=prog) w b 0 70 [.func (.func d) #[] #[],.func (.func g) #[] #[],.func (.func i) #[] #[]] _ l underlying70 rfl (by kernel_rfl)
theorem z9s (w:World):Calls prog 47 #[] w (fun r w'=>r=.returned (.agg #[.func (.func 99) #[] #[],.func (.func 100) #[] #[],.func (.func 101) #[] #[]])/\Below w.heap.size w w'):=by
 have c:=(Below.refl w.heap.size w).alloc nlr (.cells #[.func (.func 99) #[] #[],.func (.func 100) #[] #[],.func (.func 101) #[] #[]] 70);have d:=qh c;clear c
 go_enter func47,ntmps47
 go_wp2_with fail
 refine bodyPost_ret (x6u rfl _ (b:=w.heap.size) rfl (heap_alloc_new w _)) rfl ⟨rfl,d.out⟩
theorem z4j {w:World} {B j:Nat} {sv:Value} {D:MD} {R:Nat->Value} (h:OwM w B sv D R) (m:j<=B):OwM w j sv D R :=
 have k:∀ {e:TypeId} {s n:Nat} {v:Value} {xs:List Value},w.ownsRow B e s v n xs->w.ownsRow j e s v n xs:=fun h=>⟨h.1,h.2.imp id (fun ⟨g,d,c,p,o,l⟩=>⟨g,d,c,p,Nat.le_trans m o,l⟩)⟩
 ⟨k h.top,fun i hi=>k (h.row i hi),h.apart⟩
theorem x8c {D:MD} {mv:Value} (w:World) (hM:Ma none w mv D) (b1:MSz D) (ht:Tab w):Calls prog 16 #[mv] w (MkE (VM D) D.inv 1 w):=by
 obtain⟨sv,rfl,hS⟩:=hM;obtain⟨a,L,_,_,_,_,_,_,S,_⟩:=hS.open;subst S;obtain⟨H,u⟩:=exq (w.alloc (.cells #[.int .i64 D.kind,.int .i64 D.start,.string D.lead,.slice a D.n L] 24));obtain⟨w2,G⟩:=exq (H.alloc (.cells #[.int .i64 0,.int .i64 0,.string ⟨#[]⟩,.slice none 0 0] 24));obtain⟨wd,N⟩:=exq (w2.drew);have b6:H.heap.size=w.heap.size+1:=by rw[u];simp
 have c8:Fr (fun _=>False) w H:=by rw[u];exact Fr.alloc _ _
 have a4:Fr (fun _=>False) H wd:=by rw[N,G];exact(Fr.alloc _ _).drew
 obtain⟨g,a6⟩:=exq (w.heap.size);obtain⟨d,a2⟩:=exq (w.heap.size+1);have T:H.heap[g]?=some (.cells #[.int .i64 D.kind,.int .i64 D.start,.string D.lead,.slice a D.n L] 24 (0,0)):=by rw[u,a6];exact heap_alloc_new w _
 have W:wd.heap[g]?=some (.cells #[.int .i64 D.kind,.int .i64 D.start,.string D.lead,.slice a D.n L] 24 (0,0)):=(a4.block _ (lt_of_block T) (fun e=>e)).trans T;have d1:wd.heap[d]?=some (.cells #[.int .i64 0,.int .i64 0,.string ⟨#[]⟩,.slice none 0 0] 24 (0,0)):=by rw[N,a2,<- b6];show w2.heap[H.heap.size]?=_;rw[G];exact heap_alloc_new H _
 have b5:Below w.heap.size w wd:=(c8.trans a4).below nlr (fun _ e=>e.elim);have b8:w.heap.size<=d:=by omega
 have j:g≠d:=by omega
 have c7:=(cells4 W).1;have HS:=qh hS;clear hS;have d3:=qh b1;clear b1;have HT:=qh ht;clear ht;have a3:=qh d1;clear d1;have z:=qh W;clear W T;have a7:=qh b5;clear b5 c8 a4 b6
 go_enter func16,ntmps16
 go_wp2_with fail
 refine z0h (fun wk=>wk.cell? ⟨g,0,none⟩=some (.int .i64 D.kind)/\wk.cell? ⟨g,1,none⟩=some (.int .i64 D.start)/\wk.cell? ⟨g,2,none⟩=some (.string D.lead)/\wk.cell? ⟨g,3,none⟩=some (.slice a D.n L)) 7 (by kernel_rfl) ?_;rw[<- u,<- G,<- N,<- a2,<- a6];clear u G N a2 a6;refine z0c.tm 2 c7 ?_
 try simp only[Act.put,tryL]
 refine z0c.on 0 fun K h=>?_;go_simp;refine(z9s _).mono ?_;rintro r Z ⟨rfl,C⟩;have X:Z.cell? ⟨g,0,none⟩=some (.int .i64 D.kind)/\Z.cell? ⟨g,1,none⟩=some (.int .i64 D.start)/\Z.cell? ⟨g,2,none⟩=some (.string D.lead)/\Z.cell? ⟨g,3,none⟩=some (.slice a D.n L):=(cells4 ((C.block _ (lt_of_block z.out)).trans z.out)).1;have b9:=(C.block _ (lt_of_block z.out)).trans z.out;have d0:=(C.block _ (lt_of_block a3.out)).trans a3.out;have l:=a7.out.trans (C.mono a7.out.size);have a1:=z6q (φ:=fun i o=>(o,i)) Z (⟨_,rfl,HS.out.kept (z0b l none)⟩:Ma none Z (.agg #[.int .i64 D.kind,.int .i64 D.start,.string D.lead,.slice a D.n L]) D) d3.out (HT.out.below l nlr) (y3z u2m (fun w i o=>u5e w i o)) trivial (fun _ _=>trivial);rw[u2b] at a1;refine h.out _ _ (.inr X) ?_;clear h K c7 C;have b7:=qh a1;clear a1;have U:=qh d0;clear d0 a3;have m:=qh b9;clear b9 z;have J:=qh l;clear l a7
 try simp only[Act.put,tryL]
 have d2:∀ w,(Instr.index 70 (.agg #[.func (.func 99) #[] #[],.func (.func 100) #[] #[],.func (.func 101) #[] #[]]) (.int .i64 0)).run prog w=.ok (.agg #[.func (.func 99) #[] #[]]) w:=fun _=>by kernel_rfl
 refine z0c.tm 1 X ?_
 try simp only[Act.put,tryL]
 clear d2;refine z0c.on 3 fun K h=>?_;go_simp;refine b7.out.mono ?_;rintro r P ⟨F,hr⟩;have k:P.cell? ⟨g,0,none⟩=some (.int .i64 D.kind)/\P.cell? ⟨g,1,none⟩=some (.int .i64 D.start)/\P.cell? ⟨g,2,none⟩=some (.string D.lead)/\P.cell? ⟨g,3,none⟩=some (.slice a D.n L):=(cells4 ((F.block _ (lt_of_block m.out)).trans m.out)).1;have a9:=(F.block _ (lt_of_block m.out)).trans m.out;have b0:=(F.block _ (lt_of_block U.out)).trans U.out;have O:=J.out.trans (F.mono J.out.size);have b4:w.heap.size<=Z.heap.size:=J.out.size;clear F X;have b3:=qh a9;clear a9 m;have I:=qh b0;clear b0 U;have b2:=qh O;clear O J b7;obtain⟨⟨r0,r1,r2,r3⟩,rz⟩:=cells4 I.out;have f0:=rz 0;have f1:=rz 1;have f2:=rz 2;have f3:=rz 3;clear rz;unfold z6z at hr
 rcases hr with ⟨hv,d4,R,rfl,s⟩|⟨hv,rfl⟩
 ·have HV:=qh hv;clear hv;obtain⟨sa,sc,S,_,_⟩:=z1h s.top;subst S;have c9:=qh (s.box4 I.out (.int .i64 D.inv.kind) (.int .i64 D.inv.start) (.string D.inv.lead) (.slice sa D.inv.n sc));clear s;refine h.out _ _ (.inr k) ?_;clear h K
  try simp only[Act.put,tryL]
  refine z0c.tm 4 k ?_;refine z0c.tm 5 k ?_
  try simp only[Act.put,tryL]
  refine z0c.on 6 fun K h=>?_;go_simp;obtain⟨B,c⟩:∃ B,B=(((P.setCell ⟨d,0,none⟩ (.int .i64 D.inv.kind)).setCell ⟨d,1,none⟩ (.int .i64 D.inv.start)).setCell ⟨d,2,none⟩ (.string D.inv.lead)).setCell ⟨d,3,none⟩ (.slice sa D.inv.n sc):=⟨_,rfl⟩;have E:B.heap[g]?=some (.cells #[.int .i64 D.kind,.int .i64 D.start,.string D.lead,.slice a D.n L] 24 (0,0)):=by rw[c,z0e j,z0e j,z0e j,z0e j];exact b3.out
  have p:B.heap[d]?=some (.cells #[.int .i64 D.inv.kind,.int .i64 D.inv.start,.string D.inv.lead,.slice sa D.inv.n sc] 24 (0,0)):=by rw[c];exact z0w P d _ _ _ _ I.out
  have A:Below w.heap.size w B:=by rw[c];exact z0d b2.out b8 _ _ _ _
  have Y:=c9.out;rw[<- c] at Y;have a8:=qh Y;clear Y c9;rw[<- c];clear c;refine h.out _ _ (.inr (cells4 E).1) ?_;clear h K E;have a5:=qh p;clear p;have Q:=qh A;clear A;clear r0 r1 r2 r3 f0 f1 f2 f3 k
  try simp only[Act.put,tryL]
  refine z0c.on 7 fun K h=>?_;go_simp;refine h.out _ _ (.inl rfl) (z0c.dn ?_);clear h K
  go_wp2_with fail
  refine bodyPost_ret (z0k rfl _ (b:=d) rfl rfl a5.out) rfl ⟨Q.out,.inl ⟨HV.out,_,R,rfl,z4j a8.out b4⟩⟩
 have HV:=qh hv;clear hv;refine h.out _ _ (.inr k) ?_;clear h K
 try simp only[Act.put,tryL]
 refine z0c.tm 4 k ?_;refine z0c.tm 5 k ?_
 try simp only[Act.put,tryL]
 refine z0c.on 6 fun K h=>?_;go_simp;obtain⟨B,c⟩:∃ B,B=(((P.setCell ⟨d,0,none⟩ (.int .i64 0)).setCell ⟨d,1,none⟩ (.int .i64 0)).setCell ⟨d,2,none⟩ (.string ⟨#[]⟩)).setCell ⟨d,3,none⟩ (.slice none 0 0):=⟨_,rfl⟩;have E:B.heap[g]?=some (.cells #[.int .i64 D.kind,.int .i64 D.start,.string D.lead,.slice a D.n L] 24 (0,0)):=by rw[c,z0e j,z0e j,z0e j,z0e j];exact b3.out
 have p:B.heap[d]?=some (.cells #[.int .i64 0,.int .i64 0,.string ⟨#[]⟩,.slice none 0 0] 24 (0,0)):=by rw[c];exact z0w P d _ _ _ _ I.out
 have A:Below w.heap.size w B:=by rw[c];exact z0d b2.out b8 _ _ _ _
 rw[<- c];clear c;refine h.out _ _ (.inr (cells4 E).1) ?_;clear h K E;have a5:=qh p;clear p;have Q:=qh A;clear A;clear r0 r1 r2 r3 f0 f1 f2 f3 k
 try simp only[Act.put,tryL]
 refine z0c.on 7 fun K h=>?_;go_simp;refine h.out _ _ (.inl rfl) (z0c.dn ?_);clear h K
 go_wp2_with fail
 refine bodyPost_ret (z0k rfl _ (b:=d) rfl rfl a5.out) rfl ⟨Q.out,.inr ⟨HV.out,rfl⟩⟩
theorem x0g {D:MD} {mv:Value} (w:World) (hM:Ma none w mv D) (b1:MSz D) (ht:Tab w):Calls prog 21 #[mv] w (MkE (VM D) D.inR 1 w):=by
 obtain⟨sv,rfl,hS⟩:=hM;obtain⟨a,L,_,_,_,_,_,_,S,_⟩:=hS.open;subst S;obtain⟨H,u⟩:=exq (w.alloc (.cells #[.int .i64 D.kind,.int .i64 D.start,.string D.lead,.slice a D.n L] 24));obtain⟨w2,G⟩:=exq (H.alloc (.cells #[.int .i64 0,.int .i64 0,.string ⟨#[]⟩,.slice none 0 0] 24));obtain⟨wd,N⟩:=exq (w2.drew);have b6:H.heap.size=w.heap.size+1:=by rw[u];simp
 have c8:Fr (fun _=>False) w H:=by rw[u];exact Fr.alloc _ _
 have a4:Fr (fun _=>False) H wd:=by rw[N,G];exact(Fr.alloc _ _).drew
 obtain⟨g,a6⟩:=exq (w.heap.size);obtain⟨d,a2⟩:=exq (w.heap.size+1);have T:H.heap[g]?=some (.cells #[.int .i64 D.kind,.int .i64 D.start,.string D.lead,.slice a D.n L] 24 (0,0)):=by rw[u,a6];exact heap_alloc_new w _
 have W:wd.heap[g]?=some (.cells #[.int .i64 D.kind,.int .i64 D.start,.string D.lead,.slice a D.n L] 24 (0,0)):=(a4.block _ (lt_of_block T) (fun e=>e)).trans T;have d1:wd.heap[d]?=some (.cells #[.int .i64 0,.int .i64 0,.string ⟨#[]⟩,.slice none 0 0] 24 (0,0)):=by rw[N,a2,<- b6];show w2.heap[H.heap.size]?=_;rw[G];exact heap_alloc_new H _
 have b5:Below w.heap.size w wd:=(c8.trans a4).below nlr (fun _ e=>e.elim);have b8:w.heap.size<=d:=by omega
 have j:g≠d:=by omega
 have c7:=(cells4 W).1;have HS:=qh hS;clear hS;have d3:=qh b1;clear b1;have HT:=qh ht;clear ht;have a3:=qh d1;clear d1;have z:=qh W;clear W T;have a7:=qh b5;clear b5 c8 a4 b6
 go_enter func21,ntmps21
 go_wp2_with fail
 refine z0h (fun wk=>wk.cell? ⟨g,0,none⟩=some (.int .i64 D.kind)/\wk.cell? ⟨g,1,none⟩=some (.int .i64 D.start)/\wk.cell? ⟨g,2,none⟩=some (.string D.lead)/\wk.cell? ⟨g,3,none⟩=some (.slice a D.n L)) 7 (by kernel_rfl) ?_;rw[<- u,<- G,<- N,<- a2,<- a6];clear u G N a2 a6;refine z0c.tm 2 c7 ?_
 try simp only[Act.put,tryL]
 refine z0c.on 0 fun K h=>?_;go_simp;refine(z9s _).mono ?_;rintro r Z ⟨rfl,C⟩;have X:Z.cell? ⟨g,0,none⟩=some (.int .i64 D.kind)/\Z.cell? ⟨g,1,none⟩=some (.int .i64 D.start)/\Z.cell? ⟨g,2,none⟩=some (.string D.lead)/\Z.cell? ⟨g,3,none⟩=some (.slice a D.n L):=(cells4 ((C.block _ (lt_of_block z.out)).trans z.out)).1;have b9:=(C.block _ (lt_of_block z.out)).trans z.out;have d0:=(C.block _ (lt_of_block a3.out)).trans a3.out;have l:=a7.out.trans (C.mono a7.out.size);have a1:=z6q (φ:=fun i _=>(i,i)) Z (⟨_,rfl,HS.out.kept (z0b l none)⟩:Ma none Z (.agg #[.int .i64 D.kind,.int .i64 D.start,.string D.lead,.slice a D.n L]) D) d3.out (HT.out.below l nlr) (y3z u2g (fun w i o=>u4n w i o)) trivial (fun _ _=>trivial);rw[u3n] at a1;refine h.out _ _ (.inr X) ?_;clear h K c7 C;have b7:=qh a1;clear a1;have U:=qh d0;clear d0 a3;have m:=qh b9;clear b9 z;have J:=qh l;clear l a7
 try simp only[Act.put,tryL]
 have d2:∀ w,(Instr.index 70 (.agg #[.func (.func 99) #[] #[],.func (.func 100) #[] #[],.func (.func 101) #[] #[]]) (.int .i64 1)).run prog w=.ok (.agg #[.func (.func 100) #[] #[]]) w:=fun _=>by kernel_rfl
 refine z0c.tm 1 X ?_
 try simp only[Act.put,tryL]
 clear d2;refine z0c.on 3 fun K h=>?_;go_simp;refine b7.out.mono ?_;rintro r P ⟨F,hr⟩;have k:P.cell? ⟨g,0,none⟩=some (.int .i64 D.kind)/\P.cell? ⟨g,1,none⟩=some (.int .i64 D.start)/\P.cell? ⟨g,2,none⟩=some (.string D.lead)/\P.cell? ⟨g,3,none⟩=some (.slice a D.n L):=(cells4 ((F.block _ (lt_of_block m.out)).trans m.out)).1;have a9:=(F.block _ (lt_of_block m.out)).trans m.out;have b0:=(F.block _ (lt_of_block U.out)).trans U.out;have O:=J.out.trans (F.mono J.out.size);have b4:w.heap.size<=Z.heap.size:=J.out.size;clear F X;have b3:=qh a9;clear a9 m;have I:=qh b0;clear b0 U;have b2:=qh O;clear O J b7;obtain⟨⟨r0,r1,r2,r3⟩,rz⟩:=cells4 I.out;have f0:=rz 0;have f1:=rz 1;have f2:=rz 2;have f3:=rz 3;clear rz;unfold z6z at hr
 rcases hr with ⟨hv,d4,R,rfl,s⟩|⟨hv,rfl⟩
 ·have HV:=qh hv;clear hv;obtain⟨sa,sc,S,_,_⟩:=z1h s.top;subst S;have c9:=qh (s.box4 I.out (.int .i64 D.inR.kind) (.int .i64 D.inR.start) (.string D.inR.lead) (.slice sa D.inR.n sc));clear s;refine h.out _ _ (.inr k) ?_;clear h K
  try simp only[Act.put,tryL]
  refine z0c.tm 4 k ?_;refine z0c.tm 5 k ?_
  try simp only[Act.put,tryL]
  refine z0c.on 6 fun K h=>?_;go_simp;obtain⟨B,c⟩:∃ B,B=(((P.setCell ⟨d,0,none⟩ (.int .i64 D.inR.kind)).setCell ⟨d,1,none⟩ (.int .i64 D.inR.start)).setCell ⟨d,2,none⟩ (.string D.inR.lead)).setCell ⟨d,3,none⟩ (.slice sa D.inR.n sc):=⟨_,rfl⟩;have E:B.heap[g]?=some (.cells #[.int .i64 D.kind,.int .i64 D.start,.string D.lead,.slice a D.n L] 24 (0,0)):=by rw[c,z0e j,z0e j,z0e j,z0e j];exact b3.out
  have p:B.heap[d]?=some (.cells #[.int .i64 D.inR.kind,.int .i64 D.inR.start,.string D.inR.lead,.slice sa D.inR.n sc] 24 (0,0)):=by rw[c];exact z0w P d _ _ _ _ I.out
  have A:Below w.heap.size w B:=by rw[c];exact z0d b2.out b8 _ _ _ _
  have Y:=c9.out;rw[<- c] at Y;have a8:=qh Y;clear Y c9;rw[<- c];clear c;refine h.out _ _ (.inr (cells4 E).1) ?_;clear h K E;have a5:=qh p;clear p;have Q:=qh A;clear A;clear r0 r1 r2 r3 f0 f1 f2 f3 k
  try simp only[Act.put,tryL]
  refine z0c.on 7 fun K h=>?_;go_simp;refine h.out _ _ (.inl rfl) (z0c.dn ?_);clear h K
  go_wp2_with fail
  refine bodyPost_ret (z0k rfl _ (b:=d) rfl rfl a5.out) rfl ⟨Q.out,.inl ⟨HV.out,_,R,rfl,z4j a8.out b4⟩⟩
 have HV:=qh hv;clear hv;refine h.out _ _ (.inr k) ?_;clear h K
 try simp only[Act.put,tryL]
 refine z0c.tm 4 k ?_;refine z0c.tm 5 k ?_
 try simp only[Act.put,tryL]
 refine z0c.on 6 fun K h=>?_;go_simp;obtain⟨B,c⟩:∃ B,B=(((P.setCell ⟨d,0,none⟩ (.int .i64 0)).setCell ⟨d,1,none⟩ (.int .i64 0)).setCell ⟨d,2,none⟩ (.string ⟨#[]⟩)).setCell ⟨d,3,none⟩ (.slice none 0 0):=⟨_,rfl⟩;have E:B.heap[g]?=some (.cells #[.int .i64 D.kind,.int .i64 D.start,.string D.lead,.slice a D.n L] 24 (0,0)):=by rw[c,z0e j,z0e j,z0e j,z0e j];exact b3.out
 have p:B.heap[d]?=some (.cells #[.int .i64 0,.int .i64 0,.string ⟨#[]⟩,.slice none 0 0] 24 (0,0)):=by rw[c];exact z0w P d _ _ _ _ I.out
 have A:Below w.heap.size w B:=by rw[c];exact z0d b2.out b8 _ _ _ _
 rw[<- c];clear c;refine h.out _ _ (.inr (cells4 E).1) ?_;clear h K E;have a5:=qh p;clear p;have Q:=qh A;clear A;clear r0 r1 r2 r3 f0 f1 f2 f3 k
 try simp only[Act.put,tryL]
 refine z0c.on 7 fun K h=>?_;go_simp;refine h.out _ _ (.inl rfl) (z0c.dn ?_);clear h K
 go_wp2_with fail
 refine bodyPost_ret (z0k rfl _ (b:=d) rfl rfl a5.out) rfl ⟨Q.out,.inr ⟨HV.out,rfl⟩⟩
theorem x7y {D:MD} {mv:Value} (w:World) (hM:Ma none w mv D) (b1:MSz D) (ht:Tab w):Calls prog 22 #[mv] w (MkE (VM D) D.outR 1 w):=by
 obtain⟨sv,rfl,hS⟩:=hM;obtain⟨a,L,_,_,_,_,_,_,S,_⟩:=hS.open;subst S;obtain⟨H,u⟩:=exq (w.alloc (.cells #[.int .i64 D.kind,.int .i64 D.start,.string D.lead,.slice a D.n L] 24));obtain⟨w2,G⟩:=exq (H.alloc (.cells #[.int .i64 0,.int .i64 0,.string ⟨#[]⟩,.slice none 0 0] 24));obtain⟨wd,N⟩:=exq (w2.drew);have b6:H.heap.size=w.heap.size+1:=by rw[u];simp
 have c8:Fr (fun _=>False) w H:=by rw[u];exact Fr.alloc _ _
 have a4:Fr (fun _=>False) H wd:=by rw[N,G];exact(Fr.alloc _ _).drew
 obtain⟨g,a6⟩:=exq (w.heap.size);obtain⟨d,a2⟩:=exq (w.heap.size+1);have T:H.heap[g]?=some (.cells #[.int .i64 D.kind,.int .i64 D.start,.string D.lead,.slice a D.n L] 24 (0,0)):=by rw[u,a6];exact heap_alloc_new w _
 have W:wd.heap[g]?=some (.cells #[.int .i64 D.kind,.int .i64 D.start,.string D.lead,.slice a D.n L] 24 (0,0)):=(a4.block _ (lt_of_block T) (fun e=>e)).trans T;have d1:wd.heap[d]?=some (.cells #[.int .i64 0,.int .i64 0,.string ⟨#[]⟩,.slice none 0 0] 24 (0,0)):=by rw[N,a2,<- b6];show w2.heap[H.heap.size]?=_;rw[G];exact heap_alloc_new H _
 have b5:Below w.heap.size w wd:=(c8.trans a4).below nlr (fun _ e=>e.elim);have b8:w.heap.size<=d:=by omega
 have j:g≠d:=by omega
 have c7:=(cells4 W).1;have HS:=qh hS;clear hS;have d3:=qh b1;clear b1;have HT:=qh ht;clear ht;have a3:=qh d1;clear d1;have z:=qh W;clear W T;have a7:=qh b5;clear b5 c8 a4 b6
 go_enter func22,ntmps22
 go_wp2_with fail
 refine z0h (fun wk=>wk.cell? ⟨g,0,none⟩=some (.int .i64 D.kind)/\wk.cell? ⟨g,1,none⟩=some (.int .i64 D.start)/\wk.cell? ⟨g,2,none⟩=some (.string D.lead)/\wk.cell? ⟨g,3,none⟩=some (.slice a D.n L)) 7 (by kernel_rfl) ?_;rw[<- u,<- G,<- N,<- a2,<- a6];clear u G N a2 a6;refine z0c.tm 2 c7 ?_
 try simp only[Act.put,tryL]
 refine z0c.on 0 fun K h=>?_;go_simp;refine(z9s _).mono ?_;rintro r Z ⟨rfl,C⟩;have X:Z.cell? ⟨g,0,none⟩=some (.int .i64 D.kind)/\Z.cell? ⟨g,1,none⟩=some (.int .i64 D.start)/\Z.cell? ⟨g,2,none⟩=some (.string D.lead)/\Z.cell? ⟨g,3,none⟩=some (.slice a D.n L):=(cells4 ((C.block _ (lt_of_block z.out)).trans z.out)).1;have b9:=(C.block _ (lt_of_block z.out)).trans z.out;have d0:=(C.block _ (lt_of_block a3.out)).trans a3.out;have l:=a7.out.trans (C.mono a7.out.size);have a1:=z6q (φ:=fun _ o=>(o,o)) Z (⟨_,rfl,HS.out.kept (z0b l none)⟩:Ma none Z (.agg #[.int .i64 D.kind,.int .i64 D.start,.string D.lead,.slice a D.n L]) D) d3.out (HT.out.below l nlr) (y3z u1f (fun w i o=>u6e w i o)) trivial (fun _ _=>trivial);rw[v5h] at a1;refine h.out _ _ (.inr X) ?_;clear h K c7 C;have b7:=qh a1;clear a1;have U:=qh d0;clear d0 a3;have m:=qh b9;clear b9 z;have J:=qh l;clear l a7
 try simp only[Act.put,tryL]
 have d2:∀ w,(Instr.index 70 (.agg #[.func (.func 99) #[] #[],.func (.func 100) #[] #[],.func (.func 101) #[] #[]]) (.int .i64 2)).run prog w=.ok (.agg #[.func (.func 101) #[] #[]]) w:=fun _=>by kernel_rfl
 refine z0c.tm 1 X ?_
 try simp only[Act.put,tryL]
 clear d2;refine z0c.on 3 fun K h=>?_;go_simp;refine b7.out.mono ?_;rintro r P ⟨F,hr⟩;have k:P.cell? ⟨g,0,none⟩=some (.int .i64 D.kind)/\P.cell? ⟨g,1,none⟩=some (.int .i64 D.start)/\P.cell? ⟨g,2,none⟩=some (.string D.lead)/\P.cell? ⟨g,3,none⟩=some (.slice a D.n L):=(cells4 ((F.block _ (lt_of_block m.out)).trans m.out)).1;have a9:=(F.block _ (lt_of_block m.out)).trans m.out;have b0:=(F.block _ (lt_of_block U.out)).trans U.out;have O:=J.out.trans (F.mono J.out.size);have b4:w.heap.size<=Z.heap.size:=J.out.size;clear F X;have b3:=qh a9;clear a9 m;have I:=qh b0;clear b0 U;have b2:=qh O;clear O J b7;obtain⟨⟨r0,r1,r2,r3⟩,rz⟩:=cells4 I.out;have f0:=rz 0;have f1:=rz 1;have f2:=rz 2;have f3:=rz 3;clear rz;unfold z6z at hr
 rcases hr with ⟨hv,d4,R,rfl,s⟩|⟨hv,rfl⟩
 ·have HV:=qh hv;clear hv;obtain⟨sa,sc,S,_,_⟩:=z1h s.top;subst S;have c9:=qh (s.box4 I.out (.int .i64 D.outR.kind) (.int .i64 D.outR.start) (.string D.outR.lead) (.slice sa D.outR.n sc));clear s;refine h.out _ _ (.inr k) ?_;clear h K
  try simp only[Act.put,tryL]
  refine z0c.tm 4 k ?_;refine z0c.tm 5 k ?_
  try simp only[Act.put,tryL]
  refine z0c.on 6 fun K h=>?_;go_simp;obtain⟨B,c⟩:∃ B,B=(((P.setCell ⟨d,0,none⟩ (.int .i64 D.outR.kind)).setCell ⟨d,1,none⟩ (.int .i64 D.outR.start)).setCell ⟨d,2,none⟩ (.string D.outR.lead)).setCell ⟨d,3,none⟩ (.slice sa D.outR.n sc):=⟨_,rfl⟩;have E:B.heap[g]?=some (.cells #[.int .i64 D.kind,.int .i64 D.start,.string D.lead,.slice a D.n L] 24 (0,0)):=by rw[c,z0e j,z0e j,z0e j,z0e j];exact b3.out
  have p:B.heap[d]?=some (.cells #[.int .i64 D.outR.kind,.int .i64 D.outR.start,.string D.outR.lead,.slice sa D.outR.n sc] 24 (0,0)):=by rw[c];exact z0w P d _ _ _ _ I.out
  have A:Below w.heap.size w B:=by rw[c];exact z0d b2.out b8 _ _ _ _
  have Y:=c9.out;rw[<- c] at Y;have a8:=qh Y;clear Y c9;rw[<- c];clear c;refine h.out _ _ (.inr (cells4 E).1) ?_;clear h K E;have a5:=qh p;clear p;have Q:=qh A;clear A;clear r0 r1 r2 r3 f0 f1 f2 f3 k
  try simp only[Act.put,tryL]
  refine z0c.on 7 fun K h=>?_;go_simp;refine h.out _ _ (.inl rfl) (z0c.dn ?_);clear h K
  go_wp2_with fail
  refine bodyPost_ret (z0k rfl _ (b:=d) rfl rfl a5.out) rfl ⟨Q.out,.inl ⟨HV.out,_,R,rfl,z4j a8.out b4⟩⟩
 have HV:=qh hv;clear hv;refine h.out _ _ (.inr k) ?_;clear h K
 try simp only[Act.put,tryL]
 refine z0c.tm 4 k ?_;refine z0c.tm 5 k ?_
 try simp only[Act.put,tryL]
 refine z0c.on 6 fun K h=>?_;go_simp;obtain⟨B,c⟩:∃ B,B=(((P.setCell ⟨d,0,none⟩ (.int .i64 0)).setCell ⟨d,1,none⟩ (.int .i64 0)).setCell ⟨d,2,none⟩ (.string ⟨#[]⟩)).setCell ⟨d,3,none⟩ (.slice none 0 0):=⟨_,rfl⟩;have E:B.heap[g]?=some (.cells #[.int .i64 D.kind,.int .i64 D.start,.string D.lead,.slice a D.n L] 24 (0,0)):=by rw[c,z0e j,z0e j,z0e j,z0e j];exact b3.out
 have p:B.heap[d]?=some (.cells #[.int .i64 0,.int .i64 0,.string ⟨#[]⟩,.slice none 0 0] 24 (0,0)):=by rw[c];exact z0w P d _ _ _ _ I.out
 have A:Below w.heap.size w B:=by rw[c];exact z0d b2.out b8 _ _ _ _
 rw[<- c];clear c;refine h.out _ _ (.inr (cells4 E).1) ?_;clear h K E;have a5:=qh p;clear p;have Q:=qh A;clear A;clear r0 r1 r2 r3 f0 f1 f2 f3 k
 try simp only[Act.put,tryL]
 refine z0c.on 7 fun K h=>?_;go_simp;refine h.out _ _ (.inl rfl) (z0c.dn ?_);clear h K
 go_wp2_with fail
 refine bodyPost_ret (z0k rfl _ (b:=d) rfl rfl a5.out) rfl ⟨Q.out,.inr ⟨HV.out,rfl⟩⟩
end
section
open Go.RowKit Go.Deep
theorem BlS.old {F:Nat->Prop} {B db:Nat} {D:MD} {one:ByteArray} {ac fl:Int} {w:World} (h:BlS F B db D one ac fl w) (d:B<=w.heap.size):BlS (fun b=>b<B) B db D one ac fl w:=by
 obtain⟨R,sv,c,g⟩:=h;refine⟨R,sv,c,fun b hb=>⟨by have:=c.low;omega,by omega,fun e=>?_,fun i hi e=>?_⟩⟩
 ·have:=(World.ownsRow.lt c.own.top b e).1;omega
 have:=(World.ownsRow.lt (c.own.row i hi) b e).1;omega
def catA (D E:MD):Int:=(cpX E none E.n:Int)+(cpX D (some E.start.toNat) D.n:Int)
def CatE (D E:MD) (w:World) (r:Ending) (w':World):Prop :=
 Below w.heap.size w w'/\((VM D/\VM E/\D.kind=E.kind /\
  ((
   dnOk (tmF (z0g D.kind D.lead E.lead) 0) (E.n+D.n) (catA D E)/\∃ sv R,r=.returned (.tuple #[.agg #[.int .i64 D.kind,.int .i64 ((E.n:Int)+D.start),.string (z0g D.kind D.lead E.lead).1,sv],.int .i64 0])/\OwM w' w.heap.size sv (catD D E (z0g D.kind D.lead E.lead).1) R) \/
   (¬ dnOk (tmF (z0g D.kind D.lead E.lead) 0) (E.n+D.n) (catA D E)/\r=.returned (.tuple #[z6z,.int .i64 2])))) \/
  (VM D/\VM E/\D.kind≠E.kind/\r=.returned (.tuple #[z6z,.int .i64 6]))\/(¬ (VM D/\VM E)/\r=.returned (.tuple #[z6z,.int .i64 1])))
theorem x6v {D E:MD} {mv nv:Value} (w:World) (hM:Ma none w mv D) (hN:Ma none w nv E) (l5:MSz D) (k2:MSz E) (ht:Tab w) (g:E.n+D.n<=1000) (h8:z0f D D.n+z0f E E.n<=1000):Calls prog 65 #[mv,nv] w (CatE D E w):=by
 have hT:=fun W (hb:Below w.heap.size w W)=>v8e (D:=D) (E:=E) (mv:=mv) (nv:=nv) W ⟨_,hM.choose_spec.1,hM.choose_spec.2.kept (z0b hb none)⟩ ⟨_,hN.choose_spec.1,hN.choose_spec.2.kept (z0b hb none)⟩ l5 k2 (ht.below hb nlr);obtain⟨sv,rfl,hS⟩:=hM;obtain⟨sw,rfl,l2⟩:=hN;obtain⟨a,cp,_,_,_,_,_,_,j4,_⟩:=hS.open;obtain⟨a2,k9,_,_,_,_,_,_,s6,_⟩:=l2.open;subst j4;subst s6;obtain⟨w1,L⟩:=exq (w.alloc (.cells #[.int .i64 D.kind,.int .i64 D.start,.string D.lead,.slice a D.n cp] 24));obtain⟨w2,O⟩:=exq (w1.alloc (.cells #[.int .i64 E.kind,.int .i64 E.start,.string E.lead,.slice a2 E.n k9] 24));obtain⟨w3,a6⟩:=exq (w2.alloc (.cells #[.int .i64 0,.int .i64 0,.string ⟨#[]⟩,.slice none 0 0] 24));have a4:w1.heap.size=w.heap.size+1:=by rw[L];simp
 have r8:w2.heap.size=w.heap.size+1+1:=by rw[O];simp[a4]
 have p0:Fr (fun _=>False) w w1:=by rw[L];exact Fr.alloc _ _
 have l4:Fr (fun _=>False) w1 w2:=by rw[O];exact Fr.alloc _ _
 have f5:Fr (fun _=>False) w2 w3:=by rw[a6];exact Fr.alloc _ _
 have a8:w1.heap[w.heap.size]?=some (.cells #[.int .i64 D.kind,.int .i64 D.start,.string D.lead,.slice a D.n cp] 24 (0,0)):=by rw[L];exact heap_alloc_new w _
 have j:w3.heap[w.heap.size]?=some (.cells #[.int .i64 D.kind,.int .i64 D.start,.string D.lead,.slice a D.n cp] 24 (0,0)):=(f5.block _ (by omega) (fun e=>e)).trans ((l4.block _ (lt_of_block a8) (fun e=>e)).trans a8);have j0:w2.heap[w.heap.size+1]?=some (.cells #[.int .i64 E.kind,.int .i64 E.start,.string E.lead,.slice a2 E.n k9] 24 (0,0)):=by rw[<- a4,O];exact heap_alloc_new w1 _
 have S:w3.heap[w.heap.size+1]?=some (.cells #[.int .i64 E.kind,.int .i64 E.start,.string E.lead,.slice a2 E.n k9] 24 (0,0)):=(f5.block _ (by omega) (fun e=>e)).trans j0;have a1:w3.heap[w.heap.size+1+1]?=some (.cells #[.int .i64 0,.int .i64 0,.string ⟨#[]⟩,.slice none 0 0] 24 (0,0)):=by rw[<- r8,a6];exact heap_alloc_new w2 _
 have l8:Below w.heap.size w w3:=((p0.trans l4).trans f5).below nlr (fun _ e=>e.elim);obtain⟨mb,f9⟩:=exq (w.heap.size);obtain⟨nb,g0⟩:=exq (w.heap.size+1);obtain⟨m,k1⟩:=exq (w.heap.size+1+1);have f7:w.heap.size<=m:=by omega
 have uu6:mb≠m:=by omega
 have uu4:nb≠m:=by omega
 have uu3:w.heap.size<=mb:=by omega
 have uu7:w.heap.size<=nb:=by omega
 rw[<- f9] at j;rw[<- g0] at S;rw[<- k1] at a1;obtain⟨⟨m0,m1,m2,m3⟩,_⟩:=cells4 j;obtain⟨⟨n0,n1,n2,n3⟩,_⟩:=cells4 S;have o6:=qh (hT w3 l8);clear hT;have l6:=qh l8;clear l8;have l:=qh j;clear j a8 p0 l4 f5 a4 r8 j0;have C:=qh S;clear S;have k:=qh a1;clear a1;have HS:=qh hS;clear hS;have s4:=qh l2;clear l2;have HT:=qh ht;clear ht;have l7:=qh l5;clear l5;have d9:=qh k2;clear k2;have b5:=qh g;clear g;have b8:=qh h8;clear h8;rw[f9,a6,O,L] at m0 m1 m2 m3;rw[g0,a6,O,L] at n0 n1 n2 n3
 go_enter func65,ntmps65
 go_wp2_with fail
 rw[<- L,<- O,<- a6,<- k1,<- g0,<- f9];clear m0 m1 m2 m3 n0 n1 n2 n3 L O a6 f9 g0 k1;refine o6.out.mono ?_;rintro r w4 ⟨d6,e,rfl,he⟩;have s:=l6.out.trans (d6.mono l6.out.size);have j:=(d6.block _ (lt_of_block l.out)).trans l.out;have S:=(d6.block _ (lt_of_block C.out)).trans C.out;have a1:=(d6.block _ (lt_of_block k.out)).trans k.out;clear d6 l C k o6 l6;have Q:=qh s;clear s;have l:=qh j;clear j;have C:=qh S;clear S;have k:=qh a1;clear a1;obtain⟨⟨r0,r1,r2,r3⟩,rz⟩:=cells4 k.out;have f0:=rz 0;have f1:=rz 1;have f2:=rz 2;have f3:=rz 3;clear rz;unfold twoN at he
 rcases he with ⟨hv,b3,hk,rfl⟩|⟨hv,b3,hk,rfl⟩|⟨hv,rfl⟩
 rotate_left
 ·have k5:=qh hv;have s7:=qh b3;have s9:=qh hk;clear hv b3 hk
  go_wp2_with fail
  exact bodyPost_ret (z0k rfl _ (b:=m) rfl rfl (z0w w4 m _ _ _ _ k.out)) rfl ⟨z0d Q.out f7 _ _ _ _,.inr (.inl ⟨k5.out,s7.out,s9.out,rfl⟩)⟩
 ·have k5:=qh hv;clear hv
  go_wp2_with fail
  exact bodyPost_ret (z0k rfl _ (b:=m) rfl rfl (z0w w4 m _ _ _ _ k.out)) rfl ⟨z0d Q.out f7 _ _ _ _,.inr (.inr ⟨k5.out,rfl⟩)⟩
 clear r0 r1 r2 r3 f0 f1 f2 f3;have HV:=qh hv;clear hv;have J:=qh b3;clear b3;have a7:=qh hk;clear hk;have m0:=(cells4 l.out).1.1;have X:=y6f D.kind w4;have h5:=qh X;clear X
 go_wp2_with fail
 refine h5.out.mono ?_;rintro r w5 ⟨db,rfl,k3,I,m7⟩;clear m0 h5;obtain⟨B,A⟩:=exq (w4.heap.size);rw[<- A] at k3 I m7;have k0:w.heap.size<=B:=by rw[A];exact Q.out.size
 have s5:B<=w5.heap.size:=by rw[A];rw[A] at I;exact I.size
 have i2:=k3.old s5;have o7:smS D.lead:=l7.out.lead;have a4:smS E.lead:=d9.out.lead;have s:Below w.heap.size w w5:=Q.out.trans (I.mono k0);have m4:Calls prog 109 #[.pointer (some ⟨db,0,none⟩),.string D.lead,.string E.lead] w5 (TmE (fun b=>b<B) B db (z1e D.kind 0 (oneF D.kind)) (oneF D.kind) 0 0 (z0g D.kind D.lead E.lead) w5):=v9v D.lead E.lead w5 i2 o7 a4 (HT.out.below s nlr);obtain⟨z,hz⟩:=exq (z0g D.kind D.lead E.lead);rw[<- hz] at m4;have r7:=qh m4;clear m4 o7 a4 k3 i2 s;have m2:=(cells4 ((I.block mb (by rw[A];exact lt_of_block l.out)).trans l.out)).1.2.2.1;have n2:=(cells4 ((I.block nb (by rw[A];exact lt_of_block C.out)).trans C.out)).1.2.2.1;have r9:=qh I;clear I;have d:=qh A;clear A;have HZ:=qh hz;clear hz;have k7:=qh m7;clear m7
 go_wp2_with fail
 refine r7.out.mono ?_;rintro r w6 ⟨rfl,f8⟩;clear m2 n2 r7;have i8:=r9.out.trans f8.2.2;obtain⟨⟨v1,m9⟩,j9,d5⟩:=f8.1.cells;have t7:=d5 2;clear d5 m9;obtain⟨w7,d8⟩:=exq (w6.setCell ⟨db,2,none⟩ (.string z.1));have g6:BlS (fun b=>b<B) B db (z1e D.kind 0 z.1) (oneF D.kind) 0 (tmF z 0) w7:=by rw[d8];exact f8.1.lead z.1
 have Y:Below B w4 w7:=by rw[d8];exact i8.setCell (p:=⟨db,2,none⟩) k7.out _
 have o4:=s4.out.kept (z0b Q.out none);have r4:=HS.out.kept (z0b Q.out none);have a3:cpC E none E.n=z0f E E.n:=by unfold cpC;simp
 have a9:cpC D (some E.start.toNat) D.n=z0f D D.n+D.n:=by unfold cpC;simp
 have d2:=b5.out;have b2:=b8.out;have a5:=x0x E none E.n;have b1:=x0x D (some E.start.toNat) D.n;have e7:=v9k (F:=fun b=>b<B) (db:=db) (N:=E.n+D.n) (c:=0) (D:=E) (M:=z1e D.kind 0 z.1) (o:=none) (P:=fun _=>True) (one:=oneF D.kind) (ac:=0) (fl:=tmF z 0) w4 w7 J.out d9.out o4 (by rw[<- d.out];exact Y) (by rw[<- d.out];exact g6) a7.out (BOk.empty _ _ _ _) (show 0+E.n<=E.n+D.n by omega) (by omega) (fun _ h=>by cases h) (by omega) (Int.le_refl _) (by omega) (by rw[<- d.out];exact u6h B db) trivial (fun _ _ _ _=>trivial);rw[<- d.out] at e7;have i3:=qh e7;clear e7;obtain⟨⟨n0,n1,n2,n3⟩,_⟩:=cells4 ((Y.block nb (by rw[d.out];exact lt_of_block C.out)).trans C.out);have i4:=qh Y;clear Y i8 f8 g6;have t8:=qh r4;clear r4 o4;rw[d8] at n0 n1 n2 n3
 go_wp2_with fail
 rw[<- d8];clear n0 n1 n2 n3 d8 j9 t7;refine i3.out.mono ?_;rintro r w8 ⟨rfl,l0⟩;clear i3;obtain⟨se,l1⟩:∃ se:Nat,E.start=(se:Int):=⟨E.start.toNat,by have:=J.out.s0;omega⟩;have g5:E.start.toNat=se:=by omega
 rw[show (((z1e D.kind 0 z.1).n:Nat):Int)+E.start=(se:Int) by rw[l1];show ((0:Nat):Int)+(se:Int)=_;omega];have G:Below B w4 w8:=i4.out.trans l0.2.2;have j7:=(G.block mb (by rw[d.out];exact lt_of_block l.out)).trans l.out;have l3:=(G.block m (by rw[d.out];exact lt_of_block k.out)).trans k.out;obtain⟨wd,n5⟩:=exq (w8.drew);have o5:Fr (fun _=>False) w8 wd:=by rw[n5];exact(Fr.refl _ _).drew
 have b9:Below w8.heap.size w8 wd:=o5.below nlr (fun _ e=>e.elim);have h0:=l0.1.kept b9;have g8:Below B w4 wd:=G.trans (b9.mono (by rw[d.out];exact G.size));have j8:=(b9.block _ (lt_of_block j7)).trans j7;have o2:=(b9.block _ (lt_of_block l3)).trans l3;have b0:=(cells4 j8).1;have n6:=qh (x9i db se wd);have uu1:se<E.n:=by have:=J.out.s1;omega
 have T:=qh g5;clear g5;have t9:=qh l1;clear l1;have j1:=qh h0;clear h0 l0 G o5 b9;have e8:=qh g8;clear g8 i4;have k4:=qh j8;clear j8 j7;have m8:=qh o2;clear o2 l3;have q8:=qh a3;clear a3;have o3:=qh a9;clear a9;have n9:=qh a5;clear a5;have r6:=qh b1;clear b1;clear d2 b2
 go_wp2_with fail
 refine z0h (fun wk=>wk.cell? ⟨mb,0,none⟩=some (.int .i64 D.kind)/\wk.cell? ⟨mb,1,none⟩=some (.int .i64 D.start)/\wk.cell? ⟨mb,2,none⟩=some (.string D.lead)/\wk.cell? ⟨mb,3,none⟩=some (.slice a D.n cp)) 10 (by kernel_rfl) ?_;rw[<- n5];clear n5;refine z0c.tm 0 b0 ?_;refine z0c.tm 1 b0 ?_;refine z0c.tm 2 b0 ?_;refine z0c.tm 3 b0 ?_;refine z0c.tm 4 b0 ?_
 try simp only[Act.put,tryL]
 refine z0c.on 5 fun K hK=>?_;go_simp;refine n6.out.mono ?_;rintro r w9 ⟨cx,tx,rfl,g3,n7,p7,e5⟩;have l9:=(e5.block _ (lt_of_block k4.out)).trans k4.out;have p6:=(e5.block _ (lt_of_block m8.out)).trans m8.out;have p8:=(cells4 l9).1;have e1:=j1.out.grown e5;obtain⟨F1,e6⟩:∃ F1:Nat->Prop,F1=fun b=>b<B\/(wd.heap.size<=b/\b<w9.heap.size):=⟨_,rfl⟩;rw[<- e6] at e1;have j2:F1 cx:=by rw[e6];exact .inr ⟨n7,lt_of_block g3.1⟩
 have h9:F1 tx:=by rw[e6];exact .inr ⟨p7,lt_of_block g3.2⟩
 have d3:∀ b,b<B->F1 b:=fun b hb=>by rw[e6];exact .inl hb
 have c8:Below B w4 w9:=e8.out.trans (e5.mono (by rw[d.out];exact e8.out.size));have d2:=b5.out;have b2:=b8.out;have a3:=q8.out;have a9:=o3.out;have a5:=n9.out;have b1:=r6.out;have j5:(z2f E none (z1e D.kind 0 z.1)).n=E.n:=by
  unfold z2f;rw[(z7n _ _ _ _ _).2.2.2,z6m];exact Nat.zero_add _
 have j:(z2f E none (z1e D.kind 0 z.1)).kind=D.kind:=by
  unfold z2f;rw[(z7n _ _ _ _ _).1,(z5r _ _ _).1];rfl
 have j3:BOk (z2f E none (z1e D.kind 0 z.1)) (E.n+D.n) (0+cpC E none E.n):=by
  unfold z2f;exact y6a (o:=none) (low:=0) (M:=stsD E E.n (z1e D.kind 0 z.1)) (c:=0) J.out d9.out (fun _ h=>by cases h) (show 0+E.n<=E.n+D.n by omega) ((z5r _ _ _).1.trans a7.out) (y4g (M:=z1e D.kind 0 z.1) J.out d9.out a7.out (BOk.empty _ _ _ _) E.n nlr) E.n nlr
 have d1:=v9k (F:=F1) (db:=db) (N:=E.n+D.n) (c:=0+cpC E none E.n) (D:=D) (M:=z2f E none (z1e D.kind 0 z.1)) (o:=some se) (P:=PLk db cx tx se) (one:=oneF D.kind) (ac:=0+(cpX E none E.n:Int)) (fl:=tmF z 0) w4 w9 HV.out l7.out t8.out (by rw[<- d.out];exact c8) (by rw[<- d.out];exact e1) j j3 (by rw[j5];omega) (by omega) (fun t h=>by cases h;omega) (by rw[<- T.out];omega) (by omega) (by rw[<- T.out];omega) (by rw[<- d.out];exact u4y B db cx tx se) g3 (fun wa wb h hF=>⟨(hF cx j2).trans h.1,(hF tx h9).trans h.2⟩);rw[<- d.out] at d1;refine hK.out _ _ (.inr p8) ?_;clear hK K b0 n6 d2 b2 a3 a9 a5 b1 g3 n7 p7 e5;have i7:=qh d1;clear d1;have h6:=qh c8;clear c8 e8;have o8:=qh l9;clear l9 k4;have o9:=qh p6;clear p6 m8;have s8:=qh j5;clear j5;have uu0:=qh j;clear j j3 e1 j1;have g1:=qh d3;clear d3 e6 j2 h9
 try simp only[Act.put,tryL]
 refine z0c.on 6 fun K hK=>?_;go_simp;refine i7.out.mono ?_;rintro r r5 ⟨rfl,g⟩;have e0:Below B w4 r5:=h6.out.trans g.2.2;have d0:=(g.2.1 mb (g1.out mb (by rw[d.out];exact lt_of_block l.out))).trans o8.out;have h4:=(g.2.1 m (g1.out m (by rw[d.out];exact lt_of_block k.out))).trans o9.out;have u:=(cells4 d0).1;obtain⟨⟨v1,m9⟩,j9,d5⟩:=g.1.cells;have s3:=d5 1;clear d5 j9;have c7:=(g.1.start ((E.n:Int)+D.start)).sub g1.out;rw[s8.out];refine hK.out _ _ (.inr u) ?_;clear hK K p8 i7 g;have b4:=qh e0;clear e0 h6;have uu2:=qh d0;clear d0 o8;have i9:=qh h4;clear h4 o9;have d7:=qh c7;clear c7 g1
 try simp only[Act.put,tryL]
 refine z0c.tm 7 u ?_;refine z0c.tm 8 u ?_;refine z0c.tm 9 u ?_
 try simp only[Act.put,tryL]
 refine z0c.on 10 fun K hK=>?_;go_simp;refine hK.out _ _ (.inl rfl) (z0c.dn ?_);clear hK K u m9 s3;obtain⟨e9,H⟩:=exq (r5.setCell ⟨db,1,none⟩ (.int .i64 ((E.n:Int)+D.start)));rw[<- H];have i:=d7.out;rw[<- H] at i;have i6:({ z2f D (some se) (z2f E none (z1e D.kind 0 z.1)) with start:=(E.n:Int)+D.start }:MD)=catD D E z.1:=by rw[<- T.out];rfl
 rw[i6] at i;have i5:mb≠db/\m≠db:=by
  have h1:=k7.out;have h2:=lt_of_block l.out;have h3:=lt_of_block k.out;rw[<- d.out] at h2 h3;exact⟨by omega,by omega⟩
 have d4:Below B w4 e9:=by rw[H];exact b4.out.setCell (p:=⟨db,1,none⟩) k7.out _
 have g9:e9.heap[m]?=some (.cells #[.int .i64 0,.int .i64 0,.string ⟨#[]⟩,.slice none 0 0] 24 (0,0)):=by rw[H,z0e (show m≠db from i5.2)];exact i9.out
 have U:=x3k HV.out l7.out J.out d9.out a7.out.symm z.1;have hx:0+(cpX E none E.n:Int)+(cpX D (some se) D.n:Int)=catA D E:=by unfold catA;rw[T.out,Int.zero_add]
 rw[hx] at i;have b2:=b8.out;have d2:=b5.out;have a3:=q8.out;have a9:=o3.out;have a5:=n9.out;have b1:=r6.out;have j6:catA D E<=1000000/\0<=catA D E:=by unfold catA;omega
 have m5:=v9h e9 i (by rw[U.2.1];omega) j6.1 j6.2;rw[U.2.1] at m5;have q9:=qh m5;clear m5 j6 b2 d2 a3 a9 a5 b1 hx i6 H i d7 i5;have c9:=qh d4;clear d4 b4;have e4:=qh g9;clear g9 i9;have g7:=qh U;clear U
 go_wp2_with fail
 refine q9.out.mono ?_;rintro r g2 ⟨e2,hr⟩;have e3:Below B w4 g2:=c9.out.trans (e2.mono (by rw[d.out];exact c9.out.size));have g4:=(e2.block _ (lt_of_block e4.out)).trans e4.out;have b7:Below w.heap.size w g2:=Q.out.trans (e3.mono k0);clear e2 e3 q9;have h7:=qh b7;clear b7;have Z:=qh g4;clear g4 e4;obtain⟨⟨r0,r1,r2,r3⟩,rz⟩:=cells4 Z.out;have f0:=rz 0;have f1:=rz 1;have f2:=rz 2;have f3:=rz 3;clear rz;unfold z6z at hr
 rcases hr with ⟨f4,uu5,R,rfl,b6⟩|⟨f4,rfl⟩
 ·have p9:=g7.out.2.2.1;have a8:=g7.out.2.2.2;rw[p9,a8];rw[show (catD D E z.1).start=(E.n:Int)+D.start from rfl];obtain⟨sa,sc,j4,_,_⟩:=z1h b6.top;subst j4;have q7:=qh (z4j (b6.box4 Z.out (.int .i64 D.kind) (.int .i64 ((E.n:Int)+D.start)) (.string z.1) (.slice sa (catD D E z.1).n sc)) k0);clear b6 p9 a8;have k6:=qh f4;clear f4
  go_wp2_with fail
  refine bodyPost_ret (z0k rfl _ (b:=m) rfl rfl (z0w g2 m _ _ _ _ Z.out)) rfl ⟨z0d h7.out f7 _ _ _ _,.inl ⟨HV.out,J.out,a7.out,.inl ⟨?_,.slice sa (catD D E z.1).n sc,R,?_,?_⟩⟩⟩
  ·rw[<- HZ.out];exact k6.out
  ·rw[<- HZ.out];rfl
  rw[<- HZ.out];exact q7.out
 have k6:=qh f4;clear f4
 go_wp2_with fail
 refine bodyPost_ret (z0k rfl _ (b:=m) rfl rfl (z0w g2 m _ _ _ _ Z.out)) rfl ⟨z0d h7.out f7 _ _ _ _,.inl ⟨HV.out,J.out,a7.out,.inr ⟨?_,rfl⟩⟩⟩;rw[<- HZ.out];exact k6.out
end
section
open Go.RowKit Go.Deep
def anyA (D:MD) (i:Nat) (sel:Int->Int->Bool):Bool:=(List.range (D.na i)).any fun d=>sel (D.ain i d) (D.aout i d)
theorem y7k {D:MD} {i:Nat} {sel:Int->Int->Bool}:anyA D i sel=true↔∃ d,d<D.na i/\sel (D.ain i d) (D.aout i d)=true:=by simp[anyA]
theorem v1k {D:MD} {i:Nat} {sel:Int->Int->Bool} (h:∀ d,d<D.na i->sel (D.ain i d) (D.aout i d)=false):anyA D i sel=false:=by
 cases g:anyA D i sel
 ·rfl
 obtain⟨d,j,c⟩:=y7k.1 g;rw[h d j] at c;cases c
theorem v5s {D:MD} {i nf:Nat} {z:Array Value} {v:Value} {sel:Int->Int->Bool} {P:World->Prop} (w:World) (R:ArS none w v D i) (hn:D.na i<=30000) (ht:TstA nf z sel P) (T:∀ wb,Below w.heap.size w wb->P wb) :
  Calls prog 173 #[v,.func (.func nf) #[] z] w (fun r w'=>Below w.heap.size w w'/\∃ k:Int,r=.returned (.int .i64 k)/\(decide (0<=k)=anyA D i sel)):=by
 obtain⟨W,s⟩:=ht;obtain⟨n,h⟩:=exq (D.na i);have hv:∃ a g b c,v=.slice a n g/\n<=g/\g<=maxLen/\(0<n->a=some ⟨b,c,none⟩/\b<w.heap.size)/\∀ k,k<n->w.cell? ⟨b,c+k*4,none⟩=some (.int .i64 (D.ain i k))/\w.cell? ⟨b,c+k*4+1,none⟩=some (.int .i64 (D.aout i k))/\w.cell? ⟨b,c+k*4+2,none⟩=some (.string (D.aw i k))/\w.cell? ⟨b,c+k*4+3,none⟩=some (.int .i64 (D.ato i k)):=by
  rcases R with ⟨h0,a,g,rfl,S⟩|⟨b,c,g,rfl,I,h2,h3,h4⟩
  ·exact⟨a,g,0,0,by rw[h,h0],by omega,S,by omega,fun k hk=>by omega⟩
  exact⟨_,g,b,c,by rw[h],by omega,h3,fun _=>⟨rfl,I.1⟩,fun k hk=>h4 k (by omega)⟩
 obtain⟨a,g,b,c,rfl,S,Z,N,l⟩:=hv;unfold maxLen at Z;rw[<- h] at hn;have C:=qh h;clear h R;have HA:=qh N;clear N;have HX:=qh l;clear l;have Y:=qh s;clear s;have X:=qh T;clear T
 go_enter func173,ntmps173
 go_wp2_with fail
 go_loopw [8] (fun L wr=>∃ q:Nat,q<=n/\L=.int .i64 (q:Int)/\Below w.heap.size w wr/\∀ j,j<q->sel (D.ain i j) (D.aout i j)=false) (fun L _=>n-(intOf L).toNat)
 case atStart=>exact⟨0,Nat.zero_le _,rfl,blr,fun j hj=>by omega⟩
 obtain⟨q,hq,rfl,hb,E⟩:=hrel;have B:=qh E;clear E;have u:=qh hb;clear hb;by_cases H:q<n
 ·have U:(q:Int)<(n:Int):=by omega
  have O:(0:Int)<=(q:Int):=by omega
  obtain⟨rfl,o⟩:=HA.out (by omega);obtain⟨t0,t1,t2,t3⟩:=HX.out q H;have c0:=(u.out.cell (p:=⟨b,c+q*4,none⟩) o).trans t0;have c1:=(u.out.cell (p:=⟨b,c+q*4+1,none⟩) o).trans t1;have c2:=(u.out.cell (p:=⟨b,c+q*4+2,none⟩) o).trans t2;have c3:=(u.out.cell (p:=⟨b,c+q*4+3,none⟩) o).trans t3;clear t0 t1 t2 t3;have m:=Y.out wr (X.out wr u.out) (D.ain i q) (D.aout i q) (D.aw i q) (D.ato i q);have Q:=qh m;clear m
  go_wp2_with fail
  clear c0 c1 c2 c3;refine Q.out.mono ?_;rintro r w1 ⟨rfl,G⟩;have J:=qh (u.out.trans (G.mono u.out.size));clear G Q;cases K:sel (D.ain i q) (D.aout i q)
  ·have A:=qh K;clear K;go_wp2;go_roundw
   case rel=>exact⟨q+1,by omega,by go_num,J.out,fun j hj=>by
    by_cases e:j=q
    ·subst e;exact A.out
    exact B.out j (by omega)⟩
   simp[intOf];omega
  have A:=qh K;clear K;go_wp2;go_ret;refine⟨J.out,_,rfl,?_⟩;have I:anyA D i sel=true:=y7k.2 ⟨q,by rw[<- C.out];exact H,A.out⟩;rw[I];simp
 have F:q=n:=by omega
 have a1:¬ ((q:Int)<(n:Int)):=by omega
 have HQ:=qh F;clear F;go_wp2;go_ret;refine⟨u.out,_,rfl,?_⟩;have I:anyA D i sel=false:=v1k fun d hd=>B.out d (by rw[HQ.out,C.out];exact hd);rw[I];rfl
theorem y7y {D:MD} {i nf:Nat} {c:Array Value} {v:Value} {sel:Int->Int->Bool} {P:World->Prop} (w:World) (h:ArS none w v D i) (hn:D.na i<=30000) (j:TstA nf c sel P) (d:∀ wb,Below w.heap.size w wb->P wb) :
  Calls prog 138 #[v,.func (.func nf) #[] c] w (fun r w'=>r=.returned (.bool (anyA D i sel))/\Below w.heap.size w w'):=by
 have l:=qh (v5s w h hn j d);clear h hn j d
 go_enter func138,ntmps138
 go_wp2_with fail
 refine l.out.mono ?_;rintro r p ⟨hb,k,rfl,g⟩;have m:=qh g;clear g;have o:=qh hb;clear hb;go_wp2;go_ret;exact⟨z0v m.out,o.out⟩
def selE (i o:Int):Bool:=decide (i=o)
theorem v5i:∀ args w,(callFunc 107 args).run prog w=.ok (.enter 107 args) w:=fun args w=>by kernel_rfl
theorem v5z:∀ args w,(callFunc 139 args).run prog w=.ok (.enter 139 args) w:=fun args w=>by kernel_rfl
theorem u2z (w:World) (i o:Int) (s:ByteArray) (t:Int):Calls prog 107 #[.agg #[.int .i64 i,.int .i64 o,.string s,.int .i64 t]] w (fun r w'=>r=.returned (.bool (selE i o))/\Below w.heap.size w w'):=by
 have c:=(Below.refl w.heap.size w).alloc nlr (.cells #[.int .i64 i,.int .i64 o,.string s,.int .i64 t] 59);have d:=qh c;clear c
 go_enter func107,ntmps107
 go_wp2;go_ret;exact⟨z0v (by by_cases h:i=o<;>simp[selE,h]),d.out⟩
theorem u6u:TstA 107 #[] selE (fun _=>True) :=
 ⟨v5i,fun c _ i o s t=>by
  have h:=u2z c i o s t;rw[show ∀ a:Value,(#[a]++#[]:Array Value)=#[a] from fun _=>rfl];exact h⟩
def PAl (tb nf:Nat) (w:World):Prop:=w.heap[tb]?=some (.cells #[.func (.func nf) #[] #[]] 100 (0,0))
theorem u6j {nf:Nat} {sel:Int->Int->Bool} (u:Nat) (L:TstA nf #[] sel (fun _=>True)):TstA 139 #[.pointer (some ⟨u,0,none⟩)] (fun i o=>!sel i o) (PAl u nf):=by
 refine⟨v5z,fun p E i o s t=>?_⟩;rw[show ∀ a b:Value,(#[a]++#[b]:Array Value)=#[a,b] from fun _ _=>rfl];obtain⟨N,l⟩:=L;obtain⟨j,g⟩:=exq (p.alloc (.cells #[.int .i64 i,.int .i64 o,.string s,.int .i64 t] 59));obtain⟨z,h⟩:=exq (p.heap.size);have d:=(Below.refl p.heap.size p).alloc nlr (.cells #[.int .i64 i,.int .i64 o,.string s,.int .i64 t] 59);rw[<- g] at d;have I:j.heap[u]?=some (.cells #[.func (.func nf) #[] #[]] 100 (0,0)):=(d.block _ (lt_of_block E)).trans E;have k:j.heap[z]?=some (.cells #[.int .i64 i,.int .i64 o,.string s,.int .i64 t] 59 (0,0)):=by rw[g,h];exact heap_alloc_new p _
 obtain⟨J,F⟩:=exq (j.drew);have H:j.cell? ⟨u,0,none⟩=some (.func (.func nf) #[] #[]):=by simp[World.cell?,I]
 obtain⟨⟨a0,D,C,G⟩,_⟩:=cells4 k;have c:=l j trivial i o s t;rw[show ∀ a:Value,(#[a]++#[]:Array Value)=#[a] from fun _=>rfl] at c;have K:=qh c;clear c l;have A:=qh d;clear d I k E F;rw[g] at H a0 D C G;rw[h] at a0 D C G
 go_enter func139,ntmps139
 go_wp2_with fail
 rw[<- g];clear H a0 D C G g h;refine K.out.mono ?_;rintro r O ⟨rfl,m⟩;have B:=qh (A.out.trans (m.mono A.out.size));clear m K A;go_wp2;go_ret;exact⟨z0v (by cases sel i o<;>rfl),B.out⟩
end
section
open Go.RowKit Go.Deep
end
section
theorem x5p {k:KK} {D:MD} {sel:Int->Int->Bool} (g:∀ i o,sel i o=decide (i=0)) (q p:Nat):sils (rmOf k D) sel q p=sil (rmOf k D.inZ) q p:=by
 unfold sils sil;refine CSR.sum_congr fun d _=>?_;show (if sel (D.ain q d) (D.aout q d)=true/\(D.ato q d).toNat=p then _ else _)=if D.ain q d=0/\(0:Int)=0/\(D.ato q d).toNat=p then _ else _
 rw[g];by_cases h:D.ain q d=0
 ·by_cases c:(D.ato q d).toNat=p
  ·rw[if_pos ⟨by simp[h],c⟩,if_pos ⟨h,rfl,c⟩];rfl
  rw[if_neg (fun e=>c e.2),if_neg (fun e=>c e.2.2)]
 rw[if_neg (fun e=>h (by simpa using e.1)),if_neg (fun e=>h e.1)]
theorem z8s (D:MD):∀ n,z0f D.inZ n=z0f D n
 | 0=>rfl
 | n+1=>by show z0f D.inZ n+D.na n=z0f D n+D.na n;rw[z8s D n]
theorem VM.inZ {D:MD} (h:VM D):VM D.inZ:={ h with arcs:=by rw[z8s];exact h.arcs,arc:=fun q d c g=>{ h.arc q d c g with o0:=by show (0:Int)<=0;omega,o1:=by show (0:Int)<=500;omega } }
theorem u6x {k:KK} {D:MD} {sel:Int->Int->Bool} (l:∀ i o,sel i o=decide (i=0)) {st:StarO} (h:(NoSel D sel/\st=none)\/∃ S,st=some S/\∀ q p,q<D.n->p<D.n->Sv k (S q p) (CSR.starM (sils (rmOf k D) sel) D.n q p)):StOk k D.inZ st:=by
 rcases h with ⟨s,rfl⟩|⟨S,rfl,m⟩
 ·intro q p c d;rw[<- x5p l];exact SilOk.nosil s k q p c
 intro q p c d;have g:=m q p c d;have e:=CSR.starM_congr (M:=sils (rmOf k D) sel) (M':=sil (rmOf k D.inZ)) (n:=D.n) (fun i j _ _=>x5p l i j) q p c d;rw[e] at g;exact g
theorem SilOk.stZ {k:KK} {D:MD} {sel:Int->Int->Bool} (j:∀ i o,sel i o=decide (i=0)) {st:StarO} (h:SilOk D sel st 0) (g:k.1=D.kind):StOk k D.inZ st:=by
 refine u6x j ?_
 rcases h with ⟨c,d,_⟩|⟨_,_,_,S,c,d⟩|⟨_,c,_⟩
 ·exact .inl ⟨c,d⟩
 ·exact .inr ⟨S,c,d k g⟩
 exact absurd rfl c
end
section
theorem u0y (D:MD):D.sym (fun i _=>(i,0))=D.inZ:=rfl
def Dv (D:MD) (na:Nat) (x:Nat->Int) (z:ByteArray × Nat):Prop:=z.2=0->∀ k:KK,k.1=D.kind->Sv k z.1 (rel (rmOf k D.inZ) (ls x na 0) [])
end
section
open Go.RowKit Go.Deep
def selI (i _:Int):Bool:=decide (i=0)
theorem u0e:∀ args w,(callFunc 128 args).run prog w=.ok (.enter 128 args) w:=fun args w=>by kernel_rfl
theorem u0r:∀ args w,(callFunc 129 args).run prog w=.ok (.enter 129 args) w:=fun args w=>by kernel_rfl
theorem u6g (w:World) (i o:Int) (s:ByteArray) (t:Int):Calls prog 128 #[.agg #[.int .i64 i,.int .i64 o,.string s,.int .i64 t]] w (fun r w'=>r=.returned (.bool (selI i o))/\Below w.heap.size w w'):=by
 have c:=(Below.refl w.heap.size w).alloc nlr (.cells #[.int .i64 i,.int .i64 o,.string s,.int .i64 t] 59);have d:=qh c;clear c
 go_enter func128,ntmps128
 go_wp2;go_ret;exact⟨z0v (by by_cases h:i=0<;>simp[selI,h]),d.out⟩
theorem u4p {xb E n j:Nat} {x:Nat->Int} (w:World) (N:BxI w xb n x) (G:w.cell? ⟨E,0,none⟩=some (.int .i64 (j:Int))) (B:j<n) (i o:Int) (s:ByteArray) (t:Int) :
  Calls prog 129 #[.agg #[.int .i64 i,.int .i64 o,.string s,.int .i64 t],.pointer (some ⟨xb,0,none⟩),.pointer (some ⟨E,0,none⟩)] w (fun r w'=>r=.returned (.bool (selZ (x j) i o))/\Below w.heap.size w w'):=by
 obtain⟨v,F,m⟩:=N;obtain⟨a,O,b,J,rfl,C,T,P,hb,g⟩:=m.open;obtain rfl:=C (by omega);unfold maxLen at P;have c0:=g j B;clear g m;have Q:(j:Int)<(n:Int):=by omega
 have D:(0:Int)<=(j:Int):=by omega
 obtain⟨u,c⟩:=exq (w.alloc (.cells #[.int .i64 i,.int .i64 o,.string s,.int .i64 t] 59));obtain⟨A,k⟩:=exq (w.heap.size);have d:=(Below.refl w.heap.size w).alloc nlr (.cells #[.int .i64 i,.int .i64 o,.string s,.int .i64 t] 59);have p:w.grownBy u none:=by rw[c];exact World.grownBy_alloc _ _ _
 rw[<- c] at d;have a0:u.cell? ⟨A,0,none⟩=some (.int .i64 i):=by rw[c,k];exact z2s w _ _ 0 _ rfl
 have S:=p.cell F (by simp);have R:=p.cell G (by simp);have K:=p.cell c0 (by simp);have L:=qh d;clear d hb C F G c0 p;obtain⟨z,l⟩:=exq (x j);rw[<- l] at K;rw[<- l];clear l
 go_enter func129,ntmps129
 go_wp2_with fail
 rw[<- c,<- k];have I:=qh c;clear c;have H:=qh k;clear k
 go_quiet (fail)
 go_wp2;go_ret;exact⟨z0v (by by_cases h:i=z<;>simp[selZ,h]),below_drewN L.out _⟩
theorem u6v:TstA 128 #[] selI (fun _=>True) :=
 ⟨u0e,fun c _ i o s t=>by
  have h:=u6g c i o s t;rw[show ∀ a:Value,(#[a]++#[]:Array Value)=#[a] from fun _=>rfl];exact h⟩
structure PDt (w0:World) (xb ib:Nat) (xv:Value) (i:Nat) (w:World):Prop where
 hb:Below w0.heap.size w0 w
 kx:Bx w xb 25 xv
 ki:Bx w ib 3 (.int .i64 (i:Int))
theorem PDt.fr {j wa o:World} {g xb k d i:Nat} {l:Value} (h:PDt j xb k l i wa) (hf:Fr (fun q=>q=g\/q=d) wa o) (z:j.heap.size<=g) (s:j.heap.size<=d) (nx:xb≠g) (ni:k≠g) (p:xb≠d) (A:k≠d):PDt j xb k l i o:=by
 have m:∀ q,q≠g->q≠d->¬ (q=g\/q=d):=fun q a b c=>c.elim a b;exact⟨h.hb.trans (hf.below h.hb.size (fun q u=>by rcases u with rfl|rfl;exact z;exact s)),h.kx.kept hf (m _ nx p),h.ki.kept hf (m _ ni A)⟩
theorem u6t {k:World} {xb g n i:Nat} {j:Value} {x:Nat->Int} (l:Si none k j n x) (hi:i<n):TstA 129 #[.pointer (some ⟨xb,0,none⟩),.pointer (some ⟨g,0,none⟩)] (selZ (x i)) (PDt k xb g j i) :=
 ⟨u0r,fun m d i0 o0 s0 t0=>by
  have h:=u4p m (y9v l d.hb d.kx) d.ki.cell hi i0 o0 s0 t0;rw[show ∀ a b c:Value,(#[a]++#[b,c]:Array Value)=#[a,b,c] from fun _ _ _=>rfl];exact h⟩
def DomX (D:MD) (na:Nat) (x:Nat->Int) (w:World) (r:Ending) (w':World):Prop :=
 Below w.heap.size w w'/\((VM D/\isWord na x=true/\∃ st e0,SilOk D selI st e0/\r=.returned (.tuple #[.string (domE D.inZ st e0 na x).1,.int .i64 ((domE D.inZ st e0 na x).2:Int)])) \/
  (¬ (VM D/\isWord na x=true)/\r=.returned (.tuple #[.string ⟨#[]⟩,.int .i64 1])))
structure DI (w wo wr:World) (cb xb ib rb:Nat) (D:MD) (sv stv xv:Value) (i:Nat) (v:Nat->ByteArray) (e:Nat):Prop where
 hb:Below w.heap.size w wr
 gs:wo.grownBy wr (some cb)
 sc:Scl wr cb D sv stv e
 kx:Bx wr xb 25 xv
 ki:Bx wr ib 3 (.int .i64 (i:Int))
 rv:wr.rowIs rb 9 D.n (fun q=>.string (v q))
theorem u3f {g w j:World} {d:Nat} {C:Nat->Prop} (h:g.grownBy w (some d)) (hf:Fr C w j) (k:∀ q,C q->q=d\/g.heap.size<=q):g.grownBy j (some d) :=
 ⟨hf.os.trans h.os,hf.tape.trans h.tape,hf.output.trans h.output,Nat.le_trans h.size hf.size,fun q i c=>(hf.block q (Nat.lt_of_lt_of_le i h.size) (fun l=>(k q l).elim (fun e=>c (by rw[e])) (fun e=>by omega))).trans (h.block q i c)⟩
theorem DI.fr {w l wr k:World} {g xb d rb:Nat} {D:MD} {sv c j:Value} {i:Nat} {v:Nat->ByteArray} {e:Nat} (h:DI w l wr g xb d rb D sv c j i v e) (hf:Fr (fun _=>False) wr k):DI w l k g xb d rb D sv c j i v e :=
 ⟨h.hb.trans (hf.below h.hb.size (fun _ e=>e.elim)),h.gs.trans (Fr.gbc (hf.mono (fun _ _ e=>e.elim))),h.sc.kept hf (fun e=>e),h.kx.kept hf (fun e=>e),h.ki.kept hf (fun e=>e),hf.row h.rv (fun e=>e)⟩
theorem x7f {D:MD} {mv xv:Value} {na:Nat} {x:Nat->Int} (w:World) (hM:Ma none w mv D) (f1:MSz D) (ht:Tab w) (hx:Si none w xv na x) (j0:(na:Int)<=9223372036854775807) :
  Calls prog 95 #[mv,xv] w (DomX D na x w):=by
 obtain⟨sv,rfl,hS⟩:=hM;obtain⟨a,o,b,l9,A,C,BB,O,k5,_⟩:=hS.open;obtain⟨ax,cx,rfl⟩:=hx.shape;subst k5;obtain⟨w1,Y⟩:=exq (w.alloc (.cells #[.int .i64 D.kind,.int .i64 D.start,.string D.lead,.slice a D.n o] 24));obtain⟨w2,a6⟩:=exq (w1.alloc (.cells #[.slice ax na cx] 25));have f7:w1.heap.size=w.heap.size+1:=by rw[Y];simp
 have l5:w2.heap.size=w.heap.size+1+1:=by rw[a6];simp[f7]
 have i9:Fr (fun _=>False) w w1:=by rw[Y];exact Fr.alloc _ _
 have g6:Fr (fun _=>False) w1 w2:=by rw[a6];exact Fr.alloc _ _
 have d6:BoxM w1 w.heap.size D (.slice a D.n o):=by rw[Y];exact BoxM.new w D _
 have I:BoxM w2 w.heap.size D (.slice a D.n o):=(g6.block _ (by omega) (fun e=>e)).trans d6;have g3:Bx w2 (w.heap.size+1) 25 (.slice ax na cx):=by rw[<- f7,a6];exact heap_alloc_new w1 _
 have c9:Below w.heap.size w w2:=(i9.trans g6).below nlr (fun _ e=>e.elim);obtain⟨mb,g0⟩:=exq (w.heap.size);obtain⟨xb,f8⟩:=exq (w.heap.size+1);rw[<- g0] at I;rw[<- f8] at g3;have m0:=I.c0;have m1:=I.c1;have m2:=I.c2;have m3:=I.c3;have k0:=qh (z1v w2 (⟨_,rfl,hS.kept (z0b c9 none)⟩:Ma none w2 (.agg #[.int .i64 D.kind,.int .i64 D.start,.string D.lead,.slice a D.n o]) D) f1 (ht.below c9 nlr));clear i9 g6 d6 f7 l5;have e9:=qh c9;clear c9;have g2:=qh I;clear I;have Z:=qh g3;clear g3;have a3:=qh f1;clear f1;have a2:=qh ht;clear ht;have HX:=qh hx;clear hx;have f5:=qh hS;clear hS
 go_enter func95,ntmps95
 go_wp2_with fail
 rw[<- Y,<- a6,<- f8,<- g0];clear Y a6 g0 f8 m0 m1 m2 m3;refine k0.out.mono ?_;rintro r w4 ⟨d1,hr⟩;have d7:=e9.out.trans (d1.mono e9.out.size);have e4:BoxM w4 mb D (.slice a D.n o):=(d1.block _ g2.out.lt).trans g2.out;have b0:Bx w4 xb 25 (.slice ax na cx):=(d1.block _ Z.out.lt).trans Z.out;have c4:=b0.cell;have B:=qh d7;clear d7 d1 e9 k0;have F:=qh e4;clear e4 g2;have N:=qh b0;clear b0 Z
 rcases hr with ⟨hv,rfl⟩|⟨hv,rfl⟩
 rotate_left
 ·have L:=qh hv;clear hv;go_wp2;go_ret2;exact⟨B.out,.inr ⟨fun h=>L.out h.1,rfl⟩⟩
 have L:=qh hv;clear hv;have i7:=qh (y2q w4 (HX.out.kept (z0b B.out none)) j0)
 go_wp2_with fail
 refine i7.out.mono ?_;rintro r w5 ⟨rfl,rfl⟩;cases S:isWord na x
 ·go_wp2;go_ret2;exact⟨B.out,.inr ⟨fun h=>absurd h.2 (by rw[S];simp),rfl⟩⟩
 have l8:na<=200:=by unfold isWord at S;simp at S;exact S.1
 have k9:=qh S;clear S i7 j0 c4;have m0:=F.out.c0;have m1:=F.out.c1;have m2:=F.out.c2;have m3:=F.out.c3;have j1:=qh (x0u w5 L.out (f5.out.kept (z0b B.out none)) a3.out.aw (a2.out.below B.out nlr) u6v)
 go_wp2_with fail
 refine j1.out.mono ?_;rintro r w6 ⟨f2,Q,U,st,z,rfl,h4,g7,s,e5⟩;have j8:=qh e5;clear e5;have d9:=qh s;clear s;have a8:=qh g7;have e3:=B.out.trans (f2.mono B.out.size);have d5:Bx w6 xb 25 (.slice ax na cx):=(f2.block _ N.out.lt).trans N.out;have k:w.heap.size<=Q:=Nat.le_trans B.out.size h4;have f0:xb≠Q:=by have:=N.out.lt;omega
 have i8:=qh (y6b w6 g7 L.out.n1 (by have:=L.out.n2;omega) L.out.s0 L.out.s1);clear N F B f2 g7 h4 m0 m1 m2 m3 j1;have g5:=qh e3;clear e3;have e2:=qh d5;clear d5
 go_wp2_with fail
 refine i8.out.mono ?_;rintro r w7 ⟨rfl,b6,h7⟩;obtain⟨c7,R⟩:=exq (w6.heap.size);rw[<- R] at b6;rw[<- R];have l6:=qh R;clear R;obtain⟨c8,b5⟩:=exq (w7.heap.size);obtain⟨w8,d0⟩:=exq (w7.alloc (.cells #[.int .i64 0] 3));have g4:Fr (fun _=>False) w7 w8:=by rw[d0];exact Fr.alloc _ _
 have G:=h7.trans g4;have b7:DI w w6 w8 Q xb c8 c7 D (.slice a D.n o) U (.slice ax na cx) 0 (dwE D.inZ st z x 0).1 (dwE D.inZ st z x 0).2 :=
  ⟨g5.out.trans (G.below g5.out.size (fun _ e=>e.elim)),Fr.gbc (G.mono (fun _ _ e=>e.elim)),a8.out.kept G (fun e=>e),e2.out.kept G (fun e=>e),by rw[d0,b5];exact heap_alloc_new w7 _,g4.row b6 (fun e=>e)⟩
 have g:=qh b7;clear b7;clear i8 h7 g4 G b6
 go_wp2_with fail
 rw[<- d0,<- b5];clear d0 b5 g5 e2
 go_loopw [7,8] (fun v7 v8 wr=>∃ (i ib rb:Nat),i<=na/\v7=.slice (some ⟨rb,0,none⟩) D.n D.n/\v8=.pointer (some ⟨ib,0,none⟩)/\DI w w6 wr Q xb ib rb D (.slice a D.n o) U (.slice ax na cx) i (dwE D.inZ st z x i).1 (dwE D.inZ st z x i).2) (fun _ v8 wr=>na+1-ixOf v8 wr)
 case atStart=>exact⟨0,c8,c7,Nat.zero_le _,rfl,rfl,g.out⟩
 obtain⟨i,ib,rb,hi,rfl,rfl,b7⟩:=hrel;clear g;have g:=qh b7;clear b7;obtain⟨v,hv⟩:∃ v,v=(dwE D.inZ st z x i).1:=⟨_,rfl⟩;obtain⟨e,he⟩:∃ e,e=(dwE D.inZ st z x i).2:=⟨_,rfl⟩;have b9:∀ q,smS (v q):=by rw[hv];exact x8k (D:=D.inZ) a3.out.lead a3.out.aw i
 rw[<- hv,<- he] at g;have h6:=qh hv;clear hv;have f4:=qh he;clear he;have HI:=qh (y1r g.out.ki.cell);have ci:=g.out.ki.cell;have i5:=g.out.kx.cell;have c2:=g.out.sc.c5;have s:StV wr U D.n st:=d9.out.later a8.out g.out.sc g.out.gs;have f3:Below w.heap.size w wr:=g.out.hb;by_cases b8:i<na/\e=0
 ·obtain⟨l3,rfl⟩:=b8;have l7:(i:Int)<(na:Int):=by omega
  have m7:∀ (fn:Fn) (first o:Array Value) (w:World),(Instr.makeFunc fn first o).run prog w=.ok (.func fn first o) w:=fun _ _ _ _=>rfl
  have k3:dwE D.inZ st z x (i+1)=z2y D (selZ (x i)) (z3w D.kind D.n st v 0).1 D.n (z1f,(z3w D.kind D.n st v 0).2):=by
   show (if (dwE D.inZ st z x i).2≠0 then dwE D.inZ st z x i else z2y D.inZ (sel3 (x i)) (z3w D.kind D.n st (dwE D.inZ st z x i).1 (dwE D.inZ st z x i).2).1 D.n (z1f,(z3w D.kind D.n st (dwE D.inZ st z x i).1 (dwE D.inZ st z x i).2).2))=_
   rw[<- f4.out,<- h6.out,if_neg (by simp),x0w]
  have k6:=qh k3;clear k3;have a1:=qh b9;clear b9;have h0:=qh (z8e wr g.out.sc L.out.n1 (by have:=L.out.n2;omega));clear s f3
  go_wp2_with fail
  refine h0.out.mono ?_;rintro r wa ⟨rfl,d2,j2,l2⟩;obtain⟨K,a9⟩:=exq (wr.heap.size);rw[<- a9] at d2;rw[<- a9];have g8:w.heap.size<=K:=by rw[a9];exact g.out.hb.size
  have l0:w6.heap.size<=K:=by rw[a9];exact g.out.gs.size
  have h9:Q≠K:=by have:=g.out.sc.lt;omega
  have k4:xb≠K:=by have:=g.out.kx.lt;omega
  have h5:ib≠K:=by have:=g.out.ki.lt;omega
  have m8:rb≠K:=by have:=g.out.rv.lt;omega
  have g1:ib≠Q:=g.out.ki.ne_scl g.out.sc;have m4:K<wa.heap.size:=d2.lt;have l:=g.out.fr j2;have W:StV wa U D.n st:=d9.out.later a8.out l.sc l.gs;have a5:=qh (y4x (v:=v) wa L.out l.sc W l.rv a1.out w l.hb k a2.out);have p:=qh l;clear l W g h0;have j4:=qh d2;clear d2 j2 l2;clear ci i5 c2 a9
  go_wp2_with fail
  refine a5.out.mono ?_;rintro r wb ⟨r1,rfl,H,m,d3,u⟩;have h8:r1≠K:=by rcases d3 with h|h;exact(by omega);omega
  have a7:r1≠Q:=z0j H (show wb.heap[Q]?=_ from m) (by decide);have e7:=u.row j4.out (fun e=>h9 e.symm);have E:=p.out.hb.trans (u.below p.out.hb.size (fun q e=>by rw[e];exact k));have b1:=p.out.kx.kept u (fun e=>f0 e);have a4:=p.out.ki.kept u (fun e=>g1 e);have e8:=p.out.gs.trans (Fr.gbc u);have k2:=qh (y0h (sel:=selZ (x i)) (P:=PDt w xb ib (.slice ax na cx) i) w wb L.out f5.out E a2.out m e7 H k g8 h9 h8 a7 (fun j=>z7b j) (fun j=>y2u a1.out j) a3.out.aw ⟨E,b1,a4⟩ (fun _ _ h hf=>h.fr hf k g8 f0 g1 k4 h5) (u6t HX.out l3));have J:=qh E;clear E;have i2:=qh b1;clear b1;have j9:=qh a4;clear a4;have j7:=qh e8;clear e8;clear H m d3 u e7 j4 p a5
  go_wp2_with fail
  refine k2.out.mono ?_;rintro r wc ⟨rfl,g9,b3,b2⟩;rw[<- k6.out] at g9 b3;have f9:=J.out.trans (b2.below J.out.size (fun q e=>by rcases e with rfl|rfl;exact k;exact g8))
  have hn:∀ q,q≠Q->q≠K->¬ (q=Q\/q=K):=fun q a b c=>c.elim a b;have e1:=i2.out.kept b2 (hn _ f0 k4);have d8:=j9.out.kept b2 (hn _ g1 h5);have e6:w6.grownBy wc (some Q):=u3f j7.out b2 (fun q e=>by rcases e with rfl|rfl;exact .inl rfl;exact .inr l0)
  have ci:=d8.cell;obtain⟨X,b4⟩:=exq (wc.heap.size);obtain⟨wz,d4⟩:=exq (wc.alloc (.cells #[.int .i64 ((i:Int)+1)] 3));have T:Fr (fun _=>False) wc wz:=by rw[d4];exact Fr.alloc wc _
  have j5:Bx wz X 3 (.int .i64 ((i+1:Nat):Int)):=by rw[d4,b4];exact heap_alloc_new wc _
  have i3:DI w w6 wz Q xb X K D (.slice a D.n o) U (.slice ax na cx) (i+1) (dwE D.inZ st z x (i+1)).1 (dwE D.inZ st z x (i+1)).2 :=
   ⟨f9.trans (T.below f9.size (fun _ e=>e.elim)),e6.trans (Fr.gbc (T.mono (fun _ _ e=>e.elim))),b3.kept T (fun e=>e),e1.kept T (fun e=>e),j5,T.row g9 (fun e=>e)⟩
  have i6:=qh i3;clear i3 f9 e1 e6 b3 g9 T j5 b2 J i2 j9 j7 k2 d8 hn
  go_wp2_with fail
  rw[<- d4,<- b4];clear d4 b4;go_roundw
  case rel=>exact⟨i+1,X,K,by omega,rfl,rfl,i6.out⟩
  rw[y1r i6.out.ki.cell,HI.out];omega
 have h3:domE D.inZ st z na x=finC D (z3w D.kind D.n st v e).1 (z3w D.kind D.n st v e).2:=by
  have h1:dwE D.inZ st z x na=dwE D.inZ st z x i:=by
   by_cases h:i=na
   ·rw[h]
   obtain⟨d,rfl⟩:=Nat.le.dest hi;exact y3e (by rw[<- f4.out];exact fun h2=>b8 ⟨by omega,h2⟩) d
  unfold domE;rw[h1,<- h6.out,<- f4.out];exact v4c D _ _
 have l1:=qh h3;clear h3;have a1:=qh b9;clear b9;have a5:=qh (y4x (v:=v) wr L.out g.out.sc s g.out.rv a1.out w f3 k a2.out);clear s f3;have j6:(¬ ((i:Int)<(na:Int)))\/((i:Int)<(na:Int)/\¬ ((e:Int)=0)):=by
  by_cases h:i<na
  ·exact .inr ⟨by omega,fun h2=>b8 ⟨h,by omega⟩⟩
  exact .inl (by omega)
 clear b8;have l4:=qh j6;have j3:∀ (wq:World) (Rq:Nat->ByteArray) (eq rq:Nat),True:=fun _ _ _ _=>trivial;clear j3
 rcases j6 with m5|⟨hl,m9⟩
 all_goals
  clear l4
  go_wp2_with fail
  refine a5.out.mono ?_;rintro r wb ⟨r1,rfl,H,m,d3,u⟩;have a7:r1≠Q:=z0j H (show wb.heap[Q]?=_ from m) (by decide);have E:=g.out.hb.trans (u.below g.out.hb.size (fun q e=>by rw[e];exact k));have k1:=qh (z9a w wb L.out f5.out E a2.out m H k a7 (fun j=>y2u a1.out j) a3.out.fin);have J:=qh E;clear E H m d3 u a5 g ci i5 c2
  go_wp2_with fail
  refine k1.out.mono ?_;rintro r wd ⟨rfl,i4⟩;have k7:=qh (J.out.trans (i4.below J.out.size (fun q e=>by rw[e];exact k)));clear i4 k1 J;go_wp2;go_ret2;exact⟨k7.out,.inl ⟨L.out,k9.out,st,z,j8.out,by rw[l1.out];rfl⟩⟩
end
section
open Go.RowKit Go.Deep
theorem x5m {D:MD}:AccD D↔∀ i,i<D.n->anyA D i (fun a b=>!selE a b)=false:=by
 constructor
 ·intro h i hi;refine v1k fun d g=>?_;have:=h i d hi g;simp[selE,this]
 intro h q d k g;have l:=h q k;cases c:selE (D.ain q d) (D.aout q d)
 ·have j:anyA D q (fun a b=>!selE a b)=true:=y7k.2 ⟨d,g,by simp[c]⟩;rw[l] at j;cases j
 unfold selE at c;simp at c;exact c.symm
def TstM (Q:Prop) (w:World) (r:Ending) (w':World):Prop:=Below w.heap.size w w'/\((Q/\r=.returned (.bool true))\/(¬ Q/\r=.returned (.bool false)))
theorem u2s {D:MD} {mv:Value} (w:World) (hM:Ma none w mv D) (S:MSz D) (ht:Tab w):Calls prog 106 #[mv,.func (.func 107) #[] #[]] w (TstM (VM D/\AccD D) w):=by
 obtain⟨sv,rfl,hS⟩:=hM;obtain⟨a,cp,b,a8,A,C,BB,O,b9,ha,hc,hm,hb,H⟩:=hS.open;subst b9;unfold maxLen at hm;obtain⟨K,m⟩:=exq (w.alloc (.cells #[.int .i64 D.kind,.int .i64 D.start,.string D.lead,.slice a D.n cp] 24));obtain⟨B,u⟩:=exq (K.alloc (.cells #[.func (.func 107) #[] #[]] 100));have b0:K.heap.size=w.heap.size+1:=by rw[m];simp
 have b6:Fr (fun _=>False) w K:=by rw[m];exact Fr.alloc _ _
 have Y:Fr (fun _=>False) K B:=by rw[u];exact Fr.alloc _ _
 have Q:K.heap[w.heap.size]?=some (.cells #[.int .i64 D.kind,.int .i64 D.start,.string D.lead,.slice a D.n cp] 24 (0,0)):=by rw[m];exact heap_alloc_new w _
 have d:B.heap[w.heap.size]?=some (.cells #[.int .i64 D.kind,.int .i64 D.start,.string D.lead,.slice a D.n cp] 24 (0,0)):=(Y.block _ (lt_of_block Q) (fun e=>e)).trans Q;have s:PAl (w.heap.size+1) 107 B:=by show B.heap[w.heap.size+1]?=_;rw[<- b0,u];exact heap_alloc_new K _
 have F:Below w.heap.size w B:=(b6.trans Y).below nlr (fun _ e=>e.elim);obtain⟨mb,a3⟩:=exq (w.heap.size);obtain⟨tb,U⟩:=exq (w.heap.size+1);obtain⟨⟨m0,m1,m2,m3⟩,_⟩:=cells4 d;have b3:=qh (z1v B (⟨_,rfl,hS.kept (z0b F none)⟩:Ma none B (.agg #[.int .i64 D.kind,.int .i64 D.start,.string D.lead,.slice a D.n cp]) D) S (ht.below F nlr));rw[<- a3] at d;rw[<- U] at s;have c9:mb<B.heap.size:=lt_of_block d;have P:=qh F;clear F;have a1:=qh d;clear d Q b6 Y b0;have l:=qh s;clear s;have d4:=qh hS;clear hS;have HT:=qh ht;clear ht;have d6:=qh S;clear S;have HA:=qh ha;clear ha;have HB:=qh hb;clear hb;have HR:=qh H;clear H;rw[u,m] at m0 m1 m2 m3
 go_enter func106,ntmps106
 go_wp2_with fail
 rw[<- m,<- u,<- U,<- a3];clear m0 m1 m2 m3 m u a3 U;refine b3.out.mono ?_;rintro r w3 ⟨G,hr⟩;have J:=P.out.trans (G.mono P.out.size);have d:=(G.block _ (lt_of_block a1.out)).trans a1.out;have s:PAl tb 107 w3:=(G.block _ (lt_of_block l.out)).trans l.out;obtain⟨⟨m0,m1,m2,m3⟩,_⟩:=cells4 d;clear G a1 l b3 P c9;have Z:=qh J;clear J;have l:=qh s;clear s d
 rcases hr with ⟨hv,rfl⟩|⟨hv,rfl⟩
 rotate_left
 ·have HV:=qh hv;clear hv;go_wp2;go_ret;exact⟨Z.out,.inr ⟨fun h=>HV.out h.1,rfl⟩⟩
 have c8:=hv.n1;have c7:=hv.n2;have HV:=qh hv;clear hv;obtain rfl:=HA.out (by omega);obtain⟨n,hn⟩:=exq (D.n);rw[<- hn] at c8 c7 m3 hc;have HN:=qh hn;rw[<- hn];clear hn
 go_wp2_with fail
 clear m0 m1 m2 m3
 go_loopw [13] (fun a5 wr=>∃ i:Nat,i<=n/\a5=.int .i64 (i:Int)/\Below w.heap.size w wr/\PAl tb 107 wr/\∀ j,j<i->anyA D j (fun a b=>!selE a b)=false) (fun a5 _=>n-(intOf a5).toNat)
 case atStart=>exact⟨0,Nat.zero_le _,rfl,Z.out,l.out,fun j hj=>by omega⟩
 obtain⟨i,hi,rfl,b7,b4,b2⟩:=hrel;clear Z l;have a7:=qh b2;clear b2;have o:=qh b7;clear b7;have R:=qh b4;clear b4;by_cases d7:i<n
 ·have d5:(i:Int)<(n:Int):=by omega
  have d1:(0:Int)<=(i:Int):=by omega
  have b8:i<D.n:=by have:=HN.out;omega
  have b1:=(HB.out (by have:=HN.out;omega)).1;obtain⟨k1,k2,k3,k4,k5,k6,k7⟩:=HR.out i b8;have t0:=(o.out.cell (p:=⟨b,a8+i*2,none⟩) b1).trans k1;have t1:=(o.out.cell (p:=⟨b,a8+i*2+1,none⟩) b1).trans k2;clear k1 k2;have a9:D.na i<=30000:=by have h1:=Nat.le_trans (z1w D (show i+1<=D.n by omega)) HV.out.arcs;have h2:z0f D (i+1)=z0f D i+D.na i:=rfl;omega
  obtain⟨w4,a2⟩:=exq (wr.alloc (.cells #[.string (D.fin i),.slice (A i) (D.na i) (C i)] 57));have a4:Below wr.heap.size wr w4:=by rw[a2];exact(Below.refl _ wr).alloc nlr _
  have c:=o.out.trans (a4.mono o.out.size);have g:PAl tb 107 w4:=(a4.block _ (lt_of_block R.out)).trans R.out;have I:ArS none w4 (.slice (A i) (D.na i) (C i)) D i:=by
   by_cases h0:D.na i=0
   ·exact .inl ⟨h0,A i,C i,by rw[h0],k4⟩
   refine .inr ⟨BB i,O i,C i,by rw[k5 (by omega)],⟨Nat.lt_of_lt_of_le (k6 (by omega)).1 c.size,by simp⟩,k3,k4,fun k hk=>?_⟩;obtain⟨uu0,uu1,uu2,uu3⟩:=k7 k hk;have E:=(k6 (by omega)).1;exact⟨(c.cell (p:=⟨BB i,O i+k*4,none⟩) E).trans uu0,(c.cell (p:=⟨BB i,O i+k*4+1,none⟩) E).trans uu1,(c.cell (p:=⟨BB i,O i+k*4+2,none⟩) E).trans uu2,(c.cell (p:=⟨BB i,O i+k*4+3,none⟩) E).trans uu3⟩
  have d3:∀ (fn:Fn) (first cap:Array Value) (w:World),(Instr.makeFunc fn first cap).run prog w=.ok (.func fn first cap) w:=fun _ _ _ _=>rfl
  have HC:=qh (y7y w4 I a9 (u6j tb u6u) (fun wb hb=>(hb.block _ (lt_of_block g)).trans g));have T:=qh c;clear c a4 I k3 k4 k5 k6 k7;have z:=qh g;clear g R o
  go_wp2_with fail
  rw[<- a2];clear t0 t1 a2;refine HC.out.mono ?_;rintro r w5 ⟨rfl,W⟩;have N:=T.out.trans (W.mono T.out.size);have L:PAl tb 107 w5:=(W.block _ (lt_of_block z.out)).trans z.out;have a6:=qh N;clear N W T HC;have b5:=qh L;clear L z;cases hp:anyA D i (fun a b=>!selE a b)
  ·have X:=qh hp;clear hp;go_wp2;go_roundw
   case rel=>exact⟨i+1,by omega,by go_num,a6.out,b5.out,fun j hj=>by
    by_cases e:j=i
    ·subst e;exact X.out
    exact a7.out j (by omega)⟩
   simp[intOf];omega
  have X:=qh hp;clear hp;go_wp2;go_ret;exact⟨a6.out,.inr ⟨fun h=>absurd (x5m.1 h.2 i (by have:=HN.out;omega)) (by rw[X.out];simp),rfl⟩⟩
 have d0:n=i:=by omega
 subst d0;have d2:¬ ((n:Int)<(n:Int)):=by omega
 go_wp2;go_ret;exact⟨o.out,.inl ⟨⟨HV.out,x5m.2 (fun i hi=>a7.out i (by rw[HN.out];exact hi))⟩,rfl⟩⟩
theorem y9b {D:MD} {mv:Value} (w:World) (H:Ma none w mv D) (o:MSz D) (F:Tab w):Calls prog 62 #[mv] w (TstM (VM D/\AccD D) w):=by
 obtain⟨sv,rfl,z⟩:=H;obtain⟨a,u,b,G,A,C,BB,O,p,_⟩:=z.open;subst p;obtain⟨h,c⟩:=exq (w.alloc (.cells #[.int .i64 D.kind,.int .i64 D.start,.string D.lead,.slice a D.n u] 24));have d:Below w.heap.size w h:=by rw[c];exact(Below.refl _ w).alloc nlr _
 have j:h.heap[w.heap.size]?=some (.cells #[.int .i64 D.kind,.int .i64 D.start,.string D.lead,.slice a D.n u] 24 (0,0)):=by rw[c];exact heap_alloc_new w _
 obtain⟨⟨m0,m1,E,B⟩,_⟩:=cells4 j;have l:=qh (u2s h (⟨_,rfl,z.kept (z0b d none)⟩:Ma none h (.agg #[.int .i64 D.kind,.int .i64 D.start,.string D.lead,.slice a D.n u]) D) o (F.below d nlr));have g:=qh d;clear d j o F z;rw[c] at m0 m1 E B
 go_enter func62,ntmps62
 go_wp2_with fail
 rw[<- c];clear m0 m1 E B c;refine l.out.mono ?_;rintro r J ⟨m,I⟩;have i:=qh (g.out.trans (m.mono g.out.size));clear m g l
 rcases I with ⟨k,rfl⟩|⟨k,rfl⟩
 ·have s:=qh k;clear k;go_wp2;go_ret;exact⟨i.out,.inl ⟨s.out,rfl⟩⟩
 have s:=qh k;clear k;go_wp2;go_ret;exact⟨i.out,.inr ⟨s.out,rfl⟩⟩
def AccE (D:MD) (na:Nat) (x:Nat->Int) (w:World) (r:Ending) (w':World):Prop :=
 Below w.heap.size w w'/\∃ z:ByteArray × Nat,r=.returned (.tuple #[.string z.1,.int .i64 (z.2:Int)])/\((VM D/\isWord na x=true/\AccD D/\Dv D na x z)\/(VM D/\isWord na x=true/\¬ AccD D/\z=(⟨#[]⟩,6))\/(¬ (VM D/\isWord na x=true)/\z=(⟨#[]⟩,1)))
def DomE (D:MD) (na:Nat) (x:Nat->Int) (w:World) (r:Ending) (w':World):Prop :=
 Below w.heap.size w w'/\∃ z:ByteArray × Nat,r=.returned (.tuple #[.string z.1,.int .i64 (z.2:Int)])/\((VM D/\isWord na x=true/\Dv D na x z)\/(¬ (VM D/\isWord na x=true)/\z=(⟨#[]⟩,1)))
theorem DomX.v {D:MD} {na:Nat} {x:Nat->Int} {w:World} {r:Ending} {o:World} (h:DomX D na x w r o):DomE D na x w r o:=by
 refine⟨h.1,?_⟩
 rcases h.2 with ⟨i,s,st,u,z,c⟩|⟨A,c⟩
 ·refine⟨_,c,.inl ⟨i,s,fun g k m=>?_⟩⟩;by_cases j:u=0
  ·subst j;exact(u1u i.inZ m (z.stZ (fun _ _=>rfl) m) (isWord.ne s) g).2
  have B:=y0e g;have p:=y4c B;by_cases d:(dwE D.inZ st u x 0).2=0
  ·exact absurd d j
  have l:=y3e (D:=D.inZ) (st:=st) (x:=x) d na;rw[Nat.zero_add] at l;rw[l] at p;exact absurd p d
 exact⟨(⟨#[]⟩,1),c,.inr ⟨A,rfl⟩⟩
theorem x3i {D:MD} {mv g:Value} {na:Nat} {x:Nat->Int} (w:World) (i:Ma none w mv D) (c:MSz D) (j:Tab w) (k:Si none w g na x) (d:(na:Int)<=9223372036854775807) :
  Calls prog 95 #[mv,g] w (DomE D na x w):=(x7f w i c j k d).mono fun _ _ h=>h.v
theorem y4n {D:MD} {mv xv:Value} {na:Nat} {x:Nat->Int} (w:World) (hM:Ma none w mv D) (o:MSz D) (ht:Tab w) (hx:Si none w xv na x) (Y:(na:Int)<=9223372036854775807) :
  Calls prog 42 #[mv,xv] w (AccE D na x w):=by
 obtain⟨sv,rfl,hS⟩:=hM;obtain⟨a,cp,b,a2,A,C,BB,O,a1,_⟩:=hS.open;subst a1;obtain⟨ax,cx,rfl⟩:=hx.shape;obtain⟨I,g⟩:=exq (w.alloc (.cells #[.int .i64 D.kind,.int .i64 D.start,.string D.lead,.slice a D.n cp] 24));have i:Below w.heap.size w I:=by rw[g];exact(Below.refl _ w).alloc nlr _
 obtain⟨mb,j⟩:=exq (w.heap.size);have l:I.heap[mb]?=some (.cells #[.int .i64 D.kind,.int .i64 D.start,.string D.lead,.slice a D.n cp] 24 (0,0)):=by rw[g,j];exact heap_alloc_new w _
 obtain⟨⟨m0,m1,H,G⟩,_⟩:=cells4 l;have p:∀ W,Below w.heap.size w W->Ma none W (.agg #[.int .i64 D.kind,.int .i64 D.start,.string D.lead,.slice a D.n cp]) D:=fun W h=>⟨_,rfl,hS.kept (z0b h none)⟩;have S:=qh (z1v I (p I i) o (ht.below i nlr));have R:=qh p;clear p hS;have s:=qh i;clear i;have m:=qh l;clear l;have U:=qh o;clear o;have HT:=qh ht;clear ht;have HX:=qh hx;clear hx;rw[g,j] at m0 m1 H G
 go_enter func42,ntmps42
 go_wp2_with fail
 rw[<- g,<- j];clear m0 m1 H G g j;refine S.out.mono ?_;rintro r w2 ⟨B,hr⟩;have k:=(B.block _ (lt_of_block m.out)).trans m.out;have c:=qh (s.out.trans (B.mono s.out.size));clear B S s m;obtain⟨⟨m0,m1,H,G⟩,_⟩:=cells4 k;have u:=qh k;clear k
 rcases hr with ⟨T,rfl⟩|⟨T,rfl⟩
 rotate_left
 ·have L:=qh T;clear T;go_wp2;go_ret2;exact⟨c.out,(⟨#[]⟩,1),rfl,.inr (.inr ⟨fun h=>L.out h.1,rfl⟩)⟩
 have L:=qh T;clear T;have HW:=qh (y2q w2 (HX.out.kept (z0b c.out none)) Y)
 go_wp2_with fail
 refine HW.out.mono ?_;rintro r w3 ⟨rfl,rfl⟩;cases E:isWord na x
 ·go_wp2;go_ret2;exact⟨c.out,(⟨#[]⟩,1),rfl,.inr (.inr ⟨fun h=>absurd h.2 (by rw[E];simp),rfl⟩)⟩
 have N:=qh E;clear E HW;have Q:=qh (y9b w3 (R.out w3 c.out) U.out (HT.out.below c.out nlr))
 go_wp2_with fail
 refine Q.out.mono ?_;rintro r w4 ⟨F,hr⟩;have J:=(F.block _ (lt_of_block u.out)).trans u.out;clear m0 m1 H G;have d:=qh (c.out.trans (F.mono c.out.size));clear F Q c u;obtain⟨⟨m0,m1,H,G⟩,_⟩:=cells4 J;clear J
 rcases hr with ⟨X,rfl⟩|⟨X,rfl⟩
 rotate_left
 ·have HQ:=qh X;clear X;go_wp2;go_ret2;exact⟨d.out,(⟨#[]⟩,6),rfl,.inr (.inl ⟨L.out,N.out,fun h=>HQ.out ⟨L.out,h⟩,rfl⟩)⟩
 have HQ:=qh X;clear X;have K:=qh (x3i w4 (R.out w4 d.out) U.out (HT.out.below d.out nlr) (HX.out.kept (z0b d.out none)) Y)
 go_wp2_with fail
 clear m0 m1 H G;refine K.out.mono ?_;rintro r w5 ⟨P,z,rfl,hz⟩;have Z:=qh (d.out.trans (P.mono d.out.size));clear P d K;have HZ:=qh hz;clear hz;go_wp2;go_ret2;refine⟨Z.out,z,rfl,?_⟩
 rcases HZ.out with ⟨h1,h2,h3⟩|⟨h1,_⟩
 ·exact .inl ⟨h1,h2,HQ.out.2,h3⟩
 exact absurd ⟨L.out,N.out⟩ h1
end
section
open Go.RowKit Go.Deep
def MD.outZ (D:MD):MD:={ D with ain:=fun _ _=>0 }
theorem v6u (D:MD):D.sym (fun _ o=>(0,o))=D.outZ:=rfl
theorem u2r:∀ args w,(callFunc 63 args).run prog w=.ok (.enter 63 args) w:=fun args w=>by kernel_rfl
theorem u0a:∀ args w,(callFunc 64 args).run prog w=.ok (.enter 64 args) w:=fun args w=>by kernel_rfl
theorem u4c (w:World) (i o:Int):Calls prog 63 #[.int .i64 i,.int .i64 o] w (fun r w'=>r=.returned (.tuple #[.int .i64 i,.int .i64 0])/\w'=w):=by
 go_enter func63,ntmps63
 go_wp2;go_ret2;exact⟨rfl,rfl⟩
theorem u4b (w:World) (i o:Int):Calls prog 64 #[.int .i64 i,.int .i64 o] w (fun r w'=>r=.returned (.tuple #[.int .i64 0,.int .i64 o])/\w'=w):=by
 go_enter func64,ntmps64
 go_wp2;go_ret2;exact⟨rfl,rfl⟩
theorem VM.outZ {D:MD} (h:VM D):VM D.outZ:=h.sym (φ:=fun _ o=>(0,o)) (fun i o _ _ d c=>⟨by show (0:Int)<=0;omega,by show (0:Int)<=500;omega,d,c⟩)
def accQ (D E:MD):Prop:=AccD D/\AccD E/\D.kind=E.kind
def CrsE (D E:MD) (w:World) (r:Ending) (w':World):Prop :=
 Below w.heap.size w w'/\((VM D/\VM E/\accQ D E /\
  ((
   dnOk (tmF (z0g D.kind D.lead E.lead) 0) (E.n+D.n) (catA D.inZ E.outZ)/\∃ sv R,r=.returned (.tuple #[.agg #[.int .i64 D.kind,.int .i64 ((E.n:Int)+D.start),.string (z0g D.kind D.lead E.lead).1,sv],.int .i64 0])/\OwM w' w.heap.size sv (catD D.inZ E.outZ (z0g D.kind D.lead E.lead).1) R) \/
   (¬ dnOk (tmF (z0g D.kind D.lead E.lead) 0) (E.n+D.n) (catA D.inZ E.outZ)/\r=.returned (.tuple #[z6z,.int .i64 2])))) \/
  (VM D/\VM E/\¬ accQ D E/\r=.returned (.tuple #[z6z,.int .i64 6]))\/(¬ (VM D/\VM E)/\r=.returned (.tuple #[z6z,.int .i64 1])))
theorem OwM.ma {w c:World} {B:Nat} {sv:Value} {D:MD} {R:Nat->Value} (h:OwM w B sv D R) (hb:Below w.heap.size w c):Ma none c (.agg #[.int .i64 D.kind,.int .i64 D.start,.string D.lead,sv]) D:=⟨sv,rfl,h.sts.kept (z0b hb none)⟩
theorem x0f {D E:MD} {mv nv:Value} (w:World) (hM:Ma none w mv D) (hN:Ma none w nv E) (g6:MSz D) (i4:MSz E) (ht:Tab w) (e1:E.n+D.n<=1000) (e0:z0f D D.n+z0f E E.n<=1000):Calls prog 29 #[mv,nv] w (CrsE D E w):=by
 obtain⟨sv,rfl,hS⟩:=hM;obtain⟨sw,rfl,g3⟩:=hN;obtain⟨a,cp,_,_,_,_,_,_,e5,_⟩:=hS.open;obtain⟨a2,d1,_,_,_,_,_,_,j7,_⟩:=g3.open;subst e5;subst j7;have e6:∀ W,Below w.heap.size w W->Ma none W (.agg #[.int .i64 D.kind,.int .i64 D.start,.string D.lead,.slice a D.n cp]) D:=fun W h=>⟨_,rfl,hS.kept (z0b h none)⟩;have d8:∀ W,Below w.heap.size w W->Ma none W (.agg #[.int .i64 E.kind,.int .i64 E.start,.string E.lead,.slice a2 E.n d1]) E:=fun W h=>⟨_,rfl,g3.kept (z0b h none)⟩;have g1:∀ W,Below w.heap.size w W->Tab W:=fun W h=>ht.below h nlr;obtain⟨w1,U⟩:=exq (w.alloc (.cells #[.int .i64 D.kind,.int .i64 D.start,.string D.lead,.slice a D.n cp] 24));obtain⟨w2,Y⟩:=exq (w1.alloc (.cells #[.int .i64 E.kind,.int .i64 E.start,.string E.lead,.slice a2 E.n d1] 24));obtain⟨w3,b0⟩:=exq (w2.alloc (.cells #[.int .i64 0,.int .i64 0,.string ⟨#[]⟩,.slice none 0 0] 24));have e7:w1.heap.size=w.heap.size+1:=by rw[U];simp
 have j5:w2.heap.size=w.heap.size+1+1:=by rw[Y];simp[e7]
 have i5:Fr (fun _=>False) w w1:=by rw[U];exact Fr.alloc _ _
 have g5:Fr (fun _=>False) w1 w2:=by rw[Y];exact Fr.alloc _ _
 have c8:Fr (fun _=>False) w2 w3:=by rw[b0];exact Fr.alloc _ _
 have f9:w1.heap[w.heap.size]?=some (.cells #[.int .i64 D.kind,.int .i64 D.start,.string D.lead,.slice a D.n cp] 24 (0,0)):=by rw[U];exact heap_alloc_new w _
 have m:w3.heap[w.heap.size]?=some (.cells #[.int .i64 D.kind,.int .i64 D.start,.string D.lead,.slice a D.n cp] 24 (0,0)):=(c8.block _ (by omega) (fun e=>e)).trans ((g5.block _ (lt_of_block f9) (fun e=>e)).trans f9);have e4:w2.heap[w.heap.size+1]?=some (.cells #[.int .i64 E.kind,.int .i64 E.start,.string E.lead,.slice a2 E.n d1] 24 (0,0)):=by rw[<- e7,Y];exact heap_alloc_new w1 _
 have j:w3.heap[w.heap.size+1]?=some (.cells #[.int .i64 E.kind,.int .i64 E.start,.string E.lead,.slice a2 E.n d1] 24 (0,0)):=(c8.block _ (by omega) (fun e=>e)).trans e4;have d:w3.heap[w.heap.size+1+1]?=some (.cells #[.int .i64 0,.int .i64 0,.string ⟨#[]⟩,.slice none 0 0] 24 (0,0)):=by rw[<- j5,b0];exact heap_alloc_new w2 _
 have d3:Below w.heap.size w w3:=((i5.trans g5).trans c8).below nlr (fun _ e=>e.elim);obtain⟨mb,c9⟩:=exq (w.heap.size);obtain⟨nb,f7⟩:=exq (w.heap.size+1);obtain⟨B,f5⟩:=exq (w.heap.size+1+1);have L:w.heap.size<=B:=by omega
 rw[<- c9] at m;rw[<- f7] at j;rw[<- f5] at d;obtain⟨⟨m0,m1,m2,m3⟩,_⟩:=cells4 m;have j3:=qh (z1v w3 (e6 w3 d3) g6 (g1 w3 d3));have h9:=qh e6;clear e6 hS;have e8:=qh d8;clear d8 g3;have X:=qh g1;clear g1 ht;have g7:=qh d3;clear d3;have k:=qh m;clear m f9 i5 g5 c8 e7 j5 e4;have g:=qh j;clear j;have c:=qh d;clear d;have g8:=qh g6;clear g6;have d0:=qh i4;clear i4;have g9:=qh e1;clear e1;have h3:=qh e0;clear e0;rw[c9,b0,Y,U] at m0 m1 m2 m3
 go_enter func29,ntmps29
 go_wp2_with fail
 rw[<- U,<- Y,<- b0,<- f5,<- f7,<- c9];clear m0 m1 m2 m3 U Y b0 c9 f7 f5;refine j3.out.mono ?_;rintro r w4 ⟨b3,F⟩;have m:=(b3.block _ (lt_of_block k.out)).trans k.out;have j:=(b3.block _ (lt_of_block g.out)).trans g.out;have d:=(b3.block _ (lt_of_block c.out)).trans c.out;have Z:=qh (g7.out.trans (b3.mono g7.out.size));clear b3 k g c j3 g7;have k:=qh m;clear m;have g:=qh j;clear j;have c:=qh d;clear d
 rcases F with ⟨hv,rfl⟩|⟨hv,rfl⟩
 rotate_left
 ·have HV:=qh hv;clear hv;obtain⟨⟨r0,r1,r2,r3⟩,l⟩:=cells4 c.out;have f0:=l 0;have f1:=l 1;have f2:=l 2;have f3:=l 3;clear l
  go_wp2_with fail
  exact bodyPost_ret (z0k rfl _ (b:=B) rfl rfl (z0w w4 B _ _ _ _ c.out)) rfl ⟨z0d Z.out L _ _ _ _,.inr (.inr ⟨fun h=>HV.out h.1,rfl⟩)⟩
 have HV:=qh hv;clear hv;obtain⟨⟨n0,n1,n2,n3⟩,_⟩:=cells4 g.out;have h0:=qh (z1v w4 (e8.out w4 Z.out) d0.out (X.out w4 Z.out))
 go_wp2_with fail
 clear n0 n1 n2 n3;refine h0.out.mono ?_;rintro r w5 ⟨b6,F⟩;have m:=(b6.block _ (lt_of_block k.out)).trans k.out;have j:=(b6.block _ (lt_of_block g.out)).trans g.out;have d:=(b6.block _ (lt_of_block c.out)).trans c.out;have T:=qh (Z.out.trans (b6.mono Z.out.size));clear b6 k g c h0 Z;have k:=qh m;clear m;have g:=qh j;clear j;have c:=qh d;clear d
 rcases F with ⟨hv,rfl⟩|⟨hv,rfl⟩
 rotate_left
 ·have p:=qh hv;clear hv;obtain⟨⟨r0,r1,r2,r3⟩,l⟩:=cells4 c.out;have f0:=l 0;have f1:=l 1;have f2:=l 2;have f3:=l 3;clear l
  go_wp2_with fail
  exact bodyPost_ret (z0k rfl _ (b:=B) rfl rfl (z0w w5 B _ _ _ _ c.out)) rfl ⟨z0d T.out L _ _ _ _,.inr (.inr ⟨fun h=>p.out h.2,rfl⟩)⟩
 have p:=qh hv;clear hv;obtain⟨⟨m0,m1,m2,m3⟩,_⟩:=cells4 k.out;have h7:=qh (y9b w5 (h9.out w5 T.out) g8.out (X.out w5 T.out))
 go_wp2_with fail
 clear m0 m1 m2 m3;refine h7.out.mono ?_;rintro r w6 ⟨a8,F⟩;have m:=(a8.block _ (lt_of_block k.out)).trans k.out;have j:=(a8.block _ (lt_of_block g.out)).trans g.out;have d:=(a8.block _ (lt_of_block c.out)).trans c.out;have a3:=qh (T.out.trans (a8.mono T.out.size));clear a8 k g c h7 T;have k:=qh m;clear m;have g:=qh j;clear j;have c:=qh d;clear d
 rcases F with ⟨hq,rfl⟩|⟨hq,rfl⟩
 rotate_left
 ·have a4:=qh (show ¬ accQ D E from fun h=>hq ⟨HV.out,h.1⟩);clear hq;obtain⟨⟨r0,r1,r2,r3⟩,l⟩:=cells4 c.out;have f0:=l 0;have f1:=l 1;have f2:=l 2;have f3:=l 3;clear l
  go_wp2_with fail
  exact bodyPost_ret (z0k rfl _ (b:=B) rfl rfl (z0w w6 B _ _ _ _ c.out)) rfl ⟨z0d a3.out L _ _ _ _,.inr (.inl ⟨HV.out,p.out,a4.out,rfl⟩)⟩
 have k0:=qh hq;clear hq;obtain⟨⟨n0,n1,n2,n3⟩,_⟩:=cells4 g.out;have h8:=qh (y9b w6 (e8.out w6 a3.out) d0.out (X.out w6 a3.out))
 go_wp2_with fail
 clear n0 n1 n2 n3;refine h8.out.mono ?_;rintro r w7 ⟨b8,F⟩;have m:=(b8.block _ (lt_of_block k.out)).trans k.out;have j:=(b8.block _ (lt_of_block g.out)).trans g.out;have d:=(b8.block _ (lt_of_block c.out)).trans c.out;have G:=qh (a3.out.trans (b8.mono a3.out.size));clear b8 k g c h8 a3;have k:=qh m;clear m;have g:=qh j;clear j;have c:=qh d;clear d
 rcases F with ⟨hq,rfl⟩|⟨hq,rfl⟩
 rotate_left
 ·have a4:=qh (show ¬ accQ D E from fun h=>hq ⟨p.out,h.2.1⟩);clear hq;obtain⟨⟨r0,r1,r2,r3⟩,l⟩:=cells4 c.out;have f0:=l 0;have f1:=l 1;have f2:=l 2;have f3:=l 3;clear l
  go_wp2_with fail
  exact bodyPost_ret (z0k rfl _ (b:=B) rfl rfl (z0w w7 B _ _ _ _ c.out)) rfl ⟨z0d G.out L _ _ _ _,.inr (.inl ⟨HV.out,p.out,a4.out,rfl⟩)⟩
 have j6:=qh hq;clear hq;by_cases d2:D.kind=E.kind
 rotate_left
 ·have a4:=qh (show ¬ accQ D E from fun h=>d2 h.2.2);obtain⟨⟨r0,r1,r2,r3⟩,l⟩:=cells4 c.out;have f0:=l 0;have f1:=l 1;have f2:=l 2;have f3:=l 3;clear l;have m0:=(cells4 k.out).1.1;have n0:=(cells4 g.out).1.1
  go_wp2_with fail
  exact bodyPost_ret (z0k rfl _ (b:=B) rfl rfl (z0w w7 B _ _ _ _ c.out)) rfl ⟨z0d G.out L _ _ _ _,.inr (.inl ⟨HV.out,p.out,a4.out,rfl⟩)⟩
 have HQ:=qh (show accQ D E from ⟨k0.out.2,j6.out.2,d2⟩);have i6:=qh d2;clear d2;obtain⟨⟨m0,m1,m2,m3⟩,_⟩:=cells4 k.out;have n0:=(cells4 g.out).1.1;rw[<- i6.out] at n0;have e9:=z6q (φ:=fun i _=>(i,0)) w7 (h9.out w7 G.out) g8.out (X.out w7 G.out) (y3z u2r (fun w i o=>u4c w i o)) trivial (fun _ _=>trivial);rw[u0y] at e9;have h6:=qh e9;clear e9
 go_wp2_with fail
 clear m0 m1 m2 m3 n0;refine h6.out.mono ?_;rintro r w8 ⟨d4,F⟩;have j:=(d4.block _ (lt_of_block g.out)).trans g.out;have d:=(d4.block _ (lt_of_block c.out)).trans c.out;have f4:=qh (G.out.trans (d4.mono G.out.size));have k3:w.heap.size<=w7.heap.size:=G.out.size;clear d4 k g c h6 G;have g:=qh j;clear j;have c:=qh d;clear d
 rcases F with ⟨_,k4,R1,rfl,J⟩|⟨b1,_⟩
 rotate_left
 ·exact absurd HV.out b1
 obtain⟨j4,i9,h4,_,_⟩:=z1h J.top;subst h4;obtain⟨ib,g0⟩:=exq (w8.heap.size);obtain⟨w9,b4⟩:=exq (w8.alloc (.cells #[.int .i64 D.inZ.kind,.int .i64 D.inZ.start,.string D.inZ.lead,.slice j4 D.inZ.n i9] 24));have b9:Below w8.heap.size w8 w9:=by rw[b4];exact(Below.refl _ w8).alloc nlr _
 have A:w9.heap[ib]?=some (.cells #[.int .i64 D.inZ.kind,.int .i64 D.inZ.start,.string D.inZ.lead,.slice j4 D.inZ.n i9] 24 (0,0)):=by rw[b4,g0];exact heap_alloc_new w8 _
 have j:=(b9.block _ (lt_of_block g.out)).trans g.out;have d:=(b9.block _ (lt_of_block c.out)).trans c.out;have S:=f4.out.trans (b9.mono f4.out.size);have a5:=z6q (φ:=fun _ o=>(0,o)) w9 (e8.out w9 S) d0.out (X.out w9 S) (y3z u0a (fun w i o=>u4b w i o)) trivial (fun _ _=>trivial);rw[v6u] at a5;have d7:=fun W (h:Below w8.heap.size w8 W)=>J.ma h;obtain⟨⟨n0,n1,n2,n3⟩,_⟩:=cells4 j;rw[b4] at n0 n1 n2 n3;have e3:=qh a5;clear a5;have e2:=qh d7;clear d7 J;have g4:=qh b9;clear b9;have b2:=qh S;clear S f4;have O:=qh A;clear A;have g:=qh j;clear j;have c:=qh d;clear d
 go_wp2_with fail
 rw[<- g0,<- b4];clear n0 n1 n2 n3 g0 b4;refine e3.out.mono ?_;rintro r a1 ⟨C,F⟩;have A:=(C.block _ (lt_of_block O.out)).trans O.out;have d:=(C.block _ (lt_of_block c.out)).trans c.out;have a9:=b2.out.trans (C.mono b2.out.size);have a7:=g4.out.trans (C.mono g4.out.size);clear C g c O e3 g4;have c:=qh d;clear d;have O:=qh A;clear A;have N:=qh a9;clear a9 b2;have Q:=qh a7;clear a7
 rcases F with ⟨_,k2,R2,rfl,P⟩|⟨b1,_⟩
 rotate_left
 ·exact absurd p.out b1
 obtain⟨i8,j1,h5,_,_⟩:=z1h P.top;subst h5;obtain⟨ob,g2⟩:=exq (a1.heap.size);obtain⟨I,H⟩:=exq (a1.alloc (.cells #[.int .i64 E.outZ.kind,.int .i64 E.outZ.start,.string E.outZ.lead,.slice i8 E.outZ.n j1] 24));have s:Below a1.heap.size a1 I:=by rw[H];exact(Below.refl _ a1).alloc nlr _
 have j0:I.heap[ob]?=some (.cells #[.int .i64 E.outZ.kind,.int .i64 E.outZ.start,.string E.outZ.lead,.slice i8 E.outZ.n j1] 24 (0,0)):=by rw[H,g2];exact heap_alloc_new a1 _
 have A:=(s.block _ (lt_of_block O.out)).trans O.out;have d:=(s.block _ (lt_of_block c.out)).trans c.out;have K:=N.out.trans (s.mono N.out.size);have b7:=Q.out.trans (s.mono Q.out.size);have d5:=x6v I (e2.out I b7) (P.ma s) ({ g8.out with }:MSz D.inZ) ({ d0.out with }:MSz E.outZ) (X.out I K) g9.out (by
  have h1:z0f D.inZ D.n=z0f D D.n:=z8s D D.n;have h2:z0f E.outZ E.n=z0f E E.n:=z8k (fun _ o=>(0,o)) E E.n;have:=h3.out;show z0f D.inZ D.n+z0f E.outZ E.n<=1000;rw[h1,h2];exact this)
 obtain⟨⟨o0,o1,o2,o3⟩,_⟩:=cells4 j0;obtain⟨⟨i0,i1,i2,i3⟩,_⟩:=cells4 A;rw[H] at o0 o1 o2 o3 i0 i1 i2 i3;rw[g2] at o0 o1 o2 o3;have d6:=qh d5;clear d5;have u:=qh K;clear K N b7 Q s P e2;have c:=qh d;clear d A j0 O
 go_wp2_with fail
 rw[<- H];clear o0 o1 o2 o3 i0 i1 i2 i3 H g2;refine d6.out.mono ?_;rintro r j2 ⟨b5,F⟩;have d:=(b5.block _ (lt_of_block c.out)).trans c.out;have d9:=qh (u.out.trans (b5.mono u.out.size));have j8:w.heap.size<=I.heap.size:=u.out.size;clear b5 d6 u c;have c:=qh d;clear d;obtain⟨⟨r0,r1,r2,r3⟩,l⟩:=cells4 c.out;have f0:=l 0;have f1:=l 1;have f2:=l 2;have f3:=l 3;clear l;unfold z6z at F
 rcases F with ⟨-,-,-,F⟩|⟨_,_,j9,_⟩|⟨b1,_⟩
 rotate_left
 ·exact absurd i6.out j9
 ·exact absurd ⟨HV.out.inZ,p.out.outZ⟩ b1
 obtain⟨z,hz⟩:=exq (z0g D.kind D.lead E.lead);rw[show z0g D.inZ.kind D.inZ.lead E.outZ.lead=z from hz.symm] at F;have HZ:=qh hz;clear hz
 rcases F with ⟨c7,k1,R,rfl,a6⟩|⟨c7,rfl⟩
 ·obtain⟨sa,sc,e5,_,_⟩:=z1h a6.top;subst e5;have i7:=qh (z4j (a6.box4 c.out (.int .i64 D.inZ.kind) (.int .i64 ((E.outZ.n:Int)+D.inZ.start)) (.string z.1) (.slice sa (catD D.inZ E.outZ z.1).n sc)) j8);clear a6;have f8:=qh c7;clear c7
  go_wp2_with fail
  refine bodyPost_ret (z0k rfl _ (b:=B) rfl rfl (z0w j2 B _ _ _ _ c.out)) rfl ⟨z0d d9.out L _ _ _ _,.inl ⟨HV.out,p.out,HQ.out,.inl ⟨?_,.slice sa (catD D.inZ E.outZ z.1).n sc,R,?_,?_⟩⟩⟩
  ·rw[<- HZ.out];exact f8.out
  ·rw[<- HZ.out];rfl
  rw[<- HZ.out];exact i7.out
 have f8:=qh c7;clear c7
 go_wp2_with fail
 refine bodyPost_ret (z0k rfl _ (b:=B) rfl rfl (z0w j2 B _ _ _ _ c.out)) rfl ⟨z0d d9.out L _ _ _ _,.inl ⟨HV.out,p.out,HQ.out,.inr ⟨?_,rfl⟩⟩⟩;rw[<- HZ.out];exact f8.out
end
end Go.Proofs.YteappjogmnogcaaGreatDoor
