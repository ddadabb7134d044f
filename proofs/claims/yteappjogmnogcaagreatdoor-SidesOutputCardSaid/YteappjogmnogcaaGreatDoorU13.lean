/- Parts of a proof: SdC BlG AccW R8L SilZ SidM WgD AccX SdD. -/
import Derived.Test.YteappjogmnogcaaGreatDoorU12
import Derived.Test.YteappjogmnogcaaGreatDoorU09
import Derived.Test.YteappjogmnogcaaGreatDoorU11
namespace Go.Proofs.YteappjogmnogcaaGreatDoor
set_option maxRecDepth 100000
set_option linter.unusedSimpArgs false
set_option linter.unusedVariables false
set_option linter.unusedSectionVars false
set_option maxHeartbeats 16000000
open Go Tryz
section
open Go.RowKit Go.Deep
theorem v8y:∀ args w,(callFunc 99 args).run prog w=.ok (.enter 99 args) w:=fun args w=>by kernel_rfl
theorem v8p:∀ args w,(callFunc 100 args).run prog w=.ok (.enter 100 args) w:=fun args w=>by kernel_rfl
theorem u1m:∀ args w,(callFunc 101 args).run prog w=.ok (.enter 101 args) w:=fun args w=>by kernel_rfl
theorem u2e (w:World) (i o:Int):Calls prog 99 #[.int .i64 i,.int .i64 o] w (fun r w'=>r=.returned (.tuple #[.int .i64 o,.int .i64 i])/\w'=w):=by
 go_enter func99,ntmps99
 go_wp2;go_ret2;exact⟨rfl,rfl⟩
theorem u3h (w:World) (i o:Int):Calls prog 100 #[.int .i64 i,.int .i64 o] w (fun r w'=>r=.returned (.tuple #[.int .i64 i,.int .i64 i])/\w'=w):=by
 go_enter func100,ntmps100
 go_wp2;go_ret2;exact⟨rfl,rfl⟩
theorem u3m (w:World) (i o:Int):Calls prog 101 #[.int .i64 i,.int .i64 o] w (fun r w'=>r=.returned (.tuple #[.int .i64 o,.int .i64 o])/\w'=w):=by
 go_enter func101,ntmps101
 go_wp2;go_ret2;exact⟨rfl,rfl⟩
theorem y3u {nf:FuncId} {φ:Int->Int->Int × Int} (c:∀ args w,(callFunc nf args).run prog w=.ok (.enter nf args) w) (h:∀ w i o,Calls prog nf #[.int .i64 i,.int .i64 o] w (fun r w'=>r=.returned (.tuple #[.int .i64 (φ i o).1,.int .i64 (φ i o).2])/\w'=w)):SymF nf #[] φ (fun _=>True) :=
 ⟨c,fun w _ i o _ _ _ _=>by
  rw[show ∀ a b:Value,(#[a,b]++#[]:Array Value)=#[a,b] from fun _ _=>rfl];exact(h w i o).mono fun r w' h=>⟨h.1,by rw[h.2];exact blr⟩⟩
theorem x6h {fn:Func} {p:Tmp} (h:fn.results=#[.cell p 70]) (c:Array Value) {w:World} {b:Nat} {g i d:FuncId} (m:c.getD p undef=.pointer (some ⟨b,0,none⟩)) (hb:w.heap[b]?=some (.cells #[.func (.func g) #[] #[],.func (.func i) #[] #[],.func (.func d) #[] #[]] 70 (0,0))) :
  (results fn c).run prog w=.ok (.agg #[.func (.func g) #[] #[],.func (.func i) #[] #[],.func (.func d) #[] #[]]) w:=by
 rw[z7s h,m];show ((loadVar 70 ⟨b,0,none⟩).run prog w)=_;have l:w.rangeAt b 0 [.func (.func g) #[] #[],.func (.func i) #[] #[],.func (.func d) #[] #[]]:=by
  intro j v k;have o:j<3:=by have:=(List.getElem?_eq_some_iff.1 k).1;simpa using this
  have:j=0\/j=1\/j=2:=by omega
  rcases this with rfl|rfl|rfl<;>(simp at k;subst k;simp[World.cell?,hb])
 exact run_loadVar_mid (P:=prog) w b 0 70 [.func (.func g) #[] #[],.func (.func i) #[] #[],.func (.func d) #[] #[]] _ l underlying70 rfl (by kernel_rfl)
theorem z9g (w:World):Calls prog 47 #[] w (fun r w'=>r=.returned (.agg #[.func (.func 99) #[] #[],.func (.func 100) #[] #[],.func (.func 101) #[] #[]])/\Below w.heap.size w w'):=by
 have c:=(Below.refl w.heap.size w).alloc nlr (.cells #[.func (.func 99) #[] #[],.func (.func 100) #[] #[],.func (.func 101) #[] #[]] 70);have d:=qh c;clear c
 go_enter func47,ntmps47
 go_wp2_with fail
 refine bodyPost_ret (x6h rfl _ (b:=w.heap.size) rfl (heap_alloc_new w _)) rfl ⟨rfl,d.out⟩
theorem z4c {w:World} {B j:Nat} {sv:Value} {D:MD} {R:Nat->Value} (h:OwM w B sv D R) (o:j<=B):OwM w j sv D R :=
 have k:∀ {e:TypeId} {s n:Nat} {v:Value} {xs:List Value},w.ownsRow B e s v n xs->w.ownsRow j e s v n xs:=fun h=>⟨h.1,h.2.imp id (fun ⟨g,d,c,l,m,p⟩=>⟨g,d,c,l,Nat.le_trans o m,p⟩)⟩
 ⟨k h.top,fun i hi=>k (h.row i hi),h.apart⟩
theorem y6m {D:MD} {mv:Value} (w:World) (hM:Ma none w mv D) (b9:MSz D) (ht:Tab w):Calls prog 16 #[mv] w (MkE (VM D) D.inv 1 w):=by
 obtain⟨sv,rfl,hS⟩:=hM;obtain⟨a,N,_,_,_,_,_,_,a2,_⟩:=hS.open;subst a2;obtain⟨J,s⟩:=exq (w.alloc (.cells #[.int .i64 D.kind,.int .i64 D.start,.string D.lead,.slice a D.n N] 24));obtain⟨w2,H⟩:=exq (J.alloc (.cells #[.int .i64 0,.int .i64 0,.string ⟨#[]⟩,.slice none 0 0] 24));obtain⟨wd,G⟩:=exq (w2.drew);have b6:J.heap.size=w.heap.size+1:=by rw[s];simp
 have c8:Fr (fun _=>False) w J:=by rw[s];exact Fr.alloc _ _
 have a4:Fr (fun _=>False) J wd:=by rw[G,H];exact(Fr.alloc _ _).drew
 obtain⟨g,W⟩:=exq (w.heap.size);obtain⟨d,S⟩:=exq (w.heap.size+1);have Z:J.heap[g]?=some (.cells #[.int .i64 D.kind,.int .i64 D.start,.string D.lead,.slice a D.n N] 24 (0,0)):=by rw[s,W];exact heap_alloc_new w _
 have a3:wd.heap[g]?=some (.cells #[.int .i64 D.kind,.int .i64 D.start,.string D.lead,.slice a D.n N] 24 (0,0)):=(a4.block _ (lt_of_block Z) (fun e=>e)).trans Z;have a7:wd.heap[d]?=some (.cells #[.int .i64 0,.int .i64 0,.string ⟨#[]⟩,.slice none 0 0] 24 (0,0)):=by rw[G,S,<- b6];show w2.heap[J.heap.size]?=_;rw[H];exact heap_alloc_new J _
 have b5:Below w.heap.size w wd:=(c8.trans a4).below nlr (fun _ e=>e.elim);have b2:w.heap.size<=d:=by omega
 have j:g≠d:=by omega
 have d0:=(cells4 a3).1;have HS:=qh hS;clear hS;have d2:=qh b9;clear b9;have HT:=qh ht;clear ht;have T:=qh a7;clear a7;have A:=qh a3;clear a3 Z;have Q:=qh b5;clear b5 c8 a4 b6
 go_enter func16,ntmps16
 go_wp2_with fail
 refine z0g (fun wk=>wk.cell? ⟨g,0,none⟩=some (.int .i64 D.kind)/\wk.cell? ⟨g,1,none⟩=some (.int .i64 D.start)/\wk.cell? ⟨g,2,none⟩=some (.string D.lead)/\wk.cell? ⟨g,3,none⟩=some (.slice a D.n N)) 7 (by kernel_rfl) ?_;rw[<- s,<- H,<- G,<- S,<- W];clear s H G S W;refine z0c.tm 2 d0 ?_
 try simp only[Act.put,tryL]
 refine z0c.on 0 fun K h=>?_;go_simp;refine(z9g _).mono ?_;rintro r w3 ⟨rfl,z⟩;have X:w3.cell? ⟨g,0,none⟩=some (.int .i64 D.kind)/\w3.cell? ⟨g,1,none⟩=some (.int .i64 D.start)/\w3.cell? ⟨g,2,none⟩=some (.string D.lead)/\w3.cell? ⟨g,3,none⟩=some (.slice a D.n N):=(cells4 ((z.block _ (lt_of_block A.out)).trans A.out)).1;have b8:=(z.block _ (lt_of_block A.out)).trans A.out;have b3:=(z.block _ (lt_of_block T.out)).trans T.out;have l:=Q.out.trans (z.mono Q.out.size);have U:=z6g (φ:=fun i o=>(o,i)) w3 (⟨_,rfl,HS.out.kept (z0b l none)⟩:Ma none w3 (.agg #[.int .i64 D.kind,.int .i64 D.start,.string D.lead,.slice a D.n N]) D) d2.out (HT.out.below l nlr) (y3u v8y (fun w i o=>u2e w i o)) trivial (fun _ _=>trivial);rw[v9n] at U;refine h.out _ _ (.inr X) ?_;clear h K d0 z;have b0:=qh U;clear U;have a6:=qh b3;clear b3 T;have C:=qh b8;clear b8 A;have I:=qh l;clear l Q
 try simp only[Act.put,tryL]
 have d1:∀ w,(Instr.index 70 (.agg #[.func (.func 99) #[] #[],.func (.func 100) #[] #[],.func (.func 101) #[] #[]]) (.int .i64 0)).run prog w=.ok (.agg #[.func (.func 99) #[] #[]]) w:=fun _=>by kernel_rfl
 refine z0c.tm 1 X ?_
 try simp only[Act.put,tryL]
 clear d1;refine z0c.on 3 fun K h=>?_;go_simp;refine b0.out.mono ?_;rintro r P ⟨p,hr⟩;have k:P.cell? ⟨g,0,none⟩=some (.int .i64 D.kind)/\P.cell? ⟨g,1,none⟩=some (.int .i64 D.start)/\P.cell? ⟨g,2,none⟩=some (.string D.lead)/\P.cell? ⟨g,3,none⟩=some (.slice a D.n N):=(cells4 ((p.block _ (lt_of_block C.out)).trans C.out)).1;have b1:=(p.block _ (lt_of_block C.out)).trans C.out;have c7:=(p.block _ (lt_of_block a6.out)).trans a6.out;have O:=I.out.trans (p.mono I.out.size);have a9:w.heap.size<=w3.heap.size:=I.out.size;clear p X;have a8:=qh b1;clear b1 C;have L:=qh c7;clear c7 a6;have c9:=qh O;clear O I b0;obtain⟨⟨r0,r1,r2,r3⟩,rz⟩:=cells4 L.out;have f0:=rz 0;have f1:=rz 1;have f2:=rz 2;have f3:=rz 3;clear rz;unfold z7f at hr
 rcases hr with ⟨hv,d3,R,rfl,m⟩|⟨hv,rfl⟩
 ·have HV:=qh hv;clear hv;obtain⟨sa,sc,a2,_,_⟩:=z1e m.top;subst a2;have b7:=qh (m.box4 L.out (.int .i64 D.inv.kind) (.int .i64 D.inv.start) (.string D.inv.lead) (.slice sa D.inv.n sc));clear m;refine h.out _ _ (.inr k) ?_;clear h K
  try simp only[Act.put,tryL]
  refine z0c.tm 4 k ?_;refine z0c.tm 5 k ?_
  try simp only[Act.put,tryL]
  refine z0c.on 6 fun K h=>?_;go_simp;obtain⟨E,c⟩:∃ E,E=(((P.setCell ⟨d,0,none⟩ (.int .i64 D.inv.kind)).setCell ⟨d,1,none⟩ (.int .i64 D.inv.start)).setCell ⟨d,2,none⟩ (.string D.inv.lead)).setCell ⟨d,3,none⟩ (.slice sa D.inv.n sc):=⟨_,rfl⟩;have u:E.heap[g]?=some (.cells #[.int .i64 D.kind,.int .i64 D.start,.string D.lead,.slice a D.n N] 24 (0,0)):=by rw[c,z0e j,z0e j,z0e j,z0e j];exact a8.out
  have B:E.heap[d]?=some (.cells #[.int .i64 D.inv.kind,.int .i64 D.inv.start,.string D.inv.lead,.slice sa D.inv.n sc] 24 (0,0)):=by rw[c];exact z0w P d _ _ _ _ L.out
  have F:Below w.heap.size w E:=by rw[c];exact z0d c9.out b2 _ _ _ _
  have a1:=b7.out;rw[<- c] at a1;have b4:=qh a1;clear a1 b7;rw[<- c];clear c;refine h.out _ _ (.inr (cells4 u).1) ?_;clear h K u;have Y:=qh B;clear B;have a5:=qh F;clear F;clear r0 r1 r2 r3 f0 f1 f2 f3 k
  try simp only[Act.put,tryL]
  refine z0c.on 7 fun K h=>?_;go_simp;refine h.out _ _ (.inl rfl) (z0c.dn ?_);clear h K
  go_wp2_with fail
  refine bodyPost_ret (z0j rfl _ (b:=d) rfl rfl Y.out) rfl ⟨a5.out,.inl ⟨HV.out,_,R,rfl,z4c b4.out a9⟩⟩
 have HV:=qh hv;clear hv;refine h.out _ _ (.inr k) ?_;clear h K
 try simp only[Act.put,tryL]
 refine z0c.tm 4 k ?_;refine z0c.tm 5 k ?_
 try simp only[Act.put,tryL]
 refine z0c.on 6 fun K h=>?_;go_simp;obtain⟨E,c⟩:∃ E,E=(((P.setCell ⟨d,0,none⟩ (.int .i64 0)).setCell ⟨d,1,none⟩ (.int .i64 0)).setCell ⟨d,2,none⟩ (.string ⟨#[]⟩)).setCell ⟨d,3,none⟩ (.slice none 0 0):=⟨_,rfl⟩;have u:E.heap[g]?=some (.cells #[.int .i64 D.kind,.int .i64 D.start,.string D.lead,.slice a D.n N] 24 (0,0)):=by rw[c,z0e j,z0e j,z0e j,z0e j];exact a8.out
 have B:E.heap[d]?=some (.cells #[.int .i64 0,.int .i64 0,.string ⟨#[]⟩,.slice none 0 0] 24 (0,0)):=by rw[c];exact z0w P d _ _ _ _ L.out
 have F:Below w.heap.size w E:=by rw[c];exact z0d c9.out b2 _ _ _ _
 rw[<- c];clear c;refine h.out _ _ (.inr (cells4 u).1) ?_;clear h K u;have Y:=qh B;clear B;have a5:=qh F;clear F;clear r0 r1 r2 r3 f0 f1 f2 f3 k
 try simp only[Act.put,tryL]
 refine z0c.on 7 fun K h=>?_;go_simp;refine h.out _ _ (.inl rfl) (z0c.dn ?_);clear h K
 go_wp2_with fail
 refine bodyPost_ret (z0j rfl _ (b:=d) rfl rfl Y.out) rfl ⟨a5.out,.inr ⟨HV.out,rfl⟩⟩
theorem y9b {D:MD} {mv:Value} (w:World) (hM:Ma none w mv D) (b9:MSz D) (ht:Tab w):Calls prog 21 #[mv] w (MkE (VM D) D.inR 1 w):=by
 obtain⟨sv,rfl,hS⟩:=hM;obtain⟨a,N,_,_,_,_,_,_,a2,_⟩:=hS.open;subst a2;obtain⟨J,s⟩:=exq (w.alloc (.cells #[.int .i64 D.kind,.int .i64 D.start,.string D.lead,.slice a D.n N] 24));obtain⟨w2,H⟩:=exq (J.alloc (.cells #[.int .i64 0,.int .i64 0,.string ⟨#[]⟩,.slice none 0 0] 24));obtain⟨wd,G⟩:=exq (w2.drew);have b6:J.heap.size=w.heap.size+1:=by rw[s];simp
 have c8:Fr (fun _=>False) w J:=by rw[s];exact Fr.alloc _ _
 have a4:Fr (fun _=>False) J wd:=by rw[G,H];exact(Fr.alloc _ _).drew
 obtain⟨g,W⟩:=exq (w.heap.size);obtain⟨d,S⟩:=exq (w.heap.size+1);have Z:J.heap[g]?=some (.cells #[.int .i64 D.kind,.int .i64 D.start,.string D.lead,.slice a D.n N] 24 (0,0)):=by rw[s,W];exact heap_alloc_new w _
 have a3:wd.heap[g]?=some (.cells #[.int .i64 D.kind,.int .i64 D.start,.string D.lead,.slice a D.n N] 24 (0,0)):=(a4.block _ (lt_of_block Z) (fun e=>e)).trans Z;have a7:wd.heap[d]?=some (.cells #[.int .i64 0,.int .i64 0,.string ⟨#[]⟩,.slice none 0 0] 24 (0,0)):=by rw[G,S,<- b6];show w2.heap[J.heap.size]?=_;rw[H];exact heap_alloc_new J _
 have b5:Below w.heap.size w wd:=(c8.trans a4).below nlr (fun _ e=>e.elim);have b2:w.heap.size<=d:=by omega
 have j:g≠d:=by omega
 have d0:=(cells4 a3).1;have HS:=qh hS;clear hS;have d2:=qh b9;clear b9;have HT:=qh ht;clear ht;have T:=qh a7;clear a7;have A:=qh a3;clear a3 Z;have Q:=qh b5;clear b5 c8 a4 b6
 go_enter func21,ntmps21
 go_wp2_with fail
 refine z0g (fun wk=>wk.cell? ⟨g,0,none⟩=some (.int .i64 D.kind)/\wk.cell? ⟨g,1,none⟩=some (.int .i64 D.start)/\wk.cell? ⟨g,2,none⟩=some (.string D.lead)/\wk.cell? ⟨g,3,none⟩=some (.slice a D.n N)) 7 (by kernel_rfl) ?_;rw[<- s,<- H,<- G,<- S,<- W];clear s H G S W;refine z0c.tm 2 d0 ?_
 try simp only[Act.put,tryL]
 refine z0c.on 0 fun K h=>?_;go_simp;refine(z9g _).mono ?_;rintro r w3 ⟨rfl,z⟩;have X:w3.cell? ⟨g,0,none⟩=some (.int .i64 D.kind)/\w3.cell? ⟨g,1,none⟩=some (.int .i64 D.start)/\w3.cell? ⟨g,2,none⟩=some (.string D.lead)/\w3.cell? ⟨g,3,none⟩=some (.slice a D.n N):=(cells4 ((z.block _ (lt_of_block A.out)).trans A.out)).1;have b8:=(z.block _ (lt_of_block A.out)).trans A.out;have b3:=(z.block _ (lt_of_block T.out)).trans T.out;have l:=Q.out.trans (z.mono Q.out.size);have U:=z6g (φ:=fun i _=>(i,i)) w3 (⟨_,rfl,HS.out.kept (z0b l none)⟩:Ma none w3 (.agg #[.int .i64 D.kind,.int .i64 D.start,.string D.lead,.slice a D.n N]) D) d2.out (HT.out.below l nlr) (y3u v8p (fun w i o=>u3h w i o)) trivial (fun _ _=>trivial);rw[u1s] at U;refine h.out _ _ (.inr X) ?_;clear h K d0 z;have b0:=qh U;clear U;have a6:=qh b3;clear b3 T;have C:=qh b8;clear b8 A;have I:=qh l;clear l Q
 try simp only[Act.put,tryL]
 have d1:∀ w,(Instr.index 70 (.agg #[.func (.func 99) #[] #[],.func (.func 100) #[] #[],.func (.func 101) #[] #[]]) (.int .i64 1)).run prog w=.ok (.agg #[.func (.func 100) #[] #[]]) w:=fun _=>by kernel_rfl
 refine z0c.tm 1 X ?_
 try simp only[Act.put,tryL]
 clear d1;refine z0c.on 3 fun K h=>?_;go_simp;refine b0.out.mono ?_;rintro r P ⟨p,hr⟩;have k:P.cell? ⟨g,0,none⟩=some (.int .i64 D.kind)/\P.cell? ⟨g,1,none⟩=some (.int .i64 D.start)/\P.cell? ⟨g,2,none⟩=some (.string D.lead)/\P.cell? ⟨g,3,none⟩=some (.slice a D.n N):=(cells4 ((p.block _ (lt_of_block C.out)).trans C.out)).1;have b1:=(p.block _ (lt_of_block C.out)).trans C.out;have c7:=(p.block _ (lt_of_block a6.out)).trans a6.out;have O:=I.out.trans (p.mono I.out.size);have a9:w.heap.size<=w3.heap.size:=I.out.size;clear p X;have a8:=qh b1;clear b1 C;have L:=qh c7;clear c7 a6;have c9:=qh O;clear O I b0;obtain⟨⟨r0,r1,r2,r3⟩,rz⟩:=cells4 L.out;have f0:=rz 0;have f1:=rz 1;have f2:=rz 2;have f3:=rz 3;clear rz;unfold z7f at hr
 rcases hr with ⟨hv,d3,R,rfl,m⟩|⟨hv,rfl⟩
 ·have HV:=qh hv;clear hv;obtain⟨sa,sc,a2,_,_⟩:=z1e m.top;subst a2;have b7:=qh (m.box4 L.out (.int .i64 D.inR.kind) (.int .i64 D.inR.start) (.string D.inR.lead) (.slice sa D.inR.n sc));clear m;refine h.out _ _ (.inr k) ?_;clear h K
  try simp only[Act.put,tryL]
  refine z0c.tm 4 k ?_;refine z0c.tm 5 k ?_
  try simp only[Act.put,tryL]
  refine z0c.on 6 fun K h=>?_;go_simp;obtain⟨E,c⟩:∃ E,E=(((P.setCell ⟨d,0,none⟩ (.int .i64 D.inR.kind)).setCell ⟨d,1,none⟩ (.int .i64 D.inR.start)).setCell ⟨d,2,none⟩ (.string D.inR.lead)).setCell ⟨d,3,none⟩ (.slice sa D.inR.n sc):=⟨_,rfl⟩;have u:E.heap[g]?=some (.cells #[.int .i64 D.kind,.int .i64 D.start,.string D.lead,.slice a D.n N] 24 (0,0)):=by rw[c,z0e j,z0e j,z0e j,z0e j];exact a8.out
  have B:E.heap[d]?=some (.cells #[.int .i64 D.inR.kind,.int .i64 D.inR.start,.string D.inR.lead,.slice sa D.inR.n sc] 24 (0,0)):=by rw[c];exact z0w P d _ _ _ _ L.out
  have F:Below w.heap.size w E:=by rw[c];exact z0d c9.out b2 _ _ _ _
  have a1:=b7.out;rw[<- c] at a1;have b4:=qh a1;clear a1 b7;rw[<- c];clear c;refine h.out _ _ (.inr (cells4 u).1) ?_;clear h K u;have Y:=qh B;clear B;have a5:=qh F;clear F;clear r0 r1 r2 r3 f0 f1 f2 f3 k
  try simp only[Act.put,tryL]
  refine z0c.on 7 fun K h=>?_;go_simp;refine h.out _ _ (.inl rfl) (z0c.dn ?_);clear h K
  go_wp2_with fail
  refine bodyPost_ret (z0j rfl _ (b:=d) rfl rfl Y.out) rfl ⟨a5.out,.inl ⟨HV.out,_,R,rfl,z4c b4.out a9⟩⟩
 have HV:=qh hv;clear hv;refine h.out _ _ (.inr k) ?_;clear h K
 try simp only[Act.put,tryL]
 refine z0c.tm 4 k ?_;refine z0c.tm 5 k ?_
 try simp only[Act.put,tryL]
 refine z0c.on 6 fun K h=>?_;go_simp;obtain⟨E,c⟩:∃ E,E=(((P.setCell ⟨d,0,none⟩ (.int .i64 0)).setCell ⟨d,1,none⟩ (.int .i64 0)).setCell ⟨d,2,none⟩ (.string ⟨#[]⟩)).setCell ⟨d,3,none⟩ (.slice none 0 0):=⟨_,rfl⟩;have u:E.heap[g]?=some (.cells #[.int .i64 D.kind,.int .i64 D.start,.string D.lead,.slice a D.n N] 24 (0,0)):=by rw[c,z0e j,z0e j,z0e j,z0e j];exact a8.out
 have B:E.heap[d]?=some (.cells #[.int .i64 0,.int .i64 0,.string ⟨#[]⟩,.slice none 0 0] 24 (0,0)):=by rw[c];exact z0w P d _ _ _ _ L.out
 have F:Below w.heap.size w E:=by rw[c];exact z0d c9.out b2 _ _ _ _
 rw[<- c];clear c;refine h.out _ _ (.inr (cells4 u).1) ?_;clear h K u;have Y:=qh B;clear B;have a5:=qh F;clear F;clear r0 r1 r2 r3 f0 f1 f2 f3 k
 try simp only[Act.put,tryL]
 refine z0c.on 7 fun K h=>?_;go_simp;refine h.out _ _ (.inl rfl) (z0c.dn ?_);clear h K
 go_wp2_with fail
 refine bodyPost_ret (z0j rfl _ (b:=d) rfl rfl Y.out) rfl ⟨a5.out,.inr ⟨HV.out,rfl⟩⟩
theorem y5v {D:MD} {mv:Value} (w:World) (hM:Ma none w mv D) (b9:MSz D) (ht:Tab w):Calls prog 22 #[mv] w (MkE (VM D) D.outR 1 w):=by
 obtain⟨sv,rfl,hS⟩:=hM;obtain⟨a,N,_,_,_,_,_,_,a2,_⟩:=hS.open;subst a2;obtain⟨J,s⟩:=exq (w.alloc (.cells #[.int .i64 D.kind,.int .i64 D.start,.string D.lead,.slice a D.n N] 24));obtain⟨w2,H⟩:=exq (J.alloc (.cells #[.int .i64 0,.int .i64 0,.string ⟨#[]⟩,.slice none 0 0] 24));obtain⟨wd,G⟩:=exq (w2.drew);have b6:J.heap.size=w.heap.size+1:=by rw[s];simp
 have c8:Fr (fun _=>False) w J:=by rw[s];exact Fr.alloc _ _
 have a4:Fr (fun _=>False) J wd:=by rw[G,H];exact(Fr.alloc _ _).drew
 obtain⟨g,W⟩:=exq (w.heap.size);obtain⟨d,S⟩:=exq (w.heap.size+1);have Z:J.heap[g]?=some (.cells #[.int .i64 D.kind,.int .i64 D.start,.string D.lead,.slice a D.n N] 24 (0,0)):=by rw[s,W];exact heap_alloc_new w _
 have a3:wd.heap[g]?=some (.cells #[.int .i64 D.kind,.int .i64 D.start,.string D.lead,.slice a D.n N] 24 (0,0)):=(a4.block _ (lt_of_block Z) (fun e=>e)).trans Z;have a7:wd.heap[d]?=some (.cells #[.int .i64 0,.int .i64 0,.string ⟨#[]⟩,.slice none 0 0] 24 (0,0)):=by rw[G,S,<- b6];show w2.heap[J.heap.size]?=_;rw[H];exact heap_alloc_new J _
 have b5:Below w.heap.size w wd:=(c8.trans a4).below nlr (fun _ e=>e.elim);have b2:w.heap.size<=d:=by omega
 have j:g≠d:=by omega
 have d0:=(cells4 a3).1;have HS:=qh hS;clear hS;have d2:=qh b9;clear b9;have HT:=qh ht;clear ht;have T:=qh a7;clear a7;have A:=qh a3;clear a3 Z;have Q:=qh b5;clear b5 c8 a4 b6
 go_enter func22,ntmps22
 go_wp2_with fail
 refine z0g (fun wk=>wk.cell? ⟨g,0,none⟩=some (.int .i64 D.kind)/\wk.cell? ⟨g,1,none⟩=some (.int .i64 D.start)/\wk.cell? ⟨g,2,none⟩=some (.string D.lead)/\wk.cell? ⟨g,3,none⟩=some (.slice a D.n N)) 7 (by kernel_rfl) ?_;rw[<- s,<- H,<- G,<- S,<- W];clear s H G S W;refine z0c.tm 2 d0 ?_
 try simp only[Act.put,tryL]
 refine z0c.on 0 fun K h=>?_;go_simp;refine(z9g _).mono ?_;rintro r w3 ⟨rfl,z⟩;have X:w3.cell? ⟨g,0,none⟩=some (.int .i64 D.kind)/\w3.cell? ⟨g,1,none⟩=some (.int .i64 D.start)/\w3.cell? ⟨g,2,none⟩=some (.string D.lead)/\w3.cell? ⟨g,3,none⟩=some (.slice a D.n N):=(cells4 ((z.block _ (lt_of_block A.out)).trans A.out)).1;have b8:=(z.block _ (lt_of_block A.out)).trans A.out;have b3:=(z.block _ (lt_of_block T.out)).trans T.out;have l:=Q.out.trans (z.mono Q.out.size);have U:=z6g (φ:=fun _ o=>(o,o)) w3 (⟨_,rfl,HS.out.kept (z0b l none)⟩:Ma none w3 (.agg #[.int .i64 D.kind,.int .i64 D.start,.string D.lead,.slice a D.n N]) D) d2.out (HT.out.below l nlr) (y3u u1m (fun w i o=>u3m w i o)) trivial (fun _ _=>trivial);rw[v5c] at U;refine h.out _ _ (.inr X) ?_;clear h K d0 z;have b0:=qh U;clear U;have a6:=qh b3;clear b3 T;have C:=qh b8;clear b8 A;have I:=qh l;clear l Q
 try simp only[Act.put,tryL]
 have d1:∀ w,(Instr.index 70 (.agg #[.func (.func 99) #[] #[],.func (.func 100) #[] #[],.func (.func 101) #[] #[]]) (.int .i64 2)).run prog w=.ok (.agg #[.func (.func 101) #[] #[]]) w:=fun _=>by kernel_rfl
 refine z0c.tm 1 X ?_
 try simp only[Act.put,tryL]
 clear d1;refine z0c.on 3 fun K h=>?_;go_simp;refine b0.out.mono ?_;rintro r P ⟨p,hr⟩;have k:P.cell? ⟨g,0,none⟩=some (.int .i64 D.kind)/\P.cell? ⟨g,1,none⟩=some (.int .i64 D.start)/\P.cell? ⟨g,2,none⟩=some (.string D.lead)/\P.cell? ⟨g,3,none⟩=some (.slice a D.n N):=(cells4 ((p.block _ (lt_of_block C.out)).trans C.out)).1;have b1:=(p.block _ (lt_of_block C.out)).trans C.out;have c7:=(p.block _ (lt_of_block a6.out)).trans a6.out;have O:=I.out.trans (p.mono I.out.size);have a9:w.heap.size<=w3.heap.size:=I.out.size;clear p X;have a8:=qh b1;clear b1 C;have L:=qh c7;clear c7 a6;have c9:=qh O;clear O I b0;obtain⟨⟨r0,r1,r2,r3⟩,rz⟩:=cells4 L.out;have f0:=rz 0;have f1:=rz 1;have f2:=rz 2;have f3:=rz 3;clear rz;unfold z7f at hr
 rcases hr with ⟨hv,d3,R,rfl,m⟩|⟨hv,rfl⟩
 ·have HV:=qh hv;clear hv;obtain⟨sa,sc,a2,_,_⟩:=z1e m.top;subst a2;have b7:=qh (m.box4 L.out (.int .i64 D.outR.kind) (.int .i64 D.outR.start) (.string D.outR.lead) (.slice sa D.outR.n sc));clear m;refine h.out _ _ (.inr k) ?_;clear h K
  try simp only[Act.put,tryL]
  refine z0c.tm 4 k ?_;refine z0c.tm 5 k ?_
  try simp only[Act.put,tryL]
  refine z0c.on 6 fun K h=>?_;go_simp;obtain⟨E,c⟩:∃ E,E=(((P.setCell ⟨d,0,none⟩ (.int .i64 D.outR.kind)).setCell ⟨d,1,none⟩ (.int .i64 D.outR.start)).setCell ⟨d,2,none⟩ (.string D.outR.lead)).setCell ⟨d,3,none⟩ (.slice sa D.outR.n sc):=⟨_,rfl⟩;have u:E.heap[g]?=some (.cells #[.int .i64 D.kind,.int .i64 D.start,.string D.lead,.slice a D.n N] 24 (0,0)):=by rw[c,z0e j,z0e j,z0e j,z0e j];exact a8.out
  have B:E.heap[d]?=some (.cells #[.int .i64 D.outR.kind,.int .i64 D.outR.start,.string D.outR.lead,.slice sa D.outR.n sc] 24 (0,0)):=by rw[c];exact z0w P d _ _ _ _ L.out
  have F:Below w.heap.size w E:=by rw[c];exact z0d c9.out b2 _ _ _ _
  have a1:=b7.out;rw[<- c] at a1;have b4:=qh a1;clear a1 b7;rw[<- c];clear c;refine h.out _ _ (.inr (cells4 u).1) ?_;clear h K u;have Y:=qh B;clear B;have a5:=qh F;clear F;clear r0 r1 r2 r3 f0 f1 f2 f3 k
  try simp only[Act.put,tryL]
  refine z0c.on 7 fun K h=>?_;go_simp;refine h.out _ _ (.inl rfl) (z0c.dn ?_);clear h K
  go_wp2_with fail
  refine bodyPost_ret (z0j rfl _ (b:=d) rfl rfl Y.out) rfl ⟨a5.out,.inl ⟨HV.out,_,R,rfl,z4c b4.out a9⟩⟩
 have HV:=qh hv;clear hv;refine h.out _ _ (.inr k) ?_;clear h K
 try simp only[Act.put,tryL]
 refine z0c.tm 4 k ?_;refine z0c.tm 5 k ?_
 try simp only[Act.put,tryL]
 refine z0c.on 6 fun K h=>?_;go_simp;obtain⟨E,c⟩:∃ E,E=(((P.setCell ⟨d,0,none⟩ (.int .i64 0)).setCell ⟨d,1,none⟩ (.int .i64 0)).setCell ⟨d,2,none⟩ (.string ⟨#[]⟩)).setCell ⟨d,3,none⟩ (.slice none 0 0):=⟨_,rfl⟩;have u:E.heap[g]?=some (.cells #[.int .i64 D.kind,.int .i64 D.start,.string D.lead,.slice a D.n N] 24 (0,0)):=by rw[c,z0e j,z0e j,z0e j,z0e j];exact a8.out
 have B:E.heap[d]?=some (.cells #[.int .i64 0,.int .i64 0,.string ⟨#[]⟩,.slice none 0 0] 24 (0,0)):=by rw[c];exact z0w P d _ _ _ _ L.out
 have F:Below w.heap.size w E:=by rw[c];exact z0d c9.out b2 _ _ _ _
 rw[<- c];clear c;refine h.out _ _ (.inr (cells4 u).1) ?_;clear h K u;have Y:=qh B;clear B;have a5:=qh F;clear F;clear r0 r1 r2 r3 f0 f1 f2 f3 k
 try simp only[Act.put,tryL]
 refine z0c.on 7 fun K h=>?_;go_simp;refine h.out _ _ (.inl rfl) (z0c.dn ?_);clear h K
 go_wp2_with fail
 refine bodyPost_ret (z0j rfl _ (b:=d) rfl rfl Y.out) rfl ⟨a5.out,.inr ⟨HV.out,rfl⟩⟩
end
section
open Go.RowKit Go.Deep
theorem BlS.old {F:Nat->Prop} {B db:Nat} {D:MD} {one:ByteArray} {ac fl:Int} {w:World} (h:BlS F B db D one ac fl w) (d:B<=w.heap.size):BlS (fun b=>b<B) B db D one ac fl w:=by
 obtain⟨R,sv,c,g⟩:=h;refine⟨R,sv,c,fun b hb=>⟨by have:=c.low;omega,by omega,fun e=>?_,fun i hi e=>?_⟩⟩
 ·have:=(World.ownsRow.lt c.own.top b e).1;omega
 have:=(World.ownsRow.lt (c.own.row i hi) b e).1;omega
def catA (D E:MD):Int:=(cpX E none E.n:Int)+(cpX D (some E.start.toNat) D.n:Int)
def CatE (D E:MD) (w:World) (r:Ending) (w':World):Prop :=
 Below w.heap.size w w'/\((VM D/\VM E/\D.kind=E.kind /\
  ((
   dnOk (tmF (z0n D.kind D.lead E.lead) 0) (E.n+D.n) (catA D E)/\∃ sv R,r=.returned (.tuple #[.agg #[.int .i64 D.kind,.int .i64 ((E.n:Int)+D.start),.string (z0n D.kind D.lead E.lead).1,sv],.int .i64 0])/\OwM w' w.heap.size sv (catD D E (z0n D.kind D.lead E.lead).1) R) \/
   (¬ dnOk (tmF (z0n D.kind D.lead E.lead) 0) (E.n+D.n) (catA D E)/\r=.returned (.tuple #[z7f,.int .i64 2])))) \/
  (VM D/\VM E/\D.kind≠E.kind/\r=.returned (.tuple #[z7f,.int .i64 6]))\/(¬ (VM D/\VM E)/\r=.returned (.tuple #[z7f,.int .i64 1])))
theorem x6f {D E:MD} {mv nv:Value} (w:World) (hM:Ma none w mv D) (hN:Ma none w nv E) (l4:MSz D) (m8:MSz E) (ht:Tab w) (g:E.n+D.n<=1000) (g5:z0h D D.n+z0h E E.n<=1000):Calls prog 65 #[mv,nv] w (CatE D E w):=by
 have hT:=fun W (hb:Below w.heap.size w W)=>v7f (D:=D) (E:=E) (mv:=mv) (nv:=nv) W ⟨_,hM.choose_spec.1,hM.choose_spec.2.kept (z0b hb none)⟩ ⟨_,hN.choose_spec.1,hN.choose_spec.2.kept (z0b hb none)⟩ l4 m8 (ht.below hb nlr);obtain⟨sv,rfl,hS⟩:=hM;obtain⟨sw,rfl,k0⟩:=hN;obtain⟨a,cp,_,_,_,_,_,_,m4,_⟩:=hS.open;obtain⟨a2,j8,_,_,_,_,_,_,s5,_⟩:=k0.open;subst m4;subst s5;obtain⟨w1,O⟩:=exq (w.alloc (.cells #[.int .i64 D.kind,.int .i64 D.start,.string D.lead,.slice a D.n cp] 24));obtain⟨w2,Q⟩:=exq (w1.alloc (.cells #[.int .i64 E.kind,.int .i64 E.start,.string E.lead,.slice a2 E.n j8] 24));obtain⟨w3,a9⟩:=exq (w2.alloc (.cells #[.int .i64 0,.int .i64 0,.string ⟨#[]⟩,.slice none 0 0] 24));have a5:w1.heap.size=w.heap.size+1:=by rw[O];simp
 have o2:w2.heap.size=w.heap.size+1+1:=by rw[Q];simp[a5]
 have o6:Fr (fun _=>False) w w1:=by rw[O];exact Fr.alloc _ _
 have l2:Fr (fun _=>False) w1 w2:=by rw[Q];exact Fr.alloc _ _
 have g1:Fr (fun _=>False) w2 w3:=by rw[a9];exact Fr.alloc _ _
 have a4:w1.heap[w.heap.size]?=some (.cells #[.int .i64 D.kind,.int .i64 D.start,.string D.lead,.slice a D.n cp] 24 (0,0)):=by rw[O];exact heap_alloc_new w _
 have i:w3.heap[w.heap.size]?=some (.cells #[.int .i64 D.kind,.int .i64 D.start,.string D.lead,.slice a D.n cp] 24 (0,0)):=(g1.block _ (by omega) (fun e=>e)).trans ((l2.block _ (lt_of_block a4) (fun e=>e)).trans a4);have i9:w2.heap[w.heap.size+1]?=some (.cells #[.int .i64 E.kind,.int .i64 E.start,.string E.lead,.slice a2 E.n j8] 24 (0,0)):=by rw[<- a5,Q];exact heap_alloc_new w1 _
 have L:w3.heap[w.heap.size+1]?=some (.cells #[.int .i64 E.kind,.int .i64 E.start,.string E.lead,.slice a2 E.n j8] 24 (0,0)):=(g1.block _ (by omega) (fun e=>e)).trans i9;have a7:w3.heap[w.heap.size+1+1]?=some (.cells #[.int .i64 0,.int .i64 0,.string ⟨#[]⟩,.slice none 0 0] 24 (0,0)):=by rw[<- o2,a9];exact heap_alloc_new w2 _
 have l7:Below w.heap.size w w3:=((o6.trans l2).trans g1).below nlr (fun _ e=>e.elim);obtain⟨mb,f5⟩:=exq (w.heap.size);obtain⟨nb,f7⟩:=exq (w.heap.size+1);obtain⟨m,j5⟩:=exq (w.heap.size+1+1);have g2:w.heap.size<=m:=by omega
 have uu3:mb≠m:=by omega
 have uu4:nb≠m:=by omega
 have uu7:w.heap.size<=mb:=by omega
 have uu6:w.heap.size<=nb:=by omega
 rw[<- f5] at i;rw[<- f7] at L;rw[<- j5] at a7;obtain⟨⟨m0,m1,m2,m3⟩,_⟩:=cells4 i;obtain⟨⟨n0,n1,n2,n3⟩,_⟩:=cells4 L;have r7:=qh (hT w3 l7);clear hT;have k3:=qh l7;clear l7;have j:=qh i;clear i a4 o6 l2 g1 a5 o2 i9;have G:=qh L;clear L;have k:=qh a7;clear a7;have HS:=qh hS;clear hS;have r9:=qh k0;clear k0;have HT:=qh ht;clear ht;have k6:=qh l4;clear l4;have e6:=qh m8;clear m8;have d6:=qh g;clear g;have e0:=qh g5;clear g5;rw[f5,a9,Q,O] at m0 m1 m2 m3;rw[f7,a9,Q,O] at n0 n1 n2 n3
 go_enter func65,ntmps65
 go_wp2_with fail
 rw[<- O,<- Q,<- a9,<- j5,<- f7,<- f5];clear m0 m1 m2 m3 n0 n1 n2 n3 O Q a9 f5 f7 j5;refine r7.out.mono ?_;rintro r w4 ⟨d9,e,rfl,he⟩;have H:=k3.out.trans (d9.mono k3.out.size);have i:=(d9.block _ (lt_of_block j.out)).trans j.out;have L:=(d9.block _ (lt_of_block G.out)).trans G.out;have a7:=(d9.block _ (lt_of_block k.out)).trans k.out;clear d9 j G k r7 k3;have S:=qh H;clear H;have j:=qh i;clear i;have G:=qh L;clear L;have k:=qh a7;clear a7;obtain⟨⟨r0,r1,r2,r3⟩,rz⟩:=cells4 k.out;have f0:=rz 0;have f1:=rz 1;have f2:=rz 2;have f3:=rz 3;clear rz;unfold twoN at he
 rcases he with ⟨hv,c7,hk,rfl⟩|⟨hv,c7,hk,rfl⟩|⟨hv,rfl⟩
 rotate_left
 ·have k5:=qh hv;have t8:=qh c7;have s7:=qh hk;clear hv c7 hk
  go_wp2_with fail
  exact bodyPost_ret (z0j rfl _ (b:=m) rfl rfl (z0w w4 m _ _ _ _ k.out)) rfl ⟨z0d S.out g2 _ _ _ _,.inr (.inl ⟨k5.out,t8.out,s7.out,rfl⟩)⟩
 ·have k5:=qh hv;clear hv
  go_wp2_with fail
  exact bodyPost_ret (z0j rfl _ (b:=m) rfl rfl (z0w w4 m _ _ _ _ k.out)) rfl ⟨z0d S.out g2 _ _ _ _,.inr (.inr ⟨k5.out,rfl⟩)⟩
 clear r0 r1 r2 r3 f0 f1 f2 f3;have HV:=qh hv;clear hv;have C:=qh c7;clear c7;have a6:=qh hk;clear hk;have m0:=(cells4 j.out).1.1;have Y:=y5q D.kind w4;have j1:=qh Y;clear Y
 go_wp2_with fail
 refine j1.out.mono ?_;rintro r w5 ⟨db,rfl,k7,I,l8⟩;clear m0 j1;obtain⟨B,A⟩:=exq (w4.heap.size);rw[<- A] at k7 I l8;have l3:w.heap.size<=B:=by rw[A];exact S.out.size
 have t7:B<=w5.heap.size:=by rw[A];rw[A] at I;exact I.size
 have i7:=k7.old t7;have o3:smS D.lead:=k6.out.lead;have a5:smS E.lead:=e6.out.lead;have H:Below w.heap.size w w5:=S.out.trans (I.mono l3);have j9:Calls prog 109 #[.pointer (some ⟨db,0,none⟩),.string D.lead,.string E.lead] w5 (TmE (fun b=>b<B) B db (z1p D.kind 0 (oneF D.kind)) (oneF D.kind) 0 0 (z0n D.kind D.lead E.lead) w5):=v9w D.lead E.lead w5 i7 o3 a5 (HT.out.below H nlr);obtain⟨z,hz⟩:=exq (z0n D.kind D.lead E.lead);rw[<- hz] at j9;have n7:=qh j9;clear j9 o3 a5 k7 i7 H;have m2:=(cells4 ((I.block mb (by rw[A];exact lt_of_block j.out)).trans j.out)).1.2.2.1;have n2:=(cells4 ((I.block nb (by rw[A];exact lt_of_block G.out)).trans G.out)).1.2.2.1;have s8:=qh I;clear I;have d:=qh A;clear A;have HZ:=qh hz;clear hz;have m5:=qh l8;clear l8
 go_wp2_with fail
 refine n7.out.mono ?_;rintro r w6 ⟨rfl,g3⟩;clear m2 n2 n7;have h0:=s8.out.trans g3.2.2;obtain⟨⟨v1,n5⟩,j6,d3⟩:=g3.1.cells;have s4:=d3 2;clear d3 n5;obtain⟨w7,b3⟩:=exq (w6.setCell ⟨db,2,none⟩ (.string z.1));have h5:BlS (fun b=>b<B) B db (z1p D.kind 0 z.1) (oneF D.kind) 0 (tmF z 0) w7:=by rw[b3];exact g3.1.lead z.1
 have T:Below B w4 w7:=by rw[b3];exact h0.setCell (p:=⟨db,2,none⟩) m5.out _
 have p6:=r9.out.kept (z0b S.out none);have p7:=HS.out.kept (z0b S.out none);have a1:cpC E none E.n=z0h E E.n:=by unfold cpC;simp
 have b0:cpC D (some E.start.toNat) D.n=z0h D D.n+D.n:=by unfold cpC;simp
 have b5:=d6.out;have e3:=e0.out;have a8:=y8y E none E.n;have a3:=y8y D (some E.start.toNat) D.n;have b4:=v8d (F:=fun b=>b<B) (db:=db) (N:=E.n+D.n) (c:=0) (D:=E) (M:=z1p D.kind 0 z.1) (o:=none) (P:=fun _=>True) (one:=oneF D.kind) (ac:=0) (fl:=tmF z 0) w4 w7 C.out e6.out p6 (by rw[<- d.out];exact T) (by rw[<- d.out];exact h5) a6.out (BOk.empty _ _ _ _) (show 0+E.n<=E.n+D.n by omega) (by omega) (fun _ h=>by cases h) (by omega) (Int.le_refl _) (by omega) (by rw[<- d.out];exact u3y B db) trivial (fun _ _ _ _=>trivial);rw[<- d.out] at b4;have h7:=qh b4;clear b4;obtain⟨⟨n0,n1,n2,n3⟩,_⟩:=cells4 ((T.block nb (by rw[d.out];exact lt_of_block G.out)).trans G.out);have j2:=qh T;clear T h0 g3 h5;have s3:=qh p7;clear p7 p6;rw[b3] at n0 n1 n2 n3
 go_wp2_with fail
 rw[<- b3];clear n0 n1 n2 n3 b3 j6 s4;refine h7.out.mono ?_;rintro r w8 ⟨rfl,m9⟩;clear h7;obtain⟨se,m7⟩:∃ se:Nat,E.start=(se:Int):=⟨E.start.toNat,by have:=C.out.s0;omega⟩;have i6:E.start.toNat=se:=by omega
 rw[show (((z1p D.kind 0 z.1).n:Nat):Int)+E.start=(se:Int) by rw[m7];show ((0:Nat):Int)+(se:Int)=_;omega];have u:Below B w4 w8:=j2.out.trans m9.2.2;have l1:=(u.block mb (by rw[d.out];exact lt_of_block j.out)).trans j.out;have k9:=(u.block m (by rw[d.out];exact lt_of_block k.out)).trans k.out;obtain⟨wd,j4⟩:=exq (w8.drew);have r8:Fr (fun _=>False) w8 wd:=by rw[j4];exact(Fr.refl _ _).drew
 have e9:Below w8.heap.size w8 wd:=r8.below nlr (fun _ e=>e.elim);have i4:=m9.1.kept e9;have g8:Below B w4 wd:=u.trans (e9.mono (by rw[d.out];exact u.size));have k2:=(e9.block _ (lt_of_block l1)).trans l1;have o7:=(e9.block _ (lt_of_block k9)).trans k9;have b1:=(cells4 k2).1;have q7:=qh (x7j db se wd);have uu0:se<E.n:=by have:=C.out.s1;omega
 have Z:=qh i6;clear i6;have t9:=qh m7;clear m7;have g4:=qh i4;clear i4 m9 u r8 e9;have b7:=qh g8;clear g8 j2;have k4:=qh k2;clear k2 l1;have j7:=qh o7;clear o7 k9;have o5:=qh a1;clear a1;have o8:=qh b0;clear b0;have o9:=qh a8;clear a8;have r4:=qh a3;clear a3;clear b5 e3
 go_wp2_with fail
 refine z0g (fun wk=>wk.cell? ⟨mb,0,none⟩=some (.int .i64 D.kind)/\wk.cell? ⟨mb,1,none⟩=some (.int .i64 D.start)/\wk.cell? ⟨mb,2,none⟩=some (.string D.lead)/\wk.cell? ⟨mb,3,none⟩=some (.slice a D.n cp)) 10 (by kernel_rfl) ?_;rw[<- j4];clear j4;refine z0c.tm 0 b1 ?_;refine z0c.tm 1 b1 ?_;refine z0c.tm 2 b1 ?_;refine z0c.tm 3 b1 ?_;refine z0c.tm 4 b1 ?_
 try simp only[Act.put,tryL]
 refine z0c.on 5 fun K hK=>?_;go_simp;refine q7.out.mono ?_;rintro r w9 ⟨cx,tx,rfl,f8,r5,p0,c8⟩;have l6:=(c8.block _ (lt_of_block k4.out)).trans k4.out;have q8:=(c8.block _ (lt_of_block j7.out)).trans j7.out;have p9:=(cells4 l6).1;have e7:=g4.out.grown c8;obtain⟨F1,d2⟩:∃ F1:Nat->Prop,F1=fun b=>b<B\/(wd.heap.size<=b/\b<w9.heap.size):=⟨_,rfl⟩;rw[<- d2] at e7;have h8:F1 cx:=by rw[d2];exact .inr ⟨r5,lt_of_block f8.1⟩
 have h9:F1 tx:=by rw[d2];exact .inr ⟨p0,lt_of_block f8.2⟩
 have e5:∀ b,b<B->F1 b:=fun b hb=>by rw[d2];exact .inl hb
 have d1:Below B w4 w9:=b7.out.trans (c8.mono (by rw[d.out];exact b7.out.size));have b5:=d6.out;have e3:=e0.out;have a1:=o5.out;have b0:=o8.out;have a8:=o9.out;have a3:=r4.out;have l5:(z4n E none (z1p D.kind 0 z.1)).n=E.n:=by
  unfold z4n;rw[(y4w _ _ _ _ _).2.2.2,y4f];exact Nat.zero_add _
 have i:(z4n E none (z1p D.kind 0 z.1)).kind=D.kind:=by
  unfold z4n;rw[(y4w _ _ _ _ _).1,(z9s _ _ _).1];rfl
 have h4:BOk (z4n E none (z1p D.kind 0 z.1)) (E.n+D.n) (0+cpC E none E.n):=by
  unfold z4n;exact y6n (o:=none) (low:=0) (M:=stsD E E.n (z1p D.kind 0 z.1)) (c:=0) C.out e6.out (fun _ h=>by cases h) (show 0+E.n<=E.n+D.n by omega) ((z9s _ _ _).1.trans a6.out) (y3d (M:=z1p D.kind 0 z.1) C.out e6.out a6.out (BOk.empty _ _ _ _) E.n nlr) E.n nlr
 have d4:=v8d (F:=F1) (db:=db) (N:=E.n+D.n) (c:=0+cpC E none E.n) (D:=D) (M:=z4n E none (z1p D.kind 0 z.1)) (o:=some se) (P:=PLk db cx tx se) (one:=oneF D.kind) (ac:=0+(cpX E none E.n:Int)) (fl:=tmF z 0) w4 w9 HV.out k6.out s3.out (by rw[<- d.out];exact d1) (by rw[<- d.out];exact e7) i h4 (by rw[l5];omega) (by omega) (fun t h=>by cases h;omega) (by rw[<- Z.out];omega) (by omega) (by rw[<- Z.out];omega) (by rw[<- d.out];exact u4q B db cx tx se) f8 (fun wa wb h hF=>⟨(hF cx h8).trans h.1,(hF tx h9).trans h.2⟩);rw[<- d.out] at d4;refine hK.out _ _ (.inr p9) ?_;clear hK K b1 q7 b5 e3 a1 b0 a8 a3 f8 r5 p0 c8;have i8:=qh d4;clear d4;have i5:=qh d1;clear d1 b7;have n6:=qh l6;clear l6 k4;have r6:=qh q8;clear q8 j7;have s6:=qh l5;clear l5;have uu1:=qh i;clear i h4 e7 g4;have g0:=qh e5;clear e5 d2 h8 h9
 try simp only[Act.put,tryL]
 refine z0c.on 6 fun K hK=>?_;go_simp;refine i8.out.mono ?_;rintro r p8 ⟨rfl,g⟩;have b8:Below B w4 p8:=i5.out.trans g.2.2;have b9:=(g.2.1 mb (g0.out mb (by rw[d.out];exact lt_of_block j.out))).trans n6.out;have g6:=(g.2.1 m (g0.out m (by rw[d.out];exact lt_of_block k.out))).trans r6.out;have J:=(cells4 b9).1;obtain⟨⟨v1,n5⟩,j6,d3⟩:=g.1.cells;have s9:=d3 1;clear d3 j6;have d8:=(g.1.start ((E.n:Int)+D.start)).sub g0.out;rw[s6.out];refine hK.out _ _ (.inr J) ?_;clear hK K p9 i8 g;have f4:=qh b8;clear b8 i5;have uu2:=qh b9;clear b9 n6;have i2:=qh g6;clear g6 r6;have e2:=qh d8;clear d8 g0
 try simp only[Act.put,tryL]
 refine z0c.tm 7 J ?_;refine z0c.tm 8 J ?_;refine z0c.tm 9 J ?_
 try simp only[Act.put,tryL]
 refine z0c.on 10 fun K hK=>?_;go_simp;refine hK.out _ _ (.inl rfl) (z0c.dn ?_);clear hK K J n5 s9;obtain⟨d5,s⟩:=exq (p8.setCell ⟨db,1,none⟩ (.int .i64 ((E.n:Int)+D.start)));rw[<- s];have l:=e2.out;rw[<- s] at l;have j3:({ z4n D (some se) (z4n E none (z1p D.kind 0 z.1)) with start:=(E.n:Int)+D.start }:MD)=catD D E z.1:=by rw[<- Z.out];rfl
 rw[j3] at l;have j0:mb≠db/\m≠db:=by
  have h1:=m5.out;have h2:=lt_of_block j.out;have h3:=lt_of_block k.out;rw[<- d.out] at h2 h3;exact⟨by omega,by omega⟩
 have c9:Below B w4 d5:=by rw[s];exact f4.out.setCell (p:=⟨db,1,none⟩) m5.out _
 have g9:d5.heap[m]?=some (.cells #[.int .i64 0,.int .i64 0,.string ⟨#[]⟩,.slice none 0 0] 24 (0,0)):=by rw[s,z0e (show m≠db from j0.2)];exact i2.out
 have X:=v1y HV.out k6.out C.out e6.out a6.out.symm z.1;have hx:0+(cpX E none E.n:Int)+(cpX D (some se) D.n:Int)=catA D E:=by unfold catA;rw[Z.out,Int.zero_add]
 rw[hx] at l;have e3:=e0.out;have b5:=d6.out;have a1:=o5.out;have b0:=o8.out;have a8:=o9.out;have a3:=r4.out;have l9:catA D E<=1000000/\0<=catA D E:=by unfold catA;omega
 have k1:=v7p d5 l (by rw[X.2.1];omega) l9.1 l9.2;rw[X.2.1] at k1;have n9:=qh k1;clear k1 l9 e3 b5 a1 b0 a8 a3 hx j3 s l e2 j0;have b2:=qh c9;clear c9 f4;have d0:=qh g9;clear g9 i2;have i3:=qh X;clear X
 go_wp2_with fail
 refine n9.out.mono ?_;rintro r f9 ⟨e4,hr⟩;have e1:Below B w4 f9:=b2.out.trans (e4.mono (by rw[d.out];exact b2.out.size));have g7:=(e4.block _ (lt_of_block d0.out)).trans d0.out;have e8:Below w.heap.size w f9:=S.out.trans (e1.mono l3);clear e4 e1 n9;have h6:=qh e8;clear e8;have U:=qh g7;clear g7 d0;obtain⟨⟨r0,r1,r2,r3⟩,rz⟩:=cells4 U.out;have f0:=rz 0;have f1:=rz 1;have f2:=rz 2;have f3:=rz 3;clear rz;unfold z7f at hr
 rcases hr with ⟨b6,uu5,R,rfl,d7⟩|⟨b6,rfl⟩
 ·have o4:=i3.out.2.2.1;have a4:=i3.out.2.2.2;rw[o4,a4];rw[show (catD D E z.1).start=(E.n:Int)+D.start from rfl];obtain⟨sa,sc,m4,_,_⟩:=z1e d7.top;subst m4;have q9:=qh (z4c (d7.box4 U.out (.int .i64 D.kind) (.int .i64 ((E.n:Int)+D.start)) (.string z.1) (.slice sa (catD D E z.1).n sc)) l3);clear d7 o4 a4;have l0:=qh b6;clear b6
  go_wp2_with fail
  refine bodyPost_ret (z0j rfl _ (b:=m) rfl rfl (z0w f9 m _ _ _ _ U.out)) rfl ⟨z0d h6.out g2 _ _ _ _,.inl ⟨HV.out,C.out,a6.out,.inl ⟨?_,.slice sa (catD D E z.1).n sc,R,?_,?_⟩⟩⟩
  ·rw[<- HZ.out];exact l0.out
  ·rw[<- HZ.out];rfl
  rw[<- HZ.out];exact q9.out
 have l0:=qh b6;clear b6
 go_wp2_with fail
 refine bodyPost_ret (z0j rfl _ (b:=m) rfl rfl (z0w f9 m _ _ _ _ U.out)) rfl ⟨z0d h6.out g2 _ _ _ _,.inl ⟨HV.out,C.out,a6.out,.inr ⟨?_,rfl⟩⟩⟩;rw[<- HZ.out];exact l0.out
end
section
open Go.RowKit Go.Deep
def anyA (D:MD) (i:Nat) (sel:Int->Int->Bool):Bool:=(List.range (D.na i)).any fun d=>sel (D.ain i d) (D.aout i d)
theorem y6s {D:MD} {i:Nat} {sel:Int->Int->Bool}:anyA D i sel=true↔∃ d,d<D.na i/\sel (D.ain i d) (D.aout i d)=true:=by simp[anyA]
theorem v1h {D:MD} {i:Nat} {sel:Int->Int->Bool} (h:∀ d,d<D.na i->sel (D.ain i d) (D.aout i d)=false):anyA D i sel=false:=by
 cases g:anyA D i sel
 ·rfl
 obtain⟨d,j,c⟩:=y6s.1 g;rw[h d j] at c;cases c
theorem v3g {D:MD} {i nf:Nat} {z:Array Value} {v:Value} {sel:Int->Int->Bool} {P:World->Prop} (w:World) (O:ArS none w v D i) (hn:D.na i<=30000) (W:TstA nf z sel P) (Q:∀ wb,Below w.heap.size w wb->P wb) :
  Calls prog 173 #[v,.func (.func nf) #[] z] w (fun r w'=>Below w.heap.size w w'/\∃ k:Int,r=.returned (.int .i64 k)/\(decide (0<=k)=anyA D i sel)):=by
 obtain⟨a3,s⟩:=W;obtain⟨n,m⟩:=exq (D.na i);have hv:∃ a g b c,v=.slice a n g/\n<=g/\g<=maxLen/\(0<n->a=some ⟨b,c,none⟩/\b<w.heap.size)/\∀ k,k<n->w.cell? ⟨b,c+k*4,none⟩=some (.int .i64 (D.ain i k))/\w.cell? ⟨b,c+k*4+1,none⟩=some (.int .i64 (D.aout i k))/\w.cell? ⟨b,c+k*4+2,none⟩=some (.string (D.aw i k))/\w.cell? ⟨b,c+k*4+3,none⟩=some (.int .i64 (D.ato i k)):=by
  rcases O with ⟨h0,a,g,rfl,N⟩|⟨b,c,g,rfl,H,h2,h3,U⟩
  ·exact⟨a,g,0,0,by rw[m,h0],by omega,N,by omega,fun k Y=>by omega⟩
  exact⟨_,g,b,c,by rw[m],by omega,h3,fun _=>⟨rfl,H.1⟩,fun k Y=>U k (by omega)⟩
 obtain⟨a,g,b,c,rfl,N,hm,S,h⟩:=hv;unfold maxLen at hm;rw[<- m] at hn;have G:=qh m;clear m O;have HA:=qh S;clear S;have HX:=qh h;clear h;have HT:=qh s;clear s;have Z:=qh Q;clear Q
 go_enter func173,ntmps173
 go_wp2_with fail
 go_loopw [8] (fun L wr=>∃ q:Nat,q<=n/\L=.int .i64 (q:Int)/\Below w.heap.size w wr/\∀ j,j<q->sel (D.ain i j) (D.aout i j)=false) (fun L _=>n-(intOf L).toNat)
 case atStart=>exact⟨0,Nat.zero_le _,rfl,blr,fun j hj=>by omega⟩
 obtain⟨q,hq,rfl,hb,E⟩:=hrel;have B:=qh E;clear E;have u:=qh hb;clear hb;by_cases I:q<n
 ·have a2:(q:Int)<(n:Int):=by omega
  have R:(0:Int)<=(q:Int):=by omega
  obtain⟨rfl,o⟩:=HA.out (by omega);obtain⟨t0,t1,t2,t3⟩:=HX.out q I;have c0:=(u.out.cell (p:=⟨b,c+q*4,none⟩) o).trans t0;have c1:=(u.out.cell (p:=⟨b,c+q*4+1,none⟩) o).trans t1;have c2:=(u.out.cell (p:=⟨b,c+q*4+2,none⟩) o).trans t2;have c3:=(u.out.cell (p:=⟨b,c+q*4+3,none⟩) o).trans t3;clear t0 t1 t2 t3;have l:=HT.out wr (Z.out wr u.out) (D.ain i q) (D.aout i q) (D.aw i q) (D.ato i q);have T:=qh l;clear l
  go_wp2_with fail
  clear c0 c1 c2 c3;refine T.out.mono ?_;rintro r w1 ⟨rfl,J⟩;have C:=qh (u.out.trans (J.mono u.out.size));clear J T;cases K:sel (D.ain i q) (D.aout i q)
  ·have A:=qh K;clear K;go_wp2;go_roundw
   case rel=>exact⟨q+1,by omega,by go_num,C.out,fun j hj=>by
    by_cases e:j=q
    ·subst e;exact A.out
    exact B.out j (by omega)⟩
   simp[intOf];omega
  have A:=qh K;clear K;go_wp2;go_ret;refine⟨C.out,_,rfl,?_⟩;have H:anyA D i sel=true:=y6s.2 ⟨q,by rw[<- G.out];exact I,A.out⟩;rw[H];simp
 have F:q=n:=by omega
 have a1:¬ ((q:Int)<(n:Int)):=by omega
 have HQ:=qh F;clear F;go_wp2;go_ret;refine⟨u.out,_,rfl,?_⟩;have H:anyA D i sel=false:=v1h fun d X=>B.out d (by rw[HQ.out,G.out];exact X);rw[H];rfl
theorem y7j {D:MD} {i nf:Nat} {c:Array Value} {v:Value} {sel:Int->Int->Bool} {P:World->Prop} (w:World) (d:ArS none w v D i) (hn:D.na i<=30000) (g:TstA nf c sel P) (h:∀ wb,Below w.heap.size w wb->P wb) :
  Calls prog 138 #[v,.func (.func nf) #[] c] w (fun r w'=>r=.returned (.bool (anyA D i sel))/\Below w.heap.size w w'):=by
 have l:=qh (v3g w d hn g h);clear d hn g h
 go_enter func138,ntmps138
 go_wp2_with fail
 refine l.out.mono ?_;rintro r p ⟨hb,k,rfl,j⟩;have m:=qh j;clear j;have o:=qh hb;clear hb;go_wp2;go_ret;exact⟨z0v m.out,o.out⟩
def selE (i o:Int):Bool:=decide (i=o)
theorem v3y:∀ args w,(callFunc 107 args).run prog w=.ok (.enter 107 args) w:=fun args w=>by kernel_rfl
theorem v5n:∀ args w,(callFunc 139 args).run prog w=.ok (.enter 139 args) w:=fun args w=>by kernel_rfl
theorem u0s (w:World) (i o:Int) (s:ByteArray) (t:Int):Calls prog 107 #[.agg #[.int .i64 i,.int .i64 o,.string s,.int .i64 t]] w (fun r w'=>r=.returned (.bool (selE i o))/\Below w.heap.size w w'):=by
 have c:=(Below.refl w.heap.size w).alloc nlr (.cells #[.int .i64 i,.int .i64 o,.string s,.int .i64 t] 59);have d:=qh c;clear c
 go_enter func107,ntmps107
 go_wp2;go_ret;exact⟨z0v (by by_cases h:i=o<;>simp[selE,h]),d.out⟩
theorem u4u:TstA 107 #[] selE (fun _=>True) :=
 ⟨v3y,fun c _ i o s t=>by
  have h:=u0s c i o s t;rw[show ∀ a:Value,(#[a]++#[]:Array Value)=#[a] from fun _=>rfl];exact h⟩
def PAl (tb nf:Nat) (w:World):Prop:=w.heap[tb]?=some (.cells #[.func (.func nf) #[] #[]] 100 (0,0))
theorem u5g {nf:Nat} {sel:Int->Int->Bool} (u:Nat) (L:TstA nf #[] sel (fun _=>True)):TstA 139 #[.pointer (some ⟨u,0,none⟩)] (fun i o=>!sel i o) (PAl u nf):=by
 refine⟨v5n,fun l G i o s t=>?_⟩;rw[show ∀ a b:Value,(#[a]++#[b]:Array Value)=#[a,b] from fun _ _=>rfl];obtain⟨N,k⟩:=L;obtain⟨h,g⟩:=exq (l.alloc (.cells #[.int .i64 i,.int .i64 o,.string s,.int .i64 t] 59));obtain⟨D,j⟩:=exq (l.heap.size);have d:=(Below.refl l.heap.size l).alloc nlr (.cells #[.int .i64 i,.int .i64 o,.string s,.int .i64 t] 59);rw[<- g] at d;have J:h.heap[u]?=some (.cells #[.func (.func nf) #[] #[]] 100 (0,0)):=(d.block _ (lt_of_block G)).trans G;have p:h.heap[D]?=some (.cells #[.int .i64 i,.int .i64 o,.string s,.int .i64 t] 59 (0,0)):=by rw[g,j];exact heap_alloc_new l _
 obtain⟨I,A⟩:=exq (h.drew);have K:h.cell? ⟨u,0,none⟩=some (.func (.func nf) #[] #[]):=by simp[World.cell?,J]
 obtain⟨⟨a0,z,B,C⟩,_⟩:=cells4 p;have c:=k h trivial i o s t;rw[show ∀ a:Value,(#[a]++#[]:Array Value)=#[a] from fun _=>rfl] at c;have H:=qh c;clear c k;have E:=qh d;clear d J p G A;rw[g] at K a0 z B C;rw[j] at a0 z B C
 go_enter func139,ntmps139
 go_wp2_with fail
 rw[<- g];clear K a0 z B C g j;refine H.out.mono ?_;rintro r O ⟨rfl,m⟩;have F:=qh (E.out.trans (m.mono E.out.size));clear m H E;go_wp2;go_ret;exact⟨z0v (by cases sel i o<;>rfl),F.out⟩
end
section
open Go.RowKit Go.Deep
end
section
theorem x4q {k:KK} {D:MD} {sel:Int->Int->Bool} (g:∀ i o,sel i o=decide (i=0)) (q p:Nat):sils (rmOf k D) sel q p=sil (rmOf k D.inZ) q p:=by
 unfold sils sil;refine CSR.sum_congr fun d _=>?_;show (if sel (D.ain q d) (D.aout q d)=true/\(D.ato q d).toNat=p then _ else _)=if D.ain q d=0/\(0:Int)=0/\(D.ato q d).toNat=p then _ else _
 rw[g];by_cases h:D.ain q d=0
 ·by_cases c:(D.ato q d).toNat=p
  ·rw[if_pos ⟨by simp[h],c⟩,if_pos ⟨h,rfl,c⟩];rfl
  rw[if_neg (fun e=>c e.2),if_neg (fun e=>c e.2.2)]
 rw[if_neg (fun e=>h (by simpa using e.1)),if_neg (fun e=>h e.1)]
theorem y1q (D:MD):∀ n,z0h D.inZ n=z0h D n
 | 0=>rfl
 | n+1=>by show z0h D.inZ n+D.na n=z0h D n+D.na n;rw[y1q D n]
theorem VM.inZ {D:MD} (h:VM D):VM D.inZ:={ h with arcs:=by rw[y1q];exact h.arcs,arc:=fun q d g c=>{ h.arc q d g c with o0:=by show (0:Int)<=0;omega,o1:=by show (0:Int)<=500;omega } }
theorem u5b {k:KK} {D:MD} {sel:Int->Int->Bool} (g:∀ i o,sel i o=decide (i=0)) {st:StarO} (h:(NoSel D sel/\st=none)\/∃ S,st=some S/\∀ q p,q<D.n->p<D.n->Sv k (S q p) (CSR.starM (sils (rmOf k D) sel) D.n q p)):StOk k D.inZ st:=by
 rcases h with ⟨m,rfl⟩|⟨S,rfl,s⟩
 ·intro q p c d;rw[<- x4q g];exact SilOk.nosil m k q p c
 intro q p c d;have l:=s q p c d;have e:=CSR.starM_congr (M:=sils (rmOf k D) sel) (M':=sil (rmOf k D.inZ)) (n:=D.n) (fun i j _ _=>x4q g i j) q p c d;rw[e] at l;exact l
theorem SilOk.stZ {k:KK} {D:MD} {sel:Int->Int->Bool} (j:∀ i o,sel i o=decide (i=0)) {st:StarO} (h:SilOk D sel st 0) (g:k.1=D.kind):StOk k D.inZ st:=by
 refine u5b j ?_
 rcases h with ⟨c,d,_⟩|⟨_,_,_,S,c,d⟩|⟨_,c,_⟩
 ·exact .inl ⟨c,d⟩
 ·exact .inr ⟨S,c,d k g⟩
 exact absurd rfl c
end
section
theorem u0q (D:MD):D.sym (fun i _=>(i,0))=D.inZ:=rfl
def Dv (D:MD) (na:Nat) (x:Nat->Int) (z:ByteArray × Nat):Prop:=z.2=0->∀ k:KK,k.1=D.kind->Sv k z.1 (rel (rmOf k D.inZ) (ls x na 0) [])
end
section
open Go.RowKit Go.Deep
def selI (i _:Int):Bool:=decide (i=0)
theorem u1b:∀ args w,(callFunc 128 args).run prog w=.ok (.enter 128 args) w:=fun args w=>by kernel_rfl
theorem v8s:∀ args w,(callFunc 129 args).run prog w=.ok (.enter 129 args) w:=fun args w=>by kernel_rfl
theorem u3j (w:World) (i o:Int) (s:ByteArray) (t:Int):Calls prog 128 #[.agg #[.int .i64 i,.int .i64 o,.string s,.int .i64 t]] w (fun r w'=>r=.returned (.bool (selI i o))/\Below w.heap.size w w'):=by
 have c:=(Below.refl w.heap.size w).alloc nlr (.cells #[.int .i64 i,.int .i64 o,.string s,.int .i64 t] 59);have d:=qh c;clear c
 go_enter func128,ntmps128
 go_wp2;go_ret;exact⟨z0v (by by_cases h:i=0<;>simp[selI,h]),d.out⟩
theorem u4m {xb C n j:Nat} {x:Nat->Int} (w:World) (Q:BxI w xb n x) (E:w.cell? ⟨C,0,none⟩=some (.int .i64 (j:Int))) (z:j<n) (i o:Int) (s:ByteArray) (t:Int) :
  Calls prog 129 #[.agg #[.int .i64 i,.int .i64 o,.string s,.int .i64 t],.pointer (some ⟨xb,0,none⟩),.pointer (some ⟨C,0,none⟩)] w (fun r w'=>r=.returned (.bool (selZ (x j) i o))/\Below w.heap.size w w'):=by
 obtain⟨v,G,m⟩:=Q;obtain⟨a,O,b,J,rfl,F,S,L,hb,d⟩:=m.open;obtain rfl:=F (by omega);unfold maxLen at L;have c0:=d j z;clear d m;have I:(j:Int)<(n:Int):=by omega
 have D:(0:Int)<=(j:Int):=by omega
 obtain⟨u,c⟩:=exq (w.alloc (.cells #[.int .i64 i,.int .i64 o,.string s,.int .i64 t] 59));obtain⟨B,k⟩:=exq (w.heap.size);have g:=(Below.refl w.heap.size w).alloc nlr (.cells #[.int .i64 i,.int .i64 o,.string s,.int .i64 t] 59);have p:w.grownBy u none:=by rw[c];exact World.grownBy_alloc _ _ _
 rw[<- c] at g;have a0:u.cell? ⟨B,0,none⟩=some (.int .i64 i):=by rw[c,k];exact z4p w _ _ 0 _ rfl
 have R:=p.cell G (by simp);have T:=p.cell E (by simp);have H:=p.cell c0 (by simp);have K:=qh g;clear g hb F G E c0 p;obtain⟨A,l⟩:=exq (x j);rw[<- l] at H;rw[<- l];clear l
 go_enter func129,ntmps129
 go_wp2_with fail
 rw[<- c,<- k];have N:=qh c;clear c;have P:=qh k;clear k
 go_quiet (fail)
 go_wp2;go_ret;exact⟨z0v (by by_cases h:i=A<;>simp[selZ,h]),below_drewN K.out _⟩
theorem u4y:TstA 128 #[] selI (fun _=>True) :=
 ⟨u1b,fun c _ i o s t=>by
  have h:=u3j c i o s t;rw[show ∀ a:Value,(#[a]++#[]:Array Value)=#[a] from fun _=>rfl];exact h⟩
structure PDt (w0:World) (xb ib:Nat) (xv:Value) (i:Nat) (w:World):Prop where
 hb:Below w0.heap.size w0 w
 kx:Bx w xb 25 xv
 ki:Bx w ib 3 (.int .i64 (i:Int))
theorem PDt.fr {k wa o:World} {d xb j g i:Nat} {l:Value} (h:PDt k xb j l i wa) (hf:Fr (fun q=>q=d\/q=g) wa o) (A:k.heap.size<=d) (s:k.heap.size<=g) (nx:xb≠d) (ni:j≠d) (z:xb≠g) (p:j≠g):PDt k xb j l i o:=by
 have m:∀ q,q≠d->q≠g->¬ (q=d\/q=g):=fun q a b c=>c.elim a b;exact⟨h.hb.trans (hf.below h.hb.size (fun q u=>by rcases u with rfl|rfl;exact A;exact s)),h.kx.kept hf (m _ nx z),h.ki.kept hf (m _ ni p)⟩
theorem u4t {k:World} {xb j n i:Nat} {g:Value} {x:Nat->Int} (l:Si none k g n x) (hi:i<n):TstA 129 #[.pointer (some ⟨xb,0,none⟩),.pointer (some ⟨j,0,none⟩)] (selZ (x i)) (PDt k xb j g i) :=
 ⟨v8s,fun m d i0 o0 s0 t0=>by
  have h:=u4m m (x0n l d.hb d.kx) d.ki.cell hi i0 o0 s0 t0;rw[show ∀ a b c:Value,(#[a]++#[b,c]:Array Value)=#[a,b,c] from fun _ _ _=>rfl];exact h⟩
def DomX (D:MD) (na:Nat) (x:Nat->Int) (w:World) (r:Ending) (w':World):Prop :=
 Below w.heap.size w w'/\((VM D/\isWord na x=true/\∃ st e0,SilOk D selI st e0/\r=.returned (.tuple #[.string (domE D.inZ st e0 na x).1,.int .i64 ((domE D.inZ st e0 na x).2:Int)])) \/
  (¬ (VM D/\isWord na x=true)/\r=.returned (.tuple #[.string ⟨#[]⟩,.int .i64 1])))
structure DI (w wo wr:World) (cb xb ib rb:Nat) (D:MD) (sv stv xv:Value) (i:Nat) (v:Nat->ByteArray) (e:Nat):Prop where
 hb:Below w.heap.size w wr
 gs:wo.grownBy wr (some cb)
 sc:Scl wr cb D sv stv e
 kx:Bx wr xb 25 xv
 ki:Bx wr ib 3 (.int .i64 (i:Int))
 rv:wr.rowIs rb 9 D.n (fun q=>.string (v q))
theorem u1e {g w j:World} {d:Nat} {C:Nat->Prop} (h:g.grownBy w (some d)) (hf:Fr C w j) (k:∀ q,C q->q=d\/g.heap.size<=q):g.grownBy j (some d) :=
 ⟨hf.os.trans h.os,hf.tape.trans h.tape,hf.output.trans h.output,Nat.le_trans h.size hf.size,fun q i c=>(hf.block q (Nat.lt_of_lt_of_le i h.size) (fun l=>(k q l).elim (fun e=>c (by rw[e])) (fun e=>by omega))).trans (h.block q i c)⟩
theorem DI.fr {w l wr j:World} {g xb k rb:Nat} {D:MD} {sv c d:Value} {i:Nat} {v:Nat->ByteArray} {e:Nat} (h:DI w l wr g xb k rb D sv c d i v e) (hf:Fr (fun _=>False) wr j):DI w l j g xb k rb D sv c d i v e :=
 ⟨h.hb.trans (hf.below h.hb.size (fun _ e=>e.elim)),h.gs.trans (Fr.gbc (hf.mono (fun _ _ e=>e.elim))),h.sc.kept hf (fun e=>e),h.kx.kept hf (fun e=>e),h.ki.kept hf (fun e=>e),hf.row h.rv (fun e=>e)⟩
theorem x7g {D:MD} {mv xv:Value} {na:Nat} {x:Nat->Int} (w:World) (hM:Ma none w mv D) (g3:MSz D) (ht:Tab w) (hx:Si none w xv na x) (i3:(na:Int)<=9223372036854775807) :
  Calls prog 95 #[mv,xv] w (DomX D na x w):=by
 obtain⟨sv,rfl,hS⟩:=hM;obtain⟨a,o,b,m7,A,C,BB,O,l5,_⟩:=hS.open;obtain⟨ax,cx,rfl⟩:=hx.shape;subst l5;obtain⟨w1,a9⟩:=exq (w.alloc (.cells #[.int .i64 D.kind,.int .i64 D.start,.string D.lead,.slice a D.n o] 24));obtain⟨w2,b0⟩:=exq (w1.alloc (.cells #[.slice ax na cx] 25));have f3:w1.heap.size=w.heap.size+1:=by rw[a9];simp
 have k9:w2.heap.size=w.heap.size+1+1:=by rw[b0];simp[f3]
 have i7:Fr (fun _=>False) w w1:=by rw[a9];exact Fr.alloc _ _
 have f4:Fr (fun _=>False) w1 w2:=by rw[b0];exact Fr.alloc _ _
 have e2:BoxM w1 w.heap.size D (.slice a D.n o):=by rw[a9];exact BoxM.new w D _
 have J:BoxM w2 w.heap.size D (.slice a D.n o):=(f4.block _ (by omega) (fun e=>e)).trans e2;have f9:Bx w2 (w.heap.size+1) 25 (.slice ax na cx):=by rw[<- f3,b0];exact heap_alloc_new w1 _
 have c8:Below w.heap.size w w2:=(i7.trans f4).below nlr (fun _ e=>e.elim);obtain⟨mb,e9⟩:=exq (w.heap.size);obtain⟨xb,g5⟩:=exq (w.heap.size+1);rw[<- e9] at J;rw[<- g5] at f9;have m0:=J.c0;have m1:=J.c1;have m2:=J.c2;have m3:=J.c3;have i8:=qh (z1t w2 (⟨_,rfl,hS.kept (z0b c8 none)⟩:Ma none w2 (.agg #[.int .i64 D.kind,.int .i64 D.start,.string D.lead,.slice a D.n o]) D) g3 (ht.below c8 nlr));clear i7 f4 e2 f3 k9;have g0:=qh c8;clear c8;have g9:=qh J;clear J;have Y:=qh f9;clear f9;have b1:=qh g3;clear g3;have X:=qh ht;clear ht;have HX:=qh hx;clear hx;have g2:=qh hS;clear hS
 go_enter func95,ntmps95
 go_wp2_with fail
 rw[<- a9,<- b0,<- g5,<- e9];clear a9 b0 e9 g5 m0 m1 m2 m3;refine i8.out.mono ?_;rintro r w4 ⟨d0,hr⟩;have e6:=g0.out.trans (d0.mono g0.out.size);have e5:BoxM w4 mb D (.slice a D.n o):=(d0.block _ g9.out.lt).trans g9.out;have a3:Bx w4 xb 25 (.slice ax na cx):=(d0.block _ Y.out.lt).trans Y.out;have c4:=a3.cell;have B:=qh e6;clear e6 d0 g0 i8;have E:=qh e5;clear e5 g9;have Q:=qh a3;clear a3 Y
 rcases hr with ⟨hv,rfl⟩|⟨hv,rfl⟩
 rotate_left
 ·have L:=qh hv;clear hv;go_wp2;go_ret2;exact⟨B.out,.inr ⟨fun h=>L.out h.1,rfl⟩⟩
 have L:=qh hv;clear hv;have k0:=qh (y2h w4 (HX.out.kept (z0b B.out none)) i3)
 go_wp2_with fail
 refine k0.out.mono ?_;rintro r w5 ⟨rfl,rfl⟩;cases T:isWord na x
 ·go_wp2;go_ret2;exact⟨B.out,.inr ⟨fun h=>absurd h.2 (by rw[T];simp),rfl⟩⟩
 have l7:na<=200:=by unfold isWord at T;simp at T;exact T.1
 have l0:=qh T;clear T k0 i3 c4;have m0:=E.out.c0;have m1:=E.out.c1;have m2:=E.out.c2;have m3:=E.out.c3;have h4:=qh (y9r w5 L.out (g2.out.kept (z0b B.out none)) b1.out.aw (X.out.below B.out nlr) u4y)
 go_wp2_with fail
 refine h4.out.mono ?_;rintro r w6 ⟨f2,N,W,st,u,rfl,k2,g4,s,d6⟩;have j5:=qh d6;clear d6;have e3:=qh s;clear s;have a1:=qh g4;have e8:=B.out.trans (f2.mono B.out.size);have d5:Bx w6 xb 25 (.slice ax na cx):=(f2.block _ Q.out.lt).trans Q.out;have k:w.heap.size<=N:=Nat.le_trans B.out.size k2;have f1:xb≠N:=by have:=Q.out.lt;omega
 have j3:=qh (y6e w6 g4 L.out.n1 (by have:=L.out.n2;omega) L.out.s0 L.out.s1);clear Q E B f2 g4 k2 m0 m1 m2 m3 h4;have f0:=qh e8;clear e8;have e4:=qh d5;clear d5
 go_wp2_with fail
 refine j3.out.mono ?_;rintro r w7 ⟨rfl,b2,i2⟩;obtain⟨c7,K⟩:=exq (w6.heap.size);rw[<- K] at b2;rw[<- K];have l6:=qh K;clear K;obtain⟨c9,a7⟩:=exq (w7.heap.size);obtain⟨w8,b8⟩:=exq (w7.alloc (.cells #[.int .i64 0] 3));have f7:Fr (fun _=>False) w7 w8:=by rw[b8];exact Fr.alloc _ _
 have G:=i2.trans f7;have b4:DI w w6 w8 N xb c9 c7 D (.slice a D.n o) W (.slice ax na cx) 0 (dwE D.inZ st u x 0).1 (dwE D.inZ st u x 0).2 :=
  ⟨f0.out.trans (G.below f0.out.size (fun _ e=>e.elim)),Fr.gbc (G.mono (fun _ _ e=>e.elim)),a1.out.kept G (fun e=>e),e4.out.kept G (fun e=>e),by rw[b8,a7];exact heap_alloc_new w7 _,f7.row b2 (fun e=>e)⟩
 have g:=qh b4;clear b4;clear j3 i2 f7 G b2
 go_wp2_with fail
 rw[<- b8,<- a7];clear b8 a7 f0 e4
 go_loopw [7,8] (fun v7 v8 wr=>∃ (i ib rb:Nat),i<=na/\v7=.slice (some ⟨rb,0,none⟩) D.n D.n/\v8=.pointer (some ⟨ib,0,none⟩)/\DI w w6 wr N xb ib rb D (.slice a D.n o) W (.slice ax na cx) i (dwE D.inZ st u x i).1 (dwE D.inZ st u x i).2) (fun _ v8 wr=>na+1-ixOf v8 wr)
 case atStart=>exact⟨0,c9,c7,Nat.zero_le _,rfl,rfl,g.out⟩
 obtain⟨i,ib,rb,hi,rfl,rfl,b4⟩:=hrel;clear g;have g:=qh b4;clear b4;obtain⟨v,hv⟩:∃ v,v=(dwE D.inZ st u x i).1:=⟨_,rfl⟩;obtain⟨e,he⟩:∃ e,e=(dwE D.inZ st u x i).2:=⟨_,rfl⟩;have d1:∀ q,smS (v q):=by rw[hv];exact x7p (D:=D.inZ) b1.out.lead b1.out.aw i
 rw[<- hv,<- he] at g;have i6:=qh hv;clear hv;have g7:=qh he;clear he;have HI:=qh (y1m g.out.ki.cell);have ci:=g.out.ki.cell;have i9:=g.out.kx.cell;have c2:=g.out.sc.c5;have s:StV wr W D.n st:=e3.out.later a1.out g.out.sc g.out.gs;have g8:Below w.heap.size w wr:=g.out.hb;by_cases b9:i<na/\e=0
 ·obtain⟨l1,rfl⟩:=b9;have l8:(i:Int)<(na:Int):=by omega
  have m4:∀ (fn:Fn) (first o:Array Value) (w:World),(Instr.makeFunc fn first o).run prog w=.ok (.func fn first o) w:=fun _ _ _ _=>rfl
  have i5:dwE D.inZ st u x (i+1)=z2v D (selZ (x i)) (z3x D.kind D.n st v 0).1 D.n (z1c,(z3x D.kind D.n st v 0).2):=by
   show (if (dwE D.inZ st u x i).2≠0 then dwE D.inZ st u x i else z2v D.inZ (sel3 (x i)) (z3x D.kind D.n st (dwE D.inZ st u x i).1 (dwE D.inZ st u x i).2).1 D.n (z1c,(z3x D.kind D.n st (dwE D.inZ st u x i).1 (dwE D.inZ st u x i).2).2))=_
   rw[<- g7.out,<- i6.out,if_neg (by simp),x0v]
  have l4:=qh i5;clear i5;have a8:=qh d1;clear d1;have j0:=qh (z7j wr g.out.sc L.out.n1 (by have:=L.out.n2;omega));clear s g8
  go_wp2_with fail
  refine j0.out.mono ?_;rintro r wa ⟨rfl,d3,k1,k6⟩;obtain⟨R,a6⟩:=exq (wr.heap.size);rw[<- a6] at d3;rw[<- a6];have f5:w.heap.size<=R:=by rw[a6];exact g.out.hb.size
  have k7:w6.heap.size<=R:=by rw[a6];exact g.out.gs.size
  have j8:N≠R:=by have:=g.out.sc.lt;omega
  have j1:xb≠R:=by have:=g.out.kx.lt;omega
  have k3:ib≠R:=by have:=g.out.ki.lt;omega
  have l9:rb≠R:=by have:=g.out.rv.lt;omega
  have g6:ib≠N:=g.out.ki.ne_scl g.out.sc;have m8:R<wa.heap.size:=d3.lt;have l:=g.out.fr k1;have Z:StV wa W D.n st:=e3.out.later a1.out l.sc l.gs;have a4:=qh (y4y (v:=v) wa L.out l.sc Z l.rv a8.out w l.hb k X.out);have p:=qh l;clear l Z g j0;have k4:=qh d3;clear d3 k1 k6;clear ci i9 c2 a6
  go_wp2_with fail
  refine a4.out.mono ?_;rintro r wb ⟨r1,rfl,I,m,d2,z⟩;have h8:r1≠R:=by rcases d2 with h|h;exact(by omega);omega
  have a2:r1≠N:=z0f I (show wb.heap[N]?=_ from m) (by decide);have d7:=z.row k4.out (fun e=>j8 e.symm);have F:=p.out.hb.trans (z.below p.out.hb.size (fun q e=>by rw[e];exact k));have b7:=p.out.kx.kept z (fun e=>f1 e);have b5:=p.out.ki.kept z (fun e=>g6 e);have d9:=p.out.gs.trans (Fr.gbc z);have j6:=qh (z9w (sel:=selZ (x i)) (P:=PDt w xb ib (.slice ax na cx) i) w wb L.out g2.out F X.out m d7 I k f5 j8 h8 a2 (fun j=>z6s j) (fun j=>y2m a8.out j) b1.out.aw ⟨F,b7,b5⟩ (fun _ _ h hf=>h.fr hf k f5 f1 g6 j1 k3) (u4t HX.out l1));have H:=qh F;clear F;have h0:=qh b7;clear b7;have h9:=qh b5;clear b5;have h6:=qh d9;clear d9;clear I m d2 z d7 k4 p a4
  go_wp2_with fail
  refine j6.out.mono ?_;rintro r wc ⟨rfl,g1,b6,a5⟩;rw[<- l4.out] at g1 b6;have f8:=H.out.trans (a5.below H.out.size (fun q e=>by rcases e with rfl|rfl;exact k;exact f5))
  have hn:∀ q,q≠N->q≠R->¬ (q=N\/q=R):=fun q a b c=>c.elim a b;have d8:=h0.out.kept a5 (hn _ f1 j1);have e7:=h9.out.kept a5 (hn _ g6 k3);have e1:w6.grownBy wc (some N):=u1e h6.out a5 (fun q e=>by rcases e with rfl|rfl;exact .inl rfl;exact .inr k7)
  have ci:=e7.cell;obtain⟨b3,U⟩:=exq (wc.heap.size);obtain⟨wz,d4⟩:=exq (wc.alloc (.cells #[.int .i64 ((i:Int)+1)] 3));have S:Fr (fun _=>False) wc wz:=by rw[d4];exact Fr.alloc wc _
  have h3:Bx wz b3 3 (.int .i64 ((i+1:Nat):Int)):=by rw[d4,U];exact heap_alloc_new wc _
  have i4:DI w w6 wz N xb b3 R D (.slice a D.n o) W (.slice ax na cx) (i+1) (dwE D.inZ st u x (i+1)).1 (dwE D.inZ st u x (i+1)).2 :=
   ⟨f8.trans (S.below f8.size (fun _ e=>e.elim)),e1.trans (Fr.gbc (S.mono (fun _ _ e=>e.elim))),b6.kept S (fun e=>e),d8.kept S (fun e=>e),h3,S.row g1 (fun e=>e)⟩
  have h7:=qh i4;clear i4 f8 d8 e1 b6 g1 S h3 a5 H h0 h9 h6 j6 e7 hn
  go_wp2_with fail
  rw[<- d4,<- U];clear d4 U;go_roundw
  case rel=>exact⟨i+1,b3,R,by omega,rfl,rfl,h7.out⟩
  rw[y1m h7.out.ki.cell,HI.out];omega
 have j2:domE D.inZ st u na x=finC D (z3x D.kind D.n st v e).1 (z3x D.kind D.n st v e).2:=by
  have h1:dwE D.inZ st u x na=dwE D.inZ st u x i:=by
   by_cases h:i=na
   ·rw[h]
   obtain⟨d,rfl⟩:=Nat.le.dest hi;exact y2t (by rw[<- g7.out];exact fun h2=>b9 ⟨by omega,h2⟩) d
  unfold domE;rw[h1,<- i6.out,<- g7.out];exact v3f D _ _
 have k5:=qh j2;clear j2;have a8:=qh d1;clear d1;have a4:=qh (y4y (v:=v) wr L.out g.out.sc s g.out.rv a8.out w g8 k X.out);clear s g8;have j4:(¬ ((i:Int)<(na:Int)))\/((i:Int)<(na:Int)/\¬ ((e:Int)=0)):=by
  by_cases h:i<na
  ·exact .inr ⟨by omega,fun h2=>b9 ⟨h,by omega⟩⟩
  exact .inl (by omega)
 clear b9;have l3:=qh j4;have j7:∀ (wq:World) (Rq:Nat->ByteArray) (eq rq:Nat),True:=fun _ _ _ _=>trivial;clear j7
 rcases j4 with m5|⟨hl,m9⟩
 all_goals
  clear l3
  go_wp2_with fail
  refine a4.out.mono ?_;rintro r wb ⟨r1,rfl,I,m,d2,z⟩;have a2:r1≠N:=z0f I (show wb.heap[N]?=_ from m) (by decide);have F:=g.out.hb.trans (z.below g.out.hb.size (fun q e=>by rw[e];exact k));have h5:=qh (z8k w wb L.out g2.out F X.out m I k a2 (fun j=>y2m a8.out j) b1.out.fin);have H:=qh F;clear F I m d2 z a4 g ci i9 c2
  go_wp2_with fail
  refine h5.out.mono ?_;rintro r wd ⟨rfl,j9⟩;have l2:=qh (H.out.trans (j9.below H.out.size (fun q e=>by rw[e];exact k)));clear j9 h5 H;go_wp2;go_ret2;exact⟨l2.out,.inl ⟨L.out,l0.out,st,u,j5.out,by rw[k5.out];rfl⟩⟩
end
section
open Go.RowKit Go.Deep
theorem x3i {D:MD}:AccD D↔∀ i,i<D.n->anyA D i (fun a b=>!selE a b)=false:=by
 constructor
 ·intro h i hi;refine v1h fun d g=>?_;have:=h i d hi g;simp[selE,this]
 intro h q d k g;have l:=h q k;cases c:selE (D.ain q d) (D.aout q d)
 ·have j:anyA D q (fun a b=>!selE a b)=true:=y6s.2 ⟨d,g,by simp[c]⟩;rw[l] at j;cases j
 unfold selE at c;simp at c;exact c.symm
def TstM (Q:Prop) (w:World) (r:Ending) (w':World):Prop:=Below w.heap.size w w'/\((Q/\r=.returned (.bool true))\/(¬ Q/\r=.returned (.bool false)))
theorem v9j {D:MD} {mv:Value} (w:World) (hM:Ma none w mv D) (a1:MSz D) (ht:Tab w):Calls prog 106 #[mv,.func (.func 107) #[] #[]] w (TstM (VM D/\AccD D) w):=by
 obtain⟨sv,rfl,hS⟩:=hM;obtain⟨a,cp,b,b2,A,C,BB,O,d0,ha,hc,hm,hb,N⟩:=hS.open;subst d0;unfold maxLen at hm;obtain⟨I,l⟩:=exq (w.alloc (.cells #[.int .i64 D.kind,.int .i64 D.start,.string D.lead,.slice a D.n cp] 24));obtain⟨B,u⟩:=exq (I.alloc (.cells #[.func (.func 107) #[] #[]] 100));have b6:I.heap.size=w.heap.size+1:=by rw[l];simp
 have b8:Fr (fun _=>False) w I:=by rw[l];exact Fr.alloc _ _
 have a5:Fr (fun _=>False) I B:=by rw[u];exact Fr.alloc _ _
 have S:I.heap[w.heap.size]?=some (.cells #[.int .i64 D.kind,.int .i64 D.start,.string D.lead,.slice a D.n cp] 24 (0,0)):=by rw[l];exact heap_alloc_new w _
 have d:B.heap[w.heap.size]?=some (.cells #[.int .i64 D.kind,.int .i64 D.start,.string D.lead,.slice a D.n cp] 24 (0,0)):=(a5.block _ (lt_of_block S) (fun e=>e)).trans S;have s:PAl (w.heap.size+1) 107 B:=by show B.heap[w.heap.size+1]?=_;rw[<- b6,u];exact heap_alloc_new I _
 have F:Below w.heap.size w B:=(b8.trans a5).below nlr (fun _ e=>e.elim);obtain⟨mb,R⟩:=exq (w.heap.size);obtain⟨Y,a3⟩:=exq (w.heap.size+1);obtain⟨⟨m0,m1,m2,m3⟩,_⟩:=cells4 d;have b0:=qh (z1t B (⟨_,rfl,hS.kept (z0b F none)⟩:Ma none B (.agg #[.int .i64 D.kind,.int .i64 D.start,.string D.lead,.slice a D.n cp]) D) a1 (ht.below F nlr));rw[<- R] at d;rw[<- a3] at s;have d2:mb<B.heap.size:=lt_of_block d;have U:=qh F;clear F;have a4:=qh d;clear d S b8 a5 b6;have o:=qh s;clear s;have d8:=qh hS;clear hS;have HT:=qh ht;clear ht;have d7:=qh a1;clear a1;have HA:=qh ha;clear ha;have HB:=qh hb;clear hb;have HR:=qh N;clear N;rw[u,l] at m0 m1 m2 m3
 go_enter func106,ntmps106
 go_wp2_with fail
 rw[<- l,<- u,<- a3,<- R];clear m0 m1 m2 m3 l u R a3;refine b0.out.mono ?_;rintro r w3 ⟨E,hr⟩;have J:=U.out.trans (E.mono U.out.size);have d:=(E.block _ (lt_of_block a4.out)).trans a4.out;have s:PAl Y 107 w3:=(E.block _ (lt_of_block o.out)).trans o.out;obtain⟨⟨m0,m1,m2,m3⟩,_⟩:=cells4 d;clear E a4 o b0 U d2;have T:=qh J;clear J;have o:=qh s;clear s d
 rcases hr with ⟨W,rfl⟩|⟨W,rfl⟩
 rotate_left
 ·have HV:=qh W;clear W;go_wp2;go_ret;exact⟨T.out,.inr ⟨fun h=>HV.out h.1,rfl⟩⟩
 have c9:=W.n1;have d1:=W.n2;have HV:=qh W;clear W;obtain rfl:=HA.out (by omega);obtain⟨n,hn⟩:=exq (D.n);rw[<- hn] at c9 d1 m3 hc;have HN:=qh hn;rw[<- hn];clear hn
 go_wp2_with fail
 clear m0 m1 m2 m3
 go_loopw [13] (fun a2 wr=>∃ i:Nat,i<=n/\a2=.int .i64 (i:Int)/\Below w.heap.size w wr/\PAl Y 107 wr/\∀ j,j<i->anyA D j (fun a b=>!selE a b)=false) (fun a2 _=>n-(intOf a2).toNat)
 case atStart=>exact⟨0,Nat.zero_le _,rfl,T.out,o.out,fun j hj=>by omega⟩
 obtain⟨i,hi,rfl,b4,b5,b7⟩:=hrel;clear T o;have b1:=qh b7;clear b7;have m:=qh b4;clear b4;have X:=qh b5;clear b5;by_cases d9:i<n
 ·have d6:(i:Int)<(n:Int):=by omega
  have d3:(0:Int)<=(i:Int):=by omega
  have c7:i<D.n:=by have:=HN.out;omega
  have b3:=(HB.out (by have:=HN.out;omega)).1;obtain⟨k1,k2,k3,k4,k5,k6,k7⟩:=HR.out i c7;have t0:=(m.out.cell (p:=⟨b,b2+i*2,none⟩) b3).trans k1;have t1:=(m.out.cell (p:=⟨b,b2+i*2+1,none⟩) b3).trans k2;clear k1 k2;have a8:D.na i<=30000:=by have h1:=Nat.le_trans (z1u D (show i+1<=D.n by omega)) HV.out.arcs;have h2:z0h D (i+1)=z0h D i+D.na i:=rfl;omega
  obtain⟨w4,Z⟩:=exq (wr.alloc (.cells #[.string (D.fin i),.slice (A i) (D.na i) (C i)] 57));have P:Below wr.heap.size wr w4:=by rw[Z];exact(Below.refl _ wr).alloc nlr _
  have c:=m.out.trans (P.mono m.out.size);have g:PAl Y 107 w4:=(P.block _ (lt_of_block X.out)).trans X.out;have K:ArS none w4 (.slice (A i) (D.na i) (C i)) D i:=by
   by_cases h0:D.na i=0
   ·exact .inl ⟨h0,A i,C i,by rw[h0],k4⟩
   refine .inr ⟨BB i,O i,C i,by rw[k5 (by omega)],⟨Nat.lt_of_lt_of_le (k6 (by omega)).1 c.size,by simp⟩,k3,k4,fun k hk=>?_⟩;obtain⟨uu0,uu1,uu2,uu3⟩:=k7 k hk;have G:=(k6 (by omega)).1;exact⟨(c.cell (p:=⟨BB i,O i+k*4,none⟩) G).trans uu0,(c.cell (p:=⟨BB i,O i+k*4+1,none⟩) G).trans uu1,(c.cell (p:=⟨BB i,O i+k*4+2,none⟩) G).trans uu2,(c.cell (p:=⟨BB i,O i+k*4+3,none⟩) G).trans uu3⟩
  have d5:∀ (fn:Fn) (first cap:Array Value) (w:World),(Instr.makeFunc fn first cap).run prog w=.ok (.func fn first cap) w:=fun _ _ _ _=>rfl
  have HC:=qh (y7j w4 K a8 (u5g Y u4u) (fun wb hb=>(hb.block _ (lt_of_block g)).trans g));have Q:=qh c;clear c P K k3 k4 k5 k6 k7;have z:=qh g;clear g X m
  go_wp2_with fail
  rw[<- Z];clear t0 t1 Z;refine HC.out.mono ?_;rintro r w5 ⟨rfl,a6⟩;have H:=Q.out.trans (a6.mono Q.out.size);have L:PAl Y 107 w5:=(a6.block _ (lt_of_block z.out)).trans z.out;have b9:=qh H;clear H a6 Q HC;have a9:=qh L;clear L z;cases hp:anyA D i (fun a b=>!selE a b)
  ·have a7:=qh hp;clear hp;go_wp2;go_roundw
   case rel=>exact⟨i+1,by omega,by go_num,b9.out,a9.out,fun j hj=>by
    by_cases e:j=i
    ·subst e;exact a7.out
    exact b1.out j (by omega)⟩
   simp[intOf];omega
  have a7:=qh hp;clear hp;go_wp2;go_ret;exact⟨b9.out,.inr ⟨fun h=>absurd (x3i.1 h.2 i (by have:=HN.out;omega)) (by rw[a7.out];simp),rfl⟩⟩
 have c8:n=i:=by omega
 subst c8;have d4:¬ ((n:Int)<(n:Int)):=by omega
 go_wp2;go_ret;exact⟨m.out,.inl ⟨⟨HV.out,x3i.2 (fun i hi=>b1.out i (by rw[HN.out];exact hi))⟩,rfl⟩⟩
theorem y7b {D:MD} {mv:Value} (w:World) (I:Ma none w mv D) (i:MSz D) (B:Tab w):Calls prog 62 #[mv] w (TstM (VM D/\AccD D) w):=by
 obtain⟨sv,rfl,z⟩:=I;obtain⟨a,p,b,H,A,C,BB,O,u,_⟩:=z.open;subst u;obtain⟨h,c⟩:=exq (w.alloc (.cells #[.int .i64 D.kind,.int .i64 D.start,.string D.lead,.slice a D.n p] 24));have d:Below w.heap.size w h:=by rw[c];exact(Below.refl _ w).alloc nlr _
 have m:h.heap[w.heap.size]?=some (.cells #[.int .i64 D.kind,.int .i64 D.start,.string D.lead,.slice a D.n p] 24 (0,0)):=by rw[c];exact heap_alloc_new w _
 obtain⟨⟨m0,m1,F,E⟩,_⟩:=cells4 m;have j:=qh (v9j h (⟨_,rfl,z.kept (z0b d none)⟩:Ma none h (.agg #[.int .i64 D.kind,.int .i64 D.start,.string D.lead,.slice a D.n p]) D) i (B.below d nlr));have g:=qh d;clear d m i B z;rw[c] at m0 m1 F E
 go_enter func62,ntmps62
 go_wp2_with fail
 rw[<- c];clear m0 m1 F E c;refine j.out.mono ?_;rintro r J ⟨k,G⟩;have o:=qh (g.out.trans (k.mono g.out.size));clear k g j
 rcases G with ⟨l,rfl⟩|⟨l,rfl⟩
 ·have s:=qh l;clear l;go_wp2;go_ret;exact⟨o.out,.inl ⟨s.out,rfl⟩⟩
 have s:=qh l;clear l;go_wp2;go_ret;exact⟨o.out,.inr ⟨s.out,rfl⟩⟩
def AccE (D:MD) (na:Nat) (x:Nat->Int) (w:World) (r:Ending) (w':World):Prop :=
 Below w.heap.size w w'/\∃ z:ByteArray × Nat,r=.returned (.tuple #[.string z.1,.int .i64 (z.2:Int)])/\((VM D/\isWord na x=true/\AccD D/\Dv D na x z)\/(VM D/\isWord na x=true/\¬ AccD D/\z=(⟨#[]⟩,6))\/(¬ (VM D/\isWord na x=true)/\z=(⟨#[]⟩,1)))
def DomE (D:MD) (na:Nat) (x:Nat->Int) (w:World) (r:Ending) (w':World):Prop :=
 Below w.heap.size w w'/\∃ z:ByteArray × Nat,r=.returned (.tuple #[.string z.1,.int .i64 (z.2:Int)])/\((VM D/\isWord na x=true/\Dv D na x z)\/(¬ (VM D/\isWord na x=true)/\z=(⟨#[]⟩,1)))
theorem DomX.v {D:MD} {na:Nat} {x:Nat->Int} {w:World} {r:Ending} {m:World} (h:DomX D na x w r m):DomE D na x w r m:=by
 refine⟨h.1,?_⟩
 rcases h.2 with ⟨i,s,st,l,z,c⟩|⟨A,c⟩
 ·refine⟨_,c,.inl ⟨i,s,fun p k o=>?_⟩⟩;by_cases j:l=0
  ·subst j;exact(v9z i.inZ o (z.stZ (fun _ _=>rfl) o) (isWord.ne s) p).2
  have B:=z9x p;have u:=y4x B;by_cases d:(dwE D.inZ st l x 0).2=0
  ·exact absurd d j
  have g:=y2t (D:=D.inZ) (st:=st) (x:=x) d na;rw[Nat.zero_add] at g;rw[g] at u;exact absurd u d
 exact⟨(⟨#[]⟩,1),c,.inr ⟨A,rfl⟩⟩
theorem x2t {D:MD} {mv g:Value} {na:Nat} {x:Nat->Int} (w:World) (i:Ma none w mv D) (c:MSz D) (j:Tab w) (k:Si none w g na x) (d:(na:Int)<=9223372036854775807) :
  Calls prog 95 #[mv,g] w (DomE D na x w):=(x7g w i c j k d).mono fun _ _ h=>h.v
theorem y3w {D:MD} {mv xv:Value} {na:Nat} {x:Nat->Int} (w:World) (hM:Ma none w mv D) (B:MSz D) (Z:Tab w) (hx:Si none w xv na x) (T:(na:Int)<=9223372036854775807) :
  Calls prog 42 #[mv,xv] w (AccE D na x w):=by
 obtain⟨sv,rfl,hS⟩:=hM;obtain⟨a,cp,b,a3,A,C,BB,O,a1,_⟩:=hS.open;subst a1;obtain⟨ax,cx,rfl⟩:=hx.shape;obtain⟨H,g⟩:=exq (w.alloc (.cells #[.int .i64 D.kind,.int .i64 D.start,.string D.lead,.slice a D.n cp] 24));have j:Below w.heap.size w H:=by rw[g];exact(Below.refl _ w).alloc nlr _
 obtain⟨mb,i⟩:=exq (w.heap.size);have o:H.heap[mb]?=some (.cells #[.int .i64 D.kind,.int .i64 D.start,.string D.lead,.slice a D.n cp] 24 (0,0)):=by rw[g,i];exact heap_alloc_new w _
 obtain⟨⟨m0,m1,I,G⟩,_⟩:=cells4 o;have m:∀ W,Below w.heap.size w W->Ma none W (.agg #[.int .i64 D.kind,.int .i64 D.start,.string D.lead,.slice a D.n cp]) D:=fun W h=>⟨_,rfl,hS.kept (z0b h none)⟩;have J:=qh (z1t H (m H j) B (Z.below j nlr));have R:=qh m;clear m hS;have p:=qh j;clear j;have s:=qh o;clear o;have L:=qh B;clear B;have HT:=qh Z;clear Z;have HX:=qh hx;clear hx;rw[g,i] at m0 m1 I G
 go_enter func42,ntmps42
 go_wp2_with fail
 rw[<- g,<- i];clear m0 m1 I G g i;refine J.out.mono ?_;rintro r w2 ⟨F,hr⟩;have u:=(F.block _ (lt_of_block s.out)).trans s.out;have c:=qh (p.out.trans (F.mono p.out.size));clear F J p s;obtain⟨⟨m0,m1,I,G⟩,_⟩:=cells4 u;have E:=qh u;clear u
 rcases hr with ⟨Q,rfl⟩|⟨Q,rfl⟩
 rotate_left
 ·have P:=qh Q;clear Q;go_wp2;go_ret2;exact⟨c.out,(⟨#[]⟩,1),rfl,.inr (.inr ⟨fun h=>P.out h.1,rfl⟩)⟩
 have P:=qh Q;clear Q;have HW:=qh (y2h w2 (HX.out.kept (z0b c.out none)) T)
 go_wp2_with fail
 refine HW.out.mono ?_;rintro r w3 ⟨rfl,rfl⟩;cases l:isWord na x
 ·go_wp2;go_ret2;exact⟨c.out,(⟨#[]⟩,1),rfl,.inr (.inr ⟨fun h=>absurd h.2 (by rw[l];simp),rfl⟩)⟩
 have U:=qh l;clear l HW;have N:=qh (y7b w3 (R.out w3 c.out) L.out (HT.out.below c.out nlr))
 go_wp2_with fail
 refine N.out.mono ?_;rintro r w4 ⟨k,hr⟩;have K:=(k.block _ (lt_of_block E.out)).trans E.out;clear m0 m1 I G;have d:=qh (c.out.trans (k.mono c.out.size));clear k N c E;obtain⟨⟨m0,m1,I,G⟩,_⟩:=cells4 K;clear K
 rcases hr with ⟨S,rfl⟩|⟨S,rfl⟩
 rotate_left
 ·have HQ:=qh S;clear S;go_wp2;go_ret2;exact⟨d.out,(⟨#[]⟩,6),rfl,.inr (.inl ⟨P.out,U.out,fun h=>HQ.out ⟨P.out,h⟩,rfl⟩)⟩
 have HQ:=qh S;clear S;have Y:=qh (x2t w4 (R.out w4 d.out) L.out (HT.out.below d.out nlr) (HX.out.kept (z0b d.out none)) T)
 go_wp2_with fail
 clear m0 m1 I G;refine Y.out.mono ?_;rintro r w5 ⟨X,z,rfl,hz⟩;have a2:=qh (d.out.trans (X.mono d.out.size));clear X d Y;have HZ:=qh hz;clear hz;go_wp2;go_ret2;refine⟨a2.out,z,rfl,?_⟩
 rcases HZ.out with ⟨h1,h2,h3⟩|⟨h1,_⟩
 ·exact .inl ⟨h1,h2,HQ.out.2,h3⟩
 exact absurd ⟨P.out,U.out⟩ h1
end
section
open Go.RowKit Go.Deep
def MD.outZ (D:MD):MD:={ D with ain:=fun _ _=>0 }
theorem v4r (D:MD):D.sym (fun _ o=>(0,o))=D.outZ:=rfl
theorem v8q:∀ args w,(callFunc 63 args).run prog w=.ok (.enter 63 args) w:=fun args w=>by kernel_rfl
theorem u1k:∀ args w,(callFunc 64 args).run prog w=.ok (.enter 64 args) w:=fun args w=>by kernel_rfl
theorem u4h (w:World) (i o:Int):Calls prog 63 #[.int .i64 i,.int .i64 o] w (fun r w'=>r=.returned (.tuple #[.int .i64 i,.int .i64 0])/\w'=w):=by
 go_enter func63,ntmps63
 go_wp2;go_ret2;exact⟨rfl,rfl⟩
theorem u4j (w:World) (i o:Int):Calls prog 64 #[.int .i64 i,.int .i64 o] w (fun r w'=>r=.returned (.tuple #[.int .i64 0,.int .i64 o])/\w'=w):=by
 go_enter func64,ntmps64
 go_wp2;go_ret2;exact⟨rfl,rfl⟩
theorem VM.outZ {D:MD} (h:VM D):VM D.outZ:=h.sym (φ:=fun _ o=>(0,o)) (fun i o _ _ c d=>⟨by show (0:Int)<=0;omega,by show (0:Int)<=500;omega,c,d⟩)
def accQ (D E:MD):Prop:=AccD D/\AccD E/\D.kind=E.kind
def CrsE (D E:MD) (w:World) (r:Ending) (w':World):Prop :=
 Below w.heap.size w w'/\((VM D/\VM E/\accQ D E /\
  ((
   dnOk (tmF (z0n D.kind D.lead E.lead) 0) (E.n+D.n) (catA D.inZ E.outZ)/\∃ sv R,r=.returned (.tuple #[.agg #[.int .i64 D.kind,.int .i64 ((E.n:Int)+D.start),.string (z0n D.kind D.lead E.lead).1,sv],.int .i64 0])/\OwM w' w.heap.size sv (catD D.inZ E.outZ (z0n D.kind D.lead E.lead).1) R) \/
   (¬ dnOk (tmF (z0n D.kind D.lead E.lead) 0) (E.n+D.n) (catA D.inZ E.outZ)/\r=.returned (.tuple #[z7f,.int .i64 2])))) \/
  (VM D/\VM E/\¬ accQ D E/\r=.returned (.tuple #[z7f,.int .i64 6]))\/(¬ (VM D/\VM E)/\r=.returned (.tuple #[z7f,.int .i64 1])))
theorem OwM.ma {w c:World} {B:Nat} {sv:Value} {D:MD} {R:Nat->Value} (h:OwM w B sv D R) (hb:Below w.heap.size w c):Ma none c (.agg #[.int .i64 D.kind,.int .i64 D.start,.string D.lead,sv]) D:=⟨sv,rfl,h.sts.kept (z0b hb none)⟩
theorem x9x {D E:MD} {mv nv:Value} (w:World) (hM:Ma none w mv D) (hN:Ma none w nv E) (g3:MSz D) (j5:MSz E) (ht:Tab w) (e4:E.n+D.n<=1000) (d6:z0h D D.n+z0h E E.n<=1000):Calls prog 29 #[mv,nv] w (CrsE D E w):=by
 obtain⟨sv,rfl,hS⟩:=hM;obtain⟨sw,rfl,f4⟩:=hN;obtain⟨a,cp,_,_,_,_,_,_,g7,_⟩:=hS.open;obtain⟨a2,c9,_,_,_,_,_,_,j7,_⟩:=f4.open;subst g7;subst j7;have e8:∀ W,Below w.heap.size w W->Ma none W (.agg #[.int .i64 D.kind,.int .i64 D.start,.string D.lead,.slice a D.n cp]) D:=fun W h=>⟨_,rfl,hS.kept (z0b h none)⟩;have d5:∀ W,Below w.heap.size w W->Ma none W (.agg #[.int .i64 E.kind,.int .i64 E.start,.string E.lead,.slice a2 E.n c9]) E:=fun W h=>⟨_,rfl,f4.kept (z0b h none)⟩;have g8:∀ W,Below w.heap.size w W->Tab W:=fun W h=>ht.below h nlr;obtain⟨w1,Y⟩:=exq (w.alloc (.cells #[.int .i64 D.kind,.int .i64 D.start,.string D.lead,.slice a D.n cp] 24));obtain⟨w2,Z⟩:=exq (w1.alloc (.cells #[.int .i64 E.kind,.int .i64 E.start,.string E.lead,.slice a2 E.n c9] 24));obtain⟨w3,b8⟩:=exq (w2.alloc (.cells #[.int .i64 0,.int .i64 0,.string ⟨#[]⟩,.slice none 0 0] 24));have f9:w1.heap.size=w.heap.size+1:=by rw[Y];simp
 have h4:w2.heap.size=w.heap.size+1+1:=by rw[Z];simp[f9]
 have h6:Fr (fun _=>False) w w1:=by rw[Y];exact Fr.alloc _ _
 have g2:Fr (fun _=>False) w1 w2:=by rw[Z];exact Fr.alloc _ _
 have d1:Fr (fun _=>False) w2 w3:=by rw[b8];exact Fr.alloc _ _
 have f7:w1.heap[w.heap.size]?=some (.cells #[.int .i64 D.kind,.int .i64 D.start,.string D.lead,.slice a D.n cp] 24 (0,0)):=by rw[Y];exact heap_alloc_new w _
 have m:w3.heap[w.heap.size]?=some (.cells #[.int .i64 D.kind,.int .i64 D.start,.string D.lead,.slice a D.n cp] 24 (0,0)):=(d1.block _ (by omega) (fun e=>e)).trans ((g2.block _ (lt_of_block f7) (fun e=>e)).trans f7);have e1:w2.heap[w.heap.size+1]?=some (.cells #[.int .i64 E.kind,.int .i64 E.start,.string E.lead,.slice a2 E.n c9] 24 (0,0)):=by rw[<- f9,Z];exact heap_alloc_new w1 _
 have j:w3.heap[w.heap.size+1]?=some (.cells #[.int .i64 E.kind,.int .i64 E.start,.string E.lead,.slice a2 E.n c9] 24 (0,0)):=(d1.block _ (by omega) (fun e=>e)).trans e1;have d:w3.heap[w.heap.size+1+1]?=some (.cells #[.int .i64 0,.int .i64 0,.string ⟨#[]⟩,.slice none 0 0] 24 (0,0)):=by rw[<- h4,b8];exact heap_alloc_new w2 _
 have d2:Below w.heap.size w w3:=((h6.trans g2).trans d1).below nlr (fun _ e=>e.elim);obtain⟨mb,c8⟩:=exq (w.heap.size);obtain⟨nb,e9⟩:=exq (w.heap.size+1);obtain⟨I,e6⟩:=exq (w.heap.size+1+1);have P:w.heap.size<=I:=by omega
 rw[<- c8] at m;rw[<- e9] at j;rw[<- e6] at d;obtain⟨⟨m0,m1,m2,m3⟩,_⟩:=cells4 m;have h8:=qh (z1t w3 (e8 w3 d2) g3 (g8 w3 d2));have j3:=qh e8;clear e8 hS;have f5:=qh d5;clear d5 f4;have U:=qh g8;clear g8 ht;have f8:=qh d2;clear d2;have k:=qh m;clear m f7 h6 g2 d1 f9 h4 e1;have g:=qh j;clear j;have c:=qh d;clear d;have g0:=qh g3;clear g3;have d3:=qh j5;clear j5;have h7:=qh e4;clear e4;have h9:=qh d6;clear d6;rw[c8,b8,Z,Y] at m0 m1 m2 m3
 go_enter func29,ntmps29
 go_wp2_with fail
 rw[<- Y,<- Z,<- b8,<- e6,<- e9,<- c8];clear m0 m1 m2 m3 Y Z b8 c8 e9 e6;refine h8.out.mono ?_;rintro r w4 ⟨b3,C⟩;have m:=(b3.block _ (lt_of_block k.out)).trans k.out;have j:=(b3.block _ (lt_of_block g.out)).trans g.out;have d:=(b3.block _ (lt_of_block c.out)).trans c.out;have a3:=qh (f8.out.trans (b3.mono f8.out.size));clear b3 k g c h8 f8;have k:=qh m;clear m;have g:=qh j;clear j;have c:=qh d;clear d
 rcases C with ⟨hv,rfl⟩|⟨hv,rfl⟩
 rotate_left
 ·have HV:=qh hv;clear hv;obtain⟨⟨r0,r1,r2,r3⟩,l⟩:=cells4 c.out;have f0:=l 0;have f1:=l 1;have f2:=l 2;have f3:=l 3;clear l
  go_wp2_with fail
  exact bodyPost_ret (z0j rfl _ (b:=I) rfl rfl (z0w w4 I _ _ _ _ c.out)) rfl ⟨z0d a3.out P _ _ _ _,.inr (.inr ⟨fun h=>HV.out h.1,rfl⟩)⟩
 have HV:=qh hv;clear hv;obtain⟨⟨n0,n1,n2,n3⟩,_⟩:=cells4 g.out;have j1:=qh (z1t w4 (f5.out w4 a3.out) d3.out (U.out w4 a3.out))
 go_wp2_with fail
 clear n0 n1 n2 n3;refine j1.out.mono ?_;rintro r w5 ⟨c7,C⟩;have m:=(c7.block _ (lt_of_block k.out)).trans k.out;have j:=(c7.block _ (lt_of_block g.out)).trans g.out;have d:=(c7.block _ (lt_of_block c.out)).trans c.out;have X:=qh (a3.out.trans (c7.mono a3.out.size));clear c7 k g c j1 a3;have k:=qh m;clear m;have g:=qh j;clear j;have c:=qh d;clear d
 rcases C with ⟨hv,rfl⟩|⟨hv,rfl⟩
 rotate_left
 ·have p:=qh hv;clear hv;obtain⟨⟨r0,r1,r2,r3⟩,l⟩:=cells4 c.out;have f0:=l 0;have f1:=l 1;have f2:=l 2;have f3:=l 3;clear l
  go_wp2_with fail
  exact bodyPost_ret (z0j rfl _ (b:=I) rfl rfl (z0w w5 I _ _ _ _ c.out)) rfl ⟨z0d X.out P _ _ _ _,.inr (.inr ⟨fun h=>p.out h.2,rfl⟩)⟩
 have p:=qh hv;clear hv;obtain⟨⟨m0,m1,m2,m3⟩,_⟩:=cells4 k.out;have i8:=qh (y7b w5 (j3.out w5 X.out) g0.out (U.out w5 X.out))
 go_wp2_with fail
 clear m0 m1 m2 m3;refine i8.out.mono ?_;rintro r w6 ⟨a7,C⟩;have m:=(a7.block _ (lt_of_block k.out)).trans k.out;have j:=(a7.block _ (lt_of_block g.out)).trans g.out;have d:=(a7.block _ (lt_of_block c.out)).trans c.out;have T:=qh (X.out.trans (a7.mono X.out.size));clear a7 k g c i8 X;have k:=qh m;clear m;have g:=qh j;clear j;have c:=qh d;clear d
 rcases C with ⟨hq,rfl⟩|⟨hq,rfl⟩
 rotate_left
 ·have b4:=qh (show ¬ accQ D E from fun h=>hq ⟨HV.out,h.1⟩);clear hq;obtain⟨⟨r0,r1,r2,r3⟩,l⟩:=cells4 c.out;have f0:=l 0;have f1:=l 1;have f2:=l 2;have f3:=l 3;clear l
  go_wp2_with fail
  exact bodyPost_ret (z0j rfl _ (b:=I) rfl rfl (z0w w6 I _ _ _ _ c.out)) rfl ⟨z0d T.out P _ _ _ _,.inr (.inl ⟨HV.out,p.out,b4.out,rfl⟩)⟩
 have j8:=qh hq;clear hq;obtain⟨⟨n0,n1,n2,n3⟩,_⟩:=cells4 g.out;have h3:=qh (y7b w6 (f5.out w6 T.out) d3.out (U.out w6 T.out))
 go_wp2_with fail
 clear n0 n1 n2 n3;refine h3.out.mono ?_;rintro r w7 ⟨b6,C⟩;have m:=(b6.block _ (lt_of_block k.out)).trans k.out;have j:=(b6.block _ (lt_of_block g.out)).trans g.out;have d:=(b6.block _ (lt_of_block c.out)).trans c.out;have B:=qh (T.out.trans (b6.mono T.out.size));clear b6 k g c h3 T;have k:=qh m;clear m;have g:=qh j;clear j;have c:=qh d;clear d
 rcases C with ⟨hq,rfl⟩|⟨hq,rfl⟩
 rotate_left
 ·have b4:=qh (show ¬ accQ D E from fun h=>hq ⟨p.out,h.2.1⟩);clear hq;obtain⟨⟨r0,r1,r2,r3⟩,l⟩:=cells4 c.out;have f0:=l 0;have f1:=l 1;have f2:=l 2;have f3:=l 3;clear l
  go_wp2_with fail
  exact bodyPost_ret (z0j rfl _ (b:=I) rfl rfl (z0w w7 I _ _ _ _ c.out)) rfl ⟨z0d B.out P _ _ _ _,.inr (.inl ⟨HV.out,p.out,b4.out,rfl⟩)⟩
 have j6:=qh hq;clear hq;by_cases d4:D.kind=E.kind
 rotate_left
 ·have b4:=qh (show ¬ accQ D E from fun h=>d4 h.2.2);obtain⟨⟨r0,r1,r2,r3⟩,l⟩:=cells4 c.out;have f0:=l 0;have f1:=l 1;have f2:=l 2;have f3:=l 3;clear l;have m0:=(cells4 k.out).1.1;have n0:=(cells4 g.out).1.1
  go_wp2_with fail
  exact bodyPost_ret (z0j rfl _ (b:=I) rfl rfl (z0w w7 I _ _ _ _ c.out)) rfl ⟨z0d B.out P _ _ _ _,.inr (.inl ⟨HV.out,p.out,b4.out,rfl⟩)⟩
 have HQ:=qh (show accQ D E from ⟨j8.out.2,j6.out.2,d4⟩);have i4:=qh d4;clear d4;obtain⟨⟨m0,m1,m2,m3⟩,_⟩:=cells4 k.out;have n0:=(cells4 g.out).1.1;rw[<- i4.out] at n0;have e7:=z6g (φ:=fun i _=>(i,0)) w7 (j3.out w7 B.out) g0.out (U.out w7 B.out) (y3u v8q (fun w i o=>u4h w i o)) trivial (fun _ _=>trivial);rw[u0q] at e7;have i5:=qh e7;clear e7
 go_wp2_with fail
 clear m0 m1 m2 m3 n0;refine i5.out.mono ?_;rintro r w8 ⟨d0,C⟩;have j:=(d0.block _ (lt_of_block g.out)).trans g.out;have d:=(d0.block _ (lt_of_block c.out)).trans c.out;have g6:=qh (B.out.trans (d0.mono B.out.size));have k4:w.heap.size<=w7.heap.size:=B.out.size;clear d0 k g c i5 B;have g:=qh j;clear j;have c:=qh d;clear d
 rcases C with ⟨_,k2,R1,rfl,N⟩|⟨b9,_⟩
 rotate_left
 ·exact absurd HV.out b9
 obtain⟨i7,i6,j2,_,_⟩:=z1e N.top;subst j2;obtain⟨ib,e5⟩:=exq (w8.heap.size);obtain⟨w9,b1⟩:=exq (w8.alloc (.cells #[.int .i64 D.inZ.kind,.int .i64 D.inZ.start,.string D.inZ.lead,.slice i7 D.inZ.n i6] 24));have a9:Below w8.heap.size w8 w9:=by rw[b1];exact(Below.refl _ w8).alloc nlr _
 have H:w9.heap[ib]?=some (.cells #[.int .i64 D.inZ.kind,.int .i64 D.inZ.start,.string D.inZ.lead,.slice i7 D.inZ.n i6] 24 (0,0)):=by rw[b1,e5];exact heap_alloc_new w8 _
 have j:=(a9.block _ (lt_of_block g.out)).trans g.out;have d:=(a9.block _ (lt_of_block c.out)).trans c.out;have S:=g6.out.trans (a9.mono g6.out.size);have b0:=z6g (φ:=fun _ o=>(0,o)) w9 (f5.out w9 S) d3.out (U.out w9 S) (y3u u1k (fun w i o=>u4j w i o)) trivial (fun _ _=>trivial);rw[v4r] at b0;have e3:=fun W (h:Below w8.heap.size w8 W)=>N.ma h;obtain⟨⟨n0,n1,n2,n3⟩,_⟩:=cells4 j;rw[b1] at n0 n1 n2 n3;have d8:=qh b0;clear b0;have d7:=qh e3;clear e3 N;have g5:=qh a9;clear a9;have a8:=qh S;clear S g6;have K:=qh H;clear H;have g:=qh j;clear j;have c:=qh d;clear d
 go_wp2_with fail
 rw[<- e5,<- b1];clear n0 n1 n2 n3 e5 b1;refine d8.out.mono ?_;rintro r a1 ⟨A,C⟩;have H:=(A.block _ (lt_of_block K.out)).trans K.out;have d:=(A.block _ (lt_of_block c.out)).trans c.out;have b5:=a8.out.trans (A.mono a8.out.size);have a6:=g5.out.trans (A.mono g5.out.size);clear A g c K d8 g5;have c:=qh d;clear d;have K:=qh H;clear H;have L:=qh b5;clear b5 a8;have O:=qh a6;clear a6
 rcases C with ⟨_,k1,R2,rfl,J⟩|⟨b9,_⟩
 rotate_left
 ·exact absurd p.out b9
 obtain⟨i9,g9,h0,_,_⟩:=z1e J.top;subst h0;obtain⟨ob,g4⟩:=exq (a1.heap.size);obtain⟨G,F⟩:=exq (a1.alloc (.cells #[.int .i64 E.outZ.kind,.int .i64 E.outZ.start,.string E.outZ.lead,.slice i9 E.outZ.n g9] 24));have s:Below a1.heap.size a1 G:=by rw[F];exact(Below.refl _ a1).alloc nlr _
 have j4:G.heap[ob]?=some (.cells #[.int .i64 E.outZ.kind,.int .i64 E.outZ.start,.string E.outZ.lead,.slice i9 E.outZ.n g9] 24 (0,0)):=by rw[F,g4];exact heap_alloc_new a1 _
 have H:=(s.block _ (lt_of_block K.out)).trans K.out;have d:=(s.block _ (lt_of_block c.out)).trans c.out;have Q:=L.out.trans (s.mono L.out.size);have a4:=O.out.trans (s.mono O.out.size);have e0:=x6f G (d7.out G a4) (J.ma s) ({ g0.out with }:MSz D.inZ) ({ d3.out with }:MSz E.outZ) (U.out G Q) h7.out (by
  have h1:z0h D.inZ D.n=z0h D D.n:=y1q D D.n;have h2:z0h E.outZ E.n=z0h E E.n:=y1d (fun _ o=>(0,o)) E E.n;have:=h9.out;show z0h D.inZ D.n+z0h E.outZ E.n<=1000;rw[h1,h2];exact this)
 obtain⟨⟨o0,o1,o2,o3⟩,_⟩:=cells4 j4;obtain⟨⟨i0,i1,i2,i3⟩,_⟩:=cells4 H;rw[F] at o0 o1 o2 o3 i0 i1 i2 i3;rw[g4] at o0 o1 o2 o3;have e2:=qh e0;clear e0;have u:=qh Q;clear Q L a4 O s J d7;have c:=qh d;clear d H j4 K
 go_wp2_with fail
 rw[<- F];clear o0 o1 o2 o3 i0 i1 i2 i3 F g4;refine e2.out.mono ?_;rintro r h5 ⟨b7,C⟩;have d:=(b7.block _ (lt_of_block c.out)).trans c.out;have d9:=qh (u.out.trans (b7.mono u.out.size));have j9:w.heap.size<=G.heap.size:=u.out.size;clear b7 e2 u c;have c:=qh d;clear d;obtain⟨⟨r0,r1,r2,r3⟩,l⟩:=cells4 c.out;have f0:=l 0;have f1:=l 1;have f2:=l 2;have f3:=l 3;clear l;unfold z7f at C
 rcases C with ⟨-,-,-,C⟩|⟨_,_,k0,_⟩|⟨b9,_⟩
 rotate_left
 ·exact absurd i4.out k0
 ·exact absurd ⟨HV.out.inZ,p.out.outZ⟩ b9
 obtain⟨z,hz⟩:=exq (z0n D.kind D.lead E.lead);rw[show z0n D.inZ.kind D.inZ.lead E.outZ.lead=z from hz.symm] at C;have HZ:=qh hz;clear hz
 rcases C with ⟨a5,k3,R,rfl,b2⟩|⟨a5,rfl⟩
 ·obtain⟨sa,sc,g7,_,_⟩:=z1e b2.top;subst g7;have j0:=qh (z4c (b2.box4 c.out (.int .i64 D.inZ.kind) (.int .i64 ((E.outZ.n:Int)+D.inZ.start)) (.string z.1) (.slice sa (catD D.inZ E.outZ z.1).n sc)) j9);clear b2;have g1:=qh a5;clear a5
  go_wp2_with fail
  refine bodyPost_ret (z0j rfl _ (b:=I) rfl rfl (z0w h5 I _ _ _ _ c.out)) rfl ⟨z0d d9.out P _ _ _ _,.inl ⟨HV.out,p.out,HQ.out,.inl ⟨?_,.slice sa (catD D.inZ E.outZ z.1).n sc,R,?_,?_⟩⟩⟩
  ·rw[<- HZ.out];exact g1.out
  ·rw[<- HZ.out];rfl
  rw[<- HZ.out];exact j0.out
 have g1:=qh a5;clear a5
 go_wp2_with fail
 refine bodyPost_ret (z0j rfl _ (b:=I) rfl rfl (z0w h5 I _ _ _ _ c.out)) rfl ⟨z0d d9.out P _ _ _ _,.inl ⟨HV.out,p.out,HQ.out,.inr ⟨?_,rfl⟩⟩⟩;rw[<- HZ.out];exact g1.out
end
end Go.Proofs.YteappjogmnogcaaGreatDoor
