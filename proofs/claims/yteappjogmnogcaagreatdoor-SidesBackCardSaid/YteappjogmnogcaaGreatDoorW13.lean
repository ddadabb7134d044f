/- Parts of a proof: SdC BlG AccW R8L SilZ SidM WgD AccX SdD RnL ExS. -/
import Derived.Test.YteappjogmnogcaaGreatDoorW12
import Derived.Test.YteappjogmnogcaaGreatDoorW09
import Derived.Test.YteappjogmnogcaaGreatDoorW11
import Derived.Maps.Own
import Derived.Maps.Views
import Derived.Test.YteappjogmnogcaaGreatDoorW10
namespace Go.Proofs.YteappjogmnogcaaGreatDoor
set_option maxRecDepth 100000
set_option linter.unusedSimpArgs false
set_option linter.unusedVariables false
set_option linter.unusedSectionVars false
set_option maxHeartbeats 16000000
open Go Tryz
section
open Go.RowKit Go.Deep
theorem u2c:∀ args w,(callFunc 99 args).run prog w=.ok (.enter 99 args) w:=fun args w=>by kernel_rfl
theorem u0u:∀ args w,(callFunc 100 args).run prog w=.ok (.enter 100 args) w:=fun args w=>by kernel_rfl
theorem u2g:∀ args w,(callFunc 101 args).run prog w=.ok (.enter 101 args) w:=fun args w=>by kernel_rfl
theorem u3i (w:World) (i o:Int):Calls prog 99 #[.int .i64 i,.int .i64 o] w (fun r w'=>r=.returned (.tuple #[.int .i64 o,.int .i64 i])/\w'=w):=by
 go_enter func99,ntmps99
 go_wp2;go_ret2;exact⟨rfl,rfl⟩
theorem u5b (w:World) (i o:Int):Calls prog 100 #[.int .i64 i,.int .i64 o] w (fun r w'=>r=.returned (.tuple #[.int .i64 i,.int .i64 i])/\w'=w):=by
 go_enter func100,ntmps100
 go_wp2;go_ret2;exact⟨rfl,rfl⟩
theorem u2r (w:World) (i o:Int):Calls prog 101 #[.int .i64 i,.int .i64 o] w (fun r w'=>r=.returned (.tuple #[.int .i64 o,.int .i64 o])/\w'=w):=by
 go_enter func101,ntmps101
 go_wp2;go_ret2;exact⟨rfl,rfl⟩
theorem y4b {nf:FuncId} {φ:Int->Int->Int × Int} (c:∀ args w,(callFunc nf args).run prog w=.ok (.enter nf args) w) (h:∀ w i o,Calls prog nf #[.int .i64 i,.int .i64 o] w (fun r w'=>r=.returned (.tuple #[.int .i64 (φ i o).1,.int .i64 (φ i o).2])/\w'=w)):SymF nf #[] φ (fun _=>True) :=
 ⟨c,fun w _ i o _ _ _ _=>by
  rw[show ∀ a b:Value,(#[a,b]++#[]:Array Value)=#[a,b] from fun _ _=>rfl];exact(h w i o).mono fun r w' h=>⟨h.1,by rw[h.2];exact blr⟩⟩
theorem x6z {fn:Func} {p:Tmp} (h:fn.results=#[.cell p 70]) (c:Array Value) {w:World} {b:Nat} {d i g:FuncId} (l:c.getD p undef=.pointer (some ⟨b,0,none⟩)) (hb:w.heap[b]?=some (.cells #[.func (.func d) #[] #[],.func (.func i) #[] #[],.func (.func g) #[] #[]] 70 (0,0))) :
  (results fn c).run prog w=.ok (.agg #[.func (.func d) #[] #[],.func (.func i) #[] #[],.func (.func g) #[] #[]]) w:=by
 rw[z7z h,l];show ((loadVar 70 ⟨b,0,none⟩).run prog w)=_;have m:w.rangeAt b 0 [.func (.func d) #[] #[],.func (.func i) #[] #[],.func (.func g) #[] #[]]:=by
  intro j v k;have o:j<3:=by have:=(List.getElem?_eq_some_iff.1 k).1;simpa using this
  have:j=0\/j=1\/j=2:=by omega
  rcases this with rfl|rfl|rfl<;>(simp at k;subst k;simp[World.cell?,hb])
 exact run_loadVar_mid (P:=prog) w b 0 70 [.func (.func d) #[] #[],.func (.func i) #[] #[],.func (.func g) #[] #[]] _ m underlying70 rfl (by kernel_rfl)
theorem z9k (w:World):Calls prog 47 #[] w (fun r w'=>r=.returned (.agg #[.func (.func 99) #[] #[],.func (.func 100) #[] #[],.func (.func 101) #[] #[]])/\Below w.heap.size w w'):=by
 have c:=(Below.refl w.heap.size w).alloc nlr (.cells #[.func (.func 99) #[] #[],.func (.func 100) #[] #[],.func (.func 101) #[] #[]] 70);have d:=qh c;clear c
 go_enter func47,ntmps47
 go_wp2_with fail
 refine bodyPost_ret (x6z rfl _ (b:=w.heap.size) rfl (heap_alloc_new w _)) rfl ⟨rfl,d.out⟩
theorem z3z {w:World} {B j:Nat} {sv:Value} {D:MD} {R:Nat->Value} (h:OwM w B sv D R) (o:j<=B):OwM w j sv D R :=
 have k:∀ {e:TypeId} {s n:Nat} {v:Value} {xs:List Value},w.ownsRow B e s v n xs->w.ownsRow j e s v n xs:=fun h=>⟨h.1,h.2.imp id (fun ⟨g,d,c,l,p,m⟩=>⟨g,d,c,l,Nat.le_trans o p,m⟩)⟩
 ⟨k h.top,fun i hi=>k (h.row i hi),h.apart⟩
theorem x6n {D:MD} {mv:Value} (w:World) (hM:Ma none w mv D) (b1:MSz D) (ht:Tab w):Calls prog 16 #[mv] w (MkE (VM D) D.inv 1 w):=by
 obtain⟨sv,rfl,hS⟩:=hM;obtain⟨a,J,_,_,_,_,_,_,S,_⟩:=hS.open;subst S;obtain⟨G,B⟩:=exq (w.alloc (.cells #[.int .i64 D.kind,.int .i64 D.start,.string D.lead,.slice a D.n J] 24));obtain⟨w2,H⟩:=exq (G.alloc (.cells #[.int .i64 0,.int .i64 0,.string ⟨#[]⟩,.slice none 0 0] 24));obtain⟨wd,I⟩:=exq (w2.drew);have b9:G.heap.size=w.heap.size+1:=by rw[B];simp
 have b8:Fr (fun _=>False) w G:=by rw[B];exact Fr.alloc _ _
 have a5:Fr (fun _=>False) G wd:=by rw[I,H];exact(Fr.alloc _ _).drew
 obtain⟨d,W⟩:=exq (w.heap.size);obtain⟨h,X⟩:=exq (w.heap.size+1);have U:G.heap[d]?=some (.cells #[.int .i64 D.kind,.int .i64 D.start,.string D.lead,.slice a D.n J] 24 (0,0)):=by rw[B,W];exact heap_alloc_new w _
 have Y:wd.heap[d]?=some (.cells #[.int .i64 D.kind,.int .i64 D.start,.string D.lead,.slice a D.n J] 24 (0,0)):=(a5.block _ (lt_of_block U) (fun e=>e)).trans U;have d0:wd.heap[h]?=some (.cells #[.int .i64 0,.int .i64 0,.string ⟨#[]⟩,.slice none 0 0] 24 (0,0)):=by rw[I,X,<- b9];show w2.heap[G.heap.size]?=_;rw[H];exact heap_alloc_new G _
 have b6:Below w.heap.size w wd:=(b8.trans a5).below nlr (fun _ e=>e.elim);have b7:w.heap.size<=h:=by omega
 have k:d≠h:=by omega
 have a9:=(cells4 Y).1;have HS:=qh hS;clear hS;have d2:=qh b1;clear b1;have HT:=qh ht;clear ht;have a3:=qh d0;clear d0;have p:=qh Y;clear Y U;have a4:=qh b6;clear b6 b8 a5 b9
 go_enter func16,ntmps16
 go_wp2_with fail
 refine z0e (fun wk=>wk.cell? ⟨d,0,none⟩=some (.int .i64 D.kind)/\wk.cell? ⟨d,1,none⟩=some (.int .i64 D.start)/\wk.cell? ⟨d,2,none⟩=some (.string D.lead)/\wk.cell? ⟨d,3,none⟩=some (.slice a D.n J)) 7 (by kernel_rfl) ?_;rw[<- B,<- H,<- I,<- X,<- W];clear B H I X W;refine z0c.tm 2 a9 ?_
 try simp only[Act.put,tryL]
 refine z0c.on 0 fun K g=>?_;go_simp;refine(z9k _).mono ?_;rintro r w3 ⟨rfl,m⟩;have a6:w3.cell? ⟨d,0,none⟩=some (.int .i64 D.kind)/\w3.cell? ⟨d,1,none⟩=some (.int .i64 D.start)/\w3.cell? ⟨d,2,none⟩=some (.string D.lead)/\w3.cell? ⟨d,3,none⟩=some (.slice a D.n J):=(cells4 ((m.block _ (lt_of_block p.out)).trans p.out)).1;have c7:=(m.block _ (lt_of_block p.out)).trans p.out;have a7:=(m.block _ (lt_of_block a3.out)).trans a3.out;have l:=a4.out.trans (m.mono a4.out.size);have a1:=z6k (φ:=fun i o=>(o,i)) w3 (⟨_,rfl,HS.out.kept (z0b l none)⟩:Ma none w3 (.agg #[.int .i64 D.kind,.int .i64 D.start,.string D.lead,.slice a D.n J]) D) d2.out (HT.out.below l nlr) (y4b u2c (fun w i o=>u3i w i o)) trivial (fun _ _=>trivial);rw[u0g] at a1;refine g.out _ _ (.inr a6) ?_;clear g K a9 m;have b4:=qh a1;clear a1;have Z:=qh a7;clear a7 a3;have s:=qh c7;clear c7 p;have L:=qh l;clear l a4
 try simp only[Act.put,tryL]
 have d1:∀ w,(Instr.index 70 (.agg #[.func (.func 99) #[] #[],.func (.func 100) #[] #[],.func (.func 101) #[] #[]]) (.int .i64 0)).run prog w=.ok (.agg #[.func (.func 99) #[] #[]]) w:=fun _=>by kernel_rfl
 refine z0c.tm 1 a6 ?_
 try simp only[Act.put,tryL]
 clear d1;refine z0c.on 3 fun K g=>?_;go_simp;refine b4.out.mono ?_;rintro r O ⟨E,hr⟩;have j:O.cell? ⟨d,0,none⟩=some (.int .i64 D.kind)/\O.cell? ⟨d,1,none⟩=some (.int .i64 D.start)/\O.cell? ⟨d,2,none⟩=some (.string D.lead)/\O.cell? ⟨d,3,none⟩=some (.slice a D.n J):=(cells4 ((E.block _ (lt_of_block s.out)).trans s.out)).1;have b5:=(E.block _ (lt_of_block s.out)).trans s.out;have b2:=(E.block _ (lt_of_block Z.out)).trans Z.out;have P:=L.out.trans (E.mono L.out.size);have c8:w.heap.size<=w3.heap.size:=L.out.size;clear E a6;have c9:=qh b5;clear b5 s;have N:=qh b2;clear b2 Z;have b0:=qh P;clear P L b4;obtain⟨⟨r0,r1,r2,r3⟩,rz⟩:=cells4 N.out;have f0:=rz 0;have f1:=rz 1;have f2:=rz 2;have f3:=rz 3;clear rz;unfold z9g at hr
 rcases hr with ⟨hv,d3,R,rfl,u⟩|⟨hv,rfl⟩
 ·have HV:=qh hv;clear hv;obtain⟨sa,sc,S,_,_⟩:=z1e u.top;subst S;have a8:=qh (u.box4 N.out (.int .i64 D.inv.kind) (.int .i64 D.inv.start) (.string D.inv.lead) (.slice sa D.inv.n sc));clear u;refine g.out _ _ (.inr j) ?_;clear g K
  try simp only[Act.put,tryL]
  refine z0c.tm 4 j ?_;refine z0c.tm 5 j ?_
  try simp only[Act.put,tryL]
  refine z0c.on 6 fun K g=>?_;go_simp;obtain⟨A,c⟩:∃ A,A=(((O.setCell ⟨h,0,none⟩ (.int .i64 D.inv.kind)).setCell ⟨h,1,none⟩ (.int .i64 D.inv.start)).setCell ⟨h,2,none⟩ (.string D.inv.lead)).setCell ⟨h,3,none⟩ (.slice sa D.inv.n sc):=⟨_,rfl⟩;have C:A.heap[d]?=some (.cells #[.int .i64 D.kind,.int .i64 D.start,.string D.lead,.slice a D.n J] 24 (0,0)):=by rw[c,z0g k,z0g k,z0g k,z0g k];exact c9.out
  have F:A.heap[h]?=some (.cells #[.int .i64 D.inv.kind,.int .i64 D.inv.start,.string D.inv.lead,.slice sa D.inv.n sc] 24 (0,0)):=by rw[c];exact z0w O h _ _ _ _ N.out
  have z:Below w.heap.size w A:=by rw[c];exact z0d b0.out b7 _ _ _ _
  have Q:=a8.out;rw[<- c] at Q;have b3:=qh Q;clear Q a8;rw[<- c];clear c;refine g.out _ _ (.inr (cells4 C).1) ?_;clear g K C;have a2:=qh F;clear F;have T:=qh z;clear z;clear r0 r1 r2 r3 f0 f1 f2 f3 j
  try simp only[Act.put,tryL]
  refine z0c.on 7 fun K g=>?_;go_simp;refine g.out _ _ (.inl rfl) (z0c.dn ?_);clear g K
  go_wp2_with fail
  refine bodyPost_ret (z0j rfl _ (b:=h) rfl rfl a2.out) rfl ⟨T.out,.inl ⟨HV.out,_,R,rfl,z3z b3.out c8⟩⟩
 have HV:=qh hv;clear hv;refine g.out _ _ (.inr j) ?_;clear g K
 try simp only[Act.put,tryL]
 refine z0c.tm 4 j ?_;refine z0c.tm 5 j ?_
 try simp only[Act.put,tryL]
 refine z0c.on 6 fun K g=>?_;go_simp;obtain⟨A,c⟩:∃ A,A=(((O.setCell ⟨h,0,none⟩ (.int .i64 0)).setCell ⟨h,1,none⟩ (.int .i64 0)).setCell ⟨h,2,none⟩ (.string ⟨#[]⟩)).setCell ⟨h,3,none⟩ (.slice none 0 0):=⟨_,rfl⟩;have C:A.heap[d]?=some (.cells #[.int .i64 D.kind,.int .i64 D.start,.string D.lead,.slice a D.n J] 24 (0,0)):=by rw[c,z0g k,z0g k,z0g k,z0g k];exact c9.out
 have F:A.heap[h]?=some (.cells #[.int .i64 0,.int .i64 0,.string ⟨#[]⟩,.slice none 0 0] 24 (0,0)):=by rw[c];exact z0w O h _ _ _ _ N.out
 have z:Below w.heap.size w A:=by rw[c];exact z0d b0.out b7 _ _ _ _
 rw[<- c];clear c;refine g.out _ _ (.inr (cells4 C).1) ?_;clear g K C;have a2:=qh F;clear F;have T:=qh z;clear z;clear r0 r1 r2 r3 f0 f1 f2 f3 j
 try simp only[Act.put,tryL]
 refine z0c.on 7 fun K g=>?_;go_simp;refine g.out _ _ (.inl rfl) (z0c.dn ?_);clear g K
 go_wp2_with fail
 refine bodyPost_ret (z0j rfl _ (b:=h) rfl rfl a2.out) rfl ⟨T.out,.inr ⟨HV.out,rfl⟩⟩
theorem v3d {D:MD} {mv:Value} (w:World) (hM:Ma none w mv D) (b1:MSz D) (ht:Tab w):Calls prog 21 #[mv] w (MkE (VM D) D.inR 1 w):=by
 obtain⟨sv,rfl,hS⟩:=hM;obtain⟨a,J,_,_,_,_,_,_,S,_⟩:=hS.open;subst S;obtain⟨G,B⟩:=exq (w.alloc (.cells #[.int .i64 D.kind,.int .i64 D.start,.string D.lead,.slice a D.n J] 24));obtain⟨w2,H⟩:=exq (G.alloc (.cells #[.int .i64 0,.int .i64 0,.string ⟨#[]⟩,.slice none 0 0] 24));obtain⟨wd,I⟩:=exq (w2.drew);have b9:G.heap.size=w.heap.size+1:=by rw[B];simp
 have b8:Fr (fun _=>False) w G:=by rw[B];exact Fr.alloc _ _
 have a5:Fr (fun _=>False) G wd:=by rw[I,H];exact(Fr.alloc _ _).drew
 obtain⟨d,W⟩:=exq (w.heap.size);obtain⟨h,X⟩:=exq (w.heap.size+1);have U:G.heap[d]?=some (.cells #[.int .i64 D.kind,.int .i64 D.start,.string D.lead,.slice a D.n J] 24 (0,0)):=by rw[B,W];exact heap_alloc_new w _
 have Y:wd.heap[d]?=some (.cells #[.int .i64 D.kind,.int .i64 D.start,.string D.lead,.slice a D.n J] 24 (0,0)):=(a5.block _ (lt_of_block U) (fun e=>e)).trans U;have d0:wd.heap[h]?=some (.cells #[.int .i64 0,.int .i64 0,.string ⟨#[]⟩,.slice none 0 0] 24 (0,0)):=by rw[I,X,<- b9];show w2.heap[G.heap.size]?=_;rw[H];exact heap_alloc_new G _
 have b6:Below w.heap.size w wd:=(b8.trans a5).below nlr (fun _ e=>e.elim);have b7:w.heap.size<=h:=by omega
 have k:d≠h:=by omega
 have a9:=(cells4 Y).1;have HS:=qh hS;clear hS;have d2:=qh b1;clear b1;have HT:=qh ht;clear ht;have a3:=qh d0;clear d0;have p:=qh Y;clear Y U;have a4:=qh b6;clear b6 b8 a5 b9
 go_enter func21,ntmps21
 go_wp2_with fail
 refine z0e (fun wk=>wk.cell? ⟨d,0,none⟩=some (.int .i64 D.kind)/\wk.cell? ⟨d,1,none⟩=some (.int .i64 D.start)/\wk.cell? ⟨d,2,none⟩=some (.string D.lead)/\wk.cell? ⟨d,3,none⟩=some (.slice a D.n J)) 7 (by kernel_rfl) ?_;rw[<- B,<- H,<- I,<- X,<- W];clear B H I X W;refine z0c.tm 2 a9 ?_
 try simp only[Act.put,tryL]
 refine z0c.on 0 fun K g=>?_;go_simp;refine(z9k _).mono ?_;rintro r w3 ⟨rfl,m⟩;have a6:w3.cell? ⟨d,0,none⟩=some (.int .i64 D.kind)/\w3.cell? ⟨d,1,none⟩=some (.int .i64 D.start)/\w3.cell? ⟨d,2,none⟩=some (.string D.lead)/\w3.cell? ⟨d,3,none⟩=some (.slice a D.n J):=(cells4 ((m.block _ (lt_of_block p.out)).trans p.out)).1;have c7:=(m.block _ (lt_of_block p.out)).trans p.out;have a7:=(m.block _ (lt_of_block a3.out)).trans a3.out;have l:=a4.out.trans (m.mono a4.out.size);have a1:=z6k (φ:=fun i _=>(i,i)) w3 (⟨_,rfl,HS.out.kept (z0b l none)⟩:Ma none w3 (.agg #[.int .i64 D.kind,.int .i64 D.start,.string D.lead,.slice a D.n J]) D) d2.out (HT.out.below l nlr) (y4b u0u (fun w i o=>u5b w i o)) trivial (fun _ _=>trivial);rw[u1j] at a1;refine g.out _ _ (.inr a6) ?_;clear g K a9 m;have b4:=qh a1;clear a1;have Z:=qh a7;clear a7 a3;have s:=qh c7;clear c7 p;have L:=qh l;clear l a4
 try simp only[Act.put,tryL]
 have d1:∀ w,(Instr.index 70 (.agg #[.func (.func 99) #[] #[],.func (.func 100) #[] #[],.func (.func 101) #[] #[]]) (.int .i64 1)).run prog w=.ok (.agg #[.func (.func 100) #[] #[]]) w:=fun _=>by kernel_rfl
 refine z0c.tm 1 a6 ?_
 try simp only[Act.put,tryL]
 clear d1;refine z0c.on 3 fun K g=>?_;go_simp;refine b4.out.mono ?_;rintro r O ⟨E,hr⟩;have j:O.cell? ⟨d,0,none⟩=some (.int .i64 D.kind)/\O.cell? ⟨d,1,none⟩=some (.int .i64 D.start)/\O.cell? ⟨d,2,none⟩=some (.string D.lead)/\O.cell? ⟨d,3,none⟩=some (.slice a D.n J):=(cells4 ((E.block _ (lt_of_block s.out)).trans s.out)).1;have b5:=(E.block _ (lt_of_block s.out)).trans s.out;have b2:=(E.block _ (lt_of_block Z.out)).trans Z.out;have P:=L.out.trans (E.mono L.out.size);have c8:w.heap.size<=w3.heap.size:=L.out.size;clear E a6;have c9:=qh b5;clear b5 s;have N:=qh b2;clear b2 Z;have b0:=qh P;clear P L b4;obtain⟨⟨r0,r1,r2,r3⟩,rz⟩:=cells4 N.out;have f0:=rz 0;have f1:=rz 1;have f2:=rz 2;have f3:=rz 3;clear rz;unfold z9g at hr
 rcases hr with ⟨hv,d3,R,rfl,u⟩|⟨hv,rfl⟩
 ·have HV:=qh hv;clear hv;obtain⟨sa,sc,S,_,_⟩:=z1e u.top;subst S;have a8:=qh (u.box4 N.out (.int .i64 D.inR.kind) (.int .i64 D.inR.start) (.string D.inR.lead) (.slice sa D.inR.n sc));clear u;refine g.out _ _ (.inr j) ?_;clear g K
  try simp only[Act.put,tryL]
  refine z0c.tm 4 j ?_;refine z0c.tm 5 j ?_
  try simp only[Act.put,tryL]
  refine z0c.on 6 fun K g=>?_;go_simp;obtain⟨A,c⟩:∃ A,A=(((O.setCell ⟨h,0,none⟩ (.int .i64 D.inR.kind)).setCell ⟨h,1,none⟩ (.int .i64 D.inR.start)).setCell ⟨h,2,none⟩ (.string D.inR.lead)).setCell ⟨h,3,none⟩ (.slice sa D.inR.n sc):=⟨_,rfl⟩;have C:A.heap[d]?=some (.cells #[.int .i64 D.kind,.int .i64 D.start,.string D.lead,.slice a D.n J] 24 (0,0)):=by rw[c,z0g k,z0g k,z0g k,z0g k];exact c9.out
  have F:A.heap[h]?=some (.cells #[.int .i64 D.inR.kind,.int .i64 D.inR.start,.string D.inR.lead,.slice sa D.inR.n sc] 24 (0,0)):=by rw[c];exact z0w O h _ _ _ _ N.out
  have z:Below w.heap.size w A:=by rw[c];exact z0d b0.out b7 _ _ _ _
  have Q:=a8.out;rw[<- c] at Q;have b3:=qh Q;clear Q a8;rw[<- c];clear c;refine g.out _ _ (.inr (cells4 C).1) ?_;clear g K C;have a2:=qh F;clear F;have T:=qh z;clear z;clear r0 r1 r2 r3 f0 f1 f2 f3 j
  try simp only[Act.put,tryL]
  refine z0c.on 7 fun K g=>?_;go_simp;refine g.out _ _ (.inl rfl) (z0c.dn ?_);clear g K
  go_wp2_with fail
  refine bodyPost_ret (z0j rfl _ (b:=h) rfl rfl a2.out) rfl ⟨T.out,.inl ⟨HV.out,_,R,rfl,z3z b3.out c8⟩⟩
 have HV:=qh hv;clear hv;refine g.out _ _ (.inr j) ?_;clear g K
 try simp only[Act.put,tryL]
 refine z0c.tm 4 j ?_;refine z0c.tm 5 j ?_
 try simp only[Act.put,tryL]
 refine z0c.on 6 fun K g=>?_;go_simp;obtain⟨A,c⟩:∃ A,A=(((O.setCell ⟨h,0,none⟩ (.int .i64 0)).setCell ⟨h,1,none⟩ (.int .i64 0)).setCell ⟨h,2,none⟩ (.string ⟨#[]⟩)).setCell ⟨h,3,none⟩ (.slice none 0 0):=⟨_,rfl⟩;have C:A.heap[d]?=some (.cells #[.int .i64 D.kind,.int .i64 D.start,.string D.lead,.slice a D.n J] 24 (0,0)):=by rw[c,z0g k,z0g k,z0g k,z0g k];exact c9.out
 have F:A.heap[h]?=some (.cells #[.int .i64 0,.int .i64 0,.string ⟨#[]⟩,.slice none 0 0] 24 (0,0)):=by rw[c];exact z0w O h _ _ _ _ N.out
 have z:Below w.heap.size w A:=by rw[c];exact z0d b0.out b7 _ _ _ _
 rw[<- c];clear c;refine g.out _ _ (.inr (cells4 C).1) ?_;clear g K C;have a2:=qh F;clear F;have T:=qh z;clear z;clear r0 r1 r2 r3 f0 f1 f2 f3 j
 try simp only[Act.put,tryL]
 refine z0c.on 7 fun K g=>?_;go_simp;refine g.out _ _ (.inl rfl) (z0c.dn ?_);clear g K
 go_wp2_with fail
 refine bodyPost_ret (z0j rfl _ (b:=h) rfl rfl a2.out) rfl ⟨T.out,.inr ⟨HV.out,rfl⟩⟩
theorem x6t {D:MD} {mv:Value} (w:World) (hM:Ma none w mv D) (b1:MSz D) (ht:Tab w):Calls prog 22 #[mv] w (MkE (VM D) D.outR 1 w):=by
 obtain⟨sv,rfl,hS⟩:=hM;obtain⟨a,J,_,_,_,_,_,_,S,_⟩:=hS.open;subst S;obtain⟨G,B⟩:=exq (w.alloc (.cells #[.int .i64 D.kind,.int .i64 D.start,.string D.lead,.slice a D.n J] 24));obtain⟨w2,H⟩:=exq (G.alloc (.cells #[.int .i64 0,.int .i64 0,.string ⟨#[]⟩,.slice none 0 0] 24));obtain⟨wd,I⟩:=exq (w2.drew);have b9:G.heap.size=w.heap.size+1:=by rw[B];simp
 have b8:Fr (fun _=>False) w G:=by rw[B];exact Fr.alloc _ _
 have a5:Fr (fun _=>False) G wd:=by rw[I,H];exact(Fr.alloc _ _).drew
 obtain⟨d,W⟩:=exq (w.heap.size);obtain⟨h,X⟩:=exq (w.heap.size+1);have U:G.heap[d]?=some (.cells #[.int .i64 D.kind,.int .i64 D.start,.string D.lead,.slice a D.n J] 24 (0,0)):=by rw[B,W];exact heap_alloc_new w _
 have Y:wd.heap[d]?=some (.cells #[.int .i64 D.kind,.int .i64 D.start,.string D.lead,.slice a D.n J] 24 (0,0)):=(a5.block _ (lt_of_block U) (fun e=>e)).trans U;have d0:wd.heap[h]?=some (.cells #[.int .i64 0,.int .i64 0,.string ⟨#[]⟩,.slice none 0 0] 24 (0,0)):=by rw[I,X,<- b9];show w2.heap[G.heap.size]?=_;rw[H];exact heap_alloc_new G _
 have b6:Below w.heap.size w wd:=(b8.trans a5).below nlr (fun _ e=>e.elim);have b7:w.heap.size<=h:=by omega
 have k:d≠h:=by omega
 have a9:=(cells4 Y).1;have HS:=qh hS;clear hS;have d2:=qh b1;clear b1;have HT:=qh ht;clear ht;have a3:=qh d0;clear d0;have p:=qh Y;clear Y U;have a4:=qh b6;clear b6 b8 a5 b9
 go_enter func22,ntmps22
 go_wp2_with fail
 refine z0e (fun wk=>wk.cell? ⟨d,0,none⟩=some (.int .i64 D.kind)/\wk.cell? ⟨d,1,none⟩=some (.int .i64 D.start)/\wk.cell? ⟨d,2,none⟩=some (.string D.lead)/\wk.cell? ⟨d,3,none⟩=some (.slice a D.n J)) 7 (by kernel_rfl) ?_;rw[<- B,<- H,<- I,<- X,<- W];clear B H I X W;refine z0c.tm 2 a9 ?_
 try simp only[Act.put,tryL]
 refine z0c.on 0 fun K g=>?_;go_simp;refine(z9k _).mono ?_;rintro r w3 ⟨rfl,m⟩;have a6:w3.cell? ⟨d,0,none⟩=some (.int .i64 D.kind)/\w3.cell? ⟨d,1,none⟩=some (.int .i64 D.start)/\w3.cell? ⟨d,2,none⟩=some (.string D.lead)/\w3.cell? ⟨d,3,none⟩=some (.slice a D.n J):=(cells4 ((m.block _ (lt_of_block p.out)).trans p.out)).1;have c7:=(m.block _ (lt_of_block p.out)).trans p.out;have a7:=(m.block _ (lt_of_block a3.out)).trans a3.out;have l:=a4.out.trans (m.mono a4.out.size);have a1:=z6k (φ:=fun _ o=>(o,o)) w3 (⟨_,rfl,HS.out.kept (z0b l none)⟩:Ma none w3 (.agg #[.int .i64 D.kind,.int .i64 D.start,.string D.lead,.slice a D.n J]) D) d2.out (HT.out.below l nlr) (y4b u2g (fun w i o=>u2r w i o)) trivial (fun _ _=>trivial);rw[v7j] at a1;refine g.out _ _ (.inr a6) ?_;clear g K a9 m;have b4:=qh a1;clear a1;have Z:=qh a7;clear a7 a3;have s:=qh c7;clear c7 p;have L:=qh l;clear l a4
 try simp only[Act.put,tryL]
 have d1:∀ w,(Instr.index 70 (.agg #[.func (.func 99) #[] #[],.func (.func 100) #[] #[],.func (.func 101) #[] #[]]) (.int .i64 2)).run prog w=.ok (.agg #[.func (.func 101) #[] #[]]) w:=fun _=>by kernel_rfl
 refine z0c.tm 1 a6 ?_
 try simp only[Act.put,tryL]
 clear d1;refine z0c.on 3 fun K g=>?_;go_simp;refine b4.out.mono ?_;rintro r O ⟨E,hr⟩;have j:O.cell? ⟨d,0,none⟩=some (.int .i64 D.kind)/\O.cell? ⟨d,1,none⟩=some (.int .i64 D.start)/\O.cell? ⟨d,2,none⟩=some (.string D.lead)/\O.cell? ⟨d,3,none⟩=some (.slice a D.n J):=(cells4 ((E.block _ (lt_of_block s.out)).trans s.out)).1;have b5:=(E.block _ (lt_of_block s.out)).trans s.out;have b2:=(E.block _ (lt_of_block Z.out)).trans Z.out;have P:=L.out.trans (E.mono L.out.size);have c8:w.heap.size<=w3.heap.size:=L.out.size;clear E a6;have c9:=qh b5;clear b5 s;have N:=qh b2;clear b2 Z;have b0:=qh P;clear P L b4;obtain⟨⟨r0,r1,r2,r3⟩,rz⟩:=cells4 N.out;have f0:=rz 0;have f1:=rz 1;have f2:=rz 2;have f3:=rz 3;clear rz;unfold z9g at hr
 rcases hr with ⟨hv,d3,R,rfl,u⟩|⟨hv,rfl⟩
 ·have HV:=qh hv;clear hv;obtain⟨sa,sc,S,_,_⟩:=z1e u.top;subst S;have a8:=qh (u.box4 N.out (.int .i64 D.outR.kind) (.int .i64 D.outR.start) (.string D.outR.lead) (.slice sa D.outR.n sc));clear u;refine g.out _ _ (.inr j) ?_;clear g K
  try simp only[Act.put,tryL]
  refine z0c.tm 4 j ?_;refine z0c.tm 5 j ?_
  try simp only[Act.put,tryL]
  refine z0c.on 6 fun K g=>?_;go_simp;obtain⟨A,c⟩:∃ A,A=(((O.setCell ⟨h,0,none⟩ (.int .i64 D.outR.kind)).setCell ⟨h,1,none⟩ (.int .i64 D.outR.start)).setCell ⟨h,2,none⟩ (.string D.outR.lead)).setCell ⟨h,3,none⟩ (.slice sa D.outR.n sc):=⟨_,rfl⟩;have C:A.heap[d]?=some (.cells #[.int .i64 D.kind,.int .i64 D.start,.string D.lead,.slice a D.n J] 24 (0,0)):=by rw[c,z0g k,z0g k,z0g k,z0g k];exact c9.out
  have F:A.heap[h]?=some (.cells #[.int .i64 D.outR.kind,.int .i64 D.outR.start,.string D.outR.lead,.slice sa D.outR.n sc] 24 (0,0)):=by rw[c];exact z0w O h _ _ _ _ N.out
  have z:Below w.heap.size w A:=by rw[c];exact z0d b0.out b7 _ _ _ _
  have Q:=a8.out;rw[<- c] at Q;have b3:=qh Q;clear Q a8;rw[<- c];clear c;refine g.out _ _ (.inr (cells4 C).1) ?_;clear g K C;have a2:=qh F;clear F;have T:=qh z;clear z;clear r0 r1 r2 r3 f0 f1 f2 f3 j
  try simp only[Act.put,tryL]
  refine z0c.on 7 fun K g=>?_;go_simp;refine g.out _ _ (.inl rfl) (z0c.dn ?_);clear g K
  go_wp2_with fail
  refine bodyPost_ret (z0j rfl _ (b:=h) rfl rfl a2.out) rfl ⟨T.out,.inl ⟨HV.out,_,R,rfl,z3z b3.out c8⟩⟩
 have HV:=qh hv;clear hv;refine g.out _ _ (.inr j) ?_;clear g K
 try simp only[Act.put,tryL]
 refine z0c.tm 4 j ?_;refine z0c.tm 5 j ?_
 try simp only[Act.put,tryL]
 refine z0c.on 6 fun K g=>?_;go_simp;obtain⟨A,c⟩:∃ A,A=(((O.setCell ⟨h,0,none⟩ (.int .i64 0)).setCell ⟨h,1,none⟩ (.int .i64 0)).setCell ⟨h,2,none⟩ (.string ⟨#[]⟩)).setCell ⟨h,3,none⟩ (.slice none 0 0):=⟨_,rfl⟩;have C:A.heap[d]?=some (.cells #[.int .i64 D.kind,.int .i64 D.start,.string D.lead,.slice a D.n J] 24 (0,0)):=by rw[c,z0g k,z0g k,z0g k,z0g k];exact c9.out
 have F:A.heap[h]?=some (.cells #[.int .i64 0,.int .i64 0,.string ⟨#[]⟩,.slice none 0 0] 24 (0,0)):=by rw[c];exact z0w O h _ _ _ _ N.out
 have z:Below w.heap.size w A:=by rw[c];exact z0d b0.out b7 _ _ _ _
 rw[<- c];clear c;refine g.out _ _ (.inr (cells4 C).1) ?_;clear g K C;have a2:=qh F;clear F;have T:=qh z;clear z;clear r0 r1 r2 r3 f0 f1 f2 f3 j
 try simp only[Act.put,tryL]
 refine z0c.on 7 fun K g=>?_;go_simp;refine g.out _ _ (.inl rfl) (z0c.dn ?_);clear g K
 go_wp2_with fail
 refine bodyPost_ret (z0j rfl _ (b:=h) rfl rfl a2.out) rfl ⟨T.out,.inr ⟨HV.out,rfl⟩⟩
end
section
open Go.RowKit Go.Deep
theorem BlS.old {F:Nat->Prop} {B db:Nat} {D:MD} {one:ByteArray} {ac fl:Int} {w:World} (h:BlS F B db D one ac fl w) (d:B<=w.heap.size):BlS (fun b=>b<B) B db D one ac fl w:=by
 obtain⟨R,sv,c,g⟩:=h;refine⟨R,sv,c,fun b hb=>⟨by have:=c.low;omega,by omega,fun e=>?_,fun i hi e=>?_⟩⟩
 ·have:=(World.ownsRow.lt c.own.top b e).1;omega
 have:=(World.ownsRow.lt (c.own.row i hi) b e).1;omega
def catA (D E:MD):Int:=(cpX E none E.n:Int)+(cpX D (some E.start.toNat) D.n:Int)
def CatE (D E:MD) (w:World) (r:Ending) (w':World):Prop :=
 Below w.heap.size w w'/\((VM D/\VM E/\D.kind=E.kind /\
  ((
   dnOk (tmF (z0n D.kind D.lead E.lead) 0) (E.n+D.n) (catA D E)/\∃ sv R,r=.returned (.tuple #[.agg #[.int .i64 D.kind,.int .i64 ((E.n:Int)+D.start),.string (z0n D.kind D.lead E.lead).1,sv],.int .i64 0])/\OwM w' w.heap.size sv (catD D E (z0n D.kind D.lead E.lead).1) R) \/
   (¬ dnOk (tmF (z0n D.kind D.lead E.lead) 0) (E.n+D.n) (catA D E)/\r=.returned (.tuple #[z9g,.int .i64 2])))) \/
  (VM D/\VM E/\D.kind≠E.kind/\r=.returned (.tuple #[z9g,.int .i64 6]))\/(¬ (VM D/\VM E)/\r=.returned (.tuple #[z9g,.int .i64 1])))
theorem x6a {D E:MD} {mv nv:Value} (w:World) (hM:Ma none w mv D) (hN:Ma none w nv E) (m8:MSz D) (k3:MSz E) (ht:Tab w) (g:E.n+D.n<=1000) (i9:z0f D D.n+z0f E E.n<=1000):Calls prog 65 #[mv,nv] w (CatE D E w):=by
 have hT:=fun W (hb:Below w.heap.size w W)=>v7m (D:=D) (E:=E) (mv:=mv) (nv:=nv) W ⟨_,hM.choose_spec.1,hM.choose_spec.2.kept (z0b hb none)⟩ ⟨_,hN.choose_spec.1,hN.choose_spec.2.kept (z0b hb none)⟩ m8 k3 (ht.below hb nlr);obtain⟨sv,rfl,hS⟩:=hM;obtain⟨sw,rfl,m7⟩:=hN;obtain⟨a,cp,_,_,_,_,_,_,l0,_⟩:=hS.open;obtain⟨a2,l5,_,_,_,_,_,_,r9,_⟩:=m7.open;subst l0;subst r9;obtain⟨w1,O⟩:=exq (w.alloc (.cells #[.int .i64 D.kind,.int .i64 D.start,.string D.lead,.slice a D.n cp] 24));obtain⟨w2,L⟩:=exq (w1.alloc (.cells #[.int .i64 E.kind,.int .i64 E.start,.string E.lead,.slice a2 E.n l5] 24));obtain⟨w3,a6⟩:=exq (w2.alloc (.cells #[.int .i64 0,.int .i64 0,.string ⟨#[]⟩,.slice none 0 0] 24));have b1:w1.heap.size=w.heap.size+1:=by rw[O];simp
 have p6:w2.heap.size=w.heap.size+1+1:=by rw[L];simp[b1]
 have p0:Fr (fun _=>False) w w1:=by rw[O];exact Fr.alloc _ _
 have k7:Fr (fun _=>False) w1 w2:=by rw[L];exact Fr.alloc _ _
 have g3:Fr (fun _=>False) w2 w3:=by rw[a6];exact Fr.alloc _ _
 have b0:w1.heap[w.heap.size]?=some (.cells #[.int .i64 D.kind,.int .i64 D.start,.string D.lead,.slice a D.n cp] 24 (0,0)):=by rw[O];exact heap_alloc_new w _
 have k:w3.heap[w.heap.size]?=some (.cells #[.int .i64 D.kind,.int .i64 D.start,.string D.lead,.slice a D.n cp] 24 (0,0)):=(g3.block _ (by omega) (fun e=>e)).trans ((k7.block _ (lt_of_block b0) (fun e=>e)).trans b0);have g4:w2.heap[w.heap.size+1]?=some (.cells #[.int .i64 E.kind,.int .i64 E.start,.string E.lead,.slice a2 E.n l5] 24 (0,0)):=by rw[<- b1,L];exact heap_alloc_new w1 _
 have Q:w3.heap[w.heap.size+1]?=some (.cells #[.int .i64 E.kind,.int .i64 E.start,.string E.lead,.slice a2 E.n l5] 24 (0,0)):=(g3.block _ (by omega) (fun e=>e)).trans g4;have a8:w3.heap[w.heap.size+1+1]?=some (.cells #[.int .i64 0,.int .i64 0,.string ⟨#[]⟩,.slice none 0 0] 24 (0,0)):=by rw[<- p6,a6];exact heap_alloc_new w2 _
 have j4:Below w.heap.size w w3:=((p0.trans k7).trans g3).below nlr (fun _ e=>e.elim);obtain⟨mb,g1⟩:=exq (w.heap.size);obtain⟨nb,f8⟩:=exq (w.heap.size+1);obtain⟨m,l3⟩:=exq (w.heap.size+1+1);have g2:w.heap.size<=m:=by omega
 have u3:mb≠m:=by omega
 have u4:nb≠m:=by omega
 have u5:w.heap.size<=mb:=by omega
 have u7:w.heap.size<=nb:=by omega
 rw[<- g1] at k;rw[<- f8] at Q;rw[<- l3] at a8;obtain⟨⟨m0,m1,m2,m3⟩,_⟩:=cells4 k;obtain⟨⟨n0,n1,n2,n3⟩,_⟩:=cells4 Q;have o8:=qh (hT w3 j4);clear hT;have m9:=qh j4;clear j4;have i:=qh k;clear k b0 p0 k7 g3 b1 p6 g4;have s:=qh Q;clear Q;have j:=qh a8;clear a8;have HS:=qh hS;clear hS;have t8:=qh m7;clear m7;have HT:=qh ht;clear ht;have k5:=qh m8;clear m8;have e5:=qh k3;clear k3;have d7:=qh g;clear g;have e2:=qh i9;clear i9;rw[g1,a6,L,O] at m0 m1 m2 m3;rw[f8,a6,L,O] at n0 n1 n2 n3
 go_enter func65,ntmps65
 go_wp2_with fail
 rw[<- O,<- L,<- a6,<- l3,<- f8,<- g1];clear m0 m1 m2 m3 n0 n1 n2 n3 O L a6 g1 f8 l3;refine o8.out.mono ?_;rintro r w4 ⟨d4,e,rfl,he⟩;have H:=m9.out.trans (d4.mono m9.out.size);have k:=(d4.block _ (lt_of_block i.out)).trans i.out;have Q:=(d4.block _ (lt_of_block s.out)).trans s.out;have a8:=(d4.block _ (lt_of_block j.out)).trans j.out;clear d4 i s j o8 m9;have S:=qh H;clear H;have i:=qh k;clear k;have s:=qh Q;clear Q;have j:=qh a8;clear a8;obtain⟨⟨r0,r1,r2,r3⟩,rz⟩:=cells4 j.out;have f0:=rz 0;have f1:=rz 1;have f2:=rz 2;have f3:=rz 3;clear rz;unfold twoN at he
 rcases he with ⟨hv,e6,hk,rfl⟩|⟨hv,e6,hk,rfl⟩|⟨hv,rfl⟩
 rotate_left
 ·have l8:=qh hv;have s7:=qh e6;have s6:=qh hk;clear hv e6 hk
  go_wp2_with fail
  exact bodyPost_ret (z0j rfl _ (b:=m) rfl rfl (z0w w4 m _ _ _ _ j.out)) rfl ⟨z0d S.out g2 _ _ _ _,.inr (.inl ⟨l8.out,s7.out,s6.out,rfl⟩)⟩
 ·have l8:=qh hv;clear hv
  go_wp2_with fail
  exact bodyPost_ret (z0j rfl _ (b:=m) rfl rfl (z0w w4 m _ _ _ _ j.out)) rfl ⟨z0d S.out g2 _ _ _ _,.inr (.inr ⟨l8.out,rfl⟩)⟩
 clear r0 r1 r2 r3 f0 f1 f2 f3;have HV:=qh hv;clear hv;have G:=qh e6;clear e6;have a1:=qh hk;clear hk;have m0:=(cells4 i.out).1.1;have Z:=y5y D.kind w4;have h0:=qh Z;clear Z
 go_wp2_with fail
 refine h0.out.mono ?_;rintro r w5 ⟨db,rfl,k2,I,k1⟩;clear m0 h0;obtain⟨B,C⟩:=exq (w4.heap.size);rw[<- C] at k2 I k1;have k4:w.heap.size<=B:=by rw[C];exact S.out.size
 have s9:B<=w5.heap.size:=by rw[C];rw[C] at I;exact I.size
 have i5:=k2.old s9;have o6:smS D.lead:=k5.out.lead;have b1:smS E.lead:=e5.out.lead;have H:Below w.heap.size w w5:=S.out.trans (I.mono k4);have l6:Calls prog 109 #[.pointer (some ⟨db,0,none⟩),.string D.lead,.string E.lead] w5 (TmE (fun b=>b<B) B db (z1r D.kind 0 (oneF D.kind)) (oneF D.kind) 0 0 (z0n D.kind D.lead E.lead) w5):=v9i D.lead E.lead w5 i5 o6 b1 (HT.out.below H nlr);obtain⟨z,hz⟩:=exq (z0n D.kind D.lead E.lead);rw[<- hz] at l6;have o7:=qh l6;clear l6 o6 b1 k2 i5 H;have m2:=(cells4 ((I.block mb (by rw[C];exact lt_of_block i.out)).trans i.out)).1.2.2.1;have n2:=(cells4 ((I.block nb (by rw[C];exact lt_of_block s.out)).trans s.out)).1.2.2.1;have s3:=qh I;clear I;have d:=qh C;clear C;have HZ:=qh hz;clear hz;have m5:=qh k1;clear k1
 go_wp2_with fail
 refine o7.out.mono ?_;rintro r w6 ⟨rfl,f9⟩;clear m2 n2 o7;have j2:=s3.out.trans f9.2.2;obtain⟨⟨v1,k9⟩,n5,e8⟩:=f9.1.cells;have t7:=e8 2;clear e8 k9;obtain⟨w7,d1⟩:=exq (w6.setCell ⟨db,2,none⟩ (.string z.1));have j1:BlS (fun b=>b<B) B db (z1r D.kind 0 z.1) (oneF D.kind) 0 (tmF z 0) w7:=by rw[d1];exact f9.1.lead z.1
 have Y:Below B w4 w7:=by rw[d1];exact j2.setCell (p:=⟨db,2,none⟩) m5.out _
 have n6:=t8.out.kept (z0b S.out none);have o3:=HS.out.kept (z0b S.out none);have a7:cpC E none E.n=z0f E E.n:=by unfold cpC;simp
 have a4:cpC D (some E.start.toNat) D.n=z0f D D.n+D.n:=by unfold cpC;simp
 have d6:=d7.out;have b2:=e2.out;have a9:=x0n E none E.n;have a5:=x0n D (some E.start.toNat) D.n;have e7:=v8h (F:=fun b=>b<B) (db:=db) (N:=E.n+D.n) (c:=0) (D:=E) (M:=z1r D.kind 0 z.1) (o:=none) (P:=fun _=>True) (one:=oneF D.kind) (ac:=0) (fl:=tmF z 0) w4 w7 G.out e5.out n6 (by rw[<- d.out];exact Y) (by rw[<- d.out];exact j1) a1.out (BOk.empty _ _ _ _) (show 0+E.n<=E.n+D.n by omega) (by omega) (fun _ h=>by cases h) (by omega) (Int.le_refl _) (by omega) (by rw[<- d.out];exact u2x B db) trivial (fun _ _ _ _=>trivial);rw[<- d.out] at e7;have h7:=qh e7;clear e7;obtain⟨⟨n0,n1,n2,n3⟩,_⟩:=cells4 ((Y.block nb (by rw[d.out];exact lt_of_block s.out)).trans s.out);have i2:=qh Y;clear Y j2 f9 j1;have s5:=qh o3;clear o3 n6;rw[d1] at n0 n1 n2 n3
 go_wp2_with fail
 rw[<- d1];clear n0 n1 n2 n3 d1 n5 t7;refine h7.out.mono ?_;rintro r w8 ⟨rfl,l4⟩;clear h7;obtain⟨se,j5⟩:∃ se:Nat,E.start=(se:Int):=⟨E.start.toNat,by have:=G.out.s0;omega⟩;have i7:E.start.toNat=se:=by omega
 rw[show (((z1r D.kind 0 z.1).n:Nat):Int)+E.start=(se:Int) by rw[j5];show ((0:Nat):Int)+(se:Int)=_;omega];have u:Below B w4 w8:=i2.out.trans l4.2.2;have l1:=(u.block mb (by rw[d.out];exact lt_of_block i.out)).trans i.out;have k0:=(u.block m (by rw[d.out];exact lt_of_block j.out)).trans j.out;obtain⟨wd,j7⟩:=exq (w8.drew);have r8:Fr (fun _=>False) w8 wd:=by rw[j7];exact(Fr.refl _ _).drew
 have c9:Below w8.heap.size w8 wd:=r8.below nlr (fun _ e=>e.elim);have j0:=l4.1.kept c9;have i8:Below B w4 wd:=u.trans (c9.mono (by rw[d.out];exact u.size));have m4:=(c9.block _ (lt_of_block l1)).trans l1;have p7:=(c9.block _ (lt_of_block k0)).trans k0;have a3:=(cells4 m4).1;have r5:=qh (v3f db se wd);have u0:se<E.n:=by have:=G.out.s1;omega
 have X:=qh i7;clear i7;have t9:=qh j5;clear j5;have i4:=qh j0;clear j0 l4 u r8 c9;have f4:=qh i8;clear i8 i2;have j9:=qh m4;clear m4 l1;have l7:=qh p7;clear p7 k0;have n7:=qh a7;clear a7;have r4:=qh a4;clear a4;have o5:=qh a9;clear a9;have r6:=qh a5;clear a5;clear d6 b2
 go_wp2_with fail
 refine z0e (fun wk=>wk.cell? ⟨mb,0,none⟩=some (.int .i64 D.kind)/\wk.cell? ⟨mb,1,none⟩=some (.int .i64 D.start)/\wk.cell? ⟨mb,2,none⟩=some (.string D.lead)/\wk.cell? ⟨mb,3,none⟩=some (.slice a D.n cp)) 10 (by kernel_rfl) ?_;rw[<- j7];clear j7;refine z0c.tm 0 a3 ?_;refine z0c.tm 1 a3 ?_;refine z0c.tm 2 a3 ?_;refine z0c.tm 3 a3 ?_;refine z0c.tm 4 a3 ?_
 try simp only[Act.put,tryL]
 refine z0c.on 5 fun K hK=>?_;go_simp;refine r5.out.mono ?_;rintro r w9 ⟨cx,tx,rfl,f5,q9,o9,b3⟩;have j8:=(b3.block _ (lt_of_block j9.out)).trans j9.out;have p8:=(b3.block _ (lt_of_block l7.out)).trans l7.out;have q7:=(cells4 j8).1;have d5:=i4.out.grown b3;obtain⟨F1,c8⟩:∃ F1:Nat->Prop,F1=fun b=>b<B\/(wd.heap.size<=b/\b<w9.heap.size):=⟨_,rfl⟩;rw[<- c8] at d5;have g6:F1 cx:=by rw[c8];exact .inr ⟨q9,lt_of_block f5.1⟩
 have g7:F1 tx:=by rw[c8];exact .inr ⟨o9,lt_of_block f5.2⟩
 have e4:∀ b,b<B->F1 b:=fun b hb=>by rw[c8];exact .inl hb
 have b6:Below B w4 w9:=f4.out.trans (b3.mono (by rw[d.out];exact f4.out.size));have d6:=d7.out;have b2:=e2.out;have a7:=n7.out;have a4:=r4.out;have a9:=o5.out;have a5:=r6.out;have l2:(z4f E none (z1r D.kind 0 z.1)).n=E.n:=by
  unfold z4f;rw[(y3d _ _ _ _ _).2.2.2,y3c];exact Nat.zero_add _
 have k:(z4f E none (z1r D.kind 0 z.1)).kind=D.kind:=by
  unfold z4f;rw[(y3d _ _ _ _ _).1,(y0r _ _ _).1];rfl
 have h8:BOk (z4f E none (z1r D.kind 0 z.1)) (E.n+D.n) (0+cpC E none E.n):=by
  unfold z4f;exact y5r (o:=none) (low:=0) (M:=stsD E E.n (z1r D.kind 0 z.1)) (c:=0) G.out e5.out (fun _ h=>by cases h) (show 0+E.n<=E.n+D.n by omega) ((y0r _ _ _).1.trans a1.out) (y3e (M:=z1r D.kind 0 z.1) G.out e5.out a1.out (BOk.empty _ _ _ _) E.n nlr) E.n nlr
 have e1:=v8h (F:=F1) (db:=db) (N:=E.n+D.n) (c:=0+cpC E none E.n) (D:=D) (M:=z4f E none (z1r D.kind 0 z.1)) (o:=some se) (P:=PLk db cx tx se) (one:=oneF D.kind) (ac:=0+(cpX E none E.n:Int)) (fl:=tmF z 0) w4 w9 HV.out k5.out s5.out (by rw[<- d.out];exact b6) (by rw[<- d.out];exact d5) k h8 (by rw[l2];omega) (by omega) (fun t h=>by cases h;omega) (by rw[<- X.out];omega) (by omega) (by rw[<- X.out];omega) (by rw[<- d.out];exact u3v B db cx tx se) f5 (fun wa wb h hF=>⟨(hF cx g6).trans h.1,(hF tx g7).trans h.2⟩);rw[<- d.out] at e1;refine hK.out _ _ (.inr q7) ?_;clear hK K a3 r5 d6 b2 a7 a4 a9 a5 f5 q9 o9 b3;have g5:=qh e1;clear e1;have h9:=qh b6;clear b6 f4;have r7:=qh j8;clear j8 j9;have p9:=qh p8;clear p8 l7;have s4:=qh l2;clear l2;have u1:=qh k;clear k h8 d5 i4;have g0:=qh e4;clear e4 c8 g6 g7
 try simp only[Act.put,tryL]
 refine z0c.on 6 fun K hK=>?_;go_simp;refine g5.out.mono ?_;rintro r n9 ⟨rfl,g⟩;have b7:Below B w4 n9:=h9.out.trans g.2.2;have e0:=(g.2.1 mb (g0.out mb (by rw[d.out];exact lt_of_block i.out))).trans r7.out;have g8:=(g.2.1 m (g0.out m (by rw[d.out];exact lt_of_block j.out))).trans p9.out;have J:=(cells4 e0).1;obtain⟨⟨v1,k9⟩,n5,e8⟩:=g.1.cells;have s8:=e8 1;clear e8 n5;have b4:=(g.1.start ((E.n:Int)+D.start)).sub g0.out;rw[s4.out];refine hK.out _ _ (.inr J) ?_;clear hK K q7 g5 g;have e3:=qh b7;clear b7 h9;have u2:=qh e0;clear e0 r7;have h5:=qh g8;clear g8 p9;have d2:=qh b4;clear b4 g0
 try simp only[Act.put,tryL]
 refine z0c.tm 7 J ?_;refine z0c.tm 8 J ?_;refine z0c.tm 9 J ?_
 try simp only[Act.put,tryL]
 refine z0c.on 10 fun K hK=>?_;go_simp;refine hK.out _ _ (.inl rfl) (z0c.dn ?_);clear hK K J k9 s8;obtain⟨d3,A⟩:=exq (n9.setCell ⟨db,1,none⟩ (.int .i64 ((E.n:Int)+D.start)));rw[<- A];have l:=d2.out;rw[<- A] at l;have j3:({ z4f D (some se) (z4f E none (z1r D.kind 0 z.1)) with start:=(E.n:Int)+D.start }:MD)=catD D E z.1:=by rw[<- X.out];rfl
 rw[j3] at l;have i3:mb≠db/\m≠db:=by
  have h1:=m5.out;have h2:=lt_of_block i.out;have h3:=lt_of_block j.out;rw[<- d.out] at h2 h3;exact⟨by omega,by omega⟩
 have d0:Below B w4 d3:=by rw[A];exact e3.out.setCell (p:=⟨db,1,none⟩) m5.out _
 have g9:d3.heap[m]?=some (.cells #[.int .i64 0,.int .i64 0,.string ⟨#[]⟩,.slice none 0 0] 24 (0,0)):=by rw[A,z0g (show m≠db from i3.2)];exact h5.out
 have U:=v2g HV.out k5.out G.out e5.out a1.out.symm z.1;have hx:0+(cpX E none E.n:Int)+(cpX D (some se) D.n:Int)=catA D E:=by unfold catA;rw[X.out,Int.zero_add]
 rw[hx] at l;have b2:=e2.out;have d6:=d7.out;have a7:=n7.out;have a4:=r4.out;have a9:=o5.out;have a5:=r6.out;have k6:catA D E<=1000000/\0<=catA D E:=by unfold catA;omega
 have l9:=v8f d3 l (by rw[U.2.1];omega) k6.1 k6.2;rw[U.2.1] at l9;have q8:=qh l9;clear l9 k6 b2 d6 a7 a4 a9 a5 hx j3 A l d2 i3;have d9:=qh d0;clear d0 e3;have d8:=qh g9;clear g9 h5;have h6:=qh U;clear U
 go_wp2_with fail
 refine q8.out.mono ?_;rintro r f7 ⟨e9,hr⟩;have c7:Below B w4 f7:=d9.out.trans (e9.mono (by rw[d.out];exact d9.out.size));have i6:=(e9.block _ (lt_of_block d8.out)).trans d8.out;have b5:Below w.heap.size w f7:=S.out.trans (c7.mono k4);clear e9 c7 q8;have h4:=qh b5;clear b5;have T:=qh i6;clear i6 d8;obtain⟨⟨r0,r1,r2,r3⟩,rz⟩:=cells4 T.out;have f0:=rz 0;have f1:=rz 1;have f2:=rz 2;have f3:=rz 3;clear rz;unfold z9g at hr
 rcases hr with ⟨b9,u6,R,rfl,b8⟩|⟨b9,rfl⟩
 ·have o4:=h6.out.2.2.1;have b0:=h6.out.2.2.2;rw[o4,b0];rw[show (catD D E z.1).start=(E.n:Int)+D.start from rfl];obtain⟨sa,sc,l0,_,_⟩:=z1e b8.top;subst l0;have o2:=qh (z3z (b8.box4 T.out (.int .i64 D.kind) (.int .i64 ((E.n:Int)+D.start)) (.string z.1) (.slice sa (catD D E z.1).n sc)) k4);clear b8 o4 b0;have j6:=qh b9;clear b9
  go_wp2_with fail
  refine bodyPost_ret (z0j rfl _ (b:=m) rfl rfl (z0w f7 m _ _ _ _ T.out)) rfl ⟨z0d h4.out g2 _ _ _ _,.inl ⟨HV.out,G.out,a1.out,.inl ⟨?_,.slice sa (catD D E z.1).n sc,R,?_,?_⟩⟩⟩
  ·rw[<- HZ.out];exact j6.out
  ·rw[<- HZ.out];rfl
  rw[<- HZ.out];exact o2.out
 have j6:=qh b9;clear b9
 go_wp2_with fail
 refine bodyPost_ret (z0j rfl _ (b:=m) rfl rfl (z0w f7 m _ _ _ _ T.out)) rfl ⟨z0d h4.out g2 _ _ _ _,.inl ⟨HV.out,G.out,a1.out,.inr ⟨?_,rfl⟩⟩⟩;rw[<- HZ.out];exact j6.out
end
section
open Go.RowKit Go.Deep
def anyA (D:MD) (i:Nat) (sel:Int->Int->Bool):Bool:=(List.range (D.na i)).any fun d=>sel (D.ain i d) (D.aout i d)
theorem y6u {D:MD} {i:Nat} {sel:Int->Int->Bool}:anyA D i sel=true↔∃ d,d<D.na i/\sel (D.ain i d) (D.aout i d)=true:=by simp[anyA]
theorem x8h {D:MD} {i:Nat} {sel:Int->Int->Bool} (h:∀ d,d<D.na i->sel (D.ain i d) (D.aout i d)=false):anyA D i sel=false:=by
 cases j:anyA D i sel
 ·rfl
 obtain⟨d,g,c⟩:=y6u.1 j;rw[h d g] at c;cases c
theorem v5q {D:MD} {i nf:Nat} {s:Array Value} {v:Value} {sel:Int->Int->Bool} {P:World->Prop} (w:World) (N:ArS none w v D i) (hn:D.na i<=30000) (Z:TstA nf s sel P) (S:∀ wb,Below w.heap.size w wb->P wb) :
  Calls prog 173 #[v,.func (.func nf) #[] s] w (fun r w'=>Below w.heap.size w w'/\∃ k:Int,r=.returned (.int .i64 k)/\(decide (0<=k)=anyA D i sel)):=by
 obtain⟨a1,u⟩:=Z;obtain⟨n,l⟩:=exq (D.na i);have hv:∃ a g b c,v=.slice a n g/\n<=g/\g<=maxLen/\(0<n->a=some ⟨b,c,none⟩/\b<w.heap.size)/\∀ k,k<n->w.cell? ⟨b,c+k*4,none⟩=some (.int .i64 (D.ain i k))/\w.cell? ⟨b,c+k*4+1,none⟩=some (.int .i64 (D.aout i k))/\w.cell? ⟨b,c+k*4+2,none⟩=some (.string (D.aw i k))/\w.cell? ⟨b,c+k*4+3,none⟩=some (.int .i64 (D.ato i k)):=by
  rcases N with ⟨h0,a,g,rfl,R⟩|⟨b,c,g,rfl,F,h2,h3,h4⟩
  ·exact⟨a,g,0,0,by rw[l,h0],by omega,R,by omega,fun k W=>by omega⟩
  exact⟨_,g,b,c,by rw[l],by omega,h3,fun _=>⟨rfl,F.1⟩,fun k W=>h4 k (by omega)⟩
 obtain⟨a,g,b,c,rfl,R,hm,Q,h⟩:=hv;unfold maxLen at hm;rw[<- l] at hn;have E:=qh l;clear l N;have HA:=qh Q;clear Q;have HX:=qh h;clear h;have HT:=qh u;clear u;have Y:=qh S;clear S
 go_enter func173,ntmps173
 go_wp2_with fail
 go_loopw [8] (fun L wr=>∃ q:Nat,q<=n/\L=.int .i64 (q:Int)/\Below w.heap.size w wr/\∀ j,j<q->sel (D.ain i j) (D.aout i j)=false) (fun L _=>n-(intOf L).toNat)
 case atStart=>exact⟨0,Nat.zero_le _,rfl,blr,fun j X=>by omega⟩
 obtain⟨q,hq,rfl,hb,J⟩:=hrel;have I:=qh J;clear J;have z:=qh hb;clear hb;by_cases B:q<n
 ·have a2:(q:Int)<(n:Int):=by omega
  have O:(0:Int)<=(q:Int):=by omega
  obtain⟨rfl,o⟩:=HA.out (by omega);obtain⟨t0,t1,t2,t3⟩:=HX.out q B;have c0:=(z.out.cell (p:=⟨b,c+q*4,none⟩) o).trans t0;have c1:=(z.out.cell (p:=⟨b,c+q*4+1,none⟩) o).trans t1;have c2:=(z.out.cell (p:=⟨b,c+q*4+2,none⟩) o).trans t2;have c3:=(z.out.cell (p:=⟨b,c+q*4+3,none⟩) o).trans t3;clear t0 t1 t2 t3;have m:=HT.out wr (Y.out wr z.out) (D.ain i q) (D.aout i q) (D.aw i q) (D.ato i q);have T:=qh m;clear m
  go_wp2_with fail
  clear c0 c1 c2 c3;refine T.out.mono ?_;rintro r w1 ⟨rfl,C⟩;have H:=qh (z.out.trans (C.mono z.out.size));clear C T;cases K:sel (D.ain i q) (D.aout i q)
  ·have A:=qh K;clear K;go_wp2;go_roundw
   case rel=>exact⟨q+1,by omega,by go_num,H.out,fun j X=>by
    by_cases e:j=q
    ·subst e;exact A.out
    exact I.out j (by omega)⟩
   simp[intOf];omega
  have A:=qh K;clear K;go_wp2;go_ret;refine⟨H.out,_,rfl,?_⟩;have F:anyA D i sel=true:=y6u.2 ⟨q,by rw[<- E.out];exact B,A.out⟩;rw[F];simp
 have G:q=n:=by omega
 have U:¬ ((q:Int)<(n:Int)):=by omega
 have HQ:=qh G;clear G;go_wp2;go_ret;refine⟨z.out,_,rfl,?_⟩;have F:anyA D i sel=false:=x8h fun d hd=>I.out d (by rw[HQ.out,E.out];exact hd);rw[F];rfl
theorem y7a {D:MD} {i nf:Nat} {c:Array Value} {v:Value} {sel:Int->Int->Bool} {P:World->Prop} (w:World) (g:ArS none w v D i) (hn:D.na i<=30000) (d:TstA nf c sel P) (h:∀ wb,Below w.heap.size w wb->P wb) :
  Calls prog 138 #[v,.func (.func nf) #[] c] w (fun r w'=>r=.returned (.bool (anyA D i sel))/\Below w.heap.size w w'):=by
 have o:=qh (v5q w g hn d h);clear g hn d h
 go_enter func138,ntmps138
 go_wp2_with fail
 refine o.out.mono ?_;rintro r p ⟨hb,k,rfl,j⟩;have l:=qh j;clear j;have m:=qh hb;clear hb;go_wp2;go_ret;exact⟨z0v l.out,m.out⟩
def selE (i o:Int):Bool:=decide (i=o)
theorem v5x:∀ args w,(callFunc 107 args).run prog w=.ok (.enter 107 args) w:=fun args w=>by kernel_rfl
theorem v6t:∀ args w,(callFunc 139 args).run prog w=.ok (.enter 139 args) w:=fun args w=>by kernel_rfl
theorem v9z (w:World) (i o:Int) (s:ByteArray) (t:Int):Calls prog 107 #[.agg #[.int .i64 i,.int .i64 o,.string s,.int .i64 t]] w (fun r w'=>r=.returned (.bool (selE i o))/\Below w.heap.size w w'):=by
 have c:=(Below.refl w.heap.size w).alloc nlr (.cells #[.int .i64 i,.int .i64 o,.string s,.int .i64 t] 59);have d:=qh c;clear c
 go_enter func107,ntmps107
 go_wp2;go_ret;exact⟨z0v (by by_cases h:i=o<;>simp[selE,h]),d.out⟩
theorem u5n:TstA 107 #[] selE (fun _=>True) :=
 ⟨v5x,fun c _ i o s t=>by
  have h:=v9z c i o s t;rw[show ∀ a:Value,(#[a]++#[]:Array Value)=#[a] from fun _=>rfl];exact h⟩
def PAl (tb nf:Nat) (w:World):Prop:=w.heap[tb]?=some (.cells #[.func (.func nf) #[] #[]] 100 (0,0))
theorem u5g {nf:Nat} {sel:Int->Int->Bool} (u:Nat) (L:TstA nf #[] sel (fun _=>True)):TstA 139 #[.pointer (some ⟨u,0,none⟩)] (fun i o=>!sel i o) (PAl u nf):=by
 refine⟨v6t,fun l z i o s t=>?_⟩;rw[show ∀ a b:Value,(#[a]++#[b]:Array Value)=#[a,b] from fun _ _=>rfl];obtain⟨N,k⟩:=L;obtain⟨h,g⟩:=exq (l.alloc (.cells #[.int .i64 i,.int .i64 o,.string s,.int .i64 t] 59));obtain⟨A,j⟩:=exq (l.heap.size);have d:=(Below.refl l.heap.size l).alloc nlr (.cells #[.int .i64 i,.int .i64 o,.string s,.int .i64 t] 59);rw[<- g] at d;have I:h.heap[u]?=some (.cells #[.func (.func nf) #[] #[]] 100 (0,0)):=(d.block _ (lt_of_block z)).trans z;have m:h.heap[A]?=some (.cells #[.int .i64 i,.int .i64 o,.string s,.int .i64 t] 59 (0,0)):=by rw[g,j];exact heap_alloc_new l _
 obtain⟨K,C⟩:=exq (h.drew);have H:h.cell? ⟨u,0,none⟩=some (.func (.func nf) #[] #[]):=by simp[World.cell?,I]
 obtain⟨⟨a0,E,B,G⟩,_⟩:=cells4 m;have c:=k h trivial i o s t;rw[show ∀ a:Value,(#[a]++#[]:Array Value)=#[a] from fun _=>rfl] at c;have J:=qh c;clear c k;have F:=qh d;clear d I m z C;rw[g] at H a0 E B G;rw[j] at a0 E B G
 go_enter func139,ntmps139
 go_wp2_with fail
 rw[<- g];clear H a0 E B G g j;refine J.out.mono ?_;rintro r O ⟨rfl,p⟩;have D:=qh (F.out.trans (p.mono F.out.size));clear p J F;go_wp2;go_ret;exact⟨z0v (by cases sel i o<;>rfl),D.out⟩
end
section
open Go.RowKit Go.Deep
end
section
theorem x4n {k:KK} {D:MD} {sel:Int->Int->Bool} (g:∀ i o,sel i o=decide (i=0)) (q p:Nat):sils (rmOf k D) sel q p=sil (rmOf k D.inZ) q p:=by
 unfold sils sil;refine CSR.sum_congr fun d _=>?_;show (if sel (D.ain q d) (D.aout q d)=true/\(D.ato q d).toNat=p then _ else _)=if D.ain q d=0/\(0:Int)=0/\(D.ato q d).toNat=p then _ else _
 rw[g];by_cases h:D.ain q d=0
 ·by_cases c:(D.ato q d).toNat=p
  ·rw[if_pos ⟨by simp[h],c⟩,if_pos ⟨h,rfl,c⟩];rfl
  rw[if_neg (fun e=>c e.2),if_neg (fun e=>c e.2.2)]
 rw[if_neg (fun e=>h (by simpa using e.1)),if_neg (fun e=>h e.1)]
theorem x9u (i o:Int):sel8 true i o=decide (i=0):=by unfold sel8;simp
theorem y1a (D:MD):∀ n,z0f D.inZ n=z0f D n
 | 0=>rfl
 | n+1=>by show z0f D.inZ n+D.na n=z0f D n+D.na n;rw[y1a D n]
theorem VM.inZ {D:MD} (h:VM D):VM D.inZ:={ h with arcs:=by rw[y1a];exact h.arcs,arc:=fun q d g c=>{ h.arc q d g c with o0:=by show (0:Int)<=0;omega,o1:=by show (0:Int)<=500;omega } }
theorem u3u {k:KK} {D:MD} {sel:Int->Int->Bool} (l:∀ i o,sel i o=decide (i=0)) {st:StarO} (h:(NoSel D sel/\st=none)\/∃ S,st=some S/\∀ q p,q<D.n->p<D.n->Sv k (S q p) (CSR.starM (sils (rmOf k D) sel) D.n q p)):StOk k D.inZ st:=by
 rcases h with ⟨m,rfl⟩|⟨S,rfl,s⟩
 ·intro q p c d;rw[<- x4n l];exact SilOk.nosil m k q p c
 intro q p c d;have g:=s q p c d;have e:=CSR.starM_congr (M:=sils (rmOf k D) sel) (M':=sil (rmOf k D.inZ)) (n:=D.n) (fun i j _ _=>x4n l i j) q p c d;rw[e] at g;exact g
theorem Sil8.stZ {k:KK} {D:MD} {st:StarO} (h:Sil8 D (sel8 true) st 0) (g:k.1=D.kind):StOk k D.inZ st:=by
 refine u3u x9u ?_
 rcases h with ⟨c,d,_⟩|⟨_,_,S,c,d⟩|⟨c,_⟩
 ·exact .inl ⟨c,d⟩
 ·exact .inr ⟨S,c,d k g⟩
 exact absurd rfl c
theorem SilOk.stZ {k:KK} {D:MD} {sel:Int->Int->Bool} (g:∀ i o,sel i o=decide (i=0)) {st:StarO} (h:SilOk D sel st 0) (j:k.1=D.kind):StOk k D.inZ st:=by
 refine u3u g ?_
 rcases h with ⟨c,d,_⟩|⟨_,_,_,S,c,d⟩|⟨_,c,_⟩
 ·exact .inl ⟨c,d⟩
 ·exact .inr ⟨S,c,d k j⟩
 exact absurd rfl c
end
section
theorem u2a (D:MD):D.sym (fun i _=>(i,0))=D.inZ:=rfl
def Dv (D:MD) (na:Nat) (x:Nat->Int) (z:ByteArray × Nat):Prop:=z.2=0->∀ k:KK,k.1=D.kind->Sv k z.1 (rel (rmOf k D.inZ) (ls x na 0) [])
theorem v2i (φ:Int->Int) (x:Nat->Int):∀ m i,lsN (fun i=>φ (x i)) m i=(lsN x m i).map φ
 | 0,_=>rfl
 | m+1,i=>by show φ (x i)::lsN _ m (i+1)=φ (x i)::(lsN x m (i+1)).map φ;rw[v2i φ x m (i+1)]
theorem v7z (φ:Int->Int) (x:Nat->Int) (n i:Nat):ls (fun i=>φ (x i)) n i=(ls x n i).map φ:=v2i φ x _ i
theorem v0w {x:Nat->Int} {a:Int}:∀ m i,a ∈ lsN x m i->∃ j,i<=j/\j<i+m/\a=x j
 | 0,_,h=>by cases h
 | m+1,i,h=>by
  rcases List.mem_cons.1 h with h|h
  ·exact⟨i,nlr,by omega,h⟩
  obtain⟨j,h1,h2,h3⟩:=v0w m (i+1) h;exact⟨j,by omega,by omega,h3⟩
theorem u3p {x:Nat->Int} {a:Int} {n:Nat} (h:a ∈ ls x n 0):∃ j,j<n/\a=x j:=by
 obtain⟨j,_,d,c⟩:=v0w _ _ h;exact⟨j,by omega,c⟩
end
section
open Go.RowKit Go.Deep
def selI (i _:Int):Bool:=decide (i=0)
structure PDt (w0:World) (xb ib:Nat) (xv:Value) (i:Nat) (w:World):Prop where
 hb:Below w0.heap.size w0 w
 kx:Bx w xb 25 xv
 ki:Bx w ib 3 (.int .i64 (i:Int))
def DomX (D:MD) (na:Nat) (x:Nat->Int) (w:World) (r:Ending) (w':World):Prop :=
 Below w.heap.size w w'/\((VM D/\isWord na x=true/\∃ st e0,SilOk D selI st e0/\r=.returned (.tuple #[.string (domE D.inZ st e0 na x).1,.int .i64 ((domE D.inZ st e0 na x).2:Int)])) \/
  (¬ (VM D/\isWord na x=true)/\r=.returned (.tuple #[.string ⟨#[]⟩,.int .i64 1])))
structure DI (w wo wr:World) (cb xb ib rb:Nat) (D:MD) (sv stv xv:Value) (i:Nat) (v:Nat->ByteArray) (e:Nat):Prop where
 hb:Below w.heap.size w wr
 gs:wo.grownBy wr (some cb)
 sc:Scl wr cb D sv stv e
 kx:Bx wr xb 25 xv
 ki:Bx wr ib 3 (.int .i64 (i:Int))
 rv:wr.rowIs rb 9 D.n (fun q=>.string (v q))
end
section
open Go.RowKit Go.Deep
theorem x4a {D:MD}:AccD D↔∀ i,i<D.n->anyA D i (fun a b=>!selE a b)=false:=by
 constructor
 ·intro h i hi;refine x8h fun d g=>?_;have:=h i d hi g;simp[selE,this]
 intro h q d l g;have k:=h q l;cases c:selE (D.ain q d) (D.aout q d)
 ·have j:anyA D q (fun a b=>!selE a b)=true:=y6u.2 ⟨d,g,by simp[c]⟩;rw[k] at j;cases j
 unfold selE at c;simp at c;exact c.symm
def TstM (Q:Prop) (w:World) (r:Ending) (w':World):Prop:=Below w.heap.size w w'/\((Q/\r=.returned (.bool true))\/(¬ Q/\r=.returned (.bool false)))
theorem u2e {D:MD} {mv:Value} (w:World) (hM:Ma none w mv D) (U:MSz D) (ht:Tab w):Calls prog 106 #[mv,.func (.func 107) #[] #[]] w (TstM (VM D/\AccD D) w):=by
 obtain⟨sv,rfl,hS⟩:=hM;obtain⟨a,cp,b,b8,A,C,BB,O,c8,ha,hc,hm,hb,N⟩:=hS.open;subst c8;unfold maxLen at hm;obtain⟨H,o⟩:=exq (w.alloc (.cells #[.int .i64 D.kind,.int .i64 D.start,.string D.lead,.slice a D.n cp] 24));obtain⟨B,u⟩:=exq (H.alloc (.cells #[.func (.func 107) #[] #[]] 100));have b7:H.heap.size=w.heap.size+1:=by rw[o];simp
 have b6:Fr (fun _=>False) w H:=by rw[o];exact Fr.alloc _ _
 have a7:Fr (fun _=>False) H B:=by rw[u];exact Fr.alloc _ _
 have S:H.heap[w.heap.size]?=some (.cells #[.int .i64 D.kind,.int .i64 D.start,.string D.lead,.slice a D.n cp] 24 (0,0)):=by rw[o];exact heap_alloc_new w _
 have d:B.heap[w.heap.size]?=some (.cells #[.int .i64 D.kind,.int .i64 D.start,.string D.lead,.slice a D.n cp] 24 (0,0)):=(a7.block _ (lt_of_block S) (fun e=>e)).trans S;have s:PAl (w.heap.size+1) 107 B:=by show B.heap[w.heap.size+1]?=_;rw[<- b7,u];exact heap_alloc_new H _
 have G:Below w.heap.size w B:=(b6.trans a7).below nlr (fun _ e=>e.elim);obtain⟨mb,T⟩:=exq (w.heap.size);obtain⟨Y,a4⟩:=exq (w.heap.size+1);obtain⟨⟨m0,m1,m2,m3⟩,_⟩:=cells4 d;have b4:=qh (z2d B (⟨_,rfl,hS.kept (z0b G none)⟩:Ma none B (.agg #[.int .i64 D.kind,.int .i64 D.start,.string D.lead,.slice a D.n cp]) D) U (ht.below G nlr));rw[<- T] at d;rw[<- a4] at s;have d1:mb<B.heap.size:=lt_of_block d;have a3:=qh G;clear G;have a1:=qh d;clear d S b6 a7 b7;have l:=qh s;clear s;have d8:=qh hS;clear hS;have HT:=qh ht;clear ht;have d6:=qh U;clear U;have HA:=qh ha;clear ha;have HB:=qh hb;clear hb;have HR:=qh N;clear N;rw[u,o] at m0 m1 m2 m3
 go_enter func106,ntmps106
 go_wp2_with fail
 rw[<- o,<- u,<- a4,<- T];clear m0 m1 m2 m3 o u T a4;refine b4.out.mono ?_;rintro r w3 ⟨E,hr⟩;have I:=a3.out.trans (E.mono a3.out.size);have d:=(E.block _ (lt_of_block a1.out)).trans a1.out;have s:PAl Y 107 w3:=(E.block _ (lt_of_block l.out)).trans l.out;obtain⟨⟨m0,m1,m2,m3⟩,_⟩:=cells4 d;clear E a1 l b4 a3 d1;have a5:=qh I;clear I;have l:=qh s;clear s d
 rcases hr with ⟨Z,rfl⟩|⟨Z,rfl⟩
 rotate_left
 ·have HV:=qh Z;clear Z;go_wp2;go_ret;exact⟨a5.out,.inr ⟨fun h=>HV.out h.1,rfl⟩⟩
 have c9:=Z.n1;have d0:=Z.n2;have HV:=qh Z;clear Z;obtain rfl:=HA.out (by omega);obtain⟨n,hn⟩:=exq (D.n);rw[<- hn] at c9 d0 m3 hc;have HN:=qh hn;rw[<- hn];clear hn
 go_wp2_with fail
 clear m0 m1 m2 m3
 go_loopw [13] (fun X wr=>∃ i:Nat,i<=n/\X=.int .i64 (i:Int)/\Below w.heap.size w wr/\PAl Y 107 wr/\∀ j,j<i->anyA D j (fun a b=>!selE a b)=false) (fun X _=>n-(intOf X).toNat)
 case atStart=>exact⟨0,Nat.zero_le _,rfl,a5.out,l.out,fun j hj=>by omega⟩
 obtain⟨i,hi,rfl,b0,b2,b3⟩:=hrel;clear a5 l;have b9:=qh b3;clear b3;have m:=qh b0;clear b0;have Q:=qh b2;clear b2;by_cases d7:i<n
 ·have d9:(i:Int)<(n:Int):=by omega
  have d4:(0:Int)<=(i:Int):=by omega
  have c7:i<D.n:=by have:=HN.out;omega
  have a8:=(HB.out (by have:=HN.out;omega)).1;obtain⟨k1,k2,k3,k4,k5,k6,k7⟩:=HR.out i c7;have t0:=(m.out.cell (p:=⟨b,b8+i*2,none⟩) a8).trans k1;have t1:=(m.out.cell (p:=⟨b,b8+i*2+1,none⟩) a8).trans k2;clear k1 k2;have b5:D.na i<=30000:=by have h1:=Nat.le_trans (z1t D (show i+1<=D.n by omega)) HV.out.arcs;have h2:z0f D (i+1)=z0f D i+D.na i:=rfl;omega
  obtain⟨w4,a2⟩:=exq (wr.alloc (.cells #[.string (D.fin i),.slice (A i) (D.na i) (C i)] 57));have a6:Below wr.heap.size wr w4:=by rw[a2];exact(Below.refl _ wr).alloc nlr _
  have c:=m.out.trans (a6.mono m.out.size);have g:PAl Y 107 w4:=(a6.block _ (lt_of_block Q.out)).trans Q.out;have L:ArS none w4 (.slice (A i) (D.na i) (C i)) D i:=by
   by_cases h0:D.na i=0
   ·exact .inl ⟨h0,A i,C i,by rw[h0],k4⟩
   refine .inr ⟨BB i,O i,C i,by rw[k5 (by omega)],⟨Nat.lt_of_lt_of_le (k6 (by omega)).1 c.size,by simp⟩,k3,k4,fun k hk=>?_⟩;obtain⟨u0,u1,u2,u3⟩:=k7 k hk;have F:=(k6 (by omega)).1;exact⟨(c.cell (p:=⟨BB i,O i+k*4,none⟩) F).trans u0,(c.cell (p:=⟨BB i,O i+k*4+1,none⟩) F).trans u1,(c.cell (p:=⟨BB i,O i+k*4+2,none⟩) F).trans u2,(c.cell (p:=⟨BB i,O i+k*4+3,none⟩) F).trans u3⟩
  have d5:∀ (fn:Fn) (first cap:Array Value) (w:World),(Instr.makeFunc fn first cap).run prog w=.ok (.func fn first cap) w:=fun _ _ _ _=>rfl
  have HC:=qh (y7a w4 L b5 (u5g Y u5n) (fun wb hb=>(hb.block _ (lt_of_block g)).trans g));have P:=qh c;clear c a6 L k3 k4 k5 k6 k7;have z:=qh g;clear g Q m
  go_wp2_with fail
  rw[<- a2];clear t0 t1 a2;refine HC.out.mono ?_;rintro r w5 ⟨rfl,W⟩;have K:=P.out.trans (W.mono P.out.size);have J:PAl Y 107 w5:=(W.block _ (lt_of_block z.out)).trans z.out;have b1:=qh K;clear K W P HC;have a9:=qh J;clear J z;cases hp:anyA D i (fun a b=>!selE a b)
  ·have R:=qh hp;clear hp;go_wp2;go_roundw
   case rel=>exact⟨i+1,by omega,by go_num,b1.out,a9.out,fun j hj=>by
    by_cases e:j=i
    ·subst e;exact R.out
    exact b9.out j (by omega)⟩
   simp[intOf];omega
  have R:=qh hp;clear hp;go_wp2;go_ret;exact⟨b1.out,.inr ⟨fun h=>absurd (x4a.1 h.2 i (by have:=HN.out;omega)) (by rw[R.out];simp),rfl⟩⟩
 have d2:n=i:=by omega
 subst d2;have d3:¬ ((n:Int)<(n:Int)):=by omega
 go_wp2;go_ret;exact⟨m.out,.inl ⟨⟨HV.out,x4a.2 (fun i hi=>b9.out i (by rw[HN.out];exact hi))⟩,rfl⟩⟩
theorem x5c {D:MD} {mv:Value} (w:World) (H:Ma none w mv D) (l:MSz D) (E:Tab w):Calls prog 62 #[mv] w (TstM (VM D/\AccD D) w):=by
 obtain⟨sv,rfl,u⟩:=H;obtain⟨a,s,b,I,A,C,BB,O,p,_⟩:=u.open;subst p;obtain⟨h,c⟩:=exq (w.alloc (.cells #[.int .i64 D.kind,.int .i64 D.start,.string D.lead,.slice a D.n s] 24));have d:Below w.heap.size w h:=by rw[c];exact(Below.refl _ w).alloc nlr _
 have i:h.heap[w.heap.size]?=some (.cells #[.int .i64 D.kind,.int .i64 D.start,.string D.lead,.slice a D.n s] 24 (0,0)):=by rw[c];exact heap_alloc_new w _
 obtain⟨⟨m0,m1,F,B⟩,_⟩:=cells4 i;have m:=qh (u2e h (⟨_,rfl,u.kept (z0b d none)⟩:Ma none h (.agg #[.int .i64 D.kind,.int .i64 D.start,.string D.lead,.slice a D.n s]) D) l (E.below d nlr));have g:=qh d;clear d i l E u;rw[c] at m0 m1 F B
 go_enter func62,ntmps62
 go_wp2_with fail
 rw[<- c];clear m0 m1 F B c;refine m.out.mono ?_;rintro r J ⟨o,G⟩;have j:=qh (g.out.trans (o.mono g.out.size));clear o g m
 rcases G with ⟨k,rfl⟩|⟨k,rfl⟩
 ·have z:=qh k;clear k;go_wp2;go_ret;exact⟨j.out,.inl ⟨z.out,rfl⟩⟩
 have z:=qh k;clear k;go_wp2;go_ret;exact⟨j.out,.inr ⟨z.out,rfl⟩⟩
def DomE (D:MD) (na:Nat) (x:Nat->Int) (w:World) (r:Ending) (w':World):Prop :=
 Below w.heap.size w w'/\∃ z:ByteArray × Nat,r=.returned (.tuple #[.string z.1,.int .i64 (z.2:Int)])/\((VM D/\isWord na x=true/\Dv D na x z)\/(¬ (VM D/\isWord na x=true)/\z=(⟨#[]⟩,1)))
theorem DomX.v {D:MD} {na:Nat} {x:Nat->Int} {w:World} {r:Ending} {g:World} (h:DomX D na x w r g):DomE D na x w r g:=by
 refine⟨h.1,?_⟩
 rcases h.2 with ⟨j,i,st,l,B,c⟩|⟨A,c⟩
 ·refine⟨_,c,.inl ⟨j,i,fun o k m=>?_⟩⟩;by_cases p:l=0
  ·subst p;exact(u1s j.inZ m (B.stZ (fun _ _=>rfl) m) (isWord.ne i) o).2
  have z:=y0n o;have u:=y4p z;by_cases d:(dwE D.inZ st l x 0).2=0
  ·exact absurd d p
  have s:=y8s (D:=D.inZ) (st:=st) (x:=x) d na;rw[Nat.zero_add] at s;rw[s] at u;exact absurd u d
 exact⟨(⟨#[]⟩,1),c,.inr ⟨A,rfl⟩⟩
end
section
open Go.RowKit Go.Deep
def MD.outZ (D:MD):MD:={ D with ain:=fun _ _=>0 }
theorem v5t (D:MD):D.sym (fun _ o=>(0,o))=D.outZ:=rfl
theorem v9h:∀ args w,(callFunc 63 args).run prog w=.ok (.enter 63 args) w:=fun args w=>by kernel_rfl
theorem v9d:∀ args w,(callFunc 64 args).run prog w=.ok (.enter 64 args) w:=fun args w=>by kernel_rfl
theorem u3w (w:World) (i o:Int):Calls prog 63 #[.int .i64 i,.int .i64 o] w (fun r w'=>r=.returned (.tuple #[.int .i64 i,.int .i64 0])/\w'=w):=by
 go_enter func63,ntmps63
 go_wp2;go_ret2;exact⟨rfl,rfl⟩
theorem u4d (w:World) (i o:Int):Calls prog 64 #[.int .i64 i,.int .i64 o] w (fun r w'=>r=.returned (.tuple #[.int .i64 0,.int .i64 o])/\w'=w):=by
 go_enter func64,ntmps64
 go_wp2;go_ret2;exact⟨rfl,rfl⟩
theorem VM.outZ {D:MD} (h:VM D):VM D.outZ:=h.sym (φ:=fun _ o=>(0,o)) (fun i o _ _ c d=>⟨by show (0:Int)<=0;omega,by show (0:Int)<=500;omega,c,d⟩)
def accQ (D E:MD):Prop:=AccD D/\AccD E/\D.kind=E.kind
def CrsE (D E:MD) (w:World) (r:Ending) (w':World):Prop :=
 Below w.heap.size w w'/\((VM D/\VM E/\accQ D E /\
  ((
   dnOk (tmF (z0n D.kind D.lead E.lead) 0) (E.n+D.n) (catA D.inZ E.outZ)/\∃ sv R,r=.returned (.tuple #[.agg #[.int .i64 D.kind,.int .i64 ((E.n:Int)+D.start),.string (z0n D.kind D.lead E.lead).1,sv],.int .i64 0])/\OwM w' w.heap.size sv (catD D.inZ E.outZ (z0n D.kind D.lead E.lead).1) R) \/
   (¬ dnOk (tmF (z0n D.kind D.lead E.lead) 0) (E.n+D.n) (catA D.inZ E.outZ)/\r=.returned (.tuple #[z9g,.int .i64 2])))) \/
  (VM D/\VM E/\¬ accQ D E/\r=.returned (.tuple #[z9g,.int .i64 6]))\/(¬ (VM D/\VM E)/\r=.returned (.tuple #[z9g,.int .i64 1])))
theorem OwM.ma {w c:World} {B:Nat} {sv:Value} {D:MD} {R:Nat->Value} (h:OwM w B sv D R) (hb:Below w.heap.size w c):Ma none c (.agg #[.int .i64 D.kind,.int .i64 D.start,.string D.lead,sv]) D:=⟨sv,rfl,h.sts.kept (z0b hb none)⟩
theorem x7t {D E:MD} {mv nv:Value} (w:World) (hM:Ma none w mv D) (hN:Ma none w nv E) (g6:MSz D) (i5:MSz E) (ht:Tab w) (d9:E.n+D.n<=1000) (e4:z0f D D.n+z0f E E.n<=1000):Calls prog 29 #[mv,nv] w (CrsE D E w):=by
 obtain⟨sv,rfl,hS⟩:=hM;obtain⟨sw,rfl,g5⟩:=hN;obtain⟨a,cp,_,_,_,_,_,_,f8,_⟩:=hS.open;obtain⟨a2,d2,_,_,_,_,_,_,j6,_⟩:=g5.open;subst f8;subst j6;have f7:∀ W,Below w.heap.size w W->Ma none W (.agg #[.int .i64 D.kind,.int .i64 D.start,.string D.lead,.slice a D.n cp]) D:=fun W h=>⟨_,rfl,hS.kept (z0b h none)⟩;have d7:∀ W,Below w.heap.size w W->Ma none W (.agg #[.int .i64 E.kind,.int .i64 E.start,.string E.lead,.slice a2 E.n d2]) E:=fun W h=>⟨_,rfl,g5.kept (z0b h none)⟩;have e8:∀ W,Below w.heap.size w W->Tab W:=fun W h=>ht.below h nlr;obtain⟨w1,Z⟩:=exq (w.alloc (.cells #[.int .i64 D.kind,.int .i64 D.start,.string D.lead,.slice a D.n cp] 24));obtain⟨w2,U⟩:=exq (w1.alloc (.cells #[.int .i64 E.kind,.int .i64 E.start,.string E.lead,.slice a2 E.n d2] 24));obtain⟨w3,a9⟩:=exq (w2.alloc (.cells #[.int .i64 0,.int .i64 0,.string ⟨#[]⟩,.slice none 0 0] 24));have g3:w1.heap.size=w.heap.size+1:=by rw[Z];simp
 have i4:w2.heap.size=w.heap.size+1+1:=by rw[U];simp[g3]
 have h9:Fr (fun _=>False) w w1:=by rw[Z];exact Fr.alloc _ _
 have f5:Fr (fun _=>False) w1 w2:=by rw[U];exact Fr.alloc _ _
 have d4:Fr (fun _=>False) w2 w3:=by rw[a9];exact Fr.alloc _ _
 have g0:w1.heap[w.heap.size]?=some (.cells #[.int .i64 D.kind,.int .i64 D.start,.string D.lead,.slice a D.n cp] 24 (0,0)):=by rw[Z];exact heap_alloc_new w _
 have m:w3.heap[w.heap.size]?=some (.cells #[.int .i64 D.kind,.int .i64 D.start,.string D.lead,.slice a D.n cp] 24 (0,0)):=(d4.block _ (by omega) (fun e=>e)).trans ((f5.block _ (lt_of_block g0) (fun e=>e)).trans g0);have d5:w2.heap[w.heap.size+1]?=some (.cells #[.int .i64 E.kind,.int .i64 E.start,.string E.lead,.slice a2 E.n d2] 24 (0,0)):=by rw[<- g3,U];exact heap_alloc_new w1 _
 have j:w3.heap[w.heap.size+1]?=some (.cells #[.int .i64 E.kind,.int .i64 E.start,.string E.lead,.slice a2 E.n d2] 24 (0,0)):=(d4.block _ (by omega) (fun e=>e)).trans d5;have d:w3.heap[w.heap.size+1+1]?=some (.cells #[.int .i64 0,.int .i64 0,.string ⟨#[]⟩,.slice none 0 0] 24 (0,0)):=by rw[<- i4,a9];exact heap_alloc_new w2 _
 have c8:Below w.heap.size w w3:=((h9.trans f5).trans d4).below nlr (fun _ e=>e.elim);obtain⟨mb,d1⟩:=exq (w.heap.size);obtain⟨nb,e6⟩:=exq (w.heap.size+1);obtain⟨H,g1⟩:=exq (w.heap.size+1+1);have P:w.heap.size<=H:=by omega
 rw[<- d1] at m;rw[<- e6] at j;rw[<- g1] at d;obtain⟨⟨m0,m1,m2,m3⟩,_⟩:=cells4 m;have h7:=qh (z2d w3 (f7 w3 c8) g6 (e8 w3 c8));have i9:=qh f7;clear f7 hS;have g7:=qh d7;clear d7 g5;have Y:=qh e8;clear e8 ht;have g8:=qh c8;clear c8;have k:=qh m;clear m g0 h9 f5 d4 g3 i4 d5;have g:=qh j;clear j;have c:=qh d;clear d;have e7:=qh g6;clear g6;have d3:=qh i5;clear i5;have i7:=qh d9;clear d9;have j0:=qh e4;clear e4;rw[d1,a9,U,Z] at m0 m1 m2 m3
 go_enter func29,ntmps29
 go_wp2_with fail
 rw[<- Z,<- U,<- a9,<- g1,<- e6,<- d1];clear m0 m1 m2 m3 Z U a9 d1 e6 g1;refine h7.out.mono ?_;rintro r w4 ⟨b3,A⟩;have m:=(b3.block _ (lt_of_block k.out)).trans k.out;have j:=(b3.block _ (lt_of_block g.out)).trans g.out;have d:=(b3.block _ (lt_of_block c.out)).trans c.out;have a1:=qh (g8.out.trans (b3.mono g8.out.size));clear b3 k g c h7 g8;have k:=qh m;clear m;have g:=qh j;clear j;have c:=qh d;clear d
 rcases A with ⟨hv,rfl⟩|⟨hv,rfl⟩
 rotate_left
 ·have HV:=qh hv;clear hv;obtain⟨⟨r0,r1,r2,r3⟩,l⟩:=cells4 c.out;have f0:=l 0;have f1:=l 1;have f2:=l 2;have f3:=l 3;clear l
  go_wp2_with fail
  exact bodyPost_ret (z0j rfl _ (b:=H) rfl rfl (z0w w4 H _ _ _ _ c.out)) rfl ⟨z0d a1.out P _ _ _ _,.inr (.inr ⟨fun h=>HV.out h.1,rfl⟩)⟩
 have HV:=qh hv;clear hv;obtain⟨⟨n0,n1,n2,n3⟩,_⟩:=cells4 g.out;have g9:=qh (z2d w4 (g7.out w4 a1.out) d3.out (Y.out w4 a1.out))
 go_wp2_with fail
 clear n0 n1 n2 n3;refine g9.out.mono ?_;rintro r w5 ⟨b5,A⟩;have m:=(b5.block _ (lt_of_block k.out)).trans k.out;have j:=(b5.block _ (lt_of_block g.out)).trans g.out;have d:=(b5.block _ (lt_of_block c.out)).trans c.out;have X:=qh (a1.out.trans (b5.mono a1.out.size));clear b5 k g c g9 a1;have k:=qh m;clear m;have g:=qh j;clear j;have c:=qh d;clear d
 rcases A with ⟨hv,rfl⟩|⟨hv,rfl⟩
 rotate_left
 ·have p:=qh hv;clear hv;obtain⟨⟨r0,r1,r2,r3⟩,l⟩:=cells4 c.out;have f0:=l 0;have f1:=l 1;have f2:=l 2;have f3:=l 3;clear l
  go_wp2_with fail
  exact bodyPost_ret (z0j rfl _ (b:=H) rfl rfl (z0w w5 H _ _ _ _ c.out)) rfl ⟨z0d X.out P _ _ _ _,.inr (.inr ⟨fun h=>p.out h.2,rfl⟩)⟩
 have p:=qh hv;clear hv;obtain⟨⟨m0,m1,m2,m3⟩,_⟩:=cells4 k.out;have j2:=qh (x5c w5 (i9.out w5 X.out) e7.out (Y.out w5 X.out))
 go_wp2_with fail
 clear m0 m1 m2 m3;refine j2.out.mono ?_;rintro r w6 ⟨b6,A⟩;have m:=(b6.block _ (lt_of_block k.out)).trans k.out;have j:=(b6.block _ (lt_of_block g.out)).trans g.out;have d:=(b6.block _ (lt_of_block c.out)).trans c.out;have a3:=qh (X.out.trans (b6.mono X.out.size));clear b6 k g c j2 X;have k:=qh m;clear m;have g:=qh j;clear j;have c:=qh d;clear d
 rcases A with ⟨hq,rfl⟩|⟨hq,rfl⟩
 rotate_left
 ·have c7:=qh (show ¬ accQ D E from fun h=>hq ⟨HV.out,h.1⟩);clear hq;obtain⟨⟨r0,r1,r2,r3⟩,l⟩:=cells4 c.out;have f0:=l 0;have f1:=l 1;have f2:=l 2;have f3:=l 3;clear l
  go_wp2_with fail
  exact bodyPost_ret (z0j rfl _ (b:=H) rfl rfl (z0w w6 H _ _ _ _ c.out)) rfl ⟨z0d a3.out P _ _ _ _,.inr (.inl ⟨HV.out,p.out,c7.out,rfl⟩)⟩
 have k0:=qh hq;clear hq;obtain⟨⟨n0,n1,n2,n3⟩,_⟩:=cells4 g.out;have h3:=qh (x5c w6 (g7.out w6 a3.out) d3.out (Y.out w6 a3.out))
 go_wp2_with fail
 clear n0 n1 n2 n3;refine h3.out.mono ?_;rintro r w7 ⟨b7,A⟩;have m:=(b7.block _ (lt_of_block k.out)).trans k.out;have j:=(b7.block _ (lt_of_block g.out)).trans g.out;have d:=(b7.block _ (lt_of_block c.out)).trans c.out;have I:=qh (a3.out.trans (b7.mono a3.out.size));clear b7 k g c h3 a3;have k:=qh m;clear m;have g:=qh j;clear j;have c:=qh d;clear d
 rcases A with ⟨hq,rfl⟩|⟨hq,rfl⟩
 rotate_left
 ·have c7:=qh (show ¬ accQ D E from fun h=>hq ⟨p.out,h.2.1⟩);clear hq;obtain⟨⟨r0,r1,r2,r3⟩,l⟩:=cells4 c.out;have f0:=l 0;have f1:=l 1;have f2:=l 2;have f3:=l 3;clear l
  go_wp2_with fail
  exact bodyPost_ret (z0j rfl _ (b:=H) rfl rfl (z0w w7 H _ _ _ _ c.out)) rfl ⟨z0d I.out P _ _ _ _,.inr (.inl ⟨HV.out,p.out,c7.out,rfl⟩)⟩
 have j8:=qh hq;clear hq;by_cases c9:D.kind=E.kind
 rotate_left
 ·have c7:=qh (show ¬ accQ D E from fun h=>c9 h.2.2);obtain⟨⟨r0,r1,r2,r3⟩,l⟩:=cells4 c.out;have f0:=l 0;have f1:=l 1;have f2:=l 2;have f3:=l 3;clear l;have m0:=(cells4 k.out).1.1;have n0:=(cells4 g.out).1.1
  go_wp2_with fail
  exact bodyPost_ret (z0j rfl _ (b:=H) rfl rfl (z0w w7 H _ _ _ _ c.out)) rfl ⟨z0d I.out P _ _ _ _,.inr (.inl ⟨HV.out,p.out,c7.out,rfl⟩)⟩
 have HQ:=qh (show accQ D E from ⟨k0.out.2,j8.out.2,c9⟩);have h0:=qh c9;clear c9;obtain⟨⟨m0,m1,m2,m3⟩,_⟩:=cells4 k.out;have n0:=(cells4 g.out).1.1;rw[<- h0.out] at n0;have g4:=z6k (φ:=fun i _=>(i,0)) w7 (i9.out w7 I.out) e7.out (Y.out w7 I.out) (y4b v9h (fun w i o=>u3w w i o)) trivial (fun _ _=>trivial);rw[u2a] at g4;have h6:=qh g4;clear g4
 go_wp2_with fail
 clear m0 m1 m2 m3 n0;refine h6.out.mono ?_;rintro r w8 ⟨d0,A⟩;have j:=(d0.block _ (lt_of_block g.out)).trans g.out;have d:=(d0.block _ (lt_of_block c.out)).trans c.out;have e9:=qh (I.out.trans (d0.mono I.out.size));have k4:w.heap.size<=w7.heap.size:=I.out.size;clear d0 k g c h6 I;have g:=qh j;clear j;have c:=qh d;clear d
 rcases A with ⟨_,k1,R1,rfl,Q⟩|⟨b0,_⟩
 rotate_left
 ·exact absurd HV.out b0
 obtain⟨i6,j3,i8,_,_⟩:=z1e Q.top;subst i8;obtain⟨ib,g2⟩:=exq (w8.heap.size);obtain⟨w9,b8⟩:=exq (w8.alloc (.cells #[.int .i64 D.inZ.kind,.int .i64 D.inZ.start,.string D.inZ.lead,.slice i6 D.inZ.n j3] 24));have a4:Below w8.heap.size w8 w9:=by rw[b8];exact(Below.refl _ w8).alloc nlr _
 have F:w9.heap[ib]?=some (.cells #[.int .i64 D.inZ.kind,.int .i64 D.inZ.start,.string D.inZ.lead,.slice i6 D.inZ.n j3] 24 (0,0)):=by rw[b8,g2];exact heap_alloc_new w8 _
 have j:=(a4.block _ (lt_of_block g.out)).trans g.out;have d:=(a4.block _ (lt_of_block c.out)).trans c.out;have S:=e9.out.trans (a4.mono e9.out.size);have a5:=z6k (φ:=fun _ o=>(0,o)) w9 (g7.out w9 S) d3.out (Y.out w9 S) (y4b v9d (fun w i o=>u4d w i o)) trivial (fun _ _=>trivial);rw[v5t] at a5;have e3:=fun W (h:Below w8.heap.size w8 W)=>Q.ma h;obtain⟨⟨n0,n1,n2,n3⟩,_⟩:=cells4 j;rw[b8] at n0 n1 n2 n3;have e0:=qh a5;clear a5;have d8:=qh e3;clear e3 Q;have f4:=qh a4;clear a4;have b1:=qh S;clear S e9;have K:=qh F;clear F;have g:=qh j;clear j;have c:=qh d;clear d
 go_wp2_with fail
 rw[<- g2,<- b8];clear n0 n1 n2 n3 g2 b8;refine e0.out.mono ?_;rintro r T ⟨G,A⟩;have F:=(G.block _ (lt_of_block K.out)).trans K.out;have d:=(G.block _ (lt_of_block c.out)).trans c.out;have b2:=b1.out.trans (G.mono b1.out.size);have b4:=f4.out.trans (G.mono f4.out.size);clear G g c K e0 f4;have c:=qh d;clear d;have K:=qh F;clear F;have N:=qh b2;clear b2 b1;have L:=qh b4;clear b4
 rcases A with ⟨_,k2,R2,rfl,J⟩|⟨b0,_⟩
 rotate_left
 ·exact absurd p.out b0
 obtain⟨j1,j5,h5,_,_⟩:=z1e J.top;subst h5;obtain⟨ob,f9⟩:=exq (T.heap.size);obtain⟨C,B⟩:=exq (T.alloc (.cells #[.int .i64 E.outZ.kind,.int .i64 E.outZ.start,.string E.outZ.lead,.slice j1 E.outZ.n j5] 24));have s:Below T.heap.size T C:=by rw[B];exact(Below.refl _ T).alloc nlr _
 have j4:C.heap[ob]?=some (.cells #[.int .i64 E.outZ.kind,.int .i64 E.outZ.start,.string E.outZ.lead,.slice j1 E.outZ.n j5] 24 (0,0)):=by rw[B,f9];exact heap_alloc_new T _
 have F:=(s.block _ (lt_of_block K.out)).trans K.out;have d:=(s.block _ (lt_of_block c.out)).trans c.out;have O:=N.out.trans (s.mono N.out.size);have a6:=L.out.trans (s.mono L.out.size);have d6:=x6a C (d8.out C a6) (J.ma s) ({ e7.out with }:MSz D.inZ) ({ d3.out with }:MSz E.outZ) (Y.out C O) i7.out (by
  have h1:z0f D.inZ D.n=z0f D D.n:=y1a D D.n;have h2:z0f E.outZ E.n=z0f E E.n:=y1s (fun _ o=>(0,o)) E E.n;have:=j0.out;show z0f D.inZ D.n+z0f E.outZ E.n<=1000;rw[h1,h2];exact this)
 obtain⟨⟨o0,o1,o2,o3⟩,_⟩:=cells4 j4;obtain⟨⟨i0,i1,i2,i3⟩,_⟩:=cells4 F;rw[B] at o0 o1 o2 o3 i0 i1 i2 i3;rw[f9] at o0 o1 o2 o3;have e2:=qh d6;clear d6;have u:=qh O;clear O N a6 L s J d8;have c:=qh d;clear d F j4 K
 go_wp2_with fail
 rw[<- B];clear o0 o1 o2 o3 i0 i1 i2 i3 B f9;refine e2.out.mono ?_;rintro r h8 ⟨b9,A⟩;have d:=(b9.block _ (lt_of_block c.out)).trans c.out;have e1:=qh (u.out.trans (b9.mono u.out.size));have j9:w.heap.size<=C.heap.size:=u.out.size;clear b9 e2 u c;have c:=qh d;clear d;obtain⟨⟨r0,r1,r2,r3⟩,l⟩:=cells4 c.out;have f0:=l 0;have f1:=l 1;have f2:=l 2;have f3:=l 3;clear l;unfold z9g at A
 rcases A with ⟨-,-,-,A⟩|⟨_,_,j7,_⟩|⟨b0,_⟩
 rotate_left
 ·exact absurd h0.out j7
 ·exact absurd ⟨HV.out.inZ,p.out.outZ⟩ b0
 obtain⟨z,hz⟩:=exq (z0n D.kind D.lead E.lead);rw[show z0n D.inZ.kind D.inZ.lead E.outZ.lead=z from hz.symm] at A;have HZ:=qh hz;clear hz
 rcases A with ⟨a8,k3,R,rfl,a7⟩|⟨a8,rfl⟩
 ·obtain⟨sa,sc,f8,_,_⟩:=z1e a7.top;subst f8;have h4:=qh (z3z (a7.box4 c.out (.int .i64 D.inZ.kind) (.int .i64 ((E.outZ.n:Int)+D.inZ.start)) (.string z.1) (.slice sa (catD D.inZ E.outZ z.1).n sc)) j9);clear a7;have e5:=qh a8;clear a8
  go_wp2_with fail
  refine bodyPost_ret (z0j rfl _ (b:=H) rfl rfl (z0w h8 H _ _ _ _ c.out)) rfl ⟨z0d e1.out P _ _ _ _,.inl ⟨HV.out,p.out,HQ.out,.inl ⟨?_,.slice sa (catD D.inZ E.outZ z.1).n sc,R,?_,?_⟩⟩⟩
  ·rw[<- HZ.out];exact e5.out
  ·rw[<- HZ.out];rfl
  rw[<- HZ.out];exact h4.out
 have e5:=qh a8;clear a8
 go_wp2_with fail
 refine bodyPost_ret (z0j rfl _ (b:=H) rfl rfl (z0w h8 H _ _ _ _ c.out)) rfl ⟨z0d e1.out P _ _ _ _,.inl ⟨HV.out,p.out,HQ.out,.inr ⟨?_,rfl⟩⟩⟩;rw[<- HZ.out];exact e5.out
end
section
open Go.RowKit Go.Deep
def mpO (pi po:Nat->Int):Nat->Int->Option Int
 | 0,_=>none
 | q+1,s=>match mpO pi po q s with|some t=>some t|none=>if pi q=s then some (po q) else none
def mapF (n:Nat) (pi po:Nat->Int) (s:Int):Int:=(mpO pi po n s).getD s
def RenOk (n:Nat) (pi po:Nat->Int):Prop:=∀ i,i<n->1<=pi i/\pi i<=500/\0<=po i/\po i<=500
theorem x3t {pi po:Nat->Int} {s t:Int}:∀ {q},mpO pi po q s=some t->∃ i,i<q/\pi i=s/\po i=t
 | 0,h=>by cases h
 | q+1,h=>by
  unfold mpO at h;cases e:mpO pi po q s with
  | some t' =>
   rw[e] at h;obtain⟨i,h1,h2,h3⟩:=x3t e;exact⟨i,by omega,h2,by rw[h3];simpa using h⟩
  | none =>
   rw[e] at h;by_cases hp:pi q=s
   ·simp only[hp,if_true,Option.some.injEq] at h;exact⟨q,by omega,hp,h⟩
   simp[hp] at h
theorem y2p {n:Nat} {c d:Nat->Int} (h:RenOk n c d) {s:Int} (j:0<=s) (k:s<=500):0<=mapF n c d s/\mapF n c d s<=500:=by
 unfold mapF;cases e:mpO c d n s with
 | some t =>
  obtain⟨i,g,m,l⟩:=x3t e;have:=h i g;simp only[Option.getD_some];omega
 | none=>simp only[Option.getD_none];omega
theorem VM.ren {D:MD} (h:VM D) {n:Nat} {c g:Nat->Int} (d:RenOk n c g):VM (D.ren (mapF n c g)) :=
 h.sym (φ:=fun i o=>(mapF n c g i,mapF n c g o)) fun i o j m k l=>⟨(y2p d j m).1,(y2p d j m).2,(y2p d k l).1,(y2p d k l).2⟩
def PrS (z:Option Nat) (w:World) (v:Value) (n:Nat) (pi po:Nat->Int):Prop :=
 (n=0/\∃ a cap,v=.slice a 0 cap/\cap<=maxLen)\/∃ b off cap,v=.slice (some ⟨b,off,none⟩) n cap/\(b<w.heap.size/\some b≠z)/\n<=cap/\cap<=maxLen/\∀ i,i<n->w.cell? ⟨b,off+i*2,none⟩=some (.int .i64 (pi i))/\w.cell? ⟨b,off+i*2+1,none⟩=some (.int .i64 (po i))
theorem PrS.kept {z:Option Nat} {w o:World} {v:Value} {n:Nat} {k m:Nat->Int} (h:PrS z w v n k m) (j:w.grownBy o z):PrS z o v n k m:=by
 rcases h with h|⟨b,d,g,s,c,u,p,l⟩
 ·exact .inl h
 exact .inr ⟨b,d,g,s,⟨Nat.lt_of_lt_of_le c.1 j.size,c.2⟩,u,p,fun i hi=>⟨j.cell (l i hi).1 c.2,j.cell (l i hi).2 c.2⟩⟩
theorem PrS.open {z:Option Nat} {w:World} {v:Value} {n:Nat} {c d:Nat->Int} (h:PrS z w v n c d):∃ a cap b off,v=.slice a n cap/\(0<n->a=some ⟨b,off,none⟩)/\n<=cap/\cap<=maxLen/\(0<n->b<w.heap.size/\some b≠z)/\∀ i,i<n->w.cell? ⟨b,off+i*2,none⟩=some (.int .i64 (c i))/\w.cell? ⟨b,off+i*2+1,none⟩=some (.int .i64 (d i)):=by
 rcases h with ⟨l,a,cap,rfl,k⟩|⟨b,off,cap,rfl,g,o,m,j⟩
 ·exact⟨a,cap,0,0,by rw[l],by omega,by omega,k,by omega,fun i hi=>by omega⟩
 exact⟨_,cap,b,off,rfl,fun _=>rfl,o,m,fun _=>g,j⟩
def MpM (w:World) (pb q:Nat) (pi po:Nat->Int):Prop:=∃ D:DataW Unit,w.ownsMap prog 3 (plainElem prog 3) pb q D/\Maps.IsMap D/\∀ s z:Int,D.atKey (.int .i64 s) (.lit (.int .i64 z))=.lit (.int .i64 ((mpO pi po q s).getD z))
theorem u5c:Maps.Keyed prog 3:=Maps.int_keyed underlying3
theorem keyM {s:Int} (c:0<=s) (d:s<=500):keyOf prog 3 (.int .i64 s)=some (.int .i64 s):=Maps.keyOf_int_mk underlying3 (by simp[Lit.wf,IntKind.min,IntKind.max,IntKind.signed,IntKind.bits];omega)
theorem u5j (w:World):(zeroValue 3).run prog w=.ok (.int .i64 0) w:=by kernel_rfl
theorem u4j {s:Int} (c:0<=s) (d:s<=500):plainElem (H:=Unit) prog 3 (.int .i64 s)=some (.lit (.int .i64 s),[]):=plainElem_int underlying3 (by simp[Lit.wf,IntKind.min,IntKind.max,IntKind.signed,IntKind.bits];omega)
theorem MpM.made (w:World) (d c:Nat->Int):MpM (w.alloc (.map #[] 0)) w.heap.size 0 d c:=⟨.map [],World.ownsMap_made w _ _ _,⟨[],rfl⟩,fun _ _=>rfl⟩
theorem MpM.kept {w j:World} {d q:Nat} {g i:Nat->Int} {C:Nat->Prop} (h:MpM w d q g i) (hf:Fr C w j) (l:¬ C d):MpM j d q g i:=by
 obtain⟨D,⟨o,c,hb,k⟩,p,m⟩:=h;exact⟨D,⟨o,c,(hf.block d (Array.getElem?_eq_some_iff.1 hb).1 l).trans hb,k⟩,p,m⟩
theorem MpM.block {w:World} {g q:Nat} {j k:Nat->Int} (h:MpM w g q j k) {b:Nat} {c:Array Value} {t:TypeId} {f:Nat × Nat} (hb:w.heap[b]?=some (.cells c t f)):b≠g:=by
 obtain⟨D,⟨l,d,i,_⟩,_⟩:=h;rintro rfl;rw[hb] at i;cases i
theorem MpM.lt {w:World} {d q:Nat} {g j:Nat->Int} (h:MpM w d q g j):d<w.heap.size:=by
 obtain⟨D,⟨k,c,i,_⟩,_⟩:=h;exact(Array.getElem?_eq_some_iff.1 i).1
theorem MpM.look {w:World} {u q:Nat} {i j:Nat->Int} (h:MpM w u q i j) {s:Int} (A:0<=s) (z:s<=500) :
  (Instr.lookup 91 (.map (some u)) (.int .i64 s) true).run prog w=.ok (.tuple #[.int .i64 ((mpO i j q s).getD 0),.bool (mpO i j q s).isSome]) w:=by
 obtain⟨D,⟨E,l,hb,F,G,rfl⟩,_,m⟩:=h
 rcases Maps.fit_look true u5c underlying91 (u5j w) hb F (keyM A z) with ⟨d,_,g⟩|⟨C,y,_,_,d,o,g,_⟩
 ·have k:mpO i j q s=none:=by
   cases e:mpO i j q s with
   | none=>rfl
   | some t =>
    have a:=(g (.lit (.int .i64 (t+1)))).symm.trans (m s (t+1));rw[e] at a;simp only[Option.getD_some,DataW.lit.injEq,Lit.int.injEq,true_and] at a;omega
  rw[d,k];rfl
 obtain⟨c,B,p,_⟩:=plainElem_int_inv underlying3 o;have k:mpO i j q s=some c:=by
  cases e:mpO i j q s with
  | none =>
   have a:=(g (.lit (.int .i64 (c+1)))).symm.trans (m s (c+1));rw[e,p] at a;simp only[Option.getD_none,DataW.lit.injEq,Lit.int.injEq,true_and] at a;omega
  | some t =>
   have a:=(g (.lit (.int .i64 0))).symm.trans (m s 0);rw[e,p] at a;simp only[Option.getD_some,DataW.lit.injEq,Lit.int.injEq,true_and] at a;rw[a]
 rw[d,k,B];rfl
theorem MpM.put {k:World} {i q:Nat} {c d:Nat->Int} {D:DataW Unit} (j:Maps.IsMap D) (m:∀ s z:Int,D.atKey (.int .i64 s) (.lit (.int .i64 z))=.lit (.int .i64 ((mpO c d q s).getD z))) (g:mpO c d q (c q)=none)
  (l:k.ownsMap prog 3 (plainElem prog 3) i (q+1) (D.put (.int .i64 (c q)) (.lit (.int .i64 (d q))))):MpM k i (q+1) c d:=by
 refine⟨_,l,j.put _ _,fun s z=>?_⟩;by_cases e:s=c q
 ·subst e;rw[Maps.atKey_put_same j (by trivial)];show _=DataW.lit (.int .i64 ((mpO c d (q+1) (c q)).getD z));unfold mpO;rw[g];simp
 rw[Maps.atKey_put_other (fun h=>e (by simpa using h)),m s];show _=DataW.lit (.int .i64 ((mpO c d (q+1) s).getD z))
 conv=>rhs;unfold mpO
 cases o:mpO c d q s with
 | some t=>rfl
 | none=>simp[show ¬ c q=s from fun h=>e h.symm]
theorem MpM.same {j:World} {i q:Nat} {c g:Nat->Int} (h:MpM j i q c g) (d:(mpO c g q (c q)).isSome=true):MpM j i (q+1) c g:=by
 obtain⟨D,k,o,l⟩:=h;refine⟨D,k.mono (by omega),o,fun s z=>?_⟩;rw[l s z];show _=DataW.lit (.int .i64 ((mpO c g (q+1) s).getD z))
 conv=>rhs;unfold mpO
 cases m:mpO c g q s with
 | some t=>rfl
 | none =>
  have:¬ c q=s:=fun h=>by rw[h,m] at d;cases d
  simp[this]
def R1P (ob pb n:Nat) (pi po:Nat->Int) (w:World):Prop:=w.heap[ob]?=some (.cells #[.map (some pb)] 91 (0,0))/\MpM w pb n pi po
theorem R1P.kept {c d n:Nat} {g i:Nat->Int} {w j:World} {C:Nat->Prop} (h:R1P c d n g i w) (hf:Fr C w j) (k:¬ C c) (l:¬ C d):R1P c d n g i j:=⟨(hf.block c (lt_of_block h.1) k).trans h.1,h.2.kept hf l⟩
theorem x8e {j k n:Nat} {d g:Nat->Int} (w:World) (h:R1P j k n d g w) (s:Int) (l:0<=s) (m:s<=500) :
  Calls prog 70 #[.int .i64 s,.pointer (some ⟨j,0,none⟩)] w (fun r w'=>r=.returned (.int .i64 (mapF n d g s))/\w'=w):=by
 have c0:w.cell? ⟨j,0,none⟩=some (.map (some k)):=by simp[World.cell?,h.1]
 have c:=h.2.look l m;have i:mapF n d g s=(mpO d g n s).getD s:=rfl;rw[i];clear h i;cases e:mpO d g n s with
 | some t =>
  rw[e] at c;simp only[Option.getD_some,Option.isSome_some] at c ⊢;clear e
  go_enter func70,ntmps70
  go_wp2;go_ret;exact⟨rfl,rfl⟩
 | none =>
  rw[e] at c;simp only[Option.getD_none,Option.isSome_none] at c ⊢;clear e
  go_enter func70,ntmps70
  go_wp2;go_ret;exact⟨rfl,rfl⟩
def R2P (fb ob pb n:Nat) (pi po:Nat->Int) (w:World):Prop:=w.heap[fb]?=some (.cells #[.func (.func 70) #[] #[.pointer (some ⟨ob,0,none⟩)]] 93 (0,0))/\R1P ob pb n pi po w
theorem R2P.kept {c g d n:Nat} {i j:Nat->Int} {w k:World} {C:Nat->Prop} (h:R2P c g d n i j w) (hf:Fr C w k) (l:¬ C g) (o:¬ C d) (m:¬ C c):R2P c g d n i j k:=⟨(hf.block c (lt_of_block h.1) m).trans h.1,h.2.kept hf l o⟩
theorem R2P.lt {d g c n:Nat} {j i:Nat->Int} {w:World} (h:R2P d g c n j i w):d<w.heap.size/\g<w.heap.size/\c<w.heap.size:=⟨lt_of_block h.1,lt_of_block h.2.1,h.2.2.lt⟩
theorem v7n:∀ args w,(callFunc 71 args).run prog w=.ok (.enter 71 args) w:=fun args w=>by kernel_rfl
end
section
open Go CSR
def finB (k:Int) (s:ByteArray):Bool:=decide (s=⟨#[]⟩)||z0s k s
def arcB (D:MD) (i k:Nat):Bool:=(decide (0<=D.ain i k)&&decide (D.ain i k<=500))&&(decide (0<=D.aout i k)&&decide (D.aout i k<=500))&&(decide (0<=D.ato i k)&&decide (D.ato i k<(D.n:Int)))&&z0s D.kind (D.aw i k)
def vmB (D:MD):Bool:=z4c D.kind&&(decide (1<=D.n)&&decide (D.n<=3000))&&(decide (0<=D.start)&&decide (D.start<(D.n:Int)))&&z0s D.kind D.lead&&decide (z0f D D.n<=30000)&&((List.range D.n).all fun i=>finB D.kind (D.fin i)&&(List.range (D.na i)).all fun k=>arcB D i k)
theorem y4c {D:MD} (h:vmB D=true):VM D:=by
 unfold vmB at h;simp only[Bool.and_eq_true,decide_eq_true_eq,List.all_eq_true,List.mem_range] at h;obtain⟨⟨⟨⟨⟨s,A,m⟩,z,l⟩,p⟩,u⟩,j⟩:=h;refine⟨s,A,m,z,l,p,u,fun i hi=>?_,fun i k hi o=>?_⟩
 ·have:=(j i hi).1;unfold finB at this
  simpa using this
 have:=(j i hi).2 k o;unfold arcB at this;simp only[Bool.and_eq_true,decide_eq_true_eq] at this;obtain⟨⟨⟨⟨a,b⟩,c,d⟩,e,f⟩,g⟩:=this;exact⟨a,b,c,d,e,f,g⟩
instance (v:V):Decidable (fitV v):=by cases v<;>unfold fitV<;>infer_instance
def u2z {k:KK} (n p:Nat) (M:Nat->Nat->RK k):Bool:=decide (fitV (CSR.star (M p p)).1)&&(List.range n).all fun i=>decide (fitV (M i p*CSR.star (M p p)).1)&&(List.range n).all fun j =>
 decide (fitV (M i p*CSR.star (M p p)*M p j).1)&&decide (fitV (CSR.elim p M i j).1)
def u0t {k:KK} (n:Nat) (M:Nat->Nat->RK k):Bool:=((List.range n).all fun p=>u2z n p (CSR.elims M p))&&(List.range n).all fun i=>decide (fitV (CSR.elims M n i i+CSR.one).1)
theorem v4y {k:KK} {n:Nat} {M:Nat->Nat->RK k} (h:u0t n M=true):FitM n M:=by
 unfold u0t at h;simp only[Bool.and_eq_true,decide_eq_true_eq,List.all_eq_true,List.mem_range] at h;refine⟨fun p d=>?_,h.2⟩;have h:=h.1 p d;unfold u2z at h;simp only[Bool.and_eq_true,decide_eq_true_eq,List.all_eq_true,List.mem_range] at h;exact⟨h.1,fun i hi=>(h.2 i hi).1,fun i j hi c=>((h.2 i hi).2 j c).1,fun i j hi c=>((h.2 i hi).2 j c).2⟩
def selB (D:MD):Bool:=(List.range D.n).any fun q=>(List.range (D.na q)).any fun d=>silB (D.ain q d) (D.aout q d)
theorem z9s {D:MD}:NoSel D silB↔selB D=false:=by
 unfold selB NoSel;simp only[List.any_eq_false,List.mem_range,Bool.not_eq_true];exact⟨fun h q g d c=>h q d g c,fun h q d g c=>h q g d c⟩
def VOk (D:MD) (na:Nat) (x:Nat->Int) (nb:Nat) (y:Nat->Int) (s:ByteArray):Prop:=VM D/\isWord na x=true/\isWord nb y=true/\∀ st e,SilOk D silB st e->wgtG D st e na x nb y=(s,0)
def v8r (k:KK) (D:MD) (T:Nat->Nat->ByteArray):Bool:=(List.range D.n).all fun q=>(List.range D.n).all fun p=>decide (u1h k D silB q p=T q p)
def vokB (k:KK) (D:MD) (T:Nat->Nat->ByteArray) (na:Nat) (x:Nat->Int) (nb:Nat) (y:Nat->Int) (s:ByteArray):Bool :=
 (decide (k.1=D.kind)&&(isWord na x&&isWord nb y))&&(decide (D.n<=60)&&decide (serr D silB D.n=0))&&(if selB D then decide (wgtG D (some T) 0 na x nb y=(s,0)) else decide (wgtG D none 0 na x nb y=(s,0)))
theorem v8g {k:KK} {D:MD} {T:Nat->Nat->ByteArray} {na:Nat} {x:Nat->Int} {nb:Nat} {y:Nat->Int} {s:ByteArray} (l:VM D) (hf:u0t D.n (fun i j=>wval k (smat D silB i j))=true) (g:v8r k D T=true) (h:vokB k D T na x nb y s=true):VOk D na x nb y s:=by
 unfold vokB at h;simp only[Bool.and_eq_true,decide_eq_true_eq] at h;obtain⟨⟨⟨C,B,u⟩,G,o⟩,c⟩:=h;refine⟨l,B,u,fun st e F=>?_⟩
 rcases F.closed l C G o (v4y hf) (na:=na) (x:=x) (nb:=nb) (y:=y) with ⟨d,hb⟩|⟨d,hb⟩
 ·rw[z9s.1 hb] at c;rw[d];simpa using c
 have E:selB D=true:=by
  cases A:selB D
  ·exact absurd (z9s.2 A) hb
  rfl
 rw[E] at c;rw[d,v1m (S':=T) fun q p z m=>?_]
 ·simpa using c
 unfold v8r at g;simp only[List.all_eq_true,List.mem_range,decide_eq_true_eq] at g;exact g q z p m
theorem y3g {D:MD} {na:Nat} {x:Nat->Int} {nb:Nat} {y:Nat->Int} {s:ByteArray} (k:VM D) (g:selB D=false) (h:(isWord na x&&isWord nb y&&decide (wgtG D none 0 na x nb y=(s,0)))=true):VOk D na x nb y s:=by
 simp only[Bool.and_eq_true,decide_eq_true_eq] at h;obtain⟨⟨l,j⟩,i⟩:=h;refine⟨k,l,j,fun st e d=>?_⟩
 rcases d with ⟨_,rfl,rfl⟩|⟨c,_⟩|⟨c,_⟩
 ·exact i
 ·exact absurd (z9s.2 g) c
 exact absurd (z9s.2 g) c
def kTr:KK:=⟨1,.inl rfl⟩
def mD:MD:={ kind:=1,start:=0,lead:=⟨#[48]⟩,n:=2,fin:=fun i=>if i=0 then ⟨#[]⟩ else ⟨#[48]⟩,na:=fun i=>if i=0 then 2 else 0,ain:=fun _ _=>1,aout:=fun _ d=>if d=0 then 2 else 3,aw:=fun _ d=>if d=0 then ⟨#[49]⟩ else ⟨#[50]⟩,ato:=fun _ _=>1 }
def y12:Nat->Int:=fun i=>if i=0 then 1 else 2
def y21:Nat->Int:=fun i=>if i=0 then 2 else 1
def c1:Nat->Int:=fun _=>1
def c2:Nat->Int:=fun _=>2
def c3:Nat->Int:=fun _=>3
def dD:MD:=z9f 1 2 y12 1 c3 ⟨#[51]⟩
def abD:MD:=z9f 1 2 y12 2 y12 ⟨#[49]⟩
def kD:MD:=z9f 1 1 c3 1 c3 ⟨#[50]⟩
def cD:MD:=catD abD.inZ kD.outZ (z0n abD.kind abD.lead kD.lead).1
def nD:MD:=mD.ren (mapF 1 c2 c3)
theorem v3n:VM mD:=y4c (by decide +kernel)
theorem u3c:VM dD:=y4c (by decide +kernel)
theorem u3m:VM (revD dD):=y4c (by decide +kernel)
theorem v8q:VM abD:=y4c (by decide +kernel)
theorem u3z:VM kD:=y4c (by decide +kernel)
theorem u5h:VM cD:=y4c (by decide +kernel)
theorem u5f:VM nD:=y4c (by decide +kernel)
theorem u5k:VOk mD.inv 1 c2 1 c1 ⟨#[49]⟩:=y3g (y4c (by decide +kernel)) (by decide +kernel) (by decide +kernel)
theorem u5q:VOk mD.inv 1 c1 1 c2 ⟨#[105,110,102]⟩:=y3g (y4c (by decide +kernel)) (by decide +kernel) (by decide +kernel)
theorem ex_b:VOk mD.inR 1 c1 1 c1 ⟨#[49]⟩:=y3g (y4c (by decide +kernel)) (by decide +kernel) (by decide +kernel)
theorem ex_c:VOk mD.outR 1 c3 1 c3 ⟨#[50]⟩:=y3g (y4c (by decide +kernel)) (by decide +kernel) (by decide +kernel)
theorem ex_n:VOk nD 1 c1 1 c3 ⟨#[49]⟩:=y3g u5f (by decide +kernel) (by decide +kernel)
def tR (q p:Nat):ByteArray:=if q=p then ⟨#[48]⟩ else if q=3/\p=2 then ⟨#[48]⟩ else ⟨#[105,110,102]⟩
def tC (q p:Nat):ByteArray:=if q=p then ⟨#[48]⟩ else if q=4/\p=0 then ⟨#[48]⟩ else ⟨#[105,110,102]⟩
theorem ex_d:VOk (revD dD) 2 y21 1 c3 ⟨#[51]⟩:=v8g (k:=kTr) (T:=tR) u3m (by decide +kernel) (by decide +kernel) (by decide +kernel)
theorem ex_k:VOk cD 2 y12 1 c3 ⟨#[51]⟩:=v8g (k:=kTr) (T:=tC) u5h (by decide +kernel) (by decide +kernel) (by decide +kernel)
end
end Go.Proofs.YteappjogmnogcaaGreatDoor
