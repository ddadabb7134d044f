/- Ahead of a card. -/

import Derived.Test.YteappjogmnogcaaGreatDoorZ44
import Derived.Test.YteappjogmnogcaaGreatDoorZ39
import Derived.Test.YteappjogmnogcaaGreatDoorZ45
import Derived.SizedLaws
import Derived.Test.YteappjogmnogcaaGreatDoorCards
import Derived.Test.YteappjogmnogcaaGreatDoorTie
import Derived.ProofKit
import Derived.OpenShut
import Derived.Deep.DeepHandedRow
import Derived.Lib.LaidTab
import Derived.SevenTiedAt
import Derived.Carry
namespace Go.Proofs.YteappjogmnogcaaGreatDoor.sidesRenameC
open Go.ChangeShapes Go.WideShapes Go.ChangeAt Go.RowKit
open Go.ChangeMaps (open_string shut_string)
set_option linter.unusedVariables false
set_option maxRecDepth 100000
theorem own:ownKnob Tryz.prog.godebug=none:=by kernel_rfl
theorem gTab:Tryz.prog.globalNamed "internal/strconv.uint64pow10"=some 1:=by kernel_rfl
theorem gTabType:(Tryz.prog.globals[1]?).map (·.type)=some 243:=by kernel_rfl
theorem cellsT:Tryz.prog.cellsOf 243=20:=by kernel_rfl
theorem laidOut:laidOutB Tryz.prog=true:=by kernel_rfl
theorem cellsE:Tryz.prog.cellsOf 179=1:=by kernel_rfl
theorem tab{W:World}(h:laidMetH Tryz.prog Rows.sidesRenameRow.laid W):Tab W:=by
 have m:laidMet Tryz.prog Rows.sidesRenameRow.laid W:=h;obtain⟨K,⟨G,t0,j,D,J,q0,s,z,B,o,⟨H,t1,k,E,p1,q1,u,A,C,p,⟨I,t2,l,F,p2,q2,d,g,i,c,_,_⟩,_⟩,_⟩,_⟩:=m;obtain rfl:=Option.some.inj<|gTab.symm.trans d;obtain rfl:=Option.some.inj<|gTabType.symm.trans g;unfold Tab Lib.TabIs;rw[i];rw[← Lib.cells_of_tab (zs:=Lib.pow10Tab) Tryz.underlying243 Tryz.underlying179 cellsE cellsT c]
theorem contract(H:Type)(enc:TypeId × Value→H)(W:World)(base:Nat)(args:Array Value)(o gs:List (DataW H))(g:List MemPlace)
  (c:∀(j:Nat) t v,Tryz.f7.params[j]?=some t→args[j]?=some v→Value.okWide Tryz.prog W .any base t v)
  (O:DataW.Whole enc Tryz.prog Tryz.f7.params.toList Rows.sidesRenameSpec.vars false W args.toList o gs g) (l:(DataW.weightsEach Tryz.prog (Tryz.f7.params.toList++(OpenSpec.ofChange Rows.sidesRenameSpec).bare.plain.varTypes Tryz.prog) (o++gs)).all (·≤reachBytes)=true) (hL:laidMetH Tryz.prog Rows.sidesRenameRow.laid W) :
  Calls Tryz.prog 7 args W λe W'=>∃v,e=.returned v∧Rows.sidesRenameSpec.post enc Tryz.prog Tryz.f7 false true false false W args v W':=by
 have d:=O;obtain⟨p,q,k,hV,rfl,a1,a2⟩:=O;have N:DataW.TrodAll enc Tryz.prog W 0 (λ_=>true) true Tryz.f7.params.toList args.toList o p:=k;rw[Tryz.params7]at N c l;obtain⟨P,a3,S,T,p0,q0,s,rfl,rfl,I,r0⟩:=trodAll_cons N;obtain⟨v1,a4,d1,U,p1,q1,rfl,rfl,rfl,J,r1⟩:=trodAll_cons r0;obtain⟨Q,a5,d2,X,p2,q2,rfl,rfl,rfl,K,r2⟩:=trodAll_cons r1;obtain⟨R,a6,d3,Y,p3,q3,rfl,rfl,rfl,L,r3⟩:=trodAll_cons r2;obtain⟨rfl,rfl,rfl⟩:=trodAll_nil r3;obtain rfl:args=#[P,v1,Q,R]:=by cases args;simp_all
 obtain⟨rfl,rfl⟩:=trodVars_none hV;have l0:∀x ∈ p0,x.block < W.heap.size:=λx i=>d.lt x (by simp[i]);have k0:=I;have u0:∀m ∈ S.weights Tryz.prog 24,m≤reachBytes:=λm hm=>of_decide_eq_true (List.all_eq_true.1 l m (DataW.weights_mem_each (j:=0) rfl rfl m hm));obtain⟨D0,m0,z0⟩:=GR (c 0 24 P rfl rfl) I u0;have l1:∀x ∈ p1,x.block < W.heap.size:=λx i=>d.lt x (by simp[i]);have k1:=J;obtain⟨u,E,B,rfl⟩:=okWide_slice Tryz.underlying45 (c 1 45 v1 rfl rfl);obtain⟨f1,Z⟩:=J;obtain⟨n1,X1,Y1,m1⟩:=SB (v:=.slice u E B) Z;have l2:∀x ∈ p2,x.block < W.heap.size:=λx i=>d.lt x (by simp[i]);have k2:=K;obtain⟨z,F,C,rfl⟩:=okWide_slice Tryz.underlying25 (c 2 25 Q rfl rfl);obtain⟨f2,g2⟩:=K;obtain⟨n2,X2,m2⟩:=Es (v:=.slice z F C) g2;have l3:∀x ∈ p3,x.block < W.heap.size:=λx i=>d.lt x (by simp[i]);have k3:=L;obtain⟨A,G,D,rfl⟩:=okWide_slice Tryz.underlying25 (c 3 25 R rfl rfl);obtain⟨f3,g3⟩:=L;obtain⟨n3,X3,m3⟩:=Es (v:=.slice A G D) g3;clear k;simp only[List.append_nil]at d;refine(YR W m0 z0 m1 m2 m3 (tab hL)).mono λe W' ⟨he,hb⟩=>?_;subst he;exact⟨_,rfl,_,_,_,[],_,[],d,trodAll_cons_mk (shut_bool Tryz.underlying4 _) trodAll_mk0,(trodAll_cons_mk (Below.trod laidOut (by kernel_rfl) (of_decide_eq_true (by kernel_rfl)) k0 hb l0) (trodAll_cons_mk (Below.trod laidOut (by kernel_rfl) (of_decide_eq_true (by kernel_rfl)) k1 hb l1) (trodAll_cons_mk (Below.trod laidOut (by kernel_rfl) (of_decide_eq_true (by kernel_rfl)) k2 hb l2) (trodAll_cons_mk (Below.trod laidOut (by kernel_rfl) (of_decide_eq_true (by kernel_rfl)) k3 hb l3) trodAll_mk0)))),rfl,hb.frame _,λh=>by cases h⟩
def lay(vs:Array Value):Obj→Obj
 | .cells _ t frozen=>.cells vs t frozen
 |o=>o
noncomputable def laidWorld(os:Os):World :=
 { World.holding Tryz.prog os ⟨#[],#[],[]⟩ with heap:=(((World.holding Tryz.prog os ⟨#[],#[],[]⟩).heap.modify 2 (lay #[.int .u8 0,.int .u8 1,.int .u8 28,.int .u8 2,.int .u8 29,.int .u8 14,.int .u8 24,.int .u8 3,.int .u8 30,.int .u8 22,.int .u8 20,.int .u8 15,.int .u8 25,.int .u8 17,.int .u8 4,.int .u8 8,.int .u8 31,.int .u8 27,.int .u8 13,.int .u8 23,.int .u8 21,.int .u8 19,.int .u8 16,.int .u8 7,.int .u8 26,.int .u8 12,.int .u8 18,.int .u8 6,.int .u8 11,.int .u8 5,.int .u8 10,.int .u8 9])).modify 3 (lay #[.int .u8 0,.int .u8 1,.int .u8 56,.int .u8 2,.int .u8 57,.int .u8 49,.int .u8 28,.int .u8 3,.int .u8 61,.int .u8 58,.int .u8 42,.int .u8 50,.int .u8 38,.int .u8 29,.int .u8 17,.int .u8 4,.int .u8 62,.int .u8 47,.int .u8 59,.int .u8 36,.int .u8 45,.int .u8 43,.int .u8 51,.int .u8 22,.int .u8 53,.int .u8 39,.int .u8 33,.int .u8 30,.int .u8 24,.int .u8 18,.int .u8 12,.int .u8 5,.int .u8 63,.int .u8 55,.int .u8 48,.int .u8 27,.int .u8 60,.int .u8 41,.int .u8 37,.int .u8 16,.int .u8 46,.int .u8 35,.int .u8 44,.int .u8 21,.int .u8 52,.int .u8 32,.int .u8 23,.int .u8 11,.int .u8 54,.int .u8 26,.int .u8 40,.int .u8 15,.int .u8 34,.int .u8 20,.int .u8 31,.int .u8 10,.int .u8 25,.int .u8 14,.int .u8 19,.int .u8 9,.int .u8 13,.int .u8 8,.int .u8 7,.int .u8 6])).modify 1 (lay #[.int .u64 1,.int .u64 10,.int .u64 100,.int .u64 1000,.int .u64 10000,.int .u64 100000,.int .u64 1000000,.int .u64 10000000,.int .u64 100000000,.int .u64 1000000000,.int .u64 10000000000,.int .u64 100000000000,.int .u64 1000000000000,.int .u64 10000000000000,.int .u64 100000000000000,.int .u64 1000000000000000,.int .u64 10000000000000000,.int .u64 100000000000000000,.int .u64 1000000000000000000,.int .u64 10000000000000000000]) }
theorem laid_met(os:Os):laidMet Tryz.prog Rows.sidesRenameRow.laid ((laidWorld os).forCall (λ_ _=>0) ⟨#[],#[.agg #[.int .i64 0,.int .i64 0,.string ByteArray.empty,.slice none 0 0],.slice none 0 0,.slice none 0 0,.slice none 0 0],[]⟩).memory :=
 laidMet_of_run' 8 (by kernel_rfl) (by kernel_rfl)
theorem reads(os:Os){H:Type}(enc:TypeId × Value→H):∃places,DataW.whole enc Tryz.prog ((laidWorld os).forCall (λ_ _=>0) ⟨#[],#[.agg #[.int .i64 0,.int .i64 0,.string ByteArray.empty,.slice none 0 0],.slice none 0 0,.slice none 0 0,.slice none 0 0],[]⟩).memory Tryz.f7.params.toList Rows.sidesRenameSpec.vars false (Array.toList #[.agg #[.int .i64 0,.int .i64 0,.string ByteArray.empty,.slice none 0 0],.slice none 0 0,.slice none 0 0,.slice none 0 0]) 8=some ([.agg [.lit (.int .i64 0),.lit (.int .i64 0),.lit (.string []),.nil],.nil,.nil,.nil],[],places) :=
 ⟨[],by kernel_rfl⟩
set_option maxRecDepth 100000 in
theorem lifted(os:Os)(c:os.Started)(H:Type)(enc:TypeId × Value→H)(F:Stop.Interp):
  ReturnsInHanded {} Tryz.checked os 7 .any ((OpenSpec.ofChange Rows.sidesRenameSpec).preRow enc Tryz.prog Tryz.f7 Rows.sidesRenameRow.domain false Rows.sidesRenameRow.laid) (((OpenSpec.ofChange Rows.sidesRenameSpec).at F).post enc Tryz.prog Tryz.f7 false true false false):=by
 obtain⟨i,u⟩:=reads os enc;refine returnsInHanded_of_row (C:=Tryz.checked) (s:=OpenSpec.ofChange Rows.sidesRenameSpec) own c (by kernel_rfl) Tryz.func7
  (witness_row_at (enc:=enc) (C:=Tryz.checked) false (laidWorld os) #[.agg #[.int .i64 0,.int .i64 0,.string ByteArray.empty,.slice none 0 0],.slice none 0 0,.slice none 0 0,.slice none 0 0] rfl (by kernel_rfl) (by kernel_rfl) (by kernel_rfl)
   (OpenSpec.preRow_of_cond 8 u (by kernel_rfl) (λk p=>by cases p) (by kernel_rfl) (laid_met os))) ?_
 intro W base g l gs d h o _ _ j m _ _;exact contract H enc W base g l gs d h o j m
end Go.Proofs.YteappjogmnogcaaGreatDoor.sidesRenameC
