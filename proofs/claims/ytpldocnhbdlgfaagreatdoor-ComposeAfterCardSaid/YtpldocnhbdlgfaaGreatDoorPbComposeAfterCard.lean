/- The statement ComposeAfter (its tied card): the function returns true for every input; conditions: those of the given row (the listed tables start as the program's text lays them). -/

import Derived.Test.YtpldocnhbdlgfaaGreatDoorPb41
import Derived.Test.YtpldocnhbdlgfaaGreatDoorPb32
import Derived.SizedLaws
import Derived.Test.YtpldocnhbdlgfaaGreatDoorCards
import Derived.Test.YtpldocnhbdlgfaaGreatDoorTie
import Derived.ProofKit
import Derived.OpenShut
import Derived.Deep.DeepHandedRow
import Derived.Lib.LaidTab
import Derived.SevenTiedAt
import Derived.Carry
namespace Go.Proofs.YtpldocnhbdlgfaaGreatDoor.composeAfterC
open Go.ChangeShapes Go.WideShapes Go.ChangeAt Go.RowKit
open Go.ChangeMaps (open_string shut_string)
set_option linter.unusedVariables false
set_option maxRecDepth 100000
theorem own:ownKnob Tryz.prog.godebug=none:=by kernel_rfl
theorem gTab:Tryz.prog.globalNamed "internal/strconv.uint64pow10"=some 1:=by kernel_rfl
theorem gTabType:(Tryz.prog.globals[1]?).map (·.type)=some 256:=by kernel_rfl
theorem cellsT:Tryz.prog.cellsOf 256=20:=by kernel_rfl
theorem laidOut:laidOutB Tryz.prog=true:=by kernel_rfl
theorem cellsE:Tryz.prog.cellsOf 196=1:=by kernel_rfl
theorem tab{W:World}(h:laidMetH Tryz.prog Rows.composeAfterRow.laid W):Tab W:=by
 have m:laidMet Tryz.prog Rows.composeAfterRow.laid W:=h;obtain⟨K,⟨G,t0,j,D,J,q0,s,z,B,o,⟨H,t1,k,E,p1,q1,u,A,C,p,⟨I,t2,l,F,p2,q2,d,g,i,c,_,_⟩,_⟩,_⟩,_⟩:=m;obtain rfl:=Option.some.inj<|gTab.symm.trans d;obtain rfl:=Option.some.inj<|gTabType.symm.trans g;unfold Tab Lib.TabIs;rw[i];rw[← Lib.cells_of_tab (zs:=Lib.pow10Tab) Tryz.underlying256 Tryz.underlying196 cellsE cellsT c]
theorem contract(H:Type)(enc:TypeId × Value→H)(W:World)(base:Nat)(args:Array Value)(u gs:List (DataW H))(d:List MemPlace)
  (c:∀(j:Nat) t v,Tryz.f7.params[j]?=some t→args[j]?=some v→Value.okWide Tryz.prog W .any base t v)
  (J:DataW.Whole enc Tryz.prog Tryz.f7.params.toList Rows.composeAfterSpec.vars false W args.toList u gs d) (i:(DataW.weightsEach Tryz.prog (Tryz.f7.params.toList++(OpenSpec.ofChange Rows.composeAfterSpec).bare.plain.varTypes Tryz.prog) (u++gs)).all (·≤reachBytes)=true) (Q:laidMetH Tryz.prog Rows.composeAfterRow.laid W) :
  Calls Tryz.prog 7 args W λe W'=>∃v,e=.returned v∧Rows.composeAfterSpec.post enc Tryz.prog Tryz.f7 false true false false W args v W':=by
 have g:=J;obtain⟨p,q,k,R,rfl,T,U⟩:=J;have I:DataW.TrodAll enc Tryz.prog W 0 (λ_=>true) true Tryz.f7.params.toList args.toList u p:=k;rw[Tryz.params7]at I c i;obtain⟨K,a5,L,O,p0,q0,z,rfl,rfl,F,r0⟩:=trodAll_cons I;obtain⟨v1,a6,N,P,p1,q1,rfl,rfl,rfl,G,r1⟩:=trodAll_cons r0;obtain⟨rfl,rfl,rfl⟩:=trodAll_nil r1;obtain rfl:args=#[K,v1]:=by cases args;simp_all
 obtain⟨rfl,rfl⟩:=trodVars_none R;have Y:∀x ∈ p0,x.block < W.heap.size:=λx B=>g.lt x (by simp[B]);have X:=F;have u0:∀m ∈ L.weights Tryz.prog 25,m≤reachBytes:=λm A=>of_decide_eq_true (List.all_eq_true.1 i m (DataW.weights_mem_each (j:=0) rfl rfl m A));obtain⟨D0,m0,z0⟩:=Re (c 0 25 K rfl rfl) F u0;have Z:∀x ∈ p1,x.block < W.heap.size:=λx B=>g.lt x (by simp[B]);have k1:=G;have u1:∀m ∈ N.weights Tryz.prog 28,m≤reachBytes:=λm A=>of_decide_eq_true (List.all_eq_true.1 i m (DataW.weights_mem_each (j:=1) rfl rfl m A));obtain⟨a1,a2,a4,x1,y1,z1,a7,a8,a9,rfl,⟨C,l⟩,⟨D,o⟩,E,s⟩:=Rf (c 1 28 v1 rfl rfl) G u1;clear k;simp only[List.append_nil]at g;refine(RZ W m0 z0 C l D o E s (tab Q)).mono λe W' ⟨S,hb⟩=>?_;subst S;exact⟨_,rfl,_,_,_,[],_,[],g,trodAll_cons_mk (shut_bool Tryz.underlying4 _) trodAll_mk0,(trodAll_cons_mk (Below.trod laidOut (by kernel_rfl) (of_decide_eq_true (by kernel_rfl)) X hb Y) (trodAll_cons_mk (Below.trod laidOut (by kernel_rfl) (of_decide_eq_true (by kernel_rfl)) k1 hb Z) trodAll_mk0)),rfl,hb.frame _,λh=>by cases h⟩
def lay(vs:Array Value):Obj→Obj
 | .cells _ t frozen=>.cells vs t frozen
 |o=>o
noncomputable def laidWorld(os:Os):World :=
 { World.holding Tryz.prog os ⟨#[],#[],[]⟩ with heap:=(((World.holding Tryz.prog os ⟨#[],#[],[]⟩).heap.modify 2 (lay #[.int .u8 0,.int .u8 1,.int .u8 28,.int .u8 2,.int .u8 29,.int .u8 14,.int .u8 24,.int .u8 3,.int .u8 30,.int .u8 22,.int .u8 20,.int .u8 15,.int .u8 25,.int .u8 17,.int .u8 4,.int .u8 8,.int .u8 31,.int .u8 27,.int .u8 13,.int .u8 23,.int .u8 21,.int .u8 19,.int .u8 16,.int .u8 7,.int .u8 26,.int .u8 12,.int .u8 18,.int .u8 6,.int .u8 11,.int .u8 5,.int .u8 10,.int .u8 9])).modify 3 (lay #[.int .u8 0,.int .u8 1,.int .u8 56,.int .u8 2,.int .u8 57,.int .u8 49,.int .u8 28,.int .u8 3,.int .u8 61,.int .u8 58,.int .u8 42,.int .u8 50,.int .u8 38,.int .u8 29,.int .u8 17,.int .u8 4,.int .u8 62,.int .u8 47,.int .u8 59,.int .u8 36,.int .u8 45,.int .u8 43,.int .u8 51,.int .u8 22,.int .u8 53,.int .u8 39,.int .u8 33,.int .u8 30,.int .u8 24,.int .u8 18,.int .u8 12,.int .u8 5,.int .u8 63,.int .u8 55,.int .u8 48,.int .u8 27,.int .u8 60,.int .u8 41,.int .u8 37,.int .u8 16,.int .u8 46,.int .u8 35,.int .u8 44,.int .u8 21,.int .u8 52,.int .u8 32,.int .u8 23,.int .u8 11,.int .u8 54,.int .u8 26,.int .u8 40,.int .u8 15,.int .u8 34,.int .u8 20,.int .u8 31,.int .u8 10,.int .u8 25,.int .u8 14,.int .u8 19,.int .u8 9,.int .u8 13,.int .u8 8,.int .u8 7,.int .u8 6])).modify 1 (lay #[.int .u64 1,.int .u64 10,.int .u64 100,.int .u64 1000,.int .u64 10000,.int .u64 100000,.int .u64 1000000,.int .u64 10000000,.int .u64 100000000,.int .u64 1000000000,.int .u64 10000000000,.int .u64 100000000000,.int .u64 1000000000000,.int .u64 10000000000000,.int .u64 100000000000000,.int .u64 1000000000000000,.int .u64 10000000000000000,.int .u64 100000000000000000,.int .u64 1000000000000000000,.int .u64 10000000000000000000]) }
theorem laid_met(os:Os):laidMet Tryz.prog Rows.composeAfterRow.laid ((laidWorld os).forCall (λ_ _=>0) ⟨#[],#[.agg #[.int .i64 0,.int .i64 0,.string ByteArray.empty,.slice none 0 0],.agg #[.slice none 0 0,.slice none 0 0,.slice none 0 0]],[]⟩).memory :=
 laidMet_of_run' 8 (by kernel_rfl) (by kernel_rfl)
theorem reads(os:Os){H:Type}(enc:TypeId × Value→H):∃places,DataW.whole enc Tryz.prog ((laidWorld os).forCall (λ_ _=>0) ⟨#[],#[.agg #[.int .i64 0,.int .i64 0,.string ByteArray.empty,.slice none 0 0],.agg #[.slice none 0 0,.slice none 0 0,.slice none 0 0]],[]⟩).memory Tryz.f7.params.toList Rows.composeAfterSpec.vars false (Array.toList #[.agg #[.int .i64 0,.int .i64 0,.string ByteArray.empty,.slice none 0 0],.agg #[.slice none 0 0,.slice none 0 0,.slice none 0 0]]) 8=some ([.agg [.lit (.int .i64 0),.lit (.int .i64 0),.lit (.string []),.nil],.agg [.nil,.nil,.nil]],[],places) :=
 ⟨[],by kernel_rfl⟩
set_option maxRecDepth 100000 in
theorem lifted(os:Os)(c:os.Started)(H:Type)(enc:TypeId × Value→H)(F:Stop.Interp):
  ReturnsInHanded {} Tryz.checked os 7 .any ((OpenSpec.ofChange Rows.composeAfterSpec).preRow enc Tryz.prog Tryz.f7 Rows.composeAfterRow.domain false Rows.composeAfterRow.laid) (((OpenSpec.ofChange Rows.composeAfterSpec).at F).post enc Tryz.prog Tryz.f7 false true false false):=by
 obtain⟨i,u⟩:=reads os enc;refine returnsInHanded_of_row (C:=Tryz.checked) (s:=OpenSpec.ofChange Rows.composeAfterSpec) own c (by kernel_rfl) Tryz.func7
  (witness_row_at (enc:=enc) (C:=Tryz.checked) false (laidWorld os) #[.agg #[.int .i64 0,.int .i64 0,.string ByteArray.empty,.slice none 0 0],.agg #[.slice none 0 0,.slice none 0 0,.slice none 0 0]] rfl (by kernel_rfl) (by kernel_rfl) (by kernel_rfl)
   (OpenSpec.preRow_of_cond 8 u (by kernel_rfl) (λk p=>by cases p) (by kernel_rfl) (laid_met os))) ?_
 intro W base g l gs d h o _ _ j m _ _;exact contract H enc W base g l gs d h o j m
theorem said:Rows.ComposeAfterSaid :=
 OpenClaim.holds_of_cond 7 Tryz.f7 rfl rfl rfl rfl rfl rfl rfl ⟨rfl,rfl,rfl,rfl,rfl⟩ rfl rfl rfl rfl rfl (by kernel_rfl) Tryz.func7 (by kernel_rfl)
  (of_decide_eq_true (by kernel_rfl)) (by unfold Func.isWrapper;first |(rw[if_pos (by decide +kernel)];kernel_rfl) |(rw[if_neg (by decide +kernel)];exact⟨rfl,rfl⟩))
  (λos c H d _ F=>by rw[OpenClaim.pre_eq_preRow];exact lifted os c H d F)
theorem plain(f:FuncId)(fn:Func)(hf:Tryz.pinned.checked.prog.funcNamed Rows.composeAfterRow.func=some f)(d:Tryz.pinned.checked.prog.funcs[f]?=some fn):
  true=Tryz.pinned.checked.prog.looks []∧∀(j:Nat) t,fn.params[j]?=some t→Tryz.pinned.checked.prog.wantsStandIn t=false:=by
 obtain rfl:f=7:=Option.some.inj ((show Tryz.prog.funcNamed Rows.composeAfterRow.func=some 7 by kernel_rfl).symm.trans hf) |>.symm
 obtain rfl:fn=Tryz.f7:=(Option.some.inj (Tryz.func7.symm.trans d)).symm;refine⟨by kernel_rfl,λj t g=>?_⟩;rw[Tryz.params7]at g;have h:t ∈ [25,28]:=by simpa using Array.mem_of_getElem? g
 have c:([25,28].all λu=>!Tryz.prog.wantsStandIn u)=true:=by kernel_rfl
 exact(show Tryz.prog.wantsStandIn t=false by simpa using List.all_eq_true.1 c t h)
theorem card:Rows.ComposeAfterCardSaid :=
 Claim7.holds_tied_plain_at .later [] _ _ _ _ said (λ_ h=>by cases h) (by kernel_rfl) (λ_ h=>by cases h) composeAfter_row_tie rfl ⟨rfl,rfl⟩ (by kernel_rfl) rfl plain (by kernel_rfl)
#print axioms card
end Go.Proofs.YtpldocnhbdlgfaaGreatDoor.composeAfterC
