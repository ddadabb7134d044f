/- The statement ComposeExamples (its tied card): the function returns true for every input; conditions: those of the given row (the listed tables start as the program's text lays them). -/

import Derived.Test.YtpldocnhbdlgfaaGreatDoorPa19
import Derived.Test.YtpldocnhbdlgfaaGreatDoorCards
import Derived.Test.YtpldocnhbdlgfaaGreatDoorTie
import Derived.ProofKit
import Derived.OpenShut
import Derived.Deep.DeepHandedRow
import Derived.Lib.LaidTab
import Derived.SevenTiedAt
namespace Go.Proofs.YtpldocnhbdlgfaaGreatDoor.composeExamplesC
open Go.ChangeShapes Go.WideShapes Go.ChangeAt Go.RowKit
open Go.ChangeMaps (open_string shut_string)
set_option linter.unusedVariables false
set_option maxRecDepth 100000
theorem own:ownKnob Tryz.prog.godebug=none:=by kernel_rfl
theorem gTab:Tryz.prog.globalNamed "internal/strconv.uint64pow10"=some 1:=by kernel_rfl
theorem gTabType:(Tryz.prog.globals[1]?).map (·.type)=some 256:=by kernel_rfl
theorem cellsT:Tryz.prog.cellsOf 256=20:=by kernel_rfl
theorem cellsE:Tryz.prog.cellsOf 196=1:=by kernel_rfl
theorem tab{W:World}(h:laidMetH Tryz.prog Rows.composeExamplesRow.laid W):Tab W:=by
 have m:laidMet Tryz.prog Rows.composeExamplesRow.laid W:=h;obtain⟨K,⟨G,t0,j,D,J,q0,s,z,B,o,⟨H,t1,k,E,p1,q1,u,A,C,p,⟨I,t2,l,F,p2,q2,d,g,i,c,_,_⟩,_⟩,_⟩,_⟩:=m;obtain rfl:=Option.some.inj<|gTab.symm.trans d;obtain rfl:=Option.some.inj<|gTabType.symm.trans g;unfold Tab Lib.TabIs;rw[i];rw[← Lib.cells_of_tab (zs:=Lib.pow10Tab) Tryz.underlying256 Tryz.underlying196 cellsE cellsT c]
theorem contract(H:Type)(enc:TypeId × Value→H)(W:World)(base:Nat)(args:Array Value)(l gs:List (DataW H))(c:List MemPlace)
  (i:∀(j:Nat) t v,Tryz.f3.params[j]?=some t→args[j]?=some v→Value.okWide Tryz.prog W .any base t v)
  (o:DataW.Whole enc Tryz.prog Tryz.f3.params.toList Rows.composeExamplesSpec.vars false W args.toList l gs c) (s:laidMetH Tryz.prog Rows.composeExamplesRow.laid W) :
  Calls Tryz.prog 3 args W λe W'=>∃v,e=.returned v∧Rows.composeExamplesSpec.post enc Tryz.prog Tryz.f3 false true false false W args v W':=by
 have g:=o;obtain⟨p,q,d,u,rfl,A,B⟩:=o;have m:DataW.TrodAll enc Tryz.prog W 0 (λ_=>true) true Tryz.f3.params.toList args.toList l p:=d;rw[Tryz.params3]at m i;obtain⟨k,rfl,rfl⟩:=trodAll_nil m;obtain rfl:args=#[]:=by cases args;simp_all
 obtain⟨rfl,rfl⟩:=trodVars_none u;clear d;simp only[List.append_nil]at g;refine(Sz  W  (tab s)).mono λe W' ⟨z,hb⟩=>?_;subst z;exact⟨_,rfl,_,_,[],[],[],[],g,trodAll_cons_mk (shut_bool Tryz.underlying4 _) trodAll_mk0,trodAll_mk0,rfl,hb.frame _,λh=>by cases h⟩
def lay(vs:Array Value):Obj→Obj
 | .cells _ t frozen=>.cells vs t frozen
 |o=>o
noncomputable def laidWorld(os:Os):World :=
 { World.holding Tryz.prog os ⟨#[],#[],[]⟩ with heap:=(((World.holding Tryz.prog os ⟨#[],#[],[]⟩).heap.modify 2 (lay #[.int .u8 0,.int .u8 1,.int .u8 28,.int .u8 2,.int .u8 29,.int .u8 14,.int .u8 24,.int .u8 3,.int .u8 30,.int .u8 22,.int .u8 20,.int .u8 15,.int .u8 25,.int .u8 17,.int .u8 4,.int .u8 8,.int .u8 31,.int .u8 27,.int .u8 13,.int .u8 23,.int .u8 21,.int .u8 19,.int .u8 16,.int .u8 7,.int .u8 26,.int .u8 12,.int .u8 18,.int .u8 6,.int .u8 11,.int .u8 5,.int .u8 10,.int .u8 9])).modify 3 (lay #[.int .u8 0,.int .u8 1,.int .u8 56,.int .u8 2,.int .u8 57,.int .u8 49,.int .u8 28,.int .u8 3,.int .u8 61,.int .u8 58,.int .u8 42,.int .u8 50,.int .u8 38,.int .u8 29,.int .u8 17,.int .u8 4,.int .u8 62,.int .u8 47,.int .u8 59,.int .u8 36,.int .u8 45,.int .u8 43,.int .u8 51,.int .u8 22,.int .u8 53,.int .u8 39,.int .u8 33,.int .u8 30,.int .u8 24,.int .u8 18,.int .u8 12,.int .u8 5,.int .u8 63,.int .u8 55,.int .u8 48,.int .u8 27,.int .u8 60,.int .u8 41,.int .u8 37,.int .u8 16,.int .u8 46,.int .u8 35,.int .u8 44,.int .u8 21,.int .u8 52,.int .u8 32,.int .u8 23,.int .u8 11,.int .u8 54,.int .u8 26,.int .u8 40,.int .u8 15,.int .u8 34,.int .u8 20,.int .u8 31,.int .u8 10,.int .u8 25,.int .u8 14,.int .u8 19,.int .u8 9,.int .u8 13,.int .u8 8,.int .u8 7,.int .u8 6])).modify 1 (lay #[.int .u64 1,.int .u64 10,.int .u64 100,.int .u64 1000,.int .u64 10000,.int .u64 100000,.int .u64 1000000,.int .u64 10000000,.int .u64 100000000,.int .u64 1000000000,.int .u64 10000000000,.int .u64 100000000000,.int .u64 1000000000000,.int .u64 10000000000000,.int .u64 100000000000000,.int .u64 1000000000000000,.int .u64 10000000000000000,.int .u64 100000000000000000,.int .u64 1000000000000000000,.int .u64 10000000000000000000]) }
theorem laid_met(os:Os):laidMet Tryz.prog Rows.composeExamplesRow.laid ((laidWorld os).forCall (λ_ _=>0) ⟨#[],#[],[]⟩).memory :=
 laidMet_of_run' 8 (by kernel_rfl) (by kernel_rfl)
theorem reads(os:Os){H:Type}(enc:TypeId × Value→H):∃places,DataW.whole enc Tryz.prog ((laidWorld os).forCall (λ_ _=>0) ⟨#[],#[],[]⟩).memory Tryz.f3.params.toList Rows.composeExamplesSpec.vars false (Array.toList #[]) 8=some ([],[],places) :=
 ⟨[],by kernel_rfl⟩
set_option maxRecDepth 100000 in
theorem lifted(os:Os)(c:os.Started)(H:Type)(enc:TypeId × Value→H)(F:Stop.Interp):
  ReturnsInHanded {} Tryz.checked os 3 .any ((OpenSpec.ofChange Rows.composeExamplesSpec).preRow enc Tryz.prog Tryz.f3 Rows.composeExamplesRow.domain false Rows.composeExamplesRow.laid) (((OpenSpec.ofChange Rows.composeExamplesSpec).at F).post enc Tryz.prog Tryz.f3 false true false false):=by
 obtain⟨i,p⟩:=reads os enc;refine returnsInHanded_of_row (C:=Tryz.checked) (s:=OpenSpec.ofChange Rows.composeExamplesSpec) own c (by kernel_rfl) Tryz.func3
  (witness_row_at (enc:=enc) (C:=Tryz.checked) false (laidWorld os) #[] rfl (by kernel_rfl) (by kernel_rfl) (by kernel_rfl)
   (OpenSpec.preRow_of_cond 8 p (by kernel_rfl) (λk o=>by cases o) (by kernel_rfl) (laid_met os))) ?_
 intro W base g j gs d h m _ _ _ l _ _;exact contract H enc W base g j gs d h m l
theorem said:Rows.ComposeExamplesSaid :=
 OpenClaim.holds_of_cond 3 Tryz.f3 rfl rfl rfl rfl rfl rfl rfl ⟨rfl,rfl,rfl,rfl,rfl⟩ rfl rfl rfl rfl rfl (by kernel_rfl) Tryz.func3 (by kernel_rfl)
  (of_decide_eq_true (by kernel_rfl)) (by unfold Func.isWrapper;first |(rw[if_pos (by decide +kernel)];kernel_rfl) |(rw[if_neg (by decide +kernel)];exact⟨rfl,rfl⟩))
  (λos c H d _ F=>by rw[OpenClaim.pre_eq_preRow];exact lifted os c H d F)
theorem plain(f:FuncId)(fn:Func)(hf:Tryz.pinned.checked.prog.funcNamed Rows.composeExamplesRow.func=some f)(c:Tryz.pinned.checked.prog.funcs[f]?=some fn):
  true=Tryz.pinned.checked.prog.looks []∧∀(j:Nat) t,fn.params[j]?=some t→Tryz.pinned.checked.prog.wantsStandIn t=false:=by
 obtain rfl:f=3:=Option.some.inj ((show Tryz.prog.funcNamed Rows.composeExamplesRow.func=some 3 by kernel_rfl).symm.trans hf) |>.symm
 obtain rfl:fn=Tryz.f3:=(Option.some.inj (Tryz.func3.symm.trans c)).symm;refine⟨by kernel_rfl,λj t d=>?_⟩;rw[Tryz.params3]at d;simp at d
theorem card:Rows.ComposeExamplesCardSaid :=
 Claim7.holds_tied_plain_at .later [] _ _ _ _ said (λ_ h=>by cases h) (by kernel_rfl) (λ_ h=>by cases h) composeExamples_row_tie rfl ⟨rfl,rfl⟩ (by kernel_rfl) rfl plain (by kernel_rfl)
#print axioms card
end Go.Proofs.YtpldocnhbdlgfaaGreatDoor.composeExamplesC
