/- The statement SidesRename (its tied card): the function returns true for every input; conditions: those of the given row (the listed tables start as the program's text lays them). -/
import Derived.Test.YteappjogmnogcaaGreatDoorZRena
namespace Go.Proofs.YteappjogmnogcaaGreatDoor.sidesRenameC
open Go.ChangeShapes Go.WideShapes Go.ChangeAt Go.RowKit
open Go.ChangeMaps (open_string shut_string)
set_option linter.unusedVariables false
set_option maxRecDepth 100000
theorem hfn:Tryz.pinned.checked.prog.funcNamed Rows.sidesRenameRow.func=some 7:=by kernel_rfl
theorem hcl:joinedFacts Tryz.pinned.checked.prog 7 Tryz.f7 (OpenSpec.ofChange Rows.sidesRenameSpec).bare Rows.sidesRenameRow=true:=by kernel_rfl
theorem hin:Tryz.f7.isInstance Tryz.pinned.checked.prog Rows.sidesRenameRow.origin Rows.sidesRenameRow.targs:=of_decide_eq_true (by kernel_rfl)
theorem hwr:Tryz.f7.isWrapper Tryz.pinned.checked.prog Rows.sidesRenameRow.wrapper Rows.sidesRenameRow.mainSum:=by unfold Func.isWrapper;first |(rw[if_pos (by decide +kernel)];kernel_rfl) |(rw[if_neg (by decide +kernel)];exact⟨rfl,rfl⟩)
theorem said:Rows.SidesRenameSaid :=
 OpenClaim.holds_of_cond 7 Tryz.f7 rfl rfl rfl rfl rfl rfl rfl ⟨rfl,rfl,rfl,rfl,rfl⟩ rfl rfl rfl rfl rfl hfn Tryz.func7 hcl hin hwr (λos c H d _ F=>by rw[OpenClaim.pre_eq_preRow];exact lifted os c H d F)
theorem plain(f:FuncId)(fn:Func)(hf:Tryz.pinned.checked.prog.funcNamed Rows.sidesRenameRow.func=some f)(d:Tryz.pinned.checked.prog.funcs[f]?=some fn):
  true=Tryz.pinned.checked.prog.looks []∧∀(j:Nat) t,fn.params[j]?=some t→Tryz.pinned.checked.prog.wantsStandIn t=false:=by
 obtain rfl:f=7:=Option.some.inj ((show Tryz.prog.funcNamed Rows.sidesRenameRow.func=some 7 by kernel_rfl).symm.trans hf) |>.symm
 obtain rfl:fn=Tryz.f7:=(Option.some.inj (Tryz.func7.symm.trans d)).symm;refine⟨by kernel_rfl,λj t g=>?_⟩;rw[Tryz.params7]at g;have h:t ∈ [24,45,25,25]:=by simpa using Array.mem_of_getElem? g
 have c:([24,45,25,25].all λu=>!Tryz.prog.wantsStandIn u)=true:=by kernel_rfl
 exact(show Tryz.prog.wantsStandIn t=false by simpa using List.all_eq_true.1 c t h)
theorem card:Rows.SidesRenameCardSaid :=
 Claim7.holds_tied_plain_at .later [] _ _ _ _ said (λ_ h=>by cases h) (by kernel_rfl) (λ_ h=>by cases h) sidesRename_row_tie rfl ⟨rfl,rfl⟩ (by kernel_rfl) rfl plain (by kernel_rfl)
#print axioms card
end Go.Proofs.YteappjogmnogcaaGreatDoor.sidesRenameC
