/- For all arguments the law FnRecipe returns true: the card. The row's own text stands ahead (a text of its own, since the whole takes more memory than a build may). -/
import Derived.Test.YtcflmfpnmjlhdaaGreatDoorRRecipeRowA
namespace Go.Proofs.YtcflmfpnmjlhdaaGreatDoor
namespace AM
open Go.ChangeShapes Go.WideShapes Go.ChangeAt Go.RowKit
set_option linter.unusedVariables false
set_option maxRecDepth 100000
theorem plain4 (f:FuncId) (fn:Func) (hf:Tryz.pinned.checked.prog.funcNamed "loop.example/g00122/laws.FnRecipe"=some f) (hfn:Tryz.pinned.checked.prog.funcs[f]?=some fn) :
    true=Tryz.pinned.checked.prog.looks []∧∀(j:Nat) t,fn.params[j]?=some t→Tryz.pinned.checked.prog.wantsStandIn t=false:=by
  obtain rfl:f=4:=Option.some.inj ((show Tryz.prog.funcNamed "loop.example/g00122/laws.FnRecipe"=some 4 by kernel_rfl).symm.trans hf) |>.symm
  obtain rfl:fn=Tryz.f4:=(Option.some.inj (Tryz.func4.symm.trans hfn)).symm
  refine⟨by kernel_rfl,fun j t ht=>?_⟩
  have hall:Tryz.f4.params.toList.all (fun t => !Tryz.prog.wantsStandIn t)=true:=by kernel_rfl
  have hm:t∈Tryz.f4.params.toList:=Array.mem_toList_iff.2 (Array.mem_of_getElem? ht)
  have:=List.all_eq_true.1 hall t hm
  show Tryz.prog.wantsStandIn t=false
  simpa using this
theorem wf4:Rows.fnRecipeRow.wfByText (OpenSpec.ofChange Rows.fnRecipeSpec)=true:=by kernel_rfl
theorem goes4:false=Rows.fnRecipeRow.goesBy Tryz.pinned.checked.prog:=by kernel_rfl
theorem main4:Tryz.pinned.checked.prog.mainIs=some (true, "a0a0910c8a823404e1ab3a1b3943d391a17ad3a3442e786f99d955c0e6b875af".toList):=by kernel_rfl
end AM

/-- THE CARD. -/
theorem fnRecipe_card:Rows.FnRecipeCardSaid :=
  Claim7.holds_tied_plain_at .later [] _ _ _ _ AM.said4 (fun _ h=>by cases h) AM.wf4 (fun _ h=>by cases h) fnRecipe_row_tie rfl ⟨rfl,rfl⟩ AM.main4 rfl AM.plain4 AM.goes4
end Go.Proofs.YtcflmfpnmjlhdaaGreatDoor
