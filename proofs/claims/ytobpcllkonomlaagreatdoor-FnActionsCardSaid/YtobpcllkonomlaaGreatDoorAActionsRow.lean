/- For all arguments the law FnActions returns true: the card. The row's own text stands ahead (a text of its own, since the whole takes more memory than a build may). -/
import Derived.Test.YtobpcllkonomlaaGreatDoorAActionsRowA
namespace Go.Proofs.YtobpcllkonomlaaGreatDoor
namespace AM
open Go.ChangeShapes Go.WideShapes Go.ChangeAt Go.RowKit
set_option linter.unusedVariables false
set_option maxRecDepth 100000
theorem plain4 (f:FuncId) (fn:Func) (hf:Tryz.pinned.checked.prog.funcNamed "loop.example/g00122/laws.FnActions"=some f) (hfn:Tryz.pinned.checked.prog.funcs[f]?=some fn) :
    true=Tryz.pinned.checked.prog.looks []∧∀(j:Nat) t,fn.params[j]?=some t→Tryz.pinned.checked.prog.wantsStandIn t=false:=by
  obtain rfl:f=4:=Option.some.inj ((show Tryz.prog.funcNamed "loop.example/g00122/laws.FnActions"=some 4 by kernel_rfl).symm.trans hf) |>.symm
  obtain rfl:fn=Tryz.f4:=(Option.some.inj (Tryz.func4.symm.trans hfn)).symm
  refine⟨by kernel_rfl,fun j t ht=>?_⟩
  have hall:Tryz.f4.params.toList.all (fun t => !Tryz.prog.wantsStandIn t)=true:=by kernel_rfl
  have hm:t∈Tryz.f4.params.toList:=Array.mem_toList_iff.2 (Array.mem_of_getElem? ht)
  have:=List.all_eq_true.1 hall t hm
  show Tryz.prog.wantsStandIn t=false
  simpa using this
theorem wf4:Rows.fnActionsRow.wfByText (OpenSpec.ofChange Rows.fnActionsSpec)=true:=by kernel_rfl
theorem goes4:false=Rows.fnActionsRow.goesBy Tryz.pinned.checked.prog:=by kernel_rfl
theorem main4:Tryz.pinned.checked.prog.mainIs=some (true, "b16f536e2639e0b53371bb03f6b3aa4686182a25511be8ecf70d071e54048d23".toList):=by kernel_rfl
end AM

/-- THE CARD. -/
theorem fnActions_card:Rows.FnActionsCardSaid :=
  Claim7.holds_tied_plain_at .later [] _ _ _ _ AM.said4 (fun _ h=>by cases h) AM.wf4 (fun _ h=>by cases h) fnActions_row_tie rfl ⟨rfl,rfl⟩ AM.main4 rfl AM.plain4 AM.goes4
end Go.Proofs.YtobpcllkonomlaaGreatDoor
