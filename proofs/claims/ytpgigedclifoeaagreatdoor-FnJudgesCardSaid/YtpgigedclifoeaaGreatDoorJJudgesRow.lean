/- For all arguments the law FnJudges returns true: the card. The row's own text stands ahead (a text of its own, since the whole takes more memory than a build may). -/
import Derived.Test.YtpgigedclifoeaaGreatDoorJJudgesRowA
namespace Go.Proofs.YtpgigedclifoeaaGreatDoor
namespace AM
open Go.ChangeShapes Go.WideShapes Go.ChangeAt Go.RowKit
set_option linter.unusedVariables false
set_option maxRecDepth 100000
theorem plain4 (f:FuncId) (fn:Func) (hf:Tryz.pinned.checked.prog.funcNamed "loop.example/g00122/laws.FnJudges"=some f) (hfn:Tryz.pinned.checked.prog.funcs[f]?=some fn) :
    true=Tryz.pinned.checked.prog.looks []∧∀(j:Nat) t,fn.params[j]?=some t→Tryz.pinned.checked.prog.wantsStandIn t=false:=by
  obtain rfl:f=4:=Option.some.inj ((show Tryz.prog.funcNamed "loop.example/g00122/laws.FnJudges"=some 4 by kernel_rfl).symm.trans hf) |>.symm
  obtain rfl:fn=Tryz.f4:=(Option.some.inj (Tryz.func4.symm.trans hfn)).symm
  refine⟨by kernel_rfl,fun j t ht=>?_⟩
  have hall:Tryz.f4.params.toList.all (fun t => !Tryz.prog.wantsStandIn t)=true:=by kernel_rfl
  have hm:t∈Tryz.f4.params.toList:=Array.mem_toList_iff.2 (Array.mem_of_getElem? ht)
  have:=List.all_eq_true.1 hall t hm
  show Tryz.prog.wantsStandIn t=false
  simpa using this
theorem wf4:Rows.fnJudgesRow.wfByText (OpenSpec.ofChange Rows.fnJudgesSpec)=true:=by kernel_rfl
theorem goes4:false=Rows.fnJudgesRow.goesBy Tryz.pinned.checked.prog:=by kernel_rfl
theorem main4:Tryz.pinned.checked.prog.mainIs=some (true, "cbf68a25fc3a0ebd96966a93e9328667b9a10beffe2be68e91fba7f8cc4410ae".toList):=by kernel_rfl
end AM

/-- THE CARD. -/
theorem fnJudges_card:Rows.FnJudgesCardSaid :=
  Claim7.holds_tied_plain_at .later [] _ _ _ _ AM.said4 (fun _ h=>by cases h) AM.wf4 (fun _ h=>by cases h) fnJudges_row_tie rfl ⟨rfl,rfl⟩ AM.main4 rfl AM.plain4 AM.goes4
end Go.Proofs.YtpgigedclifoeaaGreatDoor
