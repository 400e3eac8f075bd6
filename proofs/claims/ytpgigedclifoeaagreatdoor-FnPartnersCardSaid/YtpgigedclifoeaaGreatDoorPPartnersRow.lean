/- For all arguments the law FnPartners returns true: the card. The row's own text stands ahead (a text of its own, since the whole takes more memory than a build may). -/
import Derived.Test.YtpgigedclifoeaaGreatDoorPPartnersRowA
namespace Go.Proofs.YtpgigedclifoeaaGreatDoor
namespace AM
open Go.ChangeShapes Go.WideShapes Go.ChangeAt Go.RowKit
set_option linter.unusedVariables false
set_option maxRecDepth 100000
theorem plain6 (f:FuncId) (fn:Func) (hf:Tryz.pinned.checked.prog.funcNamed "loop.example/g00122/laws.FnPartners"=some f) (hfn:Tryz.pinned.checked.prog.funcs[f]?=some fn) :
    true=Tryz.pinned.checked.prog.looks []∧∀(j:Nat) t,fn.params[j]?=some t→Tryz.pinned.checked.prog.wantsStandIn t=false:=by
  obtain rfl:f=6:=Option.some.inj ((show Tryz.prog.funcNamed "loop.example/g00122/laws.FnPartners"=some 6 by kernel_rfl).symm.trans hf) |>.symm
  obtain rfl:fn=Tryz.f6:=(Option.some.inj (Tryz.func6.symm.trans hfn)).symm
  refine⟨by kernel_rfl,fun j t ht=>?_⟩
  have hall:Tryz.f6.params.toList.all (fun t => !Tryz.prog.wantsStandIn t)=true:=by kernel_rfl
  have hm:t∈Tryz.f6.params.toList:=Array.mem_toList_iff.2 (Array.mem_of_getElem? ht)
  have:=List.all_eq_true.1 hall t hm
  show Tryz.prog.wantsStandIn t=false
  simpa using this
theorem wf6:Rows.fnPartnersRow.wfByText (OpenSpec.ofChange Rows.fnPartnersSpec)=true:=by kernel_rfl
theorem goes6:false=Rows.fnPartnersRow.goesBy Tryz.pinned.checked.prog:=by kernel_rfl
theorem main6:Tryz.pinned.checked.prog.mainIs=some (true, "cbf68a25fc3a0ebd96966a93e9328667b9a10beffe2be68e91fba7f8cc4410ae".toList):=by kernel_rfl
end AM

/-- THE CARD. -/
theorem fnPartners_card:Rows.FnPartnersCardSaid :=
  Claim7.holds_tied_plain_at .later [] _ _ _ _ AM.said6 (fun _ h=>by cases h) AM.wf6 (fun _ h=>by cases h) fnPartners_row_tie rfl ⟨rfl,rfl⟩ AM.main6 rfl AM.plain6 AM.goes6
end Go.Proofs.YtpgigedclifoeaaGreatDoor
