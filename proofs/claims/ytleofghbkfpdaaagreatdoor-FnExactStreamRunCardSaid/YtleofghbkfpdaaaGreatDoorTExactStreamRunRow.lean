/- For all arguments the law FnExactStreamRun returns true: the card. The row's own text stands ahead (a text of its own, since the whole takes more memory than a build may). -/
import Derived.Test.YtleofghbkfpdaaaGreatDoorTExactStreamRunRowA
namespace Go.Proofs.YtleofghbkfpdaaaGreatDoor
namespace AM
open Go.ChangeShapes Go.WideShapes Go.ChangeAt Go.RowKit
set_option linter.unusedVariables false
set_option maxRecDepth 100000
theorem plain7 (f : FuncId) (fn : Func) (hf : Tryz.pinned.checked.prog.funcNamed "loop.example/g00122/laws.FnExactStreamRun" = some f) (hfn : Tryz.pinned.checked.prog.funcs[f]? = some fn) :
    true = Tryz.pinned.checked.prog.looks [] ∧ ∀ (j : Nat) t, fn.params[j]? = some t → Tryz.pinned.checked.prog.wantsStandIn t = false := by
  obtain rfl : f = 7 := Option.some.inj ((show Tryz.prog.funcNamed "loop.example/g00122/laws.FnExactStreamRun" = some 7 by kernel_rfl).symm.trans hf) |>.symm
  obtain rfl : fn = Tryz.f7 := (Option.some.inj (Tryz.func7.symm.trans hfn)).symm
  refine ⟨by kernel_rfl, fun j t ht => ?_⟩
  have hall : Tryz.f7.params.toList.all (fun t => !Tryz.prog.wantsStandIn t) = true := by kernel_rfl
  have hm : t ∈ Tryz.f7.params.toList := Array.mem_toList_iff.2 (Array.mem_of_getElem? ht)
  have := List.all_eq_true.1 hall t hm
  show Tryz.prog.wantsStandIn t = false
  simpa using this
theorem wf7 : Rows.fnExactStreamRunRow.wfByText (OpenSpec.ofChange Rows.fnExactStreamRunSpec) = true := by kernel_rfl
theorem goes7 : false = Rows.fnExactStreamRunRow.goesBy Tryz.pinned.checked.prog := by kernel_rfl
theorem main7 : Tryz.pinned.checked.prog.mainIs = some (true, "c5dc23e987d630b746f47a179fce8144fcc156f0ae21191bbd738c83c4b61532".toList) := by kernel_rfl
end AM

/-- THE CARD. -/
theorem fnExactStreamRun_card : Rows.FnExactStreamRunCardSaid :=
  Claim7.holds_tied_plain_at .later [] _ _ _ _ AM.said7 (fun _ h => by cases h) AM.wf7 (fun _ h => by cases h) fnExactStreamRun_row_tie rfl ⟨rfl, rfl⟩ AM.main7 rfl AM.plain7 AM.goes7
end Go.Proofs.YtleofghbkfpdaaaGreatDoor
