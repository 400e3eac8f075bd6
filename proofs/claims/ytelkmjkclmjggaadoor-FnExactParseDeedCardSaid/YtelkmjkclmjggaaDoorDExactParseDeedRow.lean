/- For all arguments the law FnExactParseDeed returns true: the card. The row's own text stands ahead (a text of its own, since the whole takes more memory than a build may). -/
import Derived.Test.YtelkmjkclmjggaaDoorDExactParseDeedRowA
namespace Go.Proofs.YtelkmjkclmjggaaDoor
namespace AM
open Go.ChangeShapes Go.WideShapes Go.ChangeAt Go.RowKit
set_option linter.unusedVariables false
set_option maxRecDepth 100000
theorem plain3 (f : FuncId) (fn : Func) (hf : Tryd.pinned.checked.prog.funcNamed "loop.example/g00122/laws.FnExactParseDeed" = some f) (hfn : Tryd.pinned.checked.prog.funcs[f]? = some fn) :
    true = Tryd.pinned.checked.prog.looks [] ∧ ∀ (j : Nat) t, fn.params[j]? = some t → Tryd.pinned.checked.prog.wantsStandIn t = false := by
  obtain rfl : f = 3 := Option.some.inj ((show Tryd.prog.funcNamed "loop.example/g00122/laws.FnExactParseDeed" = some 3 by kernel_rfl).symm.trans hf) |>.symm
  obtain rfl : fn = Tryd.f3 := (Option.some.inj (Tryd.func3.symm.trans hfn)).symm
  refine ⟨by kernel_rfl, fun j t ht => ?_⟩
  have hall : Tryd.f3.params.toList.all (fun t => !Tryd.prog.wantsStandIn t) = true := by kernel_rfl
  have hm : t ∈ Tryd.f3.params.toList := Array.mem_toList_iff.2 (Array.mem_of_getElem? ht)
  have := List.all_eq_true.1 hall t hm
  show Tryd.prog.wantsStandIn t = false
  simpa using this
theorem wf3 : Rows.fnExactParseDeedRow.wfByText (OpenSpec.ofChange Rows.fnExactParseDeedSpec) = true := by kernel_rfl
theorem goes3 : false = Rows.fnExactParseDeedRow.goesBy Tryd.pinned.checked.prog := by kernel_rfl
theorem main3 : Tryd.pinned.checked.prog.mainIs = some (true, "edc8e3c541669f7d1647ae8971a6173c847b757b1d1e8c2dcab05760dbb4c7f4".toList) := by kernel_rfl
end AM

/-- THE CARD. -/
theorem fnExactParseDeed_card : Rows.FnExactParseDeedCardSaid :=
  Claim7.holds_tied_plain_at .later [] _ _ _ _ AM.said3 (fun _ h => by cases h) AM.wf3 (fun _ h => by cases h) fnExactParseDeed_row_tie rfl ⟨rfl, rfl⟩ AM.main3 rfl AM.plain3 AM.goes3
end Go.Proofs.YtelkmjkclmjggaaDoor
