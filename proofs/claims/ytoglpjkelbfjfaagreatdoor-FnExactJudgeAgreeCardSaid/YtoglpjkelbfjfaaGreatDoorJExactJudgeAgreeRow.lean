/- For all arguments the law FnExactJudgeAgree returns true: the card. The row's own text stands ahead (a text of its own, since the whole takes more memory than a build may). -/
import Derived.Test.YtoglpjkelbfjfaaGreatDoorJExactJudgeAgreeRowA
namespace Go.Proofs.YtoglpjkelbfjfaaGreatDoor
namespace AM
open Go.ChangeShapes Go.WideShapes Go.ChangeAt Go.RowKit
set_option linter.unusedVariables false
set_option maxRecDepth 100000
theorem plain8 (f : FuncId) (fn : Func) (hf : Tryz.pinned.checked.prog.funcNamed "loop.example/g00122/laws.FnExactJudgeAgree" = some f) (hfn : Tryz.pinned.checked.prog.funcs[f]? = some fn) :
    true = Tryz.pinned.checked.prog.looks [] ∧ ∀ (j : Nat) t, fn.params[j]? = some t → Tryz.pinned.checked.prog.wantsStandIn t = false := by
  obtain rfl : f = 8 := Option.some.inj ((show Tryz.prog.funcNamed "loop.example/g00122/laws.FnExactJudgeAgree" = some 8 by kernel_rfl).symm.trans hf) |>.symm
  obtain rfl : fn = Tryz.f8 := (Option.some.inj (Tryz.func8.symm.trans hfn)).symm
  refine ⟨by kernel_rfl, fun j t ht => ?_⟩
  have hall : Tryz.f8.params.toList.all (fun t => !Tryz.prog.wantsStandIn t) = true := by kernel_rfl
  have hm : t ∈ Tryz.f8.params.toList := Array.mem_toList_iff.2 (Array.mem_of_getElem? ht)
  have := List.all_eq_true.1 hall t hm
  show Tryz.prog.wantsStandIn t = false
  simpa using this
theorem wf8 : Rows.fnExactJudgeAgreeRow.wfByText (OpenSpec.ofChange Rows.fnExactJudgeAgreeSpec) = true := by kernel_rfl
theorem goes8 : false = Rows.fnExactJudgeAgreeRow.goesBy Tryz.pinned.checked.prog := by kernel_rfl
theorem main8 : Tryz.pinned.checked.prog.mainIs = some (true, "e9081a401c06fee75acf7191ed3c09febc2279b7f238606984c48239027933ea".toList) := by kernel_rfl
end AM

/-- THE CARD. -/
theorem fnExactJudgeAgree_card : Rows.FnExactJudgeAgreeCardSaid :=
  Claim7.holds_tied_plain_at .later [] _ _ _ _ AM.said8 (fun _ h => by cases h) AM.wf8 (fun _ h => by cases h) fnExactJudgeAgree_row_tie rfl ⟨rfl, rfl⟩ AM.main8 rfl AM.plain8 AM.goes8
end Go.Proofs.YtoglpjkelbfjfaaGreatDoor
