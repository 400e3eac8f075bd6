/- For all arguments the law FnExactJudgeOnce returns true: the program's JudgeOnce returns what the reference's returns, for all arguments. Under: the listed variables of the library hold what the program's text lays. -/
import Derived.Test.YtpcdcnmmkfhliaaGreatDoorCards
import Derived.Test.YtpcdcnmmkfhliaaGreatDoorTie
import Derived.Test.YtpcdcnmmkfhliaaGreatDoorP3
import Derived.Test.YtpcdcnmmkfhliaaGreatDoorRWa
namespace Go.Proofs.YtpcdcnmmkfhliaaGreatDoor
namespace AM
open Go.ChangeShapes Go.WideShapes Go.ChangeAt Go.RowKit
set_option linter.unusedVariables false

theorem sig10 : sigs Tryz.prog 6 Tryz.f10.params.toList = some [((.pr (.sl (.pr (.int .i64) (.pr (.int .i64) (.int .i64)))) (.pr (.sl (.int .i64)) (.pr (.sl (.pr (.int .i64) (.pr (.int .i64) (.pr (.int .i64) (.pr (.int .i64) (.pr (.int .i64) (.pr (.sl (.int .i64)) (.pr (.bool) (.pr (.bool) (.int .i64)))))))))) (.pr (.int .i64) (.pr (.sl (.int .i64)) (.pr (.sl (.int .i64)) (.sl (.pr (.int .i64) (.pr .bool .bool))))))))), true)] := by kernel_rfl

set_option maxRecDepth 100000 in
theorem contract10 (H : Type) (enc : TypeId × Value → H) (W : World) (base : Nat) (args : Array Value) (ds gs : List (DataW H)) (before : List MemPlace)
    (hval : ∀ (j : Nat) t v, Tryz.f10.params[j]? = some t → args[j]? = some v → Value.okWide Tryz.prog W .any base t v)
    (hW : DataW.Whole enc Tryz.prog Tryz.f10.params.toList Rows.fnExactJudgeOnceSpec.vars false W args.toList ds gs before) (hL : laidMetH Tryz.prog Rows.fnExactJudgeOnceRow.laid W) (hs : W.ShapedOpen Tryz.prog) :
    Calls Tryz.prog 10 args W fun e W' => ∃ v, e = .returned v ∧ Rows.fnExactJudgeOnceSpec.post enc Tryz.prog Tryz.f10 false true false false W args v W' := by
  have hG : Facts W := facts (show laidMet Tryz.prog laidList W from hL) hs
  have hW' := hW
  obtain ⟨p, q, hA, hV, rfl, hfz, hnd⟩ := hW
  have hv' : ∀ (j : Nat) t v, Tryz.f10.params.toList[j]? = some t → args.toList[j]? = some v → Value.okWide Tryz.prog W .any base t v := fun j t v ht hv => hval j t v (by rw [← Array.getElem?_toList]; exact ht) (by rw [← Array.getElem?_toList]; exact hv)
  obtain ⟨al, h1, h2, h3⟩ := args_of sig10 hA hv'
  have hp : al.map Arg.par = (S10 0).pars := by
    have : al.map Arg.par = (al.map fun a => (a.t, a.agg)).map fun p => Arg.par ⟨p.1, p.2, p.1.zero, undef⟩ := by rw [List.map_map]; rfl
    rw [this, h1]; rfl
  have hc := law_calls (P := Tryz.prog) (K := Glob.of W) (f := 10) (pars := (S10 0).pars) (g := laws_FnExactJudgeOnce) (fun n => (ob10 hG n).2) (fun x hx => ⟨N0, true, judgeOnce_law_td x hx, rfl⟩) (fun b _ => rfl) (fun b hb => hb) hp h3
  rw [h2] at hc
  refine hc.mono fun e W' h => ?_
  obtain ⟨rfl, hb⟩ := h
  exact ⟨_, rfl, law_post (B := 4) rfl (fun l hl => by
    match l, hl with
    | [d0], _ => rfl) (by kernel_rfl) (by kernel_rfl) laidOut (by kernel_rfl) hW' hb⟩

def zeroArgs10 : Array Value := #[.agg #[.slice none 0 0, .slice none 0 0, .slice none 0 0, .int .i64 0, .slice none 0 0, .slice none 0 0, .slice none 0 0]]
theorem laid_met10 (os : Os) : laidMet Tryz.prog Rows.fnExactJudgeOnceRow.laid ((laidWorld os).forCall (fun _ _ => 0) ⟨#[], zeroArgs10, []⟩).memory :=
  laidMet_of_run' 8 (by kernel_rfl) (by kernel_rfl)
theorem reads10 (os : Os) {H : Type} (enc : TypeId × Value → H) : ∃ places, DataW.whole enc Tryz.prog ((laidWorld os).forCall (fun _ _ => 0) ⟨#[], zeroArgs10, []⟩).memory Tryz.f10.params.toList Rows.fnExactJudgeOnceSpec.vars false zeroArgs10.toList 8 = some ([.agg [.agg [.nil], .nil, .nil, .lit (.int .i64 0), .nil, .nil, .nil]], [], places) :=
  ⟨[], by kernel_rfl⟩

set_option maxRecDepth 100000
theorem wv10 (os : Os) : ((laidWorld os).forCall (fun _ _ => 0) ⟨#[], zeroArgs10, []⟩).variablesB Tryz.prog = true := by kernel_rfl
theorem wr10 (os : Os) : ((((laidWorld os).forCall (fun _ _ => 0) ⟨#[], zeroArgs10, []⟩).heap.toList.drop Tryz.prog.globals.size).take ((begin Tryz.prog (fun _ _ => 0) default).world.heap.size - Tryz.prog.globals.size) =
      (begin Tryz.prog (fun _ _ => 0) default).world.heap.toList.drop Tryz.prog.globals.size) := by kernel_rfl
theorem wo10 (os : Os) : Input.okWideB Tryz.prog ((laidWorld os).forCall (fun _ _ => 0) ⟨#[], zeroArgs10, []⟩) 10 ⟨#[], zeroArgs10, []⟩ = true := by kernel_rfl
theorem ws10 (os : Os) {H : Type} (enc : TypeId × Value → H) : (OpenSpec.ofChange Rows.fnExactJudgeOnceSpec).bare.sizedB enc Tryz.prog Tryz.f10 false ((laidWorld os).forCall (fun _ _ => 0) ⟨#[], zeroArgs10, []⟩).memory zeroArgs10 8 = true := by kernel_rfl
theorem wp10 (os : Os) (H : Type) (enc : TypeId × Value → H) : (OpenSpec.ofChange Rows.fnExactJudgeOnceSpec).preRow enc Tryz.prog Tryz.f10 Rows.fnExactJudgeOnceRow.domain false Rows.fnExactJudgeOnceRow.laid ((laidWorld os).forCall (fun _ _ => 0) ⟨#[], zeroArgs10, []⟩).memory zeroArgs10 := by
  obtain ⟨places, hx⟩ := reads10 os enc
  exact OpenSpec.preRow_of_cond 8 hx (by kernel_rfl) (fun k hk => by cases hk) (ws10 os enc) (laid_met10 os)
theorem noInit10 : Tryz.checked.prog.inits.idxOf? 10 = none := by kernel_rfl
theorem isFunc10 : Tryz.checked.prog.funcs[10]? = some Tryz.f10 := Tryz.func10
theorem meets10 (F : Stop.Interp) (H : Type) (enc : TypeId × Value → H) : ∀ (W : World) (base : Nat) (args : Array Value) (ds gs : List (DataW H)) (before : List MemPlace),
      (∀ (j : Nat) t v, Tryz.f10.params[j]? = some t → args[j]? = some v → Value.okWide Tryz.checked.prog W .any base t v) →
      DataW.Whole enc Tryz.checked.prog Tryz.f10.params.toList (OpenSpec.ofChange Rows.fnExactJudgeOnceSpec).vars false W args.toList ds gs before →
      laidMetH Tryz.checked.prog Rows.fnExactJudgeOnceRow.laid W → W.ShapedOpen Tryz.checked.prog →
      Calls Tryz.checked.prog 10 args W fun e W' => ∃ v, e = .returned v ∧ ((OpenSpec.ofChange Rows.fnExactJudgeOnceSpec).at F).post enc Tryz.checked.prog Tryz.f10 false true false false W args v W' := by
  intro W base args ds gs before hval hW hL hs
  exact contract10 H enc W base args ds gs before hval hW hL hs
theorem witness10 (os : Os) (H : Type) (enc : TypeId × Value → H) : ∃ (w : World) (tape : Tape) (i : Input), w.os = os ∧ (w.forCall tape i).Shaped Tryz.checked.prog ∧ i.vars = [] ∧ Input.okWide Tryz.checked.prog (w.forCall tape i) .any w.heap.size 10 i ∧
      (OpenSpec.ofChange Rows.fnExactJudgeOnceSpec).preRow enc Tryz.checked.prog Tryz.f10 Rows.fnExactJudgeOnceRow.domain false Rows.fnExactJudgeOnceRow.laid (w.forCall tape i).memory i.args ∧ ({} : Assume).holds Tryz.checked.prog (lone (Frame.enter Tryz.checked.prog 10 i.args .normal) [] (w.forCall tape i)) :=
  witness_row_at (enc := enc) (C := Tryz.checked) (fn := Tryz.f10) (s := OpenSpec.ofChange Rows.fnExactJudgeOnceSpec) (conds := Rows.fnExactJudgeOnceRow.domain) (apart := false) (laid := Rows.fnExactJudgeOnceRow.laid) (f := 10) false (laidWorld os) zeroArgs10 (laidWorld_os os) (wv10 os) (wr10 os) (wo10 os) (wp10 os H enc)
theorem lifted10 (os : Os) (started : os.Started) (H : Type) (enc : TypeId × Value → H) (F : Stop.Interp) :
    ReturnsInHanded {} Tryz.checked os 10 .any ((OpenSpec.ofChange Rows.fnExactJudgeOnceSpec).preRow enc Tryz.checked.prog Tryz.f10 Rows.fnExactJudgeOnceRow.domain false Rows.fnExactJudgeOnceRow.laid) (((OpenSpec.ofChange Rows.fnExactJudgeOnceSpec).at F).post enc Tryz.checked.prog Tryz.f10 false true false false) :=
  returnsInHanded_of_row (C := Tryz.checked) (s := OpenSpec.ofChange Rows.fnExactJudgeOnceSpec) own started noInit10 isFunc10 (witness10 os H enc) (fun W base args ds gs before hval hW _ _ _ hL hs _ => meets10 F H enc W base args ds gs before hval hW hL hs)

set_option maxHeartbeats 40000000 in
theorem closed10 : joinedFacts Tryz.prog 10 Tryz.f10 (OpenSpec.ofChange Rows.fnExactJudgeOnceSpec).bare Rows.fnExactJudgeOnceRow = true := by
  unfold joinedFacts
  simp only [Bool.and_eq_true]
  and_intros
  all_goals (as_aux_lemma => kernel_rfl)
theorem inst10 : Tryz.f10.isInstance Tryz.prog Rows.fnExactJudgeOnceRow.origin Rows.fnExactJudgeOnceRow.targs := of_decide_eq_true (by kernel_rfl)
theorem said10 : Rows.FnExactJudgeOnceSaid :=
  OpenClaim.holds_of_cond 10 Tryz.f10 rfl rfl rfl rfl rfl rfl rfl ⟨rfl, rfl, rfl, rfl, rfl⟩ rfl rfl rfl rfl rfl (by as_aux_lemma => kernel_rfl) Tryz.func10 closed10
    inst10 (by unfold Func.isWrapper; first | (rw [if_pos (by decide +kernel)]; kernel_rfl) | (rw [if_neg (by decide +kernel)]; exact ⟨rfl, rfl⟩))
    (fun os started H enc _ F => by rw [OpenClaim.pre_eq_preRow]; exact lifted10 os started H enc F)

theorem plain10 (f : FuncId) (fn : Func) (hf : Tryz.pinned.checked.prog.funcNamed "loop.example/g00122/laws.FnExactJudgeOnce" = some f) (hfn : Tryz.pinned.checked.prog.funcs[f]? = some fn) :
    true = Tryz.pinned.checked.prog.looks [] ∧ ∀ (j : Nat) t, fn.params[j]? = some t → Tryz.pinned.checked.prog.wantsStandIn t = false := by
  obtain rfl : f = 10 := Option.some.inj ((show Tryz.prog.funcNamed "loop.example/g00122/laws.FnExactJudgeOnce" = some 10 by kernel_rfl).symm.trans hf) |>.symm
  obtain rfl : fn = Tryz.f10 := (Option.some.inj (Tryz.func10.symm.trans hfn)).symm
  refine ⟨by kernel_rfl, fun j t ht => ?_⟩
  have hall : Tryz.f10.params.toList.all (fun t => !Tryz.prog.wantsStandIn t) = true := by kernel_rfl
  have hm : t ∈ Tryz.f10.params.toList := Array.mem_toList_iff.2 (Array.mem_of_getElem? ht)
  have := List.all_eq_true.1 hall t hm
  show Tryz.prog.wantsStandIn t = false
  simpa using this
end AM

/-- THE CARD. -/
theorem fnExactJudgeOnce_card : Rows.FnExactJudgeOnceCardSaid :=
  Claim7.holds_tied_plain_at .later [] _ _ _ _ AM.said10 (fun _ h => by cases h) (by kernel_rfl) (fun _ h => by cases h) fnExactJudgeOnce_row_tie rfl ⟨rfl, rfl⟩ (by kernel_rfl) rfl AM.plain10 (by kernel_rfl)
end Go.Proofs.YtpcdcnmmkfhliaaGreatDoor
