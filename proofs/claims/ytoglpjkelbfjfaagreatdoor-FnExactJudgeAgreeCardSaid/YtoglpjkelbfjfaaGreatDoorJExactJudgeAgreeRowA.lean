/- For all arguments the law FnExactJudgeAgree returns true: the program's JudgeAgree returns what the reference's returns, for all arguments. Under: the listed variables of the library hold what the program's text lays. -/
import Derived.Test.YtoglpjkelbfjfaaGreatDoorCards
import Derived.Test.YtoglpjkelbfjfaaGreatDoorTie
import Derived.Test.YtoglpjkelbfjfaaGreatDoorJP2
import Derived.Test.YtoglpjkelbfjfaaGreatDoorJRWa
namespace Go.Proofs.YtoglpjkelbfjfaaGreatDoor
namespace AM
open Go.ChangeShapes Go.WideShapes Go.ChangeAt Go.RowKit
set_option linter.unusedVariables false

theorem sig8 : sigs Tryz.prog 6 Tryz.f8.params.toList = some [((.pr (.sl (.pr (.int .i64) (.pr (.int .i64) (.int .i64)))) (.pr (.sl (.int .i64)) (.pr (.sl (.pr (.int .i64) (.pr (.int .i64) (.pr (.int .i64) (.pr (.int .i64) (.pr (.int .i64) (.pr (.sl (.int .i64)) (.pr (.bool) (.pr (.bool) (.int .i64)))))))))) (.pr (.int .i64) (.pr (.sl (.int .i64)) (.pr (.sl (.int .i64)) (.sl (.pr (.int .i64) (.pr .bool .bool))))))))), true)] := by kernel_rfl

set_option maxRecDepth 100000 in
theorem contract8 (H : Type) (enc : TypeId × Value → H) (W : World) (base : Nat) (args : Array Value) (ds gs : List (DataW H)) (before : List MemPlace)
    (hval : ∀ (j : Nat) t v, Tryz.f8.params[j]? = some t → args[j]? = some v → Value.okWide Tryz.prog W .any base t v)
    (hW : DataW.Whole enc Tryz.prog Tryz.f8.params.toList Rows.fnExactJudgeAgreeSpec.vars false W args.toList ds gs before) (hL : laidMetH Tryz.prog Rows.fnExactJudgeAgreeRow.laid W) (hs : W.ShapedOpen Tryz.prog) :
    Calls Tryz.prog 8 args W fun e W' => ∃ v, e = .returned v ∧ Rows.fnExactJudgeAgreeSpec.post enc Tryz.prog Tryz.f8 false true false false W args v W' := by
  have hG : Facts W := facts (show laidMet Tryz.prog laidList W from hL) hs
  have hW' := hW
  obtain ⟨p, q, hA, hV, rfl, hfz, hnd⟩ := hW
  have hv' : ∀ (j : Nat) t v, Tryz.f8.params.toList[j]? = some t → args.toList[j]? = some v → Value.okWide Tryz.prog W .any base t v := fun j t v ht hv => hval j t v (by rw [← Array.getElem?_toList]; exact ht) (by rw [← Array.getElem?_toList]; exact hv)
  obtain ⟨al, h1, h2, h3⟩ := args_of sig8 hA hv'
  have hp : al.map Arg.par = (S8 0).pars := by
    have : al.map Arg.par = (al.map fun a => (a.t, a.agg)).map fun p => Arg.par ⟨p.1, p.2, p.1.zero, undef⟩ := by rw [List.map_map]; rfl
    rw [this, h1]; rfl
  have hc := law_calls (P := Tryz.prog) (K := Glob.of W) (f := 8) (pars := (S8 0).pars) (g := laws_FnExactJudgeAgree) (fun n => (ob8 hG n).2) (fun x hx => ⟨N0, true, judgeAgree_law_td x hx, rfl⟩) (fun b _ => rfl) (fun b hb => hb) hp h3
  rw [h2] at hc
  refine hc.mono fun e W' h => ?_
  obtain ⟨rfl, hb⟩ := h
  exact ⟨_, rfl, law_post (B := 4) rfl (fun l hl => by
    match l, hl with
    | [d0], _ => rfl) (by kernel_rfl) (by kernel_rfl) laidOut (by kernel_rfl) hW' hb⟩

def zeroArgs8 : Array Value := #[.agg #[.slice none 0 0, .slice none 0 0, .slice none 0 0, .int .i64 0, .slice none 0 0, .slice none 0 0, .slice none 0 0]]
theorem laid_met8 (os : Os) : laidMet Tryz.prog Rows.fnExactJudgeAgreeRow.laid ((laidWorld os).forCall (fun _ _ => 0) ⟨#[], zeroArgs8, []⟩).memory :=
  laidMet_of_run' 8 (by kernel_rfl) (by kernel_rfl)
theorem reads8 (os : Os) {H : Type} (enc : TypeId × Value → H) : ∃ places, DataW.whole enc Tryz.prog ((laidWorld os).forCall (fun _ _ => 0) ⟨#[], zeroArgs8, []⟩).memory Tryz.f8.params.toList Rows.fnExactJudgeAgreeSpec.vars false zeroArgs8.toList 8 = some ([.agg [.agg [.nil], .nil, .nil, .lit (.int .i64 0), .nil, .nil, .nil]], [], places) :=
  ⟨[], by kernel_rfl⟩

set_option maxRecDepth 100000
theorem wv8 (os : Os) : ((laidWorld os).forCall (fun _ _ => 0) ⟨#[], zeroArgs8, []⟩).variablesB Tryz.prog = true := by kernel_rfl
theorem wr8 (os : Os) : ((((laidWorld os).forCall (fun _ _ => 0) ⟨#[], zeroArgs8, []⟩).heap.toList.drop Tryz.prog.globals.size).take ((begin Tryz.prog (fun _ _ => 0) default).world.heap.size - Tryz.prog.globals.size) =
      (begin Tryz.prog (fun _ _ => 0) default).world.heap.toList.drop Tryz.prog.globals.size) := by kernel_rfl
theorem wo8 (os : Os) : Input.okWideB Tryz.prog ((laidWorld os).forCall (fun _ _ => 0) ⟨#[], zeroArgs8, []⟩) 8 ⟨#[], zeroArgs8, []⟩ = true := by kernel_rfl
theorem ws8 (os : Os) {H : Type} (enc : TypeId × Value → H) : (OpenSpec.ofChange Rows.fnExactJudgeAgreeSpec).bare.sizedB enc Tryz.prog Tryz.f8 false ((laidWorld os).forCall (fun _ _ => 0) ⟨#[], zeroArgs8, []⟩).memory zeroArgs8 8 = true := by kernel_rfl
theorem wp8 (os : Os) (H : Type) (enc : TypeId × Value → H) : (OpenSpec.ofChange Rows.fnExactJudgeAgreeSpec).preRow enc Tryz.prog Tryz.f8 Rows.fnExactJudgeAgreeRow.domain false Rows.fnExactJudgeAgreeRow.laid ((laidWorld os).forCall (fun _ _ => 0) ⟨#[], zeroArgs8, []⟩).memory zeroArgs8 := by
  obtain ⟨places, hx⟩ := reads8 os enc
  exact OpenSpec.preRow_of_cond 8 hx (by kernel_rfl) (fun k hk => by cases hk) (ws8 os enc) (laid_met8 os)
theorem noInit8 : Tryz.checked.prog.inits.idxOf? 8 = none := by kernel_rfl
theorem isFunc8 : Tryz.checked.prog.funcs[8]? = some Tryz.f8 := Tryz.func8
theorem meets8 (F : Stop.Interp) (H : Type) (enc : TypeId × Value → H) : ∀ (W : World) (base : Nat) (args : Array Value) (ds gs : List (DataW H)) (before : List MemPlace),
      (∀ (j : Nat) t v, Tryz.f8.params[j]? = some t → args[j]? = some v → Value.okWide Tryz.checked.prog W .any base t v) →
      DataW.Whole enc Tryz.checked.prog Tryz.f8.params.toList (OpenSpec.ofChange Rows.fnExactJudgeAgreeSpec).vars false W args.toList ds gs before →
      laidMetH Tryz.checked.prog Rows.fnExactJudgeAgreeRow.laid W → W.ShapedOpen Tryz.checked.prog →
      Calls Tryz.checked.prog 8 args W fun e W' => ∃ v, e = .returned v ∧ ((OpenSpec.ofChange Rows.fnExactJudgeAgreeSpec).at F).post enc Tryz.checked.prog Tryz.f8 false true false false W args v W' := by
  intro W base args ds gs before hval hW hL hs
  exact contract8 H enc W base args ds gs before hval hW hL hs
theorem witness8 (os : Os) (H : Type) (enc : TypeId × Value → H) : ∃ (w : World) (tape : Tape) (i : Input), w.os = os ∧ (w.forCall tape i).Shaped Tryz.checked.prog ∧ i.vars = [] ∧ Input.okWide Tryz.checked.prog (w.forCall tape i) .any w.heap.size 8 i ∧
      (OpenSpec.ofChange Rows.fnExactJudgeAgreeSpec).preRow enc Tryz.checked.prog Tryz.f8 Rows.fnExactJudgeAgreeRow.domain false Rows.fnExactJudgeAgreeRow.laid (w.forCall tape i).memory i.args ∧ ({} : Assume).holds Tryz.checked.prog (lone (Frame.enter Tryz.checked.prog 8 i.args .normal) [] (w.forCall tape i)) :=
  witness_row_at (enc := enc) (C := Tryz.checked) (fn := Tryz.f8) (s := OpenSpec.ofChange Rows.fnExactJudgeAgreeSpec) (conds := Rows.fnExactJudgeAgreeRow.domain) (apart := false) (laid := Rows.fnExactJudgeAgreeRow.laid) (f := 8) false (laidWorld os) zeroArgs8 (laidWorld_os os) (wv8 os) (wr8 os) (wo8 os) (wp8 os H enc)
theorem lifted8 (os : Os) (started : os.Started) (H : Type) (enc : TypeId × Value → H) (F : Stop.Interp) :
    ReturnsInHanded {} Tryz.checked os 8 .any ((OpenSpec.ofChange Rows.fnExactJudgeAgreeSpec).preRow enc Tryz.checked.prog Tryz.f8 Rows.fnExactJudgeAgreeRow.domain false Rows.fnExactJudgeAgreeRow.laid) (((OpenSpec.ofChange Rows.fnExactJudgeAgreeSpec).at F).post enc Tryz.checked.prog Tryz.f8 false true false false) :=
  returnsInHanded_of_row (C := Tryz.checked) (s := OpenSpec.ofChange Rows.fnExactJudgeAgreeSpec) own started noInit8 isFunc8 (witness8 os H enc) (fun W base args ds gs before hval hW _ _ _ hL hs _ => meets8 F H enc W base args ds gs before hval hW hL hs)

set_option maxHeartbeats 40000000 in
theorem closed8 : joinedFacts Tryz.prog 8 Tryz.f8 (OpenSpec.ofChange Rows.fnExactJudgeAgreeSpec).bare Rows.fnExactJudgeAgreeRow = true := by
  unfold joinedFacts
  simp only [Bool.and_eq_true]
  and_intros
  all_goals (as_aux_lemma => kernel_rfl)
theorem inst8 : Tryz.f8.isInstance Tryz.prog Rows.fnExactJudgeAgreeRow.origin Rows.fnExactJudgeAgreeRow.targs := of_decide_eq_true (by kernel_rfl)
theorem said8 : Rows.FnExactJudgeAgreeSaid :=
  OpenClaim.holds_of_cond 8 Tryz.f8 rfl rfl rfl rfl rfl rfl rfl ⟨rfl, rfl, rfl, rfl, rfl⟩ rfl rfl rfl rfl rfl (by as_aux_lemma => kernel_rfl) Tryz.func8 closed8
    inst8 (by unfold Func.isWrapper; first | (rw [if_pos (by decide +kernel)]; kernel_rfl) | (rw [if_neg (by decide +kernel)]; exact ⟨rfl, rfl⟩))
    (fun os started H enc _ F => by rw [OpenClaim.pre_eq_preRow]; exact lifted8 os started H enc F)
end AM
end Go.Proofs.YtoglpjkelbfjfaaGreatDoor
