/- For all arguments the law FnExactJudgeSecret returns true: the program's JudgeSecret returns what the reference's returns, for all arguments. Under: the listed variables of the library hold what the program's text lays. -/
import Derived.Test.YtobpcllkonomlabGreatDoorCards
import Derived.Test.YtobpcllkonomlabGreatDoorTie
import Derived.Test.YtobpcllkonomlabGreatDoorSP2
import Derived.Test.YtobpcllkonomlabGreatDoorSRWa
namespace Go.Proofs.YtobpcllkonomlabGreatDoor
namespace AM
open Go.ChangeShapes Go.WideShapes Go.ChangeAt Go.RowKit
set_option linter.unusedVariables false

theorem sig3 : sigs Tryz.prog 6 Tryz.f3.params.toList = some [((.pr (.sl (.pr (.int .i64) (.pr (.int .i64) (.int .i64)))) (.pr (.sl (.int .i64)) (.pr (.sl (.pr (.int .i64) (.pr (.int .i64) (.pr (.int .i64) (.pr (.int .i64) (.pr (.int .i64) (.pr (.sl (.int .i64)) (.pr (.bool) (.pr (.bool) (.int .i64)))))))))) (.pr (.int .i64) (.pr (.sl (.int .i64)) (.pr (.sl (.int .i64)) (.sl (.pr (.int .i64) (.pr .bool .bool))))))))), true)] := by kernel_rfl

set_option maxRecDepth 100000 in
theorem contract3 (H : Type) (enc : TypeId × Value → H) (W : World) (base : Nat) (args : Array Value) (ds gs : List (DataW H)) (before : List MemPlace)
    (hval : ∀ (j : Nat) t v, Tryz.f3.params[j]? = some t → args[j]? = some v → Value.okWide Tryz.prog W .any base t v)
    (hW : DataW.Whole enc Tryz.prog Tryz.f3.params.toList Rows.fnExactJudgeSecretSpec.vars false W args.toList ds gs before) (hL : laidMetH Tryz.prog Rows.fnExactJudgeSecretRow.laid W) (hs : W.ShapedOpen Tryz.prog) :
    Calls Tryz.prog 3 args W fun e W' => ∃ v, e = .returned v ∧ Rows.fnExactJudgeSecretSpec.post enc Tryz.prog Tryz.f3 false true false false W args v W' := by
  have hG : Facts W := facts (show laidMet Tryz.prog laidList W from hL) hs
  have hW' := hW
  obtain ⟨p, q, hA, hV, rfl, hfz, hnd⟩ := hW
  have hv' : ∀ (j : Nat) t v, Tryz.f3.params.toList[j]? = some t → args.toList[j]? = some v → Value.okWide Tryz.prog W .any base t v := fun j t v ht hv => hval j t v (by rw [← Array.getElem?_toList]; exact ht) (by rw [← Array.getElem?_toList]; exact hv)
  obtain ⟨al, h1, h2, h3⟩ := args_of sig3 hA hv'
  have hp : al.map Arg.par = (S3 0).pars := by
    have : al.map Arg.par = (al.map fun a => (a.t, a.agg)).map fun p => Arg.par ⟨p.1, p.2, p.1.zero, undef⟩ := by rw [List.map_map]; rfl
    rw [this, h1]; rfl
  have hc := law_calls (P := Tryz.prog) (K := Glob.of W) (f := 3) (pars := (S3 0).pars) (g := laws_FnExactJudgeSecret) (fun n => (ob3 hG n).2) (fun x hx => ⟨N0, true, judgeSecret_law_td x hx, rfl⟩) (fun b _ => rfl) (fun b hb => hb) hp h3
  rw [h2] at hc
  refine hc.mono fun e W' h => ?_
  obtain ⟨rfl, hb⟩ := h
  exact ⟨_, rfl, law_post (B := 4) rfl (fun l hl => by
    match l, hl with
    | [d0], _ => rfl) (by kernel_rfl) (by kernel_rfl) laidOut (by kernel_rfl) hW' hb⟩

def zeroArgs3 : Array Value := #[.agg #[.slice none 0 0, .slice none 0 0, .slice none 0 0, .int .i64 0, .slice none 0 0, .slice none 0 0, .slice none 0 0]]
theorem laid_met3 (os : Os) : laidMet Tryz.prog Rows.fnExactJudgeSecretRow.laid ((laidWorld os).forCall (fun _ _ => 0) ⟨#[], zeroArgs3, []⟩).memory :=
  laidMet_of_run' 8 (by kernel_rfl) (by kernel_rfl)
theorem reads3 (os : Os) {H : Type} (enc : TypeId × Value → H) : ∃ places, DataW.whole enc Tryz.prog ((laidWorld os).forCall (fun _ _ => 0) ⟨#[], zeroArgs3, []⟩).memory Tryz.f3.params.toList Rows.fnExactJudgeSecretSpec.vars false zeroArgs3.toList 8 = some ([.agg [.agg [.nil], .nil, .nil, .lit (.int .i64 0), .nil, .nil, .nil]], [], places) :=
  ⟨[], by kernel_rfl⟩

set_option maxRecDepth 100000
theorem wv3 (os : Os) : ((laidWorld os).forCall (fun _ _ => 0) ⟨#[], zeroArgs3, []⟩).variablesB Tryz.prog = true := by kernel_rfl
theorem wr3 (os : Os) : ((((laidWorld os).forCall (fun _ _ => 0) ⟨#[], zeroArgs3, []⟩).heap.toList.drop Tryz.prog.globals.size).take ((begin Tryz.prog (fun _ _ => 0) default).world.heap.size - Tryz.prog.globals.size) =
      (begin Tryz.prog (fun _ _ => 0) default).world.heap.toList.drop Tryz.prog.globals.size) := by kernel_rfl
theorem wo3 (os : Os) : Input.okWideB Tryz.prog ((laidWorld os).forCall (fun _ _ => 0) ⟨#[], zeroArgs3, []⟩) 3 ⟨#[], zeroArgs3, []⟩ = true := by kernel_rfl
theorem ws3 (os : Os) {H : Type} (enc : TypeId × Value → H) : (OpenSpec.ofChange Rows.fnExactJudgeSecretSpec).bare.sizedB enc Tryz.prog Tryz.f3 false ((laidWorld os).forCall (fun _ _ => 0) ⟨#[], zeroArgs3, []⟩).memory zeroArgs3 8 = true := by kernel_rfl
theorem wp3 (os : Os) (H : Type) (enc : TypeId × Value → H) : (OpenSpec.ofChange Rows.fnExactJudgeSecretSpec).preRow enc Tryz.prog Tryz.f3 Rows.fnExactJudgeSecretRow.domain false Rows.fnExactJudgeSecretRow.laid ((laidWorld os).forCall (fun _ _ => 0) ⟨#[], zeroArgs3, []⟩).memory zeroArgs3 := by
  obtain ⟨places, hx⟩ := reads3 os enc
  exact OpenSpec.preRow_of_cond 8 hx (by kernel_rfl) (fun k hk => by cases hk) (ws3 os enc) (laid_met3 os)
theorem noInit3 : Tryz.checked.prog.inits.idxOf? 3 = none := by kernel_rfl
theorem isFunc3 : Tryz.checked.prog.funcs[3]? = some Tryz.f3 := Tryz.func3
theorem meets3 (F : Stop.Interp) (H : Type) (enc : TypeId × Value → H) : ∀ (W : World) (base : Nat) (args : Array Value) (ds gs : List (DataW H)) (before : List MemPlace),
      (∀ (j : Nat) t v, Tryz.f3.params[j]? = some t → args[j]? = some v → Value.okWide Tryz.checked.prog W .any base t v) →
      DataW.Whole enc Tryz.checked.prog Tryz.f3.params.toList (OpenSpec.ofChange Rows.fnExactJudgeSecretSpec).vars false W args.toList ds gs before →
      laidMetH Tryz.checked.prog Rows.fnExactJudgeSecretRow.laid W → W.ShapedOpen Tryz.checked.prog →
      Calls Tryz.checked.prog 3 args W fun e W' => ∃ v, e = .returned v ∧ ((OpenSpec.ofChange Rows.fnExactJudgeSecretSpec).at F).post enc Tryz.checked.prog Tryz.f3 false true false false W args v W' := by
  intro W base args ds gs before hval hW hL hs
  exact contract3 H enc W base args ds gs before hval hW hL hs
theorem witness3 (os : Os) (H : Type) (enc : TypeId × Value → H) : ∃ (w : World) (tape : Tape) (i : Input), w.os = os ∧ (w.forCall tape i).Shaped Tryz.checked.prog ∧ i.vars = [] ∧ Input.okWide Tryz.checked.prog (w.forCall tape i) .any w.heap.size 3 i ∧
      (OpenSpec.ofChange Rows.fnExactJudgeSecretSpec).preRow enc Tryz.checked.prog Tryz.f3 Rows.fnExactJudgeSecretRow.domain false Rows.fnExactJudgeSecretRow.laid (w.forCall tape i).memory i.args ∧ ({} : Assume).holds Tryz.checked.prog (lone (Frame.enter Tryz.checked.prog 3 i.args .normal) [] (w.forCall tape i)) :=
  witness_row_at (enc := enc) (C := Tryz.checked) (fn := Tryz.f3) (s := OpenSpec.ofChange Rows.fnExactJudgeSecretSpec) (conds := Rows.fnExactJudgeSecretRow.domain) (apart := false) (laid := Rows.fnExactJudgeSecretRow.laid) (f := 3) false (laidWorld os) zeroArgs3 (laidWorld_os os) (wv3 os) (wr3 os) (wo3 os) (wp3 os H enc)
theorem lifted3 (os : Os) (started : os.Started) (H : Type) (enc : TypeId × Value → H) (F : Stop.Interp) :
    ReturnsInHanded {} Tryz.checked os 3 .any ((OpenSpec.ofChange Rows.fnExactJudgeSecretSpec).preRow enc Tryz.checked.prog Tryz.f3 Rows.fnExactJudgeSecretRow.domain false Rows.fnExactJudgeSecretRow.laid) (((OpenSpec.ofChange Rows.fnExactJudgeSecretSpec).at F).post enc Tryz.checked.prog Tryz.f3 false true false false) :=
  returnsInHanded_of_row (C := Tryz.checked) (s := OpenSpec.ofChange Rows.fnExactJudgeSecretSpec) own started noInit3 isFunc3 (witness3 os H enc) (fun W base args ds gs before hval hW _ _ _ hL hs _ => meets3 F H enc W base args ds gs before hval hW hL hs)

set_option maxHeartbeats 40000000 in
theorem closed3 : joinedFacts Tryz.prog 3 Tryz.f3 (OpenSpec.ofChange Rows.fnExactJudgeSecretSpec).bare Rows.fnExactJudgeSecretRow = true := by
  unfold joinedFacts
  simp only [Bool.and_eq_true]
  and_intros
  all_goals (as_aux_lemma => kernel_rfl)
theorem inst3 : Tryz.f3.isInstance Tryz.prog Rows.fnExactJudgeSecretRow.origin Rows.fnExactJudgeSecretRow.targs := of_decide_eq_true (by kernel_rfl)
theorem said3 : Rows.FnExactJudgeSecretSaid :=
  OpenClaim.holds_of_cond 3 Tryz.f3 rfl rfl rfl rfl rfl rfl rfl ⟨rfl, rfl, rfl, rfl, rfl⟩ rfl rfl rfl rfl rfl (by as_aux_lemma => kernel_rfl) Tryz.func3 closed3
    inst3 (by unfold Func.isWrapper; first | (rw [if_pos (by decide +kernel)]; kernel_rfl) | (rw [if_neg (by decide +kernel)]; exact ⟨rfl, rfl⟩))
    (fun os started H enc _ F => by rw [OpenClaim.pre_eq_preRow]; exact lifted3 os started H enc F)
end AM
end Go.Proofs.YtobpcllkonomlabGreatDoor
