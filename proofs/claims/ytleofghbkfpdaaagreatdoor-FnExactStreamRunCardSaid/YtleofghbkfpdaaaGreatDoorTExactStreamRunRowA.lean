/- For all arguments the law FnExactStreamRun returns true: the program's StreamRun returns what the reference's returns, for all arguments. Under: the listed variables of the library hold what the program's text lays. -/
import Derived.Test.YtleofghbkfpdaaaGreatDoorCards
import Derived.Test.YtleofghbkfpdaaaGreatDoorTie
import Derived.Test.YtleofghbkfpdaaaGreatDoorTP3
import Derived.Test.YtleofghbkfpdaaaGreatDoorTRWa
namespace Go.Proofs.YtleofghbkfpdaaaGreatDoor
namespace AM
open Go.ChangeShapes Go.WideShapes Go.ChangeAt Go.RowKit
set_option linter.unusedVariables false

theorem sig7 : sigs Tryz.prog 6 Tryz.f7.params.toList = some [((.pr (.sl (.pr (.int .i64) (.pr (.int .i64) (.int .i64)))) (.pr (.sl (.int .i64)) (.pr (.pr (.int .i64) (.pr (.int .i64) (.pr (.int .i64) (.bool)))) (.pr (.pr (.int .i64) (.pr (.int .i64) (.pr (.int .i64) (.bool)))) (.pr (.sl (.int .i64)) (.sl (.int .i64))))))), true), ((.sl (.pr (.int .i64) (.pr (.int .i64) (.str)))), false)] := by kernel_rfl

set_option maxRecDepth 100000 in
theorem contract7 (H : Type) (enc : TypeId × Value → H) (W : World) (base : Nat) (args : Array Value) (ds gs : List (DataW H)) (before : List MemPlace)
    (hval : ∀ (j : Nat) t v, Tryz.f7.params[j]? = some t → args[j]? = some v → Value.okWide Tryz.prog W .any base t v)
    (hW : DataW.Whole enc Tryz.prog Tryz.f7.params.toList Rows.fnExactStreamRunSpec.vars false W args.toList ds gs before) (hL : laidMetH Tryz.prog Rows.fnExactStreamRunRow.laid W) (hs : W.ShapedOpen Tryz.prog) :
    Calls Tryz.prog 7 args W fun e W' => ∃ v, e = .returned v ∧ Rows.fnExactStreamRunSpec.post enc Tryz.prog Tryz.f7 false true false false W args v W' := by
  have hG : Facts W := facts (show laidMet Tryz.prog laidList W from hL) hs
  have hW' := hW
  obtain ⟨p, q, hA, hV, rfl, hfz, hnd⟩ := hW
  have hv' : ∀ (j : Nat) t v, Tryz.f7.params.toList[j]? = some t → args.toList[j]? = some v → Value.okWide Tryz.prog W .any base t v := fun j t v ht hv => hval j t v (by rw [← Array.getElem?_toList]; exact ht) (by rw [← Array.getElem?_toList]; exact hv)
  obtain ⟨al, h1, h2, h3⟩ := args_of sig7 hA hv'
  have hp : al.map Arg.par = (S7 0).pars := by
    have : al.map Arg.par = (al.map fun a => (a.t, a.agg)).map fun p => Arg.par ⟨p.1, p.2, p.1.zero, undef⟩ := by rw [List.map_map]; rfl
    rw [this, h1]; rfl
  have hc := law_calls (P := Tryz.prog) (K := Glob.of W) (f := 7) (pars := (S7 0).pars) (g := laws_FnExactStreamRun) (fun n => (ob7 hG n).2) (fun x hx => ⟨N0, true, streamRun_law_td x hx, rfl⟩) (fun b _ => rfl) (fun b hb => hb) hp h3
  rw [h2] at hc
  refine hc.mono fun e W' h => ?_
  obtain ⟨rfl, hb⟩ := h
  exact ⟨_, rfl, law_post (B := 4) rfl (fun l hl => by
    match l, hl with
    | [d0, d1], _ => rfl) (by kernel_rfl) (by kernel_rfl) laidOut (by kernel_rfl) hW' hb⟩

def zeroArgs7 : Array Value := #[.agg #[.slice none 0 0, .slice none 0 0, .int .i64 0, .int .i64 0, .int .i64 0, .bool false, .int .i64 0, .int .i64 0, .int .i64 0, .bool false, .slice none 0 0, .slice none 0 0], .slice none 0 0]
theorem laid_met7 (os : Os) : laidMet Tryz.prog Rows.fnExactStreamRunRow.laid ((laidWorld os).forCall (fun _ _ => 0) ⟨#[], zeroArgs7, []⟩).memory :=
  laidMet_of_run' 8 (by kernel_rfl) (by kernel_rfl)
theorem reads7 (os : Os) {H : Type} (enc : TypeId × Value → H) : ∃ places, DataW.whole enc Tryz.prog ((laidWorld os).forCall (fun _ _ => 0) ⟨#[], zeroArgs7, []⟩).memory Tryz.f7.params.toList Rows.fnExactStreamRunSpec.vars false zeroArgs7.toList 8 = some ([.agg [.agg [.nil], .nil, .agg [.lit (.int .i64 0), .lit (.int .i64 0), .lit (.int .i64 0), .lit (.bool false)], .agg [.lit (.int .i64 0), .lit (.int .i64 0), .lit (.int .i64 0), .lit (.bool false)], .nil, .nil], .nil], [], places) :=
  ⟨[], by kernel_rfl⟩

set_option maxRecDepth 100000
theorem wv7 (os : Os) : ((laidWorld os).forCall (fun _ _ => 0) ⟨#[], zeroArgs7, []⟩).variablesB Tryz.prog = true := by kernel_rfl
theorem wr7 (os : Os) : ((((laidWorld os).forCall (fun _ _ => 0) ⟨#[], zeroArgs7, []⟩).heap.toList.drop Tryz.prog.globals.size).take ((begin Tryz.prog (fun _ _ => 0) default).world.heap.size - Tryz.prog.globals.size) =
      (begin Tryz.prog (fun _ _ => 0) default).world.heap.toList.drop Tryz.prog.globals.size) := by kernel_rfl
theorem wo7 (os : Os) : Input.okWideB Tryz.prog ((laidWorld os).forCall (fun _ _ => 0) ⟨#[], zeroArgs7, []⟩) 7 ⟨#[], zeroArgs7, []⟩ = true := by kernel_rfl
theorem ws7 (os : Os) {H : Type} (enc : TypeId × Value → H) : (OpenSpec.ofChange Rows.fnExactStreamRunSpec).bare.sizedB enc Tryz.prog Tryz.f7 false ((laidWorld os).forCall (fun _ _ => 0) ⟨#[], zeroArgs7, []⟩).memory zeroArgs7 8 = true := by kernel_rfl
theorem wp7 (os : Os) (H : Type) (enc : TypeId × Value → H) : (OpenSpec.ofChange Rows.fnExactStreamRunSpec).preRow enc Tryz.prog Tryz.f7 Rows.fnExactStreamRunRow.domain false Rows.fnExactStreamRunRow.laid ((laidWorld os).forCall (fun _ _ => 0) ⟨#[], zeroArgs7, []⟩).memory zeroArgs7 := by
  obtain ⟨places, hx⟩ := reads7 os enc
  exact OpenSpec.preRow_of_cond 8 hx (by kernel_rfl) (fun k hk => by cases hk) (ws7 os enc) (laid_met7 os)
theorem noInit7 : Tryz.checked.prog.inits.idxOf? 7 = none := by kernel_rfl
theorem isFunc7 : Tryz.checked.prog.funcs[7]? = some Tryz.f7 := Tryz.func7
theorem meets7 (F : Stop.Interp) (H : Type) (enc : TypeId × Value → H) : ∀ (W : World) (base : Nat) (args : Array Value) (ds gs : List (DataW H)) (before : List MemPlace),
      (∀ (j : Nat) t v, Tryz.f7.params[j]? = some t → args[j]? = some v → Value.okWide Tryz.checked.prog W .any base t v) →
      DataW.Whole enc Tryz.checked.prog Tryz.f7.params.toList (OpenSpec.ofChange Rows.fnExactStreamRunSpec).vars false W args.toList ds gs before →
      laidMetH Tryz.checked.prog Rows.fnExactStreamRunRow.laid W → W.ShapedOpen Tryz.checked.prog →
      Calls Tryz.checked.prog 7 args W fun e W' => ∃ v, e = .returned v ∧ ((OpenSpec.ofChange Rows.fnExactStreamRunSpec).at F).post enc Tryz.checked.prog Tryz.f7 false true false false W args v W' := by
  intro W base args ds gs before hval hW hL hs
  exact contract7 H enc W base args ds gs before hval hW hL hs
theorem witness7 (os : Os) (H : Type) (enc : TypeId × Value → H) : ∃ (w : World) (tape : Tape) (i : Input), w.os = os ∧ (w.forCall tape i).Shaped Tryz.checked.prog ∧ i.vars = [] ∧ Input.okWide Tryz.checked.prog (w.forCall tape i) .any w.heap.size 7 i ∧
      (OpenSpec.ofChange Rows.fnExactStreamRunSpec).preRow enc Tryz.checked.prog Tryz.f7 Rows.fnExactStreamRunRow.domain false Rows.fnExactStreamRunRow.laid (w.forCall tape i).memory i.args ∧ ({} : Assume).holds Tryz.checked.prog (lone (Frame.enter Tryz.checked.prog 7 i.args .normal) [] (w.forCall tape i)) :=
  witness_row_at (enc := enc) (C := Tryz.checked) (fn := Tryz.f7) (s := OpenSpec.ofChange Rows.fnExactStreamRunSpec) (conds := Rows.fnExactStreamRunRow.domain) (apart := false) (laid := Rows.fnExactStreamRunRow.laid) (f := 7) false (laidWorld os) zeroArgs7 (laidWorld_os os) (wv7 os) (wr7 os) (wo7 os) (wp7 os H enc)
theorem lifted7 (os : Os) (started : os.Started) (H : Type) (enc : TypeId × Value → H) (F : Stop.Interp) :
    ReturnsInHanded {} Tryz.checked os 7 .any ((OpenSpec.ofChange Rows.fnExactStreamRunSpec).preRow enc Tryz.checked.prog Tryz.f7 Rows.fnExactStreamRunRow.domain false Rows.fnExactStreamRunRow.laid) (((OpenSpec.ofChange Rows.fnExactStreamRunSpec).at F).post enc Tryz.checked.prog Tryz.f7 false true false false) :=
  returnsInHanded_of_row (C := Tryz.checked) (s := OpenSpec.ofChange Rows.fnExactStreamRunSpec) own started noInit7 isFunc7 (witness7 os H enc) (fun W base args ds gs before hval hW _ _ _ hL hs _ => meets7 F H enc W base args ds gs before hval hW hL hs)

set_option maxHeartbeats 40000000 in
theorem closed7 : joinedFacts Tryz.prog 7 Tryz.f7 (OpenSpec.ofChange Rows.fnExactStreamRunSpec).bare Rows.fnExactStreamRunRow = true := by
  unfold joinedFacts
  simp only [Bool.and_eq_true]
  and_intros
  all_goals (as_aux_lemma => kernel_rfl)
theorem inst7 : Tryz.f7.isInstance Tryz.prog Rows.fnExactStreamRunRow.origin Rows.fnExactStreamRunRow.targs := of_decide_eq_true (by kernel_rfl)
theorem said7 : Rows.FnExactStreamRunSaid :=
  OpenClaim.holds_of_cond 7 Tryz.f7 rfl rfl rfl rfl rfl rfl rfl ⟨rfl, rfl, rfl, rfl, rfl⟩ rfl rfl rfl rfl rfl (by as_aux_lemma => kernel_rfl) Tryz.func7 closed7
    inst7 (by unfold Func.isWrapper; first | (rw [if_pos (by decide +kernel)]; kernel_rfl) | (rw [if_neg (by decide +kernel)]; exact ⟨rfl, rfl⟩))
    (fun os started H enc _ F => by rw [OpenClaim.pre_eq_preRow]; exact lifted7 os started H enc F)
end AM
end Go.Proofs.YtleofghbkfpdaaaGreatDoor
