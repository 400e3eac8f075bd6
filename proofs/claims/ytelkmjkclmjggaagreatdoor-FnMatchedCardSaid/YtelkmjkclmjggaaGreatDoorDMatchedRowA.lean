/- For all arguments the law FnMatched returns true: the law holds, for all arguments. Under: the listed variables of the library hold what the program's text lays. -/
import Derived.Test.YtelkmjkclmjggaaGreatDoorCards
import Derived.Test.YtelkmjkclmjggaaGreatDoorTie
import Derived.Test.YtelkmjkclmjggaaGreatDoorDP3
import Derived.Test.YtelkmjkclmjggaaGreatDoorDRWa
namespace Go.Proofs.YtelkmjkclmjggaaGreatDoor
namespace AM
open Go.ChangeShapes Go.WideShapes Go.ChangeAt Go.RowKit
set_option linter.unusedVariables false

theorem sig5 : sigs Tryz.prog 6 Tryz.f5.params.toList = some [((.sl (.int .u8)), false)] := by kernel_rfl

set_option maxRecDepth 100000 in
theorem contract5 (H : Type) (enc : TypeId × Value → H) (W : World) (base : Nat) (args : Array Value) (ds gs : List (DataW H)) (before : List MemPlace)
    (hval : ∀ (j : Nat) t v, Tryz.f5.params[j]? = some t → args[j]? = some v → Value.okWide Tryz.prog W .any base t v)
    (hW : DataW.Whole enc Tryz.prog Tryz.f5.params.toList Rows.fnMatchedSpec.vars false W args.toList ds gs before) (hL : laidMetH Tryz.prog Rows.fnMatchedRow.laid W) (hs : W.ShapedOpen Tryz.prog) :
    Calls Tryz.prog 5 args W fun e W' => ∃ v, e = .returned v ∧ Rows.fnMatchedSpec.post enc Tryz.prog Tryz.f5 false true false false W args v W' := by
  have hG : Facts W := facts (show laidMet Tryz.prog laidList W from hL) hs
  have hW' := hW
  obtain ⟨p, q, hA, hV, rfl, hfz, hnd⟩ := hW
  have hv' : ∀ (j : Nat) t v, Tryz.f5.params.toList[j]? = some t → args.toList[j]? = some v → Value.okWide Tryz.prog W .any base t v := fun j t v ht hv => hval j t v (by rw [← Array.getElem?_toList]; exact ht) (by rw [← Array.getElem?_toList]; exact hv)
  obtain ⟨al, h1, h2, h3⟩ := args_of sig5 hA hv'
  have hp : al.map Arg.par = (S5 0).pars := by
    have : al.map Arg.par = (al.map fun a => (a.t, a.agg)).map fun p => Arg.par ⟨p.1, p.2, p.1.zero, undef⟩ := by rw [List.map_map]; rfl
    rw [this, h1]; rfl
  have hc := law_calls (P := Tryz.prog) (K := Glob.of W) (f := 5) (pars := (S5 0).pars) (g := laws_FnMatched) (fun n => (ob5 hG n).2) (fun x hx => ⟨N0, true, matched_law_td x hx, rfl⟩) (fun b _ => rfl) (fun b hb => hb) hp h3
  rw [h2] at hc
  refine hc.mono fun e W' h => ?_
  obtain ⟨rfl, hb⟩ := h
  exact ⟨_, rfl, law_post (B := 4) rfl (fun l hl => by
    match l, hl with
    | [d0], _ => rfl) (by kernel_rfl) (by kernel_rfl) laidOut (by kernel_rfl) hW' hb⟩

def zeroArgs5 : Array Value := #[.slice none 0 0]
theorem laid_met5 (os : Os) : laidMet Tryz.prog Rows.fnMatchedRow.laid ((laidWorld os).forCall (fun _ _ => 0) ⟨#[], zeroArgs5, []⟩).memory :=
  laidMet_of_run' 8 (by kernel_rfl) (by kernel_rfl)
theorem reads5 (os : Os) {H : Type} (enc : TypeId × Value → H) : ∃ places, DataW.whole enc Tryz.prog ((laidWorld os).forCall (fun _ _ => 0) ⟨#[], zeroArgs5, []⟩).memory Tryz.f5.params.toList Rows.fnMatchedSpec.vars false zeroArgs5.toList 8 = some ([.nil], [], places) :=
  ⟨[], by kernel_rfl⟩

set_option maxRecDepth 100000
theorem wv5 (os : Os) : ((laidWorld os).forCall (fun _ _ => 0) ⟨#[], zeroArgs5, []⟩).variablesB Tryz.prog = true := by kernel_rfl
theorem wr5 (os : Os) : ((((laidWorld os).forCall (fun _ _ => 0) ⟨#[], zeroArgs5, []⟩).heap.toList.drop Tryz.prog.globals.size).take ((begin Tryz.prog (fun _ _ => 0) default).world.heap.size - Tryz.prog.globals.size) =
      (begin Tryz.prog (fun _ _ => 0) default).world.heap.toList.drop Tryz.prog.globals.size) := by kernel_rfl
theorem wo5 (os : Os) : Input.okWideB Tryz.prog ((laidWorld os).forCall (fun _ _ => 0) ⟨#[], zeroArgs5, []⟩) 5 ⟨#[], zeroArgs5, []⟩ = true := by kernel_rfl
theorem ws5 (os : Os) {H : Type} (enc : TypeId × Value → H) : (OpenSpec.ofChange Rows.fnMatchedSpec).bare.sizedB enc Tryz.prog Tryz.f5 false ((laidWorld os).forCall (fun _ _ => 0) ⟨#[], zeroArgs5, []⟩).memory zeroArgs5 8 = true := by kernel_rfl
theorem wp5 (os : Os) (H : Type) (enc : TypeId × Value → H) : (OpenSpec.ofChange Rows.fnMatchedSpec).preRow enc Tryz.prog Tryz.f5 Rows.fnMatchedRow.domain false Rows.fnMatchedRow.laid ((laidWorld os).forCall (fun _ _ => 0) ⟨#[], zeroArgs5, []⟩).memory zeroArgs5 := by
  obtain ⟨places, hx⟩ := reads5 os enc
  exact OpenSpec.preRow_of_cond 8 hx (by kernel_rfl) (fun k hk => by cases hk) (ws5 os enc) (laid_met5 os)
theorem noInit5 : Tryz.checked.prog.inits.idxOf? 5 = none := by kernel_rfl
theorem isFunc5 : Tryz.checked.prog.funcs[5]? = some Tryz.f5 := Tryz.func5
theorem meets5 (F : Stop.Interp) (H : Type) (enc : TypeId × Value → H) : ∀ (W : World) (base : Nat) (args : Array Value) (ds gs : List (DataW H)) (before : List MemPlace),
      (∀ (j : Nat) t v, Tryz.f5.params[j]? = some t → args[j]? = some v → Value.okWide Tryz.checked.prog W .any base t v) →
      DataW.Whole enc Tryz.checked.prog Tryz.f5.params.toList (OpenSpec.ofChange Rows.fnMatchedSpec).vars false W args.toList ds gs before →
      laidMetH Tryz.checked.prog Rows.fnMatchedRow.laid W → W.ShapedOpen Tryz.checked.prog →
      Calls Tryz.checked.prog 5 args W fun e W' => ∃ v, e = .returned v ∧ ((OpenSpec.ofChange Rows.fnMatchedSpec).at F).post enc Tryz.checked.prog Tryz.f5 false true false false W args v W' := by
  intro W base args ds gs before hval hW hL hs
  exact contract5 H enc W base args ds gs before hval hW hL hs
theorem witness5 (os : Os) (H : Type) (enc : TypeId × Value → H) : ∃ (w : World) (tape : Tape) (i : Input), w.os = os ∧ (w.forCall tape i).Shaped Tryz.checked.prog ∧ i.vars = [] ∧ Input.okWide Tryz.checked.prog (w.forCall tape i) .any w.heap.size 5 i ∧
      (OpenSpec.ofChange Rows.fnMatchedSpec).preRow enc Tryz.checked.prog Tryz.f5 Rows.fnMatchedRow.domain false Rows.fnMatchedRow.laid (w.forCall tape i).memory i.args ∧ ({} : Assume).holds Tryz.checked.prog (lone (Frame.enter Tryz.checked.prog 5 i.args .normal) [] (w.forCall tape i)) :=
  witness_row_at (enc := enc) (C := Tryz.checked) (fn := Tryz.f5) (s := OpenSpec.ofChange Rows.fnMatchedSpec) (conds := Rows.fnMatchedRow.domain) (apart := false) (laid := Rows.fnMatchedRow.laid) (f := 5) false (laidWorld os) zeroArgs5 (laidWorld_os os) (wv5 os) (wr5 os) (wo5 os) (wp5 os H enc)
theorem lifted5 (os : Os) (started : os.Started) (H : Type) (enc : TypeId × Value → H) (F : Stop.Interp) :
    ReturnsInHanded {} Tryz.checked os 5 .any ((OpenSpec.ofChange Rows.fnMatchedSpec).preRow enc Tryz.checked.prog Tryz.f5 Rows.fnMatchedRow.domain false Rows.fnMatchedRow.laid) (((OpenSpec.ofChange Rows.fnMatchedSpec).at F).post enc Tryz.checked.prog Tryz.f5 false true false false) :=
  returnsInHanded_of_row (C := Tryz.checked) (s := OpenSpec.ofChange Rows.fnMatchedSpec) own started noInit5 isFunc5 (witness5 os H enc) (fun W base args ds gs before hval hW _ _ _ hL hs _ => meets5 F H enc W base args ds gs before hval hW hL hs)

set_option maxHeartbeats 40000000 in
theorem closed5 : joinedFacts Tryz.prog 5 Tryz.f5 (OpenSpec.ofChange Rows.fnMatchedSpec).bare Rows.fnMatchedRow = true := by
  unfold joinedFacts
  simp only [Bool.and_eq_true]
  and_intros
  all_goals (as_aux_lemma => kernel_rfl)
theorem inst5 : Tryz.f5.isInstance Tryz.prog Rows.fnMatchedRow.origin Rows.fnMatchedRow.targs := of_decide_eq_true (by kernel_rfl)
theorem said5 : Rows.FnMatchedSaid :=
  OpenClaim.holds_of_cond 5 Tryz.f5 rfl rfl rfl rfl rfl rfl rfl ⟨rfl, rfl, rfl, rfl, rfl⟩ rfl rfl rfl rfl rfl (by as_aux_lemma => kernel_rfl) Tryz.func5 closed5
    inst5 (by unfold Func.isWrapper; first | (rw [if_pos (by decide +kernel)]; kernel_rfl) | (rw [if_neg (by decide +kernel)]; exact ⟨rfl, rfl⟩))
    (fun os started H enc _ F => by rw [OpenClaim.pre_eq_preRow]; exact lifted5 os started H enc F)
end AM
end Go.Proofs.YtelkmjkclmjggaaGreatDoor
