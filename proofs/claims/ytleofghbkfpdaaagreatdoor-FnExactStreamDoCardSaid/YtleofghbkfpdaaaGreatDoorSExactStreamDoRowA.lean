/- For all arguments the law FnExactStreamDo returns true: the program's StreamDo returns what the reference's returns, for all arguments. Under: the listed variables of the library hold what the program's text lays. -/
import Derived.Test.YtleofghbkfpdaaaGreatDoorCards
import Derived.Test.YtleofghbkfpdaaaGreatDoorTie
import Derived.Test.YtleofghbkfpdaaaGreatDoorSP3
import Derived.Test.YtleofghbkfpdaaaGreatDoorSRWa
namespace Go.Proofs.YtleofghbkfpdaaaGreatDoor
namespace AM
open Go.ChangeShapes Go.WideShapes Go.ChangeAt Go.RowKit
set_option linter.unusedVariables false

theorem sig6 : sigs Tryz.prog 6 Tryz.f6.params.toList = some [((.pr (.sl (.pr (.int .i64) (.pr (.int .i64) (.int .i64)))) (.pr (.sl (.int .i64)) (.pr (.pr (.int .i64) (.pr (.int .i64) (.pr (.int .i64) (.bool)))) (.pr (.pr (.int .i64) (.pr (.int .i64) (.pr (.int .i64) (.bool)))) (.pr (.sl (.int .i64)) (.sl (.int .i64))))))), true), ((.pr (.int .i64) (.pr (.int .i64) (.str))), true)] := by kernel_rfl

set_option maxRecDepth 100000 in
theorem contract6 (H : Type) (enc : TypeId × Value → H) (W : World) (base : Nat) (args : Array Value) (ds gs : List (DataW H)) (before : List MemPlace)
    (hval : ∀ (j : Nat) t v, Tryz.f6.params[j]? = some t → args[j]? = some v → Value.okWide Tryz.prog W .any base t v)
    (hW : DataW.Whole enc Tryz.prog Tryz.f6.params.toList Rows.fnExactStreamDoSpec.vars false W args.toList ds gs before) (hL : laidMetH Tryz.prog Rows.fnExactStreamDoRow.laid W) (hs : W.ShapedOpen Tryz.prog) :
    Calls Tryz.prog 6 args W fun e W' => ∃ v, e = .returned v ∧ Rows.fnExactStreamDoSpec.post enc Tryz.prog Tryz.f6 false true false false W args v W' := by
  have hG : Facts W := facts (show laidMet Tryz.prog laidList W from hL) hs
  have hW' := hW
  obtain ⟨p, q, hA, hV, rfl, hfz, hnd⟩ := hW
  have hv' : ∀ (j : Nat) t v, Tryz.f6.params.toList[j]? = some t → args.toList[j]? = some v → Value.okWide Tryz.prog W .any base t v := fun j t v ht hv => hval j t v (by rw [← Array.getElem?_toList]; exact ht) (by rw [← Array.getElem?_toList]; exact hv)
  obtain ⟨al, h1, h2, h3⟩ := args_of sig6 hA hv'
  have hp : al.map Arg.par = (S6 0).pars := by
    have : al.map Arg.par = (al.map fun a => (a.t, a.agg)).map fun p => Arg.par ⟨p.1, p.2, p.1.zero, undef⟩ := by rw [List.map_map]; rfl
    rw [this, h1]; rfl
  have hc := law_calls (P := Tryz.prog) (K := Glob.of W) (f := 6) (pars := (S6 0).pars) (g := laws_FnExactStreamDo) (fun n => (ob6 hG n).2) (fun x hx => ⟨N0, true, streamDo_law_td x hx, rfl⟩) (fun b _ => rfl) (fun b hb => hb) hp h3
  rw [h2] at hc
  refine hc.mono fun e W' h => ?_
  obtain ⟨rfl, hb⟩ := h
  exact ⟨_, rfl, law_post (B := 4) rfl (fun l hl => by
    match l, hl with
    | [d0, d1], _ => rfl) (by kernel_rfl) (by kernel_rfl) laidOut (by kernel_rfl) hW' hb⟩

def zeroArgs6 : Array Value := #[.agg #[.slice none 0 0, .slice none 0 0, .int .i64 0, .int .i64 0, .int .i64 0, .bool false, .int .i64 0, .int .i64 0, .int .i64 0, .bool false, .slice none 0 0, .slice none 0 0], .agg #[.int .i64 0, .int .i64 0, .string ⟨#[]⟩]]
theorem laid_met6 (os : Os) : laidMet Tryz.prog Rows.fnExactStreamDoRow.laid ((laidWorld os).forCall (fun _ _ => 0) ⟨#[], zeroArgs6, []⟩).memory :=
  laidMet_of_run' 8 (by kernel_rfl) (by kernel_rfl)
theorem reads6 (os : Os) {H : Type} (enc : TypeId × Value → H) : ∃ places, DataW.whole enc Tryz.prog ((laidWorld os).forCall (fun _ _ => 0) ⟨#[], zeroArgs6, []⟩).memory Tryz.f6.params.toList Rows.fnExactStreamDoSpec.vars false zeroArgs6.toList 8 = some ([.agg [.agg [.nil], .nil, .agg [.lit (.int .i64 0), .lit (.int .i64 0), .lit (.int .i64 0), .lit (.bool false)], .agg [.lit (.int .i64 0), .lit (.int .i64 0), .lit (.int .i64 0), .lit (.bool false)], .nil, .nil], .agg [.lit (.int .i64 0), .lit (.int .i64 0), .lit (.string [])]], [], places) :=
  ⟨[], by kernel_rfl⟩

set_option maxRecDepth 100000
theorem wv6 (os : Os) : ((laidWorld os).forCall (fun _ _ => 0) ⟨#[], zeroArgs6, []⟩).variablesB Tryz.prog = true := by kernel_rfl
theorem wr6 (os : Os) : ((((laidWorld os).forCall (fun _ _ => 0) ⟨#[], zeroArgs6, []⟩).heap.toList.drop Tryz.prog.globals.size).take ((begin Tryz.prog (fun _ _ => 0) default).world.heap.size - Tryz.prog.globals.size) =
      (begin Tryz.prog (fun _ _ => 0) default).world.heap.toList.drop Tryz.prog.globals.size) := by kernel_rfl
theorem wo6 (os : Os) : Input.okWideB Tryz.prog ((laidWorld os).forCall (fun _ _ => 0) ⟨#[], zeroArgs6, []⟩) 6 ⟨#[], zeroArgs6, []⟩ = true := by kernel_rfl
theorem ws6 (os : Os) {H : Type} (enc : TypeId × Value → H) : (OpenSpec.ofChange Rows.fnExactStreamDoSpec).bare.sizedB enc Tryz.prog Tryz.f6 false ((laidWorld os).forCall (fun _ _ => 0) ⟨#[], zeroArgs6, []⟩).memory zeroArgs6 8 = true := by kernel_rfl
theorem wp6 (os : Os) (H : Type) (enc : TypeId × Value → H) : (OpenSpec.ofChange Rows.fnExactStreamDoSpec).preRow enc Tryz.prog Tryz.f6 Rows.fnExactStreamDoRow.domain false Rows.fnExactStreamDoRow.laid ((laidWorld os).forCall (fun _ _ => 0) ⟨#[], zeroArgs6, []⟩).memory zeroArgs6 := by
  obtain ⟨places, hx⟩ := reads6 os enc
  exact OpenSpec.preRow_of_cond 8 hx (by kernel_rfl) (fun k hk => by cases hk) (ws6 os enc) (laid_met6 os)
theorem noInit6 : Tryz.checked.prog.inits.idxOf? 6 = none := by kernel_rfl
theorem isFunc6 : Tryz.checked.prog.funcs[6]? = some Tryz.f6 := Tryz.func6
theorem meets6 (F : Stop.Interp) (H : Type) (enc : TypeId × Value → H) : ∀ (W : World) (base : Nat) (args : Array Value) (ds gs : List (DataW H)) (before : List MemPlace),
      (∀ (j : Nat) t v, Tryz.f6.params[j]? = some t → args[j]? = some v → Value.okWide Tryz.checked.prog W .any base t v) →
      DataW.Whole enc Tryz.checked.prog Tryz.f6.params.toList (OpenSpec.ofChange Rows.fnExactStreamDoSpec).vars false W args.toList ds gs before →
      laidMetH Tryz.checked.prog Rows.fnExactStreamDoRow.laid W → W.ShapedOpen Tryz.checked.prog →
      Calls Tryz.checked.prog 6 args W fun e W' => ∃ v, e = .returned v ∧ ((OpenSpec.ofChange Rows.fnExactStreamDoSpec).at F).post enc Tryz.checked.prog Tryz.f6 false true false false W args v W' := by
  intro W base args ds gs before hval hW hL hs
  exact contract6 H enc W base args ds gs before hval hW hL hs
theorem witness6 (os : Os) (H : Type) (enc : TypeId × Value → H) : ∃ (w : World) (tape : Tape) (i : Input), w.os = os ∧ (w.forCall tape i).Shaped Tryz.checked.prog ∧ i.vars = [] ∧ Input.okWide Tryz.checked.prog (w.forCall tape i) .any w.heap.size 6 i ∧
      (OpenSpec.ofChange Rows.fnExactStreamDoSpec).preRow enc Tryz.checked.prog Tryz.f6 Rows.fnExactStreamDoRow.domain false Rows.fnExactStreamDoRow.laid (w.forCall tape i).memory i.args ∧ ({} : Assume).holds Tryz.checked.prog (lone (Frame.enter Tryz.checked.prog 6 i.args .normal) [] (w.forCall tape i)) :=
  witness_row_at (enc := enc) (C := Tryz.checked) (fn := Tryz.f6) (s := OpenSpec.ofChange Rows.fnExactStreamDoSpec) (conds := Rows.fnExactStreamDoRow.domain) (apart := false) (laid := Rows.fnExactStreamDoRow.laid) (f := 6) false (laidWorld os) zeroArgs6 (laidWorld_os os) (wv6 os) (wr6 os) (wo6 os) (wp6 os H enc)
theorem lifted6 (os : Os) (started : os.Started) (H : Type) (enc : TypeId × Value → H) (F : Stop.Interp) :
    ReturnsInHanded {} Tryz.checked os 6 .any ((OpenSpec.ofChange Rows.fnExactStreamDoSpec).preRow enc Tryz.checked.prog Tryz.f6 Rows.fnExactStreamDoRow.domain false Rows.fnExactStreamDoRow.laid) (((OpenSpec.ofChange Rows.fnExactStreamDoSpec).at F).post enc Tryz.checked.prog Tryz.f6 false true false false) :=
  returnsInHanded_of_row (C := Tryz.checked) (s := OpenSpec.ofChange Rows.fnExactStreamDoSpec) own started noInit6 isFunc6 (witness6 os H enc) (fun W base args ds gs before hval hW _ _ _ hL hs _ => meets6 F H enc W base args ds gs before hval hW hL hs)

set_option maxHeartbeats 40000000 in
theorem closed6 : joinedFacts Tryz.prog 6 Tryz.f6 (OpenSpec.ofChange Rows.fnExactStreamDoSpec).bare Rows.fnExactStreamDoRow = true := by
  unfold joinedFacts
  simp only [Bool.and_eq_true]
  and_intros
  all_goals (as_aux_lemma => kernel_rfl)
theorem inst6 : Tryz.f6.isInstance Tryz.prog Rows.fnExactStreamDoRow.origin Rows.fnExactStreamDoRow.targs := of_decide_eq_true (by kernel_rfl)
theorem said6 : Rows.FnExactStreamDoSaid :=
  OpenClaim.holds_of_cond 6 Tryz.f6 rfl rfl rfl rfl rfl rfl rfl ⟨rfl, rfl, rfl, rfl, rfl⟩ rfl rfl rfl rfl rfl (by as_aux_lemma => kernel_rfl) Tryz.func6 closed6
    inst6 (by unfold Func.isWrapper; first | (rw [if_pos (by decide +kernel)]; kernel_rfl) | (rw [if_neg (by decide +kernel)]; exact ⟨rfl, rfl⟩))
    (fun os started H enc _ F => by rw [OpenClaim.pre_eq_preRow]; exact lifted6 os started H enc F)
end AM
end Go.Proofs.YtleofghbkfpdaaaGreatDoor
