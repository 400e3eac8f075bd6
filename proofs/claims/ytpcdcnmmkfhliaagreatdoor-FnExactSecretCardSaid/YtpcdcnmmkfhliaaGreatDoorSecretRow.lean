/- For all arguments the law FnExactSecret returns true: the program's Secret returns what the reference's returns, for all arguments. Under: the listed variables of the library hold what the program's text lays. -/
import Derived.Test.YtpcdcnmmkfhliaaGreatDoorCards
import Derived.Test.YtpcdcnmmkfhliaaGreatDoorTie
import Derived.Test.YtpcdcnmmkfhliaaGreatDoorP2
import Derived.Test.YtpcdcnmmkfhliaaGreatDoorRWa
namespace Go.Proofs.YtpcdcnmmkfhliaaGreatDoor
namespace AM
open Go.ChangeShapes Go.WideShapes Go.ChangeAt Go.RowKit
set_option linter.unusedVariables false

theorem sig11 : sigs Tryz.prog 6 Tryz.f11.params.toList = some [((.pr (.sl (.pr (.int .i64) (.pr (.int .i64) (.int .i64)))) (.pr (.sl (.int .i64)) (.pr (.sl (.pr (.int .i64) (.pr (.int .i64) (.pr (.int .i64) (.pr (.int .i64) (.pr (.int .i64) (.pr (.sl (.int .i64)) (.pr (.bool) (.pr (.bool) (.int .i64)))))))))) (.pr (.int .i64) (.pr (.sl (.int .i64)) (.pr (.sl (.int .i64)) (.sl (.pr (.int .i64) (.pr .bool .bool))))))))), true), ((.int .i64), false)] := by kernel_rfl

set_option maxRecDepth 100000 in
theorem contract11 (H : Type) (enc : TypeId × Value → H) (W : World) (base : Nat) (args : Array Value) (ds gs : List (DataW H)) (before : List MemPlace)
    (hval : ∀ (j : Nat) t v, Tryz.f11.params[j]? = some t → args[j]? = some v → Value.okWide Tryz.prog W .any base t v)
    (hW : DataW.Whole enc Tryz.prog Tryz.f11.params.toList Rows.fnExactSecretSpec.vars false W args.toList ds gs before) (hL : laidMetH Tryz.prog Rows.fnExactSecretRow.laid W) (hs : W.ShapedOpen Tryz.prog) :
    Calls Tryz.prog 11 args W fun e W' => ∃ v, e = .returned v ∧ Rows.fnExactSecretSpec.post enc Tryz.prog Tryz.f11 false true false false W args v W' := by
  have hG : Facts W := facts (show laidMet Tryz.prog laidList W from hL) hs
  have hW' := hW
  obtain ⟨p, q, hA, hV, rfl, hfz, hnd⟩ := hW
  have hv' : ∀ (j : Nat) t v, Tryz.f11.params.toList[j]? = some t → args.toList[j]? = some v → Value.okWide Tryz.prog W .any base t v := fun j t v ht hv => hval j t v (by rw [← Array.getElem?_toList]; exact ht) (by rw [← Array.getElem?_toList]; exact hv)
  obtain ⟨al, h1, h2, h3⟩ := args_of sig11 hA hv'
  have hp : al.map Arg.par = (S11 0).pars := by
    have : al.map Arg.par = (al.map fun a => (a.t, a.agg)).map fun p => Arg.par ⟨p.1, p.2, p.1.zero, undef⟩ := by rw [List.map_map]; rfl
    rw [this, h1]; rfl
  have hc := law_calls (P := Tryz.prog) (K := Glob.of W) (f := 11) (pars := (S11 0).pars) (g := laws_FnExactSecret) (fun n => (ob11 hG n).2) (fun x hx => ⟨N0, true, secret_law_td x hx, rfl⟩) (fun b _ => rfl) (fun b hb => hb) hp h3
  rw [h2] at hc
  refine hc.mono fun e W' h => ?_
  obtain ⟨rfl, hb⟩ := h
  exact ⟨_, rfl, law_post (B := 4) rfl (fun l hl => by
    match l, hl with
    | [d0, d1], _ => rfl) (by kernel_rfl) (by kernel_rfl) laidOut (by kernel_rfl) hW' hb⟩

def zeroArgs11 : Array Value := #[.agg #[.slice none 0 0, .slice none 0 0, .slice none 0 0, .int .i64 0, .slice none 0 0, .slice none 0 0, .slice none 0 0], .int .i64 0]
theorem laid_met11 (os : Os) : laidMet Tryz.prog Rows.fnExactSecretRow.laid ((laidWorld os).forCall (fun _ _ => 0) ⟨#[], zeroArgs11, []⟩).memory :=
  laidMet_of_run' 8 (by kernel_rfl) (by kernel_rfl)
theorem reads11 (os : Os) {H : Type} (enc : TypeId × Value → H) : ∃ places, DataW.whole enc Tryz.prog ((laidWorld os).forCall (fun _ _ => 0) ⟨#[], zeroArgs11, []⟩).memory Tryz.f11.params.toList Rows.fnExactSecretSpec.vars false zeroArgs11.toList 8 = some ([.agg [.agg [.nil], .nil, .nil, .lit (.int .i64 0), .nil, .nil, .nil], .lit (.int .i64 0)], [], places) :=
  ⟨[], by kernel_rfl⟩

set_option maxRecDepth 100000
theorem wv11 (os : Os) : ((laidWorld os).forCall (fun _ _ => 0) ⟨#[], zeroArgs11, []⟩).variablesB Tryz.prog = true := by kernel_rfl
theorem wr11 (os : Os) : ((((laidWorld os).forCall (fun _ _ => 0) ⟨#[], zeroArgs11, []⟩).heap.toList.drop Tryz.prog.globals.size).take ((begin Tryz.prog (fun _ _ => 0) default).world.heap.size - Tryz.prog.globals.size) =
      (begin Tryz.prog (fun _ _ => 0) default).world.heap.toList.drop Tryz.prog.globals.size) := by kernel_rfl
theorem wo11 (os : Os) : Input.okWideB Tryz.prog ((laidWorld os).forCall (fun _ _ => 0) ⟨#[], zeroArgs11, []⟩) 11 ⟨#[], zeroArgs11, []⟩ = true := by kernel_rfl
theorem ws11 (os : Os) {H : Type} (enc : TypeId × Value → H) : (OpenSpec.ofChange Rows.fnExactSecretSpec).bare.sizedB enc Tryz.prog Tryz.f11 false ((laidWorld os).forCall (fun _ _ => 0) ⟨#[], zeroArgs11, []⟩).memory zeroArgs11 8 = true := by kernel_rfl
theorem wp11 (os : Os) (H : Type) (enc : TypeId × Value → H) : (OpenSpec.ofChange Rows.fnExactSecretSpec).preRow enc Tryz.prog Tryz.f11 Rows.fnExactSecretRow.domain false Rows.fnExactSecretRow.laid ((laidWorld os).forCall (fun _ _ => 0) ⟨#[], zeroArgs11, []⟩).memory zeroArgs11 := by
  obtain ⟨places, hx⟩ := reads11 os enc
  exact OpenSpec.preRow_of_cond 8 hx (by kernel_rfl) (fun k hk => by cases hk) (ws11 os enc) (laid_met11 os)
theorem noInit11 : Tryz.checked.prog.inits.idxOf? 11 = none := by kernel_rfl
theorem isFunc11 : Tryz.checked.prog.funcs[11]? = some Tryz.f11 := Tryz.func11
theorem meets11 (F : Stop.Interp) (H : Type) (enc : TypeId × Value → H) : ∀ (W : World) (base : Nat) (args : Array Value) (ds gs : List (DataW H)) (before : List MemPlace),
      (∀ (j : Nat) t v, Tryz.f11.params[j]? = some t → args[j]? = some v → Value.okWide Tryz.checked.prog W .any base t v) →
      DataW.Whole enc Tryz.checked.prog Tryz.f11.params.toList (OpenSpec.ofChange Rows.fnExactSecretSpec).vars false W args.toList ds gs before →
      laidMetH Tryz.checked.prog Rows.fnExactSecretRow.laid W → W.ShapedOpen Tryz.checked.prog →
      Calls Tryz.checked.prog 11 args W fun e W' => ∃ v, e = .returned v ∧ ((OpenSpec.ofChange Rows.fnExactSecretSpec).at F).post enc Tryz.checked.prog Tryz.f11 false true false false W args v W' := by
  intro W base args ds gs before hval hW hL hs
  exact contract11 H enc W base args ds gs before hval hW hL hs
theorem witness11 (os : Os) (H : Type) (enc : TypeId × Value → H) : ∃ (w : World) (tape : Tape) (i : Input), w.os = os ∧ (w.forCall tape i).Shaped Tryz.checked.prog ∧ i.vars = [] ∧ Input.okWide Tryz.checked.prog (w.forCall tape i) .any w.heap.size 11 i ∧
      (OpenSpec.ofChange Rows.fnExactSecretSpec).preRow enc Tryz.checked.prog Tryz.f11 Rows.fnExactSecretRow.domain false Rows.fnExactSecretRow.laid (w.forCall tape i).memory i.args ∧ ({} : Assume).holds Tryz.checked.prog (lone (Frame.enter Tryz.checked.prog 11 i.args .normal) [] (w.forCall tape i)) :=
  witness_row_at (enc := enc) (C := Tryz.checked) (fn := Tryz.f11) (s := OpenSpec.ofChange Rows.fnExactSecretSpec) (conds := Rows.fnExactSecretRow.domain) (apart := false) (laid := Rows.fnExactSecretRow.laid) (f := 11) false (laidWorld os) zeroArgs11 (laidWorld_os os) (wv11 os) (wr11 os) (wo11 os) (wp11 os H enc)
theorem lifted11 (os : Os) (started : os.Started) (H : Type) (enc : TypeId × Value → H) (F : Stop.Interp) :
    ReturnsInHanded {} Tryz.checked os 11 .any ((OpenSpec.ofChange Rows.fnExactSecretSpec).preRow enc Tryz.checked.prog Tryz.f11 Rows.fnExactSecretRow.domain false Rows.fnExactSecretRow.laid) (((OpenSpec.ofChange Rows.fnExactSecretSpec).at F).post enc Tryz.checked.prog Tryz.f11 false true false false) :=
  returnsInHanded_of_row (C := Tryz.checked) (s := OpenSpec.ofChange Rows.fnExactSecretSpec) own started noInit11 isFunc11 (witness11 os H enc) (fun W base args ds gs before hval hW _ _ _ hL hs _ => meets11 F H enc W base args ds gs before hval hW hL hs)

set_option maxHeartbeats 40000000 in
theorem closed11 : joinedFacts Tryz.prog 11 Tryz.f11 (OpenSpec.ofChange Rows.fnExactSecretSpec).bare Rows.fnExactSecretRow = true := by
  unfold joinedFacts
  simp only [Bool.and_eq_true]
  and_intros
  all_goals (as_aux_lemma => kernel_rfl)
theorem inst11 : Tryz.f11.isInstance Tryz.prog Rows.fnExactSecretRow.origin Rows.fnExactSecretRow.targs := of_decide_eq_true (by kernel_rfl)
theorem said11 : Rows.FnExactSecretSaid :=
  OpenClaim.holds_of_cond 11 Tryz.f11 rfl rfl rfl rfl rfl rfl rfl ⟨rfl, rfl, rfl, rfl, rfl⟩ rfl rfl rfl rfl rfl (by as_aux_lemma => kernel_rfl) Tryz.func11 closed11
    inst11 (by unfold Func.isWrapper; first | (rw [if_pos (by decide +kernel)]; kernel_rfl) | (rw [if_neg (by decide +kernel)]; exact ⟨rfl, rfl⟩))
    (fun os started H enc _ F => by rw [OpenClaim.pre_eq_preRow]; exact lifted11 os started H enc F)

theorem plain11 (f : FuncId) (fn : Func) (hf : Tryz.pinned.checked.prog.funcNamed "loop.example/g00122/laws.FnExactSecret" = some f) (hfn : Tryz.pinned.checked.prog.funcs[f]? = some fn) :
    true = Tryz.pinned.checked.prog.looks [] ∧ ∀ (j : Nat) t, fn.params[j]? = some t → Tryz.pinned.checked.prog.wantsStandIn t = false := by
  obtain rfl : f = 11 := Option.some.inj ((show Tryz.prog.funcNamed "loop.example/g00122/laws.FnExactSecret" = some 11 by kernel_rfl).symm.trans hf) |>.symm
  obtain rfl : fn = Tryz.f11 := (Option.some.inj (Tryz.func11.symm.trans hfn)).symm
  refine ⟨by kernel_rfl, fun j t ht => ?_⟩
  have hall : Tryz.f11.params.toList.all (fun t => !Tryz.prog.wantsStandIn t) = true := by kernel_rfl
  have hm : t ∈ Tryz.f11.params.toList := Array.mem_toList_iff.2 (Array.mem_of_getElem? ht)
  have := List.all_eq_true.1 hall t hm
  show Tryz.prog.wantsStandIn t = false
  simpa using this
end AM

/-- THE CARD. -/
theorem fnExactSecret_card : Rows.FnExactSecretCardSaid :=
  Claim7.holds_tied_plain_at .later [] _ _ _ _ AM.said11 (fun _ h => by cases h) (by kernel_rfl) (fun _ h => by cases h) fnExactSecret_row_tie rfl ⟨rfl, rfl⟩ (by kernel_rfl) rfl AM.plain11 (by kernel_rfl)
end Go.Proofs.YtpcdcnmmkfhliaaGreatDoor
