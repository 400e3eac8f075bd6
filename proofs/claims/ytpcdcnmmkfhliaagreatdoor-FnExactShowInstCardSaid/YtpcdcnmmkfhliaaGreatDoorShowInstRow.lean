/- For all arguments the law FnExactShowInst returns true: the program's ShowInst returns what the reference's returns, for all arguments. Under: the listed variables of the library hold what the program's text lays. -/
import Derived.Test.YtpcdcnmmkfhliaaGreatDoorCards
import Derived.Test.YtpcdcnmmkfhliaaGreatDoorTie
import Derived.Test.YtpcdcnmmkfhliaaGreatDoorP2
import Derived.Test.YtpcdcnmmkfhliaaGreatDoorRWa
namespace Go.Proofs.YtpcdcnmmkfhliaaGreatDoor
namespace AM
open Go.ChangeShapes Go.WideShapes Go.ChangeAt Go.RowKit
set_option linter.unusedVariables false

theorem sig9 : sigs Tryz.prog 6 Tryz.f9.params.toList = some [((.pr (.sl (.pr (.int .i64) (.pr (.int .i64) (.int .i64)))) (.pr (.sl (.int .i64)) (.pr (.sl (.pr (.int .i64) (.pr (.int .i64) (.pr (.int .i64) (.pr (.int .i64) (.pr (.int .i64) (.pr (.sl (.int .i64)) (.pr (.bool) (.pr (.bool) (.int .i64)))))))))) (.pr (.int .i64) (.pr (.sl (.int .i64)) (.pr (.sl (.int .i64)) (.sl (.pr (.int .i64) (.pr .bool .bool))))))))), true), ((.int .i64), false)] := by kernel_rfl

set_option maxRecDepth 100000 in
theorem contract9 (H : Type) (enc : TypeId × Value → H) (W : World) (base : Nat) (args : Array Value) (ds gs : List (DataW H)) (before : List MemPlace)
    (hval : ∀ (j : Nat) t v, Tryz.f9.params[j]? = some t → args[j]? = some v → Value.okWide Tryz.prog W .any base t v)
    (hW : DataW.Whole enc Tryz.prog Tryz.f9.params.toList Rows.fnExactShowInstSpec.vars false W args.toList ds gs before) (hL : laidMetH Tryz.prog Rows.fnExactShowInstRow.laid W) (hs : W.ShapedOpen Tryz.prog) :
    Calls Tryz.prog 9 args W fun e W' => ∃ v, e = .returned v ∧ Rows.fnExactShowInstSpec.post enc Tryz.prog Tryz.f9 false true false false W args v W' := by
  have hG : Facts W := facts (show laidMet Tryz.prog laidList W from hL) hs
  have hW' := hW
  obtain ⟨p, q, hA, hV, rfl, hfz, hnd⟩ := hW
  have hv' : ∀ (j : Nat) t v, Tryz.f9.params.toList[j]? = some t → args.toList[j]? = some v → Value.okWide Tryz.prog W .any base t v := fun j t v ht hv => hval j t v (by rw [← Array.getElem?_toList]; exact ht) (by rw [← Array.getElem?_toList]; exact hv)
  obtain ⟨al, h1, h2, h3⟩ := args_of sig9 hA hv'
  have hp : al.map Arg.par = (S9 0).pars := by
    have : al.map Arg.par = (al.map fun a => (a.t, a.agg)).map fun p => Arg.par ⟨p.1, p.2, p.1.zero, undef⟩ := by rw [List.map_map]; rfl
    rw [this, h1]; rfl
  have hc := law_calls (P := Tryz.prog) (K := Glob.of W) (f := 9) (pars := (S9 0).pars) (g := laws_FnExactShowInst) (fun n => (ob9 hG n).2) (fun x hx => ⟨N0, true, showInst_law_td x hx, rfl⟩) (fun b _ => rfl) (fun b hb => hb) hp h3
  rw [h2] at hc
  refine hc.mono fun e W' h => ?_
  obtain ⟨rfl, hb⟩ := h
  exact ⟨_, rfl, law_post (B := 4) rfl (fun l hl => by
    match l, hl with
    | [d0, d1], _ => rfl) (by kernel_rfl) (by kernel_rfl) laidOut (by kernel_rfl) hW' hb⟩

def zeroArgs9 : Array Value := #[.agg #[.slice none 0 0, .slice none 0 0, .slice none 0 0, .int .i64 0, .slice none 0 0, .slice none 0 0, .slice none 0 0], .int .i64 0]
theorem laid_met9 (os : Os) : laidMet Tryz.prog Rows.fnExactShowInstRow.laid ((laidWorld os).forCall (fun _ _ => 0) ⟨#[], zeroArgs9, []⟩).memory :=
  laidMet_of_run' 8 (by kernel_rfl) (by kernel_rfl)
theorem reads9 (os : Os) {H : Type} (enc : TypeId × Value → H) : ∃ places, DataW.whole enc Tryz.prog ((laidWorld os).forCall (fun _ _ => 0) ⟨#[], zeroArgs9, []⟩).memory Tryz.f9.params.toList Rows.fnExactShowInstSpec.vars false zeroArgs9.toList 8 = some ([.agg [.agg [.nil], .nil, .nil, .lit (.int .i64 0), .nil, .nil, .nil], .lit (.int .i64 0)], [], places) :=
  ⟨[], by kernel_rfl⟩

set_option maxRecDepth 100000
theorem wv9 (os : Os) : ((laidWorld os).forCall (fun _ _ => 0) ⟨#[], zeroArgs9, []⟩).variablesB Tryz.prog = true := by kernel_rfl
theorem wr9 (os : Os) : ((((laidWorld os).forCall (fun _ _ => 0) ⟨#[], zeroArgs9, []⟩).heap.toList.drop Tryz.prog.globals.size).take ((begin Tryz.prog (fun _ _ => 0) default).world.heap.size - Tryz.prog.globals.size) =
      (begin Tryz.prog (fun _ _ => 0) default).world.heap.toList.drop Tryz.prog.globals.size) := by kernel_rfl
theorem wo9 (os : Os) : Input.okWideB Tryz.prog ((laidWorld os).forCall (fun _ _ => 0) ⟨#[], zeroArgs9, []⟩) 9 ⟨#[], zeroArgs9, []⟩ = true := by kernel_rfl
theorem ws9 (os : Os) {H : Type} (enc : TypeId × Value → H) : (OpenSpec.ofChange Rows.fnExactShowInstSpec).bare.sizedB enc Tryz.prog Tryz.f9 false ((laidWorld os).forCall (fun _ _ => 0) ⟨#[], zeroArgs9, []⟩).memory zeroArgs9 8 = true := by kernel_rfl
theorem wp9 (os : Os) (H : Type) (enc : TypeId × Value → H) : (OpenSpec.ofChange Rows.fnExactShowInstSpec).preRow enc Tryz.prog Tryz.f9 Rows.fnExactShowInstRow.domain false Rows.fnExactShowInstRow.laid ((laidWorld os).forCall (fun _ _ => 0) ⟨#[], zeroArgs9, []⟩).memory zeroArgs9 := by
  obtain ⟨places, hx⟩ := reads9 os enc
  exact OpenSpec.preRow_of_cond 8 hx (by kernel_rfl) (fun k hk => by cases hk) (ws9 os enc) (laid_met9 os)
theorem noInit9 : Tryz.checked.prog.inits.idxOf? 9 = none := by kernel_rfl
theorem isFunc9 : Tryz.checked.prog.funcs[9]? = some Tryz.f9 := Tryz.func9
theorem meets9 (F : Stop.Interp) (H : Type) (enc : TypeId × Value → H) : ∀ (W : World) (base : Nat) (args : Array Value) (ds gs : List (DataW H)) (before : List MemPlace),
      (∀ (j : Nat) t v, Tryz.f9.params[j]? = some t → args[j]? = some v → Value.okWide Tryz.checked.prog W .any base t v) →
      DataW.Whole enc Tryz.checked.prog Tryz.f9.params.toList (OpenSpec.ofChange Rows.fnExactShowInstSpec).vars false W args.toList ds gs before →
      laidMetH Tryz.checked.prog Rows.fnExactShowInstRow.laid W → W.ShapedOpen Tryz.checked.prog →
      Calls Tryz.checked.prog 9 args W fun e W' => ∃ v, e = .returned v ∧ ((OpenSpec.ofChange Rows.fnExactShowInstSpec).at F).post enc Tryz.checked.prog Tryz.f9 false true false false W args v W' := by
  intro W base args ds gs before hval hW hL hs
  exact contract9 H enc W base args ds gs before hval hW hL hs
theorem witness9 (os : Os) (H : Type) (enc : TypeId × Value → H) : ∃ (w : World) (tape : Tape) (i : Input), w.os = os ∧ (w.forCall tape i).Shaped Tryz.checked.prog ∧ i.vars = [] ∧ Input.okWide Tryz.checked.prog (w.forCall tape i) .any w.heap.size 9 i ∧
      (OpenSpec.ofChange Rows.fnExactShowInstSpec).preRow enc Tryz.checked.prog Tryz.f9 Rows.fnExactShowInstRow.domain false Rows.fnExactShowInstRow.laid (w.forCall tape i).memory i.args ∧ ({} : Assume).holds Tryz.checked.prog (lone (Frame.enter Tryz.checked.prog 9 i.args .normal) [] (w.forCall tape i)) :=
  witness_row_at (enc := enc) (C := Tryz.checked) (fn := Tryz.f9) (s := OpenSpec.ofChange Rows.fnExactShowInstSpec) (conds := Rows.fnExactShowInstRow.domain) (apart := false) (laid := Rows.fnExactShowInstRow.laid) (f := 9) false (laidWorld os) zeroArgs9 (laidWorld_os os) (wv9 os) (wr9 os) (wo9 os) (wp9 os H enc)
theorem lifted9 (os : Os) (started : os.Started) (H : Type) (enc : TypeId × Value → H) (F : Stop.Interp) :
    ReturnsInHanded {} Tryz.checked os 9 .any ((OpenSpec.ofChange Rows.fnExactShowInstSpec).preRow enc Tryz.checked.prog Tryz.f9 Rows.fnExactShowInstRow.domain false Rows.fnExactShowInstRow.laid) (((OpenSpec.ofChange Rows.fnExactShowInstSpec).at F).post enc Tryz.checked.prog Tryz.f9 false true false false) :=
  returnsInHanded_of_row (C := Tryz.checked) (s := OpenSpec.ofChange Rows.fnExactShowInstSpec) own started noInit9 isFunc9 (witness9 os H enc) (fun W base args ds gs before hval hW _ _ _ hL hs _ => meets9 F H enc W base args ds gs before hval hW hL hs)

set_option maxHeartbeats 40000000 in
theorem closed9 : joinedFacts Tryz.prog 9 Tryz.f9 (OpenSpec.ofChange Rows.fnExactShowInstSpec).bare Rows.fnExactShowInstRow = true := by
  unfold joinedFacts
  simp only [Bool.and_eq_true]
  and_intros
  all_goals (as_aux_lemma => kernel_rfl)
theorem inst9 : Tryz.f9.isInstance Tryz.prog Rows.fnExactShowInstRow.origin Rows.fnExactShowInstRow.targs := of_decide_eq_true (by kernel_rfl)
theorem said9 : Rows.FnExactShowInstSaid :=
  OpenClaim.holds_of_cond 9 Tryz.f9 rfl rfl rfl rfl rfl rfl rfl ⟨rfl, rfl, rfl, rfl, rfl⟩ rfl rfl rfl rfl rfl (by as_aux_lemma => kernel_rfl) Tryz.func9 closed9
    inst9 (by unfold Func.isWrapper; first | (rw [if_pos (by decide +kernel)]; kernel_rfl) | (rw [if_neg (by decide +kernel)]; exact ⟨rfl, rfl⟩))
    (fun os started H enc _ F => by rw [OpenClaim.pre_eq_preRow]; exact lifted9 os started H enc F)

theorem plain9 (f : FuncId) (fn : Func) (hf : Tryz.pinned.checked.prog.funcNamed "loop.example/g00122/laws.FnExactShowInst" = some f) (hfn : Tryz.pinned.checked.prog.funcs[f]? = some fn) :
    true = Tryz.pinned.checked.prog.looks [] ∧ ∀ (j : Nat) t, fn.params[j]? = some t → Tryz.pinned.checked.prog.wantsStandIn t = false := by
  obtain rfl : f = 9 := Option.some.inj ((show Tryz.prog.funcNamed "loop.example/g00122/laws.FnExactShowInst" = some 9 by kernel_rfl).symm.trans hf) |>.symm
  obtain rfl : fn = Tryz.f9 := (Option.some.inj (Tryz.func9.symm.trans hfn)).symm
  refine ⟨by kernel_rfl, fun j t ht => ?_⟩
  have hall : Tryz.f9.params.toList.all (fun t => !Tryz.prog.wantsStandIn t) = true := by kernel_rfl
  have hm : t ∈ Tryz.f9.params.toList := Array.mem_toList_iff.2 (Array.mem_of_getElem? ht)
  have := List.all_eq_true.1 hall t hm
  show Tryz.prog.wantsStandIn t = false
  simpa using this
end AM

/-- THE CARD. -/
theorem fnExactShowInst_card : Rows.FnExactShowInstCardSaid :=
  Claim7.holds_tied_plain_at .later [] _ _ _ _ AM.said9 (fun _ h => by cases h) (by kernel_rfl) (fun _ h => by cases h) fnExactShowInst_row_tie rfl ⟨rfl, rfl⟩ (by kernel_rfl) rfl AM.plain9 (by kernel_rfl)
end Go.Proofs.YtpcdcnmmkfhliaaGreatDoor
