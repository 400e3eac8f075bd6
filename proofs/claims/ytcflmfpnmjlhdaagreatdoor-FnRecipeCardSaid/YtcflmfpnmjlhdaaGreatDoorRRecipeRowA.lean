/- For all arguments the law FnRecipe returns true: the law holds, for all arguments. Under: the listed variables of the library hold what the program's text lays. -/
import Derived.Test.YtcflmfpnmjlhdaaGreatDoorCards
import Derived.Test.YtcflmfpnmjlhdaaGreatDoorTie
import Derived.Test.YtcflmfpnmjlhdaaGreatDoorRP3
namespace Go.Proofs.YtcflmfpnmjlhdaaGreatDoor
namespace AM
open Go.ChangeShapes Go.WideShapes Go.ChangeAt Go.RowKit
set_option linter.unusedVariables false

theorem OA:G2 Tryz.prog 6 Tryz.f4.params.toList=some [((.sl (.int .u8)),false)]:=by kernel_rfl

set_option maxRecDepth 100000 in
theorem Ev (H:Type) (enc:TypeId×Value→H) (W:World) (base:Nat) (args:Array Value) (ds gs:List (DataW H)) (before:List MemPlace)
    (hval:∀(j:Nat) t v,Tryz.f4.params[j]?=some t→args[j]?=some v→Value.okWide Tryz.prog W .any base t v)
    (hW:DataW.Whole enc Tryz.prog Tryz.f4.params.toList Rows.fnRecipeSpec.vars false W args.toList ds gs before) (hL:laidMetH Tryz.prog Rows.fnRecipeRow.laid W) (hs:W.ShapedOpen Tryz.prog) :
    Calls Tryz.prog 4 args W fun e W'=>∃v,e = .returned v∧Rows.fnRecipeSpec.post enc Tryz.prog Tryz.f4 false true false false W args v W':=by
  have hG:au W:=facts (show laidMet Tryz.prog qV W from hL) hs
  have hW':=hW
  obtain⟨p,q,hA,hV,rfl,hfz,hnd⟩:=hW
  have hv':∀(j:Nat) t v,Tryz.f4.params.toList[j]?=some t→args.toList[j]?=some v→Value.okWide Tryz.prog W .any base t v:=fun j t v ht hv=>hval j t v (by rw[←Array.getElem?_toList];exact ht) (by rw[←Array.getElem?_toList];exact hv)
  obtain⟨al,h1,h2,h3⟩:=Df OA hA hv'
  have hp:al.map iO.par=(S4 0).pars:=by
    have:al.map iO.par=(al.map fun a=>(a.t,a.agg)).map fun p=>iO.par ⟨p.1,p.2,p.1.zero,undef⟩:=by rw[List.map_map];rfl
    rw[this,h1];rfl
  have hc:=Ec (P:=Tryz.prog) (K:=eN.of W) (f:=4) (pars:=(S4 0).pars) (g:=fP) (fun n=>(UM hG n).2) (fun x hx=>⟨N0,true,vU x hx,rfl⟩) (fun b _=>rfl) (fun b hb=>hb) hp h3
  rw[h2]at hc
  refine hc.mono fun e W' h=>?_
  obtain⟨rfl,hb⟩:=h
  exact⟨_,rfl,F3 (B:=4) rfl (fun l hl=>by
    match l,hl with
    |[d0],_=>rfl) (by kernel_rfl) (by kernel_rfl) CS (by kernel_rfl) hW' hb⟩

def ei:Array Value:=#[.slice none 0 0]
theorem Ed (os:Os):laidMet Tryz.prog Rows.fnRecipeRow.laid ((eV os).forCall (fun _ _=>0) ⟨#[],ei,[]⟩).memory :=
  laidMet_of_run' 8 (by kernel_rfl) (by kernel_rfl)
theorem JR (os:Os){H:Type}(enc:TypeId×Value→H):∃places,DataW.whole enc Tryz.prog ((eV os).forCall (fun _ _=>0) ⟨#[],ei,[]⟩).memory Tryz.f4.params.toList Rows.fnRecipeSpec.vars false ei.toList 8=some ([.nil],[],places) :=
  ⟨[],by kernel_rfl⟩

set_option maxRecDepth 100000
theorem UB (os:Os):((eV os).forCall (fun _ _=>0) ⟨#[],ei,[]⟩).variablesB Tryz.prog=true:=by kernel_rfl
theorem UD (os : Os) : ((((eV os).forCall (fun _ _ => 0) ⟨#[], ei, []⟩).heap.toList.drop Tryz.prog.globals.size).take ((begin Tryz.prog (fun _ _ => 0) default).world.heap.size - Tryz.prog.globals.size) =
      (begin Tryz.prog (fun _ _=>0) default).world.heap.toList.drop Tryz.prog.globals.size):=by kernel_rfl
theorem UF (os:Os):Input.okWideB Tryz.prog ((eV os).forCall (fun _ _=>0) ⟨#[],ei,[]⟩) 4 ⟨#[],ei,[]⟩=true:=by kernel_rfl
theorem UC (os:Os){H:Type}(enc:TypeId×Value→H):(OpenSpec.ofChange Rows.fnRecipeSpec).bare.sizedB enc Tryz.prog Tryz.f4 false ((eV os).forCall (fun _ _=>0) ⟨#[],ei,[]⟩).memory ei 8=true:=by kernel_rfl
theorem UE (os:Os) (H:Type) (enc:TypeId×Value→H):(OpenSpec.ofChange Rows.fnRecipeSpec).preRow enc Tryz.prog Tryz.f4 Rows.fnRecipeRow.domain false Rows.fnRecipeRow.laid ((eV os).forCall (fun _ _=>0) ⟨#[],ei,[]⟩).memory ei:=by
  obtain⟨places,hx⟩:=JR os enc
  exact OpenSpec.preRow_of_cond 8 hx (by kernel_rfl) (fun k hk=>by cases hk) (UC os enc) (Ed os)
theorem Io:Tryz.checked.prog.inits.idxOf? 4=none:=by kernel_rfl
theorem IH:Tryz.checked.prog.funcs[4]?=some Tryz.f4:=Tryz.func4
theorem J7 (F : Stop.Interp) (H : Type) (enc : TypeId × Value → H) : ∀ (W : World) (base : Nat) (args : Array Value) (ds gs : List (DataW H)) (before : List MemPlace),
      (∀(j:Nat) t v,Tryz.f4.params[j]?=some t→args[j]?=some v→Value.okWide Tryz.checked.prog W .any base t v) →
      DataW.Whole enc Tryz.checked.prog Tryz.f4.params.toList (OpenSpec.ofChange Rows.fnRecipeSpec).vars false W args.toList ds gs before →
      laidMetH Tryz.checked.prog Rows.fnRecipeRow.laid W→W.ShapedOpen Tryz.checked.prog →
      Calls Tryz.checked.prog 4 args W fun e W'=>∃v,e = .returned v∧((OpenSpec.ofChange Rows.fnRecipeSpec).at F).post enc Tryz.checked.prog Tryz.f4 false true false false W args v W':=by
  intro W base args ds gs before hval hW hL hs
  exact Ev H enc W base args ds gs before hval hW hL hs
theorem EP (os : Os) (H : Type) (enc : TypeId × Value → H) : ∃ (w : World) (tape : Tape) (i : Input), w.os = os ∧ (w.forCall tape i).Shaped Tryz.checked.prog ∧ i.vars = [] ∧ Input.okWide Tryz.checked.prog (w.forCall tape i) .any w.heap.size 4 i ∧
      (OpenSpec.ofChange Rows.fnRecipeSpec).preRow enc Tryz.checked.prog Tryz.f4 Rows.fnRecipeRow.domain false Rows.fnRecipeRow.laid (w.forCall tape i).memory i.args∧({}:Assume).holds Tryz.checked.prog (lone (Frame.enter Tryz.checked.prog 4 i.args .normal) [] (w.forCall tape i)) :=
  witness_row_at (enc:=enc) (C:=Tryz.checked) (fn:=Tryz.f4) (s:=OpenSpec.ofChange Rows.fnRecipeSpec) (conds:=Rows.fnRecipeRow.domain) (apart:=false) (laid:=Rows.fnRecipeRow.laid) (f:=4) false (eV os) ei (qU os) (UB os) (UD os) (UF os) (UE os H enc)
theorem ID (os:Os) (started:os.Started) (H:Type) (enc:TypeId×Value→H) (F:Stop.Interp) :
    ReturnsInHanded {} Tryz.checked os 4 .any ((OpenSpec.ofChange Rows.fnRecipeSpec).preRow enc Tryz.checked.prog Tryz.f4 Rows.fnRecipeRow.domain false Rows.fnRecipeRow.laid) (((OpenSpec.ofChange Rows.fnRecipeSpec).at F).post enc Tryz.checked.prog Tryz.f4 false true false false) :=
  returnsInHanded_of_row (C:=Tryz.checked) (s:=OpenSpec.ofChange Rows.fnRecipeSpec) own started Io IH (EP os H enc) (fun W base args ds gs before hval hW _ _ _ hL hs _=>J7 F H enc W base args ds gs before hval hW hL hs)

set_option maxHeartbeats 40000000 in
theorem IU:joinedFacts Tryz.prog 4 Tryz.f4 (OpenSpec.ofChange Rows.fnRecipeSpec).bare Rows.fnRecipeRow=true:=by
  unfold joinedFacts
  simp only[Bool.and_eq_true]
  and_intros
  all_goals (as_aux_lemma=>kernel_rfl)
theorem Mg:Tryz.f4.isInstance Tryz.prog Rows.fnRecipeRow.origin Rows.fnRecipeRow.targs:=of_decide_eq_true (by kernel_rfl)
theorem said4:Rows.FnRecipeSaid :=
  OpenClaim.holds_of_cond 4 Tryz.f4 rfl rfl rfl rfl rfl rfl rfl ⟨rfl,rfl,rfl,rfl,rfl⟩ rfl rfl rfl rfl rfl (by as_aux_lemma=>kernel_rfl) Tryz.func4 IU
    Mg (by unfold Func.isWrapper;first|(rw[if_pos (by decide +kernel)];kernel_rfl)|(rw[if_neg (by decide +kernel)];exact⟨rfl,rfl⟩))
    (fun os started H enc _ F=>by rw[OpenClaim.pre_eq_preRow];exact ID os started H enc F)
end AM
end Go.Proofs.YtcflmfpnmjlhdaaGreatDoor
