/- For all arguments the law FnActions returns true: the law holds, for all arguments. Under: the listed variables of the library hold what the program's text lays. -/
import Derived.Test.YtobpcllkonomlaaGreatDoorCards
import Derived.Test.YtobpcllkonomlaaGreatDoorTie
import Derived.Test.YtobpcllkonomlaaGreatDoorAP3
import Derived.Test.YtobpcllkonomlaaGreatDoorARWa
namespace Go.Proofs.YtobpcllkonomlaaGreatDoor
namespace AM
open Go.ChangeShapes Go.WideShapes Go.ChangeAt Go.RowKit
set_option linter.unusedVariables false

theorem S1:Jg Tryz.prog 6 Tryz.f4.params.toList=some [((.sl (.int .u8)),false)]:=by kernel_rfl

set_option maxRecDepth 100000 in
theorem FQ (H:Type) (enc:TypeId×Value→H) (W:World) (base:Nat) (args:Array Value) (ds gs:List (DataW H)) (before:List MemPlace)
    (hval:∀(j:Nat) t v,Tryz.f4.params[j]?=some t→args[j]?=some v→Value.okWide Tryz.prog W .any base t v)
    (hW:DataW.Whole enc Tryz.prog Tryz.f4.params.toList Rows.fnActionsSpec.vars false W args.toList ds gs before) (hL:laidMetH Tryz.prog Rows.fnActionsRow.laid W) (hs:W.ShapedOpen Tryz.prog) :
    Calls Tryz.prog 4 args W fun e W'=>∃v,e = .returned v∧Rows.fnActionsSpec.post enc Tryz.prog Tryz.f4 false true false false W args v W':=by
  have hG:ap W:=facts (show laidMet Tryz.prog BQ W from hL) hs
  have hW':=hW
  obtain⟨p,q,hA,hV,rfl,hfz,hnd⟩:=hW
  have hv':∀(j:Nat) t v,Tryz.f4.params.toList[j]?=some t→args.toList[j]?=some v→Value.okWide Tryz.prog W .any base t v:=fun j t v ht hv=>hval j t v (by rw[←Array.getElem?_toList];exact ht) (by rw[←Array.getElem?_toList];exact hv)
  obtain⟨al,h1,h2,h3⟩:=Ey S1 hA hv'
  have hp:al.map jr.par=(S4 0).pars:=by
    have:al.map jr.par=(al.map fun a=>(a.t,a.agg)).map fun p=>jr.par ⟨p.1,p.2,p.1.zero,undef⟩:=by rw[List.map_map];rfl
    rw[this,h1];rfl
  have hc:=Fy (P:=Tryz.prog) (K:=gA.of W) (f:=4) (pars:=(S4 0).pars) (g:=fv) (fun n=>(WQ hG n).2) (fun x hx=>⟨N0,true,xy x hx,rfl⟩) (fun b _=>rfl) (fun b hb=>hb) hp h3
  rw[h2]at hc
  refine hc.mono fun e W' h=>?_
  obtain⟨rfl,hb⟩:=h
  exact⟨_,rfl,Ii (B:=4) rfl (fun l hl=>by
    match l,hl with
    |[d0],_=>rfl) (by kernel_rfl) (by kernel_rfl) JJ (by kernel_rfl) hW' hb⟩

def eE:Array Value:=#[.slice none 0 0]
theorem Fz (os:Os):laidMet Tryz.prog Rows.fnActionsRow.laid ((ij os).forCall (fun _ _=>0) ⟨#[],eE,[]⟩).memory :=
  laidMet_of_run' 8 (by kernel_rfl) (by kernel_rfl)
theorem LD (os:Os){H:Type}(enc:TypeId×Value→H):∃places,DataW.whole enc Tryz.prog ((ij os).forCall (fun _ _=>0) ⟨#[],eE,[]⟩).memory Tryz.f4.params.toList Rows.fnActionsSpec.vars false eE.toList 8=some ([.nil],[],places) :=
  ⟨[],by kernel_rfl⟩

set_option maxRecDepth 100000
theorem WH (os:Os):((ij os).forCall (fun _ _=>0) ⟨#[],eE,[]⟩).variablesB Tryz.prog=true:=by kernel_rfl
theorem WJ (os : Os) : ((((ij os).forCall (fun _ _ => 0) ⟨#[], eE, []⟩).heap.toList.drop Tryz.prog.globals.size).take ((begin Tryz.prog (fun _ _ => 0) default).world.heap.size - Tryz.prog.globals.size) =
      (begin Tryz.prog (fun _ _=>0) default).world.heap.toList.drop Tryz.prog.globals.size):=by kernel_rfl
theorem WM (os:Os):Input.okWideB Tryz.prog ((ij os).forCall (fun _ _=>0) ⟨#[],eE,[]⟩) 4 ⟨#[],eE,[]⟩=true:=by kernel_rfl
theorem WI (os:Os){H:Type}(enc:TypeId×Value→H):(OpenSpec.ofChange Rows.fnActionsSpec).bare.sizedB enc Tryz.prog Tryz.f4 false ((ij os).forCall (fun _ _=>0) ⟨#[],eE,[]⟩).memory eE 8=true:=by kernel_rfl
theorem WK (os:Os) (H:Type) (enc:TypeId×Value→H):(OpenSpec.ofChange Rows.fnActionsSpec).preRow enc Tryz.prog Tryz.f4 Rows.fnActionsRow.domain false Rows.fnActionsRow.laid ((ij os).forCall (fun _ _=>0) ⟨#[],eE,[]⟩).memory eE:=by
  obtain⟨places,hx⟩:=LD os enc
  exact OpenSpec.preRow_of_cond 8 hx (by kernel_rfl) (fun k hk=>by cases hk) (WI os enc) (Fz os)
theorem Jx:Tryz.checked.prog.inits.idxOf? 4=none:=by kernel_rfl
theorem JM:Tryz.checked.prog.funcs[4]?=some Tryz.f4:=Tryz.func4
theorem LZ (F : Stop.Interp) (H : Type) (enc : TypeId × Value → H) : ∀ (W : World) (base : Nat) (args : Array Value) (ds gs : List (DataW H)) (before : List MemPlace),
      (∀(j:Nat) t v,Tryz.f4.params[j]?=some t→args[j]?=some v→Value.okWide Tryz.checked.prog W .any base t v) →
      DataW.Whole enc Tryz.checked.prog Tryz.f4.params.toList (OpenSpec.ofChange Rows.fnActionsSpec).vars false W args.toList ds gs before →
      laidMetH Tryz.checked.prog Rows.fnActionsRow.laid W→W.ShapedOpen Tryz.checked.prog →
      Calls Tryz.checked.prog 4 args W fun e W'=>∃v,e = .returned v∧((OpenSpec.ofChange Rows.fnActionsSpec).at F).post enc Tryz.checked.prog Tryz.f4 false true false false W args v W':=by
  intro W base args ds gs before hval hW hL hs
  exact FQ H enc W base args ds gs before hval hW hL hs
theorem Gf (os : Os) (H : Type) (enc : TypeId × Value → H) : ∃ (w : World) (tape : Tape) (i : Input), w.os = os ∧ (w.forCall tape i).Shaped Tryz.checked.prog ∧ i.vars = [] ∧ Input.okWide Tryz.checked.prog (w.forCall tape i) .any w.heap.size 4 i ∧
      (OpenSpec.ofChange Rows.fnActionsSpec).preRow enc Tryz.checked.prog Tryz.f4 Rows.fnActionsRow.domain false Rows.fnActionsRow.laid (w.forCall tape i).memory i.args∧({}:Assume).holds Tryz.checked.prog (lone (Frame.enter Tryz.checked.prog 4 i.args .normal) [] (w.forCall tape i)) :=
  witness_row_at (enc:=enc) (C:=Tryz.checked) (fn:=Tryz.f4) (s:=OpenSpec.ofChange Rows.fnActionsSpec) (conds:=Rows.fnActionsRow.domain) (apart:=false) (laid:=Rows.fnActionsRow.laid) (f:=4) false (ij os) eE (Ac os) (WH os) (WJ os) (WM os) (WK os H enc)
theorem JG (os:Os) (started:os.Started) (H:Type) (enc:TypeId×Value→H) (F:Stop.Interp) :
    ReturnsInHanded {} Tryz.checked os 4 .any ((OpenSpec.ofChange Rows.fnActionsSpec).preRow enc Tryz.checked.prog Tryz.f4 Rows.fnActionsRow.domain false Rows.fnActionsRow.laid) (((OpenSpec.ofChange Rows.fnActionsSpec).at F).post enc Tryz.checked.prog Tryz.f4 false true false false) :=
  returnsInHanded_of_row (C:=Tryz.checked) (s:=OpenSpec.ofChange Rows.fnActionsSpec) own started Jx JM (Gf os H enc) (fun W base args ds gs before hval hW _ _ _ hL hs _=>LZ F H enc W base args ds gs before hval hW hL hs)

set_option maxHeartbeats 40000000 in
theorem JV:joinedFacts Tryz.prog 4 Tryz.f4 (OpenSpec.ofChange Rows.fnActionsSpec).bare Rows.fnActionsRow=true:=by
  unfold joinedFacts
  simp only[Bool.and_eq_true]
  and_intros
  all_goals (as_aux_lemma=>kernel_rfl)
theorem OU:Tryz.f4.isInstance Tryz.prog Rows.fnActionsRow.origin Rows.fnActionsRow.targs:=of_decide_eq_true (by kernel_rfl)
theorem said4:Rows.FnActionsSaid :=
  OpenClaim.holds_of_cond 4 Tryz.f4 rfl rfl rfl rfl rfl rfl rfl ⟨rfl,rfl,rfl,rfl,rfl⟩ rfl rfl rfl rfl rfl (by as_aux_lemma=>kernel_rfl) Tryz.func4 JV
    OU (by unfold Func.isWrapper;first|(rw[if_pos (by decide +kernel)];kernel_rfl)|(rw[if_neg (by decide +kernel)];exact⟨rfl,rfl⟩))
    (fun os started H enc _ F=>by rw[OpenClaim.pre_eq_preRow];exact JG os started H enc F)
end AM
end Go.Proofs.YtobpcllkonomlaaGreatDoor
