/- For all arguments the law FnDeedText returns true: the law holds, for all arguments. Under: the listed variables of the library hold what the program's text lays. -/
import Derived.Test.YtobpcllkonomlabGreatDoorCards
import Derived.Test.YtobpcllkonomlabGreatDoorTie
import Derived.Test.YtobpcllkonomlabGreatDoorDP3
namespace Go.Proofs.YtobpcllkonomlabGreatDoor
namespace AM
open Go.ChangeShapes Go.WideShapes Go.ChangeAt Go.RowKit
set_option linter.unusedVariables false

theorem Wq:KY Tryz.prog 6 Tryz.f6.params.toList=some [((.sl (.int .u8)),false)]:=by kernel_rfl

set_option maxRecDepth 100000 in
theorem Ie (H:Type) (enc:TypeId×Value→H) (W:World) (base:Nat) (args:Array Value) (ds gs:List (DataW H)) (before:List MemPlace)
    (hval:∀(j:Nat) t v,Tryz.f6.params[j]?=some t→args[j]?=some v→Value.okWide Tryz.prog W .any base t v)
    (hW:DataW.Whole enc Tryz.prog Tryz.f6.params.toList Rows.fnDeedTextSpec.vars false W args.toList ds gs before) (hL:laidMetH Tryz.prog Rows.fnDeedTextRow.laid W) (hs:W.ShapedOpen Tryz.prog) :
    Calls Tryz.prog 6 args W fun e W'=>∃v,e = .returned v∧Rows.fnDeedTextSpec.post enc Tryz.prog Tryz.f6 false true false false W args v W':=by
  have hG:af W:=facts (show laidMet Tryz.prog tc W from hL) hs
  have hW':=hW
  obtain⟨p,q,hA,hV,rfl,hfz,hnd⟩:=hW
  have hv':∀(j:Nat) t v,Tryz.f6.params.toList[j]?=some t→args.toList[j]?=some v→Value.okWide Tryz.prog W .any base t v:=fun j t v ht hv=>hval j t v (by rw[←Array.getElem?_toList];exact ht) (by rw[←Array.getElem?_toList];exact hv)
  obtain⟨al,h1,h2,h3⟩:=FP Wq hA hv'
  have hp:al.map jf.par=(S6 0).pars:=by
    have:al.map jf.par=(al.map fun a=>(a.t,a.agg)).map fun p=>jf.par ⟨p.1,p.2,p.1.zero,undef⟩:=by rw[List.map_map];rfl
    rw[this,h1];rfl
  have hc:=GT (P:=Tryz.prog) (K:=fA.of W) (f:=6) (pars:=(S6 0).pars) (g:=eI) (fun n=>(Y6 hG n).2) (fun x hx=>⟨N0,true,wq x hx,rfl⟩) (fun b _=>rfl) (fun b hb=>hb) hp h3
  rw[h2]at hc
  refine hc.mono fun e W' h=>?_
  obtain⟨rfl,hb⟩:=h
  exact⟨_,rfl,JT (B:=4) rfl (fun l hl=>by
    match l,hl with
    |[d0],_=>rfl) (by kernel_rfl) (by kernel_rfl) Ft (by kernel_rfl) hW' hb⟩

def eE:Array Value:=#[.slice none 0 0]
theorem GU (os:Os):laidMet Tryz.prog Rows.fnDeedTextRow.laid ((fq os).forCall (fun _ _=>0) ⟨#[],eE,[]⟩).memory :=
  laidMet_of_run' 8 (by kernel_rfl) (by kernel_rfl)
theorem Ns (os:Os){H:Type}(enc:TypeId×Value→H):∃places,DataW.whole enc Tryz.prog ((fq os).forCall (fun _ _=>0) ⟨#[],eE,[]⟩).memory Tryz.f6.params.toList Rows.fnDeedTextSpec.vars false eE.toList 8=some ([.nil],[],places) :=
  ⟨[],by kernel_rfl⟩

set_option maxRecDepth 100000
theorem YY (os:Os):((fq os).forCall (fun _ _=>0) ⟨#[],eE,[]⟩).variablesB Tryz.prog=true:=by kernel_rfl
theorem Y0 (os : Os) : ((((fq os).forCall (fun _ _ => 0) ⟨#[], eE, []⟩).heap.toList.drop Tryz.prog.globals.size).take ((begin Tryz.prog (fun _ _ => 0) default).world.heap.size - Tryz.prog.globals.size) =
      (begin Tryz.prog (fun _ _=>0) default).world.heap.toList.drop Tryz.prog.globals.size):=by kernel_rfl
theorem Y2 (os:Os):Input.okWideB Tryz.prog ((fq os).forCall (fun _ _=>0) ⟨#[],eE,[]⟩) 6 ⟨#[],eE,[]⟩=true:=by kernel_rfl
theorem YZ (os:Os){H:Type}(enc:TypeId×Value→H):(OpenSpec.ofChange Rows.fnDeedTextSpec).bare.sizedB enc Tryz.prog Tryz.f6 false ((fq os).forCall (fun _ _=>0) ⟨#[],eE,[]⟩).memory eE 8=true:=by kernel_rfl
theorem Y1 (os:Os) (H:Type) (enc:TypeId×Value→H):(OpenSpec.ofChange Rows.fnDeedTextSpec).preRow enc Tryz.prog Tryz.f6 Rows.fnDeedTextRow.domain false Rows.fnDeedTextRow.laid ((fq os).forCall (fun _ _=>0) ⟨#[],eE,[]⟩).memory eE:=by
  obtain⟨places,hx⟩:=Ns os enc
  exact OpenSpec.preRow_of_cond 8 hx (by kernel_rfl) (fun k hk=>by cases hk) (YZ os enc) (GU os)
theorem Lg:Tryz.checked.prog.inits.idxOf? 6=none:=by kernel_rfl
theorem Lu:Tryz.checked.prog.funcs[6]?=some Tryz.f6:=Tryz.func6
theorem ND (F : Stop.Interp) (H : Type) (enc : TypeId × Value → H) : ∀ (W : World) (base : Nat) (args : Array Value) (ds gs : List (DataW H)) (before : List MemPlace),
      (∀(j:Nat) t v,Tryz.f6.params[j]?=some t→args[j]?=some v→Value.okWide Tryz.checked.prog W .any base t v) →
      DataW.Whole enc Tryz.checked.prog Tryz.f6.params.toList (OpenSpec.ofChange Rows.fnDeedTextSpec).vars false W args.toList ds gs before →
      laidMetH Tryz.checked.prog Rows.fnDeedTextRow.laid W→W.ShapedOpen Tryz.checked.prog →
      Calls Tryz.checked.prog 6 args W fun e W'=>∃v,e = .returned v∧((OpenSpec.ofChange Rows.fnDeedTextSpec).at F).post enc Tryz.checked.prog Tryz.f6 false true false false W args v W':=by
  intro W base args ds gs before hval hW hL hs
  exact Ie H enc W base args ds gs before hval hW hL hs
theorem IM (os : Os) (H : Type) (enc : TypeId × Value → H) : ∃ (w : World) (tape : Tape) (i : Input), w.os = os ∧ (w.forCall tape i).Shaped Tryz.checked.prog ∧ i.vars = [] ∧ Input.okWide Tryz.checked.prog (w.forCall tape i) .any w.heap.size 6 i ∧
      (OpenSpec.ofChange Rows.fnDeedTextSpec).preRow enc Tryz.checked.prog Tryz.f6 Rows.fnDeedTextRow.domain false Rows.fnDeedTextRow.laid (w.forCall tape i).memory i.args∧({}:Assume).holds Tryz.checked.prog (lone (Frame.enter Tryz.checked.prog 6 i.args .normal) [] (w.forCall tape i)) :=
  witness_row_at (enc:=enc) (C:=Tryz.checked) (fn:=Tryz.f6) (s:=OpenSpec.ofChange Rows.fnDeedTextSpec) (conds:=Rows.fnDeedTextRow.domain) (apart:=false) (laid:=Rows.fnDeedTextRow.laid) (f:=6) false (fq os) eE (ta os) (YY os) (Y0 os) (Y2 os) (Y1 os H enc)
theorem Lq (os:Os) (started:os.Started) (H:Type) (enc:TypeId×Value→H) (F:Stop.Interp) :
    ReturnsInHanded {} Tryz.checked os 6 .any ((OpenSpec.ofChange Rows.fnDeedTextSpec).preRow enc Tryz.checked.prog Tryz.f6 Rows.fnDeedTextRow.domain false Rows.fnDeedTextRow.laid) (((OpenSpec.ofChange Rows.fnDeedTextSpec).at F).post enc Tryz.checked.prog Tryz.f6 false true false false) :=
  returnsInHanded_of_row (C:=Tryz.checked) (s:=OpenSpec.ofChange Rows.fnDeedTextSpec) own started Lg Lu (IM os H enc) (fun W base args ds gs before hval hW _ _ _ hL hs _=>ND F H enc W base args ds gs before hval hW hL hs)

set_option maxHeartbeats 40000000 in
theorem LC:joinedFacts Tryz.prog 6 Tryz.f6 (OpenSpec.ofChange Rows.fnDeedTextSpec).bare Rows.fnDeedTextRow=true:=by
  unfold joinedFacts
  simp only[Bool.and_eq_true]
  and_intros
  all_goals (as_aux_lemma=>kernel_rfl)
theorem Q3:Tryz.f6.isInstance Tryz.prog Rows.fnDeedTextRow.origin Rows.fnDeedTextRow.targs:=of_decide_eq_true (by kernel_rfl)
theorem said6:Rows.FnDeedTextSaid :=
  OpenClaim.holds_of_cond 6 Tryz.f6 rfl rfl rfl rfl rfl rfl rfl ⟨rfl,rfl,rfl,rfl,rfl⟩ rfl rfl rfl rfl rfl (by as_aux_lemma=>kernel_rfl) Tryz.func6 LC
    Q3 (by unfold Func.isWrapper;first|(rw[if_pos (by decide +kernel)];kernel_rfl)|(rw[if_neg (by decide +kernel)];exact⟨rfl,rfl⟩))
    (fun os started H enc _ F=>by rw[OpenClaim.pre_eq_preRow];exact Lq os started H enc F)
end AM
end Go.Proofs.YtobpcllkonomlabGreatDoor
