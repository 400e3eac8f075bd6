/- For all arguments the law FnJudges returns true: the law holds, for all arguments. Under: the listed variables of the library hold what the program's text lays. -/
import Derived.Test.YtpgigedclifoeaaGreatDoorCards
import Derived.Test.YtpgigedclifoeaaGreatDoorTie
import Derived.Test.YtpgigedclifoeaaGreatDoorJP3
namespace Go.Proofs.YtpgigedclifoeaaGreatDoor
namespace AM
open Go.ChangeShapes Go.WideShapes Go.ChangeAt Go.RowKit
set_option linter.unusedVariables false

theorem ads:Qv Tryz.prog 6 Tryz.f4.params.toList=some [((.sl (.int .u8)),false)]:=by kernel_rfl

set_option maxRecDepth 100000 in
theorem Ni (H:Type) (enc:TypeId×Value→H) (W:World) (base:Nat) (args:Array Value) (ds gs:List (DataW H)) (before:List MemPlace)
    (hval:∀(j:Nat) t v,Tryz.f4.params[j]?=some t→args[j]?=some v→Value.okWide Tryz.prog W .any base t v)
    (hW:DataW.Whole enc Tryz.prog Tryz.f4.params.toList Rows.fnJudgesSpec.vars false W args.toList ds gs before) (hL:laidMetH Tryz.prog Rows.fnJudgesRow.laid W) (hs:W.ShapedOpen Tryz.prog) :
    Calls Tryz.prog 4 args W fun e W'=>∃v,e = .returned v∧Rows.fnJudgesSpec.post enc Tryz.prog Tryz.f4 false true false false W args v W':=by
  have hG:af W:=facts (show laidMet Tryz.prog xS W from hL) hs
  have hW':=hW
  obtain⟨p,q,hA,hV,rfl,hfz,hnd⟩:=hW
  have hv':∀(j:Nat) t v,Tryz.f4.params.toList[j]?=some t→args.toList[j]?=some v→Value.okWide Tryz.prog W .any base t v:=fun j t v ht hv=>hval j t v (by rw[←Array.getElem?_toList];exact ht) (by rw[←Array.getElem?_toList];exact hv)
  obtain⟨al,h1,h2,h3⟩:=LD ads hA hv'
  have hp:al.map lU.par=(S4 0).pars:=by
    have:al.map lU.par=(al.map fun a=>(a.t,a.agg)).map fun p=>lU.par ⟨p.1,p.2,p.1.zero,undef⟩:=by rw[List.map_map];rfl
    rw[this,h1];rfl
  have hc:=MV (P:=Tryz.prog) (K:=fE.of W) (f:=4) (pars:=(S4 0).pars) (g:=i9) (fun n=>(ob4 hG n).2) (fun x hx=>⟨N0,true,C7 x hx,rfl⟩) (fun b _=>rfl) (fun b hb=>hb) hp h3
  rw[h2]at hc
  refine hc.mono fun e W' h=>?_
  obtain⟨rfl,hb⟩:=h
  exact⟨_,rfl,O9 (B:=4) rfl (fun l hl=>by
    match l,hl with
    |[d0],_=>rfl) (by kernel_rfl) (by kernel_rfl) Ld (by kernel_rfl) hW' hb⟩

def gB:Array Value:=#[.slice none 0 0]
theorem MW (os:Os):laidMet Tryz.prog Rows.fnJudgesRow.laid ((iu os).forCall (fun _ _=>0) ⟨#[],gB,[]⟩).memory :=
  laidMet_of_run' 8 (by kernel_rfl) (by kernel_rfl)
theorem TR (os:Os){H:Type}(enc:TypeId×Value→H):∃places,DataW.whole enc Tryz.prog ((iu os).forCall (fun _ _=>0) ⟨#[],gB,[]⟩).memory Tryz.f4.params.toList Rows.fnJudgesSpec.vars false gB.toList 8=some ([.nil],[],places) :=
  ⟨[],by kernel_rfl⟩

set_option maxRecDepth 100000
theorem wv4 (os:Os):((iu os).forCall (fun _ _=>0) ⟨#[],gB,[]⟩).variablesB Tryz.prog=true:=by kernel_rfl
theorem wr4 (os : Os) : ((((iu os).forCall (fun _ _ => 0) ⟨#[], gB, []⟩).heap.toList.drop Tryz.prog.globals.size).take ((begin Tryz.prog (fun _ _ => 0) default).world.heap.size - Tryz.prog.globals.size) =
      (begin Tryz.prog (fun _ _=>0) default).world.heap.toList.drop Tryz.prog.globals.size):=by kernel_rfl
theorem wo4 (os:Os):Input.okWideB Tryz.prog ((iu os).forCall (fun _ _=>0) ⟨#[],gB,[]⟩) 4 ⟨#[],gB,[]⟩=true:=by kernel_rfl
theorem ws4 (os:Os){H:Type}(enc:TypeId×Value→H):(OpenSpec.ofChange Rows.fnJudgesSpec).bare.sizedB enc Tryz.prog Tryz.f4 false ((iu os).forCall (fun _ _=>0) ⟨#[],gB,[]⟩).memory gB 8=true:=by kernel_rfl
theorem wp4 (os:Os) (H:Type) (enc:TypeId×Value→H):(OpenSpec.ofChange Rows.fnJudgesSpec).preRow enc Tryz.prog Tryz.f4 Rows.fnJudgesRow.domain false Rows.fnJudgesRow.laid ((iu os).forCall (fun _ _=>0) ⟨#[],gB,[]⟩).memory gB:=by
  obtain⟨places,hx⟩:=TR os enc
  exact OpenSpec.preRow_of_cond 8 hx (by kernel_rfl) (fun k hk=>by cases hk) (ws4 os enc) (MW os)
theorem QT:Tryz.checked.prog.inits.idxOf? 4=none:=by kernel_rfl
theorem Ra:Tryz.checked.prog.funcs[4]?=some Tryz.f4:=Tryz.func4
theorem Uk (F : Stop.Interp) (H : Type) (enc : TypeId × Value → H) : ∀ (W : World) (base : Nat) (args : Array Value) (ds gs : List (DataW H)) (before : List MemPlace),
      (∀(j:Nat) t v,Tryz.f4.params[j]?=some t→args[j]?=some v→Value.okWide Tryz.checked.prog W .any base t v) →
      DataW.Whole enc Tryz.checked.prog Tryz.f4.params.toList (OpenSpec.ofChange Rows.fnJudgesSpec).vars false W args.toList ds gs before →
      laidMetH Tryz.checked.prog Rows.fnJudgesRow.laid W→W.ShapedOpen Tryz.checked.prog →
      Calls Tryz.checked.prog 4 args W fun e W'=>∃v,e = .returned v∧((OpenSpec.ofChange Rows.fnJudgesSpec).at F).post enc Tryz.checked.prog Tryz.f4 false true false false W args v W':=by
  intro W base args ds gs before hval hW hL hs
  exact Ni H enc W base args ds gs before hval hW hL hs
theorem NP (os : Os) (H : Type) (enc : TypeId × Value → H) : ∃ (w : World) (tape : Tape) (i : Input), w.os = os ∧ (w.forCall tape i).Shaped Tryz.checked.prog ∧ i.vars = [] ∧ Input.okWide Tryz.checked.prog (w.forCall tape i) .any w.heap.size 4 i ∧
      (OpenSpec.ofChange Rows.fnJudgesSpec).preRow enc Tryz.checked.prog Tryz.f4 Rows.fnJudgesRow.domain false Rows.fnJudgesRow.laid (w.forCall tape i).memory i.args∧({}:Assume).holds Tryz.checked.prog (lone (Frame.enter Tryz.checked.prog 4 i.args .normal) [] (w.forCall tape i)) :=
  witness_row_at (enc:=enc) (C:=Tryz.checked) (fn:=Tryz.f4) (s:=OpenSpec.ofChange Rows.fnJudgesSpec) (conds:=Rows.fnJudgesRow.domain) (apart:=false) (laid:=Rows.fnJudgesRow.laid) (f:=4) false (iu os) gB (xR os) (wv4 os) (wr4 os) (wo4 os) (wp4 os H enc)
theorem Q6 (os:Os) (started:os.Started) (H:Type) (enc:TypeId×Value→H) (F:Stop.Interp) :
    ReturnsInHanded {} Tryz.checked os 4 .any ((OpenSpec.ofChange Rows.fnJudgesSpec).preRow enc Tryz.checked.prog Tryz.f4 Rows.fnJudgesRow.domain false Rows.fnJudgesRow.laid) (((OpenSpec.ofChange Rows.fnJudgesSpec).at F).post enc Tryz.checked.prog Tryz.f4 false true false false) :=
  returnsInHanded_of_row (C:=Tryz.checked) (s:=OpenSpec.ofChange Rows.fnJudgesSpec) own started QT Ra (NP os H enc) (fun W base args ds gs before hval hW _ _ _ hL hs _=>Uk F H enc W base args ds gs before hval hW hL hs)

set_option maxHeartbeats 40000000 in
theorem Ri:joinedFacts Tryz.prog 4 Tryz.f4 (OpenSpec.ofChange Rows.fnJudgesSpec).bare Rows.fnJudgesRow=true:=by
  unfold joinedFacts
  simp only[Bool.and_eq_true]
  and_intros
  all_goals (as_aux_lemma=>kernel_rfl)
theorem XP:Tryz.f4.isInstance Tryz.prog Rows.fnJudgesRow.origin Rows.fnJudgesRow.targs:=of_decide_eq_true (by kernel_rfl)
theorem said4:Rows.FnJudgesSaid :=
  OpenClaim.holds_of_cond 4 Tryz.f4 rfl rfl rfl rfl rfl rfl rfl ⟨rfl,rfl,rfl,rfl,rfl⟩ rfl rfl rfl rfl rfl (by as_aux_lemma=>kernel_rfl) Tryz.func4 Ri
    XP (by unfold Func.isWrapper;first|(rw[if_pos (by decide +kernel)];kernel_rfl)|(rw[if_neg (by decide +kernel)];exact⟨rfl,rfl⟩))
    (fun os started H enc _ F=>by rw[OpenClaim.pre_eq_preRow];exact Q6 os started H enc F)
end AM
end Go.Proofs.YtpgigedclifoeaaGreatDoor
