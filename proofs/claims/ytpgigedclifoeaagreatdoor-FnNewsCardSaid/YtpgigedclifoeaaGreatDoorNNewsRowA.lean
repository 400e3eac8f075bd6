/- For all arguments the law FnNews returns true: the law holds, for all arguments. Under: the listed variables of the library hold what the program's text lays. -/
import Derived.Test.YtpgigedclifoeaaGreatDoorCards
import Derived.Test.YtpgigedclifoeaaGreatDoorTie
import Derived.Test.YtpgigedclifoeaaGreatDoorNP3
namespace Go.Proofs.YtpgigedclifoeaaGreatDoor
namespace AM
open Go.ChangeShapes Go.WideShapes Go.ChangeAt Go.RowKit
set_option linter.unusedVariables false

theorem Wd:Li Tryz.prog 6 Tryz.f5.params.toList=some [((.sl (.int .u8)),false)]:=by kernel_rfl

set_option maxRecDepth 100000 in
theorem Iz (H:Type) (enc:TypeId×Value→H) (W:World) (base:Nat) (args:Array Value) (ds gs:List (DataW H)) (before:List MemPlace)
    (hval:∀(j:Nat) t v,Tryz.f5.params[j]?=some t→args[j]?=some v→Value.okWide Tryz.prog W .any base t v)
    (hW:DataW.Whole enc Tryz.prog Tryz.f5.params.toList Rows.fnNewsSpec.vars false W args.toList ds gs before) (hL:laidMetH Tryz.prog Rows.fnNewsRow.laid W) (hs:W.ShapedOpen Tryz.prog) :
    Calls Tryz.prog 5 args W fun e W'=>∃v,e = .returned v∧Rows.fnNewsSpec.post enc Tryz.prog Tryz.f5 false true false false W args v W':=by
  have hG:ag W:=facts (show laidMet Tryz.prog t9 W from hL) hs
  have hW':=hW
  obtain⟨p,q,hA,hV,rfl,hfz,hnd⟩:=hW
  have hv':∀(j:Nat) t v,Tryz.f5.params.toList[j]?=some t→args.toList[j]?=some v→Value.okWide Tryz.prog W .any base t v:=fun j t v ht hv=>hval j t v (by rw[←Array.getElem?_toList];exact ht) (by rw[←Array.getElem?_toList];exact hv)
  obtain⟨al,h1,h2,h3⟩:=FZ Wd hA hv'
  have hp:al.map jy.par=(S5 0).pars:=by
    have:al.map jy.par=(al.map fun a=>(a.t,a.agg)).map fun p=>jy.par ⟨p.1,p.2,p.1.zero,undef⟩:=by rw[List.map_map];rfl
    rw[this,h1];rfl
  have hc:=Ie (P:=Tryz.prog) (K:=fN.of W) (f:=5) (pars:=(S5 0).pars) (g:=js) (fun n=>(ZS hG n).2) (fun x hx=>⟨N0,true,CR x hx,rfl⟩) (fun b _=>rfl) (fun b hb=>hb) hp h3
  rw[h2]at hc
  refine hc.mono fun e W' h=>?_
  obtain⟨rfl,hb⟩:=h
  exact⟨_,rfl,Kg (B:=4) rfl (fun l hl=>by
    match l,hl with
    |[d0],_=>rfl) (by kernel_rfl) (by kernel_rfl) FE (by kernel_rfl) hW' hb⟩

def eP:Array Value:=#[.slice none 0 0]
theorem If (os:Os):laidMet Tryz.prog Rows.fnNewsRow.laid ((fG os).forCall (fun _ _=>0) ⟨#[],eP,[]⟩).memory :=
  laidMet_of_run' 8 (by kernel_rfl) (by kernel_rfl)
theorem NY (os:Os){H:Type}(enc:TypeId×Value→H):∃places,DataW.whole enc Tryz.prog ((fG os).forCall (fun _ _=>0) ⟨#[],eP,[]⟩).memory Tryz.f5.params.toList Rows.fnNewsSpec.vars false eP.toList 8=some ([.nil],[],places) :=
  ⟨[],by kernel_rfl⟩

set_option maxRecDepth 100000
theorem ZI (os:Os):((fG os).forCall (fun _ _=>0) ⟨#[],eP,[]⟩).variablesB Tryz.prog=true:=by kernel_rfl
theorem ZK (os : Os) : ((((fG os).forCall (fun _ _ => 0) ⟨#[], eP, []⟩).heap.toList.drop Tryz.prog.globals.size).take ((begin Tryz.prog (fun _ _ => 0) default).world.heap.size - Tryz.prog.globals.size) =
      (begin Tryz.prog (fun _ _=>0) default).world.heap.toList.drop Tryz.prog.globals.size):=by kernel_rfl
theorem ZM (os:Os):Input.okWideB Tryz.prog ((fG os).forCall (fun _ _=>0) ⟨#[],eP,[]⟩) 5 ⟨#[],eP,[]⟩=true:=by kernel_rfl
theorem ZJ (os:Os){H:Type}(enc:TypeId×Value→H):(OpenSpec.ofChange Rows.fnNewsSpec).bare.sizedB enc Tryz.prog Tryz.f5 false ((fG os).forCall (fun _ _=>0) ⟨#[],eP,[]⟩).memory eP 8=true:=by kernel_rfl
theorem ZL (os:Os) (H:Type) (enc:TypeId×Value→H):(OpenSpec.ofChange Rows.fnNewsSpec).preRow enc Tryz.prog Tryz.f5 Rows.fnNewsRow.domain false Rows.fnNewsRow.laid ((fG os).forCall (fun _ _=>0) ⟨#[],eP,[]⟩).memory eP:=by
  obtain⟨places,hx⟩:=NY os enc
  exact OpenSpec.preRow_of_cond 8 hx (by kernel_rfl) (fun k hk=>by cases hk) (ZJ os enc) (If os)
theorem LC:Tryz.checked.prog.inits.idxOf? 5=none:=by kernel_rfl
theorem LU:Tryz.checked.prog.funcs[5]?=some Tryz.f5:=Tryz.func5
theorem Oi (F : Stop.Interp) (H : Type) (enc : TypeId × Value → H) : ∀ (W : World) (base : Nat) (args : Array Value) (ds gs : List (DataW H)) (before : List MemPlace),
      (∀(j:Nat) t v,Tryz.f5.params[j]?=some t→args[j]?=some v→Value.okWide Tryz.checked.prog W .any base t v) →
      DataW.Whole enc Tryz.checked.prog Tryz.f5.params.toList (OpenSpec.ofChange Rows.fnNewsSpec).vars false W args.toList ds gs before →
      laidMetH Tryz.checked.prog Rows.fnNewsRow.laid W→W.ShapedOpen Tryz.checked.prog →
      Calls Tryz.checked.prog 5 args W fun e W'=>∃v,e = .returned v∧((OpenSpec.ofChange Rows.fnNewsSpec).at F).post enc Tryz.checked.prog Tryz.f5 false true false false W args v W':=by
  intro W base args ds gs before hval hW hL hs
  exact Iz H enc W base args ds gs before hval hW hL hs
theorem I7 (os : Os) (H : Type) (enc : TypeId × Value → H) : ∃ (w : World) (tape : Tape) (i : Input), w.os = os ∧ (w.forCall tape i).Shaped Tryz.checked.prog ∧ i.vars = [] ∧ Input.okWide Tryz.checked.prog (w.forCall tape i) .any w.heap.size 5 i ∧
      (OpenSpec.ofChange Rows.fnNewsSpec).preRow enc Tryz.checked.prog Tryz.f5 Rows.fnNewsRow.domain false Rows.fnNewsRow.laid (w.forCall tape i).memory i.args∧({}:Assume).holds Tryz.checked.prog (lone (Frame.enter Tryz.checked.prog 5 i.args .normal) [] (w.forCall tape i)) :=
  witness_row_at (enc:=enc) (C:=Tryz.checked) (fn:=Tryz.f5) (s:=OpenSpec.ofChange Rows.fnNewsSpec) (conds:=Rows.fnNewsRow.domain) (apart:=false) (laid:=Rows.fnNewsRow.laid) (f:=5) false (fG os) eP (t8 os) (ZI os) (ZK os) (ZM os) (ZL os H enc)
theorem LP (os:Os) (started:os.Started) (H:Type) (enc:TypeId×Value→H) (F:Stop.Interp) :
    ReturnsInHanded {} Tryz.checked os 5 .any ((OpenSpec.ofChange Rows.fnNewsSpec).preRow enc Tryz.checked.prog Tryz.f5 Rows.fnNewsRow.domain false Rows.fnNewsRow.laid) (((OpenSpec.ofChange Rows.fnNewsSpec).at F).post enc Tryz.checked.prog Tryz.f5 false true false false) :=
  returnsInHanded_of_row (C:=Tryz.checked) (s:=OpenSpec.ofChange Rows.fnNewsSpec) own started LC LU (I7 os H enc) (fun W base args ds gs before hval hW _ _ _ hL hs _=>Oi F H enc W base args ds gs before hval hW hL hs)

set_option maxHeartbeats 40000000 in
theorem L4:joinedFacts Tryz.prog 5 Tryz.f5 (OpenSpec.ofChange Rows.fnNewsSpec).bare Rows.fnNewsRow=true:=by
  unfold joinedFacts
  simp only[Bool.and_eq_true]
  and_intros
  all_goals (as_aux_lemma=>kernel_rfl)
theorem Rs:Tryz.f5.isInstance Tryz.prog Rows.fnNewsRow.origin Rows.fnNewsRow.targs:=of_decide_eq_true (by kernel_rfl)
theorem said5:Rows.FnNewsSaid :=
  OpenClaim.holds_of_cond 5 Tryz.f5 rfl rfl rfl rfl rfl rfl rfl ⟨rfl,rfl,rfl,rfl,rfl⟩ rfl rfl rfl rfl rfl (by as_aux_lemma=>kernel_rfl) Tryz.func5 L4
    Rs (by unfold Func.isWrapper;first|(rw[if_pos (by decide +kernel)];kernel_rfl)|(rw[if_neg (by decide +kernel)];exact⟨rfl,rfl⟩))
    (fun os started H enc _ F=>by rw[OpenClaim.pre_eq_preRow];exact LP os started H enc F)
end AM
end Go.Proofs.YtpgigedclifoeaaGreatDoor
