/- For all arguments the law FnPartners returns true: the law holds, for all arguments. Under: the listed variables of the library hold what the program's text lays. -/
import Derived.Test.YtpgigedclifoeaaGreatDoorCards
import Derived.Test.YtpgigedclifoeaaGreatDoorTie
import Derived.Test.YtpgigedclifoeaaGreatDoorPP3
namespace Go.Proofs.YtpgigedclifoeaaGreatDoor
namespace AM
open Go.ChangeShapes Go.WideShapes Go.ChangeAt Go.RowKit
set_option linter.unusedVariables false

theorem Yx:MB Tryz.prog 6 Tryz.f6.params.toList=some [((.sl (.int .u8)),false)]:=by kernel_rfl

set_option maxRecDepth 100000 in
theorem JG (H:Type) (enc:TypeId×Value→H) (W:World) (base:Nat) (args:Array Value) (ds gs:List (DataW H)) (before:List MemPlace)
    (hval:∀(j:Nat) t v,Tryz.f6.params[j]?=some t→args[j]?=some v→Value.okWide Tryz.prog W .any base t v)
    (hW:DataW.Whole enc Tryz.prog Tryz.f6.params.toList Rows.fnPartnersSpec.vars false W args.toList ds gs before) (hL:laidMetH Tryz.prog Rows.fnPartnersRow.laid W) (hs:W.ShapedOpen Tryz.prog) :
    Calls Tryz.prog 6 args W fun e W'=>∃v,e = .returned v∧Rows.fnPartnersSpec.post enc Tryz.prog Tryz.f6 false true false false W args v W':=by
  have hG:af W:=facts (show laidMet Tryz.prog uZ W from hL) hs
  have hW':=hW
  obtain⟨p,q,hA,hV,rfl,hfz,hnd⟩:=hW
  have hv':∀(j:Nat) t v,Tryz.f6.params.toList[j]?=some t→args.toList[j]?=some v→Value.okWide Tryz.prog W .any base t v:=fun j t v ht hv=>hval j t v (by rw[←Array.getElem?_toList];exact ht) (by rw[←Array.getElem?_toList];exact hv)
  obtain⟨al,h1,h2,h3⟩:=GV Yx hA hv'
  have hp:al.map kj.par=(S6 0).pars:=by
    have:al.map kj.par=(al.map fun a=>(a.t,a.agg)).map fun p=>kj.par ⟨p.1,p.2,p.1.zero,undef⟩:=by rw[List.map_map];rfl
    rw[this,h1];rfl
  have hc:=Jj (P:=Tryz.prog) (K:=fQ.of W) (f:=6) (pars:=(S6 0).pars) (g:=fw) (fun n=>(ob6 hG n).2) (fun x hx=>⟨N0,true,xQ x hx,rfl⟩) (fun b _=>rfl) (fun b hb=>hb) hp h3
  rw[h2]at hc
  refine hc.mono fun e W' h=>?_
  obtain⟨rfl,hb⟩:=h
  exact⟨_,rfl,Lm (B:=4) rfl (fun l hl=>by
    match l,hl with
    |[d0],_=>rfl) (by kernel_rfl) (by kernel_rfl) Gz (by kernel_rfl) hW' hb⟩

def fq:Array Value:=#[.slice none 0 0]
theorem Jk (os:Os):laidMet Tryz.prog Rows.fnPartnersRow.laid ((gg os).forCall (fun _ _=>0) ⟨#[],fq,[]⟩).memory :=
  laidMet_of_run' 8 (by kernel_rfl) (by kernel_rfl)
theorem PF (os:Os){H:Type}(enc:TypeId×Value→H):∃places,DataW.whole enc Tryz.prog ((gg os).forCall (fun _ _=>0) ⟨#[],fq,[]⟩).memory Tryz.f6.params.toList Rows.fnPartnersSpec.vars false fq.toList 8=some ([.nil],[],places) :=
  ⟨[],by kernel_rfl⟩

set_option maxRecDepth 100000
theorem wv6 (os:Os):((gg os).forCall (fun _ _=>0) ⟨#[],fq,[]⟩).variablesB Tryz.prog=true:=by kernel_rfl
theorem wr6 (os : Os) : ((((gg os).forCall (fun _ _ => 0) ⟨#[], fq, []⟩).heap.toList.drop Tryz.prog.globals.size).take ((begin Tryz.prog (fun _ _ => 0) default).world.heap.size - Tryz.prog.globals.size) =
      (begin Tryz.prog (fun _ _=>0) default).world.heap.toList.drop Tryz.prog.globals.size):=by kernel_rfl
theorem wo6 (os:Os):Input.okWideB Tryz.prog ((gg os).forCall (fun _ _=>0) ⟨#[],fq,[]⟩) 6 ⟨#[],fq,[]⟩=true:=by kernel_rfl
theorem ws6 (os:Os){H:Type}(enc:TypeId×Value→H):(OpenSpec.ofChange Rows.fnPartnersSpec).bare.sizedB enc Tryz.prog Tryz.f6 false ((gg os).forCall (fun _ _=>0) ⟨#[],fq,[]⟩).memory fq 8=true:=by kernel_rfl
theorem wp6 (os:Os) (H:Type) (enc:TypeId×Value→H):(OpenSpec.ofChange Rows.fnPartnersSpec).preRow enc Tryz.prog Tryz.f6 Rows.fnPartnersRow.domain false Rows.fnPartnersRow.laid ((gg os).forCall (fun _ _=>0) ⟨#[],fq,[]⟩).memory fq:=by
  obtain⟨places,hx⟩:=PF os enc
  exact OpenSpec.preRow_of_cond 8 hx (by kernel_rfl) (fun k hk=>by cases hk) (ws6 os enc) (Jk os)
theorem MY:Tryz.checked.prog.inits.idxOf? 6=none:=by kernel_rfl
theorem Nf:Tryz.checked.prog.funcs[6]?=some Tryz.f6:=Tryz.func6
theorem P5 (F : Stop.Interp) (H : Type) (enc : TypeId × Value → H) : ∀ (W : World) (base : Nat) (args : Array Value) (ds gs : List (DataW H)) (before : List MemPlace),
      (∀(j:Nat) t v,Tryz.f6.params[j]?=some t→args[j]?=some v→Value.okWide Tryz.checked.prog W .any base t v) →
      DataW.Whole enc Tryz.checked.prog Tryz.f6.params.toList (OpenSpec.ofChange Rows.fnPartnersSpec).vars false W args.toList ds gs before →
      laidMetH Tryz.checked.prog Rows.fnPartnersRow.laid W→W.ShapedOpen Tryz.checked.prog →
      Calls Tryz.checked.prog 6 args W fun e W'=>∃v,e = .returned v∧((OpenSpec.ofChange Rows.fnPartnersSpec).at F).post enc Tryz.checked.prog Tryz.f6 false true false false W args v W':=by
  intro W base args ds gs before hval hW hL hs
  exact JG H enc W base args ds gs before hval hW hL hs
theorem Kc (os : Os) (H : Type) (enc : TypeId × Value → H) : ∃ (w : World) (tape : Tape) (i : Input), w.os = os ∧ (w.forCall tape i).Shaped Tryz.checked.prog ∧ i.vars = [] ∧ Input.okWide Tryz.checked.prog (w.forCall tape i) .any w.heap.size 6 i ∧
      (OpenSpec.ofChange Rows.fnPartnersSpec).preRow enc Tryz.checked.prog Tryz.f6 Rows.fnPartnersRow.domain false Rows.fnPartnersRow.laid (w.forCall tape i).memory i.args∧({}:Assume).holds Tryz.checked.prog (lone (Frame.enter Tryz.checked.prog 6 i.args .normal) [] (w.forCall tape i)) :=
  witness_row_at (enc:=enc) (C:=Tryz.checked) (fn:=Tryz.f6) (s:=OpenSpec.ofChange Rows.fnPartnersSpec) (conds:=Rows.fnPartnersRow.domain) (apart:=false) (laid:=Rows.fnPartnersRow.laid) (f:=6) false (gg os) fq (uY os) (wv6 os) (wr6 os) (wo6 os) (wp6 os H enc)
theorem Na (os:Os) (started:os.Started) (H:Type) (enc:TypeId×Value→H) (F:Stop.Interp) :
    ReturnsInHanded {} Tryz.checked os 6 .any ((OpenSpec.ofChange Rows.fnPartnersSpec).preRow enc Tryz.checked.prog Tryz.f6 Rows.fnPartnersRow.domain false Rows.fnPartnersRow.laid) (((OpenSpec.ofChange Rows.fnPartnersSpec).at F).post enc Tryz.checked.prog Tryz.f6 false true false false) :=
  returnsInHanded_of_row (C:=Tryz.checked) (s:=OpenSpec.ofChange Rows.fnPartnersSpec) own started MY Nf (Kc os H enc) (fun W base args ds gs before hval hW _ _ _ hL hs _=>P5 F H enc W base args ds gs before hval hW hL hs)

set_option maxHeartbeats 40000000 in
theorem Nn:joinedFacts Tryz.prog 6 Tryz.f6 (OpenSpec.ofChange Rows.fnPartnersSpec).bare Rows.fnPartnersRow=true:=by
  unfold joinedFacts
  simp only[Bool.and_eq_true]
  and_intros
  all_goals (as_aux_lemma=>kernel_rfl)
theorem Tj:Tryz.f6.isInstance Tryz.prog Rows.fnPartnersRow.origin Rows.fnPartnersRow.targs:=of_decide_eq_true (by kernel_rfl)
theorem said6:Rows.FnPartnersSaid :=
  OpenClaim.holds_of_cond 6 Tryz.f6 rfl rfl rfl rfl rfl rfl rfl ⟨rfl,rfl,rfl,rfl,rfl⟩ rfl rfl rfl rfl rfl (by as_aux_lemma=>kernel_rfl) Tryz.func6 Nn
    Tj (by unfold Func.isWrapper;first|(rw[if_pos (by decide +kernel)];kernel_rfl)|(rw[if_neg (by decide +kernel)];exact⟨rfl,rfl⟩))
    (fun os started H enc _ F=>by rw[OpenClaim.pre_eq_preRow];exact Na os started H enc F)
end AM
end Go.Proofs.YtpgigedclifoeaaGreatDoor
