/- For all arguments the law FnClaims returns true: the law holds, for all arguments. Under: the listed variables of the library hold what the program's text lays. -/
import Derived.Test.YtpgigedclifoeaaGreatDoorCards
import Derived.Test.YtpgigedclifoeaaGreatDoorTie
import Derived.Test.YtpgigedclifoeaaGreatDoorCP3
namespace Go.Proofs.YtpgigedclifoeaaGreatDoor
namespace AM
open Go.ChangeShapes Go.WideShapes Go.ChangeAt Go.RowKit
set_option linter.unusedVariables false

theorem WR:Ly Tryz.prog 6 Tryz.f3.params.toList=some [((.sl (.int .u8)),false)]:=by kernel_rfl

set_option maxRecDepth 100000 in
theorem IR (H:Type) (enc:TypeId×Value→H) (W:World) (base:Nat) (args:Array Value) (ds gs:List (DataW H)) (before:List MemPlace)
    (hval:∀(j:Nat) t v,Tryz.f3.params[j]?=some t→args[j]?=some v→Value.okWide Tryz.prog W .any base t v)
    (hW:DataW.Whole enc Tryz.prog Tryz.f3.params.toList Rows.fnClaimsSpec.vars false W args.toList ds gs before) (hL:laidMetH Tryz.prog Rows.fnClaimsRow.laid W) (hs:W.ShapedOpen Tryz.prog) :
    Calls Tryz.prog 3 args W fun e W'=>∃v,e = .returned v∧Rows.fnClaimsSpec.post enc Tryz.prog Tryz.f3 false true false false W args v W':=by
  have hG:ae W:=facts (show laidMet Tryz.prog uy W from hL) hs
  have hW':=hW
  obtain⟨p,q,hA,hV,rfl,hfz,hnd⟩:=hW
  have hv':∀(j:Nat) t v,Tryz.f3.params.toList[j]?=some t→args.toList[j]?=some v→Value.okWide Tryz.prog W .any base t v:=fun j t v ht hv=>hval j t v (by rw[←Array.getElem?_toList];exact ht) (by rw[←Array.getElem?_toList];exact hv)
  obtain⟨al,h1,h2,h3⟩:=Gc WR hA hv'
  have hp:al.map j8.par=(S3 0).pars:=by
    have:al.map j8.par=(al.map fun a=>(a.t,a.agg)).map fun p=>j8.par ⟨p.1,p.2,p.1.zero,undef⟩:=by rw[List.map_map];rfl
    rw[this,h1];rfl
  have hc:=Iu (P:=Tryz.prog) (K:=gb.of W) (f:=3) (pars:=(S3 0).pars) (g:=gN) (fun n=>(ob3 hG n).2) (fun x hx=>⟨N0,true,zv x hx,rfl⟩) (fun b _=>rfl) (fun b hb=>hb) hp h3
  rw[h2]at hc
  refine hc.mono fun e W' h=>?_
  obtain⟨rfl,hb⟩:=h
  exact⟨_,rfl,Ku (B:=4) rfl (fun l hl=>by
    match l,hl with
    |[d0],_=>rfl) (by kernel_rfl) (by kernel_rfl) FR (by kernel_rfl) hW' hb⟩

def eX:Array Value:=#[.slice none 0 0]
theorem Iv (os:Os):laidMet Tryz.prog Rows.fnClaimsRow.laid ((fS os).forCall (fun _ _=>0) ⟨#[],eX,[]⟩).memory :=
  laidMet_of_run' 8 (by kernel_rfl) (by kernel_rfl)
theorem Ok (os:Os){H:Type}(enc:TypeId×Value→H):∃places,DataW.whole enc Tryz.prog ((fS os).forCall (fun _ _=>0) ⟨#[],eX,[]⟩).memory Tryz.f3.params.toList Rows.fnClaimsSpec.vars false eX.toList 8=some ([.nil],[],places) :=
  ⟨[],by kernel_rfl⟩

set_option maxRecDepth 100000
theorem wv3 (os:Os):((fS os).forCall (fun _ _=>0) ⟨#[],eX,[]⟩).variablesB Tryz.prog=true:=by kernel_rfl
theorem wr3 (os : Os) : ((((fS os).forCall (fun _ _ => 0) ⟨#[], eX, []⟩).heap.toList.drop Tryz.prog.globals.size).take ((begin Tryz.prog (fun _ _ => 0) default).world.heap.size - Tryz.prog.globals.size) =
      (begin Tryz.prog (fun _ _=>0) default).world.heap.toList.drop Tryz.prog.globals.size):=by kernel_rfl
theorem wo3 (os:Os):Input.okWideB Tryz.prog ((fS os).forCall (fun _ _=>0) ⟨#[],eX,[]⟩) 3 ⟨#[],eX,[]⟩=true:=by kernel_rfl
theorem ws3 (os:Os){H:Type}(enc:TypeId×Value→H):(OpenSpec.ofChange Rows.fnClaimsSpec).bare.sizedB enc Tryz.prog Tryz.f3 false ((fS os).forCall (fun _ _=>0) ⟨#[],eX,[]⟩).memory eX 8=true:=by kernel_rfl
theorem wp3 (os:Os) (H:Type) (enc:TypeId×Value→H):(OpenSpec.ofChange Rows.fnClaimsSpec).preRow enc Tryz.prog Tryz.f3 Rows.fnClaimsRow.domain false Rows.fnClaimsRow.laid ((fS os).forCall (fun _ _=>0) ⟨#[],eX,[]⟩).memory eX:=by
  obtain⟨places,hx⟩:=Ok os enc
  exact OpenSpec.preRow_of_cond 8 hx (by kernel_rfl) (fun k hk=>by cases hk) (ws3 os enc) (Iv os)
theorem LV:Tryz.checked.prog.inits.idxOf? 3=none:=by kernel_rfl
theorem Me:Tryz.checked.prog.funcs[3]?=some Tryz.f3:=Tryz.func3
theorem OG (F : Stop.Interp) (H : Type) (enc : TypeId × Value → H) : ∀ (W : World) (base : Nat) (args : Array Value) (ds gs : List (DataW H)) (before : List MemPlace),
      (∀(j:Nat) t v,Tryz.f3.params[j]?=some t→args[j]?=some v→Value.okWide Tryz.checked.prog W .any base t v) →
      DataW.Whole enc Tryz.checked.prog Tryz.f3.params.toList (OpenSpec.ofChange Rows.fnClaimsSpec).vars false W args.toList ds gs before →
      laidMetH Tryz.checked.prog Rows.fnClaimsRow.laid W→W.ShapedOpen Tryz.checked.prog →
      Calls Tryz.checked.prog 3 args W fun e W'=>∃v,e = .returned v∧((OpenSpec.ofChange Rows.fnClaimsSpec).at F).post enc Tryz.checked.prog Tryz.f3 false true false false W args v W':=by
  intro W base args ds gs before hval hW hL hs
  exact IR H enc W base args ds gs before hval hW hL hs
theorem Jo (os : Os) (H : Type) (enc : TypeId × Value → H) : ∃ (w : World) (tape : Tape) (i : Input), w.os = os ∧ (w.forCall tape i).Shaped Tryz.checked.prog ∧ i.vars = [] ∧ Input.okWide Tryz.checked.prog (w.forCall tape i) .any w.heap.size 3 i ∧
      (OpenSpec.ofChange Rows.fnClaimsSpec).preRow enc Tryz.checked.prog Tryz.f3 Rows.fnClaimsRow.domain false Rows.fnClaimsRow.laid (w.forCall tape i).memory i.args∧({}:Assume).holds Tryz.checked.prog (lone (Frame.enter Tryz.checked.prog 3 i.args .normal) [] (w.forCall tape i)) :=
  witness_row_at (enc:=enc) (C:=Tryz.checked) (fn:=Tryz.f3) (s:=OpenSpec.ofChange Rows.fnClaimsSpec) (conds:=Rows.fnClaimsRow.domain) (apart:=false) (laid:=Rows.fnClaimsRow.laid) (f:=3) false (fS os) eX (ux os) (wv3 os) (wr3 os) (wo3 os) (wp3 os H enc)
theorem Ma (os:Os) (started:os.Started) (H:Type) (enc:TypeId×Value→H) (F:Stop.Interp) :
    ReturnsInHanded {} Tryz.checked os 3 .any ((OpenSpec.ofChange Rows.fnClaimsSpec).preRow enc Tryz.checked.prog Tryz.f3 Rows.fnClaimsRow.domain false Rows.fnClaimsRow.laid) (((OpenSpec.ofChange Rows.fnClaimsSpec).at F).post enc Tryz.checked.prog Tryz.f3 false true false false) :=
  returnsInHanded_of_row (C:=Tryz.checked) (s:=OpenSpec.ofChange Rows.fnClaimsSpec) own started LV Me (Jo os H enc) (fun W base args ds gs before hval hW _ _ _ hL hs _=>OG F H enc W base args ds gs before hval hW hL hs)

set_option maxHeartbeats 40000000 in
theorem Ml:joinedFacts Tryz.prog 3 Tryz.f3 (OpenSpec.ofChange Rows.fnClaimsSpec).bare Rows.fnClaimsRow=true:=by
  unfold joinedFacts
  simp only[Bool.and_eq_true]
  and_intros
  all_goals (as_aux_lemma=>kernel_rfl)
theorem RY:Tryz.f3.isInstance Tryz.prog Rows.fnClaimsRow.origin Rows.fnClaimsRow.targs:=of_decide_eq_true (by kernel_rfl)
theorem said3:Rows.FnClaimsSaid :=
  OpenClaim.holds_of_cond 3 Tryz.f3 rfl rfl rfl rfl rfl rfl rfl ⟨rfl,rfl,rfl,rfl,rfl⟩ rfl rfl rfl rfl rfl (by as_aux_lemma=>kernel_rfl) Tryz.func3 Ml
    RY (by unfold Func.isWrapper;first|(rw[if_pos (by decide +kernel)];kernel_rfl)|(rw[if_neg (by decide +kernel)];exact⟨rfl,rfl⟩))
    (fun os started H enc _ F=>by rw[OpenClaim.pre_eq_preRow];exact Ma os started H enc F)
end AM
end Go.Proofs.YtpgigedclifoeaaGreatDoor
