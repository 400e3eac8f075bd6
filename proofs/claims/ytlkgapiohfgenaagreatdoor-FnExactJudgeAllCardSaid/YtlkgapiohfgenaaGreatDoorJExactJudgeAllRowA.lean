/- For all arguments the law FnExactJudgeAll returns true: the program's JudgeAll returns what the reference's returns, for all arguments. Under: the listed variables of the library hold what the program's text lays. -/
import Derived.Test.YtlkgapiohfgenaaGreatDoorCards
import Derived.Test.YtlkgapiohfgenaaGreatDoorTie
import Derived.Test.YtlkgapiohfgenaaGreatDoorJP3
import Derived.Test.YtlkgapiohfgenaaGreatDoorJP2
namespace Go.Proofs.YtlkgapiohfgenaaGreatDoor
namespace AM
open Go.ChangeShapes Go.WideShapes Go.ChangeAt Go.RowKit
set_option linter.unusedVariables false

theorem Rb:IW Tryz.prog 6 Tryz.f3.params.toList=some [((.pr (.sl (.pr (.int .i64) (.pr (.int .i64) (.int .i64)))) (.pr (.sl (.int .i64)) (.pr (.sl (.pr (.int .i64) (.pr (.int .i64) (.pr (.int .i64) (.pr (.int .i64) (.pr (.int .i64) (.pr (.sl (.int .i64)) (.pr (.bool) (.pr (.bool) (.int .i64)))))))))) (.pr (.int .i64) (.pr (.sl (.int .i64)) (.pr (.sl (.int .i64)) (.sl (.pr (.int .i64) (.pr .bool .bool))))))))),true)]:=by kernel_rfl

set_option maxRecDepth 100000 in
theorem Fx (H:Type) (enc:TypeId×Value→H) (W:World) (base:Nat) (args:Array Value) (ds gs:List (DataW H)) (before:List MemPlace)
    (hval:∀(j:Nat) t v,Tryz.f3.params[j]?=some t→args[j]?=some v→Value.okWide Tryz.prog W .any base t v)
    (hW:DataW.Whole enc Tryz.prog Tryz.f3.params.toList Rows.fnExactJudgeAllSpec.vars false W args.toList ds gs before) (hL:laidMetH Tryz.prog Rows.fnExactJudgeAllRow.laid W) (hs:W.ShapedOpen Tryz.prog) :
    Calls Tryz.prog 3 args W fun e W'=>∃v,e = .returned v∧Rows.fnExactJudgeAllSpec.post enc Tryz.prog Tryz.f3 false true false false W args v W':=by
  have hG:ae W:=facts (show laidMet Tryz.prog sZ W from hL) hs
  have hW':=hW
  obtain⟨p,q,hA,hV,rfl,hfz,hnd⟩:=hW
  have hv':∀(j:Nat) t v,Tryz.f3.params.toList[j]?=some t→args.toList[j]?=some v→Value.okWide Tryz.prog W .any base t v:=fun j t v ht hv=>hval j t v (by rw[←Array.getElem?_toList];exact ht) (by rw[←Array.getElem?_toList];exact hv)
  obtain⟨al,h1,h2,h3⟩:=Ef Rb hA hv'
  have hp:al.map jo.par=(S3 0).pars:=by
    have:al.map jo.par=(al.map fun a=>(a.t,a.agg)).map fun p=>jo.par ⟨p.1,p.2,p.1.zero,undef⟩:=by rw[List.map_map];rfl
    rw[this,h1];rfl
  have hc:=Ff (P:=Tryz.prog) (K:=eB.of W) (f:=3) (pars:=(S3 0).pars) (g:=cV) (fun n=>(Yp hG n).2) (fun x hx=>⟨N0,true,vz x hx,rfl⟩) (fun b _=>rfl) (fun b hb=>hb) hp h3
  rw[h2]at hc
  refine hc.mono fun e W' h=>?_
  obtain⟨rfl,hb⟩:=h
  exact⟨_,rfl,GN (B:=4) rfl (fun l hl=>by
    match l,hl with
    |[d0],_=>rfl) (by kernel_rfl) (by kernel_rfl) DT (by kernel_rfl) hW' hb⟩

def eO:Array Value:=#[.agg #[.slice none 0 0, .slice none 0 0, .slice none 0 0, .int .i64 0, .slice none 0 0, .slice none 0 0, .slice none 0 0]]
theorem Fh (os:Os):laidMet Tryz.prog Rows.fnExactJudgeAllRow.laid ((fE os).forCall (fun _ _=>0) ⟨#[],eO,[]⟩).memory :=
  laidMet_of_run' 8 (by kernel_rfl) (by kernel_rfl)
theorem KQ (os:Os){H:Type}(enc:TypeId×Value→H):∃places,DataW.whole enc Tryz.prog ((fE os).forCall (fun _ _=>0) ⟨#[],eO,[]⟩).memory Tryz.f3.params.toList Rows.fnExactJudgeAllSpec.vars false eO.toList 8=some ([.agg [.agg [.nil], .nil, .nil, .lit (.int .i64 0), .nil, .nil, .nil]],[],places) :=
  ⟨[],by kernel_rfl⟩

set_option maxRecDepth 100000
theorem Yc (os:Os):((fE os).forCall (fun _ _=>0) ⟨#[],eO,[]⟩).variablesB Tryz.prog=true:=by kernel_rfl
theorem Ye (os : Os) : ((((fE os).forCall (fun _ _ => 0) ⟨#[], eO, []⟩).heap.toList.drop Tryz.prog.globals.size).take ((begin Tryz.prog (fun _ _ => 0) default).world.heap.size - Tryz.prog.globals.size) =
      (begin Tryz.prog (fun _ _=>0) default).world.heap.toList.drop Tryz.prog.globals.size):=by kernel_rfl
theorem Yg (os:Os):Input.okWideB Tryz.prog ((fE os).forCall (fun _ _=>0) ⟨#[],eO,[]⟩) 3 ⟨#[],eO,[]⟩=true:=by kernel_rfl
theorem Yd (os:Os){H:Type}(enc:TypeId×Value→H):(OpenSpec.ofChange Rows.fnExactJudgeAllSpec).bare.sizedB enc Tryz.prog Tryz.f3 false ((fE os).forCall (fun _ _=>0) ⟨#[],eO,[]⟩).memory eO 8=true:=by kernel_rfl
theorem Yf (os:Os) (H:Type) (enc:TypeId×Value→H):(OpenSpec.ofChange Rows.fnExactJudgeAllSpec).preRow enc Tryz.prog Tryz.f3 Rows.fnExactJudgeAllRow.domain false Rows.fnExactJudgeAllRow.laid ((fE os).forCall (fun _ _=>0) ⟨#[],eO,[]⟩).memory eO:=by
  obtain⟨places,hx⟩:=KQ os enc
  exact OpenSpec.preRow_of_cond 8 hx (by kernel_rfl) (fun k hk=>by cases hk) (Yd os enc) (Fh os)
theorem Jk:Tryz.checked.prog.inits.idxOf? 3=none:=by kernel_rfl
theorem Ju:Tryz.checked.prog.funcs[3]?=some Tryz.f3:=Tryz.func3
theorem Lg (F : Stop.Interp) (H : Type) (enc : TypeId × Value → H) : ∀ (W : World) (base : Nat) (args : Array Value) (ds gs : List (DataW H)) (before : List MemPlace),
      (∀(j:Nat) t v,Tryz.f3.params[j]?=some t→args[j]?=some v→Value.okWide Tryz.checked.prog W .any base t v) →
      DataW.Whole enc Tryz.checked.prog Tryz.f3.params.toList (OpenSpec.ofChange Rows.fnExactJudgeAllSpec).vars false W args.toList ds gs before →
      laidMetH Tryz.checked.prog Rows.fnExactJudgeAllRow.laid W→W.ShapedOpen Tryz.checked.prog →
      Calls Tryz.checked.prog 3 args W fun e W'=>∃v,e = .returned v∧((OpenSpec.ofChange Rows.fnExactJudgeAllSpec).at F).post enc Tryz.checked.prog Tryz.f3 false true false false W args v W':=by
  intro W base args ds gs before hval hW hL hs
  exact Fx H enc W base args ds gs before hval hW hL hs
theorem FT (os : Os) (H : Type) (enc : TypeId × Value → H) : ∃ (w : World) (tape : Tape) (i : Input), w.os = os ∧ (w.forCall tape i).Shaped Tryz.checked.prog ∧ i.vars = [] ∧ Input.okWide Tryz.checked.prog (w.forCall tape i) .any w.heap.size 3 i ∧
      (OpenSpec.ofChange Rows.fnExactJudgeAllSpec).preRow enc Tryz.checked.prog Tryz.f3 Rows.fnExactJudgeAllRow.domain false Rows.fnExactJudgeAllRow.laid (w.forCall tape i).memory i.args∧({}:Assume).holds Tryz.checked.prog (lone (Frame.enter Tryz.checked.prog 3 i.args .normal) [] (w.forCall tape i)) :=
  witness_row_at (enc:=enc) (C:=Tryz.checked) (fn:=Tryz.f3) (s:=OpenSpec.ofChange Rows.fnExactJudgeAllSpec) (conds:=Rows.fnExactJudgeAllRow.domain) (apart:=false) (laid:=Rows.fnExactJudgeAllRow.laid) (f:=3) false (fE os) eO (sY os) (Yc os) (Ye os) (Yg os) (Yf os H enc)
theorem Jt (os:Os) (started:os.Started) (H:Type) (enc:TypeId×Value→H) (F:Stop.Interp) :
    ReturnsInHanded {} Tryz.checked os 3 .any ((OpenSpec.ofChange Rows.fnExactJudgeAllSpec).preRow enc Tryz.checked.prog Tryz.f3 Rows.fnExactJudgeAllRow.domain false Rows.fnExactJudgeAllRow.laid) (((OpenSpec.ofChange Rows.fnExactJudgeAllSpec).at F).post enc Tryz.checked.prog Tryz.f3 false true false false) :=
  returnsInHanded_of_row (C:=Tryz.checked) (s:=OpenSpec.ofChange Rows.fnExactJudgeAllSpec) own started Jk Ju (FT os H enc) (fun W base args ds gs before hval hW _ _ _ hL hs _=>Lg F H enc W base args ds gs before hval hW hL hs)

set_option maxHeartbeats 40000000 in
theorem JB:joinedFacts Tryz.prog 3 Tryz.f3 (OpenSpec.ofChange Rows.fnExactJudgeAllSpec).bare Rows.fnExactJudgeAllRow=true:=by
  unfold joinedFacts
  simp only[Bool.and_eq_true]
  and_intros
  all_goals (as_aux_lemma=>kernel_rfl)
theorem NH:Tryz.f3.isInstance Tryz.prog Rows.fnExactJudgeAllRow.origin Rows.fnExactJudgeAllRow.targs:=of_decide_eq_true (by kernel_rfl)
theorem said3:Rows.FnExactJudgeAllSaid :=
  OpenClaim.holds_of_cond 3 Tryz.f3 rfl rfl rfl rfl rfl rfl rfl ⟨rfl,rfl,rfl,rfl,rfl⟩ rfl rfl rfl rfl rfl (by as_aux_lemma=>kernel_rfl) Tryz.func3 JB
    NH (by unfold Func.isWrapper;first|(rw[if_pos (by decide +kernel)];kernel_rfl)|(rw[if_neg (by decide +kernel)];exact⟨rfl,rfl⟩))
    (fun os started H enc _ F=>by rw[OpenClaim.pre_eq_preRow];exact Jt os started H enc F)
end AM
end Go.Proofs.YtlkgapiohfgenaaGreatDoor
