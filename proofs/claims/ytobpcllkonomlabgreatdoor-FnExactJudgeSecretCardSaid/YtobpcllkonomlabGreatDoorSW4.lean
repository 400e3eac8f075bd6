/- Shorter ways to say that a function obeys its summary; its regions by a list. No condition. And what follows it: see the remarks. -/
import Derived.Test.YtobpcllkonomlabGreatDoorSW3
import Derived.WideShapes
import Derived.RowKit
import Derived.WideKeyArgs
import Derived.ChangeOld
import Derived.Lib.LaidTab
import Derived.Sort.Grow
import Derived.Deep.Draws
import Derived.ChangeCalls
namespace Go.Proofs.YtobpcllkonomlabGreatDoor
namespace AM
open Go
set_option linter.unusedVariables false
def rgl:List (Nat×RSum) → Nat → Option RSum
 | [],_ => none
 | p :: r,i => bif Nat.beq p.1 i then some p.2 else rgl r i
abbrev RegAt1 (E:Env) (c:Code) (id:Nat) (S:RSum):Prop := aftOk (regAt c id) = true ∧ ∀ x y,S.g x = some y → ∀ π ∈ exts (regAt c id),opsK E (regAt c id) (opsOf (regAt c id) π) (mkSt S.ent x) (fun s' => getEns E.N S.out s') = some y
def RgsAt (E:Env) (c:Code):List (Nat×RSum) → Prop
 | [] => True
 | p :: r => RegAt1 E c p.1 p.2 ∧ RgsAt E c r
theorem rgs_at {E:Env} {c:Code}:∀ {l:List (Nat×RSum)},RgsAt E c l → ∀ id S,rgl l id = some S → RegAt1 E c id S
 | [],_,_,_,h => by cases h
 | p :: r,h,id,S,hS => by
  unfold rgl at hS
  cases q:Nat.beq p.1 id with
  | true => rw [q] at hS; obtain rfl := Option.some.inj hS; obtain rfl := Nat.eq_of_beq_eq_true q; exact h.1
  | false => rw [q] at hS; exact rgs_at h.2 id S hS
abbrev Ex6 (b:Bool) (E:Env) (c:Code) (r:Nat) (L:List Nat) (S:RSum):Prop := ∀ x,opsmK b E (regAt c r) (opsOf (regAt c r) L) (mkSt S.ent x) (fun s => getEns E.N S.out s) = S.g x
abbrev ExN (E:Env) (c:Code) (r n:Nat) (S:RSum):Prop := ∀ x,(exts (regAt c r)).map (fun π => opsK E (regAt c r) (opsOf (regAt c r) π) (mkSt S.ent x) (fun s => getEns E.N S.out s)) = List.replicate n (S.g x)
theorem reg6 {b:Bool} {E:Env} {c:Code} {r:Nat} {L:List Nat} {S:RSum} (h:Ex6 b E c r L S) (zs:List (Nat×Nat)) (hb:(L.all (fun i => Nat.blt i (regAt c r).length) && (List.range (regAt c r).length).all (fun i => memNat i L)) = true := by kernel_rfl) (hnd:L.Nodup := by decide) (ha:aftOk (regAt c r) = true := by kernel_rfl)
  (hp:pairsOk (pairB E (regAt c r) (reachs (regAt c r) []) b) L = true := by kernel_rfl) (ho:pairsOk (ordB (regAt c r)) L = true := by kernel_rfl) (hok:(!b || L.all (fun j => okB E (regAt c r) (reachs (regAt c r) []) zs j || lastB E (regAt c r) (reachs (regAt c r) []) j)) = true := by kernel_rfl) (hs:∀ x:TD (entys S.ent),(!b || startB (regAt c r) zs L (mkVs S.ent (unpack (entys S.ent) x)) (mkBs S.ent (unpack (entys S.ent) x))) = true := by intro x; kernel_rfl):RegAt1 E c r S :=
 ⟨ha,fun x y hy => exts_all6 b zs L hb hnd ha hp ho hok (hs x) ((h x).trans hy)⟩
theorem regN {E:Env} {c:Code} {r n:Nat} {S:RSum} (h:ExN E c r n S) (ha:aftOk (regAt c r) = true := by kernel_rfl):RegAt1 E c r S :=
 ⟨ha,fun x y hy => all_of (h x) (fun v hv => (List.eq_of_mem_replicate hv).trans hy)⟩
theorem nor {E:Env} {c:Code} (h:∀ id,E.Ω id = none):∀ p ∈ regsIn c,RegOk E p.1 p.2 := fun p _ S hS => by rw [h] at hS; cases hS
theorem lo0 {E:Env} {c:Code} (hk:(loopsIn c).length = 0 := by kernel_rfl) (hΩ:∀ id,E.Ω id = none := by intro id; rfl):LoopsOk E c := loopsOk_of 0 hk (fun i hi => absurd hi (Nat.not_lt_zero i)) (nor hΩ)
theorem lor {E:Env} {c:Code} {l:List (Nat×RSum)} (h:RgsAt E c l) (hk:(loopsIn c).length = 0 := by kernel_rfl) (hΩ:E.Ω = rgl l := by rfl) (hn:nodupNat ((regsIn c).map Prod.fst) = true := by kernel_rfl):LoopsOk E c :=
 loopsOk_of 0 hk (fun i hi => absurd hi (Nat.not_lt_zero i)) (regs_at hn (fun id S hS => rgs_at h id S (by rw [← hΩ]; exact hS)))
theorem lol {E:Env} {c:Code} (k:Nat) (h:∀ i,i < k → Looped E (loopAt c i)) (hk:(loopsIn c).length = k := by kernel_rfl) (hΩ:∀ id,E.Ω id = none := by intro id; rfl):LoopsOk E c := loopsOk_of k hk h (nor hΩ)
theorem lolr {E:Env} {c:Code} {l:List (Nat×RSum)} (k:Nat) (h:∀ i,i < k → Looped E (loopAt c i)) (hr:RgsAt E c l) (hk:(loopsIn c).length = k := by kernel_rfl) (hΩ:E.Ω = rgl l := by rfl) (hn:nodupNat ((regsIn c).map Prod.fst) = true := by kernel_rfl):LoopsOk E c :=
 loopsOk_of k hk h (regs_at hn (fun id S hS => rgs_at hr id S (by rw [← hΩ]; exact hS)))
theorem lpd {E:Env} {c:Code} (n:Nat) (S:LSum) (f:Nat → TD (entys S.ent) → Option (EX S.exs)) (hs:∀ m x,f (m + 1) x = runL E c S (f m) x) (hS:E.Λ (key c) = some S := by kernel_rfl) (h0:∀ x,f 0 x = none := by intro x; rfl) (hn:S.g = f n := by rfl):Looped E c := looped hS f h0 n hn hs
theorem goodOf {P:Program} {K:Glob} {f:FuncId} {fn:Func} {S:FSum} (hmo:P.follows .mixedOrders = true) {t:Tab} (hτ:TabOk P t) (hf:P.funcs[f]? = some fn) (E:Env) (l:List (Nat×FSum)) (l2:List ((Nat×Nat)×FSum)) (hl:Goods P K l) (hl2:Goods2 P K l2)
  (hloops:LoopsOk E (bodyOf fn)) (hg:∀ x,S.g x = runF E fn S x) (ht:E.τ = t := by rfl) (hΓ:E.Γ = gl l l2 := by rfl) (h1:(fn.name == "runtime.NumGoroutine") = false := by kernel_rfl) (hb:fn.body.isSome = true := by kernel_rfl) (hN:E.N = fn.ntmps := by kernel_rfl) (hn:Nat.ble S.pars.length fn.ntmps = true := by kernel_rfl) (hr:fn.results.size = S.res.length := by kernel_rfl):Good P K (f,S) :=
 ⟨plain_of hf h1 (by cases q:fn.body with
  | none => rw [q] at hb; cases hb
  | some c => rfl),obeys_of (S := S) (E := E) hf hmo (by rw [ht]; exact hτ) hΓ hl hl2 hb hN (Nat.le_of_ble_eq_true hn) hr hloops hg⟩
end AM
end Go.Proofs.YtobpcllkonomlabGreatDoor
namespace Go.Proofs.YtobpcllkonomlabGreatDoor
namespace AM
open Go
set_option linter.unusedSimpArgs false
set_option linter.unusedVariables false
def Glob.of (W:World):Glob where
 blk := fun b => b < W.heap.size
 ok := fun w => ∀ b,b < W.heap.size → w.heap[b]? = W.heap[b]?
 keep := fun w w' h k b hb => ((k b hb).2).trans (h b hb)
theorem Glob.of_cell {W w:World} (h:(Glob.of W).ok w) {b off:Nat} {u:Value} (hu:W.cell? ⟨b,off,none⟩ = some u):w.cell? ⟨b,off,none⟩ = some u := by
 have hb := World.block_lt_of_cell? W ⟨b,off,none⟩ hu
 rw [World.cell?_of_block (w := W) (a := ⟨b,off,none⟩) (h b hb)]; exact hu
theorem Glob.of_tab {P:Program} {W w:World} (h:(Glob.of W).ok w) {name:String} {k:IntKind} {zs:List Int} (ht:Lib.TabIs P W name k zs):Lib.TabIs P w name k zs := by
 unfold Lib.TabIs World.var? at ht ⊢
 cases hg:P.globalNamed name with
 | none => rw [hg] at ht; cases ht
 | some g =>
  rw [hg] at ht
  simp only [Option.bind_some] at ht ⊢
  have hb:g < W.heap.size := by
   rcases Nat.lt_or_ge g W.heap.size with q | q
   ·exact q
   ·rw [Array.getElem?_eq_none q] at ht; cases ht
  rw [h g hb]; exact ht
theorem Step.drewN (w:World) (n:Nat):Step (fun _ _ => False) w (w.drewN n) := ⟨rfl,rfl,rfl,Nat.le_refl _,fun _ _ => BlkEq.refl _ _⟩
theorem Step.grow (w:World) (os:Array Go.Obj):Step (fun _ _ => False) w (Sort.grow w os) :=
 ⟨rfl,rfl,rfl,by show w.heap.size ≤ (w.heap ++ os).size; simp,fun b hb => BlkEq.of_eq (by show (w.heap ++ os)[b]? = w.heap[b]?; rw [Array.getElem?_append_left hb])⟩
def sigs (P:Program) (n:Nat):List TypeId → Option (List (Ty×Bool))
 | [] => some []
 | T :: r => match tyOf P n T,P.underlying T,sigs P n r with
  | some t,some d,some l => some ((t,isAggD d) :: l)
  | _,_,_ => none
section
variable {H:Type} {enc:TypeId×Value → H} {P:Program} {W:World} {sp:Nat → Bool} {held:Bool}
theorem arg_of {n T:Nat} {t:Ty} {d:TypeDesc} (ht:tyOf P n T = some t) (hd:P.underlying T = some d) {base:Nat} {v:Value} (hv:Value.okWide P W .any base T v) {x:DataW H} {ps:List MemPlace} (h:DataW.Trod enc P W 0 sp held T v x ps) :
  ∃ a:Arg,a.t = t ∧ a.agg = isAggD d ∧ a.u = v ∧ a.ok W := by
 obtain ⟨fuel,hf⟩ := h
 obtain ⟨y,hr,hfit⟩ := read_of_trod n T t ht fuel _ _ hf
 refine ⟨⟨t,isAggD d,y,v⟩,rfl,rfl,rfl,hfit,fun q => ?_,fun q => ?_⟩
 ·have q:isAggD d = true := q
  cases d with
  | struct fs =>
   obtain ⟨cs,rfl,_⟩ := WideShapes.okWide_struct hd hv
   exact ⟨cs.toList,by simp,hr⟩
  | array m e =>
   exfalso
   cases n with
   | zero => cases ht
   | succ n => unfold tyOf at ht; rw [hd] at ht; cases ht
  | _ => cases q
 ·have q:isAggD d = false := q
  have hc:v.cells.toList = [v] := by
   cases n with
   | zero => cases ht
   | succ n =>
    unfold tyOf at ht
    rw [hd] at ht
    cases d with
    | bool => obtain ⟨b,rfl⟩ := WideShapes.okWide_bool hd hv; rfl
    | int k => obtain ⟨m,rfl⟩ := WideShapes.okWide_int hd hv; rfl
    | string => obtain ⟨s,rfl⟩ := WideShapes.okWide_string hd hv; rfl
    | slice e => obtain ⟨a,l,c,rfl⟩ := WideShapes.okWide_slice hd hv; rfl
    | struct fs => cases q
    | _ => cases ht
  rw [hc] at hr
  exact hr
theorem args_of {n base:Nat}:∀ {Ts:List TypeId} {vs:List Value} {ds:List (DataW H)} {ps:List MemPlace} {l:List (Ty×Bool)},sigs P n Ts = some l → DataW.TrodAll enc P W 0 sp held Ts vs ds ps →
  (∀ (j:Nat) t v,Ts[j]? = some t → vs[j]? = some v → Value.okWide P W .any base t v) → ∃ as:List Arg,as.map (fun a => (a.t,a.agg)) = l ∧ as.map Arg.u = vs ∧ ∀ a ∈ as,a.ok W
 | [],vs,ds,ps,l,hs,h,_ => by
  obtain rfl := Option.some.inj hs
  obtain ⟨rfl,_,_⟩ := ChangeShapes.trodAll_nil h
  exact ⟨[],rfl,rfl,fun a ha => by cases ha⟩
 | T :: Ts,vs,ds,ps,l,hs,h,hv => by
  obtain ⟨v,vs',d,ds',p,q,rfl,rfl,rfl,h0,h1⟩ := ChangeShapes.trodAll_cons h
  simp only [sigs] at hs
  split at hs
  ·rename_i t dd l' e1 e2 e3
   obtain rfl := Option.some.inj hs
   obtain ⟨a,a1,a2,a3,a4⟩ := arg_of e1 e2 (hv 0 T v rfl rfl) h0
   obtain ⟨as,b1,b2,b3⟩ := args_of e3 h1 (fun j t v ht hv' => hv (j + 1) t v ht hv')
   refine ⟨a :: as, ?_, ?_,fun x hx => ?_⟩
   ·rw [List.map_cons,b1,a1,a2]
   ·rw [List.map_cons,b2,a3]
   ·rcases List.mem_cons.1 hx with rfl | hx
    ·exact a4
    ·exact b3 x hx
  ·cases hs
theorem trodAll_stays {W':World} (hl:laidOutB P = true) (hb:RowKit.Below W.heap.size W W') {sp':Nat → Bool}:∀ {Ts:List TypeId} {vs:List Value} {ds:List (DataW H)} {ps:List MemPlace},Ts.all (fun t => P.readableRec t && decide (t < P.types.size)) = true →
  DataW.TrodAll enc P W 0 (fun _ => true) true Ts vs ds ps → (∀ p ∈ ps,p.block < W.heap.size) → (∀ p ∈ ps,sp' p.block = true) → DataW.TrodAll enc P W' 0 sp' true Ts vs ds ps
 | [],_,_,_,_,h,_,_ => by
  obtain ⟨rfl,rfl,rfl⟩ := ChangeShapes.trodAll_nil h
  exact ChangeShapes.trodAll_mk0
 | T :: Ts,_,_,_,hr,h,hlt,hsp => by
  obtain ⟨v,vs',d,ds',p,q,rfl,rfl,rfl,h0,h1⟩ := ChangeShapes.trodAll_cons h
  rw [List.all_cons,Bool.and_eq_true,Bool.and_eq_true] at hr
  obtain ⟨⟨hr1,hr2⟩,hr3⟩ := hr
  refine ⟨p,q,WideElems.Trod_stays hl hr1 (of_decide_eq_true hr2) h0 (fun x hx => hb.same (hlt x (List.mem_append_left _ hx))) (fun x hx => hsp x (List.mem_append_left _ hx)), ?_,rfl⟩
  exact trodAll_stays hl hb hr3 h1 (fun x hx => hlt x (List.mem_append_right _ hx)) (fun x hx => hsp x (List.mem_append_right _ hx))
theorem law_post {f:Func} {s:ChangeSpec} {B:TypeId} {W':World} {args:Array Value} {ds gs:List (DataW H)} {before:List MemPlace} (hvars:s.vars = []) (hfn:∀ l:List (DataW H),l.length = f.params.size → s.fn H l = { results := [.lit (.bool true)],args := l })
  (hrt:f.resultTypes = #[B]) (hB:P.underlying B = some .bool) (hl:laidOutB P = true) (hrd:f.params.toList.all (fun t => P.readableRec t && decide (t < P.types.size)) = true)
  (hW:DataW.Whole enc P f.params.toList s.vars false W args.toList ds gs before) (hb:RowKit.Below W.heap.size W W'):s.post enc P f false true false false W args (.bool true) W' := by
 have hlt := hW.lt
 have hW0 := hW
 obtain ⟨p,q,hA,hV,rfl,hz,_⟩ := hW
 rw [hvars] at hV
 obtain ⟨rfl,rfl⟩ := ChangeShapes.trodVars_none hV
 have hlen:ds.length = f.params.size := by
  have := (trodAll_length hA).2
  simpa using this
 have hfn' := hfn (ds ++ []) (by simpa using hlen)
 refine ⟨ds,[],p ++ [],[],p,[],hW0, ?_, ?_, ?_,⟨hb.os,hb.output,fun i hi => ?_⟩,fun h => by cases h⟩
 ·rw [hfn',hrt]
  exact ChangeShapes.trodAll_mk1 (RowKit.shut_bool hB true)
 ·rw [hfn']
  show DataW.TrodAll enc P W' 0 _ true f.params.toList args.toList (ds ++ []) p
  rw [List.append_nil]
  have hlt':∀ x ∈ p,x.block < W.heap.size := fun x hx => hlt x (List.mem_append_left _ hx)
  exact trodAll_stays hl hb hrd hA hlt' (fun x hx => by simpa using hlt' x hx)
 ·rw [hfn',hvars]; rfl
 ·rw [hb.block i hi]
  cases W.heap[i]? with
  | none => trivial
  | some o => cases o <;> first | exact ⟨rfl,rfl,rfl,fun _ _ => rfl⟩ | exact .inr ⟨rfl,rfl⟩ | rfl
end
theorem laidMet_mem {P:Program} {w:World}:∀ {laid:List (String×DataW Unit)} {name:String} {d:DataW Unit},laidMet P laid w → (name,d) ∈ laid → laidMet P [(name,d)] w := by
 have vars:∀ {laid:List (String×DataW Unit)} {ps:List MemPlace} {name:String} {d:DataW Unit},DataW.LaidVars P w laid ps → (name,d) ∈ laid → ∃ qs,DataW.LaidVars P w [(name,d)] qs ∧ qs.Sublist ps := by
  intro laid
  induction laid with
  | nil => intro ps name d _ hm; cases hm
  | cons x r ih =>
   intro ps name d h hm
   obtain ⟨g,t,cs,fuel,p,q,h1,h2,h3,h4,h5,h6⟩ := h
   rcases List.mem_cons.1 hm with rfl | hm
   ·refine ⟨_,⟨g,t,cs,fuel,p,[],h1,h2,h3,h4,rfl,rfl⟩, ?_⟩
    rw [h6]
    rw [List.append_nil]
    exact List.sublist_append_left ..
   ·obtain ⟨qs,k1,k2⟩ := ih h5 hm
    exact ⟨qs,k1,k2.trans (by rw [h6]; exact List.sublist_append_right ..)⟩
 intro laid name d h hm
 obtain ⟨ps,h1,h2,h3⟩ := h
 obtain ⟨qs,k1,k2⟩ := vars h1 hm
 exact ⟨qs,k1,h2.sublist k2,fun b off hq => h3 b off (k2.subset hq)⟩
end AM
end Go.Proofs.YtobpcllkonomlabGreatDoor
namespace Go.Proofs.YtobpcllkonomlabGreatDoor
namespace AM
open Go
set_option linter.unusedVariables false
set_option linter.unusedSimpArgs false
def ownSum (t:Ty) (el:Nat) (g:List t.den → Option (List t.den)):FSum := { pars := [.c (.i (.sl t))],gh := [],nb := [],res := [(false,[.o el t])],g := g }
theorem obeys_own {P:Program} {K:Glob} {f:FuncId} {t:Ty} {el:Nat} {g:List t.den → Option (List t.den)}
  (h:∀ (w:World) (I:Nat → Prop) (xs r:List t.den) (u:Value),g xs = some r → K.ok w → (∀ b,I b → b < w.heap.size) → Rep I w (.sl t) xs [u] →
   Calls P f #[u] w fun e w' => ∃ v' vs,e = .returned v' ∧ w'.ownsRow w.heap.size el t.sz v' r.length vs ∧ FRep I w t r vs ∧ Step (fun _ _ => False) w w') :
  Obeys P K f (ownSum t el g) := by
 intro Y L I a w x r hx hR hK hY hw
 have hN:Y.N = 1 := hY
 have hsz:a.tmps.size = 1 := hR.size.trans hN
 have hu:Rep I w (.sl t) x [a.tmps.getD 0 undef] := hR.slot 0
 have hI:∀ b,I b → b < w.heap.size := fun b hb => (hR.imm b hb).1
 have htm:a.tmps = #[a.tmps.getD 0 undef] := by
  refine Array.ext (by simp [hsz]) fun i hi _ => ?_
  obtain rfl:i = 0 := by omega
  rw [Array.getD_eq_getD_getElem?,Array.getElem?_eq_getElem hi]; rfl
 subst hK
 rw [show first (FSum.real (ownSum t el g)) a.tmps = a.tmps from first_all (by rw [hsz]; exact Nat.le_refl _),htm]
 refine (h w I x r _ hx hR.glob.1 hI hu).mono fun e w' hp => ?_
 obtain ⟨v',vs,rfl,hown,hf,hst⟩ := hp
 have g1 := hR.grows hst
 have hsm:Same I w w' := fun b hb => hst.same (hI b hb) (fun _ q => q)
 have hsl:∃ a l c,v' = .slice a l c := by
  rcases hown.2 with ⟨e,_⟩ | ⟨g,cap,cur,e,_⟩
  ·exact ⟨_,_,_,e⟩
  ·exact ⟨_,_,_,e⟩
 have hmk:mkSt (FSum.ens (ownSum t el g)) r = ⟨look [(1, .c (.own [1,0]))],lookO [([1,0], .arr el t r)]⟩ := by
  have ha:arrO [1,0] el t ⟨.sl t,r⟩ = [([1,0], .arr el t r)] := by
   unfold arrO
   rw [show DV.as (.sl t) ⟨.sl t,r⟩ = some r from as_self (t := .sl t) r]
  show St.mk _ (lookO ((arrO [1,0] el t ⟨.sl t,r⟩ ++ []) ++ [])) = _
  rw [ha]; rfl
 refine ⟨_,fun n => bif Nm.eqb n [1,0] then v' else L n,I,⟨#[a.tmps.getD 0 undef,v'],[]⟩,rfl, ?_,fun n hn => ?_,rfl⟩
 ·rw [hmk]
  have one:∀ {n:Nm} {ob:Ob},lookO [([1,0],Ob.arr el t r)] n = some ob → n = [1,0] ∧ ob = .arr el t r := fun {n ob} hq => by
   have hq:(bif Nm.eqb [1,0] n then some (Ob.arr el t r) else none) = some ob := hq
   cases hn:Nm.eqb [1,0] n with
   | false => rw [hn] at hq; cases hq
   | true =>
    rw [hn] at hq
    exact ⟨(eqb_iff.1 hn).symm,(Option.some.inj hq).symm⟩
  refine ⟨rfl,rfl,fun i hi => ?_,fun i hi => ?_,fun n ob hob => ?_,fun n m ob ob' h1 h2 b o q1 q2 => ?_,fun n ob hob b o hq => ?_,g1.imm,g1.sub,g1.step,g1.glob⟩
  ·have hi:i < 2 := hi
   match i,hi with
   | 0,_ => trivial
   | 1,_ =>
    obtain ⟨sa,l,c,e⟩ := hsl
    exact ⟨sa,l,c,e,rfl⟩
  ·have hi:2 ≤ i := hi
   match i,hi with
   | i + 2,_ => rfl
  ·obtain ⟨rfl,rfl⟩ := one hob
   refine ⟨vs,⟨hown.1,hown.2.imp id ?_⟩,FRep.mono (fun _ q => q) hsm hf⟩
   rintro ⟨g,cap,cur,k1,k2,k3⟩
   exact ⟨g,cap,cur,k1,Nat.zero_le _,k3⟩
  ·exact (one h1).1.trans (one h2).1.symm
  ·obtain ⟨rfl,rfl⟩ := one hob
   have hq:v'.ownBlock = some b := hq
   have hlt := hown.lt b hq
   refine ⟨hlt.2,fun q => ?_,fun q => ?_⟩
   ·have := hI b q
    omega
   ·exfalso
    have q:b < Y.w0.heap.size := q
    rw [hw] at q
    omega
 ·show (bif Nm.eqb n [1,0] then v' else L n) = L n
  have hne:Nm.eqb n [1,0] = false := by
   rw [eqb_false]
   intro e
   subst e
   cases hn
  rw [hne]; rfl
theorem frep_int {I:Nat → Prop} {w:World} {k:IntKind}:∀ {xs:List Int} {vs:List Value},FRep I w (.int k) xs vs ↔ vs = xs.map (Value.int k)
 | [],vs => by
  constructor
  ·rintro ⟨css,h1,rfl⟩
   cases css with
   | nil => rfl
   | cons => exact h1.elim
  ·rintro rfl; exact FRep.nil
 | x :: xs,vs => by
  constructor
  ·intro h
   obtain ⟨cs,us,rfl,h1,h2⟩ := h.un
   rw [show cs = [.int k x] from h1,frep_int.1 h2]; rfl
  ·rintro rfl
   exact FRep.cons (cs := [.int k x]) rfl (frep_int.2 rfl)
theorem owns_slice {w:World} {base e size:Nat} {v:Value} {n:Nat} {vs:List Value} (h:w.ownsRow base e size v n vs):∃ a l c,v = .slice a l c := by
 rcases h.2 with ⟨e,_⟩ | ⟨g,cap,cur,e,_⟩
 ·exact ⟨_,_,_,e⟩
 ·exact ⟨_,_,_,e⟩
theorem arrO_int (n:Nm) (el:Nat) (l:List Int):arrO n el (.int .i64) ⟨.sl (.int .i64),l⟩ = [(n, .arr el (.int .i64) l)] := by
 unfold arrO
 rw [show DV.as (.sl (.int .i64)) ⟨.sl (.int .i64),l⟩ = some l from as_self (t := .sl (.int .i64)) l]
theorem own_entry {Y:Ctx} {L:Nm → Value} {I:Nat → Prop} {a:Act} {w:World} {n:Nm} {el:Nat} {xs:List Int} (hR:Rel Y L I ⟨look [(0, .c (.own n))],lookO [(n, .arr el (.int .i64) xs)]⟩ a w) (hN:Y.N = 1) (hw:Y.w0 = w) :
  ∃ v,a.tmps = #[v] ∧ L n = v ∧ (∃ b l c,v = .slice b l c) ∧ w.ownsRow 0 el 1 v xs.length (xs.map (Value.int .i64)) ∧ (∀ b,v.ownBlock = some b → b < w.heap.size ∧ ¬ I b ∧ ∀ o,Y.E b o) ∧ ∀ b,I b → b < w.heap.size := by
 have hsz:a.tmps.size = 1 := hR.size.trans hN
 have hu0 := hR.slot 0
 obtain ⟨sa,sl,sc,e0,e0'⟩:∃ a' l c,a.tmps.getD 0 undef = .slice a' l c ∧ L n = a.tmps.getD 0 undef := hu0
 have hob:(lookO [(n,Ob.arr el (.int .i64) xs)]) n = some (.arr el (.int .i64) xs) := by
  show (bif Nm.eqb n n then _ else _) = _
  rw [eqb_iff.2 rfl]; rfl
 obtain ⟨vs,hown,hf⟩:∃ vs,w.ownsRow 0 el 1 (L n) xs.length vs ∧ FRep I w (.int .i64) xs vs := hR.obj n _ hob
 rw [e0'] at hown
 rw [frep_int.1 hf] at hown
 have hfp:∀ b,(a.tmps.getD 0 undef).ownBlock = some b → b < w.heap.size ∧ ¬ I b ∧ ∀ o,Y.E b o := fun b hb => by
  have h0 := fun o => hR.own n _ hob b o (show (L n).ownBlock = some b by rw [e0']; exact hb)
  exact ⟨(h0 0).1,(h0 0).2.1,fun o => (h0 o).2.2 (by rw [hw]; exact (h0 0).1)⟩
 have htm:a.tmps = #[a.tmps.getD 0 undef] := by
  refine Array.ext (by simp [hsz]) fun i hi _ => ?_
  obtain rfl:i = 0 := by omega
  rw [Array.getD_eq_getD_getElem?,Array.getElem?_eq_getElem hi]; rfl
 exact ⟨_,htm,e0',⟨_,_,_,e0⟩,hown,hfp,fun b hb => (hR.imm b hb).1⟩
theorem one_ob {n m:Nm} {ob ob':Ob} (hq:lookO [(n,ob)] m = some ob'):m = n ∧ ob' = ob := by
 have hq:(bif Nm.eqb n m then some ob else none) = some ob' := hq
 cases hn:Nm.eqb n m with
 | false => rw [hn] at hq; cases hq
 | true =>
  rw [hn] at hq
  exact ⟨(eqb_iff.1 hn).symm,(Option.some.inj hq).symm⟩
def sortSum (el:Nat) (g:List Int → Option (List Int)):FSum := { pars := [.c (.b el (.int .i64))],gh := [],nb := [],res := [],g := g }
theorem obeys_sort {P:Program} {K:Glob} {f:FuncId} {el:Nat} {g:List Int → Option (List Int)}
  (h:∀ (w:World) (v:Value) (xs r:List Int),g xs = some r → K.ok w → w.ownsRow 0 el 1 v xs.length (xs.map (Value.int .i64)) →
   Calls P f #[v] w fun e w' => e = .returned (.tuple #[]) ∧ w'.ownsRow 0 el 1 v r.length (r.map (Value.int .i64)) ∧ Step (fun b _ => v.ownBlock = some b) w w') :
  Obeys P K f (sortSum el g) := by
 intro Y L I a w xs r hx hR hK hY hw
 have hm0:mkSt (parEns 0 (sortSum el g).pars) xs = ⟨look [(0, .c (.own [0,0,99]))],lookO [([0,0,99], .arr el (.int .i64) xs)]⟩ := by
  refine congr (congrArg St.mk rfl) (congrArg lookO ?_)
  exact congrArg (fun l => (l ++ []) ++ []) (arrO_int [0,0,99] el xs)
 rw [hm0] at hR
 obtain ⟨v,htm,hL,hsl,hown,hfp,hI⟩ := own_entry hR hY hw
 subst hK
 rw [show first (FSum.real (sortSum el g)) a.tmps = a.tmps from first_all (by rw [htm]; exact Nat.le_refl _),htm]
 refine (h w v xs r hx hR.glob.1 hown).mono fun e w' hp => ?_
 obtain ⟨rfl,hown',hst⟩ := hp
 have hsame:∀ b,I b → w'.heap[b]? = w.heap[b]? := fun b hb => hst.same (hI b hb) (fun _ q => (hfp b q).2.1 hb)
 have hmk:mkSt (FSum.ens (sortSum el g)) r = ⟨look [(0, .c (.own [0,0,99]))],lookO [([0,0,99], .arr el (.int .i64) r)]⟩ := by
  refine congr (congrArg St.mk rfl) (congrArg lookO ?_)
  exact congrArg (fun l => (l ++ []) ++ []) (arrO_int [0,0,99] el r)
 refine ⟨_,L,I,⟨#[v],[]⟩,rfl, ?_,fun n hn => rfl,rfl⟩
 rw [hmk]
 refine ⟨rfl,rfl,fun i hi => ?_,fun i hi => ?_,fun n ob hob => ?_,fun n m ob ob' h1 h2 b o q1 q2 => ?_,fun n ob hob b o hq => ?_,fun b hb => ?_,hR.sub, ?_, ?_,hR.glob.2⟩
 ·have hi:i < 1 := hi
  match i,hi with
  | 0,_ =>
   obtain ⟨sa,l,c,e⟩ := hsl
   exact ⟨sa,l,c,e,hL⟩
 ·have hi:1 ≤ i := hi
  match i,hi with
  | i + 1,_ => rfl
 ·obtain ⟨rfl,rfl⟩ := one_ob hob
  exact ⟨_,hL ▸ hown',frep_int.2 rfl⟩
 ·exact (one_ob h1).1.trans (one_ob h2).1.symm
 ·obtain ⟨rfl,rfl⟩ := one_ob hob
  have hq:v.ownBlock = some b := hL ▸ (show (L [0,0,99]).ownBlock = some b from hq)
  obtain ⟨k1,k2,k3⟩ := hfp b hq
  exact ⟨Nat.lt_of_lt_of_le k1 hst.size,k2,fun _ => k3 o⟩
 ·obtain ⟨k1,k2⟩ := hR.imm b hb
  exact ⟨Nat.lt_of_lt_of_le k1 hst.size,k2⟩
 ·rw [show ({ Y with N := _ }:Ctx).w0 = w from hw]
  exact hst.mono fun b o q => (hfp b q).2.2 o
 ·exact Y.K.keep w w' hR.glob.1 fun b hb => ⟨hI b (hR.glob.2 b hb),hsame b (hR.glob.2 b hb)⟩
def compSum (el:Nat) (g:List Int → Option (List Int)):FSum := { pars := [.c (.o el (.int .i64))],gh := [],nb := [],res := [(false,[.o el (.int .i64)])],g := g }
theorem obeys_comp {P:Program} {K:Glob} {f:FuncId} {el:Nat} {g:List Int → Option (List Int)}
  (h:∀ (w:World) (v:Value) (xs r:List Int),g xs = some r → K.ok w → w.ownsRow 0 el 1 v xs.length (xs.map (Value.int .i64)) →
   Calls P f #[v] w fun e w' => ∃ v',e = .returned v' ∧ w'.ownsRow 0 el 1 v' r.length (r.map (Value.int .i64)) ∧ Step (fun b _ => v.ownBlock = some b) w w' ∧ ∀ b,v'.ownBlock = some b → v.ownBlock = some b ∨ w.heap.size ≤ b) :
  Obeys P K f (compSum el g) := by
 intro Y L I a w xs r hx hR hK hY hw
 have hm0:mkSt (parEns 0 (compSum el g).pars) xs = ⟨look [(0, .c (.own [0,0]))],lookO [([0,0], .arr el (.int .i64) xs)]⟩ := by
  refine congr (congrArg St.mk rfl) (congrArg lookO ?_)
  exact congrArg (fun l => (l ++ []) ++ []) (arrO_int [0,0] el xs)
 rw [hm0] at hR
 obtain ⟨v,htm,hL,hsl0,hown,hfp,hI⟩ := own_entry hR hY hw
 subst hK
 rw [show first (FSum.real (compSum el g)) a.tmps = a.tmps from first_all (by rw [htm]; exact Nat.le_refl _),htm]
 refine (h w v xs r hx hR.glob.1 hown).mono fun e w' hp => ?_
 obtain ⟨v',rfl,hown',hst,hblk⟩ := hp
 have hsame:∀ b,I b → w'.heap[b]? = w.heap[b]? := fun b hb => hst.same (hI b hb) (fun _ q => (hfp b q).2.1 hb)
 have hsl := owns_slice hown'
 have hmk:mkSt (FSum.ens (compSum el g)) r = ⟨look [(1, .c (.own [1,0]))],lookO [([1,0], .arr el (.int .i64) r)]⟩ := by
  refine congr (congrArg St.mk rfl) (congrArg lookO ?_)
  exact congrArg (fun l => (l ++ []) ++ []) (arrO_int [1,0] el r)
 refine ⟨_,fun n => bif Nm.eqb n [1,0] then v' else L n,I,⟨#[v,v'],[]⟩,rfl, ?_,fun n hn => ?_,rfl⟩
 ·rw [hmk]
  refine ⟨rfl,rfl,fun i hi => ?_,fun i hi => ?_,fun n ob hob => ?_,fun n m ob ob' h1 h2 b o q1 q2 => ?_,fun n ob hob b o hq => ?_,fun b hb => ?_,hR.sub, ?_, ?_,hR.glob.2⟩
  ·have hi:i < 2 := hi
   match i,hi with
   | 0,_ => trivial
   | 1,_ =>
    obtain ⟨sa,l,c,e⟩ := hsl
    exact ⟨sa,l,c,e,rfl⟩
  ·have hi:2 ≤ i := hi
   match i,hi with
   | i + 2,_ => rfl
  ·obtain ⟨rfl,rfl⟩ := one_ob hob
   exact ⟨_,hown',frep_int.2 rfl⟩
  ·exact (one_ob h1).1.trans (one_ob h2).1.symm
  ·obtain ⟨rfl,rfl⟩ := one_ob hob
   have hq:v'.ownBlock = some b := hq
   have hlt := hown'.lt b hq
   rcases hblk b hq with q | q
   ·obtain ⟨k1,k2,k3⟩ := hfp b q
    exact ⟨hlt.2,k2,fun _ => k3 o⟩
   ·refine ⟨hlt.2,fun p => ?_,fun p => ?_⟩
    ·have := hI b p
     omega
    ·exfalso
     have p:b < Y.w0.heap.size := p
     rw [hw] at p
     omega
  ·obtain ⟨k1,k2⟩ := hR.imm b hb
   exact ⟨Nat.lt_of_lt_of_le k1 hst.size,k2⟩
  ·rw [show ({ Y with N := _ }:Ctx).w0 = w from hw]
   exact hst.mono fun b o q => (hfp b q).2.2 o
  ·exact Y.K.keep w w' hR.glob.1 fun b hb => ⟨hI b (hR.glob.2 b hb),hsame b (hR.glob.2 b hb)⟩
 ·show (bif Nm.eqb n [1,0] then v' else L n) = L n
  have hne:Nm.eqb n [1,0] = false := by
   rw [eqb_false]
   intro e
   subst e
   cases hn
  rw [hne]; rfl
def clipV:Value → Value
 | .slice a n _ => .slice a n n
 | v => v
def clipSum (el:Nat) (g:List Int → Option (List Int)):FSum := { pars := [.c (.o el (.int .i64))],gh := [],nb := [],res := [(false,[.i (.sl (.int .i64))])],g := g }
theorem obeys_clip {P:Program} {K:Glob} {f:FuncId} {el:Nat} {g:List Int → Option (List Int)}
  (h:∀ (w:World) (v:Value) (xs r:List Int),g xs = some r → K.ok w → w.ownsRow 0 el 1 v xs.length (xs.map (Value.int .i64)) →
   r = xs ∧ Calls P f #[v] w fun e w' => e = .returned (clipV v) ∧ w' = w) :
  Obeys P K f (clipSum el g) := by
 intro Y L I a w xs r hx hR hK hY hw
 have hm0:mkSt (parEns 0 (clipSum el g).pars) xs = ⟨look [(0, .c (.own [0,0]))],lookO [([0,0], .arr el (.int .i64) xs)]⟩ := by
  refine congr (congrArg St.mk rfl) (congrArg lookO ?_)
  exact congrArg (fun l => (l ++ []) ++ []) (arrO_int [0,0] el xs)
 rw [hm0] at hR
 obtain ⟨v,htm,hL,hsl0,hown,hfp,hI⟩ := own_entry hR hY hw
 subst hK
 rw [show first (FSum.real (clipSum el g)) a.tmps = a.tmps from first_all (by rw [htm]; exact Nat.le_refl _),htm]
 obtain ⟨rfl,h⟩ := h w v xs r hx hR.glob.1 hown
 refine h.mono fun e w' hp => ?_
 obtain ⟨rfl,rfl⟩ := hp
 refine ⟨_,L,fun b => I b ∨ v.ownBlock = some b,⟨#[v,clipV v],[]⟩,rfl, ?_,fun n hn => rfl,rfl⟩
 refine ⟨rfl,rfl,fun i hi => ?_,fun i hi => ?_,fun n ob hob => (by cases hob),fun n m ob ob' h1 => (by cases h1),fun n ob hob => (by cases hob),fun b hb => ?_,fun b hb => .inl (hR.sub b hb),hR.step,hR.glob.1,fun b hb => .inl (hR.glob.2 b hb)⟩
 ·have hi:i < 2 := hi
  match i,hi with
  | 0,_ => trivial
  | 1,_ =>
   show Rep _ w' (.sl (.int .i64)) r [clipV v]
   have hfr:FRep (fun b => I b ∨ v.ownBlock = some b) w' (.int .i64) r (r.map (Value.int .i64)) := frep_int.2 rfl
   obtain ⟨css,h1,h2⟩ := hfr
   rcases hown.2 with ⟨e,hn⟩ | ⟨g,cap,cur,e,_,hg,hnc,hcm,hcs,hrow⟩
   ·subst e
    obtain rfl := List.eq_nil_of_length_eq_zero hn
    exact ⟨none,0,css,rfl,Nat.le_refl _,h1, .inl rfl⟩
   ·subst e
    refine ⟨some ⟨g,0,none⟩,r.length,css,rfl,Nat.le_refl _,h1, .inr ⟨g,0,rfl, .inr rfl,fun j u hj => ?_⟩⟩
    rw [← h2, ← hrow,List.getElem?_take] at hj
    split at hj
    ·simp only [World.cell?,hg,Nat.zero_add]
     rw [← hj,Array.getElem?_toList]; rfl
    ·cases hj
 ·have hi:2 ≤ i := hi
  match i,hi with
  | i + 2,_ => rfl
 ·rcases hb with hb | hb
  ·exact hR.imm b hb
  ·obtain ⟨k1,k2,k3⟩ := hfp b hb
   exact ⟨k1, .inr (.inr k3)⟩
end AM
end Go.Proofs.YtobpcllkonomlabGreatDoor
