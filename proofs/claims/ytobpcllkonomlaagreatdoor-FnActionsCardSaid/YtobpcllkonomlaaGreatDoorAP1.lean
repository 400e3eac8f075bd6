/- The library's functions, by their contracts. Under: what the rows list of the library's variables. And what follows it: see the remarks. -/
import Derived.Test.YtobpcllkonomlaaGreatDoorAALd
import Derived.Test.YtobpcllkonomlaaGreatDoorAShelf
import Derived.Test.YtobpcllkonomlaaGreatDoorAW4
import Derived.Lib.SliceRun
import Derived.Shelf.Spec.SlicesInsertGrow
import Derived.Deep.Upon
namespace Go.Proofs.YtobpcllkonomlaaGreatDoor
namespace AM
open Go
set_option linter.unusedVariables false
structure ap (W:World):Prop where
 mx:∃m,W.cell? ⟨0,0,none⟩=some (.int .i64 m)
 tab:Lib.TabIs Tryz.prog W "internal/strconv.uint64pow10" .u64 Lib.pow10Tab
 es:∃ev,W.cell? ⟨2,0,none⟩=some ev∧(ev = .nilIface∨∃te pe,ev = .iface te pe)
 er:∃ev,W.cell? ⟨3,0,none⟩=some ev∧(ev = .nilIface∨∃te pe,ev = .iface te pe)
theorem Ot{W:World}(hG:ap W):xE Tryz.prog (gA.of W) (137,Qd) :=
 ⟨kH Tryz.func137 (by kernel_rfl) (by kernel_rfl),Bs (ps:=[.int .i64]) (rs:=[.str]) (g:=pH) rfl rfl (fun w x r hx hK=>by
  simp only[pH]at hx
  split at hx
  ·rename_i hs
   obtain rfl:=Option.some.inj hx
   refine(Tryz.strconv_Itoa x hs.1 hs.2 w (gA.of_tab hK hG.tab)).mono fun e w' h=>⟨h.1,?_⟩
   obtain⟨k,os,rfl⟩:=h.2
   exact bn.trans (bn.drewN w k) (bn.grow _ os) (fun _ _ q=>q.elim)
  ·cases hx)⟩
theorem N4{W:World}(hG:ap W):xE Tryz.prog (gA.of W) (195,Qa) :=
 ⟨kH Tryz.func195 (by kernel_rfl) (by kernel_rfl),wD (ps:=[.str]) (rs:=[.i (.int .i64), .e]) (g:=pI) rfl rfl (fun w s r hx hK=>by
  simp only[pI]at hx
  split at hx
  ·rename_i hs
   cases hv:Lib.atoiAll (ByteArray.data s).toList with
   |ok v =>
    rw[hv]at hx
    obtain rfl:=Option.some.inj hx
    refine(Tryz.strconv_Atoi_ok _ (by omega) v hv w).mono fun e w' h=>⟨[.int .i64 v, .nilIface],h.1,⟨rfl,⟨false,rfl,rfl⟩,trivial⟩,?_⟩
    rcases h.2 with rfl|⟨t,rfl⟩
    ·exact bn.refl _ _
    ·exact bn.of_below (Lib.bytesWorld_below _ _ _)
   |range =>
    rw[hv]at hx
    obtain rfl:=Option.some.inj hx
    obtain⟨ev,h1,h2⟩:=hG.er
    refine(Tryz.strconv_Atoi_range _ hs hv ev w (gA.of_cell hK h1) h2).mono fun e w' h=>?_
    obtain⟨N,h3,_,_,h4⟩:=h
    exact⟨[.int .i64 _,_],h3,⟨rfl,⟨true,rfl,_,_,rfl⟩,trivial⟩,bn.of_below h4⟩
   |_ =>
    rw[hv]at hx
    obtain rfl:=Option.some.inj hx
    obtain⟨ev,h1,h2⟩:=hG.es
    refine(Any.strconv_Atoi_syntax Tryz.laysC172 _ hs hv ev w (gA.of_cell hK h1) h2).mono fun e w' h=>?_
    obtain⟨N,h3,_,_,h4⟩:=h
    exact⟨[.int .i64 0,_],h3,⟨rfl,⟨true,rfl,_,_,rfl⟩,trivial⟩,bn.of_below h4⟩
  ·cases hx)⟩
theorem yz{kt:Ty}{k:kt.den}{x:Int}(hr:kt.eqv k k=true):∀{m:List (kt.den×Int)}{i j:Nat}{v:Int},bL kt k m i=some (j,v)→bL kt k (m.set (j-i) (k,x)) i=some (j,x)
 |[],_,_,_,h=>by cases h
 |p::r,i,j,v,h=>by
  unfold bL at h
  cases q:kt.eqv k p.1 with
  |true =>
   rw[q]at h
   obtain⟨rfl,rfl⟩:=Prod.mk.inj (Option.some.inj h)
   rw[Nat.sub_self,List.set_cons_zero]
   unfold bL
   rw[hr];rfl
  |false =>
   rw[q]at h
   have h:bL kt k r (i+1)=some (j,v):=h
   obtain⟨h1,_⟩:=l5 h
   rw[show j-i=(j-(i+1))+1 by omega,List.set_cons_succ]
   unfold bL
   rw[q]
   exact yz hr h
theorem wI{kt:Ty}{k:kt.den}{x:Int}(hr:kt.eqv k k=true):∀{m:List (kt.den×Int)}{i:Nat},bL kt k m i=none→bL kt k (m++[(k,x)]) i=some (i+m.length,x)
 |[],i,_=>by
  show bL kt k [(k,x)] i=_
  unfold bL
  rw[hr];simp
 |p::r,i,h=>by
  unfold bL at h
  cases q:kt.eqv k p.1 with
  |true=>rw[q]at h;cases h
  |false =>
   rw[q]at h
   have h:bL kt k r (i+1)=none:=h
   show bL kt k (p::(r++[(k,x)])) i=_
   unfold bL
   rw[q]
   have:=wI (x:=x) hr h
   simp only[cond_false,this,List.length_cons]
   congr 2;omega
theorem uj{kt:Ty}{k:kt.den}{x:Int}{m:List (kt.den×Int)}(hr:kt.eqv k k=true):gg kt k (lL kt k x m)=x:=by
 unfold gg lL
 cases h:bL kt k m 0 with
 |some p =>
  obtain⟨j,v⟩:=p
  have:=yz (x:=x) hr h
  rw[Nat.sub_zero]at this
  simp only[this]
 |none=>simp only[wI hr h]
theorem cU (n:Nat) (x):a7 n x=aA n x:=by
 have e:(Ty.pr (.int .i64) (.pr (.int .i64) (.int .i64))).eqv (x.2.2.1,(x.2.2.2.1,x.2.2.2.2.1)) (x.2.2.1,(x.2.2.2.1,x.2.2.2.2.1))=true:=by simp[Ty.eqv]
 unfold a7 aA
 rw[uj e]
end AM
end Go.Proofs.YtobpcllkonomlaaGreatDoor
namespace Go.Proofs.YtobpcllkonomlaaGreatDoor
namespace AM
open Go Go.Shelf Go.RowKit
set_option linter.unusedVariables false
theorem sv {α β:Type}{R:α→β→Prop}:∀{xs:List α}{ys:List β},aD R xs ys→∀{b:β},b∈ys→∃a,a∈xs∧R a b
 |[],[],_,_,h=>by cases h
 |[],_::_,h,_,_=>h.elim
 |_::_,[],h,_,_=>h.elim
 |a::xs,b::ys,h,c,hc=>by
  rcases List.mem_cons.1 hc with e|e
  ·subst e;exact⟨a,List.mem_cons_self ..,h.1⟩
  ·obtain⟨x,h1,h2⟩:=sv h.2 e
   exact⟨x,List.mem_cons_of_mem _ h1,h2⟩
set_option maxHeartbeats 2000000 in
set_option maxRecDepth 100000 in
theorem xj (w:World) (I:Nat→Prop) (xs r:List (Int)) (u:Value) (hx:dS xs=some r) (hI:∀b,I b→b<w.heap.size) (hu:cK I w (.sl (.int .i64)) xs [u]) :
  Calls Tryz.prog 114 #[u] w fun e w'=>∃v' vs,e = .returned v'∧w'.ownsRow w.heap.size 3 (.int .i64:Ty).sz v' r.length vs∧bv I w (.int .i64) r vs∧bn (fun _ _=>False) w w':=by
 have hb:xs.length≤4294967296∧r=xs:=by
  unfold dS at hx
  cases q:decide (xs.length≤4294967296)with
  |false=>rw[q]at hx;cases hx
  |true=>rw[q]at hx;exact⟨of_decide_eq_true q,(Option.some.inj hx).symm⟩
 obtain⟨hb,rfl⟩:=hb
 obtain⟨sa,sc,css,hus,hlc,hall,hcells⟩:=hu
 obtain rfl:u = .slice sa (List.length r) sc:=List.head_eq_of_cons_eq hus
 have q22:∀(w:World) (a:Option Addr) (n c n' c':Nat),(binOp .eql 29 (.slice a n c) (.slice none n' c')).run Tryz.prog w = .ok (.bool a.isNone) w:=fun w a n c n' c'=>Lib.run_eql_slice_nil w _ _ a n c n' c' Tryz.underlying29
 have hf:bv I w (.int .i64) r css.flatten:=⟨css,hall,rfl⟩
 cases sa with
 |none =>
  have hnil:r=[]:=by
   rcases hcells with h|⟨b,off,h,_⟩
   ·exact h
   ·cases h
  subst hnil
  go_enter Tryz.func114,Tryz.ntmps114
  go_wp2
  go_ret
  exact⟨_,rfl,[],World.ownsRow_nil _ _ _ _,bv.nil,bn.refl _ _⟩
 |some ad =>
  obtain⟨i0,hi,hz0,hz1,hz2⟩:∃i,Tryz.prog.info? 3=some i∧i.size=1∧i.bytes=8∧i.zero=some (.int .i64 0):=by
   obtain⟨i,h1,h2⟩:=Option.map_eq_some_iff.1 (show(Tryz.prog.info? 3).map (fun i=>(i.size,i.bytes,i.zero))=some (1,8,some (.int .i64 0))by kernel_rfl)
   obtain⟨h3,h4⟩:=Prod.mk.inj h2
   obtain⟨h4,h5⟩:=Prod.mk.inj h4
   exact⟨i,h1,h3,h4,h5⟩
  have hlen:=hf.len
  have hnews:∀j v,css.flatten[j]?=some v→w.cell? (ad.add j)=some v:=fun j v hj=>by
   rcases hcells with h|⟨b,off,h,_,hc⟩
   ·subst h
    have:css.flatten=[]:=List.eq_nil_of_length_eq_zero (by rw[hlen];simp)
    rw[this]at hj
    cases hj
   ·obtain rfl:=Option.some.inj h
    rw[Addr.add_lit]
    exact hc j v hj
  go_enter Tryz.func114,Tryz.ntmps114
  go_wp2_with (at_builtin;refine wpList_append_own _ rfl _ _ 29 rfl w.heap.size 3 i0 (.int .i64 0) 1 8 Tryz.underlying29 hi hz2 hz0 hz1 rfl (by decide) _ _ _ rfl (World.ownsRow_made w #[] 0 (Nat.le_refl _) (Nat.zero_le _) rfl) ad r.length sc css.flatten rfl ?qc1 ?qc2 ?qc3 ?qc4 ?qc5 ?qc6 ?_)
  case qc1=>simp[Ty.sz]
  case qc2 =>
   intro j v hj
   exact Lib.cell?_alloc_some _ (hnews j v hj)
  case qc3 =>
   intro v cs h1 h2
   obtain⟨x,_,h3⟩:=sv hall h1
   exact cK.one _ h3 v h2
  case qc4=>unfold maxLen;omega
  case qc5=>omega
  intro v' w1 hown hgrow hnil
  go_wp2
  go_ret
  refine⟨v',css.flatten,rfl,by simpa [Ty.sz]using hown,hf,bn.of_below ?_⟩
  exact((Below.refl _ w).alloc (Nat.le_refl _) _).grown hgrow (by simp) (by intro k hk;simp[Value.ownBlock]at hk;omega)
theorem vF{K:gA}:xE Tryz.prog K (114,wy (.int .i64) 3 dS) :=
 ⟨kH Tryz.func114 (by kernel_rfl) (by kernel_rfl),yp (fun w I xs r u hx _ hI hu=>xj w I xs r u hx hI hu)⟩
theorem OG{W:World}(hG:ap W):xE Tryz.prog (gA.of W) (114,Qe):=vF
set_option maxHeartbeats 2000000 in
set_option maxRecDepth 100000 in
theorem xk (w:World) (I:Nat→Prop) (xs r:List (Int×(Int×Int))) (u:Value) (hx:gm xs=some r) (hI:∀b,I b→b<w.heap.size) (hu:cK I w (.sl (.pr (.int .i64) (.pr (.int .i64) (.int .i64)))) xs [u]) :
  Calls Tryz.prog 104 #[u] w fun e w'=>∃v' vs,e = .returned v'∧w'.ownsRow w.heap.size 89 (.pr (.int .i64) (.pr (.int .i64) (.int .i64)):Ty).sz v' r.length vs∧bv I w (.pr (.int .i64) (.pr (.int .i64) (.int .i64))) r vs∧bn (fun _ _=>False) w w':=by
 have hb:xs.length≤4294967296∧r=xs:=by
  unfold gm at hx
  cases q:decide (xs.length≤4294967296)with
  |false=>rw[q]at hx;cases hx
  |true=>rw[q]at hx;exact⟨of_decide_eq_true q,(Option.some.inj hx).symm⟩
 obtain⟨hb,rfl⟩:=hb
 obtain⟨sa,sc,css,hus,hlc,hall,hcells⟩:=hu
 obtain rfl:u = .slice sa (List.length r) sc:=List.head_eq_of_cons_eq hus
 have q22:∀(w:World) (a:Option Addr) (n c n' c':Nat),(binOp .eql 24 (.slice a n c) (.slice none n' c')).run Tryz.prog w = .ok (.bool a.isNone) w:=fun w a n c n' c'=>Lib.run_eql_slice_nil w _ _ a n c n' c' Tryz.underlying24
 have hf:bv I w (.pr (.int .i64) (.pr (.int .i64) (.int .i64))) r css.flatten:=⟨css,hall,rfl⟩
 cases sa with
 |none =>
  have hnil:r=[]:=by
   rcases hcells with h|⟨b,off,h,_⟩
   ·exact h
   ·cases h
  subst hnil
  go_enter Tryz.func104,Tryz.ntmps104
  go_wp2
  go_ret
  exact⟨_,rfl,[],World.ownsRow_nil _ _ _ _,bv.nil,bn.refl _ _⟩
 |some ad =>
  obtain⟨i0,hi,hz0,hz1,hz2⟩:∃i,Tryz.prog.info? 89=some i∧i.size=3∧i.bytes=24∧i.zero=some (.agg #[.int .i64 0, .int .i64 0, .int .i64 0]):=by
   obtain⟨i,h1,h2⟩:=Option.map_eq_some_iff.1 (show(Tryz.prog.info? 89).map (fun i=>(i.size,i.bytes,i.zero))=some (3,24,some (.agg #[.int .i64 0, .int .i64 0, .int .i64 0]))by kernel_rfl)
   obtain⟨h3,h4⟩:=Prod.mk.inj h2
   obtain⟨h4,h5⟩:=Prod.mk.inj h4
   exact⟨i,h1,h3,h4,h5⟩
  have hlen:=hf.len
  have hnews:∀j v,css.flatten[j]?=some v→w.cell? (ad.add j)=some v:=fun j v hj=>by
   rcases hcells with h|⟨b,off,h,_,hc⟩
   ·subst h
    have:css.flatten=[]:=List.eq_nil_of_length_eq_zero (by rw[hlen];simp)
    rw[this]at hj
    cases hj
   ·obtain rfl:=Option.some.inj h
    rw[Addr.add_lit]
    exact hc j v hj
  go_enter Tryz.func104,Tryz.ntmps104
  go_wp2_with (at_builtin;refine wpList_append_own _ rfl _ _ 24 rfl w.heap.size 89 i0 (.agg #[.int .i64 0, .int .i64 0, .int .i64 0]) 3 24 Tryz.underlying24 hi hz2 hz0 hz1 rfl (by decide) _ _ _ rfl (World.ownsRow_made w #[] 0 (Nat.le_refl _) (Nat.zero_le _) rfl) ad r.length sc css.flatten rfl ?qc1 ?qc2 ?qc3 ?qc4 ?qc5 ?qc6 ?_)
  case qc1=>simp[Ty.sz]
  case qc2 =>
   intro j v hj
   exact Lib.cell?_alloc_some _ (hnews j v hj)
  case qc3 =>
   intro v cs h1 h2
   obtain⟨x,_,h3⟩:=sv hall h1
   exact cK.one _ h3 v h2
  case qc4=>unfold maxLen;omega
  case qc5=>omega
  intro v' w1 hown hgrow hnil
  go_wp2
  go_ret
  refine⟨v',css.flatten,rfl,by simpa [Ty.sz]using hown,hf,bn.of_below ?_⟩
  exact((Below.refl _ w).alloc (Nat.le_refl _) _).grown hgrow (by simp) (by intro k hk;simp[Value.ownBlock]at hk;omega)
theorem ue{K:gA}:xE Tryz.prog K (104,wy (.pr (.int .i64) (.pr (.int .i64) (.int .i64))) 89 gm) :=
 ⟨kH Tryz.func104 (by kernel_rfl) (by kernel_rfl),yp (fun w I xs r u hx _ hI hu=>xk w I xs r u hx hI hu)⟩
theorem OH{W:World}(hG:ap W):xE Tryz.prog (gA.of W) (104,Qf):=ue
def fU:Go.Shelf.Ren:=⟨fun|21=>242|27=>267|28=>268|35=>290|39=>301|n=>n,fun|22=>29|3=>3|4=>4|0=>0|n=>n,fun n=>n⟩
theorem pK:Go.Proofs.Lays2.n21 Tryz.prog fU:={
 mixed:=by kernel_rfl
 f21:=Tryz.func242.trans (congrArg some (by kernel_rfl))
 f27:=Tryz.func267.trans (congrArg some (by kernel_rfl))
 f28:=Tryz.func268.trans (congrArg some (by kernel_rfl))
 f35:=Tryz.func290.trans (congrArg some (by kernel_rfl))
 f39:=Tryz.func301.trans (congrArg some (by kernel_rfl))
 t0:=Tryz.underlying0
 a0:=Tryz.isAgg0
 z0:=Tryz.sizeOf0
 v0:=Tryz.zeroValue0
 t3:=Tryz.underlying3
 a3:=Tryz.isAgg3
 z3:=Tryz.sizeOf3
 v3:=Tryz.zeroValue3
 t4:=Tryz.underlying4
 a4:=Tryz.isAgg4
 z4:=Tryz.sizeOf4
 v4:=Tryz.zeroValue4
 t22:=Tryz.underlying29
 a22:=Tryz.isAgg29
 z22:=Tryz.sizeOf29
 v22:=Tryz.zeroValue29
 i3:=by kernel_rfl }
theorem qj{b:Nat}{t:TypeId}{fz:Nat×Nat}:∀(vs:List Value) (o:Nat) (w:World) (cur:Array Value),w.heap[b]?=some (.cells cur t fz)→o+vs.length≤cur.size→∃cur',(w.setCells b o vs).heap[b]?=some (.cells cur' t fz)∧cur'.size=cur.size∧cur'.toList=cur.toList.take o++vs++cur.toList.drop (o+vs.length)
 |[],o,w,cur,h,_=>⟨cur,h,rfl,by simp⟩
 |v::r,o,w,cur,h,hl=>by
  have hl':o+(r.length+1)≤cur.size:=hl
  have hb:b<w.heap.size:=by
   rcases Nat.lt_or_ge b w.heap.size with q|q
   ·exact q
   ·rw[Array.getElem?_eq_none q]at h;cases h
  have h1:(w.setCell ⟨b,o,none⟩ v).heap[b]?=some (.cells (cur.setIfInBounds o v) t fz):=by
   unfold World.setCell
   dsimp only
   rw[Array.getElem?_modify,if_pos rfl,h]
   rfl
  obtain⟨cur',e1,e2,e3⟩:=qj r (o+1) (w.setCell ⟨b,o,none⟩ v) (cur.setIfInBounds o v) h1 (by rw[Array.size_setIfInBounds];omega)
  refine⟨cur',e1,by rw[e2,Array.size_setIfInBounds],?_⟩
  have ho:o<cur.toList.length:=by rw[Array.length_toList];omega
  rw[e3,Array.toList_setIfInBounds,List.length_cons,show o+1+r.length=o+(r.length+1)by omega]
  have t1:(cur.toList.set o v).take (o+1)=cur.toList.take o++[v]:=by
   rw[List.take_add_one,List.take_set_of_le (Nat.le_refl _),List.getElem?_set_self ho];rfl
  have t2:(cur.toList.set o v).drop (o+(r.length+1))=cur.toList.drop (o+(r.length+1)):=List.drop_set_of_lt (by omega)
  rw[t1,t2]
  simp
theorem qi (b:Nat):∀(vs:List Value) (o:Nat) (w:World),bn (fun x _=>x=b) w (w.setCells b o vs)
 |[],o,w=>bn.refl _ _
 |v::r,o,w=>by
  refine bn.trans (T:=fun x _=>x=b) ?_ (qi b r (o+1) (w.setCell ⟨b,o,none⟩ v)) (fun k j q _=>q)
  refine⟨rfl,rfl,rfl,?_,fun k hk=>?_⟩
  ·show w.heap.size≤(w.heap.modify b _).size
   rw[Array.size_modify];exact Nat.le_refl _
  ·have e:(w.setCell ⟨b,o,none⟩ v).heap[k]?=if b=k then(w.heap[k]?).map (fun | .cells c elem frozen => .cells (c.setIfInBounds o v) elem frozen|o=>o)else w.heap[k]?:=by
    unfold World.setCell
    dsimp only
    rw[Array.getElem?_modify]
    rfl
   rw[e]
   by_cases q:b=k
   ·rw[if_pos q]
    cases w.heap[k]? with
    |none=>exact dP.refl _ _
    |some ob =>
     cases ob with
     |cells c t fz =>
      refine⟨_,_,rfl,by rw[Array.size_setIfInBounds],fun j hj=>absurd q.symm hj,fun⟨j,hj⟩=>absurd q.symm hj⟩
     |_=>exact dP.refl _ _
   ·rw[if_neg q];exact dP.refl _ _
theorem tN{w:World}{g:Nat}{cur:Array Value}{t:TypeId}{fz:Nat×Nat}(h:w.heap[g]?=some (.cells cur t fz)) (j:Nat):w.cell? ⟨g,0+j,none⟩=cur[j]?:=by
 simp only[World.cell?,h,Nat.zero_add]
 rfl
set_option maxHeartbeats 2000000 in
theorem Ai (w:World) (v:Value) (V:List Value) (n:Nat) (k:Int) (vb p:Nat) (hp:p≤n) (hone:∀u∈V,u.oneCell'=true) (hown:w.ownsRow 0 3 1 v n V) (hvb:w.heap[vb]?=some (.cells #[.int .i64 k] 3 (0,0))) (hne:∀b,v.ownBlock=some b→b≠vb) (hn:n≤4294967296) :
  Calls Tryz.prog 242 #[v, .int .i64 p, .slice (some ⟨vb,0,none⟩) 1 1] w fun e w'=>∃v',e = .returned v'∧w'.ownsRow 0 3 1 v' (n+1) (V.take p++[.int .i64 k]++V.drop p)∧bn (fun b _=>v.ownBlock=some b) w w'∧∀b,v'.ownBlock=some b→v.ownBlock=some b∨w.heap.size≤b:=by
 have hVl:V.length=n:=by have:=hown.1;omega
 have hvs:∀j u,([.int .i64 k]:List Value)[j]?=some u→w.cell? ⟨vb,0+j,none⟩=some u:=fun j u hj=>by
  rw[tN hvb]
  match j,hj with
  |0,hj=>exact hj
 have h1v:∀u∈([.int .i64 k]:List Value),u.oneCell'=true:=fun u hu=>by rw[List.mem_singleton.1 hu];rfl
 have hmax:(maxLen:Nat)=9223372036854775807:=by decide
 have hlen:(V.take p++[Value.int .i64 k]++V.drop p).length=(n+1)*1:=by
  simp only[List.length_append,List.length_take,List.length_drop,List.length_singleton]
  omega
 rcases hown.2 with⟨rfl,hn0⟩|⟨g,cap,cur,rfl,_,hg,hnc,hcm,hcs,hrow⟩
 ·-- nil
  have hp0:p=n:=by omega
  have hV0:V=[]:=List.eq_nil_of_length_eq_zero (by omega)
  subst hV0
  subst hn0
  subst hp0
  have h:=Any2.slices_Insert_int_end_grow pK none 0 0 vb 0 1 1 [] [.int .i64 k] w (by decide) (Nat.le_refl _) (by decide) (by decide) rfl rfl (fun _=>rfl) (fun a ha=>by cases ha) hvs h1v
  refine h.mono fun e w' hq=>?_
  obtain⟨rfl,rfl⟩:=hq
  have hge:=grownCap_ge w (0+1) 0 (fU.t 3)
  have hle:=grownCap_le_maxLen w (0+1) 0 (fU.t 3) (by rw[hmax];decide)
  generalize grownCap w (0+1) 0 (fU.t 3)=G at hge hle ⊢
  refine⟨_,rfl,⟨hlen, .inr ⟨w.heap.size,_,_,rfl,Nat.zero_le _,heap_alloc_new w.drew _,hge,hle,?_,?_⟩⟩,(bn.drew _ w).trans (bn.alloc _ _ _) (fun _ _ q _=>q),fun b hb => .inr ?_⟩
  ·rw[Array.size_append,size_zeroCells]
   have:(Value.int .i64 0).cells.size=1:=rfl
   rw[this]
   show 1+(G-(0+1))*1=G*1
   omega
  ·rw[Array.toList_append]
   simp
  ·simp only[Value.ownBlock,Option.some.injEq]at hb
   omega
 ·have hgs:g<w.heap.size:=by
   rcases Nat.lt_or_ge g w.heap.size with q|q
   ·exact q
   ·rw[Array.getElem?_eq_none q]at hg;cases hg
  have hgv:g≠vb:=hne g rfl
  have hcs:cur.size=cap:=by omega
  have hrow:cur.toList.take n=V:=by rw[Nat.mul_one]at hrow;exact hrow
  have hcV:∀j u,V[j]?=some u→w.cell? ⟨g,0+j,none⟩=some u:=fun j u hj=>by
   rw[tN hg, ←Array.getElem?_toList]
   rw[←hrow,List.getElem?_take]at hj
   split at hj
   ·exact hj
   ·cases hj
  have hsome:∀j,j<cap→(w.cell? ⟨g,0+j,none⟩).isSome=true:=fun j hj=>by
   rw[tN hg,Array.getElem?_eq_getElem (by omega)];rfl
  have hfr:∀j,w.frozen? ⟨g,0+j,none⟩=false:=fun j=>by simp[World.frozen?,hg]
  have hown':∀(W:World),bn (fun x _=>x=g) w W→bn (fun b _=>(Value.slice (some ⟨g,0,none⟩) n cap).ownBlock=some b) w W:=fun W h=>h.mono fun b _ q=>by rw[q];rfl
  have hnew:∀(W:World),bn (fun _ _=>False) w W→bn (fun b _=>(Value.slice (some ⟨g,0,none⟩) n cap).ownBlock=some b) w W:=fun W h=>h.mono fun b _ q=>q.elim
  by_cases hr:n+1≤cap
  ·by_cases hpn:p=n
   ·-- at the end,in place
    subst hpn
    have h:=Any2.slices_Insert_int_end_room pK g 0 p cap vb 0 1 1 [.int .i64 k] w (by decide) hr (by rw[←hmax];exact hcm) rfl (fun j hj=>by rw[show 0+p+j=0+(p+j)by omega];exact hsome _ (by omega)) (fun j hj=>by rw[show 0+p+j=0+(p+j)by omega];exact hfr _) hvs h1v
    refine h.mono fun e w' hq=>?_
    obtain⟨rfl,rfl⟩:=hq
    obtain⟨cur',e1,e2,e3⟩:=qj [.int .i64 k] (0+p) w cur hg (by simp;omega)
    refine⟨_,rfl,⟨hlen, .inr ⟨g,cap,cur',rfl,Nat.zero_le _,e1,hr,hcm,by omega,?_⟩⟩,hown' _ (qi g _ _ _),fun b hb => .inl hb⟩
    rw[e3,Nat.zero_add,hrow,Nat.mul_one,List.take_append_of_le_length (by simp;omega),List.take_of_length_le (by simp;omega)]
    rw[List.take_of_length_le (Nat.le_of_eq hVl),List.drop_eq_nil_of_le (Nat.le_of_eq hVl),List.append_nil]
   ·-- within,in place
    have h:=Any2.slices_Insert_int_shift pK g 0 n cap p vb 0 1 1 V [.int .i64 k] w (by omega) (by decide) hr (by rw[←hmax];exact hcm) (Ne.symm hgv) hVl rfl hcV (fun j hj=>hsome _ (by omega)) (fun j hj=>hfr _) hvs hone h1v 3 3 1 cap (by simp[World.shape?,hvb]) (by simp[World.shape?,hg,hcs]) (by omega) (by simp[World.frozen?,hvb]) (by simp[World.frozen?,hvb])
    refine h.mono fun e w' hq=>?_
    obtain⟨rfl,rfl⟩:=hq
    obtain⟨c1,e1,e2,e3⟩:=qj (V.drop p) (0+(p+1)) w.drew cur hg (by rw[List.length_drop];omega)
    obtain⟨c2,f1,f2,f3⟩:=qj [.int .i64 k] (0+p) _ c1 e1 (by simp;omega)
    refine⟨_,rfl,⟨hlen, .inr ⟨g,cap,c2,rfl,Nat.zero_le _,f1,hr,hcm,by omega,?_⟩⟩,hown' _ (((bn.drew _ w).trans (qi g _ _ _) (fun _ _ q _=>q)).trans (qi g _ _ _) (fun _ _ q _=>q)),fun b hb => .inl hb⟩
    have hL:cur.toList.length=cap:=by rw[Array.length_toList];exact hcs
    have ht:cur.toList.take p=V.take p:=by rw[←hrow,List.take_take,Nat.min_eq_left hp]
    have hd:(V.drop p).length=n-p:=by rw[List.length_drop,hVl]
    have hpl:(V.take p).length=p:=by rw[List.length_take];omega
    have g1:c1.toList.take p=V.take p:=by
     rw[e3,Nat.zero_add,List.append_assoc,List.take_append_of_le_length (by rw[List.length_take];omega),List.take_take,Nat.min_eq_left (by omega),ht]
    have g2:c1.toList.drop (p+1)=V.drop p++cur.toList.drop (p+1+(n-p)):=by
     rw[e3,Nat.zero_add,hd,List.append_assoc,List.drop_left' (by rw[List.length_take];omega)]
    rw[f3,Nat.zero_add,g1,List.length_singleton,g2,Nat.mul_one, ←List.append_assoc,List.take_append_of_le_length (by simp only[List.length_append,hpl,hd,List.length_singleton];omega),List.take_of_length_le (by simp only[List.length_append,hpl,hd,List.length_singleton];omega)]
  ·by_cases hpn:p=n
   ·-- at the end,in a new row
    subst hpn
    have h:=Any2.slices_Insert_int_end_grow pK (some ⟨g,0,none⟩) p cap vb 0 1 1 V [.int .i64 k] w (by decide) hnc (by omega) (by omega) hVl rfl (fun q=>by cases q) (fun a ha j u hj=>by obtain rfl:=Option.some.inj ha;rw[Addr.add_lit];exact hcV j u hj) hvs h1v
    refine h.mono fun e w' hq=>?_
    obtain⟨rfl,rfl⟩:=hq
    have hge:=grownCap_ge w (p+1) cap (fU.t 3)
    have hle:=grownCap_le_maxLen w (p+1) cap (fU.t 3) (by rw[hmax];omega)
    refine⟨_,rfl,⟨hlen, .inr ⟨w.heap.size,_,_,rfl,Nat.zero_le _,heap_alloc_new w.drew _,hge,hle,?_,?_⟩⟩,hnew _ ((bn.drew _ w).trans (bn.alloc _ _ _) (fun _ _ q _=>q)),fun b hb => .inr ?_⟩
    ·rw[Array.size_append,size_zeroCells]
     have:(Value.int .i64 0).cells.size=1:=rfl
     rw[this]
     simp[hVl]
     omega
    ·rw[Array.toList_append,Nat.mul_one,List.take_append_of_le_length (by simp[hVl]),List.take_of_length_le (by simp[hVl])]
     simp[List.take_of_length_le (Nat.le_of_eq hVl),List.drop_eq_nil_of_le (Nat.le_of_eq hVl)]
    ·simp only[Value.ownBlock,Option.some.injEq]at hb
     omega
   ·-- within,in a new row
    have h:=Any2.slices_Insert_int_grow pK g 0 n cap p vb 0 1 1 V [.int .i64 k] w (by omega) (by decide) hnc (by omega) (by omega) hVl rfl hcV hvs hone h1v
    refine h.mono fun e w' hq=>?_
    obtain⟨rfl,rfl⟩:=hq
    have hge:=grownCap_ge w (n+1) cap (fU.t 3)
    have hle:=grownCap_le_maxLen w (n+1) cap (fU.t 3) (by rw[hmax];omega)
    generalize grownCap w (n+1) cap (fU.t 3)=G at hge hle ⊢
    have z1:(Value.int .i64 0).cells.size=1:=rfl
    have hpl:(V.take p).length=p:=by rw[List.length_take];omega
    have hd:(V.drop p).length=n-p:=by rw[List.length_drop,hVl]
    have s0:((V.take p).toArray++Builtin.zeroCells (Value.int .i64 0).cells (n+1-p)++Builtin.zeroCells (Value.int .i64 0).cells (G-(n+1))).size=G:=by
     simp only[Array.size_append,size_zeroCells,z1,List.size_toArray,hpl]
     omega
    have l0:((V.take p).toArray++Builtin.zeroCells (Value.int .i64 0).cells (n+1-p)++Builtin.zeroCells (Value.int .i64 0).cells (G-(n+1))).toList.take p=V.take p:=by
     rw[Array.toList_append,Array.toList_append,List.append_assoc,List.take_append_of_le_length (by show _≤(V.take p).length;omega)]
     exact List.take_of_length_le (by show(V.take p).length≤_;omega)
    generalize ((V.take p).toArray++Builtin.zeroCells (Value.int .i64 0).cells (n+1-p)++Builtin.zeroCells (Value.int .i64 0).cells (G-(n+1)))=C at s0 l0 ⊢
    have hw:(w.alloc (.cells C (fU.t 3))).heap[w.heap.size]?=some (.cells C (fU.t 3) (0,0)):=heap_alloc_new w _
    obtain⟨c1,e1,e2,e3⟩:=qj [.int .i64 k] p (w.alloc (.cells C (fU.t 3))).drew C hw (by simp;omega)
    obtain⟨c2,f1,f2,f3⟩:=qj (V.drop p) (p+1) (((w.alloc (.cells C (fU.t 3))).drew.setCells w.heap.size p [.int .i64 k]).drew) c1 e1 (by rw[hd];omega)
    have hst:bn (fun _ _=>False) w ((((w.alloc (.cells C (fU.t 3))).drew.setCells w.heap.size p [.int .i64 k]).drew).setCells w.heap.size (p+1) (V.drop p)):=by
     have a1:bn (fun x _=>x=w.heap.size) w ((((w.alloc (.cells C (fU.t 3))).drew.setCells w.heap.size p [.int .i64 k]).drew).setCells w.heap.size (p+1) (V.drop p)) :=
      ((((bn.alloc _ w _).trans (bn.drew _ _) (fun _ _ q _=>q)).trans (qi _ _ _ _) (fun _ _ q _=>q)).trans (bn.drew _ _) (fun _ _ q _=>q)).trans (qi _ _ _ _) (fun _ _ q _=>q)
     exact(bn.refl (fun _ _=>False) w).trans a1 (fun k j q hk=>by omega)
    refine⟨_,rfl,⟨hlen, .inr ⟨w.heap.size,G,c2,rfl,Nat.zero_le _,f1,hge,hle,by omega,?_⟩⟩,hnew _ hst,fun b hb => .inr ?_⟩
    ·rw[f3,hd,Nat.mul_one,e3]
     have g1:(C.toList.take p++[Value.int .i64 k]++C.toList.drop (p+[Value.int .i64 k].length)).take (p+1)=V.take p++[.int .i64 k]:=by
      rw[l0,List.take_append_of_le_length (by simp[hpl]),List.take_of_length_le (by simp[hpl])]
     rw[g1,List.take_append_of_le_length (by simp only[List.length_append,hpl,hd,List.length_singleton];omega),List.take_of_length_le (by simp only[List.length_append,hpl,hd,List.length_singleton];omega)]
    ·simp only[Value.ownBlock,Option.some.injEq]at hb
     omega
theorem Aj (k:Int):∀{xs:List Int},xs.Pairwise (·≤·)→oD k xs=xs.take (xs.countP (·<k))++[k]++xs.drop (xs.countP (·<k))
 |[],_=>rfl
 |v::r,h=>by
  have h':=List.pairwise_cons.1 h
  by_cases q:v<k
  ·have e:(v::r).countP (·<k)=r.countP (·<k)+1:=List.countP_cons_of_pos (by simpa using q)
   rw[e,oD,if_pos q,Aj k h'.2]
   rfl
  ·have e0:r.countP (·<k)=0:=List.countP_eq_zero.2 fun x hx=>by
    have:=h'.1 x hx
    simp only[decide_eq_true_eq]
    omega
   have e:(v::r).countP (·<k)=0:=by rw[List.countP_cons_of_neg (by simpa using q),e0]
   rw[e,oD,if_neg q]
   rfl
structure Nd (w:World) (p:Nat) (c:Bool) (e:Ending) (w':World):Prop where
 e:e = .returned (.tuple #[.int .i64 (p:Int), .bool c])
 w:∃q,w'=w.drewN q
theorem xn (w:World) (v:Value) (xs:List Int) (k:Int) (p:Nat) (c:Bool) (hp:xs.countP (·<k)=p) (hcc:xs.contains k=c) (hn:xs.length≤4294967296) (hs:xs.Pairwise (·≤·)) (hown:w.ownsRow 0 3 1 v xs.length (xs.map (Value.int .i64))) :
  Calls Tryz.prog 241 #[v, .int .i64 k] w (Nd w p c):=by
 subst hp;subst hcc
 rcases hown.2 with⟨rfl,hn0⟩|⟨g,cap,cur,rfl,_,hg,hnc,hcm,hcs,hrow⟩
 ·obtain rfl:=List.eq_nil_of_length_eq_zero hn0
  refine(Tryz.slices_BinarySearch_int_empty none 0 k w).mono fun e w' h=>?_
  exact⟨h.1,0,h.2⟩
 ·have h:=Tryz.slices_BinarySearch_int g 0 xs.length cap xs k w (Nat.le_refl _) (by omega) (fun j hj=>by
   rw[tN hg, ←Array.getElem?_toList]
   have e:(cur.toList.take (xs.length*1))[j]?=(xs.map (Value.int .i64))[j]?:=by rw[hrow]
   rw[List.getElem?_take,if_pos (by omega)]at e
   rw[e,List.getElem?_map,List.getElem?_eq_getElem hj]
   simp[List.getD_eq_getElem?_getD,List.getElem?_eq_getElem hj]) (by rw[List.take_length];exact hs)
  rw[List.take_length]at h
  exact h.mono fun e w' q=>⟨q.1,q.2⟩
theorem yl{w:World}{base e size:Nat}{v:Value}{n:Nat}{vs:List Value}(h:w.ownsRow base e size v n vs) (q:Nat):(w.drewN q).ownsRow base e size v n vs:=h
set_option maxHeartbeats 4000000 in
set_option maxRecDepth 100000 in
theorem xT (w:World) (v:Value) (xs:List Int) (k:Int) (r:List Int) (bb:Bool) (hx:jn (xs,k)=some (r,bb)) (hown:w.ownsRow 0 3 1 v xs.length (xs.map (Value.int .i64))) :
  Calls Tryz.prog 215 #[v, .int .i64 k] w fun e w'=>∃v',e = .returned (.tuple #[v', .bool bb])∧w'.ownsRow 0 3 1 v' r.length (r.map (Value.int .i64))∧bn (fun b _=>v.ownBlock=some b) w w'∧∀b,v'.ownBlock=some b→v.ownBlock=some b∨w.heap.size≤b:=by
 unfold jn at hx
 dsimp only at hx
 split at hx
 ·rename_i hc
  obtain⟨hn,hs⟩:=hc
  obtain⟨sa,sl,sc,rfl⟩:=wx hown
  have hsl:sl=xs.length:=by
   rcases hown.2 with⟨e,h0⟩|⟨_,_,_,e,_⟩
   ·injection e with _ e2 _
    omega
   ·injection e
  subst hsl
  split at hx
  ·rename_i hin
   obtain⟨rfl,rfl⟩:=Prod.mk.inj (Option.some.inj hx)
   go_enter Tryz.func215,Tryz.ntmps215
   go_wp2_with (go_at_call 241;refine(xn w _ xs k _ true rfl hin hn hs hown).mono ?_)
   rintro e w1 ⟨rfl,q,rfl⟩
   go_wp2
   go_ret2
   exact⟨_,rfl,yl hown q,(bn.drewN w q).mono (fun _ _ q=>q.elim),fun b hb => .inl hb⟩
  ·rename_i hin
   have hin:xs.contains k=false:=by simpa using hin
   split at hx
   ·rename_i h2
    obtain⟨rfl,rfl⟩:=Prod.mk.inj (Option.some.inj hx)
    have h200:¬((xs.length:Int)<200):=by omega
    go_enter Tryz.func215,Tryz.ntmps215
    go_wp2_with (go_at_call 241;refine(xn w _ xs k _ false rfl hin hn hs hown).mono ?_)
    rintro e w1 ⟨rfl,q,rfl⟩
    go_wp2
    go_ret2
    exact⟨_,rfl,yl hown q,(bn.drewN w q).mono (fun _ _ q=>q.elim),fun b hb => .inl hb⟩
   ·rename_i h2
    obtain⟨rfl,rfl⟩:=Prod.mk.inj (Option.some.inj hx)
    have h200:(xs.length:Int)<200:=by omega
    have hp:=List.countP_le_length (p:=fun x:Int=>decide (x<k)) (l:=xs)
    go_enter Tryz.func215,Tryz.ntmps215
    go_wp2_with (go_at_call 241;refine(xn w _ xs k _ false rfl hin hn hs hown).mono ?_)
    rintro e w1 ⟨rfl,q,rfl⟩
    have hblk:∀b,(Value.slice sa xs.length sc).ownBlock=some b→b<w.heap.size:=fun b hb=>(hown.lt b hb).2
    have hown1:((w.drewN q).alloc (.cells #[.int .i64 k] 3)).ownsRow 0 3 1 (.slice sa xs.length sc) xs.length (xs.map (Value.int .i64)):=by
     refine⟨hown.1,hown.2.imp id ?_⟩
     rintro ⟨g,cap,cur,e1,e2,e3,e4⟩
     refine⟨g,cap,cur,e1,e2,?_,e4⟩
     have hg:g<w.heap.size:=hblk g (by rw[e1];rfl)
     exact(RowKit.Below.heap_alloc (w.drewN q) _ g hg).trans e3
    go_wp2_with (go_at_call 242;refine(Ai ((w.drewN q).alloc (.cells #[.int .i64 k] 3)) _ (xs.map (Value.int .i64)) xs.length k w.heap.size (xs.countP fun x=>decide (x<k)) hp (fun u hu=>?hone) hown1 ?hvb (fun b hb=>?hne) hn).mono ?_)
    case hone=>obtain⟨x,_,rfl⟩:=List.mem_map.1 hu;rfl
    case hvb=>exact heap_alloc_new (w.drewN q) _
    case hne=>have:=hblk b hb;omega
    rintro e w2 ⟨v',rfl,ho2,hs2,hb2⟩
    go_wp2
    go_ret2
    have hL:(oD k xs).length=xs.length+1:=by
     rw[Aj k hs]
     simp only[List.length_append,List.length_take,List.length_drop,List.length_singleton]
     omega
    refine⟨v',rfl,?_,?_,fun b hb=>?_⟩
    ·rw[hL,Aj k hs,List.map_append,List.map_append,List.map_take,List.map_drop]
     exact ho2
    ·exact((bn.drewN w q).mono (fun _ _ q=>q.elim) |>.trans (bn.alloc (fun b _=>(Value.slice sa xs.length sc).ownBlock=some b) (w.drewN q) _) (fun _ _ q _=>q)).trans hs2 (fun _ _ q _=>q)
    ·rcases hb2 b hb with h|h
     ·exact .inl h
     ·right
      have:w.heap.size≤((w.drewN q).alloc (.cells #[.int .i64 k] 3)).heap.size:=(bn.alloc (fun _ _=>False) (w.drewN q) _).size
      omega
 ·cases hx
theorem NZ{W:World}(hG:ap W):xE Tryz.prog (gA.of W) (215,P9) :=
 ⟨kH Tryz.func215 (by kernel_rfl) (by kernel_rfl),C1 (fun w v xs k r bb hx _ ho=>xT w v xs k r bb hx ho)⟩
end AM
end Go.Proofs.YtobpcllkonomlaaGreatDoor
