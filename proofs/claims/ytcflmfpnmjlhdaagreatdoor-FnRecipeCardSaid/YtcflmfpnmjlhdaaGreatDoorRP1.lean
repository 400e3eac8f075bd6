/- The library's functions, by their contracts. Under: what the rows list of the library's variables. And what follows it: see the remarks. -/
import Derived.Test.YtcflmfpnmjlhdaaGreatDoorRALd
import Derived.Test.YtcflmfpnmjlhdaaGreatDoorRShelf
import Derived.Test.YtcflmfpnmjlhdaaGreatDoorRW4
import Derived.Lib.SliceRun
import Derived.Shelf.Slices.In.SortNone
import Derived.Sort.OwnSortedInts
import Derived.Lib.SlicesCompact
import Derived.Lib.RowBridge
namespace Go.Proofs.YtcflmfpnmjlhdaaGreatDoor
namespace AM
open Go
set_option linter.unusedVariables false
structure au (W:World):Prop where
 tab:Lib.TabIs Tryz.prog W "internal/strconv.uint64pow10" .u64 Lib.pow10Tab
 es:∃ev,W.cell? ⟨1,0,none⟩=some ev∧(ev = .nilIface∨∃te pe,ev = .iface te pe)
 er:∃ev,W.cell? ⟨2,0,none⟩=some ev∧(ev = .nilIface∨∃te pe,ev = .iface te pe)
theorem O6{W:World}(hG:au W):sW Tryz.prog (eN.of W) (55,R9) :=
 ⟨gp Tryz.func55 (by kernel_rfl) (by kernel_rfl),zR (ps:=[.int .i64]) (rs:=[.str]) (g:=n9) rfl rfl (fun w x r hx hK=>by
  simp only[n9]at hx
  split at hx
  ·rename_i hs
   obtain rfl:=Option.some.inj hx
   refine(Tryz.strconv_Itoa x hs.1 hs.2 w (eN.of_tab hK hG.tab)).mono fun e w' h=>⟨h.1,?_⟩
   obtain⟨k,os,rfl⟩:=h.2
   exact bT.trans (bT.drewN w k) (bT.grow _ os) (fun _ _ q=>q.elim)
  ·cases hx)⟩
theorem LZ{W:World}(hG:au W):sW Tryz.prog (eN.of W) (114,MZ) :=
 ⟨gp Tryz.func114 (by kernel_rfl) (by kernel_rfl),uK (ps:=[.str]) (rs:=[.i (.int .i64), .e]) (g:=oc) rfl rfl (fun w s r hx hK=>by
  simp only[oc]at hx
  split at hx
  ·rename_i hs
   cases hv:Lib.atoiAll (ByteArray.data s).toList with
   |ok v =>
    rw[hv]at hx
    obtain rfl:=Option.some.inj hx
    refine(Tryz.strconv_Atoi_ok _ (by omega) v hv w).mono fun e w' h=>⟨[.int .i64 v, .nilIface],h.1,⟨rfl,⟨false,rfl,rfl⟩,trivial⟩,?_⟩
    rcases h.2 with rfl|⟨t,rfl⟩
    ·exact bT.refl _ _
    ·exact bT.of_below (Lib.bytesWorld_below _ _ _)
   |range =>
    rw[hv]at hx
    obtain rfl:=Option.some.inj hx
    obtain⟨ev,h1,h2⟩:=hG.er
    refine(Tryz.strconv_Atoi_range _ hs hv ev w (eN.of_cell hK h1) h2).mono fun e w' h=>?_
    obtain⟨N,h3,_,_,h4⟩:=h
    exact⟨[.int .i64 _,_],h3,⟨rfl,⟨true,rfl,_,_,rfl⟩,trivial⟩,bT.of_below h4⟩
   |_ =>
    rw[hv]at hx
    obtain rfl:=Option.some.inj hx
    obtain⟨ev,h1,h2⟩:=hG.es
    refine(Any.strconv_Atoi_syntax Tryz.laysC172 _ hs hv ev w (eN.of_cell hK h1) h2).mono fun e w' h=>?_
    obtain⟨N,h3,_,_,h4⟩:=h
    exact⟨[.int .i64 0,_],h3,⟨rfl,⟨true,rfl,_,_,rfl⟩,trivial⟩,bT.of_below h4⟩
  ·cases hx)⟩
theorem wX{kt:Ty}{k:kt.den}{x:Int}(hr:kt.eqv k k=true):∀{m:List (kt.den×Int)}{i j:Nat}{v:Int},bR kt k m i=some (j,v)→bR kt k (m.set (j-i) (k,x)) i=some (j,x)
 |[],_,_,_,h=>by cases h
 |p::r,i,j,v,h=>by
  unfold bR at h
  cases q:kt.eqv k p.1 with
  |true =>
   rw[q]at h
   obtain⟨rfl,rfl⟩:=Prod.mk.inj (Option.some.inj h)
   rw[Nat.sub_self,List.set_cons_zero]
   unfold bR
   rw[hr];rfl
  |false =>
   rw[q]at h
   have h:bR kt k r (i+1)=some (j,v):=h
   obtain⟨h1,_⟩:=lj h
   rw[show j-i=(j-(i+1))+1 by omega,List.set_cons_succ]
   unfold bR
   rw[q]
   exact wX hr h
theorem uN{kt:Ty}{k:kt.den}{x:Int}(hr:kt.eqv k k=true):∀{m:List (kt.den×Int)}{i:Nat},bR kt k m i=none→bR kt k (m++[(k,x)]) i=some (i+m.length,x)
 |[],i,_=>by
  show bR kt k [(k,x)] i=_
  unfold bR
  rw[hr];simp
 |p::r,i,h=>by
  unfold bR at h
  cases q:kt.eqv k p.1 with
  |true=>rw[q]at h;cases h
  |false =>
   rw[q]at h
   have h:bR kt k r (i+1)=none:=h
   show bR kt k (p::(r++[(k,x)])) i=_
   unfold bR
   rw[q]
   have:=uN (x:=x) hr h
   simp only[cond_false,this,List.length_cons]
   congr 2;omega
theorem rW{kt:Ty}{k:kt.den}{x:Int}{m:List (kt.den×Int)}(hr:kt.eqv k k=true):fH kt k (kQ kt k x m)=x:=by
 unfold fH kQ
 cases h:bR kt k m 0 with
 |some p =>
  obtain⟨j,v⟩:=p
  have:=wX (x:=x) hr h
  rw[Nat.sub_zero]at this
  simp only[this]
 |none=>simp only[uN hr h]
theorem cX (n:Nat) (x):ba n x=aL n x:=by
 obtain⟨x0,x1,x2,x3,x4,xr⟩:=x
 have e:(Ty.pr (.int .i64) (.pr (.int .i64) (.int .i64))).eqv (x2,(x3,x4)) (x2,(x3,x4))=true:=by simp[Ty.eqv]
 unfold ba aL
 dsimp only
 rw[rW e]
end AM
end Go.Proofs.YtcflmfpnmjlhdaaGreatDoor
namespace Go.Proofs.YtcflmfpnmjlhdaaGreatDoor
namespace AM
open Go Go.Shelf Go.RowKit
set_option linter.unusedVariables false
theorem qp {α β:Type}{R:α→β→Prop}:∀{xs:List α}{ys:List β},aI R xs ys→∀{b:β},b∈ys→∃a,a∈xs∧R a b
 |[],[],_,_,h=>by cases h
 |[],_::_,h,_,_=>h.elim
 |_::_,[],h,_,_=>h.elim
 |a::xs,b::ys,h,c,hc=>by
  rcases List.mem_cons.1 hc with e|e
  ·subst e;exact⟨a,List.mem_cons_self ..,h.1⟩
  ·obtain⟨x,h1,h2⟩:=qp h.2 e
   exact⟨x,List.mem_cons_of_mem _ h1,h2⟩
set_option maxHeartbeats 2000000 in
set_option maxRecDepth 100000 in
theorem vq (w:World) (I:Nat→Prop) (xs r:List (Int)) (u:Value) (hx:eE xs=some r) (hI:∀b,I b→b<w.heap.size) (hu:cL I w (.sl (.int .i64)) xs [u]) :
  Calls Tryz.prog 136 #[u] w fun e w'=>∃v' vs,e = .returned v'∧w'.ownsRow w.heap.size 3 (.int .i64:Ty).sz v' r.length vs∧bz I w (.int .i64) r vs∧bT (fun _ _=>False) w w':=by
 have hb:xs.length≤4294967296∧r=xs:=by
  unfold eE at hx
  cases q:decide (xs.length≤4294967296)with
  |false=>rw[q]at hx;cases hx
  |true=>rw[q]at hx;exact⟨of_decide_eq_true q,(Option.some.inj hx).symm⟩
 obtain⟨hb,rfl⟩:=hb
 obtain⟨sa,sc,css,hus,hlc,hall,hcells⟩:=hu
 obtain rfl:u = .slice sa (List.length r) sc:=List.head_eq_of_cons_eq hus
 have q22:∀(w:World) (a:Option Addr) (n c n' c':Nat),(binOp .eql 27 (.slice a n c) (.slice none n' c')).run Tryz.prog w = .ok (.bool a.isNone) w:=fun w a n c n' c'=>Lib.run_eql_slice_nil w _ _ a n c n' c' Tryz.underlying27
 have hf:bz I w (.int .i64) r css.flatten:=⟨css,hall,rfl⟩
 cases sa with
 |none =>
  have hnil:r=[]:=by
   rcases hcells with h|⟨b,off,h,_⟩
   ·exact h
   ·cases h
  subst hnil
  go_enter Tryz.func136,Tryz.ntmps136
  go_wp2
  go_ret
  exact⟨_,rfl,[],World.ownsRow_nil _ _ _ _,bz.nil,bT.refl _ _⟩
 |some ad =>
  obtain⟨i0,hi,hz0,hz1,hz2⟩:∃i,Tryz.prog.info? 3=some i∧i.size=1∧i.bytes=8∧i.zero=some (.int .i64 0):=by
   obtain⟨i,h1,h2⟩:=Option.map_eq_some_iff.1 (show(Tryz.prog.info? 3).map (fun i=>(i.size,i.bytes,i.zero))=some (1,8,some (.int .i64 0))by kernel_rfl)
   obtain⟨h3,h4⟩:=Prod.mk.inj h2
   obtain⟨h4,h5⟩:=Prod.mk.inj h4
   exact⟨i,h1,h3,h4,h5⟩
  have hlen:=hf.len
  have hnews:∀j v,css.flatten[j]?=some v→w.cell? (ad.add j)=some v:=fun j v hj=>by
   rcases hcells with h|⟨b,off,h,_,hc⟩
   ·subst h
    have:css.flatten=[]:=List.eq_nil_of_length_eq_zero (by rw[hlen];simp)
    rw[this]at hj
    cases hj
   ·obtain rfl:=Option.some.inj h
    rw[Addr.add_lit]
    exact hc j v hj
  go_enter Tryz.func136,Tryz.ntmps136
  go_wp2_with (at_builtin;refine wpList_append_own _ rfl _ _ 27 rfl w.heap.size 3 i0 (.int .i64 0) 1 8 Tryz.underlying27 hi hz2 hz0 hz1 rfl (by decide) _ _ _ rfl (World.ownsRow_made w #[] 0 (Nat.le_refl _) (Nat.zero_le _) rfl) ad r.length sc css.flatten rfl ?qc1 ?qc2 ?qc3 ?qc4 ?qc5 ?qc6 ?_)
  case qc1=>simp[Ty.sz]
  case qc2 =>
   intro j v hj
   exact Lib.cell?_alloc_some _ (hnews j v hj)
  case qc3 =>
   intro v cs h1 h2
   obtain⟨x,_,h3⟩:=qp hall h1
   exact cL.one _ h3 v h2
  case qc4=>unfold maxLen;omega
  case qc5=>omega
  intro v' w1 hown hgrow hnil
  go_wp2
  go_ret
  refine⟨v',css.flatten,rfl,by simpa [Ty.sz]using hown,hf,bT.of_below ?_⟩
  exact((Below.refl _ w).alloc (Nat.le_refl _) _).grown hgrow (by simp) (by intro k hk;simp[Value.ownBlock]at hk;omega)
theorem tJ{K:eN}:sW Tryz.prog K (136,uE (.int .i64) 3 eE) :=
 ⟨gp Tryz.func136 (by kernel_rfl) (by kernel_rfl),wP (fun w I xs r u hx _ hI hu=>vq w I xs r u hx hI hu)⟩
theorem LK{W:World}(hG:au W):sW Tryz.prog (eN.of W) (136,MY):=tJ
set_option maxHeartbeats 2000000 in
set_option maxRecDepth 100000 in
theorem wg (w:World) (I:Nat→Prop) (xs r:List (Int×(Int×Int))) (u:Value) (hx:fO xs=some r) (hI:∀b,I b→b<w.heap.size) (hu:cL I w (.sl (.pr (.int .i64) (.pr (.int .i64) (.int .i64)))) xs [u]) :
  Calls Tryz.prog 66 #[u] w fun e w'=>∃v' vs,e = .returned v'∧w'.ownsRow w.heap.size 74 (.pr (.int .i64) (.pr (.int .i64) (.int .i64)):Ty).sz v' r.length vs∧bz I w (.pr (.int .i64) (.pr (.int .i64) (.int .i64))) r vs∧bT (fun _ _=>False) w w':=by
 have hb:xs.length≤4294967296∧r=xs:=by
  unfold fO at hx
  cases q:decide (xs.length≤4294967296)with
  |false=>rw[q]at hx;cases hx
  |true=>rw[q]at hx;exact⟨of_decide_eq_true q,(Option.some.inj hx).symm⟩
 obtain⟨hb,rfl⟩:=hb
 obtain⟨sa,sc,css,hus,hlc,hall,hcells⟩:=hu
 obtain rfl:u = .slice sa (List.length r) sc:=List.head_eq_of_cons_eq hus
 have q22:∀(w:World) (a:Option Addr) (n c n' c':Nat),(binOp .eql 24 (.slice a n c) (.slice none n' c')).run Tryz.prog w = .ok (.bool a.isNone) w:=fun w a n c n' c'=>Lib.run_eql_slice_nil w _ _ a n c n' c' Tryz.underlying24
 have hf:bz I w (.pr (.int .i64) (.pr (.int .i64) (.int .i64))) r css.flatten:=⟨css,hall,rfl⟩
 cases sa with
 |none =>
  have hnil:r=[]:=by
   rcases hcells with h|⟨b,off,h,_⟩
   ·exact h
   ·cases h
  subst hnil
  go_enter Tryz.func66,Tryz.ntmps66
  go_wp2
  go_ret
  exact⟨_,rfl,[],World.ownsRow_nil _ _ _ _,bz.nil,bT.refl _ _⟩
 |some ad =>
  obtain⟨i0,hi,hz0,hz1,hz2⟩:∃i,Tryz.prog.info? 74=some i∧i.size=3∧i.bytes=24∧i.zero=some (.agg #[.int .i64 0, .int .i64 0, .int .i64 0]):=by
   obtain⟨i,h1,h2⟩:=Option.map_eq_some_iff.1 (show(Tryz.prog.info? 74).map (fun i=>(i.size,i.bytes,i.zero))=some (3,24,some (.agg #[.int .i64 0, .int .i64 0, .int .i64 0]))by kernel_rfl)
   obtain⟨h3,h4⟩:=Prod.mk.inj h2
   obtain⟨h4,h5⟩:=Prod.mk.inj h4
   exact⟨i,h1,h3,h4,h5⟩
  have hlen:=hf.len
  have hnews:∀j v,css.flatten[j]?=some v→w.cell? (ad.add j)=some v:=fun j v hj=>by
   rcases hcells with h|⟨b,off,h,_,hc⟩
   ·subst h
    have:css.flatten=[]:=List.eq_nil_of_length_eq_zero (by rw[hlen];simp)
    rw[this]at hj
    cases hj
   ·obtain rfl:=Option.some.inj h
    rw[Addr.add_lit]
    exact hc j v hj
  go_enter Tryz.func66,Tryz.ntmps66
  go_wp2_with (at_builtin;refine wpList_append_own _ rfl _ _ 24 rfl w.heap.size 74 i0 (.agg #[.int .i64 0, .int .i64 0, .int .i64 0]) 3 24 Tryz.underlying24 hi hz2 hz0 hz1 rfl (by decide) _ _ _ rfl (World.ownsRow_made w #[] 0 (Nat.le_refl _) (Nat.zero_le _) rfl) ad r.length sc css.flatten rfl ?qc1 ?qc2 ?qc3 ?qc4 ?qc5 ?qc6 ?_)
  case qc1=>simp[Ty.sz]
  case qc2 =>
   intro j v hj
   exact Lib.cell?_alloc_some _ (hnews j v hj)
  case qc3 =>
   intro v cs h1 h2
   obtain⟨x,_,h3⟩:=qp hall h1
   exact cL.one _ h3 v h2
  case qc4=>unfold maxLen;omega
  case qc5=>omega
  intro v' w1 hown hgrow hnil
  go_wp2
  go_ret
  refine⟨v',css.flatten,rfl,by simpa [Ty.sz]using hown,hf,bT.of_below ?_⟩
  exact((Below.refl _ w).alloc (Nat.le_refl _) _).grown hgrow (by simp) (by intro k hk;simp[Value.ownBlock]at hk;omega)
theorem rS{K:eN}:sW Tryz.prog K (66,uE (.pr (.int .i64) (.pr (.int .i64) (.int .i64))) 74 fO) :=
 ⟨gp Tryz.func66 (by kernel_rfl) (by kernel_rfl),wP (fun w I xs r u hx _ hI hu=>wg w I xs r u hx hI hu)⟩
theorem O2{W:World}(hG:au W):sW Tryz.prog (eN.of W) (66,R8):=rS
end AM
end Go.Proofs.YtcflmfpnmjlhdaaGreatDoor
namespace Go.Proofs.YtcflmfpnmjlhdaaGreatDoor
namespace AM
open Go Go.Shelf Go.RowKit Go.Sort Go.Proofs
set_option linter.unusedVariables false
theorem uh{w w':World}{g:Nat}{c c':Array Value}{t:TypeId}{fz:Nat×Nat}(h:w.grownBy w' (some g)) (h1:w.heap[g]?=some (.cells c t fz)) (h2:w'.heap[g]?=some (.cells c' t fz)) (hs:c'.size=c.size):bT (fun b _=>b=g) w w':=by
 obtain⟨e1,e2,e3,e4,e5⟩:=h
 refine⟨e1,e2,e3,e4,fun k hk=>?_⟩
 by_cases q:k=g
 ·subst q
  rw[h1,h2]
  exact⟨_,_,rfl,hs,fun j hj=>absurd rfl hj,fun⟨j,hj⟩=>absurd rfl hj⟩
 ·exact dV.of_eq (e5 k hk (fun e=>q (Option.some.inj e)))
theorem Bb (w:World) (v:Value) (xs r:List Int) (hx:j8 xs=some r) (hown:w.ownsRow 0 3 1 v xs.length (xs.map (Value.int .i64))) :
  Calls Tryz.prog 137 #[v] w fun e w'=>e = .returned (.tuple #[])∧w'.ownsRow 0 3 1 v r.length (r.map (Value.int .i64))∧bT (fun b _=>v.ownBlock=some b) w w':=by
 unfold j8 at hx
 split at hx
 ·rename_i hl
  obtain rfl:=Option.some.inj hx
  have hlen:(xs.mergeSort fun x y=>decide (x≤y)).length=xs.length:=List.length_mergeSort ..
  rcases hown.2 with⟨rfl,hn⟩|⟨g,cap,cur,rfl,hbase,hg,hnc,hcm,hcs,hrow⟩
  ·obtain rfl:=List.eq_nil_of_length_eq_zero hn
   refine(Any.slices_Sort_int_none Tryz.lays189 none 0 w).mono fun e w' h=>?_
   obtain⟨rfl,rfl⟩:=h
   exact⟨rfl,by simpa using hown,bT.refl _ _⟩
  ·have hgs:g<w.heap.size:=(Array.getElem?_eq_some_iff.1 hg).1
   refine(Tryz.slices_Sort_int g 0 cap xs w (holds_of_blockI hg (by simpa using hrow)) hgs (by omega)).mono fun e w' h=>?_
   obtain⟨rfl,n,os,rfl⟩:=h
   refine⟨rfl,?_,(uh (grownBy_sortedI _) hg (heap_sortedI _ hg) (by simp[putCells])).mono fun b o q=>by rw[q];rfl⟩
   rw[hlen]
   exact ownsRow_sortedI hlen hbase hg hnc hcm hcs
 ·cases hx
theorem BR (w:World) (v:Value) (xs r:List Int) (hx:gt xs=some r) (hown:w.ownsRow 0 3 1 v xs.length (xs.map (Value.int .i64))) :
  Calls Tryz.prog 139 #[v] w fun e w'=>∃v',e = .returned v'∧w'.ownsRow 0 3 1 v' r.length (r.map (Value.int .i64))∧bT (fun b _=>v.ownBlock=some b) w w'∧∀b,v'.ownBlock=some b→v.ownBlock=some b∨w.heap.size≤b:=by
 unfold gt at hx
 split at hx
 ·rename_i hl
  obtain rfl:=Option.some.inj hx
  rcases hown.2 with⟨rfl,hn⟩|⟨g,cap,cur,rfl,hbase,hg,hnc,hcm,hcs,hrow⟩
  ·obtain rfl:=List.eq_nil_of_length_eq_zero hn
   refine(Tryz.slices_Compact_int_empty none 0 w).mono fun e w' h=>?_
   obtain⟨rfl,rfl⟩:=h
   exact⟨_,rfl,by simpa [Lib.compact,Lib.compactUpTo]using hown,bT.refl _ _,fun b hb => .inl hb⟩
  ·have hle:=Lib.compact_length_le xs
   refine(Tryz.slices_Compact_int g 0 cap xs w (holds_of_blockI hg (by simpa using hrow)) (by omega) hnc).mono fun e w' h=>?_
   obtain⟨rfl,q,rfl⟩:=h
   have hz:(Lib.compact xs++List.replicate (xs.length-(Lib.compact xs).length) 0).length=xs.length:=by simp;omega
   have hh:=heap_sortedI (n:=q) (os:=#[]) (Lib.compact xs++List.replicate (xs.length-(Lib.compact xs).length) (0:Int)).toArray hg
   rw[grow_empty]at hh
   have hgr:=grownBy_sortedI (w:=w) (g:=g) (n:=q) (os:=#[]) (Lib.compact xs++List.replicate (xs.length-(Lib.compact xs).length) (0:Int)).toArray
   rw[grow_empty]at hgr
   refine⟨_,rfl,⟨by simp, .inr ⟨g,cap,_,rfl,Nat.zero_le _,hh,by omega,hcm,by simp[putCells];omega,?_⟩⟩,(uh hgr hg hh (by simp[putCells])).mono fun b o q=>by rw[q];rfl,fun b hb => .inl hb⟩
   have ht:=take_putCellsI cur (Lib.compact xs++List.replicate (xs.length-(Lib.compact xs).length) (0:Int)) (by rw[hz];omega)
   have h2:=congrArg (List.take (Lib.compact xs).length) ht
   rw[List.take_take,Nat.min_eq_left (by rw[hz];exact hle)]at h2
   rw[Nat.mul_one,h2,List.map_append,List.take_append_of_le_length (by simp),List.take_of_length_le (by simp)]
 ·cases hx
set_option maxHeartbeats 1000000 in
theorem BS (w:World) (v:Value) (xs r:List Int) (hx:lN xs=some r) (hown:w.ownsRow 0 3 1 v xs.length (xs.map (Value.int .i64))) :
  r=xs∧Calls Tryz.prog 138 #[v] w fun e w'=>e = .returned (C8 v)∧w'=w:=by
 refine⟨(Option.some.inj hx).symm,?_⟩
 rcases hown.2 with⟨rfl,hn⟩|⟨g,cap,cur,rfl,hbase,hg,hnc,hcm,hcs,hrow⟩
 ·go_enter Tryz.func138,Tryz.ntmps138
  go_wp2
  go_ret
  exact⟨rfl,rfl⟩
 ·go_enter Tryz.func138,Tryz.ntmps138
  go_wp2
  go_ret
  exact⟨rfl,rfl⟩
theorem LJ{W:World}(hG:au W):sW Tryz.prog (eN.of W) (137,MX) :=
 ⟨gp Tryz.func137 (by kernel_rfl) (by kernel_rfl),Bz fun w v xs r hx _ ho=>Bb w v xs r hx ho⟩
theorem LH{W:World}(hG:au W):sW Tryz.prog (eN.of W) (139,MV) :=
 ⟨gp Tryz.func139 (by kernel_rfl) (by kernel_rfl),BA fun w v xs r hx _ ho=>BR w v xs r hx ho⟩
theorem LI{W:World}(hG:au W):sW Tryz.prog (eN.of W) (138,MW) :=
 ⟨gp Tryz.func138 (by kernel_rfl) (by kernel_rfl),BB fun w v xs r hx _ ho=>BS w v xs r hx ho⟩
end AM
end Go.Proofs.YtcflmfpnmjlhdaaGreatDoor
