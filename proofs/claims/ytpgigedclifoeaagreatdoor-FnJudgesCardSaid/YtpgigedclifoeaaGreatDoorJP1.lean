/- The library's functions, by their contracts. Under: what the rows list of the library's variables. And what follows it: see the remarks. -/
import Derived.Test.YtpgigedclifoeaaGreatDoorJALd
import Derived.Test.YtpgigedclifoeaaGreatDoorJShelf
import Derived.WalkKit
import Derived.Lib.Walk
import Derived.Lib.Builder
import Derived.Lib.AppendStr
import Derived.Lib.UnsafeStr
import Derived.Deep.LoopGhost
import Derived.Deep.RegionWith
import Derived.Test.YtpgigedclifoeaaGreatDoorJW4
import Derived.Lib.SliceRun
import Derived.Shelf.Slices.In.SortNone
import Derived.Sort.OwnSortedInts
import Derived.Lib.SlicesCompact
import Derived.Lib.RowBridge
namespace Go.Proofs.YtpgigedclifoeaaGreatDoor
namespace AM
open Go
set_option linter.unusedVariables false
structure af (W:World):Prop where
 mx:∃m,W.cell? ⟨0,0,none⟩=some (.int .i64 m)
 tab:Lib.TabIs Tryz.prog W "internal/strconv.uint64pow10" .u64 Lib.pow10Tab
 es:∃ev,W.cell? ⟨1,0,none⟩=some ev∧(ev = .nilIface∨∃te pe,ev = .iface te pe)
 er:∃ev,W.cell? ⟨2,0,none⟩=some ev∧(ev = .nilIface∨∃te pe,ev = .iface te pe)
theorem WS{W:World}(hG:af W):pO Tryz.prog (fE.of W) (220,ZG) :=
 ⟨dT Tryz.func220 (by kernel_rfl) (by kernel_rfl),Aw (ps:=[.int .i64]) (rs:=[.str]) (g:=xN) rfl rfl (fun w x r hx hK=>by
  simp only[xN]at hx
  split at hx
  ·rename_i hs
   obtain rfl:=Option.some.inj hx
   refine(Tryz.strconv_Itoa x hs.1 hs.2 w (fE.of_tab hK hG.tab)).mono fun e w' h=>⟨h.1,?_⟩
   obtain⟨k,os,rfl⟩:=h.2
   exact bY.trans (bY.drewN w k) (bY.grow _ os) (fun _ _ q=>q.elim)
  ·cases hx)⟩
theorem Xy{W:World}(hG:af W):pO Tryz.prog (fE.of W) (141,ZN) :=
 ⟨dT Tryz.func141 (by kernel_rfl) (by kernel_rfl),Aw (ps:=[.str, .str]) (rs:=[.str, .str, .bool]) (g:=Bf) rfl rfl (fun w x r hx hK=>by
  obtain⟨s,sep⟩:=x
  simp only[Bf]at hx
  split at hx
  ·rename_i hs
   obtain rfl:=Option.some.inj hx
   obtain⟨m,hm⟩:=hG.mx
   refine(Tryz.strings_Cut s sep m w hs (fE.of_cell hK hm)).mono fun e w' h=>⟨h.1,?_⟩
   obtain⟨k,rfl⟩:=h.2
   exact bY.drewN w k
  ·cases hx)⟩
theorem WU{W:World}(hG:af W):pO Tryz.prog (fE.of W) (219,ZH) :=
 ⟨dT Tryz.func219 (by kernel_rfl) (by kernel_rfl),BR (ps:=[.str]) (rs:=[.i (.int .i64), .e]) (g:=xO) rfl rfl (fun w s r hx hK=>by
  simp only[xO]at hx
  split at hx
  ·rename_i hs
   cases hv:Lib.atoiAll (ByteArray.data s).toList with
   |ok v =>
    rw[hv]at hx
    obtain rfl:=Option.some.inj hx
    refine(Tryz.strconv_Atoi_ok _ (by omega) v hv w).mono fun e w' h=>⟨[.int .i64 v, .nilIface],h.1,⟨rfl,⟨false,rfl,rfl⟩,trivial⟩,?_⟩
    rcases h.2 with rfl|⟨t,rfl⟩
    ·exact bY.refl _ _
    ·exact bY.of_below (Lib.bytesWorld_below _ _ _)
   |range =>
    rw[hv]at hx
    obtain rfl:=Option.some.inj hx
    obtain⟨ev,h1,h2⟩:=hG.er
    refine(Tryz.strconv_Atoi_range _ hs hv ev w (fE.of_cell hK h1) h2).mono fun e w' h=>?_
    obtain⟨N,h3,_,_,h4⟩:=h
    exact⟨[.int .i64 _,_],h3,⟨rfl,⟨true,rfl,_,_,rfl⟩,trivial⟩,bY.of_below h4⟩
   |_ =>
    rw[hv]at hx
    obtain rfl:=Option.some.inj hx
    obtain⟨ev,h1,h2⟩:=hG.es
    refine(Any.strconv_Atoi_syntax Tryz.laysC172 _ hs hv ev w (fE.of_cell hK h1) h2).mono fun e w' h=>?_
    obtain⟨N,h3,_,_,h4⟩:=h
    exact⟨[.int .i64 0,_],h3,⟨rfl,⟨true,rfl,_,_,rfl⟩,trivial⟩,bY.of_below h4⟩
  ·cases hx)⟩
theorem DQ{kt:Ty}{k:kt.den}{x:Int}(hr:kt.eqv k k=true):∀{m:List (kt.den×Int)}{i j:Nat}{v:Int},cN kt k m i=some (j,v)→cN kt k (m.set (j-i) (k,x)) i=some (j,x)
 |[],_,_,_,h=>by cases h
 |p::r,i,j,v,h=>by
  unfold cN at h
  cases q:kt.eqv k p.1 with
  |true =>
   rw[q]at h
   obtain⟨rfl,rfl⟩:=Prod.mk.inj (Option.some.inj h)
   rw[Nat.sub_self,List.set_cons_zero]
   unfold cN
   rw[hr];rfl
  |false =>
   rw[q]at h
   have h:cN kt k r (i+1)=some (j,v):=h
   obtain⟨h1,_⟩:=qd h
   rw[show j-i=(j-(i+1))+1 by omega,List.set_cons_succ]
   unfold cN
   rw[q]
   exact DQ hr h
theorem B0{kt:Ty}{k:kt.den}{x:Int}(hr:kt.eqv k k=true):∀{m:List (kt.den×Int)}{i:Nat},cN kt k m i=none→cN kt k (m++[(k,x)]) i=some (i+m.length,x)
 |[],i,_=>by
  show cN kt k [(k,x)] i=_
  unfold cN
  rw[hr];simp
 |p::r,i,h=>by
  unfold cN at h
  cases q:kt.eqv k p.1 with
  |true=>rw[q]at h;cases h
  |false =>
   rw[q]at h
   have h:cN kt k r (i+1)=none:=h
   show cN kt k (p::(r++[(k,x)])) i=_
   unfold cN
   rw[q]
   have:=B0 (x:=x) hr h
   simp only[cond_false,this,List.length_cons]
   congr 2;omega
theorem vn{kt:Ty}{k:kt.den}{x:Int}{m:List (kt.den×Int)}(hr:kt.eqv k k=true):fZ kt k (mU kt k x m)=x:=by
 unfold fZ mU
 cases h:cN kt k m 0 with
 |some p =>
  obtain⟨j,v⟩:=p
  have:=DQ (x:=x) hr h
  rw[Nat.sub_zero]at this
  simp only[this]
 |none=>simp only[B0 hr h]
theorem d6 (n:Nat) (x):bu n x=aP n x:=by
 obtain⟨x0,x1,x2,x3,x4,xr⟩:=x
 have e:(Ty.pr (.int .i64) (.pr (.int .i64) (.int .i64))).eqv (x2,(x3,x4)) (x2,(x3,x4))=true:=by simp[Ty.eqv]
 unfold bu aP
 dsimp only
 rw[vn e]
end AM
end Go.Proofs.YtpgigedclifoeaaGreatDoor
namespace Go.Proofs.YtpgigedclifoeaaGreatDoor
namespace AM
open Go Go.Shelf Go.RowKit
set_option linter.unusedVariables false
set_option maxHeartbeats 1000000 in
set_option maxRecDepth 100000 in
theorem yC (b:Nat) (w:World) (h0:w.cell? ⟨b,0,none⟩=some (.pointer (some ⟨b,0,none⟩))) :
  Calls Tryz.prog 199 #[.pointer (some ⟨b,0,none⟩)] w fun e w'=>e = .returned (.tuple #[])∧w'=w:=by
 have X:=Tryz.Builder_Extra_169.toX72
 obtain⟨j,hj,_⟩:=Option.map_eq_some_iff.1 X.sizeBuilder
 go_enter Tryz.func199,Tryz.ntmps199
 go_wp2
 rw[Lib.run_neq_ptr_same w _ Tryz.underlying185 hj]
 go_wp2
 go_end0
 exact⟨rfl,rfl⟩
set_option maxHeartbeats 1000000 in
set_option maxRecDepth 100000 in
theorem xh (b:Nat) (w:World) (h0:w.cell? ⟨b,0,none⟩=some (.pointer none)) (hsh:w.shape? b=some (187,2)) (hfz:w.frozen? ⟨b,0,none⟩=false) :
  Calls Tryz.prog 199 #[.pointer (some ⟨b,0,none⟩)] w fun e w'=>e = .returned (.tuple #[])∧w'=w.setCell ⟨b,0,none⟩ (.pointer (some ⟨b,0,none⟩)):=by
 have X:=Tryz.Builder_Extra_169.toX72
 obtain⟨j,hj,hjs⟩:=Option.map_eq_some_iff.1 X.sizeBuilder
 go_enter Tryz.func199,Tryz.ntmps199
 go_wp2
 rw[Lib.run_to_unsafe w ⟨b,0,none⟩ Tryz.underlying185 Tryz.underlying235 hj (by rw[hjs];decide) hsh (Nat.zero_lt_succ 1)]
 simp only[Result.andThen]
 rw[Oper.upon_value]
 go_wp2
 rw[run_callFunc_extern Tryz.func230 (by kernel_rfl) (by kernel_rfl) (by kernel_rfl) (e:=Extern.AbiNoEscape.same) (by kernel_rfl)]
 rw[Lib.run_noEscape]
 simp only[Result.andThen]
 rw[Oper.upon_value]
 go_wp2
 rw[Lib.run_from_unsafe w ⟨b,0,none⟩ Tryz.underlying235 Tryz.underlying185 hj hsh X.liesBuilder]
 simp only[Result.andThen]
 rw[Oper.upon_value]
 go_wp2
 go_end0
 exact⟨rfl,rfl⟩
theorem FY (B b:Nat) (bs:List Value) (w:World) (h:Lib.IsBuilder 187 5 B b bs w) :
  Calls Tryz.prog 199 #[.pointer (some ⟨b,0,none⟩)] w fun e w'=>e = .returned (.tuple #[])∧(Lib.BuilderAt 187 5 B b (.pointer (some ⟨b,0,none⟩)) bs w'∧Below B w w'):=by
 rcases h with h|h
 ·refine(xh b w h.cell0 h.shape h.frozen0).mono ?_
  rintro e w' ⟨rfl,rfl⟩
  exact⟨rfl,h.used _,(Below.refl B w).setCell (p:=⟨b,0,none⟩) h.1 _⟩
 ·refine(yC b w h.cell0).mono ?_
  rintro e w' ⟨rfl,rfl⟩
  exact⟨rfl,h,Below.refl B _⟩
set_option maxHeartbeats 2000000 in
set_option maxRecDepth 100000 in
theorem CC (B b:Nat) (bs:List Value) (s:ByteArray) (w:World) (h:Lib.IsBuilder 187 5 B b bs w) (hlen:bs.length+s.size≤140737488355328) (hBw:B≤w.heap.size) :
  Calls Tryz.prog 179 #[.pointer (some ⟨b,0,none⟩), .string s] w fun e w'=>e = .returned (.tuple #[.int .i64 s.size, .nilIface])∧(Lib.BuilderAt 187 5 B b (.pointer (some ⟨b,0,none⟩)) (bs++Lib.strCells s) w'∧Below B w w'):=by
 have X:=Tryz.Builder_Extra_169
 obtain⟨i0,hi,hz0,hz1,hz2⟩:=info_parts X.infoByte
 go_enter Tryz.func179,Tryz.ntmps179
 go_wp2_with (go_at_call 199;refine(FY B b bs _ h).mono ?_)
 rintro e w1 ⟨rfl,h1,hb1⟩
 obtain⟨hB,v,hbk,hown,hne⟩:=h1
 have c0:w1.cell? ⟨b,0,none⟩=some (.pointer (some ⟨b,0,none⟩)):=by rw[Lib.cell_of_heap hbk];rfl
 have c1:w1.cell? ⟨b,1,none⟩=some v:=by rw[Lib.cell_of_heap hbk];rfl
 go_wp2_with (at_builtin;refine Lib.wpList_append_own_string _ rfl _ _ 22 9 rfl B 5 i0 Tryz.underlying22 Tryz.underlying9 hi hz0 hz1 hz2 _ _ _ rfl hown s rfl ?c3 ?c4 ?c5 ?_)
 case c3=>unfold maxLen;omega
 case c4=>omega
 case c5=>have:=hb1.size;omega
 intro v' w2 hown' hgrow _
 have hlt:b<w1.heap.size:=by
  rcases Nat.lt_or_ge b w1.heap.size with h'|h'
  ·exact h'
  ·simp[Array.getElem?_eq_none h']at hbk
 have hb2:w2.heap[b]?=some (.cells #[.pointer (some ⟨b,0,none⟩),v] 187 (0,0)):=by
  rw[hgrow.block b hlt (fun e=>hne e.symm)]
  exact hbk
 have d0:w2.cell? ⟨b,0,none⟩=some (.pointer (some ⟨b,0,none⟩)):=by rw[Lib.cell_of_heap hb2];rfl
 have d1:w2.cell? ⟨b,1,none⟩=some v:=by rw[Lib.cell_of_heap hb2];rfl
 have f1:w2.frozen? ⟨b,1,none⟩=false:=Lib.frozen_of_heap hb2 1
 obtain⟨ao,n',cap,rfl⟩:∃ao n' cap,v' = .slice ao n' cap:=by
  rcases hown'.2 with⟨hv,_⟩|⟨g,cap,cur,hv,_⟩
  ·exact⟨_,_,_,hv⟩
  ·exact⟨_,_,_,hv⟩
 go_wp2
 go_ret2
 refine⟨rfl,?_,?_⟩
 ·exact Lib.BuilderAt.put (T:=187) (e:=5) hB hb2 (bs':=bs++Lib.strCells s) (by simpa [Lib.strCells_length]using hown') X.neB5
 ·exact(hb1.grown hgrow (by have:=hb1.size;omega) (fun k hk=>(hown.lt k hk).1)).setCell (p:=⟨b,1,none⟩) hB _
theorem I8{K:fE}{n:Nat}(h:pO Tryz.prog K (177,Kt n)){w:World}(hK:K.ok w) (hKb:∀b,K.blk b→b<w.heap.size){x:Int}{r:ByteArray}(hx:oy n x=some r) :
  Calls Tryz.prog 177 #[.int .i64 x] w fun e w'=>e = .returned (.string r)∧bY (fun _ _=>False) w w':=by
 let Y:t7:={ K:=K,N:=1,w0:=w,E:=fun _ _=>False,I0:=fun b=>b<w.heap.size }
 have hrel:ce Y (fun _=>undef) (fun b=>b<w.heap.size) (fu (aC 0 (Kt n).pars) x) ⟨#[.int .i64 x],[]⟩ w:=by
  refine⟨rfl,rfl,fun i hi=>?_,fun i hi=>?_,fun _ _ h=>(by cases h),fun _ _ _ _ h=>(by cases h),fun _ _ h=>(by cases h),fun b hb=>⟨hb, .inl hb⟩,fun b hb=>hb,bY.refl _ _,hK,hKb⟩
  ·obtain rfl:i=0:=by have:i<1:=hi;omega
   show dD (fun b=>b<w.heap.size) w (.int .i64) x [.int .i64 x]
   rfl
  ·have hi:1≤i:=hi
   match i,hi with
   |i+1,_=>rfl
 have hc:=h.2 Y _ _ ⟨#[.int .i64 x],[]⟩ w x r hx hrel rfl rfl rfl
 refine hc.mono fun e w' h=>?_
 obtain⟨v,L',I',a',rfl,hR,_,rfl⟩:=h
 have hs:a'.tmps.getD 1 undef = .string r:=List.head_eq_of_cons_eq (hR.slot 1)
 exact⟨congrArg Ending.returned hs,hR.step⟩
abbrev Dg:Ty := .pr (.int .i64) .str
theorem Jm{K:fE}{n:Nat}(h:pO Tryz.prog K (143,Ku n)){w:World}(hK:K.ok w) (hKb:∀b,K.blk b→b<w.heap.size){x:List (Int×ByteArray)}{u:Value}(hu:dD (fun b=>b<w.heap.size) w (.sl Dg) x [u]){r:Bool}(hx:oA n x=some r) :
  Calls Tryz.prog 143 #[u] w fun e w'=>e = .returned (.bool r)∧bY (fun _ _=>False) w w':=by
 let Y:t7:={ K:=K,N:=1,w0:=w,E:=fun _ _=>False,I0:=fun b=>b<w.heap.size }
 have hrel:ce Y (fun _=>undef) (fun b=>b<w.heap.size) (fu (aC 0 (Ku n).pars) x) ⟨#[u],[]⟩ w:=by
  refine⟨rfl,rfl,fun i hi=>?_,fun i hi=>?_,fun _ _ h=>(by cases h),fun _ _ _ _ h=>(by cases h),fun _ _ h=>(by cases h),fun b hb=>⟨hb, .inl hb⟩,fun b hb=>hb,bY.refl _ _,hK,hKb⟩
  ·obtain rfl:i=0:=by have:i<1:=hi;omega
   exact hu
  ·have hi:1≤i:=hi
   match i,hi with
   |i+1,_=>rfl
 have hc:=h.2 Y _ _ ⟨#[u],[]⟩ w x r hx hrel rfl rfl rfl
 refine hc.mono fun e w' h=>?_
 obtain⟨v,L',I',a',rfl,hR,_,rfl⟩:=h
 have hs:a'.tmps.getD 1 undef = .bool r:=List.head_eq_of_cons_eq (hR.slot 1)
 exact⟨congrArg Ending.returned hs,hR.step⟩
theorem yB{B b:Nat}{bs:List Value}{w w':World}(h:Lib.IsBuilder 187 5 B b bs w) (hb:Below w.heap.size w w'):Lib.IsBuilder 187 5 B b bs w':=by
 have one:∀{p:Value},Lib.BuilderAt 187 5 B b p bs w→Lib.BuilderAt 187 5 B b p bs w':=by
  rintro p ⟨hB,v,h1,h2,h3⟩
  have lt:∀{k:Nat}{o:Go.Obj},w.heap[k]?=some o→k<w.heap.size:=fun h=>(Array.getElem?_eq_some_iff.1 h).1
  refine⟨hB,v,(hb.block b (lt h1)).trans h1,⟨h2.1,h2.2.imp id ?_⟩,h3⟩
  rintro ⟨g,cap,cur,hv,hb',hg,rest⟩
  exact⟨g,cap,cur,hv,hb',(hb.block g (lt hg)).trans hg,rest⟩
 exact h.imp one one
theorem Wf (acc:List UInt8):(⟨acc.toArray⟩:ByteArray).size=acc.length:=by simp[ByteArray.size]
theorem Qo (s:ByteArray):s.data.toList.length=s.size:=Array.length_toList
theorem UJ (acc:List UInt8) (s:ByteArray):(⟨(acc++s.data.toList).toArray⟩:ByteArray)=⟨acc.toArray⟩++s:=by
 obtain⟨⟨l⟩⟩:=s
 simp[ByteArray.mk_append_mk]
set_option maxHeartbeats 2000000 in
set_option maxRecDepth 100000 in
theorem AP{K:fE}{n:Nat}(h1:pO Tryz.prog K (143,Ku n)) (h2:pO Tryz.prog K (177,Kt n)){w:World}(hK:K.ok w) (hKb:∀b,K.blk b→b<w.heap.size){x:List (Int×ByteArray)}{u:Value}(hu:dD (fun b=>b<w.heap.size) w (.sl Dg) x [u]){r:ByteArray}(hx:mq n x=some r) :
  Calls Tryz.prog 144 #[u] w fun e w'=>e = .returned (.string r)∧bY (fun _ _=>False) w w':=by
 have hu':=hu
 obtain⟨sa,sc,css,hus,hlc,hall,hcells⟩:=hu
 obtain rfl:u = .slice sa (List.length x) sc:=List.head_eq_of_cons_eq hus
 unfold mq at hx
 obtain⟨ok,hok,hx⟩:=Option.bind_eq_some_iff.1 hx
 go_enter Tryz.func144,Tryz.ntmps144
 go_wp2_with (go_at_call 143;refine(Jm h1 hK hKb hu' hok).mono ?_)
 rintro e w1 ⟨rfl,hs1⟩
 cases ok with
 |false =>
  obtain rfl:=Option.some.inj hx
  go_wp2
  intro hs1
  go_at_K
  go_wp2
  go_ret
  exact⟨rfl,hs1⟩
 |true =>
  go_wp2
  intro hs1
  go_at_K
  go_wp2
  go_loopg [11] x.length (fun g s11 wx=>∃(i:Nat) (acc:List UInt8),s11 = .int .i64 i∧i+g=x.length∧Lib.IsBuilder 187 5 w1.heap.size w1.heap.size (Lib.byteCells acc) wx∧Below w1.heap.size w1 wx∧(i≤acc.length∧acc.length≤1073741824)∧wv n (x.drop i) ⟨acc.toArray⟩=some r)
  case atStart =>
   refine⟨0,[],rfl,by omega,Lib.fresh_isBuilder 187 5 w1,(Below.refl _ w1).alloc (Nat.le_refl _) _,⟨by simp,by simp⟩,?_⟩
   exact hx
  case round =>
   obtain⟨i,acc,rfl,hi,hB,hbw,⟨hia,hal⟩,hg⟩:=hrel
   rcases Nat.lt_or_ge i x.length with hlt|hge
   ·have hst:bY (fun _ _=>False) w wr:=bY.trans hs1 (bY.of_below hbw) (fun _ _ q=>q.elim)
    obtain⟨b,off,c,cs,e,hb,hr,hcl⟩:=Ds hu' hlt
    injection e with e1 _ e2
    subst e1 e2
    obtain⟨va,vb,rfl,ra,rb⟩:=hr
    obtain rfl:va=[.int .i64 (x.getD i Dg.zero).1]:=ra
    obtain rfl:vb=[.string (x.getD i Dg.zero).2]:=rb
    have c0:wr.cell? ⟨b,off+i*2,none⟩=some (.int .i64 (x.getD i Dg.zero).1):=(hst.cell hb (fun q=>q)).1.trans (hcl 0 _ rfl)
    have c1:wr.cell? ⟨b,off+i*2+1,none⟩=some (.string (x.getD i Dg.zero).2):=(hst.cell hb (fun q=>q)).1.trans (hcl 1 _ rfl)
    have hd:x.drop i=x.getD i Dg.zero::x.drop (i+1):=by
     rw[List.drop_eq_getElem_cons hlt,List.getD_eq_getElem?_getD,List.getElem?_eq_getElem hlt];rfl
    rw[hd]at hg
    obtain⟨wd,hwd,hg⟩:=Option.bind_eq_some_iff.1 hg
    generalize hX:x.getD i Dg.zero=X at *
    obtain⟨X1,X2⟩:=X
    have hW1:Below wr.heap.size wr (wr.alloc (.cells #[.int .i64 X1, .string X2] 112)).drew:=((Below.refl _ wr).alloc (Nat.le_refl _) _).drew
    have hsW:bY (fun _ _=>False) w (wr.alloc (.cells #[.int .i64 X1, .string X2] 112)).drew:=bY.trans hst (bY.of_below hW1) (fun _ _ q=>q.elim)
    have hKW:K.ok (wr.alloc (.cells #[.int .i64 X1, .string X2] 112)).drew:=K.keep _ _ hK fun b hb=>⟨hKb b hb,hsW.same (hKb b hb) (fun _ q=>q)⟩
    have hKbW:∀b,K.blk b→b<(wr.alloc (.cells #[.int .i64 X1, .string X2] 112)).drew.heap.size:=fun b hb=>Nat.lt_of_lt_of_le (hKb b hb) hsW.size
    have hc1:=I8 h2 hKW hKbW hwd
    have hBW:=yB hB hW1
    have hWs:(wr.alloc (.cells #[.int .i64 X1, .string X2] 112)).drew.heap.size=wr.heap.size+1:=by simp
    have d1:(wr.alloc (.cells #[.int .i64 X1, .string X2] 112)).drew.cell? ⟨wr.heap.size,1,none⟩=some (.string X2):=Lib.cell_of_heap (w:=(wr.alloc (.cells #[.int .i64 X1, .string X2] 112)).drew) (cs:=#[.int .i64 X1, .string X2]) (T:=112) (fr:=(0,0)) (b:=wr.heap.size) (by show(wr.heap.push _)[wr.heap.size]?=_;simp) 1
    have hcond:(aW wd X2&&(aW (wd++X2) (⟨#[10]⟩:ByteArray)&&decide ((⟨acc.toArray⟩:ByteArray).size+(wd++X2++(⟨#[10]⟩:ByteArray)).size≤1073741824)))=true:=by
     cases q:(aW wd X2&&(aW (wd++X2) (⟨#[10]⟩:ByteArray)&&decide ((⟨acc.toArray⟩:ByteArray).size+(wd++X2++(⟨#[10]⟩:ByteArray)).size≤1073741824)))with
     |true=>rfl
     |false =>
      have hg':=hg
      rw[q]at hg'
      cases hg'
    rw[hcond]at hg
    rw[Bool.and_eq_true,Bool.and_eq_true]at hcond
    have k1:=of_decide_eq_true hcond.1
    have k2:=of_decide_eq_true hcond.2.1
    have k3:=of_decide_eq_true hcond.2.2
    have hr1:¬9223372036854775807<wd.size+X2.size:=by omega
    have hr2:¬9223372036854775807<(wd++X2).size+(⟨#[10]⟩:ByteArray).size:=by omega
    have hr3:¬9223372036854775807<wd.size+X2.size+1:=by
     have:=hr2;rw[ByteArray.size_append]at this;exact this
    go_wp2
    go_region_with (first
     |(go_at_call 177;refine hc1.mono ?_;rintro e w2 ⟨rfl,hs2⟩;have d2:w2.cell? ⟨wr.heap.size,1,none⟩=some (.string X2):=(hs2.cell (by omega) (fun q=>q)).1.trans d1)
     |(go_at_call 179;refine(CC w1.heap.size w1.heap.size (Lib.byteCells acc) (wd++X2++(⟨#[10]⟩:ByteArray)) w2 ?hB ?hl ?hs).mono ?_;(case hB=>exact yB hBW hs2.below);(case hl=>rw[Lib.byteCells_length];omega);(case hs=>have q1:=hs2.size;have q2:=hbw.size;omega);rintro e w3 ⟨rfl,hb3,hw3⟩))
    all_goals
     go_wp2
     go_roundg (gk-1)
     case measure=>omega
     case rel =>
      refine⟨i+1,acc++(wd++X2++(⟨#[10]⟩:ByteArray)).data.toList,?_,?_, .inr ?_,?_,?_,?_⟩
      ·exact congrArg (Value.int .i64) (by omega)
      ·omega
      ·rw[Lib.byteCells_append, ←Lib.strCells_eq];exact hb3
      ·exact(hbw.trans ((hW1.mono (by have:=hbw.size;omega)).trans (hs2.below.mono (by have:=hbw.size;omega)))).trans hw3
      ·rw[Wf]at k3
       rw[List.length_append,Qo]
       refine⟨?_,k3⟩
       rw[show(wd++X2++(⟨#[10]⟩:ByteArray)).size=(wd++X2).size+(⟨#[10]⟩:ByteArray).size from ByteArray.size_append]
       have:(⟨#[10]⟩:ByteArray).size=1:=rfl
       omega
      ·rw[UJ];exact hg
   ·obtain rfl:i=x.length:=by omega
    rw[List.drop_length]at hg
    obtain rfl:=Option.some.inj hg
    have hBw:w1.heap.size≤wr.heap.size:=hbw.size
    go_wp2_with (go_at_call 180;refine(Tryz.Builder_String_any w1.heap.size w1.heap.size acc wr hB hBw).mono ?_)
    rintro e w2 ⟨rfl,hb2⟩
    go_wp2
    go_ret
    exact⟨rfl,bY.trans hs1 (bY.of_below (hbw.trans hb2)) (fun _ _ q=>q.elim)⟩
theorem BC{K:fE}{n:Nat}(h1:pO Tryz.prog K (143,Ku n)) (h2:pO Tryz.prog K (177,Kt n)):pO Tryz.prog K (144,RH n):=by
 refine⟨dT Tryz.func144 (by kernel_rfl) (by kernel_rfl),?_⟩
 intro Y L I a w x r hx hR hK hY hw
 have hN:Y.N=1:=hY
 have hsz:a.tmps.size=1:=hR.size.trans hN
 have hu:dD I w (.sl Dg) x [a.tmps.getD 0 undef]:=hR.slot 0
 have hI:∀b,I b→b<w.heap.size:=fun b hb=>(hR.imm b hb).1
 have hu:=dD.mono hI (fun _ _=>rfl) (.sl Dg) hu
 have htm:a.tmps=#[a.tmps.getD 0 undef]:=by
  refine Array.ext (by simp[hsz]) fun i hi _=>?_
  obtain rfl:i=0:=by omega
  rw[Array.getD_eq_getD_getElem?,Array.getElem?_eq_getElem hi];rfl
 subst hK
 rw[show first (aa.real (RH n)) a.tmps=a.tmps from nH (by rw[hsz];exact Nat.le_refl _),htm]
 refine(AP h1 h2 hR.glob.1 (fun b hb=>hI b (hR.glob.2 b hb)) hu hx).mono fun e w' h=>?_
 obtain⟨rfl,hst⟩:=h
 have g1:=hR.grows hst
 refine⟨_,L,I,⟨#[a.tmps.getD 0 undef, .string r],[]⟩,rfl,?_,fun _ _=>rfl,rfl⟩
 refine⟨rfl,rfl,fun i hi=>?_,fun i hi=>?_,fun _ _ q=>(by cases q),fun _ _ _ _ q=>(by cases q),fun _ _ q=>(by cases q),g1.imm,g1.sub,g1.step,g1.glob⟩
 ·have hi:i<2:=hi
  match i,hi with
  |0,_=>trivial
  |1,_ =>
   show dD I w' .str r [.string r]
   rfl
 ·have hi:2≤i:=hi
  match i,hi with
  |i+2,_=>rfl
theorem xj {α β:Type}{R:α→β→Prop}:∀{xs:List α}{ys:List β},aK R xs ys→∀{b:β},b∈ys→∃a,a∈xs∧R a b
 |[],[],_,_,h=>by cases h
 |[],_::_,h,_,_=>h.elim
 |_::_,[],h,_,_=>h.elim
 |a::xs,b::ys,h,c,hc=>by
  rcases List.mem_cons.1 hc with e|e
  ·subst e;exact⟨a,List.mem_cons_self ..,h.1⟩
  ·obtain⟨x,h1,h2⟩:=xj h.2 e
   exact⟨x,List.mem_cons_of_mem _ h1,h2⟩
set_option maxHeartbeats 2000000 in
set_option maxRecDepth 100000 in
theorem Cy (w:World) (I:Nat→Prop) (xs r:List (Int×(Int×Int))) (u:Value) (hx:i8 xs=some r) (hI:∀b,I b→b<w.heap.size) (hu:dD I w (.sl (.pr (.int .i64) (.pr (.int .i64) (.int .i64)))) xs [u]) :
  Calls Tryz.prog 167 #[u] w fun e w'=>∃v' vs,e = .returned v'∧w'.ownsRow w.heap.size 100 (.pr (.int .i64) (.pr (.int .i64) (.int .i64)):Ty).sz v' r.length vs∧bZ I w (.pr (.int .i64) (.pr (.int .i64) (.int .i64))) r vs∧bY (fun _ _=>False) w w':=by
 have hb:xs.length≤4294967296∧r=xs:=by
  unfold i8 at hx
  cases q:decide (xs.length≤4294967296)with
  |false=>rw[q]at hx;cases hx
  |true=>rw[q]at hx;exact⟨of_decide_eq_true q,(Option.some.inj hx).symm⟩
 obtain⟨hb,rfl⟩:=hb
 obtain⟨sa,sc,css,hus,hlc,hall,hcells⟩:=hu
 obtain rfl:u = .slice sa (List.length r) sc:=List.head_eq_of_cons_eq hus
 have q22:∀(w:World) (a:Option Addr) (n c n' c':Nat),(binOp .eql 24 (.slice a n c) (.slice none n' c')).run Tryz.prog w = .ok (.bool a.isNone) w:=fun w a n c n' c'=>Lib.run_eql_slice_nil w _ _ a n c n' c' Tryz.underlying24
 have hf:bZ I w (.pr (.int .i64) (.pr (.int .i64) (.int .i64))) r css.flatten:=⟨css,hall,rfl⟩
 cases sa with
 |none =>
  have hnil:r=[]:=by
   rcases hcells with h|⟨b,off,h,_⟩
   ·exact h
   ·cases h
  subst hnil
  go_enter Tryz.func167,Tryz.ntmps167
  go_wp2
  go_ret
  exact⟨_,rfl,[],World.ownsRow_nil _ _ _ _,bZ.nil,bY.refl _ _⟩
 |some ad =>
  obtain⟨i0,hi,hz0,hz1,hz2⟩:∃i,Tryz.prog.info? 100=some i∧i.size=3∧i.bytes=24∧i.zero=some (.agg #[.int .i64 0, .int .i64 0, .int .i64 0]):=by
   obtain⟨i,h1,h2⟩:=Option.map_eq_some_iff.1 (show(Tryz.prog.info? 100).map (fun i=>(i.size,i.bytes,i.zero))=some (3,24,some (.agg #[.int .i64 0, .int .i64 0, .int .i64 0]))by kernel_rfl)
   obtain⟨h3,h4⟩:=Prod.mk.inj h2
   obtain⟨h4,h5⟩:=Prod.mk.inj h4
   exact⟨i,h1,h3,h4,h5⟩
  have hlen:=hf.len
  have hnews:∀j v,css.flatten[j]?=some v→w.cell? (ad.add j)=some v:=fun j v hj=>by
   rcases hcells with h|⟨b,off,h,_,hc⟩
   ·subst h
    have:css.flatten=[]:=List.eq_nil_of_length_eq_zero (by rw[hlen];simp)
    rw[this]at hj
    cases hj
   ·obtain rfl:=Option.some.inj h
    rw[Addr.add_lit]
    exact hc j v hj
  go_enter Tryz.func167,Tryz.ntmps167
  go_wp2_with (at_builtin;refine wpList_append_own _ rfl _ _ 24 rfl w.heap.size 100 i0 (.agg #[.int .i64 0, .int .i64 0, .int .i64 0]) 3 24 Tryz.underlying24 hi hz2 hz0 hz1 rfl (by decide) _ _ _ rfl (World.ownsRow_made w #[] 0 (Nat.le_refl _) (Nat.zero_le _) rfl) ad r.length sc css.flatten rfl ?qc1 ?qc2 ?qc3 ?qc4 ?qc5 ?qc6 ?_)
  case qc1=>simp[Ty.sz]
  case qc2 =>
   intro j v hj
   exact Lib.cell?_alloc_some _ (hnews j v hj)
  case qc3 =>
   intro v cs h1 h2
   obtain⟨x,_,h3⟩:=xj hall h1
   exact dD.one _ h3 v h2
  case qc4=>unfold maxLen;omega
  case qc5=>omega
  intro v' w1 hown hgrow hnil
  go_wp2
  go_ret
  refine⟨v',css.flatten,rfl,by simpa [Ty.sz]using hown,hf,bY.of_below ?_⟩
  exact((Below.refl _ w).alloc (Nat.le_refl _) _).grown hgrow (by simp) (by intro k hk;simp[Value.ownBlock]at hk;omega)
theorem yV{K:fE}:pO Tryz.prog K (167,BM (.pr (.int .i64) (.pr (.int .i64) (.int .i64))) 100 i8) :=
 ⟨dT Tryz.func167 (by kernel_rfl) (by kernel_rfl),DK (fun w I xs r u hx _ hI hu=>Cy w I xs r u hx hI hu)⟩
theorem Xe{W:World}(hG:af W):pO Tryz.prog (fE.of W) (167,ZI):=yV
set_option maxHeartbeats 2000000 in
set_option maxRecDepth 100000 in
theorem Cz (w:World) (I:Nat→Prop) (xs r:List (Int)) (u:Value) (hx:gQ xs=some r) (hI:∀b,I b→b<w.heap.size) (hu:dD I w (.sl (.int .i64)) xs [u]) :
  Calls Tryz.prog 147 #[u] w fun e w'=>∃v' vs,e = .returned v'∧w'.ownsRow w.heap.size 3 (.int .i64:Ty).sz v' r.length vs∧bZ I w (.int .i64) r vs∧bY (fun _ _=>False) w w':=by
 have hb:xs.length≤4294967296∧r=xs:=by
  unfold gQ at hx
  cases q:decide (xs.length≤4294967296)with
  |false=>rw[q]at hx;cases hx
  |true=>rw[q]at hx;exact⟨of_decide_eq_true q,(Option.some.inj hx).symm⟩
 obtain⟨hb,rfl⟩:=hb
 obtain⟨sa,sc,css,hus,hlc,hall,hcells⟩:=hu
 obtain rfl:u = .slice sa (List.length r) sc:=List.head_eq_of_cons_eq hus
 have q22:∀(w:World) (a:Option Addr) (n c n' c':Nat),(binOp .eql 27 (.slice a n c) (.slice none n' c')).run Tryz.prog w = .ok (.bool a.isNone) w:=fun w a n c n' c'=>Lib.run_eql_slice_nil w _ _ a n c n' c' Tryz.underlying27
 have hf:bZ I w (.int .i64) r css.flatten:=⟨css,hall,rfl⟩
 cases sa with
 |none =>
  have hnil:r=[]:=by
   rcases hcells with h|⟨b,off,h,_⟩
   ·exact h
   ·cases h
  subst hnil
  go_enter Tryz.func147,Tryz.ntmps147
  go_wp2
  go_ret
  exact⟨_,rfl,[],World.ownsRow_nil _ _ _ _,bZ.nil,bY.refl _ _⟩
 |some ad =>
  obtain⟨i0,hi,hz0,hz1,hz2⟩:∃i,Tryz.prog.info? 3=some i∧i.size=1∧i.bytes=8∧i.zero=some (.int .i64 0):=by
   obtain⟨i,h1,h2⟩:=Option.map_eq_some_iff.1 (show(Tryz.prog.info? 3).map (fun i=>(i.size,i.bytes,i.zero))=some (1,8,some (.int .i64 0))by kernel_rfl)
   obtain⟨h3,h4⟩:=Prod.mk.inj h2
   obtain⟨h4,h5⟩:=Prod.mk.inj h4
   exact⟨i,h1,h3,h4,h5⟩
  have hlen:=hf.len
  have hnews:∀j v,css.flatten[j]?=some v→w.cell? (ad.add j)=some v:=fun j v hj=>by
   rcases hcells with h|⟨b,off,h,_,hc⟩
   ·subst h
    have:css.flatten=[]:=List.eq_nil_of_length_eq_zero (by rw[hlen];simp)
    rw[this]at hj
    cases hj
   ·obtain rfl:=Option.some.inj h
    rw[Addr.add_lit]
    exact hc j v hj
  go_enter Tryz.func147,Tryz.ntmps147
  go_wp2_with (at_builtin;refine wpList_append_own _ rfl _ _ 27 rfl w.heap.size 3 i0 (.int .i64 0) 1 8 Tryz.underlying27 hi hz2 hz0 hz1 rfl (by decide) _ _ _ rfl (World.ownsRow_made w #[] 0 (Nat.le_refl _) (Nat.zero_le _) rfl) ad r.length sc css.flatten rfl ?qc1 ?qc2 ?qc3 ?qc4 ?qc5 ?qc6 ?_)
  case qc1=>simp[Ty.sz]
  case qc2 =>
   intro j v hj
   exact Lib.cell?_alloc_some _ (hnews j v hj)
  case qc3 =>
   intro v cs h1 h2
   obtain⟨x,_,h3⟩:=xj hall h1
   exact dD.one _ h3 v h2
  case qc4=>unfold maxLen;omega
  case qc5=>omega
  intro v' w1 hown hgrow hnil
  go_wp2
  go_ret
  refine⟨v',css.flatten,rfl,by simpa [Ty.sz]using hown,hf,bY.of_below ?_⟩
  exact((Below.refl _ w).alloc (Nat.le_refl _) _).grown hgrow (by simp) (by intro k hk;simp[Value.ownBlock]at hk;omega)
theorem AQ{K:fE}:pO Tryz.prog K (147,BM (.int .i64) 3 gQ) :=
 ⟨dT Tryz.func147 (by kernel_rfl) (by kernel_rfl),DK (fun w I xs r u hx _ hI hu=>Cz w I xs r u hx hI hu)⟩
theorem Xt{W:World}(hG:af W):pO Tryz.prog (fE.of W) (147,ZM):=AQ
end AM
end Go.Proofs.YtpgigedclifoeaaGreatDoor
namespace Go.Proofs.YtpgigedclifoeaaGreatDoor
namespace AM
open Go Go.Shelf Go.RowKit Go.Sort Go.Proofs
set_option linter.unusedVariables false
theorem Bu{w w':World}{g:Nat}{c c':Array Value}{t:TypeId}{fz:Nat×Nat}(h:w.grownBy w' (some g)) (h1:w.heap[g]?=some (.cells c t fz)) (h2:w'.heap[g]?=some (.cells c' t fz)) (hs:c'.size=c.size):bY (fun b _=>b=g) w w':=by
 obtain⟨e1,e2,e3,e4,e5⟩:=h
 refine⟨e1,e2,e3,e4,fun k hk=>?_⟩
 by_cases q:k=g
 ·subst q
  rw[h1,h2]
  exact⟨_,_,rfl,hs,fun j hj=>absurd rfl hj,fun⟨j,hj⟩=>absurd rfl hj⟩
 ·exact fY.of_eq (e5 k hk (fun e=>q (Option.some.inj e)))
theorem Jf (w:World) (v:Value) (xs r:List Int) (hx:ow xs=some r) (hown:w.ownsRow 0 3 1 v xs.length (xs.map (Value.int .i64))) :
  Calls Tryz.prog 148 #[v] w fun e w'=>e = .returned (.tuple #[])∧w'.ownsRow 0 3 1 v r.length (r.map (Value.int .i64))∧bY (fun b _=>v.ownBlock=some b) w w':=by
 unfold ow at hx
 split at hx
 ·rename_i hl
  obtain rfl:=Option.some.inj hx
  have hlen:(xs.mergeSort fun x y=>decide (x≤y)).length=xs.length:=List.length_mergeSort ..
  rcases hown.2 with⟨rfl,hn⟩|⟨g,cap,cur,rfl,hbase,hg,hnc,hcm,hcs,hrow⟩
  ·obtain rfl:=List.eq_nil_of_length_eq_zero hn
   refine(Any.slices_Sort_int_none Tryz.lays189 none 0 w).mono fun e w' h=>?_
   obtain⟨rfl,rfl⟩:=h
   exact⟨rfl,by simpa using hown,bY.refl _ _⟩
  ·have hgs:g<w.heap.size:=(Array.getElem?_eq_some_iff.1 hg).1
   refine(Tryz.slices_Sort_int g 0 cap xs w (holds_of_blockI hg (by simpa using hrow)) hgs (by omega)).mono fun e w' h=>?_
   obtain⟨rfl,n,os,rfl⟩:=h
   refine⟨rfl,?_,(Bu (grownBy_sortedI _) hg (heap_sortedI _ hg) (by simp[putCells])).mono fun b o q=>by rw[q];rfl⟩
   rw[hlen]
   exact ownsRow_sortedI hlen hbase hg hnc hcm hcs
 ·cases hx
theorem J9 (w:World) (v:Value) (xs r:List Int) (hx:jX xs=some r) (hown:w.ownsRow 0 3 1 v xs.length (xs.map (Value.int .i64))) :
  Calls Tryz.prog 150 #[v] w fun e w'=>∃v',e = .returned v'∧w'.ownsRow 0 3 1 v' r.length (r.map (Value.int .i64))∧bY (fun b _=>v.ownBlock=some b) w w'∧∀b,v'.ownBlock=some b→v.ownBlock=some b∨w.heap.size≤b:=by
 unfold jX at hx
 split at hx
 ·rename_i hl
  obtain rfl:=Option.some.inj hx
  rcases hown.2 with⟨rfl,hn⟩|⟨g,cap,cur,rfl,hbase,hg,hnc,hcm,hcs,hrow⟩
  ·obtain rfl:=List.eq_nil_of_length_eq_zero hn
   refine(Tryz.slices_Compact_int_empty none 0 w).mono fun e w' h=>?_
   obtain⟨rfl,rfl⟩:=h
   exact⟨_,rfl,by simpa [Lib.compact,Lib.compactUpTo]using hown,bY.refl _ _,fun b hb => .inl hb⟩
  ·have hle:=Lib.compact_length_le xs
   refine(Tryz.slices_Compact_int g 0 cap xs w (holds_of_blockI hg (by simpa using hrow)) (by omega) hnc).mono fun e w' h=>?_
   obtain⟨rfl,q,rfl⟩:=h
   have hz:(Lib.compact xs++List.replicate (xs.length-(Lib.compact xs).length) 0).length=xs.length:=by simp;omega
   have hh:=heap_sortedI (n:=q) (os:=#[]) (Lib.compact xs++List.replicate (xs.length-(Lib.compact xs).length) (0:Int)).toArray hg
   rw[grow_empty]at hh
   have hgr:=grownBy_sortedI (w:=w) (g:=g) (n:=q) (os:=#[]) (Lib.compact xs++List.replicate (xs.length-(Lib.compact xs).length) (0:Int)).toArray
   rw[grow_empty]at hgr
   refine⟨_,rfl,⟨by simp, .inr ⟨g,cap,_,rfl,Nat.zero_le _,hh,by omega,hcm,by simp[putCells];omega,?_⟩⟩,(Bu hgr hg hh (by simp[putCells])).mono fun b o q=>by rw[q];rfl,fun b hb => .inl hb⟩
   have ht:=take_putCellsI cur (Lib.compact xs++List.replicate (xs.length-(Lib.compact xs).length) (0:Int)) (by rw[hz];omega)
   have h2:=congrArg (List.take (Lib.compact xs).length) ht
   rw[List.take_take,Nat.min_eq_left (by rw[hz];exact hle)]at h2
   rw[Nat.mul_one,h2,List.map_append,List.take_append_of_le_length (by simp),List.take_of_length_le (by simp)]
 ·cases hx
set_option maxHeartbeats 1000000 in
theorem Ka (w:World) (v:Value) (xs r:List Int) (hx:qO xs=some r) (hown:w.ownsRow 0 3 1 v xs.length (xs.map (Value.int .i64))) :
  r=xs∧Calls Tryz.prog 149 #[v] w fun e w'=>e = .returned (Lv v)∧w'=w:=by
 refine⟨(Option.some.inj hx).symm,?_⟩
 rcases hown.2 with⟨rfl,hn⟩|⟨g,cap,cur,rfl,hbase,hg,hnc,hcm,hcs,hrow⟩
 ·go_enter Tryz.func149,Tryz.ntmps149
  go_wp2
  go_ret
  exact⟨rfl,rfl⟩
 ·go_enter Tryz.func149,Tryz.ntmps149
  go_wp2
  go_ret
  exact⟨rfl,rfl⟩
theorem Xs{W:World}(hG:af W):pO Tryz.prog (fE.of W) (148,ZL) :=
 ⟨dT Tryz.func148 (by kernel_rfl) (by kernel_rfl),JJ fun w v xs r hx _ ho=>Jf w v xs r hx ho⟩
theorem Xq{W:World}(hG:af W):pO Tryz.prog (fE.of W) (150,ZJ) :=
 ⟨dT Tryz.func150 (by kernel_rfl) (by kernel_rfl),JK fun w v xs r hx _ ho=>J9 w v xs r hx ho⟩
theorem Xr{W:World}(hG:af W):pO Tryz.prog (fE.of W) (149,ZK) :=
 ⟨dT Tryz.func149 (by kernel_rfl) (by kernel_rfl),JL fun w v xs r hx _ ho=>Ka w v xs r hx ho⟩
end AM
end Go.Proofs.YtpgigedclifoeaaGreatDoor
