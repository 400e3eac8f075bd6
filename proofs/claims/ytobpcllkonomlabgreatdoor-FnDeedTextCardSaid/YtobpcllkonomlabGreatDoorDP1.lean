/- The library's functions, by their contracts. Under: what the rows list of the library's variables. And what follows it: see the remarks. -/
import Derived.Test.YtobpcllkonomlabGreatDoorDALd
import Derived.Test.YtobpcllkonomlabGreatDoorDShelf
import Derived.Test.YtobpcllkonomlabGreatDoorDW4
import Derived.WalkKit
import Derived.Lib.Walk
import Derived.Lib.Builder
import Derived.Lib.AppendStr
import Derived.Lib.UnsafeStr
import Derived.Deep.LoopGhost
import Derived.Deep.RegionWith
import Derived.Lib.SliceRun
namespace Go.Proofs.YtobpcllkonomlabGreatDoor
namespace AM
open Go
set_option linter.unusedVariables false
structure af (W:World):Prop where
 mx:∃m,W.cell? ⟨0,0,none⟩=some (.int .i64 m)
 tab:Lib.TabIs Tryz.prog W "internal/strconv.uint64pow10" .u64 Lib.pow10Tab
 es:∃ev,W.cell? ⟨2,0,none⟩=some ev∧(ev = .nilIface∨∃te pe,ev = .iface te pe)
 er:∃ev,W.cell? ⟨3,0,none⟩=some ev∧(ev = .nilIface∨∃te pe,ev = .iface te pe)
theorem Nx{W:World}(hG:af W):qn Tryz.prog (fA.of W) (63,Wb) :=
 ⟨eO Tryz.func63 (by kernel_rfl) (by kernel_rfl),pM (ps:=[.int .i64]) (rs:=[.str]) (g:=kV) rfl rfl (fun w x r hx hK=>by
  simp only[kV]at hx
  split at hx
  ·rename_i hs
   obtain rfl:=Option.some.inj hx
   refine(Tryz.strconv_Itoa x hs.1 hs.2 w (fA.of_tab hK hG.tab)).mono fun e w' h=>⟨h.1,?_⟩
   obtain⟨k,os,rfl⟩:=h.2
   exact cb.trans (cb.drewN w k) (cb.grow _ os) (fun _ _ q=>q.elim)
  ·cases hx)⟩
theorem PV{W:World}(hG:af W):qn Tryz.prog (fA.of W) (68,Xz) :=
 ⟨eO Tryz.func68 (by kernel_rfl) (by kernel_rfl),pM (ps:=[.str, .str]) (rs:=[.str, .str, .bool]) (g:=iL) rfl rfl (fun w x r hx hK=>by
  obtain⟨s,sep⟩:=x
  simp only[iL]at hx
  split at hx
  ·rename_i hs
   obtain rfl:=Option.some.inj hx
   obtain⟨m,hm⟩:=hG.mx
   refine(Tryz.strings_Cut s sep m w hs (fA.of_cell hK hm)).mono fun e w' h=>⟨h.1,?_⟩
   obtain⟨k,rfl⟩:=h.2
   exact cb.drewN w k
  ·cases hx)⟩
theorem MH{W:World}(hG:af W):qn Tryz.prog (fA.of W) (115,OW) :=
 ⟨eO Tryz.func115 (by kernel_rfl) (by kernel_rfl),xh (ps:=[.str]) (rs:=[.i (.int .i64), .e]) (g:=mf) rfl rfl (fun w s r hx hK=>by
  simp only[mf]at hx
  split at hx
  ·rename_i hs
   cases hv:Lib.atoiAll (ByteArray.data s).toList with
   |ok v =>
    rw[hv]at hx
    obtain rfl:=Option.some.inj hx
    refine(Tryz.strconv_Atoi_ok _ (by omega) v hv w).mono fun e w' h=>⟨[.int .i64 v, .nilIface],h.1,⟨rfl,⟨false,rfl,rfl⟩,trivial⟩,?_⟩
    rcases h.2 with rfl|⟨t,rfl⟩
    ·exact cb.refl _ _
    ·exact cb.of_below (Lib.bytesWorld_below _ _ _)
   |range =>
    rw[hv]at hx
    obtain rfl:=Option.some.inj hx
    obtain⟨ev,h1,h2⟩:=hG.er
    refine(Tryz.strconv_Atoi_range _ hs hv ev w (fA.of_cell hK h1) h2).mono fun e w' h=>?_
    obtain⟨N,h3,_,_,h4⟩:=h
    exact⟨[.int .i64 _,_],h3,⟨rfl,⟨true,rfl,_,_,rfl⟩,trivial⟩,cb.of_below h4⟩
   |_ =>
    rw[hv]at hx
    obtain rfl:=Option.some.inj hx
    obtain⟨ev,h1,h2⟩:=hG.es
    refine(Any.strconv_Atoi_syntax Tryz.laysC172 _ hs hv ev w (fA.of_cell hK h1) h2).mono fun e w' h=>?_
    obtain⟨N,h3,_,_,h4⟩:=h
    exact⟨[.int .i64 0,_],h3,⟨rfl,⟨true,rfl,_,_,rfl⟩,trivial⟩,cb.of_below h4⟩
  ·cases hx)⟩
theorem zk{kt:Ty}{k:kt.den}{x:Int}(hr:kt.eqv k k=true):∀{m:List (kt.den×Int)}{i j:Nat}{v:Int},bQ kt k m i=some (j,v)→bQ kt k (m.set (j-i) (k,x)) i=some (j,x)
 |[],_,_,_,h=>by cases h
 |p::r,i,j,v,h=>by
  unfold bQ at h
  cases q:kt.eqv k p.1 with
  |true =>
   rw[q]at h
   obtain⟨rfl,rfl⟩:=Prod.mk.inj (Option.some.inj h)
   rw[Nat.sub_self,List.set_cons_zero]
   unfold bQ
   rw[hr];rfl
  |false =>
   rw[q]at h
   have h:bQ kt k r (i+1)=some (j,v):=h
   obtain⟨h1,_⟩:=md h
   rw[show j-i=(j-(i+1))+1 by omega,List.set_cons_succ]
   unfold bQ
   rw[q]
   exact zk hr h
theorem xp{kt:Ty}{k:kt.den}{x:Int}(hr:kt.eqv k k=true):∀{m:List (kt.den×Int)}{i:Nat},bQ kt k m i=none→bQ kt k (m++[(k,x)]) i=some (i+m.length,x)
 |[],i,_=>by
  show bQ kt k [(k,x)] i=_
  unfold bQ
  rw[hr];simp
 |p::r,i,h=>by
  unfold bQ at h
  cases q:kt.eqv k p.1 with
  |true=>rw[q]at h;cases h
  |false =>
   rw[q]at h
   have h:bQ kt k r (i+1)=none:=h
   show bQ kt k (p::(r++[(k,x)])) i=_
   unfold bQ
   rw[q]
   have:=xp (x:=x) hr h
   simp only[cond_false,this,List.length_cons]
   congr 2;omega
theorem uv{kt:Ty}{k:kt.den}{x:Int}{m:List (kt.den×Int)}(hr:kt.eqv k k=true):fQ kt k (lV kt k x m)=x:=by
 unfold fQ lV
 cases h:bQ kt k m 0 with
 |some p =>
  obtain⟨j,v⟩:=p
  have:=zk (x:=x) hr h
  rw[Nat.sub_zero]at this
  simp only[this]
 |none=>simp only[xp hr h]
theorem de (n:Nat) (x):aU n x=az n x:=by
 have e:(Ty.pr (.int .i64) (.pr (.int .i64) (.int .i64))).eqv (x.2.2.1,(x.2.2.2.1,x.2.2.2.2.1)) (x.2.2.1,(x.2.2.2.1,x.2.2.2.2.1))=true:=by simp[Ty.eqv]
 unfold aU az
 rw[uv e]
end AM
end Go.Proofs.YtobpcllkonomlabGreatDoor
namespace Go.Proofs.YtobpcllkonomlabGreatDoor
namespace AM
open Go Go.Shelf Go.RowKit
set_option linter.unusedVariables false
theorem WD{W:World}(hG:af W):qn Tryz.prog (fA.of W) (60,X5) :=
 ⟨eO Tryz.func60 (by kernel_rfl) (by kernel_rfl),pM (ps:=[.str, .str]) (rs:=[.bool]) (g:=gT) rfl rfl (fun w x r hx hK=>by
  obtain⟨s,sub⟩:=x
  simp only[gT]at hx
  split at hx
  ·rename_i hs
   obtain rfl:=Option.some.inj hx
   obtain⟨m,hm⟩:=hG.mx
   refine(Tryz.strings_Contains s sub m w hs (fA.of_cell hK hm)).mono fun e w' h=>⟨h.1,?_⟩
   obtain rfl:=h.2
   exact cb.refl _ _
  ·cases hx)⟩
theorem World.heap_new (w:World) (o:Obj):(w.alloc o).heap[w.heap.size]?=some o:=by
 show(w.heap.push o)[w.heap.size]?=some o
 simp
theorem wQ (sep:ByteArray) (h1:1≤sep.size):∀(k:Nat) (s:ByteArray),Lib.countB s sep=k→(Lib.splitB sep 0 k s).length=k+1
 |0,s,_=>rfl
 |k+1,s,h=>by
  rcases Lib.indexB_cases s sep with hix|⟨i,hix,_⟩
  ·rw[Lib.countB_miss s sep hix]at h;omega
  ·rw[Lib.splitB_hit sep 0 k s i hix,List.length_cons]
   rw[Lib.countB_hit s sep i h1 hix]at h
   rw[wQ sep h1 k _ (by omega)]
theorem J3 (I:Nat→Prop) (w:World):∀l:List ByteArray,cd I w .str l (l.map Value.string):=fun l =>
 ⟨l.map fun s=>[Value.string s],by
  induction l with
  |nil=>trivial
  |cons s l ih=>exact⟨rfl,ih⟩,by
  induction l with
  |nil=>rfl
  |cons s l ih=>simp[ih]⟩
theorem WB{W:World}(hG:af W):qn Tryz.prog (fA.of W) (70,X4) :=
 ⟨eO Tryz.func70 (by kernel_rfl) (by kernel_rfl),DY (el:=9) (g:=i9) (fun w s sep r hx hK=>by
  simp only[i9]at hx
  split at hx
  ·rename_i hs
   obtain rfl:=Option.some.inj hx
   obtain⟨m,hm⟩:=hG.mx
   have hl:=wQ sep hs.2 _ s rfl
   refine(Tryz.strings_Split s sep m w hs.1 (fA.of_cell hK hm) hs.2).mono fun e w' h=>⟨_,(Lib.splitB sep 0 (Lib.countB s sep) s).map Value.string,h.1,?_,fun I=>J3 I w _,?_⟩
   ·obtain rfl:=h.2
    rw[hl]
    have hc:Lib.countB s sep≤s.size+1:=by
     have:=Lib.count_le s.data.toList sep.data.toList
     have e:s.data.toList.length=s.size:=by rw[Array.length_toList];rfl
     rw[e]at this
     exact this
    refine⟨by rw[List.length_map,hl];show _=_*1;omega, .inr ⟨w.heap.size,Lib.countB s sep+1,_,rfl,Nat.le_refl _,World.heap_new w _,Nat.le_refl _,by unfold maxLen;omega,?_,?_⟩⟩
    ·show _=_*1
     rw[List.size_toArray,List.length_map,hl];omega
    ·show List.take (_*1) _=_
     rw[List.take_of_length_le]
     rw[List.length_map,hl];omega
   ·obtain rfl:=h.2
    exact cb.of_below ((Below.refl _ w).alloc (Nat.le_refl _) _)
  ·cases hx)⟩
set_option maxHeartbeats 1000000 in
set_option maxRecDepth 100000 in
theorem tX (b:Nat) (w:World) (h0:w.cell? ⟨b,0,none⟩=some (.pointer (some ⟨b,0,none⟩))) :
  Calls Tryz.prog 277 #[.pointer (some ⟨b,0,none⟩)] w fun e w'=>e = .returned (.tuple #[])∧w'=w:=by
 have X:=Tryz.Builder_Extra_169.toX72
 obtain⟨j,hj,_⟩:=Option.map_eq_some_iff.1 X.sizeBuilder
 go_enter Tryz.func277,Tryz.ntmps277
 go_wp2
 rw[Lib.run_neq_ptr_same w _ Tryz.underlying276 hj]
 go_wp2
 go_end0
 exact⟨rfl,rfl⟩
set_option maxHeartbeats 1000000 in
set_option maxRecDepth 100000 in
theorem sx (b:Nat) (w:World) (h0:w.cell? ⟨b,0,none⟩=some (.pointer none)) (hsh:w.shape? b=some (278,2)) (hfz:w.frozen? ⟨b,0,none⟩=false) :
  Calls Tryz.prog 277 #[.pointer (some ⟨b,0,none⟩)] w fun e w'=>e = .returned (.tuple #[])∧w'=w.setCell ⟨b,0,none⟩ (.pointer (some ⟨b,0,none⟩)):=by
 have X:=Tryz.Builder_Extra_169.toX72
 obtain⟨j,hj,hjs⟩:=Option.map_eq_some_iff.1 X.sizeBuilder
 go_enter Tryz.func277,Tryz.ntmps277
 go_wp2
 rw[Lib.run_to_unsafe w ⟨b,0,none⟩ Tryz.underlying276 Tryz.underlying326 hj (by rw[hjs];decide) hsh (Nat.zero_lt_succ 1)]
 simp only[Result.andThen]
 rw[Oper.upon_value]
 go_wp2
 rw[run_callFunc_extern Tryz.func295 (by kernel_rfl) (by kernel_rfl) (by kernel_rfl) (e:=Extern.AbiNoEscape.same) (by kernel_rfl)]
 rw[Lib.run_noEscape]
 simp only[Result.andThen]
 rw[Oper.upon_value]
 go_wp2
 rw[Lib.run_from_unsafe w ⟨b,0,none⟩ Tryz.underlying326 Tryz.underlying276 hj hsh X.liesBuilder]
 simp only[Result.andThen]
 rw[Oper.upon_value]
 go_wp2
 go_end0
 exact⟨rfl,rfl⟩
theorem Bo (B b:Nat) (bs:List Value) (w:World) (h:Lib.IsBuilder 278 5 B b bs w) :
  Calls Tryz.prog 277 #[.pointer (some ⟨b,0,none⟩)] w fun e w'=>e = .returned (.tuple #[])∧(Lib.BuilderAt 278 5 B b (.pointer (some ⟨b,0,none⟩)) bs w'∧Below B w w'):=by
 rcases h with h|h
 ·refine(sx b w h.cell0 h.shape h.frozen0).mono ?_
  rintro e w' ⟨rfl,rfl⟩
  exact⟨rfl,h.used _,(Below.refl B w).setCell (p:=⟨b,0,none⟩) h.1 _⟩
 ·refine(tX b w h.cell0).mono ?_
  rintro e w' ⟨rfl,rfl⟩
  exact⟨rfl,h,Below.refl B _⟩
set_option maxHeartbeats 2000000 in
set_option maxRecDepth 100000 in
theorem xY (B b:Nat) (bs:List Value) (s:ByteArray) (w:World) (h:Lib.IsBuilder 278 5 B b bs w) (hlen:bs.length+s.size≤140737488355328) (hBw:B≤w.heap.size) :
  Calls Tryz.prog 248 #[.pointer (some ⟨b,0,none⟩), .string s] w fun e w'=>e = .returned (.tuple #[.int .i64 s.size, .nilIface])∧(Lib.BuilderAt 278 5 B b (.pointer (some ⟨b,0,none⟩)) (bs++Lib.strCells s) w'∧Below B w w'):=by
 have X:=Tryz.Builder_Extra_169
 obtain⟨i0,hi,hz0,hz1,hz2⟩:=info_parts X.infoByte
 go_enter Tryz.func248,Tryz.ntmps248
 go_wp2_with (go_at_call 277;refine(Bo B b bs _ h).mono ?_)
 rintro e w1 ⟨rfl,h1,hb1⟩
 obtain⟨hB,v,hbk,hown,hne⟩:=h1
 have c0:w1.cell? ⟨b,0,none⟩=some (.pointer (some ⟨b,0,none⟩)):=by rw[Lib.cell_of_heap hbk];rfl
 have c1:w1.cell? ⟨b,1,none⟩=some v:=by rw[Lib.cell_of_heap hbk];rfl
 go_wp2_with (at_builtin;refine Lib.wpList_append_own_string _ rfl _ _ 49 9 rfl B 5 i0 Tryz.underlying49 Tryz.underlying9 hi hz0 hz1 hz2 _ _ _ rfl hown s rfl ?c3 ?c4 ?c5 ?_)
 case c3=>unfold maxLen;omega
 case c4=>omega
 case c5=>have:=hb1.size;omega
 intro v' w2 hown' hgrow _
 have hlt:b<w1.heap.size:=by
  rcases Nat.lt_or_ge b w1.heap.size with h'|h'
  ·exact h'
  ·simp[Array.getElem?_eq_none h']at hbk
 have hb2:w2.heap[b]?=some (.cells #[.pointer (some ⟨b,0,none⟩),v] 278 (0,0)):=by
  rw[hgrow.block b hlt (fun e=>hne e.symm)]
  exact hbk
 have d0:w2.cell? ⟨b,0,none⟩=some (.pointer (some ⟨b,0,none⟩)):=by rw[Lib.cell_of_heap hb2];rfl
 have d1:w2.cell? ⟨b,1,none⟩=some v:=by rw[Lib.cell_of_heap hb2];rfl
 have f1:w2.frozen? ⟨b,1,none⟩=false:=Lib.frozen_of_heap hb2 1
 obtain⟨ao,n',cap,rfl⟩:∃ao n' cap,v' = .slice ao n' cap:=by
  rcases hown'.2 with⟨hv,_⟩|⟨g,cap,cur,hv,_⟩
  ·exact⟨_,_,_,hv⟩
  ·exact⟨_,_,_,hv⟩
 go_wp2
 go_ret2
 refine⟨rfl,?_,?_⟩
 ·exact Lib.BuilderAt.put (T:=278) (e:=5) hB hb2 (bs':=bs++Lib.strCells s) (by simpa [Lib.strCells_length]using hown') X.neB5
 ·exact(hb1.grown hgrow (by have:=hb1.size;omega) (fun k hk=>(hown.lt k hk).1)).setCell (p:=⟨b,1,none⟩) hB _
theorem Dr{K:fA}{n:Nat}(h:qn Tryz.prog K (246,EF n)){w:World}(hK:K.ok w) (hKb:∀b,K.blk b→b<w.heap.size){x:Int}{r:ByteArray}(hx:kX n x=some r) :
  Calls Tryz.prog 246 #[.int .i64 x] w fun e w'=>e = .returned (.string r)∧cb (fun _ _=>False) w w':=by
 let Y:qT:={ K:=K,N:=1,w0:=w,E:=fun _ _=>False,I0:=fun b=>b<w.heap.size }
 have hrel:bD Y (fun _=>undef) (fun b=>b<w.heap.size) (d5 (au 0 (EF n).pars) x) ⟨#[.int .i64 x],[]⟩ w:=by
  refine⟨rfl,rfl,fun i hi=>?_,fun i hi=>?_,fun _ _ h=>(by cases h),fun _ _ _ _ h=>(by cases h),fun _ _ h=>(by cases h),fun b hb=>⟨hb, .inl hb⟩,fun b hb=>hb,cb.refl _ _,hK,hKb⟩
  ·obtain rfl:i=0:=by have:i<1:=hi;omega
   show dJ (fun b=>b<w.heap.size) w (.int .i64) x [.int .i64 x]
   rfl
  ·have hi:1≤i:=hi
   match i,hi with
   |i+1,_=>rfl
 have hc:=h.2 Y _ _ ⟨#[.int .i64 x],[]⟩ w x r hx hrel rfl rfl rfl
 refine hc.mono fun e w' h=>?_
 obtain⟨v,L',I',a',rfl,hR,_,rfl⟩:=h
 have hs:a'.tmps.getD 1 undef = .string r:=List.head_eq_of_cons_eq (hR.slot 1)
 exact⟨congrArg Ending.returned hs,hR.step⟩
abbrev yD:Ty := .pr (.int .i64) .str
theorem DE{K:fA}{n:Nat}(h:qn Tryz.prog K (206,EG n)){w:World}(hK:K.ok w) (hKb:∀b,K.blk b→b<w.heap.size){x:List (Int×ByteArray)}{u:Value}(hu:dJ (fun b=>b<w.heap.size) w (.sl yD) x [u]){r:Bool}(hx:kZ n x=some r) :
  Calls Tryz.prog 206 #[u] w fun e w'=>e = .returned (.bool r)∧cb (fun _ _=>False) w w':=by
 let Y:qT:={ K:=K,N:=1,w0:=w,E:=fun _ _=>False,I0:=fun b=>b<w.heap.size }
 have hrel:bD Y (fun _=>undef) (fun b=>b<w.heap.size) (d5 (au 0 (EG n).pars) x) ⟨#[u],[]⟩ w:=by
  refine⟨rfl,rfl,fun i hi=>?_,fun i hi=>?_,fun _ _ h=>(by cases h),fun _ _ _ _ h=>(by cases h),fun _ _ h=>(by cases h),fun b hb=>⟨hb, .inl hb⟩,fun b hb=>hb,cb.refl _ _,hK,hKb⟩
  ·obtain rfl:i=0:=by have:i<1:=hi;omega
   exact hu
  ·have hi:1≤i:=hi
   match i,hi with
   |i+1,_=>rfl
 have hc:=h.2 Y _ _ ⟨#[u],[]⟩ w x r hx hrel rfl rfl rfl
 refine hc.mono fun e w' h=>?_
 obtain⟨v,L',I',a',rfl,hR,_,rfl⟩:=h
 have hs:a'.tmps.getD 1 undef = .bool r:=List.head_eq_of_cons_eq (hR.slot 1)
 exact⟨congrArg Ending.returned hs,hR.step⟩
theorem tW{B b:Nat}{bs:List Value}{w w':World}(h:Lib.IsBuilder 278 5 B b bs w) (hb:Below w.heap.size w w'):Lib.IsBuilder 278 5 B b bs w':=by
 have one:∀{p:Value},Lib.BuilderAt 278 5 B b p bs w→Lib.BuilderAt 278 5 B b p bs w':=by
  rintro p ⟨hB,v,h1,h2,h3⟩
  have lt:∀{k:Nat}{o:Go.Obj},w.heap[k]?=some o→k<w.heap.size:=fun h=>(Array.getElem?_eq_some_iff.1 h).1
  refine⟨hB,v,(hb.block b (lt h1)).trans h1,⟨h2.1,h2.2.imp id ?_⟩,h3⟩
  rintro ⟨g,cap,cur,hv,hb',hg,rest⟩
  exact⟨g,cap,cur,hv,hb',(hb.block g (lt hg)).trans hg,rest⟩
 exact h.imp one one
theorem Ps (acc:List UInt8):(⟨acc.toArray⟩:ByteArray).size=acc.length:=by simp[ByteArray.size]
theorem KR (s:ByteArray):s.data.toList.length=s.size:=Array.length_toList
theorem NV (acc:List UInt8) (s:ByteArray):(⟨(acc++s.data.toList).toArray⟩:ByteArray)=⟨acc.toArray⟩++s:=by
 obtain⟨⟨l⟩⟩:=s
 simp[ByteArray.mk_append_mk]
set_option maxHeartbeats 2000000 in
set_option maxRecDepth 100000 in
theorem v8{K:fA}{n:Nat}(h1:qn Tryz.prog K (206,EG n)) (h2:qn Tryz.prog K (246,EF n)){w:World}(hK:K.ok w) (hKb:∀b,K.blk b→b<w.heap.size){x:List (Int×ByteArray)}{u:Value}(hu:dJ (fun b=>b<w.heap.size) w (.sl yD) x [u]){r:ByteArray}(hx:jx n x=some r) :
  Calls Tryz.prog 207 #[u] w fun e w'=>e = .returned (.string r)∧cb (fun _ _=>False) w w':=by
 have hu':=hu
 obtain⟨sa,sc,css,hus,hlc,hall,hcells⟩:=hu
 obtain rfl:u = .slice sa (List.length x) sc:=List.head_eq_of_cons_eq hus
 unfold jx at hx
 obtain⟨ok,hok,hx⟩:=Option.bind_eq_some_iff.1 hx
 go_enter Tryz.func207,Tryz.ntmps207
 go_wp2_with (go_at_call 206;refine(DE h1 hK hKb hu' hok).mono ?_)
 rintro e w1 ⟨rfl,hs1⟩
 cases ok with
 |false =>
  obtain rfl:=Option.some.inj hx
  go_wp2
  intro hs1
  go_at_K
  go_wp2
  go_ret
  exact⟨rfl,hs1⟩
 |true =>
  go_wp2
  intro hs1
  go_at_K
  go_wp2
  go_loopg [11] x.length (fun g s11 wx=>∃(i:Nat) (acc:List UInt8),s11 = .int .i64 i∧i+g=x.length∧Lib.IsBuilder 278 5 w1.heap.size w1.heap.size (Lib.byteCells acc) wx∧Below w1.heap.size w1 wx∧(i≤acc.length∧acc.length≤1073741824)∧rI n (x.drop i) ⟨acc.toArray⟩=some r)
  case atStart =>
   refine⟨0,[],rfl,by omega,Lib.fresh_isBuilder 278 5 w1,(Below.refl _ w1).alloc (Nat.le_refl _) _,⟨by simp,by simp⟩,?_⟩
   exact hx
  case round =>
   obtain⟨i,acc,rfl,hi,hB,hbw,⟨hia,hal⟩,hg⟩:=hrel
   rcases Nat.lt_or_ge i x.length with hlt|hge
   ·have hst:cb (fun _ _=>False) w wr:=cb.trans hs1 (cb.of_below hbw) (fun _ _ q=>q.elim)
    obtain⟨b,off,c,cs,e,hb,hr,hcl⟩:=yL hu' hlt
    injection e with e1 _ e2
    subst e1 e2
    obtain⟨va,vb,rfl,ra,rb⟩:=hr
    obtain rfl:va=[.int .i64 (x.getD i yD.zero).1]:=ra
    obtain rfl:vb=[.string (x.getD i yD.zero).2]:=rb
    have c0:wr.cell? ⟨b,off+i*2,none⟩=some (.int .i64 (x.getD i yD.zero).1):=(hst.cell hb (fun q=>q)).1.trans (hcl 0 _ rfl)
    have c1:wr.cell? ⟨b,off+i*2+1,none⟩=some (.string (x.getD i yD.zero).2):=(hst.cell hb (fun q=>q)).1.trans (hcl 1 _ rfl)
    have hd:x.drop i=x.getD i yD.zero::x.drop (i+1):=by
     rw[List.drop_eq_getElem_cons hlt,List.getD_eq_getElem?_getD,List.getElem?_eq_getElem hlt];rfl
    rw[hd]at hg
    obtain⟨wd,hwd,hg⟩:=Option.bind_eq_some_iff.1 hg
    generalize hX:x.getD i yD.zero=X at *
    obtain⟨X1,X2⟩:=X
    have hW1:Below wr.heap.size wr (wr.alloc (.cells #[.int .i64 X1, .string X2] 177)).drew:=((Below.refl _ wr).alloc (Nat.le_refl _) _).drew
    have hsW:cb (fun _ _=>False) w (wr.alloc (.cells #[.int .i64 X1, .string X2] 177)).drew:=cb.trans hst (cb.of_below hW1) (fun _ _ q=>q.elim)
    have hKW:K.ok (wr.alloc (.cells #[.int .i64 X1, .string X2] 177)).drew:=K.keep _ _ hK fun b hb=>⟨hKb b hb,hsW.same (hKb b hb) (fun _ q=>q)⟩
    have hKbW:∀b,K.blk b→b<(wr.alloc (.cells #[.int .i64 X1, .string X2] 177)).drew.heap.size:=fun b hb=>Nat.lt_of_lt_of_le (hKb b hb) hsW.size
    have hc1:=Dr h2 hKW hKbW hwd
    have hBW:=tW hB hW1
    have hWs:(wr.alloc (.cells #[.int .i64 X1, .string X2] 177)).drew.heap.size=wr.heap.size+1:=by simp
    have d1:(wr.alloc (.cells #[.int .i64 X1, .string X2] 177)).drew.cell? ⟨wr.heap.size,1,none⟩=some (.string X2):=Lib.cell_of_heap (w:=(wr.alloc (.cells #[.int .i64 X1, .string X2] 177)).drew) (cs:=#[.int .i64 X1, .string X2]) (T:=177) (fr:=(0,0)) (b:=wr.heap.size) (by show(wr.heap.push _)[wr.heap.size]?=_;simp) 1
    have hcond:(ap wd X2&&(ap (wd++X2) (⟨#[10]⟩:ByteArray)&&decide ((⟨acc.toArray⟩:ByteArray).size+(wd++X2++(⟨#[10]⟩:ByteArray)).size≤1073741824)))=true:=by
     cases q:(ap wd X2&&(ap (wd++X2) (⟨#[10]⟩:ByteArray)&&decide ((⟨acc.toArray⟩:ByteArray).size+(wd++X2++(⟨#[10]⟩:ByteArray)).size≤1073741824)))with
     |true=>rfl
     |false =>
      have hg':=hg
      rw[q]at hg'
      cases hg'
    rw[hcond]at hg
    rw[Bool.and_eq_true,Bool.and_eq_true]at hcond
    have k1:=of_decide_eq_true hcond.1
    have k2:=of_decide_eq_true hcond.2.1
    have k3:=of_decide_eq_true hcond.2.2
    have hr1:¬9223372036854775807<wd.size+X2.size:=by omega
    have hr2:¬9223372036854775807<(wd++X2).size+(⟨#[10]⟩:ByteArray).size:=by omega
    have hr3:¬9223372036854775807<wd.size+X2.size+1:=by
     have:=hr2;rw[ByteArray.size_append]at this;exact this
    go_wp2
    go_region_with (first
     |(go_at_call 246;refine hc1.mono ?_;rintro e w2 ⟨rfl,hs2⟩;have d2:w2.cell? ⟨wr.heap.size,1,none⟩=some (.string X2):=(hs2.cell (by omega) (fun q=>q)).1.trans d1)
     |(go_at_call 248;refine(xY w1.heap.size w1.heap.size (Lib.byteCells acc) (wd++X2++(⟨#[10]⟩:ByteArray)) w2 ?hB ?hl ?hs).mono ?_;(case hB=>exact tW hBW hs2.below);(case hl=>rw[Lib.byteCells_length];omega);(case hs=>have q1:=hs2.size;have q2:=hbw.size;omega);rintro e w3 ⟨rfl,hb3,hw3⟩))
    all_goals
     go_wp2
     go_roundg (gk-1)
     case measure=>omega
     case rel =>
      refine⟨i+1,acc++(wd++X2++(⟨#[10]⟩:ByteArray)).data.toList,?_,?_, .inr ?_,?_,?_,?_⟩
      ·exact congrArg (Value.int .i64) (by omega)
      ·omega
      ·rw[Lib.byteCells_append, ←Lib.strCells_eq];exact hb3
      ·exact(hbw.trans ((hW1.mono (by have:=hbw.size;omega)).trans (hs2.below.mono (by have:=hbw.size;omega)))).trans hw3
      ·rw[Ps]at k3
       rw[List.length_append,KR]
       refine⟨?_,k3⟩
       rw[show(wd++X2++(⟨#[10]⟩:ByteArray)).size=(wd++X2).size+(⟨#[10]⟩:ByteArray).size from ByteArray.size_append]
       have:(⟨#[10]⟩:ByteArray).size=1:=rfl
       omega
      ·rw[NV];exact hg
   ·obtain rfl:i=x.length:=by omega
    rw[List.drop_length]at hg
    obtain rfl:=Option.some.inj hg
    have hBw:w1.heap.size≤wr.heap.size:=hbw.size
    go_wp2_with (go_at_call 249;refine(Tryz.Builder_String_any w1.heap.size w1.heap.size acc wr hB hBw).mono ?_)
    rintro e w2 ⟨rfl,hb2⟩
    go_wp2
    go_ret
    exact⟨rfl,cb.trans hs1 (cb.of_below (hbw.trans hb2)) (fun _ _ q=>q.elim)⟩
theorem wW{K:fA}{n:Nat}(h1:qn Tryz.prog K (206,EG n)) (h2:qn Tryz.prog K (246,EF n)):qn Tryz.prog K (207,LU n):=by
 refine⟨eO Tryz.func207 (by kernel_rfl) (by kernel_rfl),?_⟩
 intro Y L I a w x r hx hR hK hY hw
 have hN:Y.N=1:=hY
 have hsz:a.tmps.size=1:=hR.size.trans hN
 have hu:dJ I w (.sl yD) x [a.tmps.getD 0 undef]:=hR.slot 0
 have hI:∀b,I b→b<w.heap.size:=fun b hb=>(hR.imm b hb).1
 have hu:=dJ.mono hI (fun _ _=>rfl) (.sl yD) hu
 have htm:a.tmps=#[a.tmps.getD 0 undef]:=by
  refine Array.ext (by simp[hsz]) fun i hi _=>?_
  obtain rfl:i=0:=by omega
  rw[Array.getD_eq_getD_getElem?,Array.getElem?_eq_getElem hi];rfl
 subst hK
 rw[show first (aa.real (LU n)) a.tmps=a.tmps from qP (by rw[hsz];exact Nat.le_refl _),htm]
 refine(v8 h1 h2 hR.glob.1 (fun b hb=>hI b (hR.glob.2 b hb)) hu hx).mono fun e w' h=>?_
 obtain⟨rfl,hst⟩:=h
 have g1:=hR.grows hst
 refine⟨_,L,I,⟨#[a.tmps.getD 0 undef, .string r],[]⟩,rfl,?_,fun _ _=>rfl,rfl⟩
 refine⟨rfl,rfl,fun i hi=>?_,fun i hi=>?_,fun _ _ q=>(by cases q),fun _ _ _ _ q=>(by cases q),fun _ _ q=>(by cases q),g1.imm,g1.sub,g1.step,g1.glob⟩
 ·have hi:i<2:=hi
  match i,hi with
  |0,_=>trivial
  |1,_ =>
   show dJ I w' .str r [.string r]
   rfl
 ·have hi:2≤i:=hi
  match i,hi with
  |i+2,_=>rfl
end AM
end Go.Proofs.YtobpcllkonomlabGreatDoor
