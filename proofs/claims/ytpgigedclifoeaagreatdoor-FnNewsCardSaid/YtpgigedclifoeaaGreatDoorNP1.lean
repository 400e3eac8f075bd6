/- The library's functions, by their contracts. Under: what the rows list of the library's variables. And what follows it: see the remarks. -/
import Derived.Test.YtpgigedclifoeaaGreatDoorNALd
import Derived.Test.YtpgigedclifoeaaGreatDoorNShelf
import Derived.WalkKit
import Derived.Lib.Walk
import Derived.Lib.Builder
import Derived.Lib.AppendStr
import Derived.Lib.UnsafeStr
import Derived.Deep.LoopGhost
import Derived.Deep.RegionWith
import Derived.Test.YtpgigedclifoeaaGreatDoorNW4
import Derived.Lib.SliceRun
namespace Go.Proofs.YtpgigedclifoeaaGreatDoor
namespace AM
open Go
set_option linter.unusedVariables false
structure ag (W:World):Prop where
 mx:∃m,W.cell? ⟨0,0,none⟩=some (.int .i64 m)
 tab:Lib.TabIs Tryz.prog W "internal/strconv.uint64pow10" .u64 Lib.pow10Tab
 es:∃ev,W.cell? ⟨1,0,none⟩=some ev∧(ev = .nilIface∨∃te pe,ev = .iface te pe)
 er:∃ev,W.cell? ⟨2,0,none⟩=some ev∧(ev = .nilIface∨∃te pe,ev = .iface te pe)
theorem QD{W:World}(hG:ag W):qX Tryz.prog (fN.of W) (220,S8) :=
 ⟨gf Tryz.func220 (by kernel_rfl) (by kernel_rfl),wG (ps:=[.int .i64]) (rs:=[.str]) (g:=t4) rfl rfl (fun w x r hx hK=>by
  simp only[t4]at hx
  split at hx
  ·rename_i hs
   obtain rfl:=Option.some.inj hx
   refine(Tryz.strconv_Itoa x hs.1 hs.2 w (fN.of_tab hK hG.tab)).mono fun e w' h=>⟨h.1,?_⟩
   obtain⟨k,os,rfl⟩:=h.2
   exact ct.trans (ct.drewN w k) (ct.grow _ os) (fun _ _ q=>q.elim)
  ·cases hx)⟩
theorem Q7{W:World}(hG:ag W):qX Tryz.prog (fN.of W) (141,Tb) :=
 ⟨gf Tryz.func141 (by kernel_rfl) (by kernel_rfl),wG (ps:=[.str, .str]) (rs:=[.str, .str, .bool]) (g:=xn) rfl rfl (fun w x r hx hK=>by
  obtain⟨s,sep⟩:=x
  simp only[xn]at hx
  split at hx
  ·rename_i hs
   obtain rfl:=Option.some.inj hx
   obtain⟨m,hm⟩:=hG.mx
   refine(Tryz.strings_Cut s sep m w hs (fN.of_cell hK hm)).mono fun e w' h=>⟨h.1,?_⟩
   obtain⟨k,rfl⟩:=h.2
   exact ct.drewN w k
  ·cases hx)⟩
theorem QE{W:World}(hG:ag W):qX Tryz.prog (fN.of W) (219,Ta) :=
 ⟨gf Tryz.func219 (by kernel_rfl) (by kernel_rfl),xW (ps:=[.str]) (rs:=[.i (.int .i64), .e]) (g:=t5) rfl rfl (fun w s r hx hK=>by
  simp only[t5]at hx
  split at hx
  ·rename_i hs
   cases hv:Lib.atoiAll (ByteArray.data s).toList with
   |ok v =>
    rw[hv]at hx
    obtain rfl:=Option.some.inj hx
    refine(Tryz.strconv_Atoi_ok _ (by omega) v hv w).mono fun e w' h=>⟨[.int .i64 v, .nilIface],h.1,⟨rfl,⟨false,rfl,rfl⟩,trivial⟩,?_⟩
    rcases h.2 with rfl|⟨t,rfl⟩
    ·exact ct.refl _ _
    ·exact ct.of_below (Lib.bytesWorld_below _ _ _)
   |range =>
    rw[hv]at hx
    obtain rfl:=Option.some.inj hx
    obtain⟨ev,h1,h2⟩:=hG.er
    refine(Tryz.strconv_Atoi_range _ hs hv ev w (fN.of_cell hK h1) h2).mono fun e w' h=>?_
    obtain⟨N,h3,_,_,h4⟩:=h
    exact⟨[.int .i64 _,_],h3,⟨rfl,⟨true,rfl,_,_,rfl⟩,trivial⟩,ct.of_below h4⟩
   |_ =>
    rw[hv]at hx
    obtain rfl:=Option.some.inj hx
    obtain⟨ev,h1,h2⟩:=hG.es
    refine(Any.strconv_Atoi_syntax Tryz.laysC172 _ hs hv ev w (fN.of_cell hK h1) h2).mono fun e w' h=>?_
    obtain⟨N,h3,_,_,h4⟩:=h
    exact⟨[.int .i64 0,_],h3,⟨rfl,⟨true,rfl,_,_,rfl⟩,trivial⟩,ct.of_below h4⟩
  ·cases hx)⟩
theorem zU{kt:Ty}{k:kt.den}{x:Int}(hr:kt.eqv k k=true):∀{m:List (kt.den×Int)}{i j:Nat}{v:Int},cg kt k m i=some (j,v)→cg kt k (m.set (j-i) (k,x)) i=some (j,x)
 |[],_,_,_,h=>by cases h
 |p::r,i,j,v,h=>by
  unfold cg at h
  cases q:kt.eqv k p.1 with
  |true =>
   rw[q]at h
   obtain⟨rfl,rfl⟩:=Prod.mk.inj (Option.some.inj h)
   rw[Nat.sub_self,List.set_cons_zero]
   unfold cg
   rw[hr];rfl
  |false =>
   rw[q]at h
   have h:cg kt k r (i+1)=some (j,v):=h
   obtain⟨h1,_⟩:=mM h
   rw[show j-i=(j-(i+1))+1 by omega,List.set_cons_succ]
   unfold cg
   rw[q]
   exact zU hr h
theorem ya{kt:Ty}{k:kt.den}{x:Int}(hr:kt.eqv k k=true):∀{m:List (kt.den×Int)}{i:Nat},cg kt k m i=none→cg kt k (m++[(k,x)]) i=some (i+m.length,x)
 |[],i,_=>by
  show cg kt k [(k,x)] i=_
  unfold cg
  rw[hr];simp
 |p::r,i,h=>by
  unfold cg at h
  cases q:kt.eqv k p.1 with
  |true=>rw[q]at h;cases h
  |false =>
   rw[q]at h
   have h:cg kt k r (i+1)=none:=h
   show cg kt k (p::(r++[(k,x)])) i=_
   unfold cg
   rw[q]
   have:=ya (x:=x) hr h
   simp only[cond_false,this,List.length_cons]
   congr 2;omega
theorem rA{kt:Ty}{k:kt.den}{x:Int}{m:List (kt.den×Int)}(hr:kt.eqv k k=true):eA kt k (kq kt k x m)=x:=by
 unfold eA kq
 cases h:cg kt k m 0 with
 |some p =>
  obtain⟨j,v⟩:=p
  have:=zU (x:=x) hr h
  rw[Nat.sub_zero]at this
  simp only[this]
 |none=>simp only[ya hr h]
theorem du (n:Nat) (x):aX n x=ax n x:=by
 have e:(Ty.pr (.int .i64) (.pr (.int .i64) (.int .i64))).eqv (x.2.2.1,(x.2.2.2.1,x.2.2.2.2.1)) (x.2.2.1,(x.2.2.2.1,x.2.2.2.2.1))=true:=by simp[Ty.eqv]
 unfold aX ax
 rw[rA e]
end AM
end Go.Proofs.YtpgigedclifoeaaGreatDoor
namespace Go.Proofs.YtpgigedclifoeaaGreatDoor
namespace AM
open Go Go.Shelf Go.RowKit
set_option linter.unusedVariables false
set_option maxHeartbeats 1000000 in
set_option maxRecDepth 100000 in
theorem uP (b:Nat) (w:World) (h0:w.cell? ⟨b,0,none⟩=some (.pointer (some ⟨b,0,none⟩))) :
  Calls Tryz.prog 199 #[.pointer (some ⟨b,0,none⟩)] w fun e w'=>e = .returned (.tuple #[])∧w'=w:=by
 have X:=Tryz.Builder_Extra_169.toX72
 obtain⟨j,hj,_⟩:=Option.map_eq_some_iff.1 X.sizeBuilder
 go_enter Tryz.func199,Tryz.ntmps199
 go_wp2
 rw[Lib.run_neq_ptr_same w _ Tryz.underlying185 hj]
 go_wp2
 go_end0
 exact⟨rfl,rfl⟩
set_option maxHeartbeats 1000000 in
set_option maxRecDepth 100000 in
theorem tC (b:Nat) (w:World) (h0:w.cell? ⟨b,0,none⟩=some (.pointer none)) (hsh:w.shape? b=some (187,2)) (hfz:w.frozen? ⟨b,0,none⟩=false) :
  Calls Tryz.prog 199 #[.pointer (some ⟨b,0,none⟩)] w fun e w'=>e = .returned (.tuple #[])∧w'=w.setCell ⟨b,0,none⟩ (.pointer (some ⟨b,0,none⟩)):=by
 have X:=Tryz.Builder_Extra_169.toX72
 obtain⟨j,hj,hjs⟩:=Option.map_eq_some_iff.1 X.sizeBuilder
 go_enter Tryz.func199,Tryz.ntmps199
 go_wp2
 rw[Lib.run_to_unsafe w ⟨b,0,none⟩ Tryz.underlying185 Tryz.underlying235 hj (by rw[hjs];decide) hsh (Nat.zero_lt_succ 1)]
 simp only[Result.andThen]
 rw[Oper.upon_value]
 go_wp2
 rw[run_callFunc_extern Tryz.func230 (by kernel_rfl) (by kernel_rfl) (by kernel_rfl) (e:=Extern.AbiNoEscape.same) (by kernel_rfl)]
 rw[Lib.run_noEscape]
 simp only[Result.andThen]
 rw[Oper.upon_value]
 go_wp2
 rw[Lib.run_from_unsafe w ⟨b,0,none⟩ Tryz.underlying235 Tryz.underlying185 hj hsh X.liesBuilder]
 simp only[Result.andThen]
 rw[Oper.upon_value]
 go_wp2
 go_end0
 exact⟨rfl,rfl⟩
theorem BN (B b:Nat) (bs:List Value) (w:World) (h:Lib.IsBuilder 187 5 B b bs w) :
  Calls Tryz.prog 199 #[.pointer (some ⟨b,0,none⟩)] w fun e w'=>e = .returned (.tuple #[])∧(Lib.BuilderAt 187 5 B b (.pointer (some ⟨b,0,none⟩)) bs w'∧Below B w w'):=by
 rcases h with h|h
 ·refine(tC b w h.cell0 h.shape h.frozen0).mono ?_
  rintro e w' ⟨rfl,rfl⟩
  exact⟨rfl,h.used _,(Below.refl B w).setCell (p:=⟨b,0,none⟩) h.1 _⟩
 ·refine(uP b w h.cell0).mono ?_
  rintro e w' ⟨rfl,rfl⟩
  exact⟨rfl,h,Below.refl B _⟩
set_option maxHeartbeats 2000000 in
set_option maxRecDepth 100000 in
theorem yB (B b:Nat) (bs:List Value) (s:ByteArray) (w:World) (h:Lib.IsBuilder 187 5 B b bs w) (hlen:bs.length+s.size≤140737488355328) (hBw:B≤w.heap.size) :
  Calls Tryz.prog 179 #[.pointer (some ⟨b,0,none⟩), .string s] w fun e w'=>e = .returned (.tuple #[.int .i64 s.size, .nilIface])∧(Lib.BuilderAt 187 5 B b (.pointer (some ⟨b,0,none⟩)) (bs++Lib.strCells s) w'∧Below B w w'):=by
 have X:=Tryz.Builder_Extra_169
 obtain⟨i0,hi,hz0,hz1,hz2⟩:=info_parts X.infoByte
 go_enter Tryz.func179,Tryz.ntmps179
 go_wp2_with (go_at_call 199;refine(BN B b bs _ h).mono ?_)
 rintro e w1 ⟨rfl,h1,hb1⟩
 obtain⟨hB,v,hbk,hown,hne⟩:=h1
 have c0:w1.cell? ⟨b,0,none⟩=some (.pointer (some ⟨b,0,none⟩)):=by rw[Lib.cell_of_heap hbk];rfl
 have c1:w1.cell? ⟨b,1,none⟩=some v:=by rw[Lib.cell_of_heap hbk];rfl
 go_wp2_with (at_builtin;refine Lib.wpList_append_own_string _ rfl _ _ 22 9 rfl B 5 i0 Tryz.underlying22 Tryz.underlying9 hi hz0 hz1 hz2 _ _ _ rfl hown s rfl ?c3 ?c4 ?c5 ?_)
 case c3=>unfold maxLen;omega
 case c4=>omega
 case c5=>have:=hb1.size;omega
 intro v' w2 hown' hgrow _
 have hlt:b<w1.heap.size:=by
  rcases Nat.lt_or_ge b w1.heap.size with h'|h'
  ·exact h'
  ·simp[Array.getElem?_eq_none h']at hbk
 have hb2:w2.heap[b]?=some (.cells #[.pointer (some ⟨b,0,none⟩),v] 187 (0,0)):=by
  rw[hgrow.block b hlt (fun e=>hne e.symm)]
  exact hbk
 have d0:w2.cell? ⟨b,0,none⟩=some (.pointer (some ⟨b,0,none⟩)):=by rw[Lib.cell_of_heap hb2];rfl
 have d1:w2.cell? ⟨b,1,none⟩=some v:=by rw[Lib.cell_of_heap hb2];rfl
 have f1:w2.frozen? ⟨b,1,none⟩=false:=Lib.frozen_of_heap hb2 1
 obtain⟨ao,n',cap,rfl⟩:∃ao n' cap,v' = .slice ao n' cap:=by
  rcases hown'.2 with⟨hv,_⟩|⟨g,cap,cur,hv,_⟩
  ·exact⟨_,_,_,hv⟩
  ·exact⟨_,_,_,hv⟩
 go_wp2
 go_ret2
 refine⟨rfl,?_,?_⟩
 ·exact Lib.BuilderAt.put (T:=187) (e:=5) hB hb2 (bs':=bs++Lib.strCells s) (by simpa [Lib.strCells_length]using hown') X.neB5
 ·exact(hb1.grown hgrow (by have:=hb1.size;omega) (fun k hk=>(hown.lt k hk).1)).setCell (p:=⟨b,1,none⟩) hB _
theorem DO{K:fN}{n:Nat}(h:qX Tryz.prog K (177,EZ n)){w:World}(hK:K.ok w) (hKb:∀b,K.blk b→b<w.heap.size){x:Int}{r:ByteArray}(hx:lx n x=some r) :
  Calls Tryz.prog 177 #[.int .i64 x] w fun e w'=>e = .returned (.string r)∧ct (fun _ _=>False) w w':=by
 let Y:rN:={ K:=K,N:=1,w0:=w,E:=fun _ _=>False,I0:=fun b=>b<w.heap.size }
 have hrel:bJ Y (fun _=>undef) (fun b=>b<w.heap.size) (eN (aw 0 (EZ n).pars) x) ⟨#[.int .i64 x],[]⟩ w:=by
  refine⟨rfl,rfl,fun i hi=>?_,fun i hi=>?_,fun _ _ h=>(by cases h),fun _ _ _ _ h=>(by cases h),fun _ _ h=>(by cases h),fun b hb=>⟨hb, .inl hb⟩,fun b hb=>hb,ct.refl _ _,hK,hKb⟩
  ·obtain rfl:i=0:=by have:i<1:=hi;omega
   show dh (fun b=>b<w.heap.size) w (.int .i64) x [.int .i64 x]
   rfl
  ·have hi:1≤i:=hi
   match i,hi with
   |i+1,_=>rfl
 have hc:=h.2 Y _ _ ⟨#[.int .i64 x],[]⟩ w x r hx hrel rfl rfl rfl
 refine hc.mono fun e w' h=>?_
 obtain⟨v,L',I',a',rfl,hR,_,rfl⟩:=h
 have hs:a'.tmps.getD 1 undef = .string r:=List.head_eq_of_cons_eq (hR.slot 1)
 exact⟨congrArg Ending.returned hs,hR.step⟩
abbrev zh:Ty := .pr (.int .i64) .str
theorem D2{K:fN}{n:Nat}(h:qX Tryz.prog K (143,E0 n)){w:World}(hK:K.ok w) (hKb:∀b,K.blk b→b<w.heap.size){x:List (Int×ByteArray)}{u:Value}(hu:dh (fun b=>b<w.heap.size) w (.sl zh) x [u]){r:Bool}(hx:ly n x=some r) :
  Calls Tryz.prog 143 #[u] w fun e w'=>e = .returned (.bool r)∧ct (fun _ _=>False) w w':=by
 let Y:rN:={ K:=K,N:=1,w0:=w,E:=fun _ _=>False,I0:=fun b=>b<w.heap.size }
 have hrel:bJ Y (fun _=>undef) (fun b=>b<w.heap.size) (eN (aw 0 (E0 n).pars) x) ⟨#[u],[]⟩ w:=by
  refine⟨rfl,rfl,fun i hi=>?_,fun i hi=>?_,fun _ _ h=>(by cases h),fun _ _ _ _ h=>(by cases h),fun _ _ h=>(by cases h),fun b hb=>⟨hb, .inl hb⟩,fun b hb=>hb,ct.refl _ _,hK,hKb⟩
  ·obtain rfl:i=0:=by have:i<1:=hi;omega
   exact hu
  ·have hi:1≤i:=hi
   match i,hi with
   |i+1,_=>rfl
 have hc:=h.2 Y _ _ ⟨#[u],[]⟩ w x r hx hrel rfl rfl rfl
 refine hc.mono fun e w' h=>?_
 obtain⟨v,L',I',a',rfl,hR,_,rfl⟩:=h
 have hs:a'.tmps.getD 1 undef = .bool r:=List.head_eq_of_cons_eq (hR.slot 1)
 exact⟨congrArg Ending.returned hs,hR.step⟩
theorem uO{B b:Nat}{bs:List Value}{w w':World}(h:Lib.IsBuilder 187 5 B b bs w) (hb:Below w.heap.size w w'):Lib.IsBuilder 187 5 B b bs w':=by
 have one:∀{p:Value},Lib.BuilderAt 187 5 B b p bs w→Lib.BuilderAt 187 5 B b p bs w':=by
  rintro p ⟨hB,v,h1,h2,h3⟩
  have lt:∀{k:Nat}{o:Go.Obj},w.heap[k]?=some o→k<w.heap.size:=fun h=>(Array.getElem?_eq_some_iff.1 h).1
  refine⟨hB,v,(hb.block b (lt h1)).trans h1,⟨h2.1,h2.2.imp id ?_⟩,h3⟩
  rintro ⟨g,cap,cur,hv,hb',hg,rest⟩
  exact⟨g,cap,cur,hv,hb',(hb.block g (lt hg)).trans hg,rest⟩
 exact h.imp one one
theorem P7 (acc:List UInt8):(⟨acc.toArray⟩:ByteArray).size=acc.length:=by simp[ByteArray.size]
theorem Lb (s:ByteArray):s.data.toList.length=s.size:=Array.length_toList
theorem OF (acc:List UInt8) (s:ByteArray):(⟨(acc++s.data.toList).toArray⟩:ByteArray)=⟨acc.toArray⟩++s:=by
 obtain⟨⟨l⟩⟩:=s
 simp[ByteArray.mk_append_mk]
set_option maxHeartbeats 2000000 in
set_option maxRecDepth 100000 in
theorem wZ{K:fN}{n:Nat}(h1:qX Tryz.prog K (143,E0 n)) (h2:qX Tryz.prog K (177,EZ n)){w:World}(hK:K.ok w) (hKb:∀b,K.blk b→b<w.heap.size){x:List (Int×ByteArray)}{u:Value}(hu:dh (fun b=>b<w.heap.size) w (.sl zh) x [u]){r:ByteArray}(hx:jY n x=some r) :
  Calls Tryz.prog 144 #[u] w fun e w'=>e = .returned (.string r)∧ct (fun _ _=>False) w w':=by
 have hu':=hu
 obtain⟨sa,sc,css,hus,hlc,hall,hcells⟩:=hu
 obtain rfl:u = .slice sa (List.length x) sc:=List.head_eq_of_cons_eq hus
 unfold jY at hx
 obtain⟨ok,hok,hx⟩:=Option.bind_eq_some_iff.1 hx
 go_enter Tryz.func144,Tryz.ntmps144
 go_wp2_with (go_at_call 143;refine(D2 h1 hK hKb hu' hok).mono ?_)
 rintro e w1 ⟨rfl,hs1⟩
 cases ok with
 |false =>
  obtain rfl:=Option.some.inj hx
  go_wp2
  intro hs1
  go_at_K
  go_wp2
  go_ret
  exact⟨rfl,hs1⟩
 |true =>
  go_wp2
  intro hs1
  go_at_K
  go_wp2
  go_loopg [11] x.length (fun g s11 wx=>∃(i:Nat) (acc:List UInt8),s11 = .int .i64 i∧i+g=x.length∧Lib.IsBuilder 187 5 w1.heap.size w1.heap.size (Lib.byteCells acc) wx∧Below w1.heap.size w1 wx∧(i≤acc.length∧acc.length≤1073741824)∧sB n (x.drop i) ⟨acc.toArray⟩=some r)
  case atStart =>
   refine⟨0,[],rfl,by omega,Lib.fresh_isBuilder 187 5 w1,(Below.refl _ w1).alloc (Nat.le_refl _) _,⟨by simp,by simp⟩,?_⟩
   exact hx
  case round =>
   obtain⟨i,acc,rfl,hi,hB,hbw,⟨hia,hal⟩,hg⟩:=hrel
   rcases Nat.lt_or_ge i x.length with hlt|hge
   ·have hst:ct (fun _ _=>False) w wr:=ct.trans hs1 (ct.of_below hbw) (fun _ _ q=>q.elim)
    obtain⟨b,off,c,cs,e,hb,hr,hcl⟩:=zv hu' hlt
    injection e with e1 _ e2
    subst e1 e2
    obtain⟨va,vb,rfl,ra,rb⟩:=hr
    obtain rfl:va=[.int .i64 (x.getD i zh.zero).1]:=ra
    obtain rfl:vb=[.string (x.getD i zh.zero).2]:=rb
    have c0:wr.cell? ⟨b,off+i*2,none⟩=some (.int .i64 (x.getD i zh.zero).1):=(hst.cell hb (fun q=>q)).1.trans (hcl 0 _ rfl)
    have c1:wr.cell? ⟨b,off+i*2+1,none⟩=some (.string (x.getD i zh.zero).2):=(hst.cell hb (fun q=>q)).1.trans (hcl 1 _ rfl)
    have hd:x.drop i=x.getD i zh.zero::x.drop (i+1):=by
     rw[List.drop_eq_getElem_cons hlt,List.getD_eq_getElem?_getD,List.getElem?_eq_getElem hlt];rfl
    rw[hd]at hg
    obtain⟨wd,hwd,hg⟩:=Option.bind_eq_some_iff.1 hg
    generalize hX:x.getD i zh.zero=X at *
    obtain⟨X1,X2⟩:=X
    have hW1:Below wr.heap.size wr (wr.alloc (.cells #[.int .i64 X1, .string X2] 112)).drew:=((Below.refl _ wr).alloc (Nat.le_refl _) _).drew
    have hsW:ct (fun _ _=>False) w (wr.alloc (.cells #[.int .i64 X1, .string X2] 112)).drew:=ct.trans hst (ct.of_below hW1) (fun _ _ q=>q.elim)
    have hKW:K.ok (wr.alloc (.cells #[.int .i64 X1, .string X2] 112)).drew:=K.keep _ _ hK fun b hb=>⟨hKb b hb,hsW.same (hKb b hb) (fun _ q=>q)⟩
    have hKbW:∀b,K.blk b→b<(wr.alloc (.cells #[.int .i64 X1, .string X2] 112)).drew.heap.size:=fun b hb=>Nat.lt_of_lt_of_le (hKb b hb) hsW.size
    have hc1:=DO h2 hKW hKbW hwd
    have hBW:=uO hB hW1
    have hWs:(wr.alloc (.cells #[.int .i64 X1, .string X2] 112)).drew.heap.size=wr.heap.size+1:=by simp
    have d1:(wr.alloc (.cells #[.int .i64 X1, .string X2] 112)).drew.cell? ⟨wr.heap.size,1,none⟩=some (.string X2):=Lib.cell_of_heap (w:=(wr.alloc (.cells #[.int .i64 X1, .string X2] 112)).drew) (cs:=#[.int .i64 X1, .string X2]) (T:=112) (fr:=(0,0)) (b:=wr.heap.size) (by show(wr.heap.push _)[wr.heap.size]?=_;simp) 1
    have hcond:(aH wd X2&&(aH (wd++X2) (⟨#[10]⟩:ByteArray)&&decide ((⟨acc.toArray⟩:ByteArray).size+(wd++X2++(⟨#[10]⟩:ByteArray)).size≤1073741824)))=true:=by
     cases q:(aH wd X2&&(aH (wd++X2) (⟨#[10]⟩:ByteArray)&&decide ((⟨acc.toArray⟩:ByteArray).size+(wd++X2++(⟨#[10]⟩:ByteArray)).size≤1073741824)))with
     |true=>rfl
     |false =>
      have hg':=hg
      rw[q]at hg'
      cases hg'
    rw[hcond]at hg
    rw[Bool.and_eq_true,Bool.and_eq_true]at hcond
    have k1:=of_decide_eq_true hcond.1
    have k2:=of_decide_eq_true hcond.2.1
    have k3:=of_decide_eq_true hcond.2.2
    have hr1:¬9223372036854775807<wd.size+X2.size:=by omega
    have hr2:¬9223372036854775807<(wd++X2).size+(⟨#[10]⟩:ByteArray).size:=by omega
    have hr3:¬9223372036854775807<wd.size+X2.size+1:=by
     have:=hr2;rw[ByteArray.size_append]at this;exact this
    go_wp2
    go_region_with (first
     |(go_at_call 177;refine hc1.mono ?_;rintro e w2 ⟨rfl,hs2⟩;have d2:w2.cell? ⟨wr.heap.size,1,none⟩=some (.string X2):=(hs2.cell (by omega) (fun q=>q)).1.trans d1)
     |(go_at_call 179;refine(yB w1.heap.size w1.heap.size (Lib.byteCells acc) (wd++X2++(⟨#[10]⟩:ByteArray)) w2 ?hB ?hl ?hs).mono ?_;(case hB=>exact uO hBW hs2.below);(case hl=>rw[Lib.byteCells_length];omega);(case hs=>have q1:=hs2.size;have q2:=hbw.size;omega);rintro e w3 ⟨rfl,hb3,hw3⟩))
    all_goals
     go_wp2
     go_roundg (gk-1)
     case measure=>omega
     case rel =>
      refine⟨i+1,acc++(wd++X2++(⟨#[10]⟩:ByteArray)).data.toList,?_,?_, .inr ?_,?_,?_,?_⟩
      ·exact congrArg (Value.int .i64) (by omega)
      ·omega
      ·rw[Lib.byteCells_append, ←Lib.strCells_eq];exact hb3
      ·exact(hbw.trans ((hW1.mono (by have:=hbw.size;omega)).trans (hs2.below.mono (by have:=hbw.size;omega)))).trans hw3
      ·rw[P7]at k3
       rw[List.length_append,Lb]
       refine⟨?_,k3⟩
       rw[show(wd++X2++(⟨#[10]⟩:ByteArray)).size=(wd++X2).size+(⟨#[10]⟩:ByteArray).size from ByteArray.size_append]
       have:(⟨#[10]⟩:ByteArray).size=1:=rfl
       omega
      ·rw[OF];exact hg
   ·obtain rfl:i=x.length:=by omega
    rw[List.drop_length]at hg
    obtain rfl:=Option.some.inj hg
    have hBw:w1.heap.size≤wr.heap.size:=hbw.size
    go_wp2_with (go_at_call 180;refine(Tryz.Builder_String_any w1.heap.size w1.heap.size acc wr hB hBw).mono ?_)
    rintro e w2 ⟨rfl,hb2⟩
    go_wp2
    go_ret
    exact⟨rfl,ct.trans hs1 (ct.of_below (hbw.trans hb2)) (fun _ _ q=>q.elim)⟩
theorem xH{K:fN}{n:Nat}(h1:qX Tryz.prog K (143,E0 n)) (h2:qX Tryz.prog K (177,EZ n)):qX Tryz.prog K (144,Mm n):=by
 refine⟨gf Tryz.func144 (by kernel_rfl) (by kernel_rfl),?_⟩
 intro Y L I a w x r hx hR hK hY hw
 have hN:Y.N=1:=hY
 have hsz:a.tmps.size=1:=hR.size.trans hN
 have hu:dh I w (.sl zh) x [a.tmps.getD 0 undef]:=hR.slot 0
 have hI:∀b,I b→b<w.heap.size:=fun b hb=>(hR.imm b hb).1
 have hu:=dh.mono hI (fun _ _=>rfl) (.sl zh) hu
 have htm:a.tmps=#[a.tmps.getD 0 undef]:=by
  refine Array.ext (by simp[hsz]) fun i hi _=>?_
  obtain rfl:i=0:=by omega
  rw[Array.getD_eq_getD_getElem?,Array.getElem?_eq_getElem hi];rfl
 subst hK
 rw[show first (aa.real (Mm n)) a.tmps=a.tmps from vz (by rw[hsz];exact Nat.le_refl _),htm]
 refine(wZ h1 h2 hR.glob.1 (fun b hb=>hI b (hR.glob.2 b hb)) hu hx).mono fun e w' h=>?_
 obtain⟨rfl,hst⟩:=h
 have g1:=hR.grows hst
 refine⟨_,L,I,⟨#[a.tmps.getD 0 undef, .string r],[]⟩,rfl,?_,fun _ _=>rfl,rfl⟩
 refine⟨rfl,rfl,fun i hi=>?_,fun i hi=>?_,fun _ _ q=>(by cases q),fun _ _ _ _ q=>(by cases q),fun _ _ q=>(by cases q),g1.imm,g1.sub,g1.step,g1.glob⟩
 ·have hi:i<2:=hi
  match i,hi with
  |0,_=>trivial
  |1,_ =>
   show dh I w' .str r [.string r]
   rfl
 ·have hi:2≤i:=hi
  match i,hi with
  |i+2,_=>rfl
end AM
end Go.Proofs.YtpgigedclifoeaaGreatDoor
