/- The library's functions, by their contracts. Under: what the rows list of the library's variables. And what follows it: see the remarks. -/
import Derived.Test.YtlnbedamfbnkaaaGreatDoorIALd
import Derived.Test.YtlnbedamfbnkaaaGreatDoorIShelf
import Derived.WalkKit
import Derived.Lib.Walk
import Derived.Lib.Builder
import Derived.Lib.AppendStr
import Derived.Lib.UnsafeStr
import Derived.Deep.LoopGhost
import Derived.Deep.RegionWith
import Derived.Test.YtlnbedamfbnkaaaGreatDoorIW4
import Derived.Lib.SliceRun
import Derived.Laws.CopyOwn
import Derived.Deep.RegionLaw
namespace Go.Proofs.YtlnbedamfbnkaaaGreatDoor
namespace AM
open Go
set_option linter.unusedVariables false
structure Facts (W:World):Prop where
 mx:∃ m,W.cell? ⟨0,0,none⟩ = some (.int .i64 m)
 tab:Lib.TabIs Tryz.prog W "internal/strconv.uint64pow10" .u64 Lib.pow10Tab
 es:∃ ev,W.cell? ⟨1,0,none⟩ = some ev ∧ (ev = .nilIface ∨ ∃ te pe,ev = .iface te pe)
 er:∃ ev,W.cell? ⟨2,0,none⟩ = some ev ∧ (ev = .nilIface ∨ ∃ te pe,ev = .iface te pe)
theorem ob157 {W:World} (hG:Facts W):Good Tryz.prog (Glob.of W) (157,S157) :=
 ⟨plain_of Tryz.func157 (by kernel_rfl) (by kernel_rfl),obeys_plain (ps := [.int .i64]) (rs := [.str]) (g := lib_itoa) rfl rfl (fun w x r hx hK => by
  simp only [lib_itoa] at hx
  split at hx
  ·rename_i hs
   obtain rfl := Option.some.inj hx
   refine (Tryz.strconv_Itoa x hs.1 hs.2 w (Glob.of_tab hK hG.tab)).mono fun e w' h => ⟨h.1, ?_⟩
   obtain ⟨k,os,rfl⟩ := h.2
   exact Step.trans (Step.drewN w k) (Step.grow _ os) (fun _ _ q => q.elim)
  ·cases hx)⟩
theorem ob97 {W:World} (hG:Facts W):Good Tryz.prog (Glob.of W) (97,S97) :=
 ⟨plain_of Tryz.func97 (by kernel_rfl) (by kernel_rfl),obeys_plain (ps := [.str, .str]) (rs := [.str, .str, .bool]) (g := lib_cut) rfl rfl (fun w x r hx hK => by
  obtain ⟨s,sep⟩ := x
  simp only [lib_cut] at hx
  split at hx
  ·rename_i hs
   obtain rfl := Option.some.inj hx
   obtain ⟨m,hm⟩ := hG.mx
   refine (Tryz.strings_Cut s sep m w hs (Glob.of_cell hK hm)).mono fun e w' h => ⟨h.1, ?_⟩
   obtain ⟨k,rfl⟩ := h.2
   exact Step.drewN w k
  ·cases hx)⟩
theorem ob156 {W:World} (hG:Facts W):Good Tryz.prog (Glob.of W) (156,S156) :=
 ⟨plain_of Tryz.func156 (by kernel_rfl) (by kernel_rfl),obeys_prim (ps := [.str]) (rs := [.i (.int .i64), .e]) (g := lib_atoi) rfl rfl (fun w s r hx hK => by
  simp only [lib_atoi] at hx
  split at hx
  ·rename_i hs
   cases hv:Lib.atoiAll (ByteArray.data s).toList with
   | ok v =>
    rw [hv] at hx
    obtain rfl := Option.some.inj hx
    refine (Tryz.strconv_Atoi_ok _ (by omega) v hv w).mono fun e w' h => ⟨[.int .i64 v, .nilIface],h.1,⟨rfl,⟨false,rfl,rfl⟩,trivial⟩, ?_⟩
    rcases h.2 with rfl | ⟨t,rfl⟩
    ·exact Step.refl _ _
    ·exact Step.of_below (Lib.bytesWorld_below _ _ _)
   | range =>
    rw [hv] at hx
    obtain rfl := Option.some.inj hx
    obtain ⟨ev,h1,h2⟩ := hG.er
    refine (Tryz.strconv_Atoi_range _ hs hv ev w (Glob.of_cell hK h1) h2).mono fun e w' h => ?_
    obtain ⟨N,h3,_,_,h4⟩ := h
    exact ⟨[.int .i64 _,_],h3,⟨rfl,⟨true,rfl,_,_,rfl⟩,trivial⟩,Step.of_below h4⟩
   | _ =>
    rw [hv] at hx
    obtain rfl := Option.some.inj hx
    obtain ⟨ev,h1,h2⟩ := hG.es
    refine (Any.strconv_Atoi_syntax Tryz.laysC172 _ hs hv ev w (Glob.of_cell hK h1) h2).mono fun e w' h => ?_
    obtain ⟨N,h3,_,_,h4⟩ := h
    exact ⟨[.int .i64 0,_],h3,⟨rfl,⟨true,rfl,_,_,rfl⟩,trivial⟩,Step.of_below h4⟩
  ·cases hx)⟩
theorem mfind_set {kt:Ty} {k:kt.den} {x:Int} (hr:kt.eqv k k = true):∀ {m:List (kt.den×Int)} {i j:Nat} {v:Int},mfind kt k m i = some (j,v) → mfind kt k (m.set (j - i) (k,x)) i = some (j,x)
 | [],_,_,_,h => by cases h
 | p :: r,i,j,v,h => by
  unfold mfind at h
  cases q:kt.eqv k p.1 with
  | true =>
   rw [q] at h
   obtain ⟨rfl,rfl⟩ := Prod.mk.inj (Option.some.inj h)
   rw [Nat.sub_self,List.set_cons_zero]
   unfold mfind
   rw [hr]; rfl
  | false =>
   rw [q] at h
   have h:mfind kt k r (i + 1) = some (j,v) := h
   obtain ⟨h1,_⟩ := mfind_spec h
   rw [show j - i = (j - (i + 1)) + 1 by omega,List.set_cons_succ]
   unfold mfind
   rw [q]
   exact mfind_set hr h
theorem mfind_push {kt:Ty} {k:kt.den} {x:Int} (hr:kt.eqv k k = true):∀ {m:List (kt.den×Int)} {i:Nat},mfind kt k m i = none → mfind kt k (m ++ [(k,x)]) i = some (i + m.length,x)
 | [],i,_ => by
  show mfind kt k [(k,x)] i = _
  unfold mfind
  rw [hr]; simp
 | p :: r,i,h => by
  unfold mfind at h
  cases q:kt.eqv k p.1 with
  | true => rw [q] at h; cases h
  | false =>
   rw [q] at h
   have h:mfind kt k r (i + 1) = none := h
   show mfind kt k (p :: (r ++ [(k,x)])) i = _
   unfold mfind
   rw [q]
   have := mfind_push (x := x) hr h
   simp only [cond_false,this,List.length_cons]
   congr 2; omega
theorem mget_mput {kt:Ty} {k:kt.den} {x:Int} {m:List (kt.den×Int)} (hr:kt.eqv k k = true):mget kt k (mput kt k x m) = x := by
 unfold mget mput
 cases h:mfind kt k m 0 with
 | some p =>
  obtain ⟨j,v⟩ := p
  have := mfind_set (x := x) hr h
  rw [Nat.sub_zero] at this
  simp only [this]
 | none => simp only [mfind_push hr h]
theorem impl_PoolOk_R7_1_eq (n:Nat) (x):impl_PoolOk_R7_1 n x = impl_PoolOk_R7 n x := by
 have e:(Ty.pr (.int .i64) (.pr (.int .i64) (.int .i64))).eqv (x.2.2.1,(x.2.2.2.1,x.2.2.2.2.1)) (x.2.2.1,(x.2.2.2.1,x.2.2.2.2.1)) = true := by simp [Ty.eqv]
 unfold impl_PoolOk_R7_1 impl_PoolOk_R7
 rw [mget_mput e]
end AM
end Go.Proofs.YtlnbedamfbnkaaaGreatDoor
namespace Go.Proofs.YtlnbedamfbnkaaaGreatDoor
namespace AM
open Go Go.Shelf Go.RowKit
set_option linter.unusedVariables false
set_option maxHeartbeats 1000000 in
set_option maxRecDepth 100000 in
theorem bu_copyCheck_used (b:Nat) (w:World) (h0:w.cell? ⟨b,0,none⟩ = some (.pointer (some ⟨b,0,none⟩))) :
  Calls Tryz.prog 130 #[.pointer (some ⟨b,0,none⟩)] w fun e w' => e = .returned (.tuple #[]) ∧ w' = w := by
 have X := Tryz.Builder_Extra_169.toX72
 obtain ⟨j,hj,_⟩ := Option.map_eq_some_iff.1 X.sizeBuilder
 go_enter Tryz.func130,Tryz.ntmps130
 go_wp2
 rw [Lib.run_neq_ptr_same w _ Tryz.underlying143 hj]
 go_wp2
 go_end0
 exact ⟨rfl,rfl⟩
set_option maxHeartbeats 1000000 in
set_option maxRecDepth 100000 in
theorem bu_copyCheck_fresh (b:Nat) (w:World) (h0:w.cell? ⟨b,0,none⟩ = some (.pointer none)) (hsh:w.shape? b = some (145,2)) (hfz:w.frozen? ⟨b,0,none⟩ = false) :
  Calls Tryz.prog 130 #[.pointer (some ⟨b,0,none⟩)] w fun e w' => e = .returned (.tuple #[]) ∧ w' = w.setCell ⟨b,0,none⟩ (.pointer (some ⟨b,0,none⟩)) := by
 have X := Tryz.Builder_Extra_169.toX72
 obtain ⟨j,hj,hjs⟩ := Option.map_eq_some_iff.1 X.sizeBuilder
 go_enter Tryz.func130,Tryz.ntmps130
 go_wp2
 rw [Lib.run_to_unsafe w ⟨b,0,none⟩ Tryz.underlying143 Tryz.underlying183 hj (by rw [hjs]; decide) hsh (Nat.zero_lt_succ 1)]
 simp only [Result.andThen]
 rw [Oper.upon_value]
 go_wp2
 rw [run_callFunc_extern Tryz.func146 (by kernel_rfl) (by kernel_rfl) (by kernel_rfl) (e := Extern.AbiNoEscape.same) (by kernel_rfl)]
 rw [Lib.run_noEscape]
 simp only [Result.andThen]
 rw [Oper.upon_value]
 go_wp2
 rw [Lib.run_from_unsafe w ⟨b,0,none⟩ Tryz.underlying183 Tryz.underlying143 hj hsh X.liesBuilder]
 simp only [Result.andThen]
 rw [Oper.upon_value]
 go_wp2
 go_end0
 exact ⟨rfl,rfl⟩
theorem bu_copyCheck (B b:Nat) (bs:List Value) (w:World) (h:Lib.IsBuilder 145 5 B b bs w) :
  Calls Tryz.prog 130 #[.pointer (some ⟨b,0,none⟩)] w fun e w' => e = .returned (.tuple #[]) ∧ (Lib.BuilderAt 145 5 B b (.pointer (some ⟨b,0,none⟩)) bs w' ∧ Below B w w') := by
 rcases h with h | h
 ·refine (bu_copyCheck_fresh b w h.cell0 h.shape h.frozen0).mono ?_
  rintro e w' ⟨rfl,rfl⟩
  exact ⟨rfl,h.used _,(Below.refl B w).setCell (p := ⟨b,0,none⟩) h.1 _⟩
 ·refine (bu_copyCheck_used b w h.cell0).mono ?_
  rintro e w' ⟨rfl,rfl⟩
  exact ⟨rfl,h,Below.refl B _⟩
set_option maxHeartbeats 2000000 in
set_option maxRecDepth 100000 in
theorem bu_WriteString (B b:Nat) (bs:List Value) (s:ByteArray) (w:World) (h:Lib.IsBuilder 145 5 B b bs w) (hlen:bs.length + s.size ≤ 140737488355328) (hBw:B ≤ w.heap.size) :
  Calls Tryz.prog 116 #[.pointer (some ⟨b,0,none⟩), .string s] w fun e w' => e = .returned (.tuple #[.int .i64 s.size, .nilIface]) ∧ (Lib.BuilderAt 145 5 B b (.pointer (some ⟨b,0,none⟩)) (bs ++ Lib.strCells s) w' ∧ Below B w w') := by
 have X := Tryz.Builder_Extra_169
 obtain ⟨i0,hi,hz0,hz1,hz2⟩ := info_parts X.infoByte
 go_enter Tryz.func116,Tryz.ntmps116
 go_wp2_with (go_at_call 130; refine (bu_copyCheck B b bs _ h).mono ?_)
 rintro e w1 ⟨rfl,h1,hb1⟩
 obtain ⟨hB,v,hbk,hown,hne⟩ := h1
 have c0:w1.cell? ⟨b,0,none⟩ = some (.pointer (some ⟨b,0,none⟩)) := by rw [Lib.cell_of_heap hbk]; rfl
 have c1:w1.cell? ⟨b,1,none⟩ = some v := by rw [Lib.cell_of_heap hbk]; rfl
 go_wp2_with (at_builtin; refine Lib.wpList_append_own_string _ rfl _ _ 22 9 rfl B 5 i0 Tryz.underlying22 Tryz.underlying9 hi hz0 hz1 hz2 _ _ _ rfl hown s rfl ?c3 ?c4 ?c5 ?_)
 case c3 => unfold maxLen; omega
 case c4 => omega
 case c5 => have := hb1.size; omega
 intro v' w2 hown' hgrow _
 have hlt:b < w1.heap.size := by
  rcases Nat.lt_or_ge b w1.heap.size with h' | h'
  ·exact h'
  ·simp [Array.getElem?_eq_none h'] at hbk
 have hb2:w2.heap[b]? = some (.cells #[.pointer (some ⟨b,0,none⟩),v] 145 (0,0)) := by
  rw [hgrow.block b hlt (fun e => hne e.symm)]
  exact hbk
 have d0:w2.cell? ⟨b,0,none⟩ = some (.pointer (some ⟨b,0,none⟩)) := by rw [Lib.cell_of_heap hb2]; rfl
 have d1:w2.cell? ⟨b,1,none⟩ = some v := by rw [Lib.cell_of_heap hb2]; rfl
 have f1:w2.frozen? ⟨b,1,none⟩ = false := Lib.frozen_of_heap hb2 1
 obtain ⟨ao,n',cap,rfl⟩:∃ ao n' cap,v' = .slice ao n' cap := by
  rcases hown'.2 with ⟨hv,_⟩ | ⟨g,cap,cur,hv,_⟩
  ·exact ⟨_,_,_,hv⟩
  ·exact ⟨_,_,_,hv⟩
 go_wp2
 go_ret2
 refine ⟨rfl, ?_, ?_⟩
 ·exact Lib.BuilderAt.put (T := 145) (e := 5) hB hb2 (bs' := bs ++ Lib.strCells s) (by simpa [Lib.strCells_length] using hown') X.neB5
 ·exact (hb1.grown hgrow (by have := hb1.size; omega) (fun k hk => (hown.lt k hk).1)).setCell (p := ⟨b,1,none⟩) hB _
theorem word_calls {K:Glob} {n:Nat} (h:Good Tryz.prog K (114,S114 n)) {w:World} (hK:K.ok w) (hKb:∀ b,K.blk b → b < w.heap.size) {x:Int} {r:ByteArray} (hx:impl_wordOf n x = some r) :
  Calls Tryz.prog 114 #[.int .i64 x] w fun e w' => e = .returned (.string r) ∧ Step (fun _ _ => False) w w' := by
 let Y:Ctx := { K := K,N := 1,w0 := w,E := fun _ _ => False,I0 := fun b => b < w.heap.size }
 have hrel:Rel Y (fun _ => undef) (fun b => b < w.heap.size) (mkSt (parEns 0 (S114 n).pars) x) ⟨#[.int .i64 x],[]⟩ w := by
  refine ⟨rfl,rfl,fun i hi => ?_,fun i hi => ?_,fun _ _ h => (by cases h),fun _ _ _ _ h => (by cases h),fun _ _ h => (by cases h),fun b hb => ⟨hb, .inl hb⟩,fun b hb => hb,Step.refl _ _,hK,hKb⟩
  ·obtain rfl:i = 0 := by have:i < 1 := hi; omega
   show Rep (fun b => b < w.heap.size) w (.int .i64) x [.int .i64 x]
   rfl
  ·have hi:1 ≤ i := hi
   match i,hi with
   | i + 1,_ => rfl
 have hc := h.2 Y _ _ ⟨#[.int .i64 x],[]⟩ w x r hx hrel rfl rfl rfl
 refine hc.mono fun e w' h => ?_
 obtain ⟨v,L',I',a',rfl,hR,_,rfl⟩ := h
 have hs:a'.tmps.getD 1 undef = .string r := List.head_eq_of_cons_eq (hR.slot 1)
 exact ⟨congrArg Ending.returned hs,hR.step⟩
abbrev actT:Ty := .pr (.int .i64) .str
theorem role_calls {K:Glob} {n:Nat} (h:Good Tryz.prog K (99,S99 n)) {w:World} (hK:K.ok w) (hKb:∀ b,K.blk b → b < w.heap.size) {x:List (Int×ByteArray)} {u:Value} (hu:Rep (fun b => b < w.heap.size) w (.sl actT) x [u]) {r:Bool} (hx:impl_RoleOk n x = some r) :
  Calls Tryz.prog 99 #[u] w fun e w' => e = .returned (.bool r) ∧ Step (fun _ _ => False) w w' := by
 let Y:Ctx := { K := K,N := 1,w0 := w,E := fun _ _ => False,I0 := fun b => b < w.heap.size }
 have hrel:Rel Y (fun _ => undef) (fun b => b < w.heap.size) (mkSt (parEns 0 (S99 n).pars) x) ⟨#[u],[]⟩ w := by
  refine ⟨rfl,rfl,fun i hi => ?_,fun i hi => ?_,fun _ _ h => (by cases h),fun _ _ _ _ h => (by cases h),fun _ _ h => (by cases h),fun b hb => ⟨hb, .inl hb⟩,fun b hb => hb,Step.refl _ _,hK,hKb⟩
  ·obtain rfl:i = 0 := by have:i < 1 := hi; omega
   exact hu
  ·have hi:1 ≤ i := hi
   match i,hi with
   | i + 1,_ => rfl
 have hc := h.2 Y _ _ ⟨#[u],[]⟩ w x r hx hrel rfl rfl rfl
 refine hc.mono fun e w' h => ?_
 obtain ⟨v,L',I',a',rfl,hR,_,rfl⟩ := h
 have hs:a'.tmps.getD 1 undef = .bool r := List.head_eq_of_cons_eq (hR.slot 1)
 exact ⟨congrArg Ending.returned hs,hR.step⟩
theorem builder_step {B b:Nat} {bs:List Value} {w w':World} (h:Lib.IsBuilder 145 5 B b bs w) (hb:Below w.heap.size w w'):Lib.IsBuilder 145 5 B b bs w' := by
 have one:∀ {p:Value},Lib.BuilderAt 145 5 B b p bs w → Lib.BuilderAt 145 5 B b p bs w' := by
  rintro p ⟨hB,v,h1,h2,h3⟩
  have lt:∀ {k:Nat} {o:Go.Obj},w.heap[k]? = some o → k < w.heap.size := fun h => (Array.getElem?_eq_some_iff.1 h).1
  refine ⟨hB,v,(hb.block b (lt h1)).trans h1,⟨h2.1,h2.2.imp id ?_⟩,h3⟩
  rintro ⟨g,cap,cur,hv,hb',hg,rest⟩
  exact ⟨g,cap,cur,hv,hb',(hb.block g (lt hg)).trans hg,rest⟩
 exact h.imp one one
theorem sz_mk (acc:List UInt8):(⟨acc.toArray⟩:ByteArray).size = acc.length := by simp [ByteArray.size]
theorem sz_list (s:ByteArray):s.data.toList.length = s.size := Array.length_toList
theorem ba_app (acc:List UInt8) (s:ByteArray):(⟨(acc ++ s.data.toList).toArray⟩:ByteArray) = ⟨acc.toArray⟩ ++ s := by
 obtain ⟨⟨l⟩⟩ := s
 simp [ByteArray.mk_append_mk]
set_option maxHeartbeats 2000000 in
set_option maxRecDepth 100000 in
theorem rolePrint_calls {K:Glob} {n:Nat} (h1:Good Tryz.prog K (99,S99 n)) (h2:Good Tryz.prog K (114,S114 n)) {w:World} (hK:K.ok w) (hKb:∀ b,K.blk b → b < w.heap.size) {x:List (Int×ByteArray)} {u:Value} (hu:Rep (fun b => b < w.heap.size) w (.sl actT) x [u]) {r:ByteArray} (hx:impl_RolePrint n x = some r) :
  Calls Tryz.prog 100 #[u] w fun e w' => e = .returned (.string r) ∧ Step (fun _ _ => False) w w' := by
 have hu' := hu
 obtain ⟨sa,sc,css,hus,hlc,hall,hcells⟩ := hu
 obtain rfl:u = .slice sa (List.length x) sc := List.head_eq_of_cons_eq hus
 unfold impl_RolePrint at hx
 obtain ⟨ok,hok,hx⟩ := Option.bind_eq_some_iff.1 hx
 go_enter Tryz.func100,Tryz.ntmps100
 go_wp2_with (go_at_call 99; refine (role_calls h1 hK hKb hu' hok).mono ?_)
 rintro e w1 ⟨rfl,hs1⟩
 cases ok with
 | false =>
  obtain rfl := Option.some.inj hx
  go_wp2
  intro hs1
  go_at_K
  go_wp2
  go_ret
  exact ⟨rfl,hs1⟩
 | true =>
  go_wp2
  intro hs1
  go_at_K
  go_wp2
  go_loopg [11] x.length (fun g s11 wx => ∃ (i:Nat) (acc:List UInt8),s11 = .int .i64 i ∧ i + g = x.length ∧ Lib.IsBuilder 145 5 w1.heap.size w1.heap.size (Lib.byteCells acc) wx ∧ Below w1.heap.size w1 wx ∧ (i ≤ acc.length ∧ acc.length ≤ 1073741824) ∧ rolePrintG n (x.drop i) ⟨acc.toArray⟩ = some r)
  case atStart =>
   refine ⟨0,[],rfl,by omega,Lib.fresh_isBuilder 145 5 w1,(Below.refl _ w1).alloc (Nat.le_refl _) _,⟨by simp,by simp⟩, ?_⟩
   exact hx
  case round =>
   obtain ⟨i,acc,rfl,hi,hB,hbw,⟨hia,hal⟩,hg⟩ := hrel
   rcases Nat.lt_or_ge i x.length with hlt | hge
   ·have hst:Step (fun _ _ => False) w wr := Step.trans hs1 (Step.of_below hbw) (fun _ _ q => q.elim)
    obtain ⟨b,off,c,cs,e,hb,hr,hcl⟩ := slice_get hu' hlt
    injection e with e1 _ e2
    subst e1 e2
    obtain ⟨va,vb,rfl,ra,rb⟩ := hr
    obtain rfl:va = [.int .i64 (x.getD i actT.zero).1] := ra
    obtain rfl:vb = [.string (x.getD i actT.zero).2] := rb
    have c0:wr.cell? ⟨b,off + i * 2,none⟩ = some (.int .i64 (x.getD i actT.zero).1) := (hst.cell hb (fun q => q)).1.trans (hcl 0 _ rfl)
    have c1:wr.cell? ⟨b,off + i * 2 + 1,none⟩ = some (.string (x.getD i actT.zero).2) := (hst.cell hb (fun q => q)).1.trans (hcl 1 _ rfl)
    have hd:x.drop i = x.getD i actT.zero :: x.drop (i + 1) := by
     rw [List.drop_eq_getElem_cons hlt,List.getD_eq_getElem?_getD,List.getElem?_eq_getElem hlt]; rfl
    rw [hd] at hg
    obtain ⟨wd,hwd,hg⟩ := Option.bind_eq_some_iff.1 hg
    generalize hX:x.getD i actT.zero = X at *
    obtain ⟨X1,X2⟩ := X
    have hW1:Below wr.heap.size wr (wr.alloc (.cells #[.int .i64 X1, .string X2] 106)).drew := ((Below.refl _ wr).alloc (Nat.le_refl _) _).drew
    have hsW:Step (fun _ _ => False) w (wr.alloc (.cells #[.int .i64 X1, .string X2] 106)).drew := Step.trans hst (Step.of_below hW1) (fun _ _ q => q.elim)
    have hKW:K.ok (wr.alloc (.cells #[.int .i64 X1, .string X2] 106)).drew := K.keep _ _ hK fun b hb => ⟨hKb b hb,hsW.same (hKb b hb) (fun _ q => q)⟩
    have hKbW:∀ b,K.blk b → b < (wr.alloc (.cells #[.int .i64 X1, .string X2] 106)).drew.heap.size := fun b hb => Nat.lt_of_lt_of_le (hKb b hb) hsW.size
    have hc1 := word_calls h2 hKW hKbW hwd
    have hBW := builder_step hB hW1
    have hWs:(wr.alloc (.cells #[.int .i64 X1, .string X2] 106)).drew.heap.size = wr.heap.size + 1 := by simp
    have d1:(wr.alloc (.cells #[.int .i64 X1, .string X2] 106)).drew.cell? ⟨wr.heap.size,1,none⟩ = some (.string X2) := Lib.cell_of_heap (w := (wr.alloc (.cells #[.int .i64 X1, .string X2] 106)).drew) (cs := #[.int .i64 X1, .string X2]) (T := 106) (fr := (0,0)) (b := wr.heap.size) (by show (wr.heap.push _)[wr.heap.size]? = _; simp) 1
    have hcond:(strRoom wd X2 && (strRoom (wd ++ X2) (⟨#[10]⟩:ByteArray) && decide ((⟨acc.toArray⟩:ByteArray).size + (wd ++ X2 ++ (⟨#[10]⟩:ByteArray)).size ≤ 1073741824))) = true := by
     cases q:(strRoom wd X2 && (strRoom (wd ++ X2) (⟨#[10]⟩:ByteArray) && decide ((⟨acc.toArray⟩:ByteArray).size + (wd ++ X2 ++ (⟨#[10]⟩:ByteArray)).size ≤ 1073741824))) with
     | true => rfl
     | false =>
      have hg' := hg
      rw [q] at hg'
      cases hg'
    rw [hcond] at hg
    rw [Bool.and_eq_true,Bool.and_eq_true] at hcond
    have k1 := of_decide_eq_true hcond.1
    have k2 := of_decide_eq_true hcond.2.1
    have k3 := of_decide_eq_true hcond.2.2
    have hr1:¬ 9223372036854775807 < wd.size + X2.size := by omega
    have hr2:¬ 9223372036854775807 < (wd ++ X2).size + (⟨#[10]⟩:ByteArray).size := by omega
    have hr3:¬ 9223372036854775807 < wd.size + X2.size + 1 := by
     have := hr2; rw [ByteArray.size_append] at this; exact this
    go_wp2
    go_region_with (first
     | (go_at_call 114; refine hc1.mono ?_; rintro e w2 ⟨rfl,hs2⟩; have d2:w2.cell? ⟨wr.heap.size,1,none⟩ = some (.string X2) := (hs2.cell (by omega) (fun q => q)).1.trans d1)
     | (go_at_call 116; refine (bu_WriteString w1.heap.size w1.heap.size (Lib.byteCells acc) (wd ++ X2 ++ (⟨#[10]⟩:ByteArray)) w2 ?hB ?hl ?hs).mono ?_; (case hB => exact builder_step hBW hs2.below); (case hl => rw [Lib.byteCells_length]; omega); (case hs => have q1 := hs2.size; have q2 := hbw.size; omega); rintro e w3 ⟨rfl,hb3,hw3⟩))
    all_goals
     go_wp2
     go_roundg (gk - 1)
     case measure => omega
     case rel =>
      refine ⟨i + 1,acc ++ (wd ++ X2 ++ (⟨#[10]⟩:ByteArray)).data.toList, ?_, ?_, .inr ?_, ?_, ?_, ?_⟩
      ·exact congrArg (Value.int .i64) (by omega)
      ·omega
      ·rw [Lib.byteCells_append, ← Lib.strCells_eq]; exact hb3
      ·exact (hbw.trans ((hW1.mono (by have := hbw.size; omega)).trans (hs2.below.mono (by have := hbw.size; omega)))).trans hw3
      ·rw [sz_mk] at k3
       rw [List.length_append,sz_list]
       refine ⟨?_,k3⟩
       rw [show (wd ++ X2 ++ (⟨#[10]⟩:ByteArray)).size = (wd ++ X2).size + (⟨#[10]⟩:ByteArray).size from ByteArray.size_append]
       have:(⟨#[10]⟩:ByteArray).size = 1 := rfl
       omega
      ·rw [ba_app]; exact hg
   ·obtain rfl:i = x.length := by omega
    rw [List.drop_length] at hg
    obtain rfl := Option.some.inj hg
    have hBw:w1.heap.size ≤ wr.heap.size := hbw.size
    go_wp2_with (go_at_call 117; refine (Tryz.Builder_String_any w1.heap.size w1.heap.size acc wr hB hBw).mono ?_)
    rintro e w2 ⟨rfl,hb2⟩
    go_wp2
    go_ret
    exact ⟨rfl,Step.trans hs1 (Step.of_below (hbw.trans hb2)) (fun _ _ q => q.elim)⟩
theorem rolePrint_good {K:Glob} {n:Nat} (h1:Good Tryz.prog K (99,S99 n)) (h2:Good Tryz.prog K (114,S114 n)):Good Tryz.prog K (100,S100 n) := by
 refine ⟨plain_of Tryz.func100 (by kernel_rfl) (by kernel_rfl), ?_⟩
 intro Y L I a w x r hx hR hK hY hw
 have hN:Y.N = 1 := hY
 have hsz:a.tmps.size = 1 := hR.size.trans hN
 have hu:Rep I w (.sl actT) x [a.tmps.getD 0 undef] := hR.slot 0
 have hI:∀ b,I b → b < w.heap.size := fun b hb => (hR.imm b hb).1
 have hu := Rep.mono hI (fun _ _ => rfl) (.sl actT) hu
 have htm:a.tmps = #[a.tmps.getD 0 undef] := by
  refine Array.ext (by simp [hsz]) fun i hi _ => ?_
  obtain rfl:i = 0 := by omega
  rw [Array.getD_eq_getD_getElem?,Array.getElem?_eq_getElem hi]; rfl
 subst hK
 rw [show first (FSum.real (S100 n)) a.tmps = a.tmps from first_all (by rw [hsz]; exact Nat.le_refl _),htm]
 refine (rolePrint_calls h1 h2 hR.glob.1 (fun b hb => hI b (hR.glob.2 b hb)) hu hx).mono fun e w' h => ?_
 obtain ⟨rfl,hst⟩ := h
 have g1 := hR.grows hst
 refine ⟨_,L,I,⟨#[a.tmps.getD 0 undef, .string r],[]⟩,rfl, ?_,fun _ _ => rfl,rfl⟩
 refine ⟨rfl,rfl,fun i hi => ?_,fun i hi => ?_,fun _ _ q => (by cases q),fun _ _ _ _ q => (by cases q),fun _ _ q => (by cases q),g1.imm,g1.sub,g1.step,g1.glob⟩
 ·have hi:i < 2 := hi
  match i,hi with
  | 0,_ => trivial
  | 1,_ =>
   show Rep I w' .str r [.string r]
   rfl
 ·have hi:2 ≤ i := hi
  match i,hi with
  | i + 2,_ => rfl
theorem all2_right {α β:Type} {R:α → β → Prop}:∀ {xs:List α} {ys:List β},All2 R xs ys → ∀ {b:β},b ∈ ys → ∃ a,a ∈ xs ∧ R a b
 | [],[],_,_,h => by cases h
 | [],_ :: _,h,_,_ => h.elim
 | _ :: _,[],h,_,_ => h.elim
 | a :: xs,b :: ys,h,c,hc => by
  rcases List.mem_cons.1 hc with e | e
  ·subst e; exact ⟨a,List.mem_cons_self ..,h.1⟩
  ·obtain ⟨x,h1,h2⟩ := all2_right h.2 e
   exact ⟨x,List.mem_cons_of_mem _ h1,h2⟩
set_option maxHeartbeats 2000000 in
set_option maxRecDepth 100000 in
theorem clone72_calls (w:World) (I:Nat → Prop) (xs r:List (Int×(Int×Int))) (u:Value) (hx:lib_cloneNode xs = some r) (hI:∀ b,I b → b < w.heap.size) (hu:Rep I w (.sl (.pr (.int .i64) (.pr (.int .i64) (.int .i64)))) xs [u]) :
  Calls Tryz.prog 72 #[u] w fun e w' => ∃ v' vs,e = .returned v' ∧ w'.ownsRow w.heap.size 73 (.pr (.int .i64) (.pr (.int .i64) (.int .i64)):Ty).sz v' r.length vs ∧ FRep I w (.pr (.int .i64) (.pr (.int .i64) (.int .i64))) r vs ∧ Step (fun _ _ => False) w w' := by
 have hb:xs.length ≤ 4294967296 ∧ r = xs := by
  unfold lib_cloneNode at hx
  cases q:decide (xs.length ≤ 4294967296) with
  | false => rw [q] at hx; cases hx
  | true => rw [q] at hx; exact ⟨of_decide_eq_true q,(Option.some.inj hx).symm⟩
 obtain ⟨hb,rfl⟩ := hb
 obtain ⟨sa,sc,css,hus,hlc,hall,hcells⟩ := hu
 obtain rfl:u = .slice sa (List.length r) sc := List.head_eq_of_cons_eq hus
 have q22:∀ (w:World) (a:Option Addr) (n c n' c':Nat),(binOp .eql 24 (.slice a n c) (.slice none n' c')).run Tryz.prog w = .ok (.bool a.isNone) w := fun w a n c n' c' => Lib.run_eql_slice_nil w _ _ a n c n' c' Tryz.underlying24
 have hf:FRep I w (.pr (.int .i64) (.pr (.int .i64) (.int .i64))) r css.flatten := ⟨css,hall,rfl⟩
 cases sa with
 | none =>
  have hnil:r = [] := by
   rcases hcells with h | ⟨b,off,h,_⟩
   ·exact h
   ·cases h
  subst hnil
  go_enter Tryz.func72,Tryz.ntmps72
  go_wp2
  go_ret
  exact ⟨_,rfl,[],World.ownsRow_nil _ _ _ _,FRep.nil,Step.refl _ _⟩
 | some ad =>
  obtain ⟨i0,hi,hz0,hz1,hz2⟩:∃ i,Tryz.prog.info? 73 = some i ∧ i.size = 3 ∧ i.bytes = 24 ∧ i.zero = some (.agg #[.int .i64 0, .int .i64 0, .int .i64 0]) := by
   obtain ⟨i,h1,h2⟩ := Option.map_eq_some_iff.1 (show (Tryz.prog.info? 73).map (fun i => (i.size,i.bytes,i.zero)) = some (3,24,some (.agg #[.int .i64 0, .int .i64 0, .int .i64 0])) by kernel_rfl)
   obtain ⟨h3,h4⟩ := Prod.mk.inj h2
   obtain ⟨h4,h5⟩ := Prod.mk.inj h4
   exact ⟨i,h1,h3,h4,h5⟩
  have hlen := hf.len
  have hnews:∀ j v,css.flatten[j]? = some v → w.cell? (ad.add j) = some v := fun j v hj => by
   rcases hcells with h | ⟨b,off,h,_,hc⟩
   ·subst h
    have:css.flatten = [] := List.eq_nil_of_length_eq_zero (by rw [hlen]; simp)
    rw [this] at hj
    cases hj
   ·obtain rfl := Option.some.inj h
    rw [Addr.add_lit]
    exact hc j v hj
  go_enter Tryz.func72,Tryz.ntmps72
  go_wp2_with (at_builtin; refine wpList_append_own _ rfl _ _ 24 rfl w.heap.size 73 i0 (.agg #[.int .i64 0, .int .i64 0, .int .i64 0]) 3 24 Tryz.underlying24 hi hz2 hz0 hz1 rfl (by decide) _ _ _ rfl (World.ownsRow_made w #[] 0 (Nat.le_refl _) (Nat.zero_le _) rfl) ad r.length sc css.flatten rfl ?qc1 ?qc2 ?qc3 ?qc4 ?qc5 ?qc6 ?_)
  case qc1 => simp [Ty.sz]
  case qc2 =>
   intro j v hj
   exact Lib.cell?_alloc_some _ (hnews j v hj)
  case qc3 =>
   intro v cs h1 h2
   obtain ⟨x,_,h3⟩ := all2_right hall h1
   exact Rep.one _ h3 v h2
  case qc4 => unfold maxLen; omega
  case qc5 => omega
  intro v' w1 hown hgrow hnil
  go_wp2
  go_ret
  refine ⟨v',css.flatten,rfl,by simpa [Ty.sz] using hown,hf,Step.of_below ?_⟩
  exact ((Below.refl _ w).alloc (Nat.le_refl _) _).grown hgrow (by simp) (by intro k hk; simp [Value.ownBlock] at hk; omega)
theorem ob_lib_cloneNode {K:Glob}:Good Tryz.prog K (72,ownSum (.pr (.int .i64) (.pr (.int .i64) (.int .i64))) 73 lib_cloneNode) :=
 ⟨plain_of Tryz.func72 (by kernel_rfl) (by kernel_rfl),obeys_own (fun w I xs r u hx _ hI hu => clone72_calls w I xs r u hx hI hu)⟩
theorem ob72 {W:World} (hG:Facts W):Good Tryz.prog (Glob.of W) (72,S72) := ob_lib_cloneNode
set_option maxHeartbeats 2000000 in
set_option maxRecDepth 100000 in
theorem clone82_calls (w:World) (I:Nat → Prop) (xs r:List (Int)) (u:Value) (hx:lib_cloneInt xs = some r) (hI:∀ b,I b → b < w.heap.size) (hu:Rep I w (.sl (.int .i64)) xs [u]) :
  Calls Tryz.prog 82 #[u] w fun e w' => ∃ v' vs,e = .returned v' ∧ w'.ownsRow w.heap.size 3 (.int .i64:Ty).sz v' r.length vs ∧ FRep I w (.int .i64) r vs ∧ Step (fun _ _ => False) w w' := by
 have hb:xs.length ≤ 4294967296 ∧ r = xs := by
  unfold lib_cloneInt at hx
  cases q:decide (xs.length ≤ 4294967296) with
  | false => rw [q] at hx; cases hx
  | true => rw [q] at hx; exact ⟨of_decide_eq_true q,(Option.some.inj hx).symm⟩
 obtain ⟨hb,rfl⟩ := hb
 obtain ⟨sa,sc,css,hus,hlc,hall,hcells⟩ := hu
 obtain rfl:u = .slice sa (List.length r) sc := List.head_eq_of_cons_eq hus
 have q22:∀ (w:World) (a:Option Addr) (n c n' c':Nat),(binOp .eql 29 (.slice a n c) (.slice none n' c')).run Tryz.prog w = .ok (.bool a.isNone) w := fun w a n c n' c' => Lib.run_eql_slice_nil w _ _ a n c n' c' Tryz.underlying29
 have hf:FRep I w (.int .i64) r css.flatten := ⟨css,hall,rfl⟩
 cases sa with
 | none =>
  have hnil:r = [] := by
   rcases hcells with h | ⟨b,off,h,_⟩
   ·exact h
   ·cases h
  subst hnil
  go_enter Tryz.func82,Tryz.ntmps82
  go_wp2
  go_ret
  exact ⟨_,rfl,[],World.ownsRow_nil _ _ _ _,FRep.nil,Step.refl _ _⟩
 | some ad =>
  obtain ⟨i0,hi,hz0,hz1,hz2⟩:∃ i,Tryz.prog.info? 3 = some i ∧ i.size = 1 ∧ i.bytes = 8 ∧ i.zero = some (.int .i64 0) := by
   obtain ⟨i,h1,h2⟩ := Option.map_eq_some_iff.1 (show (Tryz.prog.info? 3).map (fun i => (i.size,i.bytes,i.zero)) = some (1,8,some (.int .i64 0)) by kernel_rfl)
   obtain ⟨h3,h4⟩ := Prod.mk.inj h2
   obtain ⟨h4,h5⟩ := Prod.mk.inj h4
   exact ⟨i,h1,h3,h4,h5⟩
  have hlen := hf.len
  have hnews:∀ j v,css.flatten[j]? = some v → w.cell? (ad.add j) = some v := fun j v hj => by
   rcases hcells with h | ⟨b,off,h,_,hc⟩
   ·subst h
    have:css.flatten = [] := List.eq_nil_of_length_eq_zero (by rw [hlen]; simp)
    rw [this] at hj
    cases hj
   ·obtain rfl := Option.some.inj h
    rw [Addr.add_lit]
    exact hc j v hj
  go_enter Tryz.func82,Tryz.ntmps82
  go_wp2_with (at_builtin; refine wpList_append_own _ rfl _ _ 29 rfl w.heap.size 3 i0 (.int .i64 0) 1 8 Tryz.underlying29 hi hz2 hz0 hz1 rfl (by decide) _ _ _ rfl (World.ownsRow_made w #[] 0 (Nat.le_refl _) (Nat.zero_le _) rfl) ad r.length sc css.flatten rfl ?qc1 ?qc2 ?qc3 ?qc4 ?qc5 ?qc6 ?_)
  case qc1 => simp [Ty.sz]
  case qc2 =>
   intro j v hj
   exact Lib.cell?_alloc_some _ (hnews j v hj)
  case qc3 =>
   intro v cs h1 h2
   obtain ⟨x,_,h3⟩ := all2_right hall h1
   exact Rep.one _ h3 v h2
  case qc4 => unfold maxLen; omega
  case qc5 => omega
  intro v' w1 hown hgrow hnil
  go_wp2
  go_ret
  refine ⟨v',css.flatten,rfl,by simpa [Ty.sz] using hown,hf,Step.of_below ?_⟩
  exact ((Below.refl _ w).alloc (Nat.le_refl _) _).grown hgrow (by simp) (by intro k hk; simp [Value.ownBlock] at hk; omega)
theorem ob_lib_cloneInt {K:Glob}:Good Tryz.prog K (82,ownSum (.int .i64) 3 lib_cloneInt) :=
 ⟨plain_of Tryz.func82 (by kernel_rfl) (by kernel_rfl),obeys_own (fun w I xs r u hx _ hI hu => clone82_calls w I xs r u hx hI hu)⟩
theorem ob82 {W:World} (hG:Facts W):Good Tryz.prog (Glob.of W) (82,S82) := ob_lib_cloneInt
theorem wrap_env {n:Int} (h1:-9223372036854775808 ≤ n) (h2:n ≤ 9223372036854775807):IntKind.i64.wrap n = n := by
 rw [IntKind.wrap_i64]; omega
def envRow (k:Nat):List Value := List.replicate k (.int .i64 (-1)) ++ List.replicate (26 - k) (.int .i64 0)
theorem envRow_len {k:Nat} (h:k ≤ 26):(envRow k).length = 26 := by simp [envRow]; omega
theorem envRow_splice {k m:Nat} (h:k + m ≤ 26):splice (envRow k) k (List.replicate m (.int .i64 (-1))) = envRow (k + m) := by
 have e:List.drop (k + m) (envRow k) = List.replicate (26 - (k + m)) (.int .i64 0) := by
  unfold envRow
  rw [List.drop_append,List.drop_eq_nil_of_le (by simp),List.nil_append,List.length_replicate,List.drop_replicate]
  congr 1; omega
 unfold splice
 rw [List.length_replicate,e]
 unfold envRow
 rw [List.take_left' (by simp), ← List.append_assoc,List.replicate_append_replicate]
theorem envRow_get {k j:Nat} (h:j < k):(envRow k)[j]? = some (.int .i64 (-1)) := by
 unfold envRow
 rw [List.getElem?_append_left (by simpa using h),List.getElem?_replicate,if_pos h]
set_option maxHeartbeats 4000000 in
set_option maxRecDepth 100000 in
theorem repeat_calls (w:World) (b c:Nat) (hc:w.cell? ⟨b,0,none⟩ = some (.int .i64 (-1))) :
  Calls Tryz.prog 73 #[.slice (some ⟨b,0,none⟩) 1 c, .int .i64 26] w fun e w' => e = .returned (.slice (some ⟨w.heap.size,0,none⟩) 26 26) ∧ w'.heap[w.heap.size]? = some (.cells (envRow 26).toArray 3 (0,0)) ∧ Below w.heap.size w w' := by
 have mk:∀ w:World,(Instr.makeSlice 29 (.int .i64 26) (.int .i64 26)).run Tryz.prog w = .ok (.slice (some ⟨w.heap.size,0,none⟩) 26 26) (w.alloc (.cells (envRow 0).toArray 3)) := fun w => by kernel_rfl
 have iz:(Tryz.prog.info? 3).map (·.size) = some 1 := by kernel_rfl
 go_enter Tryz.func73,Tryz.ntmps73
 go_wp2_with (go_at_call 95; refine (Tryz.bits_Mul 1 26 (by decide) (by decide) _).mono ?_)
 rintro e w1 ⟨rfl,rfl⟩
 go_wp2_with (with_reducible refine wpList_copy_splice rfl (.tmp 31) (.tmp 32) 29 29 rfl 3 Tryz.underlying29 iz (some ⟨w1.heap.size,0,none⟩) (some ⟨b,0,none⟩) 26 26 1 c rfl rfl w1.heap.size 0 (envRow 0) 3 ?hg [.int .i64 (-1)] rfl ?hp (by decide) ?h1 w1.heap.size w1 ?hb (Nat.le_refl _) ?_)
 case hg => show (w1.heap.push _)[w1.heap.size]? = _; simp
 case hp =>
  intro j v hj
  match j,hj with
  | 0,hj => obtain rfl := Option.some.inj hj; exact Lib.cell?_alloc_some _ hc
 case h1 => intro v hv; obtain rfl := List.mem_singleton.1 hv; rfl
 case hb => exact (Below.refl _ w1).alloc (Nat.le_refl _) _
 intro w2 hg2 hb2
 have hg2:w2.heap[w1.heap.size]? = some (.cells (envRow 1).toArray 3 (0,0)) := hg2.out
 go_wp2
 go_loopg [8] 25 (fun g s8 wx => ∃ k:Nat,s8 = .int .i64 k ∧ 1 ≤ k ∧ k + g = 26 ∧ wx.heap[w1.heap.size]? = some (.cells (envRow k).toArray 3 (0,0)) ∧ Below w1.heap.size w1 wx)
 case atStart => exact ⟨1,rfl,by omega,by omega,hg2,hb2⟩
 case round =>
  obtain ⟨k,rfl,hk1,hk,hg3,hb3⟩ := hrel
  rcases Nat.lt_or_ge k 26 with hlt | hge
  ·go_wp2
   have hk26:(k:Int) ≤ 26 := by omega
   have hne:¬ 26 = k := by omega
   have hg3':wr.drew.heap[w1.heap.size]? = some (.cells (envRow k).toArray 3 (0,0)) := hg3
   have hb3':Below w1.heap.size w1 wr.drew := hb3.drew
   have hcs:(List.replicate (min k (26 - k)) (Value.int .i64 (-1))).length = Nat.min k (26 - k) := by simp
   have hpos:0 < (List.replicate (min k (26 - k)) (Value.int .i64 (-1))).length → (some ⟨w1.heap.size,k,none⟩:Option Addr) = some ⟨w1.heap.size,k,none⟩ ∧ ∃ ad,(some ⟨w1.heap.size,0,none⟩:Option Addr) = some ad ∧ ∀ j v,(List.replicate (min k (26 - k)) (Value.int .i64 (-1)))[j]? = some v → wr.drew.cell? (ad.add j) = some v := fun _ => ⟨rfl,_,rfl,fun j v hj => by
    obtain ⟨hj,rfl⟩ := List.getElem?_eq_some_iff.1 hj
    have hj:j < k := by rename_i q; rw [List.length_replicate] at q; omega
    rw [Addr.add_lit,List.getElem_replicate]
    exact Lib.cell_of_heap hg3' _ |>.trans (by simp; exact envRow_get hj)⟩
   have hfit:k + (List.replicate (min k (26 - k)) (Value.int .i64 (-1))).length ≤ (envRow k).length := by rw [envRow_len (by omega),List.length_replicate]; omega
   have hone:∀ v ∈ List.replicate (min k (26 - k)) (Value.int .i64 (-1)),v.oneCell' = true := fun v hv => by rw [List.eq_of_mem_replicate hv]; rfl
   go_region_law (refine step_copy_splice rfl (.tmp 41) (.tmp 44) 29 29 rfl 3 Tryz.underlying29 iz (some ⟨w1.heap.size,k,none⟩) (some ⟨w1.heap.size,0,none⟩) (26 - k) (26 - k) k 26 (by simp [Act.eval,Act.put]) (by simp [Act.eval,Act.put]) w1.heap.size k (envRow k) 3 hg3' (List.replicate (min k (26 - k)) (.int .i64 (-1))) hcs hpos hfit hone w1.heap.size w1 hb3' (Nat.le_refl _) ?_; intro w4 hg4 hb4)
   have hg4:w4.heap[w1.heap.size]? = some (.cells (envRow (k + min k (26 - k))).toArray 3 (0,0)) := by
    rw [← envRow_splice (by omega)]; exact hg4.out
   go_wp2
   go_roundg (26 - (k + min k (26 - k)))
   case measure => omega
   case rel =>
    refine ⟨k + min k (26 - k), ?_,by omega,by omega,hg4,hb4⟩
    have:IntKind.i64.wrap ((k:Int) + ((Nat.min k (26 - k):Nat):Int)) = ((k + min k (26 - k):Nat):Int) := by
     rw [show Nat.min k (26 - k) = min k (26 - k) from rfl,wrap_env (by omega) (by omega)]
     omega
    rw [← this]
  ·obtain rfl:k = 26 := by omega
   go_wp2
   go_ret
   exact ⟨rfl,hg3,hb3⟩
set_option maxHeartbeats 4000000 in
set_option maxRecDepth 100000 in
theorem envNew_calls (w:World):Calls Tryz.prog 35 #[] w fun e w' => ∃ v' vs,e = .returned v' ∧ w'.ownsRow w.heap.size 3 (Ty.sz (.int .i64)) v' (List.replicate 26 (-1:Int)).length vs ∧ (∀ I,FRep I w (.int .i64) (List.replicate 26 (-1:Int)) vs) ∧ Step (fun _ _ => False) w w' := by
 go_enter Tryz.func35,Tryz.ntmps35
 go_wp2_with (go_at_call 73; refine (repeat_calls _ w.heap.size 1 ?hc).mono ?_)
 case hc => exact Lib.cell_of_heap (w := w.alloc (.cells #[.int .i64 (-1)] 3)) (cs := #[.int .i64 (-1)]) (T := 3) (fr := (0,0)) (b := w.heap.size) (by show (w.heap.push _)[w.heap.size]? = _; simp) 0
 rintro e w2 ⟨rfl,hg,hb⟩
 have hz:(w.alloc (.cells #[.int .i64 (-1)] 3)).heap.size = w.heap.size + 1 := by simp
 rw [hz] at hg
 go_wp2
 go_ret
 refine ⟨_,envRow 26,rfl,⟨rfl, .inr ⟨_,26,_,rfl, ?_,hg,Nat.le_refl _,by decide,rfl,rfl⟩⟩,fun I => ?_,Step.of_below (((Below.refl _ w).alloc (Nat.le_refl _) _).trans (hb.mono ?_))⟩
 ·omega
 ·show FRep I w (.int .i64) (List.replicate 26 (-1:Int)) (envRow 26)
  have:∀ k,FRep I w (.int .i64) (List.replicate k (-1:Int)) (List.replicate k (.int .i64 (-1))) := fun k => by
   induction k with
   | zero => exact FRep.nil
   | succ k ih => exact FRep.cons (cs := [.int .i64 (-1)]) rfl ih
  have h := this 26
  unfold envRow
  simpa using h
 ·first | omega | (rw [hz]; omega) | simp
theorem envNew_good {K:Glob} {g:Unit → Option (List Int)} (hg:g () = some (List.replicate 26 (-1:Int))):Good Tryz.prog K (35,own0Sum (.int .i64) 3 g) :=
 ⟨plain_of Tryz.func35 (by kernel_rfl) (by kernel_rfl),obeys_own0 (fun w r hr _ => by
  obtain rfl := Option.some.inj (hg.symm.trans hr)
  exact envNew_calls w)⟩
theorem ob35 {W:World} (hG:Facts W):Good Tryz.prog (Glob.of W) (35,S35) := envNew_good rfl
end AM
end Go.Proofs.YtlnbedamfbnkaaaGreatDoor
