/- The library's functions, by their contracts. Under: what the rows list of the library's variables. And what follows it: see the remarks. -/
import Derived.Test.YtelkmjkclmjggaaGreatDoorLALd
import Derived.Test.YtelkmjkclmjggaaGreatDoorLShelf
import Derived.WalkKit
import Derived.Lib.Walk
import Derived.Lib.Builder
import Derived.Lib.AppendStr
import Derived.Lib.UnsafeStr
import Derived.Deep.LoopGhost
import Derived.Deep.RegionWith
import Derived.Test.YtelkmjkclmjggaaGreatDoorLW4
import Derived.Lib.SliceRun
import Derived.Laws.CopyOwn
import Derived.Deep.RegionLaw
namespace Go.Proofs.YtelkmjkclmjggaaGreatDoor
namespace AM
open Go
set_option linter.unusedVariables false
structure Facts (W : World) : Prop where
 mx : ∃ m, W.cell? ⟨0, 0, none⟩ = some (.int .i64 m)
 tab : Lib.TabIs Tryz.prog W "internal/strconv.uint64pow10" .u64 Lib.pow10Tab
 es : ∃ ev, W.cell? ⟨2, 0, none⟩ = some ev ∧ (ev = .nilIface ∨ ∃ te pe, ev = .iface te pe)
 er : ∃ ev, W.cell? ⟨3, 0, none⟩ = some ev ∧ (ev = .nilIface ∨ ∃ te pe, ev = .iface te pe)
theorem ob169 {W : World} (hG : Facts W) : Good Tryz.prog (Glob.of W) (169, S169) :=
 ⟨plain_of Tryz.func169 (by kernel_rfl) (by kernel_rfl), obeys_plain (ps := [.int .i64]) (rs := [.str]) (g := lib_itoa) rfl rfl (fun w x r hx hK => by
  simp only [lib_itoa] at hx
  split at hx
  ·rename_i hs
   obtain rfl := Option.some.inj hx
   refine (Tryz.strconv_Itoa x hs.1 hs.2 w (Glob.of_tab hK hG.tab)).mono fun e w' h => ⟨h.1, ?_⟩
   obtain ⟨k, os, rfl⟩ := h.2
   exact Step.trans (Step.drewN w k) (Step.grow _ os) (fun _ _ q => q.elim)
  ·cases hx)⟩
theorem ob255 {W : World} (hG : Facts W) : Good Tryz.prog (Glob.of W) (255, S255) :=
 ⟨plain_of Tryz.func255 (by kernel_rfl) (by kernel_rfl), obeys_prim (ps := [.str]) (rs := [.i (.int .i64), .e]) (g := lib_atoi) rfl rfl (fun w s r hx hK => by
  simp only [lib_atoi] at hx
  split at hx
  ·rename_i hs
   cases hv : Lib.atoiAll (ByteArray.data s).toList with
   | ok v =>
    rw [hv] at hx
    obtain rfl := Option.some.inj hx
    refine (Tryz.strconv_Atoi_ok _ (by omega) v hv w).mono fun e w' h => ⟨[.int .i64 v, .nilIface], h.1, ⟨rfl, ⟨false, rfl, rfl⟩, trivial⟩, ?_⟩
    rcases h.2 with rfl | ⟨t, rfl⟩
    ·exact Step.refl _ _
    ·exact Step.of_below (Lib.bytesWorld_below _ _ _)
   | range =>
    rw [hv] at hx
    obtain rfl := Option.some.inj hx
    obtain ⟨ev, h1, h2⟩ := hG.er
    refine (Tryz.strconv_Atoi_range _ hs hv ev w (Glob.of_cell hK h1) h2).mono fun e w' h => ?_
    obtain ⟨N, h3, _, _, h4⟩ := h
    exact ⟨[.int .i64 _, _], h3, ⟨rfl, ⟨true, rfl, _, _, rfl⟩, trivial⟩, Step.of_below h4⟩
   | _ =>
    rw [hv] at hx
    obtain rfl := Option.some.inj hx
    obtain ⟨ev, h1, h2⟩ := hG.es
    refine (Any.strconv_Atoi_syntax Tryz.laysC172 _ hs hv ev w (Glob.of_cell hK h1) h2).mono fun e w' h => ?_
    obtain ⟨N, h3, _, _, h4⟩ := h
    exact ⟨[.int .i64 0, _], h3, ⟨rfl, ⟨true, rfl, _, _, rfl⟩, trivial⟩, Step.of_below h4⟩
  ·cases hx)⟩
theorem mfind_set {kt : Ty} {k : kt.den} {x : Int} (hr : kt.eqv k k = true) : ∀ {m : List (kt.den × Int)} {i j : Nat} {v : Int}, mfind kt k m i = some (j, v) → mfind kt k (m.set (j - i) (k, x)) i = some (j, x)
 | [], _, _, _, h => by cases h
 | p :: r, i, j, v, h => by
  unfold mfind at h
  cases q : kt.eqv k p.1 with
  | true =>
   rw [q] at h
   obtain ⟨rfl, rfl⟩ := Prod.mk.inj (Option.some.inj h)
   rw [Nat.sub_self, List.set_cons_zero]
   unfold mfind
   rw [hr]; rfl
  | false =>
   rw [q] at h
   have h : mfind kt k r (i + 1) = some (j, v) := h
   obtain ⟨h1, _⟩ := mfind_spec h
   rw [show j - i = (j - (i + 1)) + 1 by omega, List.set_cons_succ]
   unfold mfind
   rw [q]
   exact mfind_set hr h
theorem mfind_push {kt : Ty} {k : kt.den} {x : Int} (hr : kt.eqv k k = true) : ∀ {m : List (kt.den × Int)} {i : Nat}, mfind kt k m i = none → mfind kt k (m ++ [(k, x)]) i = some (i + m.length, x)
 | [], i, _ => by
  show mfind kt k [(k, x)] i = _
  unfold mfind
  rw [hr]; simp
 | p :: r, i, h => by
  unfold mfind at h
  cases q : kt.eqv k p.1 with
  | true => rw [q] at h; cases h
  | false =>
   rw [q] at h
   have h : mfind kt k r (i + 1) = none := h
   show mfind kt k (p :: (r ++ [(k, x)])) i = _
   unfold mfind
   rw [q]
   have := mfind_push (x := x) hr h
   simp only [cond_false, this, List.length_cons]
   congr 2; omega
theorem mget_mput {kt : Ty} {k : kt.den} {x : Int} {m : List (kt.den × Int)} (hr : kt.eqv k k = true) : mget kt k (mput kt k x m) = x := by
 unfold mget mput
 cases h : mfind kt k m 0 with
 | some p =>
  obtain ⟨j, v⟩ := p
  have := mfind_set (x := x) hr h
  rw [Nat.sub_zero] at this
  simp only [this]
 | none => simp only [mfind_push hr h]
theorem impl_PoolOk_R7_1_eq (n : Nat) (x) : impl_PoolOk_R7_1 n x = impl_PoolOk_R7 n x := by
 have e : (Ty.pr (.int .i64) (.pr (.int .i64) (.int .i64))).eqv (x.2.2.1, (x.2.2.2.1, x.2.2.2.2.1)) (x.2.2.1, (x.2.2.2.1, x.2.2.2.2.1)) = true := by simp [Ty.eqv]
 unfold impl_PoolOk_R7_1 impl_PoolOk_R7
 rw [mget_mput e]
end AM
end Go.Proofs.YtelkmjkclmjggaaGreatDoor
namespace Go.Proofs.YtelkmjkclmjggaaGreatDoor
namespace AM
open Go Go.Shelf Go.RowKit
set_option linter.unusedVariables false
theorem all2_right {α β : Type} {R : α → β → Prop} : ∀ {xs : List α} {ys : List β}, All2 R xs ys → ∀ {b : β}, b ∈ ys → ∃ a, a ∈ xs ∧ R a b
 | [], [], _, _, h => by cases h
 | [], _ :: _, h, _, _ => h.elim
 | _ :: _, [], h, _, _ => h.elim
 | a :: xs, b :: ys, h, c, hc => by
  rcases List.mem_cons.1 hc with e | e
  ·subst e; exact ⟨a, List.mem_cons_self .., h.1⟩
  ·obtain ⟨x, h1, h2⟩ := all2_right h.2 e
   exact ⟨x, List.mem_cons_of_mem _ h1, h2⟩
set_option maxHeartbeats 2000000 in
set_option maxRecDepth 100000 in
theorem clone76_calls (w : World) (I : Nat → Prop) (xs r : List (Int)) (u : Value) (hx : lib_cloneInt xs = some r) (hI : ∀ b, I b → b < w.heap.size) (hu : Rep I w (.sl (.int .i64)) xs [u]) :
  Calls Tryz.prog 76 #[u] w fun e w' => ∃ v' vs, e = .returned v' ∧ w'.ownsRow w.heap.size 3 (.int .i64 : Ty).sz v' r.length vs ∧ FRep I w (.int .i64) r vs ∧ Step (fun _ _ => False) w w' := by
 have hb : xs.length ≤ 4294967296 ∧ r = xs := by
  unfold lib_cloneInt at hx
  cases q : decide (xs.length ≤ 4294967296) with
  | false => rw [q] at hx; cases hx
  | true => rw [q] at hx; exact ⟨of_decide_eq_true q, (Option.some.inj hx).symm⟩
 obtain ⟨hb, rfl⟩ := hb
 obtain ⟨sa, sc, css, hus, hlc, hall, hcells⟩ := hu
 obtain rfl : u = .slice sa (List.length r) sc := List.head_eq_of_cons_eq hus
 have q22 : ∀ (w : World) (a : Option Addr) (n c n' c' : Nat), (binOp .eql 27 (.slice a n c) (.slice none n' c')).run Tryz.prog w = .ok (.bool a.isNone) w := fun w a n c n' c' => Lib.run_eql_slice_nil w _ _ a n c n' c' Tryz.underlying27
 have hf : FRep I w (.int .i64) r css.flatten := ⟨css, hall, rfl⟩
 cases sa with
 | none =>
  have hnil : r = [] := by
   rcases hcells with h | ⟨b, off, h, _⟩
   ·exact h
   ·cases h
  subst hnil
  go_enter Tryz.func76, Tryz.ntmps76
  go_wp2
  go_ret
  exact ⟨_, rfl, [], World.ownsRow_nil _ _ _ _, FRep.nil, Step.refl _ _⟩
 | some ad =>
  obtain ⟨i0, hi, hz0, hz1, hz2⟩ : ∃ i, Tryz.prog.info? 3 = some i ∧ i.size = 1 ∧ i.bytes = 8 ∧ i.zero = some (.int .i64 0) := by
   obtain ⟨i, h1, h2⟩ := Option.map_eq_some_iff.1 (show (Tryz.prog.info? 3).map (fun i => (i.size, i.bytes, i.zero)) = some (1, 8, some (.int .i64 0)) by kernel_rfl)
   obtain ⟨h3, h4⟩ := Prod.mk.inj h2
   obtain ⟨h4, h5⟩ := Prod.mk.inj h4
   exact ⟨i, h1, h3, h4, h5⟩
  have hlen := hf.len
  have hnews : ∀ j v, css.flatten[j]? = some v → w.cell? (ad.add j) = some v := fun j v hj => by
   rcases hcells with h | ⟨b, off, h, _, hc⟩
   ·subst h
    have : css.flatten = [] := List.eq_nil_of_length_eq_zero (by rw [hlen]; simp)
    rw [this] at hj
    cases hj
   ·obtain rfl := Option.some.inj h
    rw [Addr.add_lit]
    exact hc j v hj
  go_enter Tryz.func76, Tryz.ntmps76
  go_wp2_with (at_builtin; refine wpList_append_own _ rfl _ _ 27 rfl w.heap.size 3 i0 (.int .i64 0) 1 8 Tryz.underlying27 hi hz2 hz0 hz1 rfl (by decide) _ _ _ rfl (World.ownsRow_made w #[] 0 (Nat.le_refl _) (Nat.zero_le _) rfl) ad r.length sc css.flatten rfl ?qc1 ?qc2 ?qc3 ?qc4 ?qc5 ?qc6 ?_)
  case qc1 => simp [Ty.sz]
  case qc2 =>
   intro j v hj
   exact Lib.cell?_alloc_some _ (hnews j v hj)
  case qc3 =>
   intro v cs h1 h2
   obtain ⟨x, _, h3⟩ := all2_right hall h1
   exact Rep.one _ h3 v h2
  case qc4 => unfold maxLen; omega
  case qc5 => omega
  intro v' w1 hown hgrow hnil
  go_wp2
  go_ret
  refine ⟨v', css.flatten, rfl, by simpa [Ty.sz] using hown, hf, Step.of_below ?_⟩
  exact ((Below.refl _ w).alloc (Nat.le_refl _) _).grown hgrow (by simp) (by intro k hk; simp [Value.ownBlock] at hk; omega)
theorem ob_lib_cloneInt {K : Glob} : Good Tryz.prog K (76, ownSum (.int .i64) 3 lib_cloneInt) :=
 ⟨plain_of Tryz.func76 (by kernel_rfl) (by kernel_rfl), obeys_own (fun w I xs r u hx _ hI hu => clone76_calls w I xs r u hx hI hu)⟩
theorem ob76 {W : World} (hG : Facts W) : Good Tryz.prog (Glob.of W) (76, S76) := ob_lib_cloneInt
set_option maxHeartbeats 2000000 in
set_option maxRecDepth 100000 in
theorem clone192_calls (w : World) (I : Nat → Prop) (xs r : List (Int × (Int × Int))) (u : Value) (hx : lib_cloneNode xs = some r) (hI : ∀ b, I b → b < w.heap.size) (hu : Rep I w (.sl (.pr (.int .i64) (.pr (.int .i64) (.int .i64)))) xs [u]) :
  Calls Tryz.prog 192 #[u] w fun e w' => ∃ v' vs, e = .returned v' ∧ w'.ownsRow w.heap.size 147 (.pr (.int .i64) (.pr (.int .i64) (.int .i64)) : Ty).sz v' r.length vs ∧ FRep I w (.pr (.int .i64) (.pr (.int .i64) (.int .i64))) r vs ∧ Step (fun _ _ => False) w w' := by
 have hb : xs.length ≤ 4294967296 ∧ r = xs := by
  unfold lib_cloneNode at hx
  cases q : decide (xs.length ≤ 4294967296) with
  | false => rw [q] at hx; cases hx
  | true => rw [q] at hx; exact ⟨of_decide_eq_true q, (Option.some.inj hx).symm⟩
 obtain ⟨hb, rfl⟩ := hb
 obtain ⟨sa, sc, css, hus, hlc, hall, hcells⟩ := hu
 obtain rfl : u = .slice sa (List.length r) sc := List.head_eq_of_cons_eq hus
 have q22 : ∀ (w : World) (a : Option Addr) (n c n' c' : Nat), (binOp .eql 24 (.slice a n c) (.slice none n' c')).run Tryz.prog w = .ok (.bool a.isNone) w := fun w a n c n' c' => Lib.run_eql_slice_nil w _ _ a n c n' c' Tryz.underlying24
 have hf : FRep I w (.pr (.int .i64) (.pr (.int .i64) (.int .i64))) r css.flatten := ⟨css, hall, rfl⟩
 cases sa with
 | none =>
  have hnil : r = [] := by
   rcases hcells with h | ⟨b, off, h, _⟩
   ·exact h
   ·cases h
  subst hnil
  go_enter Tryz.func192, Tryz.ntmps192
  go_wp2
  go_ret
  exact ⟨_, rfl, [], World.ownsRow_nil _ _ _ _, FRep.nil, Step.refl _ _⟩
 | some ad =>
  obtain ⟨i0, hi, hz0, hz1, hz2⟩ : ∃ i, Tryz.prog.info? 147 = some i ∧ i.size = 3 ∧ i.bytes = 24 ∧ i.zero = some (.agg #[.int .i64 0, .int .i64 0, .int .i64 0]) := by
   obtain ⟨i, h1, h2⟩ := Option.map_eq_some_iff.1 (show (Tryz.prog.info? 147).map (fun i => (i.size, i.bytes, i.zero)) = some (3, 24, some (.agg #[.int .i64 0, .int .i64 0, .int .i64 0])) by kernel_rfl)
   obtain ⟨h3, h4⟩ := Prod.mk.inj h2
   obtain ⟨h4, h5⟩ := Prod.mk.inj h4
   exact ⟨i, h1, h3, h4, h5⟩
  have hlen := hf.len
  have hnews : ∀ j v, css.flatten[j]? = some v → w.cell? (ad.add j) = some v := fun j v hj => by
   rcases hcells with h | ⟨b, off, h, _, hc⟩
   ·subst h
    have : css.flatten = [] := List.eq_nil_of_length_eq_zero (by rw [hlen]; simp)
    rw [this] at hj
    cases hj
   ·obtain rfl := Option.some.inj h
    rw [Addr.add_lit]
    exact hc j v hj
  go_enter Tryz.func192, Tryz.ntmps192
  go_wp2_with (at_builtin; refine wpList_append_own _ rfl _ _ 24 rfl w.heap.size 147 i0 (.agg #[.int .i64 0, .int .i64 0, .int .i64 0]) 3 24 Tryz.underlying24 hi hz2 hz0 hz1 rfl (by decide) _ _ _ rfl (World.ownsRow_made w #[] 0 (Nat.le_refl _) (Nat.zero_le _) rfl) ad r.length sc css.flatten rfl ?qc1 ?qc2 ?qc3 ?qc4 ?qc5 ?qc6 ?_)
  case qc1 => simp [Ty.sz]
  case qc2 =>
   intro j v hj
   exact Lib.cell?_alloc_some _ (hnews j v hj)
  case qc3 =>
   intro v cs h1 h2
   obtain ⟨x, _, h3⟩ := all2_right hall h1
   exact Rep.one _ h3 v h2
  case qc4 => unfold maxLen; omega
  case qc5 => omega
  intro v' w1 hown hgrow hnil
  go_wp2
  go_ret
  refine ⟨v', css.flatten, rfl, by simpa [Ty.sz] using hown, hf, Step.of_below ?_⟩
  exact ((Below.refl _ w).alloc (Nat.le_refl _) _).grown hgrow (by simp) (by intro k hk; simp [Value.ownBlock] at hk; omega)
theorem ob_lib_cloneNode {K : Glob} : Good Tryz.prog K (192, ownSum (.pr (.int .i64) (.pr (.int .i64) (.int .i64))) 147 lib_cloneNode) :=
 ⟨plain_of Tryz.func192 (by kernel_rfl) (by kernel_rfl), obeys_own (fun w I xs r u hx _ hI hu => clone192_calls w I xs r u hx hI hu)⟩
theorem ob192 {W : World} (hG : Facts W) : Good Tryz.prog (Glob.of W) (192, S192) := ob_lib_cloneNode
theorem wrap_env {n : Int} (h1 : -9223372036854775808 ≤ n) (h2 : n ≤ 9223372036854775807) : IntKind.i64.wrap n = n := by
 rw [IntKind.wrap_i64]; omega
def envRow (k : Nat) : List Value := List.replicate k (.int .i64 (-1)) ++ List.replicate (26 - k) (.int .i64 0)
theorem envRow_len {k : Nat} (h : k ≤ 26) : (envRow k).length = 26 := by simp [envRow]; omega
theorem envRow_splice {k m : Nat} (h : k + m ≤ 26) : splice (envRow k) k (List.replicate m (.int .i64 (-1))) = envRow (k + m) := by
 have e : List.drop (k + m) (envRow k) = List.replicate (26 - (k + m)) (.int .i64 0) := by
  unfold envRow
  rw [List.drop_append, List.drop_eq_nil_of_le (by simp), List.nil_append, List.length_replicate, List.drop_replicate]
  congr 1; omega
 unfold splice
 rw [List.length_replicate, e]
 unfold envRow
 rw [List.take_left' (by simp), ← List.append_assoc, List.replicate_append_replicate]
theorem envRow_get {k j : Nat} (h : j < k) : (envRow k)[j]? = some (.int .i64 (-1)) := by
 unfold envRow
 rw [List.getElem?_append_left (by simpa using h), List.getElem?_replicate, if_pos h]
set_option maxHeartbeats 4000000 in
set_option maxRecDepth 100000 in
theorem repeat_calls (w : World) (b c : Nat) (hc : w.cell? ⟨b, 0, none⟩ = some (.int .i64 (-1))) :
  Calls Tryz.prog 79 #[.slice (some ⟨b, 0, none⟩) 1 c, .int .i64 26] w fun e w' => e = .returned (.slice (some ⟨w.heap.size, 0, none⟩) 26 26) ∧ w'.heap[w.heap.size]? = some (.cells (envRow 26).toArray 3 (0, 0)) ∧ Below w.heap.size w w' := by
 have mk : ∀ w : World, (Instr.makeSlice 27 (.int .i64 26) (.int .i64 26)).run Tryz.prog w = .ok (.slice (some ⟨w.heap.size, 0, none⟩) 26 26) (w.alloc (.cells (envRow 0).toArray 3)) := fun w => by kernel_rfl
 have iz : (Tryz.prog.info? 3).map (·.size) = some 1 := by kernel_rfl
 go_enter Tryz.func79, Tryz.ntmps79
 go_wp2_with (go_at_call 194; refine (Tryz.bits_Mul 1 26 (by decide) (by decide) _).mono ?_)
 rintro e w1 ⟨rfl, rfl⟩
 go_wp2_with (with_reducible refine wpList_copy_splice rfl (.tmp 31) (.tmp 32) 27 27 rfl 3 Tryz.underlying27 iz (some ⟨w1.heap.size, 0, none⟩) (some ⟨b, 0, none⟩) 26 26 1 c rfl rfl w1.heap.size 0 (envRow 0) 3 ?hg [.int .i64 (-1)] rfl ?hp (by decide) ?h1 w1.heap.size w1 ?hb (Nat.le_refl _) ?_)
 case hg => show (w1.heap.push _)[w1.heap.size]? = _; simp
 case hp =>
  intro j v hj
  match j, hj with
  | 0, hj => obtain rfl := Option.some.inj hj; exact Lib.cell?_alloc_some _ hc
 case h1 => intro v hv; obtain rfl := List.mem_singleton.1 hv; rfl
 case hb => exact (Below.refl _ w1).alloc (Nat.le_refl _) _
 intro w2 hg2 hb2
 have hg2 : w2.heap[w1.heap.size]? = some (.cells (envRow 1).toArray 3 (0, 0)) := hg2.out
 go_wp2
 go_loopg [8] 25 (fun g s8 wx => ∃ k : Nat, s8 = .int .i64 k ∧ 1 ≤ k ∧ k + g = 26 ∧ wx.heap[w1.heap.size]? = some (.cells (envRow k).toArray 3 (0, 0)) ∧ Below w1.heap.size w1 wx)
 case atStart => exact ⟨1, rfl, by omega, by omega, hg2, hb2⟩
 case round =>
  obtain ⟨k, rfl, hk1, hk, hg3, hb3⟩ := hrel
  rcases Nat.lt_or_ge k 26 with hlt | hge
  ·go_wp2
   have hk26 : (k : Int) ≤ 26 := by omega
   have hne : ¬ 26 = k := by omega
   have hg3' : wr.drew.heap[w1.heap.size]? = some (.cells (envRow k).toArray 3 (0, 0)) := hg3
   have hb3' : Below w1.heap.size w1 wr.drew := hb3.drew
   have hcs : (List.replicate (min k (26 - k)) (Value.int .i64 (-1))).length = Nat.min k (26 - k) := by simp
   have hpos : 0 < (List.replicate (min k (26 - k)) (Value.int .i64 (-1))).length → (some ⟨w1.heap.size, k, none⟩ : Option Addr) = some ⟨w1.heap.size, k, none⟩ ∧ ∃ ad, (some ⟨w1.heap.size, 0, none⟩ : Option Addr) = some ad ∧ ∀ j v, (List.replicate (min k (26 - k)) (Value.int .i64 (-1)))[j]? = some v → wr.drew.cell? (ad.add j) = some v := fun _ => ⟨rfl, _, rfl, fun j v hj => by
    obtain ⟨hj, rfl⟩ := List.getElem?_eq_some_iff.1 hj
    have hj : j < k := by rename_i q; rw [List.length_replicate] at q; omega
    rw [Addr.add_lit, List.getElem_replicate]
    exact Lib.cell_of_heap hg3' _ |>.trans (by simp; exact envRow_get hj)⟩
   have hfit : k + (List.replicate (min k (26 - k)) (Value.int .i64 (-1))).length ≤ (envRow k).length := by rw [envRow_len (by omega), List.length_replicate]; omega
   have hone : ∀ v ∈ List.replicate (min k (26 - k)) (Value.int .i64 (-1)), v.oneCell' = true := fun v hv => by rw [List.eq_of_mem_replicate hv]; rfl
   go_region_law (refine step_copy_splice rfl (.tmp 41) (.tmp 44) 27 27 rfl 3 Tryz.underlying27 iz (some ⟨w1.heap.size, k, none⟩) (some ⟨w1.heap.size, 0, none⟩) (26 - k) (26 - k) k 26 (by simp [Act.eval, Act.put]) (by simp [Act.eval, Act.put]) w1.heap.size k (envRow k) 3 hg3' (List.replicate (min k (26 - k)) (.int .i64 (-1))) hcs hpos hfit hone w1.heap.size w1 hb3' (Nat.le_refl _) ?_; intro w4 hg4 hb4)
   have hg4 : w4.heap[w1.heap.size]? = some (.cells (envRow (k + min k (26 - k))).toArray 3 (0, 0)) := by
    rw [← envRow_splice (by omega)]; exact hg4.out
   go_wp2
   go_roundg (26 - (k + min k (26 - k)))
   case measure => omega
   case rel =>
    refine ⟨k + min k (26 - k), ?_, by omega, by omega, hg4, hb4⟩
    have : IntKind.i64.wrap ((k : Int) + ((Nat.min k (26 - k) : Nat) : Int)) = ((k + min k (26 - k) : Nat) : Int) := by
     rw [show Nat.min k (26 - k) = min k (26 - k) from rfl, wrap_env (by omega) (by omega)]
     omega
    rw [← this]
  ·obtain rfl : k = 26 := by omega
   go_wp2
   go_ret
   exact ⟨rfl, hg3, hb3⟩
set_option maxHeartbeats 4000000 in
set_option maxRecDepth 100000 in
theorem envNew_calls (w : World) : Calls Tryz.prog 21 #[] w fun e w' => ∃ v' vs, e = .returned v' ∧ w'.ownsRow w.heap.size 3 (Ty.sz (.int .i64)) v' (List.replicate 26 (-1 : Int)).length vs ∧ (∀ I, FRep I w (.int .i64) (List.replicate 26 (-1 : Int)) vs) ∧ Step (fun _ _ => False) w w' := by
 go_enter Tryz.func21, Tryz.ntmps21
 go_wp2_with (go_at_call 79; refine (repeat_calls _ w.heap.size 1 ?hc).mono ?_)
 case hc => exact Lib.cell_of_heap (w := w.alloc (.cells #[.int .i64 (-1)] 3)) (cs := #[.int .i64 (-1)]) (T := 3) (fr := (0, 0)) (b := w.heap.size) (by show (w.heap.push _)[w.heap.size]? = _; simp) 0
 rintro e w2 ⟨rfl, hg, hb⟩
 have hz : (w.alloc (.cells #[.int .i64 (-1)] 3)).heap.size = w.heap.size + 1 := by simp
 rw [hz] at hg
 go_wp2
 go_ret
 refine ⟨_, envRow 26, rfl, ⟨rfl, .inr ⟨_, 26, _, rfl, ?_, hg, Nat.le_refl _, by decide, rfl, rfl⟩⟩, fun I => ?_, Step.of_below (((Below.refl _ w).alloc (Nat.le_refl _) _).trans (hb.mono ?_))⟩
 ·omega
 ·show FRep I w (.int .i64) (List.replicate 26 (-1 : Int)) (envRow 26)
  have : ∀ k, FRep I w (.int .i64) (List.replicate k (-1 : Int)) (List.replicate k (.int .i64 (-1))) := fun k => by
   induction k with
   | zero => exact FRep.nil
   | succ k ih => exact FRep.cons (cs := [.int .i64 (-1)]) rfl ih
  have h := this 26
  unfold envRow
  simpa using h
 ·first | omega | (rw [hz]; omega) | simp
theorem envNew_good {K : Glob} {g : Unit → Option (List Int)} (hg : g () = some (List.replicate 26 (-1 : Int))) : Good Tryz.prog K (21, own0Sum (.int .i64) 3 g) :=
 ⟨plain_of Tryz.func21 (by kernel_rfl) (by kernel_rfl), obeys_own0 (fun w r hr _ => by
  obtain rfl := Option.some.inj (hg.symm.trans hr)
  exact envNew_calls w)⟩
theorem ob21 {W : World} (hG : Facts W) : Good Tryz.prog (Glob.of W) (21, S21) := envNew_good rfl
end AM
end Go.Proofs.YtelkmjkclmjggaaGreatDoor
