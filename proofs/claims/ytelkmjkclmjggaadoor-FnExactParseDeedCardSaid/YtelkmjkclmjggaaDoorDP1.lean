/- The library's functions, by their contracts. Under: what the rows list of the library's variables. And what follows it: see the remarks. -/
import Derived.Test.YtelkmjkclmjggaaDoorDALd
import Derived.Test.YtelkmjkclmjggaaDoorDShelf
import Derived.Test.YtelkmjkclmjggaaDoorDW3

/-! The library's functions, by their contracts. Under: what the rows list of the library's variables. -/
namespace Go.Proofs.YtelkmjkclmjggaaDoor
namespace AM
open Go
set_option linter.unusedVariables false

/-- What is known of the library's variables. -/
structure Facts (W : World) : Prop where
  mx : ∃ m, W.cell? ⟨0, 0, none⟩ = some (.int .i64 m)
  tab : Lib.TabIs Tryd.prog W "internal/strconv.uint64pow10" .u64 Lib.pow10Tab
  es : ∃ ev, W.cell? ⟨1, 0, none⟩ = some ev ∧ (ev = .nilIface ∨ ∃ te pe, ev = .iface te pe)
  er : ∃ ev, W.cell? ⟨2, 0, none⟩ = some ev ∧ (ev = .nilIface ∨ ∃ te pe, ev = .iface te pe)

theorem ob23 {W : World} (hG : Facts W) : Good Tryd.prog (Glob.of W) (23, S23) :=
  ⟨plain_of Tryd.func23 (by kernel_rfl) (by kernel_rfl), obeys_plain (ps := [.int .i64]) (rs := [.str]) (g := lib_itoa) rfl rfl (fun w x r hx hK => by
    simp only [lib_itoa] at hx
    split at hx
    · rename_i hs
      obtain rfl := Option.some.inj hx
      refine (Tryd.strconv_Itoa x hs.1 hs.2 w (Glob.of_tab hK hG.tab)).mono fun e w' h => ⟨h.1, ?_⟩
      obtain ⟨k, os, rfl⟩ := h.2
      exact Step.trans (Step.drewN w k) (Step.grow _ os) (fun _ _ q => q.elim)
    · cases hx)⟩

theorem ob10 {W : World} (hG : Facts W) : Good Tryd.prog (Glob.of W) (10, S10) :=
  ⟨plain_of Tryd.func10 (by kernel_rfl) (by kernel_rfl), obeys_plain (ps := [.str, .str]) (rs := [.str, .str, .bool]) (g := lib_cut) rfl rfl (fun w x r hx hK => by
    obtain ⟨s, sep⟩ := x
    simp only [lib_cut] at hx
    split at hx
    · rename_i hs
      obtain rfl := Option.some.inj hx
      obtain ⟨m, hm⟩ := hG.mx
      refine (Tryd.strings_Cut s sep m w hs (Glob.of_cell hK hm)).mono fun e w' h => ⟨h.1, ?_⟩
      obtain ⟨k, rfl⟩ := h.2
      exact Step.drewN w k
    · cases hx)⟩

theorem ob22 {W : World} (hG : Facts W) : Good Tryd.prog (Glob.of W) (22, S22) :=
  ⟨plain_of Tryd.func22 (by kernel_rfl) (by kernel_rfl), obeys_prim (ps := [.str]) (rs := [.i (.int .i64), .e]) (g := lib_atoi) rfl rfl (fun w s r hx hK => by
    simp only [lib_atoi] at hx
    split at hx
    · rename_i hs
      cases hv : Lib.atoiAll (ByteArray.data s).toList with
      | ok v =>
        rw [hv] at hx
        obtain rfl := Option.some.inj hx
        refine (Tryd.strconv_Atoi_ok _ (by omega) v hv w).mono fun e w' h => ⟨[.int .i64 v, .nilIface], h.1, ⟨rfl, ⟨false, rfl, rfl⟩, trivial⟩, ?_⟩
        rcases h.2 with rfl | ⟨t, rfl⟩
        · exact Step.refl _ _
        · exact Step.of_below (Lib.bytesWorld_below _ _ _)
      | range =>
        rw [hv] at hx
        obtain rfl := Option.some.inj hx
        obtain ⟨ev, h1, h2⟩ := hG.er
        refine (Tryd.strconv_Atoi_range _ hs hv ev w (Glob.of_cell hK h1) h2).mono fun e w' h => ?_
        obtain ⟨N, h3, _, _, h4⟩ := h
        exact ⟨[.int .i64 _, _], h3, ⟨rfl, ⟨true, rfl, _, _, rfl⟩, trivial⟩, Step.of_below h4⟩
      | _ =>
        rw [hv] at hx
        obtain rfl := Option.some.inj hx
        obtain ⟨ev, h1, h2⟩ := hG.es
        refine (Any.strconv_Atoi_syntax Tryd.laysC172 _ hs hv ev w (Glob.of_cell hK h1) h2).mono fun e w' h => ?_
        obtain ⟨N, h3, _, _, h4⟩ := h
        exact ⟨[.int .i64 0, _], h3, ⟨rfl, ⟨true, rfl, _, _, rfl⟩, trivial⟩, Step.of_below h4⟩
    · cases hx)⟩

/-! ### A number at a key that is put again -/
end AM
end Go.Proofs.YtelkmjkclmjggaaDoor

/-! strings.Split and strings.Contains, by their contracts. Under: what the rows list of the library's variables. -/
namespace Go.Proofs.YtelkmjkclmjggaaDoor
namespace AM
open Go Go.Shelf Go.RowKit
set_option linter.unusedVariables false

theorem ob26 {W : World} (hG : Facts W) : Good Tryd.prog (Glob.of W) (26, S26) :=
  ⟨plain_of Tryd.func26 (by kernel_rfl) (by kernel_rfl), obeys_plain (ps := [.str, .str]) (rs := [.bool]) (g := lib_contains) rfl rfl (fun w x r hx hK => by
    obtain ⟨s, sub⟩ := x
    simp only [lib_contains] at hx
    split at hx
    · rename_i hs
      obtain rfl := Option.some.inj hx
      obtain ⟨m, hm⟩ := hG.mx
      refine (Tryd.strings_Contains s sub m w hs (Glob.of_cell hK hm)).mono fun e w' h => ⟨h.1, ?_⟩
      obtain rfl := h.2
      exact Step.refl _ _
    · cases hx)⟩
theorem World.heap_new (w : World) (o : Obj) : (w.alloc o).heap[w.heap.size]? = some o := by
  show (w.heap.push o)[w.heap.size]? = some o
  simp
theorem splitB_len (sep : ByteArray) (h1 : 1 ≤ sep.size) : ∀ (k : Nat) (s : ByteArray), Lib.countB s sep = k → (Lib.splitB sep 0 k s).length = k + 1
  | 0, s, _ => rfl
  | k + 1, s, h => by
    rcases Lib.indexB_cases s sep with hix | ⟨i, hix, _⟩
    · rw [Lib.countB_miss s sep hix] at h; omega
    · rw [Lib.splitB_hit sep 0 k s i hix, List.length_cons]
      rw [Lib.countB_hit s sep i h1 hix] at h
      rw [splitB_len sep h1 k _ (by omega)]
theorem frep_str (I : Nat → Prop) (w : World) : ∀ l : List ByteArray, FRep I w .str l (l.map Value.string) := fun l =>
  ⟨l.map fun s => [Value.string s], by
    induction l with
    | nil => trivial
    | cons s l ih => exact ⟨rfl, ih⟩, by
    induction l with
    | nil => rfl
    | cons s l ih => simp [ih]⟩
theorem ob12 {W : World} (hG : Facts W) : Good Tryd.prog (Glob.of W) (12, S12) :=
  ⟨plain_of Tryd.func12 (by kernel_rfl) (by kernel_rfl), obeys_own2 (el := 9) (g := lib_split) (fun w s sep r hx hK => by
    simp only [lib_split] at hx
    split at hx
    · rename_i hs
      obtain rfl := Option.some.inj hx
      obtain ⟨m, hm⟩ := hG.mx
      have hl := splitB_len sep hs.2 _ s rfl
      refine (Tryd.strings_Split s sep m w hs.1 (Glob.of_cell hK hm) hs.2).mono fun e w' h => ⟨_, (Lib.splitB sep 0 (Lib.countB s sep) s).map Value.string, h.1, ?_, fun I => frep_str I w _, ?_⟩
      · obtain rfl := h.2
        rw [hl]
        have hc : Lib.countB s sep ≤ s.size + 1 := by
          have := Lib.count_le s.data.toList sep.data.toList
          have e : s.data.toList.length = s.size := by rw [Array.length_toList]; rfl
          rw [e] at this
          exact this
        refine ⟨by rw [List.length_map, hl]; show _ = _ * 1; omega, .inr ⟨w.heap.size, Lib.countB s sep + 1, _, rfl, Nat.le_refl _, World.heap_new w _, Nat.le_refl _, by unfold maxLen; omega, ?_, ?_⟩⟩
        · show _ = _ * 1
          rw [List.size_toArray, List.length_map, hl]; omega
        · show List.take (_ * 1) _ = _
          rw [List.take_of_length_le]
          rw [List.length_map, hl]; omega
      · obtain rfl := h.2
        exact Step.of_below ((Below.refl _ w).alloc (Nat.le_refl _) _)
    · cases hx)⟩
theorem impl_ParseDeed_R13_1_eq (n : Nat) (x) : impl_ParseDeed_R13_1 n x = impl_ParseDeed_R13 n x := by
  unfold impl_ParseDeed_R13_1 impl_ParseDeed_R13
  cases impl_lineNumber n x.2.2.2.2.2.2.2.2.2.2.2.2.2.2.2.2.2.2.1 <;> cases decide (x.2.2.2.2.2.2.2.2.2.2.2.2.2.2.2.2.2.1 = (0 : Int)) <;> cases decide (x.2.2.2.2.2.2.2.2.2.2.2.2.2.2.2.2.2.1 = (1 : Int)) <;> cases decide (x.2.2.2.2.2.2.2.2.2.2.2.2.2.2.2.2.2.1 = (2 : Int)) <;> cases decide (x.2.2.2.2.2.2.2.2.2.2.2.2.2.2.2.2.2.1 = (3 : Int)) <;> rfl
end AM
end Go.Proofs.YtelkmjkclmjggaaDoor
