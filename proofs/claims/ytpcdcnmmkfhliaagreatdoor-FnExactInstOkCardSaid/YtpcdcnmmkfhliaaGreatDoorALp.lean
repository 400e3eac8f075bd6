/- The library's functions, by their contracts. Under: what the rows list of the library's variables. -/
import Derived.Test.YtpcdcnmmkfhliaaGreatDoorALd
import Derived.Test.YtpcdcnmmkfhliaaGreatDoorShelf
namespace Go.Proofs.YtpcdcnmmkfhliaaGreatDoor
namespace AM
open Go
set_option linter.unusedVariables false

/-- What is known of the library's variables. -/
structure Facts (W : World) : Prop where
  mx : ∃ m, W.cell? ⟨1, 0, none⟩ = some (.int .i64 m)
  tab : Lib.TabIs Tryz.prog W "internal/strconv.uint64pow10" .u64 Lib.pow10Tab
  es : ∃ ev, W.cell? ⟨4, 0, none⟩ = some ev ∧ (ev = .nilIface ∨ ∃ te pe, ev = .iface te pe)
  er : ∃ ev, W.cell? ⟨5, 0, none⟩ = some ev ∧ (ev = .nilIface ∨ ∃ te pe, ev = .iface te pe)

theorem ob85 {W : World} (hG : Facts W) : Good Tryz.prog (Glob.of W) (85, S85) :=
  ⟨plain_of Tryz.func85 (by kernel_rfl) (by kernel_rfl), obeys_plain (ps := [.int .i64]) (rs := [.str]) (g := lib_itoa) rfl rfl (fun w x r hx hK => by
    simp only [lib_itoa] at hx
    split at hx
    · rename_i hs
      obtain rfl := Option.some.inj hx
      refine (Tryz.strconv_Itoa x hs.1 hs.2 w (Glob.of_tab hK hG.tab)).mono fun e w' h => ⟨h.1, ?_⟩
      obtain ⟨k, os, rfl⟩ := h.2
      exact Step.trans (Step.drewN w k) (Step.grow _ os) (fun _ _ q => q.elim)
    · cases hx)⟩

theorem ob123 {W : World} (hG : Facts W) : Good Tryz.prog (Glob.of W) (123, S123) :=
  ⟨plain_of Tryz.func123 (by kernel_rfl) (by kernel_rfl), obeys_plain (ps := [.str, .str]) (rs := [.str, .str, .bool]) (g := lib_cut) rfl rfl (fun w x r hx hK => by
    obtain ⟨s, sep⟩ := x
    simp only [lib_cut] at hx
    split at hx
    · rename_i hs
      obtain rfl := Option.some.inj hx
      obtain ⟨m, hm⟩ := hG.mx
      refine (Tryz.strings_Cut s sep m w hs (Glob.of_cell hK hm)).mono fun e w' h => ⟨h.1, ?_⟩
      obtain ⟨k, rfl⟩ := h.2
      exact Step.drewN w k
    · cases hx)⟩

theorem ob209 {W : World} (hG : Facts W) : Good Tryz.prog (Glob.of W) (209, S209) :=
  ⟨plain_of Tryz.func209 (by kernel_rfl) (by kernel_rfl), obeys_prim (ps := [.str]) (rs := [.i (.int .i64), .e]) (g := lib_atoi) rfl rfl (fun w s r hx hK => by
    have s : ByteArray := s
    simp only [lib_atoi] at hx
    split at hx
    · rename_i hs
      split at hx
      · rename_i v hv
        obtain rfl := Option.some.inj hx
        refine (Tryz.strconv_Atoi_ok _ (by omega) v hv w).mono fun e w' h => ⟨[.int .i64 v, .nilIface], h.1, ⟨rfl, ⟨false, rfl, rfl⟩, trivial⟩, ?_⟩
        rcases h.2 with rfl | ⟨t, rfl⟩
        · exact Step.refl _ _
        · exact Step.of_below (Lib.bytesWorld_below _ _ _)
      · rename_i hv
        obtain rfl := Option.some.inj hx
        obtain ⟨ev, h1, h2⟩ := hG.es
        refine (Tryz.strconv_Atoi_syntax _ hs hv ev w (Glob.of_cell hK h1) h2).mono fun e w' h => ?_
        obtain ⟨N, h3, _, _, h4⟩ := h
        exact ⟨[.int .i64 0, _], h3, ⟨rfl, ⟨true, rfl, _, _, rfl⟩, trivial⟩, Step.of_below h4⟩
      · rename_i hv
        obtain rfl := Option.some.inj hx
        obtain ⟨ev, h1, h2⟩ := hG.er
        refine (Tryz.strconv_Atoi_range _ hs hv ev w (Glob.of_cell hK h1) h2).mono fun e w' h => ?_
        obtain ⟨N, h3, _, _, h4⟩ := h
        exact ⟨[.int .i64 _, _], h3, ⟨rfl, ⟨true, rfl, _, _, rfl⟩, trivial⟩, Step.of_below h4⟩
    · cases hx)⟩

/-! ### A number at a key that is put again -/
theorem mfind_set {kt : Ty} {k : kt.den} {x : Int} (hr : kt.eqv k k = true) : ∀ {m : List (kt.den × Int)} {i j : Nat} {v : Int}, mfind kt k m i = some (j, v) → mfind kt k (m.set (j - i) (k, x)) i = some (j, x)
  | [], _, _, _, h => by cases h
  | p :: r, i, j, v, h => by
    unfold mfind at h
    cases q : kt.eqv k p.1 with
    | true =>
      rw [q] at h
      obtain ⟨rfl, rfl⟩ := Prod.mk.inj (Option.some.inj h)
      rw [Nat.sub_self, List.set_cons_zero]
      unfold mfind
      rw [hr]; rfl
    | false =>
      rw [q] at h
      have h : mfind kt k r (i + 1) = some (j, v) := h
      obtain ⟨h1, _⟩ := mfind_spec h
      rw [show j - i = (j - (i + 1)) + 1 by omega, List.set_cons_succ]
      unfold mfind
      rw [q]
      exact mfind_set hr h
theorem mfind_push {kt : Ty} {k : kt.den} {x : Int} (hr : kt.eqv k k = true) : ∀ {m : List (kt.den × Int)} {i : Nat}, mfind kt k m i = none → mfind kt k (m ++ [(k, x)]) i = some (i + m.length, x)
  | [], i, _ => by
    show mfind kt k [(k, x)] i = _
    unfold mfind
    rw [hr]; simp
  | p :: r, i, h => by
    unfold mfind at h
    cases q : kt.eqv k p.1 with
    | true => rw [q] at h; cases h
    | false =>
      rw [q] at h
      have h : mfind kt k r (i + 1) = none := h
      show mfind kt k (p :: (r ++ [(k, x)])) i = _
      unfold mfind
      rw [q]
      have := mfind_push (x := x) hr h
      simp only [cond_false, this, List.length_cons]
      congr 2; omega
theorem mget_mput {kt : Ty} {k : kt.den} {x : Int} {m : List (kt.den × Int)} (hr : kt.eqv k k = true) : mget kt k (mput kt k x m) = x := by
  unfold mget mput
  cases h : mfind kt k m 0 with
  | some p =>
    obtain ⟨j, v⟩ := p
    have := mfind_set (x := x) hr h
    rw [Nat.sub_zero] at this
    simp only [this]
  | none => simp only [mfind_push hr h]

theorem impl_PoolOk_R7_1_eq (n : Nat) (x) : impl_PoolOk_R7_1 n x = impl_PoolOk_R7 n x := by
  have e : (Ty.pr (.int .i64) (.pr (.int .i64) (.int .i64))).eqv (x.2.2.1, (x.2.2.2.1, x.2.2.2.2.1)) (x.2.2.1, (x.2.2.2.1, x.2.2.2.2.1)) = true := by simp [Ty.eqv]
  unfold impl_PoolOk_R7_1 impl_PoolOk_R7
  rw [mget_mput e]
end AM
end Go.Proofs.YtpcdcnmmkfhliaaGreatDoor
