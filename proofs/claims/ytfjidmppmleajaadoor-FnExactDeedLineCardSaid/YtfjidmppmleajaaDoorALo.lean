/- Each function that the law reaches obeys its summary. Under: what the row lists of the library's variables. -/
import Derived.Test.YtfjidmppmleajaaDoorALd
import Derived.Test.YtfjidmppmleajaaDoorShelf
import Derived.Test.YtfjidmppmleajaaDoorProg
namespace Go.Proofs.YtfjidmppmleajaaDoor
namespace AM
open Go
set_option linter.unusedVariables false
/-- What is known of the library's variables. -/
structure Facts (W : World) : Prop where
  mx : ∃ m, W.cell? ⟨0, 0, none⟩ = some (.int .i64 m)
  tab : Lib.TabIs Tryd.prog W "internal/strconv.uint64pow10" .u64 Lib.pow10Tab

theorem ob17 {W : World} (hG : Facts W) : Good Tryd.prog (Glob.of W) (17, S17) :=
  ⟨plain_of Tryd.func17 (by kernel_rfl) (by kernel_rfl), obeys_plain (ps := [.str, .str]) (rs := [.bool]) (g := lib_contains) rfl rfl (fun w x r hx hK => by
    obtain ⟨s, sub⟩ := x
    simp only [lib_contains] at hx
    split at hx
    · rename_i hs
      obtain rfl := Option.some.inj hx
      obtain ⟨m, hm⟩ := hG.mx
      exact (Tryd.strings_Contains s sub m w hs (Glob.of_cell hK hm)).mono fun e w' h => ⟨h.1, h.2 ▸ Step.refl _ _⟩
    · cases hx)⟩
theorem ob20 {W : World} (hG : Facts W) : Good Tryd.prog (Glob.of W) (20, S20) :=
  ⟨plain_of Tryd.func20 (by kernel_rfl) (by kernel_rfl), obeys_plain (ps := [.int .i64]) (rs := [.str]) (g := lib_itoa) rfl rfl (fun w x r hx hK => by
    simp only [lib_itoa] at hx
    split at hx
    · rename_i hs
      obtain rfl := Option.some.inj hx
      refine (Tryd.strconv_Itoa x hs.1 hs.2 w (Glob.of_tab hK hG.tab)).mono fun e w' h => ⟨h.1, ?_⟩
      obtain ⟨k, os, rfl⟩ := h.2
      exact Step.trans (Step.drewN w k) (Step.grow _ os) (fun _ _ q => q.elim)
    · cases hx)⟩
theorem ob5 {W : World} (hG : Facts W) (n : Nat) : Good Tryd.prog (Glob.of W) (5, S5 n) :=
  ⟨plain_of Tryd.func5 (by kernel_rfl) (by kernel_rfl), obeys_of (E := E5 n) Tryd.func5 mixed tabOk rfl (l := G5 n) trivial (by kernel_rfl) (by kernel_rfl) (Nat.le_of_ble_eq_true (by kernel_rfl)) (by kernel_rfl) (loopsOk_of 0 (by kernel_rfl) (fun i hi => absurd hi (Nat.not_lt_zero i))) (eq5 n)⟩
theorem ob7 {W : World} (hG : Facts W) (n : Nat) : Good Tryd.prog (Glob.of W) (7, S7 n) :=
  ⟨plain_of Tryd.func7 (by kernel_rfl) (by kernel_rfl), obeys_of (E := E7 n) Tryd.func7 mixed tabOk rfl (l := G7 n) trivial (by kernel_rfl) (by kernel_rfl) (Nat.le_of_ble_eq_true (by kernel_rfl)) (by kernel_rfl) (loopsOk_of 0 (by kernel_rfl) (fun i hi => absurd hi (Nat.not_lt_zero i))) (eq7 n)⟩
theorem ob13 {W : World} (hG : Facts W) (n : Nat) : Good Tryd.prog (Glob.of W) (13, S13 n) :=
  ⟨plain_of Tryd.func13 (by kernel_rfl) (by kernel_rfl), obeys_of (E := E13 n) Tryd.func13 mixed tabOk rfl (l := G13 n) trivial (by kernel_rfl) (by kernel_rfl) (Nat.le_of_ble_eq_true (by kernel_rfl)) (by kernel_rfl) (loopsOk_of 0 (by kernel_rfl) (fun i hi => absurd hi (Nat.not_lt_zero i))) (eq13 n)⟩
theorem ob12 {W : World} (hG : Facts W) (n : Nat) : Good Tryd.prog (Glob.of W) (12, S12 n) :=
  ⟨plain_of Tryd.func12 (by kernel_rfl) (by kernel_rfl), obeys_of (E := E12 n) Tryd.func12 mixed tabOk rfl (l := G12 n) trivial (by kernel_rfl) (by kernel_rfl) (Nat.le_of_ble_eq_true (by kernel_rfl)) (by kernel_rfl) (loopsOk_of 0 (by kernel_rfl) (fun i hi => absurd hi (Nat.not_lt_zero i))) (eq12 n)⟩
theorem ob19 {W : World} (hG : Facts W) (n : Nat) : Good Tryd.prog (Glob.of W) (19, S19 n) :=
  ⟨plain_of Tryd.func19 (by kernel_rfl) (by kernel_rfl), obeys_of (E := E19 n) Tryd.func19 mixed tabOk rfl (l := G19 n) trivial (by kernel_rfl) (by kernel_rfl) (Nat.le_of_ble_eq_true (by kernel_rfl)) (by kernel_rfl) (loopsOk_of 0 (by kernel_rfl) (fun i hi => absurd hi (Nat.not_lt_zero i))) (eq19 n)⟩
theorem ob16 {W : World} (hG : Facts W) (n : Nat) : Good Tryd.prog (Glob.of W) (16, S16 n) :=
  ⟨plain_of Tryd.func16 (by kernel_rfl) (by kernel_rfl), obeys_of (E := E16 n) Tryd.func16 mixed tabOk rfl (l := G16 n) trivial (by kernel_rfl) (by kernel_rfl) (Nat.le_of_ble_eq_true (by kernel_rfl)) (by kernel_rfl) (loopsOk_of 0 (by kernel_rfl) (fun i hi => absurd hi (Nat.not_lt_zero i))) (eq16 n)⟩
theorem ob18 {W : World} (hG : Facts W) (n : Nat) : Good Tryd.prog (Glob.of W) (18, S18 n) :=
  ⟨plain_of Tryd.func18 (by kernel_rfl) (by kernel_rfl), obeys_of (E := E18 n) Tryd.func18 mixed tabOk rfl (l := G18 n) trivial (by kernel_rfl) (by kernel_rfl) (Nat.le_of_ble_eq_true (by kernel_rfl)) (by kernel_rfl) (loopsOk_of 0 (by kernel_rfl) (fun i hi => absurd hi (Nat.not_lt_zero i))) (eq18 n)⟩
theorem ob14 {W : World} (hG : Facts W) (n : Nat) : Good Tryd.prog (Glob.of W) (14, S14 n) :=
  ⟨plain_of Tryd.func14 (by kernel_rfl) (by kernel_rfl), obeys_of (E := E14 n) Tryd.func14 mixed tabOk rfl (l := G14 n) trivial (by kernel_rfl) (by kernel_rfl) (Nat.le_of_ble_eq_true (by kernel_rfl)) (by kernel_rfl) (loopsOk_of 0 (by kernel_rfl) (fun i hi => absurd hi (Nat.not_lt_zero i))) (eq14 n)⟩
theorem ob15 {W : World} (hG : Facts W) (n : Nat) : Good Tryd.prog (Glob.of W) (15, S15 n) :=
  ⟨plain_of Tryd.func15 (by kernel_rfl) (by kernel_rfl), obeys_of (E := E15 n) Tryd.func15 mixed tabOk rfl (l := G15 n) trivial (by kernel_rfl) (by kernel_rfl) (Nat.le_of_ble_eq_true (by kernel_rfl)) (by kernel_rfl) (loopsOk_of 1 (by kernel_rfl) (fun i hi => match i, hi with | 0, _ => looped (S := Sspec_l4Num_L4 n (spec_l4Num_L4 n n)) (by kernel_rfl) (spec_l4Num_L4 n) (fun _ => rfl) n rfl (fun m x => eqspec_l4Num_L4 n m x))) (eq15 n)⟩
theorem ob6 {W : World} (hG : Facts W) (n : Nat) : Good Tryd.prog (Glob.of W) (6, S6 n) :=
  ⟨plain_of Tryd.func6 (by kernel_rfl) (by kernel_rfl), obeys_of (E := E6 n) Tryd.func6 mixed tabOk rfl (l := G6 n) ⟨ob12 hG n, ob13 hG n, ob14 hG n, ob15 hG n, trivial⟩ (by kernel_rfl) (by kernel_rfl) (Nat.le_of_ble_eq_true (by kernel_rfl)) (by kernel_rfl) (loopsOk_of 1 (by kernel_rfl) (fun i hi => match i, hi with | 0, _ => looped (S := Sspec_DeedLine_L4 n (spec_DeedLine_L4 n n)) (by kernel_rfl) (spec_DeedLine_L4 n) (fun _ => rfl) n rfl (fun m x => eqspec_DeedLine_L4 n m x))) (eq6 n)⟩
theorem ob8 {W : World} (hG : Facts W) (n : Nat) : Good Tryd.prog (Glob.of W) (8, S8 n) :=
  ⟨plain_of Tryd.func8 (by kernel_rfl) (by kernel_rfl), obeys_of (E := E8 n) Tryd.func8 mixed tabOk rfl (l := G8 n) ⟨ob16 hG n, ob17 hG, ob18 hG n, ob19 hG n, ob20 hG, trivial⟩ (by kernel_rfl) (by kernel_rfl) (Nat.le_of_ble_eq_true (by kernel_rfl)) (by kernel_rfl) (loopsOk_of 1 (by kernel_rfl) (fun i hi => match i, hi with | 0, _ => looped (S := Simpl_DeedLine_L5 n (impl_DeedLine_L5 n n)) (by kernel_rfl) (impl_DeedLine_L5 n) (fun _ => rfl) n rfl (fun m x => eqimpl_DeedLine_L5 n m x))) (eq8 n)⟩
theorem ob3 {W : World} (hG : Facts W) (n : Nat) : Good Tryd.prog (Glob.of W) (3, S3 n) :=
  ⟨plain_of Tryd.func3 (by kernel_rfl) (by kernel_rfl), obeys_of (E := E3 n) Tryd.func3 mixed tabOk rfl (l := G3 n) ⟨ob5 hG n, ob7 hG n, ob6 hG n, ob8 hG n, trivial⟩ (by kernel_rfl) (by kernel_rfl) (Nat.le_of_ble_eq_true (by kernel_rfl)) (by kernel_rfl) (loopsOk_of 0 (by kernel_rfl) (fun i hi => absurd hi (Nat.not_lt_zero i))) (eq3 n)⟩
end AM
end Go.Proofs.YtfjidmppmleajaaDoor
