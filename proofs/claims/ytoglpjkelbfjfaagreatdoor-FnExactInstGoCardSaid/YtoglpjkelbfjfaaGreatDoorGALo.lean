/- Each function that the laws reach obeys its summary. Under: what the rows list of the library's variables. -/
import Derived.Test.YtoglpjkelbfjfaaGreatDoorGALd
import Derived.Test.YtoglpjkelbfjfaaGreatDoorGW3
import Derived.Test.YtoglpjkelbfjfaaGreatDoorProg
import Derived.Test.YtoglpjkelbfjfaaGreatDoorGShelf
import Derived.Test.YtoglpjkelbfjfaaGreatDoorGP1
import Derived.Lib.IndexMore
import Derived.Lib.ItoaNum
namespace Go.Proofs.YtoglpjkelbfjfaaGreatDoor
namespace AM
open Go
set_option linter.unusedVariables false
theorem ob155 {W : World} (hG : Facts W) (n : Nat) : Good Tryz.prog (Glob.of W) (155, S155 n) :=
  ⟨plain_of Tryz.func155 (by kernel_rfl) (by kernel_rfl), obeys_of (S := S155 n) (E := E155 n) Tryz.func155 mixed tabOk rfl (l := G155 n) (l2 := []) trivial trivial (by kernel_rfl) (by kernel_rfl) (Nat.le_of_ble_eq_true (by kernel_rfl)) (by kernel_rfl) (loopsOk_of 0 (by kernel_rfl) (fun i hi => absurd hi (Nat.not_lt_zero i)) (fun p _ S h => by cases (show (none : Option RSum) = some S from h))) (eq155 n)⟩
theorem ob206 {W : World} (hG : Facts W) (n : Nat) : Good Tryz.prog (Glob.of W) (206, S206 n) :=
  ⟨plain_of Tryz.func206 (by kernel_rfl) (by kernel_rfl), obeys_of (S := S206 n) (E := E206 n) Tryz.func206 mixed tabOk rfl (l := G206 n) (l2 := []) trivial trivial (by kernel_rfl) (by kernel_rfl) (Nat.le_of_ble_eq_true (by kernel_rfl)) (by kernel_rfl) (loopsOk_of 0 (by kernel_rfl) (fun i hi => absurd hi (Nat.not_lt_zero i)) (fun p _ S h => by cases (show (none : Option RSum) = some S from h))) (eq206 n)⟩
theorem ob285 {W : World} (hG : Facts W) (n : Nat) : Good Tryz.prog (Glob.of W) (285, S285 n) :=
  ⟨plain_of Tryz.func285 (by kernel_rfl) (by kernel_rfl), obeys_of (S := S285 n) (E := E285 n) Tryz.func285 mixed tabOk rfl (l := G285 n) (l2 := []) trivial trivial (by kernel_rfl) (by kernel_rfl) (Nat.le_of_ble_eq_true (by kernel_rfl)) (by kernel_rfl) (loopsOk_of 0 (by kernel_rfl) (fun i hi => absurd hi (Nat.not_lt_zero i)) (fun p _ S h => by cases (show (none : Option RSum) = some S from h))) (eq285 n)⟩
theorem ob249 {W : World} (hG : Facts W) (n : Nat) : Good Tryz.prog (Glob.of W) (249, S249 n) :=
  ⟨plain_of Tryz.func249 (by kernel_rfl) (by kernel_rfl), obeys_of (S := S249 n) (E := E249 n) Tryz.func249 mixed tabOk rfl (l := G249 n) (l2 := []) ⟨ob285 hG n, trivial⟩ trivial (by kernel_rfl) (by kernel_rfl) (Nat.le_of_ble_eq_true (by kernel_rfl)) (by kernel_rfl) (loopsOk_of 1 (by kernel_rfl) (fun i hi => match i, hi with | 0, _ => looped (S := Sspec_l12Act_L2 n (spec_l12Act_L2 n n)) (by kernel_rfl) (spec_l12Act_L2 n) (fun _ => rfl) n rfl (fun m x => eqspec_l12Act_L2 n m x)) (fun p _ S h => by cases (show (none : Option RSum) = some S from h))) (eq249 n)⟩
theorem ob241 {W : World} (hG : Facts W) (n : Nat) : Good Tryz.prog (Glob.of W) (241, S241 n) :=
  ⟨plain_of Tryz.func241 (by kernel_rfl) (by kernel_rfl), obeys_of (S := S241 n) (E := E241 n) Tryz.func241 mixed tabOk rfl (l := G241 n) (l2 := []) trivial trivial (by kernel_rfl) (by kernel_rfl) (Nat.le_of_ble_eq_true (by kernel_rfl)) (by kernel_rfl) (loopsOk_of 1 (by kernel_rfl) (fun i hi => match i, hi with | 0, _ => looped (S := Sspec_l4Name_L3 n (spec_l4Name_L3 n n)) (by kernel_rfl) (spec_l4Name_L3 n) (fun _ => rfl) n rfl (fun m x => eqspec_l4Name_L3 n m x)) (fun p _ S h => by cases (show (none : Option RSum) = some S from h))) (eq241 n)⟩
theorem ob283 {W : World} (hG : Facts W) (n : Nat) : Good Tryz.prog (Glob.of W) (283, S283 n) :=
  ⟨plain_of Tryz.func283 (by kernel_rfl) (by kernel_rfl), obeys_of (S := S283 n) (E := E283 n) Tryz.func283 mixed tabOk rfl (l := G283 n) (l2 := []) trivial trivial (by kernel_rfl) (by kernel_rfl) (Nat.le_of_ble_eq_true (by kernel_rfl)) (by kernel_rfl) (loopsOk_of 0 (by kernel_rfl) (fun i hi => absurd hi (Nat.not_lt_zero i)) (fun p _ S h => by cases (show (none : Option RSum) = some S from h))) (eq283 n)⟩
theorem ob243 {W : World} (hG : Facts W) (n : Nat) : Good Tryz.prog (Glob.of W) (243, S243 n) :=
  ⟨plain_of Tryz.func243 (by kernel_rfl) (by kernel_rfl), obeys_of (S := S243 n) (E := E243 n) Tryz.func243 mixed tabOk rfl (l := G243 n) (l2 := []) trivial trivial (by kernel_rfl) (by kernel_rfl) (Nat.le_of_ble_eq_true (by kernel_rfl)) (by kernel_rfl) (loopsOk_of 0 (by kernel_rfl) (fun i hi => absurd hi (Nat.not_lt_zero i)) (fun p _ S h => by cases (show (none : Option RSum) = some S from h))) (eq243 n)⟩
theorem ob211 {W : World} (hG : Facts W) (n : Nat) : Good Tryz.prog (Glob.of W) (211, S211 n) :=
  ⟨plain_of Tryz.func211 (by kernel_rfl) (by kernel_rfl), obeys_of (S := S211 n) (E := E211 n) Tryz.func211 mixed tabOk rfl (l := G211 n) (l2 := []) trivial trivial (by kernel_rfl) (by kernel_rfl) (Nat.le_of_ble_eq_true (by kernel_rfl)) (by kernel_rfl) (loopsOk_of 0 (by kernel_rfl) (fun i hi => absurd hi (Nat.not_lt_zero i)) (fun p _ S h => by cases (show (none : Option RSum) = some S from h))) (eq211 n)⟩
theorem ob199 {W : World} (hG : Facts W) (n : Nat) : Good Tryz.prog (Glob.of W) (199, S199 n) :=
  ⟨plain_of Tryz.func199 (by kernel_rfl) (by kernel_rfl), obeys_of (S := S199 n) (E := E199 n) Tryz.func199 mixed tabOk rfl (l := G199 n) (l2 := []) ⟨ob211 hG n, trivial⟩ trivial (by kernel_rfl) (by kernel_rfl) (Nat.le_of_ble_eq_true (by kernel_rfl)) (by kernel_rfl) (loopsOk_of 0 (by kernel_rfl) (fun i hi => absurd hi (Nat.not_lt_zero i)) (fun p _ S h => by cases (show (none : Option RSum) = some S from h))) (eq199 n)⟩
theorem ob242_ {W : World} (hG : Facts W) (n k : Nat) (ih : Good Tryz.prog (Glob.of W) (191, S191 n k)) : Good Tryz.prog (Glob.of W) (242, S242 n k) :=
  ⟨plain_of Tryz.func242 (by kernel_rfl) (by kernel_rfl), obeys_of (S := S242 n k) (E := E242 n k) Tryz.func242 mixed tabOk rfl (l := G242 n k) (l2 := []) ⟨ob283 hG n, ih, trivial⟩ trivial (by kernel_rfl) (by kernel_rfl) (Nat.le_of_ble_eq_true (by kernel_rfl)) (by kernel_rfl) (loopsOk_of 0 (by kernel_rfl) (fun i hi => absurd hi (Nat.not_lt_zero i)) (fun p _ S h => by cases (show (none : Option RSum) = some S from h))) (eq242 n k)⟩
theorem ob191 {W : World} (hG : Facts W) (n : Nat) : ∀ k, Good Tryz.prog (Glob.of W) (191, S191 n k)
  | 0 => ⟨plain_of Tryz.func191 (by kernel_rfl) (by kernel_rfl), fun _ _ _ _ _ _ _ h => by cases h⟩
  | k + 1 =>
    have ih := ob191 hG n k
    ⟨plain_of Tryz.func191 (by kernel_rfl) (by kernel_rfl), obeys_of (S := S191 n (k + 1)) (E := E191 n k) Tryz.func191 mixed tabOk rfl (l := G191 n k) (l2 := []) ⟨ob199 hG n, ob241 hG n, ob242_ hG n k ih, ob243 hG n, ih, trivial⟩ trivial (by kernel_rfl) (by kernel_rfl) (Nat.le_of_ble_eq_true (by kernel_rfl)) (by kernel_rfl) (loopsOk_of 0 (by kernel_rfl) (fun i hi => absurd hi (Nat.not_lt_zero i)) (fun p _ S h => by cases (show (none : Option RSum) = some S from h))) (eq191 n k)⟩
theorem ob242 {W : World} (hG : Facts W) (n k : Nat) : Good Tryz.prog (Glob.of W) (242, S242 n k) := ob242_ hG n k (ob191 hG n k)
theorem ob125 {W : World} (hG : Facts W) (n : Nat) : Good Tryz.prog (Glob.of W) (125, S125 n) :=
  ⟨plain_of Tryz.func125 (by kernel_rfl) (by kernel_rfl), obeys_of (S := S125 n) (E := E125 n) Tryz.func125 mixed tabOk rfl (l := G125 n) (l2 := []) ⟨ob191 hG n n, trivial⟩ trivial (by kernel_rfl) (by kernel_rfl) (Nat.le_of_ble_eq_true (by kernel_rfl)) (by kernel_rfl) (loopsOk_of 0 (by kernel_rfl) (fun i hi => absurd hi (Nat.not_lt_zero i)) (fun p _ S h => by cases (show (none : Option RSum) = some S from h))) (eq125 n)⟩
theorem ob286 {W : World} (hG : Facts W) (n : Nat) : Good Tryz.prog (Glob.of W) (286, S286 n) :=
  ⟨plain_of Tryz.func286 (by kernel_rfl) (by kernel_rfl), obeys_of (S := S286 n) (E := E286 n) Tryz.func286 mixed tabOk rfl (l := G286 n) (l2 := []) ⟨ob125 hG n, trivial⟩ trivial (by kernel_rfl) (by kernel_rfl) (Nat.le_of_ble_eq_true (by kernel_rfl)) (by kernel_rfl) (loopsOk_of 0 (by kernel_rfl) (fun i hi => absurd hi (Nat.not_lt_zero i)) (fun p _ S h => by cases (show (none : Option RSum) = some S from h))) (eq286 n)⟩
theorem ob250 {W : World} (hG : Facts W) (n : Nat) : Good Tryz.prog (Glob.of W) (250, S250 n) :=
  ⟨plain_of Tryz.func250 (by kernel_rfl) (by kernel_rfl), obeys_of (S := S250 n) (E := E250 n) Tryz.func250 mixed tabOk rfl (l := G250 n) (l2 := []) ⟨ob155 hG n, ob286 hG n, trivial⟩ trivial (by kernel_rfl) (by kernel_rfl) (Nat.le_of_ble_eq_true (by kernel_rfl)) (by kernel_rfl) (loopsOk_of 1 (by kernel_rfl) (fun i hi => match i, hi with | 0, _ => looped (S := Sspec_RoleOk_L5 n (spec_RoleOk_L5 n n)) (by kernel_rfl) (spec_RoleOk_L5 n) (fun _ => rfl) n rfl (fun m x => eqspec_RoleOk_L5 n m x)) (fun p _ S h => by cases (show (none : Option RSum) = some S from h))) (eq250 n)⟩
theorem ob205 {W : World} (hG : Facts W) (n : Nat) : Good Tryz.prog (Glob.of W) (205, S205 n) :=
  ⟨plain_of Tryz.func205 (by kernel_rfl) (by kernel_rfl), obeys_of (S := S205 n) (E := E205 n) Tryz.func205 mixed tabOk rfl (l := G205 n) (l2 := []) ⟨ob249 hG n, ob250 hG n, trivial⟩ trivial (by kernel_rfl) (by kernel_rfl) (Nat.le_of_ble_eq_true (by kernel_rfl)) (by kernel_rfl) (loopsOk_of 1 (by kernel_rfl) (fun i hi => match i, hi with | 0, _ => looped (S := Sspec_RoleParse_L4 n (spec_RoleParse_L4 n n)) (by kernel_rfl) (spec_RoleParse_L4 n) (fun _ => rfl) n rfl (fun m x => eqspec_RoleParse_L4 n m x)) (fun p _ S h => by cases (show (none : Option RSum) = some S from h))) (eq205 n)⟩
theorem ob141 {W : World} (hG : Facts W) (n : Nat) : Good Tryz.prog (Glob.of W) (141, S141 n) :=
  ⟨plain_of Tryz.func141 (by kernel_rfl) (by kernel_rfl), obeys_of (S := S141 n) (E := E141 n) Tryz.func141 mixed tabOk rfl (l := G141 n) (l2 := []) ⟨ob206 hG n, ob205 hG n, trivial⟩ trivial (by kernel_rfl) (by kernel_rfl) (Nat.le_of_ble_eq_true (by kernel_rfl)) (by kernel_rfl) (loopsOk_of 0 (by kernel_rfl) (fun i hi => absurd hi (Nat.not_lt_zero i)) (fun p _ S h => by cases (show (none : Option RSum) = some S from h))) (eq141 n)⟩
theorem ob150 {W : World} (hG : Facts W) (n : Nat) : Good Tryz.prog (Glob.of W) (150, S150 n) :=
  ⟨plain_of Tryz.func150 (by kernel_rfl) (by kernel_rfl), obeys_of (S := S150 n) (E := E150 n) Tryz.func150 mixed tabOk rfl (l := G150 n) (l2 := []) trivial trivial (by kernel_rfl) (by kernel_rfl) (Nat.le_of_ble_eq_true (by kernel_rfl)) (by kernel_rfl) (loopsOk_of 1 (by kernel_rfl) (fun i hi => match i, hi with | 0, _ => looped (S := Sspec_l1Find_L2 n (spec_l1Find_L2 n n)) (by kernel_rfl) (spec_l1Find_L2 n) (fun _ => rfl) n rfl (fun m x => eqspec_l1Find_L2 n m x)) (fun p _ S h => by cases (show (none : Option RSum) = some S from h))) (eq150 n)⟩
theorem ob149 {W : World} (hG : Facts W) (n : Nat) : Good Tryz.prog (Glob.of W) (149, S149 n) :=
  ⟨plain_of Tryz.func149 (by kernel_rfl) (by kernel_rfl), obeys_of (S := S149 n) (E := E149 n) Tryz.func149 mixed tabOk rfl (l := G149 n) (l2 := []) ⟨ob211 hG n, ob155 hG n, trivial⟩ trivial (by kernel_rfl) (by kernel_rfl) (Nat.le_of_ble_eq_true (by kernel_rfl)) (by kernel_rfl) (loopsOk_of 0 (by kernel_rfl) (fun i hi => absurd hi (Nat.not_lt_zero i)) (fun p _ S h => by cases (show (none : Option RSum) = some S from h))) (eq149 n)⟩
theorem ob77 {W : World} (hG : Facts W) (n : Nat) : Good Tryz.prog (Glob.of W) (77, S77 n) :=
  ⟨plain_of Tryz.func77 (by kernel_rfl) (by kernel_rfl), obeys_of (S := S77 n) (E := E77 n) Tryz.func77 mixed tabOk rfl (l := G77 n) (l2 := []) trivial trivial (by kernel_rfl) (by kernel_rfl) (Nat.le_of_ble_eq_true (by kernel_rfl)) (by kernel_rfl) (loopsOk_of 0 (by kernel_rfl) (fun i hi => absurd hi (Nat.not_lt_zero i)) (fun p _ S h => by cases (show (none : Option RSum) = some S from h))) (eq77 n)⟩
theorem rg200 (n : Nat) : ∀ id S, (E200 n).Ω id = some S → aftOk (regAt (bodyOf Tryz.f200) id) = true ∧ ∀ x y, S.g x = some y → ∀ π ∈ exts (regAt (bodyOf Tryz.f200) id), opsK (E200 n) (regAt (bodyOf Tryz.f200) id) (opsOf (regAt (bodyOf Tryz.f200) id) π) (mkSt S.ent x) (fun s => getEns (E200 n).N S.out s) = some y := by
  intro id S hS
  by_cases h0 : id = 10
  · subst h0
    obtain rfl := Option.some.inj (show some (Rspec_l1Add_R10 n (spec_l1Add_R10 n)) = some S from hS)
    exact ⟨by kernel_rfl, fun x y hy => exts_all6 true [(4, 4)] [0, 1, 2, 3, 4, 5] (by kernel_rfl) (by decide) (by kernel_rfl) (by kernel_rfl) (by kernel_rfl) (by kernel_rfl) (by kernel_rfl) ((exspec_l1Add_R10 n x).trans (show spec_l1Add_R10 n x = some y from hy))⟩
  · exfalso
    have : (E200 n).Ω id = none := by
      show (match id with  | 10 => some (Rspec_l1Add_R10 n (spec_l1Add_R10 n)) | _ => none) = none
      split
      · exact absurd rfl h0
      · rfl
    rw [this] at hS; cases hS
theorem ob200 {W : World} (hG : Facts W) (n : Nat) : Good Tryz.prog (Glob.of W) (200, S200 n) :=
  ⟨plain_of Tryz.func200 (by kernel_rfl) (by kernel_rfl), obeys_of (S := S200 n) (E := E200 n) Tryz.func200 mixed tabOk rfl (l := G200 n) (l2 := []) ⟨ob150 hG n, ob149 hG n, ob77 hG n, trivial⟩ trivial (by kernel_rfl) (by kernel_rfl) (Nat.le_of_ble_eq_true (by kernel_rfl)) (by kernel_rfl) (loopsOk_of 0 (by kernel_rfl) (fun i hi => absurd hi (Nat.not_lt_zero i)) (regs_at (by kernel_rfl) (rg200 n))) (eq200 n)⟩
theorem ob151 {W : World} (hG : Facts W) (n : Nat) : Good Tryz.prog (Glob.of W) (151, S151 n) :=
  ⟨plain_of Tryz.func151 (by kernel_rfl) (by kernel_rfl), obeys_of (S := S151 n) (E := E151 n) Tryz.func151 mixed tabOk rfl (l := G151 n) (l2 := []) ⟨ob200 hG n, trivial⟩ trivial (by kernel_rfl) (by kernel_rfl) (Nat.le_of_ble_eq_true (by kernel_rfl)) (by kernel_rfl) (loopsOk_of 0 (by kernel_rfl) (fun i hi => absurd hi (Nat.not_lt_zero i)) (fun p _ S h => by cases (show (none : Option RSum) = some S from h))) (eq151 n)⟩
theorem ob138 {W : World} (hG : Facts W) (n : Nat) : Good Tryz.prog (Glob.of W) (138, S138 n) :=
  ⟨plain_of Tryz.func138 (by kernel_rfl) (by kernel_rfl), obeys_of (S := S138 n) (E := E138 n) Tryz.func138 mixed tabOk rfl (l := G138 n) (l2 := []) ⟨ob155 hG n, trivial⟩ trivial (by kernel_rfl) (by kernel_rfl) (Nat.le_of_ble_eq_true (by kernel_rfl)) (by kernel_rfl) (loopsOk_of 0 (by kernel_rfl) (fun i hi => absurd hi (Nat.not_lt_zero i)) (fun p _ S h => by cases (show (none : Option RSum) = some S from h))) (eq138 n)⟩
theorem ob201 {W : World} (hG : Facts W) (n : Nat) : Good Tryz.prog (Glob.of W) (201, S201 n) :=
  ⟨plain_of Tryz.func201 (by kernel_rfl) (by kernel_rfl), obeys_of (S := S201 n) (E := E201 n) Tryz.func201 mixed tabOk rfl (l := G201 n) (l2 := []) ⟨ob138 hG n, ob200 hG n, trivial⟩ trivial (by kernel_rfl) (by kernel_rfl) (Nat.le_of_ble_eq_true (by kernel_rfl)) (by kernel_rfl) (loopsOk_of 0 (by kernel_rfl) (fun i hi => absurd hi (Nat.not_lt_zero i)) (fun p _ S h => by cases (show (none : Option RSum) = some S from h))) (eq201 n)⟩
theorem rg137 (n k : Nat) : ∀ id S, (E137 n k).Ω id = some S → aftOk (regAt (bodyOf Tryz.f137) id) = true ∧ ∀ x y, S.g x = some y → ∀ π ∈ exts (regAt (bodyOf Tryz.f137) id), opsK (E137 n k) (regAt (bodyOf Tryz.f137) id) (opsOf (regAt (bodyOf Tryz.f137) id) π) (mkSt S.ent x) (fun s => getEns (E137 n k).N S.out s) = some y := by
  intro id S hS
  by_cases h0 : id = 5
  · subst h0
    obtain rfl := Option.some.inj (show some (Rspec_l11Make_R5 n (spec_l11Make_R5 n (spec_l11Make n k))) = some S from hS)
    exact ⟨by kernel_rfl, fun x y hy => exts_all6 true [(6, 8)] [0, 1, 2, 3, 4, 5, 6, 7] (by kernel_rfl) (by decide) (by kernel_rfl) (by kernel_rfl) (by kernel_rfl) (by kernel_rfl) (by kernel_rfl) ((exspec_l11Make_R5 n k x).trans (show spec_l11Make_R5 n (spec_l11Make n k) x = some y from hy))⟩
  · exfalso
    have : (E137 n k).Ω id = none := by
      show (match id with  | 5 => some (Rspec_l11Make_R5 n (spec_l11Make_R5 n (spec_l11Make n k))) | _ => none) = none
      split
      · exact absurd rfl h0
      · rfl
    rw [this] at hS; cases hS
theorem ob137 {W : World} (hG : Facts W) (n : Nat) : ∀ k, Good Tryz.prog (Glob.of W) (137, S137 n k)
  | 0 => ⟨plain_of Tryz.func137 (by kernel_rfl) (by kernel_rfl), fun _ _ _ _ _ _ _ h => by cases h⟩
  | k + 1 =>
    have ih := ob137 hG n k
    ⟨plain_of Tryz.func137 (by kernel_rfl) (by kernel_rfl), obeys_of (S := S137 n (k + 1)) (E := E137 n k) Tryz.func137 mixed tabOk rfl (l := G137 n k) (l2 := []) ⟨ob151 hG n, ih, ob199 hG n, ob200 hG n, ob201 hG n, trivial⟩ trivial (by kernel_rfl) (by kernel_rfl) (Nat.le_of_ble_eq_true (by kernel_rfl)) (by kernel_rfl) (loopsOk_of 0 (by kernel_rfl) (fun i hi => absurd hi (Nat.not_lt_zero i)) (regs_at (by kernel_rfl) (rg137 n k))) (eq137 n k)⟩
theorem rg1137 (n k : Nat) : ∀ id S, (E1137 n k).Ω id = some S → aftOk (regAt (bodyOf Tryz.f137) id) = true ∧ ∀ x y, S.g x = some y → ∀ π ∈ exts (regAt (bodyOf Tryz.f137) id), opsK (E1137 n k) (regAt (bodyOf Tryz.f137) id) (opsOf (regAt (bodyOf Tryz.f137) id) π) (mkSt S.ent x) (fun s => getEns (E1137 n k).N S.out s) = some y := by
  intro id S hS
  by_cases h0 : id = 5
  · subst h0
    obtain rfl := Option.some.inj (show some (Rspec_l11Make_o_R5 n (spec_l11Make_o_R5 n (spec_l11Make_o n k))) = some S from hS)
    exact ⟨by kernel_rfl, fun x y hy => exts_all6 true [(6, 8)] [0, 1, 2, 3, 4, 5, 6, 7] (by kernel_rfl) (by decide) (by kernel_rfl) (by kernel_rfl) (by kernel_rfl) (by kernel_rfl) (by kernel_rfl) ((exspec_l11Make_o_R5 n k x).trans (show spec_l11Make_o_R5 n (spec_l11Make_o n k) x = some y from hy))⟩
  · exfalso
    have : (E1137 n k).Ω id = none := by
      show (match id with  | 5 => some (Rspec_l11Make_o_R5 n (spec_l11Make_o_R5 n (spec_l11Make_o n k))) | _ => none) = none
      split
      · exact absurd rfl h0
      · rfl
    rw [this] at hS; cases hS
theorem ob1137 {W : World} (hG : Facts W) (n : Nat) : ∀ k, Good Tryz.prog (Glob.of W) (137, S1137 n k)
  | 0 => ⟨plain_of Tryz.func137 (by kernel_rfl) (by kernel_rfl), fun _ _ _ _ _ _ _ h => by cases h⟩
  | k + 1 =>
    have ih := ob1137 hG n k
    ⟨plain_of Tryz.func137 (by kernel_rfl) (by kernel_rfl), obeys_of (S := S1137 n (k + 1)) (E := E1137 n k) Tryz.func137 mixed tabOk rfl (l := G1137 n k) (l2 := H1137 n k) ⟨ob151 hG n, ob199 hG n, ob200 hG n, ob201 hG n, trivial⟩ ⟨ih, ih, trivial⟩ (by kernel_rfl) (by kernel_rfl) (Nat.le_of_ble_eq_true (by kernel_rfl)) (by kernel_rfl) (loopsOk_of 0 (by kernel_rfl) (fun i hi => absurd hi (Nat.not_lt_zero i)) (regs_at (by kernel_rfl) (rg1137 n k))) (eq1137 n k)⟩
theorem ob104 {W : World} (hG : Facts W) (n : Nat) : Good Tryz.prog (Glob.of W) (104, S104 n) :=
  ⟨plain_of Tryz.func104 (by kernel_rfl) (by kernel_rfl), obeys_of (S := S104 n) (E := E104 n) Tryz.func104 mixed tabOk rfl (l := G104 n) (l2 := []) ⟨ob155 hG n, ob141 hG n, ob125 hG n, ob137 hG n n, trivial⟩ trivial (by kernel_rfl) (by kernel_rfl) (Nat.le_of_ble_eq_true (by kernel_rfl)) (by kernel_rfl) (loopsOk_of 0 (by kernel_rfl) (fun i hi => absurd hi (Nat.not_lt_zero i)) (fun p _ S h => by cases (show (none : Option RSum) = some S from h))) (eq104 n)⟩
theorem ob73 {W : World} (hG : Facts W) (n : Nat) : Good Tryz.prog (Glob.of W) (73, S73 n) :=
  ⟨plain_of Tryz.func73 (by kernel_rfl) (by kernel_rfl), obeys_of (S := S73 n) (E := E73 n) Tryz.func73 mixed tabOk rfl (l := G73 n) (l2 := []) trivial trivial (by kernel_rfl) (by kernel_rfl) (Nat.le_of_ble_eq_true (by kernel_rfl)) (by kernel_rfl) (loopsOk_of 0 (by kernel_rfl) (fun i hi => absurd hi (Nat.not_lt_zero i)) (fun p _ S h => by cases (show (none : Option RSum) = some S from h))) (eq73 n)⟩
theorem ob14 {W : World} (hG : Facts W) (n : Nat) : Good Tryz.prog (Glob.of W) (14, S14 n) :=
  ⟨plain_of Tryz.func14 (by kernel_rfl) (by kernel_rfl), obeys_of (S := S14 n) (E := E14 n) Tryz.func14 mixed tabOk rfl (l := G14 n) (l2 := []) ⟨ob73 hG n, trivial⟩ trivial (by kernel_rfl) (by kernel_rfl) (Nat.le_of_ble_eq_true (by kernel_rfl)) (by kernel_rfl) (loopsOk_of 0 (by kernel_rfl) (fun i hi => absurd hi (Nat.not_lt_zero i)) (fun p _ S h => by cases (show (none : Option RSum) = some S from h))) (eq14 n)⟩
theorem ob74 {W : World} (hG : Facts W) (n : Nat) : Good Tryz.prog (Glob.of W) (74, S74 n) :=
  ⟨plain_of Tryz.func74 (by kernel_rfl) (by kernel_rfl), obeys_of (S := S74 n) (E := E74 n) Tryz.func74 mixed tabOk rfl (l := G74 n) (l2 := []) trivial trivial (by kernel_rfl) (by kernel_rfl) (Nat.le_of_ble_eq_true (by kernel_rfl)) (by kernel_rfl) (loopsOk_of 0 (by kernel_rfl) (fun i hi => absurd hi (Nat.not_lt_zero i)) (fun p _ S h => by cases (show (none : Option RSum) = some S from h))) (eq74 n)⟩
theorem ob15 {W : World} (hG : Facts W) (n : Nat) : Good Tryz.prog (Glob.of W) (15, S15 n) :=
  ⟨plain_of Tryz.func15 (by kernel_rfl) (by kernel_rfl), obeys_of (S := S15 n) (E := E15 n) Tryz.func15 mixed tabOk rfl (l := G15 n) (l2 := []) ⟨ob74 hG n, trivial⟩ trivial (by kernel_rfl) (by kernel_rfl) (Nat.le_of_ble_eq_true (by kernel_rfl)) (by kernel_rfl) (loopsOk_of 0 (by kernel_rfl) (fun i hi => absurd hi (Nat.not_lt_zero i)) (fun p _ S h => by cases (show (none : Option RSum) = some S from h))) (eq15 n)⟩
theorem ob142 {W : World} (hG : Facts W) (n : Nat) : Good Tryz.prog (Glob.of W) (142, S142 n) :=
  ⟨plain_of Tryz.func142 (by kernel_rfl) (by kernel_rfl), obeys_of (S := S142 n) (E := E142 n) Tryz.func142 mixed tabOk rfl (l := G142 n) (l2 := []) trivial trivial (by kernel_rfl) (by kernel_rfl) (Nat.le_of_ble_eq_true (by kernel_rfl)) (by kernel_rfl) (loopsOk_of 0 (by kernel_rfl) (fun i hi => absurd hi (Nat.not_lt_zero i)) (fun p _ S h => by cases (show (none : Option RSum) = some S from h))) (eq142 n)⟩
theorem ob79 {W : World} (hG : Facts W) (n : Nat) : Good Tryz.prog (Glob.of W) (79, S79 n) :=
  ⟨plain_of Tryz.func79 (by kernel_rfl) (by kernel_rfl), obeys_of (S := S79 n) (E := E79 n) Tryz.func79 mixed tabOk rfl (l := G79 n) (l2 := []) ⟨ob142 hG n, trivial⟩ trivial (by kernel_rfl) (by kernel_rfl) (Nat.le_of_ble_eq_true (by kernel_rfl)) (by kernel_rfl) (loopsOk_of 1 (by kernel_rfl) (fun i hi => match i, hi with | 0, _ => looped (S := Slaws_toNodeS_L3 n (laws_toNodeS_L3 n n)) (by kernel_rfl) (laws_toNodeS_L3 n) (fun _ => rfl) n rfl (fun m x => eqlaws_toNodeS_L3 n m x)) (fun p _ S h => by cases (show (none : Option RSum) = some S from h))) (eq79 n)⟩
theorem ob17 {W : World} (hG : Facts W) (n : Nat) : Good Tryz.prog (Glob.of W) (17, S17 n) :=
  ⟨plain_of Tryz.func17 (by kernel_rfl) (by kernel_rfl), obeys_of (S := S17 n) (E := E17 n) Tryz.func17 mixed tabOk rfl (l := G17 n) (l2 := []) ⟨ob79 hG n, trivial⟩ trivial (by kernel_rfl) (by kernel_rfl) (Nat.le_of_ble_eq_true (by kernel_rfl)) (by kernel_rfl) (loopsOk_of 0 (by kernel_rfl) (fun i hi => absurd hi (Nat.not_lt_zero i)) (fun p _ S h => by cases (show (none : Option RSum) = some S from h))) (eq17 n)⟩
theorem ob1017 {W : World} (hG : Facts W) (n : Nat) : Good Tryz.prog (Glob.of W) (17, S1017 n) :=
  ⟨plain_of Tryz.func17 (by kernel_rfl) (by kernel_rfl), obeys_of (S := S1017 n) (E := E1017 n) Tryz.func17 mixed tabOk rfl (l := G1017 n) (l2 := []) ⟨ob79 hG n, trivial⟩ trivial (by kernel_rfl) (by kernel_rfl) (Nat.le_of_ble_eq_true (by kernel_rfl)) (by kernel_rfl) (loopsOk_of 0 (by kernel_rfl) (fun i hi => absurd hi (Nat.not_lt_zero i)) (fun p _ S h => by cases (show (none : Option RSum) = some S from h))) (eq1017 n)⟩
theorem ob80 {W : World} (hG : Facts W) (n : Nat) : Good Tryz.prog (Glob.of W) (80, S80 n) :=
  ⟨plain_of Tryz.func80 (by kernel_rfl) (by kernel_rfl), obeys_of (S := S80 n) (E := E80 n) Tryz.func80 mixed tabOk rfl (l := G80 n) (l2 := []) trivial trivial (by kernel_rfl) (by kernel_rfl) (Nat.le_of_ble_eq_true (by kernel_rfl)) (by kernel_rfl) (loopsOk_of 1 (by kernel_rfl) (fun i hi => match i, hi with | 0, _ => looped (S := Slaws_toIntS_L3 n (laws_toIntS_L3 n n)) (by kernel_rfl) (laws_toIntS_L3 n) (fun _ => rfl) n rfl (fun m x => eqlaws_toIntS_L3 n m x)) (fun p _ S h => by cases (show (none : Option RSum) = some S from h))) (eq80 n)⟩
theorem ob18 {W : World} (hG : Facts W) (n : Nat) : Good Tryz.prog (Glob.of W) (18, S18 n) :=
  ⟨plain_of Tryz.func18 (by kernel_rfl) (by kernel_rfl), obeys_of (S := S18 n) (E := E18 n) Tryz.func18 mixed tabOk rfl (l := G18 n) (l2 := []) ⟨ob80 hG n, trivial⟩ trivial (by kernel_rfl) (by kernel_rfl) (Nat.le_of_ble_eq_true (by kernel_rfl)) (by kernel_rfl) (loopsOk_of 0 (by kernel_rfl) (fun i hi => absurd hi (Nat.not_lt_zero i)) (fun p _ S h => by cases (show (none : Option RSum) = some S from h))) (eq18 n)⟩
theorem ob1018 {W : World} (hG : Facts W) (n : Nat) : Good Tryz.prog (Glob.of W) (18, S1018 n) :=
  ⟨plain_of Tryz.func18 (by kernel_rfl) (by kernel_rfl), obeys_of (S := S1018 n) (E := E1018 n) Tryz.func18 mixed tabOk rfl (l := G1018 n) (l2 := []) ⟨ob80 hG n, trivial⟩ trivial (by kernel_rfl) (by kernel_rfl) (Nat.le_of_ble_eq_true (by kernel_rfl)) (by kernel_rfl) (loopsOk_of 0 (by kernel_rfl) (fun i hi => absurd hi (Nat.not_lt_zero i)) (fun p _ S h => by cases (show (none : Option RSum) = some S from h))) (eq1018 n)⟩
theorem ob88 {W : World} (hG : Facts W) (n : Nat) : Good Tryz.prog (Glob.of W) (88, S88 n) :=
  ⟨plain_of Tryz.func88 (by kernel_rfl) (by kernel_rfl), obeys_of (S := S88 n) (E := E88 n) Tryz.func88 mixed tabOk rfl (l := G88 n) (l2 := []) ⟨ob149 hG n, ob150 hG n, trivial⟩ trivial (by kernel_rfl) (by kernel_rfl) (Nat.le_of_ble_eq_true (by kernel_rfl)) (by kernel_rfl) (loopsOk_of 1 (by kernel_rfl) (fun i hi => match i, hi with | 0, _ => looped (S := Sspec_PoolOk_L4 n (spec_PoolOk_L4 n n)) (by kernel_rfl) (spec_PoolOk_L4 n) (fun _ => rfl) n rfl (fun m x => eqspec_PoolOk_L4 n m x)) (fun p _ S h => by cases (show (none : Option RSum) = some S from h))) (eq88 n)⟩
theorem ob203 {W : World} (hG : Facts W) (n : Nat) : Good Tryz.prog (Glob.of W) (203, S203 n) :=
  ⟨plain_of Tryz.func203 (by kernel_rfl) (by kernel_rfl), obeys_of (S := S203 n) (E := E203 n) Tryz.func203 mixed tabOk rfl (l := G203 n) (l2 := []) ⟨ob206 hG n, trivial⟩ trivial (by kernel_rfl) (by kernel_rfl) (Nat.le_of_ble_eq_true (by kernel_rfl)) (by kernel_rfl) (loopsOk_of 0 (by kernel_rfl) (fun i hi => absurd hi (Nat.not_lt_zero i)) (fun p _ S h => by cases (show (none : Option RSum) = some S from h))) (eq203 n)⟩
theorem ob204 {W : World} (hG : Facts W) (n : Nat) : Good Tryz.prog (Glob.of W) (204, S204 n) :=
  ⟨plain_of Tryz.func204 (by kernel_rfl) (by kernel_rfl), obeys_of (S := S204 n) (E := E204 n) Tryz.func204 mixed tabOk rfl (l := G204 n) (l2 := []) ⟨ob155 hG n, trivial⟩ trivial (by kernel_rfl) (by kernel_rfl) (Nat.le_of_ble_eq_true (by kernel_rfl)) (by kernel_rfl) (loopsOk_of 0 (by kernel_rfl) (fun i hi => absurd hi (Nat.not_lt_zero i)) (fun p _ S h => by cases (show (none : Option RSum) = some S from h))) (eq204 n)⟩
theorem ob136 {W : World} (hG : Facts W) (n : Nat) : Good Tryz.prog (Glob.of W) (136, S136 n) :=
  ⟨plain_of Tryz.func136 (by kernel_rfl) (by kernel_rfl), obeys_of (S := S136 n) (E := E136 n) Tryz.func136 mixed tabOk rfl (l := G136 n) (l2 := []) ⟨ob138 hG n, trivial⟩ trivial (by kernel_rfl) (by kernel_rfl) (Nat.le_of_ble_eq_true (by kernel_rfl)) (by kernel_rfl) (loopsOk_of 1 (by kernel_rfl) (fun i hi => match i, hi with | 0, _ => looped (S := Sspec_l11Env_L4 n (spec_l11Env_L4 n n)) (by kernel_rfl) (spec_l11Env_L4 n) (fun _ => rfl) n rfl (fun m x => eqspec_l11Env_L4 n m x)) (fun p _ S h => by cases (show (none : Option RSum) = some S from h))) (eq136 n)⟩
theorem ob140 {W : World} (hG : Facts W) (n : Nat) : Good Tryz.prog (Glob.of W) (140, S140 n) :=
  ⟨plain_of Tryz.func140 (by kernel_rfl) (by kernel_rfl), obeys_of (S := S140 n) (E := E140 n) Tryz.func140 mixed tabOk rfl (l := G140 n) (l2 := []) ⟨ob203 hG n, ob204 hG n, ob136 hG n, ob141 hG n, ob138 hG n, ob155 hG n, trivial⟩ trivial (by kernel_rfl) (by kernel_rfl) (Nat.le_of_ble_eq_true (by kernel_rfl)) (by kernel_rfl) (loopsOk_of 0 (by kernel_rfl) (fun i hi => absurd hi (Nat.not_lt_zero i)) (fun p _ S h => by cases (show (none : Option RSum) = some S from h))) (eq140 n)⟩
theorem ob75 {W : World} (hG : Facts W) (n : Nat) : Good Tryz.prog (Glob.of W) (75, S75 n) :=
  ⟨plain_of Tryz.func75 (by kernel_rfl) (by kernel_rfl), obeys_of (S := S75 n) (E := E75 n) Tryz.func75 mixed tabOk rfl (l := G75 n) (l2 := []) ⟨ob88 hG n, ob140 hG n, trivial⟩ trivial (by kernel_rfl) (by kernel_rfl) (Nat.le_of_ble_eq_true (by kernel_rfl)) (by kernel_rfl) (loopsOk_of 0 (by kernel_rfl) (fun i hi => absurd hi (Nat.not_lt_zero i)) (fun p _ S h => by cases (show (none : Option RSum) = some S from h))) (eq75 n)⟩
theorem ob78 {W : World} (hG : Facts W) (n : Nat) : Good Tryz.prog (Glob.of W) (78, S78 n) :=
  ⟨plain_of Tryz.func78 (by kernel_rfl) (by kernel_rfl), obeys_of (S := S78 n) (E := E78 n) Tryz.func78 mixed tabOk rfl (l := G78 n) (l2 := []) trivial trivial (by kernel_rfl) (by kernel_rfl) (Nat.le_of_ble_eq_true (by kernel_rfl)) (by kernel_rfl) (loopsOk_of 0 (by kernel_rfl) (fun i hi => absurd hi (Nat.not_lt_zero i)) (fun p _ S h => by cases (show (none : Option RSum) = some S from h))) (eq78 n)⟩
theorem ob152 {W : World} (hG : Facts W) (n : Nat) : Good Tryz.prog (Glob.of W) (152, S152 n) :=
  ⟨plain_of Tryz.func152 (by kernel_rfl) (by kernel_rfl), obeys_of (S := S152 n) (E := E152 n) Tryz.func152 mixed tabOk rfl (l := G152 n) (l2 := []) ⟨ob155 hG n, trivial⟩ trivial (by kernel_rfl) (by kernel_rfl) (Nat.le_of_ble_eq_true (by kernel_rfl)) (by kernel_rfl) (loopsOk_of 0 (by kernel_rfl) (fun i hi => absurd hi (Nat.not_lt_zero i)) (fun p _ S h => by cases (show (none : Option RSum) = some S from h))) (eq152 n)⟩
theorem rg89 (n : Nat) : ∀ id S, (E89 n).Ω id = some S → aftOk (regAt (bodyOf Tryz.f89) id) = true ∧ ∀ x y, S.g x = some y → ∀ π ∈ exts (regAt (bodyOf Tryz.f89) id), opsK (E89 n) (regAt (bodyOf Tryz.f89) id) (opsOf (regAt (bodyOf Tryz.f89) id) π) (mkSt S.ent x) (fun s => getEns (E89 n).N S.out s) = some y := by
  intro id S hS
  by_cases h0 : id = 12
  · subst h0
    obtain rfl := Option.some.inj (show some (Rspec_l13Go_R12 n (spec_l13Go_R12 n)) = some S from hS)
    exact ⟨by kernel_rfl, fun x y hy => exts_all6 true [(4, 6), (5, 7)] [0, 1, 2, 3, 4, 5, 6, 7] (by kernel_rfl) (by decide) (by kernel_rfl) (by kernel_rfl) (by kernel_rfl) (by kernel_rfl) (by kernel_rfl) ((exspec_l13Go_R12 n x).trans (show spec_l13Go_R12 n x = some y from hy))⟩
  by_cases h1 : id = 14
  · subst h1
    obtain rfl := Option.some.inj (show some (Rspec_l13Go_R14 n (spec_l13Go_R14 n)) = some S from hS)
    exact ⟨by kernel_rfl, fun x y hy => exts_all6 true [(7, 14)] [0, 1, 2, 3, 4, 5, 6, 7, 8] (by kernel_rfl) (by decide) (by kernel_rfl) (by kernel_rfl) (by kernel_rfl) (by kernel_rfl) (by kernel_rfl) ((exspec_l13Go_R14 n x).trans (show spec_l13Go_R14 n x = some y from hy))⟩
  by_cases h2 : id = 20
  · subst h2
    obtain rfl := Option.some.inj (show some (Rspec_l13Go_R20 n (spec_l13Go_R20 n)) = some S from hS)
    exact ⟨by kernel_rfl, fun x y hy => exts_all6 true [(4, 6), (5, 7)] [0, 1, 2, 3, 4, 5, 6, 7] (by kernel_rfl) (by decide) (by kernel_rfl) (by kernel_rfl) (by kernel_rfl) (by kernel_rfl) (by kernel_rfl) ((exspec_l13Go_R20 n x).trans (show spec_l13Go_R20 n x = some y from hy))⟩
  by_cases h3 : id = 29
  · subst h3
    obtain rfl := Option.some.inj (show some (Rspec_l13Go_R29 n (spec_l13Go_R29 n)) = some S from hS)
    exact ⟨by kernel_rfl, fun x y hy => exts_all6 true [(4, 6), (5, 7)] [0, 1, 2, 3, 4, 5, 6, 7] (by kernel_rfl) (by decide) (by kernel_rfl) (by kernel_rfl) (by kernel_rfl) (by kernel_rfl) (by kernel_rfl) ((exspec_l13Go_R29 n x).trans (show spec_l13Go_R29 n x = some y from hy))⟩
  · exfalso
    have : (E89 n).Ω id = none := by
      show (match id with  | 12 => some (Rspec_l13Go_R12 n (spec_l13Go_R12 n)) | 14 => some (Rspec_l13Go_R14 n (spec_l13Go_R14 n)) | 20 => some (Rspec_l13Go_R20 n (spec_l13Go_R20 n)) | 29 => some (Rspec_l13Go_R29 n (spec_l13Go_R29 n)) | _ => none) = none
      split
      · exact absurd rfl h0
      · exact absurd rfl h1
      · exact absurd rfl h2
      · exact absurd rfl h3
      · rfl
    rw [this] at hS; cases hS
theorem ob89 {W : World} (hG : Facts W) (n : Nat) : Good Tryz.prog (Glob.of W) (89, S89 n) :=
  ⟨plain_of Tryz.func89 (by kernel_rfl) (by kernel_rfl), obeys_of (S := S89 n) (E := E89 n) Tryz.func89 mixed tabOk rfl (l := G89 n) (l2 := H89 n) ⟨ob78 hG n, ob141 hG n, ob152 hG n, ob151 hG n, ob125 hG n, trivial⟩ ⟨ob1137 hG n n, trivial⟩ (by kernel_rfl) (by kernel_rfl) (Nat.le_of_ble_eq_true (by kernel_rfl)) (by kernel_rfl) (loopsOk_of 1 (by kernel_rfl) (fun i hi => match i, hi with | 0, _ => looped (S := Sspec_l13Go_L4 n (spec_l13Go_L4 n n)) (by kernel_rfl) (spec_l13Go_L4 n) (fun _ => rfl) n rfl (fun m x => eqspec_l13Go_L4 n m x)) (regs_at (by kernel_rfl) (rg89 n))) (eq89 n)⟩
theorem rg26 (n : Nat) : ∀ id S, (E26 n).Ω id = some S → aftOk (regAt (bodyOf Tryz.f26) id) = true ∧ ∀ x y, S.g x = some y → ∀ π ∈ exts (regAt (bodyOf Tryz.f26) id), opsK (E26 n) (regAt (bodyOf Tryz.f26) id) (opsOf (regAt (bodyOf Tryz.f26) id) π) (mkSt S.ent x) (fun s => getEns (E26 n).N S.out s) = some y := by
  intro id S hS
  by_cases h0 : id = 7
  · subst h0
    obtain rfl := Option.some.inj (show some (Rspec_InstGo_R7 n (spec_InstGo_R7 n)) = some S from hS)
    exact ⟨by kernel_rfl, fun x y hy => exts_all6 true [(5, 6), (6, 7)] [0, 2, 3, 4, 1, 5, 6, 7, 8] (by kernel_rfl) (by decide) (by kernel_rfl) (by kernel_rfl) (by kernel_rfl) (by kernel_rfl) (by kernel_rfl) ((exspec_InstGo_R7 n x).trans (show spec_InstGo_R7 n x = some y from hy))⟩
  · exfalso
    have : (E26 n).Ω id = none := by
      show (match id with  | 7 => some (Rspec_InstGo_R7 n (spec_InstGo_R7 n)) | _ => none) = none
      split
      · exact absurd rfl h0
      · rfl
    rw [this] at hS; cases hS
theorem ob26 {W : World} (hG : Facts W) (n : Nat) : Good Tryz.prog (Glob.of W) (26, S26 n) :=
  ⟨plain_of Tryz.func26 (by kernel_rfl) (by kernel_rfl), obeys_of (S := S26 n) (E := E26 n) Tryz.func26 mixed tabOk rfl (l := G26 n) (l2 := []) ⟨ob75 hG n, ob88 hG n, ob77 hG n, ob89 hG n, trivial⟩ trivial (by kernel_rfl) (by kernel_rfl) (Nat.le_of_ble_eq_true (by kernel_rfl)) (by kernel_rfl) (loopsOk_of 0 (by kernel_rfl) (fun i hi => absurd hi (Nat.not_lt_zero i)) (regs_at (by kernel_rfl) (rg26 n))) (eq26 n)⟩
theorem ob144 {W : World} (hG : Facts W) (n : Nat) : Good Tryz.prog (Glob.of W) (144, S144 n) :=
  ⟨plain_of Tryz.func144 (by kernel_rfl) (by kernel_rfl), obeys_of (S := S144 n) (E := E144 n) Tryz.func144 mixed tabOk rfl (l := G144 n) (l2 := []) trivial trivial (by kernel_rfl) (by kernel_rfl) (Nat.le_of_ble_eq_true (by kernel_rfl)) (by kernel_rfl) (loopsOk_of 0 (by kernel_rfl) (fun i hi => absurd hi (Nat.not_lt_zero i)) (fun p _ S h => by cases (show (none : Option RSum) = some S from h))) (eq144 n)⟩
theorem ob146 {W : World} (hG : Facts W) (n : Nat) : Good Tryz.prog (Glob.of W) (146, S146 n) :=
  ⟨plain_of Tryz.func146 (by kernel_rfl) (by kernel_rfl), obeys_of (S := S146 n) (E := E146 n) Tryz.func146 mixed tabOk rfl (l := G146 n) (l2 := []) ⟨ob144 hG n, trivial⟩ trivial (by kernel_rfl) (by kernel_rfl) (Nat.le_of_ble_eq_true (by kernel_rfl)) (by kernel_rfl) (loopsOk_of 0 (by kernel_rfl) (fun i hi => absurd hi (Nat.not_lt_zero i)) (fun p _ S h => by cases (show (none : Option RSum) = some S from h))) (eq146 n)⟩
theorem ob253 {W : World} (hG : Facts W) (n : Nat) : Good Tryz.prog (Glob.of W) (253, S253 n) :=
  ⟨plain_of Tryz.func253 (by kernel_rfl) (by kernel_rfl), obeys_of (S := S253 n) (E := E253 n) Tryz.func253 mixed tabOk rfl (l := G253 n) (l2 := []) trivial trivial (by kernel_rfl) (by kernel_rfl) (Nat.le_of_ble_eq_true (by kernel_rfl)) (by kernel_rfl) (loopsOk_of 0 (by kernel_rfl) (fun i hi => absurd hi (Nat.not_lt_zero i)) (fun p _ S h => by cases (show (none : Option RSum) = some S from h))) (eq253 n)⟩
theorem ob301 {W : World} (hG : Facts W) (n : Nat) : Good Tryz.prog (Glob.of W) (301, S301 n) :=
  ⟨plain_of Tryz.func301 (by kernel_rfl) (by kernel_rfl), obeys_of (S := S301 n) (E := E301 n) Tryz.func301 mixed tabOk rfl (l := G301 n) (l2 := []) trivial trivial (by kernel_rfl) (by kernel_rfl) (Nat.le_of_ble_eq_true (by kernel_rfl)) (by kernel_rfl) (loopsOk_of 0 (by kernel_rfl) (fun i hi => absurd hi (Nat.not_lt_zero i)) (fun p _ S h => by cases (show (none : Option RSum) = some S from h))) (eq301 n)⟩
theorem ob288 {W : World} (hG : Facts W) (n : Nat) : Good Tryz.prog (Glob.of W) (288, S288 n) :=
  ⟨plain_of Tryz.func288 (by kernel_rfl) (by kernel_rfl), obeys_of (S := S288 n) (E := E288 n) Tryz.func288 mixed tabOk rfl (l := G288 n) (l2 := []) ⟨ob301 hG n, trivial⟩ trivial (by kernel_rfl) (by kernel_rfl) (Nat.le_of_ble_eq_true (by kernel_rfl)) (by kernel_rfl) (loopsOk_of 0 (by kernel_rfl) (fun i hi => absurd hi (Nat.not_lt_zero i)) (fun p _ S h => by cases (show (none : Option RSum) = some S from h))) (eq288 n)⟩
theorem ob252 {W : World} (hG : Facts W) (n : Nat) : Good Tryz.prog (Glob.of W) (252, S252 n) :=
  ⟨plain_of Tryz.func252 (by kernel_rfl) (by kernel_rfl), obeys_of (S := S252 n) (E := E252 n) Tryz.func252 mixed tabOk rfl (l := G252 n) (l2 := []) ⟨ob288 hG n, trivial⟩ trivial (by kernel_rfl) (by kernel_rfl) (Nat.le_of_ble_eq_true (by kernel_rfl)) (by kernel_rfl) (loopsOk_of 0 (by kernel_rfl) (fun i hi => absurd hi (Nat.not_lt_zero i)) (fun p _ S h => by cases (show (none : Option RSum) = some S from h))) (eq252 n)⟩
theorem ob208 {W : World} (hG : Facts W) (n : Nat) : Good Tryz.prog (Glob.of W) (208, S208 n) :=
  ⟨plain_of Tryz.func208 (by kernel_rfl) (by kernel_rfl), obeys_of (S := S208 n) (E := E208 n) Tryz.func208 mixed tabOk rfl (l := G208 n) (l2 := []) ⟨ob253 hG n, ob252 hG n, trivial⟩ trivial (by kernel_rfl) (by kernel_rfl) (Nat.le_of_ble_eq_true (by kernel_rfl)) (by kernel_rfl) (loopsOk_of 1 (by kernel_rfl) (fun i hi => match i, hi with | 0, _ => looped (S := Simpl_actOf_L2 n (impl_actOf_L2 n n)) (by kernel_rfl) (impl_actOf_L2 n) (fun _ => rfl) n rfl (fun m x => eqimpl_actOf_L2 n m x)) (fun p _ S h => by cases (show (none : Option RSum) = some S from h))) (eq208 n)⟩
theorem ob239 {W : World} (hG : Facts W) (n : Nat) : Good Tryz.prog (Glob.of W) (239, S239 n) :=
  ⟨plain_of Tryz.func239 (by kernel_rfl) (by kernel_rfl), obeys_of (S := S239 n) (E := E239 n) Tryz.func239 mixed tabOk rfl (l := G239 n) (l2 := []) trivial trivial (by kernel_rfl) (by kernel_rfl) (Nat.le_of_ble_eq_true (by kernel_rfl)) (by kernel_rfl) (loopsOk_of 0 (by kernel_rfl) (fun i hi => absurd hi (Nat.not_lt_zero i)) (fun p _ S h => by cases (show (none : Option RSum) = some S from h))) (eq239 n)⟩
theorem ob277 {W : World} (hG : Facts W) (n : Nat) : Good Tryz.prog (Glob.of W) (277, S277 n) :=
  ⟨plain_of Tryz.func277 (by kernel_rfl) (by kernel_rfl), obeys_of (S := S277 n) (E := E277 n) Tryz.func277 mixed tabOk rfl (l := G277 n) (l2 := []) trivial trivial (by kernel_rfl) (by kernel_rfl) (Nat.le_of_ble_eq_true (by kernel_rfl)) (by kernel_rfl) (loopsOk_of 0 (by kernel_rfl) (fun i hi => absurd hi (Nat.not_lt_zero i)) (fun p _ S h => by cases (show (none : Option RSum) = some S from h))) (eq277 n)⟩
theorem ob237 {W : World} (hG : Facts W) (n : Nat) : Good Tryz.prog (Glob.of W) (237, S237 n) :=
  ⟨plain_of Tryz.func237 (by kernel_rfl) (by kernel_rfl), obeys_of (S := S237 n) (E := E237 n) Tryz.func237 mixed tabOk rfl (l := G237 n) (l2 := []) ⟨ob239 hG n, ob277 hG n, ob278 hG, ob279 hG, trivial⟩ trivial (by kernel_rfl) (by kernel_rfl) (Nat.le_of_ble_eq_true (by kernel_rfl)) (by kernel_rfl) (loopsOk_of 1 (by kernel_rfl) (fun i hi => match i, hi with | 0, _ => looped (S := Simpl_reader_figures_L2 n (impl_reader_figures_L2 n n)) (by kernel_rfl) (impl_reader_figures_L2 n) (fun _ => rfl) n rfl (fun m x => eqimpl_reader_figures_L2 n m x)) (fun p _ S h => by cases (show (none : Option RSum) = some S from h))) (eq237 n)⟩
theorem ob238 {W : World} (hG : Facts W) (n : Nat) : Good Tryz.prog (Glob.of W) (238, S238 n) :=
  ⟨plain_of Tryz.func238 (by kernel_rfl) (by kernel_rfl), obeys_of (S := S238 n) (E := E238 n) Tryz.func238 mixed tabOk rfl (l := G238 n) (l2 := []) trivial trivial (by kernel_rfl) (by kernel_rfl) (Nat.le_of_ble_eq_true (by kernel_rfl)) (by kernel_rfl) (loopsOk_of 0 (by kernel_rfl) (fun i hi => absurd hi (Nat.not_lt_zero i)) (fun p _ S h => by cases (show (none : Option RSum) = some S from h))) (eq238 n)⟩
theorem ob186 {W : World} (hG : Facts W) (n : Nat) : Good Tryz.prog (Glob.of W) (186, S186 n) :=
  ⟨plain_of Tryz.func186 (by kernel_rfl) (by kernel_rfl), obeys_of (S := S186 n) (E := E186 n) Tryz.func186 mixed tabOk rfl (l := G186 n) (l2 := []) ⟨ob237 hG n, ob144 hG n, ob238 hG n, trivial⟩ trivial (by kernel_rfl) (by kernel_rfl) (Nat.le_of_ble_eq_true (by kernel_rfl)) (by kernel_rfl) (loopsOk_of 0 (by kernel_rfl) (fun i hi => absurd hi (Nat.not_lt_zero i)) (fun p _ S h => by cases (show (none : Option RSum) = some S from h))) (eq186 n)⟩
theorem ob187 {W : World} (hG : Facts W) (n : Nat) : Good Tryz.prog (Glob.of W) (187, S187 n) :=
  ⟨plain_of Tryz.func187 (by kernel_rfl) (by kernel_rfl), obeys_of (S := S187 n) (E := E187 n) Tryz.func187 mixed tabOk rfl (l := G187 n) (l2 := []) ⟨ob239 hG n, ob238 hG n, trivial⟩ trivial (by kernel_rfl) (by kernel_rfl) (Nat.le_of_ble_eq_true (by kernel_rfl)) (by kernel_rfl) (loopsOk_of 0 (by kernel_rfl) (fun i hi => absurd hi (Nat.not_lt_zero i)) (fun p _ S h => by cases (show (none : Option RSum) = some S from h))) (eq187 n)⟩
theorem rg188 (n : Nat) : ∀ id S, (E188 n).Ω id = some S → aftOk (regAt (bodyOf Tryz.f188) id) = true ∧ ∀ x y, S.g x = some y → ∀ π ∈ exts (regAt (bodyOf Tryz.f188) id), opsK (E188 n) (regAt (bodyOf Tryz.f188) id) (opsOf (regAt (bodyOf Tryz.f188) id) π) (mkSt S.ent x) (fun s => getEns (E188 n).N S.out s) = some y := by
  intro id S hS
  by_cases h0 : id = 1
  · subst h0
    obtain rfl := Option.some.inj (show some (Rimpl_pattern_put_R1 n (impl_pattern_put_R1 n)) = some S from hS)
    exact ⟨by kernel_rfl, fun x y hy => all_of (eximpl_pattern_put_R1 n x) (fun v hv => ((fun v hv => List.eq_of_mem_replicate (n := 120) hv) v hv).trans (show impl_pattern_put_R1 n x = some y from hy))⟩
  · exfalso
    have : (E188 n).Ω id = none := by
      show (match id with  | 1 => some (Rimpl_pattern_put_R1 n (impl_pattern_put_R1 n)) | _ => none) = none
      split
      · exact absurd rfl h0
      · rfl
    rw [this] at hS; cases hS
theorem ob188 {W : World} (hG : Facts W) (n : Nat) : Good Tryz.prog (Glob.of W) (188, S188 n) :=
  ⟨plain_of Tryz.func188 (by kernel_rfl) (by kernel_rfl), obeys_of (S := S188 n) (E := E188 n) Tryz.func188 mixed tabOk rfl (l := G188 n) (l2 := []) trivial trivial (by kernel_rfl) (by kernel_rfl) (Nat.le_of_ble_eq_true (by kernel_rfl)) (by kernel_rfl) (loopsOk_of 0 (by kernel_rfl) (fun i hi => absurd hi (Nat.not_lt_zero i)) (regs_at (by kernel_rfl) (rg188 n))) (eq188 n)⟩
theorem ob185 {W : World} (hG : Facts W) (n : Nat) : Good Tryz.prog (Glob.of W) (185, S185 n) :=
  ⟨plain_of Tryz.func185 (by kernel_rfl) (by kernel_rfl), obeys_of (S := S185 n) (E := E185 n) Tryz.func185 mixed tabOk rfl (l := G185 n) (l2 := []) ⟨ob186 hG n, ob188 hG n, ob187 hG n, trivial⟩ trivial (by kernel_rfl) (by kernel_rfl) (Nat.le_of_ble_eq_true (by kernel_rfl)) (by kernel_rfl) (loopsOk_of 0 (by kernel_rfl) (fun i hi => absurd hi (Nat.not_lt_zero i)) (fun p _ S h => by cases (show (none : Option RSum) = some S from h))) (eq185 n)⟩
theorem ob189 {W : World} (hG : Facts W) (n : Nat) : Good Tryz.prog (Glob.of W) (189, S189 n) :=
  ⟨plain_of Tryz.func189 (by kernel_rfl) (by kernel_rfl), obeys_of (S := S189 n) (E := E189 n) Tryz.func189 mixed tabOk rfl (l := G189 n) (l2 := []) ⟨ob188 hG n, trivial⟩ trivial (by kernel_rfl) (by kernel_rfl) (Nat.le_of_ble_eq_true (by kernel_rfl)) (by kernel_rfl) (loopsOk_of 0 (by kernel_rfl) (fun i hi => absurd hi (Nat.not_lt_zero i)) (fun p _ S h => by cases (show (none : Option RSum) = some S from h))) (eq189 n)⟩
theorem ob269 {W : World} (hG : Facts W) (n : Nat) : Good Tryz.prog (Glob.of W) (269, S269 n) :=
  ⟨plain_of Tryz.func269 (by kernel_rfl) (by kernel_rfl), obeys_of (S := S269 n) (E := E269 n) Tryz.func269 mixed tabOk rfl (l := G269 n) (l2 := []) trivial trivial (by kernel_rfl) (by kernel_rfl) (Nat.le_of_ble_eq_true (by kernel_rfl)) (by kernel_rfl) (loopsOk_of 1 (by kernel_rfl) (fun i hi => match i, hi with | 0, _ => looped (S := Simpl_isOneOf_L2 n (impl_isOneOf_L2 n n)) (by kernel_rfl) (impl_isOneOf_L2 n) (fun _ => rfl) n rfl (fun m x => eqimpl_isOneOf_L2 n m x)) (fun p _ S h => by cases (show (none : Option RSum) = some S from h))) (eq269 n)⟩
theorem ob281 {W : World} (hG : Facts W) (n : Nat) : Good Tryz.prog (Glob.of W) (281, S281 n) :=
  ⟨plain_of Tryz.func281 (by kernel_rfl) (by kernel_rfl), obeys_of (S := S281 n) (E := E281 n) Tryz.func281 mixed tabOk rfl (l := G281 n) (l2 := []) trivial trivial (by kernel_rfl) (by kernel_rfl) (Nat.le_of_ble_eq_true (by kernel_rfl)) (by kernel_rfl) (loopsOk_of 0 (by kernel_rfl) (fun i hi => absurd hi (Nat.not_lt_zero i)) (fun p _ S h => by cases (show (none : Option RSum) = some S from h))) (eq281 n)⟩
theorem ob282 {W : World} (hG : Facts W) (n : Nat) : Good Tryz.prog (Glob.of W) (282, S282 n) :=
  ⟨plain_of Tryz.func282 (by kernel_rfl) (by kernel_rfl), obeys_of (S := S282 n) (E := E282 n) Tryz.func282 mixed tabOk rfl (l := G282 n) (l2 := []) ⟨ob238 hG n, trivial⟩ trivial (by kernel_rfl) (by kernel_rfl) (Nat.le_of_ble_eq_true (by kernel_rfl)) (by kernel_rfl) (loopsOk_of 0 (by kernel_rfl) (fun i hi => absurd hi (Nat.not_lt_zero i)) (fun p _ S h => by cases (show (none : Option RSum) = some S from h))) (eq282 n)⟩
theorem ob280_ {W : World} (hG : Facts W) (n k : Nat) (ih : Good Tryz.prog (Glob.of W) (240, S240 n k)) : Good Tryz.prog (Glob.of W) (280, S280 n k) :=
  ⟨plain_of Tryz.func280 (by kernel_rfl) (by kernel_rfl), obeys_of (S := S280 n k) (E := E280 n k) Tryz.func280 mixed tabOk rfl (l := G280 n k) (l2 := []) ⟨ih, ob282 hG n, trivial⟩ trivial (by kernel_rfl) (by kernel_rfl) (Nat.le_of_ble_eq_true (by kernel_rfl)) (by kernel_rfl) (loopsOk_of 0 (by kernel_rfl) (fun i hi => absurd hi (Nat.not_lt_zero i)) (fun p _ S h => by cases (show (none : Option RSum) = some S from h))) (eq280 n k)⟩
theorem ob240 {W : World} (hG : Facts W) (n : Nat) : ∀ k, Good Tryz.prog (Glob.of W) (240, S240 n k)
  | 0 => ⟨plain_of Tryz.func240 (by kernel_rfl) (by kernel_rfl), fun _ _ _ _ _ _ _ h => by cases h⟩
  | k + 1 =>
    have ih := ob240 hG n k
    ⟨plain_of Tryz.func240 (by kernel_rfl) (by kernel_rfl), obeys_of (S := S240 n (k + 1)) (E := E240 n k) Tryz.func240 mixed tabOk rfl (l := G240 n k) (l2 := []) ⟨ob239 hG n, ob238 hG n, ob185 hG n, ob269 hG n, ob281 hG n, ob280_ hG n k ih, ob189 hG n, ih, ob282 hG n, trivial⟩ trivial (by kernel_rfl) (by kernel_rfl) (Nat.le_of_ble_eq_true (by kernel_rfl)) (by kernel_rfl) (loopsOk_of 0 (by kernel_rfl) (fun i hi => absurd hi (Nat.not_lt_zero i)) (fun p _ S h => by cases (show (none : Option RSum) = some S from h))) (eq240 n k)⟩
theorem ob280 {W : World} (hG : Facts W) (n k : Nat) : Good Tryz.prog (Glob.of W) (280, S280 n k) := ob280_ hG n k (ob240 hG n k)
theorem ob190 {W : World} (hG : Facts W) (n : Nat) : Good Tryz.prog (Glob.of W) (190, S190 n) :=
  ⟨plain_of Tryz.func190 (by kernel_rfl) (by kernel_rfl), obeys_of (S := S190 n) (E := E190 n) Tryz.func190 mixed tabOk rfl (l := G190 n) (l2 := []) ⟨ob238 hG n, ob240 hG n n, trivial⟩ trivial (by kernel_rfl) (by kernel_rfl) (Nat.le_of_ble_eq_true (by kernel_rfl)) (by kernel_rfl) (loopsOk_of 0 (by kernel_rfl) (fun i hi => absurd hi (Nat.not_lt_zero i)) (fun p _ S h => by cases (show (none : Option RSum) = some S from h))) (eq190 n)⟩
theorem ob124 {W : World} (hG : Facts W) (n : Nat) : Good Tryz.prog (Glob.of W) (124, S124 n) :=
  ⟨plain_of Tryz.func124 (by kernel_rfl) (by kernel_rfl), obeys_of (S := S124 n) (E := E124 n) Tryz.func124 mixed tabOk rfl (l := G124 n) (l2 := []) ⟨ob190 hG n, trivial⟩ trivial (by kernel_rfl) (by kernel_rfl) (Nat.le_of_ble_eq_true (by kernel_rfl)) (by kernel_rfl) (loopsOk_of 0 (by kernel_rfl) (fun i hi => absurd hi (Nat.not_lt_zero i)) (fun p _ S h => by cases (show (none : Option RSum) = some S from h))) (eq124 n)⟩
theorem ob130 {W : World} (hG : Facts W) (n : Nat) : Good Tryz.prog (Glob.of W) (130, S130 n) :=
  ⟨plain_of Tryz.func130 (by kernel_rfl) (by kernel_rfl), obeys_of (S := S130 n) (E := E130 n) Tryz.func130 mixed tabOk rfl (l := G130 n) (l2 := []) trivial trivial (by kernel_rfl) (by kernel_rfl) (Nat.le_of_ble_eq_true (by kernel_rfl)) (by kernel_rfl) (loopsOk_of 0 (by kernel_rfl) (fun i hi => absurd hi (Nat.not_lt_zero i)) (fun p _ S h => by cases (show (none : Option RSum) = some S from h))) (eq130 n)⟩
theorem ob134 {W : World} (hG : Facts W) (n : Nat) : ∀ k, Good Tryz.prog (Glob.of W) (134, S134 n k)
  | 0 => ⟨plain_of Tryz.func134 (by kernel_rfl) (by kernel_rfl), fun _ _ _ _ _ _ _ h => by cases h⟩
  | k + 1 =>
    have ih := ob134 hG n k
    ⟨plain_of Tryz.func134 (by kernel_rfl) (by kernel_rfl), obeys_of (S := S134 n (k + 1)) (E := E134 n k) Tryz.func134 mixed tabOk rfl (l := G134 n k) (l2 := []) ⟨ih, trivial⟩ trivial (by kernel_rfl) (by kernel_rfl) (Nat.le_of_ble_eq_true (by kernel_rfl)) (by kernel_rfl) (loopsOk_of 1 (by kernel_rfl) (fun i hi => match i, hi with | 0, _ => looped (S := Simpl_pattern_has_L3 n (impl_pattern_has_L3 n (impl_pattern_has n k) n)) (by kernel_rfl) (impl_pattern_has_L3 n (impl_pattern_has n k)) (fun _ => rfl) n rfl (fun m x => eqimpl_pattern_has_L3 n m k x)) (fun p _ S h => by cases (show (none : Option RSum) = some S from h))) (eq134 n k)⟩
theorem ob62 {W : World} (hG : Facts W) (n : Nat) : Good Tryz.prog (Glob.of W) (62, S62 n) :=
  ⟨plain_of Tryz.func62 (by kernel_rfl) (by kernel_rfl), obeys_of (S := S62 n) (E := E62 n) Tryz.func62 mixed tabOk rfl (l := G62 n) (l2 := []) ⟨ob124 hG n, trivial⟩ trivial (by kernel_rfl) (by kernel_rfl) (Nat.le_of_ble_eq_true (by kernel_rfl)) (by kernel_rfl) (loopsOk_of 0 (by kernel_rfl) (fun i hi => absurd hi (Nat.not_lt_zero i)) (fun p _ S h => by cases (show (none : Option RSum) = some S from h))) (eq62 n)⟩
theorem ob254 {W : World} (hG : Facts W) (n : Nat) : Good Tryz.prog (Glob.of W) (254, S254 n) :=
  ⟨plain_of Tryz.func254 (by kernel_rfl) (by kernel_rfl), obeys_of (S := S254 n) (E := E254 n) Tryz.func254 mixed tabOk rfl (l := G254 n) (l2 := []) ⟨ob124 hG n, ob130 hG n, ob134 hG n n, ob62 hG n, trivial⟩ trivial (by kernel_rfl) (by kernel_rfl) (Nat.le_of_ble_eq_true (by kernel_rfl)) (by kernel_rfl) (loopsOk_of 0 (by kernel_rfl) (fun i hi => absurd hi (Nat.not_lt_zero i)) (fun p _ S h => by cases (show (none : Option RSum) = some S from h))) (eq254 n)⟩
theorem ob209 {W : World} (hG : Facts W) (n : Nat) : Good Tryz.prog (Glob.of W) (209, S209 n) :=
  ⟨plain_of Tryz.func209 (by kernel_rfl) (by kernel_rfl), obeys_of (S := S209 n) (E := E209 n) Tryz.func209 mixed tabOk rfl (l := G209 n) (l2 := []) ⟨ob254 hG n, ob144 hG n, trivial⟩ trivial (by kernel_rfl) (by kernel_rfl) (Nat.le_of_ble_eq_true (by kernel_rfl)) (by kernel_rfl) (loopsOk_of 1 (by kernel_rfl) (fun i hi => match i, hi with | 0, _ => looped (S := Simpl_RoleOk_L2 n (impl_RoleOk_L2 n n)) (by kernel_rfl) (impl_RoleOk_L2 n) (fun _ => rfl) n rfl (fun m x => eqimpl_RoleOk_L2 n m x)) (fun p _ S h => by cases (show (none : Option RSum) = some S from h))) (eq209 n)⟩
theorem ob210 {W : World} (hG : Facts W) (n : Nat) : Good Tryz.prog (Glob.of W) (210, S210 n) := rolePrint_good (ob209 hG n) (ob253 hG n)
theorem ob145 {W : World} (hG : Facts W) (n : Nat) : Good Tryz.prog (Glob.of W) (145, S145 n) :=
  ⟨plain_of Tryz.func145 (by kernel_rfl) (by kernel_rfl), obeys_of (S := S145 n) (E := E145 n) Tryz.func145 mixed tabOk rfl (l := G145 n) (l2 := []) ⟨ob207 hG, ob208 hG n, ob209 hG n, ob210 hG n, trivial⟩ trivial (by kernel_rfl) (by kernel_rfl) (Nat.le_of_ble_eq_true (by kernel_rfl)) (by kernel_rfl) (loopsOk_of 1 (by kernel_rfl) (fun i hi => match i, hi with | 0, _ => looped (S := Simpl_RoleParse_L3 n (impl_RoleParse_L3 n n)) (by kernel_rfl) (impl_RoleParse_L3 n) (fun _ => rfl) n rfl (fun m x => eqimpl_RoleParse_L3 n m x)) (fun p _ S h => by cases (show (none : Option RSum) = some S from h))) (eq145 n)⟩
theorem ob82 {W : World} (hG : Facts W) (n : Nat) : Good Tryz.prog (Glob.of W) (82, S82 n) :=
  ⟨plain_of Tryz.func82 (by kernel_rfl) (by kernel_rfl), obeys_of (S := S82 n) (E := E82 n) Tryz.func82 mixed tabOk rfl (l := G82 n) (l2 := []) ⟨ob146 hG n, ob145 hG n, trivial⟩ trivial (by kernel_rfl) (by kernel_rfl) (Nat.le_of_ble_eq_true (by kernel_rfl)) (by kernel_rfl) (loopsOk_of 0 (by kernel_rfl) (fun i hi => absurd hi (Nat.not_lt_zero i)) (fun p _ S h => by cases (show (none : Option RSum) = some S from h))) (eq82 n)⟩
theorem ob143 {W : World} (hG : Facts W) (n : Nat) : Good Tryz.prog (Glob.of W) (143, S143 n) :=
  ⟨plain_of Tryz.func143 (by kernel_rfl) (by kernel_rfl), obeys_of (S := S143 n) (E := E143 n) Tryz.func143 mixed tabOk rfl (l := G143 n) (l2 := []) ⟨ob144 hG n, trivial⟩ trivial (by kernel_rfl) (by kernel_rfl) (Nat.le_of_ble_eq_true (by kernel_rfl)) (by kernel_rfl) (loopsOk_of 0 (by kernel_rfl) (fun i hi => absurd hi (Nat.not_lt_zero i)) (fun p _ S h => by cases (show (none : Option RSum) = some S from h))) (eq143 n)⟩
theorem ob127 {W : World} (hG : Facts W) (n : Nat) : Good Tryz.prog (Glob.of W) (127, S127 n) :=
  ⟨plain_of Tryz.func127 (by kernel_rfl) (by kernel_rfl), obeys_of (S := S127 n) (E := E127 n) Tryz.func127 mixed tabOk rfl (l := G127 n) (l2 := []) ⟨ob144 hG n, trivial⟩ trivial (by kernel_rfl) (by kernel_rfl) (Nat.le_of_ble_eq_true (by kernel_rfl)) (by kernel_rfl) (loopsOk_of 0 (by kernel_rfl) (fun i hi => absurd hi (Nat.not_lt_zero i)) (fun p _ S h => by cases (show (none : Option RSum) = some S from h))) (eq127 n)⟩
theorem ob1127 {W : World} (hG : Facts W) (n : Nat) : Good Tryz.prog (Glob.of W) (127, S1127 n) :=
  ⟨plain_of Tryz.func127 (by kernel_rfl) (by kernel_rfl), obeys_of (S := S1127 n) (E := E1127 n) Tryz.func127 mixed tabOk rfl (l := G1127 n) (l2 := []) ⟨ob144 hG n, trivial⟩ trivial (by kernel_rfl) (by kernel_rfl) (Nat.le_of_ble_eq_true (by kernel_rfl)) (by kernel_rfl) (loopsOk_of 0 (by kernel_rfl) (fun i hi => absurd hi (Nat.not_lt_zero i)) (fun p _ S h => by cases (show (none : Option RSum) = some S from h))) (eq1127 n)⟩
theorem ob244 {W : World} (hG : Facts W) (n : Nat) : Good Tryz.prog (Glob.of W) (244, S244 n) :=
  ⟨plain_of Tryz.func244 (by kernel_rfl) (by kernel_rfl), obeys_of (S := S244 n) (E := E244 n) Tryz.func244 mixed tabOk rfl (l := G244 n) (l2 := []) trivial trivial (by kernel_rfl) (by kernel_rfl) (Nat.le_of_ble_eq_true (by kernel_rfl)) (by kernel_rfl) (loopsOk_of 0 (by kernel_rfl) (fun i hi => absurd hi (Nat.not_lt_zero i)) (fun p _ S h => by cases (show (none : Option RSum) = some S from h))) (eq244 n)⟩
theorem ob192 {W : World} (hG : Facts W) (n : Nat) : Good Tryz.prog (Glob.of W) (192, S192 n) :=
  ⟨plain_of Tryz.func192 (by kernel_rfl) (by kernel_rfl), obeys_of (S := S192 n) (E := E192 n) Tryz.func192 mixed tabOk rfl (l := G192 n) (l2 := []) ⟨ob244 hG n, ob144 hG n, trivial⟩ trivial (by kernel_rfl) (by kernel_rfl) (Nat.le_of_ble_eq_true (by kernel_rfl)) (by kernel_rfl) (loopsOk_of 0 (by kernel_rfl) (fun i hi => absurd hi (Nat.not_lt_zero i)) (fun p _ S h => by cases (show (none : Option RSum) = some S from h))) (eq192 n)⟩
theorem rg126 (n : Nat) : ∀ id S, (E126 n).Ω id = some S → aftOk (regAt (bodyOf Tryz.f126) id) = true ∧ ∀ x y, S.g x = some y → ∀ π ∈ exts (regAt (bodyOf Tryz.f126) id), opsK (E126 n) (regAt (bodyOf Tryz.f126) id) (opsOf (regAt (bodyOf Tryz.f126) id) π) (mkSt S.ent x) (fun s => getEns (E126 n).N S.out s) = some y := by
  intro id S hS
  by_cases h0 : id = 7
  · subst h0
    obtain rfl := Option.some.inj (show some (Rimpl_PoolOk_R7 n (impl_PoolOk_R7 n)) = some S from hS)
    exact ⟨by kernel_rfl, fun x y hy => all_of (eximpl_PoolOk_R7 n x) (fun v hv => ((show ∀ v ∈ [impl_PoolOk_R7 n x, impl_PoolOk_R7 n x, impl_PoolOk_R7 n x, impl_PoolOk_R7_1 n x, impl_PoolOk_R7_1 n x, impl_PoolOk_R7_1 n x, impl_PoolOk_R7 n x, impl_PoolOk_R7 n x, impl_PoolOk_R7 n x, impl_PoolOk_R7_1 n x, impl_PoolOk_R7_1 n x, impl_PoolOk_R7_1 n x], v = impl_PoolOk_R7 n x from (List.forall_mem_cons.2 ⟨rfl, (List.forall_mem_cons.2 ⟨rfl, (List.forall_mem_cons.2 ⟨rfl, (List.forall_mem_cons.2 ⟨impl_PoolOk_R7_1_eq n x, (List.forall_mem_cons.2 ⟨impl_PoolOk_R7_1_eq n x, (List.forall_mem_cons.2 ⟨impl_PoolOk_R7_1_eq n x, (List.forall_mem_cons.2 ⟨rfl, (List.forall_mem_cons.2 ⟨rfl, (List.forall_mem_cons.2 ⟨rfl, (List.forall_mem_cons.2 ⟨impl_PoolOk_R7_1_eq n x, (List.forall_mem_cons.2 ⟨impl_PoolOk_R7_1_eq n x, (List.forall_mem_cons.2 ⟨impl_PoolOk_R7_1_eq n x, (fun _ h => by cases h)⟩)⟩)⟩)⟩)⟩)⟩)⟩)⟩)⟩)⟩)⟩)⟩)) v hv).trans (show impl_PoolOk_R7 n x = some y from hy))⟩
  · exfalso
    have : (E126 n).Ω id = none := by
      show (match id with  | 7 => some (Rimpl_PoolOk_R7 n (impl_PoolOk_R7 n)) | _ => none) = none
      split
      · exact absurd rfl h0
      · rfl
    rw [this] at hS; cases hS
theorem ob126 {W : World} (hG : Facts W) (n : Nat) : Good Tryz.prog (Glob.of W) (126, S126 n) :=
  ⟨plain_of Tryz.func126 (by kernel_rfl) (by kernel_rfl), obeys_of (S := S126 n) (E := E126 n) Tryz.func126 mixed tabOk rfl (l := G126 n) (l2 := []) ⟨ob192 hG n, trivial⟩ trivial (by kernel_rfl) (by kernel_rfl) (Nat.le_of_ble_eq_true (by kernel_rfl)) (by kernel_rfl) (loopsOk_of 1 (by kernel_rfl) (fun i hi => match i, hi with | 0, _ => looped (S := Simpl_PoolOk_L5 n (impl_PoolOk_L5 n n)) (by kernel_rfl) (impl_PoolOk_L5 n) (fun _ => rfl) n rfl (fun m x => eqimpl_PoolOk_L5 n m x)) (regs_at (by kernel_rfl) (rg126 n))) (eq126 n)⟩
theorem ob71 {W : World} (hG : Facts W) (n : Nat) : Good Tryz.prog (Glob.of W) (71, S71 n) :=
  ⟨plain_of Tryz.func71 (by kernel_rfl) (by kernel_rfl), obeys_of (S := S71 n) (E := E71 n) Tryz.func71 mixed tabOk rfl (l := G71 n) (l2 := []) ⟨ob127 hG n, ob126 hG n, trivial⟩ trivial (by kernel_rfl) (by kernel_rfl) (Nat.le_of_ble_eq_true (by kernel_rfl)) (by kernel_rfl) (loopsOk_of 1 (by kernel_rfl) (fun i hi => match i, hi with | 0, _ => looped (S := Simpl_EnvOk_L2 n (impl_EnvOk_L2 n n)) (by kernel_rfl) (impl_EnvOk_L2 n) (fun _ => rfl) n rfl (fun m x => eqimpl_EnvOk_L2 n m x)) (fun p _ S h => by cases (show (none : Option RSum) = some S from h))) (eq71 n)⟩
theorem ob81 {W : World} (hG : Facts W) (n : Nat) : Good Tryz.prog (Glob.of W) (81, S81 n) :=
  ⟨plain_of Tryz.func81 (by kernel_rfl) (by kernel_rfl), obeys_of (S := S81 n) (E := E81 n) Tryz.func81 mixed tabOk rfl (l := G81 n) (l2 := []) ⟨ob82 hG n, ob143 hG n, ob71 hG n, ob144 hG n, ob127 hG n, trivial⟩ trivial (by kernel_rfl) (by kernel_rfl) (Nat.le_of_ble_eq_true (by kernel_rfl)) (by kernel_rfl) (loopsOk_of 0 (by kernel_rfl) (fun i hi => absurd hi (Nat.not_lt_zero i)) (fun p _ S h => by cases (show (none : Option RSum) = some S from h))) (eq81 n)⟩
theorem ob84 {W : World} (hG : Facts W) (n : Nat) : Good Tryz.prog (Glob.of W) (84, S84 n) :=
  ⟨plain_of Tryz.func84 (by kernel_rfl) (by kernel_rfl), obeys_of (S := S84 n) (E := E84 n) Tryz.func84 mixed tabOk rfl (l := G84 n) (l2 := []) ⟨ob147 hG, trivial⟩ trivial (by kernel_rfl) (by kernel_rfl) (Nat.le_of_ble_eq_true (by kernel_rfl)) (by kernel_rfl) (loopsOk_of 0 (by kernel_rfl) (fun i hi => absurd hi (Nat.not_lt_zero i)) (fun p _ S h => by cases (show (none : Option RSum) = some S from h))) (eq84 n)⟩
theorem ob90 {W : World} (hG : Facts W) (n : Nat) : Good Tryz.prog (Glob.of W) (90, S90 n) :=
  ⟨plain_of Tryz.func90 (by kernel_rfl) (by kernel_rfl), obeys_of (S := S90 n) (E := E90 n) Tryz.func90 mixed tabOk rfl (l := G90 n) (l2 := []) ⟨ob126 hG n, ob84 hG n, trivial⟩ trivial (by kernel_rfl) (by kernel_rfl) (Nat.le_of_ble_eq_true (by kernel_rfl)) (by kernel_rfl) (loopsOk_of 0 (by kernel_rfl) (fun i hi => absurd hi (Nat.not_lt_zero i)) (fun p _ S h => by cases (show (none : Option RSum) = some S from h))) (eq90 n)⟩
theorem ob83 {W : World} (hG : Facts W) (n : Nat) : Good Tryz.prog (Glob.of W) (83, S83 n) :=
  ⟨plain_of Tryz.func83 (by kernel_rfl) (by kernel_rfl), obeys_of (S := S83 n) (E := E83 n) Tryz.func83 mixed tabOk rfl (l := G83 n) (l2 := []) ⟨ob128 hG, trivial⟩ trivial (by kernel_rfl) (by kernel_rfl) (Nat.le_of_ble_eq_true (by kernel_rfl)) (by kernel_rfl) (loopsOk_of 0 (by kernel_rfl) (fun i hi => absurd hi (Nat.not_lt_zero i)) (fun p _ S h => by cases (show (none : Option RSum) = some S from h))) (eq83 n)⟩
theorem ob212 {W : World} (hG : Facts W) (n : Nat) : Good Tryz.prog (Glob.of W) (212, S212 n) :=
  ⟨plain_of Tryz.func212 (by kernel_rfl) (by kernel_rfl), obeys_of (S := S212 n) (E := E212 n) Tryz.func212 mixed tabOk rfl (l := G212 n) (l2 := []) ⟨ob144 hG n, trivial⟩ trivial (by kernel_rfl) (by kernel_rfl) (Nat.le_of_ble_eq_true (by kernel_rfl)) (by kernel_rfl) (loopsOk_of 0 (by kernel_rfl) (fun i hi => absurd hi (Nat.not_lt_zero i)) (fun p _ S h => by cases (show (none : Option RSum) = some S from h))) (eq212 n)⟩
theorem ob284 {W : World} (hG : Facts W) (n : Nat) : Good Tryz.prog (Glob.of W) (284, S284 n) :=
  ⟨plain_of Tryz.func284 (by kernel_rfl) (by kernel_rfl), obeys_of (S := S284 n) (E := E284 n) Tryz.func284 mixed tabOk rfl (l := G284 n) (l2 := []) trivial trivial (by kernel_rfl) (by kernel_rfl) (Nat.le_of_ble_eq_true (by kernel_rfl)) (by kernel_rfl) (loopsOk_of 1 (by kernel_rfl) (fun i hi => match i, hi with | 0, _ => looped (S := Sslices_Index___impl_Node_impl_Node__L2 n (slices_Index___impl_Node_impl_Node__L2 n n)) (by kernel_rfl) (slices_Index___impl_Node_impl_Node__L2 n) (fun _ => rfl) n rfl (fun m x => eqslices_Index___impl_Node_impl_Node__L2 n m x)) (fun p _ S h => by cases (show (none : Option RSum) = some S from h))) (eq284 n)⟩
theorem ob248 {W : World} (hG : Facts W) (n : Nat) : Good Tryz.prog (Glob.of W) (248, S248 n) :=
  ⟨plain_of Tryz.func248 (by kernel_rfl) (by kernel_rfl), obeys_of (S := S248 n) (E := E248 n) Tryz.func248 mixed tabOk rfl (l := G248 n) (l2 := []) ⟨ob284 hG n, trivial⟩ trivial (by kernel_rfl) (by kernel_rfl) (Nat.le_of_ble_eq_true (by kernel_rfl)) (by kernel_rfl) (loopsOk_of 0 (by kernel_rfl) (fun i hi => absurd hi (Nat.not_lt_zero i)) (fun p _ S h => by cases (show (none : Option RSum) = some S from h))) (eq248 n)⟩
theorem ob1248 {W : World} (hG : Facts W) (n : Nat) : Good Tryz.prog (Glob.of W) (248, S1248 n) :=
  ⟨plain_of Tryz.func248 (by kernel_rfl) (by kernel_rfl), obeys_of (S := S1248 n) (E := E1248 n) Tryz.func248 mixed tabOk rfl (l := G1248 n) (l2 := []) ⟨ob284 hG n, trivial⟩ trivial (by kernel_rfl) (by kernel_rfl) (Nat.le_of_ble_eq_true (by kernel_rfl)) (by kernel_rfl) (loopsOk_of 0 (by kernel_rfl) (fun i hi => absurd hi (Nat.not_lt_zero i)) (fun p _ S h => by cases (show (none : Option RSum) = some S from h))) (eq1248 n)⟩
theorem rg198 (n : Nat) : ∀ id S, (E198 n).Ω id = some S → aftOk (regAt (bodyOf Tryz.f198) id) = true ∧ ∀ x y, S.g x = some y → ∀ π ∈ exts (regAt (bodyOf Tryz.f198) id), opsK (E198 n) (regAt (bodyOf Tryz.f198) id) (opsOf (regAt (bodyOf Tryz.f198) id) π) (mkSt S.ent x) (fun s => getEns (E198 n).N S.out s) = some y := by
  intro id S hS
  by_cases h0 : id = 11
  · subst h0
    obtain rfl := Option.some.inj (show some (Rimpl_Pool_add_R11 n (impl_Pool_add_R11 n)) = some S from hS)
    exact ⟨by kernel_rfl, fun x y hy => all_of (eximpl_Pool_add_R11 n x) (fun v hv => ((fun v hv => List.eq_of_mem_replicate (n := 120) hv) v hv).trans (show impl_Pool_add_R11 n x = some y from hy))⟩
  · exfalso
    have : (E198 n).Ω id = none := by
      show (match id with  | 11 => some (Rimpl_Pool_add_R11 n (impl_Pool_add_R11 n)) | _ => none) = none
      split
      · exact absurd rfl h0
      · rfl
    rw [this] at hS; cases hS
theorem ob198 {W : World} (hG : Facts W) (n : Nat) : Good Tryz.prog (Glob.of W) (198, S198 n) :=
  ⟨plain_of Tryz.func198 (by kernel_rfl) (by kernel_rfl), obeys_of (S := S198 n) (E := E198 n) Tryz.func198 mixed tabOk rfl (l := G198 n) (l2 := H198 n) ⟨ob192 hG n, trivial⟩ ⟨ob1248 hG n, trivial⟩ (by kernel_rfl) (by kernel_rfl) (Nat.le_of_ble_eq_true (by kernel_rfl)) (by kernel_rfl) (loopsOk_of 0 (by kernel_rfl) (fun i hi => absurd hi (Nat.not_lt_zero i)) (regs_at (by kernel_rfl) (rg198 n))) (eq198 n)⟩
theorem ob196 {W : World} (hG : Facts W) (n : Nat) : Good Tryz.prog (Glob.of W) (196, S196 n) :=
  ⟨plain_of Tryz.func196 (by kernel_rfl) (by kernel_rfl), obeys_of (S := S196 n) (E := E196 n) Tryz.func196 mixed tabOk rfl (l := G196 n) (l2 := []) ⟨ob198 hG n, trivial⟩ trivial (by kernel_rfl) (by kernel_rfl) (Nat.le_of_ble_eq_true (by kernel_rfl)) (by kernel_rfl) (loopsOk_of 0 (by kernel_rfl) (fun i hi => absurd hi (Nat.not_lt_zero i)) (fun p _ S h => by cases (show (none : Option RSum) = some S from h))) (eq196 n)⟩
theorem ob197 {W : World} (hG : Facts W) (n : Nat) : Good Tryz.prog (Glob.of W) (197, S197 n) :=
  ⟨plain_of Tryz.func197 (by kernel_rfl) (by kernel_rfl), obeys_of (S := S197 n) (E := E197 n) Tryz.func197 mixed tabOk rfl (l := G197 n) (l2 := H197 n) ⟨ob198 hG n, trivial⟩ ⟨ob1127 hG n, ob1127 hG n, trivial⟩ (by kernel_rfl) (by kernel_rfl) (Nat.le_of_ble_eq_true (by kernel_rfl)) (by kernel_rfl) (loopsOk_of 0 (by kernel_rfl) (fun i hi => absurd hi (Nat.not_lt_zero i)) (fun p _ S h => by cases (show (none : Option RSum) = some S from h))) (eq197 n)⟩
theorem ob193 {W : World} (hG : Facts W) (n : Nat) : Good Tryz.prog (Glob.of W) (193, S193 n) :=
  ⟨plain_of Tryz.func193 (by kernel_rfl) (by kernel_rfl), obeys_of (S := S193 n) (E := E193 n) Tryz.func193 mixed tabOk rfl (l := G193 n) (l2 := []) trivial trivial (by kernel_rfl) (by kernel_rfl) (Nat.le_of_ble_eq_true (by kernel_rfl)) (by kernel_rfl) (loopsOk_of 0 (by kernel_rfl) (fun i hi => absurd hi (Nat.not_lt_zero i)) (fun p _ S h => by cases (show (none : Option RSum) = some S from h))) (eq193 n)⟩
theorem rg135 (n k : Nat) : ∀ id S, (E135 n k).Ω id = some S → aftOk (regAt (bodyOf Tryz.f135) id) = true ∧ ∀ x y, S.g x = some y → ∀ π ∈ exts (regAt (bodyOf Tryz.f135) id), opsK (E135 n k) (regAt (bodyOf Tryz.f135) id) (opsOf (regAt (bodyOf Tryz.f135) id) π) (mkSt S.ent x) (fun s => getEns (E135 n k).N S.out s) = some y := by
  intro id S hS
  by_cases h0 : id = 19
  · subst h0
    obtain rfl := Option.some.inj (show some (Rimpl_pattern_make_R19 n (impl_pattern_make_R19 n (impl_pattern_make n k))) = some S from hS)
    exact ⟨by kernel_rfl, fun x y hy => exts_all6 false [] [0, 1, 2, 4, 5, 6, 7, 3, 8, 9] (by kernel_rfl) (by decide) (by kernel_rfl) (by kernel_rfl) (by kernel_rfl) (by kernel_rfl) (by kernel_rfl) ((eximpl_pattern_make_R19 n k x).trans (show impl_pattern_make_R19 n (impl_pattern_make n k) x = some y from hy))⟩
  · exfalso
    have : (E135 n k).Ω id = none := by
      show (match id with  | 19 => some (Rimpl_pattern_make_R19 n (impl_pattern_make_R19 n (impl_pattern_make n k))) | _ => none) = none
      split
      · exact absurd rfl h0
      · rfl
    rw [this] at hS; cases hS
theorem ob135 {W : World} (hG : Facts W) (n : Nat) : ∀ k, Good Tryz.prog (Glob.of W) (135, S135 n k)
  | 0 => ⟨plain_of Tryz.func135 (by kernel_rfl) (by kernel_rfl), fun _ _ _ _ _ _ _ h => by cases h⟩
  | k + 1 =>
    have ih := ob135 hG n k
    ⟨plain_of Tryz.func135 (by kernel_rfl) (by kernel_rfl), obeys_of (S := S135 n (k + 1)) (E := E135 n k) Tryz.func135 mixed tabOk rfl (l := G135 n k) (l2 := []) ⟨ob196 hG n, ih, ob197 hG n, ob193 hG n, ob198 hG n, trivial⟩ trivial (by kernel_rfl) (by kernel_rfl) (Nat.le_of_ble_eq_true (by kernel_rfl)) (by kernel_rfl) (loopsOk_of 1 (by kernel_rfl) (fun i hi => match i, hi with | 0, _ => looped (S := Simpl_pattern_make_L11 n (impl_pattern_make_L11 n (impl_pattern_make n k) n)) (by kernel_rfl) (impl_pattern_make_L11 n (impl_pattern_make n k)) (fun _ => rfl) n rfl (fun m x => eqimpl_pattern_make_L11 n m k x)) (regs_at (by kernel_rfl) (rg135 n k))) (eq135 n k)⟩
theorem rg1135 (n k : Nat) : ∀ id S, (E1135 n k).Ω id = some S → aftOk (regAt (bodyOf Tryz.f135) id) = true ∧ ∀ x y, S.g x = some y → ∀ π ∈ exts (regAt (bodyOf Tryz.f135) id), opsK (E1135 n k) (regAt (bodyOf Tryz.f135) id) (opsOf (regAt (bodyOf Tryz.f135) id) π) (mkSt S.ent x) (fun s => getEns (E1135 n k).N S.out s) = some y := by
  intro id S hS
  by_cases h0 : id = 19
  · subst h0
    obtain rfl := Option.some.inj (show some (Rimpl_pattern_make_o_R19 n (impl_pattern_make_o_R19 n (impl_pattern_make_o n k))) = some S from hS)
    exact ⟨by kernel_rfl, fun x y hy => exts_all6 false [] [0, 1, 2, 4, 5, 6, 7, 3, 8, 9] (by kernel_rfl) (by decide) (by kernel_rfl) (by kernel_rfl) (by kernel_rfl) (by kernel_rfl) (by kernel_rfl) ((eximpl_pattern_make_o_R19 n k x).trans (show impl_pattern_make_o_R19 n (impl_pattern_make_o n k) x = some y from hy))⟩
  · exfalso
    have : (E1135 n k).Ω id = none := by
      show (match id with  | 19 => some (Rimpl_pattern_make_o_R19 n (impl_pattern_make_o_R19 n (impl_pattern_make_o n k))) | _ => none) = none
      split
      · exact absurd rfl h0
      · rfl
    rw [this] at hS; cases hS
theorem ob1135 {W : World} (hG : Facts W) (n : Nat) : ∀ k, Good Tryz.prog (Glob.of W) (135, S1135 n k)
  | 0 => ⟨plain_of Tryz.func135 (by kernel_rfl) (by kernel_rfl), fun _ _ _ _ _ _ _ h => by cases h⟩
  | k + 1 =>
    have ih := ob1135 hG n k
    ⟨plain_of Tryz.func135 (by kernel_rfl) (by kernel_rfl), obeys_of (S := S1135 n (k + 1)) (E := E1135 n k) Tryz.func135 mixed tabOk rfl (l := G1135 n k) (l2 := H1135 n k) ⟨ob196 hG n, ob197 hG n, ob193 hG n, ob198 hG n, trivial⟩ ⟨ih, trivial⟩ (by kernel_rfl) (by kernel_rfl) (Nat.le_of_ble_eq_true (by kernel_rfl)) (by kernel_rfl) (loopsOk_of 1 (by kernel_rfl) (fun i hi => match i, hi with | 0, _ => looped (S := Simpl_pattern_make_o_L11 n (impl_pattern_make_o_L11 n (impl_pattern_make_o n k) n)) (by kernel_rfl) (impl_pattern_make_o_L11 n (impl_pattern_make_o n k)) (fun _ => rfl) n rfl (fun m x => eqimpl_pattern_make_o_L11 n m k x)) (regs_at (by kernel_rfl) (rg1135 n k))) (eq1135 n k)⟩
theorem ob68 {W : World} (hG : Facts W) (n : Nat) : Good Tryz.prog (Glob.of W) (68, S68 n) :=
  ⟨plain_of Tryz.func68 (by kernel_rfl) (by kernel_rfl), obeys_of (S := S68 n) (E := E68 n) Tryz.func68 mixed tabOk rfl (l := G68 n) (l2 := []) ⟨ob126 hG n, ob124 hG n, ob84 hG n, ob71 hG n, ob130 hG n, ob134 hG n n, ob135 hG n n, trivial⟩ trivial (by kernel_rfl) (by kernel_rfl) (Nat.le_of_ble_eq_true (by kernel_rfl)) (by kernel_rfl) (loopsOk_of 0 (by kernel_rfl) (fun i hi => absurd hi (Nat.not_lt_zero i)) (fun p _ S h => by cases (show (none : Option RSum) = some S from h))) (eq68 n)⟩
theorem ob1068 {W : World} (hG : Facts W) (n : Nat) : Good Tryz.prog (Glob.of W) (68, S1068 n) :=
  ⟨plain_of Tryz.func68 (by kernel_rfl) (by kernel_rfl), obeys_of (S := S1068 n) (E := E1068 n) Tryz.func68 mixed tabOk rfl (l := G1068 n) (l2 := []) ⟨ob126 hG n, ob124 hG n, ob84 hG n, ob71 hG n, ob130 hG n, ob134 hG n n, ob135 hG n n, trivial⟩ trivial (by kernel_rfl) (by kernel_rfl) (Nat.le_of_ble_eq_true (by kernel_rfl)) (by kernel_rfl) (loopsOk_of 0 (by kernel_rfl) (fun i hi => absurd hi (Nat.not_lt_zero i)) (fun p _ S h => by cases (show (none : Option RSum) = some S from h))) (eq1068 n)⟩
theorem ob213 {W : World} (hG : Facts W) (n : Nat) : Good Tryz.prog (Glob.of W) (213, S213 n) :=
  ⟨plain_of Tryz.func213 (by kernel_rfl) (by kernel_rfl), obeys_of (S := S213 n) (E := E213 n) Tryz.func213 mixed tabOk rfl (l := G213 n) (l2 := []) ⟨ob68 hG n, trivial⟩ trivial (by kernel_rfl) (by kernel_rfl) (Nat.le_of_ble_eq_true (by kernel_rfl)) (by kernel_rfl) (loopsOk_of 0 (by kernel_rfl) (fun i hi => absurd hi (Nat.not_lt_zero i)) (fun p _ S h => by cases (show (none : Option RSum) = some S from h))) (eq213 n)⟩
theorem ob153 {W : World} (hG : Facts W) (n : Nat) : Good Tryz.prog (Glob.of W) (153, S153 n) :=
  ⟨plain_of Tryz.func153 (by kernel_rfl) (by kernel_rfl), obeys_of (S := S153 n) (E := E153 n) Tryz.func153 mixed tabOk rfl (l := G153 n) (l2 := []) ⟨ob212 hG n, ob196 hG n, ob213 hG n, trivial⟩ trivial (by kernel_rfl) (by kernel_rfl) (Nat.le_of_ble_eq_true (by kernel_rfl)) (by kernel_rfl) (loopsOk_of 0 (by kernel_rfl) (fun i hi => absurd hi (Nat.not_lt_zero i)) (fun p _ S h => by cases (show (none : Option RSum) = some S from h))) (eq153 n)⟩
theorem ob91 {W : World} (hG : Facts W) (n : Nat) : Good Tryz.prog (Glob.of W) (91, S91 n) :=
  ⟨plain_of Tryz.func91 (by kernel_rfl) (by kernel_rfl), obeys_of (S := S91 n) (E := E91 n) Tryz.func91 mixed tabOk rfl (l := G91 n) (l2 := []) ⟨ob82 hG n, ob153 hG n, trivial⟩ trivial (by kernel_rfl) (by kernel_rfl) (Nat.le_of_ble_eq_true (by kernel_rfl)) (by kernel_rfl) (loopsOk_of 1 (by kernel_rfl) (fun i hi => match i, hi with | 0, _ => looped (S := Simpl_Inst_goOn_L3 n (impl_Inst_goOn_L3 n n)) (by kernel_rfl) (impl_Inst_goOn_L3 n) (fun _ => rfl) n rfl (fun m x => eqimpl_Inst_goOn_L3 n m x)) (fun p _ S h => by cases (show (none : Option RSum) = some S from h))) (eq91 n)⟩
theorem rg27 (n : Nat) : ∀ id S, (E27 n).Ω id = some S → aftOk (regAt (bodyOf Tryz.f27) id) = true ∧ ∀ x y, S.g x = some y → ∀ π ∈ exts (regAt (bodyOf Tryz.f27) id), opsK (E27 n) (regAt (bodyOf Tryz.f27) id) (opsOf (regAt (bodyOf Tryz.f27) id) π) (mkSt S.ent x) (fun s => getEns (E27 n).N S.out s) = some y := by
  intro id S hS
  by_cases h0 : id = 3
  · subst h0
    obtain rfl := Option.some.inj (show some (Rimpl_InstGo_R3 n (impl_InstGo_R3 n)) = some S from hS)
    exact ⟨by kernel_rfl, fun x y hy => exts_all6 true [(6, 10), (7, 11)] [4, 5, 0, 2, 1, 3, 6, 7] (by kernel_rfl) (by decide) (by kernel_rfl) (by kernel_rfl) (by kernel_rfl) (by kernel_rfl) (by kernel_rfl) ((eximpl_InstGo_R3 n x).trans (show impl_InstGo_R3 n x = some y from hy))⟩
  by_cases h1 : id = 5
  · subst h1
    obtain rfl := Option.some.inj (show some (Rimpl_InstGo_R5 n (impl_InstGo_R5 n)) = some S from hS)
    exact ⟨by kernel_rfl, fun x y hy => exts_all6 true [(4, 6), (5, 7)] [0, 1, 2, 3, 4, 5, 6, 7] (by kernel_rfl) (by decide) (by kernel_rfl) (by kernel_rfl) (by kernel_rfl) (by kernel_rfl) (by kernel_rfl) ((eximpl_InstGo_R5 n x).trans (show impl_InstGo_R5 n x = some y from hy))⟩
  · exfalso
    have : (E27 n).Ω id = none := by
      show (match id with  | 3 => some (Rimpl_InstGo_R3 n (impl_InstGo_R3 n)) | 5 => some (Rimpl_InstGo_R5 n (impl_InstGo_R5 n)) | _ => none) = none
      split
      · exact absurd rfl h0
      · exact absurd rfl h1
      · rfl
    rw [this] at hS; cases hS
theorem ob27 {W : World} (hG : Facts W) (n : Nat) : Good Tryz.prog (Glob.of W) (27, S27 n) :=
  ⟨plain_of Tryz.func27 (by kernel_rfl) (by kernel_rfl), obeys_of (S := S27 n) (E := E27 n) Tryz.func27 mixed tabOk rfl (l := G27 n) (l2 := []) ⟨ob81 hG n, ob90 hG n, ob84 hG n, ob83 hG n, ob91 hG n, trivial⟩ trivial (by kernel_rfl) (by kernel_rfl) (Nat.le_of_ble_eq_true (by kernel_rfl)) (by kernel_rfl) (loopsOk_of 0 (by kernel_rfl) (fun i hi => absurd hi (Nat.not_lt_zero i)) (regs_at (by kernel_rfl) (rg27 n))) (eq27 n)⟩
theorem ob148 {W : World} (hG : Facts W) (n : Nat) : Good Tryz.prog (Glob.of W) (148, S148 n) :=
  ⟨plain_of Tryz.func148 (by kernel_rfl) (by kernel_rfl), obeys_of (S := S148 n) (E := E148 n) Tryz.func148 mixed tabOk rfl (l := G148 n) (l2 := []) trivial trivial (by kernel_rfl) (by kernel_rfl) (Nat.le_of_ble_eq_true (by kernel_rfl)) (by kernel_rfl) (loopsOk_of 0 (by kernel_rfl) (fun i hi => absurd hi (Nat.not_lt_zero i)) (fun p _ S h => by cases (show (none : Option RSum) = some S from h))) (eq148 n)⟩
theorem ob85 {W : World} (hG : Facts W) (n : Nat) : Good Tryz.prog (Glob.of W) (85, S85 n) :=
  ⟨plain_of Tryz.func85 (by kernel_rfl) (by kernel_rfl), obeys_of (S := S85 n) (E := E85 n) Tryz.func85 mixed tabOk rfl (l := G85 n) (l2 := []) ⟨ob148 hG n, trivial⟩ trivial (by kernel_rfl) (by kernel_rfl) (Nat.le_of_ble_eq_true (by kernel_rfl)) (by kernel_rfl) (loopsOk_of 1 (by kernel_rfl) (fun i hi => match i, hi with | 0, _ => looped (S := Slaws_eqNodeS_L4 n (laws_eqNodeS_L4 n n)) (by kernel_rfl) (laws_eqNodeS_L4 n) (fun _ => rfl) n rfl (fun m x => eqlaws_eqNodeS_L4 n m x)) (fun p _ S h => by cases (show (none : Option RSum) = some S from h))) (eq85 n)⟩
theorem ob20 {W : World} (hG : Facts W) (n : Nat) : Good Tryz.prog (Glob.of W) (20, S20 n) :=
  ⟨plain_of Tryz.func20 (by kernel_rfl) (by kernel_rfl), obeys_of (S := S20 n) (E := E20 n) Tryz.func20 mixed tabOk rfl (l := G20 n) (l2 := []) ⟨ob85 hG n, trivial⟩ trivial (by kernel_rfl) (by kernel_rfl) (Nat.le_of_ble_eq_true (by kernel_rfl)) (by kernel_rfl) (loopsOk_of 0 (by kernel_rfl) (fun i hi => absurd hi (Nat.not_lt_zero i)) (fun p _ S h => by cases (show (none : Option RSum) = some S from h))) (eq20 n)⟩
theorem ob28 {W : World} (hG : Facts W) (n : Nat) : Good Tryz.prog (Glob.of W) (28, S28 n) :=
  ⟨plain_of Tryz.func28 (by kernel_rfl) (by kernel_rfl), obeys_of (S := S28 n) (E := E28 n) Tryz.func28 mixed tabOk rfl (l := G28 n) (l2 := []) trivial trivial (by kernel_rfl) (by kernel_rfl) (Nat.le_of_ble_eq_true (by kernel_rfl)) (by kernel_rfl) (loopsOk_of 1 (by kernel_rfl) (fun i hi => match i, hi with | 0, _ => looped (S := Slaws_eqIntS_L4 n (laws_eqIntS_L4 n n)) (by kernel_rfl) (laws_eqIntS_L4 n) (fun _ => rfl) n rfl (fun m x => eqlaws_eqIntS_L4 n m x)) (fun p _ S h => by cases (show (none : Option RSum) = some S from h))) (eq28 n)⟩
theorem ob21 {W : World} (hG : Facts W) (n : Nat) : Good Tryz.prog (Glob.of W) (21, S21 n) :=
  ⟨plain_of Tryz.func21 (by kernel_rfl) (by kernel_rfl), obeys_of (S := S21 n) (E := E21 n) Tryz.func21 mixed tabOk rfl (l := G21 n) (l2 := []) ⟨ob28 hG n, trivial⟩ trivial (by kernel_rfl) (by kernel_rfl) (Nat.le_of_ble_eq_true (by kernel_rfl)) (by kernel_rfl) (loopsOk_of 0 (by kernel_rfl) (fun i hi => absurd hi (Nat.not_lt_zero i)) (fun p _ S h => by cases (show (none : Option RSum) = some S from h))) (eq21 n)⟩
theorem ob86 {W : World} (hG : Facts W) (n : Nat) : Good Tryz.prog (Glob.of W) (86, S86 n) :=
  ⟨plain_of Tryz.func86 (by kernel_rfl) (by kernel_rfl), obeys_of (S := S86 n) (E := E86 n) Tryz.func86 mixed tabOk rfl (l := G86 n) (l2 := []) trivial trivial (by kernel_rfl) (by kernel_rfl) (Nat.le_of_ble_eq_true (by kernel_rfl)) (by kernel_rfl) (loopsOk_of 1 (by kernel_rfl) (fun i hi => match i, hi with | 0, _ => looped (S := Slaws_markNodeS_L2 n (laws_markNodeS_L2 n n)) (by kernel_rfl) (laws_markNodeS_L2 n) (fun _ => rfl) n rfl (fun m x => eqlaws_markNodeS_L2 n m x)) (fun p _ S h => by cases (show (none : Option RSum) = some S from h))) (eq86 n)⟩
theorem ob22 {W : World} (hG : Facts W) (n : Nat) : Good Tryz.prog (Glob.of W) (22, S22 n) :=
  ⟨plain_of Tryz.func22 (by kernel_rfl) (by kernel_rfl), obeys_of (S := S22 n) (E := E22 n) Tryz.func22 mixed tabOk rfl (l := G22 n) (l2 := []) ⟨ob86 hG n, trivial⟩ trivial (by kernel_rfl) (by kernel_rfl) (Nat.le_of_ble_eq_true (by kernel_rfl)) (by kernel_rfl) (loopsOk_of 0 (by kernel_rfl) (fun i hi => absurd hi (Nat.not_lt_zero i)) (fun p _ S h => by cases (show (none : Option RSum) = some S from h))) (eq22 n)⟩
theorem ob29 {W : World} (hG : Facts W) (n : Nat) : Good Tryz.prog (Glob.of W) (29, S29 n) :=
  ⟨plain_of Tryz.func29 (by kernel_rfl) (by kernel_rfl), obeys_of (S := S29 n) (E := E29 n) Tryz.func29 mixed tabOk rfl (l := G29 n) (l2 := []) trivial trivial (by kernel_rfl) (by kernel_rfl) (Nat.le_of_ble_eq_true (by kernel_rfl)) (by kernel_rfl) (loopsOk_of 1 (by kernel_rfl) (fun i hi => match i, hi with | 0, _ => looped (S := Slaws_markIntS_L2 n (laws_markIntS_L2 n n)) (by kernel_rfl) (laws_markIntS_L2 n) (fun _ => rfl) n rfl (fun m x => eqlaws_markIntS_L2 n m x)) (fun p _ S h => by cases (show (none : Option RSum) = some S from h))) (eq29 n)⟩
theorem ob23 {W : World} (hG : Facts W) (n : Nat) : Good Tryz.prog (Glob.of W) (23, S23 n) :=
  ⟨plain_of Tryz.func23 (by kernel_rfl) (by kernel_rfl), obeys_of (S := S23 n) (E := E23 n) Tryz.func23 mixed tabOk rfl (l := G23 n) (l2 := []) ⟨ob29 hG n, trivial⟩ trivial (by kernel_rfl) (by kernel_rfl) (Nat.le_of_ble_eq_true (by kernel_rfl)) (by kernel_rfl) (loopsOk_of 0 (by kernel_rfl) (fun i hi => absurd hi (Nat.not_lt_zero i)) (fun p _ S h => by cases (show (none : Option RSum) = some S from h))) (eq23 n)⟩
theorem ob87 {W : World} (hG : Facts W) (n : Nat) : Good Tryz.prog (Glob.of W) (87, S87 n) :=
  ⟨plain_of Tryz.func87 (by kernel_rfl) (by kernel_rfl), obeys_of (S := S87 n) (E := E87 n) Tryz.func87 mixed tabOk rfl (l := G87 n) (l2 := []) trivial trivial (by kernel_rfl) (by kernel_rfl) (Nat.le_of_ble_eq_true (by kernel_rfl)) (by kernel_rfl) (loopsOk_of 1 (by kernel_rfl) (fun i hi => match i, hi with | 0, _ => looped (S := Slaws_heldNodeS_L2 n (laws_heldNodeS_L2 n n)) (by kernel_rfl) (laws_heldNodeS_L2 n) (fun _ => rfl) n rfl (fun m x => eqlaws_heldNodeS_L2 n m x)) (fun p _ S h => by cases (show (none : Option RSum) = some S from h))) (eq87 n)⟩
theorem ob24 {W : World} (hG : Facts W) (n : Nat) : Good Tryz.prog (Glob.of W) (24, S24 n) :=
  ⟨plain_of Tryz.func24 (by kernel_rfl) (by kernel_rfl), obeys_of (S := S24 n) (E := E24 n) Tryz.func24 mixed tabOk rfl (l := G24 n) (l2 := []) ⟨ob87 hG n, trivial⟩ trivial (by kernel_rfl) (by kernel_rfl) (Nat.le_of_ble_eq_true (by kernel_rfl)) (by kernel_rfl) (loopsOk_of 0 (by kernel_rfl) (fun i hi => absurd hi (Nat.not_lt_zero i)) (fun p _ S h => by cases (show (none : Option RSum) = some S from h))) (eq24 n)⟩
theorem ob30 {W : World} (hG : Facts W) (n : Nat) : Good Tryz.prog (Glob.of W) (30, S30 n) :=
  ⟨plain_of Tryz.func30 (by kernel_rfl) (by kernel_rfl), obeys_of (S := S30 n) (E := E30 n) Tryz.func30 mixed tabOk rfl (l := G30 n) (l2 := []) trivial trivial (by kernel_rfl) (by kernel_rfl) (Nat.le_of_ble_eq_true (by kernel_rfl)) (by kernel_rfl) (loopsOk_of 1 (by kernel_rfl) (fun i hi => match i, hi with | 0, _ => looped (S := Slaws_heldIntS_L2 n (laws_heldIntS_L2 n n)) (by kernel_rfl) (laws_heldIntS_L2 n) (fun _ => rfl) n rfl (fun m x => eqlaws_heldIntS_L2 n m x)) (fun p _ S h => by cases (show (none : Option RSum) = some S from h))) (eq30 n)⟩
theorem ob25 {W : World} (hG : Facts W) (n : Nat) : Good Tryz.prog (Glob.of W) (25, S25 n) :=
  ⟨plain_of Tryz.func25 (by kernel_rfl) (by kernel_rfl), obeys_of (S := S25 n) (E := E25 n) Tryz.func25 mixed tabOk rfl (l := G25 n) (l2 := []) ⟨ob30 hG n, trivial⟩ trivial (by kernel_rfl) (by kernel_rfl) (Nat.le_of_ble_eq_true (by kernel_rfl)) (by kernel_rfl) (loopsOk_of 0 (by kernel_rfl) (fun i hi => absurd hi (Nat.not_lt_zero i)) (fun p _ S h => by cases (show (none : Option RSum) = some S from h))) (eq25 n)⟩
theorem rg4 (n : Nat) : ∀ id S, (E4 n).Ω id = some S → aftOk (regAt (bodyOf Tryz.f4) id) = true ∧ ∀ x y, S.g x = some y → ∀ π ∈ exts (regAt (bodyOf Tryz.f4) id), opsK (E4 n) (regAt (bodyOf Tryz.f4) id) (opsOf (regAt (bodyOf Tryz.f4) id) π) (mkSt S.ent x) (fun s => getEns (E4 n).N S.out s) = some y := by
  intro id S hS
  by_cases h0 : id = 8
  · subst h0
    obtain rfl := Option.some.inj (show some (Rlaws_FnExactInstGo_R8 n (laws_FnExactInstGo_R8 n)) = some S from hS)
    exact ⟨by kernel_rfl, fun x y hy => exts_all6 true [(13, 8), (14, 9)] [11, 12, 0, 2, 4, 1, 3, 5, 6, 7, 8, 9, 10, 13, 14, 15, 16] (by kernel_rfl) (by decide) (by kernel_rfl) (by kernel_rfl) (by kernel_rfl) (by kernel_rfl) (by kernel_rfl) ((exlaws_FnExactInstGo_R8 n x).trans (show laws_FnExactInstGo_R8 n x = some y from hy))⟩
  by_cases h1 : id = 14
  · subst h1
    obtain rfl := Option.some.inj (show some (Rlaws_FnExactInstGo_R14 n (laws_FnExactInstGo_R14 n)) = some S from hS)
    exact ⟨by kernel_rfl, fun x y hy => exts_all6 true [] [0, 1, 2, 3, 4] (by kernel_rfl) (by decide) (by kernel_rfl) (by kernel_rfl) (by kernel_rfl) (by kernel_rfl) (by kernel_rfl) ((exlaws_FnExactInstGo_R14 n x).trans (show laws_FnExactInstGo_R14 n x = some y from hy))⟩
  by_cases h2 : id = 16
  · subst h2
    obtain rfl := Option.some.inj (show some (Rlaws_FnExactInstGo_R16 n (laws_FnExactInstGo_R16 n)) = some S from hS)
    exact ⟨by kernel_rfl, fun x y hy => exts_all6 true [] [0, 1, 2, 3, 4] (by kernel_rfl) (by decide) (by kernel_rfl) (by kernel_rfl) (by kernel_rfl) (by kernel_rfl) (by kernel_rfl) ((exlaws_FnExactInstGo_R16 n x).trans (show laws_FnExactInstGo_R16 n x = some y from hy))⟩
  by_cases h3 : id = 39
  · subst h3
    obtain rfl := Option.some.inj (show some (Rlaws_FnExactInstGo_R39 n (laws_FnExactInstGo_R39 n)) = some S from hS)
    exact ⟨by kernel_rfl, fun x y hy => exts_all6 true [(13, 21), (14, 22)] [11, 12, 0, 2, 4, 1, 3, 5, 6, 7, 8, 9, 10, 13, 14, 15, 16] (by kernel_rfl) (by decide) (by kernel_rfl) (by kernel_rfl) (by kernel_rfl) (by kernel_rfl) (by kernel_rfl) ((exlaws_FnExactInstGo_R39 n x).trans (show laws_FnExactInstGo_R39 n x = some y from hy))⟩
  · exfalso
    have : (E4 n).Ω id = none := by
      show (match id with  | 8 => some (Rlaws_FnExactInstGo_R8 n (laws_FnExactInstGo_R8 n)) | 14 => some (Rlaws_FnExactInstGo_R14 n (laws_FnExactInstGo_R14 n)) | 16 => some (Rlaws_FnExactInstGo_R16 n (laws_FnExactInstGo_R16 n)) | 39 => some (Rlaws_FnExactInstGo_R39 n (laws_FnExactInstGo_R39 n)) | _ => none) = none
      split
      · exact absurd rfl h0
      · exact absurd rfl h1
      · exact absurd rfl h2
      · exact absurd rfl h3
      · rfl
    rw [this] at hS; cases hS
theorem ob4 {W : World} (hG : Facts W) (n : Nat) : Good Tryz.prog (Glob.of W) (4, S4 n) :=
  ⟨plain_of Tryz.func4 (by kernel_rfl) (by kernel_rfl), obeys_of (S := S4 n) (E := E4 n) Tryz.func4 mixed tabOk rfl (l := G4 n) (l2 := H4 n) ⟨ob14 hG n, ob15 hG n, ob26 hG n, ob17 hG n, ob18 hG n, ob27 hG n, ob20 hG n, ob21 hG n, ob28 hG n, ob22 hG n, ob23 hG n, ob29 hG n, ob24 hG n, ob25 hG n, ob30 hG n, trivial⟩ ⟨ob1017 hG n, ob1018 hG n, trivial⟩ (by kernel_rfl) (by kernel_rfl) (Nat.le_of_ble_eq_true (by kernel_rfl)) (by kernel_rfl) (loopsOk_of 0 (by kernel_rfl) (fun i hi => absurd hi (Nat.not_lt_zero i)) (regs_at (by kernel_rfl) (rg4 n))) (eq4 n)⟩
end AM
end Go.Proofs.YtoglpjkelbfjfaaGreatDoor
