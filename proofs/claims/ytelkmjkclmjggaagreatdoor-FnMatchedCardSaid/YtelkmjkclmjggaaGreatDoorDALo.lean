/- Each function that the laws reach obeys its summary. Under: what the rows list of the library's variables. -/
import Derived.Test.YtelkmjkclmjggaaGreatDoorDALd
import Derived.Test.YtelkmjkclmjggaaGreatDoorDW3
import Derived.Test.YtelkmjkclmjggaaGreatDoorProg
import Derived.Test.YtelkmjkclmjggaaGreatDoorDShelf
import Derived.Test.YtelkmjkclmjggaaGreatDoorDP1
import Derived.Lib.IndexMore
import Derived.Lib.ItoaNum
namespace Go.Proofs.YtelkmjkclmjggaaGreatDoor
namespace AM
open Go
set_option linter.unusedVariables false
theorem ob14 {W : World} (hG : Facts W) (n : Nat) : Good Tryz.prog (Glob.of W) (14, S14 n) :=
 ⟨plain_of Tryz.func14 (by kernel_rfl) (by kernel_rfl), obeys_of (S := S14 n) (E := E14 n) Tryz.func14 mixed tabOk rfl (l := G14 n) (l2 := []) trivial trivial (by kernel_rfl) (by kernel_rfl) (Nat.le_of_ble_eq_true (by kernel_rfl)) (by kernel_rfl) (loopsOk_of 0 (by kernel_rfl) (fun i hi => absurd hi (Nat.not_lt_zero i)) (fun p _ S h => by cases (show (none : Option RSum) = some S from h))) (eq14 n)⟩
theorem ob80 {W : World} (hG : Facts W) (n : Nat) : Good Tryz.prog (Glob.of W) (80, S80 n) :=
 ⟨plain_of Tryz.func80 (by kernel_rfl) (by kernel_rfl), obeys_of (S := S80 n) (E := E80 n) Tryz.func80 mixed tabOk rfl (l := G80 n) (l2 := []) trivial trivial (by kernel_rfl) (by kernel_rfl) (Nat.le_of_ble_eq_true (by kernel_rfl)) (by kernel_rfl) (loopsOk_of 1 (by kernel_rfl) (fun i hi => match i, hi with | 0, _ => looped (S := Sspec_l1New_L3 n (spec_l1New_L3 n n)) (by kernel_rfl) (spec_l1New_L3 n) (fun _ => rfl) n rfl (fun m x => eqspec_l1New_L3 n m x)) (fun p _ S h => by cases (show (none : Option RSum) = some S from h))) (eq80 n)⟩
theorem ob204 {W : World} (hG : Facts W) (n : Nat) : Good Tryz.prog (Glob.of W) (204, S204 n) :=
 ⟨plain_of Tryz.func204 (by kernel_rfl) (by kernel_rfl), obeys_of (S := S204 n) (E := E204 n) Tryz.func204 mixed tabOk rfl (l := G204 n) (l2 := []) trivial trivial (by kernel_rfl) (by kernel_rfl) (Nat.le_of_ble_eq_true (by kernel_rfl)) (by kernel_rfl) (loopsOk_of 0 (by kernel_rfl) (fun i hi => absurd hi (Nat.not_lt_zero i)) (fun p _ S h => by cases (show (none : Option RSum) = some S from h))) (eq204 n)⟩
theorem ob92 {W : World} (hG : Facts W) (n : Nat) : Good Tryz.prog (Glob.of W) (92, S92 n) :=
 ⟨plain_of Tryz.func92 (by kernel_rfl) (by kernel_rfl), obeys_of (S := S92 n) (E := E92 n) Tryz.func92 mixed tabOk rfl (l := G92 n) (l2 := []) ⟨ob204 hG n, trivial⟩ trivial (by kernel_rfl) (by kernel_rfl) (Nat.le_of_ble_eq_true (by kernel_rfl)) (by kernel_rfl) (loopsOk_of 0 (by kernel_rfl) (fun i hi => absurd hi (Nat.not_lt_zero i)) (fun p _ S h => by cases (show (none : Option RSum) = some S from h))) (eq92 n)⟩
theorem ob81 {W : World} (hG : Facts W) (n : Nat) : Good Tryz.prog (Glob.of W) (81, S81 n) :=
 ⟨plain_of Tryz.func81 (by kernel_rfl) (by kernel_rfl), obeys_of (S := S81 n) (E := E81 n) Tryz.func81 mixed tabOk rfl (l := G81 n) (l2 := []) ⟨ob92 hG n, trivial⟩ trivial (by kernel_rfl) (by kernel_rfl) (Nat.le_of_ble_eq_true (by kernel_rfl)) (by kernel_rfl) (loopsOk_of 0 (by kernel_rfl) (fun i hi => absurd hi (Nat.not_lt_zero i)) (fun p _ S h => by cases (show (none : Option RSum) = some S from h))) (eq81 n)⟩
theorem ob165 {W : World} (hG : Facts W) (n : Nat) : Good Tryz.prog (Glob.of W) (165, S165 n) :=
 ⟨plain_of Tryz.func165 (by kernel_rfl) (by kernel_rfl), obeys_of (S := S165 n) (E := E165 n) Tryz.func165 mixed tabOk rfl (l := G165 n) (l2 := []) ⟨ob92 hG n, trivial⟩ trivial (by kernel_rfl) (by kernel_rfl) (Nat.le_of_ble_eq_true (by kernel_rfl)) (by kernel_rfl) (loopsOk_of 0 (by kernel_rfl) (fun i hi => absurd hi (Nat.not_lt_zero i)) (fun p _ S h => by cases (show (none : Option RSum) = some S from h))) (eq165 n)⟩
theorem ob259 {W : World} (hG : Facts W) (n : Nat) : Good Tryz.prog (Glob.of W) (259, S259 n) :=
 ⟨plain_of Tryz.func259 (by kernel_rfl) (by kernel_rfl), obeys_of (S := S259 n) (E := E259 n) Tryz.func259 mixed tabOk rfl (l := G259 n) (l2 := []) ⟨ob81 hG n, ob92 hG n, trivial⟩ trivial (by kernel_rfl) (by kernel_rfl) (Nat.le_of_ble_eq_true (by kernel_rfl)) (by kernel_rfl) (loopsOk_of 0 (by kernel_rfl) (fun i hi => absurd hi (Nat.not_lt_zero i)) (fun p _ S h => by cases (show (none : Option RSum) = some S from h))) (eq259 n)⟩
theorem ob223 {W : World} (hG : Facts W) (n : Nat) : Good Tryz.prog (Glob.of W) (223, S223 n) :=
 ⟨plain_of Tryz.func223 (by kernel_rfl) (by kernel_rfl), obeys_of (S := S223 n) (E := E223 n) Tryz.func223 mixed tabOk rfl (l := G223 n) (l2 := []) trivial trivial (by kernel_rfl) (by kernel_rfl) (Nat.le_of_ble_eq_true (by kernel_rfl)) (by kernel_rfl) (loopsOk_of 0 (by kernel_rfl) (fun i hi => absurd hi (Nat.not_lt_zero i)) (fun p _ S h => by cases (show (none : Option RSum) = some S from h))) (eq223 n)⟩
theorem ob203 {W : World} (hG : Facts W) (n : Nat) : Good Tryz.prog (Glob.of W) (203, S203 n) :=
 ⟨plain_of Tryz.func203 (by kernel_rfl) (by kernel_rfl), obeys_of (S := S203 n) (E := E203 n) Tryz.func203 mixed tabOk rfl (l := G203 n) (l2 := []) ⟨ob165 hG n, ob81 hG n, ob259 hG n, ob223 hG n, trivial⟩ trivial (by kernel_rfl) (by kernel_rfl) (Nat.le_of_ble_eq_true (by kernel_rfl)) (by kernel_rfl) (loopsOk_of 0 (by kernel_rfl) (fun i hi => absurd hi (Nat.not_lt_zero i)) (fun p _ S h => by cases (show (none : Option RSum) = some S from h))) (eq203 n)⟩
theorem ob198 {W : World} (hG : Facts W) (n : Nat) : Good Tryz.prog (Glob.of W) (198, S198 n) :=
 ⟨plain_of Tryz.func198 (by kernel_rfl) (by kernel_rfl), obeys_of (S := S198 n) (E := E198 n) Tryz.func198 mixed tabOk rfl (l := G198 n) (l2 := []) trivial trivial (by kernel_rfl) (by kernel_rfl) (Nat.le_of_ble_eq_true (by kernel_rfl)) (by kernel_rfl) (loopsOk_of 1 (by kernel_rfl) (fun i hi => match i, hi with | 0, _ => looped (S := Sspec_l1Find_L2 n (spec_l1Find_L2 n n)) (by kernel_rfl) (spec_l1Find_L2 n) (fun _ => rfl) n rfl (fun m x => eqspec_l1Find_L2 n m x)) (fun p _ S h => by cases (show (none : Option RSum) = some S from h))) (eq198 n)⟩
theorem ob171 {W : World} (hG : Facts W) (n : Nat) : Good Tryz.prog (Glob.of W) (171, S171 n) :=
 ⟨plain_of Tryz.func171 (by kernel_rfl) (by kernel_rfl), obeys_of (S := S171 n) (E := E171 n) Tryz.func171 mixed tabOk rfl (l := G171 n) (l2 := []) trivial trivial (by kernel_rfl) (by kernel_rfl) (Nat.le_of_ble_eq_true (by kernel_rfl)) (by kernel_rfl) (loopsOk_of 0 (by kernel_rfl) (fun i hi => absurd hi (Nat.not_lt_zero i)) (fun p _ S h => by cases (show (none : Option RSum) = some S from h))) (eq171 n)⟩
theorem ob197 {W : World} (hG : Facts W) (n : Nat) : Good Tryz.prog (Glob.of W) (197, S197 n) :=
 ⟨plain_of Tryz.func197 (by kernel_rfl) (by kernel_rfl), obeys_of (S := S197 n) (E := E197 n) Tryz.func197 mixed tabOk rfl (l := G197 n) (l2 := []) ⟨ob223 hG n, ob171 hG n, trivial⟩ trivial (by kernel_rfl) (by kernel_rfl) (Nat.le_of_ble_eq_true (by kernel_rfl)) (by kernel_rfl) (loopsOk_of 0 (by kernel_rfl) (fun i hi => absurd hi (Nat.not_lt_zero i)) (fun p _ S h => by cases (show (none : Option RSum) = some S from h))) (eq197 n)⟩
theorem ob86 {W : World} (hG : Facts W) (n : Nat) : Good Tryz.prog (Glob.of W) (86, S86 n) :=
 ⟨plain_of Tryz.func86 (by kernel_rfl) (by kernel_rfl), obeys_of (S := S86 n) (E := E86 n) Tryz.func86 mixed tabOk rfl (l := G86 n) (l2 := []) trivial trivial (by kernel_rfl) (by kernel_rfl) (Nat.le_of_ble_eq_true (by kernel_rfl)) (by kernel_rfl) (loopsOk_of 0 (by kernel_rfl) (fun i hi => absurd hi (Nat.not_lt_zero i)) (fun p _ S h => by cases (show (none : Option RSum) = some S from h))) (eq86 n)⟩
theorem rg108 (n : Nat) : ∀ id S, (E108 n).Ω id = some S → aftOk (regAt (bodyOf Tryz.f108) id) = true ∧ ∀ x y, S.g x = some y → ∀ π ∈ exts (regAt (bodyOf Tryz.f108) id), opsK (E108 n) (regAt (bodyOf Tryz.f108) id) (opsOf (regAt (bodyOf Tryz.f108) id) π) (mkSt S.ent x) (fun s => getEns (E108 n).N S.out s) = some y := by
 intro id S hS
 by_cases h0 : id = 10
 ·subst h0
  obtain rfl := Option.some.inj (show some (Rspec_l1Add_R10 n (spec_l1Add_R10 n)) = some S from hS)
  exact ⟨by kernel_rfl, fun x y hy => exts_all6 true [(4, 4)] [0, 1, 2, 3, 4, 5] (by kernel_rfl) (by decide) (by kernel_rfl) (by kernel_rfl) (by kernel_rfl) (by kernel_rfl) (by kernel_rfl) ((exspec_l1Add_R10 n x).trans (show spec_l1Add_R10 n x = some y from hy))⟩
 ·exfalso
  have : (E108 n).Ω id = none := by
   show (match id with  | 10 => some (Rspec_l1Add_R10 n (spec_l1Add_R10 n)) | _ => none) = none
   split
   ·exact absurd rfl h0
   ·rfl
  rw [this] at hS; cases hS
theorem ob108 {W : World} (hG : Facts W) (n : Nat) : Good Tryz.prog (Glob.of W) (108, S108 n) :=
 ⟨plain_of Tryz.func108 (by kernel_rfl) (by kernel_rfl), obeys_of (S := S108 n) (E := E108 n) Tryz.func108 mixed tabOk rfl (l := G108 n) (l2 := []) ⟨ob198 hG n, ob197 hG n, ob86 hG n, trivial⟩ trivial (by kernel_rfl) (by kernel_rfl) (Nat.le_of_ble_eq_true (by kernel_rfl)) (by kernel_rfl) (loopsOk_of 0 (by kernel_rfl) (fun i hi => absurd hi (Nat.not_lt_zero i)) (regs_at (by kernel_rfl) (rg108 n))) (eq108 n)⟩
theorem rg202 (n : Nat) : ∀ id S, (E202 n).Ω id = some S → aftOk (regAt (bodyOf Tryz.f202) id) = true ∧ ∀ x y, S.g x = some y → ∀ π ∈ exts (regAt (bodyOf Tryz.f202) id), opsK (E202 n) (regAt (bodyOf Tryz.f202) id) (opsOf (regAt (bodyOf Tryz.f202) id) π) (mkSt S.ent x) (fun s => getEns (E202 n).N S.out s) = some y := by
 intro id S hS
 by_cases h0 : id = 6
 ·subst h0
  obtain rfl := Option.some.inj (show some (Rspec_l1DrawPool_R6 n (spec_l1DrawPool_R6 n)) = some S from hS)
  exact ⟨by kernel_rfl, fun x y hy => exts_all7 [(24, [[0]]), (1000005, [[5, 0]])] [(0, [0]), (5, [5, 0]), (20, [0]), (21, [5, 0])] [0, 1, 2, 3, 4, 5, 6, 7, 8, 9, 10] (by kernel_rfl) (by decide) (by kernel_rfl) (by kernel_rfl) (by kernel_rfl) (by kernel_rfl) (by kernel_rfl) ((exspec_l1DrawPool_R6 n x).trans (show spec_l1DrawPool_R6 n x = some y from hy))⟩
 ·exfalso
  have : (E202 n).Ω id = none := by
   show (match id with  | 6 => some (Rspec_l1DrawPool_R6 n (spec_l1DrawPool_R6 n)) | _ => none) = none
   split
   ·exact absurd rfl h0
   ·rfl
  rw [this] at hS; cases hS
theorem ob202 {W : World} (hG : Facts W) (n : Nat) : Good Tryz.prog (Glob.of W) (202, S202 n) :=
 ⟨plain_of Tryz.func202 (by kernel_rfl) (by kernel_rfl), obeys_of (S := S202 n) (E := E202 n) Tryz.func202 mixed tabOk rfl (l := G202 n) (l2 := []) ⟨ob92 hG n, ob203 hG n, ob108 hG n, trivial⟩ trivial (by kernel_rfl) (by kernel_rfl) (Nat.le_of_ble_eq_true (by kernel_rfl)) (by kernel_rfl) (loopsOk_of 1 (by kernel_rfl) (fun i hi => match i, hi with | 0, _ => looped (S := Sspec_l1DrawPool_L4 n (spec_l1DrawPool_L4 n n)) (by kernel_rfl) (spec_l1DrawPool_L4 n) (fun _ => rfl) n rfl (fun m x => eqspec_l1DrawPool_L4 n m x)) (regs_at (by kernel_rfl) (rg202 n))) (eq202 n)⟩
theorem ob90 {W : World} (hG : Facts W) (n : Nat) : Good Tryz.prog (Glob.of W) (90, S90 n) :=
 ⟨plain_of Tryz.func90 (by kernel_rfl) (by kernel_rfl), obeys_of (S := S90 n) (E := E90 n) Tryz.func90 mixed tabOk rfl (l := G90 n) (l2 := []) ⟨ob202 hG n, ob92 hG n, ob86 hG n, ob203 hG n, ob81 hG n, ob108 hG n, trivial⟩ trivial (by kernel_rfl) (by kernel_rfl) (Nat.le_of_ble_eq_true (by kernel_rfl)) (by kernel_rfl) (loopsOk_of 1 (by kernel_rfl) (fun i hi => match i, hi with | 0, _ => looped (S := Sspec_l1DrawAny_L9 n (spec_l1DrawAny_L9 n n)) (by kernel_rfl) (spec_l1DrawAny_L9 n) (fun _ => rfl) n rfl (fun m x => eqspec_l1DrawAny_L9 n m x)) (fun p _ S h => by cases (show (none : Option RSum) = some S from h))) (eq90 n)⟩
theorem ob207 {W : World} (hG : Facts W) (n : Nat) : Good Tryz.prog (Glob.of W) (207, S207 n) :=
 ⟨plain_of Tryz.func207 (by kernel_rfl) (by kernel_rfl), obeys_of (S := S207 n) (E := E207 n) Tryz.func207 mixed tabOk rfl (l := G207 n) (l2 := []) trivial trivial (by kernel_rfl) (by kernel_rfl) (Nat.le_of_ble_eq_true (by kernel_rfl)) (by kernel_rfl) (loopsOk_of 0 (by kernel_rfl) (fun i hi => absurd hi (Nat.not_lt_zero i)) (fun p _ S h => by cases (show (none : Option RSum) = some S from h))) (eq207 n)⟩
theorem ob182 {W : World} (hG : Facts W) (n : Nat) : Good Tryz.prog (Glob.of W) (182, S182 n) :=
 ⟨plain_of Tryz.func182 (by kernel_rfl) (by kernel_rfl), obeys_of (S := S182 n) (E := E182 n) Tryz.func182 mixed tabOk rfl (l := G182 n) (l2 := []) ⟨ob81 hG n, ob165 hG n, ob207 hG n, ob259 hG n, trivial⟩ trivial (by kernel_rfl) (by kernel_rfl) (Nat.le_of_ble_eq_true (by kernel_rfl)) (by kernel_rfl) (loopsOk_of 0 (by kernel_rfl) (fun i hi => absurd hi (Nat.not_lt_zero i)) (fun p _ S h => by cases (show (none : Option RSum) = some S from h))) (eq182 n)⟩
theorem ob103 {W : World} (hG : Facts W) (n : Nat) : Good Tryz.prog (Glob.of W) (103, S103 n) :=
 ⟨plain_of Tryz.func103 (by kernel_rfl) (by kernel_rfl), obeys_of (S := S103 n) (E := E103 n) Tryz.func103 mixed tabOk rfl (l := G103 n) (l2 := []) trivial trivial (by kernel_rfl) (by kernel_rfl) (Nat.le_of_ble_eq_true (by kernel_rfl)) (by kernel_rfl) (loopsOk_of 1 (by kernel_rfl) (fun i hi => match i, hi with | 0, _ => looped (S := Sspec_EnvNew_L3 n (spec_EnvNew_L3 n n)) (by kernel_rfl) (spec_EnvNew_L3 n) (fun _ => rfl) n rfl (fun m x => eqspec_EnvNew_L3 n m x)) (fun p _ S h => by cases (show (none : Option RSum) = some S from h))) (eq103 n)⟩
theorem rg183 (n : Nat) : ∀ id S, (E183 n).Ω id = some S → aftOk (regAt (bodyOf Tryz.f183) id) = true ∧ ∀ x y, S.g x = some y → ∀ π ∈ exts (regAt (bodyOf Tryz.f183) id), opsK (E183 n) (regAt (bodyOf Tryz.f183) id) (opsOf (regAt (bodyOf Tryz.f183) id) π) (mkSt S.ent x) (fun s => getEns (E183 n).N S.out s) = some y := by
 intro id S hS
 by_cases h0 : id = 5
 ·subst h0
  obtain rfl := Option.some.inj (show some (Rspec_l11DrawEnv_R5 n (spec_l11DrawEnv_R5 n)) = some S from hS)
  exact ⟨by kernel_rfl, fun x y hy => exts_all7 [(22, [[0]]), (27, [[0]])] [(0, [0]), (21, [0]), (23, [0])] [0, 1, 2, 3, 4, 5, 6, 7, 8, 9] (by kernel_rfl) (by decide) (by kernel_rfl) (by kernel_rfl) (by kernel_rfl) (by kernel_rfl) (by kernel_rfl) ((exspec_l11DrawEnv_R5 n x).trans (show spec_l11DrawEnv_R5 n x = some y from hy))⟩
 ·exfalso
  have : (E183 n).Ω id = none := by
   show (match id with  | 5 => some (Rspec_l11DrawEnv_R5 n (spec_l11DrawEnv_R5 n)) | _ => none) = none
   split
   ·exact absurd rfl h0
   ·rfl
  rw [this] at hS; cases hS
theorem ob183 {W : World} (hG : Facts W) (n : Nat) : Good Tryz.prog (Glob.of W) (183, S183 n) :=
 ⟨plain_of Tryz.func183 (by kernel_rfl) (by kernel_rfl), obeys_of (S := S183 n) (E := E183 n) Tryz.func183 mixed tabOk rfl (l := G183 n) (l2 := []) ⟨ob103 hG n, ob92 hG n, ob259 hG n, ob165 hG n, trivial⟩ trivial (by kernel_rfl) (by kernel_rfl) (Nat.le_of_ble_eq_true (by kernel_rfl)) (by kernel_rfl) (loopsOk_of 1 (by kernel_rfl) (fun i hi => match i, hi with | 0, _ => looped (S := Sspec_l11DrawEnv_L3 n (spec_l11DrawEnv_L3 n n)) (by kernel_rfl) (spec_l11DrawEnv_L3 n) (fun _ => rfl) n rfl (fun m x => eqspec_l11DrawEnv_L3 n m x)) (regs_at (by kernel_rfl) (rg183 n))) (eq183 n)⟩
theorem ob231 {W : World} (hG : Facts W) (n : Nat) : Good Tryz.prog (Glob.of W) (231, S231 n) :=
 ⟨plain_of Tryz.func231 (by kernel_rfl) (by kernel_rfl), obeys_of (S := S231 n) (E := E231 n) Tryz.func231 mixed tabOk rfl (l := G231 n) (l2 := []) ⟨ob92 hG n, trivial⟩ trivial (by kernel_rfl) (by kernel_rfl) (Nat.le_of_ble_eq_true (by kernel_rfl)) (by kernel_rfl) (loopsOk_of 0 (by kernel_rfl) (fun i hi => absurd hi (Nat.not_lt_zero i)) (fun p _ S h => by cases (show (none : Option RSum) = some S from h))) (eq231 n)⟩
theorem ob84 {W : World} (hG : Facts W) (n : Nat) : Good Tryz.prog (Glob.of W) (84, S84 n) :=
 ⟨plain_of Tryz.func84 (by kernel_rfl) (by kernel_rfl), obeys_of (S := S84 n) (E := E84 n) Tryz.func84 mixed tabOk rfl (l := G84 n) (l2 := []) ⟨ob197 hG n, ob198 hG n, trivial⟩ trivial (by kernel_rfl) (by kernel_rfl) (Nat.le_of_ble_eq_true (by kernel_rfl)) (by kernel_rfl) (loopsOk_of 1 (by kernel_rfl) (fun i hi => match i, hi with | 0, _ => looped (S := Sspec_PoolOk_L4 n (spec_PoolOk_L4 n n)) (by kernel_rfl) (spec_PoolOk_L4 n) (fun _ => rfl) n rfl (fun m x => eqspec_PoolOk_L4 n m x)) (fun p _ S h => by cases (show (none : Option RSum) = some S from h))) (eq84 n)⟩
theorem ob88 {W : World} (hG : Facts W) (n : Nat) : Good Tryz.prog (Glob.of W) (88, S88 n) :=
 ⟨plain_of Tryz.func88 (by kernel_rfl) (by kernel_rfl), obeys_of (S := S88 n) (E := E88 n) Tryz.func88 mixed tabOk rfl (l := G88 n) (l2 := []) ⟨ob171 hG n, trivial⟩ trivial (by kernel_rfl) (by kernel_rfl) (Nat.le_of_ble_eq_true (by kernel_rfl)) (by kernel_rfl) (loopsOk_of 0 (by kernel_rfl) (fun i hi => absurd hi (Nat.not_lt_zero i)) (fun p _ S h => by cases (show (none : Option RSum) = some S from h))) (eq88 n)⟩
theorem ob314 {W : World} (hG : Facts W) (n : Nat) : Good Tryz.prog (Glob.of W) (314, S314 n) :=
 ⟨plain_of Tryz.func314 (by kernel_rfl) (by kernel_rfl), obeys_of (S := S314 n) (E := E314 n) Tryz.func314 mixed tabOk rfl (l := G314 n) (l2 := []) ⟨ob223 hG n, trivial⟩ trivial (by kernel_rfl) (by kernel_rfl) (Nat.le_of_ble_eq_true (by kernel_rfl)) (by kernel_rfl) (loopsOk_of 0 (by kernel_rfl) (fun i hi => absurd hi (Nat.not_lt_zero i)) (fun p _ S h => by cases (show (none : Option RSum) = some S from h))) (eq314 n)⟩
theorem ob206 {W : World} (hG : Facts W) (n : Nat) : Good Tryz.prog (Glob.of W) (206, S206 n) :=
 ⟨plain_of Tryz.func206 (by kernel_rfl) (by kernel_rfl), obeys_of (S := S206 n) (E := E206 n) Tryz.func206 mixed tabOk rfl (l := G206 n) (l2 := []) trivial trivial (by kernel_rfl) (by kernel_rfl) (Nat.le_of_ble_eq_true (by kernel_rfl)) (by kernel_rfl) (loopsOk_of 0 (by kernel_rfl) (fun i hi => absurd hi (Nat.not_lt_zero i)) (fun p _ S h => by cases (show (none : Option RSum) = some S from h))) (eq206 n)⟩
theorem ob260 {W : World} (hG : Facts W) (n : Nat) : Good Tryz.prog (Glob.of W) (260, S260 n) :=
 ⟨plain_of Tryz.func260 (by kernel_rfl) (by kernel_rfl), obeys_of (S := S260 n) (E := E260 n) Tryz.func260 mixed tabOk rfl (l := G260 n) (l2 := []) ⟨ob314 hG n, ob206 hG n, trivial⟩ trivial (by kernel_rfl) (by kernel_rfl) (Nat.le_of_ble_eq_true (by kernel_rfl)) (by kernel_rfl) (loopsOk_of 2 (by kernel_rfl) (fun i hi => match i, hi with | 0, _ => looped (S := Sspec_l1Sizes_L3 n (spec_l1Sizes_L3 n n)) (by kernel_rfl) (spec_l1Sizes_L3 n) (fun _ => rfl) n rfl (fun m x => eqspec_l1Sizes_L3 n m x) | 1, _ => looped (S := Sspec_l1Sizes_L8 n (spec_l1Sizes_L8 n n)) (by kernel_rfl) (spec_l1Sizes_L8 n) (fun _ => rfl) n rfl (fun m x => eqspec_l1Sizes_L8 n m x)) (fun p _ S h => by cases (show (none : Option RSum) = some S from h))) (eq260 n)⟩
theorem ob173 {W : World} (hG : Facts W) (n : Nat) : Good Tryz.prog (Glob.of W) (173, S173 n) :=
 ⟨plain_of Tryz.func173 (by kernel_rfl) (by kernel_rfl), obeys_of (S := S173 n) (E := E173 n) Tryz.func173 mixed tabOk rfl (l := G173 n) (l2 := []) trivial trivial (by kernel_rfl) (by kernel_rfl) (Nat.le_of_ble_eq_true (by kernel_rfl)) (by kernel_rfl) (loopsOk_of 1 (by kernel_rfl) (fun i hi => match i, hi with | 0, _ => looped (S := Sspec_l4Num_L4 n (spec_l4Num_L4 n n)) (by kernel_rfl) (spec_l4Num_L4 n) (fun _ => rfl) n rfl (fun m x => eqspec_l4Num_L4 n m x)) (fun p _ S h => by cases (show (none : Option RSum) = some S from h))) (eq173 n)⟩
theorem ob222 {W : World} (hG : Facts W) (n : Nat) : Good Tryz.prog (Glob.of W) (222, S222 n) :=
 ⟨plain_of Tryz.func222 (by kernel_rfl) (by kernel_rfl), obeys_of (S := S222 n) (E := E222 n) Tryz.func222 mixed tabOk rfl (l := G222 n) (l2 := []) trivial trivial (by kernel_rfl) (by kernel_rfl) (Nat.le_of_ble_eq_true (by kernel_rfl)) (by kernel_rfl) (loopsOk_of 0 (by kernel_rfl) (fun i hi => absurd hi (Nat.not_lt_zero i)) (fun p _ S h => by cases (show (none : Option RSum) = some S from h))) (eq222 n)⟩
theorem ob261 {W : World} (hG : Facts W) (n : Nat) : ∀ k, Good Tryz.prog (Glob.of W) (261, S261 n k)
 | 0 => ⟨plain_of Tryz.func261 (by kernel_rfl) (by kernel_rfl), fun _ _ _ _ _ _ _ h => by cases h⟩
 | k + 1 =>
  have ih := ob261 hG n k
  ⟨plain_of Tryz.func261 (by kernel_rfl) (by kernel_rfl), obeys_of (S := S261 n (k + 1)) (E := E261 n k) Tryz.func261 mixed tabOk rfl (l := G261 n k) (l2 := []) ⟨ob81 hG n, ob231 hG n, ob173 hG n, ob222 hG n, ih, ob223 hG n, trivial⟩ trivial (by kernel_rfl) (by kernel_rfl) (Nat.le_of_ble_eq_true (by kernel_rfl)) (by kernel_rfl) (loopsOk_of 1 (by kernel_rfl) (fun i hi => match i, hi with | 0, _ => looped (S := Sspec_l11DrawOf_L5 n (spec_l11DrawOf_L5 n (spec_l11DrawOf n k) n)) (by kernel_rfl) (spec_l11DrawOf_L5 n (spec_l11DrawOf n k)) (fun _ => rfl) n rfl (fun m x => eqspec_l11DrawOf_L5 n m k x)) (fun p _ S h => by cases (show (none : Option RSum) = some S from h))) (eq261 n k)⟩
theorem rg257 (n : Nat) : ∀ id S, (E257 n).Ω id = some S → aftOk (regAt (bodyOf Tryz.f257) id) = true ∧ ∀ x y, S.g x = some y → ∀ π ∈ exts (regAt (bodyOf Tryz.f257) id), opsK (E257 n) (regAt (bodyOf Tryz.f257) id) (opsOf (regAt (bodyOf Tryz.f257) id) π) (mkSt S.ent x) (fun s => getEns (E257 n).N S.out s) = some y := by
 intro id S hS
 by_cases h0 : id = 6
 ·subst h0
  obtain rfl := Option.some.inj (show some (Rspec_l4Dent_R6 n (spec_l4Dent_R6 n)) = some S from hS)
  exact ⟨by kernel_rfl, fun x y hy => exts_all7 [(27, [[0]])] [(0, [0]), (25, [0])] [0, 1, 2, 3, 4, 5, 6, 7, 8, 9, 10, 11, 12, 13, 14, 15] (by kernel_rfl) (by decide) (by kernel_rfl) (by kernel_rfl) (by kernel_rfl) (by kernel_rfl) (by kernel_rfl) ((exspec_l4Dent_R6 n x).trans (show spec_l4Dent_R6 n x = some y from hy))⟩
 by_cases h1 : id = 7
 ·subst h1
  obtain rfl := Option.some.inj (show some (Rspec_l4Dent_R7 n (spec_l4Dent_R7 n)) = some S from hS)
  exact ⟨by kernel_rfl, fun x y hy => exts_all7 [(42, [[0]])] [(0, [0]), (40, [0])] [0, 1, 2, 3, 4, 5, 6, 7, 8, 9, 10, 11] (by kernel_rfl) (by decide) (by kernel_rfl) (by kernel_rfl) (by kernel_rfl) (by kernel_rfl) (by kernel_rfl) ((exspec_l4Dent_R7 n x).trans (show spec_l4Dent_R7 n x = some y from hy))⟩
 ·exfalso
  have : (E257 n).Ω id = none := by
   show (match id with  | 6 => some (Rspec_l4Dent_R6 n (spec_l4Dent_R6 n)) | 7 => some (Rspec_l4Dent_R7 n (spec_l4Dent_R7 n)) | _ => none) = none
   split
   ·exact absurd rfl h0
   ·exact absurd rfl h1
   ·rfl
  rw [this] at hS; cases hS
theorem ob257 {W : World} (hG : Facts W) (n : Nat) : Good Tryz.prog (Glob.of W) (257, S257 n) :=
 ⟨plain_of Tryz.func257 (by kernel_rfl) (by kernel_rfl), obeys_of (S := S257 n) (E := E257 n) Tryz.func257 mixed tabOk rfl (l := G257 n) (l2 := []) ⟨ob92 hG n, ob231 hG n, ob206 hG n, trivial⟩ trivial (by kernel_rfl) (by kernel_rfl) (Nat.le_of_ble_eq_true (by kernel_rfl)) (by kernel_rfl) (loopsOk_of 0 (by kernel_rfl) (fun i hi => absurd hi (Nat.not_lt_zero i)) (regs_at (by kernel_rfl) (rg257 n))) (eq257 n)⟩
theorem ob184 {W : World} (hG : Facts W) (n : Nat) : Good Tryz.prog (Glob.of W) (184, S184 n) :=
 ⟨plain_of Tryz.func184 (by kernel_rfl) (by kernel_rfl), obeys_of (S := S184 n) (E := E184 n) Tryz.func184 mixed tabOk rfl (l := G184 n) (l2 := []) ⟨ob231 hG n, ob84 hG n, ob88 hG n, ob81 hG n, ob260 hG n, ob261 hG n n, ob257 hG n, ob92 hG n, trivial⟩ trivial (by kernel_rfl) (by kernel_rfl) (Nat.le_of_ble_eq_true (by kernel_rfl)) (by kernel_rfl) (loopsOk_of 1 (by kernel_rfl) (fun i hi => match i, hi with | 0, _ => looped (S := Sspec_l11DrawText_L8 n (spec_l11DrawText_L8 n n)) (by kernel_rfl) (spec_l11DrawText_L8 n) (fun _ => rfl) n rfl (fun m x => eqspec_l11DrawText_L8 n m x)) (fun p _ S h => by cases (show (none : Option RSum) = some S from h))) (eq184 n)⟩
theorem rg70 (n : Nat) : ∀ id S, (E70 n).Ω id = some S → aftOk (regAt (bodyOf Tryz.f70) id) = true ∧ ∀ x y, S.g x = some y → ∀ π ∈ exts (regAt (bodyOf Tryz.f70) id), opsK (E70 n) (regAt (bodyOf Tryz.f70) id) (opsOf (regAt (bodyOf Tryz.f70) id) π) (mkSt S.ent x) (fun s => getEns (E70 n).N S.out s) = some y := by
 intro id S hS
 by_cases h0 : id = 5
 ·subst h0
  obtain rfl := Option.some.inj (show some (Rspec_l11Draw_R5 n (spec_l11Draw_R5 n)) = some S from hS)
  exact ⟨by kernel_rfl, fun x y hy => exts_all7 [(26, [[11, 77, 77]]), (1000002, [[2, 0]])] [(2, [2, 0]), (6, [11, 77, 77]), (22, [11, 77, 77])] [0, 1, 2, 3, 4, 5, 6, 7, 8, 9, 10, 11] (by kernel_rfl) (by decide) (by kernel_rfl) (by kernel_rfl) (by kernel_rfl) (by kernel_rfl) (by kernel_rfl) ((exspec_l11Draw_R5 n x).trans (show spec_l11Draw_R5 n x = some y from hy))⟩
 ·exfalso
  have : (E70 n).Ω id = none := by
   show (match id with  | 5 => some (Rspec_l11Draw_R5 n (spec_l11Draw_R5 n)) | _ => none) = none
   split
   ·exact absurd rfl h0
   ·rfl
  rw [this] at hS; cases hS
theorem ob70 {W : World} (hG : Facts W) (n : Nat) : Good Tryz.prog (Glob.of W) (70, S70 n) :=
 ⟨plain_of Tryz.func70 (by kernel_rfl) (by kernel_rfl), obeys_of (S := S70 n) (E := E70 n) Tryz.func70 mixed tabOk rfl (l := G70 n) (l2 := []) ⟨ob80 hG n, ob90 hG n, ob182 hG n, ob183 hG n, ob184 hG n, trivial⟩ trivial (by kernel_rfl) (by kernel_rfl) (Nat.le_of_ble_eq_true (by kernel_rfl)) (by kernel_rfl) (loopsOk_of 0 (by kernel_rfl) (fun i hi => absurd hi (Nat.not_lt_zero i)) (regs_at (by kernel_rfl) (rg70 n))) (eq70 n)⟩
theorem ob15 {W : World} (hG : Facts W) (n : Nat) : Good Tryz.prog (Glob.of W) (15, S15 n) :=
 ⟨plain_of Tryz.func15 (by kernel_rfl) (by kernel_rfl), obeys_of (S := S15 n) (E := E15 n) Tryz.func15 mixed tabOk rfl (l := G15 n) (l2 := []) ⟨ob70 hG n, trivial⟩ trivial (by kernel_rfl) (by kernel_rfl) (Nat.le_of_ble_eq_true (by kernel_rfl)) (by kernel_rfl) (loopsOk_of 0 (by kernel_rfl) (fun i hi => absurd hi (Nat.not_lt_zero i)) (fun p _ S h => by cases (show (none : Option RSum) = some S from h))) (eq15 n)⟩
theorem ob266 {W : World} (hG : Facts W) (n : Nat) : Good Tryz.prog (Glob.of W) (266, S266 n) :=
 ⟨plain_of Tryz.func266 (by kernel_rfl) (by kernel_rfl), obeys_of (S := S266 n) (E := E266 n) Tryz.func266 mixed tabOk rfl (l := G266 n) (l2 := []) trivial trivial (by kernel_rfl) (by kernel_rfl) (Nat.le_of_ble_eq_true (by kernel_rfl)) (by kernel_rfl) (loopsOk_of 0 (by kernel_rfl) (fun i hi => absurd hi (Nat.not_lt_zero i)) (fun p _ S h => by cases (show (none : Option RSum) = some S from h))) (eq266 n)⟩
theorem ob110 {W : World} (hG : Facts W) (n : Nat) : Good Tryz.prog (Glob.of W) (110, S110 n) :=
 ⟨plain_of Tryz.func110 (by kernel_rfl) (by kernel_rfl), obeys_of (S := S110 n) (E := E110 n) Tryz.func110 mixed tabOk rfl (l := G110 n) (l2 := []) trivial trivial (by kernel_rfl) (by kernel_rfl) (Nat.le_of_ble_eq_true (by kernel_rfl)) (by kernel_rfl) (loopsOk_of 0 (by kernel_rfl) (fun i hi => absurd hi (Nat.not_lt_zero i)) (fun p _ S h => by cases (show (none : Option RSum) = some S from h))) (eq110 n)⟩
theorem ob191 {W : World} (hG : Facts W) (n : Nat) : Good Tryz.prog (Glob.of W) (191, S191 n) :=
 ⟨plain_of Tryz.func191 (by kernel_rfl) (by kernel_rfl), obeys_of (S := S191 n) (E := E191 n) Tryz.func191 mixed tabOk rfl (l := G191 n) (l2 := []) ⟨ob266 hG n, ob110 hG n, trivial⟩ trivial (by kernel_rfl) (by kernel_rfl) (Nat.le_of_ble_eq_true (by kernel_rfl)) (by kernel_rfl) (loopsOk_of 0 (by kernel_rfl) (fun i hi => absurd hi (Nat.not_lt_zero i)) (fun p _ S h => by cases (show (none : Option RSum) = some S from h))) (eq191 n)⟩
theorem rg73 (n : Nat) : ∀ id S, (E73 n).Ω id = some S → aftOk (regAt (bodyOf Tryz.f73) id) = true ∧ ∀ x y, S.g x = some y → ∀ π ∈ exts (regAt (bodyOf Tryz.f73) id), opsK (E73 n) (regAt (bodyOf Tryz.f73) id) (opsOf (regAt (bodyOf Tryz.f73) id) π) (mkSt S.ent x) (fun s => getEns (E73 n).N S.out s) = some y := by
 intro id S hS
 by_cases h0 : id = 7
 ·subst h0
  obtain rfl := Option.some.inj (show some (Rimpl_PoolOk_R7 n (impl_PoolOk_R7 n)) = some S from hS)
  exact ⟨by kernel_rfl, fun x y hy => all_of (eximpl_PoolOk_R7 n x) (fun v hv => ((show ∀ v ∈ [impl_PoolOk_R7 n x, impl_PoolOk_R7 n x, impl_PoolOk_R7 n x, impl_PoolOk_R7_1 n x, impl_PoolOk_R7_1 n x, impl_PoolOk_R7_1 n x, impl_PoolOk_R7 n x, impl_PoolOk_R7 n x, impl_PoolOk_R7 n x, impl_PoolOk_R7_1 n x, impl_PoolOk_R7_1 n x, impl_PoolOk_R7_1 n x], v = impl_PoolOk_R7 n x from (List.forall_mem_cons.2 ⟨rfl, (List.forall_mem_cons.2 ⟨rfl, (List.forall_mem_cons.2 ⟨rfl, (List.forall_mem_cons.2 ⟨impl_PoolOk_R7_1_eq n x, (List.forall_mem_cons.2 ⟨impl_PoolOk_R7_1_eq n x, (List.forall_mem_cons.2 ⟨impl_PoolOk_R7_1_eq n x, (List.forall_mem_cons.2 ⟨rfl, (List.forall_mem_cons.2 ⟨rfl, (List.forall_mem_cons.2 ⟨rfl, (List.forall_mem_cons.2 ⟨impl_PoolOk_R7_1_eq n x, (List.forall_mem_cons.2 ⟨impl_PoolOk_R7_1_eq n x, (List.forall_mem_cons.2 ⟨impl_PoolOk_R7_1_eq n x, (fun _ h => by cases h)⟩)⟩)⟩)⟩)⟩)⟩)⟩)⟩)⟩)⟩)⟩)⟩)) v hv).trans (show impl_PoolOk_R7 n x = some y from hy))⟩
 ·exfalso
  have : (E73 n).Ω id = none := by
   show (match id with  | 7 => some (Rimpl_PoolOk_R7 n (impl_PoolOk_R7 n)) | _ => none) = none
   split
   ·exact absurd rfl h0
   ·rfl
  rw [this] at hS; cases hS
theorem ob73 {W : World} (hG : Facts W) (n : Nat) : Good Tryz.prog (Glob.of W) (73, S73 n) :=
 ⟨plain_of Tryz.func73 (by kernel_rfl) (by kernel_rfl), obeys_of (S := S73 n) (E := E73 n) Tryz.func73 mixed tabOk rfl (l := G73 n) (l2 := []) ⟨ob191 hG n, trivial⟩ trivial (by kernel_rfl) (by kernel_rfl) (Nat.le_of_ble_eq_true (by kernel_rfl)) (by kernel_rfl) (loopsOk_of 1 (by kernel_rfl) (fun i hi => match i, hi with | 0, _ => looped (S := Simpl_PoolOk_L5 n (impl_PoolOk_L5 n n)) (by kernel_rfl) (impl_PoolOk_L5 n) (fun _ => rfl) n rfl (fun m x => eqimpl_PoolOk_L5 n m x)) (regs_at (by kernel_rfl) (rg73 n))) (eq73 n)⟩
theorem ob262 {W : World} (hG : Facts W) (n : Nat) : Good Tryz.prog (Glob.of W) (262, S262 n) :=
 ⟨plain_of Tryz.func262 (by kernel_rfl) (by kernel_rfl), obeys_of (S := S262 n) (E := E262 n) Tryz.func262 mixed tabOk rfl (l := G262 n) (l2 := []) trivial trivial (by kernel_rfl) (by kernel_rfl) (Nat.le_of_ble_eq_true (by kernel_rfl)) (by kernel_rfl) (loopsOk_of 0 (by kernel_rfl) (fun i hi => absurd hi (Nat.not_lt_zero i)) (fun p _ S h => by cases (show (none : Option RSum) = some S from h))) (eq262 n)⟩
theorem ob285 {W : World} (hG : Facts W) (n : Nat) : Good Tryz.prog (Glob.of W) (285, S285 n) :=
 ⟨plain_of Tryz.func285 (by kernel_rfl) (by kernel_rfl), obeys_of (S := S285 n) (E := E285 n) Tryz.func285 mixed tabOk rfl (l := G285 n) (l2 := []) trivial trivial (by kernel_rfl) (by kernel_rfl) (Nat.le_of_ble_eq_true (by kernel_rfl)) (by kernel_rfl) (loopsOk_of 0 (by kernel_rfl) (fun i hi => absurd hi (Nat.not_lt_zero i)) (fun p _ S h => by cases (show (none : Option RSum) = some S from h))) (eq285 n)⟩
theorem ob224 {W : World} (hG : Facts W) (n : Nat) : Good Tryz.prog (Glob.of W) (224, S224 n) :=
 ⟨plain_of Tryz.func224 (by kernel_rfl) (by kernel_rfl), obeys_of (S := S224 n) (E := E224 n) Tryz.func224 mixed tabOk rfl (l := G224 n) (l2 := []) ⟨ob262 hG n, ob285 hG n, ob255 hG, ob169 hG, trivial⟩ trivial (by kernel_rfl) (by kernel_rfl) (Nat.le_of_ble_eq_true (by kernel_rfl)) (by kernel_rfl) (loopsOk_of 1 (by kernel_rfl) (fun i hi => match i, hi with | 0, _ => looped (S := Simpl_reader_figures_L2 n (impl_reader_figures_L2 n n)) (by kernel_rfl) (impl_reader_figures_L2 n) (fun _ => rfl) n rfl (fun m x => eqimpl_reader_figures_L2 n m x)) (fun p _ S h => by cases (show (none : Option RSum) = some S from h))) (eq224 n)⟩
theorem ob225 {W : World} (hG : Facts W) (n : Nat) : Good Tryz.prog (Glob.of W) (225, S225 n) :=
 ⟨plain_of Tryz.func225 (by kernel_rfl) (by kernel_rfl), obeys_of (S := S225 n) (E := E225 n) Tryz.func225 mixed tabOk rfl (l := G225 n) (l2 := []) trivial trivial (by kernel_rfl) (by kernel_rfl) (Nat.le_of_ble_eq_true (by kernel_rfl)) (by kernel_rfl) (loopsOk_of 0 (by kernel_rfl) (fun i hi => absurd hi (Nat.not_lt_zero i)) (fun p _ S h => by cases (show (none : Option RSum) = some S from h))) (eq225 n)⟩
theorem ob186 {W : World} (hG : Facts W) (n : Nat) : Good Tryz.prog (Glob.of W) (186, S186 n) :=
 ⟨plain_of Tryz.func186 (by kernel_rfl) (by kernel_rfl), obeys_of (S := S186 n) (E := E186 n) Tryz.func186 mixed tabOk rfl (l := G186 n) (l2 := []) ⟨ob224 hG n, ob110 hG n, ob225 hG n, trivial⟩ trivial (by kernel_rfl) (by kernel_rfl) (Nat.le_of_ble_eq_true (by kernel_rfl)) (by kernel_rfl) (loopsOk_of 0 (by kernel_rfl) (fun i hi => absurd hi (Nat.not_lt_zero i)) (fun p _ S h => by cases (show (none : Option RSum) = some S from h))) (eq186 n)⟩
theorem ob187 {W : World} (hG : Facts W) (n : Nat) : Good Tryz.prog (Glob.of W) (187, S187 n) :=
 ⟨plain_of Tryz.func187 (by kernel_rfl) (by kernel_rfl), obeys_of (S := S187 n) (E := E187 n) Tryz.func187 mixed tabOk rfl (l := G187 n) (l2 := []) ⟨ob262 hG n, ob225 hG n, trivial⟩ trivial (by kernel_rfl) (by kernel_rfl) (Nat.le_of_ble_eq_true (by kernel_rfl)) (by kernel_rfl) (loopsOk_of 0 (by kernel_rfl) (fun i hi => absurd hi (Nat.not_lt_zero i)) (fun p _ S h => by cases (show (none : Option RSum) = some S from h))) (eq187 n)⟩
theorem rg188 (n : Nat) : ∀ id S, (E188 n).Ω id = some S → aftOk (regAt (bodyOf Tryz.f188) id) = true ∧ ∀ x y, S.g x = some y → ∀ π ∈ exts (regAt (bodyOf Tryz.f188) id), opsK (E188 n) (regAt (bodyOf Tryz.f188) id) (opsOf (regAt (bodyOf Tryz.f188) id) π) (mkSt S.ent x) (fun s => getEns (E188 n).N S.out s) = some y := by
 intro id S hS
 by_cases h0 : id = 1
 ·subst h0
  obtain rfl := Option.some.inj (show some (Rimpl_pattern_put_R1 n (impl_pattern_put_R1 n)) = some S from hS)
  exact ⟨by kernel_rfl, fun x y hy => all_of (eximpl_pattern_put_R1 n x) (fun v hv => ((fun v hv => List.eq_of_mem_replicate (n := 120) hv) v hv).trans (show impl_pattern_put_R1 n x = some y from hy))⟩
 ·exfalso
  have : (E188 n).Ω id = none := by
   show (match id with  | 1 => some (Rimpl_pattern_put_R1 n (impl_pattern_put_R1 n)) | _ => none) = none
   split
   ·exact absurd rfl h0
   ·rfl
  rw [this] at hS; cases hS
theorem ob188 {W : World} (hG : Facts W) (n : Nat) : Good Tryz.prog (Glob.of W) (188, S188 n) :=
 ⟨plain_of Tryz.func188 (by kernel_rfl) (by kernel_rfl), obeys_of (S := S188 n) (E := E188 n) Tryz.func188 mixed tabOk rfl (l := G188 n) (l2 := []) trivial trivial (by kernel_rfl) (by kernel_rfl) (Nat.le_of_ble_eq_true (by kernel_rfl)) (by kernel_rfl) (loopsOk_of 0 (by kernel_rfl) (fun i hi => absurd hi (Nat.not_lt_zero i)) (regs_at (by kernel_rfl) (rg188 n))) (eq188 n)⟩
theorem ob185 {W : World} (hG : Facts W) (n : Nat) : Good Tryz.prog (Glob.of W) (185, S185 n) :=
 ⟨plain_of Tryz.func185 (by kernel_rfl) (by kernel_rfl), obeys_of (S := S185 n) (E := E185 n) Tryz.func185 mixed tabOk rfl (l := G185 n) (l2 := []) ⟨ob186 hG n, ob188 hG n, ob187 hG n, trivial⟩ trivial (by kernel_rfl) (by kernel_rfl) (Nat.le_of_ble_eq_true (by kernel_rfl)) (by kernel_rfl) (loopsOk_of 0 (by kernel_rfl) (fun i hi => absurd hi (Nat.not_lt_zero i)) (fun p _ S h => by cases (show (none : Option RSum) = some S from h))) (eq185 n)⟩
theorem ob189 {W : World} (hG : Facts W) (n : Nat) : Good Tryz.prog (Glob.of W) (189, S189 n) :=
 ⟨plain_of Tryz.func189 (by kernel_rfl) (by kernel_rfl), obeys_of (S := S189 n) (E := E189 n) Tryz.func189 mixed tabOk rfl (l := G189 n) (l2 := []) ⟨ob188 hG n, trivial⟩ trivial (by kernel_rfl) (by kernel_rfl) (Nat.le_of_ble_eq_true (by kernel_rfl)) (by kernel_rfl) (loopsOk_of 0 (by kernel_rfl) (fun i hi => absurd hi (Nat.not_lt_zero i)) (fun p _ S h => by cases (show (none : Option RSum) = some S from h))) (eq189 n)⟩
theorem ob125 {W : World} (hG : Facts W) (n : Nat) : Good Tryz.prog (Glob.of W) (125, S125 n) :=
 ⟨plain_of Tryz.func125 (by kernel_rfl) (by kernel_rfl), obeys_of (S := S125 n) (E := E125 n) Tryz.func125 mixed tabOk rfl (l := G125 n) (l2 := []) trivial trivial (by kernel_rfl) (by kernel_rfl) (Nat.le_of_ble_eq_true (by kernel_rfl)) (by kernel_rfl) (loopsOk_of 1 (by kernel_rfl) (fun i hi => match i, hi with | 0, _ => looped (S := Simpl_isOneOf_L2 n (impl_isOneOf_L2 n n)) (by kernel_rfl) (impl_isOneOf_L2 n) (fun _ => rfl) n rfl (fun m x => eqimpl_isOneOf_L2 n m x)) (fun p _ S h => by cases (show (none : Option RSum) = some S from h))) (eq125 n)⟩
theorem ob287 {W : World} (hG : Facts W) (n : Nat) : Good Tryz.prog (Glob.of W) (287, S287 n) :=
 ⟨plain_of Tryz.func287 (by kernel_rfl) (by kernel_rfl), obeys_of (S := S287 n) (E := E287 n) Tryz.func287 mixed tabOk rfl (l := G287 n) (l2 := []) trivial trivial (by kernel_rfl) (by kernel_rfl) (Nat.le_of_ble_eq_true (by kernel_rfl)) (by kernel_rfl) (loopsOk_of 0 (by kernel_rfl) (fun i hi => absurd hi (Nat.not_lt_zero i)) (fun p _ S h => by cases (show (none : Option RSum) = some S from h))) (eq287 n)⟩
theorem ob288 {W : World} (hG : Facts W) (n : Nat) : Good Tryz.prog (Glob.of W) (288, S288 n) :=
 ⟨plain_of Tryz.func288 (by kernel_rfl) (by kernel_rfl), obeys_of (S := S288 n) (E := E288 n) Tryz.func288 mixed tabOk rfl (l := G288 n) (l2 := []) ⟨ob225 hG n, trivial⟩ trivial (by kernel_rfl) (by kernel_rfl) (Nat.le_of_ble_eq_true (by kernel_rfl)) (by kernel_rfl) (loopsOk_of 0 (by kernel_rfl) (fun i hi => absurd hi (Nat.not_lt_zero i)) (fun p _ S h => by cases (show (none : Option RSum) = some S from h))) (eq288 n)⟩
theorem ob286_ {W : World} (hG : Facts W) (n k : Nat) (ih : Good Tryz.prog (Glob.of W) (228, S228 n k)) : Good Tryz.prog (Glob.of W) (286, S286 n k) :=
 ⟨plain_of Tryz.func286 (by kernel_rfl) (by kernel_rfl), obeys_of (S := S286 n k) (E := E286 n k) Tryz.func286 mixed tabOk rfl (l := G286 n k) (l2 := []) ⟨ih, ob288 hG n, trivial⟩ trivial (by kernel_rfl) (by kernel_rfl) (Nat.le_of_ble_eq_true (by kernel_rfl)) (by kernel_rfl) (loopsOk_of 0 (by kernel_rfl) (fun i hi => absurd hi (Nat.not_lt_zero i)) (fun p _ S h => by cases (show (none : Option RSum) = some S from h))) (eq286 n k)⟩
theorem ob228 {W : World} (hG : Facts W) (n : Nat) : ∀ k, Good Tryz.prog (Glob.of W) (228, S228 n k)
 | 0 => ⟨plain_of Tryz.func228 (by kernel_rfl) (by kernel_rfl), fun _ _ _ _ _ _ _ h => by cases h⟩
 | k + 1 =>
  have ih := ob228 hG n k
  ⟨plain_of Tryz.func228 (by kernel_rfl) (by kernel_rfl), obeys_of (S := S228 n (k + 1)) (E := E228 n k) Tryz.func228 mixed tabOk rfl (l := G228 n k) (l2 := []) ⟨ob262 hG n, ob225 hG n, ob185 hG n, ob125 hG n, ob287 hG n, ob286_ hG n k ih, ob189 hG n, ih, ob288 hG n, trivial⟩ trivial (by kernel_rfl) (by kernel_rfl) (Nat.le_of_ble_eq_true (by kernel_rfl)) (by kernel_rfl) (loopsOk_of 0 (by kernel_rfl) (fun i hi => absurd hi (Nat.not_lt_zero i)) (fun p _ S h => by cases (show (none : Option RSum) = some S from h))) (eq228 n k)⟩
theorem ob286 {W : World} (hG : Facts W) (n k : Nat) : Good Tryz.prog (Glob.of W) (286, S286 n k) := ob286_ hG n k (ob228 hG n k)
theorem ob128 {W : World} (hG : Facts W) (n : Nat) : Good Tryz.prog (Glob.of W) (128, S128 n) :=
 ⟨plain_of Tryz.func128 (by kernel_rfl) (by kernel_rfl), obeys_of (S := S128 n) (E := E128 n) Tryz.func128 mixed tabOk rfl (l := G128 n) (l2 := []) ⟨ob225 hG n, ob228 hG n n, trivial⟩ trivial (by kernel_rfl) (by kernel_rfl) (Nat.le_of_ble_eq_true (by kernel_rfl)) (by kernel_rfl) (loopsOk_of 0 (by kernel_rfl) (fun i hi => absurd hi (Nat.not_lt_zero i)) (fun p _ S h => by cases (show (none : Option RSum) = some S from h))) (eq128 n)⟩
theorem ob71 {W : World} (hG : Facts W) (n : Nat) : Good Tryz.prog (Glob.of W) (71, S71 n) :=
 ⟨plain_of Tryz.func71 (by kernel_rfl) (by kernel_rfl), obeys_of (S := S71 n) (E := E71 n) Tryz.func71 mixed tabOk rfl (l := G71 n) (l2 := []) ⟨ob128 hG n, trivial⟩ trivial (by kernel_rfl) (by kernel_rfl) (Nat.le_of_ble_eq_true (by kernel_rfl)) (by kernel_rfl) (loopsOk_of 0 (by kernel_rfl) (fun i hi => absurd hi (Nat.not_lt_zero i)) (fun p _ S h => by cases (show (none : Option RSum) = some S from h))) (eq71 n)⟩
theorem ob74 {W : World} (hG : Facts W) (n : Nat) : Good Tryz.prog (Glob.of W) (74, S74 n) :=
 ⟨plain_of Tryz.func74 (by kernel_rfl) (by kernel_rfl), obeys_of (S := S74 n) (E := E74 n) Tryz.func74 mixed tabOk rfl (l := G74 n) (l2 := []) ⟨ob110 hG n, trivial⟩ trivial (by kernel_rfl) (by kernel_rfl) (Nat.le_of_ble_eq_true (by kernel_rfl)) (by kernel_rfl) (loopsOk_of 0 (by kernel_rfl) (fun i hi => absurd hi (Nat.not_lt_zero i)) (fun p _ S h => by cases (show (none : Option RSum) = some S from h))) (eq74 n)⟩
theorem ob1074 {W : World} (hG : Facts W) (n : Nat) : Good Tryz.prog (Glob.of W) (74, S1074 n) :=
 ⟨plain_of Tryz.func74 (by kernel_rfl) (by kernel_rfl), obeys_of (S := S1074 n) (E := E1074 n) Tryz.func74 mixed tabOk rfl (l := G1074 n) (l2 := []) ⟨ob110 hG n, trivial⟩ trivial (by kernel_rfl) (by kernel_rfl) (Nat.le_of_ble_eq_true (by kernel_rfl)) (by kernel_rfl) (loopsOk_of 0 (by kernel_rfl) (fun i hi => absurd hi (Nat.not_lt_zero i)) (fun p _ S h => by cases (show (none : Option RSum) = some S from h))) (eq1074 n)⟩
theorem ob27 {W : World} (hG : Facts W) (n : Nat) : Good Tryz.prog (Glob.of W) (27, S27 n) :=
 ⟨plain_of Tryz.func27 (by kernel_rfl) (by kernel_rfl), obeys_of (S := S27 n) (E := E27 n) Tryz.func27 mixed tabOk rfl (l := G27 n) (l2 := []) ⟨ob74 hG n, ob73 hG n, trivial⟩ trivial (by kernel_rfl) (by kernel_rfl) (Nat.le_of_ble_eq_true (by kernel_rfl)) (by kernel_rfl) (loopsOk_of 1 (by kernel_rfl) (fun i hi => match i, hi with | 0, _ => looped (S := Simpl_EnvOk_L2 n (impl_EnvOk_L2 n n)) (by kernel_rfl) (impl_EnvOk_L2 n) (fun _ => rfl) n rfl (fun m x => eqimpl_EnvOk_L2 n m x)) (fun p _ S h => by cases (show (none : Option RSum) = some S from h))) (eq27 n)⟩
theorem ob75 {W : World} (hG : Facts W) (n : Nat) : Good Tryz.prog (Glob.of W) (75, S75 n) :=
 ⟨plain_of Tryz.func75 (by kernel_rfl) (by kernel_rfl), obeys_of (S := S75 n) (E := E75 n) Tryz.func75 mixed tabOk rfl (l := G75 n) (l2 := []) ⟨ob192 hG, trivial⟩ trivial (by kernel_rfl) (by kernel_rfl) (Nat.le_of_ble_eq_true (by kernel_rfl)) (by kernel_rfl) (loopsOk_of 0 (by kernel_rfl) (fun i hi => absurd hi (Nat.not_lt_zero i)) (fun p _ S h => by cases (show (none : Option RSum) = some S from h))) (eq75 n)⟩
theorem ob78 {W : World} (hG : Facts W) (n : Nat) : Good Tryz.prog (Glob.of W) (78, S78 n) :=
 ⟨plain_of Tryz.func78 (by kernel_rfl) (by kernel_rfl), obeys_of (S := S78 n) (E := E78 n) Tryz.func78 mixed tabOk rfl (l := G78 n) (l2 := []) trivial trivial (by kernel_rfl) (by kernel_rfl) (Nat.le_of_ble_eq_true (by kernel_rfl)) (by kernel_rfl) (loopsOk_of 0 (by kernel_rfl) (fun i hi => absurd hi (Nat.not_lt_zero i)) (fun p _ S h => by cases (show (none : Option RSum) = some S from h))) (eq78 n)⟩
theorem ob193 {W : World} (hG : Facts W) (n : Nat) : Good Tryz.prog (Glob.of W) (193, S193 n) :=
 ⟨plain_of Tryz.func193 (by kernel_rfl) (by kernel_rfl), obeys_of (S := S193 n) (E := E193 n) Tryz.func193 mixed tabOk rfl (l := G193 n) (l2 := []) trivial trivial (by kernel_rfl) (by kernel_rfl) (Nat.le_of_ble_eq_true (by kernel_rfl)) (by kernel_rfl) (loopsOk_of 0 (by kernel_rfl) (fun i hi => absurd hi (Nat.not_lt_zero i)) (fun p _ S h => by cases (show (none : Option RSum) = some S from h))) (eq193 n)⟩
theorem ob82 {W : World} (hG : Facts W) (n : Nat) : ∀ k, Good Tryz.prog (Glob.of W) (82, S82 n k)
 | 0 => ⟨plain_of Tryz.func82 (by kernel_rfl) (by kernel_rfl), fun _ _ _ _ _ _ _ h => by cases h⟩
 | k + 1 =>
  have ih := ob82 hG n k
  ⟨plain_of Tryz.func82 (by kernel_rfl) (by kernel_rfl), obeys_of (S := S82 n (k + 1)) (E := E82 n k) Tryz.func82 mixed tabOk rfl (l := G82 n k) (l2 := []) ⟨ih, trivial⟩ trivial (by kernel_rfl) (by kernel_rfl) (Nat.le_of_ble_eq_true (by kernel_rfl)) (by kernel_rfl) (loopsOk_of 1 (by kernel_rfl) (fun i hi => match i, hi with | 0, _ => looped (S := Simpl_pattern_has_L3 n (impl_pattern_has_L3 n (impl_pattern_has n k) n)) (by kernel_rfl) (impl_pattern_has_L3 n (impl_pattern_has n k)) (fun _ => rfl) n rfl (fun m x => eqimpl_pattern_has_L3 n m k x)) (fun p _ S h => by cases (show (none : Option RSum) = some S from h))) (eq82 n k)⟩
theorem ob316 {W : World} (hG : Facts W) (n : Nat) : Good Tryz.prog (Glob.of W) (316, S316 n) :=
 ⟨plain_of Tryz.func316 (by kernel_rfl) (by kernel_rfl), obeys_of (S := S316 n) (E := E316 n) Tryz.func316 mixed tabOk rfl (l := G316 n) (l2 := []) trivial trivial (by kernel_rfl) (by kernel_rfl) (Nat.le_of_ble_eq_true (by kernel_rfl)) (by kernel_rfl) (loopsOk_of 1 (by kernel_rfl) (fun i hi => match i, hi with | 0, _ => looped (S := Sslices_Index___impl_Node_impl_Node__L2 n (slices_Index___impl_Node_impl_Node__L2 n n)) (by kernel_rfl) (slices_Index___impl_Node_impl_Node__L2 n) (fun _ => rfl) n rfl (fun m x => eqslices_Index___impl_Node_impl_Node__L2 n m x)) (fun p _ S h => by cases (show (none : Option RSum) = some S from h))) (eq316 n)⟩
theorem ob269 {W : World} (hG : Facts W) (n : Nat) : Good Tryz.prog (Glob.of W) (269, S269 n) :=
 ⟨plain_of Tryz.func269 (by kernel_rfl) (by kernel_rfl), obeys_of (S := S269 n) (E := E269 n) Tryz.func269 mixed tabOk rfl (l := G269 n) (l2 := []) ⟨ob316 hG n, trivial⟩ trivial (by kernel_rfl) (by kernel_rfl) (Nat.le_of_ble_eq_true (by kernel_rfl)) (by kernel_rfl) (loopsOk_of 0 (by kernel_rfl) (fun i hi => absurd hi (Nat.not_lt_zero i)) (fun p _ S h => by cases (show (none : Option RSum) = some S from h))) (eq269 n)⟩
theorem ob1269 {W : World} (hG : Facts W) (n : Nat) : Good Tryz.prog (Glob.of W) (269, S1269 n) :=
 ⟨plain_of Tryz.func269 (by kernel_rfl) (by kernel_rfl), obeys_of (S := S1269 n) (E := E1269 n) Tryz.func269 mixed tabOk rfl (l := G1269 n) (l2 := []) ⟨ob316 hG n, trivial⟩ trivial (by kernel_rfl) (by kernel_rfl) (Nat.le_of_ble_eq_true (by kernel_rfl)) (by kernel_rfl) (loopsOk_of 0 (by kernel_rfl) (fun i hi => absurd hi (Nat.not_lt_zero i)) (fun p _ S h => by cases (show (none : Option RSum) = some S from h))) (eq1269 n)⟩
theorem rg196 (n : Nat) : ∀ id S, (E196 n).Ω id = some S → aftOk (regAt (bodyOf Tryz.f196) id) = true ∧ ∀ x y, S.g x = some y → ∀ π ∈ exts (regAt (bodyOf Tryz.f196) id), opsK (E196 n) (regAt (bodyOf Tryz.f196) id) (opsOf (regAt (bodyOf Tryz.f196) id) π) (mkSt S.ent x) (fun s => getEns (E196 n).N S.out s) = some y := by
 intro id S hS
 by_cases h0 : id = 11
 ·subst h0
  obtain rfl := Option.some.inj (show some (Rimpl_Pool_add_R11 n (impl_Pool_add_R11 n)) = some S from hS)
  exact ⟨by kernel_rfl, fun x y hy => all_of (eximpl_Pool_add_R11 n x) (fun v hv => ((fun v hv => List.eq_of_mem_replicate (n := 120) hv) v hv).trans (show impl_Pool_add_R11 n x = some y from hy))⟩
 ·exfalso
  have : (E196 n).Ω id = none := by
   show (match id with  | 11 => some (Rimpl_Pool_add_R11 n (impl_Pool_add_R11 n)) | _ => none) = none
   split
   ·exact absurd rfl h0
   ·rfl
  rw [this] at hS; cases hS
theorem ob196 {W : World} (hG : Facts W) (n : Nat) : Good Tryz.prog (Glob.of W) (196, S196 n) :=
 ⟨plain_of Tryz.func196 (by kernel_rfl) (by kernel_rfl), obeys_of (S := S196 n) (E := E196 n) Tryz.func196 mixed tabOk rfl (l := G196 n) (l2 := H196 n) ⟨ob191 hG n, trivial⟩ ⟨ob1269 hG n, trivial⟩ (by kernel_rfl) (by kernel_rfl) (Nat.le_of_ble_eq_true (by kernel_rfl)) (by kernel_rfl) (loopsOk_of 0 (by kernel_rfl) (fun i hi => absurd hi (Nat.not_lt_zero i)) (regs_at (by kernel_rfl) (rg196 n))) (eq196 n)⟩
theorem ob99 {W : World} (hG : Facts W) (n : Nat) : Good Tryz.prog (Glob.of W) (99, S99 n) :=
 ⟨plain_of Tryz.func99 (by kernel_rfl) (by kernel_rfl), obeys_of (S := S99 n) (E := E99 n) Tryz.func99 mixed tabOk rfl (l := G99 n) (l2 := []) ⟨ob196 hG n, trivial⟩ trivial (by kernel_rfl) (by kernel_rfl) (Nat.le_of_ble_eq_true (by kernel_rfl)) (by kernel_rfl) (loopsOk_of 0 (by kernel_rfl) (fun i hi => absurd hi (Nat.not_lt_zero i)) (fun p _ S h => by cases (show (none : Option RSum) = some S from h))) (eq99 n)⟩
theorem ob195 {W : World} (hG : Facts W) (n : Nat) : Good Tryz.prog (Glob.of W) (195, S195 n) :=
 ⟨plain_of Tryz.func195 (by kernel_rfl) (by kernel_rfl), obeys_of (S := S195 n) (E := E195 n) Tryz.func195 mixed tabOk rfl (l := G195 n) (l2 := H195 n) ⟨ob196 hG n, trivial⟩ ⟨ob1074 hG n, ob1074 hG n, trivial⟩ (by kernel_rfl) (by kernel_rfl) (Nat.le_of_ble_eq_true (by kernel_rfl)) (by kernel_rfl) (loopsOk_of 0 (by kernel_rfl) (fun i hi => absurd hi (Nat.not_lt_zero i)) (fun p _ S h => by cases (show (none : Option RSum) = some S from h))) (eq195 n)⟩
theorem rg83 (n k : Nat) : ∀ id S, (E83 n k).Ω id = some S → aftOk (regAt (bodyOf Tryz.f83) id) = true ∧ ∀ x y, S.g x = some y → ∀ π ∈ exts (regAt (bodyOf Tryz.f83) id), opsK (E83 n k) (regAt (bodyOf Tryz.f83) id) (opsOf (regAt (bodyOf Tryz.f83) id) π) (mkSt S.ent x) (fun s => getEns (E83 n k).N S.out s) = some y := by
 intro id S hS
 by_cases h0 : id = 19
 ·subst h0
  obtain rfl := Option.some.inj (show some (Rimpl_pattern_make_R19 n (impl_pattern_make_R19 n (impl_pattern_make n k))) = some S from hS)
  exact ⟨by kernel_rfl, fun x y hy => exts_all6 false [] [0, 1, 2, 4, 5, 6, 7, 3, 8, 9] (by kernel_rfl) (by decide) (by kernel_rfl) (by kernel_rfl) (by kernel_rfl) (by kernel_rfl) (by kernel_rfl) ((eximpl_pattern_make_R19 n k x).trans (show impl_pattern_make_R19 n (impl_pattern_make n k) x = some y from hy))⟩
 ·exfalso
  have : (E83 n k).Ω id = none := by
   show (match id with  | 19 => some (Rimpl_pattern_make_R19 n (impl_pattern_make_R19 n (impl_pattern_make n k))) | _ => none) = none
   split
   ·exact absurd rfl h0
   ·rfl
  rw [this] at hS; cases hS
theorem ob83 {W : World} (hG : Facts W) (n : Nat) : ∀ k, Good Tryz.prog (Glob.of W) (83, S83 n k)
 | 0 => ⟨plain_of Tryz.func83 (by kernel_rfl) (by kernel_rfl), fun _ _ _ _ _ _ _ h => by cases h⟩
 | k + 1 =>
  have ih := ob83 hG n k
  ⟨plain_of Tryz.func83 (by kernel_rfl) (by kernel_rfl), obeys_of (S := S83 n (k + 1)) (E := E83 n k) Tryz.func83 mixed tabOk rfl (l := G83 n k) (l2 := []) ⟨ob99 hG n, ih, ob195 hG n, ob193 hG n, ob196 hG n, trivial⟩ trivial (by kernel_rfl) (by kernel_rfl) (Nat.le_of_ble_eq_true (by kernel_rfl)) (by kernel_rfl) (loopsOk_of 1 (by kernel_rfl) (fun i hi => match i, hi with | 0, _ => looped (S := Simpl_pattern_make_L11 n (impl_pattern_make_L11 n (impl_pattern_make n k) n)) (by kernel_rfl) (impl_pattern_make_L11 n (impl_pattern_make n k)) (fun _ => rfl) n rfl (fun m x => eqimpl_pattern_make_L11 n m k x)) (regs_at (by kernel_rfl) (rg83 n k))) (eq83 n k)⟩
theorem rg1083 (n k : Nat) : ∀ id S, (E1083 n k).Ω id = some S → aftOk (regAt (bodyOf Tryz.f83) id) = true ∧ ∀ x y, S.g x = some y → ∀ π ∈ exts (regAt (bodyOf Tryz.f83) id), opsK (E1083 n k) (regAt (bodyOf Tryz.f83) id) (opsOf (regAt (bodyOf Tryz.f83) id) π) (mkSt S.ent x) (fun s => getEns (E1083 n k).N S.out s) = some y := by
 intro id S hS
 by_cases h0 : id = 19
 ·subst h0
  obtain rfl := Option.some.inj (show some (Rimpl_pattern_make_o_R19 n (impl_pattern_make_o_R19 n (impl_pattern_make_o n k))) = some S from hS)
  exact ⟨by kernel_rfl, fun x y hy => exts_all6 false [] [0, 1, 2, 4, 5, 6, 7, 3, 8, 9] (by kernel_rfl) (by decide) (by kernel_rfl) (by kernel_rfl) (by kernel_rfl) (by kernel_rfl) (by kernel_rfl) ((eximpl_pattern_make_o_R19 n k x).trans (show impl_pattern_make_o_R19 n (impl_pattern_make_o n k) x = some y from hy))⟩
 ·exfalso
  have : (E1083 n k).Ω id = none := by
   show (match id with  | 19 => some (Rimpl_pattern_make_o_R19 n (impl_pattern_make_o_R19 n (impl_pattern_make_o n k))) | _ => none) = none
   split
   ·exact absurd rfl h0
   ·rfl
  rw [this] at hS; cases hS
theorem ob1083 {W : World} (hG : Facts W) (n : Nat) : ∀ k, Good Tryz.prog (Glob.of W) (83, S1083 n k)
 | 0 => ⟨plain_of Tryz.func83 (by kernel_rfl) (by kernel_rfl), fun _ _ _ _ _ _ _ h => by cases h⟩
 | k + 1 =>
  have ih := ob1083 hG n k
  ⟨plain_of Tryz.func83 (by kernel_rfl) (by kernel_rfl), obeys_of (S := S1083 n (k + 1)) (E := E1083 n k) Tryz.func83 mixed tabOk rfl (l := G1083 n k) (l2 := H1083 n k) ⟨ob99 hG n, ob195 hG n, ob193 hG n, ob196 hG n, trivial⟩ ⟨ih, trivial⟩ (by kernel_rfl) (by kernel_rfl) (Nat.le_of_ble_eq_true (by kernel_rfl)) (by kernel_rfl) (loopsOk_of 1 (by kernel_rfl) (fun i hi => match i, hi with | 0, _ => looped (S := Simpl_pattern_make_o_L11 n (impl_pattern_make_o_L11 n (impl_pattern_make_o n k) n)) (by kernel_rfl) (impl_pattern_make_o_L11 n (impl_pattern_make_o n k)) (fun _ => rfl) n rfl (fun m x => eqimpl_pattern_make_o_L11 n m k x)) (regs_at (by kernel_rfl) (rg1083 n k))) (eq1083 n k)⟩
theorem rg77 (n k : Nat) : ∀ id S, (E77 n k).Ω id = some S → aftOk (regAt (bodyOf Tryz.f77) id) = true ∧ ∀ x y, S.g x = some y → ∀ π ∈ exts (regAt (bodyOf Tryz.f77) id), opsK (E77 n k) (regAt (bodyOf Tryz.f77) id) (opsOf (regAt (bodyOf Tryz.f77) id) π) (mkSt S.ent x) (fun s => getEns (E77 n k).N S.out s) = some y := by
 intro id S hS
 by_cases h0 : id = 9
 ·subst h0
  obtain rfl := Option.some.inj (show some (Rimpl_pattern_match_R9 n (impl_pattern_match_R9 n (impl_pattern_match n k))) = some S from hS)
  exact ⟨by kernel_rfl, fun x y hy => exts_all6 false [] [0, 1, 2, 3, 4, 5, 6, 7, 8, 9, 10, 11, 12, 13, 14, 15, 16, 17, 18, 19, 20, 21, 22, 23, 24, 25, 26, 27] (by kernel_rfl) (by decide) (by kernel_rfl) (by kernel_rfl) (by kernel_rfl) (by kernel_rfl) (by kernel_rfl) ((eximpl_pattern_match_R9 n k x).trans (show impl_pattern_match_R9 n (impl_pattern_match n k) x = some y from hy))⟩
 by_cases h1 : id = 12
 ·subst h1
  obtain rfl := Option.some.inj (show some (Rimpl_pattern_match_R12 n (impl_pattern_match_R12 n (impl_pattern_match n k))) = some S from hS)
  exact ⟨by kernel_rfl, fun x y hy => exts_all6 false [] [0, 1, 2, 3, 4, 5, 6, 7, 8, 9, 10, 11, 12, 13, 14, 15, 16, 17, 18, 19, 20, 21, 22, 23, 24, 25, 26, 27, 28, 29, 30] (by kernel_rfl) (by decide) (by kernel_rfl) (by kernel_rfl) (by kernel_rfl) (by kernel_rfl) (by kernel_rfl) ((eximpl_pattern_match_R12 n k x).trans (show impl_pattern_match_R12 n (impl_pattern_match n k) x = some y from hy))⟩
 ·exfalso
  have : (E77 n k).Ω id = none := by
   show (match id with  | 9 => some (Rimpl_pattern_match_R9 n (impl_pattern_match_R9 n (impl_pattern_match n k))) | 12 => some (Rimpl_pattern_match_R12 n (impl_pattern_match_R12 n (impl_pattern_match n k))) | _ => none) = none
   split
   ·exact absurd rfl h0
   ·exact absurd rfl h1
   ·rfl
  rw [this] at hS; cases hS
theorem ob77 {W : World} (hG : Facts W) (n : Nat) : ∀ k, Good Tryz.prog (Glob.of W) (77, S77 n k)
 | 0 => ⟨plain_of Tryz.func77 (by kernel_rfl) (by kernel_rfl), fun _ _ _ _ _ _ _ h => by cases h⟩
 | k + 1 =>
  have ih := ob77 hG n k
  ⟨plain_of Tryz.func77 (by kernel_rfl) (by kernel_rfl), obeys_of (S := S77 n (k + 1)) (E := E77 n k) Tryz.func77 mixed tabOk rfl (l := G77 n k) (l2 := H77 n k) ⟨ih, ob193 hG n, ob82 hG n n, trivial⟩ ⟨ob1083 hG n n, trivial⟩ (by kernel_rfl) (by kernel_rfl) (Nat.le_of_ble_eq_true (by kernel_rfl)) (by kernel_rfl) (loopsOk_of 0 (by kernel_rfl) (fun i hi => absurd hi (Nat.not_lt_zero i)) (regs_at (by kernel_rfl) (rg77 n k))) (eq77 n k)⟩
theorem ob20 {W : World} (hG : Facts W) (n : Nat) : Good Tryz.prog (Glob.of W) (20, S20 n) :=
 ⟨plain_of Tryz.func20 (by kernel_rfl) (by kernel_rfl), obeys_of (S := S20 n) (E := E20 n) Tryz.func20 mixed tabOk rfl (l := G20 n) (l2 := []) ⟨ob73 hG n, ob71 hG n, ob75 hG n, ob74 hG n, ob27 hG n, ob76 hG, ob78 hG n, ob77 hG n n, trivial⟩ trivial (by kernel_rfl) (by kernel_rfl) (Nat.le_of_ble_eq_true (by kernel_rfl)) (by kernel_rfl) (loopsOk_of 0 (by kernel_rfl) (fun i hi => absurd hi (Nat.not_lt_zero i)) (fun p _ S h => by cases (show (none : Option RSum) = some S from h))) (eq20 n)⟩
theorem ob263 {W : World} (hG : Facts W) (n : Nat) : Good Tryz.prog (Glob.of W) (263, S263 n) :=
 ⟨plain_of Tryz.func263 (by kernel_rfl) (by kernel_rfl), obeys_of (S := S263 n) (E := E263 n) Tryz.func263 mixed tabOk rfl (l := G263 n) (l2 := []) trivial trivial (by kernel_rfl) (by kernel_rfl) (Nat.le_of_ble_eq_true (by kernel_rfl)) (by kernel_rfl) (loopsOk_of 1 (by kernel_rfl) (fun i hi => match i, hi with | 0, _ => looped (S := Sspec_l4Name_L3 n (spec_l4Name_L3 n n)) (by kernel_rfl) (spec_l4Name_L3 n) (fun _ => rfl) n rfl (fun m x => eqspec_l4Name_L3 n m x)) (fun p _ S h => by cases (show (none : Option RSum) = some S from h))) (eq263 n)⟩
theorem ob315 {W : World} (hG : Facts W) (n : Nat) : Good Tryz.prog (Glob.of W) (315, S315 n) :=
 ⟨plain_of Tryz.func315 (by kernel_rfl) (by kernel_rfl), obeys_of (S := S315 n) (E := E315 n) Tryz.func315 mixed tabOk rfl (l := G315 n) (l2 := []) trivial trivial (by kernel_rfl) (by kernel_rfl) (Nat.le_of_ble_eq_true (by kernel_rfl)) (by kernel_rfl) (loopsOk_of 0 (by kernel_rfl) (fun i hi => absurd hi (Nat.not_lt_zero i)) (fun p _ S h => by cases (show (none : Option RSum) = some S from h))) (eq315 n)⟩
theorem ob265 {W : World} (hG : Facts W) (n : Nat) : Good Tryz.prog (Glob.of W) (265, S265 n) :=
 ⟨plain_of Tryz.func265 (by kernel_rfl) (by kernel_rfl), obeys_of (S := S265 n) (E := E265 n) Tryz.func265 mixed tabOk rfl (l := G265 n) (l2 := []) trivial trivial (by kernel_rfl) (by kernel_rfl) (Nat.le_of_ble_eq_true (by kernel_rfl)) (by kernel_rfl) (loopsOk_of 0 (by kernel_rfl) (fun i hi => absurd hi (Nat.not_lt_zero i)) (fun p _ S h => by cases (show (none : Option RSum) = some S from h))) (eq265 n)⟩
theorem ob199 {W : World} (hG : Facts W) (n : Nat) : Good Tryz.prog (Glob.of W) (199, S199 n) :=
 ⟨plain_of Tryz.func199 (by kernel_rfl) (by kernel_rfl), obeys_of (S := S199 n) (E := E199 n) Tryz.func199 mixed tabOk rfl (l := G199 n) (l2 := []) ⟨ob223 hG n, trivial⟩ trivial (by kernel_rfl) (by kernel_rfl) (Nat.le_of_ble_eq_true (by kernel_rfl)) (by kernel_rfl) (loopsOk_of 0 (by kernel_rfl) (fun i hi => absurd hi (Nat.not_lt_zero i)) (fun p _ S h => by cases (show (none : Option RSum) = some S from h))) (eq199 n)⟩
theorem ob264_ {W : World} (hG : Facts W) (n k : Nat) (ih : Good Tryz.prog (Glob.of W) (190, S190 n k)) : Good Tryz.prog (Glob.of W) (264, S264 n k) :=
 ⟨plain_of Tryz.func264 (by kernel_rfl) (by kernel_rfl), obeys_of (S := S264 n k) (E := E264 n k) Tryz.func264 mixed tabOk rfl (l := G264 n k) (l2 := []) ⟨ob315 hG n, ih, trivial⟩ trivial (by kernel_rfl) (by kernel_rfl) (Nat.le_of_ble_eq_true (by kernel_rfl)) (by kernel_rfl) (loopsOk_of 0 (by kernel_rfl) (fun i hi => absurd hi (Nat.not_lt_zero i)) (fun p _ S h => by cases (show (none : Option RSum) = some S from h))) (eq264 n k)⟩
theorem ob190 {W : World} (hG : Facts W) (n : Nat) : ∀ k, Good Tryz.prog (Glob.of W) (190, S190 n k)
 | 0 => ⟨plain_of Tryz.func190 (by kernel_rfl) (by kernel_rfl), fun _ _ _ _ _ _ _ h => by cases h⟩
 | k + 1 =>
  have ih := ob190 hG n k
  ⟨plain_of Tryz.func190 (by kernel_rfl) (by kernel_rfl), obeys_of (S := S190 n (k + 1)) (E := E190 n k) Tryz.func190 mixed tabOk rfl (l := G190 n k) (l2 := []) ⟨ob199 hG n, ob263 hG n, ob264_ hG n k ih, ob265 hG n, ih, trivial⟩ trivial (by kernel_rfl) (by kernel_rfl) (Nat.le_of_ble_eq_true (by kernel_rfl)) (by kernel_rfl) (loopsOk_of 0 (by kernel_rfl) (fun i hi => absurd hi (Nat.not_lt_zero i)) (fun p _ S h => by cases (show (none : Option RSum) = some S from h))) (eq190 n k)⟩
theorem ob264 {W : World} (hG : Facts W) (n k : Nat) : Good Tryz.prog (Glob.of W) (264, S264 n k) := ob264_ hG n k (ob190 hG n k)
theorem ob72 {W : World} (hG : Facts W) (n : Nat) : Good Tryz.prog (Glob.of W) (72, S72 n) :=
 ⟨plain_of Tryz.func72 (by kernel_rfl) (by kernel_rfl), obeys_of (S := S72 n) (E := E72 n) Tryz.func72 mixed tabOk rfl (l := G72 n) (l2 := []) ⟨ob190 hG n n, trivial⟩ trivial (by kernel_rfl) (by kernel_rfl) (Nat.le_of_ble_eq_true (by kernel_rfl)) (by kernel_rfl) (loopsOk_of 0 (by kernel_rfl) (fun i hi => absurd hi (Nat.not_lt_zero i)) (fun p _ S h => by cases (show (none : Option RSum) = some S from h))) (eq72 n)⟩
theorem ob85 {W : World} (hG : Facts W) (n : Nat) : Good Tryz.prog (Glob.of W) (85, S85 n) :=
 ⟨plain_of Tryz.func85 (by kernel_rfl) (by kernel_rfl), obeys_of (S := S85 n) (E := E85 n) Tryz.func85 mixed tabOk rfl (l := G85 n) (l2 := []) ⟨ob88 hG n, trivial⟩ trivial (by kernel_rfl) (by kernel_rfl) (Nat.le_of_ble_eq_true (by kernel_rfl)) (by kernel_rfl) (loopsOk_of 1 (by kernel_rfl) (fun i hi => match i, hi with | 0, _ => looped (S := Sspec_l11Env_L4 n (spec_l11Env_L4 n n)) (by kernel_rfl) (spec_l11Env_L4 n) (fun _ => rfl) n rfl (fun m x => eqspec_l11Env_L4 n m x)) (fun p _ S h => by cases (show (none : Option RSum) = some S from h))) (eq85 n)⟩
theorem ob107 {W : World} (hG : Facts W) (n : Nat) : Good Tryz.prog (Glob.of W) (107, S107 n) :=
 ⟨plain_of Tryz.func107 (by kernel_rfl) (by kernel_rfl), obeys_of (S := S107 n) (E := E107 n) Tryz.func107 mixed tabOk rfl (l := G107 n) (l2 := []) ⟨ob108 hG n, trivial⟩ trivial (by kernel_rfl) (by kernel_rfl) (Nat.le_of_ble_eq_true (by kernel_rfl)) (by kernel_rfl) (loopsOk_of 0 (by kernel_rfl) (fun i hi => absurd hi (Nat.not_lt_zero i)) (fun p _ S h => by cases (show (none : Option RSum) = some S from h))) (eq107 n)⟩
theorem ob200 {W : World} (hG : Facts W) (n : Nat) : Good Tryz.prog (Glob.of W) (200, S200 n) :=
 ⟨plain_of Tryz.func200 (by kernel_rfl) (by kernel_rfl), obeys_of (S := S200 n) (E := E200 n) Tryz.func200 mixed tabOk rfl (l := G200 n) (l2 := []) ⟨ob88 hG n, ob108 hG n, trivial⟩ trivial (by kernel_rfl) (by kernel_rfl) (Nat.le_of_ble_eq_true (by kernel_rfl)) (by kernel_rfl) (loopsOk_of 0 (by kernel_rfl) (fun i hi => absurd hi (Nat.not_lt_zero i)) (fun p _ S h => by cases (show (none : Option RSum) = some S from h))) (eq200 n)⟩
theorem rg87 (n k : Nat) : ∀ id S, (E87 n k).Ω id = some S → aftOk (regAt (bodyOf Tryz.f87) id) = true ∧ ∀ x y, S.g x = some y → ∀ π ∈ exts (regAt (bodyOf Tryz.f87) id), opsK (E87 n k) (regAt (bodyOf Tryz.f87) id) (opsOf (regAt (bodyOf Tryz.f87) id) π) (mkSt S.ent x) (fun s => getEns (E87 n k).N S.out s) = some y := by
 intro id S hS
 by_cases h0 : id = 5
 ·subst h0
  obtain rfl := Option.some.inj (show some (Rspec_l11Make_R5 n (spec_l11Make_R5 n (spec_l11Make n k))) = some S from hS)
  exact ⟨by kernel_rfl, fun x y hy => exts_all6 true [(6, 8)] [0, 1, 2, 3, 4, 5, 6, 7] (by kernel_rfl) (by decide) (by kernel_rfl) (by kernel_rfl) (by kernel_rfl) (by kernel_rfl) (by kernel_rfl) ((exspec_l11Make_R5 n k x).trans (show spec_l11Make_R5 n (spec_l11Make n k) x = some y from hy))⟩
 ·exfalso
  have : (E87 n k).Ω id = none := by
   show (match id with  | 5 => some (Rspec_l11Make_R5 n (spec_l11Make_R5 n (spec_l11Make n k))) | _ => none) = none
   split
   ·exact absurd rfl h0
   ·rfl
  rw [this] at hS; cases hS
theorem ob87 {W : World} (hG : Facts W) (n : Nat) : ∀ k, Good Tryz.prog (Glob.of W) (87, S87 n k)
 | 0 => ⟨plain_of Tryz.func87 (by kernel_rfl) (by kernel_rfl), fun _ _ _ _ _ _ _ h => by cases h⟩
 | k + 1 =>
  have ih := ob87 hG n k
  ⟨plain_of Tryz.func87 (by kernel_rfl) (by kernel_rfl), obeys_of (S := S87 n (k + 1)) (E := E87 n k) Tryz.func87 mixed tabOk rfl (l := G87 n k) (l2 := []) ⟨ob107 hG n, ih, ob199 hG n, ob108 hG n, ob200 hG n, trivial⟩ trivial (by kernel_rfl) (by kernel_rfl) (Nat.le_of_ble_eq_true (by kernel_rfl)) (by kernel_rfl) (loopsOk_of 0 (by kernel_rfl) (fun i hi => absurd hi (Nat.not_lt_zero i)) (regs_at (by kernel_rfl) (rg87 n k))) (eq87 n k)⟩
theorem rg1087 (n k : Nat) : ∀ id S, (E1087 n k).Ω id = some S → aftOk (regAt (bodyOf Tryz.f87) id) = true ∧ ∀ x y, S.g x = some y → ∀ π ∈ exts (regAt (bodyOf Tryz.f87) id), opsK (E1087 n k) (regAt (bodyOf Tryz.f87) id) (opsOf (regAt (bodyOf Tryz.f87) id) π) (mkSt S.ent x) (fun s => getEns (E1087 n k).N S.out s) = some y := by
 intro id S hS
 by_cases h0 : id = 5
 ·subst h0
  obtain rfl := Option.some.inj (show some (Rspec_l11Make_o_R5 n (spec_l11Make_o_R5 n (spec_l11Make_o n k))) = some S from hS)
  exact ⟨by kernel_rfl, fun x y hy => exts_all6 true [(6, 8)] [0, 1, 2, 3, 4, 5, 6, 7] (by kernel_rfl) (by decide) (by kernel_rfl) (by kernel_rfl) (by kernel_rfl) (by kernel_rfl) (by kernel_rfl) ((exspec_l11Make_o_R5 n k x).trans (show spec_l11Make_o_R5 n (spec_l11Make_o n k) x = some y from hy))⟩
 ·exfalso
  have : (E1087 n k).Ω id = none := by
   show (match id with  | 5 => some (Rspec_l11Make_o_R5 n (spec_l11Make_o_R5 n (spec_l11Make_o n k))) | _ => none) = none
   split
   ·exact absurd rfl h0
   ·rfl
  rw [this] at hS; cases hS
theorem ob1087 {W : World} (hG : Facts W) (n : Nat) : ∀ k, Good Tryz.prog (Glob.of W) (87, S1087 n k)
 | 0 => ⟨plain_of Tryz.func87 (by kernel_rfl) (by kernel_rfl), fun _ _ _ _ _ _ _ h => by cases h⟩
 | k + 1 =>
  have ih := ob1087 hG n k
  ⟨plain_of Tryz.func87 (by kernel_rfl) (by kernel_rfl), obeys_of (S := S1087 n (k + 1)) (E := E1087 n k) Tryz.func87 mixed tabOk rfl (l := G1087 n k) (l2 := H1087 n k) ⟨ob107 hG n, ob199 hG n, ob108 hG n, ob200 hG n, trivial⟩ ⟨ih, ih, trivial⟩ (by kernel_rfl) (by kernel_rfl) (Nat.le_of_ble_eq_true (by kernel_rfl)) (by kernel_rfl) (loopsOk_of 0 (by kernel_rfl) (fun i hi => absurd hi (Nat.not_lt_zero i)) (regs_at (by kernel_rfl) (rg1087 n k))) (eq1087 n k)⟩
theorem rg201 (n k : Nat) : ∀ id S, (E201 n k).Ω id = some S → aftOk (regAt (bodyOf Tryz.f201) id) = true ∧ ∀ x y, S.g x = some y → ∀ π ∈ exts (regAt (bodyOf Tryz.f201) id), opsK (E201 n k) (regAt (bodyOf Tryz.f201) id) (opsOf (regAt (bodyOf Tryz.f201) id) π) (mkSt S.ent x) (fun s => getEns (E201 n k).N S.out s) = some y := by
 intro id S hS
 by_cases h0 : id = 6
 ·subst h0
  obtain rfl := Option.some.inj (show some (Rspec_l11Match_R6 n (spec_l11Match_R6 n (spec_l11Match n k))) = some S from hS)
  exact ⟨by kernel_rfl, fun x y hy => exts_all6 true [(8, 10)] [0, 1, 2, 3, 4, 5, 6, 7, 8, 9] (by kernel_rfl) (by decide) (by kernel_rfl) (by kernel_rfl) (by kernel_rfl) (by kernel_rfl) (by kernel_rfl) ((exspec_l11Match_R6 n k x).trans (show spec_l11Match_R6 n (spec_l11Match n k) x = some y from hy))⟩
 ·exfalso
  have : (E201 n k).Ω id = none := by
   show (match id with  | 6 => some (Rspec_l11Match_R6 n (spec_l11Match_R6 n (spec_l11Match n k))) | _ => none) = none
   split
   ·exact absurd rfl h0
   ·rfl
  rw [this] at hS; cases hS
theorem ob201 {W : World} (hG : Facts W) (n : Nat) : ∀ k, Good Tryz.prog (Glob.of W) (201, S201 n k)
 | 0 => ⟨plain_of Tryz.func201 (by kernel_rfl) (by kernel_rfl), fun _ _ _ _ _ _ _ h => by cases h⟩
 | k + 1 =>
  have ih := ob201 hG n k
  ⟨plain_of Tryz.func201 (by kernel_rfl) (by kernel_rfl), obeys_of (S := S201 n (k + 1)) (E := E201 n k) Tryz.func201 mixed tabOk rfl (l := G201 n k) (l2 := H201 n k) ⟨ih, trivial⟩ ⟨ob1087 hG n n, trivial⟩ (by kernel_rfl) (by kernel_rfl) (Nat.le_of_ble_eq_true (by kernel_rfl)) (by kernel_rfl) (loopsOk_of 0 (by kernel_rfl) (fun i hi => absurd hi (Nat.not_lt_zero i)) (regs_at (by kernel_rfl) (rg201 n k))) (eq201 n k)⟩
theorem ob89 {W : World} (hG : Facts W) (n : Nat) : Good Tryz.prog (Glob.of W) (89, S89 n) :=
 ⟨plain_of Tryz.func89 (by kernel_rfl) (by kernel_rfl), obeys_of (S := S89 n) (E := E89 n) Tryz.func89 mixed tabOk rfl (l := G89 n) (l2 := []) ⟨ob201 hG n n, trivial⟩ trivial (by kernel_rfl) (by kernel_rfl) (Nat.le_of_ble_eq_true (by kernel_rfl)) (by kernel_rfl) (loopsOk_of 0 (by kernel_rfl) (fun i hi => absurd hi (Nat.not_lt_zero i)) (fun p _ S h => by cases (show (none : Option RSum) = some S from h))) (eq89 n)⟩
theorem ob28 {W : World} (hG : Facts W) (n : Nat) : Good Tryz.prog (Glob.of W) (28, S28 n) :=
 ⟨plain_of Tryz.func28 (by kernel_rfl) (by kernel_rfl), obeys_of (S := S28 n) (E := E28 n) Tryz.func28 mixed tabOk rfl (l := G28 n) (l2 := []) ⟨ob84 hG n, ob72 hG n, ob86 hG n, ob85 hG n, ob88 hG n, ob89 hG n, trivial⟩ trivial (by kernel_rfl) (by kernel_rfl) (Nat.le_of_ble_eq_true (by kernel_rfl)) (by kernel_rfl) (loopsOk_of 0 (by kernel_rfl) (fun i hi => absurd hi (Nat.not_lt_zero i)) (fun p _ S h => by cases (show (none : Option RSum) = some S from h))) (eq28 n)⟩
theorem ob26 {W : World} (hG : Facts W) (n : Nat) : Good Tryz.prog (Glob.of W) (26, S26 n) :=
 ⟨plain_of Tryz.func26 (by kernel_rfl) (by kernel_rfl), obeys_of (S := S26 n) (E := E26 n) Tryz.func26 mixed tabOk rfl (l := G26 n) (l2 := []) trivial trivial (by kernel_rfl) (by kernel_rfl) (Nat.le_of_ble_eq_true (by kernel_rfl)) (by kernel_rfl) (loopsOk_of 1 (by kernel_rfl) (fun i hi => match i, hi with | 0, _ => looped (S := Slaws_sameInts_L4 n (laws_sameInts_L4 n n)) (by kernel_rfl) (laws_sameInts_L4 n) (fun _ => rfl) n rfl (fun m x => eqlaws_sameInts_L4 n m x)) (fun p _ S h => by cases (show (none : Option RSum) = some S from h))) (eq26 n)⟩
theorem ob24 {W : World} (hG : Facts W) (n : Nat) : Good Tryz.prog (Glob.of W) (24, S24 n) :=
 ⟨plain_of Tryz.func24 (by kernel_rfl) (by kernel_rfl), obeys_of (S := S24 n) (E := E24 n) Tryz.func24 mixed tabOk rfl (l := G24 n) (l2 := []) ⟨ob73 hG n, ob71 hG n, ob75 hG n, ob27 hG n, ob78 hG n, ob82 hG n n, ob83 hG n n, trivial⟩ trivial (by kernel_rfl) (by kernel_rfl) (Nat.le_of_ble_eq_true (by kernel_rfl)) (by kernel_rfl) (loopsOk_of 0 (by kernel_rfl) (fun i hi => absurd hi (Nat.not_lt_zero i)) (fun p _ S h => by cases (show (none : Option RSum) = some S from h))) (eq24 n)⟩
theorem ob1024 {W : World} (hG : Facts W) (n : Nat) : Good Tryz.prog (Glob.of W) (24, S1024 n) :=
 ⟨plain_of Tryz.func24 (by kernel_rfl) (by kernel_rfl), obeys_of (S := S1024 n) (E := E1024 n) Tryz.func24 mixed tabOk rfl (l := G1024 n) (l2 := []) ⟨ob73 hG n, ob71 hG n, ob75 hG n, ob27 hG n, ob78 hG n, ob82 hG n n, ob83 hG n n, trivial⟩ trivial (by kernel_rfl) (by kernel_rfl) (Nat.le_of_ble_eq_true (by kernel_rfl)) (by kernel_rfl) (loopsOk_of 0 (by kernel_rfl) (fun i hi => absurd hi (Nat.not_lt_zero i)) (fun p _ S h => by cases (show (none : Option RSum) = some S from h))) (eq1024 n)⟩
theorem ob5 {W : World} (hG : Facts W) (n : Nat) : Good Tryz.prog (Glob.of W) (5, S5 n) :=
 ⟨plain_of Tryz.func5 (by kernel_rfl) (by kernel_rfl), obeys_of (S := S5 n) (E := E5 n) Tryz.func5 mixed tabOk rfl (l := G5 n) (l2 := []) ⟨ob14 hG n, ob15 hG n, ob20 hG n, ob28 hG n, ob26 hG n, ob24 hG n, ob27 hG n, trivial⟩ trivial (by kernel_rfl) (by kernel_rfl) (Nat.le_of_ble_eq_true (by kernel_rfl)) (by kernel_rfl) (loopsOk_of 2 (by kernel_rfl) (fun i hi => match i, hi with | 0, _ => looped (S := Slaws_FnMatched_L11 n (laws_FnMatched_L11 n n)) (by kernel_rfl) (laws_FnMatched_L11 n) (fun _ => rfl) n rfl (fun m x => eqlaws_FnMatched_L11 n m x) | 1, _ => looped (S := Slaws_FnMatched_L17 n (laws_FnMatched_L17 n n)) (by kernel_rfl) (laws_FnMatched_L17 n) (fun _ => rfl) n rfl (fun m x => eqlaws_FnMatched_L17 n m x)) (fun p _ S h => by cases (show (none : Option RSum) = some S from h))) (eq5 n)⟩
end AM
end Go.Proofs.YtelkmjkclmjggaaGreatDoor
