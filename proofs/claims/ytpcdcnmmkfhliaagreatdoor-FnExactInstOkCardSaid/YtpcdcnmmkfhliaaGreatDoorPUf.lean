/- An instance is right by the program just when it is by the reference, as plain functions. No condition. -/
import Derived.Test.YtpcdcnmmkfhliaaGreatDoorPUe
namespace Go.Proofs.YtpcdcnmmkfhliaaGreatDoor
namespace AM
open Go
set_option linter.unusedVariables false
set_option linter.unusedSimpArgs false

def hasB (xs : List Node3) (v : Int) : Bool := decide (v ≥ 0) && decide (v ≤ (xs.length : Int) - 1)
theorem has_eq (n : Nat) {xs : List Node3} (hx : xs.length ≤ 4294967296) (v : Int) : spec_l1Has n (xs, v) = some (hasB xs v) := by
  show ((spec_l1In n (v, (0 : Int), IntKind.i64.wrap ((xs.length : Int) - (1 : Int)))).bind fun r1 => some r1) = _
  rw [wrap_ok (by omega) (by omega), in_eq]; rfl
theorem isTerm_eq (n : Nat) {xs : List Node3} (hx : xs.length ≤ 4294967296) (v : Int) : impl_Pool_isTerm n (xs, v) = some (xs, hasB xs v) := by
  show ((impl_inRange n (v, (0 : Int), IntKind.i64.wrap ((xs.length : Int) - (1 : Int)))).bind fun r1 => some (xs, r1)) = _
  rw [wrap_ok (by omega) (by omega), inRange_eq]; rfl

def envB (xs : List Node3) : List Int → Bool
  | [] => true
  | v :: r => (v == -1 || hasB xs v) && envB xs r

theorem implEnv_loop (n : Nat) {xs : List Node3} (hx : xs.length ≤ 4294967296) {env : List Int} (he : env.length ≤ 4294967296) : ∀ (m : Nat) (pre r : List Int), env = pre ++ r → r.length < m →
    impl_EnvOk_L2 n m (env, xs, env, (env.length : Int), (pre.length : Int)) = some (bif envB xs r then Sum.inr (env, xs) else Sum.inl false)
  | 0, pre, r, h, hm => by omega
  | m + 1, pre, [], h, hm => by
    show (cond (decide ((pre.length : Int) < (env.length : Int))) _ _) = _
    rw [decide_eq_false (by rw [h]; simp), cond_false]; rfl
  | m + 1, pre, v :: r, h, hm => by
    have hlt : pre.length < env.length := by rw [h]; simp
    have hk : env[pre.length] = v := by simp [h]
    have e0 : impl_EnvOk_L2 n (m + 1) (env, xs, env, (env.length : Int), (pre.length : Int)) = (cond (decide ((pre.length : Int) < (env.length : Int))) (cond (inb (pre.length : Int) env.length) (cond ((env.getD ((pre.length : Int)).toNat (0 : Int)) != (-1 : Int)) ((impl_Pool_isTerm n (xs, (env.getD ((pre.length : Int)).toNat (0 : Int)))).bind fun r1 => (cond (!r1.2) (some (Sum.inl false)) (impl_EnvOk_L2 n m (env, r1.1, env, (env.length : Int), (IntKind.i64.wrap ((pre.length : Int) + (1 : Int))))))) (impl_EnvOk_L2 n m (env, xs, env, (env.length : Int), (IntKind.i64.wrap ((pre.length : Int) + (1 : Int)))))) none) (some (Sum.inr (env, xs)))) := rfl
    rw [e0, decide_eq_true (by omega : (pre.length : Int) < (env.length : Int)), cond_true, inb_nat hlt, cond_true, Int.toNat_natCast, getD_of hlt, hk, step_wrap hlt he, isTerm_eq n hx]
    have ih := implEnv_loop n hx he m (pre ++ [v]) r (by simpa using h) (by simp at hm; omega)
    rw [show (pre ++ [v]).length = pre.length + 1 by simp] at ih
    simp only [Option.bind_some, ih]
    rw [show envB xs (v :: r) = ((v == -1 || hasB xs v) && envB xs r) from rfl, show (v != -1) = !(v == -1) from rfl]
    cases v == -1 <;> cases hasB xs v <;> cases envB xs r <;> rfl

theorem implEnv_eq (n : Nat) (hn : 4294967296 < n) {xs : List Node3} (hx : xs.length ≤ 4294967296) {env : List Int} (he : env.length ≤ 4294967296) :
    impl_EnvOk n (xs, env) = some (envB xs env && (decide (env.length = 26) && (decide (xs.length ≤ 500) && okFrom n [] xs))) := by
  have := implEnv_loop n hx he n [] env rfl (by omega)
  rw [show (([] : List Int).length : Int) = (0 : Int) from rfl] at this
  show ((impl_EnvOk_L2 n n (env, xs, env, (env.length : Int), (0 : Int))).bind _) = _
  rw [this]
  cases envB xs env with
  | false => rfl
  | true =>
    show (cond ((env.length : Int) == (26 : Int)) ((impl_PoolOk n xs).bind fun r5 => some r5) (some false)) = _
    rw [implPool_eq n hn hx]
    by_cases q : env.length = 26
    · rw [show ((env.length : Int) == (26 : Int)) = true by rw [q]; rfl, decide_eq_true q]; rfl
    · rw [show ((env.length : Int) == (26 : Int)) = false by simp; omega, decide_eq_false q]; rfl

theorem specEnv_loop (n : Nat) {xs : List Node3} (hx : xs.length ≤ 4294967296) {env : List Int} (he : env.length = 26) : ∀ (m : Nat) (pre r : List Int), env = pre ++ r → r.length < m →
    spec_l11Env_L4 n m (env, xs, (pre.length : Int)) = some (bif envB xs r then Sum.inr () else Sum.inl false)
  | 0, pre, r, h, hm => by omega
  | m + 1, pre, [], h, hm => by
    show (cond (decide ((pre.length : Int) < (26 : Int))) _ _) = _
    have : pre.length = 26 := by rw [h] at he; simpa using he
    rw [decide_eq_false (by omega), cond_false]; rfl
  | m + 1, pre, v :: r, h, hm => by
    have hlt : pre.length < env.length := by rw [h]; simp
    have hk : env[pre.length] = v := by simp [h]
    have e0 : spec_l11Env_L4 n (m + 1) (env, xs, (pre.length : Int)) = (cond (decide ((pre.length : Int) < (26 : Int))) (cond (inb (pre.length : Int) env.length) (cond ((env.getD ((pre.length : Int)).toNat (0 : Int)) != (-1 : Int)) (cond (inb (pre.length : Int) env.length) ((spec_l1Has n (xs, (env.getD ((pre.length : Int)).toNat (0 : Int)))).bind fun r1 => (cond (!r1) (some (Sum.inl false)) (spec_l11Env_L4 n m (env, xs, (IntKind.i64.wrap ((pre.length : Int) + (1 : Int))))))) none) (spec_l11Env_L4 n m (env, xs, (IntKind.i64.wrap ((pre.length : Int) + (1 : Int)))))) none) (some (Sum.inr ()))) := rfl
    rw [e0, decide_eq_true (by omega : (pre.length : Int) < (26 : Int)), cond_true, inb_nat hlt, cond_true, cond_true, Int.toNat_natCast, getD_of hlt, hk, step_wrap hlt (by omega), has_eq n hx]
    have ih := specEnv_loop n hx he m (pre ++ [v]) r (by simpa using h) (by simp at hm; omega)
    rw [show (pre ++ [v]).length = pre.length + 1 by simp] at ih
    simp only [Option.bind_some, ih]
    rw [show envB xs (v :: r) = ((v == -1 || hasB xs v) && envB xs r) from rfl, show (v != -1) = !(v == -1) from rfl]
    cases v == -1 <;> cases hasB xs v <;> cases envB xs r <;> rfl

theorem specEnv_eq (n : Nat) (hn : 4294967296 < n) {xs : List Node3} (hx : xs.length ≤ 4294967296) {env : List Int} : spec_l11Env n (xs, env) = some (decide (env.length = 26) && envB xs env) := by
  show (cond ((env.length : Int) != (26 : Int)) (some false) ((spec_l11Env_L4 n n (env, xs, (0 : Int))).bind _)) = _
  by_cases q : env.length = 26
  · have := specEnv_loop n hx q n [] env rfl (by omega)
    rw [show (([] : List Int).length : Int) = (0 : Int) from rfl] at this
    rw [show ((env.length : Int) != (26 : Int)) = false by rw [q]; rfl, cond_false, this, decide_eq_true q]
    cases envB xs env <;> rfl
  · rw [show ((env.length : Int) != (26 : Int)) = true by simp; omega, decide_eq_false q]; rfl

/-! ### Roles: six texts -/
theorem role_of {w p : Int} {L : Nat} (h1 : (impl_roleOf N0 (w, p)).map (fun r => (r.1.length, r.2)) = some (L, true)) (h2 : (spec_l12Acts N0 (w, p)).map List.length = some L) (h3 : spec_l13Role N0 (w, p) = some true) (h4 : L ≤ 20) :
    ∃ a b, impl_roleOf N0 (w, p) = some (a, true) ∧ spec_l12Acts N0 (w, p) = some b ∧ a.length = b.length ∧ a.length ≤ 20 ∧ spec_l13Role N0 (w, p) = some true := by
  cases e1 : impl_roleOf N0 (w, p) with
  | none => rw [e1] at h1; cases h1
  | some r =>
    cases e2 : spec_l12Acts N0 (w, p) with
    | none => rw [e2] at h2; cases h2
    | some b =>
      rw [e1] at h1
      rw [e2] at h2
      obtain ⟨g1, g2⟩ := Prod.mk.inj (Option.some.inj h1)
      have g3 : b.length = L := Option.some.inj h2
      obtain ⟨a, t⟩ := r
      have g2 : t = true := g2
      subst g2
      exact ⟨a, b, rfl, rfl, by rw [g3]; exact g1, by have : a.length = L := g1; omega, h3⟩

theorem role_in (w p : Int) (hw : w = 1 ∨ w = 2 ∨ w = 3) (hp : p = 0 ∨ p = 1) : ∃ a b, impl_roleOf N0 (w, p) = some (a, true) ∧ spec_l12Acts N0 (w, p) = some b ∧ a.length = b.length ∧ a.length ≤ 20 ∧ spec_l13Role N0 (w, p) = some true := by
  rcases hw with rfl | rfl | rfl <;> rcases hp with rfl | rfl
  all_goals exact role_of (L := 5) (by kernel_rfl) (by kernel_rfl) (by kernel_rfl) (by omega)
end AM
end Go.Proofs.YtpcdcnmmkfhliaaGreatDoor
