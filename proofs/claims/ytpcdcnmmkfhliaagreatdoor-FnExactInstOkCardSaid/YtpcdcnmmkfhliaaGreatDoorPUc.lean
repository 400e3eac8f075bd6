/- The copies and comparisons that a law makes of what comes in, as plain functions: a copy is what it is a copy of. No condition. -/
import Derived.Test.YtpcdcnmmkfhliaaGreatDoorALd
namespace Go.Proofs.YtpcdcnmmkfhliaaGreatDoor
namespace AM
open Go
set_option linter.unusedVariables false
set_option linter.unusedSimpArgs false

/-- Longer than any list can be. -/
abbrev N0 : Nat := 1000000000000000000000000000000

theorem wrap_ok {n : Int} (h1 : -9223372036854775808 ≤ n) (h2 : n ≤ 9223372036854775807) : IntKind.i64.wrap n = n := by
  rw [IntKind.wrap_i64]; omega

theorem getD_of {α : Type} {l : List α} {i : Nat} (h : i < l.length) (d : α) : l.getD i d = l[i] := by
  rw [List.getD_eq_getElem?_getD, List.getElem?_eq_getElem h]; rfl

theorem inb_nat {i n : Nat} (h : i < n) : inb (i : Int) n = true := by
  unfold inb
  exact decide_eq_true ⟨Int.natCast_nonneg _, by omega⟩

theorem step_wrap {i n : Nat} (hi : i < n) (hn : n ≤ 4294967296) : IntKind.i64.wrap ((i : Int) + (1 : Int)) = ((i + 1 : Nat) : Int) := by
  rw [wrap_ok (by omega) (by omega)]; omega

/-- A list that has been copied so far. -/
theorem copy_set {α : Type} {xs ys : List α} {i : Nat} (hi : i < xs.length) (hl : ys.length = xs.length) (h : ∀ j, j < i → ys[j]? = xs[j]?) : (ys.set i xs[i]).length = xs.length ∧ ∀ j, j < i + 1 → (ys.set i xs[i])[j]? = xs[j]? := by
  refine ⟨by simp [hl], fun j hj => ?_⟩
  rw [List.getElem?_set]
  by_cases q : i = j
  · subst q
    rw [if_pos rfl, if_pos (by omega), List.getElem?_eq_getElem hi]
  · rw [if_neg q]; exact h j (by omega)

theorem copy_done {α : Type} {xs ys : List α} {i : Nat} (hi : xs.length ≤ i) (hl : ys.length = xs.length) (h : ∀ j, j < i → ys[j]? = xs[j]?) : ys = xs := by
  apply List.ext_getElem?
  intro j
  rcases Nat.lt_or_ge j i with q | q
  · exact h j q
  · rw [List.getElem?_eq_none (by omega), List.getElem?_eq_none (by omega)]

theorem toNodeS_loop (n : Nat) {xs : List (Int × Int × Int)} (hx : xs.length ≤ 4294967296) : ∀ (m i : Nat) (ys : List (Int × Int × Int)), i ≤ xs.length → ys.length = xs.length → (∀ j, j < i → ys[j]? = xs[j]?) → xs.length < m + i → laws_toNodeS_L3 n m (xs, ys, (i : Int)) = some xs
  | 0, i, ys, hi, hl, h, hm => by omega
  | m + 1, i, ys, hi, hl, h, hm => by
    show (cond (decide ((i : Int) < (xs.length : Int))) _ _) = _
    by_cases q : i < xs.length
    · rw [decide_eq_true (by omega : (i : Int) < (xs.length : Int)), cond_true]
      show (cond (inb (i : Int) xs.length) _ none) = _
      rw [inb_nat q, cond_true]
      show (cond (inb (i : Int) ys.length) (laws_toNodeS_L3 n m (xs, ys.set ((i : Int)).toNat (xs.getD ((i : Int)).toNat ((0 : Int), ((0 : Int), (0 : Int)))), IntKind.i64.wrap ((i : Int) + (1 : Int)))) none) = _
      rw [inb_nat (by omega), cond_true, step_wrap q hx, Int.toNat_natCast, getD_of q]
      obtain ⟨h1, h2⟩ := copy_set q hl h
      exact toNodeS_loop n hx m (i + 1) _ q h1 h2 (by omega)
    · rw [decide_eq_false (by omega : ¬ (i : Int) < (xs.length : Int)), cond_false]
      rw [copy_done (by omega) hl h]

theorem toIntS_loop (n : Nat) {xs : List Int} (hx : xs.length ≤ 4294967296) : ∀ (m i : Nat) (ys : List Int), i ≤ xs.length → ys.length = xs.length → (∀ j, j < i → ys[j]? = xs[j]?) → xs.length < m + i → laws_toIntS_L3 n m (xs, ys, (i : Int)) = some xs
  | 0, i, ys, hi, hl, h, hm => by omega
  | m + 1, i, ys, hi, hl, h, hm => by
    show (cond (decide ((i : Int) < (xs.length : Int))) _ _) = _
    by_cases q : i < xs.length
    · rw [decide_eq_true (by omega : (i : Int) < (xs.length : Int)), cond_true]
      show (cond (inb (i : Int) xs.length) (cond (inb (i : Int) ys.length) (laws_toIntS_L3 n m (xs, ys.set ((i : Int)).toNat (xs.getD ((i : Int)).toNat (0 : Int)), IntKind.i64.wrap ((i : Int) + (1 : Int)))) none) none) = _
      rw [inb_nat q, inb_nat (by omega), cond_true, cond_true, step_wrap q hx, Int.toNat_natCast, getD_of q]
      obtain ⟨h1, h2⟩ := copy_set q hl h
      exact toIntS_loop n hx m (i + 1) _ q h1 h2 (by omega)
    · rw [decide_eq_false (by omega : ¬ (i : Int) < (xs.length : Int)), cond_false]
      rw [copy_done (by omega) hl h]

theorem toNodeS_eq (n : Nat) (hn : 4294967296 < n) {xs : List (Int × Int × Int)} (hx : xs.length ≤ 4294967296) : laws_toNodeS n xs = some xs := by
  unfold laws_toNodeS
  rw [decide_eq_true (by omega : 0 ≤ (xs.length : Int) ∧ (xs.length : Int) ≤ (xs.length : Int) ∧ (xs.length : Int) ≤ 4294967296), cond_true]
  have := toNodeS_loop n hx n 0 (List.replicate ((xs.length : Int)).toNat ((0 : Int), ((0 : Int), (0 : Int)))) (Nat.zero_le _) (by simp) (fun j hj => by omega) (by omega)
  rw [show ((0 : Nat) : Int) = (0 : Int) from rfl] at this
  rw [this]; rfl
theorem toIntS_eq (n : Nat) (hn : 4294967296 < n) {xs : List Int} (hx : xs.length ≤ 4294967296) : laws_toIntS n xs = some xs := by
  unfold laws_toIntS
  rw [decide_eq_true (by omega : 0 ≤ (xs.length : Int) ∧ (xs.length : Int) ≤ (xs.length : Int) ∧ (xs.length : Int) ≤ 4294967296), cond_true]
  have := toIntS_loop n hx n 0 (List.replicate ((xs.length : Int)).toNat (0 : Int)) (Nat.zero_le _) (by simp) (fun j hj => by omega) (by omega)
  rw [show ((0 : Nat) : Int) = (0 : Int) from rfl] at this
  rw [this]; rfl
theorem toPool_eq (n : Nat) (hn : 4294967296 < n) {xs : List (Int × Int × Int)} (hx : xs.length ≤ 4294967296) : laws_toPool n xs = some xs := by
  unfold laws_toPool
  rw [toNodeS_eq n hn hx]; rfl
theorem toInst_eq (n : Nat) (hn : 4294967296 < n) {a b c d e : Int} {v : List Int} {f g : Bool} {k : Int} (hx : v.length ≤ 4294967296) : laws_toInst n (a, b, c, d, e, v, f, g, k) = some (a, b, c, d, e, v, f, g, k) := by
  show ((laws_toIntS n v).bind fun r1 => some (a, b, c, d, e, r1, f, g, k)) = _
  rw [toIntS_eq n hn hx]; rfl

/-! ### A list is held against itself -/
theorem eqNodeS_loop (n : Nat) {xs : List (Int × Int × Int)} (hx : xs.length ≤ 4294967296) : ∀ (m i : Nat), i ≤ xs.length → xs.length < m + i → laws_eqNodeS_L4 n m (xs, xs, (i : Int)) = some (Sum.inr ())
  | 0, i, hi, hm => by omega
  | m + 1, i, hi, hm => by
    show (cond (decide ((i : Int) < (xs.length : Int))) _ _) = _
    by_cases q : i < xs.length
    · rw [decide_eq_true (by omega : (i : Int) < (xs.length : Int)), cond_true]
      show (cond (inb (i : Int) xs.length) (cond (inb (i : Int) xs.length) ((laws_eqNode n _).bind fun r1 => (cond (!r1) (some (Sum.inl false)) (laws_eqNodeS_L4 n m (xs, xs, IntKind.i64.wrap ((i : Int) + (1 : Int)))))) none) none) = _
      rw [inb_nat q, cond_true, cond_true]
      generalize xs.getD ((i : Int)).toNat ((0 : Int), ((0 : Int), (0 : Int))) = p
      have : laws_eqNode n (p.1, p.2.1, p.2.2, p.1, p.2.1, p.2.2) = some true := by simp [laws_eqNode]
      rw [this, step_wrap q hx]
      exact eqNodeS_loop n hx m (i + 1) q (by omega)
    · rw [decide_eq_false (by omega : ¬ (i : Int) < (xs.length : Int)), cond_false]
theorem eqIntS_loop (n : Nat) {xs : List Int} (hx : xs.length ≤ 4294967296) : ∀ (m i : Nat), i ≤ xs.length → xs.length < m + i → laws_eqIntS_L4 n m (xs, xs, (i : Int)) = some (Sum.inr ())
  | 0, i, hi, hm => by omega
  | m + 1, i, hi, hm => by
    show (cond (decide ((i : Int) < (xs.length : Int))) _ _) = _
    by_cases q : i < xs.length
    · rw [decide_eq_true (by omega : (i : Int) < (xs.length : Int)), cond_true]
      show (cond (inb (i : Int) xs.length) (cond (inb (i : Int) xs.length) (cond (xs.getD ((i : Int)).toNat (0 : Int) != xs.getD ((i : Int)).toNat (0 : Int)) (some (Sum.inl false)) (laws_eqIntS_L4 n m (xs, xs, IntKind.i64.wrap ((i : Int) + (1 : Int))))) none) none) = _
      rw [inb_nat q, cond_true, cond_true, bne_self_eq_false, cond_false, step_wrap q hx]
      exact eqIntS_loop n hx m (i + 1) q (by omega)
    · rw [decide_eq_false (by omega : ¬ (i : Int) < (xs.length : Int)), cond_false]
theorem eqPool_self (n : Nat) (hn : 4294967296 < n) {xs : List (Int × Int × Int)} (hx : xs.length ≤ 4294967296) : laws_eqPool n (xs, xs) = some true := by
  unfold laws_eqPool laws_eqNodeS
  have := eqNodeS_loop n hx n 0 (Nat.zero_le _) (by omega)
  rw [show ((0 : Nat) : Int) = (0 : Int) from rfl] at this
  simp only [bne_self_eq_false, cond_false, this]; rfl
theorem eqInst_self (n : Nat) (hn : 4294967296 < n) {a b c d e : Int} {v : List Int} {f g : Bool} {k : Int} (hx : v.length ≤ 4294967296) : laws_eqInst n (a, b, c, d, e, v, f, g, k, a, b, c, d, e, v, f, g, k) = some true := by
  have h2 : laws_eqIntS n (v, v) = some true := by
    unfold laws_eqIntS
    have := eqIntS_loop n hx n 0 (Nat.zero_le _) (by omega)
    rw [show ((0 : Nat) : Int) = (0 : Int) from rfl] at this
    simp only [bne_self_eq_false, cond_false, this]; rfl
  unfold laws_eqInst
  simp only [bne_self_eq_false, cond_false, h2, Option.bind_some, Bool.not_true]
end AM
end Go.Proofs.YtpcdcnmmkfhliaaGreatDoor
