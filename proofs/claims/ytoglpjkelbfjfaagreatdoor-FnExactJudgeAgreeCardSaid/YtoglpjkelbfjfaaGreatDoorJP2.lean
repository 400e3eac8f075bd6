/- Small laws on whole numbers that wrap, on strings as lists of bytes, and on answers that may be none. No condition. And what follows it: see the remarks. -/
import Derived.Test.YtoglpjkelbfjfaaGreatDoorJW3
import Derived.Lib.ItoaNum
import Derived.Lib.IndexMore
import Derived.Laws.BitsLemmas
import Derived.Test.YtoglpjkelbfjfaaGreatDoorJALd
import Derived.Test.YtoglpjkelbfjfaaGreatDoorJP1

/-! Small laws on whole numbers that wrap, on strings as lists of bytes, and on answers that may be none. No condition. -/
namespace Go.Proofs.YtoglpjkelbfjfaaGreatDoor
namespace AM
open Go
set_option linter.unusedSimpArgs false
set_option linter.unusedVariables false

end AM
end Go.Proofs.YtoglpjkelbfjfaaGreatDoor

/-! The copies and comparisons that a law makes of what comes in, as plain functions: a copy is what it is a copy of. No condition. -/
namespace Go.Proofs.YtoglpjkelbfjfaaGreatDoor
namespace AM
open Go
set_option linter.unusedVariables false
set_option linter.unusedSimpArgs false

/-- Longer than any list can be. -/
abbrev N0 : Nat := 1000000000000000000000000000000

theorem wrap_ok {n : Int} (h1 : -9223372036854775808 ≤ n) (h2 : n ≤ 9223372036854775807) : IntKind.i64.wrap n = n := by
  rw [IntKind.wrap_i64]; omega

theorem getD_of {α : Type} {l : List α} {i : Nat} (h : i < l.length) (d : α) : l.getD i d = l[i] := by
  rw [List.getD_eq_getElem?_getD, List.getElem?_eq_getElem h]; rfl

theorem inb_nat {i n : Nat} (h : i < n) : inb (i : Int) n = true := by
  unfold inb
  exact decide_eq_true ⟨Int.natCast_nonneg _, by omega⟩

theorem step_wrap {i n : Nat} (hi : i < n) (hn : n ≤ 4294967296) : IntKind.i64.wrap ((i : Int) + (1 : Int)) = ((i + 1 : Nat) : Int) := by
  rw [wrap_ok (by omega) (by omega)]; omega

/-- A list that has been copied so far. -/
theorem copy_set {α : Type} {xs ys : List α} {i : Nat} (hi : i < xs.length) (hl : ys.length = xs.length) (h : ∀ j, j < i → ys[j]? = xs[j]?) : (ys.set i xs[i]).length = xs.length ∧ ∀ j, j < i + 1 → (ys.set i xs[i])[j]? = xs[j]? := by
  refine ⟨by simp [hl], fun j hj => ?_⟩
  rw [List.getElem?_set]
  by_cases q : i = j
  · subst q
    rw [if_pos rfl, if_pos (by omega), List.getElem?_eq_getElem hi]
  · rw [if_neg q]; exact h j (by omega)

theorem copy_done {α : Type} {xs ys : List α} {i : Nat} (hi : xs.length ≤ i) (hl : ys.length = xs.length) (h : ∀ j, j < i → ys[j]? = xs[j]?) : ys = xs := by
  apply List.ext_getElem?
  intro j
  rcases Nat.lt_or_ge j i with q | q
  · exact h j q
  · rw [List.getElem?_eq_none (by omega), List.getElem?_eq_none (by omega)]

theorem toNodeS_loop (n : Nat) {xs : List (Int × Int × Int)} (hx : xs.length ≤ 4294967296) : ∀ (m i : Nat) (ys : List (Int × Int × Int)), i ≤ xs.length → ys.length = xs.length → (∀ j, j < i → ys[j]? = xs[j]?) → xs.length < m + i → laws_toNodeS_L3 n m (xs, ys, (i : Int)) = some xs
  | 0, i, ys, hi, hl, h, hm => by omega
  | m + 1, i, ys, hi, hl, h, hm => by
    show (cond (decide ((i : Int) < (xs.length : Int))) _ _) = _
    by_cases q : i < xs.length
    · rw [decide_eq_true (by omega : (i : Int) < (xs.length : Int)), cond_true]
      show (cond (inb (i : Int) xs.length) _ none) = _
      rw [inb_nat q, cond_true]
      show (cond (inb (i : Int) ys.length) (laws_toNodeS_L3 n m (xs, ys.set ((i : Int)).toNat (xs.getD ((i : Int)).toNat ((0 : Int), ((0 : Int), (0 : Int)))), IntKind.i64.wrap ((i : Int) + (1 : Int)))) none) = _
      rw [inb_nat (by omega), cond_true, step_wrap q hx, Int.toNat_natCast, getD_of q]
      obtain ⟨h1, h2⟩ := copy_set q hl h
      exact toNodeS_loop n hx m (i + 1) _ q h1 h2 (by omega)
    · rw [decide_eq_false (by omega : ¬ (i : Int) < (xs.length : Int)), cond_false]
      rw [copy_done (by omega) hl h]

theorem toIntS_loop (n : Nat) {xs : List Int} (hx : xs.length ≤ 4294967296) : ∀ (m i : Nat) (ys : List Int), i ≤ xs.length → ys.length = xs.length → (∀ j, j < i → ys[j]? = xs[j]?) → xs.length < m + i → laws_toIntS_L3 n m (xs, ys, (i : Int)) = some xs
  | 0, i, ys, hi, hl, h, hm => by omega
  | m + 1, i, ys, hi, hl, h, hm => by
    show (cond (decide ((i : Int) < (xs.length : Int))) _ _) = _
    by_cases q : i < xs.length
    · rw [decide_eq_true (by omega : (i : Int) < (xs.length : Int)), cond_true]
      show (cond (inb (i : Int) xs.length) (cond (inb (i : Int) ys.length) (laws_toIntS_L3 n m (xs, ys.set ((i : Int)).toNat (xs.getD ((i : Int)).toNat (0 : Int)), IntKind.i64.wrap ((i : Int) + (1 : Int)))) none) none) = _
      rw [inb_nat q, inb_nat (by omega), cond_true, cond_true, step_wrap q hx, Int.toNat_natCast, getD_of q]
      obtain ⟨h1, h2⟩ := copy_set q hl h
      exact toIntS_loop n hx m (i + 1) _ q h1 h2 (by omega)
    · rw [decide_eq_false (by omega : ¬ (i : Int) < (xs.length : Int)), cond_false]
      rw [copy_done (by omega) hl h]

theorem toNodeS_eq (n : Nat) (hn : 4294967296 < n) {xs : List (Int × Int × Int)} (hx : xs.length ≤ 4294967296) : laws_toNodeS n xs = some xs := by
  unfold laws_toNodeS
  rw [decide_eq_true (by omega : 0 ≤ (xs.length : Int) ∧ (xs.length : Int) ≤ (xs.length : Int) ∧ (xs.length : Int) ≤ 4294967296), cond_true]
  have := toNodeS_loop n hx n 0 (List.replicate ((xs.length : Int)).toNat ((0 : Int), ((0 : Int), (0 : Int)))) (Nat.zero_le _) (by simp) (fun j hj => by omega) (by omega)
  rw [show ((0 : Nat) : Int) = (0 : Int) from rfl] at this
  rw [this]; rfl
theorem toIntS_eq (n : Nat) (hn : 4294967296 < n) {xs : List Int} (hx : xs.length ≤ 4294967296) : laws_toIntS n xs = some xs := by
  unfold laws_toIntS
  rw [decide_eq_true (by omega : 0 ≤ (xs.length : Int) ∧ (xs.length : Int) ≤ (xs.length : Int) ∧ (xs.length : Int) ≤ 4294967296), cond_true]
  have := toIntS_loop n hx n 0 (List.replicate ((xs.length : Int)).toNat (0 : Int)) (Nat.zero_le _) (by simp) (fun j hj => by omega) (by omega)
  rw [show ((0 : Nat) : Int) = (0 : Int) from rfl] at this
  rw [this]; rfl
theorem toPool_eq (n : Nat) (hn : 4294967296 < n) {xs : List (Int × Int × Int)} (hx : xs.length ≤ 4294967296) : laws_toPool n xs = some xs := by
  unfold laws_toPool
  rw [toNodeS_eq n hn hx]; rfl
theorem toInst_eq (n : Nat) (hn : 4294967296 < n) {a b c d e : Int} {v : List Int} {f g : Bool} {k : Int} (hx : v.length ≤ 4294967296) : laws_toInst n (a, b, c, d, e, v, f, g, k) = some (a, b, c, d, e, v, f, g, k) := by
  show ((laws_toIntS n v).bind fun r1 => some (a, b, c, d, e, r1, f, g, k)) = _
  rw [toIntS_eq n hn hx]; rfl

/-! ### A list is held against itself -/
theorem eqNodeS_loop (n : Nat) {xs : List (Int × Int × Int)} (hx : xs.length ≤ 4294967296) : ∀ (m i : Nat), i ≤ xs.length → xs.length < m + i → laws_eqNodeS_L4 n m (xs, xs, (i : Int)) = some (Sum.inr ())
  | 0, i, hi, hm => by omega
  | m + 1, i, hi, hm => by
    show (cond (decide ((i : Int) < (xs.length : Int))) _ _) = _
    by_cases q : i < xs.length
    · rw [decide_eq_true (by omega : (i : Int) < (xs.length : Int)), cond_true]
      show (cond (inb (i : Int) xs.length) (cond (inb (i : Int) xs.length) ((laws_eqNode n _).bind fun r1 => (cond (!r1) (some (Sum.inl false)) (laws_eqNodeS_L4 n m (xs, xs, IntKind.i64.wrap ((i : Int) + (1 : Int)))))) none) none) = _
      rw [inb_nat q, cond_true, cond_true]
      generalize xs.getD ((i : Int)).toNat ((0 : Int), ((0 : Int), (0 : Int))) = p
      have : laws_eqNode n (p.1, p.2.1, p.2.2, p.1, p.2.1, p.2.2) = some true := by simp [laws_eqNode]
      rw [this, step_wrap q hx]
      exact eqNodeS_loop n hx m (i + 1) q (by omega)
    · rw [decide_eq_false (by omega : ¬ (i : Int) < (xs.length : Int)), cond_false]
theorem eqIntS_loop (n : Nat) {xs : List Int} (hx : xs.length ≤ 4294967296) : ∀ (m i : Nat), i ≤ xs.length → xs.length < m + i → laws_eqIntS_L4 n m (xs, xs, (i : Int)) = some (Sum.inr ())
  | 0, i, hi, hm => by omega
  | m + 1, i, hi, hm => by
    show (cond (decide ((i : Int) < (xs.length : Int))) _ _) = _
    by_cases q : i < xs.length
    · rw [decide_eq_true (by omega : (i : Int) < (xs.length : Int)), cond_true]
      show (cond (inb (i : Int) xs.length) (cond (inb (i : Int) xs.length) (cond (xs.getD ((i : Int)).toNat (0 : Int) != xs.getD ((i : Int)).toNat (0 : Int)) (some (Sum.inl false)) (laws_eqIntS_L4 n m (xs, xs, IntKind.i64.wrap ((i : Int) + (1 : Int))))) none) none) = _
      rw [inb_nat q, cond_true, cond_true, bne_self_eq_false, cond_false, step_wrap q hx]
      exact eqIntS_loop n hx m (i + 1) q (by omega)
    · rw [decide_eq_false (by omega : ¬ (i : Int) < (xs.length : Int)), cond_false]
theorem eqPool_self (n : Nat) (hn : 4294967296 < n) {xs : List (Int × Int × Int)} (hx : xs.length ≤ 4294967296) : laws_eqPool n (xs, xs) = some true := by
  unfold laws_eqPool laws_eqNodeS
  have := eqNodeS_loop n hx n 0 (Nat.zero_le _) (by omega)
  rw [show ((0 : Nat) : Int) = (0 : Int) from rfl] at this
  simp only [bne_self_eq_false, cond_false, this]; rfl
theorem eqInst_self (n : Nat) (hn : 4294967296 < n) {a b c d e : Int} {v : List Int} {f g : Bool} {k : Int} (hx : v.length ≤ 4294967296) : laws_eqInst n (a, b, c, d, e, v, f, g, k, a, b, c, d, e, v, f, g, k) = some true := by
  have h2 : laws_eqIntS n (v, v) = some true := by
    unfold laws_eqIntS
    have := eqIntS_loop n hx n 0 (Nat.zero_le _) (by omega)
    rw [show ((0 : Nat) : Int) = (0 : Int) from rfl] at this
    simp only [bne_self_eq_false, cond_false, this]; rfl
  unfold laws_eqInst
  simp only [bne_self_eq_false, cond_false, h2, Option.bind_some, Bool.not_true]
end AM
end Go.Proofs.YtoglpjkelbfjfaaGreatDoor

/-! A counter of keys, as the program lays it: what stands at a key behind a put. No condition. -/
namespace Go.Proofs.YtoglpjkelbfjfaaGreatDoor
namespace AM
open Go
set_option linter.unusedVariables false
set_option linter.unusedSimpArgs false

theorem eqv_self : ∀ (t : Ty), t.hasSl = false → ∀ x : t.den, t.eqv x x = true
  | .int _, _, x => by simp [Ty.eqv]
  | .bool, _, x => by simp [Ty.eqv]
  | .str, _, x => decide_eq_true rfl
  | .sl _, h, _ => by cases h
  | .pr a b, h, x => by
    have h : (a.hasSl || b.hasSl) = false := h
    rw [Bool.or_eq_false_iff] at h
    show (a.eqv x.1 x.1 && b.eqv x.2 x.2) = true
    rw [eqv_self a h.1, eqv_self b h.2]; rfl

theorem mfind_len {kt : Ty} {k : kt.den} {m : List (kt.den × Int)} {j : Nat} {v : Int} (h : mfind kt k m 0 = some (j, v)) : j < m.length := by
  obtain ⟨_, h2⟩ := mfind_spec h
  exact (List.getElem?_eq_some_iff.1 h2).1

theorem mset_set {α : Type} {y : Int} {k : α} {c : Int} : ∀ {m : List (α × Int)} {j : Nat}, j < m.length → msetG y (m.set j (k, c)) j = m.set j (k, y)
  | [], _, h => by simp at h
  | p :: r, 0, _ => rfl
  | p :: r, j + 1, h => by
    show p :: msetG y (r.set j (k, c)) j = p :: r.set j (k, y)
    rw [mset_set (by simpa using h)]
theorem mset_push {α : Type} {y : Int} {k : α} {c : Int} : ∀ {m : List (α × Int)}, msetG y (m ++ [(k, c)]) m.length = m ++ [(k, y)]
  | [] => rfl
  | p :: r => by
    show p :: msetG y (r ++ [(k, c)]) r.length = p :: (r ++ [(k, y)])
    rw [mset_push]

/-- To put an entry and then to write its value is to put the value. -/
theorem mset_mput {kt : Ty} {k : kt.den} {c y : Int} {m : List (kt.den × Int)} : mset (mpos kt k m) y (mput kt k c m) = mput kt k y m := by
  unfold mset mpos mput
  cases h : mfind kt k m 0 with
  | some p =>
    obtain ⟨j, v⟩ := p
    dsimp only
    rw [Int.toNat_natCast]
    exact mset_set (mfind_len h)
  | none =>
    dsimp only
    rw [Int.toNat_natCast]
    exact mset_push
theorem mpos_in {kt : Ty} {k : kt.den} {c : Int} {m : List (kt.den × Int)} : inb (mpos kt k m) (mput kt k c m).length = true := by
  unfold mpos mput
  cases h : mfind kt k m 0 with
  | some p =>
    obtain ⟨j, v⟩ := p
    dsimp only
    rw [List.length_set]
    exact inb_nat (mfind_len h)
  | none =>
    dsimp only
    rw [List.length_append]
    exact inb_nat (by simp)

theorem mfind_set_ne {kt : Ty} {k k' : kt.den} {x : Int} (hne : kt.eqv k' k = false) : ∀ {m : List (kt.den × Int)} {i j : Nat} {v : Int}, mfind kt k m i = some (j, v) → mfind kt k' (m.set (j - i) (k, x)) i = mfind kt k' m i
  | [], _, _, _, h => by cases h
  | p :: r, i, j, v, h => by
    unfold mfind at h
    cases q : kt.eqv k p.1 with
    | true =>
      rw [q] at h
      obtain ⟨rfl, rfl⟩ := Prod.mk.inj (Option.some.inj h)
      rw [Nat.sub_self, List.set_cons_zero]
      have := eqv_eq kt q
      unfold mfind
      rw [hne, ← this, hne]
      rfl
    | false =>
      rw [q] at h
      have h : mfind kt k r (i + 1) = some (j, v) := h
      obtain ⟨h1, _⟩ := mfind_spec h
      rw [show j - i = (j - (i + 1)) + 1 by omega, List.set_cons_succ]
      unfold mfind
      rw [mfind_set_ne hne h]
theorem mfind_push_ne {kt : Ty} {k k' : kt.den} {x : Int} (hne : kt.eqv k' k = false) : ∀ {m : List (kt.den × Int)} {i : Nat}, mfind kt k' (m ++ [(k, x)]) i = mfind kt k' m i
  | [], i => by
    show mfind kt k' [(k, x)] i = _
    unfold mfind
    rw [hne]; rfl
  | p :: r, i => by
    show mfind kt k' (p :: (r ++ [(k, x)])) i = _
    unfold mfind
    rw [mfind_push_ne hne]
theorem mget_mput_ne {kt : Ty} {k k' : kt.den} {x : Int} {m : List (kt.den × Int)} (hne : kt.eqv k' k = false) : mget kt k' (mput kt k x m) = mget kt k' m := by
  unfold mget mput
  cases h : mfind kt k m 0 with
  | some p =>
    obtain ⟨j, v⟩ := p
    have := mfind_set_ne (x := x) hne h
    rw [Nat.sub_zero] at this
    simp only [this]
  | none => simp only [mfind_push_ne hne]
end AM
end Go.Proofs.YtoglpjkelbfjfaaGreatDoor

/-! A pool is right by the program just when it is by the reference, as plain functions. No condition. -/
namespace Go.Proofs.YtoglpjkelbfjfaaGreatDoor
namespace AM
open Go
set_option linter.unusedVariables false
set_option linter.unusedSimpArgs false

abbrev Node3 := Int × (Int × Int)
abbrev kN : Ty := .pr (.int .i64) (.pr (.int .i64) (.int .i64))

theorem inRange_eq (n : Nat) (a b c : Int) : impl_inRange n (a, b, c) = some (decide (a ≥ b) && decide (a ≤ c)) := by
  unfold impl_inRange
  cases decide (a ≥ b) <;> rfl
theorem in_eq (n : Nat) (a b c : Int) : spec_l1In n (a, b, c) = some (decide (a ≥ b) && decide (a ≤ c)) := inRange_eq n a b c
theorem count_some (n : Nat) (x : Int) : ∃ v, impl_count n x = some v := by
  unfold impl_count
  simp only [cond_eq_ite]
  repeat' split
  all_goals exact ⟨_, rfl⟩
theorem nodeOk_some (n : Nat) (x : Int × Int × Int × Int) : ∃ v, impl_nodeOk n x = some v := by
  unfold impl_nodeOk
  obtain ⟨v, hv⟩ := count_some n x.1
  rw [hv]
  simp only [Option.bind_some, inRange_eq, cond_eq_ite]
  repeat' split
  all_goals exact ⟨_, rfl⟩
def nodeV (n : Nat) (x : Int × Int × Int × Int) : Bool := (impl_nodeOk n x).getD false
theorem nodeOk_eq (n : Nat) (x) : impl_nodeOk n x = some (nodeV n x) := by
  obtain ⟨v, hv⟩ := nodeOk_some n x
  unfold nodeV
  rw [hv]; rfl
theorem right_eq (n : Nat) (x) : spec_l1Right n x = some (nodeV n x) := nodeOk_eq n x

/-- The rest of a pool is right behind what stands before. -/
def okFrom (n : Nat) (pre : List Node3) : List Node3 → Bool
  | [] => true
  | k :: r => (!pre.contains k && nodeV n (k.1, k.2.1, k.2.2, (pre.length : Int))) && okFrom n (pre ++ [k]) r

theorem find_loop (n : Nat) {pre r : List Node3} {k : Node3} (hx : (pre ++ k :: r).length ≤ 4294967296) : ∀ (m j : Nat), j ≤ pre.length → pre.length < m + j →
    ∃ q : Nat, spec_l1Find_L2 n m (pre ++ k :: r, k.1, k.2.1, k.2.2, (j : Int)) = some (Sum.inl (q : Int)) ∧ q ≤ pre.length ∧ (q = pre.length ↔ k ∉ pre.drop j)
  | 0, j, h1, h2 => by omega
  | m + 1, j, h1, h2 => by
    have hlt : j < (pre ++ k :: r).length := by simp; omega
    have e0 : spec_l1Find_L2 n (m + 1) (pre ++ k :: r, k.1, k.2.1, k.2.2, (j : Int)) = (cond (decide ((j : Int) < ((pre ++ k :: r).length : Int))) (cond (inb (j : Int) (pre ++ k :: r).length) (cond (((pre ++ k :: r).getD ((j : Int)).toNat ((0 : Int), ((0 : Int), (0 : Int)))).1 == k.1 && (((pre ++ k :: r).getD ((j : Int)).toNat ((0 : Int), ((0 : Int), (0 : Int)))).2.1 == k.2.1 && (((pre ++ k :: r).getD ((j : Int)).toNat ((0 : Int), ((0 : Int), (0 : Int)))).2.2 == k.2.2 && true))) (some (Sum.inl (j : Int))) (spec_l1Find_L2 n m (pre ++ k :: r, k.1, k.2.1, k.2.2, IntKind.i64.wrap ((j : Int) + (1 : Int))))) none) (some (Sum.inr ()))) := rfl
    rw [e0, decide_eq_true (by omega : (j : Int) < ((pre ++ k :: r).length : Int)), cond_true, inb_nat hlt, cond_true, Int.toNat_natCast, getD_of hlt]
    have heq : ∀ p : Node3, (p.1 == k.1 && (p.2.1 == k.2.1 && (p.2.2 == k.2.2 && true))) = decide (p = k) := by
      intro p
      obtain ⟨p1, p2, p3⟩ := p
      obtain ⟨k1, k2, k3⟩ := k
      rw [Bool.eq_iff_iff]
      simp
    rw [heq]
    rcases Nat.lt_or_ge j pre.length with q | q
    · have hg : (pre ++ k :: r)[j] = pre[j] := List.getElem_append_left q
      rw [hg]
      have hd : pre.drop j = pre[j] :: pre.drop (j + 1) := List.drop_eq_getElem_cons q
      by_cases hk : pre[j] = k
      · rw [decide_eq_true hk, cond_true]
        exact ⟨j, rfl, by omega, by rw [hd, hk]; simp; omega⟩
      · rw [decide_eq_false hk, cond_false, step_wrap hlt hx]
        obtain ⟨z, g1, g2, g3⟩ := find_loop n hx m (j + 1) q (by omega)
        refine ⟨z, g1, g2, g3.trans ?_⟩
        rw [hd, List.mem_cons]
        constructor
        · intro h h2
          rcases h2 with h2 | h2
          · exact hk h2.symm
          · exact h h2
        · exact fun h h2 => h (.inr h2)
    · have hj : j = pre.length := by omega
      subst hj
      rw [show (pre ++ k :: r)[pre.length] = k by simp, decide_eq_true rfl, cond_true]
      exact ⟨pre.length, rfl, Nat.le_refl _, by simp⟩

theorem find_eq (n : Nat) (hn : 4294967296 < n) {pre r : List Node3} {k : Node3} (hx : (pre ++ k :: r).length ≤ 4294967296) : ∃ q : Int, spec_l1Find n (pre ++ k :: r, k.1, k.2.1, k.2.2) = some q ∧ (q != (pre.length : Int)) = pre.contains k := by
  have hlen : pre.length < n := by have : pre.length ≤ (pre ++ k :: r).length := by simp
                                   omega
  obtain ⟨z, g1, g2, g3⟩ := find_loop n hx n 0 (Nat.zero_le _) (by omega)
  refine ⟨(z : Int), ?_, ?_⟩
  · show ((spec_l1Find_L2 n n (pre ++ k :: r, k.1, k.2.1, k.2.2, ((0 : Nat) : Int))).bind _) = _
    rw [g1]; rfl
  · rw [List.drop_zero] at g3
    rw [Bool.eq_iff_iff]
    simp only [bne_iff_ne, ne_eq, List.contains_iff_mem]
    constructor
    · intro h
      exact Classical.byContradiction fun h2 => h (by rw [g3.2 h2])
    · intro h h2
      exact (g3.1 (by omega)) h

theorem specPool_loop (n : Nat) (hn : 4294967296 < n) : ∀ (m : Nat) (pre r : List Node3), (pre ++ r).length ≤ 4294967296 → r.length < m → spec_PoolOk_L4 n m (pre ++ r, (pre.length : Int)) = some (bif okFrom n pre r then Sum.inr () else Sum.inl false)
  | 0, pre, r, hx, hm => by omega
  | m + 1, pre, [], hx, hm => by
    show (cond (decide ((pre.length : Int) < ((pre ++ []).length : Int))) _ _) = _
    rw [decide_eq_false (by simp), cond_false]; rfl
  | m + 1, pre, k :: r, hx, hm => by
    have hlt : pre.length < (pre ++ k :: r).length := by simp
    have e0 : spec_PoolOk_L4 n (m + 1) (pre ++ k :: r, (pre.length : Int)) = (cond (decide ((pre.length : Int) < ((pre ++ k :: r).length : Int))) (cond (inb (pre.length : Int) (pre ++ k :: r).length) ((spec_l1Right n (((pre ++ k :: r).getD ((pre.length : Int)).toNat ((0 : Int), ((0 : Int), (0 : Int)))).1, ((pre ++ k :: r).getD ((pre.length : Int)).toNat ((0 : Int), ((0 : Int), (0 : Int)))).2.1, ((pre ++ k :: r).getD ((pre.length : Int)).toNat ((0 : Int), ((0 : Int), (0 : Int)))).2.2, (pre.length : Int))).bind fun r1 => (cond (!r1) (some (Sum.inl false)) (cond (inb (pre.length : Int) (pre ++ k :: r).length) ((spec_l1Find n (pre ++ k :: r, ((pre ++ k :: r).getD ((pre.length : Int)).toNat ((0 : Int), ((0 : Int), (0 : Int)))).1, ((pre ++ k :: r).getD ((pre.length : Int)).toNat ((0 : Int), ((0 : Int), (0 : Int)))).2.1, ((pre ++ k :: r).getD ((pre.length : Int)).toNat ((0 : Int), ((0 : Int), (0 : Int)))).2.2)).bind fun r2 => (cond (r2 != (pre.length : Int)) (some (Sum.inl false)) (spec_PoolOk_L4 n m (pre ++ k :: r, IntKind.i64.wrap ((pre.length : Int) + (1 : Int)))))) none))) none) (some (Sum.inr ()))) := rfl
    obtain ⟨q, g1, g2⟩ := find_eq n hn (pre := pre) (r := r) (k := k) hx
    rw [e0, decide_eq_true (by omega : (pre.length : Int) < ((pre ++ k :: r).length : Int)), cond_true, inb_nat hlt, cond_true, Int.toNat_natCast, getD_of hlt, show (pre ++ k :: r)[pre.length] = k by simp, right_eq, g1]
    simp only [Option.bind_some, cond_true]
    rw [g2, step_wrap hlt hx]
    have ih := specPool_loop n hn m (pre ++ [k]) r (by simpa using hx) (by simp at hm; omega)
    rw [show pre ++ [k] ++ r = pre ++ k :: r by simp, show (pre ++ [k]).length = pre.length + 1 by simp] at ih
    rw [ih]
    rw [show okFrom n pre (k :: r) = ((!pre.contains k && nodeV n (k.1, k.2.1, k.2.2, (pre.length : Int))) && okFrom n (pre ++ [k]) r) from rfl]
    cases nodeV n (k.1, k.2.1, k.2.2, (pre.length : Int)) <;> cases pre.contains k <;> cases okFrom n (pre ++ [k]) r <;> rfl

theorem specPool_eq (n : Nat) (hn : 4294967296 < n) {xs : List Node3} (hx : xs.length ≤ 4294967296) : spec_PoolOk n xs = some (decide (xs.length ≤ 500) && okFrom n [] xs) := by
  unfold spec_PoolOk
  by_cases q : xs.length ≤ 500
  · rw [decide_eq_false (by omega : ¬ (xs.length : Int) > (500 : Int)), cond_false, decide_eq_true q, Bool.true_and]
    have := specPool_loop n hn n [] xs (by simpa using hx) (by omega)
    rw [List.nil_append, show (([] : List Node3).length : Int) = (0 : Int) from rfl] at this
    rw [this]
    cases okFrom n [] xs <;> rfl
  · rw [decide_eq_true (by omega : (xs.length : Int) > (500 : Int)), cond_true, decide_eq_false q]; rfl

/-! ### The program's side: a counter -/
def Cnt (kvs : List (Node3 × Int)) (pre : List Node3) : Prop := ∀ k : Node3, mget kN k kvs = if k ∈ pre then 1 else 0

theorem eqv_N {a b : Node3} : kN.eqv a b = decide (a = b) := by
  rw [Bool.eq_iff_iff, decide_eq_true_iff]
  exact ⟨eqv_eq kN, fun h => h ▸ eqv_self kN rfl a⟩

theorem region_eq (n : Nat) (kvs : List (Node3 × Int)) (i a b c : Int) (xs : List Node3) (l j : Int) : impl_PoolOk_R7 n (kvs, i, a, b, c, xs, l, j) = some (mput kN (a, b, c) (IntKind.i64.wrap (mget kN (a, b, c) kvs + (1 : Int))) kvs, i, a, b, c, xs, l, j) := by
  unfold impl_PoolOk_R7
  rw [mpos_in, cond_true, mset_mput]

theorem implPool_loop (n : Nat) {xs : List Node3} (hx : xs.length ≤ 4294967296) : ∀ (m : Nat) (pre r : List Node3) (kvs : List (Node3 × Int)), xs = pre ++ r → Cnt kvs pre → r.length < m → impl_PoolOk_L5 n m (kvs, xs, (xs.length : Int), (pre.length : Int)) = some (bif okFrom n pre r then Sum.inr () else Sum.inl false)
  | 0, pre, r, kvs, he, hc, hm => by omega
  | m + 1, pre, [], kvs, he, hc, hm => by
    show (cond (decide ((pre.length : Int) < (xs.length : Int))) _ _) = _
    rw [decide_eq_false (by rw [he]; simp), cond_false]; rfl
  | m + 1, pre, k :: r, kvs, he, hc, hm => by
    have hlt : pre.length < xs.length := by rw [he]; simp
    have hk : xs[pre.length] = k := by simp [he]
    have e0 : impl_PoolOk_L5 n (m + 1) (kvs, xs, (xs.length : Int), (pre.length : Int)) = (cond (decide ((pre.length : Int) < (xs.length : Int))) (cond (inb (pre.length : Int) xs.length) ((impl_PoolOk_R7 n (kvs, (pre.length : Int), (xs.getD ((pre.length : Int)).toNat ((0 : Int), ((0 : Int), (0 : Int)))).1, (xs.getD ((pre.length : Int)).toNat ((0 : Int), ((0 : Int), (0 : Int)))).2.1, (xs.getD ((pre.length : Int)).toNat ((0 : Int), ((0 : Int), (0 : Int)))).2.2, xs, (xs.length : Int), (pre.length : Int))).bind fun g1 => (cond (decide ((mget kN (g1.2.2.1, (g1.2.2.2.1, g1.2.2.2.2.1)) g1.1) > (1 : Int))) (some (Sum.inl false)) ((impl_nodeOk n (g1.2.2.1, g1.2.2.2.1, g1.2.2.2.2.1, g1.2.1)).bind fun r2 => (cond (!r2) (some (Sum.inl false)) (impl_PoolOk_L5 n m (g1.1, g1.2.2.2.2.2.1, g1.2.2.2.2.2.2.1, (IntKind.i64.wrap (g1.2.2.2.2.2.2.2 + (1 : Int))))))))) none) (some (Sum.inr ()))) := rfl
    rw [e0, decide_eq_true (by omega : (pre.length : Int) < (xs.length : Int)), cond_true, inb_nat hlt, cond_true, Int.toNat_natCast, getD_of hlt, hk, region_eq]
    simp only [Option.bind_some]
    have hself : kN.eqv (k.1, k.2.1, k.2.2) (k.1, k.2.1, k.2.2) = true := eqv_self kN rfl _
    have hke : ((k.1, k.2.1, k.2.2) : Node3) = k := rfl
    rw [mget_mput hself, nodeOk_eq, step_wrap hlt hx]
    rw [show okFrom n pre (k :: r) = ((!pre.contains k && nodeV n (k.1, k.2.1, k.2.2, (pre.length : Int))) && okFrom n (pre ++ [k]) r) from rfl]
    have hck := hc k
    by_cases hin : k ∈ pre
    · rw [if_pos hin] at hck
      have : pre.contains k = true := by simpa using hin
      rw [this, show mget kN (k.1, k.2.1, k.2.2) kvs = 1 from hck]
      rfl
    · rw [if_neg hin] at hck
      have hcf : pre.contains k = false := by simpa using hin
      rw [hcf, show mget kN (k.1, k.2.1, k.2.2) kvs = 0 from hck]
      rw [show decide (IntKind.i64.wrap ((0 : Int) + (1 : Int)) > (1 : Int)) = false from rfl, cond_false]
      have ih := implPool_loop n hx m (pre ++ [k]) r (mput kN k (IntKind.i64.wrap ((0 : Int) + (1 : Int))) kvs) (by simpa using he) (by
        intro k'
        by_cases q : k' = k
        · subst q
          rw [mget_mput (eqv_self kN rfl k')]
          simp; rfl
        · rw [mget_mput_ne (by rw [eqv_N]; exact decide_eq_false q), hc k']
          simp [q]) (by simp at hm; omega)
      rw [show (pre ++ [k]).length = pre.length + 1 by simp] at ih
      simp only [Option.bind_some]
      rw [show mput kN (k.1, k.2.1, k.2.2) (IntKind.i64.wrap ((0 : Int) + (1 : Int))) kvs = mput kN k (IntKind.i64.wrap ((0 : Int) + (1 : Int))) kvs from rfl, ih]
      cases nodeV n (k.1, k.2.1, k.2.2, (pre.length : Int)) <;> cases okFrom n (pre ++ [k]) r <;> rfl

theorem implPool_eq (n : Nat) (hn : 4294967296 < n) {xs : List Node3} (hx : xs.length ≤ 4294967296) : impl_PoolOk n xs = some (decide (xs.length ≤ 500) && okFrom n [] xs) := by
  unfold impl_PoolOk
  by_cases q : xs.length ≤ 500
  · rw [decide_eq_false (by omega : ¬ (xs.length : Int) > (500 : Int)), cond_false, decide_eq_true q, Bool.true_and]
    have := implPool_loop n hx n [] xs [] rfl (fun k => by simp [mget, mfind]) (by omega)
    rw [show (([] : List Node3).length : Int) = (0 : Int) from rfl] at this
    rw [this]
    cases okFrom n [] xs <;> rfl
  · rw [decide_eq_true (by omega : (xs.length : Int) > (500 : Int)), cond_true, decide_eq_false q]; rfl

end AM
end Go.Proofs.YtoglpjkelbfjfaaGreatDoor

/-! An instance is right by the program just when it is by the reference, as plain functions. No condition. -/
namespace Go.Proofs.YtoglpjkelbfjfaaGreatDoor
namespace AM
open Go
set_option linter.unusedVariables false
set_option linter.unusedSimpArgs false

def hasB (xs : List Node3) (v : Int) : Bool := decide (v ≥ 0) && decide (v ≤ (xs.length : Int) - 1)
theorem has_eq (n : Nat) {xs : List Node3} (hx : xs.length ≤ 4294967296) (v : Int) : spec_l1Has n (xs, v) = some (hasB xs v) := by
  show ((spec_l1In n (v, (0 : Int), IntKind.i64.wrap ((xs.length : Int) - (1 : Int)))).bind fun r1 => some r1) = _
  rw [wrap_ok (by omega) (by omega), in_eq]; rfl
theorem isTerm_eq (n : Nat) {xs : List Node3} (hx : xs.length ≤ 4294967296) (v : Int) : impl_Pool_isTerm n (xs, v) = some (xs, hasB xs v) := by
  show ((impl_inRange n (v, (0 : Int), IntKind.i64.wrap ((xs.length : Int) - (1 : Int)))).bind fun r1 => some (xs, r1)) = _
  rw [wrap_ok (by omega) (by omega), inRange_eq]; rfl

def envB (xs : List Node3) : List Int → Bool
  | [] => true
  | v :: r => (v == -1 || hasB xs v) && envB xs r

theorem implEnv_loop (n : Nat) {xs : List Node3} (hx : xs.length ≤ 4294967296) {env : List Int} (he : env.length ≤ 4294967296) : ∀ (m : Nat) (pre r : List Int), env = pre ++ r → r.length < m →
    impl_EnvOk_L2 n m (env, xs, env, (env.length : Int), (pre.length : Int)) = some (bif envB xs r then Sum.inr (env, xs) else Sum.inl false)
  | 0, pre, r, h, hm => by omega
  | m + 1, pre, [], h, hm => by
    show (cond (decide ((pre.length : Int) < (env.length : Int))) _ _) = _
    rw [decide_eq_false (by rw [h]; simp), cond_false]; rfl
  | m + 1, pre, v :: r, h, hm => by
    have hlt : pre.length < env.length := by rw [h]; simp
    have hk : env[pre.length] = v := by simp [h]
    have e0 : impl_EnvOk_L2 n (m + 1) (env, xs, env, (env.length : Int), (pre.length : Int)) = (cond (decide ((pre.length : Int) < (env.length : Int))) (cond (inb (pre.length : Int) env.length) (cond ((env.getD ((pre.length : Int)).toNat (0 : Int)) != (-1 : Int)) ((impl_Pool_isTerm n (xs, (env.getD ((pre.length : Int)).toNat (0 : Int)))).bind fun r1 => (cond (!r1.2) (some (Sum.inl false)) (impl_EnvOk_L2 n m (env, r1.1, env, (env.length : Int), (IntKind.i64.wrap ((pre.length : Int) + (1 : Int))))))) (impl_EnvOk_L2 n m (env, xs, env, (env.length : Int), (IntKind.i64.wrap ((pre.length : Int) + (1 : Int)))))) none) (some (Sum.inr (env, xs)))) := rfl
    rw [e0, decide_eq_true (by omega : (pre.length : Int) < (env.length : Int)), cond_true, inb_nat hlt, cond_true, Int.toNat_natCast, getD_of hlt, hk, step_wrap hlt he, isTerm_eq n hx]
    have ih := implEnv_loop n hx he m (pre ++ [v]) r (by simpa using h) (by simp at hm; omega)
    rw [show (pre ++ [v]).length = pre.length + 1 by simp] at ih
    simp only [Option.bind_some, ih]
    rw [show envB xs (v :: r) = ((v == -1 || hasB xs v) && envB xs r) from rfl, show (v != -1) = !(v == -1) from rfl]
    cases v == -1 <;> cases hasB xs v <;> cases envB xs r <;> rfl

theorem implEnv_eq (n : Nat) (hn : 4294967296 < n) {xs : List Node3} (hx : xs.length ≤ 4294967296) {env : List Int} (he : env.length ≤ 4294967296) :
    impl_EnvOk n (xs, env) = some (envB xs env && (decide (env.length = 26) && (decide (xs.length ≤ 500) && okFrom n [] xs))) := by
  have := implEnv_loop n hx he n [] env rfl (by omega)
  rw [show (([] : List Int).length : Int) = (0 : Int) from rfl] at this
  show ((impl_EnvOk_L2 n n (env, xs, env, (env.length : Int), (0 : Int))).bind _) = _
  rw [this]
  cases envB xs env with
  | false => rfl
  | true =>
    show (cond ((env.length : Int) == (26 : Int)) ((impl_PoolOk n xs).bind fun r5 => some r5) (some false)) = _
    rw [implPool_eq n hn hx]
    by_cases q : env.length = 26
    · rw [show ((env.length : Int) == (26 : Int)) = true by rw [q]; rfl, decide_eq_true q]; rfl
    · rw [show ((env.length : Int) == (26 : Int)) = false by simp; omega, decide_eq_false q]; rfl

theorem specEnv_loop (n : Nat) {xs : List Node3} (hx : xs.length ≤ 4294967296) {env : List Int} (he : env.length = 26) : ∀ (m : Nat) (pre r : List Int), env = pre ++ r → r.length < m →
    spec_l11Env_L4 n m (env, xs, (pre.length : Int)) = some (bif envB xs r then Sum.inr () else Sum.inl false)
  | 0, pre, r, h, hm => by omega
  | m + 1, pre, [], h, hm => by
    show (cond (decide ((pre.length : Int) < (26 : Int))) _ _) = _
    have : pre.length = 26 := by rw [h] at he; simpa using he
    rw [decide_eq_false (by omega), cond_false]; rfl
  | m + 1, pre, v :: r, h, hm => by
    have hlt : pre.length < env.length := by rw [h]; simp
    have hk : env[pre.length] = v := by simp [h]
    have e0 : spec_l11Env_L4 n (m + 1) (env, xs, (pre.length : Int)) = (cond (decide ((pre.length : Int) < (26 : Int))) (cond (inb (pre.length : Int) env.length) (cond ((env.getD ((pre.length : Int)).toNat (0 : Int)) != (-1 : Int)) (cond (inb (pre.length : Int) env.length) ((spec_l1Has n (xs, (env.getD ((pre.length : Int)).toNat (0 : Int)))).bind fun r1 => (cond (!r1) (some (Sum.inl false)) (spec_l11Env_L4 n m (env, xs, (IntKind.i64.wrap ((pre.length : Int) + (1 : Int))))))) none) (spec_l11Env_L4 n m (env, xs, (IntKind.i64.wrap ((pre.length : Int) + (1 : Int)))))) none) (some (Sum.inr ()))) := rfl
    rw [e0, decide_eq_true (by omega : (pre.length : Int) < (26 : Int)), cond_true, inb_nat hlt, cond_true, cond_true, Int.toNat_natCast, getD_of hlt, hk, step_wrap hlt (by omega), has_eq n hx]
    have ih := specEnv_loop n hx he m (pre ++ [v]) r (by simpa using h) (by simp at hm; omega)
    rw [show (pre ++ [v]).length = pre.length + 1 by simp] at ih
    simp only [Option.bind_some, ih]
    rw [show envB xs (v :: r) = ((v == -1 || hasB xs v) && envB xs r) from rfl, show (v != -1) = !(v == -1) from rfl]
    cases v == -1 <;> cases hasB xs v <;> cases envB xs r <;> rfl

theorem specEnv_eq (n : Nat) (hn : 4294967296 < n) {xs : List Node3} (hx : xs.length ≤ 4294967296) {env : List Int} : spec_l11Env n (xs, env) = some (decide (env.length = 26) && envB xs env) := by
  show (cond ((env.length : Int) != (26 : Int)) (some false) ((spec_l11Env_L4 n n (env, xs, (0 : Int))).bind _)) = _
  by_cases q : env.length = 26
  · have := specEnv_loop n hx q n [] env rfl (by omega)
    rw [show (([] : List Int).length : Int) = (0 : Int) from rfl] at this
    rw [show ((env.length : Int) != (26 : Int)) = false by rw [q]; rfl, cond_false, this, decide_eq_true q]
    cases envB xs env <;> rfl
  · rw [show ((env.length : Int) != (26 : Int)) = true by simp; omega, decide_eq_false q]; rfl

/-! ### Roles: six texts -/
theorem role_of {w p : Int} {L : Nat} (h1 : (impl_roleOf N0 (w, p)).map (fun r => (r.1.length, r.2)) = some (L, true)) (h2 : (spec_l12Acts N0 (w, p)).map List.length = some L) (h3 : spec_l13Role N0 (w, p) = some true) (h4 : L ≤ 20) :
    ∃ a b, impl_roleOf N0 (w, p) = some (a, true) ∧ spec_l12Acts N0 (w, p) = some b ∧ a.length = b.length ∧ a.length ≤ 20 ∧ spec_l13Role N0 (w, p) = some true := by
  cases e1 : impl_roleOf N0 (w, p) with
  | none => rw [e1] at h1; cases h1
  | some r =>
    cases e2 : spec_l12Acts N0 (w, p) with
    | none => rw [e2] at h2; cases h2
    | some b =>
      rw [e1] at h1
      rw [e2] at h2
      obtain ⟨g1, g2⟩ := Prod.mk.inj (Option.some.inj h1)
      have g3 : b.length = L := Option.some.inj h2
      obtain ⟨a, t⟩ := r
      have g2 : t = true := g2
      subst g2
      exact ⟨a, b, rfl, rfl, by rw [g3]; exact g1, by have : a.length = L := g1; omega, h3⟩

theorem role_in (w p : Int) (hw : w = 1 ∨ w = 2 ∨ w = 3) (hp : p = 0 ∨ p = 1) : ∃ a b, impl_roleOf N0 (w, p) = some (a, true) ∧ spec_l12Acts N0 (w, p) = some b ∧ a.length = b.length ∧ a.length ≤ 20 ∧ spec_l13Role N0 (w, p) = some true := by
  rcases hw with rfl | rfl | rfl <;> rcases hp with rfl | rfl
  all_goals exact role_of (L := 5) (by kernel_rfl) (by kernel_rfl) (by kernel_rfl) (by omega)
end AM
end Go.Proofs.YtoglpjkelbfjfaaGreatDoor

/-! The law FnExactInstOk, as a plain function, comes to true. No condition but that lists are no longer than memory. -/
namespace Go.Proofs.YtoglpjkelbfjfaaGreatDoor
namespace AM
open Go
set_option linter.unusedVariables false
set_option linter.unusedSimpArgs false

theorem role_out (w p : Int) (h : ¬ ((w = 1 ∨ w = 2 ∨ w = 3) ∧ (p = 0 ∨ p = 1))) : impl_roleOf N0 (w, p) = some ([], false) ∧ spec_l13Role N0 (w, p) = some false := by
  constructor
  · have e1 : impl_RoleText N0 (w, p) = some (⟨#[]⟩ : ByteArray) := by
      unfold impl_RoleText
      simp only [inRange_eq, Option.bind_some]
      by_cases h1 : decide (w ≥ 1) && decide (w ≤ 3)
      · rw [h1]
        have h2 : (decide (p ≥ 0) && decide (p ≤ 1)) = false := by
          rw [Bool.eq_false_iff]
          intro h2
          simp at h1 h2
          omega
        rw [h2]; rfl
      · rw [Bool.not_eq_true] at h1
        rw [h1]; rfl
    show ((impl_RoleText N0 (w, p)).bind _) = _
    rw [e1]
    show ((impl_RoleParse N0 (⟨#[]⟩ : ByteArray)).bind fun r2 => some (r2.1, r2.2)) = _
    rw [show impl_RoleParse N0 (⟨#[]⟩ : ByteArray) = some ([], false) by kernel_rfl]; rfl
  · have e1 : spec_RoleText N0 (w, p) = some (⟨#[]⟩ : ByteArray) := by
      unfold spec_RoleText
      have q : ∀ a b : Int, (w == a) = decide (w = a) := fun a b => rfl
      by_cases w1 : w = 1
      · subst w1
        have p0 : (p == 0) = false := by simp; omega
        have p1 : (p == 1) = false := by simp; omega
        simp only [p0, p1]; rfl
      · by_cases w2 : w = 2
        · subst w2
          have p0 : (p == 0) = false := by simp; omega
          have p1 : (p == 1) = false := by simp; omega
          simp only [p0, p1]; rfl
        · by_cases w3 : w = 3
          · subst w3
            have p0 : (p == 0) = false := by simp; omega
            have p1 : (p == 1) = false := by simp; omega
            simp only [p0, p1]; rfl
          · have e1 : (w == 1) = false := by simpa using w1
            have e2 : (w == 2) = false := by simpa using w2
            have e3 : (w == 3) = false := by simpa using w3
            simp only [e1, e2, e3]; rfl
    show ((spec_RoleText N0 (w, p)).bind fun r1 => some (!strEq r1 (⟨#[]⟩ : ByteArray))) = _
    rw [e1]
    show some (!strEq (⟨#[]⟩ : ByteArray) (⟨#[]⟩ : ByteArray)) = _
    rw [show strEq (⟨#[]⟩ : ByteArray) (⟨#[]⟩ : ByteArray) = true from decide_eq_true rfl]; rfl

theorem agent_eq (n : Nat) (x : Int) : impl_isAgent n x = some (decide (x ≥ 0) && decide (x ≤ 4)) := by
  show ((impl_inRange n (x, (0 : Int), (4 : Int))).bind fun r => some r) = _
  rw [inRange_eq]; rfl
theorem agent2_eq (n : Nat) (x : Int) : spec_l2Agent n x = some (decide (x ≥ 0) && decide (x ≤ 4)) := agent_eq n x

theorem n0 : 4294967296 < N0 := by decide

theorem inst_same {xs : List Node3} (hx : xs.length ≤ 4294967296) {w p a b at_ : Int} {env : List Int} (he : env.length ≤ 4294967296) {dn dd : Bool} {key : Int} :
    ∃ v, impl_InstOk N0 (xs, w, p, a, b, at_, env, dn, dd, key) = some v ∧ spec_InstOk N0 (xs, w, p, a, b, at_, env, dn, dd, key) = some v := by
  unfold impl_InstOk spec_InstOk spec_l13Inst
  simp only [specPool_eq N0 n0 hx, implEnv_eq N0 n0 hx he, specEnv_eq N0 n0 hx, agent_eq, agent2_eq, Option.bind_some]
  by_cases hr : (w = 1 ∨ w = 2 ∨ w = 3) ∧ (p = 0 ∨ p = 1)
  · obtain ⟨ra, rb, r1, r2, r3, r4, r5⟩ := role_in w p hr.1 hr.2
    rw [r1, r2, r5]
    simp only [Option.bind_some, inRange_eq, in_eq, isTerm_eq N0 hx, has_eq N0 hx, ← r3, wrap_ok (show -9223372036854775808 ≤ (ra.length : Int) - 1 by omega) (show (ra.length : Int) - 1 ≤ 9223372036854775807 by omega)]
    generalize (decide (a ≥ 0) && decide (a ≤ 4)) = A
    generalize (decide (b ≥ 0) && decide (b ≤ 4)) = B
    generalize (a == b) = C
    generalize envB xs env = D
    generalize decide (env.length = 26) = F
    generalize (decide (xs.length ≤ 500) && okFrom N0 [] xs) = G
    generalize hasB xs key = H
    generalize (key == -1) = K
    have hq : (at_ == (ra.length : Int)) = true → (decide (at_ ≥ 0) && decide (at_ ≤ (ra.length : Int))) = true := by
      intro h
      have : at_ = (ra.length : Int) := by simpa using h
      simp; omega
    have hq2 : (at_ == (ra.length : Int)) = false → (decide (at_ ≥ 0) && decide (at_ ≤ (ra.length : Int) - 1)) = (decide (at_ ≥ 0) && decide (at_ ≤ (ra.length : Int))) := by
      intro h
      have : at_ ≠ (ra.length : Int) := by simpa using h
      congr 1
      rw [Bool.eq_iff_iff]; simp; omega
    have hq3 : (at_ == (ra.length : Int)) = true → (decide (at_ ≥ 0) && decide (at_ ≤ (ra.length : Int) - 1)) = false := by
      intro h
      have : at_ = (ra.length : Int) := by simpa using h
      rw [Bool.and_eq_false_iff]; right; simp; omega
    revert hq hq2 hq3
    generalize (at_ == (ra.length : Int)) = M
    generalize (decide (at_ ≥ 0) && decide (at_ ≤ (ra.length : Int))) = R
    generalize (decide (at_ ≥ 0) && decide (at_ ≤ (ra.length : Int) - 1)) = R2
    intro hq hq2 hq3
    cases M
    · have := hq2 rfl
      subst this
      refine ⟨A && (B && (!C && (D && (F && (G && (R2 && (!dn && K))))))), ?_, ?_⟩ <;> clear hq hq2 hq3 <;> revert A B C D F G H K R2 dn dd <;> decide
    · have h1 := hq rfl
      have h2 := hq3 rfl
      subst h1; subst h2
      refine ⟨A && (B && (!C && (D && (F && (G && (dn && (!dd && H))))))), ?_, ?_⟩ <;> clear hq hq2 hq3 <;> revert A B C D F G H K dn dd <;> decide
  · obtain ⟨r1, r2⟩ := role_out w p hr
    rw [r1, r2]
    refine ⟨false, rfl, ?_⟩
    cases (decide (xs.length ≤ 500) && okFrom N0 [] xs) <;> rfl

theorem szPool_eq (n : Nat) {xs : List Node3} (hx : xs.length ≤ 9223372036854775807) : laws_szPool n (xs, (1048576 : Int)) = some (if xs.length ≤ 1048576 then (1048576 : Int) - (xs.length : Int) else -1) := by
  unfold laws_szPool laws_szNodeS
  simp only [wrap_ok (show -9223372036854775808 ≤ (1048576 : Int) - (xs.length : Int) by omega) (show (1048576 : Int) - (xs.length : Int) ≤ 9223372036854775807 by omega)]
  by_cases q : xs.length ≤ 1048576
  · rw [if_pos q, decide_eq_false (by omega : ¬ (1048576 : Int) - (xs.length : Int) < (0 : Int))]
    simp only [cond_false, Option.bind_some]
    rw [decide_eq_false (by omega : ¬ (1048576 : Int) - (xs.length : Int) < (0 : Int))]; rfl
  · rw [if_neg q, decide_eq_true (by omega : (1048576 : Int) - (xs.length : Int) < (0 : Int))]; rfl
theorem szInst_eq (n : Nat) {w p a b at_ : Int} {env : List Int} {dn dd : Bool} {key r : Int} (hr : 0 ≤ r ∧ r ≤ 1048576) (he : env.length ≤ 9223372036854775807) : laws_szInst n (w, p, a, b, at_, env, dn, dd, key, r) = some (if (env.length : Int) ≤ r then r - (env.length : Int) else -1) := by
  unfold laws_szInst laws_szIntS
  simp only [wrap_ok (show -9223372036854775808 ≤ r - (env.length : Int) by omega) (show r - (env.length : Int) ≤ 9223372036854775807 by omega)]
  by_cases q : (env.length : Int) ≤ r
  · rw [if_pos q, decide_eq_false (by omega : ¬ r - (env.length : Int) < (0 : Int))]
    simp only [cond_false, Option.bind_some]
    rw [decide_eq_false (by omega : ¬ r - (env.length : Int) < (0 : Int))]; rfl
  · rw [if_neg q, decide_eq_true (by omega : r - (env.length : Int) < (0 : Int))]; rfl

theorem maxLen_eq : maxLen = 9223372036854775807 := by decide

end AM
end Go.Proofs.YtoglpjkelbfjfaaGreatDoor

/-! Tests over the places of a list; lists without doubles. No condition. -/
namespace Go.Proofs.YtoglpjkelbfjfaaGreatDoor
namespace AM
open Go
set_option linter.unusedVariables false
set_option linter.unusedSimpArgs false

/-- A test at k places from i on. -/
def allN (g : Nat → Bool) : Nat → Nat → Bool
  | _, 0 => true
  | i, k + 1 => g i && allN g (i + 1) k

theorem allN_iff {g : Nat → Bool} : ∀ {k i : Nat}, allN g i k = true ↔ ∀ j, i ≤ j → j < i + k → g j = true
  | 0, i => ⟨fun _ j h1 h2 => by omega, fun _ => rfl⟩
  | k + 1, i => by
    show (g i && allN g (i + 1) k) = true ↔ _
    rw [Bool.and_eq_true, allN_iff]
    constructor
    · rintro ⟨h1, h2⟩ j g1 g2
      rcases Nat.eq_or_lt_of_le g1 with q | q
      · subst q; exact h1
      · exact h2 j q (by omega)
    · exact fun h => ⟨h i (Nat.le_refl _) (by omega), fun j g1 g2 => h j (by omega) (by omega)⟩

theorem nodup_len {α : Type} [DecidableEq α] : ∀ {l m : List α}, l.Nodup → (∀ x ∈ l, x ∈ m) → l.length ≤ m.length
  | [], m, _, _ => Nat.zero_le _
  | a :: l, m, hn, hs => by
    have ha := hs a (List.mem_cons_self ..)
    have hn' := List.nodup_cons.1 hn
    have := nodup_len (l := l) (m := m.erase a) hn'.2 (fun x hx => (List.mem_erase_of_ne (fun (e : x = a) => hn'.1 (e ▸ hx))).2 (hs x (List.mem_cons_of_mem _ hx)))
    rw [List.length_erase_of_mem ha] at this
    have : 0 < m.length := List.length_pos_of_mem ha
    simp; omega

/-- Of two lists without doubles, one of which holds the other: they hold the same just when they are of one length. -/
theorem nodup_full {α : Type} [DecidableEq α] {l m : List α} (hl : l.Nodup) (hm : m.Nodup) (hs : ∀ x ∈ l, x ∈ m) : (∀ x ∈ m, x ∈ l) ↔ l.length = m.length := by
  constructor
  · exact fun h => Nat.le_antisymm (nodup_len hl hs) (nodup_len hm h)
  · intro h x hx
    exact Classical.byContradiction fun hn => by
      have := nodup_len (l := x :: l) (m := m) (List.nodup_cons.2 ⟨hn, hl⟩) (fun y hy => by
        rcases List.mem_cons.1 hy with q | q
        · exact q ▸ hx
        · exact hs y q)
      simp at this; omega

/-- The places below n at which a test holds. -/
def places (d : Nat → Bool) (n : Nat) : List Nat := (List.range n).filter d
theorem places_nodup (d : Nat → Bool) (n : Nat) : (places d n).Nodup := List.nodup_range.filter _
theorem mem_places {d : Nat → Bool} {n i : Nat} : i ∈ places d n ↔ i < n ∧ d i = true := by
  unfold places
  rw [List.mem_filter, List.mem_range]
theorem places_succ (d : Nat → Bool) (n : Nat) : (places d (n + 1)).length = (places d n).length + (bif d n then 1 else 0) := by
  unfold places
  rw [List.range_succ, List.filter_append, List.length_append]
  cases h : d n <;> simp [h]
/-- A log without doubles, all of whose numbers are places at which a test holds: it names them all just when it is as long as they are many. -/
theorem log_full (done : Nat → Bool) (n : Nat) (L : List Int) (hnd : L.Nodup) (hin : ∀ k ∈ L, ∃ i : Nat, k = (i : Int) ∧ i < n ∧ done i = true) : (∀ i : Nat, i < n → done i = true → (i : Int) ∈ L) ↔ L.length = (places done n).length := by
  have hm : ((places done n).map Int.ofNat).Nodup := List.pairwise_map.2 ((places_nodup done n).imp fun hne e => hne (Int.ofNat.inj e))
  have := nodup_full hnd hm (fun k hk => by
    obtain ⟨i, rfl, h1, h2⟩ := hin k hk
    exact List.mem_map.2 ⟨i, mem_places.2 ⟨h1, h2⟩, rfl⟩)
  rw [List.length_map] at this
  rw [← this]
  constructor
  · intro h x hx
    obtain ⟨i, hi, rfl⟩ := List.mem_map.1 hx
    have := mem_places.1 hi
    exact h i this.1 this.2
  · intro h i h1 h2
    exact h _ (List.mem_map.2 ⟨i, mem_places.2 ⟨h1, h2⟩, rfl⟩)

theorem nodup_getD {L : List Int} : L.Nodup ↔ ∀ i, i < L.length → ∀ j, j < i → L.getD j 0 ≠ L.getD i 0 := by
  rw [List.Nodup, List.pairwise_iff_getElem]
  constructor
  · intro h i hi j hj
    rw [getD_of hi, getD_of (by omega)]
    exact h j i (by omega) hi hj
  · intro h i j hi hj hij
    have := h j hj i hij
    rw [getD_of hi, getD_of hj] at this
    exact this
end AM
end Go.Proofs.YtoglpjkelbfjfaaGreatDoor

/-! A world is right by the program just when it is by the reference, as plain functions. No condition. -/
namespace Go.Proofs.YtoglpjkelbfjfaaGreatDoor
namespace AM
open Go
set_option linter.unusedVariables false
set_option linter.unusedSimpArgs false

abbrev Inst9 := Int × (Int × (Int × (Int × (Int × ((List Int) × (Bool × (Bool × Int)))))))
abbrev Claim3 := Int × (Bool × Bool)
abbrev zI : Inst9 := ((0 : Int), ((0 : Int), ((0 : Int), ((0 : Int), ((0 : Int), ([], (false, (false, (0 : Int)))))))))
abbrev zC : Claim3 := ((0 : Int), (false, false))

/-- A loop that tests place by place. -/
theorem test_loop {X A B : Type} (L : Nat → X → Option (A ⊕ B)) (st : Nat → X) (g : Nat → Bool) (bad : A) (fin : B) (len : Nat)
    (step : ∀ m i, i < len → L (m + 1) (st i) = bif g i then L m (st (i + 1)) else some (.inl bad)) (stop : ∀ m, L (m + 1) (st len) = some (.inr fin)) :
    ∀ m i, i ≤ len → len < m + i → L m (st i) = some (bif allN g i (len - i) then .inr fin else .inl bad)
  | 0, i, h1, h2 => by omega
  | m + 1, i, h1, h2 => by
    rcases Nat.eq_or_lt_of_le h1 with q | q
    · subst q
      rw [stop, Nat.sub_self]; rfl
    · rw [step m i q, show len - i = (len - (i + 1)) + 1 by omega]
      show (bif g i then _ else _) = some (bif g i && allN g (i + 1) (len - (i + 1)) then _ else _)
      cases g i with
      | false => rfl
      | true => exact test_loop L st g bad fin len step stop m (i + 1) q (by omega)

theorem prev_wrap {i : Nat} (h : 0 < i) (hi : i ≤ 4294967296) : IntKind.i64.wrap ((i : Int) - (1 : Int)) = ((i - 1 : Nat) : Int) := by
  rw [wrap_ok (by omega) (by omega)]; omega
theorem lt_nat (i n : Nat) : decide ((i : Int) < (n : Int)) = decide (i < n) := by
  rw [Bool.eq_iff_iff]; simp
theorem lt_t {i n : Nat} (h : i < n) : decide ((i : Int) < (n : Int)) = true := decide_eq_true (by omega)
theorem lt_f (n : Nat) : decide ((n : Int) < (n : Int)) = false := decide_eq_false (by omega)

/-! ### What is known -/
def ascAt (l : List Int) (j : Nat) : Bool := decide (j = 0) || decide (l.getD (j - 1) 0 < l.getD j 0)
def knowAt (xs : List Node3) (k : List Int) (j : Nat) : Bool := hasB xs (k.getD j 0) && ascAt k j

theorem gt0_t {i : Nat} (h : 0 < i) : decide ((i : Int) > (0 : Int)) = true := decide_eq_true (by omega)
theorem le_not_lt (a b : Int) : decide (a ≤ b) = !decide (b < a) := by
  rw [Bool.eq_iff_iff]; simp
theorem ge_not_lt (a b : Int) : decide (a ≥ b) = !decide (a < b) := by
  rw [Bool.eq_iff_iff]; simp

theorem implKnow_step {xs : List Node3} (hx : xs.length ≤ 4294967296) {k : List Int} (hk : k.length ≤ 4294967296) (m i : Nat) (hi : i < k.length) :
    impl_KnowOk_L2 N0 (m + 1) (k, xs, k, (k.length : Int), (i : Int)) = bif knowAt xs k i then impl_KnowOk_L2 N0 m (k, xs, k, (k.length : Int), ((i + 1 : Nat) : Int)) else some (.inl false) := by
  rw [impl_KnowOk_L2]
  dsimp only
  rw [lt_t hi, cond_true, inb_nat hi, cond_true, isTerm_eq N0 hx]
  simp only [Option.bind_some, Int.toNat_natCast, step_wrap hi hk]
  unfold knowAt ascAt
  cases hasB xs (k.getD i 0) with
  | false => rfl
  | true =>
    rcases Nat.eq_zero_or_pos i with q | q
    · subst q; rfl
    · rw [gt0_t q, cond_true, prev_wrap q (by omega), inb_nat (by omega), cond_true, Int.toNat_natCast, le_not_lt, decide_eq_false (by omega : ¬ i = 0)]
      cases decide (k.getD (i - 1) 0 < k.getD i 0) <;> rfl
theorem implKnow_eq {xs : List Node3} (hx : xs.length ≤ 4294967296) {k : List Int} (hk : k.length ≤ 4294967296) :
    impl_KnowOk N0 (xs, k) = some (allN (knowAt xs k) 0 k.length && (decide (k.length ≤ 200) && (decide (xs.length ≤ 500) && okFrom N0 [] xs))) := by
  have := test_loop (impl_KnowOk_L2 N0) (fun i => (k, xs, k, (k.length : Int), (i : Int))) (knowAt xs k) false (k, xs) k.length (implKnow_step hx hk) (fun m => by
    rw [impl_KnowOk_L2]; dsimp only; rw [lt_f]; rfl) N0 0 (Nat.zero_le _) (by have := n0; omega)
  rw [Nat.sub_zero] at this
  show ((impl_KnowOk_L2 N0 N0 (k, xs, k, (k.length : Int), (0 : Int))).bind _) = _
  rw [show impl_KnowOk_L2 N0 N0 (k, xs, k, (k.length : Int), (0 : Int)) = _ from this]
  cases allN (knowAt xs k) 0 k.length with
  | false => rfl
  | true =>
    show (cond (decide ((k.length : Int) ≤ (200 : Int))) ((impl_PoolOk N0 xs).bind fun r5 => some r5) (some false)) = _
    rw [implPool_eq N0 n0 hx]
    by_cases q : k.length ≤ 200
    · rw [decide_eq_true (by omega : (k.length : Int) ≤ (200 : Int)), decide_eq_true q]; rfl
    · rw [decide_eq_false (by omega : ¬ (k.length : Int) ≤ (200 : Int)), decide_eq_false q]; rfl

theorem specKnow_step {xs : List Node3} (hx : xs.length ≤ 4294967296) {k : List Int} (hk : k.length ≤ 4294967296) (m i : Nat) (hi : i < k.length) :
    spec_l6Know_L4 N0 (m + 1) (k, xs, (i : Int)) = bif knowAt xs k i then spec_l6Know_L4 N0 m (k, xs, ((i + 1 : Nat) : Int)) else some (.inl false) := by
  rw [spec_l6Know_L4]
  dsimp only
  rw [lt_t hi, cond_true, inb_nat hi, cond_true, has_eq N0 hx]
  simp only [Option.bind_some, Int.toNat_natCast, step_wrap hi hk]
  unfold knowAt ascAt
  cases hasB xs (k.getD i 0) with
  | false => rfl
  | true =>
    rcases Nat.eq_zero_or_pos i with q | q
    · subst q; rfl
    · rw [gt0_t q, cond_true, prev_wrap q (by omega), inb_nat (by omega), cond_true, Int.toNat_natCast, ge_not_lt, decide_eq_false (by omega : ¬ i = 0)]
      cases decide (k.getD (i - 1) 0 < k.getD i 0) <;> rfl
theorem specKnow_eq {xs : List Node3} (hx : xs.length ≤ 4294967296) {k : List Int} (hk : k.length ≤ 4294967296) :
    spec_KnowOk N0 (xs, k) = some (allN (knowAt xs k) 0 k.length && (decide (k.length ≤ 200) && (decide (xs.length ≤ 500) && okFrom N0 [] xs))) := by
  have := test_loop (spec_l6Know_L4 N0) (fun i => (k, xs, (i : Int))) (knowAt xs k) false () k.length (specKnow_step hx hk) (fun m => by
    rw [spec_l6Know_L4]; dsimp only; rw [lt_f]; rfl) N0 0 (Nat.zero_le _) (by have := n0; omega)
  rw [Nat.sub_zero] at this
  have e : spec_l6Know N0 (xs, k) = some (decide (k.length ≤ 200) && allN (knowAt xs k) 0 k.length) := by
    show (cond (decide ((k.length : Int) > (200 : Int))) (some false) ((spec_l6Know_L4 N0 N0 (k, xs, (0 : Int))).bind _)) = _
    rw [show spec_l6Know_L4 N0 N0 (k, xs, (0 : Int)) = _ from this]
    by_cases q : k.length ≤ 200
    · rw [decide_eq_false (by omega : ¬ (k.length : Int) > (200 : Int)), decide_eq_true q]
      cases allN (knowAt xs k) 0 k.length <;> rfl
    · rw [decide_eq_true (by omega : (k.length : Int) > (200 : Int)), decide_eq_false q]; rfl
  show ((spec_PoolOk N0 xs).bind fun r1 => (cond r1 ((spec_l6Know N0 (xs, k)).bind fun r2 => (some r2)) (some false))) = _
  rw [specPool_eq N0 n0 hx, e]
  generalize (decide (xs.length ≤ 500) && okFrom N0 [] xs) = P
  generalize allN (knowAt xs k) 0 k.length = Q
  generalize decide (k.length ≤ 200) = R
  cases P <;> cases Q <;> cases R <;> rfl

/-! ### Ascending -/
theorem asc_step {k : List Int} (hk : k.length ≤ 4294967296) (m i : Nat) (h0 : 0 < i) (hi : i < k.length) :
    impl_isAscending_L2 N0 (m + 1) (k, (i : Int)) = bif ascAt k i then impl_isAscending_L2 N0 m (k, ((i + 1 : Nat) : Int)) else some (.inl false) := by
  rw [impl_isAscending_L2]
  dsimp only
  rw [lt_t hi, cond_true, inb_nat hi, cond_true, prev_wrap h0 (by omega), inb_nat (by omega), cond_true, Int.toNat_natCast, Int.toNat_natCast, step_wrap hi hk, le_not_lt]
  unfold ascAt
  rw [decide_eq_false (by omega : ¬ i = 0)]
  cases decide (k.getD (i - 1) 0 < k.getD i 0) <;> rfl
theorem implAsc_eq {k : List Int} (hk : k.length ≤ 4294967296) : impl_isAscending N0 k = some (allN (ascAt k) 0 k.length) := by
  have h0 : ∀ m, impl_isAscending_L2 N0 (m + 1) (k, (k.length : Int)) = some (.inr ()) := fun m => by
    rw [impl_isAscending_L2]; dsimp only; rw [lt_f]; rfl
  show ((impl_isAscending_L2 N0 N0 (k, (1 : Int))).bind _) = _
  rcases Nat.eq_zero_or_pos k.length with q | q
  · have : k = [] := List.eq_nil_of_length_eq_zero q
    subst this
    rfl
  · have := test_loop (impl_isAscending_L2 N0) (fun i => (k, ((i + 1 : Nat) : Int))) (fun i => ascAt k (i + 1)) false () (k.length - 1) (fun m i hi => asc_step hk m (i + 1) (Nat.succ_pos i) (by omega)) (fun m => by
      rw [show k.length - 1 + 1 = k.length by omega]; exact h0 m) N0 0 (Nat.zero_le _) (by have := n0; omega)
    rw [show impl_isAscending_L2 N0 N0 (k, (1 : Int)) = _ from this]
    have e : allN (fun i => ascAt k (i + 1)) 0 (k.length - 1 - 0) = allN (ascAt k) 0 k.length := by
      rw [Bool.eq_iff_iff, allN_iff, allN_iff]
      constructor
      · intro h j h1 h2
        rcases Nat.eq_zero_or_pos j with z | z
        · subst z; rfl
        · have := h (j - 1) (Nat.zero_le _) (by omega)
          rw [show j - 1 + 1 = j by omega] at this
          exact this
      · intro h j h1 h2
        exact h (j + 1) (Nat.zero_le _) (by omega)
    rw [e]
    cases allN (ascAt k) 0 k.length <;> rfl

def inB (lo hi v : Int) : Bool := decide (v ≥ lo) && decide (v ≤ hi)
theorem asc2_step {k : List Int} (hk : k.length ≤ 4294967296) (lo hi : Int) (m i : Nat) (hl : i < k.length) :
    spec_l14Asc_L2 N0 (m + 1) (k, lo, hi, (i : Int)) = bif inB lo hi (k.getD i 0) && ascAt k i then spec_l14Asc_L2 N0 m (k, lo, hi, ((i + 1 : Nat) : Int)) else some (.inl false) := by
  rw [spec_l14Asc_L2]
  dsimp only
  rw [lt_t hl, cond_true, inb_nat hl, cond_true, in_eq]
  simp only [Option.bind_some, Int.toNat_natCast, step_wrap hl hk]
  rw [show (decide (k.getD i 0 ≥ lo) && decide (k.getD i 0 ≤ hi)) = inB lo hi (k.getD i 0) from rfl]
  unfold ascAt
  cases inB lo hi (k.getD i 0) with
  | false => rfl
  | true =>
    rcases Nat.eq_zero_or_pos i with q | q
    · subst q; rfl
    · rw [gt0_t q, cond_true, prev_wrap q (by omega), inb_nat (by omega), cond_true, Int.toNat_natCast, ge_not_lt, decide_eq_false (by omega : ¬ i = 0)]
      cases decide (k.getD (i - 1) 0 < k.getD i 0) <;> rfl
theorem specAsc_eq {k : List Int} (hk : k.length ≤ 4294967296) (lo hi : Int) : spec_l14Asc N0 (k, lo, hi) = some (allN (fun j => inB lo hi (k.getD j 0) && ascAt k j) 0 k.length) := by
  have := test_loop (spec_l14Asc_L2 N0) (fun i => (k, lo, hi, (i : Int))) (fun j => inB lo hi (k.getD j 0) && ascAt k j) false () k.length (asc2_step hk lo hi) (fun m => by
    rw [spec_l14Asc_L2]; dsimp only; rw [lt_f]; rfl) N0 0 (Nat.zero_le _) (by have := n0; omega)
  rw [Nat.sub_zero] at this
  show ((spec_l14Asc_L2 N0 N0 (k, lo, hi, (0 : Int))).bind _) = _
  rw [show spec_l14Asc_L2 N0 N0 (k, lo, hi, (0 : Int)) = _ from this]
  cases allN (fun j => inB lo hi (k.getD j 0) && ascAt k j) 0 k.length <;> rfl

/-! ### Does a number stand in a list? -/
def hasAt (l : List Int) (v : Int) : Bool := !allN (fun j => !(l.getD j 0 == v)) 0 l.length
theorem knowHas_eq {k : List Int} (hk : k.length ≤ 4294967296) (v : Int) : spec_KnowHas N0 (k, v) = some (hasAt k v) := by
  have := test_loop (spec_KnowHas_L2 N0) (fun i => (k, v, (i : Int))) (fun j => !(k.getD j 0 == v)) true () k.length (fun m i hi => by
    rw [spec_KnowHas_L2]; dsimp only
    rw [lt_t hi, cond_true, inb_nat hi, cond_true, Int.toNat_natCast, step_wrap hi hk]
    cases (k.getD i 0 == v) <;> rfl) (fun m => by
    rw [spec_KnowHas_L2]; dsimp only; rw [lt_f]; rfl) N0 0 (Nat.zero_le _) (by have := n0; omega)
  rw [Nat.sub_zero] at this
  show ((spec_KnowHas_L2 N0 N0 (k, v, (0 : Int))).bind _) = _
  rw [show spec_KnowHas_L2 N0 N0 (k, v, (0 : Int)) = _ from this]
  unfold hasAt
  cases allN (fun j => !(k.getD j 0 == v)) 0 k.length <;> rfl
theorem hasAt_iff {l : List Int} {v : Int} : hasAt l v = true ↔ ∃ j, j < l.length ∧ l.getD j 0 = v := by
  unfold hasAt
  rw [Bool.not_eq_true', Bool.eq_false_iff, ne_eq, allN_iff]
  constructor
  · intro h
    refine Classical.byContradiction fun h2 => h fun j _ hj => ?_
    have : ¬ l.getD j 0 = v := fun e => h2 ⟨j, by omega, e⟩
    simpa using this
  · rintro ⟨j, h1, h2⟩ h
    have := h j (Nat.zero_le _) (by omega)
    rw [h2] at this
    simp at this
end AM
end Go.Proofs.YtoglpjkelbfjfaaGreatDoor

/-! A world is right by the program just when it is by the reference, as plain functions. No condition but that lists are no longer than 2^32. -/
namespace Go.Proofs.YtoglpjkelbfjfaaGreatDoor
namespace AM
open Go
set_option linter.unusedVariables false
set_option linter.unusedSimpArgs false

abbrev kI : Ty := .int .i64
abbrev envL (x : Inst9) : List Int := x.2.2.2.2.2.1
def dn (x : Inst9) : Bool := x.2.2.2.2.2.2.1
structure Small (xs : List Node3) (kn : List Int) (li : List Inst9) (gv sh : List Int) (lg : List Claim3) : Prop where
  fx : xs.length ≤ 4294967296
  fk : kn.length ≤ 4294967296
  fl : li.length ≤ 4294967296
  fg : gv.length ≤ 4294967296
  fs : sh.length ≤ 4294967296
  fo : lg.length ≤ 4294967296
  fe : ∀ i, i < li.length → (envL (li.getD i zI)).length ≤ 4294967296

def instV (xs : List Node3) (x : Inst9) : Bool := (impl_InstOk N0 (xs, x.1, x.2.1, x.2.2.1, x.2.2.2.1, x.2.2.2.2.1, x.2.2.2.2.2.1, x.2.2.2.2.2.2.1, x.2.2.2.2.2.2.2.1, x.2.2.2.2.2.2.2.2)).getD false
theorem instV_eq {xs : List Node3} (hx : xs.length ≤ 4294967296) {x : Inst9} (he : (envL x).length ≤ 4294967296) :
    impl_InstOk N0 (xs, x.1, x.2.1, x.2.2.1, x.2.2.2.1, x.2.2.2.2.1, x.2.2.2.2.2.1, x.2.2.2.2.2.2.1, x.2.2.2.2.2.2.2.1, x.2.2.2.2.2.2.2.2) = some (instV xs x) ∧
    spec_InstOk N0 (xs, x.1, x.2.1, x.2.2.1, x.2.2.2.1, x.2.2.2.2.1, x.2.2.2.2.2.1, x.2.2.2.2.2.2.1, x.2.2.2.2.2.2.2.1, x.2.2.2.2.2.2.2.2) = some (instV xs x) := by
  obtain ⟨v, h1, h2⟩ := inst_same hx (w := x.1) (p := x.2.1) (a := x.2.2.1) (b := x.2.2.2.1) (at_ := x.2.2.2.2.1) (env := x.2.2.2.2.2.1) he (dn := x.2.2.2.2.2.2.1) (dd := x.2.2.2.2.2.2.2.1) (key := x.2.2.2.2.2.2.2.2)
  unfold instV
  rw [h1]
  exact ⟨rfl, h2⟩
def poolB (xs : List Node3) : Bool := decide (xs.length ≤ 500) && okFrom N0 [] xs
theorem l13_eq {xs : List Node3} (hx : xs.length ≤ 4294967296) {x : Inst9} (he : (envL x).length ≤ 4294967296) (hP : poolB xs = true) :
    spec_l13Inst N0 (xs, x.1, x.2.1, x.2.2.1, x.2.2.2.1, x.2.2.2.2.1, x.2.2.2.2.2.1, x.2.2.2.2.2.2.1, x.2.2.2.2.2.2.2.1, x.2.2.2.2.2.2.2.2) = some (instV xs x) := by
  have h2 := (instV_eq hx he).2
  have hP : (decide (xs.length ≤ 500) && okFrom N0 [] xs) = true := hP
  rw [spec_InstOk] at h2
  dsimp only at h2
  rw [specPool_eq N0 n0 hx, hP] at h2
  simp only [Option.bind_some, cond_true] at h2
  cases hq : spec_l13Inst N0 (xs, x.1, x.2.1, x.2.2.1, x.2.2.2.1, x.2.2.2.2.1, x.2.2.2.2.2.1, x.2.2.2.2.2.2.1, x.2.2.2.2.2.2.2.1, x.2.2.2.2.2.2.2.2) with
  | none => rw [hq] at h2; cases h2
  | some v => rw [hq] at h2; exact h2

def inst0 (n : Int) (k : Int) : Bool := decide (k ≥ 0) && decide (k ≤ n - 1)
def doneB (li : List Inst9) (k : Int) : Bool := inst0 (li.length : Int) k && dn (li.getD k.toNat zI)
theorem inst0_inb {li : List Inst9} {k : Int} (h : inst0 (li.length : Int) k = true) : inb k li.length = true := by
  unfold inst0 at h
  simp at h
  exact decide_eq_true ⟨by omega, by omega⟩

section
variable {xs : List Node3} {kn : List Int} {li : List Inst9} {fr : Int} {gv sh : List Int} {lg : List Claim3}

theorem isInst_eq (hl : li.length ≤ 4294967296) (k : Int) : impl_World_isInst N0 (xs, kn, li, fr, gv, sh, lg, k) = some (xs, kn, li, fr, gv, sh, lg, inst0 (li.length : Int) k) := by
  rw [impl_World_isInst]
  dsimp only
  rw [wrap_ok (by omega) (by omega), inRange_eq]; rfl
theorem isDone_eq (hl : li.length ≤ 4294967296) (k : Int) : impl_World_isDone N0 (xs, kn, li, fr, gv, sh, lg, k) = some (xs, kn, li, fr, gv, sh, lg, doneB li k) := by
  rw [impl_World_isDone]
  dsimp only
  rw [isInst_eq hl]
  simp only [Option.bind_some]
  unfold doneB
  cases h : inst0 (li.length : Int) k with
  | false => rfl
  | true =>
    rw [inst0_inb h]; rfl

/-! ### The log -/
def lk (lg : List Claim3) (j : Nat) : Int := (lg.getD j zC).1
def gLog (li : List Inst9) (lg : List Claim3) (i : Nat) : Bool := doneB li (lk lg i) && allN (fun j => !(lk lg j == lk lg i)) 0 i
def kvOf (lg : List Claim3) : Nat → List (Int × Int)
  | 0 => []
  | i + 1 => mput kI (lk lg i) (IntKind.i64.wrap (mget kI (lk lg i) (kvOf lg i) + (1 : Int))) (kvOf lg i)
def cntK (lg : List Claim3) (k : Int) : Nat → Nat
  | 0 => 0
  | i + 1 => cntK lg k i + (if lk lg i = k then 1 else 0)
theorem cntK_le (lg : List Claim3) (k : Int) : ∀ i, cntK lg k i ≤ i
  | 0 => Nat.le_refl _
  | i + 1 => by
    have := cntK_le lg k i
    show cntK lg k i + (if lk lg i = k then 1 else 0) ≤ i + 1
    split <;> omega
theorem kv_cnt (lg : List Claim3) (k : Int) : ∀ i, i ≤ 4294967296 → mget kI k (kvOf lg i) = (cntK lg k i : Int)
  | 0, _ => rfl
  | i + 1, h => by
    have ih := fun k => kv_cnt lg k i (by omega)
    show mget kI k (mput kI (lk lg i) (IntKind.i64.wrap (mget kI (lk lg i) (kvOf lg i) + (1 : Int))) (kvOf lg i)) = ((cntK lg k i + (if lk lg i = k then 1 else 0) : Nat) : Int)
    by_cases q : lk lg i = k
    · subst q
      rw [mget_mput (eqv_self kI rfl _), kv_cnt lg _ i (by omega), if_pos rfl]
      have := cntK_le lg (lk lg i) i
      rw [wrap_ok (by omega) (by omega)]; omega
    · have hne : kI.eqv k (lk lg i) = false := by
        rw [Bool.eq_false_iff]
        exact fun h => q (eqv_eq kI h).symm
      rw [mget_mput_ne hne, kv_cnt lg k i (by omega), if_neg q, Nat.add_zero]
theorem cntK_zero (lg : List Claim3) (k : Int) : ∀ i, cntK lg k i = 0 ↔ ∀ j, j < i → lk lg j ≠ k
  | 0 => ⟨fun _ j h => by omega, fun _ => rfl⟩
  | i + 1 => by
    show cntK lg k i + (if lk lg i = k then 1 else 0) = 0 ↔ _
    have ih := cntK_zero lg k i
    by_cases q : lk lg i = k
    · rw [if_pos q]
      exact ⟨fun h => by omega, fun h => absurd q (h i (by omega))⟩
    · rw [if_neg q, Nat.add_zero, ih]
      constructor
      · intro h j hj
        rcases Nat.lt_or_ge j i with z | z
        · exact h j z
        · have : j = i := by omega
          subst this; exact q
      · exact fun h j hj => h j (by omega)

theorem log_test (hg : lg.length ≤ 4294967296) {i : Nat} (hi : i < lg.length) : decide (mget kI (lk lg i) (kvOf lg (i + 1)) > (1 : Int)) = !allN (fun j => !(lk lg j == lk lg i)) 0 i := by
  rw [kv_cnt lg _ (i + 1) (by omega), show cntK lg (lk lg i) (i + 1) = cntK lg (lk lg i) i + 1 from by show _ + (if _ then 1 else 0) = _; rw [if_pos rfl]]
  have hc := cntK_le lg (lk lg i) i
  rw [Bool.eq_iff_iff, decide_eq_true_iff, Bool.not_eq_true', Bool.eq_false_iff, ne_eq, allN_iff]
  have hz := cntK_zero lg (lk lg i) i
  constructor
  · intro h h2
    have : cntK lg (lk lg i) i = 0 := hz.2 fun j hj e => by
      have := h2 j (Nat.zero_le _) (by omega)
      rw [e] at this
      simp at this
    omega
  · intro h
    have : cntK lg (lk lg i) i ≠ 0 := fun e => h fun j _ hj => by
      have := hz.1 e j (by omega)
      simpa using this
    omega

def haveAt (li : List Inst9) (lg : List Claim3) (i : Nat) : Bool := !dn (li.getD i zI) || !(((cntK lg (i : Int) lg.length : Nat) : Int) == (0 : Int))

theorem logOk_eq (hl : li.length ≤ 4294967296) (hg : lg.length ≤ 4294967296) : impl_World_logOk N0 (xs, kn, li, fr, gv, sh, lg) = some (xs, kn, li, fr, gv, sh, lg, allN (gLog li lg) 0 lg.length && allN (haveAt li lg) 0 li.length) := by
  have h1 := test_loop (impl_World_logOk_L3 N0) (fun i => (xs, kn, li, fr, gv, sh, lg, kvOf lg i, lg, (lg.length : Int), (i : Int))) (gLog li lg) (xs, kn, li, fr, gv, sh, lg, false) (xs, kn, li, fr, gv, sh, lg, kvOf lg lg.length) lg.length (fun m i hi => by
    rw [impl_World_logOk_L3]; dsimp only
    rw [lt_t hi, cond_true, inb_nat hi, cond_true, isDone_eq hl]
    simp only [Option.bind_some, Int.toNat_natCast, step_wrap hi hg]
    show (cond (!doneB li (lk lg i)) (some (Sum.inl (xs, kn, li, fr, gv, sh, lg, false))) (cond (decide (mget kI (lk lg i) (kvOf lg (i + 1)) > (1 : Int))) (some (Sum.inl (xs, kn, li, fr, gv, sh, lg, false))) (impl_World_logOk_L3 N0 m (xs, kn, li, fr, gv, sh, lg, kvOf lg (i + 1), lg, (lg.length : Int), ((i + 1 : Nat) : Int))))) = _
    rw [log_test hg hi]
    unfold gLog
    cases doneB li (lk lg i) with
    | false => rfl
    | true =>
      cases allN (fun j => !(lk lg j == lk lg i)) 0 i <;> rfl) (fun m => by
    rw [impl_World_logOk_L3]; dsimp only; rw [lt_f]; rfl) N0 0 (Nat.zero_le _) (by have := n0; omega)
  have h2 := test_loop (impl_World_logOk_L10 N0) (fun i => (xs, kn, li, fr, gv, sh, lg, kvOf lg lg.length, li, (li.length : Int), (i : Int))) (haveAt li lg) (xs, kn, li, fr, gv, sh, lg, false) (xs, kn, li, fr, gv, sh, lg) li.length (fun m i hi => by
    rw [impl_World_logOk_L10]; dsimp only
    rw [lt_t hi, cond_true, inb_nat hi, cond_true]
    simp only [Int.toNat_natCast, step_wrap hi hl]
    rw [kv_cnt lg (i : Int) lg.length hg]
    unfold haveAt dn
    cases (li.getD i zI).2.2.2.2.2.2.1 with
    | false => rfl
    | true => cases (((cntK lg (i : Int) lg.length : Nat) : Int) == (0 : Int)) <;> rfl) (fun m => by
    rw [impl_World_logOk_L10]; dsimp only; rw [lt_f]; rfl) N0 0 (Nat.zero_le _) (by have := n0; omega)
  rw [Nat.sub_zero] at h1 h2
  rw [impl_World_logOk]
  dsimp only
  rw [show impl_World_logOk_L3 N0 N0 (xs, kn, li, fr, gv, sh, lg, [], lg, (lg.length : Int), (0 : Int)) = _ from h1]
  cases allN (gLog li lg) 0 lg.length with
  | false => rfl
  | true =>
    show ((impl_World_logOk_L10 N0 N0 (xs, kn, li, fr, gv, sh, lg, kvOf lg lg.length, li, (li.length : Int), (0 : Int))).bind _) = _
    rw [show impl_World_logOk_L10 N0 N0 (xs, kn, li, fr, gv, sh, lg, kvOf lg lg.length, li, (li.length : Int), (0 : Int)) = _ from h2]
    cases allN (haveAt li lg) 0 li.length <;> rfl

/-! ### The program's side -/
def instsB (xs : List Node3) (li : List Inst9) : Bool := allN (fun i => instV xs (li.getD i zI)) 0 li.length
def agentsB (gv : List Int) : Bool := allN (fun i => inB 0 4 (gv.getD i 0)) 0 gv.length
def shownB (li : List Inst9) (sh : List Int) : Bool := allN (fun i => doneB li (sh.getD i 0)) 0 sh.length
def knowB (xs : List Node3) (kn : List Int) : Bool := allN (knowAt xs kn) 0 kn.length && (decide (kn.length ≤ 200) && poolB xs)

theorem implWorld_eq (hs : Small xs kn li gv sh lg) : impl_WorldOk N0 (xs, kn, li, fr, gv, sh, lg) = some (knowB xs kn && (decide (li.length ≤ 8) && (inB 0 8 fr && (allN (ascAt gv) 0 gv.length && (allN (ascAt sh) 0 sh.length && (instsB xs li && (agentsB gv && (shownB li sh && (allN (gLog li lg) 0 lg.length && allN (haveAt li lg) 0 li.length))))))))) := by
  have h1 := test_loop (impl_WorldOk_L4 N0) (fun i => (xs, kn, li, fr, gv, sh, lg, li, (li.length : Int), (i : Int))) (fun i => instV xs (li.getD i zI)) false (xs, kn, li, fr, gv, sh, lg) li.length (fun m i hi => by
    rw [impl_WorldOk_L4]; dsimp only
    rw [lt_t hi, cond_true, inb_nat hi, cond_true]
    simp only [Int.toNat_natCast, step_wrap hi hs.fl]
    rw [(instV_eq hs.fx (hs.fe i hi)).1]
    simp only [Option.bind_some]
    cases instV xs (li.getD i zI) <;> rfl) (fun m => by
    rw [impl_WorldOk_L4]; dsimp only; rw [lt_f]; rfl) N0 0 (Nat.zero_le _) (by have := n0; have := hs.fl; omega)
  have h2 := test_loop (impl_WorldOk_L10 N0) (fun i => (xs, kn, li, fr, gv, sh, lg, gv, (gv.length : Int), (i : Int))) (fun i => inB 0 4 (gv.getD i 0)) false (xs, kn, li, fr, gv, sh, lg) gv.length (fun m i hi => by
    rw [impl_WorldOk_L10]; dsimp only
    rw [lt_t hi, cond_true, inb_nat hi, cond_true, agent_eq]
    simp only [Option.bind_some, Int.toNat_natCast, step_wrap hi hs.fg]
    rw [show (decide (gv.getD i 0 ≥ 0) && decide (gv.getD i 0 ≤ 4)) = inB 0 4 (gv.getD i 0) from rfl]
    cases inB 0 4 (gv.getD i 0) <;> rfl) (fun m => by
    rw [impl_WorldOk_L10]; dsimp only; rw [lt_f]; rfl) N0 0 (Nat.zero_le _) (by have := n0; have := hs.fg; omega)
  have h3 := test_loop (impl_WorldOk_L16 N0) (fun i => (xs, kn, li, fr, gv, sh, lg, sh, (sh.length : Int), (i : Int))) (fun i => doneB li (sh.getD i 0)) false (xs, kn, li, fr, gv, sh, lg) sh.length (fun m i hi => by
    rw [impl_WorldOk_L16]; dsimp only
    rw [lt_t hi, cond_true, inb_nat hi, cond_true, isDone_eq hs.fl]
    simp only [Option.bind_some, Int.toNat_natCast, step_wrap hi hs.fs]
    cases doneB li (sh.getD i 0) <;> rfl) (fun m => by
    rw [impl_WorldOk_L16]; dsimp only; rw [lt_f]; rfl) N0 0 (Nat.zero_le _) (by have := n0; have := hs.fs; omega)
  rw [Nat.sub_zero] at h1 h2 h3
  rw [impl_WorldOk]
  dsimp only
  rw [implKnow_eq hs.fx hs.fk, inRange_eq, implAsc_eq hs.fg, implAsc_eq hs.fs,
    show impl_WorldOk_L4 N0 N0 (xs, kn, li, fr, gv, sh, lg, li, (li.length : Int), (0 : Int)) = _ from h1]
  simp only [Option.bind_some]
  rw [show (allN (knowAt xs kn) 0 kn.length && (decide (kn.length ≤ 200) && (decide (xs.length ≤ 500) && okFrom N0 [] xs))) = knowB xs kn from rfl,
    show (decide (fr ≥ 0) && decide (fr ≤ 8)) = inB 0 8 fr from rfl, show allN (fun i => instV xs (li.getD i zI)) 0 li.length = instsB xs li from rfl]
  cases knowB xs kn with
  | false => rfl
  | true =>
    by_cases q : li.length ≤ 8
    · rw [decide_eq_false (by omega : ¬ (li.length : Int) > (8 : Int)), decide_eq_true q]
      cases inB 0 8 fr with
      | false => rfl
      | true =>
        cases allN (ascAt gv) 0 gv.length with
        | false => rfl
        | true =>
          cases allN (ascAt sh) 0 sh.length with
          | false => rfl
          | true =>
            cases instsB xs li with
            | false => rfl
            | true =>
              show ((impl_WorldOk_L10 N0 N0 (xs, kn, li, fr, gv, sh, lg, gv, (gv.length : Int), (0 : Int))).bind _) = _
              rw [show impl_WorldOk_L10 N0 N0 (xs, kn, li, fr, gv, sh, lg, gv, (gv.length : Int), (0 : Int)) = _ from h2, show allN (fun i => inB 0 4 (gv.getD i 0)) 0 gv.length = agentsB gv from rfl]
              cases agentsB gv with
              | false => rfl
              | true =>
                show ((impl_WorldOk_L16 N0 N0 (xs, kn, li, fr, gv, sh, lg, sh, (sh.length : Int), (0 : Int))).bind _) = _
                rw [show impl_WorldOk_L16 N0 N0 (xs, kn, li, fr, gv, sh, lg, sh, (sh.length : Int), (0 : Int)) = _ from h3, show allN (fun i => doneB li (sh.getD i 0)) 0 sh.length = shownB li sh from rfl]
                cases shownB li sh with
                | false => rfl
                | true =>
                  show ((impl_World_logOk N0 (xs, kn, li, fr, gv, sh, lg)).bind _) = _
                  rw [logOk_eq hs.fl hs.fo]; rfl
    · rw [decide_eq_true (by omega : (li.length : Int) > (8 : Int)), decide_eq_false q]; rfl

/-! ### The reference's side -/
def dAt (li : List Inst9) (i : Nat) : Bool := dn (li.getD i zI)
def six (xs : List Node3) (li : List Inst9) (sh : List Int) (i : Nat) : Bool := instV xs (li.getD i zI) && (!hasAt sh (i : Int) || dAt li i)
theorem places_le (d : Nat → Bool) (n : Nat) : (places d n).length ≤ n := by
  unfold places
  exact Nat.le_trans (List.length_filter_le _ _) (by simp)

theorem spec6 (hs : Small xs kn li gv sh lg) (hP : poolB xs = true) : spec_WorldOk_L6 N0 N0 (xs, kn, li, fr, gv, sh, lg, (li.length : Int), (0 : Int), (0 : Int)) =
    some (bif allN (six xs li sh) 0 li.length then .inr (xs, kn, li, fr, gv, sh, lg, (li.length : Int), ((places (dAt li) li.length).length : Int)) else .inl false) := by
  have h := test_loop (spec_WorldOk_L6 N0) (fun i => (xs, kn, li, fr, gv, sh, lg, (li.length : Int), ((places (dAt li) i).length : Int), (i : Int))) (six xs li sh) false (xs, kn, li, fr, gv, sh, lg, (li.length : Int), ((places (dAt li) li.length).length : Int)) li.length (fun m i hi => by
    rw [spec_WorldOk_L6]; dsimp only
    rw [lt_t hi, cond_true, inb_nat hi, cond_true]
    simp only [Int.toNat_natCast, step_wrap hi hs.fl]
    rw [l13_eq hs.fx (hs.fe i hi) hP, knowHas_eq hs.fs]
    simp only [Option.bind_some, cond_true]
    have hpl := places_le (dAt li) i
    have hli := hs.fl
    rw [places_succ, show (li.getD i zI).2.2.2.2.2.2.1 = dAt li i from rfl, step_wrap (i := (places (dAt li) i).length) (n := i + 1) (by omega) (by omega)]
    unfold six
    cases instV xs (li.getD i zI) with
    | false => rfl
    | true =>
      cases hasAt sh (i : Int) <;> cases dAt li i <;> rfl) (fun m => by
    rw [spec_WorldOk_L6]; dsimp only; rw [lt_f]; rfl) N0 0 (Nat.zero_le _) (by have := n0; have := hs.fl; omega)
  rw [Nat.sub_zero] at h
  exact h

theorem spec19 (hg : lg.length ≤ 4294967296) {N D k : Int} {i : Nat} (hi : i < lg.length) : spec_WorldOk_L19 N0 N0 (xs, kn, li, fr, gv, sh, lg, N, D, (i : Int), k, (0 : Int)) =
    some (bif allN (fun j => !(lk lg j == k)) 0 i then .inr (xs, kn, li, fr, gv, sh, lg, N, D, (i : Int)) else .inl false) := by
  have h := test_loop (spec_WorldOk_L19 N0) (fun j => (xs, kn, li, fr, gv, sh, lg, N, D, (i : Int), k, (j : Int))) (fun j => !(lk lg j == k)) false (xs, kn, li, fr, gv, sh, lg, N, D, (i : Int)) i (fun m j hj => by
    rw [spec_WorldOk_L19]; dsimp only
    rw [lt_t hj, cond_true, inb_nat (by omega : j < lg.length), cond_true]
    simp only [Int.toNat_natCast, step_wrap (by omega : j < lg.length) hg]
    rw [show (lg.getD j zC).1 = lk lg j from rfl]
    cases (lk lg j == k) <;> rfl) (fun m => by
    rw [spec_WorldOk_L19]; dsimp only; rw [lt_f]; rfl) N0 0 (Nat.zero_le _) (by have := n0; omega)
  rw [Nat.sub_zero] at h
  exact h

theorem spec13 (hl : li.length ≤ 4294967296) (hg : lg.length ≤ 4294967296) {D : Int} : spec_WorldOk_L13 N0 N0 (xs, kn, li, fr, gv, sh, lg, (li.length : Int), D, (0 : Int)) =
    some (bif allN (gLog li lg) 0 lg.length then .inr (xs, kn, li, fr, gv, sh, lg, D) else .inl false) := by
  have h := test_loop (spec_WorldOk_L13 N0) (fun i => (xs, kn, li, fr, gv, sh, lg, (li.length : Int), D, (i : Int))) (gLog li lg) false (xs, kn, li, fr, gv, sh, lg, D) lg.length (fun m i hi => by
    rw [spec_WorldOk_L13]; dsimp only
    rw [lt_t hi, cond_true, inb_nat hi, cond_true, wrap_ok (show -9223372036854775808 ≤ (li.length : Int) - 1 by omega) (show (li.length : Int) - 1 ≤ 9223372036854775807 by omega), in_eq]
    simp only [Option.bind_some, Int.toNat_natCast]
    rw [show (decide ((lg.getD i zC).1 ≥ 0) && decide ((lg.getD i zC).1 ≤ (li.length : Int) - 1)) = inst0 (li.length : Int) (lk lg i) from rfl, show (lg.getD i zC).1 = lk lg i from rfl]
    unfold gLog doneB
    cases hq : inst0 (li.length : Int) (lk lg i) with
    | false => rfl
    | true =>
      rw [inst0_inb hq, spec19 hg hi]
      unfold dn
      cases (li.getD (lk lg i).toNat zI).2.2.2.2.2.2.1 with
      | false => rfl
      | true =>
        cases allN (fun j => !(lk lg j == lk lg i)) 0 i with
        | false => rfl
        | true =>
          show spec_WorldOk_L13 N0 m (xs, kn, li, fr, gv, sh, lg, (li.length : Int), D, IntKind.i64.wrap ((i : Int) + (1 : Int))) = _
          rw [step_wrap hi hg]; rfl) (fun m => by
    rw [spec_WorldOk_L13]; dsimp only; rw [lt_f]; rfl) N0 0 (Nat.zero_le _) (by have := n0; omega)
  rw [Nat.sub_zero] at h
  exact h

theorem specWorld_eq (hs : Small xs kn li gv sh lg) : spec_WorldOk N0 (xs, kn, li, fr, gv, sh, lg) = some (knowB xs kn && (decide (li.length ≤ 8) && (inB 0 8 fr && (allN (fun j => inB 0 4 (gv.getD j 0) && ascAt gv j) 0 gv.length && (allN (fun j => inB 0 ((li.length : Int) - 1) (sh.getD j 0) && ascAt sh j) 0 sh.length && (allN (six xs li sh) 0 li.length && (allN (gLog li lg) 0 lg.length && ((lg.length : Int) == ((places (dAt li) li.length).length : Int))))))))) := by
  have hli := hs.fl
  rw [spec_WorldOk]
  dsimp only
  rw [specKnow_eq hs.fx hs.fk, in_eq, specAsc_eq hs.fg, wrap_ok (show -9223372036854775808 ≤ (li.length : Int) - 1 by omega) (show (li.length : Int) - 1 ≤ 9223372036854775807 by omega), specAsc_eq hs.fs]
  simp only [Option.bind_some]
  rw [show (allN (knowAt xs kn) 0 kn.length && (decide (kn.length ≤ 200) && (decide (xs.length ≤ 500) && okFrom N0 [] xs))) = knowB xs kn from rfl,
    show (decide (fr ≥ 0) && decide (fr ≤ 8)) = inB 0 8 fr from rfl]
  cases hk : knowB xs kn with
  | false => rfl
  | true =>
    have hP : poolB xs = true := by
      unfold knowB at hk
      rw [Bool.and_eq_true, Bool.and_eq_true] at hk
      exact hk.2.2
    rw [spec6 hs hP]
    by_cases q : li.length ≤ 8
    · rw [decide_eq_false (by omega : ¬ (li.length : Int) > (8 : Int)), decide_eq_true q]
      cases inB 0 8 fr with
      | false => rfl
      | true =>
        cases allN (fun j => inB 0 4 (gv.getD j 0) && ascAt gv j) 0 gv.length with
        | false => rfl
        | true =>
          cases allN (fun j => inB 0 ((li.length : Int) - 1) (sh.getD j 0) && ascAt sh j) 0 sh.length with
          | false => rfl
          | true =>
            cases allN (six xs li sh) 0 li.length with
            | false => rfl
            | true =>
              show ((spec_WorldOk_L13 N0 N0 (xs, kn, li, fr, gv, sh, lg, (li.length : Int), ((places (dAt li) li.length).length : Int), (0 : Int))).bind _) = _
              rw [spec13 hs.fl hs.fo]
              cases allN (gLog li lg) 0 lg.length <;> rfl
    · rw [decide_eq_true (by omega : (li.length : Int) > (8 : Int)), decide_eq_false q]; rfl
end
end AM
end Go.Proofs.YtoglpjkelbfjfaaGreatDoor

/-! The copies and comparisons of a world; the law FnExactWorldOk, as a plain function, comes to true. No condition but that lists are no longer than memory. -/
namespace Go.Proofs.YtoglpjkelbfjfaaGreatDoor
namespace AM
open Go
set_option linter.unusedVariables false
set_option linter.unusedSimpArgs false

theorem allN_and (a b : Nat → Bool) (i k : Nat) : allN (fun j => a j && b j) i k = (allN a i k && allN b i k) := by
  rw [Bool.eq_iff_iff, Bool.and_eq_true, allN_iff, allN_iff, allN_iff]
  constructor
  · intro h
    refine ⟨fun j h1 h2 => ?_, fun j h1 h2 => ?_⟩
    · have := h j h1 h2
      rw [Bool.and_eq_true] at this; exact this.1
    · have := h j h1 h2
      rw [Bool.and_eq_true] at this; exact this.2
  · rintro ⟨h1, h2⟩ j h3 h4
    rw [Bool.and_eq_true]
    exact ⟨h1 j h3 h4, h2 j h3 h4⟩

section
variable {xs : List Node3} {kn : List Int} {li : List Inst9} {fr : Int} {gv sh : List Int} {lg : List Claim3}

theorem shown_same : (instsB xs li && shownB li sh) = (allN (fun j => inB 0 ((li.length : Int) - 1) (sh.getD j 0)) 0 sh.length && allN (six xs li sh) 0 li.length) := by
  unfold instsB shownB
  rw [Bool.eq_iff_iff, Bool.and_eq_true, Bool.and_eq_true, allN_iff, allN_iff, allN_iff, allN_iff]
  constructor
  · rintro ⟨h1, h2⟩
    refine ⟨fun j h3 h4 => ?_, fun i h3 h4 => ?_⟩
    · have := h2 j h3 h4
      unfold doneB at this
      rw [Bool.and_eq_true] at this
      exact this.1
    · unfold six
      rw [Bool.and_eq_true]
      refine ⟨h1 i h3 h4, ?_⟩
      cases hh : hasAt sh (i : Int) with
      | false => rfl
      | true =>
        obtain ⟨j, h5, h6⟩ := hasAt_iff.1 hh
        have := h2 j (Nat.zero_le _) (by omega)
        unfold doneB at this
        rw [Bool.and_eq_true, h6, Int.toNat_natCast] at this
        show (false || dAt li i) = true
        rw [Bool.false_or]; exact this.2
  · rintro ⟨h1, h2⟩
    refine ⟨fun i h3 h4 => ?_, fun j h3 h4 => ?_⟩
    · have := h2 i h3 h4
      unfold six at this
      rw [Bool.and_eq_true] at this
      exact this.1
    · have hr := h1 j h3 h4
      unfold doneB
      rw [Bool.and_eq_true]
      refine ⟨hr, ?_⟩
      have hr' := hr
      unfold inB at hr'
      rw [Bool.and_eq_true, decide_eq_true_iff, decide_eq_true_iff] at hr'
      obtain ⟨i, hi⟩ := Int.eq_ofNat_of_zero_le hr'.1
      rw [hi] at hr' ⊢
      rw [Int.toNat_natCast]
      have := h2 i (Nat.zero_le _) (by omega)
      unfold six at this
      rw [Bool.and_eq_true] at this
      have hh : hasAt sh (i : Int) = true := hasAt_iff.2 ⟨j, by omega, hi⟩
      have h3 := this.2
      rw [hh] at h3
      exact h3

theorem log_same (h : allN (gLog li lg) 0 lg.length = true) : allN (haveAt li lg) 0 li.length = ((lg.length : Int) == ((places (dAt li) li.length).length : Int)) := by
  rw [allN_iff] at h
  have hg : ∀ i, i < lg.length → doneB li (lk lg i) = true ∧ ∀ j, j < i → lk lg j ≠ lk lg i := fun i hi => by
    have := h i (Nat.zero_le _) (by omega)
    unfold gLog at this
    rw [Bool.and_eq_true, allN_iff] at this
    refine ⟨this.1, fun j hj e => ?_⟩
    have := this.2 j (Nat.zero_le _) (by omega)
    rw [e] at this
    simp at this
  have hL : ((List.range lg.length).map (lk lg)).length = lg.length := by simp
  have hnd : ((List.range lg.length).map (lk lg)).Nodup := by
    rw [nodup_getD, hL]
    intro i hi j hj
    have e : ∀ k, k < lg.length → ((List.range lg.length).map (lk lg)).getD k 0 = lk lg k := fun k hk => by
      rw [getD_of (by rw [hL]; exact hk)]; simp
    rw [e i hi, e j (by omega)]
    exact (hg i hi).2 j hj
  have hin : ∀ k ∈ (List.range lg.length).map (lk lg), ∃ i : Nat, k = (i : Int) ∧ i < li.length ∧ dAt li i = true := by
    intro k hk
    obtain ⟨j, hj, rfl⟩ := List.mem_map.1 hk
    have := (hg j (List.mem_range.1 hj)).1
    unfold doneB inst0 at this
    rw [Bool.and_eq_true, Bool.and_eq_true, decide_eq_true_iff, decide_eq_true_iff] at this
    obtain ⟨⟨h1, h2⟩, h3⟩ := this
    obtain ⟨i, hi⟩ := Int.eq_ofNat_of_zero_le h1
    rw [hi] at h2 h3
    rw [Int.toNat_natCast] at h3
    exact ⟨i, hi, by omega, h3⟩
  have key := log_full (dAt li) li.length _ hnd hin
  rw [hL] at key
  rw [Bool.eq_iff_iff, allN_iff, beq_iff_eq]
  have hmem : ∀ i : Nat, (i : Int) ∈ (List.range lg.length).map (lk lg) ↔ cntK lg (i : Int) lg.length ≠ 0 := by
    intro i
    rw [Ne, cntK_zero, List.mem_map]
    constructor
    · rintro ⟨j, h1, h2⟩ h3
      exact h3 j (List.mem_range.1 h1) h2
    · intro h1
      refine Classical.byContradiction fun h2 => h1 fun j hj e => h2 ⟨j, List.mem_range.2 hj, e⟩
  have e1 : ((lg.length : Int) = ((places (dAt li) li.length).length : Int)) ↔ lg.length = (places (dAt li) li.length).length := by omega
  rw [e1, ← key]
  constructor
  · intro h1 i h2 h3
    have := h1 i (Nat.zero_le _) (by omega)
    rw [hmem]
    unfold haveAt at this
    rw [show dn (li.getD i zI) = dAt li i from rfl, h3] at this
    intro h4
    rw [h4] at this
    exact absurd this (by decide)
  · intro h1 i _ h2
    unfold haveAt
    cases h3 : dn (li.getD i zI) with
    | false => rfl
    | true =>
      have := (hmem i).1 (h1 i (by omega) h3)
      show (false || !(((cntK lg (i : Int) lg.length : Nat) : Int) == (0 : Int))) = true
      rw [Bool.false_or, Bool.not_eq_true', beq_eq_false_iff_ne]
      omega

/-- What a world's rightness comes to. -/
def worldB (xs : List Node3) (kn : List Int) (li : List Inst9) (fr : Int) (gv sh : List Int) (lg : List Claim3) : Bool :=
  knowB xs kn && (decide (li.length ≤ 8) && (inB 0 8 fr && (allN (ascAt gv) 0 gv.length && (allN (ascAt sh) 0 sh.length && (instsB xs li && (agentsB gv && (shownB li sh && (allN (gLog li lg) 0 lg.length && allN (haveAt li lg) 0 li.length))))))))

theorem world_same (hs : Small xs kn li gv sh lg) : impl_WorldOk N0 (xs, kn, li, fr, gv, sh, lg) = some (worldB xs kn li fr gv sh lg) ∧ spec_WorldOk N0 (xs, kn, li, fr, gv, sh, lg) = some (worldB xs kn li fr gv sh lg) := by
  refine ⟨implWorld_eq hs, (specWorld_eq hs).trans (congrArg some ?_)⟩
  unfold worldB
  have e1 : allN (fun j => inB 0 4 (gv.getD j 0) && ascAt gv j) 0 gv.length = (agentsB gv && allN (ascAt gv) 0 gv.length) := allN_and _ _ _ _
  have e2 : allN (fun j => inB 0 ((li.length : Int) - 1) (sh.getD j 0) && ascAt sh j) 0 sh.length = (allN (fun j => inB 0 ((li.length : Int) - 1) (sh.getD j 0)) 0 sh.length && allN (ascAt sh) 0 sh.length) := allN_and _ _ _ _
  have e3 := shown_same (xs := xs) (li := li) (sh := sh)
  rw [e1, e2]
  cases hl : allN (gLog li lg) 0 lg.length with
  | true =>
    rw [log_same hl]
    revert e3
    generalize allN (fun j => inB 0 ((li.length : Int) - 1) (sh.getD j 0)) 0 sh.length = A
    generalize allN (six xs li sh) 0 li.length = B
    generalize instsB xs li = C
    generalize shownB li sh = D
    generalize agentsB gv = E
    generalize allN (ascAt gv) 0 gv.length = F
    generalize allN (ascAt sh) 0 sh.length = G
    generalize ((lg.length : Int) == ((places (dAt li) li.length).length : Int)) = H
    generalize knowB xs kn = K
    generalize decide (li.length ≤ 8) = M
    generalize inB 0 8 fr = R
    intro e3
    have : (A && B) = (C && D) := e3.symm
    cases A <;> cases B <;> cases C <;> cases D <;> simp_all <;> (cases E <;> cases F <;> cases G <;> rfl)
  | false =>
    simp only [Bool.false_and, Bool.and_false]
end

/-! ### Sizes -/
theorem szIntS_ex (n : Nat) {l : List Int} (hl : l.length ≤ 9223372036854775807) {r : Int} (h0 : 0 ≤ r) (h1 : r ≤ 1048576) : ∃ q, laws_szIntS n (l, r) = some q ∧ (q < 0 ∨ (0 ≤ q ∧ q ≤ 1048576 ∧ l.length ≤ 1048576)) := by
  unfold laws_szIntS
  simp only [wrap_ok (show -9223372036854775808 ≤ r - (l.length : Int) by omega) (show r - (l.length : Int) ≤ 9223372036854775807 by omega)]
  by_cases q : r - (l.length : Int) < 0
  · rw [decide_eq_true q]; exact ⟨-1, rfl, .inl (by omega)⟩
  · rw [decide_eq_false q]; exact ⟨_, rfl, .inr (by omega)⟩
theorem szClaimS_ex (n : Nat) {l : List Claim3} (hl : l.length ≤ 9223372036854775807) {r : Int} (h0 : 0 ≤ r) (h1 : r ≤ 1048576) : ∃ q, laws_szClaimS n (l, r) = some q ∧ (q < 0 ∨ (0 ≤ q ∧ q ≤ 1048576 ∧ l.length ≤ 1048576)) := by
  unfold laws_szClaimS
  simp only [wrap_ok (show -9223372036854775808 ≤ r - (l.length : Int) by omega) (show r - (l.length : Int) ≤ 9223372036854775807 by omega)]
  by_cases q : r - (l.length : Int) < 0
  · rw [decide_eq_true q]; exact ⟨-1, rfl, .inl (by omega)⟩
  · rw [decide_eq_false q]; exact ⟨_, rfl, .inr (by omega)⟩

theorem szInstS_loop (n : Nat) {li : List Inst9} (hl : li.length ≤ 1048576) (he : ∀ i, i < li.length → (envL (li.getD i zI)).length ≤ 9223372036854775807) : ∀ (m i : Nat) (r : Int), 0 ≤ r → r ≤ 1048576 → i ≤ li.length → li.length < m + i →
    (∃ q, laws_szInstS_L5 n m (li, r, (i : Int)) = some (.inl q) ∧ q < 0) ∨ (∃ q, laws_szInstS_L5 n m (li, r, (i : Int)) = some (.inr q) ∧ 0 ≤ q ∧ q ≤ 1048576 ∧ ∀ j, i ≤ j → j < li.length → (envL (li.getD j zI)).length ≤ 1048576)
  | 0, i, r, _, _, h1, h2 => by omega
  | m + 1, i, r, h0, h1, h2, h3 => by
    rcases Nat.eq_or_lt_of_le h2 with q | q
    · subst q
      refine .inr ⟨r, ?_, h0, h1, fun j _ _ => by omega⟩
      rw [laws_szInstS_L5]; dsimp only; rw [lt_f]; rfl
    · have e : laws_szInstS_L5 n (m + 1) (li, r, (i : Int)) = (bif decide ((if ((envL (li.getD i zI)).length : Int) ≤ r then r - ((envL (li.getD i zI)).length : Int) else -1) < 0) then some (.inl (-1)) else laws_szInstS_L5 n m (li, (if ((envL (li.getD i zI)).length : Int) ≤ r then r - ((envL (li.getD i zI)).length : Int) else -1), ((i + 1 : Nat) : Int))) := by
        rw [laws_szInstS_L5]; dsimp only
        rw [lt_t q, cond_true, inb_nat q, cond_true]
        simp only [Int.toNat_natCast, step_wrap q (by omega : li.length ≤ 4294967296)]
        rw [szInst_eq n ⟨h0, h1⟩ (he i q)]
        rfl
      rw [e]
      by_cases hz : ((envL (li.getD i zI)).length : Int) ≤ r
      · rw [if_pos hz, decide_eq_false (by omega : ¬ r - ((envL (li.getD i zI)).length : Int) < 0), cond_false]
        rcases szInstS_loop n hl he m (i + 1) (r - ((envL (li.getD i zI)).length : Int)) (by omega) (by omega) q (by omega) with g | ⟨v, g1, g2, g3, g4⟩
        · exact .inl g
        · refine .inr ⟨v, g1, g2, g3, fun j h5 h6 => ?_⟩
          rcases Nat.eq_or_lt_of_le h5 with z | z
          · subst z; omega
          · exact g4 j z h6
      · rw [if_neg hz]
        exact .inl ⟨-1, rfl, by omega⟩
theorem szInstS_ex {li : List Inst9} (hl : li.length ≤ 9223372036854775807) (he : ∀ i, i < li.length → (envL (li.getD i zI)).length ≤ 9223372036854775807) {r : Int} (h0 : 0 ≤ r) (h1 : r ≤ 1048576) :
    ∃ q, laws_szInstS N0 (li, r) = some q ∧ (q < 0 ∨ (0 ≤ q ∧ q ≤ 1048576 ∧ li.length ≤ 1048576 ∧ ∀ j, j < li.length → (envL (li.getD j zI)).length ≤ 1048576)) := by
  unfold laws_szInstS
  simp only [wrap_ok (show -9223372036854775808 ≤ r - (li.length : Int) by omega) (show r - (li.length : Int) ≤ 9223372036854775807 by omega)]
  by_cases q : r - (li.length : Int) < 0
  · rw [decide_eq_true q]; exact ⟨-1, rfl, .inl (by omega)⟩
  · rw [decide_eq_false q, cond_false]
    rcases szInstS_loop N0 (by omega) he N0 0 (r - (li.length : Int)) (by omega) (by omega) (Nat.zero_le _) (by have := n0; omega) with ⟨v, g1, g2⟩ | ⟨v, g1, g2, g3, g4⟩
    · rw [show laws_szInstS_L5 N0 N0 (li, r - (li.length : Int), (0 : Int)) = _ from g1]
      exact ⟨v, rfl, .inl g2⟩
    · rw [show laws_szInstS_L5 N0 N0 (li, r - (li.length : Int), (0 : Int)) = _ from g1]
      exact ⟨v, rfl, .inr ⟨g2, g3, by omega, fun j hj => g4 j (Nat.zero_le _) hj⟩⟩

structure Big (xs : List Node3) (kn : List Int) (li : List Inst9) (gv sh : List Int) (lg : List Claim3) : Prop where
  fx : xs.length ≤ 9223372036854775807
  fk : kn.length ≤ 9223372036854775807
  fl : li.length ≤ 9223372036854775807
  fg : gv.length ≤ 9223372036854775807
  fs : sh.length ≤ 9223372036854775807
  fo : lg.length ≤ 9223372036854775807
  fe : ∀ i, i < li.length → (envL (li.getD i zI)).length ≤ 9223372036854775807

section
variable {xs : List Node3} {kn : List Int} {li : List Inst9} {fr : Int} {gv sh : List Int} {lg : List Claim3}

theorem szWorld_ex (hb : Big xs kn li gv sh lg) : ∃ q, laws_szWorld N0 (xs, kn, li, fr, gv, sh, lg, (1048576 : Int)) = some q ∧ (q < 0 ∨ (0 ≤ q ∧ Small xs kn li gv sh lg)) := by
  rw [laws_szWorld]; dsimp only
  rw [szPool_eq N0 hb.fx]
  simp only [Option.bind_some]
  by_cases q1 : xs.length ≤ 1048576
  · rw [if_pos q1, decide_eq_false (by omega : ¬ (1048576 : Int) - (xs.length : Int) < 0), cond_false]
    obtain ⟨a, ha, ha2⟩ := szIntS_ex N0 hb.fk (r := (1048576 : Int) - (xs.length : Int)) (by omega) (by omega)
    rw [ha]
    rcases ha2 with ha2 | ⟨ha2, ha3, ha4⟩
    · simp only [Option.bind_some]
      rw [decide_eq_true ha2]; exact ⟨-1, rfl, .inl (by omega)⟩
    · simp only [Option.bind_some]
      rw [decide_eq_false (by omega : ¬ a < 0), cond_false]
      obtain ⟨b, hb1, hb2⟩ := szInstS_ex hb.fl hb.fe ha2 ha3
      rw [hb1]
      rcases hb2 with hb2 | ⟨hb2, hb3, hb4, hb5⟩
      · simp only [Option.bind_some]
        rw [decide_eq_true hb2]; exact ⟨-1, rfl, .inl (by omega)⟩
      · simp only [Option.bind_some]
        rw [decide_eq_false (by omega : ¬ b < 0), cond_false]
        obtain ⟨c, hc1, hc2⟩ := szIntS_ex N0 hb.fg hb2 hb3
        rw [hc1]
        rcases hc2 with hc2 | ⟨hc2, hc3, hc4⟩
        · simp only [Option.bind_some]
          rw [decide_eq_true hc2]; exact ⟨-1, rfl, .inl (by omega)⟩
        · simp only [Option.bind_some]
          rw [decide_eq_false (by omega : ¬ c < 0), cond_false]
          obtain ⟨d, hd1, hd2⟩ := szIntS_ex N0 hb.fs hc2 hc3
          rw [hd1]
          rcases hd2 with hd2 | ⟨hd2, hd3, hd4⟩
          · simp only [Option.bind_some]
            rw [decide_eq_true hd2]; exact ⟨-1, rfl, .inl (by omega)⟩
          · simp only [Option.bind_some]
            rw [decide_eq_false (by omega : ¬ d < 0), cond_false]
            obtain ⟨e, he1, he2⟩ := szClaimS_ex N0 hb.fo hd2 hd3
            rw [he1]
            rcases he2 with he2 | ⟨he2, he3, he4⟩
            · simp only [Option.bind_some]
              rw [decide_eq_true he2]; exact ⟨-1, rfl, .inl (by omega)⟩
            · simp only [Option.bind_some]
              rw [decide_eq_false (by omega : ¬ e < 0), cond_false]
              exact ⟨e, rfl, .inr ⟨he2, by omega, by omega, by omega, by omega, by omega, by omega, fun i hi => Nat.le_trans (hb5 i hi) (by omega)⟩⟩
  · rw [if_neg q1]
    exact ⟨-1, rfl, .inl (by omega)⟩

/-! ### Copies -/
theorem getD_set_copy {α : Type} (d : α) {xs ys : List α} {i : Nat} (hi : i < xs.length) (hl : ys.length = xs.length) (h : ∀ j, j < i → ys[j]? = xs[j]?) : (ys.set i (xs.getD i d)).length = xs.length ∧ ∀ j, j < i + 1 → (ys.set i (xs.getD i d))[j]? = xs[j]? := by
  rw [getD_of hi]; exact copy_set hi hl h

theorem toInstS_loop {li : List Inst9} (hl : li.length ≤ 4294967296) (he : ∀ i, i < li.length → (envL (li.getD i zI)).length ≤ 4294967296) : ∀ (m i : Nat) (ys : List Inst9), i ≤ li.length → ys.length = li.length → (∀ j, j < i → ys[j]? = li[j]?) → li.length < m + i → laws_toInstS_L3 N0 m (li, ys, (i : Int)) = some li
  | 0, i, ys, hi, hy, h, hm => by omega
  | m + 1, i, ys, hi, hy, h, hm => by
    rcases Nat.eq_or_lt_of_le hi with q | q
    · subst q
      rw [laws_toInstS_L3]; dsimp only; rw [lt_f, cond_false, copy_done (Nat.le_refl _) hy h]
    · have e : laws_toInstS_L3 N0 (m + 1) (li, ys, (i : Int)) = laws_toInstS_L3 N0 m (li, ys.set i (li.getD i zI), ((i + 1 : Nat) : Int)) := by
        rw [laws_toInstS_L3]; dsimp only
        rw [lt_t q, cond_true, inb_nat q, cond_true, Int.toNat_natCast]
        first | rw [toInst_eq N0 n0 (he i q)] | rw [show laws_toInst_o = laws_toInst from rfl, toInst_eq N0 n0 (he i q)]
        simp only [Option.bind_some]
        rw [inb_nat (by omega : i < ys.length), cond_true, step_wrap q hl]
      obtain ⟨h1, h2⟩ := getD_set_copy zI q hy h
      rw [e]
      exact toInstS_loop hl he m (i + 1) _ q h1 h2 (by omega)
theorem toInstS_eq {li : List Inst9} (hl : li.length ≤ 4294967296) (he : ∀ i, i < li.length → (envL (li.getD i zI)).length ≤ 4294967296) : laws_toInstS N0 li = some li := by
  unfold laws_toInstS
  rw [decide_eq_true (by omega : 0 ≤ (li.length : Int) ∧ (li.length : Int) ≤ (li.length : Int) ∧ (li.length : Int) ≤ 4294967296), cond_true]
  have := toInstS_loop hl he N0 0 (List.replicate ((li.length : Int)).toNat zI) (Nat.zero_le _) (by simp) (fun j hj => by omega) (by have := n0; omega)
  rw [show laws_toInstS_L3 N0 N0 (li, List.replicate ((li.length : Int)).toNat zI, (0 : Int)) = _ from this]; rfl

theorem toClaimS_loop {lg : List Claim3} (hl : lg.length ≤ 4294967296) : ∀ (m i : Nat) (ys : List Claim3), i ≤ lg.length → ys.length = lg.length → (∀ j, j < i → ys[j]? = lg[j]?) → lg.length < m + i → laws_toClaimS_L3 N0 m (lg, ys, (i : Int)) = some lg
  | 0, i, ys, hi, hy, h, hm => by omega
  | m + 1, i, ys, hi, hy, h, hm => by
    rcases Nat.eq_or_lt_of_le hi with q | q
    · subst q
      rw [laws_toClaimS_L3]; dsimp only; rw [lt_f, cond_false, copy_done (Nat.le_refl _) hy h]
    · have e : laws_toClaimS_L3 N0 (m + 1) (lg, ys, (i : Int)) = laws_toClaimS_L3 N0 m (lg, ys.set i (lg.getD i zC), ((i + 1 : Nat) : Int)) := by
        rw [laws_toClaimS_L3]; dsimp only
        rw [lt_t q, cond_true, inb_nat q, cond_true, Int.toNat_natCast, show laws_toClaim N0 ((lg.getD i zC).1, (lg.getD i zC).2.1, (lg.getD i zC).2.2) = some (lg.getD i zC) from rfl]
        simp only [Option.bind_some]
        rw [inb_nat (by omega : i < ys.length), cond_true, step_wrap q hl]
      obtain ⟨h1, h2⟩ := getD_set_copy zC q hy h
      rw [e]
      exact toClaimS_loop hl m (i + 1) _ q h1 h2 (by omega)
theorem toClaimS_eq {lg : List Claim3} (hl : lg.length ≤ 4294967296) : laws_toClaimS N0 lg = some lg := by
  unfold laws_toClaimS
  rw [decide_eq_true (by omega : 0 ≤ (lg.length : Int) ∧ (lg.length : Int) ≤ (lg.length : Int) ∧ (lg.length : Int) ≤ 4294967296), cond_true]
  have := toClaimS_loop hl N0 0 (List.replicate ((lg.length : Int)).toNat zC) (Nat.zero_le _) (by simp) (fun j hj => by omega) (by have := n0; omega)
  rw [show laws_toClaimS_L3 N0 N0 (lg, List.replicate ((lg.length : Int)).toNat zC, (0 : Int)) = _ from this]; rfl

theorem toWorld_eq (hs : Small xs kn li gv sh lg) : laws_toWorld N0 (xs, kn, li, fr, gv, sh, lg) = some (xs, kn, li, fr, gv, sh, lg) := by
  rw [laws_toWorld]; dsimp only
  rw [toPool_eq N0 n0 hs.fx, toIntS_eq N0 n0 hs.fk, toInstS_eq hs.fl hs.fe, toIntS_eq N0 n0 hs.fg, toIntS_eq N0 n0 hs.fs, toClaimS_eq hs.fo]; rfl

/-! ### A world is held against itself -/
theorem eqIntS_self {l : List Int} (hl : l.length ≤ 4294967296) : laws_eqIntS N0 (l, l) = some true := by
  unfold laws_eqIntS
  have := eqIntS_loop N0 hl N0 0 (Nat.zero_le _) (by have := n0; omega)
  rw [show ((0 : Nat) : Int) = (0 : Int) from rfl] at this
  simp only [bne_self_eq_false, cond_false, this]; rfl
theorem eqInstS_self {li : List Inst9} (hl : li.length ≤ 4294967296) (he : ∀ i, i < li.length → (envL (li.getD i zI)).length ≤ 4294967296) : laws_eqInstS N0 (li, li) = some true := by
  have h := test_loop (laws_eqInstS_L4 N0) (fun i => (li, li, (i : Int))) (fun _ => true) false () li.length (fun m i hi => by
    rw [laws_eqInstS_L4]; dsimp only
    rw [lt_t hi, cond_true, inb_nat hi, cond_true, cond_true, Int.toNat_natCast, eqInst_self N0 n0 (he i hi)]
    simp only [Option.bind_some, step_wrap hi hl]; rfl) (fun m => by
    rw [laws_eqInstS_L4]; dsimp only; rw [lt_f]; rfl) N0 0 (Nat.zero_le _) (by have := n0; omega)
  have ht : allN (fun _ => true) 0 (li.length - 0) = true := allN_iff.2 fun _ _ _ => rfl
  rw [ht] at h
  unfold laws_eqInstS
  simp only [bne_self_eq_false, cond_false]
  rw [show laws_eqInstS_L4 N0 N0 (li, li, (0 : Int)) = _ from h]; rfl
theorem eqClaim_self (x : Claim3) : laws_eqClaim N0 (x.1, x.2.1, x.2.2, x.1, x.2.1, x.2.2) = some true := by
  unfold laws_eqClaim
  simp only [bne_self_eq_false, cond_false]
theorem eqClaimS_self {lg : List Claim3} (hl : lg.length ≤ 4294967296) : laws_eqClaimS N0 (lg, lg) = some true := by
  have h := test_loop (laws_eqClaimS_L4 N0) (fun i => (lg, lg, (i : Int))) (fun _ => true) false () lg.length (fun m i hi => by
    rw [laws_eqClaimS_L4]; dsimp only
    rw [lt_t hi, cond_true, inb_nat hi, cond_true, cond_true, Int.toNat_natCast, eqClaim_self]
    simp only [Option.bind_some, step_wrap hi hl]; rfl) (fun m => by
    rw [laws_eqClaimS_L4]; dsimp only; rw [lt_f]; rfl) N0 0 (Nat.zero_le _) (by have := n0; omega)
  have ht : allN (fun _ => true) 0 (lg.length - 0) = true := allN_iff.2 fun _ _ _ => rfl
  rw [ht] at h
  unfold laws_eqClaimS
  simp only [bne_self_eq_false, cond_false]
  rw [show laws_eqClaimS_L4 N0 N0 (lg, lg, (0 : Int)) = _ from h]; rfl
theorem eqWorld_self (hs : Small xs kn li gv sh lg) : laws_eqWorld N0 (xs, kn, li, fr, gv, sh, lg, xs, kn, li, fr, gv, sh, lg) = some true := by
  rw [laws_eqWorld]; dsimp only
  rw [eqPool_self N0 n0 hs.fx, eqIntS_self hs.fk, eqInstS_self hs.fl hs.fe, eqIntS_self hs.fg, eqIntS_self hs.fs, eqClaimS_self hs.fo]
  simp only [Option.bind_some, Bool.not_true, cond_false, bne_self_eq_false]

end

theorem big_of {xs : List Node3} {kn : List Int} {li : List Inst9} {gv sh : List Int} {lg : List Claim3} (h1 : Fits (.sl kN) xs) (h2 : Fits (.sl kI) kn) (h3 : Fits (.sl (.pr kI (.pr kI (.pr kI (.pr kI (.pr kI (.pr (.sl kI) (.pr .bool (.pr .bool kI))))))))) li) (h4 : Fits (.sl kI) gv) (h5 : Fits (.sl kI) sh) (h6 : Fits (.sl (.pr kI (.pr .bool .bool))) lg) : Big xs kn li gv sh lg where
  fx := maxLen_eq ▸ h1.1
  fk := maxLen_eq ▸ h2.1
  fl := maxLen_eq ▸ h3.1
  fg := maxLen_eq ▸ h4.1
  fs := maxLen_eq ▸ h5.1
  fo := maxLen_eq ▸ h6.1
  fe := fun i hi => by
    have hm : li.getD i zI ∈ li := by rw [getD_of hi]; exact List.getElem_mem hi
    have := h3.2 _ hm
    exact maxLen_eq ▸ this.2.2.2.2.2.1.1

end AM
end Go.Proofs.YtoglpjkelbfjfaaGreatDoor

/-! What hangs on a world's rightness: given, claims, trust, shown keys, an instance as text, secrets; the laws, as plain functions, come to true. No condition but that lists are no longer than memory. -/
namespace Go.Proofs.YtoglpjkelbfjfaaGreatDoor
namespace AM
open Go
set_option linter.unusedVariables false
set_option linter.unusedSimpArgs false

section
variable {xs : List Node3} {kn : List Int} {li : List Inst9} {fr : Int} {gv sh : List Int} {lg : List Claim3} {k : Int}

/-! ### Claims -/
/-- The first claim of an instance from a place on. -/
def claimFrom (lg : List Claim3) (k : Int) : Nat → Nat → Option Claim3
  | _, 0 => none
  | i, m + 1 => bif lk lg i == k then some (lg.getD i zC) else claimFrom lg k (i + 1) m
def claimAt (lg : List Claim3) (k : Int) : Option Claim3 := claimFrom lg k 0 lg.length

theorem implClaim_loop (hg : lg.length ≤ 4294967296) : ∀ (m i : Nat), i ≤ lg.length → lg.length < m + i → impl_World_claimOf_L2 N0 m (xs, kn, li, fr, gv, sh, lg, k, (0 : Int), false, false, lg, (lg.length : Int), (i : Int)) =
    some (match claimFrom lg k i (lg.length - i) with | some c => .inl (xs, kn, li, fr, gv, sh, lg, c.1, c.2.1, c.2.2, true) | none => .inr (xs, kn, li, fr, gv, sh, lg, (0 : Int), false, false))
  | 0, i, h1, h2 => by omega
  | m + 1, i, h1, h2 => by
    rcases Nat.eq_or_lt_of_le h1 with q | q
    · subst q
      rw [impl_World_claimOf_L2]; dsimp only; rw [lt_f, Nat.sub_self]; rfl
    · have ih := implClaim_loop hg m (i + 1) q (by omega)
      rw [impl_World_claimOf_L2]; dsimp only
      rw [lt_t q, cond_true, inb_nat q, cond_true, Int.toNat_natCast, step_wrap q hg, show lg.length - i = (lg.length - (i + 1)) + 1 by omega, ih]
      show (cond (lk lg i == k) _ _) = some (match (bif lk lg i == k then some (lg.getD i zC) else claimFrom lg k (i + 1) (lg.length - (i + 1))) with | some c => _ | none => _)
      cases (lk lg i == k) <;> rfl
theorem implClaim_eq (hg : lg.length ≤ 4294967296) : impl_World_claimOf N0 (xs, kn, li, fr, gv, sh, lg, k) =
    some (match claimAt lg k with | some c => (xs, kn, li, fr, gv, sh, lg, c.1, c.2.1, c.2.2, true) | none => (xs, kn, li, fr, gv, sh, lg, (0 : Int), false, false, false)) := by
  have h := implClaim_loop (xs := xs) (kn := kn) (li := li) (fr := fr) (gv := gv) (sh := sh) (k := k) hg N0 0 (Nat.zero_le _) (by have := n0; omega)
  rw [Nat.sub_zero] at h
  rw [impl_World_claimOf]; dsimp only
  rw [show impl_World_claimOf_L2 N0 N0 (xs, kn, li, fr, gv, sh, lg, k, (0 : Int), false, false, lg, (lg.length : Int), (0 : Int)) = _ from h]
  unfold claimAt
  cases claimFrom lg k 0 lg.length <;> rfl

theorem specClaim_loop (hg : lg.length ≤ 4294967296) : ∀ (m i : Nat), i ≤ lg.length → lg.length < m + i → spec_l15Claim_L2 N0 m (k, xs, kn, li, fr, gv, sh, lg, (0 : Int), false, false, (i : Int)) =
    some (match claimFrom lg k i (lg.length - i) with | some c => .inl (c.1, c.2.1, c.2.2, true) | none => .inr ((0 : Int), false, false))
  | 0, i, h1, h2 => by omega
  | m + 1, i, h1, h2 => by
    rcases Nat.eq_or_lt_of_le h1 with q | q
    · subst q
      rw [spec_l15Claim_L2]; dsimp only; rw [lt_f, Nat.sub_self]; rfl
    · have ih := specClaim_loop hg m (i + 1) q (by omega)
      rw [spec_l15Claim_L2]; dsimp only
      rw [lt_t q, cond_true, inb_nat q, cond_true, cond_true, Int.toNat_natCast, step_wrap q hg, show lg.length - i = (lg.length - (i + 1)) + 1 by omega, ih]
      show (cond (lk lg i == k) _ _) = some (match (bif lk lg i == k then some (lg.getD i zC) else claimFrom lg k (i + 1) (lg.length - (i + 1))) with | some c => _ | none => _)
      cases (lk lg i == k) <;> rfl
theorem specClaim_eq (hg : lg.length ≤ 4294967296) : spec_l15Claim N0 (xs, kn, li, fr, gv, sh, lg, k) =
    some (match claimAt lg k with | some c => (c.1, c.2.1, c.2.2, true) | none => ((0 : Int), false, false, false)) := by
  have h := specClaim_loop (xs := xs) (kn := kn) (li := li) (fr := fr) (gv := gv) (sh := sh) (k := k) hg N0 0 (Nat.zero_le _) (by have := n0; omega)
  rw [Nat.sub_zero] at h
  rw [spec_l15Claim]; dsimp only
  rw [show spec_l15Claim_L2 N0 N0 (k, xs, kn, li, fr, gv, sh, lg, (0 : Int), false, false, (0 : Int)) = _ from h]
  unfold claimAt
  cases claimFrom lg k 0 lg.length <;> rfl

theorem claimFrom_lk (lg : List Claim3) (k : Int) : ∀ (m i : Nat) {c : Claim3}, claimFrom lg k i m = some c → ∃ j, i ≤ j ∧ j < i + m ∧ lk lg j = k
  | 0, i, c, h => by cases h
  | m + 1, i, c, h => by
    unfold claimFrom at h
    cases q : (lk lg i == k) with
    | true => exact ⟨i, Nat.le_refl _, by omega, beq_iff_eq.1 q⟩
    | false =>
      rw [q] at h
      obtain ⟨j, h1, h2, h3⟩ := claimFrom_lk lg k m (i + 1) h
      exact ⟨j, by omega, by omega, h3⟩

/-- Of a right world: who has a claim is an instance. -/
theorem world_claim (hw : worldB xs kn li fr gv sh lg = true) {c : Claim3} (hc : claimAt lg k = some c) : inst0 (li.length : Int) k = true := by
  obtain ⟨j, _, h2, h3⟩ := claimFrom_lk lg k _ 0 hc
  unfold worldB at hw
  simp only [Bool.and_eq_true] at hw
  have hl := hw.2.2.2.2.2.2.2.2.1
  rw [allN_iff] at hl
  have := hl j (Nat.zero_le _) h2
  unfold gLog at this
  rw [Bool.and_eq_true] at this
  have := this.1
  unfold doneB at this
  rw [Bool.and_eq_true, h3] at this
  exact this.1
def trustB (li : List Inst9) (lg : List Claim3) (k : Int) : Bool := match claimAt lg k with
  | some c => !c.2.1 && (((li.getD k.toNat zI).1 != (2 : Int)) || !c.2.2)
  | none => false
theorem implTrusted_eq (hs : Small xs kn li gv sh lg) (hw : worldB xs kn li fr gv sh lg = true) : impl_World_trusted N0 (xs, kn, li, fr, gv, sh, lg, k) = some (xs, kn, li, fr, gv, sh, lg, trustB li lg k) := by
  rw [impl_World_trusted]; dsimp only
  rw [implClaim_eq hs.fo]
  simp only [Option.bind_some]
  unfold trustB
  cases hc : claimAt lg k with
  | none => rfl
  | some c =>
    have := inst0_inb (world_claim hw hc)
    dsimp only
    rw [this]
    cases c.2.1 <;> cases ((li.getD k.toNat zI).1 != (2 : Int)) <;> cases c.2.2 <;> rfl
theorem specTrusted_eq (hs : Small xs kn li gv sh lg) (hw : worldB xs kn li fr gv sh lg = true) : spec_l15Trusted N0 (xs, kn, li, fr, gv, sh, lg, k) = some (trustB li lg k) := by
  rw [spec_l15Trusted]; dsimp only
  rw [specClaim_eq hs.fo]
  simp only [Option.bind_some]
  unfold trustB
  cases hc : claimAt lg k with
  | none => rfl
  | some c =>
    have := inst0_inb (world_claim hw hc)
    dsimp only
    rw [this]
    cases c.2.1 <;> cases ((li.getD k.toNat zI).1 != (2 : Int)) <;> cases c.2.2 <;> rfl
/-! ### Shown keys -/
/-! ### The laws -/
end

/-! ### In the form that a row wants -/
end AM
end Go.Proofs.YtoglpjkelbfjfaaGreatDoor

/-! What stands in a pool, what is put into it, and what a pattern makes: the program's and the reference's functions come to the same. Under: a right pool. -/
namespace Go.Proofs.YtoglpjkelbfjfaaGreatDoor
namespace AM
open Go
set_option linter.unusedVariables false
set_option linter.unusedSimpArgs false

abbrev zN3 : Node3 := ((0 : Int), ((0 : Int), (0 : Int)))

/-! ### The first place at which a node stands -/
def pf (xs : List Node3) (k : Node3) : Nat → Nat → Option Nat
  | _, 0 => none
  | i, m + 1 => if xs.getD i zN3 = k then some i else pf xs k (i + 1) m
abbrev pfind (xs : List Node3) (k : Node3) : Option Nat := pf xs k 0 xs.length
theorem pf_some {xs : List Node3} {k : Node3} : ∀ {m i j : Nat}, pf xs k i m = some j → i ≤ j ∧ j < i + m ∧ xs.getD j zN3 = k
  | 0, _, _, h => by cases h
  | m + 1, i, j, h => by
    unfold pf at h
    by_cases hk : xs.getD i zN3 = k
    · rw [if_pos hk] at h
      obtain rfl := Option.some.inj h
      exact ⟨Nat.le_refl _, by omega, hk⟩
    · rw [if_neg hk] at h
      obtain ⟨h1, h2, h3⟩ := pf_some h
      exact ⟨by omega, by omega, h3⟩
theorem pf_none {xs : List Node3} {k : Node3} : ∀ {m i : Nat}, pf xs k i m = none → ∀ q, i ≤ q → q < i + m → xs.getD q zN3 ≠ k
  | 0, i, _, q, h1, h2 => by omega
  | m + 1, i, h, q, h1, h2 => by
    unfold pf at h
    by_cases hk : xs.getD i zN3 = k
    · rw [if_pos hk] at h; cases h
    · rw [if_neg hk] at h
      rcases Nat.eq_or_lt_of_le h1 with e | e
      · subst e; exact hk
      · exact pf_none h q e (by omega)
theorem node_beq (p k : Node3) : (p.1 == k.1 && (p.2.1 == k.2.1 && (p.2.2 == k.2.2 && true))) = decide (p = k) := by
  obtain ⟨p1, p2, p3⟩ := p
  obtain ⟨k1, k2, k3⟩ := k
  rw [Bool.eq_iff_iff]
  simp
theorem node_beq' (p k : Node3) : (k.1 == p.1 && (k.2.1 == p.2.1 && (k.2.2 == p.2.2 && true))) = decide (p = k) := by
  rw [node_beq k p, Bool.eq_iff_iff]
  simp [eq_comm]
theorem pf_step {xs : List Node3} {k : Node3} {i : Nat} (h : i < xs.length) : pf xs k i (xs.length - i) = if xs.getD i zN3 = k then some i else pf xs k (i + 1) (xs.length - (i + 1)) := by
  have e : xs.length - i = (xs.length - (i + 1)) + 1 := by omega
  rw [e]; rfl
theorem pf_end {xs : List Node3} {k : Node3} {i : Nat} (h : xs.length ≤ i) : pf xs k i (xs.length - i) = none := by
  have e : xs.length - i = 0 := by omega
  rw [e]; rfl
theorem index_loop (n : Nat) {xs : List Node3} (hx : xs.length ≤ 4294967296) (k : Node3) : ∀ (m i : Nat), i ≤ xs.length → xs.length < m + i → slices_Index___impl_Node_impl_Node__L2 n m (xs, k.1, k.2.1, k.2.2, (xs.length : Int), (i : Int)) =
    some (match pf xs k i (xs.length - i) with | some j => Sum.inl (j : Int) | none => Sum.inr ())
  | 0, i, h1, h2 => by omega
  | m + 1, i, h1, h2 => by
    have e0 : slices_Index___impl_Node_impl_Node__L2 n (m + 1) (xs, k.1, k.2.1, k.2.2, (xs.length : Int), (i : Int)) = (cond (decide ((i : Int) < (xs.length : Int))) (cond (inb (i : Int) xs.length) (cond (k.1 == (xs.getD ((i : Int)).toNat zN3).1 && (k.2.1 == (xs.getD ((i : Int)).toNat zN3).2.1 && (k.2.2 == (xs.getD ((i : Int)).toNat zN3).2.2 && true))) (some (Sum.inl (i : Int))) (slices_Index___impl_Node_impl_Node__L2 n m (xs, k.1, k.2.1, k.2.2, (xs.length : Int), IntKind.i64.wrap ((i : Int) + (1 : Int))))) none) (some (Sum.inr ()))) := rfl
    rw [e0, lt_nat]
    by_cases hlt : i < xs.length
    · rw [decide_eq_true hlt, cond_true, inb_nat hlt, cond_true, Int.toNat_natCast, step_wrap hlt hx, node_beq', pf_step hlt]
      by_cases hk : xs.getD i zN3 = k
      · rw [decide_eq_true hk, cond_true, if_pos hk]
      · rw [decide_eq_false hk, cond_false, if_neg hk, index_loop n hx k m (i + 1) hlt (by omega)]
    · rw [decide_eq_false hlt, cond_false, pf_end (by omega)]
theorem find_loop2 (n : Nat) {xs : List Node3} (hx : xs.length ≤ 4294967296) (k : Node3) : ∀ (m i : Nat), i ≤ xs.length → xs.length < m + i → spec_l1Find_L2 n m (xs, k.1, k.2.1, k.2.2, (i : Int)) =
    some (match pf xs k i (xs.length - i) with | some j => Sum.inl (j : Int) | none => Sum.inr ())
  | 0, i, h1, h2 => by omega
  | m + 1, i, h1, h2 => by
    have e0 : spec_l1Find_L2 n (m + 1) (xs, k.1, k.2.1, k.2.2, (i : Int)) = (cond (decide ((i : Int) < (xs.length : Int))) (cond (inb (i : Int) xs.length) (cond ((xs.getD ((i : Int)).toNat zN3).1 == k.1 && ((xs.getD ((i : Int)).toNat zN3).2.1 == k.2.1 && ((xs.getD ((i : Int)).toNat zN3).2.2 == k.2.2 && true))) (some (Sum.inl (i : Int))) (spec_l1Find_L2 n m (xs, k.1, k.2.1, k.2.2, IntKind.i64.wrap ((i : Int) + (1 : Int))))) none) (some (Sum.inr ()))) := rfl
    rw [e0, lt_nat]
    by_cases hlt : i < xs.length
    · rw [decide_eq_true hlt, cond_true, inb_nat hlt, cond_true, Int.toNat_natCast, step_wrap hlt hx, node_beq, pf_step hlt]
      by_cases hk : xs.getD i zN3 = k
      · rw [decide_eq_true hk, cond_true, if_pos hk]
      · rw [decide_eq_false hk, cond_false, if_neg hk, find_loop2 n hx k m (i + 1) hlt (by omega)]
    · rw [decide_eq_false hlt, cond_false, pf_end (by omega)]
def pfI (xs : List Node3) (k : Node3) : Int := match pfind xs k with
  | some j => (j : Int)
  | none => -1
theorem index_eq {xs : List Node3} (hx : xs.length ≤ 4294967296) (k : Node3) : slices_Index___impl_Node_impl_Node_ N0 (xs, k.1, k.2.1, k.2.2) = some (pfI xs k) := by
  unfold slices_Index___impl_Node_impl_Node_
  dsimp only
  have h := index_loop N0 hx k N0 0 (Nat.zero_le _) (by have := n0; omega)
  rw [Nat.sub_zero] at h
  rw [show (0 : Int) = ((0 : Nat) : Int) from rfl, h]
  unfold pfI pfind
  cases pf xs k 0 xs.length <;> rfl
theorem l1Find_eq {xs : List Node3} (hx : xs.length ≤ 4294967296) (k : Node3) : spec_l1Find N0 (xs, k.1, k.2.1, k.2.2) = some (pfI xs k) := by
  unfold spec_l1Find
  dsimp only
  have h := find_loop2 N0 hx k N0 0 (Nat.zero_le _) (by have := n0; omega)
  rw [Nat.sub_zero] at h
  rw [show (0 : Int) = ((0 : Nat) : Int) from rfl, h]
  unfold pfI pfind
  cases pf xs k 0 xs.length <;> rfl

/-! ### Right nodes -/
theorem room_500 {α : Type} {xs : List Node3} (h : xs.length ≤ 500) {k : α} : room (xs.length + [k].length) = true := by
  unfold room
  rw [List.length_singleton]
  simp
  omega
theorem nodeV_up {c a b : Int} {i j : Nat} (hj : j ≤ 4294967296) (hij : i ≤ j) (h : nodeV N0 (c, a, b, (i : Int)) = true) : nodeV N0 (c, a, b, (j : Int)) = true := by
  have wi : IntKind.i64.wrap ((i : Int) - (1 : Int)) = (i : Int) - 1 := wrap_ok (by omega) (by omega)
  have wj : IntKind.i64.wrap ((j : Int) - (1 : Int)) = (j : Int) - 1 := wrap_ok (by omega) (by omega)
  have up : ∀ v : Int, (decide (v ≥ 0) && decide (v ≤ (i : Int) - 1)) = true → (decide (v ≥ 0) && decide (v ≤ (j : Int) - 1)) = true := fun v hv => by
    rw [Bool.and_eq_true, decide_eq_true_iff, decide_eq_true_iff] at hv ⊢
    omega
  have ha := up a
  have hb := up b
  revert h
  unfold nodeV impl_nodeOk
  dsimp only
  obtain ⟨v, hv⟩ := count_some N0 c
  rw [hv]
  simp only [Option.bind_some, inRange_eq, wi, wj]
  generalize (decide (a ≥ 0) && decide (a ≤ (i : Int) - 1)) = A1 at ha ⊢
  generalize (decide (a ≥ 0) && decide (a ≤ (j : Int) - 1)) = A2 at ha ⊢
  generalize (decide (b ≥ 0) && decide (b ≤ (i : Int) - 1)) = B1 at hb ⊢
  generalize (decide (b ≥ 0) && decide (b ≤ (j : Int) - 1)) = B2 at hb ⊢
  cases (v == (0 : Int))
  · cases (v == (1 : Int))
    · cases (v == (2 : Int))
      · exact id
      · cases A1
        · exact fun h => Bool.noConfusion h
        · cases B1
          · exact fun h => (by cases A2 <;> exact Bool.noConfusion h)
          · rw [ha rfl, hb rfl]; exact id
    · cases A1
      · exact fun h => Bool.noConfusion h
      · rw [ha rfl]; exact id
  · exact id
theorem okFrom_nd {n : Nat} : ∀ {r pre : List Node3}, okFrom n pre r = true → ∀ j, j < r.length → nodeV n ((r.getD j zN3).1, (r.getD j zN3).2.1, (r.getD j zN3).2.2, ((pre.length + j : Nat) : Int)) = true
  | [], pre, _, j, hj => absurd hj (Nat.not_lt_zero _)
  | k :: r, pre, h, j, hj => by
    have h : ((!pre.contains k && nodeV n (k.1, k.2.1, k.2.2, (pre.length : Int))) && okFrom n (pre ++ [k]) r) = true := h
    rw [Bool.and_eq_true, Bool.and_eq_true] at h
    match j with
    | 0 => exact h.1.2
    | j + 1 =>
      have := okFrom_nd h.2 j (by simpa using hj)
      rw [List.length_append] at this
      have e : pre.length + (j + 1) = pre.length + [k].length + j := by simp; omega
      rw [e]
      exact this
theorem okFrom_app {n : Nat} : ∀ {r pre s : List Node3}, okFrom n pre (r ++ s) = (okFrom n pre r && okFrom n (pre ++ r) s)
  | [], pre, s => by simp [okFrom]
  | k :: r, pre, s => by
    show ((!pre.contains k && nodeV n (k.1, k.2.1, k.2.2, (pre.length : Int))) && okFrom n (pre ++ [k]) (r ++ s)) = (((!pre.contains k && nodeV n (k.1, k.2.1, k.2.2, (pre.length : Int))) && okFrom n (pre ++ [k]) r) && okFrom n (pre ++ (k :: r)) s)
    rw [okFrom_app]
    simp only [Bool.and_assoc, List.append_assoc, List.singleton_append]
theorem poolB_len {xs : List Node3} (h : poolB xs = true) : xs.length ≤ 500 := by
  unfold poolB at h
  rw [Bool.and_eq_true, decide_eq_true_iff] at h
  exact h.1
theorem poolB_nd {xs : List Node3} (h : poolB xs = true) {j : Nat} (hj : j < xs.length) : nodeV N0 ((xs.getD j zN3).1, (xs.getD j zN3).2.1, (xs.getD j zN3).2.2, (j : Int)) = true := by
  unfold poolB at h
  rw [Bool.and_eq_true] at h
  have := okFrom_nd h.2 j hj
  simpa using this
theorem poolB_push {xs : List Node3} (h : poolB xs = true) (hl : xs.length < 500) {k : Node3} (hk : nodeV N0 (k.1, k.2.1, k.2.2, (xs.length : Int)) = true) (hn : pfind xs k = none) : poolB (xs ++ [k]) = true := by
  unfold poolB at h ⊢
  rw [Bool.and_eq_true] at h ⊢
  refine ⟨decide_eq_true (by simp; omega), ?_⟩
  rw [okFrom_app, h.2, Bool.true_and, List.nil_append]
  show ((!xs.contains k && nodeV N0 (k.1, k.2.1, k.2.2, (xs.length : Int))) && true) = true
  rw [hk, Bool.and_true, Bool.and_true, Bool.not_eq_true']
  rw [← Bool.not_eq_true]
  intro hc
  have hm : k ∈ xs := by simpa using hc
  obtain ⟨j, hj, e⟩ := List.mem_iff_getElem.1 hm
  refine pf_none hn j (Nat.zero_le _) (by omega) ?_
  rw [getD_of hj]
  exact e

/-! ### Putting a node -/
def addK (xs : List Node3) (k : Node3) : Option (List Node3 × Int) :=
  bif nodeV N0 (k.1, k.2.1, k.2.2, (xs.length : Int)) then (match pfind xs k with
    | some j => some (xs, (j : Int))
    | none => if 500 ≤ xs.length then none else some (xs ++ [k], (xs.length : Int))) else none
def norm (kd a b : Int) : Node3 := bif kd == 8 then (kd, mn a b, mx a b) else (kd, a, b)
def addP (xs : List Node3) (kd a b : Int) : Option (List Node3 × Int) := addK xs (norm kd a b)
def outI (xs : List Node3) : Option (List Node3 × Int) → List Node3 × Int
  | some r => r
  | none => (xs, -1)
theorem addK_pool {xs ys : List Node3} {k : Node3} {t : Int} (hp : poolB xs = true) (h : addK xs k = some (ys, t)) : poolB ys = true ∧ 0 ≤ t ∧ t < (ys.length : Int) ∧ (∃ zs, ys = xs ++ zs) ∧ ys.getD t.toNat zN3 = k := by
  unfold addK at h
  cases hk : nodeV N0 (k.1, k.2.1, k.2.2, (xs.length : Int)) with
  | false => rw [hk] at h; cases h
  | true =>
    rw [hk, cond_true] at h
    cases hf : pfind xs k with
    | some j =>
      rw [hf] at h
      obtain ⟨rfl, rfl⟩ := Prod.mk.inj (Option.some.inj h)
      obtain ⟨h1, h2, h3⟩ := pf_some hf
      exact ⟨hp, by omega, by omega, ⟨[], by simp⟩, by rw [Int.toNat_natCast]; exact h3⟩
    | none =>
      rw [hf] at h
      dsimp only at h
      by_cases hl : 500 ≤ xs.length
      · rw [if_pos hl] at h; cases h
      · rw [if_neg hl] at h
        obtain ⟨rfl, rfl⟩ := Prod.mk.inj (Option.some.inj h)
        exact ⟨poolB_push hp (by omega) hk hf, by omega, by simp; omega, ⟨[k], rfl⟩, by rw [Int.toNat_natCast]; simp [List.getD_eq_getElem?_getD]⟩
theorem isTermO_eq {xs : List Node3} (hx : xs.length ≤ 4294967296) (v : Int) : impl_Pool_isTerm_o N0 (xs, v) = some (xs, hasB xs v) := isTerm_eq N0 hx v
theorem implAddK {xs : List Node3} (hx : xs.length ≤ 500) (k : Node3) : ((impl_nodeOk N0 (k.1, k.2.1, k.2.2, ((xs).length : Int))).bind fun r1 => (cond (!r1) (some (xs, (-1 : Int))) ((impl_Pool_find_o N0 (xs, k.1, k.2.1, k.2.2)).bind fun r2 => (cond (decide (r2.2 ≥ (0 : Int))) (some (r2.1, r2.2)) (cond (decide (((r2.1).length : Int) ≥ (500 : Int))) (some (r2.1, (-1 : Int))) ((impl_Pool_add_R11 N0 (r2.1, k.1, k.2.1, k.2.2)).bind fun g3 => (some (g3, (IntKind.i64.wrap (((g3).length : Int) - (1 : Int)))))))))))
    = some (outI xs (addK xs k)) := by
  rw [nodeOk_eq, Option.bind_some]
  unfold addK
  cases nodeV N0 (k.1, k.2.1, k.2.2, (xs.length : Int)) with
  | false => rfl
  | true =>
    rw [cond_true, Bool.not_true, cond_false]
    have e1 : impl_Pool_find_o N0 (xs, k.1, k.2.1, k.2.2) = some (xs, pfI xs k) := by
      unfold impl_Pool_find_o
      dsimp only
      rw [index_eq (by omega)]; rfl
    rw [e1, Option.bind_some]
    dsimp only
    unfold pfI
    cases hf : pfind xs k with
    | some j =>
      dsimp only
      rw [decide_eq_true (by omega : (j : Int) ≥ (0 : Int)), cond_true]; rfl
    | none =>
      dsimp only
      rw [decide_eq_false (by omega : ¬ ((-1 : Int) ≥ (0 : Int))), cond_false]
      by_cases hl : 500 ≤ xs.length
      · rw [decide_eq_true (by omega : (xs.length : Int) ≥ (500 : Int)), cond_true, if_pos hl]; rfl
      · rw [decide_eq_false (by omega : ¬ ((xs.length : Int) ≥ (500 : Int))), cond_false, if_neg hl]
        have e2 : impl_Pool_add_R11 N0 (xs, k.1, k.2.1, k.2.2) = some (xs ++ [k]) := by
          unfold impl_Pool_add_R11
          dsimp only
          have : room (xs.length + [(k.1, (k.2.1, k.2.2))].length) = true := room_500 hx
          rw [this]; rfl
        rw [e2, Option.bind_some]
        have e3 : IntKind.i64.wrap (((xs ++ [k]).length : Int) - (1 : Int)) = (xs.length : Int) := by
          have hl : (xs ++ [k]).length = xs.length + 1 := by rw [List.length_append, List.length_singleton]
          rw [hl, wrap_ok (by omega) (by omega)]
          omega
        rw [e3]; rfl
theorem implAdd_eq {xs : List Node3} (hx : xs.length ≤ 500) (kd a b : Int) : impl_Pool_add N0 (xs, kd, a, b) = some (outI xs (addP xs kd a b)) := by
  unfold impl_Pool_add addP norm
  dsimp only
  cases hk : (kd == (8 : Int)) with
  | true => rw [cond_true, cond_true]; exact implAddK hx (kd, mn a b, mx a b)
  | false => rw [cond_false, cond_false]; exact implAddK hx (kd, a, b)
theorem implName_eq {xs : List Node3} (hx : xs.length ≤ 500) (c : Int) : impl_Pool_name N0 (xs, c) = some (outI xs (addP xs 1 c 0)) := by
  unfold impl_Pool_name
  dsimp only
  rw [implAdd_eq hx]; rfl
theorem specAddK {xs : List Node3} (hp : poolB xs = true) (k : Node3) : ((spec_l1Find N0 (xs, k.1, k.2.1, k.2.2)).bind fun r9 => (cond (decide (r9 ≥ (0 : Int))) (some (xs, r9)) ((spec_l1Right N0 (k.1, k.2.1, k.2.2, ((xs).length : Int))).bind fun r10 => (cond (!r10) (some (xs, (-1 : Int))) (cond (((xs).length : Int) == (500 : Int)) (some (xs, (-1 : Int))) ((spec_l1Copy N0 xs).bind fun r11 => (cond (room ((r11).length + ([(k.1, (k.2.1, k.2.2))]).length)) ((spec_l1Add_R10 N0 (xs, [], (r11 ++ [(k.1, (k.2.1, k.2.2))]))).bind fun g12 => (some (g12.1, g12.2))) none)))))))
    = some (outI xs (addK xs k)) := by
  have hx := poolB_len hp
  rw [l1Find_eq (by omega), Option.bind_some]
  unfold pfI addK
  cases hf : pfind xs k with
  | some j =>
    obtain ⟨h1, h2, h3⟩ := pf_some hf
    have hj : j < xs.length := by omega
    have hnd := poolB_nd hp hj
    rw [h3] at hnd
    rw [nodeV_up (by omega) (Nat.le_of_lt hj) hnd]
    dsimp only
    rw [decide_eq_true (by omega : (j : Int) ≥ (0 : Int)), cond_true]; rfl
  | none =>
    dsimp only
    rw [decide_eq_false (by omega : ¬ ((-1 : Int) ≥ (0 : Int))), cond_false, right_eq, Option.bind_some]
    cases nodeV N0 (k.1, k.2.1, k.2.2, (xs.length : Int)) with
    | false => rfl
    | true =>
      rw [cond_true, Bool.not_true, cond_false]
      by_cases hl : 500 ≤ xs.length
      · have : ((xs.length : Int) == (500 : Int)) = true := by simp; omega
        rw [this, cond_true, if_pos hl]; rfl
      · have : ((xs.length : Int) == (500 : Int)) = false := by simp; omega
        rw [this, cond_false, if_neg hl]
        have e1 : spec_l1Copy N0 xs = some xs := by
          unfold spec_l1Copy
          have : room (([] : List Node3).length + xs.length) = true := by
            unfold room
            simp
            omega
          rw [this]; rfl
        rw [e1, Option.bind_some]
        have : room (xs.length + [(k.1, (k.2.1, k.2.2))].length) = true := room_500 hx
        rw [this, cond_true]; rfl
theorem specAdd_eq {xs : List Node3} (hp : poolB xs = true) (kd a b : Int) : spec_l1Add N0 (xs, kd, a, b) = some (outI xs (addP xs kd a b)) := by
  unfold spec_l1Add addP norm mn mx
  dsimp only
  cases hk : (kd == (8 : Int)) with
  | true =>
    rw [cond_true, cond_true]
    by_cases hab : a > b
    · rw [decide_eq_true hab, cond_true, if_pos (by omega : b < a), if_neg (by omega : ¬ b > a)]
      exact specAddK hp (kd, b, a)
    · rw [decide_eq_false hab, cond_false, if_neg (by omega : ¬ b < a)]
      have : (if b > a then b else a) = b := by split <;> omega
      rw [this]
      exact specAddK hp (kd, a, b)
  | false => rw [cond_false, cond_false]; exact specAddK hp (kd, a, b)
theorem specName_eq {xs : List Node3} (hp : poolB xs = true) (c : Int) : spec_l2Name N0 (xs, c) = some (outI xs (addP xs 1 c 0)) := by
  unfold spec_l2Name
  dsimp only
  rw [specAdd_eq hp]; rfl

/-! ### Raising -/
def raiseP (xs : List Node3) (a e : Int) : Option (List Node3 × Int) :=
  bif hasB xs a then (bif hasB xs e then (bif (xs.getD a.toNat zN3).1 == 7 then addP xs 8 e (xs.getD a.toNat zN3).2.1 else none) else none) else none
theorem hasB_inb {xs : List Node3} {a : Int} (h : hasB xs a = true) : inb a xs.length = true := by
  unfold hasB at h
  rw [Bool.and_eq_true, decide_eq_true_iff, decide_eq_true_iff] at h
  have e : a = ((a.toNat : Nat) : Int) := by omega
  rw [e]
  exact inb_nat (by omega)
theorem implRaise_eq {xs : List Node3} (hx : xs.length ≤ 500) (a e : Int) : impl_Pool_raise N0 (xs, a, e) = some (outI xs (raiseP xs a e)) := by
  unfold impl_Pool_raise raiseP
  dsimp only
  rw [isTermO_eq (by omega), Option.bind_some]
  dsimp only
  cases ha : hasB xs a with
  | false => rfl
  | true =>
    rw [Bool.not_true, cond_false, cond_true, isTermO_eq (by omega), Option.bind_some]
    dsimp only
    cases hasB xs e with
    | false => rfl
    | true =>
      rw [Bool.not_true, cond_false, cond_true, hasB_inb ha, cond_true, cond_true]
      show (cond (!((xs.getD a.toNat zN3).1 == (7 : Int))) _ _) = _
      cases ((xs.getD a.toNat zN3).1 == (7 : Int)) with
      | false => rfl
      | true =>
        rw [Bool.not_true, cond_false, cond_true, implAdd_eq hx]; rfl
theorem specRaise_eq {xs : List Node3} (hp : poolB xs = true) (a e : Int) : spec_l3Raise N0 (xs, a, e) = some (outI xs (raiseP xs a e)) := by
  have hx := poolB_len hp
  unfold spec_l3Raise raiseP
  dsimp only
  rw [has_eq N0 (by omega), Option.bind_some]
  cases ha : hasB xs a with
  | false => rfl
  | true =>
    rw [Bool.not_true, cond_false, cond_true, has_eq N0 (by omega), Option.bind_some]
    cases hasB xs e with
    | false => rfl
    | true =>
      rw [Bool.not_true, cond_false, cond_true, hasB_inb ha, cond_true, cond_true]
      show (cond (!((xs.getD a.toNat zN3).1 == (7 : Int))) _ _) = _
      cases ((xs.getD a.toNat zN3).1 == (7 : Int)) with
      | false => rfl
      | true =>
        rw [Bool.not_true, cond_false, cond_true, specAdd_eq hp]; rfl

/-! ### Patterns -/
inductive Pat where
  | name (c : Int)
  | var (i : Int)
  | ask (i : Int)
  | un (k : Int) (p : Pat)
  | bin (k : Int) (p q : Pat)
  | exp (p q : Pat)
def Pat.asks : Pat → Bool
  | .ask _ => true
  | .un _ p => p.asks
  | .bin _ p q => p.asks || q.asks
  | .exp p q => p.asks || q.asks
  | _ => false
def mk (env : List Int) : Pat → List Node3 → Option (List Node3 × Int)
  | .name c, xs => addP xs 1 c 0
  | .var i, xs => bif decide (env.getD i.toNat 0 < 0) then none else some (xs, env.getD i.toNat 0)
  | .ask _, xs => none
  | .un k p, xs => (mk env p xs).bind fun r => addP r.1 k r.2 0
  | .bin k p q, xs => (mk env p xs).bind fun r => (mk env q r.1).bind fun s => addP s.1 k r.2 s.2
  | .exp p q, xs => (mk env p xs).bind fun r => (mk env q r.1).bind fun s => raiseP s.1 s.2 r.2
theorem mk_asks {env : List Int} : ∀ {p : Pat} (xs : List Node3), p.asks = true → mk env p xs = none
  | .name c, xs, h => by cases h
  | .var i, xs, h => by cases h
  | .ask _, xs, _ => rfl
  | .un k p, xs, h => by
    show (mk env p xs).bind _ = none
    rw [mk_asks xs (show p.asks = true from h)]; rfl
  | .bin k p q, xs, h => by
    have h : (p.asks || q.asks) = true := h
    show (mk env p xs).bind _ = none
    cases hp : p.asks with
    | true => rw [mk_asks xs hp]; rfl
    | false =>
      rw [hp, Bool.false_or] at h
      cases mk env p xs with
      | none => rfl
      | some r => show (mk env q r.1).bind _ = none; rw [mk_asks r.1 h]; rfl
  | .exp p q, xs, h => by
    have h : (p.asks || q.asks) = true := h
    show (mk env p xs).bind _ = none
    cases hp : p.asks with
    | true => rw [mk_asks xs hp]; rfl
    | false =>
      rw [hp, Bool.false_or] at h
      cases mk env p xs with
      | none => rfl
      | some r => show (mk env q r.1).bind _ = none; rw [mk_asks r.1 h]; rfl
/-- What is made stands in a right pool, which only grew. -/
def Grown (xs ys : List Node3) (t : Int) : Prop := poolB ys = true ∧ 0 ≤ t ∧ (∃ zs, ys = xs ++ zs)
theorem addP_grown {xs ys : List Node3} {kd a b t : Int} (hp : poolB xs = true) (h : addP xs kd a b = some (ys, t)) : Grown xs ys t ∧ t < (ys.length : Int) := by
  obtain ⟨h1, h2, h3, h4, _⟩ := addK_pool hp h
  exact ⟨⟨h1, h2, h4⟩, h3⟩
theorem Grown.trans {xs ys zs : List Node3} {t u : Int} (h1 : Grown xs ys t) (h2 : Grown ys zs u) : Grown xs zs u := by
  obtain ⟨a1, a2, v, rfl⟩ := h1
  obtain ⟨b1, b2, w, rfl⟩ := h2
  exact ⟨b1, b2, v ++ w, by rw [List.append_assoc]⟩
theorem raiseP_add {xs ys : List Node3} {a e t : Int} (h : raiseP xs a e = some (ys, t)) : addP xs 8 e (xs.getD a.toNat zN3).2.1 = some (ys, t) := by
  unfold raiseP at h
  cases h1 : hasB xs a with
  | false => rw [h1] at h; cases h
  | true =>
    cases h2 : hasB xs e with
    | false => rw [h1, h2] at h; cases h
    | true =>
      cases h3 : ((xs.getD a.toNat zN3).1 == 7) with
      | false => rw [h1, h2, h3] at h; cases h
      | true => rw [h1, h2, h3] at h; exact h
theorem mk_grown {env : List Int} : ∀ {p : Pat} {xs ys : List Node3} {t : Int}, poolB xs = true → mk env p xs = some (ys, t) → Grown xs ys t
  | .name c, xs, ys, t, hp, h => (addP_grown hp h).1
  | .var i, xs, ys, t, hp, h => by
    have h : (bif decide (env.getD i.toNat 0 < 0) then none else some (xs, env.getD i.toNat 0)) = some (ys, t) := h
    by_cases hn : env.getD i.toNat 0 < 0
    · rw [decide_eq_true hn] at h; cases h
    · rw [decide_eq_false hn] at h
      obtain ⟨rfl, rfl⟩ := Prod.mk.inj (Option.some.inj h)
      exact ⟨hp, by omega, [], by simp⟩
  | .ask _, xs, ys, t, hp, h => by cases h
  | .un k p, xs, ys, t, hp, h => by
    obtain ⟨r, h1, h2⟩ := Option.bind_eq_some_iff.1 (show (mk env p xs).bind _ = some (ys, t) from h)
    have g1 := mk_grown hp (show mk env p xs = some (r.1, r.2) from h1)
    exact g1.trans (addP_grown g1.1 h2).1
  | .bin k p q, xs, ys, t, hp, h => by
    obtain ⟨r, h1, h2⟩ := Option.bind_eq_some_iff.1 (show (mk env p xs).bind _ = some (ys, t) from h)
    have g1 := mk_grown hp (show mk env p xs = some (r.1, r.2) from h1)
    obtain ⟨s, h3, h4⟩ := Option.bind_eq_some_iff.1 h2
    have g2 := mk_grown g1.1 (show mk env q r.1 = some (s.1, s.2) from h3)
    exact (g1.trans g2).trans (addP_grown g2.1 h4).1
  | .exp p q, xs, ys, t, hp, h => by
    obtain ⟨r, h1, h2⟩ := Option.bind_eq_some_iff.1 (show (mk env p xs).bind _ = some (ys, t) from h)
    have g1 := mk_grown hp (show mk env p xs = some (r.1, r.2) from h1)
    obtain ⟨s, h3, h4⟩ := Option.bind_eq_some_iff.1 h2
    have g2 := mk_grown g1.1 (show mk env q r.1 = some (s.1, s.2) from h3)
    exact (g1.trans g2).trans (addP_grown g2.1 (raiseP_add h4)).1

/-! ### Both lists of a pattern's pieces, read at once -/
abbrev Piece := Int × (Int × List Int)
abbrev SNode := Int × (Int × (Int × Bool))
abbrev zP : Piece := ((0 : Int), ((0 : Int), []))
abbrev zS : SNode := ((0 : Int), ((0 : Int), ((0 : Int), false)))
def kindV (s : Int) : Int := if s = 40 then 2 else if s = 123 then 3 else if s = 91 then 4 else if s = 35 then 5 else if s = 107 then 6 else if s = 94 then 7 else 0
def leaf2 (x : Piece) (y : SNode) : Option Pat :=
  bif x.1 == 110 then (bif y.1 == 1 && (x.2.1 == y.2.1 && !y.2.2.2) then some (.name x.2.1) else none)
  else bif x.1 == 36 then (bif (y.1 == 9 && (x.2.1 == y.2.1 && !y.2.2.2)) && (decide (0 ≤ x.2.1) && decide (x.2.1 < 26)) then some (.var x.2.1) else none)
  else bif x.1 == 63 then (bif (y.1 == 9 && (x.2.1 == y.2.1 && y.2.2.2)) && (decide (0 ≤ x.2.1) && decide (x.2.1 < 26)) then some (.ask x.2.1) else none)
  else none
def isLeaf (s : Int) : Bool := s == 110 || (s == 36 || s == 63)
def one2 (x : Piece) (y : SNode) (P : Pat) : Option Pat :=
  bif !isLeaf x.1 && (!(x.1 == 120) && ((kindV x.1 == y.1) && ((y.1 == 5 || y.1 == 7) && (y.2.2.2 == P.asks)))) then some (.un y.1 P) else none
def two2 (x : Piece) (y : SNode) (P Q : Pat) : Option Pat :=
  bif !isLeaf x.1 && (y.2.2.2 == (P.asks || Q.asks)) then (bif x.1 == 120 then (bif y.1 == 10 then some (.exp P Q) else none) else (bif (kindV x.1 == y.1) && (y.1 == 2 || (y.1 == 3 || (y.1 == 4 || y.1 == 6))) then some (.bin y.1 P Q) else none)) else none
def dec2 (l1 : List Piece) (l2 : List SNode) : Nat → Int → Int → Option Pat
  | 0, _, _ => none
  | k + 1, a, b => bif inb a l1.length && inb b l2.length then (match (l1.getD a.toNat zP).2.2 with
      | [] => leaf2 (l1.getD a.toNat zP) (l2.getD b.toNat zS)
      | [p] => (dec2 l1 l2 k p (l2.getD b.toNat zS).2.1).bind fun P => one2 (l1.getD a.toNat zP) (l2.getD b.toNat zS) P
      | [p, q] => (dec2 l1 l2 k p (l2.getD b.toNat zS).2.1).bind fun P => (dec2 l1 l2 k q (l2.getD b.toNat zS).2.2.1).bind fun Q => two2 (l1.getD a.toNat zP) (l2.getD b.toNat zS) P Q
      | _ => none) else none
end AM
end Go.Proofs.YtoglpjkelbfjfaaGreatDoor

/-! What is made where the environment is lent: the same, the environment as it was. No condition. -/
namespace Go.Proofs.YtoglpjkelbfjfaaGreatDoor
namespace AM
open Go
set_option linter.unusedVariables false
set_option linter.unusedSimpArgs false

end AM
end Go.Proofs.YtoglpjkelbfjfaaGreatDoor

/-! What a pattern makes and whether it asks, by the program and by the reference, from the lists of its pieces. Under: a right pool, an environment of 26 places. -/
namespace Go.Proofs.YtoglpjkelbfjfaaGreatDoor
namespace AM
open Go
set_option linter.unusedVariables false
set_option linter.unusedSimpArgs false

theorem leaf2_cases {x : Piece} {y : SNode} {P : Pat} (h : leaf2 x y = some P) :
    ((x.1 == 110) = true ∧ y.1 = 1 ∧ y.2.1 = x.2.1 ∧ y.2.2.2 = false ∧ P = .name x.2.1) ∨
    ((x.1 == 110) = false ∧ (x.1 == 36) = true ∧ y.1 = 9 ∧ y.2.1 = x.2.1 ∧ y.2.2.2 = false ∧ 0 ≤ x.2.1 ∧ x.2.1 < 26 ∧ P = .var x.2.1) ∨
    ((x.1 == 110) = false ∧ (x.1 == 36) = false ∧ (x.1 == 63) = true ∧ y.1 = 9 ∧ y.2.1 = x.2.1 ∧ y.2.2.2 = true ∧ 0 ≤ x.2.1 ∧ x.2.1 < 26 ∧ P = .ask x.2.1) := by
  unfold leaf2 at h
  cases h1 : (x.1 == 110) with
  | true =>
    rw [h1, cond_true] at h
    cases hc : (y.1 == 1 && (x.2.1 == y.2.1 && !y.2.2.2)) with
    | false => rw [hc] at h; cases h
    | true =>
      rw [hc] at h
      simp only [Bool.and_eq_true, beq_iff_eq, Bool.not_eq_true'] at hc
      exact .inl ⟨rfl, hc.1, hc.2.1.symm, hc.2.2, (Option.some.inj h).symm⟩
  | false =>
    rw [h1, cond_false] at h
    cases h2 : (x.1 == 36) with
    | true =>
      rw [h2, cond_true] at h
      cases hc : ((y.1 == 9 && (x.2.1 == y.2.1 && !y.2.2.2)) && (decide (0 ≤ x.2.1) && decide (x.2.1 < 26))) with
      | false => rw [hc] at h; cases h
      | true =>
        rw [hc] at h
        simp only [Bool.and_eq_true, beq_iff_eq, Bool.not_eq_true', decide_eq_true_iff] at hc
        exact .inr (.inl ⟨rfl, rfl, hc.1.1, hc.1.2.1.symm, hc.1.2.2, hc.2.1, hc.2.2, (Option.some.inj h).symm⟩)
    | false =>
      rw [h2, cond_false] at h
      cases h3 : (x.1 == 63) with
      | false => rw [h3] at h; cases h
      | true =>
        rw [h3, cond_true] at h
        cases hc : ((y.1 == 9 && (x.2.1 == y.2.1 && y.2.2.2)) && (decide (0 ≤ x.2.1) && decide (x.2.1 < 26))) with
        | false => rw [hc] at h; cases h
        | true =>
          rw [hc] at h
          simp only [Bool.and_eq_true, beq_iff_eq, decide_eq_true_iff] at hc
          exact .inr (.inr ⟨rfl, rfl, rfl, hc.1.1, hc.1.2.1.symm, hc.1.2.2, hc.2.1, hc.2.2, (Option.some.inj h).symm⟩)
theorem isLeaf_no {s : Int} (h : (!isLeaf s) = true) : (s == 110) = false ∧ (s == 36) = false ∧ (s == 63) = false := by
  unfold isLeaf at h
  simpa using h
theorem one2_cases {x : Piece} {y : SNode} {P R : Pat} (h : one2 x y P = some R) :
    ((x.1 == 110) = false ∧ (x.1 == 36) = false ∧ (x.1 == 63) = false) ∧ (x.1 == 120) = false ∧ kindV x.1 = y.1 ∧ (y.1 = 5 ∨ y.1 = 7) ∧ y.2.2.2 = P.asks ∧ R = .un y.1 P := by
  unfold one2 at h
  cases hc : (!isLeaf x.1 && (!(x.1 == 120) && ((kindV x.1 == y.1) && ((y.1 == 5 || y.1 == 7) && (y.2.2.2 == P.asks))))) with
  | false => rw [hc] at h; cases h
  | true =>
    rw [hc] at h
    rw [Bool.and_eq_true] at hc
    have h2 := hc.2
    simp only [Bool.and_eq_true, Bool.not_eq_true', beq_iff_eq, Bool.or_eq_true] at h2
    exact ⟨isLeaf_no hc.1, h2.1, h2.2.1, h2.2.2.1, h2.2.2.2, (Option.some.inj h).symm⟩
theorem two2_cases {x : Piece} {y : SNode} {P Q R : Pat} (h : two2 x y P Q = some R) :
    ((x.1 == 110) = false ∧ (x.1 == 36) = false ∧ (x.1 == 63) = false) ∧ y.2.2.2 = (P.asks || Q.asks) ∧
    (((x.1 == 120) = true ∧ y.1 = 10 ∧ R = .exp P Q) ∨ ((x.1 == 120) = false ∧ kindV x.1 = y.1 ∧ (y.1 = 2 ∨ y.1 = 3 ∨ y.1 = 4 ∨ y.1 = 6) ∧ R = .bin y.1 P Q)) := by
  unfold two2 at h
  cases hc : (!isLeaf x.1 && (y.2.2.2 == (P.asks || Q.asks))) with
  | false => rw [hc] at h; cases h
  | true =>
    rw [hc, cond_true] at h
    rw [Bool.and_eq_true] at hc
    refine ⟨isLeaf_no hc.1, by simpa using hc.2, ?_⟩
    cases h1 : (x.1 == 120) with
    | true =>
      rw [h1, cond_true] at h
      cases h2 : (y.1 == 10) with
      | false => rw [h2] at h; cases h
      | true => rw [h2] at h; exact .inl ⟨rfl, by simpa using h2, (Option.some.inj h).symm⟩
    | false =>
      rw [h1, cond_false] at h
      cases h2 : ((kindV x.1 == y.1) && (y.1 == 2 || (y.1 == 3 || (y.1 == 4 || y.1 == 6)))) with
      | false => rw [h2] at h; cases h
      | true =>
        rw [h2] at h
        simp only [Bool.and_eq_true, beq_iff_eq, Bool.or_eq_true] at h2
        exact .inr ⟨rfl, h2.1, h2.2, (Option.some.inj h).symm⟩
theorem kindOf_eq (n : Nat) {s : Int} (h : kindV s ≠ 0) : impl_kindOf n s = some (kindV s) := by
  unfold impl_kindOf kindV
  unfold kindV at h
  by_cases h1 : s = 40
  · subst h1; rfl
  by_cases h2 : s = 123
  · subst h2; rfl
  by_cases h3 : s = 91
  · subst h3; rfl
  by_cases h4 : s = 35
  · subst h4; rfl
  by_cases h5 : s = 107
  · subst h5; rfl
  by_cases h6 : s = 94
  · subst h6; rfl
  · rw [if_neg h1, if_neg h2, if_neg h3, if_neg h4, if_neg h5, if_neg h6] at h
    exact absurd rfl h

/-! ### The program's loops over one part and over two -/
abbrev MkIn := List Piece × List Node3 × List Int × Int
abbrev MkOut := List Piece × List Node3 × Int
theorem make_loop1 (n : Nat) (rec_ : MkIn → Option MkOut) (m : Nat) (l : List Piece) (xs : List Node3) (env : List Int) (s c : Int) (ps : List Int) (u v p : Int) :
    impl_pattern_make_L11 n rec_ (m + 2) (l, xs, env, s, c, ps, u, v, [p], (1 : Int), (0 : Int)) = (rec_ (l, xs, env, p)).bind fun r2 => cond (decide (r2.2.2 < (0 : Int))) (some (Sum.inl (r2.1, r2.2.1, (-1 : Int)))) (some (Sum.inr (r2.1, r2.2.1, s, c, ps, r2.2.2, v))) := by kernel_rfl
theorem make_loop2 (n : Nat) (rec_ : MkIn → Option MkOut) (m : Nat) (l : List Piece) (xs : List Node3) (env : List Int) (s c : Int) (ps : List Int) (u v p q : Int) :
    impl_pattern_make_L11 n rec_ (m + 3) (l, xs, env, s, c, ps, u, v, [p, q], (2 : Int), (0 : Int)) = (rec_ (l, xs, env, p)).bind fun r2 => cond (decide (r2.2.2 < (0 : Int))) (some (Sum.inl (r2.1, r2.2.1, (-1 : Int)))) ((rec_ (r2.1, r2.2.1, env, q)).bind fun r3 => cond (decide (r3.2.2 < (0 : Int))) (some (Sum.inl (r3.1, r3.2.1, (-1 : Int)))) (some (Sum.inr (r3.1, r3.2.1, s, c, ps, r2.2.2, r3.2.2)))) := by kernel_rfl

/-- What the program's make leaves. -/
def MadeI (l : List Piece) (res : Option MkOut) (m : Option (List Node3 × Int)) : Prop := ∃ ys t, res = some (l, ys, t) ∧ (match m with
  | some s => (ys, t) = s
  | none => t < 0)
theorem madeI_out {l : List Piece} {xs : List Node3} {m : Option (List Node3 × Int)} (h : ∀ r, m = some r → 0 ≤ r.2) : MadeI l (some (l, (outI xs m).1, (outI xs m).2)) m := by
  refine ⟨_, _, rfl, ?_⟩
  cases m with
  | none => show (-1 : Int) < 0; omega
  | some s => rfl
theorem addP_nn {xs : List Node3} {kd a b : Int} (hp : poolB xs = true) : ∀ r, addP xs kd a b = some r → 0 ≤ r.2 := fun r h => (addP_grown hp (show _ = some (r.1, r.2) from h)).1.2.1
theorem raiseP_nn {xs : List Node3} {a e : Int} (hp : poolB xs = true) : ∀ r, raiseP xs a e = some r → 0 ≤ r.2 := fun r h => (addP_grown hp (raiseP_add (show _ = some (r.1, r.2) from h))).1.2.1
theorem dec2_step {l1 : List Piece} {l2 : List SNode} {k : Nat} {a b : Int} {P : Pat} (h : dec2 l1 l2 (k + 1) a b = some P) :
    inb a l1.length = true ∧ inb b l2.length = true ∧
    (((l1.getD a.toNat zP).2.2 = [] ∧ leaf2 (l1.getD a.toNat zP) (l2.getD b.toNat zS) = some P) ∨
     (∃ p Q, (l1.getD a.toNat zP).2.2 = [p] ∧ dec2 l1 l2 k p (l2.getD b.toNat zS).2.1 = some Q ∧ one2 (l1.getD a.toNat zP) (l2.getD b.toNat zS) Q = some P) ∨
     (∃ p q Q R, (l1.getD a.toNat zP).2.2 = [p, q] ∧ dec2 l1 l2 k p (l2.getD b.toNat zS).2.1 = some Q ∧ dec2 l1 l2 k q (l2.getD b.toNat zS).2.2.1 = some R ∧ two2 (l1.getD a.toNat zP) (l2.getD b.toNat zS) Q R = some P)) := by
  unfold dec2 at h
  cases hb : (inb a l1.length && inb b l2.length) with
  | false => rw [hb] at h; cases h
  | true =>
    rw [hb, cond_true] at h
    rw [Bool.and_eq_true] at hb
    refine ⟨hb.1, hb.2, ?_⟩
    split at h
    · rename_i e; exact .inl ⟨e, h⟩
    · rename_i p e
      obtain ⟨Q, h1, h2⟩ := Option.bind_eq_some_iff.1 h
      exact .inr (.inl ⟨p, Q, e, h1, h2⟩)
    · rename_i p q e
      obtain ⟨Q, h1, h2⟩ := Option.bind_eq_some_iff.1 h
      obtain ⟨R, h3, h4⟩ := Option.bind_eq_some_iff.1 h2
      exact .inr (.inr ⟨p, q, Q, R, e, h1, h3, h4⟩)
    · cases h

theorem env_in {env : List Int} (he : env.length = 26) {i : Int} (h0 : 0 ≤ i) (h1 : i < 26) : inb i env.length = true := by
  have e : i = ((i.toNat : Nat) : Int) := by omega
  rw [e]
  exact inb_nat (by omega)
theorem mk_var {env : List Int} (xs : List Node3) (i : Int) : (match mk env (.var i) xs with
    | some s => (xs, env.getD i.toNat 0) = s
    | none => env.getD i.toNat 0 < 0) := by
  by_cases hn : env.getD i.toNat 0 < 0
  · have : mk env (.var i) xs = none := by
      show (bif decide (env.getD i.toNat 0 < 0) then none else some (xs, env.getD i.toNat 0)) = none
      rw [decide_eq_true hn]; rfl
    rw [this]; exact hn
  · have : mk env (.var i) xs = some (xs, env.getD i.toNat 0) := by
      show (bif decide (env.getD i.toNat 0 < 0) then none else some (xs, env.getD i.toNat 0)) = _
      rw [decide_eq_false hn]; rfl
    rw [this]

theorem implMake {l1 : List Piece} {l2 : List SNode} {env : List Int} (he : env.length = 26) : ∀ (k : Nat) (a b : Int) (P : Pat) (xs : List Node3) (j : Nat), dec2 l1 l2 k a b = some P → k ≤ j → poolB xs = true → MadeI l1 (impl_pattern_make N0 j (l1, xs, env, a)) (mk env P xs)
  | 0, a, b, P, xs, j, h, _, _ => by cases h
  | k + 1, a, b, P, xs, 0, h, hj, _ => by omega
  | k + 1, a, b, P, xs, j + 1, h, hj, hp => by
    have hx := poolB_len hp
    obtain ⟨hb, _, hc⟩ := dec2_step h
    have e0 : impl_pattern_make N0 (j + 1) (l1, xs, env, a) = cond (inb a l1.length) (cond ((l1.getD a.toNat zP).1 == (110 : Int)) ((impl_Pool_name N0 (xs, (l1.getD a.toNat zP).2.1)).bind fun r1 => (some (l1, r1.1, r1.2))) (cond ((l1.getD a.toNat zP).1 == (36 : Int)) (cond (inb (l1.getD a.toNat zP).2.1 env.length) (some (l1, xs, env.getD (l1.getD a.toNat zP).2.1.toNat (0 : Int))) none) (cond ((l1.getD a.toNat zP).1 == (63 : Int)) (some (l1, xs, (-1 : Int))) ((impl_pattern_make_L11 N0 (impl_pattern_make N0 j) N0 (l1, xs, env, (l1.getD a.toNat zP).1, (l1.getD a.toNat zP).2.1, (l1.getD a.toNat zP).2.2, (0 : Int), (0 : Int), (l1.getD a.toNat zP).2.2, ((l1.getD a.toNat zP).2.2.length : Int), (0 : Int))).bind fun e3 => (match e3 with
      | Sum.inl a4 => (some (a4.1, a4.2.1, a4.2.2))
      | Sum.inr b5 => (cond (b5.2.2.1 == (120 : Int)) ((impl_Pool_raise N0 (b5.2.1, b5.2.2.2.2.2.2, b5.2.2.2.2.2.1)).bind fun r6 => (some (b5.1, r6.1, r6.2))) ((impl_pattern_make_R19 N0 (impl_pattern_make N0 j) (b5.1, b5.2.1, b5.2.2.1, b5.2.2.2.1, b5.2.2.2.2.1, b5.2.2.2.2.2.1, b5.2.2.2.2.2.2)).bind fun g7 => (some (g7.1, g7.2.1, g7.2.2))))))))) none := rfl
    rw [e0, hb, cond_true]
    rcases hc with ⟨hps, hl⟩ | ⟨p, Q, hps, h1, h2⟩ | ⟨p, q, Q, R, hps, h1, h2, h3⟩
    · rcases leaf2_cases hl with ⟨c1, _, _, _, rfl⟩ | ⟨c1, c2, _, _, _, c6, c7, rfl⟩ | ⟨c1, c2, c3, _, _, _, _, _, rfl⟩
      · rw [c1, cond_true, implName_eq hx, Option.bind_some]
        exact madeI_out (addP_nn hp)
      · rw [c1, c2, cond_false, cond_true, env_in he c6 c7, cond_true]
        exact ⟨_, _, rfl, mk_var xs _⟩
      · rw [c1, c2, c3, cond_false, cond_false, cond_true]
        exact ⟨_, _, rfl, by show (-1 : Int) < 0; omega⟩
    · obtain ⟨⟨c1, c2, c3⟩, c4, c5, c6, c7, rfl⟩ := one2_cases h2
      rw [c1, c2, c3, cond_false, cond_false, cond_false, hps]
      have el : (([p] : List Int).length : Int) = 1 := rfl
      rw [el]
      obtain ⟨ys, t, g1, g2⟩ := implMake he k p _ Q xs j h1 (by omega) hp
      have lp := make_loop1 N0 (impl_pattern_make N0 j) 999999999999999999999999999998 l1 xs env (l1.getD a.toNat zP).1 (l1.getD a.toNat zP).2.1 [p] 0 0 p
      rw [show (999999999999999999999999999998 + 2 : Nat) = N0 from by kernel_rfl, g1, Option.bind_some] at lp
      rw [lp]
      dsimp only
      show MadeI l1 _ ((mk env Q xs).bind fun r => addP r.1 (l2.getD b.toNat zS).1 r.2 0)
      cases hm : mk env Q xs with
      | none =>
        rw [hm] at g2
        have g2 : t < 0 := g2
        rw [decide_eq_true g2, cond_true]
        exact ⟨ys, -1, rfl, by show (-1 : Int) < 0; omega⟩
      | some s =>
        rw [hm] at g2
        have g2 : (ys, t) = s := g2
        subst g2
        have gr := mk_grown hp hm
        rw [decide_eq_false (by have := gr.2.1; omega), cond_false, Option.bind_some, Option.bind_some]
        dsimp only
        have hk0 : kindV (l1.getD a.toNat zP).1 ≠ 0 := by rw [c5]; omega
        rw [c4, cond_false]
        unfold impl_pattern_make_R19
        dsimp only
        rw [kindOf_eq N0 hk0, Option.bind_some, implAdd_eq (poolB_len gr.1), Option.bind_some, Option.bind_some, c5]
        exact madeI_out (addP_nn gr.1)
    · obtain ⟨⟨c1, c2, c3⟩, c4, c5⟩ := two2_cases h3
      rw [c1, c2, c3, cond_false, cond_false, cond_false, hps]
      have el : (([p, q] : List Int).length : Int) = 2 := rfl
      rw [el]
      obtain ⟨ys, t, g1, g2⟩ := implMake he k p _ Q xs j h1 (by omega) hp
      have lp := make_loop2 N0 (impl_pattern_make N0 j) 999999999999999999999999999997 l1 xs env (l1.getD a.toNat zP).1 (l1.getD a.toNat zP).2.1 [p, q] 0 0 p q
      rw [show (999999999999999999999999999997 + 3 : Nat) = N0 from by kernel_rfl, g1, Option.bind_some] at lp
      rw [lp]
      dsimp only
      have hmk : ∀ u : Nat, (mk env Q xs = none → mk env P xs = none) ∧ (∀ s, mk env Q xs = some s → mk env R s.1 = none → mk env P xs = none) := by
        intro u
        rcases c5 with ⟨_, _, rfl⟩ | ⟨_, _, _, rfl⟩
        · exact ⟨fun e => by show (mk env Q xs).bind _ = none; rw [e]; rfl, fun s e1 e2 => by show (mk env Q xs).bind _ = none; rw [e1]; show (mk env R s.1).bind _ = none; rw [e2]; rfl⟩
        · exact ⟨fun e => by show (mk env Q xs).bind _ = none; rw [e]; rfl, fun s e1 e2 => by show (mk env Q xs).bind _ = none; rw [e1]; show (mk env R s.1).bind _ = none; rw [e2]; rfl⟩
      cases hm : mk env Q xs with
      | none =>
        rw [hm] at g2
        have g2 : t < 0 := g2
        rw [decide_eq_true g2, cond_true, (hmk 0).1 hm]
        exact ⟨ys, -1, rfl, by show (-1 : Int) < 0; omega⟩
      | some s =>
        rw [hm] at g2
        have g2 : (ys, t) = s := g2
        subst g2
        have gr := mk_grown hp hm
        obtain ⟨zs, u, g3, g4⟩ := implMake he k q _ R ys j h2 (by omega) gr.1
        rw [decide_eq_false (by have := gr.2.1; omega), cond_false, g3, Option.bind_some]
        dsimp only
        cases hm2 : mk env R ys with
        | none =>
          rw [hm2] at g4
          have g4 : u < 0 := g4
          rw [decide_eq_true g4, cond_true, (hmk 0).2 _ hm hm2]
          exact ⟨zs, -1, rfl, by show (-1 : Int) < 0; omega⟩
        | some s2 =>
          rw [hm2] at g4
          have g4 : (zs, u) = s2 := g4
          subst g4
          have gr2 := mk_grown gr.1 hm2
          rw [decide_eq_false (by have := gr2.2.1; omega), cond_false, Option.bind_some]
          dsimp only
          rcases c5 with ⟨d1, d2, rfl⟩ | ⟨d1, d2, d3, rfl⟩
          · rw [d1, cond_true, implRaise_eq (poolB_len gr2.1), Option.bind_some]
            have e : mk env (.exp Q R) xs = raiseP zs u t := by
              show (mk env Q xs).bind _ = _
              rw [hm]
              show (mk env R ys).bind _ = _
              rw [hm2]; rfl
            rw [e]
            exact madeI_out (raiseP_nn gr2.1)
          · have hk0 : kindV (l1.getD a.toNat zP).1 ≠ 0 := by rw [d2]; omega
            rw [d1, cond_false]
            unfold impl_pattern_make_R19
            dsimp only
            rw [kindOf_eq N0 hk0, Option.bind_some, implAdd_eq (poolB_len gr2.1), Option.bind_some, Option.bind_some, d2]
            have e : mk env (.bin (l2.getD b.toNat zS).1 Q R) xs = addP zs (l2.getD b.toNat zS).1 t u := by
              show (mk env Q xs).bind _ = _
              rw [hm]
              show (mk env R ys).bind _ = _
              rw [hm2]; rfl
            rw [e]
            exact madeI_out (addP_nn gr2.1)

/-! ### Whether a pattern asks -/
abbrev HasIn := List Piece × Int × Int
abbrev HasOut := List Piece × Bool
theorem has_loop1 (n : Nat) (rec_ : HasIn → Option HasOut) (m : Nat) (l : List Piece) (s c v p : Int) (ps : List Int) :
    impl_pattern_has_L3 n rec_ (m + 2) (l, v, s, c, ps, [p], (1 : Int), (0 : Int)) = (rec_ (l, p, v)).bind fun r1 => cond r1.2 (some (Sum.inl (r1.1, true))) (some (Sum.inr (r1.1, v, s, c, ps))) := by kernel_rfl
theorem has_loop2 (n : Nat) (rec_ : HasIn → Option HasOut) (m : Nat) (l : List Piece) (s c v p q : Int) (ps : List Int) :
    impl_pattern_has_L3 n rec_ (m + 3) (l, v, s, c, ps, [p, q], (2 : Int), (0 : Int)) = (rec_ (l, p, v)).bind fun r1 => cond r1.2 (some (Sum.inl (r1.1, true))) ((rec_ (r1.1, q, v)).bind fun r2 => cond r2.2 (some (Sum.inl (r2.1, true))) (some (Sum.inr (r2.1, v, s, c, ps)))) := by kernel_rfl
theorem implHas {l1 : List Piece} {l2 : List SNode} : ∀ (k : Nat) (a b : Int) (P : Pat) (j : Nat), dec2 l1 l2 k a b = some P → k ≤ j → impl_pattern_has N0 j (l1, a, (63 : Int)) = some (l1, P.asks)
  | 0, a, b, P, j, h, _ => by cases h
  | k + 1, a, b, P, 0, h, hj => by omega
  | k + 1, a, b, P, j + 1, h, hj => by
    obtain ⟨hb, _, hc⟩ := dec2_step h
    have e0 : impl_pattern_has N0 (j + 1) (l1, a, (63 : Int)) = cond (inb a l1.length) ((impl_pattern_has_L3 N0 (impl_pattern_has N0 j) N0 (l1, (63 : Int), (l1.getD a.toNat zP).1, (l1.getD a.toNat zP).2.1, (l1.getD a.toNat zP).2.2, (l1.getD a.toNat zP).2.2, ((l1.getD a.toNat zP).2.2.length : Int), (0 : Int))).bind fun e2 => (match e2 with
      | Sum.inl a3 => (some (a3.1, a3.2))
      | Sum.inr b4 => (some (b4.1, (b4.2.2.1 == b4.2.1))))) none := rfl
    rw [e0, hb, cond_true]
    rcases hc with ⟨hps, hl⟩ | ⟨p, Q, hps, h1, h2⟩ | ⟨p, q, Q, R, hps, h1, h2, h3⟩
    · rw [hps]
      have lp : impl_pattern_has_L3 N0 (impl_pattern_has N0 j) N0 (l1, (63 : Int), (l1.getD a.toNat zP).1, (l1.getD a.toNat zP).2.1, [], [], (([] : List Int).length : Int), (0 : Int)) = some (Sum.inr (l1, (63 : Int), (l1.getD a.toNat zP).1, (l1.getD a.toNat zP).2.1, [])) := by
        rw [show N0 = 999999999999999999999999999999 + 1 from by kernel_rfl]; rfl
      rw [lp, Option.bind_some]
      show some (l1, ((l1.getD a.toNat zP).1 == (63 : Int))) = _
      rcases leaf2_cases hl with ⟨c1, _, _, _, rfl⟩ | ⟨c1, c2, _, _, _, c6, c7, rfl⟩ | ⟨c1, c2, c3, _, _, _, _, _, rfl⟩
      · have : (l1.getD a.toNat zP).1 = 110 := by simpa using c1
        rw [this]; rfl
      · have : (l1.getD a.toNat zP).1 = 36 := by simpa using c2
        rw [this]; rfl
      · rw [c3]; rfl
    · obtain ⟨⟨c1, c2, c3⟩, c4, c5, c6, c7, rfl⟩ := one2_cases h2
      rw [hps]
      have lp := has_loop1 N0 (impl_pattern_has N0 j) 999999999999999999999999999998 l1 (l1.getD a.toNat zP).1 (l1.getD a.toNat zP).2.1 63 p [p]
      rw [show (999999999999999999999999999998 + 2 : Nat) = N0 from by kernel_rfl, implHas k p _ Q j h1 (by omega), Option.bind_some] at lp
      have el : (([p] : List Int).length : Int) = 1 := rfl
      rw [el, lp]
      show (cond Q.asks (some (Sum.inl (l1, true))) (some (Sum.inr (l1, (63 : Int), (l1.getD a.toNat zP).1, (l1.getD a.toNat zP).2.1, [p])))).bind _ = some (l1, Q.asks)
      cases Q.asks with
      | true => rfl
      | false => rw [cond_false, Option.bind_some]; dsimp only; rw [c3]
    · obtain ⟨⟨c1, c2, c3⟩, c4, c5⟩ := two2_cases h3
      rw [hps]
      have lp := has_loop2 N0 (impl_pattern_has N0 j) 999999999999999999999999999997 l1 (l1.getD a.toNat zP).1 (l1.getD a.toNat zP).2.1 63 p q [p, q]
      rw [show (999999999999999999999999999997 + 3 : Nat) = N0 from by kernel_rfl, implHas k p _ Q j h1 (by omega), Option.bind_some] at lp
      dsimp only at lp
      rw [implHas k q _ R j h2 (by omega), Option.bind_some] at lp
      have el : (([p, q] : List Int).length : Int) = 2 := rfl
      rw [el, lp]
      have ha : P.asks = (Q.asks || R.asks) := by
        rcases c5 with ⟨_, _, rfl⟩ | ⟨_, _, _, rfl⟩ <;> rfl
      rw [ha]
      cases Q.asks with
      | true => rfl
      | false =>
        rw [cond_false]
        cases R.asks with
        | true => rfl
        | false => rw [cond_false, Option.bind_some]; dsimp only; rw [c3]; rfl

/-! ### The reference's -/
abbrev SMkOut := List Node3 × Int
def MadeS (res : Option SMkOut) (m : Option (List Node3 × Int)) : Prop := ∃ ys t, res = some (ys, t) ∧ (match m with
  | some s => (ys, t) = s
  | none => t = -1)
theorem madeS_out {xs : List Node3} {m : Option (List Node3 × Int)} (h : ∀ r, m = some r → 0 ≤ r.2) : MadeS (some ((outI xs m).1, (outI xs m).2)) m := by
  refine ⟨_, _, rfl, ?_⟩
  cases m with
  | none => rfl
  | some s => rfl
theorem mk_var1 {env : List Int} (hv : ∀ i : Nat, env.getD i 0 < 0 → env.getD i 0 = -1) (xs : List Node3) (i : Int) : (match mk env (.var i) xs with
    | some s => (xs, env.getD i.toNat 0) = s
    | none => env.getD i.toNat 0 = -1) := by
  have h := mk_var (env := env) xs i
  cases q : mk env (.var i) xs with
  | none => rw [q] at h; exact hv _ h
  | some s => rw [q] at h; exact h
theorem parts_eq (n : Nat) (y : SNode) : spec_l11Parts n (y.1, y.2.1, y.2.2.1, y.2.2.2) = cond (y.1 == (9 : Int)) (some (0 : Int)) (cond (y.1 == (10 : Int)) (some (2 : Int)) ((spec_l1Parts n y.1).bind fun r1 => (some r1))) := rfl
theorem specMake {l1 : List Piece} {l2 : List SNode} {env : List Int} (he : env.length = 26) (hv : ∀ i : Nat, env.getD i 0 < 0 → env.getD i 0 = -1) : ∀ (k : Nat) (a b : Int) (P : Pat) (xs : List Node3) (j : Nat), dec2 l1 l2 k a b = some P → k ≤ j → poolB xs = true → MadeS (spec_l11Make N0 j (xs, env, l2, b)) (mk env P xs)
  | 0, a, b, P, xs, j, h, _, _ => by cases h
  | k + 1, a, b, P, xs, 0, h, hj, _ => by omega
  | k + 1, a, b, P, xs, j + 1, h, hj, hp => by
    have hx := poolB_len hp
    obtain ⟨_, hb, hc⟩ := dec2_step h
    have e0 : spec_l11Make N0 (j + 1) (xs, env, l2, b) = cond (inb b l2.length) (cond (l2.getD b.toNat zS).2.2.2 (some (xs, (-1 : Int))) (cond ((l2.getD b.toNat zS).1 == (9 : Int)) ((spec_l11Make_R5 N0 (spec_l11Make N0 j) (env, xs, [], (l2.getD b.toNat zS).1, (l2.getD b.toNat zS).2.1, (l2.getD b.toNat zS).2.2.1, (l2.getD b.toNat zS).2.2.2)).bind fun g1 => (some (g1.1, g1.2))) (cond ((l2.getD b.toNat zS).1 == (1 : Int)) ((spec_l2Name N0 (xs, (l2.getD b.toNat zS).2.1)).bind fun r2 => (some (r2.1, r2.2))) ((spec_l11Make N0 j (xs, env, l2, (l2.getD b.toNat zS).2.1)).bind fun r3 => (cond (decide (r3.2 < (0 : Int))) (some (xs, (-1 : Int))) ((spec_l11Parts N0 ((l2.getD b.toNat zS).1, (l2.getD b.toNat zS).2.1, (l2.getD b.toNat zS).2.2.1, (l2.getD b.toNat zS).2.2.2)).bind fun r4 => (cond (r4 == (1 : Int)) ((spec_l1Add N0 (r3.1, (l2.getD b.toNat zS).1, r3.2, (0 : Int))).bind fun r5 => (some (r5.1, r5.2))) ((spec_l11Make N0 j (r3.1, env, l2, (l2.getD b.toNat zS).2.2.1)).bind fun r6 => (cond (decide (r6.2 < (0 : Int))) (some (xs, (-1 : Int))) (cond ((l2.getD b.toNat zS).1 == (10 : Int)) ((spec_l3Raise N0 (r6.1, r6.2, r3.2)).bind fun r7 => (some (r7.1, r7.2))) ((spec_l1Add N0 (r6.1, (l2.getD b.toNat zS).1, r3.2, r6.2)).bind fun r8 => (some (r8.1, r8.2))))))))))))) none := rfl
    rw [e0, hb, cond_true]
    have fin2 : ∀ (z : Option SMkOut), (l2.getD b.toNat zS).2.2.2 = P.asks → (P.asks = false → MadeS z (mk env P xs)) → MadeS (cond (l2.getD b.toNat zS).2.2.2 (some (xs, (-1 : Int))) z) (mk env P xs) := fun z q1 q2 => by
      rw [q1]
      cases hA : P.asks with
      | true =>
        rw [cond_true, mk_asks xs hA]
        exact ⟨xs, -1, rfl, rfl⟩
      | false => rw [cond_false]; exact q2 hA
    rcases hc with ⟨hps, hl⟩ | ⟨p, Q, hps, h1, h2⟩ | ⟨p, q, Q, R, hps, h1, h2, h3⟩
    · rcases leaf2_cases hl with ⟨c1, c2, c3, c4, rfl⟩ | ⟨_, c1, c2, c3, c4, c6, c7, rfl⟩ | ⟨_, _, c1, c2, c3, c4, c6, c7, rfl⟩
      · rw [c4, c2, c3, cond_false]
        show MadeS ((spec_l2Name N0 (xs, (l1.getD a.toNat zP).2.1)).bind fun r2 => (some (r2.1, r2.2))) _
        rw [specName_eq hp, Option.bind_some]
        exact madeS_out (addP_nn hp)
      · rw [c4, c2, c3, cond_false]
        show MadeS ((spec_l11Make_R5 N0 (spec_l11Make N0 j) (env, xs, [], _, (l1.getD a.toNat zP).2.1, _, _)).bind fun g1 => (some (g1.1, g1.2))) _
        unfold spec_l11Make_R5
        dsimp only
        rw [env_in he c6 c7, cond_true, Option.bind_some]
        exact ⟨_, _, rfl, mk_var1 hv xs _⟩
      · rw [c4, cond_true]
        exact ⟨xs, -1, rfl, rfl⟩
    · obtain ⟨_, c4, c5, c6, c7, rfl⟩ := one2_cases h2
      refine fin2 _ c7 fun hA => ?_
      have n9 : ((l2.getD b.toNat zS).1 == (9 : Int)) = false := by rw [beq_eq_false_iff_ne]; omega
      have n1 : ((l2.getD b.toNat zS).1 == (1 : Int)) = false := by rw [beq_eq_false_iff_ne]; omega
      have hpt : spec_l11Parts N0 ((l2.getD b.toNat zS).1, (l2.getD b.toNat zS).2.1, (l2.getD b.toNat zS).2.2.1, (l2.getD b.toNat zS).2.2.2) = some 1 := by
        rw [parts_eq]
        rcases c6 with e | e <;> rw [e] <;> rfl
      rw [n9, n1, cond_false, cond_false]
      obtain ⟨ys, t, g1, g2⟩ := specMake he hv k p _ Q xs j h1 (by omega) hp
      rw [g1, Option.bind_some]
      dsimp only
      show MadeS _ ((mk env Q xs).bind fun r => addP r.1 (l2.getD b.toNat zS).1 r.2 0)
      cases hm : mk env Q xs with
      | none =>
        rw [hm] at g2
        have g2 : t = -1 := g2
        rw [decide_eq_true (by omega : t < 0), cond_true]
        exact ⟨xs, -1, rfl, rfl⟩
      | some s =>
        rw [hm] at g2
        have g2 : (ys, t) = s := g2
        subst g2
        have gr := mk_grown hp hm
        rw [decide_eq_false (by have := gr.2.1; omega), cond_false, hpt, Option.bind_some, Option.bind_some]
        show MadeS ((spec_l1Add N0 (ys, (l2.getD b.toNat zS).1, t, (0 : Int))).bind fun r5 => (some (r5.1, r5.2))) _
        rw [specAdd_eq gr.1, Option.bind_some]
        exact madeS_out (addP_nn gr.1)
    · obtain ⟨_, c4, c5⟩ := two2_cases h3
      have hasks : P.asks = (Q.asks || R.asks) := by
        rcases c5 with ⟨_, _, rfl⟩ | ⟨_, _, _, rfl⟩ <;> rfl
      refine fin2 _ (c4.trans hasks.symm) fun hA => ?_
      have n9 : ((l2.getD b.toNat zS).1 == (9 : Int)) = false := by
        rw [beq_eq_false_iff_ne]
        rcases c5 with ⟨_, e, _⟩ | ⟨_, _, e, _⟩ <;> omega
      have n1 : ((l2.getD b.toNat zS).1 == (1 : Int)) = false := by
        rw [beq_eq_false_iff_ne]
        rcases c5 with ⟨_, e, _⟩ | ⟨_, _, e, _⟩ <;> omega
      have hpt : spec_l11Parts N0 ((l2.getD b.toNat zS).1, (l2.getD b.toNat zS).2.1, (l2.getD b.toNat zS).2.2.1, (l2.getD b.toNat zS).2.2.2) = some 2 := by
        rw [parts_eq]
        rcases c5 with ⟨_, e, _⟩ | ⟨_, _, e, _⟩
        · rw [e]; rfl
        · rcases e with e | e | e | e <;> rw [e] <;> rfl
      rw [n9, n1, cond_false, cond_false]
      have hmk : (mk env Q xs = none → mk env P xs = none) ∧ (∀ s, mk env Q xs = some s → mk env R s.1 = none → mk env P xs = none) := by
        rcases c5 with ⟨_, _, rfl⟩ | ⟨_, _, _, rfl⟩
        · exact ⟨fun e => by show (mk env Q xs).bind _ = none; rw [e]; rfl, fun s e1 e2 => by show (mk env Q xs).bind _ = none; rw [e1]; show (mk env R s.1).bind _ = none; rw [e2]; rfl⟩
        · exact ⟨fun e => by show (mk env Q xs).bind _ = none; rw [e]; rfl, fun s e1 e2 => by show (mk env Q xs).bind _ = none; rw [e1]; show (mk env R s.1).bind _ = none; rw [e2]; rfl⟩
      obtain ⟨ys, t, g1, g2⟩ := specMake he hv k p _ Q xs j h1 (by omega) hp
      rw [g1, Option.bind_some]
      dsimp only
      cases hm : mk env Q xs with
      | none =>
        rw [hm] at g2
        have g2 : t = -1 := g2
        rw [decide_eq_true (by omega : t < 0), cond_true, hmk.1 hm]
        exact ⟨xs, -1, rfl, rfl⟩
      | some s =>
        rw [hm] at g2
        have g2 : (ys, t) = s := g2
        subst g2
        have gr := mk_grown hp hm
        rw [decide_eq_false (by have := gr.2.1; omega), cond_false, hpt, Option.bind_some]
        show MadeS ((spec_l11Make N0 j (ys, env, l2, (l2.getD b.toNat zS).2.2.1)).bind fun r6 => (cond (decide (r6.2 < (0 : Int))) (some (xs, (-1 : Int))) (cond ((l2.getD b.toNat zS).1 == (10 : Int)) ((spec_l3Raise N0 (r6.1, r6.2, t)).bind fun r7 => (some (r7.1, r7.2))) ((spec_l1Add N0 (r6.1, (l2.getD b.toNat zS).1, t, r6.2)).bind fun r8 => (some (r8.1, r8.2)))))) _
        obtain ⟨zs, u, g3, g4⟩ := specMake he hv k q _ R ys j h2 (by omega) gr.1
        rw [g3, Option.bind_some]
        dsimp only
        cases hm2 : mk env R ys with
        | none =>
          rw [hm2] at g4
          have g4 : u = -1 := g4
          rw [decide_eq_true (by omega : u < 0), cond_true, hmk.2 _ hm hm2]
          exact ⟨xs, -1, rfl, rfl⟩
        | some s2 =>
          rw [hm2] at g4
          have g4 : (zs, u) = s2 := g4
          subst g4
          have gr2 := mk_grown gr.1 hm2
          rw [decide_eq_false (by have := gr2.2.1; omega), cond_false]
          rcases c5 with ⟨d1, d2, rfl⟩ | ⟨d1, d2, d3, rfl⟩
          · rw [d2]
            show MadeS ((spec_l3Raise N0 (zs, u, t)).bind fun r7 => (some (r7.1, r7.2))) _
            rw [specRaise_eq gr2.1, Option.bind_some]
            have e : mk env (.exp Q R) xs = raiseP zs u t := by
              show (mk env Q xs).bind _ = _
              rw [hm]
              show (mk env R ys).bind _ = _
              rw [hm2]; rfl
            rw [e]
            exact madeS_out (raiseP_nn gr2.1)
          · have n10 : ((l2.getD b.toNat zS).1 == (10 : Int)) = false := by rw [beq_eq_false_iff_ne]; omega
            rw [n10, cond_false, specAdd_eq gr2.1, Option.bind_some]
            have e : mk env (.bin (l2.getD b.toNat zS).1 Q R) xs = addP zs (l2.getD b.toNat zS).1 t u := by
              show (mk env Q xs).bind _ = _
              rw [hm]
              show (mk env R ys).bind _ = _
              rw [hm2]; rfl
            rw [e]
            exact madeS_out (addP_nn gr2.1)
end AM
end Go.Proofs.YtoglpjkelbfjfaaGreatDoor

/-! What is known of a right instance; the six roles; what a pattern's text makes, by both. Under: a right pool. -/
namespace Go.Proofs.YtoglpjkelbfjfaaGreatDoor
namespace AM
open Go
set_option linter.unusedVariables false
set_option linter.unusedSimpArgs false

/-! ### Roles -/
def roleL (w p : Int) : List (Int × ByteArray) := (spec_l12Acts N0 (w, p)).getD []
theorem role_eq {w p : Int} (hw : w = 1 ∨ w = 2 ∨ w = 3) (hp : p = 0 ∨ p = 1) : impl_roleOf N0 (w, p) = some (roleL w p, true) ∧ spec_l12Acts N0 (w, p) = some (roleL w p) ∧ (roleL w p).length = 5 := by
  rcases hw with rfl | rfl | rfl <;> rcases hp with rfl | rfl
  all_goals exact ⟨by kernel_rfl, by kernel_rfl, by kernel_rfl⟩

/-- What a text is, as a pattern, by both readers. -/
def PatIs (T : ByteArray) (P : Pat) : Prop := ∃ b l1 l2 k, impl_patternOf N0 T = some (b, true, l1) ∧ spec_l11Read N0 T = some (l2, true) ∧ k ≤ N0 ∧ dec2 l1 l2 k ((l1.length : Int) - 1) ((l2.length : Int) - 1) = some P ∧ l1.length ≤ 4294967296 ∧ l2.length ≤ 4294967296
def patB (T : ByteArray) (f : Pat → Bool) : Bool := match impl_patternOf N0 T, spec_l11Read N0 T with
  | some r, some q => r.2.1 && (q.2 && ((match dec2 r.2.2 q.1 40 ((r.2.2.length : Int) - 1) ((q.1.length : Int) - 1) with | some P => f P | none => false) && (Nat.ble r.2.2.length 300 && Nat.ble q.1.length 300)))
  | _, _ => false
theorem patB_ex {T : ByteArray} {f : Pat → Bool} (h : patB T f = true) : ∃ P, PatIs T P ∧ f P = true := by
  unfold patB at h
  split at h
  · rename_i r q e1 e2
    rw [Bool.and_eq_true, Bool.and_eq_true, Bool.and_eq_true, Bool.and_eq_true] at h
    obtain ⟨h1, h2, h3, h4, h5⟩ := h
    obtain ⟨b, o, l1⟩ := r
    obtain ⟨l2, o2⟩ := q
    have h1 : o = true := h1
    have h2 : o2 = true := h2
    subst h1; subst h2
    split at h3
    · rename_i P e3
      exact ⟨P, ⟨b, l1, l2, 40, e1, e2, by decide, e3, Nat.le_trans (show l1.length ≤ 300 from Nat.le_of_ble_eq_true h4) (by decide), Nat.le_trans (show l2.length ≤ 300 from Nat.le_of_ble_eq_true h5) (by decide)⟩, h3⟩
    · cases h3
  · cases h
/-- The acts of a role: to draw a name, or with a pattern; what sends and claims asks nothing; the last one claims. -/
def actB (a : Int × ByteArray) : Bool := a.1 == 1 && (a.2.size == 1 && (decide (97 ≤ bt a.2 0) && decide (bt a.2 0 ≤ 122))) || (a.1 == 3 && patB a.2 (fun _ => true) || ((a.1 == 2 || a.1 == 4) && patB a.2 (fun P => !P.asks)))
def roleB (w p : Int) : Bool := (roleL w p).all actB && (List.range 5).all (fun i => (((roleL w p).getD i ((0 : Int), (⟨#[]⟩ : ByteArray))).1 == 4) == Nat.beq i 4)
theorem role_good {w p : Int} (hw : w = 1 ∨ w = 2 ∨ w = 3) (hp : p = 0 ∨ p = 1) : roleB w p = true := by
  rcases hw with rfl | rfl | rfl <;> rcases hp with rfl | rfl
  all_goals kernel_rfl

theorem no_ft (h : some false = some true) : False := by cases h

/-! ### Instances -/
structure Good9 (xs : List Node3) (x : Inst9) : Prop where
  way : x.1 = 1 ∨ x.1 = 2 ∨ x.1 = 3
  side : x.2.1 = 0 ∨ x.2.1 = 1
  me : 0 ≤ x.2.2.1 ∧ x.2.2.1 ≤ 4
  peer : 0 ≤ x.2.2.2.1 ∧ x.2.2.2.1 ≤ 4
  ne : x.2.2.1 ≠ x.2.2.2.1
  env : envB xs (envL x) = true
  len : (envL x).length = 26
  pool : poolB xs = true
  at0 : 0 ≤ x.2.2.2.2.1 ∧ x.2.2.2.2.1 ≤ 5
  done : dn x = (x.2.2.2.2.1 == 5)
  live : dn x = true → x.2.2.2.2.2.2.2.1 = false
  key : dn x = true → hasB xs x.2.2.2.2.2.2.2.2 = true
  no : dn x = false → x.2.2.2.2.2.2.2.2 = -1
theorem good_of {xs : List Node3} (hx : xs.length ≤ 4294967296) {x : Inst9} (he : (envL x).length ≤ 4294967296) (h : instV xs x = true) : Good9 xs x := by
  have h1 := (instV_eq hx he).1
  rw [h] at h1
  obtain ⟨w, p, a, b, at_, env, d, dd, key⟩ := x
  dsimp only at h1
  unfold impl_InstOk at h1
  simp only [implEnv_eq N0 n0 hx (show env.length ≤ 4294967296 from he), agent_eq, Option.bind_some] at h1
  by_cases hr : (w = 1 ∨ w = 2 ∨ w = 3) ∧ (p = 0 ∨ p = 1)
  · obtain ⟨r1, r2, r3⟩ := role_eq hr.1 hr.2
    rw [r1] at h1
    simp only [Option.bind_some, inRange_eq, isTerm_eq N0 hx, r3, Bool.not_true, cond_false] at h1
    cases ha : (decide (a ≥ 0) && decide (a ≤ 4)) with
    | false => rw [ha] at h1; exact (no_ft h1).elim
    | true =>
      cases hb : (decide (b ≥ 0) && decide (b ≤ 4)) with
      | false => rw [ha, hb] at h1; exact (no_ft h1).elim
      | true =>
        cases hab : (a == b) with
        | true => rw [ha, hb, hab] at h1; exact (no_ft h1).elim
        | false =>
          cases h2 : (envB xs env && (decide (env.length = 26) && (decide (xs.length ≤ 500) && okFrom N0 [] xs))) with
          | false => rw [ha, hb, hab, h2] at h1; exact (no_ft h1).elim
          | true =>
            cases h3 : (decide (at_ ≥ 0) && decide (at_ ≤ ((5 : Nat) : Int))) with
            | false => rw [ha, hb, hab, h2, h3] at h1; exact (no_ft h1).elim
            | true =>
              rw [ha, hb, hab, h2, h3] at h1
              simp only [Bool.not_true, cond_false] at h1
              rw [Bool.and_eq_true, decide_eq_true_iff, decide_eq_true_iff] at ha hb h3
              rw [Bool.and_eq_true, Bool.and_eq_true] at h2
              have h5 : (at_ == ((5 : Nat) : Int)) = (at_ == 5) := rfl
              rw [h5] at h1
              cases h4 : ((at_ == 5) != d) with
              | true => rw [h4] at h1; exact (no_ft h1).elim
              | false =>
                rw [h4, cond_false] at h1
                have h6 : d = (at_ == 5) := by
                  rw [bne_eq_false_iff_eq] at h4
                  exact h4.symm
                refine ⟨hr.1, hr.2, ⟨ha.1, ha.2⟩, ⟨hb.1, hb.2⟩, by simpa using hab, h2.1, of_decide_eq_true h2.2.1, h2.2.2, ⟨h3.1, h3.2⟩, h6, fun hd => ?_, fun hd => ?_, fun hd => ?_⟩
                · have hd : d = true := hd
                  subst hd
                  show dd = false
                  cases dd with
                  | false => rfl
                  | true => exact (no_ft h1).elim
                · have hd : d = true := hd
                  subst hd
                  cases dd with
                  | false => exact Option.some.inj h1
                  | true => exact (no_ft h1).elim
                · have hd : d = false := hd
                  subst hd
                  have : (key == -1) = true := Option.some.inj h1
                  exact by simpa using this
  · rw [(role_out w p hr).1] at h1
    exact (no_ft h1).elim

/-! ### What a pattern's text makes -/
theorem envB_neg {xs : List Node3} : ∀ {env : List Int}, envB xs env = true → ∀ i : Nat, env.getD i 0 < 0 → env.getD i 0 = -1
  | [], _, i, h => by simp at h
  | v :: r, hb, i, h => by
    have hb : ((v == -1 || hasB xs v) && envB xs r) = true := hb
    rw [Bool.and_eq_true, Bool.or_eq_true] at hb
    match i with
    | 0 =>
      have h : v < 0 := h
      rcases hb.1 with q | q
      · exact by simpa using q
      · unfold hasB at q
        simp at q
        omega
    | i + 1 => exact envB_neg hb.2 i h
theorem copy_eq {xs : List Node3} (hx : xs.length ≤ 4294967296) : impl_copyPool N0 xs = some xs := by
  unfold impl_copyPool lib_cloneNode
  rw [decide_eq_true hx]; rfl
theorem patMake_eq {T : ByteArray} {P : Pat} (hT : PatIs T P) {xs : List Node3} (hp : poolB xs = true) {env : List Int} (he : env.length = 26) (hv : envB xs env = true) : impl_PatMake N0 (xs, env, T) = some (outI xs (mk env P xs)) := by
  obtain ⟨b, l1, l2, k, e1, e2, hk, hd, hl1, hl2⟩ := hT
  have hx := poolB_len hp
  have hP : (decide (xs.length ≤ 500) && okFrom N0 [] xs) = true := hp
  unfold impl_PatMake
  dsimp only
  rw [implPool_eq N0 n0 (by omega), hP]
  simp only [Option.bind_some, Bool.not_true, cond_false, e1]
  rw [implEnv_eq N0 n0 (by omega) (by omega), hv, decide_eq_true he, hP]
  simp only [Option.bind_some, Bool.and_true, Bool.not_true, cond_false]
  have ew : impl_pattern_whole N0 l1 = some (l1, (l1.length : Int) - 1) := by
    unfold impl_pattern_whole
    rw [wrap_ok (by omega) (by omega)]
  rw [ew]
  simp only [Option.bind_some]
  rw [implHas k _ _ P N0 hd hk]
  simp only [Option.bind_some]
  cases hA : P.asks with
  | true => rw [cond_true, copy_eq (by omega), mk_asks xs hA]; rfl
  | false =>
    rw [cond_false, copy_eq (by omega)]
    simp only [Option.bind_some, ew]
    obtain ⟨ys, t, g1, g2⟩ := implMake he k _ _ P xs N0 hd hk hp
    rw [g1]
    simp only [Option.bind_some]
    cases hm : mk env P xs with
    | none =>
      rw [hm] at g2
      have g2 : t < 0 := g2
      rw [decide_eq_true g2, cond_true]; rfl
    | some s =>
      rw [hm] at g2
      have g2 : (ys, t) = s := g2
      subst g2
      have gr := mk_grown hp hm
      rw [decide_eq_false (by have := gr.2.1; omega), cond_false]; rfl
theorem l11Make_eq {T : ByteArray} {P : Pat} (hT : PatIs T P) {xs : List Node3} (hp : poolB xs = true) {env : List Int} (he : env.length = 26) (hv : envB xs env = true) : ∃ l2 ys t, spec_l11Read N0 T = some (l2, true) ∧ l2.length ≤ 4294967296 ∧ spec_l11Make N0 N0 (xs, env, l2, (l2.length : Int) - 1) = some (ys, t) ∧ (match mk env P xs with
    | some s => (ys, t) = s
    | none => t = -1) := by
  obtain ⟨b, l1, l2, k, e1, e2, hk, hd, hl1, hl2⟩ := hT
  obtain ⟨ys, t, g1, g2⟩ := specMake he (envB_neg hv) k _ _ P xs N0 hd hk hp
  exact ⟨l2, ys, t, e2, hl2, g1, g2⟩
end AM
end Go.Proofs.YtoglpjkelbfjfaaGreatDoor

/-! Keys and partners of a right world, by both; the laws FnExactKeyOf and FnExactJudgeAgree. No condition but that lists are no longer than memory. -/
namespace Go.Proofs.YtoglpjkelbfjfaaGreatDoor
namespace AM
open Go
set_option linter.unusedVariables false
set_option linter.unusedSimpArgs false

/-- The acts of a role, one by one. -/
theorem role_at {w p : Int} (hw : w = 1 ∨ w = 2 ∨ w = 3) (hp : p = 0 ∨ p = 1) {i : Nat} (hi : i < 5) (a : Int × ByteArray) (ha : a = (roleL w p).getD i ((0 : Int), (⟨#[]⟩ : ByteArray))) :
    (a.1 = 4 ↔ i = 4) ∧ ((a.1 = 1 ∧ a.2.size = 1 ∧ 97 ≤ bt a.2 0 ∧ bt a.2 0 ≤ 122) ∨ (a.1 = 3 ∧ ∃ P, PatIs a.2 P) ∨ ((a.1 = 2 ∨ a.1 = 4) ∧ ∃ P, PatIs a.2 P ∧ P.asks = false)) := by
  have hb := role_good hw hp
  obtain ⟨_, _, hl⟩ := role_eq hw hp
  unfold roleB at hb
  rw [Bool.and_eq_true] at hb
  have h2 := List.all_eq_true.1 hb.2 i (List.mem_range.2 hi)
  rw [← ha] at h2
  have hm : a ∈ roleL w p := by
    rw [ha, List.getD_eq_getElem?_getD, List.getElem?_eq_getElem (by omega)]
    exact List.getElem_mem _
  have h1 := List.all_eq_true.1 hb.1 a hm
  refine ⟨?_, ?_⟩
  · have h2 : (a.1 == 4) = Nat.beq i 4 := by simpa using h2
    constructor
    · intro h
      rw [h] at h2
      exact Nat.eq_of_beq_eq_true h2.symm
    · intro h
      rw [h] at h2
      have : (a.1 == 4) = true := h2
      exact by simpa using this
  · unfold actB at h1
    rw [Bool.or_eq_true, Bool.or_eq_true, Bool.and_eq_true, Bool.and_eq_true, Bool.and_eq_true, Bool.and_eq_true, Bool.and_eq_true, Bool.or_eq_true] at h1
    rcases h1 with ⟨h1, h3, h4, h5⟩ | ⟨h1, h3⟩ | ⟨h1, h3⟩
    · exact .inl ⟨by simpa using h1, by simpa using h3, of_decide_eq_true h4, of_decide_eq_true h5⟩
    · obtain ⟨P, hP, _⟩ := patB_ex h3
      exact .inr (.inl ⟨by simpa using h1, P, hP⟩)
    · obtain ⟨P, hP, hA⟩ := patB_ex h3
      exact .inr (.inr ⟨by simpa using h1, P, hP, by simpa using hA⟩)

section
variable {xs : List Node3} {kn : List Int} {li : List Inst9} {fr : Int} {gv sh : List Int} {lg : List Claim3} {k : Int}

theorem world_inst (hw : worldB xs kn li fr gv sh lg = true) {i : Nat} (hi : i < li.length) : instV xs (li.getD i zI) = true := by
  unfold worldB at hw
  rw [Bool.and_eq_true, Bool.and_eq_true, Bool.and_eq_true, Bool.and_eq_true, Bool.and_eq_true, Bool.and_eq_true] at hw
  have h := hw.2.2.2.2.2.1
  unfold instsB at h
  exact allN_iff.1 h i (Nat.zero_le _) (by omega)
theorem world_good (hs : Small xs kn li gv sh lg) (hw : worldB xs kn li fr gv sh lg = true) {i : Nat} (hi : i < li.length) : Good9 xs (li.getD i zI) := good_of hs.fx (hs.fe i hi) (world_inst hw hi)

/-! ### Keys -/
def keyV (xs : List Node3) (li : List Inst9) (k : Int) : Int := (spec_l16Key N0 (xs, [], li, 0, [], [], [], k)).getD 0
theorem inst0_nat {n k : Int} (h : inst0 n k = true) : 0 ≤ k ∧ k < n := by
  unfold inst0 at h
  rw [Bool.and_eq_true, decide_eq_true_iff, decide_eq_true_iff] at h
  omega
theorem hasB_iff {xs : List Node3} {t : Int} : hasB xs t = true ↔ 0 ≤ t ∧ t < (xs.length : Int) := by
  unfold hasB
  rw [Bool.and_eq_true, decide_eq_true_iff, decide_eq_true_iff]
  omega
theorem key_same (hl : li.length ≤ 4294967296) (hi : inst0 (li.length : Int) k = true) (hg : Good9 xs (li.getD k.toNat zI)) :
    (spec_l16Key N0 (xs, kn, li, fr, gv, sh, lg, k) = some (keyV xs li k) ∧ impl_World_keyOf N0 (xs, kn, li, fr, gv, sh, lg, k) = some (xs, kn, li, fr, gv, sh, lg, keyV xs li k)) ∧ (keyV xs li k = -1 ∨ hasB xs (keyV xs li k) = true) := by
  have hx := poolB_len hg.pool
  obtain ⟨k0, k1⟩ := inst0_nat hi
  have hb := inst0_inb hi
  suffices h : ∃ v, (spec_l16Key N0 (xs, kn, li, fr, gv, sh, lg, k) = some v ∧ impl_World_keyOf N0 (xs, kn, li, fr, gv, sh, lg, k) = some (xs, kn, li, fr, gv, sh, lg, v)) ∧ (v = -1 ∨ hasB xs v = true) by
    obtain ⟨v, ⟨h1, h2⟩, h3⟩ := h
    have : keyV xs li k = v := by
      unfold keyV
      rw [show spec_l16Key N0 (xs, [], li, 0, [], [], [], k) = spec_l16Key N0 (xs, kn, li, fr, gv, sh, lg, k) from rfl, h1]; rfl
    rw [this]
    exact ⟨⟨h1, h2⟩, h3⟩
  have hin : (decide (k ≥ 0) && decide (k ≤ IntKind.i64.wrap ((li.length : Int) - (1 : Int)))) = true := by
    rw [wrap_ok (by omega) (by omega)]
    simp
    omega
  unfold spec_l16Key impl_World_keyOf impl_World_keyOf_R5
  simp only [in_eq, hin, Option.bind_some, Bool.not_true, cond_false, hb, cond_true]
  have q1 := hg.way
  have q2 := hg.side
  have q3 := hg.env
  have q4 := hg.len
  have q5 := hg.key
  revert q1 q2 q3 q4 q5
  generalize li.getD k.toNat zI = X
  intro q1 q2 q3 q4 q5
  cases hd : X.2.2.2.2.2.2.1 with
  | true => exact ⟨_, ⟨rfl, rfl⟩, .inr (q5 hd)⟩
  | false =>
    simp only [cond_false]
    obtain ⟨r1, r2, r3⟩ := role_eq q1 q2
    rw [r1, r2]
    simp only [Option.bind_some, r3]
    rw [show IntKind.i64.wrap (((5 : Nat) : Int) - (1 : Int)) = 4 by decide, show inb 4 5 = true by decide]
    simp only [cond_true]
    obtain ⟨hA, hact⟩ := role_at q1 q2 (i := 4) (by decide) _ rfl
    have hA := hA.2 rfl
    rw [show ((4 : Int)).toNat = 4 from rfl]
    revert hA hact
    generalize (roleL X.1 X.2.1).getD 4 ((0 : Int), (⟨#[]⟩ : ByteArray)) = A
    intro hact hA
    have hT : ∃ P, PatIs A.2 P := by
      rcases hact with ⟨h, _⟩ | ⟨_, h⟩ | ⟨_, P, h, _⟩
      · rw [hA] at h; exact absurd h (by decide)
      · exact h
      · exact ⟨P, h⟩
    obtain ⟨P, hP⟩ := hT
    have e1 : impl_PatMake_o N0 (xs, X.2.2.2.2.2.1, A.2) = some (outI xs (mk X.2.2.2.2.2.1 P xs)) := patMake_eq hP hg.pool q4 q3
    obtain ⟨l2, ys, t, e2, e3, e4, e5⟩ := l11Make_eq hP hg.pool q4 q3
    rw [e1, e2]
    simp only [Option.bind_some]
    rw [wrap_ok (by omega) (by omega), e4]
    simp only [Option.bind_some, isTerm_eq N0 (show xs.length ≤ 4294967296 by omega)]
    have e4 : True := trivial
    cases hm : mk X.2.2.2.2.2.1 P xs with
    | none =>
      rw [hm] at e5
      have e5 : t = -1 := e5
      subst e5
      rw [show (outI xs none).2 = -1 from rfl, show hasB xs (-1) = false by unfold hasB; simp]
      rw [decide_eq_true (by omega : (-1 : Int) < (xs.length : Int))]
      exact ⟨-1, ⟨rfl, rfl⟩, .inl rfl⟩
    | some s =>
      rw [hm] at e5
      have e5 : (ys, t) = s := e5
      subst e5
      have gr := mk_grown hg.pool hm
      have t0 := gr.2.1
      rw [show (outI xs (some (ys, t))).2 = t from rfl]
      by_cases ht : t < (xs.length : Int)
      · rw [decide_eq_true ht, hasB_iff.2 ⟨t0, ht⟩]
        exact ⟨t, ⟨rfl, rfl⟩, .inr (hasB_iff.2 ⟨t0, ht⟩)⟩
      · have : hasB xs t = false := by
          rw [← Bool.not_eq_true, hasB_iff]
          omega
        rw [decide_eq_false ht, this]
        exact ⟨-1, ⟨rfl, rfl⟩, .inl rfl⟩

theorem world_keys (hs : Small xs kn li gv sh lg) (hw : worldB xs kn li fr gv sh lg = true) (hi : inst0 (li.length : Int) k = true) :
    (spec_l16Key N0 (xs, kn, li, fr, gv, sh, lg, k) = some (keyV xs li k) ∧ impl_World_keyOf N0 (xs, kn, li, fr, gv, sh, lg, k) = some (xs, kn, li, fr, gv, sh, lg, keyV xs li k)) ∧ (keyV xs li k = -1 ∨ hasB xs (keyV xs li k) = true) :=
  key_same hs.fl hi (world_good hs hw (by obtain ⟨a, b⟩ := inst0_nat hi; omega))

/-! ### FnExactKeyOf -/
/-! ### Partners -/
def picks (d : Nat → Bool) : Nat → Nat → List Int
  | _, 0 => []
  | i, m + 1 => bif d i then (i : Int) :: picks d (i + 1) m else picks d (i + 1) m
theorem picks_congr {d e : Nat → Bool} : ∀ {m i : Nat}, (∀ j, i ≤ j → j < i + m → d j = e j) → picks d i m = picks e i m
  | 0, _, _ => rfl
  | m + 1, i, h => by
    unfold picks
    rw [h i (Nat.le_refl _) (by omega), picks_congr (m := m) (i := i + 1) (fun j h1 h2 => h j (by omega) (by omega))]
theorem picks_none {d : Nat → Bool} : ∀ {m i : Nat}, (∀ j, i ≤ j → j < i + m → d j = false) → picks d i m = []
  | 0, _, _ => rfl
  | m + 1, i, h => by
    unfold picks
    rw [h i (Nat.le_refl _) (by omega), cond_false, picks_none (m := m) (i := i + 1) (fun j h1 h2 => h j (by omega) (by omega))]
/-- Is it a partner? -/
def pAt (xs : List Node3) (li : List Inst9) (k : Int) (j : Nat) : Bool :=
  let X := li.getD k.toNat zI
  let Y := li.getD j zI
  (Y.1 == X.1) && (!(Y.2.1 == X.2.1) && ((Y.2.2.1 == X.2.2.2.1) && ((Y.2.2.2.1 == X.2.2.1) && ((keyV xs li (j : Int) == keyV xs li k) && ((X.2.1 == 0) || dn Y)))))
def partL (xs : List Node3) (li : List Inst9) (k : Int) : List Int := bif decide (keyV xs li k < 0) then [] else picks (pAt xs li k) 0 li.length

theorem nest_i {α : Type} {c1 c2 c3 c4 c5 c6 c7 c8 c9 : Bool} {S T : α} : (cond c1 S (cond c2 S (cond c3 S (cond c4 S (cond c5 S (cond c6 (cond c7 S (cond c8 (cond c9 T S) S)) (cond c8 (cond c9 T S) S)))))))
    = cond (!c1 && (!c2 && (!c3 && (!c4 && (!c5 && ((!c6 || !c7) && (c8 && c9))))))) T S := by
  cases c1 <;> cases c2 <;> cases c3 <;> cases c4 <;> cases c5 <;> cases c6 <;> cases c7 <;> cases c8 <;> cases c9 <;> rfl
theorem nest_s {α : Type} {c1 c2 c3 c4 c5 c6 c7 : Bool} {S T : α} : (cond c1 (cond c2 (cond c3 (cond c4 (cond c5 (cond c6 T (cond c7 T S)) S) S) S) S) S)
    = cond (c1 && (c2 && (c3 && (c4 && (c5 && (c6 || c7)))))) T S := by
  cases c1 <;> cases c2 <;> cases c3 <;> cases c4 <;> cases c5 <;> cases c6 <;> cases c7 <;> rfl

def pI (xs : List Node3) (li : List Inst9) (k : Int) (j : Nat) : Bool :=
  let X := li.getD k.toNat zI
  let Y := li.getD j zI
  !((j : Int) == k) && (!(Y.1 != X.1) && (!(Y.2.1 == X.2.1) && (!(Y.2.2.1 != X.2.2.2.1) && (!(Y.2.2.2.1 != X.2.2.1) && ((!(X.2.1 == 1) || !(!(dn Y))) && ((keyV xs li k != -1) && (keyV xs li (j : Int) == keyV xs li k)))))))

theorem implPart_loop (hs : Small xs kn li gv sh lg) (hw : worldB xs kn li fr gv sh lg = true) (X : Inst9) (hX : X = li.getD k.toNat zI) : ∀ (m i : Nat) (out : List Int), i ≤ li.length → li.length < m + i → out.length ≤ i →
    impl_World_partners_L5 N0 m (xs, kn, li, fr, gv, sh, lg, k, X.1, X.2.1, X.2.2.1, X.2.2.2.1, X.2.2.2.2.1, X.2.2.2.2.2.1, X.2.2.2.2.2.2.1, X.2.2.2.2.2.2.2.1, X.2.2.2.2.2.2.2.2, keyV xs li k, out, li, (li.length : Int), (i : Int)) = some (xs, kn, li, fr, gv, sh, lg, out ++ picks (pI xs li k) i (li.length - i))
  | 0, i, out, h1, h2, h3 => by omega
  | m + 1, i, out, h1, h2, h3 => by
    have hl := hs.fl
    rcases Nat.eq_or_lt_of_le h1 with q | q
    · subst q
      rw [impl_World_partners_L5]; dsimp only
      rw [lt_f, cond_false, Nat.sub_self]
      simp [picks]
    · have hi : inst0 (li.length : Int) (i : Int) = true := by
        unfold inst0
        simp
        omega
      obtain ⟨⟨_, kI⟩, _⟩ := world_keys (k := (i : Int)) hs hw hi
      have hroom : room (out.length + [(i : Int)].length) = true := by
        unfold room
        rw [List.length_singleton]
        simp
        omega
      have S := implPart_loop hs hw X hX m (i + 1) out q (by omega) (by omega)
      have T := implPart_loop hs hw X hX m (i + 1) (out ++ [(i : Int)]) q (by omega) (by rw [List.length_append, List.length_singleton]; omega)
      rw [impl_World_partners_L5]; dsimp only
      rw [lt_t q, cond_true, inb_nat q, cond_true]
      simp only [Int.toNat_natCast, step_wrap q hl, kI, Option.bind_some, hroom, cond_true, S, T]
      rw [nest_i]
      have e : li.length - i = (li.length - (i + 1)) + 1 := by omega
      rw [e]
      have hp : picks (pI xs li k) i (li.length - (i + 1) + 1) = bif pI xs li k i then (i : Int) :: picks (pI xs li k) (i + 1) (li.length - (i + 1)) else picks (pI xs li k) (i + 1) (li.length - (i + 1)) := rfl
      rw [hp]
      have hc : pI xs li k i = (!((i : Int) == k) && (!((li.getD i zI).1 != X.1) && (!((li.getD i zI).2.1 == X.2.1) && (!((li.getD i zI).2.2.1 != X.2.2.2.1) && (!((li.getD i zI).2.2.2.1 != X.2.2.1) && ((!(X.2.1 == 1) || !(!(li.getD i zI).2.2.2.2.2.2.1)) && ((keyV xs li k != -1) && (keyV xs li (i : Int) == keyV xs li k)))))))) := by
        rw [hX]; rfl
      rw [← hc]
      cases pI xs li k i with
      | true => rw [cond_true, cond_true, List.append_assoc]; rfl
      | false => rfl
theorem specPart_loop (hs : Small xs kn li gv sh lg) (hw : worldB xs kn li fr gv sh lg = true) (X : Inst9) (hX : X = li.getD k.toNat zI) : ∀ (m i : Nat) (out : List Int), i ≤ li.length → li.length < m + i → out.length ≤ i →
    spec_l16Partners_L7 N0 m (xs, kn, li, fr, gv, sh, lg, out, keyV xs li k, X.1, X.2.1, X.2.2.1, X.2.2.2.1, X.2.2.2.2.1, X.2.2.2.2.2.1, X.2.2.2.2.2.2.1, X.2.2.2.2.2.2.2.1, X.2.2.2.2.2.2.2.2, (i : Int)) = some (out ++ picks (pAt xs li k) i (li.length - i))
  | 0, i, out, h1, h2, h3 => by omega
  | m + 1, i, out, h1, h2, h3 => by
    have hl := hs.fl
    rcases Nat.eq_or_lt_of_le h1 with q | q
    · subst q
      rw [spec_l16Partners_L7]; dsimp only
      rw [lt_f, cond_false, Nat.sub_self]
      simp [picks]
    · have hi : inst0 (li.length : Int) (i : Int) = true := by
        unfold inst0
        simp
        omega
      obtain ⟨⟨kI, _⟩, _⟩ := world_keys (k := (i : Int)) hs hw hi
      have hroom : room (out.length + [(i : Int)].length) = true := by
        unfold room
        rw [List.length_singleton]
        simp
        omega
      have S := specPart_loop hs hw X hX m (i + 1) out q (by omega) (by omega)
      have T := specPart_loop hs hw X hX m (i + 1) (out ++ [(i : Int)]) q (by omega) (by rw [List.length_append, List.length_singleton]; omega)
      rw [spec_l16Partners_L7]; dsimp only
      rw [lt_t q, cond_true, inb_nat q, cond_true]
      simp only [Int.toNat_natCast, step_wrap q hl, kI, Option.bind_some, hroom, cond_true, S, T]
      rw [nest_s]
      have e : li.length - i = (li.length - (i + 1)) + 1 := by omega
      rw [e]
      have hp : picks (pAt xs li k) i (li.length - (i + 1) + 1) = bif pAt xs li k i then (i : Int) :: picks (pAt xs li k) (i + 1) (li.length - (i + 1)) else picks (pAt xs li k) (i + 1) (li.length - (i + 1)) := rfl
      rw [hp]
      have hc : pAt xs li k i = (((li.getD i zI).1 == X.1) && (((li.getD i zI).2.1 != X.2.1) && (((li.getD i zI).2.2.1 == X.2.2.2.1) && (((li.getD i zI).2.2.2.1 == X.2.2.1) && ((keyV xs li (i : Int) == keyV xs li k) && ((X.2.1 == 0) || (li.getD i zI).2.2.2.2.2.2.1)))))) := by
        rw [hX]; rfl
      rw [← hc]
      cases pAt xs li k i with
      | true => rw [cond_true, cond_true, List.append_assoc]; rfl
      | false => rfl
theorem part_same (hs : Small xs kn li gv sh lg) (hw : worldB xs kn li fr gv sh lg = true) (hi : inst0 (li.length : Int) k = true) :
    impl_World_partners N0 (xs, kn, li, fr, gv, sh, lg, k) = some (xs, kn, li, fr, gv, sh, lg, partL xs li k) ∧ spec_l16Partners N0 (xs, kn, li, fr, gv, sh, lg, k) = some (partL xs li k) := by
  obtain ⟨⟨k1, k2⟩, k3⟩ := world_keys hs hw hi
  obtain ⟨i0, i1⟩ := inst0_nat hi
  have hG := world_good hs hw (i := k.toNat) (by omega)
  constructor
  · rw [impl_World_partners]; dsimp only
    rw [inst0_inb hi, cond_true, k2]
    simp only [Option.bind_some]
    have h := implPart_loop (fr := fr) (k := k) hs hw (li.getD k.toNat zI) rfl N0 0 [] (Nat.zero_le _) (by have := n0; have := hs.fl; omega) (Nat.le_refl _)
    rw [show ((0 : Nat) : Int) = (0 : Int) from rfl] at h
    rw [h]
    simp only [Option.bind_some, List.nil_append, Nat.sub_zero]
    unfold partL
    by_cases hn : keyV xs li k < 0
    · rw [decide_eq_true hn, cond_true, picks_none]
      intro j _ _
      have : (keyV xs li k != -1) = false := by
        rcases k3 with h | h
        · rw [h]; rfl
        · have := (hasB_iff.1 h).1; omega
      unfold pI
      simp only [this, Bool.false_and, Bool.and_false]
    · rw [decide_eq_false hn, cond_false, picks_congr (e := pAt xs li k)]
      intro j _ _
      have h1 : (keyV xs li k != -1) = true := by
        rw [bne_iff_ne]; omega
      have h2 := hG.side
      unfold pI pAt
      dsimp only
      rw [h1]
      by_cases hjk : (j : Int) = k
      · have h5 : (li.getD j zI) = li.getD k.toNat zI := by rw [← hjk, Int.toNat_natCast]
        rw [h5, hjk]
        simp only [beq_self_eq_true, Bool.not_true, Bool.false_and, Bool.and_false]
      · generalize li.getD k.toNat zI = X at *
        have h3 : ((j : Int) == k) = false := by simpa using hjk
        rw [h3]
        generalize li.getD j zI = Y
        have h4 : (!(X.2.1 == 1) || !(!(dn Y))) = ((X.2.1 == 0) || dn Y) := by
          rcases h2 with h2 | h2 <;> rw [h2] <;> cases dn Y <;> rfl
        rw [h4]
        simp only [bne, Bool.not_not, Bool.not_false, Bool.true_and]
        cases (Y.1 == X.1) <;> cases (Y.2.1 == X.2.1) <;> cases (Y.2.2.1 == X.2.2.2.1) <;> cases (Y.2.2.2.1 == X.2.2.1) <;> cases ((X.2.1 == 0) || dn Y) <;> cases (keyV xs li (j : Int) == keyV xs li k) <;> rfl
  · rw [spec_l16Partners]; dsimp only
    rw [k1]
    simp only [Option.bind_some]
    unfold partL
    by_cases hn : keyV xs li k < 0
    · rw [decide_eq_true hn]; rfl
    · rw [decide_eq_false hn, cond_false, cond_false, inst0_inb hi, cond_true]
      have h := specPart_loop (fr := fr) (k := k) hs hw (li.getD k.toNat zI) rfl N0 0 [] (Nat.zero_le _) (by have := n0; have := hs.fl; omega) (Nat.le_refl _)
      rw [show ((0 : Nat) : Int) = (0 : Int) from rfl] at h
      rw [h]
      simp only [Option.bind_some, List.nil_append, Nat.sub_zero]

/-! ### FnExactJudgeAgree -/
def agreeAt (xs : List Node3) (li : List Inst9) (lg : List Claim3) (i : Nat) : Bool := !trustB li lg (i : Int) || (((partL xs li (i : Int)).length : Int) == 1)
theorem implAgree_eq (hs : Small xs kn li gv sh lg) : impl_JudgeAgree N0 (xs, kn, li, fr, gv, sh, lg) = some (worldB xs kn li fr gv sh lg && allN (agreeAt xs li lg) 0 li.length) := by
  have hli := hs.fl
  rw [impl_JudgeAgree]; dsimp only
  rw [(world_same hs).1]
  simp only [Option.bind_some]
  cases hw : worldB xs kn li fr gv sh lg with
  | false => rfl
  | true =>
    have h := test_loop (impl_JudgeAgree_L4 N0) (fun i => (xs, kn, li, fr, gv, sh, lg, (li.length : Int), (i : Int))) (agreeAt xs li lg) false () li.length (fun m i hi => by
      have hi0 : inst0 (li.length : Int) (i : Int) = true := by
        unfold inst0
        simp
        omega
      rw [impl_JudgeAgree_L4]; dsimp only
      rw [lt_t hi, cond_true, implTrusted_eq hs hw]
      simp only [Option.bind_some, step_wrap hi hli, (part_same (k := (i : Int)) hs hw hi0).1]
      unfold agreeAt
      cases trustB li lg (i : Int) with
      | false => rfl
      | true =>
        rw [cond_true, Bool.not_true, Bool.false_or]
        cases hq : (((partL xs li (i : Int)).length : Int) == 1) with
        | true => rw [show (((partL xs li (i : Int)).length : Int) != 1) = false by rw [bne, hq]; rfl]; rfl
        | false => rw [show (((partL xs li (i : Int)).length : Int) != 1) = true by rw [bne, hq]; rfl]; rfl) (fun m => by
      rw [impl_JudgeAgree_L4]; dsimp only; rw [lt_f]; rfl) N0 0 (Nat.zero_le _) (by have := n0; omega)
    rw [Nat.sub_zero] at h
    show ((impl_JudgeAgree_L4 N0 N0 (xs, kn, li, fr, gv, sh, lg, (li.length : Int), (0 : Int))).bind _) = _
    rw [show impl_JudgeAgree_L4 N0 N0 (xs, kn, li, fr, gv, sh, lg, (li.length : Int), (0 : Int)) = _ from h]
    cases allN (agreeAt xs li lg) 0 li.length <;> rfl
theorem specAgree_eq (hs : Small xs kn li gv sh lg) : spec_JudgeAgree N0 (xs, kn, li, fr, gv, sh, lg) = some (worldB xs kn li fr gv sh lg && allN (agreeAt xs li lg) 0 li.length) := by
  have hli := hs.fl
  rw [spec_JudgeAgree]; dsimp only
  rw [(world_same hs).2]
  simp only [Option.bind_some]
  cases hw : worldB xs kn li fr gv sh lg with
  | false => rfl
  | true =>
    have h := test_loop (spec_JudgeAgree_L4 N0) (fun i => (xs, kn, li, fr, gv, sh, lg, (i : Int))) (agreeAt xs li lg) false () li.length (fun m i hi => by
      have hi0 : inst0 (li.length : Int) (i : Int) = true := by
        unfold inst0
        simp
        omega
      rw [spec_JudgeAgree_L4]; dsimp only
      rw [lt_t hi, cond_true, specTrusted_eq hs hw]
      simp only [Option.bind_some, step_wrap hi hli, (part_same (k := (i : Int)) hs hw hi0).2]
      unfold agreeAt
      cases trustB li lg (i : Int) with
      | false => rfl
      | true =>
        rw [cond_true, Bool.not_true, Bool.false_or]
        cases hq : (((partL xs li (i : Int)).length : Int) == 1) with
        | true => rw [show (((partL xs li (i : Int)).length : Int) != 1) = false by rw [bne, hq]; rfl]; rfl
        | false => rw [show (((partL xs li (i : Int)).length : Int) != 1) = true by rw [bne, hq]; rfl]; rfl) (fun m => by
      rw [spec_JudgeAgree_L4]; dsimp only; rw [lt_f]; rfl) N0 0 (Nat.zero_le _) (by have := n0; omega)
    rw [Nat.sub_zero] at h
    show ((spec_JudgeAgree_L4 N0 N0 (xs, kn, li, fr, gv, sh, lg, (0 : Int))).bind _) = _
    rw [show spec_JudgeAgree_L4 N0 N0 (xs, kn, li, fr, gv, sh, lg, (0 : Int)) = _ from h]
    cases allN (agreeAt xs li lg) 0 li.length <;> rfl
theorem judgeAgree_law (hb : Big xs kn li gv sh lg) : laws_FnExactJudgeAgree N0 (xs, kn, li, fr, gv, sh, lg) = some true := by
  obtain ⟨q, h1, h2⟩ := szWorld_ex (fr := fr) hb
  rw [laws_FnExactJudgeAgree]; dsimp only
  rw [h1]
  simp only [Option.bind_some]
  rcases h2 with h2 | ⟨h2, hs⟩
  · rw [decide_eq_true h2]; rfl
  · rw [decide_eq_false (by omega : ¬ q < 0), cond_false]
    simp only [toWorld_eq hs, Option.bind_some, implAgree_eq hs, specAgree_eq hs, bne_self_eq_false, cond_false, eqWorld_self hs, Bool.not_true]
end

/-! ### In the form that a row wants -/
theorem judgeAgree_law_td (x : TD (entys (parEns 0 (S8 0).pars))) (hx : FitsTD _ x) : laws_FnExactJudgeAgree N0 x = some true := by
  obtain ⟨xs, kn, li, fr, gv, sh, lg⟩ := x
  exact judgeAgree_law (big_of (hx ⟨_, xs⟩ (.head _)) (hx ⟨_, kn⟩ (.tail _ (.head _))) (hx ⟨_, li⟩ (.tail _ (.tail _ (.head _)))) (hx ⟨_, gv⟩ (.tail _ (.tail _ (.tail _ (.tail _ (.head _)))))) (hx ⟨_, sh⟩ (.tail _ (.tail _ (.tail _ (.tail _ (.tail _ (.head _))))))) (hx ⟨_, lg⟩ (.tail _ (.tail _ (.tail _ (.tail _ (.tail _ (.tail _ (.head _)))))))))
end AM
end Go.Proofs.YtoglpjkelbfjfaaGreatDoor
