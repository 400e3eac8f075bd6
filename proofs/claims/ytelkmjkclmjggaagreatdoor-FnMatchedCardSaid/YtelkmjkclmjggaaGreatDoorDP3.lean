/- What is drawn: numbers, nodes, pools. Under: the drawn bytes are no longer than memory. And what follows it: see the remarks. -/
import Derived.Test.YtelkmjkclmjggaaGreatDoorDP2
namespace Go.Proofs.YtelkmjkclmjggaaGreatDoor
namespace AM
open Go
set_option linter.unusedVariables false
set_option linter.unusedSimpArgs false
theorem and255 (a : Int) : 0 ≤ bits .and .i64 a 255 ∧ bits .and .i64 a 255 ≤ 255 := by
 have h : ((BitVec.ofInt 64 a) &&& (BitVec.ofInt 64 255)).toNat ≤ 255 := by
  rw [BitVec.toNat_and]
  exact Nat.and_le_right
 have e : bits .and .i64 a 255 = IntKind.i64.wrap (((BitVec.ofInt 64 a) &&& (BitVec.ofInt 64 255)).toNat : Int) := rfl
 rw [e, wrap_ok (by omega) (by omega)]
 omega
def Cu (b : List Int) (i : Int) : Prop := 0 ≤ i ∧ b.length ≤ 4294967296
theorem byte_ok (n : Nat) {b : List Int} {i : Int} (h : Int) (hc : Cu b i) : ∃ i' h' v, spec_l1Byte n (b, i, h) = some (b, i', h', v) ∧ Cu b i' ∧ 0 ≤ v ∧ v ≤ 255 := by
 obtain ⟨h0, h1⟩ := hc
 unfold spec_l1Byte
 dsimp only
 rw [decide_eq_true (show (0 : Int) ≤ 33 by decide), decide_eq_true (show (0 : Int) ≤ 45 by decide), cond_true, cond_true]
 by_cases hl : i < (b.length : Int)
 ·have e : i = ((i.toNat : Nat) : Int) := by omega
  have hin : inb i b.length = true := by rw [e]; exact inb_nat (by omega)
  rw [decide_eq_true hl, hin, cond_true, cond_true, wrap_ok (n := i + 1) (by omega) (by omega)]
  exact ⟨_, _, _, rfl, ⟨by omega, h1⟩, and255 _⟩
 ·rw [decide_eq_false hl, cond_false]
  exact ⟨_, _, _, rfl, ⟨h0, h1⟩, and255 _⟩
theorem tmod_in {x k : Int} (hx : 0 ≤ x) (hk : 0 < k) : 0 ≤ x.tmod k ∧ x.tmod k < k := by
 rw [Int.tmod_eq_emod_of_nonneg hx]
 exact ⟨Int.emod_nonneg _ (by omega), Int.emod_lt_of_pos _ hk⟩
def Bel (k v : Int) : Prop := (k ≤ 0 ∧ v = 0) ∨ (0 ≤ v ∧ v < k)
theorem below_ok (n : Nat) {b : List Int} {i : Int} (h k : Int) (hc : Cu b i) : ∃ i' h' v, spec_l1Below n (b, i, h, k) = some (b, i', h', v) ∧ Cu b i' ∧ Bel k v := by
 unfold spec_l1Below
 dsimp only
 by_cases h0 : k ≤ 0
 ·rw [decide_eq_true h0, cond_true]
  exact ⟨_, _, _, rfl, hc, .inl ⟨h0, rfl⟩⟩
 ·have hk : (k != 0) = true := by rw [bne_iff_ne]; omega
  rw [decide_eq_false h0, cond_false]
  by_cases h1 : k ≤ 256
  ·rw [decide_eq_true h1, cond_true]
   obtain ⟨i1, h1, v1, e1, c1, q1, q2⟩ := byte_ok n h hc
   rw [e1, Option.bind_some]
   dsimp only
   rw [hk, cond_true]
   exact ⟨_, _, _, rfl, c1, .inr (tmod_in q1 (by omega))⟩
  ·rw [decide_eq_false h1, cond_false]
   obtain ⟨i1, h1, v1, e1, c1, p1, q1⟩ := byte_ok n h hc
   rw [e1, Option.bind_some]
   dsimp only
   obtain ⟨i2, h2, v2, e2, c2, p2, q2⟩ := byte_ok n h1 c1
   rw [e2, Option.bind_some]
   dsimp only
   obtain ⟨i3, h3, v3, e3, c3, p3, q3⟩ := byte_ok n h2 c2
   rw [e3, Option.bind_some]
   dsimp only
   obtain ⟨i4, h4, v4, e4, c4, p4, q4⟩ := byte_ok n h3 c3
   rw [e4, Option.bind_some]
   dsimp only
   rw [hk, cond_true]
   have w1 : IntKind.i64.wrap (v1 * 16777216) = v1 * 16777216 := wrap_ok (by omega) (by omega)
   have w2 : IntKind.i64.wrap (v2 * 65536) = v2 * 65536 := wrap_ok (by omega) (by omega)
   have w3 : IntKind.i64.wrap (v3 * 256) = v3 * 256 := wrap_ok (by omega) (by omega)
   have w4 : IntKind.i64.wrap (v1 * 16777216 + v2 * 65536) = v1 * 16777216 + v2 * 65536 := wrap_ok (by omega) (by omega)
   have w5 : IntKind.i64.wrap (v1 * 16777216 + v2 * 65536 + v3 * 256) = v1 * 16777216 + v2 * 65536 + v3 * 256 := wrap_ok (by omega) (by omega)
   have w6 : IntKind.i64.wrap (v1 * 16777216 + v2 * 65536 + v3 * 256 + v4) = v1 * 16777216 + v2 * 65536 + v3 * 256 + v4 := wrap_ok (by omega) (by omega)
   rw [w1, w2, w3, w4, w5, w6]
   exact ⟨_, _, _, rfl, c4, .inr (tmod_in (by omega) (by omega))⟩
theorem once_ok (n : Nat) {b : List Int} {i : Int} (h k : Int) (hc : Cu b i) : ∃ i' h' v, spec_l1Once n (b, i, h, k) = some (b, i', h', v) ∧ Cu b i' := by
 unfold spec_l1Once
 dsimp only
 obtain ⟨i1, h1, v1, e1, c1, _⟩ := below_ok n h k hc
 rw [e1, Option.bind_some]
 exact ⟨_, _, _, rfl, c1⟩
theorem pickInt_ok (n : Nat) {b : List Int} {i : Int} (h : Int) (l : List Int) (hl : l ≠ []) (hc : Cu b i) : ∃ i' h' v, spec_l1PickInt n (b, i, h, l) = some (b, i', h', v) ∧ Cu b i' ∧ v ∈ l := by
 unfold spec_l1PickInt
 dsimp only
 obtain ⟨i1, h1, v1, e1, c1, hb⟩ := below_ok n h (l.length : Int) hc
 have hpos : 0 < l.length := List.length_pos_iff.2 hl
 rw [e1, Option.bind_some]
 dsimp only
 have hv : 0 ≤ v1 ∧ v1 < (l.length : Int) := by
  rcases hb with ⟨q, _⟩ | q
  ·omega
  ·exact q
 have e : v1 = ((v1.toNat : Nat) : Int) := by omega
 have hin : inb v1 l.length = true := by rw [e]; exact inb_nat (by omega)
 rw [hin, cond_true]
 refine ⟨_, _, _, rfl, c1, ?_⟩
 rw [List.getD_eq_getElem?_getD, List.getElem?_eq_getElem (by omega), Option.getD_some]
 exact List.getElem_mem _
theorem draw_ok (n : Nat) {b : List Int} {i : Int} (h : Int) {k : Int} (hk : k ≤ 4294967296) (hc : Cu b i) : ∃ i' h' v, spec_l1Draw n (b, i, h, k) = some (b, i', h', v) ∧ Cu b i' ∧ Bel k v := by
 unfold spec_l1Draw
 dsimp only
 by_cases h6 : k > 6
 ·rw [decide_eq_true h6, cond_true]
  obtain ⟨i1, h1, v1, e1, c1⟩ := once_ok n h 2 hc
  rw [e1, Option.bind_some]
  dsimp only
  cases v1 with
  | true =>
   rw [cond_true]
   obtain ⟨i2, h2, v2, e2, c2, b2⟩ := below_ok n h1 6 c1
   rw [e2, Option.bind_some]
   dsimp only
   have hv : 0 ≤ v2 ∧ v2 < 6 := by
    rcases b2 with ⟨q, _⟩ | q
    ·omega
    ·exact q
   rw [wrap_ok (n := k - 1) (by omega) (by omega), wrap_ok (n := k - 1 - v2) (by omega) (by omega)]
   exact ⟨_, _, _, rfl, c2, .inr ⟨by omega, by omega⟩⟩
  | false =>
   rw [cond_false]
   obtain ⟨i2, h2, v2, e2, c2, b2⟩ := below_ok n h1 k c1
   rw [e2, Option.bind_some]
   exact ⟨_, _, _, rfl, c2, b2⟩
 ·rw [decide_eq_false h6, cond_false]
  obtain ⟨i2, h2, v2, e2, c2, b2⟩ := below_ok n h k hc
  rw [e2, Option.bind_some]
  exact ⟨_, _, _, rfl, c2, b2⟩
theorem parts_ok (n : Nat) (k : Int) : ∃ v, spec_l1Parts n k = some v := by
 unfold spec_l1Parts
 cases (k == 1) <;> cases (k == 5) <;> cases (k == 7) <;> cases (k == 2) <;> cases (k == 3) <;> cases (k == 4) <;> cases (k == 6) <;> cases (k == 8) <;> exact ⟨_, rfl⟩
theorem drawNode_ok (n : Nat) {b : List Int} {i : Int} (h : Int) {k : Int} (hk : k ≤ 4294967296) (hc : Cu b i) : ∃ i' h' kd x y, spec_l1DrawNode n (b, i, h, k) = some (b, i', h', kd, x, y) ∧ Cu b i' := by
 unfold spec_l1DrawNode
 dsimp only
 cases (k == 0) with
 | true =>
  rw [cond_true]
  obtain ⟨i1, h1, v1, e1, c1, _⟩ := pickInt_ok n h [(0 : Int), (1 : Int), (5 : Int), (6 : Int), (50 : Int), (51 : Int), (62 : Int), (90 : Int), (91 : Int), (100 : Int), (101 : Int), (102 : Int), (199 : Int)] (by simp) hc
  rw [e1, Option.bind_some]
  exact ⟨_, _, _, _, _, rfl, c1⟩
 | false =>
  rw [cond_false]
  obtain ⟨i1, h1, v1, e1, c1⟩ := once_ok n h 4 hc
  rw [e1, Option.bind_some]
  dsimp only
  cases v1 with
  | true =>
   rw [cond_true]
   obtain ⟨i2, h2, v2, e2, c2, _⟩ := pickInt_ok n h1 [(0 : Int), (1 : Int), (5 : Int), (6 : Int), (50 : Int), (51 : Int), (62 : Int), (90 : Int), (91 : Int), (100 : Int), (101 : Int), (102 : Int), (199 : Int)] (by simp) c1
   rw [e2, Option.bind_some]
   exact ⟨_, _, _, _, _, rfl, c2⟩
  | false =>
   rw [cond_false]
   obtain ⟨i2, h2, v2, e2, c2, _⟩ := draw_ok n h1 (k := 7) (by decide) c1
   rw [e2, Option.bind_some]
   dsimp only
   obtain ⟨i3, h3, v3, e3, c3, _⟩ := draw_ok n h2 hk c2
   rw [e3, Option.bind_some]
   dsimp only
   obtain ⟨u, hu⟩ := parts_ok n (IntKind.i64.wrap ((2 : Int) + v2))
   rw [hu, Option.bind_some]
   cases (u == 2) with
   | true =>
    rw [cond_true]
    obtain ⟨i4, h4, v4, e4, c4, _⟩ := draw_ok n h3 hk c3
    rw [e4, Option.bind_some]
    exact ⟨_, _, _, _, _, rfl, c4⟩
   | false => exact ⟨_, _, _, _, _, rfl, c3⟩
theorem add_more {xs : List Node3} (hp : poolB xs = true) (kd a b : Int) : ∃ ys t, spec_l1Add N0 (xs, kd, a, b) = some (ys, t) ∧ poolB ys = true ∧ ys.length ≤ xs.length + 1 ∧ xs.length ≤ ys.length := by
 rw [specAdd_eq hp]
 cases h : addP xs kd a b with
 | none => exact ⟨xs, -1, rfl, hp, by omega, by omega⟩
 | some r =>
  obtain ⟨⟨g1, _, zs, g2⟩, _⟩ := addP_grown hp (show addP xs kd a b = some (r.1, r.2) from h)
  refine ⟨r.1, r.2, rfl, g1, ?_, by rw [g2]; simp⟩
  have h : addK xs (norm kd a b) = some r := h
  unfold addK at h
  cases q : nodeV N0 ((norm kd a b).1, (norm kd a b).2.1, (norm kd a b).2.2, (xs.length : Int)) with
  | false => rw [q] at h; cases h
  | true =>
   rw [q, cond_true] at h
   cases hf : pfind xs (norm kd a b) with
   | some j => rw [hf] at h; obtain rfl := Option.some.inj h; simp
   | none =>
    rw [hf] at h
    dsimp only at h
    by_cases hq : 500 ≤ xs.length
    ·rw [if_pos hq] at h; cases h
    ·rw [if_neg hq] at h; obtain rfl := Option.some.inj h; simp
theorem drawPool_loop {b : List Int} : ∀ (m : Nat) (i h : Int) (l0 xs : List Node3) (k j : Nat), Cu b i → poolB xs = true → k < m + j → j ≤ k → k ≤ 1000 →
  ∃ i' h' ys, spec_l1DrawPool_L4 N0 m (b, i, h, l0, xs, (k : Int), (j : Int)) = some (b, i', h', l0, ys) ∧ Cu b i' ∧ poolB ys = true ∧ ys.length ≤ xs.length + (k - j)
 | 0, i, h, l0, xs, k, j, hc, hp, hm, hj, hk => by omega
 | m + 1, i, h, l0, xs, k, j, hc, hp, hm, hj, hk => by
  unfold spec_l1DrawPool_L4
  dsimp only
  by_cases hq : j < k
  ·rw [decide_eq_true (show (j : Int) < (k : Int) by omega), cond_true]
   unfold spec_l1DrawPool_R6
   dsimp only
   have hl := poolB_len hp
   obtain ⟨i1, h1, kd, x, y, e1, c1⟩ := drawNode_ok N0 h (k := (xs.length : Int)) (by omega) hc
   rw [e1, Option.bind_some]
   dsimp only
   obtain ⟨ys, t, e2, p2, l2, _⟩ := add_more hp kd x y
   rw [e2, Option.bind_some, Option.bind_some]
   dsimp only
   rw [wrap_ok (n := (j : Int) + 1) (by omega) (by omega), show (j : Int) + 1 = ((j + 1 : Nat) : Int) by omega]
   obtain ⟨i3, h3, zs, e3, c3, p3, l3⟩ := drawPool_loop m i1 h1 l0 ys k (j + 1) c1 p2 (by omega) (by omega) hk
   exact ⟨i3, h3, zs, e3, c3, p3, by omega⟩
  ·rw [decide_eq_false (show ¬ (j : Int) < (k : Int) by omega), cond_false]
   exact ⟨i, h, xs, rfl, hc, hp, by omega⟩
theorem poolB_nil : poolB [] = true := by
 unfold poolB
 rfl
theorem drawPool_ok {b : List Int} {i : Int} (h : Int) {k : Int} (h0 : 0 ≤ k) (hk : k ≤ 100) (hc : Cu b i) : ∃ i' h' xs, spec_l1DrawPool N0 (b, i, h, k) = some (b, i', h', xs) ∧ Cu b i' ∧ poolB xs = true ∧ (xs.length : Int) ≤ k := by
 unfold spec_l1DrawPool
 dsimp only
 rw [wrap_ok (n := k + 1) (by omega) (by omega)]
 obtain ⟨i1, h1, v1, e1, c1, b1⟩ := below_ok N0 h (k + 1) hc
 rw [e1, Option.bind_some]
 dsimp only
 have hv : 0 ≤ v1 ∧ v1 ≤ k := by
  rcases b1 with ⟨q, _⟩ | q
  ·omega
  ·omega
 obtain ⟨v, rfl⟩ := Int.eq_ofNat_of_zero_le hv.1
 have := n0
 obtain ⟨i2, h2, ys, e2, c2, p2, l2⟩ := drawPool_loop N0 i1 h1 [] [] v 0 c1 poolB_nil (by omega) (Nat.zero_le _) (by omega)
 rw [show ((0 : Nat) : Int) = (0 : Int) from rfl] at e2
 rw [e2, Option.bind_some]
 exact ⟨_, _, _, rfl, c2, p2, by simp at l2; show (ys.length : Int) ≤ k; omega⟩
theorem drawTerm_ok {b : List Int} {i : Int} (h : Int) {xs : List Node3} (hx : xs.length ≤ 4294967296) (hc : Cu b i) : ∃ i' h' t, spec_l1DrawTerm N0 (b, i, h, xs) = some (b, i', h', t) ∧ Cu b i' ∧ (t = -1 ∨ t = (xs.length : Int) ∨ (0 ≤ t ∧ t < (max xs.length 1 : Nat))) := by
 unfold spec_l1DrawTerm
 dsimp only
 obtain ⟨i1, h1, v1, e1, c1⟩ := once_ok N0 h 25 hc
 rw [e1, Option.bind_some]
 dsimp only
 cases v1 with
 | true =>
  rw [cond_true]
  obtain ⟨i2, h2, v2, e2, c2, m2⟩ := pickInt_ok N0 h1 [(-1 : Int), (xs.length : Int)] (by simp) c1
  rw [e2, Option.bind_some]
  refine ⟨_, _, _, rfl, c2, ?_⟩
  simp at m2
  rcases m2 with q | q
  ·exact .inl q
  ·exact .inr (.inl q)
 | false =>
  rw [cond_false]
  have hm : spec_l1Max N0 ((xs.length : Int), (1 : Int)) = some ((max xs.length 1 : Nat) : Int) := by
   unfold spec_l1Max
   dsimp only
   by_cases q : (xs.length : Int) > 1
   ·rw [decide_eq_true q, cond_true]; congr 1; omega
   ·rw [decide_eq_false q, cond_false]; congr 1; omega
  rw [hm, Option.bind_some]
  obtain ⟨i2, h2, v2, e2, c2, b2⟩ := draw_ok N0 h1 (k := ((max xs.length 1 : Nat) : Int)) (by omega) c1
  rw [e2, Option.bind_some]
  refine ⟨_, _, _, rfl, c2, .inr (.inr ?_)⟩
  rcases b2 with ⟨q, _⟩ | q
  ·omega
  ·exact q
theorem new_loop {b : List Int} (hb : b.length ≤ 4294967296) : ∀ (m : Nat) (h : Int) (j : Nat), 4001 < m + j → j ≤ 4000 → ∃ h', spec_l1New_L3 N0 m (b, h, (j : Int)) = some (b, h')
 | 0, h, j, hm, hj => by omega
 | m + 1, h, j, hm, hj => by
  unfold spec_l1New_L3
  dsimp only
  by_cases h1 : j < b.length
  ·rw [decide_eq_true (show (j : Int) < (b.length : Int) by omega), cond_true]
   by_cases h2 : j < 4000
   ·rw [decide_eq_true (show (j : Int) < 4000 by omega), cond_true, inb_nat h1, cond_true, wrap_ok (n := (j : Int) + 1) (by omega) (by omega), show (j : Int) + 1 = ((j + 1 : Nat) : Int) by omega]
    exact new_loop hb m _ (j + 1) (by omega) (by omega)
   ·rw [decide_eq_false (show ¬ (j : Int) < 4000 by omega), cond_false]
    exact ⟨_, rfl⟩
  ·rw [decide_eq_false (show ¬ (j : Int) < (b.length : Int) by omega), cond_false]
   exact ⟨_, rfl⟩
theorem new_ok {b : List Int} (hb : b.length ≤ 4294967296) : ∃ h, spec_l1New N0 b = some (false, b, (0 : Int), h) ∧ Cu b 0 := by
 unfold spec_l1New
 have := n0
 obtain ⟨h', e⟩ := new_loop hb N0 (IntKind.i64.wrap ((12241 : Int) + (b.length : Int))) 0 (by omega) (by omega)
 rw [show ((0 : Nat) : Int) = (0 : Int) from rfl] at e
 rw [e, Option.bind_some]
 exact ⟨_, rfl, by decide, hb⟩
end AM
end Go.Proofs.YtelkmjkclmjggaaGreatDoor
namespace Go.Proofs.YtelkmjkclmjggaaGreatDoor
namespace AM
open Go
set_option linter.unusedVariables false
set_option linter.unusedSimpArgs false
def partsL (x : Node3) : List Int := bif x.1 == 5 then [x.2.1] else bif x.1 == 7 then [x.2.1] else bif x.1 == 2 then [x.2.1, x.2.2] else bif x.1 == 3 then [x.2.1, x.2.2] else bif x.1 == 4 then [x.2.1, x.2.2] else bif x.1 == 6 then [x.2.1, x.2.2] else bif x.1 == 8 then [x.2.1, x.2.2] else []
theorem partsOf_eq {xs : List Node3} {t : Nat} (ht : t < xs.length) : spec_l1PartsOf N0 (xs, (t : Int)) = some (partsL (xs.getD t zN3)) := by
 unfold spec_l1PartsOf
 dsimp only
 rw [inb_nat ht, cond_true, Int.toNat_natCast]
 generalize xs.getD t zN3 = X
 unfold spec_l1Parts partsL
 cases h1 : (X.1 == 1) with
 | true =>
  have e : X.1 = 1 := by simpa using h1
  rw [e]; rfl
 | false =>
  cases (X.1 == 5) <;> cases (X.1 == 7) <;> cases (X.1 == 2) <;> cases (X.1 == 3) <;> cases (X.1 == 4) <;> cases (X.1 == 6) <;> cases (X.1 == 8) <;> rfl
theorem nodeV_kind {k a b : Int} {i : Nat} (hi : i ≤ 4294967296) (h : nodeV N0 (k, a, b, (i : Int)) = true) : (k = 1 ∧ 0 ≤ a ∧ a ≤ 199) ∨ ((k = 5 ∨ k = 7) ∧ 0 ≤ a ∧ a < (i : Int)) ∨ ((k = 2 ∨ k = 3 ∨ k = 4 ∨ k = 6 ∨ k = 8) ∧ 0 ≤ a ∧ a < (i : Int) ∧ 0 ≤ b ∧ b < (i : Int)) := by
 have w : IntKind.i64.wrap ((i : Int) - (1 : Int)) = (i : Int) - 1 := wrap_ok (by omega) (by omega)
 have hr : ∀ v lo hi : Int, impl_inRange N0 (v, lo, hi) = some (decide (v ≥ lo) && decide (v ≤ hi)) := fun v lo hi => by
  unfold impl_inRange
  cases q : decide (v ≥ lo) <;> (simp [q])
 have hk : nodeV N0 (k, a, b, (i : Int)) = (impl_nodeOk N0 (k, a, b, (i : Int))).getD false := rfl
 rw [hk] at h
 unfold impl_nodeOk at h
 dsimp only at h
 rw [w, hr, hr, hr] at h
 by_cases h1 : k = 1
 ·subst h1
  rw [show impl_count N0 1 = some 0 from rfl] at h
  left
  cases q : (decide (a ≥ 0) && decide (a ≤ 199)) with
  | false => simp only [Option.bind_some, beq_self_eq_true, cond_true, q] at h; cases h
  | true =>
   rw [Bool.and_eq_true, decide_eq_true_iff, decide_eq_true_iff] at q
   exact ⟨rfl, q.1, q.2⟩
 by_cases h5 : k = 5 ∨ k = 7
 ·right; left
  have hc : impl_count N0 k = some 1 := by rcases h5 with rfl | rfl <;> rfl
  rw [hc] at h
  cases q : (decide (a ≥ 0) && decide (a ≤ (i : Int) - 1)) with
  | false => simp only [Option.bind_some, show ((1 : Int) == 0) = false from rfl, beq_self_eq_true, cond_true, cond_false, q] at h; cases h
  | true =>
   rw [Bool.and_eq_true, decide_eq_true_iff, decide_eq_true_iff] at q
   exact ⟨h5, q.1, by omega⟩
 by_cases h2 : k = 2 ∨ k = 3 ∨ k = 4 ∨ k = 6 ∨ k = 8
 ·right; right
  have hc : impl_count N0 k = some 2 := by rcases h2 with rfl | rfl | rfl | rfl | rfl <;> rfl
  rw [hc] at h
  cases q : (decide (a ≥ 0) && decide (a ≤ (i : Int) - 1)) with
  | false => simp only [Option.bind_some, show ((2 : Int) == 0) = false from rfl, show ((2 : Int) == 1) = false from rfl, beq_self_eq_true, cond_true, cond_false, q] at h; cases h
  | true =>
   cases q2 : (decide (b ≥ 0) && decide (b ≤ (i : Int) - 1)) with
   | false => simp only [Option.bind_some, show ((2 : Int) == 0) = false from rfl, show ((2 : Int) == 1) = false from rfl, beq_self_eq_true, cond_true, cond_false, q, q2] at h; cases h
   | true =>
    rw [Bool.and_eq_true, decide_eq_true_iff, decide_eq_true_iff] at q q2
    exact ⟨h2, q.1, by omega, q2.1, by omega⟩
 exfalso
 have hc : ∃ c, impl_count N0 k = some c ∧ c ≠ 0 ∧ c ≠ 1 ∧ c ≠ 2 := by
  unfold impl_count
  simp only [show (k == 1) = false from by rw [beq_eq_false_iff_ne]; exact h1, show (k == 2) = false from by rw [beq_eq_false_iff_ne]; omega, show (k == 3) = false from by rw [beq_eq_false_iff_ne]; omega, show (k == 4) = false from by rw [beq_eq_false_iff_ne]; omega, show (k == 5) = false from by rw [beq_eq_false_iff_ne]; omega, show (k == 6) = false from by rw [beq_eq_false_iff_ne]; omega, show (k == 7) = false from by rw [beq_eq_false_iff_ne]; omega, show (k == 8) = false from by rw [beq_eq_false_iff_ne]; omega, cond_false]
  exact ⟨_, rfl, by decide, by decide, by decide⟩
 obtain ⟨c, hc, c0, c1, c2⟩ := hc
 rw [hc] at h
 simp only [Option.bind_some, show (c == 0) = false from by rw [beq_eq_false_iff_ne]; exact c0, show (c == 1) = false from by rw [beq_eq_false_iff_ne]; exact c1, show (c == 2) = false from by rw [beq_eq_false_iff_ne]; exact c2, cond_false] at h
 cases h
theorem parts_in {xs : List Node3} (hp : poolB xs = true) {t : Nat} (ht : t < xs.length) : ∀ v ∈ partsL (xs.getD t zN3), 0 ≤ v ∧ v < (t : Int) := by
 have hl := poolB_len hp
 have h := nodeV_kind (by omega) (poolB_nd hp ht)
 generalize xs.getD t zN3 = X at h
 obtain ⟨k, a, b⟩ := X
 unfold partsL
 dsimp only at h ⊢
 intro v hv
 rcases h with ⟨rfl, _⟩ | ⟨h5, h1, h2⟩ | ⟨h5, h1, h2, h3, h4⟩
 ·cases hv
 ·rcases h5 with rfl | rfl <;> (have hv : v ∈ [a] := hv; rw [List.mem_singleton.1 hv]; exact ⟨h1, h2⟩)
 ·have hv : v ∈ [a, b] := by rcases h5 with rfl | rfl | rfl | rfl | rfl <;> exact hv
  rcases List.mem_cons.1 hv with rfl | hv
  ·exact ⟨h1, h2⟩
  ·rw [List.mem_singleton.1 hv]; exact ⟨h3, h4⟩
def szF (ss : List Int) (n : Int) (l : List Int) : Int := l.foldl (fun n v => min (n + ss.getD v.toNat 0) 1001) n
theorem sizes_inner {xs : List Node3} {ss : List Int} {t : Int} : ∀ (r pre : List Int) (n : Int) (m : Nat), r.length < m → pre.length + r.length ≤ 100 → (∀ v ∈ r, 0 ≤ v ∧ v < (ss.length : Int)) → (∀ v, 0 ≤ v → v < (ss.length : Int) → 1 ≤ ss.getD v.toNat 0 ∧ ss.getD v.toNat 0 ≤ 1001) → 1 ≤ n → n ≤ 1001 →
  spec_l1Sizes_L8 N0 m (xs, ss, t, n, pre ++ r, (pre.length : Int)) = some (xs, ss, t, szF ss n r) ∧ 1 ≤ szF ss n r ∧ szF ss n r ≤ 1001
 | _, _, _, 0, h, _, _, _, _, _ => by omega
 | [], pre, n, m + 1, h, hl, hr, hs, h0, h1 => by
  unfold spec_l1Sizes_L8
  dsimp only
  rw [lt_end, cond_false]
  exact ⟨rfl, h0, h1⟩
 | v :: r, pre, n, m + 1, h, hl, hr, hs, h0, h1 => by
  obtain ⟨v0, v1⟩ := hr v (List.mem_cons_self ..)
  obtain ⟨s0, s1⟩ := hs v v0 v1
  have e : v = ((v.toNat : Nat) : Int) := by omega
  have hin : inb v ss.length = true := by rw [e]; exact inb_nat (by omega)
  unfold spec_l1Sizes_L8
  dsimp only
  rw [lt_pre, cond_true, in_pre, cond_true, Int.toNat_natCast, get_pre, hin, cond_true, wrap_ok (n := n + ss.getD v.toNat 0) (by omega) (by omega)]
  have hm : spec_l1Min N0 (n + ss.getD v.toNat 0, (1001 : Int)) = some (min (n + ss.getD v.toNat 0) 1001) := by
   unfold spec_l1Min
   dsimp only
   by_cases q : n + ss.getD v.toNat 0 < 1001
   ·rw [decide_eq_true q, cond_true]; congr 1; omega
   ·rw [decide_eq_false q, cond_false]; congr 1; omega
  rw [hm, Option.bind_some]
  have hl' : pre.length + (r.length + 1) ≤ 100 := hl
  rw [wrap_ok (n := (pre.length : Int) + 1) (by omega) (by omega), app_one, ← len_one pre v]
  exact sizes_inner r (pre ++ [v]) _ m (by simp at h; omega) (by simp; omega) (fun u hu => hr u (List.mem_cons_of_mem _ hu)) hs (by omega) (by omega)
structure SzOk (xs : List Node3) (ss : List Int) : Prop where
 le : ss.length ≤ xs.length
 lo : ∀ v, 0 ≤ v → v < (ss.length : Int) → 1 ≤ ss.getD v.toNat 0 ∧ ss.getD v.toNat 0 ≤ 1001
 eq : ∀ t : Nat, t < ss.length → ss.getD t 0 = szF ss 1 (partsL (xs.getD t zN3))
theorem szF_app {ss : List Int} (z : List Int) : ∀ {l : List Int} {n : Int}, (∀ v ∈ l, 0 ≤ v ∧ v < (ss.length : Int)) → szF (ss ++ z) n l = szF ss n l
 | [], n, h => rfl
 | v :: l, n, h => by
  obtain ⟨v0, v1⟩ := h v (List.mem_cons_self ..)
  show szF (ss ++ z) (min (n + (ss ++ z).getD v.toNat 0) 1001) l = szF ss (min (n + ss.getD v.toNat 0) 1001) l
  rw [getD_app (by omega)]
  exact szF_app z (fun u hu => h u (List.mem_cons_of_mem _ hu))
theorem sizes_loop {xs : List Node3} (hp : poolB xs = true) : ∀ (m : Nat) (ss : List Int), SzOk xs ss → xs.length < m + ss.length → ∃ ts, spec_l1Sizes_L3 N0 m (xs, ss, (ss.length : Int)) = some ts ∧ SzOk xs ts ∧ ts.length = xs.length
 | 0, ss, h, hm => by have := h.le; omega
 | m + 1, ss, h, hm => by
  have hl := poolB_len hp
  have hle := h.le
  unfold spec_l1Sizes_L3
  dsimp only
  by_cases hq : ss.length < xs.length
  ·rw [decide_eq_true (show (ss.length : Int) < (xs.length : Int) by omega), cond_true, partsOf_eq hq, Option.bind_some]
   have hpi := parts_in hp hq
   have hpl : (partsL (xs.getD ss.length zN3)).length ≤ 2 := by
    unfold partsL
    cases ((xs.getD ss.length zN3).1 == 5) <;> cases ((xs.getD ss.length zN3).1 == 7) <;> cases ((xs.getD ss.length zN3).1 == 2) <;> cases ((xs.getD ss.length zN3).1 == 3) <;> cases ((xs.getD ss.length zN3).1 == 4) <;> cases ((xs.getD ss.length zN3).1 == 6) <;> cases ((xs.getD ss.length zN3).1 == 8) <;> simp
   have hN := n0
   obtain ⟨e1, e2, e3⟩ := sizes_inner (xs := xs) (ss := ss) (t := (ss.length : Int)) (partsL (xs.getD ss.length zN3)) [] 1 N0 (by omega) (by rw [List.length_nil]; omega) hpi h.lo (by decide) (by decide)
   have e1 : spec_l1Sizes_L8 N0 N0 (xs, ss, (ss.length : Int), (1 : Int), partsL (xs.getD ss.length zN3), (0 : Int)) = _ := e1
   rw [e1, Option.bind_some]
   dsimp only
   have hro : room (ss.length + [szF ss 1 (partsL (xs.getD ss.length zN3))].length) = true := by
    unfold room; rw [List.length_singleton]; exact decide_eq_true (by omega)
   rw [hro, cond_true, wrap_ok (n := (ss.length : Int) + 1) (by omega) (by omega), ← len_one ss (szF ss 1 (partsL (xs.getD ss.length zN3)))]
   refine sizes_loop hp m (ss ++ [szF ss 1 (partsL (xs.getD ss.length zN3))]) ⟨by simp; omega, fun v v0 v1 => ?_, fun t ht => ?_⟩ (by simp; omega)
   ·by_cases hv : v < (ss.length : Int)
    ·rw [getD_app (by omega)]; exact h.lo v v0 hv
    ·have : v.toNat = ss.length := by simp at v1; omega
     rw [this, get_pre]
     exact ⟨e2, e3⟩
   ·by_cases hv : t < ss.length
    ·rw [getD_app hv, szF_app _ (fun v hv2 => by
      have := parts_in hp (t := t) (by omega) v hv2
      omega)]
     exact h.eq t hv
    ·have : t = ss.length := by simp at ht; omega
     rw [this, get_pre, szF_app _ hpi]
  ·rw [decide_eq_false (show ¬ (ss.length : Int) < (xs.length : Int) by omega), cond_false]
   exact ⟨ss, rfl, h, by omega⟩
theorem sizes_ok {xs : List Node3} (hp : poolB xs = true) : ∃ ss, spec_l1Sizes N0 xs = some ss ∧ SzOk xs ss ∧ ss.length = xs.length := by
 have := n0
 have hl := poolB_len hp
 obtain ⟨ts, e1, e2, e3⟩ := sizes_loop hp N0 [] ⟨Nat.zero_le _, fun v v0 v1 => by simp at v1; omega, fun t ht => by simp at ht⟩ (by simp; omega)
 refine ⟨ts, ?_, e2, e3⟩
 unfold spec_l1Sizes
 have e1 : spec_l1Sizes_L3 N0 N0 (xs, ([] : List Int), (0 : Int)) = some ts := e1
 rw [e1]; rfl
theorem name_new {xs : List Node3} {ys : List Node3} {t : Int} {a : Int} (hp : poolB xs = true) (h0 : 0 ≤ a) (h1 : a ≤ 199) : nodeV N0 (1, a, 0, (xs.length : Int)) = true := by
 have hr : ∀ v lo hi : Int, impl_inRange N0 (v, lo, hi) = some (decide (v ≥ lo) && decide (v ≤ hi)) := fun v lo hi => by
  unfold impl_inRange
  cases q : decide (v ≥ lo) <;> (simp [q])
 show (impl_nodeOk N0 (1, a, 0, (xs.length : Int))).getD false = true
 unfold impl_nodeOk
 dsimp only
 rw [hr, show impl_count N0 1 = some 0 from rfl]
 simp only [Option.bind_some, beq_self_eq_true, cond_true, decide_eq_true h0, decide_eq_true h1, Bool.and_self]
 rfl
theorem digest_new {i : Nat} (h0 : 0 < i) (hi : i ≤ 4294967296) : nodeV N0 (5, (i : Int) - 1, 0, (i : Int)) = true := by
 have w : IntKind.i64.wrap ((i : Int) - (1 : Int)) = (i : Int) - 1 := wrap_ok (by omega) (by omega)
 have hr : ∀ v lo hi : Int, impl_inRange N0 (v, lo, hi) = some (decide (v ≥ lo) && decide (v ≤ hi)) := fun v lo hi => by
  unfold impl_inRange
  cases q : decide (v ≥ lo) <;> (simp [q])
 show (impl_nodeOk N0 (5, (i : Int) - 1, 0, (i : Int))).getD false = true
 unfold impl_nodeOk
 dsimp only
 rw [w, hr, hr, hr, show impl_count N0 5 = some 1 from rfl]
 simp only [Option.bind_some, show ((1 : Int) == 0) = false from rfl, beq_self_eq_true, cond_true, cond_false, decide_eq_true (show (i : Int) - 1 ≥ 0 by omega), decide_eq_true (show (i : Int) - 1 ≤ (i : Int) - 1 by omega), Bool.and_self]
 rfl
theorem any_loop {b : List Int} {i h : Int} {l0 : List Node3} : ∀ (m : Nat) (xs : List Node3), poolB xs = true → 500 < m + xs.length → ∃ ys, spec_l1DrawAny_L9 N0 m (b, i, h, l0, xs) = some (b, i, h, l0, ys) ∧ ys.length ≤ 500
 | 0, xs, hp, hm => by have := poolB_len hp; omega
 | m + 1, xs, hp, hm => by
  have hl := poolB_len hp
  unfold spec_l1DrawAny_L9
  dsimp only
  by_cases hq : xs.length < 500
  ·rw [decide_eq_true (show (xs.length : Int) < 500 by omega), cond_true, show ((200 : Int) != 0) = true from rfl, cond_true]
   obtain ⟨ys, t, e1, p1, l1, l2⟩ := add_more hp 1 (((xs.length : Int)).tmod 200) 0
   rw [e1, Option.bind_some]
   dsimp only
   have hyl := poolB_len p1
   have hpos : 0 < ys.length := by
    by_cases hz : xs.length = 0
    ·obtain rfl := List.eq_nil_of_length_eq_zero hz
     rw [specAdd_eq hp] at e1
     have ha : addP [] 1 (((([] : List Node3).length : Int)).tmod 200) 0 = some ([(1, 0, 0)], 0) := by
      have hn := name_new (ys := []) (t := 0) (a := 0) (xs := []) hp (by decide) (by decide)
      show addK [] (1, 0, 0) = _
      unfold addK
      rw [show nodeV N0 (((1 : Int), (0 : Int), (0 : Int)).1, ((1 : Int), (0 : Int), (0 : Int)).2.1, ((1 : Int), (0 : Int), (0 : Int)).2.2, ((([] : List Node3).length : Nat) : Int)) = true from hn]
      rfl
     rw [ha] at e1
     obtain ⟨rfl, _⟩ := Prod.mk.inj (Option.some.inj e1)
     exact Nat.zero_lt_one
    ·omega
   rw [wrap_ok (n := (ys.length : Int) - 1) (by omega) (by omega)]
   by_cases hy : ys.length < 500
   ·have hn := digest_new hpos (by omega)
    have hf : pfind ys (5, (ys.length : Int) - 1, 0) = none := by
     cases hf : pfind ys (5, (ys.length : Int) - 1, 0) with
     | none => rfl
     | some j =>
      exfalso
      obtain ⟨_, j1, j2⟩ := pf_some hf
      have hj := nodeV_kind (by omega) (poolB_nd p1 (j := j) (by omega))
      rw [j2] at hj
      dsimp only at hj
      omega
    have ha : addP ys 5 ((ys.length : Int) - 1) 0 = some (ys ++ [(5, (ys.length : Int) - 1, 0)], (ys.length : Int)) := by
     show addK ys (5, (ys.length : Int) - 1, 0) = _
     unfold addK
     dsimp only
     rw [hn, cond_true, hf]
     dsimp only
     rw [if_neg (by omega)]
    have p2 := (addP_grown p1 ha).1.1
    rw [specAdd_eq p1, ha]
    rw [Option.bind_some]
    exact any_loop m (ys ++ [(5, (ys.length : Int) - 1, 0)]) p2 (by rw [List.length_append, List.length_singleton]; omega)
   ·obtain ⟨zs, u, e2, p2, l3, l4⟩ := add_more p1 5 ((ys.length : Int) - 1) 0
    rw [e2, Option.bind_some]
    have := poolB_len p2
    exact any_loop m zs p2 (by omega)
  ·rw [decide_eq_false (show ¬ (xs.length : Int) < 500 by omega), cond_false]
   exact ⟨xs, rfl, hl⟩
end AM
end Go.Proofs.YtelkmjkclmjggaaGreatDoor
namespace Go.Proofs.YtelkmjkclmjggaaGreatDoor
namespace AM
open Go
set_option linter.unusedVariables false
set_option linter.unusedSimpArgs false
theorem anyTail {b : List Int} {i : Int} (h : Int) (xs : List Node3) (hx : xs.length ≤ 501) (hc : Cu b i) : ∃ i' h' ys, ((spec_l1Once N0 (b, i, h, (80 : Int))).bind fun r5 => (cond r5.2.2.2 ((spec_l1DrawAny_L9 N0 N0 (r5.1, r5.2.1, r5.2.2.1, [], ([] : List Node3))).bind fun e8 => (some (e8.1, e8.2.1, e8.2.2.1, e8.2.2.2.2))) (some (r5.1, r5.2.1, r5.2.2.1, xs)))) = some (b, i', h', ys) ∧ Cu b i' ∧ ys.length ≤ 501 := by
 obtain ⟨i1, h1, v1, e1, c1⟩ := once_ok N0 h 80 hc
 rw [e1, Option.bind_some]
 dsimp only
 cases v1 with
 | true =>
  have := n0
  obtain ⟨ys, e2, l2⟩ := any_loop (b := b) (i := i1) (h := h1) (l0 := []) N0 [] poolB_nil (by simp; omega)
  rw [cond_true, e2, Option.bind_some]
  exact ⟨_, _, _, rfl, c1, (show ys.length ≤ 501 by omega)⟩
 | false => exact ⟨_, _, _, rfl, c1, hx⟩
theorem room_small {α : Type} {xs : List α} (h : xs.length ≤ 1000) {k : α} : room (xs.length + [k].length) = true := by
 unfold room; rw [List.length_singleton]; exact decide_eq_true (by omega)
theorem drawAny_ok {b : List Int} {i : Int} (h : Int) (hc : Cu b i) : ∃ i' h' xs, spec_l1DrawAny N0 (b, i, h) = some (b, i', h', xs) ∧ Cu b i' ∧ xs.length ≤ 501 := by
 unfold spec_l1DrawAny
 dsimp only
 obtain ⟨i1, h1, xs, e1, c1, p1, l1⟩ := drawPool_ok h (k := 24) (by decide) (by decide) hc
 rw [e1, Option.bind_some]
 dsimp only
 obtain ⟨i2, h2, v2, e2, c2, _⟩ := below_ok N0 h1 25 c1
 rw [e2, Option.bind_some]
 dsimp only
 have cp := copyS_eq (xs := xs) (by omega)
 cases (v2 == 0) with
 | true =>
  rw [cond_true, cp, Option.bind_some]
  obtain ⟨i3, h3, kd, x, y, e3, c3⟩ := drawNode_ok N0 h2 (k := 3) (by decide) c2
  rw [e3, Option.bind_some]
  dsimp only
  rw [room_small (by omega), cond_true]
  exact anyTail h3 _ (by simp; omega) c3
 | false =>
  rw [cond_false]
  cases (v2 == 1) with
  | true =>
   rw [cond_true, cp, Option.bind_some]
   obtain ⟨i3, h3, v3, e3, c3, _⟩ := below_ok N0 h2 10 c2
   rw [e3, Option.bind_some]
   dsimp only
   obtain ⟨i4, h4, v4, e4, c4, _⟩ := below_ok N0 h3 30 c3
   rw [e4, Option.bind_some]
   dsimp only
   obtain ⟨i5, h5, v5, e5, c5, _⟩ := below_ok N0 h4 30 c4
   rw [e5, Option.bind_some]
   dsimp only
   rw [room_small (by omega), cond_true]
   exact anyTail h5 _ (by simp; omega) c5
  | false =>
   rw [cond_false]
   exact anyTail h2 _ (by omega) c2
theorem envNew_loop : ∀ (m : Nat) (l : List Int), l.length ≤ 26 → 26 < m + l.length → ∃ e, spec_EnvNew_L3 N0 m (l, (l.length : Int)) = some e ∧ e.length = 26 ∧ ((∀ v ∈ l, v = -1) → ∀ v ∈ e, v = -1)
 | 0, l, h, hm => by omega
 | m + 1, l, h, hm => by
  unfold spec_EnvNew_L3
  dsimp only
  by_cases hq : l.length < 26
  ·rw [decide_eq_true (show (l.length : Int) < 26 by omega), cond_true, room_small (by omega), cond_true, wrap_ok (n := (l.length : Int) + 1) (by omega) (by omega), ← len_one l (-1)]
   obtain ⟨e, e1, e2, e3⟩ := envNew_loop m (l ++ [-1]) (by simp; omega) (by simp; omega)
   refine ⟨e, e1, e2, fun hl => e3 fun v hv => ?_⟩
   rcases List.mem_append.1 hv with q | q
   ·exact hl v q
   ·exact List.mem_singleton.1 q
  ·rw [decide_eq_false (show ¬ (l.length : Int) < 26 by omega), cond_false]
   exact ⟨l, rfl, by omega, fun h => h⟩
theorem envNew_ok : ∃ e, spec_EnvNew N0 () = some e ∧ e.length = 26 ∧ ∀ v ∈ e, v = -1 := by
 unfold spec_EnvNew
 have := n0
 obtain ⟨e, e1, e2, e3⟩ := envNew_loop N0 [] (by simp) (by omega)
 have e1 : spec_EnvNew_L3 N0 N0 (([] : List Int), (0 : Int)) = some e := e1
 rw [e1, Option.bind_some]
 exact ⟨e, rfl, e2, e3 (fun v hv => by cases hv)⟩
theorem drawEnv_loop {b : List Int} {xs : List Node3} (hx : xs.length ≤ 4294967296) : ∀ (m : Nat) (i h : Int) (env : List Int) (j : Nat), Cu b i → env.length = 26 → 6 < m + j → j ≤ 6 → ∃ i' h' e, spec_l11DrawEnv_L3 N0 m (b, i, h, xs, env, (j : Int)) = some (b, i', h', xs, e) ∧ Cu b i' ∧ e.length = 26
 | 0, i, h, env, j, hc, he, hm, hj => by omega
 | m + 1, i, h, env, j, hc, he, hm, hj => by
  unfold spec_l11DrawEnv_L3
  dsimp only
  obtain ⟨i1, h1, v1, e1, c1, b1⟩ := below_ok N0 h 6 hc
  rw [e1, Option.bind_some]
  dsimp only
  have hv : 0 ≤ v1 ∧ v1 < 6 := by
   rcases b1 with ⟨q, _⟩ | q
   ·omega
   ·exact q
  by_cases hq : (j : Int) < v1
  ·rw [decide_eq_true hq, cond_true]
   cases decide ((xs.length : Int) > 0) with
   | false => exact ⟨_, _, _, rfl, c1, he⟩
   | true =>
    rw [cond_true]
    unfold spec_l11DrawEnv_R5
    dsimp only
    obtain ⟨i2, h2, v2, e2, c2, b2⟩ := below_ok N0 h1 5 c1
    rw [e2, Option.bind_some]
    dsimp only
    obtain ⟨i3, h3, v3, e3, c3, b3⟩ := draw_ok N0 h2 (k := (xs.length : Int)) (by omega) c2
    rw [e3, Option.bind_some]
    dsimp only
    have hv2 : 0 ≤ v2 ∧ v2 < 5 := by
     rcases b2 with ⟨q, _⟩ | q
     ·omega
     ·exact q
    have hin : inb v2 env.length = true := by
     rw [show v2 = ((v2.toNat : Nat) : Int) by omega]
     exact inb_nat (by omega)
    rw [hin, cond_true, Option.bind_some]
    dsimp only
    rw [wrap_ok (n := (j : Int) + 1) (by omega) (by omega), show (j : Int) + 1 = ((j + 1 : Nat) : Int) by omega]
    exact drawEnv_loop hx m i3 h3 _ (j + 1) c3 (by rw [List.length_set]; exact he) (by omega) (by omega)
  ·rw [decide_eq_false hq, cond_false]
   exact ⟨_, _, _, rfl, c1, he⟩
theorem drawEnv_ok {b : List Int} {i : Int} (h : Int) {xs : List Node3} (hx : xs.length ≤ 4294967296) (hc : Cu b i) : ∃ i' h' e, spec_l11DrawEnv N0 (b, i, h, xs) = some (b, i', h', e) ∧ Cu b i' ∧ e.length ≤ 26 := by
 unfold spec_l11DrawEnv
 dsimp only
 obtain ⟨e0, q1, q2, _⟩ := envNew_ok
 rw [q1, Option.bind_some]
 have := n0
 obtain ⟨i1, h1, e1, q3, c1, q4⟩ := drawEnv_loop hx N0 i h e0 0 hc q2 (by omega) (by omega)
 rw [show ((0 : Nat) : Int) = (0 : Int) from rfl] at q3
 rw [q3, Option.bind_some]
 dsimp only
 obtain ⟨i2, h2, v2, e2, c2, _⟩ := below_ok N0 h1 30 c1
 rw [e2, Option.bind_some]
 dsimp only
 cases (v2 == 0) with
 | true =>
  have hr : rng (1 : Int) (e1.length : Int) e1.length = true := by unfold rng; exact decide_eq_true (by omega)
  rw [cond_true, hr, cond_true]
  refine ⟨_, _, _, rfl, c2, ?_⟩
  show ((e1.take _).drop _).length ≤ 26
  rw [List.length_drop, List.length_take]
  omega
 | false =>
  rw [cond_false]
  cases (v2 == 1) with
  | true =>
   rw [cond_true]
   obtain ⟨i3, h3, v3, e3, c3, _⟩ := pickInt_ok N0 h2 [(-2 : Int), (xs.length : Int)] (by simp) c2
   rw [e3, Option.bind_some]
   dsimp only
   rw [show (7 : Int) = ((7 : Nat) : Int) from rfl, inb_nat (show 7 < e1.length by omega), cond_true]
   exact ⟨_, _, _, rfl, c3, by rw [List.length_set]; omega⟩
  | false => exact ⟨_, _, _, rfl, c2, by omega⟩
theorem size_app (a b : ByteArray) : (a ++ b).size = a.size + b.size := ByteArray.size_append
theorem size_bytes (l : List Int) : (bytesOf l).size = l.length := by
 show (l.map _).toArray.size = _
 rw [List.size_toArray, List.length_map]
theorem sub_size (s : ByteArray) (l h : Int) : (sub s l h).size ≤ s.size := by
 unfold sub
 rw [ByteArray.size_extract]
 omega
theorem num_loop : ∀ (k m : Nat) (x : Int) (s : ByteArray), 0 ≤ x → x ≤ 1000000 → x < 10 ^ k → k < m → s.size + k ≤ 1000 → ∃ r, spec_l4Num_L4 N0 m (x, s) = some r ∧ r.size ≤ s.size + k
 | _, 0, x, s, _, _, _, h, _ => by omega
 | 0, m + 1, x, s, h0, hx, h1, hm, hs => by
  unfold spec_l4Num_L4
  dsimp only
  rw [decide_eq_false (show ¬ x > 0 by have : (10 : Int) ^ 0 = 1 := rfl; omega), cond_false]
  exact ⟨s, rfl, by omega⟩
 | k + 1, m + 1, x, s, h0, hx, h1, hm, hs => by
  unfold spec_l4Num_L4
  dsimp only
  by_cases hq : x > 0
  ·rw [decide_eq_true hq, cond_true, show ((10 : Int) != 0) = true from rfl, cond_true, strRoom_of (by rw [size_bytes, List.length_singleton]; omega), cond_true, cond_true]
   have hd : x.tdiv 10 = x / 10 := Int.tdiv_eq_ediv_of_nonneg h0
   have h2 : x / 10 < 10 ^ k := by
    rw [Int.pow_succ] at h1
    omega
   rw [hd, wrap_ok (n := x / 10) (by omega) (by omega)]
   obtain ⟨r, e1, e2⟩ := num_loop k m (x / 10) (bytesOf [(IntKind.u8.wrap (IntKind.i64.wrap ((48 : Int) + (x.tmod (10 : Int)))))] ++ s) (by omega) (by omega) h2 (by omega) (by rw [size_app, size_bytes, List.length_singleton]; omega)
   exact ⟨r, e1, by rw [size_app, size_bytes, List.length_singleton] at e2; omega⟩
  ·rw [decide_eq_false hq, cond_false]
   exact ⟨s, rfl, by omega⟩
theorem num_ok {x : Int} (h0 : 0 ≤ x) (h1 : x ≤ 199) : ∃ r, spec_l4Num N0 x = some r ∧ r.size ≤ 3 := by
 unfold spec_l4Num
 by_cases hq : x ≤ 0
 ·rw [decide_eq_true hq, cond_true]
  exact ⟨_, rfl, by decide⟩
 ·rw [decide_eq_false hq, cond_false]
  have := n0
  obtain ⟨r, e1, e2⟩ := num_loop 3 N0 x (⟨#[]⟩ : ByteArray) h0 (by omega) (by have : (10 : Int) ^ 3 = 1000 := rfl; omega) (by omega) (by decide)
  rw [e1, Option.bind_some]
  exact ⟨r, rfl, e2⟩
end AM
end Go.Proofs.YtelkmjkclmjggaaGreatDoor
namespace Go.Proofs.YtelkmjkclmjggaaGreatDoor
namespace AM
open Go
set_option linter.unusedVariables false
set_option linter.unusedSimpArgs false
theorem pick_ok (n : Nat) {b : List Int} {i : Int} (h : Int) (l : List ByteArray) (k : Nat) (hl : l ≠ []) (hk : ∀ s ∈ l, s.size ≤ k) (hc : Cu b i) : ∃ i' h' v, spec_l1Pick n (b, i, h, l) = some (b, i', h', v) ∧ Cu b i' ∧ v.size ≤ k := by
 unfold spec_l1Pick
 dsimp only
 obtain ⟨i1, h1, v1, e1, c1, hb⟩ := below_ok n h (l.length : Int) hc
 have hpos : 0 < l.length := List.length_pos_iff.2 hl
 rw [e1, Option.bind_some]
 dsimp only
 have hv : 0 ≤ v1 ∧ v1 < (l.length : Int) := by
  rcases hb with ⟨q, _⟩ | q
  ·omega
  ·exact q
 have e : v1 = ((v1.toNat : Nat) : Int) := by omega
 have hin : inb v1 l.length = true := by rw [e]; exact inb_nat (by omega)
 rw [hin, cond_true]
 refine ⟨_, _, _, rfl, c1, hk _ ?_⟩
 rw [List.getD_eq_getElem?_getD, List.getElem?_eq_getElem (by omega), Option.getD_some]
 exact List.getElem_mem _
theorem signs_ok (k : Int) : ∃ o e, spec_l10Signs N0 k = some (o, e) ∧ o.size ≤ 2 ∧ e.size ≤ 1 := by
 unfold spec_l10Signs
 cases (k == 2) <;> cases (k == 3) <;> cases (k == 4) <;> cases (k == 5) <;> cases (k == 6) <;> cases (k == 7) <;> exact ⟨_, _, rfl, by decide, by decide⟩
theorem letters_ok {b : List Int} {xs : List Node3} {env : List Int} {t kd a c : Int} (rec_ : List Int × Int × Int × List Node3 × Int × List Int → Option (List Int × Int × Int × ByteArray)) : ∀ (m : Nat) (i h : Int) (j : Nat), Cu b i → j ≤ 5 → 5 < m + j →
  (∃ i' h' s, spec_l11DrawOf_L5 N0 rec_ m (b, i, h, t, env, xs, kd, a, c, (j : Int)) = some (Sum.inl (b, i', h', s)) ∧ Cu b i' ∧ s.size ≤ 2) ∨ (∃ i' h', spec_l11DrawOf_L5 N0 rec_ m (b, i, h, t, env, xs, kd, a, c, (j : Int)) = some (Sum.inr (b, i', h', env, xs, kd, a, c)) ∧ Cu b i')
 | 0, i, h, j, hc, hj, hm => by omega
 | m + 1, i, h, j, hc, hj, hm => by
  unfold spec_l11DrawOf_L5
  dsimp only
  by_cases hq : j < 5
  ·rw [decide_eq_true (show (j : Int) < 5 by omega), cond_true]
   by_cases he : (env.length : Int) = 26
   ·have hin : inb (j : Int) env.length = true := inb_nat (by omega)
    rw [show ((env.length : Int) == 26) = true from by rw [beq_iff_eq]; exact he, cond_true, hin, cond_true]
    have w : IntKind.i64.wrap ((j : Int) + 1) = ((j + 1 : Nat) : Int) := by rw [wrap_ok (by omega) (by omega)]; omega
    rw [w]
    cases (env.getD ((j : Int)).toNat 0 == t) with
    | true =>
     rw [cond_true]
     obtain ⟨i1, h1, v1, e1, c1⟩ := once_ok N0 h 2 hc
     rw [e1, Option.bind_some]
     dsimp only
     cases v1 with
     | true =>
      rw [cond_true, strRoom_of (by rw [size_bytes, List.length_singleton]; decide), cond_true]
      exact .inl ⟨_, _, _, rfl, c1, by rw [size_app, size_bytes, List.length_singleton]; decide⟩
     | false =>
      rw [cond_false]
      exact letters_ok rec_ m i1 h1 (j + 1) c1 (by omega) (by omega)
    | false =>
     rw [cond_false]
     exact letters_ok rec_ m i h (j + 1) hc (by omega) (by omega)
   ·rw [show ((env.length : Int) == 26) = false from by rw [beq_eq_false_iff_ne]; exact he, cond_false]
    exact .inr ⟨_, _, rfl, hc⟩
  ·rw [decide_eq_false (show ¬ (j : Int) < 5 by omega), cond_false]
   exact .inr ⟨_, _, rfl, hc⟩
theorem drawOf_ok {xs : List Node3} {ss : List Int} (hp : poolB xs = true) (hs : SzOk xs ss) (hl : ss.length = xs.length) (t : Nat) : ∀ (k : Nat) (b : List Int) (i h : Int) (env : List Int), t < xs.length → t < k → ss.getD t 0 < 40 → Cu b i → ∃ i' h' s, spec_l11DrawOf N0 k (b, i, h, xs, (t : Int), env) = some (b, i', h', s) ∧ Cu b i' ∧ (s.size : Int) ≤ 8 * ss.getD t 0 := by
 induction t using Nat.strongRecOn with
 | ind t ih =>
  intro k b i h env ht hk h40 hc
  obtain ⟨k, rfl⟩ : ∃ j, k = j + 1 := ⟨k - 1, by omega⟩
  show ∃ i' h' s, spec_l11DrawOf_body N0 (spec_l11DrawOf N0 k) (b, i, h, xs, (t : Int), env) = _ ∧ _ ∧ _
  have hxl := poolB_len hp
  have hN := n0
  obtain ⟨s1, _⟩ := hs.lo (t : Int) (by omega) (by omega)
  rw [Int.toNat_natCast] at s1
  unfold spec_l11DrawOf_body
  dsimp only
  rw [inb_nat ht, cond_true, Int.toNat_natCast]
  obtain ⟨i1, h1, v1, e1, c1⟩ := once_ok N0 h 4 hc
  rw [e1, Option.bind_some]
  dsimp only
  cases v1 with
  | true =>
   rw [cond_true]
   obtain ⟨i2, h2, v2, e2, c2, q2⟩ := pick_ok N0 h1 [(⟨#[97]⟩ : ByteArray), (⟨#[98]⟩ : ByteArray), (⟨#[99]⟩ : ByteArray), (⟨#[100]⟩ : ByteArray), (⟨#[101]⟩ : ByteArray), (⟨#[102]⟩ : ByteArray)] 1 (by simp) (by decide) c1
   have z : (⟨#[63]⟩ : ByteArray).size = 1 := rfl
   rw [e2, Option.bind_some]
   dsimp only
   rw [strRoom_of (by omega), cond_true]
   exact ⟨_, _, _, rfl, c2, by rw [size_app]; omega⟩
  | false =>
   rw [cond_false]
   have hkind := nodeV_kind (by omega) (poolB_nd hp ht)
   have heq := hs.eq t (by omega)
   have hpi := parts_in hp ht
   generalize xs.getD t zN3 = X at hkind heq hpi ⊢
   obtain ⟨kd, a, c⟩ := X
   dsimp only at hkind ⊢
   rcases letters_ok (b := b) (xs := xs) (env := env) (t := (t : Int)) (kd := kd) (a := a) (c := c) (spec_l11DrawOf N0 k) N0 i1 h1 0 c1 (by omega) (by omega) with ⟨i2, h2, s, e2, c2, q2⟩ | ⟨i2, h2, e2, c2⟩
   ·rw [show ((0 : Nat) : Int) = (0 : Int) from rfl] at e2
    rw [e2, Option.bind_some]
    exact ⟨_, _, _, rfl, c2, (show (s.size : Int) ≤ _ by omega)⟩
   ·rw [show ((0 : Nat) : Int) = (0 : Int) from rfl] at e2
    rw [e2, Option.bind_some]
    dsimp only
    rcases hkind with ⟨rfl, a0, a1⟩ | ⟨hk5, a0, a1⟩ | ⟨hk2, a0, a1, d0, d1⟩
    ·obtain ⟨r, r1, r2⟩ := num_ok a0 a1
     have z : (⟨#[110]⟩ : ByteArray).size = 1 := rfl
     rw [show ((1 : Int) == 1) = true from rfl, cond_true, r1, Option.bind_some, strRoom_of (by omega), cond_true]
     exact ⟨_, _, _, rfl, c2, by rw [size_app]; omega⟩
    ·obtain ⟨o, e, g1, g2, g3⟩ := signs_ok kd
     have hne : (kd == 1) = false := by rw [beq_eq_false_iff_ne]; omega
     have hpt : spec_l1Parts N0 kd = some 1 := by rcases hk5 with rfl | rfl <;> rfl
     have hsz : ss.getD t 0 = min (1 + ss.getD a.toNat 0) 1001 := by rw [heq]; rcases hk5 with rfl | rfl <;> rfl
     rw [hne, cond_false, g1, Option.bind_some]
     dsimp only
     have ea : a = ((a.toNat : Nat) : Int) := by omega
     obtain ⟨i3, h3, s3, e3, c3, q3⟩ := ih a.toNat (by omega) k b i2 h2 env (by omega) (by omega) (by omega) c2
     rw [← ea] at e3
     rw [e3, Option.bind_some]
     dsimp only
     rw [strRoom_of (by omega), cond_true, hpt, Option.bind_some, show ((1 : Int) == 1) = true from rfl, cond_true]
     exact ⟨_, _, _, rfl, c3, by rw [size_app]; omega⟩
    ·obtain ⟨o, e, g1, g2, g3⟩ := signs_ok kd
     have hne : (kd == 1) = false := by rw [beq_eq_false_iff_ne]; omega
     have hpt : spec_l1Parts N0 kd = some 2 := by rcases hk2 with rfl | rfl | rfl | rfl | rfl <;> rfl
     have hsz : ss.getD t 0 = min (min (1 + ss.getD a.toNat 0) 1001 + ss.getD c.toNat 0) 1001 := by rw [heq]; rcases hk2 with rfl | rfl | rfl | rfl | rfl <;> rfl
     have sa := (hs.lo a a0 (by omega)).1
     have sc := (hs.lo c d0 (by omega)).1
     rw [hne, cond_false, g1, Option.bind_some]
     dsimp only
     have ea : a = ((a.toNat : Nat) : Int) := by omega
     have ec : c = ((c.toNat : Nat) : Int) := by omega
     obtain ⟨i3, h3, s3, e3, c3, q3⟩ := ih a.toNat (by omega) k b i2 h2 env (by omega) (by omega) (by omega) c2
     rw [← ea] at e3
     rw [e3, Option.bind_some]
     dsimp only
     have z : (⟨#[44]⟩ : ByteArray).size = 1 := rfl
     rw [strRoom_of (by omega), cond_true, hpt, Option.bind_some, show ((2 : Int) == 1) = false from rfl, cond_false, strRoom_of (by rw [size_app]; omega), cond_true]
     obtain ⟨i4, h4, s4, e4, c4, q4⟩ := ih c.toNat (by omega) k b i3 h3 env (by omega) (by omega) (by omega) c3
     rw [← ec] at e4
     rw [e4, Option.bind_some]
     dsimp only
     rw [strRoom_of (by rw [size_app, size_app]; omega), cond_true, strRoom_of (by rw [size_app, size_app, size_app]; omega), cond_true]
     exact ⟨_, _, _, rfl, c4, by rw [size_app, size_app, size_app, size_app]; omega⟩
theorem rng_in {l : Int} {n : Nat} (h0 : 0 ≤ l) (h1 : l ≤ (n : Int)) : rng 0 l n = true ∧ rng l (n : Int) n = true := ⟨decide_eq_true (by omega), decide_eq_true (by omega)⟩
theorem dent_ok {b : List Int} {i : Int} (h : Int) {s : ByteArray} (l : List ByteArray) (hl : l ≠ []) (hk : ∀ s ∈ l, s.size ≤ 2) (hs : s.size ≤ 1000) (hc : Cu b i) : ∃ i' h' r, spec_l4Dent N0 (b, i, h, s, l) = some (b, i', h', r) ∧ Cu b i' ∧ r.size ≤ 2002 := by
 unfold spec_l4Dent
 dsimp only
 rw [wrap_ok (n := (s.size : Int) + 1) (by omega) (by omega)]
 obtain ⟨i1, h1, v1, e1, c1, b1⟩ := below_ok N0 h ((s.size : Int) + 1) hc
 have hv : 0 ≤ v1 ∧ v1 ≤ (s.size : Int) := by
  rcases b1 with ⟨q, _⟩ | q
  ·omega
  ·omega
 rw [e1, Option.bind_some]
 dsimp only
 obtain ⟨i2, h2, v2, e2, c2, _⟩ := below_ok N0 h1 3 c1
 rw [e2, Option.bind_some]
 dsimp only
 obtain ⟨r1, r2⟩ := rng_in hv.1 hv.2
 have z1 := sub_size s 0 v1
 cases (v2 == 0) with
 | true =>
  rw [cond_true, r1, cond_true]
  exact ⟨_, _, _, rfl, c2, (show (sub s 0 v1).size ≤ 2002 by omega)⟩
 | false =>
  rw [cond_false]
  obtain ⟨i3, h3, v3, e3, c3, q3⟩ := pick_ok N0 h2 l 2 hl hk c2
  cases (v2 == 1) with
  | true =>
   rw [cond_true]
   unfold spec_l4Dent_R6
   dsimp only
   rw [r1, cond_true, e3, Option.bind_some]
   dsimp only
   rw [strRoom_of (by omega), cond_true, wrap_ok (n := v1 + 1) (by omega) (by omega)]
   obtain ⟨u, hu, u0, u1⟩ : ∃ u, spec_l1Min N0 (v1 + 1, (s.size : Int)) = some u ∧ 0 ≤ u ∧ u ≤ (s.size : Int) := by
    unfold spec_l1Min
    dsimp only
    by_cases q : v1 + 1 < (s.size : Int)
    ·rw [decide_eq_true q, cond_true]; exact ⟨_, rfl, by omega, by omega⟩
    ·rw [decide_eq_false q, cond_false]; exact ⟨_, rfl, by omega, by omega⟩
   have z2 := sub_size s u (s.size : Int)
   rw [hu, Option.bind_some, (rng_in u0 u1).2, cond_true, strRoom_of (by rw [size_app]; omega), cond_true, Option.bind_some]
   exact ⟨_, _, _, rfl, c3, by rw [size_app, size_app]; omega⟩
  | false =>
   rw [cond_false]
   unfold spec_l4Dent_R7
   dsimp only
   have z2 := sub_size s v1 (s.size : Int)
   rw [r1, cond_true, e3, Option.bind_some]
   dsimp only
   rw [strRoom_of (by omega), cond_true, r2, cond_true, strRoom_of (by rw [size_app]; omega), cond_true, Option.bind_some]
   exact ⟨_, _, _, rfl, c3, by rw [size_app, size_app]; omega⟩
theorem long_loop {b : List Int} : ∀ (m : Nat) (i h : Int) (s : ByteArray), Cu b i → s.size ≤ 199 → 199 < m + s.size → ∃ i' h' r, spec_l11DrawText_L8 N0 m (b, i, h, s) = some (b, i', h', r) ∧ Cu b i' ∧ r.size ≤ 199
 | 0, i, h, s, hc, hs, hm => by omega
 | m + 1, i, h, s, hc, hs, hm => by
  unfold spec_l11DrawText_L8
  dsimp only
  obtain ⟨i1, h1, v1, e1, c1, b1⟩ := below_ok N0 h 2 hc
  rw [e1, Option.bind_some]
  dsimp only
  have hv : 0 ≤ v1 ∧ v1 < 2 := by
   rcases b1 with ⟨q, _⟩ | q
   ·omega
   ·exact q
  have z : (⟨#[35]⟩ : ByteArray).size = 1 := rfl
  rw [wrap_ok (n := 198 + v1) (by omega) (by omega)]
  by_cases hq : (s.size : Int) < 198 + v1
  ·rw [decide_eq_true hq, cond_true, strRoom_of (by omega), cond_true]
   exact long_loop m i1 h1 (s ++ (⟨#[35]⟩ : ByteArray)) c1 (by rw [size_app]; omega) (by rw [size_app]; omega)
  ·rw [decide_eq_false hq, cond_false]
   exact ⟨_, _, _, rfl, c1, hs⟩
theorem textTail {b : List Int} {i : Int} (h : Int) (s : ByteArray) (hs : s.size ≤ 2002) (hc : Cu b i) : ∃ i' h' r, (((spec_l1Once N0 (b, i, h, (60 : Int))).bind fun r9 => (cond r9.2.2.2 ((spec_l11DrawText_L8 N0 N0 (r9.1, r9.2.1, r9.2.2.1, (⟨#[]⟩ : ByteArray))).bind fun e11 => (cond (strRoom e11.2.2.2 (⟨#[36, 97]⟩ : ByteArray)) (some (e11.1, e11.2.1, e11.2.2.1, (e11.2.2.2 ++ (⟨#[36, 97]⟩ : ByteArray)))) none)) (some (r9.1, r9.2.1, r9.2.2.1, s))))) = some (b, i', h', r) ∧ Cu b i' ∧ r.size ≤ 2002 := by
 obtain ⟨i1, h1, v1, e1, c1⟩ := once_ok N0 h 60 hc
 rw [e1, Option.bind_some]
 dsimp only
 cases v1 with
 | true =>
  have := n0
  obtain ⟨i2, h2, r, e2, c2, q2⟩ := long_loop N0 i1 h1 (⟨#[]⟩ : ByteArray) c1 (by decide) (by have : (⟨#[]⟩ : ByteArray).size = 0 := rfl; omega)
  have z : (⟨#[36, 97]⟩ : ByteArray).size = 2 := rfl
  rw [cond_true, e2, Option.bind_some]
  dsimp only
  rw [strRoom_of (by omega), cond_true]
  exact ⟨_, _, _, rfl, c2, by rw [size_app]; omega⟩
 | false => exact ⟨_, _, _, rfl, c1, hs⟩
theorem drawText_ok {b : List Int} {i : Int} (h : Int) {xs : List Node3} (hx : xs.length ≤ 4294967296) (t : Int) (env : List Int) (hc : Cu b i) : ∃ i' h' r, spec_l11DrawText N0 (b, i, h, xs, t, env) = some (b, i', h', r) ∧ Cu b i' ∧ r.size ≤ 2002 := by
 have hN := n0
 unfold spec_l11DrawText
 dsimp only
 obtain ⟨i1, h1, s1, e1, c1, q1⟩ := pick_ok N0 h [(⟨#[110, 53]⟩ : ByteArray), (⟨#[36, 97]⟩ : ByteArray), (⟨#[63, 97]⟩ : ByteArray), (⟨#[40, 63, 97, 44, 63, 97, 41]⟩ : ByteArray), (⟨#[40, 63, 97, 44, 36, 97, 41]⟩ : ByteArray), (⟨#[123, 63, 97, 44, 36, 98, 125]⟩ : ByteArray), (⟨#[120, 40, 36, 97, 44, 36, 98, 41]⟩ : ByteArray), (⟨#[35, 36, 97]⟩ : ByteArray), (⟨#[94, 36, 97]⟩ : ByteArray), (⟨#[107, 40, 63, 97, 44, 110, 53, 41]⟩ : ByteArray), (⟨#[91, 63, 97, 44, 110, 53, 48, 93]⟩ : ByteArray), (⟨#[40, 63, 97]⟩ : ByteArray), (⟨#[36]⟩ : ByteArray), (⟨#[63, 65]⟩ : ByteArray), (⟨#[110, 50, 48, 48]⟩ : ByteArray), (⟨#[]⟩ : ByteArray)] 10 (by simp) (by decide) hc
 rw [e1, Option.bind_some]
 dsimp only
 have pS := specPool_eq N0 n0 hx
 rw [pS, Option.bind_some]
 cases hP : (decide (xs.length ≤ 500) && okFrom N0 [] xs) with
 | false =>
  rw [cond_false]
  obtain ⟨j1, g1, w1, f1, d1⟩ := once_ok N0 h1 9 c1
  rw [f1, Option.bind_some]
  dsimp only
  cases w1 with
  | true =>
   obtain ⟨j2, g2, w2, f2, d2, z2⟩ := dent_ok (s := s1) g1 [(⟨#[63]⟩ : ByteArray), (⟨#[36]⟩ : ByteArray), (⟨#[97]⟩ : ByteArray), (⟨#[40]⟩ : ByteArray), (⟨#[41]⟩ : ByteArray), (⟨#[44]⟩ : ByteArray), (⟨#[110]⟩ : ByteArray), (⟨#[120, 40]⟩ : ByteArray), (⟨#[48]⟩ : ByteArray)] (by simp) (by decide) (by omega) d1
   rw [cond_true, f2, Option.bind_some]
   dsimp only
   exact textTail g2 w2 z2 d2
  | false =>
   rw [cond_false]
   exact textTail g1 _ (by omega) d1
 | true =>
  have hp : poolB xs = true := hP
  rw [cond_true, has_eq N0 hx t, Option.bind_some]
  cases ht : hasB xs t with
  | false =>
   rw [cond_false]
   obtain ⟨j1, g1, w1, f1, d1⟩ := once_ok N0 h1 9 c1
   rw [f1, Option.bind_some]
   dsimp only
   cases w1 with
   | true =>
    obtain ⟨j2, g2, w2, f2, d2, z2⟩ := dent_ok (s := s1) g1 [(⟨#[63]⟩ : ByteArray), (⟨#[36]⟩ : ByteArray), (⟨#[97]⟩ : ByteArray), (⟨#[40]⟩ : ByteArray), (⟨#[41]⟩ : ByteArray), (⟨#[44]⟩ : ByteArray), (⟨#[110]⟩ : ByteArray), (⟨#[120, 40]⟩ : ByteArray), (⟨#[48]⟩ : ByteArray)] (by simp) (by decide) (by omega) d1
    rw [cond_true, f2, Option.bind_some]
    dsimp only
    exact textTail g2 w2 z2 d2
   | false =>
    rw [cond_false]
    exact textTail g1 _ (by omega) d1
  | true =>
   rw [cond_true]
   obtain ⟨i2, h2, v2, e2, c2⟩ := once_ok N0 h1 4 c1
   rw [e2, Option.bind_some]
   dsimp only
   cases v2 with
   | true =>
    rw [Bool.not_true, cond_false]
    obtain ⟨j1, g1, w1, f1, d1⟩ := once_ok N0 h2 9 c2
    rw [f1, Option.bind_some]
    dsimp only
    cases w1 with
    | true =>
     obtain ⟨j2, g2, w2, f2, d2, z2⟩ := dent_ok (s := s1) g1 [(⟨#[63]⟩ : ByteArray), (⟨#[36]⟩ : ByteArray), (⟨#[97]⟩ : ByteArray), (⟨#[40]⟩ : ByteArray), (⟨#[41]⟩ : ByteArray), (⟨#[44]⟩ : ByteArray), (⟨#[110]⟩ : ByteArray), (⟨#[120, 40]⟩ : ByteArray), (⟨#[48]⟩ : ByteArray)] (by simp) (by decide) (by omega) d1
     rw [cond_true, f2, Option.bind_some]
     dsimp only
     exact textTail g2 w2 z2 d2
    | false =>
     rw [cond_false]
     exact textTail g1 _ (by omega) d1
   | false =>
    rw [Bool.not_false, cond_true]
    obtain ⟨ss, g1, g2, g3⟩ := sizes_ok hp
    rw [hasB_iff] at ht
    have et : t = ((t.toNat : Nat) : Int) := by omega
    have hin : inb t ss.length = true := by rw [et]; exact inb_nat (by omega)
    rw [g1, Option.bind_some, hin, cond_true]
    have hl := poolB_len hp
    by_cases h40 : ss.getD t.toNat 0 < 40
    ·rw [decide_eq_true h40, cond_true]
     obtain ⟨i3, h3, s3, e3, c3, q3⟩ := drawOf_ok hp g2 g3 t.toNat N0 b i2 h2 env (by omega) (by omega) h40 c2
     rw [← et] at e3
     rw [e3, Option.bind_some]
     dsimp only
     obtain ⟨j1, g1, w1, f1, d1⟩ := once_ok N0 h3 9 c3
     rw [f1, Option.bind_some]
     dsimp only
     cases w1 with
     | true =>
      obtain ⟨j2, g2, w2, f2, d2, z2⟩ := dent_ok (s := s3) g1 [(⟨#[63]⟩ : ByteArray), (⟨#[36]⟩ : ByteArray), (⟨#[97]⟩ : ByteArray), (⟨#[40]⟩ : ByteArray), (⟨#[41]⟩ : ByteArray), (⟨#[44]⟩ : ByteArray), (⟨#[110]⟩ : ByteArray), (⟨#[120, 40]⟩ : ByteArray), (⟨#[48]⟩ : ByteArray)] (by simp) (by decide) (by omega) d1
      rw [cond_true, f2, Option.bind_some]
      dsimp only
      exact textTail g2 w2 z2 d2
     | false =>
      rw [cond_false]
      exact textTail g1 _ (by omega) d1
    ·rw [decide_eq_false h40, cond_false]
     obtain ⟨j1, g1, w1, f1, d1⟩ := once_ok N0 h2 9 c2
     rw [f1, Option.bind_some]
     dsimp only
     cases w1 with
     | true =>
      obtain ⟨j2, g2, w2, f2, d2, z2⟩ := dent_ok (s := s1) g1 [(⟨#[63]⟩ : ByteArray), (⟨#[36]⟩ : ByteArray), (⟨#[97]⟩ : ByteArray), (⟨#[40]⟩ : ByteArray), (⟨#[41]⟩ : ByteArray), (⟨#[44]⟩ : ByteArray), (⟨#[110]⟩ : ByteArray), (⟨#[120, 40]⟩ : ByteArray), (⟨#[48]⟩ : ByteArray)] (by simp) (by decide) (by omega) d1
      rw [cond_true, f2, Option.bind_some]
      dsimp only
      exact textTail g2 w2 z2 d2
     | false =>
      rw [cond_false]
      exact textTail g1 _ (by omega) d1
theorem l11Draw_ok {b : List Int} (hb : b.length ≤ 4294967296) : ∃ xs env T t, spec_l11Draw N0 b = some (xs, env, T, t) ∧ xs.length ≤ 501 ∧ env.length ≤ 26 ∧ T.size ≤ 2002 := by
 unfold spec_l11Draw
 obtain ⟨h0, e0, c0⟩ := new_ok hb
 rw [e0, Option.bind_some]
 dsimp only
 obtain ⟨i1, h1, xs, e1, c1, q1⟩ := drawAny_ok h0 c0
 rw [e1, Option.bind_some]
 dsimp only
 obtain ⟨i2, h2, t, e2, c2, _⟩ := drawTerm_ok h1 (xs := xs) (by omega) c1
 rw [e2, Option.bind_some]
 dsimp only
 obtain ⟨i3, h3, env, e3, c3, q3⟩ := drawEnv_ok h2 (xs := xs) (by omega) c2
 rw [e3, Option.bind_some]
 dsimp only
 unfold spec_l11Draw_R5
 dsimp only
 obtain ⟨i4, h4, T, e4, c4, q4⟩ := drawText_ok h3 (xs := xs) (by omega) t env c3
 rw [e4, Option.bind_some, Option.bind_some]
 exact ⟨_, _, _, _, rfl, q1, q3, q4⟩
end AM
end Go.Proofs.YtelkmjkclmjggaaGreatDoor
namespace Go.Proofs.YtelkmjkclmjggaaGreatDoor
namespace AM
open Go
set_option linter.unusedVariables false
set_option linter.unusedSimpArgs false
theorem sameInts_loop {a : List Int} : ∀ (r pre : List Int) (m : Nat), a = pre ++ r → a.length ≤ 4294967296 → r.length < m → laws_sameInts_L4 N0 m (a, a, (pre.length : Int)) = some (Sum.inr ())
 | _, _, 0, _, _, h => by omega
 | [], pre, m + 1, h, hl, hm => by
  subst h
  unfold laws_sameInts_L4
  dsimp only
  rw [lt_end, cond_false]
 | v :: r, pre, m + 1, h, hl, hm => by
  have hl2 : pre.length + (r.length + 1) ≤ 4294967296 := by rw [h] at hl; simpa using hl
  unfold laws_sameInts_L4
  dsimp only
  have e1 := lt_pre pre r v
  have e2 := in_pre pre r v
  rw [← h] at e1 e2
  rw [e1, cond_true, e2, cond_true, cond_true, bne_self_eq_false, cond_false, wrap_ok (n := (pre.length : Int) + 1) (by omega) (by omega), ← len_one pre v]
  exact sameInts_loop r (pre ++ [v]) m (by rw [h, app_one]) hl (by simp at hm; omega)
theorem sameInts_self {a : List Int} (ha : a.length ≤ 4294967296) : laws_sameInts N0 (a, a) = some true := by
 unfold laws_sameInts
 have := n0
 have e := sameInts_loop a [] N0 rfl ha (by omega)
 have e : laws_sameInts_L4 N0 N0 (a, a, (0 : Int)) = some (Sum.inr ()) := e
 dsimp only
 rw [bne_self_eq_false, cond_false, e]
 rfl
theorem envOk_right {xs : List Node3} (hp : poolB xs = true) {env : List Int} (he : env.length = 26) (hv : envB xs env = true) : impl_EnvOk N0 (xs, env) = some true := by
 have hx := poolB_len hp
 have hP : (decide (xs.length ≤ 500) && okFrom N0 [] xs) = true := hp
 rw [implEnv_eq N0 n0 (by omega) (by omega), hv, decide_eq_true he, hP]; rfl
end AM
end Go.Proofs.YtelkmjkclmjggaaGreatDoor
namespace Go.Proofs.YtelkmjkclmjggaaGreatDoor
namespace AM
open Go
set_option linter.unusedVariables false
set_option linter.unusedSimpArgs false
def pl (c : Int) : Int := if c = 63 then 36 else c
def gP (x : Piece) : Piece := (pl x.1, x.2)
structure Tw (T T' : ByteArray) : Prop where
 sz : T.size ≤ 200
 size : T'.size = T.size
 at_ : ∀ i : Int, bt T' i = pl (bt T i)
 fig : ∀ a : Nat, ((bs T').drop a).takeWhile isD = ((bs T).drop a).takeWhile isD
section
variable {T T' : ByteArray} (h : Tw T T')
include h
theorem peek_tw (a e : Int) (M : ByteArray) : ∃ o : Option Int, impl_reader_peek N0 (T, a, e, M) = o.map (fun c => (T, a, e, M, c)) ∧ impl_reader_peek N0 (T', a, e, M) = o.map (fun c => (T', a, e, M, pl c)) := by
 unfold impl_reader_peek
 dsimp only
 rw [h.size]
 cases decide (a ≥ (T.size : Int)) with
 | true => exact ⟨some 0, rfl, rfl⟩
 | false =>
  cases inb a T.size with
  | true => exact ⟨some (bt T a), rfl, by rw [cond_false, cond_true, h.at_]; rfl⟩
  | false => exact ⟨none, rfl, rfl⟩
theorem take_tw (a e : Int) (M : ByteArray) {c : Int} (hc : c ≠ 63) (hc2 : c ≠ 36) : ∃ o : Option (Int × Int), impl_reader_take N0 (T, a, e, M, c) = o.map (fun q => (T, q.1, q.2, M)) ∧ impl_reader_take N0 (T', a, e, M, c) = o.map (fun q => (T', q.1, q.2, M)) := by
 unfold impl_reader_take impl_reader_fail
 dsimp only
 rw [h.size]
 cases he : (e != 0) with
 | true => exact ⟨some (a, e), rfl, rfl⟩
 | false =>
  have e0 : e = 0 := by simpa using he
  subst e0
  rw [cond_false, cond_false]
  cases decide (a ≥ (T.size : Int)) with
  | true => exact ⟨some ((T.size : Int), 2), rfl, rfl⟩
  | false =>
   rw [cond_false, cond_false]
   cases inb a T.size with
   | false => exact ⟨none, rfl, rfl⟩
   | true =>
    have hq : (bt T' a != c) = (bt T a != c) := by
     rw [h.at_]
     unfold pl
     by_cases q : bt T a = 63
     ·rw [if_pos q, q, show ((36 : Int) != c) = true from by rw [bne_iff_ne]; exact Ne.symm hc2, show ((63 : Int) != c) = true from by rw [bne_iff_ne]; exact Ne.symm hc]
     ·rw [if_neg q]
    rw [cond_true, cond_true, hq]
    cases (bt T a != c) with
    | true => exact ⟨some (a, 3), rfl, rfl⟩
    | false => exact ⟨some (IntKind.i64.wrap (a + 1), 0), rfl, rfl⟩
theorem figs_tw (a e : Int) (M : ByteArray) : ∃ o : Option (Int × Int), impl_reader_figures N0 (T, a, e, M, (9 : Int)) = o.map (fun q => (T, q.1, e, M, q.2)) ∧ impl_reader_figures N0 (T', a, e, M, (9 : Int)) = o.map (fun q => (T', q.1, e, M, q.2)) := by
 by_cases h0 : 0 ≤ a
 ·by_cases h1 : a ≤ (T.size : Int)
  ·obtain ⟨n, rfl⟩ := Int.eq_ofNat_of_zero_le h0
   have f1 := figs_eq h.sz (a := n) (by omega) e M
   have f2 := figs_eq (T := T') (by rw [h.size]; exact h.sz) (a := n) (by rw [h.size]; omega) e M
   rw [h.fig n] at f2
   exact ⟨some (_, _), f1, f2⟩
  ·have none1 : ∀ S : ByteArray, S.size = T.size → impl_reader_figures N0 (S, a, e, M, (9 : Int)) = none := fun S hS => by
    obtain ⟨m, hm⟩ : ∃ m, N0 = m + 1 := ⟨N0 - 1, by have := n0; omega⟩
    have hl : impl_reader_figures_L2 N0 N0 (S, a, e, M, (9 : Int), a) = some (S, a, e, M, (9 : Int), a) := by
     have : ∀ k, N0 = k + 1 → impl_reader_figures_L2 N0 N0 (S, a, e, M, (9 : Int), a) = impl_reader_figures_L2 N0 (k + 1) (S, a, e, M, (9 : Int), a) := fun k hk => by rw [← hk]
     rw [this m hm]
     unfold impl_reader_figures_L2 impl_reader_peek
     dsimp only
     rw [hS, decide_eq_true (show a ≥ (T.size : Int) by omega), cond_true, Option.bind_some]
     rfl
    unfold impl_reader_figures
    dsimp only
    rw [hl, Option.bind_some]
    dsimp only
    have hr : rng a a S.size = false := decide_eq_false (by rw [hS]; omega)
    rw [hr]; rfl
   exact ⟨none, none1 T rfl, none1 T' h.size⟩
 ·have none1 : ∀ S : ByteArray, S.size = T.size → impl_reader_figures N0 (S, a, e, M, (9 : Int)) = none := fun S hS => by
   obtain ⟨m, hm⟩ : ∃ m, N0 = m + 1 := ⟨N0 - 1, by have := n0; omega⟩
   have hl : impl_reader_figures_L2 N0 N0 (S, a, e, M, (9 : Int), a) = none := by
    have : ∀ k, N0 = k + 1 → impl_reader_figures_L2 N0 N0 (S, a, e, M, (9 : Int), a) = impl_reader_figures_L2 N0 (k + 1) (S, a, e, M, (9 : Int), a) := fun k hk => by rw [← hk]
    rw [this m hm]
    unfold impl_reader_figures_L2 impl_reader_peek
    dsimp only
    have hin : inb a S.size = false := by
     unfold inb
     simp
     omega
    rw [hS, decide_eq_false (show ¬ a ≥ (T.size : Int) by omega), cond_false, ← hS, hin]
    rfl
   unfold impl_reader_figures
   dsimp only
   rw [hl]; rfl
  exact ⟨none, none1 T rfl, none1 T' h.size⟩
theorem number_tw (a e : Int) (M : ByteArray) (fr : Int) : ∃ o : Option (Int × Int × Int), impl_reader_number N0 (T, a, e, M, fr) = o.map (fun q => (T, q.1, q.2.1, M, q.2.2)) ∧ impl_reader_number N0 (T', a, e, M, fr) = o.map (fun q => (T', q.1, q.2.1, M, q.2.2)) := by
 obtain ⟨o, f1, f2⟩ := figs_tw h a e M
 unfold impl_reader_number impl_reader_fail
 dsimp only
 rw [f1, f2]
 cases o with
 | none => exact ⟨none, rfl, rfl⟩
 | some q =>
  obtain ⟨p, v⟩ := q
  simp only [Option.map_some, Option.bind_some]
  rw [inRange_eq, Option.bind_some, Option.bind_some]
  cases (decide (v ≥ 0) && decide (v ≤ 199)) with
  | true => exact ⟨some (p, e, v), rfl, rfl⟩
  | false =>
   rw [Bool.not_false, cond_true, cond_true]
   cases (e == 0) with
   | true => exact ⟨some (fr, 4, -1), rfl, rfl⟩
   | false => exact ⟨some (p, e, -1), rfl, rfl⟩
theorem letter_tw (a e : Int) (M : ByteArray) : ∃ o : Option (Int × Int × Int), impl_reader_letter N0 (T, a, e, M) = o.map (fun q => (T, q.1, q.2.1, M, q.2.2)) ∧ impl_reader_letter N0 (T', a, e, M) = o.map (fun q => (T', q.1, q.2.1, M, q.2.2)) := by
 obtain ⟨o, f1, f2⟩ := peek_tw h (IntKind.i64.wrap (a + 1)) e M
 unfold impl_reader_letter impl_reader_fail
 dsimp only
 rw [f1, f2]
 cases o with
 | none => exact ⟨none, rfl, rfl⟩
 | some c =>
  simp only [Option.map_some, Option.bind_some]
  have d1 : decide (pl c < 97) = decide (c < 97) := by
   unfold pl
   by_cases q : c = 63
   ·rw [if_pos q, q]; rfl
   ·rw [if_neg q]
  rw [d1]
  by_cases q1 : c < 97
  ·rw [decide_eq_true q1, cond_true, cond_true]
   cases (e == 0) with
   | true => exact ⟨some (_, 3, -1), rfl, rfl⟩
   | false => exact ⟨some (_, e, -1), rfl, rfl⟩
  ·have hpl : pl c = c := if_neg (by omega)
   rw [decide_eq_false q1, cond_false, cond_false, hpl]
   cases decide (c > 122) with
   | true =>
    rw [cond_true, cond_true]
    cases (e == 0) with
    | true => exact ⟨some (_, 3, -1), rfl, rfl⟩
    | false => exact ⟨some (_, e, -1), rfl, rfl⟩
   | false => exact ⟨some (_, e, _), rfl, rfl⟩
omit h in
theorem put_tw (l : List Piece) (s c : Int) (ps : List Int) : ∃ o : Option (List Piece × Int), impl_pattern_put N0 (l, s, c, ps) = o ∧ impl_pattern_put N0 (l.map gP, pl s, c, ps) = o.map (fun q => (q.1.map gP, q.2)) := by
 unfold impl_pattern_put impl_pattern_put_R1
 dsimp only
 rw [List.length_map]
 have er : room (l.length + [(s, (c, ps))].length) = room (l.length + [(pl s, (c, ps))].length) := rfl
 rw [er]
 cases room (l.length + [(pl s, (c, ps))].length) with
 | false => exact ⟨none, rfl, rfl⟩
 | true =>
  refine ⟨_, rfl, ?_⟩
  rw [cond_true, cond_true, Option.bind_some, Option.bind_some, Option.map_some]
  have e1 : l.map gP ++ [(pl s, (c, ps))] = (l ++ [(s, (c, ps))]).map gP := by rw [List.map_append]; rfl
  rw [e1, List.length_map]
abbrev CoreR := Int × Int × List Piece × Int
def outA (S : ByteArray) (q : CoreR) : RdO := (S, q.1, q.2.1, MS, false, false, false, q.2.2.1, q.2.2.2)
def outB (S : ByteArray) (q : CoreR) : RdO := (S, q.1, q.2.1, MS, false, false, false, q.2.2.1.map gP, q.2.2.2)
theorem p1_tw (a e s : Int) (l : List Piece) : ∃ o : Option CoreR, impl_patternOf_1 N0 (T, a, e, MS, s, false, l) = o.map (fun q => (T, q.1, q.2.1, MS, false, q.2.2.1, q.2.2.2)) ∧ impl_patternOf_1 N0 (T', a, e, MS, pl s, false, l.map gP) = o.map (fun q => (T', q.1, q.2.1, MS, false, q.2.2.1.map gP, q.2.2.2)) := by
 unfold impl_patternOf_1
 dsimp only
 have d1 : (pl s == 110) = (s == 110) := by
  unfold pl
  by_cases q : s = 63
  ·rw [if_pos q, q]; rfl
  ·rw [if_neg q]
 rw [d1]
 cases (s == 110) with
 | true =>
  obtain ⟨o, f1, f2⟩ := number_tw h (IntKind.i64.wrap (a + 1)) e MS a
  rw [cond_true, cond_true, f1, f2]
  cases o with
  | none => exact ⟨none, rfl, rfl⟩
  | some q =>
   obtain ⟨p, c, v⟩ := q
   obtain ⟨o2, g1, g2⟩ := put_tw l s v []
   simp only [Option.map_some, Option.bind_some]
   rw [g1, g2]
   cases o2 with
   | none => exact ⟨none, rfl, rfl⟩
   | some r => exact ⟨some (p, c, r.1, r.2), rfl, rfl⟩
 | false =>
  obtain ⟨o, f1, f2⟩ := letter_tw h a e MS
  rw [cond_false, cond_false, f1, f2]
  cases o with
  | none => exact ⟨none, rfl, rfl⟩
  | some q =>
   obtain ⟨p, c, v⟩ := q
   obtain ⟨o2, g1, g2⟩ := put_tw l s v []
   simp only [Option.map_some, Option.bind_some]
   rw [g1, g2]
   cases o2 with
   | none => exact ⟨none, rfl, rfl⟩
   | some r => exact ⟨some (p, c, r.1, r.2), rfl, rfl⟩
omit h in
theorem p2_tw (S S' : ByteArray) (a e s : Int) (ps : List Int) (l : List Piece) (hs : s ≠ 63) : ∃ o : Option (List Piece × Int), impl_patternOf_2 N0 (S, a, e, MS, s, ps, false, l) = o.map (fun q => (S, a, e, MS, false, q.1, q.2)) ∧ impl_patternOf_2 N0 (S', a, e, MS, s, ps, false, l.map gP) = o.map (fun q => (S', a, e, MS, false, q.1.map gP, q.2)) := by
 unfold impl_patternOf_2
 dsimp only
 obtain ⟨o2, g1, g2⟩ := put_tw l s 0 ps
 rw [show pl s = s from if_neg hs] at g2
 rw [g1, g2]
 cases o2 with
 | none => exact ⟨none, rfl, rfl⟩
 | some r => exact ⟨some r, rfl, rfl⟩
def RecTw (T T' : ByteArray) (r1 r2 : ByteArray × Int × Int × ByteArray × Bool × Bool × Bool × List Piece → Option RdO) : Prop := ∀ (a e : Int) (l : List Piece), ∃ o : Option CoreR, r1 (T, a, e, MS, false, false, false, l) = o.map (outA T) ∧ r2 (T', a, e, MS, false, false, false, l.map gP) = o.map (outB T')
theorem two_tw {r1 r2 : ByteArray × Int × Int × ByteArray × Bool × Bool × Bool × List Piece → Option RdO} (hr : RecTw T T' r1 r2) (a e : Int) {c : Int} (hc : c ≠ 63) (hc2 : c ≠ 36) (l : List Piece) : ∃ o : Option (Int × Int × List Piece × List Int), impl_reader_two N0 r1 (T, a, e, MS, false, false, c, false, l) = o.map (fun q => (T, q.1, q.2.1, MS, false, false, false, q.2.2.1, q.2.2.2)) ∧ impl_reader_two N0 r2 (T', a, e, MS, false, false, c, false, l.map gP) = o.map (fun q => (T', q.1, q.2.1, MS, false, false, false, q.2.2.1.map gP, q.2.2.2)) := by
 unfold impl_reader_two
 dsimp only
 obtain ⟨o, f1, f2⟩ := hr a e l
 rw [f1, f2]
 cases o with
 | none => exact ⟨none, rfl, rfl⟩
 | some q =>
  obtain ⟨p1, c1, l1, v1⟩ := q
  simp only [Option.map_some, Option.bind_some, outA, outB]
  obtain ⟨o, f1, f2⟩ := take_tw h p1 c1 MS (c := 44) (by decide) (by decide)
  rw [f1, f2]
  cases o with
  | none => exact ⟨none, rfl, rfl⟩
  | some q =>
   obtain ⟨p2, c2⟩ := q
   simp only [Option.map_some, Option.bind_some]
   obtain ⟨o, f1, f2⟩ := hr p2 c2 l1
   rw [f1, f2]
   cases o with
   | none => exact ⟨none, rfl, rfl⟩
   | some q =>
    obtain ⟨p3, c3, l3, v3⟩ := q
    simp only [Option.map_some, Option.bind_some, outA, outB]
    obtain ⟨o, f1, f2⟩ := take_tw h p3 c3 MS hc hc2
    rw [f1, f2]
    cases o with
    | none => exact ⟨none, rfl, rfl⟩
    | some q => exact ⟨some (q.1, q.2, l3, [v1, v3]), rfl, rfl⟩
theorem tw_110 {r1 r2 : ByteArray × Int × Int × ByteArray × Bool × Bool × Bool × List Piece → Option RdO} (hr : RecTw T T' r1 r2) {a : Int} (l : List Piece) (hz : decide (a ≥ (T.size : Int)) = false) (k1 : impl_reader_peek N0 (T, a, (0 : Int), MS) = some (T, a, (0 : Int), MS, (110 : Int))) (k2 : impl_reader_peek N0 (T', a, (0 : Int), MS) = some (T', a, (0 : Int), MS, (110 : Int))) : ∃ o : Option CoreR, impl_reader_read_body N0 r1 (T, a, (0 : Int), MS, false, false, false, l) = o.map (outA T) ∧ impl_reader_read_body N0 r2 (T', a, (0 : Int), MS, false, false, false, l.map gP) = o.map (outB T') := by
 unfold impl_reader_read_body
 have hz2 : decide (a ≥ (T'.size : Int)) = false := by rw [h.size]; exact hz
 dsimp only
 rw [show ((0 : Int) != 0) = false from rfl, cond_false, cond_false, k1, k2]
 simp only [hz, hz2, one1, one2', one3, one4, one5, one6, one7, Option.bind_some, Int.reduceBEq, Int.reduceBNe, Bool.or_true, Bool.or_false, Bool.true_or, Bool.false_or, Bool.or_self, cond_true, cond_false]
 obtain ⟨o, f1, f2⟩ := p1_tw h a 0 110 l
 rw [show pl 110 = 110 from rfl] at f2
 rw [f1, f2]
 cases o with
 | none => exact ⟨none, rfl, rfl⟩
 | some q => exact ⟨some q, rfl, rfl⟩
theorem tw_36 {r1 r2 : ByteArray × Int × Int × ByteArray × Bool × Bool × Bool × List Piece → Option RdO} (hr : RecTw T T' r1 r2) {a : Int} (l : List Piece) (hz : decide (a ≥ (T.size : Int)) = false) (k1 : impl_reader_peek N0 (T, a, (0 : Int), MS) = some (T, a, (0 : Int), MS, (36 : Int))) (k2 : impl_reader_peek N0 (T', a, (0 : Int), MS) = some (T', a, (0 : Int), MS, (36 : Int))) : ∃ o : Option CoreR, impl_reader_read_body N0 r1 (T, a, (0 : Int), MS, false, false, false, l) = o.map (outA T) ∧ impl_reader_read_body N0 r2 (T', a, (0 : Int), MS, false, false, false, l.map gP) = o.map (outB T') := by
 unfold impl_reader_read_body
 have hz2 : decide (a ≥ (T'.size : Int)) = false := by rw [h.size]; exact hz
 dsimp only
 rw [show ((0 : Int) != 0) = false from rfl, cond_false, cond_false, k1, k2]
 simp only [hz, hz2, one1, one2', one3, one4, one5, one6, one7, Option.bind_some, Int.reduceBEq, Int.reduceBNe, Bool.or_true, Bool.or_false, Bool.true_or, Bool.false_or, Bool.or_self, cond_true, cond_false]
 obtain ⟨o, f1, f2⟩ := p1_tw h a 0 36 l
 rw [show pl 36 = 36 from rfl] at f2
 rw [f1, f2]
 cases o with
 | none => exact ⟨none, rfl, rfl⟩
 | some q => exact ⟨some q, rfl, rfl⟩
theorem tw_63 {r1 r2 : ByteArray × Int × Int × ByteArray × Bool × Bool × Bool × List Piece → Option RdO} (hr : RecTw T T' r1 r2) {a : Int} (l : List Piece) (hz : decide (a ≥ (T.size : Int)) = false) (k1 : impl_reader_peek N0 (T, a, (0 : Int), MS) = some (T, a, (0 : Int), MS, (63 : Int))) (k2 : impl_reader_peek N0 (T', a, (0 : Int), MS) = some (T', a, (0 : Int), MS, (36 : Int))) : ∃ o : Option CoreR, impl_reader_read_body N0 r1 (T, a, (0 : Int), MS, false, false, false, l) = o.map (outA T) ∧ impl_reader_read_body N0 r2 (T', a, (0 : Int), MS, false, false, false, l.map gP) = o.map (outB T') := by
 unfold impl_reader_read_body
 have hz2 : decide (a ≥ (T'.size : Int)) = false := by rw [h.size]; exact hz
 dsimp only
 rw [show ((0 : Int) != 0) = false from rfl, cond_false, cond_false, k1, k2]
 simp only [hz, hz2, one1, one2', one3, one4, one5, one6, one7, Option.bind_some, Int.reduceBEq, Int.reduceBNe, Bool.or_true, Bool.or_false, Bool.true_or, Bool.false_or, Bool.or_self, cond_true, cond_false]
 obtain ⟨o, f1, f2⟩ := p1_tw h a 0 63 l
 rw [show pl 63 = 36 from rfl] at f2
 rw [f1, f2]
 cases o with
 | none => exact ⟨none, rfl, rfl⟩
 | some q => exact ⟨some q, rfl, rfl⟩
theorem tw_40 {r1 r2 : ByteArray × Int × Int × ByteArray × Bool × Bool × Bool × List Piece → Option RdO} (hr : RecTw T T' r1 r2) {a : Int} (l : List Piece) (hz : decide (a ≥ (T.size : Int)) = false) (k1 : impl_reader_peek N0 (T, a, (0 : Int), MS) = some (T, a, (0 : Int), MS, (40 : Int))) (k2 : impl_reader_peek N0 (T', a, (0 : Int), MS) = some (T', a, (0 : Int), MS, (40 : Int))) : ∃ o : Option CoreR, impl_reader_read_body N0 r1 (T, a, (0 : Int), MS, false, false, false, l) = o.map (outA T) ∧ impl_reader_read_body N0 r2 (T', a, (0 : Int), MS, false, false, false, l.map gP) = o.map (outB T') := by
 unfold impl_reader_read_body
 have hz2 : decide (a ≥ (T'.size : Int)) = false := by rw [h.size]; exact hz
 dsimp only
 rw [show ((0 : Int) != 0) = false from rfl, cond_false, cond_false, k1, k2]
 simp only [hz, hz2, one1, one2', one3, one4, one5, one6, one7, Option.bind_some, Int.reduceBEq, Int.reduceBNe, Bool.or_true, Bool.or_false, Bool.true_or, Bool.false_or, Bool.or_self, cond_true, cond_false]
 rw [show impl_closing N0 (40 : Int) = some (41 : Int) from rfl, Option.bind_some, Option.bind_some]
 obtain ⟨o, f1, f2⟩ := two_tw h hr (IntKind.i64.wrap (a + 1)) 0 (c := 41) (by decide) (by decide) l
 rw [f1, f2]
 cases o with
 | none => exact ⟨none, rfl, rfl⟩
 | some q =>
  obtain ⟨p, c, l1, v⟩ := q
  simp only [Option.map_some, Option.bind_some, outA, outB]
  cases (c != 0) with
  | true => exact ⟨some (p, c, l1, -1), rfl, rfl⟩
  | false =>
   obtain ⟨o, f1, f2⟩ := p2_tw T T' p c 40 v l1 (by decide)
   rw [cond_false, cond_false, f1, f2]
   cases o with
   | none => exact ⟨none, rfl, rfl⟩
   | some q => exact ⟨some (p, c, q.1, q.2), rfl, rfl⟩
theorem tw_123 {r1 r2 : ByteArray × Int × Int × ByteArray × Bool × Bool × Bool × List Piece → Option RdO} (hr : RecTw T T' r1 r2) {a : Int} (l : List Piece) (hz : decide (a ≥ (T.size : Int)) = false) (k1 : impl_reader_peek N0 (T, a, (0 : Int), MS) = some (T, a, (0 : Int), MS, (123 : Int))) (k2 : impl_reader_peek N0 (T', a, (0 : Int), MS) = some (T', a, (0 : Int), MS, (123 : Int))) : ∃ o : Option CoreR, impl_reader_read_body N0 r1 (T, a, (0 : Int), MS, false, false, false, l) = o.map (outA T) ∧ impl_reader_read_body N0 r2 (T', a, (0 : Int), MS, false, false, false, l.map gP) = o.map (outB T') := by
 unfold impl_reader_read_body
 have hz2 : decide (a ≥ (T'.size : Int)) = false := by rw [h.size]; exact hz
 dsimp only
 rw [show ((0 : Int) != 0) = false from rfl, cond_false, cond_false, k1, k2]
 simp only [hz, hz2, one1, one2', one3, one4, one5, one6, one7, Option.bind_some, Int.reduceBEq, Int.reduceBNe, Bool.or_true, Bool.or_false, Bool.true_or, Bool.false_or, Bool.or_self, cond_true, cond_false]
 rw [show impl_closing N0 (123 : Int) = some (125 : Int) from rfl, Option.bind_some, Option.bind_some]
 obtain ⟨o, f1, f2⟩ := two_tw h hr (IntKind.i64.wrap (a + 1)) 0 (c := 125) (by decide) (by decide) l
 rw [f1, f2]
 cases o with
 | none => exact ⟨none, rfl, rfl⟩
 | some q =>
  obtain ⟨p, c, l1, v⟩ := q
  simp only [Option.map_some, Option.bind_some, outA, outB]
  cases (c != 0) with
  | true => exact ⟨some (p, c, l1, -1), rfl, rfl⟩
  | false =>
   obtain ⟨o, f1, f2⟩ := p2_tw T T' p c 123 v l1 (by decide)
   rw [cond_false, cond_false, f1, f2]
   cases o with
   | none => exact ⟨none, rfl, rfl⟩
   | some q => exact ⟨some (p, c, q.1, q.2), rfl, rfl⟩
theorem tw_91 {r1 r2 : ByteArray × Int × Int × ByteArray × Bool × Bool × Bool × List Piece → Option RdO} (hr : RecTw T T' r1 r2) {a : Int} (l : List Piece) (hz : decide (a ≥ (T.size : Int)) = false) (k1 : impl_reader_peek N0 (T, a, (0 : Int), MS) = some (T, a, (0 : Int), MS, (91 : Int))) (k2 : impl_reader_peek N0 (T', a, (0 : Int), MS) = some (T', a, (0 : Int), MS, (91 : Int))) : ∃ o : Option CoreR, impl_reader_read_body N0 r1 (T, a, (0 : Int), MS, false, false, false, l) = o.map (outA T) ∧ impl_reader_read_body N0 r2 (T', a, (0 : Int), MS, false, false, false, l.map gP) = o.map (outB T') := by
 unfold impl_reader_read_body
 have hz2 : decide (a ≥ (T'.size : Int)) = false := by rw [h.size]; exact hz
 dsimp only
 rw [show ((0 : Int) != 0) = false from rfl, cond_false, cond_false, k1, k2]
 simp only [hz, hz2, one1, one2', one3, one4, one5, one6, one7, Option.bind_some, Int.reduceBEq, Int.reduceBNe, Bool.or_true, Bool.or_false, Bool.true_or, Bool.false_or, Bool.or_self, cond_true, cond_false]
 rw [show impl_closing N0 (91 : Int) = some (93 : Int) from rfl, Option.bind_some, Option.bind_some]
 obtain ⟨o, f1, f2⟩ := two_tw h hr (IntKind.i64.wrap (a + 1)) 0 (c := 93) (by decide) (by decide) l
 rw [f1, f2]
 cases o with
 | none => exact ⟨none, rfl, rfl⟩
 | some q =>
  obtain ⟨p, c, l1, v⟩ := q
  simp only [Option.map_some, Option.bind_some, outA, outB]
  cases (c != 0) with
  | true => exact ⟨some (p, c, l1, -1), rfl, rfl⟩
  | false =>
   obtain ⟨o, f1, f2⟩ := p2_tw T T' p c 91 v l1 (by decide)
   rw [cond_false, cond_false, f1, f2]
   cases o with
   | none => exact ⟨none, rfl, rfl⟩
   | some q => exact ⟨some (p, c, q.1, q.2), rfl, rfl⟩
theorem tw_107 {r1 r2 : ByteArray × Int × Int × ByteArray × Bool × Bool × Bool × List Piece → Option RdO} (hr : RecTw T T' r1 r2) {a : Int} (l : List Piece) (hz : decide (a ≥ (T.size : Int)) = false) (k1 : impl_reader_peek N0 (T, a, (0 : Int), MS) = some (T, a, (0 : Int), MS, (107 : Int))) (k2 : impl_reader_peek N0 (T', a, (0 : Int), MS) = some (T', a, (0 : Int), MS, (107 : Int))) : ∃ o : Option CoreR, impl_reader_read_body N0 r1 (T, a, (0 : Int), MS, false, false, false, l) = o.map (outA T) ∧ impl_reader_read_body N0 r2 (T', a, (0 : Int), MS, false, false, false, l.map gP) = o.map (outB T') := by
 unfold impl_reader_read_body
 have hz2 : decide (a ≥ (T'.size : Int)) = false := by rw [h.size]; exact hz
 dsimp only
 rw [show ((0 : Int) != 0) = false from rfl, cond_false, cond_false, k1, k2]
 simp only [hz, hz2, one1, one2', one3, one4, one5, one6, one7, Option.bind_some, Int.reduceBEq, Int.reduceBNe, Bool.or_true, Bool.or_false, Bool.true_or, Bool.false_or, Bool.or_self, cond_true, cond_false]
 obtain ⟨o, f1, f2⟩ := take_tw h (IntKind.i64.wrap (a + 1)) 0 MS (c := 40) (by decide) (by decide)
 rw [f1, f2]
 cases o with
 | none => exact ⟨none, rfl, rfl⟩
 | some q =>
  obtain ⟨p0, c0⟩ := q
  simp only [Option.map_some, Option.bind_some]
  obtain ⟨o, f1, f2⟩ := two_tw h hr p0 c0 (c := 41) (by decide) (by decide) l
  rw [f1, f2]
  cases o with
  | none => exact ⟨none, rfl, rfl⟩
  | some q =>
   obtain ⟨p, c, l1, v⟩ := q
   simp only [Option.map_some, Option.bind_some, outA, outB]
   cases (c != 0) with
   | true => exact ⟨some (p, c, l1, -1), rfl, rfl⟩
   | false =>
    obtain ⟨o, f1, f2⟩ := p2_tw T T' p c 107 v l1 (by decide)
    rw [cond_false, cond_false, f1, f2]
    cases o with
    | none => exact ⟨none, rfl, rfl⟩
    | some q => exact ⟨some (p, c, q.1, q.2), rfl, rfl⟩
theorem tw_42 {r1 r2 : ByteArray × Int × Int × ByteArray × Bool × Bool × Bool × List Piece → Option RdO} (hr : RecTw T T' r1 r2) {a : Int} (l : List Piece) (hz : decide (a ≥ (T.size : Int)) = false) (k1 : impl_reader_peek N0 (T, a, (0 : Int), MS) = some (T, a, (0 : Int), MS, (42 : Int))) (k2 : impl_reader_peek N0 (T', a, (0 : Int), MS) = some (T', a, (0 : Int), MS, (42 : Int))) : ∃ o : Option CoreR, impl_reader_read_body N0 r1 (T, a, (0 : Int), MS, false, false, false, l) = o.map (outA T) ∧ impl_reader_read_body N0 r2 (T', a, (0 : Int), MS, false, false, false, l.map gP) = o.map (outB T') := by
 unfold impl_reader_read_body
 have hz2 : decide (a ≥ (T'.size : Int)) = false := by rw [h.size]; exact hz
 dsimp only
 rw [show ((0 : Int) != 0) = false from rfl, cond_false, cond_false, k1, k2]
 simp only [hz, hz2, one1, one2', one3, one4, one5, one6, one7, Option.bind_some, Int.reduceBEq, Int.reduceBNe, Bool.or_true, Bool.or_false, Bool.true_or, Bool.false_or, Bool.or_self, cond_true, cond_false]
 obtain ⟨o, f1, f2⟩ := take_tw h (IntKind.i64.wrap (a + 1)) 0 MS (c := 40) (by decide) (by decide)
 rw [f1, f2]
 cases o with
 | none => exact ⟨none, rfl, rfl⟩
 | some q =>
  obtain ⟨p0, c0⟩ := q
  simp only [Option.map_some, Option.bind_some]
  obtain ⟨o, f1, f2⟩ := two_tw h hr p0 c0 (c := 41) (by decide) (by decide) l
  rw [f1, f2]
  cases o with
  | none => exact ⟨none, rfl, rfl⟩
  | some q =>
   obtain ⟨p, c, l1, v⟩ := q
   simp only [Option.map_some, Option.bind_some, outA, outB]
   cases (c != 0) with
   | true => exact ⟨some (p, c, l1, -1), rfl, rfl⟩
   | false =>
    obtain ⟨o, f1, f2⟩ := p2_tw T T' p c 42 v l1 (by decide)
    rw [cond_false, cond_false, f1, f2]
    cases o with
    | none => exact ⟨none, rfl, rfl⟩
    | some q => exact ⟨some (p, c, q.1, q.2), rfl, rfl⟩
theorem tw_120 {r1 r2 : ByteArray × Int × Int × ByteArray × Bool × Bool × Bool × List Piece → Option RdO} (hr : RecTw T T' r1 r2) {a : Int} (l : List Piece) (hz : decide (a ≥ (T.size : Int)) = false) (k1 : impl_reader_peek N0 (T, a, (0 : Int), MS) = some (T, a, (0 : Int), MS, (120 : Int))) (k2 : impl_reader_peek N0 (T', a, (0 : Int), MS) = some (T', a, (0 : Int), MS, (120 : Int))) : ∃ o : Option CoreR, impl_reader_read_body N0 r1 (T, a, (0 : Int), MS, false, false, false, l) = o.map (outA T) ∧ impl_reader_read_body N0 r2 (T', a, (0 : Int), MS, false, false, false, l.map gP) = o.map (outB T') := by
 unfold impl_reader_read_body
 have hz2 : decide (a ≥ (T'.size : Int)) = false := by rw [h.size]; exact hz
 dsimp only
 rw [show ((0 : Int) != 0) = false from rfl, cond_false, cond_false, k1, k2]
 simp only [hz, hz2, one1, one2', one3, one4, one5, one6, one7, Option.bind_some, Int.reduceBEq, Int.reduceBNe, Bool.or_true, Bool.or_false, Bool.true_or, Bool.false_or, Bool.or_self, cond_true, cond_false]
 obtain ⟨o, f1, f2⟩ := take_tw h (IntKind.i64.wrap (a + 1)) 0 MS (c := 40) (by decide) (by decide)
 rw [f1, f2]
 cases o with
 | none => exact ⟨none, rfl, rfl⟩
 | some q =>
  obtain ⟨p0, c0⟩ := q
  simp only [Option.map_some, Option.bind_some]
  obtain ⟨o, f1, f2⟩ := two_tw h hr p0 c0 (c := 41) (by decide) (by decide) l
  rw [f1, f2]
  cases o with
  | none => exact ⟨none, rfl, rfl⟩
  | some q =>
   obtain ⟨p, c, l1, v⟩ := q
   simp only [Option.map_some, Option.bind_some, outA, outB]
   cases (c != 0) with
   | true => exact ⟨some (p, c, l1, -1), rfl, rfl⟩
   | false =>
    obtain ⟨o, f1, f2⟩ := p2_tw T T' p c 120 v l1 (by decide)
    rw [cond_false, cond_false, f1, f2]
    cases o with
    | none => exact ⟨none, rfl, rfl⟩
    | some q => exact ⟨some (p, c, q.1, q.2), rfl, rfl⟩
theorem tw_35 {r1 r2 : ByteArray × Int × Int × ByteArray × Bool × Bool × Bool × List Piece → Option RdO} (hr : RecTw T T' r1 r2) {a : Int} (l : List Piece) (hz : decide (a ≥ (T.size : Int)) = false) (k1 : impl_reader_peek N0 (T, a, (0 : Int), MS) = some (T, a, (0 : Int), MS, (35 : Int))) (k2 : impl_reader_peek N0 (T', a, (0 : Int), MS) = some (T', a, (0 : Int), MS, (35 : Int))) : ∃ o : Option CoreR, impl_reader_read_body N0 r1 (T, a, (0 : Int), MS, false, false, false, l) = o.map (outA T) ∧ impl_reader_read_body N0 r2 (T', a, (0 : Int), MS, false, false, false, l.map gP) = o.map (outB T') := by
 unfold impl_reader_read_body
 have hz2 : decide (a ≥ (T'.size : Int)) = false := by rw [h.size]; exact hz
 dsimp only
 rw [show ((0 : Int) != 0) = false from rfl, cond_false, cond_false, k1, k2]
 simp only [hz, hz2, one1, one2', one3, one4, one5, one6, one7, Option.bind_some, Int.reduceBEq, Int.reduceBNe, Bool.or_true, Bool.or_false, Bool.true_or, Bool.false_or, Bool.or_self, cond_true, cond_false]
 obtain ⟨o, f1, f2⟩ := hr (IntKind.i64.wrap (a + 1)) 0 l
 rw [f1, f2]
 cases o with
 | none => exact ⟨none, rfl, rfl⟩
 | some q =>
  obtain ⟨p, c, l1, v⟩ := q
  simp only [Option.map_some, Option.bind_some, outA, outB]
  cases (c != 0) with
  | true => exact ⟨some (p, c, l1, -1), rfl, rfl⟩
  | false =>
   obtain ⟨o, f1, f2⟩ := p2_tw T T' p c 35 [v] l1 (by decide)
   rw [cond_false, cond_false, f1, f2]
   cases o with
   | none => exact ⟨none, rfl, rfl⟩
   | some q => exact ⟨some (p, c, q.1, q.2), rfl, rfl⟩
theorem tw_94 {r1 r2 : ByteArray × Int × Int × ByteArray × Bool × Bool × Bool × List Piece → Option RdO} (hr : RecTw T T' r1 r2) {a : Int} (l : List Piece) (hz : decide (a ≥ (T.size : Int)) = false) (k1 : impl_reader_peek N0 (T, a, (0 : Int), MS) = some (T, a, (0 : Int), MS, (94 : Int))) (k2 : impl_reader_peek N0 (T', a, (0 : Int), MS) = some (T', a, (0 : Int), MS, (94 : Int))) : ∃ o : Option CoreR, impl_reader_read_body N0 r1 (T, a, (0 : Int), MS, false, false, false, l) = o.map (outA T) ∧ impl_reader_read_body N0 r2 (T', a, (0 : Int), MS, false, false, false, l.map gP) = o.map (outB T') := by
 unfold impl_reader_read_body
 have hz2 : decide (a ≥ (T'.size : Int)) = false := by rw [h.size]; exact hz
 dsimp only
 rw [show ((0 : Int) != 0) = false from rfl, cond_false, cond_false, k1, k2]
 simp only [hz, hz2, one1, one2', one3, one4, one5, one6, one7, Option.bind_some, Int.reduceBEq, Int.reduceBNe, Bool.or_true, Bool.or_false, Bool.true_or, Bool.false_or, Bool.or_self, cond_true, cond_false]
 obtain ⟨o, f1, f2⟩ := hr (IntKind.i64.wrap (a + 1)) 0 l
 rw [f1, f2]
 cases o with
 | none => exact ⟨none, rfl, rfl⟩
 | some q =>
  obtain ⟨p, c, l1, v⟩ := q
  simp only [Option.map_some, Option.bind_some, outA, outB]
  cases (c != 0) with
  | true => exact ⟨some (p, c, l1, -1), rfl, rfl⟩
  | false =>
   obtain ⟨o, f1, f2⟩ := p2_tw T T' p c 94 [v] l1 (by decide)
   rw [cond_false, cond_false, f1, f2]
   cases o with
   | none => exact ⟨none, rfl, rfl⟩
   | some q => exact ⟨some (p, c, q.1, q.2), rfl, rfl⟩
theorem tw_else {r1 r2 : ByteArray × Int × Int × ByteArray × Bool × Bool × Bool × List Piece → Option RdO} {a c : Int} (l : List Piece) (hz : decide (a ≥ (T.size : Int)) = false) (k110 : c ≠ 110) (k36 : c ≠ 36) (k63 : c ≠ 63) (k40 : c ≠ 40) (k123 : c ≠ 123) (k91 : c ≠ 91) (k107 : c ≠ 107) (k42 : c ≠ 42) (k120 : c ≠ 120) (k35 : c ≠ 35) (k94 : c ≠ 94) (k1 : impl_reader_peek N0 (T, a, (0 : Int), MS) = some (T, a, (0 : Int), MS, c)) (k2 : impl_reader_peek N0 (T', a, (0 : Int), MS) = some (T', a, (0 : Int), MS, c)) : ∃ o : Option CoreR, impl_reader_read_body N0 r1 (T, a, (0 : Int), MS, false, false, false, l) = o.map (outA T) ∧ impl_reader_read_body N0 r2 (T', a, (0 : Int), MS, false, false, false, l.map gP) = o.map (outB T') := by
 unfold impl_reader_read_body
 have hz2 : decide (a ≥ (T'.size : Int)) = false := by rw [h.size]; exact hz
 have e110 : ((110 : Int) == c) = false := by rw [beq_eq_false_iff_ne]; omega
 have f110 : (c == (110 : Int)) = false := by rw [beq_eq_false_iff_ne]; omega
 have e36 : ((36 : Int) == c) = false := by rw [beq_eq_false_iff_ne]; omega
 have f36 : (c == (36 : Int)) = false := by rw [beq_eq_false_iff_ne]; omega
 have e63 : ((63 : Int) == c) = false := by rw [beq_eq_false_iff_ne]; omega
 have f63 : (c == (63 : Int)) = false := by rw [beq_eq_false_iff_ne]; omega
 have e40 : ((40 : Int) == c) = false := by rw [beq_eq_false_iff_ne]; omega
 have f40 : (c == (40 : Int)) = false := by rw [beq_eq_false_iff_ne]; omega
 have e123 : ((123 : Int) == c) = false := by rw [beq_eq_false_iff_ne]; omega
 have f123 : (c == (123 : Int)) = false := by rw [beq_eq_false_iff_ne]; omega
 have e91 : ((91 : Int) == c) = false := by rw [beq_eq_false_iff_ne]; omega
 have f91 : (c == (91 : Int)) = false := by rw [beq_eq_false_iff_ne]; omega
 have e107 : ((107 : Int) == c) = false := by rw [beq_eq_false_iff_ne]; omega
 have f107 : (c == (107 : Int)) = false := by rw [beq_eq_false_iff_ne]; omega
 have e42 : ((42 : Int) == c) = false := by rw [beq_eq_false_iff_ne]; omega
 have f42 : (c == (42 : Int)) = false := by rw [beq_eq_false_iff_ne]; omega
 have e120 : ((120 : Int) == c) = false := by rw [beq_eq_false_iff_ne]; omega
 have f120 : (c == (120 : Int)) = false := by rw [beq_eq_false_iff_ne]; omega
 have e35 : ((35 : Int) == c) = false := by rw [beq_eq_false_iff_ne]; omega
 have f35 : (c == (35 : Int)) = false := by rw [beq_eq_false_iff_ne]; omega
 have e94 : ((94 : Int) == c) = false := by rw [beq_eq_false_iff_ne]; omega
 have f94 : (c == (94 : Int)) = false := by rw [beq_eq_false_iff_ne]; omega
 dsimp only
 rw [show ((0 : Int) != 0) = false from rfl, cond_false, cond_false, k1, k2]
 refine ⟨some (a, 3, l, -1), ?_, ?_⟩
 ·simp only [hz, one1, one2', one3, one4, one5, one6, one7, e110, f110, e36, f36, e63, f63, e40, f40, e123, f123, e91, f91, e107, f107, e42, f42, e120, f120, e35, f35, e94, f94, Option.bind_some, Bool.or_false, Bool.or_self, cond_false, impl_reader_fail, beq_self_eq_true, cond_true]
  cases ((64 : Int) == c) <;> cases ((60 : Int) == c) <;> cases ((62 : Int) == c) <;> cases ((33 : Int) == c) <;> cases ((111 : Int) == c) <;> rfl
 ·simp only [hz2, one1, one2', one3, one4, one5, one6, one7, e110, f110, e36, f36, e63, f63, e40, f40, e123, f123, e91, f91, e107, f107, e42, f42, e120, f120, e35, f35, e94, f94, Option.bind_some, Bool.or_false, Bool.or_self, cond_false, impl_reader_fail, beq_self_eq_true, cond_true]
  cases ((64 : Int) == c) <;> cases ((60 : Int) == c) <;> cases ((62 : Int) == c) <;> cases ((33 : Int) == c) <;> cases ((111 : Int) == c) <;> rfl
theorem read_tw : ∀ (j : Nat), RecTw T T' (impl_reader_read N0 j) (impl_reader_read N0 j)
 | 0 => fun a e l => ⟨none, rfl, rfl⟩
 | j + 1 => fun a e l => by
  have hr := read_tw j
  show ∃ o : Option CoreR, impl_reader_read_body N0 (impl_reader_read N0 j) (T, a, e, MS, false, false, false, l) = o.map (outA T) ∧ impl_reader_read_body N0 (impl_reader_read N0 j) (T', a, e, MS, false, false, false, l.map gP) = o.map (outB T')
  cases he : (e != 0) with
  | true =>
   refine ⟨some (a, e, l, -1), ?_, ?_⟩ <;> (unfold impl_reader_read_body; dsimp only; rw [he]; rfl)
  | false =>
   have e0 : e = 0 := by simpa using he
   subst e0
   obtain ⟨o, k1, k2⟩ := peek_tw h a 0 MS
   cases o with
   | none =>
    refine ⟨none, ?_, ?_⟩
    ·unfold impl_reader_read_body; dsimp only; rw [he, k1]; rfl
    ·unfold impl_reader_read_body; dsimp only; rw [he, k2]; rfl
   | some c =>
    rw [Option.map_some] at k1 k2
    cases hz : decide (a ≥ (T.size : Int)) with
    | true =>
     refine ⟨some ((T.size : Int), 2, l, -1), ?_, ?_⟩
     ·unfold impl_reader_read_body; dsimp only; rw [he, cond_false, k1, Option.bind_some]; dsimp only; rw [hz]; rfl
     ·unfold impl_reader_read_body; dsimp only; rw [he, cond_false, k2, Option.bind_some]; dsimp only; rw [h.size, hz]; rfl
    | false =>
     by_cases k110 : c = 110
     ·subst k110
      exact tw_110 h hr l hz k1 k2
     by_cases k36 : c = 36
     ·subst k36
      exact tw_36 h hr l hz k1 k2
     by_cases k63 : c = 63
     ·subst k63
      exact tw_63 h hr l hz k1 k2
     by_cases k40 : c = 40
     ·subst k40
      exact tw_40 h hr l hz k1 k2
     by_cases k123 : c = 123
     ·subst k123
      exact tw_123 h hr l hz k1 k2
     by_cases k91 : c = 91
     ·subst k91
      exact tw_91 h hr l hz k1 k2
     by_cases k107 : c = 107
     ·subst k107
      exact tw_107 h hr l hz k1 k2
     by_cases k42 : c = 42
     ·subst k42
      exact tw_42 h hr l hz k1 k2
     by_cases k120 : c = 120
     ·subst k120
      exact tw_120 h hr l hz k1 k2
     by_cases k35 : c = 35
     ·subst k35
      exact tw_35 h hr l hz k1 k2
     by_cases k94 : c = 94
     ·subst k94
      exact tw_94 h hr l hz k1 k2
     rw [show pl c = c from if_neg k63] at k2
     exact tw_else h l hz k110 k36 k63 k40 k123 k91 k107 k42 k120 k35 k94 k1 k2
theorem patternOf_tw {l1 : List Piece} {b : Bool} (hp : impl_patternOf N0 T = some (b, true, l1)) : impl_patternOf N0 T' = some (b, true, l1.map gP) := by
 obtain ⟨o, f1, f2⟩ := read_tw h N0 0 0 []
 have eM : (⟨#[36, 63, 120]⟩ : ByteArray) = MS := rfl
 have hz : decide ((T.size : Int) > 200) = false := decide_eq_false (by have := h.sz; omega)
 have f2 : impl_reader_read N0 N0 (T', (0 : Int), (0 : Int), MS, false, false, false, []) = o.map (outB T') := f2
 unfold impl_patternOf impl_reader_all at hp ⊢
 dsimp only at hp ⊢
 rw [h.size]
 rw [hz, eM, cond_false] at hp ⊢
 rw [f1] at hp
 rw [f2]
 cases o with
 | none => cases hp
 | some q =>
  obtain ⟨p, c, l, v⟩ := q
  simp only [Option.map_some, Option.bind_some, outA, outB, impl_reader_fail] at hp ⊢
  rw [h.size]
  by_cases hc : c = 0
  ·subst hc
   simp only [beq_self_eq_true, cond_true, Option.bind_some] at hp ⊢
   cases hq : decide (p < (T.size : Int)) with
   | true => rw [hq] at hp; simp at hp
   | false =>
    rw [hq] at hp
    simp at hp ⊢
    exact ⟨hp.1, by rw [hp.2]⟩
  ·have hc1 : (c == 0) = false := by rw [beq_eq_false_iff_ne]; exact hc
   simp only [hc1, cond_false, Option.bind_some] at hp
   simp [hc1] at hp
end
end AM
end Go.Proofs.YtelkmjkclmjggaaGreatDoor
namespace Go.Proofs.YtelkmjkclmjggaaGreatDoor
namespace AM
open Go
set_option linter.unusedVariables false
set_option linter.unusedSimpArgs false
def plB (c : UInt8) : UInt8 := if c = 63 then 36 else c
theorem plB_int (c : UInt8) : ((plB c).toNat : Int) = pl (c.toNat : Int) := by
 unfold plB pl
 by_cases h : c = 63
 ·subst h; rfl
 ·rw [if_neg h, if_neg]
  intro q
  apply h
  apply UInt8.toNat_inj.1
  have : c.toNat = 63 := by omega
  rw [this]; rfl
theorem isD_pl (c : UInt8) : isD (plB c) = isD c ∧ (isD c = true → plB c = c) := by
 unfold plB
 by_cases h : c = 63
 ·subst h; exact ⟨rfl, fun q => by cases q⟩
 ·rw [if_neg h]; exact ⟨rfl, fun _ => rfl⟩
theorem take_pl : ∀ l : List UInt8, (l.map plB).takeWhile isD = l.takeWhile isD
 | [] => rfl
 | c :: l => by
  obtain ⟨h1, h2⟩ := isD_pl c
  rw [List.map_cons, List.takeWhile_cons, List.takeWhile_cons, h1]
  cases hc : isD c with
  | true => rw [h2 hc, take_pl l]
  | false => rfl
theorem tw_of {T T' : ByteArray} (hs : T.size ≤ 200) (h : bs T' = (bs T).map plB) : Tw T T' := by
 refine ⟨hs, ?_, fun i => ?_, fun a => ?_⟩
 ·rw [← bs_len, ← bs_len, h, List.length_map]
 ·show (((bs T').getD i.toNat 0).toNat : Int) = pl (((bs T).getD i.toNat 0).toNat : Int)
  rw [h, ← plB_int]
  congr 2
  rw [List.getD_eq_getElem?_getD, List.getD_eq_getElem?_getD, List.getElem?_map]
  cases (bs T)[i.toNat]? <;> rfl
 ·rw [h, ← List.map_drop, take_pl]
theorem bs_app (a b : ByteArray) : bs (a ++ b) = bs a ++ bs b := by
 show (a ++ b).data.toList = _
 rw [ByteArray.data_append, Array.toList_append]
theorem bs_sub (T : ByteArray) {j : Nat} (h : j < T.size) : bs (sub T (j : Int) ((j + 1 : Nat) : Int)) = [(bs T)[j]'(by rw [bs_len]; exact h)] := by
 have hl : j < (bs T).length := by rw [bs_len]; exact h
 show (T.extract ((j : Int)).toNat (((j + 1 : Nat) : Int)).toNat).data.toList = _
 rw [ByteArray.data_extract, Array.toList_extract, Int.toNat_natCast, Int.toNat_natCast, List.extract_eq_take_drop]
 rw [show j + 1 - j = 1 by omega]
 show ((bs T).drop j).take 1 = _
 rw [List.drop_eq_getElem_cons hl]
 rfl
theorem plainT_loop {T : ByteArray} (hT : T.size ≤ 200) {t : Int} {ys : List Node3} {e : List Int} : ∀ (m : Nat) (s : ByteArray) (j : Nat), j ≤ T.size → bs s = ((bs T).take j).map plB → T.size < m + j → ∃ r, laws_FnMatched_L17 N0 m (T, t, ys, e, s, (j : Int)) = some (t, ys, e, r) ∧ bs r = (bs T).map plB
 | 0, s, j, hj, hs, hm => by omega
 | m + 1, s, j, hj, hs, hm => by
  have hsz : s.size ≤ 200 := by rw [← bs_len, hs, List.length_map, List.length_take]; omega
  unfold laws_FnMatched_L17
  dsimp only
  by_cases hq : j < T.size
  ·have hl : j < (bs T).length := by rw [bs_len]; exact hq
   have w : IntKind.i64.wrap ((j : Int) + 1) = ((j + 1 : Nat) : Int) := by rw [wrap_ok (by omega) (by omega)]; omega
   have hb : bt T (j : Int) = (((bs T)[j]'hl).toNat : Int) := by
    show (((bs T).getD ((j : Int)).toNat 0).toNat : Int) = _
    rw [Int.toNat_natCast, List.getD_eq_getElem?_getD, List.getElem?_eq_getElem hl, Option.getD_some]
   rw [decide_eq_true (show (j : Int) < (T.size : Int) by omega), cond_true, inb_nat hq, cond_true, w, hb]
   have ht : (bs T).take (j + 1) = (bs T).take j ++ [(bs T)[j]'hl] := (List.take_append_getElem hl).symm
   by_cases h63 : (bs T)[j]'hl = 63
   ·have z : (⟨#[36]⟩ : ByteArray).size = 1 := rfl
    rw [h63, show (((63 : UInt8).toNat : Int) == 63) = true from rfl, cond_true, strRoom_of (by omega), cond_true]
    refine plainT_loop hT m _ (j + 1) (by omega) ?_ (by omega)
    rw [bs_app, ht, List.map_append, hs, h63]
    rfl
   ·have hne : ((((bs T)[j]'hl).toNat : Int) == 63) = false := by
     rw [beq_eq_false_iff_ne]
     intro q
     apply h63
     apply UInt8.toNat_inj.1
     have : ((bs T)[j]'hl).toNat = 63 := by omega
     rw [this]; rfl
    have z : (sub T (j : Int) ((j + 1 : Nat) : Int)).size ≤ 1 := by rw [← bs_len, bs_sub T hq]; exact Nat.le_refl _
    have hr : rng (j : Int) ((j + 1 : Nat) : Int) T.size = true := decide_eq_true (by omega)
    rw [hne, cond_false, hr, cond_true, strRoom_of (by omega), cond_true]
    refine plainT_loop hT m _ (j + 1) (by omega) ?_ (by omega)
    rw [bs_app, bs_sub T hq, ht, List.map_append, hs]
    congr 1
    show [_] = [plB _]
    unfold plB
    rw [if_neg h63]
  ·rw [decide_eq_false (show ¬ (j : Int) < (T.size : Int) by omega), cond_false]
   refine ⟨s, rfl, ?_⟩
   rw [hs, List.take_of_length_le (by rw [bs_len]; omega)]
theorem gP_get (l : List Piece) (i : Nat) : (l.map gP).getD i zP = gP (l.getD i zP) := by
 rw [List.getD_eq_getElem?_getD, List.getD_eq_getElem?_getD, List.getElem?_map]
 cases l[i]? <;> rfl
theorem pl_no {s : Int} (h : (s == 63) = false) : pl s = s := if_neg (by rw [beq_eq_false_iff_ne] at h; exact h)
theorem dec2_plain {l1 : List Piece} {l2 l2' : List SNode} : ∀ {k k' : Nat} {a b b' : Int} {P P' : Pat}, dec2 l1 l2 k a b = some P → dec2 (l1.map gP) l2' k' a b' = some P' → P' = P.plain
 | 0, _, _, _, _, _, _, h, _ => by cases h
 | _, 0, _, _, _, _, _, _, h => by cases h
 | k + 1, k' + 1, a, b, b', P, P', h, h' => by
  obtain ⟨_, _, hc⟩ := dec2_step h
  obtain ⟨_, _, hc'⟩ := dec2_step h'
  rw [gP_get] at hc'
  generalize l1.getD a.toNat zP = x at hc hc'
  have hx2 : (gP x).2.2 = x.2.2 := rfl
  rw [hx2] at hc'
  rcases hc with ⟨hps, hl⟩ | ⟨p, Q, hps, q1, q2⟩ | ⟨p, q, Q, R, hps, q1, q2, q3⟩
  ·rcases hc' with ⟨_, hl'⟩ | ⟨p, Q, hps', _⟩ | ⟨p, q, Q, R, hps', _⟩
   ·rcases leaf2_cases hl with ⟨c1, _, _, _, rfl⟩ | ⟨c1, c2, _, _, _, _, _, rfl⟩ | ⟨c1, c2, c3, _, _, _, _, _, rfl⟩
    ·have e1 : x.1 = 110 := by simpa using c1
     have e2 : (gP x).1 = 110 := by show pl x.1 = 110; rw [e1]; rfl
     rcases leaf2_cases hl' with ⟨_, _, _, _, rfl⟩ | ⟨d1, _⟩ | ⟨d1, _⟩
     ·rfl
     ·rw [e2] at d1; cases d1
     ·rw [e2] at d1; cases d1
    ·have e1 : x.1 = 36 := by simpa using c2
     have e2 : (gP x).1 = 36 := by show pl x.1 = 36; rw [e1]; rfl
     rcases leaf2_cases hl' with ⟨d1, _⟩ | ⟨_, _, _, _, _, _, _, rfl⟩ | ⟨_, d1, _⟩
     ·rw [e2] at d1; cases d1
     ·rfl
     ·rw [e2] at d1; cases d1
    ·have e1 : x.1 = 63 := by simpa using c3
     have e2 : (gP x).1 = 36 := by show pl x.1 = 36; rw [e1]; rfl
     rcases leaf2_cases hl' with ⟨d1, _⟩ | ⟨_, _, _, _, _, _, _, rfl⟩ | ⟨_, d1, _⟩
     ·rw [e2] at d1; cases d1
     ·rfl
     ·rw [e2] at d1; cases d1
   ·rw [hps] at hps'; cases hps'
   ·rw [hps] at hps'; cases hps'
  ·rcases hc' with ⟨hps', _⟩ | ⟨p', Q', hps', q1', q2'⟩ | ⟨p', q', Q', R', hps', _⟩
   ·rw [hps] at hps'; cases hps'
   ·rw [hps] at hps'
    obtain rfl : p = p' := by simpa using hps'
    have ih := dec2_plain q1 q1'
    obtain ⟨⟨_, _, c3⟩, _, c5, _, _, rfl⟩ := one2_cases q2
    obtain ⟨_, _, d5, _, _, rfl⟩ := one2_cases q2'
    have e2 : (gP x).1 = x.1 := pl_no c3
    rw [e2, c5] at d5
    rw [ih, ← d5]; rfl
   ·rw [hps] at hps'; cases hps'
  ·rcases hc' with ⟨hps', _⟩ | ⟨p', Q', hps', _⟩ | ⟨p', q', Q', R', hps', q1', q2', q3'⟩
   ·rw [hps] at hps'; cases hps'
   ·rw [hps] at hps'; cases hps'
   ·rw [hps] at hps'
    obtain ⟨rfl, rfl⟩ : p = p' ∧ q = q' := by simpa using hps'
    have ih1 := dec2_plain q1 q1'
    have ih2 := dec2_plain q2 q2'
    obtain ⟨⟨_, _, c3⟩, _, cc⟩ := two2_cases q3
    obtain ⟨_, _, dd⟩ := two2_cases q3'
    have e2 : (gP x).1 = x.1 := pl_no c3
    rw [e2] at dd
    rcases cc with ⟨c4, _, rfl⟩ | ⟨c4, c5, _, rfl⟩
    ·rcases dd with ⟨_, _, rfl⟩ | ⟨d4, _⟩
     ·rw [ih1, ih2]; rfl
     ·rw [c4] at d4; cases d4
    ·rcases dd with ⟨d4, _⟩ | ⟨_, d5, _, rfl⟩
     ·rw [c4] at d4; cases d4
     ·rw [c5] at d5
      rw [ih1, ih2, ← d5]; rfl
theorem pat_plain {T T' : ByteArray} {P : Pat} (h : PatIs T P) (hb : bs T' = (bs T).map plB) : PatIs T' P.plain := by
 obtain ⟨hs, _⟩ := pat_lets h
 obtain ⟨b, l1, l2, k, e1, e2, hk, hd, hl1, hl2⟩ := h
 have e3 := patternOf_tw (tw_of hs hb) e1
 rcases pat_all T' with ⟨P', hT⟩ | ⟨⟨l, q1⟩, _⟩
 ·obtain ⟨b', m1, m2, k', f1, f2, hk', hd', hm1, hm2⟩ := hT
  rw [e3] at f1
  obtain ⟨rfl, _, rfl⟩ : b = b' ∧ true = true ∧ l1.map gP = m1 := by
   have := Option.some.inj f1
   exact ⟨congrArg Prod.fst this, rfl, congrArg (fun z => z.2.2) this⟩
  rw [List.length_map] at hd'
  have := dec2_plain hd hd'
  subst this
  exact ⟨b, _, m2, k', e3, f2, hk', by rw [List.length_map]; exact hd', by rw [List.length_map]; exact hl1, hm2⟩
 ·rw [e3] at q1
  cases q1
theorem keeps_loop {env e : List Int} {T : ByteArray} {t : Int} {ys : List Node3} (he : env.length = 26) (hl : e.length = 26) (hk : Keeps env e) : ∀ (m j : Nat), j ≤ 26 → 26 < m + j → laws_FnMatched_L11 N0 m (env, T, t, ys, e, (j : Int)) = some (Sum.inr (T, t, ys, e))
 | 0, j, hj, hm => by omega
 | m + 1, j, hj, hm => by
  unfold laws_FnMatched_L11
  dsimp only
  by_cases hq : j < 26
  ·have w : IntKind.i64.wrap ((j : Int) + 1) = ((j + 1 : Nat) : Int) := by rw [wrap_ok (by omega) (by omega)]; omega
   have ih := keeps_loop he hl hk m (j + 1) (by omega) (by omega) (T := T) (t := t) (ys := ys)
   rw [decide_eq_true (show (j : Int) < 26 by omega), cond_true, inb_nat (show j < env.length by omega), inb_nat (show j < e.length by omega), cond_true, cond_true, cond_true, Int.toNat_natCast, w]
   cases hn : (env.getD j 0 != -1) with
   | true =>
    have hk := hk j (by rw [bne_iff_ne] at hn; exact hn)
    rw [cond_true, hk, bne_self_eq_false, cond_false]
    exact ih
   | false =>
    rw [cond_false]
    exact ih
  ·rw [decide_eq_false (show ¬ (j : Int) < 26 by omega), cond_false]
theorem envB_good {xs : List Node3} {env : List Int} (he : env.length = 26) (hv : envB xs env = true) : EnvG env := by
 refine ⟨he, fun i hi => ?_⟩
 by_cases hl : i < env.length
 ·have : ∀ (env : List Int), envB xs env = true → ∀ i, i < env.length → env.getD i 0 < 0 → env.getD i 0 = -1 := by
   intro env
   induction env with
   | nil => intro _ i hi _; simp at hi
   | cons v r ih =>
    intro h i hi hn
    have h : ((v == -1 || hasB xs v) && envB xs r) = true := h
    rw [Bool.and_eq_true] at h
    cases i with
    | zero =>
     have hn : v < 0 := hn
     rcases Bool.or_eq_true _ _ ▸ h.1 with q | q
     ·show v = -1
      simpa using q
     ·rw [hasB_iff] at q; omega
    | succ i =>
     exact ih h.2 i (by simpa using hi) hn
  exact this env hv i hl hi
 ·rw [getD_out (by omega)] at hi; omega
theorem drawPatMatch_ok {b : List Int} (hb : b.length ≤ 4294967296) : ∃ xs env T t, spec_DrawPatMatch N0 b = some (xs, env, T, t) ∧ xs.length ≤ 501 ∧ env.length ≤ 26 := by
 unfold spec_DrawPatMatch
 obtain ⟨xs, env, T, t, e1, q1, q2, q3⟩ := l11Draw_ok hb
 rw [e1, Option.bind_some]
 exact ⟨_, _, _, _, rfl, q1, q2⟩
theorem matched_law (x : List Int) (hx : x.length ≤ 9223372036854775807) : laws_FnMatched N0 x = some true := by
 have hN := n0
 unfold laws_FnMatched laws_big
 rw [Option.bind_some]
 by_cases hb : (x.length : Int) > 1048576
 ·rw [decide_eq_true hb]; rfl
 ·rw [decide_eq_false hb, cond_false]
  obtain ⟨xs, env, T, t, e1, q1, q2⟩ := drawPatMatch_ok (b := x) (by omega)
  rw [e1, Option.bind_some]
  dsimp only
  obtain ⟨r, e2, e3, hr⟩ := patMatch_all (xs := xs) (by omega) (env := env) (by omega) T t
  rw [e2, Option.bind_some, e3, Option.bind_some, bne_self_eq_false, cond_false]
  rcases hr with ⟨_, rfl⟩ | ⟨_, rfl⟩ | ⟨hp, he, hv, ht, P, ys, e, hT, hm, rfl⟩
  ·dsimp only
   rw [sameInts_self (by simp)]; rfl
  ·dsimp only
   rw [sameInts_self (by simp)]; rfl
  ·have hE := envB_good he hv
   obtain ⟨g1, g2, zs, g3⟩ := matchP_good hE hp ht hm
   obtain ⟨m1, m2⟩ := matchP_more hE hv hp ht hm
   obtain ⟨hs, _⟩ := pat_lets hT
   dsimp only
   rw [sameInts_self (by have := g1.1; omega), Option.bind_some, Bool.not_true, cond_false, cond_false]
   have k := keeps_loop (T := T) (t := t) (ys := ys) he g1.1 m2 N0 0 (by omega) (by omega)
   rw [show ((0 : Nat) : Int) = (0 : Int) from rfl] at k
   rw [k, Option.bind_some]
   dsimp only
   obtain ⟨T', l1, l2⟩ := plainT_loop hs (t := t) (ys := ys) (e := e) N0 (⟨#[]⟩ : ByteArray) 0 (by omega) rfl (by omega)
   rw [show ((0 : Nat) : Int) = (0 : Int) from rfl] at l1
   rw [l1, Option.bind_some]
   dsimp only
   have hT' := pat_plain hT l2
   have hmm := matched_made (PatIs.fine hT) hE hv hp ht hm (e' := e) [] (Keeps.refl e) (by rw [List.append_nil]; exact g2)
   rw [List.append_nil] at hmm
   rw [patMake_eq hT' g2 g1.1 m1, hmm, Option.bind_some]
   show (cond (t == t) _ _) = _
   rw [beq_self_eq_true, cond_true, envOk_right g2 g1.1 m1]
   rfl
theorem matched_law_td (x : TD (entys (parEns 0 (S5 0).pars))) (hx : FitsTD _ x) : laws_FnMatched N0 x = some true := by
 have h1 : Fits (.sl (.int .u8)) x := hx ⟨.sl (.int .u8), x⟩ (.head _)
 exact matched_law x (maxLen_eq ▸ h1.1)
end AM
end Go.Proofs.YtelkmjkclmjggaaGreatDoor
