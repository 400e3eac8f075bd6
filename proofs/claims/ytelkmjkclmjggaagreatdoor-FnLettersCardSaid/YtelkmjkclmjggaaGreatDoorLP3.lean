/- What is drawn: any pool, sizes of terms, numbers as text. Under: the drawn bytes are no longer than memory. And what follows it: see the remarks. -/
import Derived.Test.YtelkmjkclmjggaaGreatDoorLP2
namespace Go.Proofs.YtelkmjkclmjggaaGreatDoor
namespace AM
open Go
set_option linter.unusedVariables false
set_option linter.unusedSimpArgs false
def partsL (x : Node3) : List Int := bif x.1 == 5 then [x.2.1] else bif x.1 == 7 then [x.2.1] else bif x.1 == 2 then [x.2.1, x.2.2] else bif x.1 == 3 then [x.2.1, x.2.2] else bif x.1 == 4 then [x.2.1, x.2.2] else bif x.1 == 6 then [x.2.1, x.2.2] else bif x.1 == 8 then [x.2.1, x.2.2] else []
theorem partsOf_eq {xs : List Node3} {t : Nat} (ht : t < xs.length) : spec_l1PartsOf N0 (xs, (t : Int)) = some (partsL (xs.getD t zN3)) := by
 unfold spec_l1PartsOf
 dsimp only
 rw [inb_nat ht, cond_true, Int.toNat_natCast]
 generalize xs.getD t zN3 = X
 unfold spec_l1Parts partsL
 cases h1 : (X.1 == 1) with
 | true =>
  have e : X.1 = 1 := by simpa using h1
  rw [e]; rfl
 | false =>
  cases (X.1 == 5) <;> cases (X.1 == 7) <;> cases (X.1 == 2) <;> cases (X.1 == 3) <;> cases (X.1 == 4) <;> cases (X.1 == 6) <;> cases (X.1 == 8) <;> rfl
theorem nodeV_kind {k a b : Int} {i : Nat} (hi : i ≤ 4294967296) (h : nodeV N0 (k, a, b, (i : Int)) = true) : (k = 1 ∧ 0 ≤ a ∧ a ≤ 199) ∨ ((k = 5 ∨ k = 7) ∧ 0 ≤ a ∧ a < (i : Int)) ∨ ((k = 2 ∨ k = 3 ∨ k = 4 ∨ k = 6 ∨ k = 8) ∧ 0 ≤ a ∧ a < (i : Int) ∧ 0 ≤ b ∧ b < (i : Int)) := by
 have w : IntKind.i64.wrap ((i : Int) - (1 : Int)) = (i : Int) - 1 := wrap_ok (by omega) (by omega)
 have hr : ∀ v lo hi : Int, impl_inRange N0 (v, lo, hi) = some (decide (v ≥ lo) && decide (v ≤ hi)) := fun v lo hi => by
  unfold impl_inRange
  cases q : decide (v ≥ lo) <;> (simp [q])
 have hk : nodeV N0 (k, a, b, (i : Int)) = (impl_nodeOk N0 (k, a, b, (i : Int))).getD false := rfl
 rw [hk] at h
 unfold impl_nodeOk at h
 dsimp only at h
 rw [w, hr, hr, hr] at h
 by_cases h1 : k = 1
 ·subst h1
  rw [show impl_count N0 1 = some 0 from rfl] at h
  left
  cases q : (decide (a ≥ 0) && decide (a ≤ 199)) with
  | false => simp only [Option.bind_some, beq_self_eq_true, cond_true, q] at h; cases h
  | true =>
   rw [Bool.and_eq_true, decide_eq_true_iff, decide_eq_true_iff] at q
   exact ⟨rfl, q.1, q.2⟩
 by_cases h5 : k = 5 ∨ k = 7
 ·right; left
  have hc : impl_count N0 k = some 1 := by rcases h5 with rfl | rfl <;> rfl
  rw [hc] at h
  cases q : (decide (a ≥ 0) && decide (a ≤ (i : Int) - 1)) with
  | false => simp only [Option.bind_some, show ((1 : Int) == 0) = false from rfl, beq_self_eq_true, cond_true, cond_false, q] at h; cases h
  | true =>
   rw [Bool.and_eq_true, decide_eq_true_iff, decide_eq_true_iff] at q
   exact ⟨h5, q.1, by omega⟩
 by_cases h2 : k = 2 ∨ k = 3 ∨ k = 4 ∨ k = 6 ∨ k = 8
 ·right; right
  have hc : impl_count N0 k = some 2 := by rcases h2 with rfl | rfl | rfl | rfl | rfl <;> rfl
  rw [hc] at h
  cases q : (decide (a ≥ 0) && decide (a ≤ (i : Int) - 1)) with
  | false => simp only [Option.bind_some, show ((2 : Int) == 0) = false from rfl, show ((2 : Int) == 1) = false from rfl, beq_self_eq_true, cond_true, cond_false, q] at h; cases h
  | true =>
   cases q2 : (decide (b ≥ 0) && decide (b ≤ (i : Int) - 1)) with
   | false => simp only [Option.bind_some, show ((2 : Int) == 0) = false from rfl, show ((2 : Int) == 1) = false from rfl, beq_self_eq_true, cond_true, cond_false, q, q2] at h; cases h
   | true =>
    rw [Bool.and_eq_true, decide_eq_true_iff, decide_eq_true_iff] at q q2
    exact ⟨h2, q.1, by omega, q2.1, by omega⟩
 exfalso
 have hc : ∃ c, impl_count N0 k = some c ∧ c ≠ 0 ∧ c ≠ 1 ∧ c ≠ 2 := by
  unfold impl_count
  simp only [show (k == 1) = false from by rw [beq_eq_false_iff_ne]; exact h1, show (k == 2) = false from by rw [beq_eq_false_iff_ne]; omega, show (k == 3) = false from by rw [beq_eq_false_iff_ne]; omega, show (k == 4) = false from by rw [beq_eq_false_iff_ne]; omega, show (k == 5) = false from by rw [beq_eq_false_iff_ne]; omega, show (k == 6) = false from by rw [beq_eq_false_iff_ne]; omega, show (k == 7) = false from by rw [beq_eq_false_iff_ne]; omega, show (k == 8) = false from by rw [beq_eq_false_iff_ne]; omega, cond_false]
  exact ⟨_, rfl, by decide, by decide, by decide⟩
 obtain ⟨c, hc, c0, c1, c2⟩ := hc
 rw [hc] at h
 simp only [Option.bind_some, show (c == 0) = false from by rw [beq_eq_false_iff_ne]; exact c0, show (c == 1) = false from by rw [beq_eq_false_iff_ne]; exact c1, show (c == 2) = false from by rw [beq_eq_false_iff_ne]; exact c2, cond_false] at h
 cases h
theorem parts_in {xs : List Node3} (hp : poolB xs = true) {t : Nat} (ht : t < xs.length) : ∀ v ∈ partsL (xs.getD t zN3), 0 ≤ v ∧ v < (t : Int) := by
 have hl := poolB_len hp
 have h := nodeV_kind (by omega) (poolB_nd hp ht)
 generalize xs.getD t zN3 = X at h
 obtain ⟨k, a, b⟩ := X
 unfold partsL
 dsimp only at h ⊢
 intro v hv
 rcases h with ⟨rfl, _⟩ | ⟨h5, h1, h2⟩ | ⟨h5, h1, h2, h3, h4⟩
 ·cases hv
 ·rcases h5 with rfl | rfl <;> (have hv : v ∈ [a] := hv; rw [List.mem_singleton.1 hv]; exact ⟨h1, h2⟩)
 ·have hv : v ∈ [a, b] := by rcases h5 with rfl | rfl | rfl | rfl | rfl <;> exact hv
  rcases List.mem_cons.1 hv with rfl | hv
  ·exact ⟨h1, h2⟩
  ·rw [List.mem_singleton.1 hv]; exact ⟨h3, h4⟩
def szF (ss : List Int) (n : Int) (l : List Int) : Int := l.foldl (fun n v => min (n + ss.getD v.toNat 0) 1001) n
theorem sizes_inner {xs : List Node3} {ss : List Int} {t : Int} : ∀ (r pre : List Int) (n : Int) (m : Nat), r.length < m → pre.length + r.length ≤ 100 → (∀ v ∈ r, 0 ≤ v ∧ v < (ss.length : Int)) → (∀ v, 0 ≤ v → v < (ss.length : Int) → 1 ≤ ss.getD v.toNat 0 ∧ ss.getD v.toNat 0 ≤ 1001) → 1 ≤ n → n ≤ 1001 →
  spec_l1Sizes_L8 N0 m (xs, ss, t, n, pre ++ r, (pre.length : Int)) = some (xs, ss, t, szF ss n r) ∧ 1 ≤ szF ss n r ∧ szF ss n r ≤ 1001
 | _, _, _, 0, h, _, _, _, _, _ => by omega
 | [], pre, n, m + 1, h, hl, hr, hs, h0, h1 => by
  unfold spec_l1Sizes_L8
  dsimp only
  rw [lt_end, cond_false]
  exact ⟨rfl, h0, h1⟩
 | v :: r, pre, n, m + 1, h, hl, hr, hs, h0, h1 => by
  obtain ⟨v0, v1⟩ := hr v (List.mem_cons_self ..)
  obtain ⟨s0, s1⟩ := hs v v0 v1
  have e : v = ((v.toNat : Nat) : Int) := by omega
  have hin : inb v ss.length = true := by rw [e]; exact inb_nat (by omega)
  unfold spec_l1Sizes_L8
  dsimp only
  rw [lt_pre, cond_true, in_pre, cond_true, Int.toNat_natCast, get_pre, hin, cond_true, wrap_ok (n := n + ss.getD v.toNat 0) (by omega) (by omega)]
  have hm : spec_l1Min N0 (n + ss.getD v.toNat 0, (1001 : Int)) = some (min (n + ss.getD v.toNat 0) 1001) := by
   unfold spec_l1Min
   dsimp only
   by_cases q : n + ss.getD v.toNat 0 < 1001
   ·rw [decide_eq_true q, cond_true]; congr 1; omega
   ·rw [decide_eq_false q, cond_false]; congr 1; omega
  rw [hm, Option.bind_some]
  have hl' : pre.length + (r.length + 1) ≤ 100 := hl
  rw [wrap_ok (n := (pre.length : Int) + 1) (by omega) (by omega), app_one, ← len_one pre v]
  exact sizes_inner r (pre ++ [v]) _ m (by simp at h; omega) (by simp; omega) (fun u hu => hr u (List.mem_cons_of_mem _ hu)) hs (by omega) (by omega)
structure SzOk (xs : List Node3) (ss : List Int) : Prop where
 le : ss.length ≤ xs.length
 lo : ∀ v, 0 ≤ v → v < (ss.length : Int) → 1 ≤ ss.getD v.toNat 0 ∧ ss.getD v.toNat 0 ≤ 1001
 eq : ∀ t : Nat, t < ss.length → ss.getD t 0 = szF ss 1 (partsL (xs.getD t zN3))
theorem szF_app {ss : List Int} (z : List Int) : ∀ {l : List Int} {n : Int}, (∀ v ∈ l, 0 ≤ v ∧ v < (ss.length : Int)) → szF (ss ++ z) n l = szF ss n l
 | [], n, h => rfl
 | v :: l, n, h => by
  obtain ⟨v0, v1⟩ := h v (List.mem_cons_self ..)
  show szF (ss ++ z) (min (n + (ss ++ z).getD v.toNat 0) 1001) l = szF ss (min (n + ss.getD v.toNat 0) 1001) l
  rw [getD_app (by omega)]
  exact szF_app z (fun u hu => h u (List.mem_cons_of_mem _ hu))
theorem sizes_loop {xs : List Node3} (hp : poolB xs = true) : ∀ (m : Nat) (ss : List Int), SzOk xs ss → xs.length < m + ss.length → ∃ ts, spec_l1Sizes_L3 N0 m (xs, ss, (ss.length : Int)) = some ts ∧ SzOk xs ts ∧ ts.length = xs.length
 | 0, ss, h, hm => by have := h.le; omega
 | m + 1, ss, h, hm => by
  have hl := poolB_len hp
  have hle := h.le
  unfold spec_l1Sizes_L3
  dsimp only
  by_cases hq : ss.length < xs.length
  ·rw [decide_eq_true (show (ss.length : Int) < (xs.length : Int) by omega), cond_true, partsOf_eq hq, Option.bind_some]
   have hpi := parts_in hp hq
   have hpl : (partsL (xs.getD ss.length zN3)).length ≤ 2 := by
    unfold partsL
    cases ((xs.getD ss.length zN3).1 == 5) <;> cases ((xs.getD ss.length zN3).1 == 7) <;> cases ((xs.getD ss.length zN3).1 == 2) <;> cases ((xs.getD ss.length zN3).1 == 3) <;> cases ((xs.getD ss.length zN3).1 == 4) <;> cases ((xs.getD ss.length zN3).1 == 6) <;> cases ((xs.getD ss.length zN3).1 == 8) <;> simp
   have hN := n0
   obtain ⟨e1, e2, e3⟩ := sizes_inner (xs := xs) (ss := ss) (t := (ss.length : Int)) (partsL (xs.getD ss.length zN3)) [] 1 N0 (by omega) (by rw [List.length_nil]; omega) hpi h.lo (by decide) (by decide)
   have e1 : spec_l1Sizes_L8 N0 N0 (xs, ss, (ss.length : Int), (1 : Int), partsL (xs.getD ss.length zN3), (0 : Int)) = _ := e1
   rw [e1, Option.bind_some]
   dsimp only
   have hro : room (ss.length + [szF ss 1 (partsL (xs.getD ss.length zN3))].length) = true := by
    unfold room; rw [List.length_singleton]; exact decide_eq_true (by omega)
   rw [hro, cond_true, wrap_ok (n := (ss.length : Int) + 1) (by omega) (by omega), ← len_one ss (szF ss 1 (partsL (xs.getD ss.length zN3)))]
   refine sizes_loop hp m (ss ++ [szF ss 1 (partsL (xs.getD ss.length zN3))]) ⟨by simp; omega, fun v v0 v1 => ?_, fun t ht => ?_⟩ (by simp; omega)
   ·by_cases hv : v < (ss.length : Int)
    ·rw [getD_app (by omega)]; exact h.lo v v0 hv
    ·have : v.toNat = ss.length := by simp at v1; omega
     rw [this, get_pre]
     exact ⟨e2, e3⟩
   ·by_cases hv : t < ss.length
    ·rw [getD_app hv, szF_app _ (fun v hv2 => by
      have := parts_in hp (t := t) (by omega) v hv2
      omega)]
     exact h.eq t hv
    ·have : t = ss.length := by simp at ht; omega
     rw [this, get_pre, szF_app _ hpi]
  ·rw [decide_eq_false (show ¬ (ss.length : Int) < (xs.length : Int) by omega), cond_false]
   exact ⟨ss, rfl, h, by omega⟩
theorem sizes_ok {xs : List Node3} (hp : poolB xs = true) : ∃ ss, spec_l1Sizes N0 xs = some ss ∧ SzOk xs ss ∧ ss.length = xs.length := by
 have := n0
 have hl := poolB_len hp
 obtain ⟨ts, e1, e2, e3⟩ := sizes_loop hp N0 [] ⟨Nat.zero_le _, fun v v0 v1 => by simp at v1; omega, fun t ht => by simp at ht⟩ (by simp; omega)
 refine ⟨ts, ?_, e2, e3⟩
 unfold spec_l1Sizes
 have e1 : spec_l1Sizes_L3 N0 N0 (xs, ([] : List Int), (0 : Int)) = some ts := e1
 rw [e1]; rfl
theorem name_new {xs : List Node3} {ys : List Node3} {t : Int} {a : Int} (hp : poolB xs = true) (h0 : 0 ≤ a) (h1 : a ≤ 199) : nodeV N0 (1, a, 0, (xs.length : Int)) = true := by
 have hr : ∀ v lo hi : Int, impl_inRange N0 (v, lo, hi) = some (decide (v ≥ lo) && decide (v ≤ hi)) := fun v lo hi => by
  unfold impl_inRange
  cases q : decide (v ≥ lo) <;> (simp [q])
 show (impl_nodeOk N0 (1, a, 0, (xs.length : Int))).getD false = true
 unfold impl_nodeOk
 dsimp only
 rw [hr, show impl_count N0 1 = some 0 from rfl]
 simp only [Option.bind_some, beq_self_eq_true, cond_true, decide_eq_true h0, decide_eq_true h1, Bool.and_self]
 rfl
theorem digest_new {i : Nat} (h0 : 0 < i) (hi : i ≤ 4294967296) : nodeV N0 (5, (i : Int) - 1, 0, (i : Int)) = true := by
 have w : IntKind.i64.wrap ((i : Int) - (1 : Int)) = (i : Int) - 1 := wrap_ok (by omega) (by omega)
 have hr : ∀ v lo hi : Int, impl_inRange N0 (v, lo, hi) = some (decide (v ≥ lo) && decide (v ≤ hi)) := fun v lo hi => by
  unfold impl_inRange
  cases q : decide (v ≥ lo) <;> (simp [q])
 show (impl_nodeOk N0 (5, (i : Int) - 1, 0, (i : Int))).getD false = true
 unfold impl_nodeOk
 dsimp only
 rw [w, hr, hr, hr, show impl_count N0 5 = some 1 from rfl]
 simp only [Option.bind_some, show ((1 : Int) == 0) = false from rfl, beq_self_eq_true, cond_true, cond_false, decide_eq_true (show (i : Int) - 1 ≥ 0 by omega), decide_eq_true (show (i : Int) - 1 ≤ (i : Int) - 1 by omega), Bool.and_self]
 rfl
theorem any_loop {b : List Int} {i h : Int} {l0 : List Node3} : ∀ (m : Nat) (xs : List Node3), poolB xs = true → 500 < m + xs.length → ∃ ys, spec_l1DrawAny_L9 N0 m (b, i, h, l0, xs) = some (b, i, h, l0, ys) ∧ ys.length ≤ 500
 | 0, xs, hp, hm => by have := poolB_len hp; omega
 | m + 1, xs, hp, hm => by
  have hl := poolB_len hp
  unfold spec_l1DrawAny_L9
  dsimp only
  by_cases hq : xs.length < 500
  ·rw [decide_eq_true (show (xs.length : Int) < 500 by omega), cond_true, show ((200 : Int) != 0) = true from rfl, cond_true]
   obtain ⟨ys, t, e1, p1, l1, l2⟩ := add_more hp 1 (((xs.length : Int)).tmod 200) 0
   rw [e1, Option.bind_some]
   dsimp only
   have hyl := poolB_len p1
   have hpos : 0 < ys.length := by
    by_cases hz : xs.length = 0
    ·obtain rfl := List.eq_nil_of_length_eq_zero hz
     rw [specAdd_eq hp] at e1
     have ha : addP [] 1 (((([] : List Node3).length : Int)).tmod 200) 0 = some ([(1, 0, 0)], 0) := by
      have hn := name_new (ys := []) (t := 0) (a := 0) (xs := []) hp (by decide) (by decide)
      show addK [] (1, 0, 0) = _
      unfold addK
      rw [show nodeV N0 (((1 : Int), (0 : Int), (0 : Int)).1, ((1 : Int), (0 : Int), (0 : Int)).2.1, ((1 : Int), (0 : Int), (0 : Int)).2.2, ((([] : List Node3).length : Nat) : Int)) = true from hn]
      rfl
     rw [ha] at e1
     obtain ⟨rfl, _⟩ := Prod.mk.inj (Option.some.inj e1)
     exact Nat.zero_lt_one
    ·omega
   rw [wrap_ok (n := (ys.length : Int) - 1) (by omega) (by omega)]
   by_cases hy : ys.length < 500
   ·have hn := digest_new hpos (by omega)
    have hf : pfind ys (5, (ys.length : Int) - 1, 0) = none := by
     cases hf : pfind ys (5, (ys.length : Int) - 1, 0) with
     | none => rfl
     | some j =>
      exfalso
      obtain ⟨_, j1, j2⟩ := pf_some hf
      have hj := nodeV_kind (by omega) (poolB_nd p1 (j := j) (by omega))
      rw [j2] at hj
      dsimp only at hj
      omega
    have ha : addP ys 5 ((ys.length : Int) - 1) 0 = some (ys ++ [(5, (ys.length : Int) - 1, 0)], (ys.length : Int)) := by
     show addK ys (5, (ys.length : Int) - 1, 0) = _
     unfold addK
     dsimp only
     rw [hn, cond_true, hf]
     dsimp only
     rw [if_neg (by omega)]
    have p2 := (addP_grown p1 ha).1.1
    rw [specAdd_eq p1, ha]
    rw [Option.bind_some]
    exact any_loop m (ys ++ [(5, (ys.length : Int) - 1, 0)]) p2 (by rw [List.length_append, List.length_singleton]; omega)
   ·obtain ⟨zs, u, e2, p2, l3, l4⟩ := add_more p1 5 ((ys.length : Int) - 1) 0
    rw [e2, Option.bind_some]
    have := poolB_len p2
    exact any_loop m zs p2 (by omega)
  ·rw [decide_eq_false (show ¬ (xs.length : Int) < 500 by omega), cond_false]
   exact ⟨xs, rfl, hl⟩
theorem anyTail {b : List Int} {i : Int} (h : Int) (xs : List Node3) (hx : xs.length ≤ 501) (hc : Cu b i) : ∃ i' h' ys, ((spec_l1Once N0 (b, i, h, (80 : Int))).bind fun r5 => (cond r5.2.2.2 ((spec_l1DrawAny_L9 N0 N0 (r5.1, r5.2.1, r5.2.2.1, [], ([] : List Node3))).bind fun e8 => (some (e8.1, e8.2.1, e8.2.2.1, e8.2.2.2.2))) (some (r5.1, r5.2.1, r5.2.2.1, xs)))) = some (b, i', h', ys) ∧ Cu b i' ∧ ys.length ≤ 501 := by
 obtain ⟨i1, h1, v1, e1, c1⟩ := once_ok N0 h 80 hc
 rw [e1, Option.bind_some]
 dsimp only
 cases v1 with
 | true =>
  have := n0
  obtain ⟨ys, e2, l2⟩ := any_loop (b := b) (i := i1) (h := h1) (l0 := []) N0 [] poolB_nil (by simp; omega)
  rw [cond_true, e2, Option.bind_some]
  exact ⟨_, _, _, rfl, c1, (show ys.length ≤ 501 by omega)⟩
 | false => exact ⟨_, _, _, rfl, c1, hx⟩
theorem room_small {α : Type} {xs : List α} (h : xs.length ≤ 1000) {k : α} : room (xs.length + [k].length) = true := by
 unfold room; rw [List.length_singleton]; exact decide_eq_true (by omega)
theorem drawAny_ok {b : List Int} {i : Int} (h : Int) (hc : Cu b i) : ∃ i' h' xs, spec_l1DrawAny N0 (b, i, h) = some (b, i', h', xs) ∧ Cu b i' ∧ xs.length ≤ 501 := by
 unfold spec_l1DrawAny
 dsimp only
 obtain ⟨i1, h1, xs, e1, c1, p1, l1⟩ := drawPool_ok h (k := 24) (by decide) (by decide) hc
 rw [e1, Option.bind_some]
 dsimp only
 obtain ⟨i2, h2, v2, e2, c2, _⟩ := below_ok N0 h1 25 c1
 rw [e2, Option.bind_some]
 dsimp only
 have cp := copyS_eq (xs := xs) (by omega)
 cases (v2 == 0) with
 | true =>
  rw [cond_true, cp, Option.bind_some]
  obtain ⟨i3, h3, kd, x, y, e3, c3⟩ := drawNode_ok N0 h2 (k := 3) (by decide) c2
  rw [e3, Option.bind_some]
  dsimp only
  rw [room_small (by omega), cond_true]
  exact anyTail h3 _ (by simp; omega) c3
 | false =>
  rw [cond_false]
  cases (v2 == 1) with
  | true =>
   rw [cond_true, cp, Option.bind_some]
   obtain ⟨i3, h3, v3, e3, c3, _⟩ := below_ok N0 h2 10 c2
   rw [e3, Option.bind_some]
   dsimp only
   obtain ⟨i4, h4, v4, e4, c4, _⟩ := below_ok N0 h3 30 c3
   rw [e4, Option.bind_some]
   dsimp only
   obtain ⟨i5, h5, v5, e5, c5, _⟩ := below_ok N0 h4 30 c4
   rw [e5, Option.bind_some]
   dsimp only
   rw [room_small (by omega), cond_true]
   exact anyTail h5 _ (by simp; omega) c5
  | false =>
   rw [cond_false]
   exact anyTail h2 _ (by omega) c2
theorem envNew_loop : ∀ (m : Nat) (l : List Int), l.length ≤ 26 → 26 < m + l.length → ∃ e, spec_EnvNew_L3 N0 m (l, (l.length : Int)) = some e ∧ e.length = 26 ∧ ((∀ v ∈ l, v = -1) → ∀ v ∈ e, v = -1)
 | 0, l, h, hm => by omega
 | m + 1, l, h, hm => by
  unfold spec_EnvNew_L3
  dsimp only
  by_cases hq : l.length < 26
  ·rw [decide_eq_true (show (l.length : Int) < 26 by omega), cond_true, room_small (by omega), cond_true, wrap_ok (n := (l.length : Int) + 1) (by omega) (by omega), ← len_one l (-1)]
   obtain ⟨e, e1, e2, e3⟩ := envNew_loop m (l ++ [-1]) (by simp; omega) (by simp; omega)
   refine ⟨e, e1, e2, fun hl => e3 fun v hv => ?_⟩
   rcases List.mem_append.1 hv with q | q
   ·exact hl v q
   ·exact List.mem_singleton.1 q
  ·rw [decide_eq_false (show ¬ (l.length : Int) < 26 by omega), cond_false]
   exact ⟨l, rfl, by omega, fun h => h⟩
theorem envNew_ok : ∃ e, spec_EnvNew N0 () = some e ∧ e.length = 26 ∧ ∀ v ∈ e, v = -1 := by
 unfold spec_EnvNew
 have := n0
 obtain ⟨e, e1, e2, e3⟩ := envNew_loop N0 [] (by simp) (by omega)
 have e1 : spec_EnvNew_L3 N0 N0 (([] : List Int), (0 : Int)) = some e := e1
 rw [e1, Option.bind_some]
 exact ⟨e, rfl, e2, e3 (fun v hv => by cases hv)⟩
theorem drawEnv_loop {b : List Int} {xs : List Node3} (hx : xs.length ≤ 4294967296) : ∀ (m : Nat) (i h : Int) (env : List Int) (j : Nat), Cu b i → env.length = 26 → 6 < m + j → j ≤ 6 → ∃ i' h' e, spec_l11DrawEnv_L3 N0 m (b, i, h, xs, env, (j : Int)) = some (b, i', h', xs, e) ∧ Cu b i' ∧ e.length = 26
 | 0, i, h, env, j, hc, he, hm, hj => by omega
 | m + 1, i, h, env, j, hc, he, hm, hj => by
  unfold spec_l11DrawEnv_L3
  dsimp only
  obtain ⟨i1, h1, v1, e1, c1, b1⟩ := below_ok N0 h 6 hc
  rw [e1, Option.bind_some]
  dsimp only
  have hv : 0 ≤ v1 ∧ v1 < 6 := by
   rcases b1 with ⟨q, _⟩ | q
   ·omega
   ·exact q
  by_cases hq : (j : Int) < v1
  ·rw [decide_eq_true hq, cond_true]
   cases decide ((xs.length : Int) > 0) with
   | false => exact ⟨_, _, _, rfl, c1, he⟩
   | true =>
    rw [cond_true]
    unfold spec_l11DrawEnv_R5
    dsimp only
    obtain ⟨i2, h2, v2, e2, c2, b2⟩ := below_ok N0 h1 5 c1
    rw [e2, Option.bind_some]
    dsimp only
    obtain ⟨i3, h3, v3, e3, c3, b3⟩ := draw_ok N0 h2 (k := (xs.length : Int)) (by omega) c2
    rw [e3, Option.bind_some]
    dsimp only
    have hv2 : 0 ≤ v2 ∧ v2 < 5 := by
     rcases b2 with ⟨q, _⟩ | q
     ·omega
     ·exact q
    have hin : inb v2 env.length = true := by
     rw [show v2 = ((v2.toNat : Nat) : Int) by omega]
     exact inb_nat (by omega)
    rw [hin, cond_true, Option.bind_some]
    dsimp only
    rw [wrap_ok (n := (j : Int) + 1) (by omega) (by omega), show (j : Int) + 1 = ((j + 1 : Nat) : Int) by omega]
    exact drawEnv_loop hx m i3 h3 _ (j + 1) c3 (by rw [List.length_set]; exact he) (by omega) (by omega)
  ·rw [decide_eq_false hq, cond_false]
   exact ⟨_, _, _, rfl, c1, he⟩
theorem drawEnv_ok {b : List Int} {i : Int} (h : Int) {xs : List Node3} (hx : xs.length ≤ 4294967296) (hc : Cu b i) : ∃ i' h' e, spec_l11DrawEnv N0 (b, i, h, xs) = some (b, i', h', e) ∧ Cu b i' ∧ e.length ≤ 26 := by
 unfold spec_l11DrawEnv
 dsimp only
 obtain ⟨e0, q1, q2, _⟩ := envNew_ok
 rw [q1, Option.bind_some]
 have := n0
 obtain ⟨i1, h1, e1, q3, c1, q4⟩ := drawEnv_loop hx N0 i h e0 0 hc q2 (by omega) (by omega)
 rw [show ((0 : Nat) : Int) = (0 : Int) from rfl] at q3
 rw [q3, Option.bind_some]
 dsimp only
 obtain ⟨i2, h2, v2, e2, c2, _⟩ := below_ok N0 h1 30 c1
 rw [e2, Option.bind_some]
 dsimp only
 cases (v2 == 0) with
 | true =>
  have hr : rng (1 : Int) (e1.length : Int) e1.length = true := by unfold rng; exact decide_eq_true (by omega)
  rw [cond_true, hr, cond_true]
  refine ⟨_, _, _, rfl, c2, ?_⟩
  show ((e1.take _).drop _).length ≤ 26
  rw [List.length_drop, List.length_take]
  omega
 | false =>
  rw [cond_false]
  cases (v2 == 1) with
  | true =>
   rw [cond_true]
   obtain ⟨i3, h3, v3, e3, c3, _⟩ := pickInt_ok N0 h2 [(-2 : Int), (xs.length : Int)] (by simp) c2
   rw [e3, Option.bind_some]
   dsimp only
   rw [show (7 : Int) = ((7 : Nat) : Int) from rfl, inb_nat (show 7 < e1.length by omega), cond_true]
   exact ⟨_, _, _, rfl, c3, by rw [List.length_set]; omega⟩
  | false => exact ⟨_, _, _, rfl, c2, by omega⟩
theorem size_app (a b : ByteArray) : (a ++ b).size = a.size + b.size := ByteArray.size_append
theorem size_bytes (l : List Int) : (bytesOf l).size = l.length := by
 show (l.map _).toArray.size = _
 rw [List.size_toArray, List.length_map]
theorem sub_size (s : ByteArray) (l h : Int) : (sub s l h).size ≤ s.size := by
 unfold sub
 rw [ByteArray.size_extract]
 omega
theorem num_loop : ∀ (k m : Nat) (x : Int) (s : ByteArray), 0 ≤ x → x ≤ 1000000 → x < 10 ^ k → k < m → s.size + k ≤ 1000 → ∃ r, spec_l4Num_L4 N0 m (x, s) = some r ∧ r.size ≤ s.size + k
 | _, 0, x, s, _, _, _, h, _ => by omega
 | 0, m + 1, x, s, h0, hx, h1, hm, hs => by
  unfold spec_l4Num_L4
  dsimp only
  rw [decide_eq_false (show ¬ x > 0 by have : (10 : Int) ^ 0 = 1 := rfl; omega), cond_false]
  exact ⟨s, rfl, by omega⟩
 | k + 1, m + 1, x, s, h0, hx, h1, hm, hs => by
  unfold spec_l4Num_L4
  dsimp only
  by_cases hq : x > 0
  ·rw [decide_eq_true hq, cond_true, show ((10 : Int) != 0) = true from rfl, cond_true, strRoom_of (by rw [size_bytes, List.length_singleton]; omega), cond_true, cond_true]
   have hd : x.tdiv 10 = x / 10 := Int.tdiv_eq_ediv_of_nonneg h0
   have h2 : x / 10 < 10 ^ k := by
    rw [Int.pow_succ] at h1
    omega
   rw [hd, wrap_ok (n := x / 10) (by omega) (by omega)]
   obtain ⟨r, e1, e2⟩ := num_loop k m (x / 10) (bytesOf [(IntKind.u8.wrap (IntKind.i64.wrap ((48 : Int) + (x.tmod (10 : Int)))))] ++ s) (by omega) (by omega) h2 (by omega) (by rw [size_app, size_bytes, List.length_singleton]; omega)
   exact ⟨r, e1, by rw [size_app, size_bytes, List.length_singleton] at e2; omega⟩
  ·rw [decide_eq_false hq, cond_false]
   exact ⟨s, rfl, by omega⟩
theorem num_ok {x : Int} (h0 : 0 ≤ x) (h1 : x ≤ 199) : ∃ r, spec_l4Num N0 x = some r ∧ r.size ≤ 3 := by
 unfold spec_l4Num
 by_cases hq : x ≤ 0
 ·rw [decide_eq_true hq, cond_true]
  exact ⟨_, rfl, by decide⟩
 ·rw [decide_eq_false hq, cond_false]
  have := n0
  obtain ⟨r, e1, e2⟩ := num_loop 3 N0 x (⟨#[]⟩ : ByteArray) h0 (by omega) (by have : (10 : Int) ^ 3 = 1000 := rfl; omega) (by omega) (by decide)
  rw [e1, Option.bind_some]
  exact ⟨r, rfl, e2⟩
theorem pick_ok (n : Nat) {b : List Int} {i : Int} (h : Int) (l : List ByteArray) (k : Nat) (hl : l ≠ []) (hk : ∀ s ∈ l, s.size ≤ k) (hc : Cu b i) : ∃ i' h' v, spec_l1Pick n (b, i, h, l) = some (b, i', h', v) ∧ Cu b i' ∧ v.size ≤ k := by
 unfold spec_l1Pick
 dsimp only
 obtain ⟨i1, h1, v1, e1, c1, hb⟩ := below_ok n h (l.length : Int) hc
 have hpos : 0 < l.length := List.length_pos_iff.2 hl
 rw [e1, Option.bind_some]
 dsimp only
 have hv : 0 ≤ v1 ∧ v1 < (l.length : Int) := by
  rcases hb with ⟨q, _⟩ | q
  ·omega
  ·exact q
 have e : v1 = ((v1.toNat : Nat) : Int) := by omega
 have hin : inb v1 l.length = true := by rw [e]; exact inb_nat (by omega)
 rw [hin, cond_true]
 refine ⟨_, _, _, rfl, c1, hk _ ?_⟩
 rw [List.getD_eq_getElem?_getD, List.getElem?_eq_getElem (by omega), Option.getD_some]
 exact List.getElem_mem _
theorem signs_ok (k : Int) : ∃ o e, spec_l10Signs N0 k = some (o, e) ∧ o.size ≤ 2 ∧ e.size ≤ 1 := by
 unfold spec_l10Signs
 cases (k == 2) <;> cases (k == 3) <;> cases (k == 4) <;> cases (k == 5) <;> cases (k == 6) <;> cases (k == 7) <;> exact ⟨_, _, rfl, by decide, by decide⟩
theorem letters_ok {b : List Int} {xs : List Node3} {env : List Int} {t kd a c : Int} (rec_ : List Int × Int × Int × List Node3 × Int × List Int → Option (List Int × Int × Int × ByteArray)) : ∀ (m : Nat) (i h : Int) (j : Nat), Cu b i → j ≤ 5 → 5 < m + j →
  (∃ i' h' s, spec_l11DrawOf_L5 N0 rec_ m (b, i, h, t, env, xs, kd, a, c, (j : Int)) = some (Sum.inl (b, i', h', s)) ∧ Cu b i' ∧ s.size ≤ 2) ∨ (∃ i' h', spec_l11DrawOf_L5 N0 rec_ m (b, i, h, t, env, xs, kd, a, c, (j : Int)) = some (Sum.inr (b, i', h', env, xs, kd, a, c)) ∧ Cu b i')
 | 0, i, h, j, hc, hj, hm => by omega
 | m + 1, i, h, j, hc, hj, hm => by
  unfold spec_l11DrawOf_L5
  dsimp only
  by_cases hq : j < 5
  ·rw [decide_eq_true (show (j : Int) < 5 by omega), cond_true]
   by_cases he : (env.length : Int) = 26
   ·have hin : inb (j : Int) env.length = true := inb_nat (by omega)
    rw [show ((env.length : Int) == 26) = true from by rw [beq_iff_eq]; exact he, cond_true, hin, cond_true]
    have w : IntKind.i64.wrap ((j : Int) + 1) = ((j + 1 : Nat) : Int) := by rw [wrap_ok (by omega) (by omega)]; omega
    rw [w]
    cases (env.getD ((j : Int)).toNat 0 == t) with
    | true =>
     rw [cond_true]
     obtain ⟨i1, h1, v1, e1, c1⟩ := once_ok N0 h 2 hc
     rw [e1, Option.bind_some]
     dsimp only
     cases v1 with
     | true =>
      rw [cond_true, strRoom_of (by rw [size_bytes, List.length_singleton]; decide), cond_true]
      exact .inl ⟨_, _, _, rfl, c1, by rw [size_app, size_bytes, List.length_singleton]; decide⟩
     | false =>
      rw [cond_false]
      exact letters_ok rec_ m i1 h1 (j + 1) c1 (by omega) (by omega)
    | false =>
     rw [cond_false]
     exact letters_ok rec_ m i h (j + 1) hc (by omega) (by omega)
   ·rw [show ((env.length : Int) == 26) = false from by rw [beq_eq_false_iff_ne]; exact he, cond_false]
    exact .inr ⟨_, _, rfl, hc⟩
  ·rw [decide_eq_false (show ¬ (j : Int) < 5 by omega), cond_false]
   exact .inr ⟨_, _, rfl, hc⟩
theorem drawOf_ok {xs : List Node3} {ss : List Int} (hp : poolB xs = true) (hs : SzOk xs ss) (hl : ss.length = xs.length) (t : Nat) : ∀ (k : Nat) (b : List Int) (i h : Int) (env : List Int), t < xs.length → t < k → ss.getD t 0 < 40 → Cu b i → ∃ i' h' s, spec_l11DrawOf N0 k (b, i, h, xs, (t : Int), env) = some (b, i', h', s) ∧ Cu b i' ∧ (s.size : Int) ≤ 8 * ss.getD t 0 := by
 induction t using Nat.strongRecOn with
 | ind t ih =>
  intro k b i h env ht hk h40 hc
  obtain ⟨k, rfl⟩ : ∃ j, k = j + 1 := ⟨k - 1, by omega⟩
  show ∃ i' h' s, spec_l11DrawOf_body N0 (spec_l11DrawOf N0 k) (b, i, h, xs, (t : Int), env) = _ ∧ _ ∧ _
  have hxl := poolB_len hp
  have hN := n0
  obtain ⟨s1, _⟩ := hs.lo (t : Int) (by omega) (by omega)
  rw [Int.toNat_natCast] at s1
  unfold spec_l11DrawOf_body
  dsimp only
  rw [inb_nat ht, cond_true, Int.toNat_natCast]
  obtain ⟨i1, h1, v1, e1, c1⟩ := once_ok N0 h 4 hc
  rw [e1, Option.bind_some]
  dsimp only
  cases v1 with
  | true =>
   rw [cond_true]
   obtain ⟨i2, h2, v2, e2, c2, q2⟩ := pick_ok N0 h1 [(⟨#[97]⟩ : ByteArray), (⟨#[98]⟩ : ByteArray), (⟨#[99]⟩ : ByteArray), (⟨#[100]⟩ : ByteArray), (⟨#[101]⟩ : ByteArray), (⟨#[102]⟩ : ByteArray)] 1 (by simp) (by decide) c1
   have z : (⟨#[63]⟩ : ByteArray).size = 1 := rfl
   rw [e2, Option.bind_some]
   dsimp only
   rw [strRoom_of (by omega), cond_true]
   exact ⟨_, _, _, rfl, c2, by rw [size_app]; omega⟩
  | false =>
   rw [cond_false]
   have hkind := nodeV_kind (by omega) (poolB_nd hp ht)
   have heq := hs.eq t (by omega)
   have hpi := parts_in hp ht
   generalize xs.getD t zN3 = X at hkind heq hpi ⊢
   obtain ⟨kd, a, c⟩ := X
   dsimp only at hkind ⊢
   rcases letters_ok (b := b) (xs := xs) (env := env) (t := (t : Int)) (kd := kd) (a := a) (c := c) (spec_l11DrawOf N0 k) N0 i1 h1 0 c1 (by omega) (by omega) with ⟨i2, h2, s, e2, c2, q2⟩ | ⟨i2, h2, e2, c2⟩
   ·rw [show ((0 : Nat) : Int) = (0 : Int) from rfl] at e2
    rw [e2, Option.bind_some]
    exact ⟨_, _, _, rfl, c2, (show (s.size : Int) ≤ _ by omega)⟩
   ·rw [show ((0 : Nat) : Int) = (0 : Int) from rfl] at e2
    rw [e2, Option.bind_some]
    dsimp only
    rcases hkind with ⟨rfl, a0, a1⟩ | ⟨hk5, a0, a1⟩ | ⟨hk2, a0, a1, d0, d1⟩
    ·obtain ⟨r, r1, r2⟩ := num_ok a0 a1
     have z : (⟨#[110]⟩ : ByteArray).size = 1 := rfl
     rw [show ((1 : Int) == 1) = true from rfl, cond_true, r1, Option.bind_some, strRoom_of (by omega), cond_true]
     exact ⟨_, _, _, rfl, c2, by rw [size_app]; omega⟩
    ·obtain ⟨o, e, g1, g2, g3⟩ := signs_ok kd
     have hne : (kd == 1) = false := by rw [beq_eq_false_iff_ne]; omega
     have hpt : spec_l1Parts N0 kd = some 1 := by rcases hk5 with rfl | rfl <;> rfl
     have hsz : ss.getD t 0 = min (1 + ss.getD a.toNat 0) 1001 := by rw [heq]; rcases hk5 with rfl | rfl <;> rfl
     rw [hne, cond_false, g1, Option.bind_some]
     dsimp only
     have ea : a = ((a.toNat : Nat) : Int) := by omega
     obtain ⟨i3, h3, s3, e3, c3, q3⟩ := ih a.toNat (by omega) k b i2 h2 env (by omega) (by omega) (by omega) c2
     rw [← ea] at e3
     rw [e3, Option.bind_some]
     dsimp only
     rw [strRoom_of (by omega), cond_true, hpt, Option.bind_some, show ((1 : Int) == 1) = true from rfl, cond_true]
     exact ⟨_, _, _, rfl, c3, by rw [size_app]; omega⟩
    ·obtain ⟨o, e, g1, g2, g3⟩ := signs_ok kd
     have hne : (kd == 1) = false := by rw [beq_eq_false_iff_ne]; omega
     have hpt : spec_l1Parts N0 kd = some 2 := by rcases hk2 with rfl | rfl | rfl | rfl | rfl <;> rfl
     have hsz : ss.getD t 0 = min (min (1 + ss.getD a.toNat 0) 1001 + ss.getD c.toNat 0) 1001 := by rw [heq]; rcases hk2 with rfl | rfl | rfl | rfl | rfl <;> rfl
     have sa := (hs.lo a a0 (by omega)).1
     have sc := (hs.lo c d0 (by omega)).1
     rw [hne, cond_false, g1, Option.bind_some]
     dsimp only
     have ea : a = ((a.toNat : Nat) : Int) := by omega
     have ec : c = ((c.toNat : Nat) : Int) := by omega
     obtain ⟨i3, h3, s3, e3, c3, q3⟩ := ih a.toNat (by omega) k b i2 h2 env (by omega) (by omega) (by omega) c2
     rw [← ea] at e3
     rw [e3, Option.bind_some]
     dsimp only
     have z : (⟨#[44]⟩ : ByteArray).size = 1 := rfl
     rw [strRoom_of (by omega), cond_true, hpt, Option.bind_some, show ((2 : Int) == 1) = false from rfl, cond_false, strRoom_of (by rw [size_app]; omega), cond_true]
     obtain ⟨i4, h4, s4, e4, c4, q4⟩ := ih c.toNat (by omega) k b i3 h3 env (by omega) (by omega) (by omega) c3
     rw [← ec] at e4
     rw [e4, Option.bind_some]
     dsimp only
     rw [strRoom_of (by rw [size_app, size_app]; omega), cond_true, strRoom_of (by rw [size_app, size_app, size_app]; omega), cond_true]
     exact ⟨_, _, _, rfl, c4, by rw [size_app, size_app, size_app, size_app]; omega⟩
theorem rng_in {l : Int} {n : Nat} (h0 : 0 ≤ l) (h1 : l ≤ (n : Int)) : rng 0 l n = true ∧ rng l (n : Int) n = true := ⟨decide_eq_true (by omega), decide_eq_true (by omega)⟩
theorem dent_ok {b : List Int} {i : Int} (h : Int) {s : ByteArray} (l : List ByteArray) (hl : l ≠ []) (hk : ∀ s ∈ l, s.size ≤ 2) (hs : s.size ≤ 1000) (hc : Cu b i) : ∃ i' h' r, spec_l4Dent N0 (b, i, h, s, l) = some (b, i', h', r) ∧ Cu b i' ∧ r.size ≤ 2002 := by
 unfold spec_l4Dent
 dsimp only
 rw [wrap_ok (n := (s.size : Int) + 1) (by omega) (by omega)]
 obtain ⟨i1, h1, v1, e1, c1, b1⟩ := below_ok N0 h ((s.size : Int) + 1) hc
 have hv : 0 ≤ v1 ∧ v1 ≤ (s.size : Int) := by
  rcases b1 with ⟨q, _⟩ | q
  ·omega
  ·omega
 rw [e1, Option.bind_some]
 dsimp only
 obtain ⟨i2, h2, v2, e2, c2, _⟩ := below_ok N0 h1 3 c1
 rw [e2, Option.bind_some]
 dsimp only
 obtain ⟨r1, r2⟩ := rng_in hv.1 hv.2
 have z1 := sub_size s 0 v1
 cases (v2 == 0) with
 | true =>
  rw [cond_true, r1, cond_true]
  exact ⟨_, _, _, rfl, c2, (show (sub s 0 v1).size ≤ 2002 by omega)⟩
 | false =>
  rw [cond_false]
  obtain ⟨i3, h3, v3, e3, c3, q3⟩ := pick_ok N0 h2 l 2 hl hk c2
  cases (v2 == 1) with
  | true =>
   rw [cond_true]
   unfold spec_l4Dent_R6
   dsimp only
   rw [r1, cond_true, e3, Option.bind_some]
   dsimp only
   rw [strRoom_of (by omega), cond_true, wrap_ok (n := v1 + 1) (by omega) (by omega)]
   obtain ⟨u, hu, u0, u1⟩ : ∃ u, spec_l1Min N0 (v1 + 1, (s.size : Int)) = some u ∧ 0 ≤ u ∧ u ≤ (s.size : Int) := by
    unfold spec_l1Min
    dsimp only
    by_cases q : v1 + 1 < (s.size : Int)
    ·rw [decide_eq_true q, cond_true]; exact ⟨_, rfl, by omega, by omega⟩
    ·rw [decide_eq_false q, cond_false]; exact ⟨_, rfl, by omega, by omega⟩
   have z2 := sub_size s u (s.size : Int)
   rw [hu, Option.bind_some, (rng_in u0 u1).2, cond_true, strRoom_of (by rw [size_app]; omega), cond_true, Option.bind_some]
   exact ⟨_, _, _, rfl, c3, by rw [size_app, size_app]; omega⟩
  | false =>
   rw [cond_false]
   unfold spec_l4Dent_R7
   dsimp only
   have z2 := sub_size s v1 (s.size : Int)
   rw [r1, cond_true, e3, Option.bind_some]
   dsimp only
   rw [strRoom_of (by omega), cond_true, r2, cond_true, strRoom_of (by rw [size_app]; omega), cond_true, Option.bind_some]
   exact ⟨_, _, _, rfl, c3, by rw [size_app, size_app]; omega⟩
theorem long_loop {b : List Int} : ∀ (m : Nat) (i h : Int) (s : ByteArray), Cu b i → s.size ≤ 199 → 199 < m + s.size → ∃ i' h' r, spec_l11DrawText_L8 N0 m (b, i, h, s) = some (b, i', h', r) ∧ Cu b i' ∧ r.size ≤ 199
 | 0, i, h, s, hc, hs, hm => by omega
 | m + 1, i, h, s, hc, hs, hm => by
  unfold spec_l11DrawText_L8
  dsimp only
  obtain ⟨i1, h1, v1, e1, c1, b1⟩ := below_ok N0 h 2 hc
  rw [e1, Option.bind_some]
  dsimp only
  have hv : 0 ≤ v1 ∧ v1 < 2 := by
   rcases b1 with ⟨q, _⟩ | q
   ·omega
   ·exact q
  have z : (⟨#[35]⟩ : ByteArray).size = 1 := rfl
  rw [wrap_ok (n := 198 + v1) (by omega) (by omega)]
  by_cases hq : (s.size : Int) < 198 + v1
  ·rw [decide_eq_true hq, cond_true, strRoom_of (by omega), cond_true]
   exact long_loop m i1 h1 (s ++ (⟨#[35]⟩ : ByteArray)) c1 (by rw [size_app]; omega) (by rw [size_app]; omega)
  ·rw [decide_eq_false hq, cond_false]
   exact ⟨_, _, _, rfl, c1, hs⟩
theorem textTail {b : List Int} {i : Int} (h : Int) (s : ByteArray) (hs : s.size ≤ 2002) (hc : Cu b i) : ∃ i' h' r, (((spec_l1Once N0 (b, i, h, (60 : Int))).bind fun r9 => (cond r9.2.2.2 ((spec_l11DrawText_L8 N0 N0 (r9.1, r9.2.1, r9.2.2.1, (⟨#[]⟩ : ByteArray))).bind fun e11 => (cond (strRoom e11.2.2.2 (⟨#[36, 97]⟩ : ByteArray)) (some (e11.1, e11.2.1, e11.2.2.1, (e11.2.2.2 ++ (⟨#[36, 97]⟩ : ByteArray)))) none)) (some (r9.1, r9.2.1, r9.2.2.1, s))))) = some (b, i', h', r) ∧ Cu b i' ∧ r.size ≤ 2002 := by
 obtain ⟨i1, h1, v1, e1, c1⟩ := once_ok N0 h 60 hc
 rw [e1, Option.bind_some]
 dsimp only
 cases v1 with
 | true =>
  have := n0
  obtain ⟨i2, h2, r, e2, c2, q2⟩ := long_loop N0 i1 h1 (⟨#[]⟩ : ByteArray) c1 (by decide) (by have : (⟨#[]⟩ : ByteArray).size = 0 := rfl; omega)
  have z : (⟨#[36, 97]⟩ : ByteArray).size = 2 := rfl
  rw [cond_true, e2, Option.bind_some]
  dsimp only
  rw [strRoom_of (by omega), cond_true]
  exact ⟨_, _, _, rfl, c2, by rw [size_app]; omega⟩
 | false => exact ⟨_, _, _, rfl, c1, hs⟩
theorem drawText_ok {b : List Int} {i : Int} (h : Int) {xs : List Node3} (hx : xs.length ≤ 4294967296) (t : Int) (env : List Int) (hc : Cu b i) : ∃ i' h' r, spec_l11DrawText N0 (b, i, h, xs, t, env) = some (b, i', h', r) ∧ Cu b i' ∧ r.size ≤ 2002 := by
 have hN := n0
 unfold spec_l11DrawText
 dsimp only
 obtain ⟨i1, h1, s1, e1, c1, q1⟩ := pick_ok N0 h [(⟨#[110, 53]⟩ : ByteArray), (⟨#[36, 97]⟩ : ByteArray), (⟨#[63, 97]⟩ : ByteArray), (⟨#[40, 63, 97, 44, 63, 97, 41]⟩ : ByteArray), (⟨#[40, 63, 97, 44, 36, 97, 41]⟩ : ByteArray), (⟨#[123, 63, 97, 44, 36, 98, 125]⟩ : ByteArray), (⟨#[120, 40, 36, 97, 44, 36, 98, 41]⟩ : ByteArray), (⟨#[35, 36, 97]⟩ : ByteArray), (⟨#[94, 36, 97]⟩ : ByteArray), (⟨#[107, 40, 63, 97, 44, 110, 53, 41]⟩ : ByteArray), (⟨#[91, 63, 97, 44, 110, 53, 48, 93]⟩ : ByteArray), (⟨#[40, 63, 97]⟩ : ByteArray), (⟨#[36]⟩ : ByteArray), (⟨#[63, 65]⟩ : ByteArray), (⟨#[110, 50, 48, 48]⟩ : ByteArray), (⟨#[]⟩ : ByteArray)] 10 (by simp) (by decide) hc
 rw [e1, Option.bind_some]
 dsimp only
 have pS := specPool_eq N0 n0 hx
 rw [pS, Option.bind_some]
 cases hP : (decide (xs.length ≤ 500) && okFrom N0 [] xs) with
 | false =>
  rw [cond_false]
  obtain ⟨j1, g1, w1, f1, d1⟩ := once_ok N0 h1 9 c1
  rw [f1, Option.bind_some]
  dsimp only
  cases w1 with
  | true =>
   obtain ⟨j2, g2, w2, f2, d2, z2⟩ := dent_ok (s := s1) g1 [(⟨#[63]⟩ : ByteArray), (⟨#[36]⟩ : ByteArray), (⟨#[97]⟩ : ByteArray), (⟨#[40]⟩ : ByteArray), (⟨#[41]⟩ : ByteArray), (⟨#[44]⟩ : ByteArray), (⟨#[110]⟩ : ByteArray), (⟨#[120, 40]⟩ : ByteArray), (⟨#[48]⟩ : ByteArray)] (by simp) (by decide) (by omega) d1
   rw [cond_true, f2, Option.bind_some]
   dsimp only
   exact textTail g2 w2 z2 d2
  | false =>
   rw [cond_false]
   exact textTail g1 _ (by omega) d1
 | true =>
  have hp : poolB xs = true := hP
  rw [cond_true, has_eq N0 hx t, Option.bind_some]
  cases ht : hasB xs t with
  | false =>
   rw [cond_false]
   obtain ⟨j1, g1, w1, f1, d1⟩ := once_ok N0 h1 9 c1
   rw [f1, Option.bind_some]
   dsimp only
   cases w1 with
   | true =>
    obtain ⟨j2, g2, w2, f2, d2, z2⟩ := dent_ok (s := s1) g1 [(⟨#[63]⟩ : ByteArray), (⟨#[36]⟩ : ByteArray), (⟨#[97]⟩ : ByteArray), (⟨#[40]⟩ : ByteArray), (⟨#[41]⟩ : ByteArray), (⟨#[44]⟩ : ByteArray), (⟨#[110]⟩ : ByteArray), (⟨#[120, 40]⟩ : ByteArray), (⟨#[48]⟩ : ByteArray)] (by simp) (by decide) (by omega) d1
    rw [cond_true, f2, Option.bind_some]
    dsimp only
    exact textTail g2 w2 z2 d2
   | false =>
    rw [cond_false]
    exact textTail g1 _ (by omega) d1
  | true =>
   rw [cond_true]
   obtain ⟨i2, h2, v2, e2, c2⟩ := once_ok N0 h1 4 c1
   rw [e2, Option.bind_some]
   dsimp only
   cases v2 with
   | true =>
    rw [Bool.not_true, cond_false]
    obtain ⟨j1, g1, w1, f1, d1⟩ := once_ok N0 h2 9 c2
    rw [f1, Option.bind_some]
    dsimp only
    cases w1 with
    | true =>
     obtain ⟨j2, g2, w2, f2, d2, z2⟩ := dent_ok (s := s1) g1 [(⟨#[63]⟩ : ByteArray), (⟨#[36]⟩ : ByteArray), (⟨#[97]⟩ : ByteArray), (⟨#[40]⟩ : ByteArray), (⟨#[41]⟩ : ByteArray), (⟨#[44]⟩ : ByteArray), (⟨#[110]⟩ : ByteArray), (⟨#[120, 40]⟩ : ByteArray), (⟨#[48]⟩ : ByteArray)] (by simp) (by decide) (by omega) d1
     rw [cond_true, f2, Option.bind_some]
     dsimp only
     exact textTail g2 w2 z2 d2
    | false =>
     rw [cond_false]
     exact textTail g1 _ (by omega) d1
   | false =>
    rw [Bool.not_false, cond_true]
    obtain ⟨ss, g1, g2, g3⟩ := sizes_ok hp
    rw [hasB_iff] at ht
    have et : t = ((t.toNat : Nat) : Int) := by omega
    have hin : inb t ss.length = true := by rw [et]; exact inb_nat (by omega)
    rw [g1, Option.bind_some, hin, cond_true]
    have hl := poolB_len hp
    by_cases h40 : ss.getD t.toNat 0 < 40
    ·rw [decide_eq_true h40, cond_true]
     obtain ⟨i3, h3, s3, e3, c3, q3⟩ := drawOf_ok hp g2 g3 t.toNat N0 b i2 h2 env (by omega) (by omega) h40 c2
     rw [← et] at e3
     rw [e3, Option.bind_some]
     dsimp only
     obtain ⟨j1, g1, w1, f1, d1⟩ := once_ok N0 h3 9 c3
     rw [f1, Option.bind_some]
     dsimp only
     cases w1 with
     | true =>
      obtain ⟨j2, g2, w2, f2, d2, z2⟩ := dent_ok (s := s3) g1 [(⟨#[63]⟩ : ByteArray), (⟨#[36]⟩ : ByteArray), (⟨#[97]⟩ : ByteArray), (⟨#[40]⟩ : ByteArray), (⟨#[41]⟩ : ByteArray), (⟨#[44]⟩ : ByteArray), (⟨#[110]⟩ : ByteArray), (⟨#[120, 40]⟩ : ByteArray), (⟨#[48]⟩ : ByteArray)] (by simp) (by decide) (by omega) d1
      rw [cond_true, f2, Option.bind_some]
      dsimp only
      exact textTail g2 w2 z2 d2
     | false =>
      rw [cond_false]
      exact textTail g1 _ (by omega) d1
    ·rw [decide_eq_false h40, cond_false]
     obtain ⟨j1, g1, w1, f1, d1⟩ := once_ok N0 h2 9 c2
     rw [f1, Option.bind_some]
     dsimp only
     cases w1 with
     | true =>
      obtain ⟨j2, g2, w2, f2, d2, z2⟩ := dent_ok (s := s1) g1 [(⟨#[63]⟩ : ByteArray), (⟨#[36]⟩ : ByteArray), (⟨#[97]⟩ : ByteArray), (⟨#[40]⟩ : ByteArray), (⟨#[41]⟩ : ByteArray), (⟨#[44]⟩ : ByteArray), (⟨#[110]⟩ : ByteArray), (⟨#[120, 40]⟩ : ByteArray), (⟨#[48]⟩ : ByteArray)] (by simp) (by decide) (by omega) d1
      rw [cond_true, f2, Option.bind_some]
      dsimp only
      exact textTail g2 w2 z2 d2
     | false =>
      rw [cond_false]
      exact textTail g1 _ (by omega) d1
theorem l11Draw_ok {b : List Int} (hb : b.length ≤ 4294967296) : ∃ xs env T t, spec_l11Draw N0 b = some (xs, env, T, t) ∧ xs.length ≤ 501 ∧ env.length ≤ 26 ∧ T.size ≤ 2002 := by
 unfold spec_l11Draw
 obtain ⟨h0, e0, c0⟩ := new_ok hb
 rw [e0, Option.bind_some]
 dsimp only
 obtain ⟨i1, h1, xs, e1, c1, q1⟩ := drawAny_ok h0 c0
 rw [e1, Option.bind_some]
 dsimp only
 obtain ⟨i2, h2, t, e2, c2, _⟩ := drawTerm_ok h1 (xs := xs) (by omega) c1
 rw [e2, Option.bind_some]
 dsimp only
 obtain ⟨i3, h3, env, e3, c3, q3⟩ := drawEnv_ok h2 (xs := xs) (by omega) c2
 rw [e3, Option.bind_some]
 dsimp only
 unfold spec_l11Draw_R5
 dsimp only
 obtain ⟨i4, h4, T, e4, c4, q4⟩ := drawText_ok h3 (xs := xs) (by omega) t env c3
 rw [e4, Option.bind_some, Option.bind_some]
 exact ⟨_, _, _, _, rfl, q1, q3, q4⟩
def letByte (c : Int) : Int := IntKind.u8.wrap (IntKind.i64.wrap ((97 : Int) + c))
theorem letters_loop {l : List Piece} (hl : l.length ≤ 1000) : ∀ (r pre : List Piece) (acc : List Int) (m : Nat), l = pre ++ r → acc.length ≤ pre.length → r.length < m → impl_PatLetters_L6 N0 m (acc, l, (l.length : Int), (pre.length : Int)) = some (acc ++ (letsP r).map letByte)
 | _, _, _, 0, _, _, h => by omega
 | [], pre, acc, m + 1, h, ha, hm => by
  subst h
  unfold impl_PatLetters_L6
  dsimp only
  rw [lt_end, cond_false]
  exact congrArg some (List.append_nil acc).symm
 | v :: r, pre, acc, m + 1, h, ha, hm => by
  have hl2 : pre.length + (r.length + 1) ≤ 1000 := by rw [h] at hl; simpa using hl
  have e1 := lt_pre pre r v
  have e2 := in_pre pre r v
  have e3 : l.getD pre.length ((0 : Int), ((0 : Int), [])) = v := by rw [h]; exact get_pre pre r v _
  rw [← h] at e1 e2
  have w : IntKind.i64.wrap ((pre.length : Int) + 1) = ((pre ++ [v]).length : Int) := by rw [len_one, wrap_ok (by omega) (by omega)]
  have ih := fun acc' ha' => letters_loop hl r (pre ++ [v]) acc' m (by rw [h, app_one]) ha' (by simp at hm; omega)
  unfold impl_PatLetters_L6
  dsimp only
  rw [e1, cond_true, e2, cond_true, Int.toNat_natCast, e3, w]
  have hc : letsP (v :: r) = (bif v.1 == 63 then [v.2.1] else []) ++ letsP r := rfl
  rw [hc]
  cases (v.1 == 63) with
  | true =>
   rw [cond_true, room_small (by omega), cond_true, ih _ (by simp; omega)]
   congr 1
   rw [cond_true, List.append_assoc]
   rfl
  | false =>
   rw [cond_false, ih _ (by simp; omega)]
   rfl
theorem patLetters_eq {T : ByteArray} {P : Pat} (h : PatIs T P) : impl_PatLetters N0 T = some (bytesOf (P.lets.map letByte)) := by
 obtain ⟨_, b, l1, l2, e1, _, e2, _, e3, _⟩ := pat_lets h
 have := n0
 unfold impl_PatLetters
 rw [e1, Option.bind_some]
 dsimp only
 have e := letters_loop (l := l1) (by omega) l1 [] [] N0 rfl (Nat.le_refl _) (by omega)
 have e : impl_PatLetters_L6 N0 N0 ([], l1, (l1.length : Int), (0 : Int)) = some ([] ++ (letsP l1).map letByte) := e
 rw [Bool.not_true, cond_false, e, Option.bind_some, e2, List.nil_append]
theorem patOk_eq {T : ByteArray} {P : Pat} (h : PatIs T P) : impl_PatOk N0 T = some true := by
 obtain ⟨_, b, l1, l2, e1, _⟩ := pat_lets h
 unfold impl_PatOk
 rw [e1]; rfl
def pl (c : Int) : Int := if c = 63 then 36 else c
structure Tw (T T' : ByteArray) : Prop where
 sz : T.size ≤ 200
 size : T'.size = T.size
 at_ : ∀ i : Int, bt T' i = pl (bt T i)
 fig : ∀ a : Nat, ((bs T').drop a).takeWhile isD = ((bs T).drop a).takeWhile isD
section
variable {T T' : ByteArray} (h : Tw T T')
include h
end
theorem bs_app (a b : ByteArray) : bs (a ++ b) = bs a ++ bs b := by
 show (a ++ b).data.toList = _
 rw [ByteArray.data_append, Array.toList_append]
theorem bs_sub (T : ByteArray) {j : Nat} (h : j < T.size) : bs (sub T (j : Int) ((j + 1 : Nat) : Int)) = [(bs T)[j]'(by rw [bs_len]; exact h)] := by
 have hl : j < (bs T).length := by rw [bs_len]; exact h
 show (T.extract ((j : Int)).toNat (((j + 1 : Nat) : Int)).toNat).data.toList = _
 rw [ByteArray.data_extract, Array.toList_extract, Int.toNat_natCast, Int.toNat_natCast, List.extract_eq_take_drop]
 rw [show j + 1 - j = 1 by omega]
 show ((bs T).drop j).take 1 = _
 rw [List.drop_eq_getElem_cons hl]
 rfl
theorem envB_good {xs : List Node3} {env : List Int} (he : env.length = 26) (hv : envB xs env = true) : EnvG env := by
 refine ⟨he, fun i hi => ?_⟩
 by_cases hl : i < env.length
 ·have : ∀ (env : List Int), envB xs env = true → ∀ i, i < env.length → env.getD i 0 < 0 → env.getD i 0 = -1 := by
   intro env
   induction env with
   | nil => intro _ i hi _; simp at hi
   | cons v r ih =>
    intro h i hi hn
    have h : ((v == -1 || hasB xs v) && envB xs r) = true := h
    rw [Bool.and_eq_true] at h
    cases i with
    | zero =>
     have hn : v < 0 := hn
     rcases Bool.or_eq_true _ _ ▸ h.1 with q | q
     ·show v = -1
      simpa using q
     ·rw [hasB_iff] at q; omega
    | succ i =>
     exact ih h.2 i (by simpa using hi) hn
  exact this env hv i hl hi
 ·rw [getD_out (by omega)] at hi; omega
theorem drawPatMatch_ok {b : List Int} (hb : b.length ≤ 4294967296) : ∃ xs env T t, spec_DrawPatMatch N0 b = some (xs, env, T, t) ∧ xs.length ≤ 501 ∧ env.length ≤ 26 := by
 unfold spec_DrawPatMatch
 obtain ⟨xs, env, T, t, e1, q1, q2, q3⟩ := l11Draw_ok hb
 rw [e1, Option.bind_some]
 exact ⟨_, _, _, _, rfl, q1, q2⟩
theorem fine_lets : ∀ {P : Pat}, P.Fine → ∀ i ∈ P.lets, 0 ≤ i ∧ i < 26
 | .name _, _, i, h => by cases h
 | .var _, _, i, h => by cases h
 | .ask j, hf, i, h => by obtain rfl := List.mem_singleton.1 h; exact hf
 | .un _ p, hf, i, h => fine_lets (P := p) hf i h
 | .bin _ p q, hf, i, h => by
  rcases List.mem_append.1 h with q1 | q1
  ·exact fine_lets hf.1 i q1
  ·exact fine_lets hf.2 i q1
 | .exp p q, hf, i, h => by
  rcases List.mem_append.1 h with q1 | q1
  ·exact fine_lets hf.1 i q1
  ·exact fine_lets hf.2 i q1
theorem mkT_lets {env e : List Int} {P : Pat} {xs ys : List Node3} {t : Int} (h : mkT env P xs t = some (e, ys)) : e = env ∧ P.lets = [] := by
 obtain ⟨r, h1, h2⟩ := Option.bind_eq_some_iff.1 (show (mk env P xs).bind _ = some (e, ys) from h)
 cases hc : (r.2 == t) with
 | false => rw [hc] at h2; cases h2
 | true =>
  rw [hc] at h2
  obtain ⟨rfl, rfl⟩ := Prod.mk.inj (Option.some.inj h2)
  exact ⟨rfl, lets_nil (mk_noask h1)⟩
def Told (L : List Int) (env e : List Int) : Prop := (∀ i : Nat, (i : Int) ∈ L → 0 ≤ e.getD i 0) ∧ ∀ i : Nat, (i : Int) ∉ L → e.getD i 0 = env.getD i 0
theorem Told.same {L : List Int} (env : List Int) (h : L = []) : Told L env env := ⟨fun i hi => (by rw [h] at hi; cases hi), fun _ _ => rfl⟩
theorem Told.both {L M : List Int} {a b c : List Int} (h : Told L a b) (g : Told M b c) : Told (L ++ M) a c := by
 refine ⟨fun i hi => ?_, fun i hi => ?_⟩
 ·by_cases hm : (i : Int) ∈ M
  ·exact g.1 i hm
  ·rw [g.2 i hm]
   rcases List.mem_append.1 hi with q | q
   ·exact h.1 i q
   ·exact absurd q hm
 ·rw [List.mem_append] at hi
  rw [g.2 i (fun q => hi (.inr q)), h.2 i (fun q => hi (.inl q))]
theorem Told.swap {L M : List Int} {a c : List Int} (h : Told (L ++ M) a c) : Told (M ++ L) a c :=
 ⟨fun i hi => h.1 i (by rw [List.mem_append] at hi ⊢; exact hi.symm), fun i hi => h.2 i (fun q => hi (by rw [List.mem_append] at q ⊢; exact q.symm))⟩
theorem matchP_told : ∀ {P : Pat} {env e : List Int} {xs ys : List Node3} {t : Int}, P.Fine → EnvG env → envB xs env = true → poolB xs = true → hasB xs t = true → matchP P env xs t = some (e, ys) → Told P.lets env e
 | .name c, env, e, xs, ys, t, hf, hE, hv, hp, ht, h => by obtain ⟨rfl, q⟩ := mkT_lets h; exact Told.same _ q
 | .var i, env, e, xs, ys, t, hf, hE, hv, hp, ht, h => by obtain ⟨rfl, q⟩ := mkT_lets h; exact Told.same _ q
 | .un k p, env, e, xs, ys, t, hf, hE, hv, hp, ht, h => by obtain ⟨rfl, q⟩ := mkT_lets h; exact Told.same _ q
 | .exp p q, env, e, xs, ys, t, hf, hE, hv, hp, ht, h => by obtain ⟨rfl, q⟩ := mkT_lets h; exact Told.same _ q
 | .ask i, env, e, xs, ys, t, hf, hE, hv, hp, ht, h => by
  have h : (bif decide (env.getD i.toNat 0 < 0) then some (env.set i.toNat t, xs) else bif env.getD i.toNat 0 == t then some (env, xs) else none) = some (e, ys) := h
  have t0 := (hasB_iff.1 ht).1
  have hf : 0 ≤ i ∧ i < 26 := hf
  have hl := hE.1
  by_cases hn : env.getD i.toNat 0 < 0
  ·rw [decide_eq_true hn] at h
   obtain ⟨rfl, _⟩ := Prod.mk.inj (Option.some.inj h)
   refine ⟨fun j hj => ?_, fun j hj => ?_⟩
   ·obtain rfl : (j : Int) = i := List.mem_singleton.1 hj
    rw [Int.toNat_natCast, set_get (by omega) t]; exact t0
   ·have hne : i.toNat ≠ j := fun q => hj (by rw [show (j : Int) = i by omega]; exact .head _)
    rw [List.getD_eq_getElem?_getD, List.getD_eq_getElem?_getD, List.getElem?_set_ne hne]
  ·rw [decide_eq_false hn] at h
   cases hc : (env.getD i.toNat 0 == t) with
   | false => rw [hc] at h; cases h
   | true =>
    rw [hc] at h
    obtain ⟨rfl, _⟩ := Prod.mk.inj (Option.some.inj h)
    refine ⟨fun j hj => ?_, fun j hj => rfl⟩
    obtain rfl : (j : Int) = i := List.mem_singleton.1 hj
    rw [Int.toNat_natCast] at hn
    omega
 | .bin k p q, env, e, xs, ys, t, hf, hE, hv, hp, ht, h => by
  have h : (bif k == 2 then (bif (nd xs t).1 == 2 then (matchP p env xs (nd xs t).2.1).bind fun r => matchP q r.1 r.2 (nd xs t).2.2 else none)
   else bif k == 3 || k == 4 then (bif (nd xs t).1 == k then (matchP q env xs (nd xs t).2.2).bind fun r => matchP p r.1 r.2 (nd xs t).2.1 else none)
   else mkT env (.bin k p q) xs t) = some (e, ys) := h
  have hf : p.Fine ∧ q.Fine := hf
  show Told (p.lets ++ q.lets) env e
  cases h2 : (k == 2) with
  | true =>
   rw [h2, cond_true] at h
   cases h3 : ((nd xs t).1 == 2) with
   | false => rw [h3] at h; cases h
   | true =>
    rw [h3, cond_true] at h
    have n2 : (nd xs t).1 = 2 := by simpa using h3
    obtain ⟨k1, k2'⟩ := kids hp ht (.inl n2)
    obtain ⟨r, h4, h5⟩ := Option.bind_eq_some_iff.1 h
    have h4 : matchP p env xs (nd xs t).2.1 = some (r.1, r.2) := h4
    obtain ⟨g1, g2, z, g3⟩ := matchP_good hE hp k1 h4
    obtain ⟨m1, m2⟩ := matchP_more hE hv hp k1 h4
    have k3 : hasB r.2 (nd xs t).2.2 = true := by rw [g3]; exact hasB_mono k2'
    exact (matchP_told hf.1 hE hv hp k1 h4).both (matchP_told hf.2 g1 m1 g2 k3 h5)
  | false =>
   rw [h2, cond_false] at h
   cases h3 : (k == 3 || k == 4) with
   | false => rw [h3, cond_false] at h; obtain ⟨rfl, q⟩ := mkT_lets h; exact Told.same _ q
   | true =>
    rw [h3, cond_true] at h
    cases h6 : ((nd xs t).1 == k) with
    | false => rw [h6] at h; cases h
    | true =>
     rw [h6, cond_true] at h
     have h7 : (nd xs t).1 = k := by simpa using h6
     have h8 : k = 3 ∨ k = 4 := by simpa using h3
     obtain ⟨k1, k2⟩ := kids hp ht (by rw [h7]; exact .inr h8)
     obtain ⟨r, h4, h5⟩ := Option.bind_eq_some_iff.1 h
     have h4 : matchP q env xs (nd xs t).2.2 = some (r.1, r.2) := h4
     obtain ⟨g1, g2, z, g3⟩ := matchP_good hE hp k2 h4
     obtain ⟨m1, m2⟩ := matchP_more hE hv hp k2 h4
     have k3 : hasB r.2 (nd xs t).2.1 = true := by rw [g3]; exact hasB_mono k1
     exact ((matchP_told hf.2 hE hv hp k2 h4).both (matchP_told hf.1 g1 m1 g2 k3 h5)).swap
def letB (i : Int) : UInt8 := UInt8.ofNat (letByte i).toNat
theorem letByte_in {i : Int} (h : 0 ≤ i ∧ i < 26) : letByte i = 97 + i := by
 unfold letByte
 rw [wrap_ok (by omega) (by omega), wrap8_in (by omega) (by omega)]
theorem letB_of {c : UInt8} (h : 0 ≤ (c.toNat : Int) - 97 ∧ (c.toNat : Int) - 97 < 26) : letB ((c.toNat : Int) - 97) = c := by
 unfold letB
 rw [letByte_in h, show (97 + ((c.toNat : Int) - 97)).toNat = c.toNat by omega]
 exact UInt8.ofNat_toNat
theorem bs_bytesOf (l : List Int) : bs (bytesOf (l.map letByte)) = l.map letB := by
 show ((l.map letByte).map fun n => UInt8.ofNat n.toNat) = _
 rw [List.map_map]; rfl
theorem bs_inj {a b : ByteArray} (h : bs a = bs b) : a = b := by
 have : a.data = b.data := Array.toList_inj.1 h
 cases a; cases b; cases this; rfl
theorem specLetters_loop {T : ByteArray} (hT : T.size ≤ 200) {L : List Int} (hL : ∀ i ∈ L, 0 ≤ i ∧ i < 26) (hsc : scan T 0 T.size = L) : ∀ (m : Nat) (s : ByteArray) (j : Nat), j ≤ T.size → bs s = (scan T 0 j).map letB → s.size ≤ j → T.size < m + j → ∃ r, spec_PatLetters_L5 N0 m (T, s, (j : Int)) = some r ∧ bs r = L.map letB
 | 0, s, j, hj, hs, hz, hm => by omega
 | m + 1, s, j, hj, hs, hz, hm => by
  unfold spec_PatLetters_L5
  dsimp only
  by_cases hq : j < T.size
  ·have hl : j < (bs T).length := by rw [bs_len]; exact hq
   have w : IntKind.i64.wrap ((j : Int) + 1) = ((j + 1 : Nat) : Int) := by rw [wrap_ok (by omega) (by omega)]; omega
   have w2 : IntKind.i64.wrap ((j : Int) + 2) = ((j + 2 : Nat) : Int) := by rw [wrap_ok (by omega) (by omega)]; omega
   have hst : scan T 0 (j + 1) = scan T 0 j ++ askAt T j := by rw [scan_app (Nat.zero_le j) (Nat.le_succ j), scan_one]
   rw [decide_eq_true (show (j : Int) < (T.size : Int) by omega), cond_true, inb_nat hq, cond_true, w, w2]
   cases h63 : (bt T (j : Int) == 63) with
   | true =>
    have ha : askAt T j = [bt T ((j : Int) + 1) - 97] := by unfold askAt; rw [h63]; rfl
    have hmem : bt T ((j : Int) + 1) - 97 ∈ L := by
     rw [← hsc, scan_app (a := 0) (b := j + 1) (Nat.zero_le _) (by omega), hst, ha]
     simp
    have hr := hL _ hmem
    have hj1 : j + 1 < T.size := by
     refine Nat.lt_of_not_le fun q => ?_
     have : bt T ((j : Int) + 1) = 0 := by
      show (((bs T).getD ((j : Int) + 1).toNat 0).toNat : Int) = 0
      rw [show ((j : Int) + 1).toNat = j + 1 by omega, List.getD_eq_getElem?_getD, List.getElem?_eq_none (by rw [bs_len]; omega)]; rfl
     omega
    have hl1 : j + 1 < (bs T).length := by rw [bs_len]; exact hj1
    have hbt : bt T ((j : Int) + 1) = (((bs T)[j + 1]'hl1).toNat : Int) := by
     show (((bs T).getD ((j : Int) + 1).toNat 0).toNat : Int) = _
     rw [show ((j : Int) + 1).toNat = j + 1 by omega, List.getD_eq_getElem?_getD, List.getElem?_eq_getElem hl1, Option.getD_some]
    have hsub : bs (sub T ((j + 1 : Nat) : Int) ((j + 2 : Nat) : Int)) = [(bs T)[j + 1]'hl1] := bs_sub T hj1
    have z : (sub T ((j + 1 : Nat) : Int) ((j + 2 : Nat) : Int)).size = 1 := by rw [← bs_len, hsub]; rfl
    have hg : rng ((j + 1 : Nat) : Int) ((j + 2 : Nat) : Int) T.size = true := decide_eq_true (by omega)
    rw [cond_true, hg, cond_true, strRoom_of (by omega), cond_true]
    refine specLetters_loop hT hL hsc m _ (j + 1) (by omega) ?_ (by rw [append_size]; omega) (by omega)
    rw [bs_app, hs, hst, List.map_append, ha, hsub]
    congr 1
    show [_] = [letB _]
    rw [hbt] at hr ⊢
    rw [letB_of hr]
   | false =>
    have ha : askAt T j = [] := by unfold askAt; rw [h63]; rfl
    rw [cond_false]
    refine specLetters_loop hT hL hsc m _ (j + 1) (by omega) ?_ (by omega) (by omega)
    rw [hs, hst, ha, List.append_nil]
  ·rw [decide_eq_false (show ¬ (j : Int) < (T.size : Int) by omega), cond_false]
   refine ⟨s, rfl, ?_⟩
   rw [hs, show j = T.size by omega, hsc]
theorem specLetters_eq {T : ByteArray} {P : Pat} (h : PatIs T P) : spec_PatLetters N0 T = some (bytesOf (P.lets.map letByte)) := by
 obtain ⟨hs, b, l1, l2, e1, e2, _, _, _, hsc⟩ := pat_lets h
 have := n0
 unfold spec_PatLetters spec_PatOk
 rw [e2, Option.bind_some, Option.bind_some]
 dsimp only
 rw [Bool.not_true, cond_false]
 obtain ⟨r, q1, q2⟩ := specLetters_loop hs (fine_lets (PatIs.fine h)) hsc N0 (⟨#[]⟩ : ByteArray) 0 (Nat.zero_le _) (by rw [scan_self]; rfl) (Nat.le_refl _) (by omega)
 rw [show ((0 : Nat) : Int) = (0 : Int) from rfl] at q1
 rw [q1, Option.bind_some]
 congr 1
 exact bs_inj (q2.trans (bs_bytesOf _).symm)
theorem asked_loop {x env got : List Int} {L : List Int} (hL : ∀ i ∈ L, 0 ≤ i ∧ i < 26) (hl : L.length ≤ 1000) {i : Nat} (hi : i < 26) : ∀ (r pre : List Int) (b : Bool) (m : Nat), L = pre ++ r → r.length < m → laws_FnLetters_L15 N0 m (x, env, bytesOf (L.map letByte), got, (i : Int), b, (pre.length : Int)) = some (x, env, bytesOf (L.map letByte), got, (i : Int), (b || r.contains (i : Int)))
 | _, _, _, 0, _, h => by omega
 | [], pre, b, m + 1, h, hm => by
  have hz : (bytesOf (L.map letByte)).size = L.length := by rw [← bs_len, bs_bytesOf, List.length_map]
  unfold laws_FnLetters_L15
  dsimp only
  rw [hz, h, List.append_nil, decide_eq_false (by omega), cond_false]
  simp
 | c :: r, pre, b, m + 1, h, hm => by
  have hz : (bytesOf (L.map letByte)).size = L.length := by rw [← bs_len, bs_bytesOf, List.length_map]
  have hlen : pre.length < L.length := by rw [h]; simp
  have w : IntKind.i64.wrap ((pre.length : Int) + 1) = (((pre ++ [c]).length : Nat) : Int) := by rw [wrap_ok (by omega) (by omega), List.length_append, List.length_singleton]; omega
  have hc := hL c (by rw [h]; simp)
  have hb : bt (bytesOf (L.map letByte)) (pre.length : Int) = 97 + c := by
   show (((bs (bytesOf (L.map letByte))).getD ((pre.length : Int)).toNat 0).toNat : Int) = _
   rw [bs_bytesOf, Int.toNat_natCast, List.getD_eq_getElem?_getD, List.getElem?_map, h, List.getElem?_append_right (Nat.le_refl _), Nat.sub_self]
   show ((letB c).toNat : Int) = _
   unfold letB
   rw [letByte_in hc]
   rw [UInt8.toNat_ofNat', Nat.mod_eq_of_lt (by omega)]
   omega
  unfold laws_FnLetters_L15
  dsimp only
  rw [hz, decide_eq_true (show (pre.length : Int) < (L.length : Int) by omega), cond_true]
  have ih := fun b' => asked_loop (x := x) (env := env) (got := got) hL hl hi r (pre ++ [c]) b' m (by rw [List.append_assoc]; exact h) (by simp at hm; omega)
  cases b with
  | true => rw [cond_true, w, ih]; rfl
  | false =>
   rw [cond_false, inb_nat hlen, cond_true, hb, w, ih, wrap_ok (by omega) (by omega), wrap_ok (by omega) (by omega)]
   congr 6
   rw [List.contains_cons, Bool.false_or]
   congr 1
   by_cases q : c = (i : Int)
   ·subst q; simp
   ·rw [beq_eq_false_iff_ne.2 (show (97 : Int) + c ≠ 97 + (i : Int) by omega), beq_eq_false_iff_ne.2 (fun e => q e.symm)]
theorem told_loop {x env got : List Int} {L : List Int} (hL : ∀ i ∈ L, 0 ≤ i ∧ i < 26) (hl : L.length ≤ 1000) (he : env.length = 26) (hg : got.length = 26) (ht : Told L env got) : ∀ (m j : Nat), j ≤ 26 → 26 < m + j → laws_FnLetters_L11 N0 m (x, env, bytesOf (L.map letByte), got, (j : Int)) = some (Sum.inr x)
 | 0, j, hj, hm => by omega
 | m + 1, j, hj, hm => by
  unfold laws_FnLetters_L11
  dsimp only
  by_cases hq : j < 26
  ·have w : IntKind.i64.wrap ((j : Int) + 1) = ((j + 1 : Nat) : Int) := by rw [wrap_ok (by omega) (by omega)]; omega
   have ih := told_loop (x := x) hL hl he hg ht m (j + 1) (by omega) (by omega)
   have a := asked_loop (x := x) (env := env) (got := got) hL hl hq L [] false N0 rfl (by have := n0; omega)
   rw [show (([] : List Int).length : Int) = (0 : Int) from rfl, Bool.false_or] at a
   rw [decide_eq_true (show (j : Int) < 26 by omega), cond_true, a, Option.bind_some]
   dsimp only
   rw [inb_nat (show j < got.length by omega), inb_nat (show j < env.length by omega), Int.toNat_natCast, w]
   cases hc : L.contains (j : Int) with
   | true =>
    have := ht.1 j (List.contains_iff_mem.1 hc)
    rw [cond_true, cond_true, decide_eq_false (by omega), cond_false, Bool.not_true, cond_false]
    exact ih
   | false =>
    have hm : (j : Int) ∉ L := fun q => by rw [List.contains_iff_mem.2 q] at hc; cases hc
    rw [cond_false, Bool.not_false, cond_true, cond_true, cond_true, ht.2 j hm, bne_self_eq_false, cond_false]
    exact ih
  ·rw [decide_eq_false (show ¬ (j : Int) < 26 by omega), cond_false]
theorem at_one {x : List Int} (hx : x.length ≤ 1048576) (hb : ∀ v ∈ x, 0 ≤ v ∧ v < 256) : ∃ v, laws_at N0 (x, (1 : Int)) = some v ∧ 0 ≤ v := by
 unfold laws_at
 dsimp only
 by_cases h : 1 < x.length
 ·have hv : 0 ≤ x.getD 1 0 ∧ x.getD 1 0 < 256 := by
   rw [List.getD_eq_getElem?_getD, List.getElem?_eq_getElem h]
   exact hb _ (List.getElem_mem h)
  rw [decide_eq_true (show (1 : Int) < (x.length : Int) by omega), cond_true, show inb (1 : Int) x.length = true from inb_nat (i := 1) h, cond_true]
  refine ⟨_, rfl, ?_⟩
  rw [show ((1 : Int)).toNat = 1 from rfl, wrap_ok (by omega) (by omega)]
  exact hv.1
 ·rw [decide_eq_false (show ¬ (1 : Int) < (x.length : Int) by omega), cond_false]
  refine ⟨_, rfl, ?_⟩
  rw [show IntKind.i64.wrap ((1 : Int) * 7) = 7 from rfl, wrap_ok (by omega) (by omega)]
  exact Int.tmod_nonneg _ (by omega)
theorem letters_law (x : List Int) (hx : x.length ≤ 9223372036854775807) (hbx : ∀ v ∈ x, 0 ≤ v ∧ v < 256) : laws_FnLetters N0 x = some true := by
 have hN := n0
 unfold laws_FnLetters laws_big
 rw [Option.bind_some]
 by_cases hb : (x.length : Int) > 1048576
 ·rw [decide_eq_true hb]; rfl
 ·rw [decide_eq_false hb, cond_false]
  obtain ⟨xs, env, T, t, e1, q1, q2⟩ := drawPatMatch_ok (b := x) (by omega)
  rw [e1, Option.bind_some]
  dsimp only
  obtain ⟨r, e2, e3, hr⟩ := patMatch_all (xs := xs) (by omega) (env := env) (by omega) T t
  have hlet : ∃ s o, impl_PatLetters N0 T = some s ∧ spec_PatLetters N0 T = some s ∧ impl_PatOk N0 T = some o ∧ spec_PatOk N0 T = some o := by
   rcases pat_all T with ⟨P, hP⟩ | ⟨⟨l1, h1⟩, l2, h2⟩
   ·refine ⟨_, true, patLetters_eq hP, specLetters_eq hP, patOk_eq hP, ?_⟩
    obtain ⟨_, _, _, l2, _, e, _⟩ := pat_lets hP
    unfold spec_PatOk
    rw [e]; rfl
   ·refine ⟨(⟨#[]⟩ : ByteArray), false, ?_, ?_, ?_, ?_⟩
    ·unfold impl_PatLetters
     rw [h1]; rfl
    ·unfold spec_PatLetters spec_PatOk
     rw [h2]; rfl
    ·unfold impl_PatOk
     rw [h1]; rfl
    ·unfold spec_PatOk
     rw [h2]; rfl
  obtain ⟨s, o, l1, l2, l3, l4⟩ := hlet
  rw [l1, Option.bind_some, l2, Option.bind_some, strEq_self, Bool.not_true, cond_false, l3, Option.bind_some, l4, Option.bind_some, bne_self_eq_false, cond_false, e2, Option.bind_some]
  rcases hr with ⟨_, rfl⟩ | ⟨_, rfl⟩ | ⟨hp, he, hv, ht, P, ys, e, hT, hm, rfl⟩
  ·rfl
  ·rfl
  ·have hE := envB_good he hv
   have hf := PatIs.fine hT
   obtain ⟨g1, g2, zs, g3⟩ := matchP_good hE hp ht hm
   obtain ⟨_, _, m1, _, _, _, k1, _, k2, _⟩ := pat_lets hT
   have hll : P.lets.length ≤ 1000 := by
    rw [← k1]
    have : ∀ l : List Piece, (letsP l).length ≤ l.length := fun l => by
     induction l with
     | nil => exact Nat.le_refl _
     | cons y l ih =>
      show ((bif y.1 == 63 then [y.2.1] else []) ++ letsP l).length ≤ _
      rw [List.length_append, List.length_cons]
      cases (y.1 == 63)
      ·show 0 + _ ≤ _; omega
      ·show 1 + _ ≤ _; omega
    have := this m1
    omega
   obtain rfl : s = bytesOf (P.lets.map letByte) := Option.some.inj (l1.symm.trans (patLetters_eq hT))
   dsimp only
   rw [Bool.not_true, cond_false]
   have k := told_loop (x := x) (fine_lets hf) hll he g1.1 (matchP_told hf hE hv hp ht hm) N0 0 (by omega) (by omega)
   rw [show ((0 : Nat) : Int) = (0 : Int) from rfl] at k
   rw [k, Option.bind_some]
   dsimp only
   obtain ⟨v, a1, a2⟩ := at_one (x := x) (by omega) hbx
   unfold lib_envNew
   rw [Option.bind_some, List.length_replicate, show (((26 : Nat) : Int) == 26) = true from rfl, cond_true, a1, Option.bind_some, show ((26 : Int) != 0) = true from rfl, cond_true]
   have h1 : 0 ≤ v.tmod 26 := Int.tmod_nonneg _ a2
   have h2 : v.tmod 26 < 26 := Int.tmod_lt_of_pos _ (by omega)
   generalize v.tmod 26 = u at h1 h2
   obtain ⟨n, rfl⟩ := Int.eq_ofNat_of_zero_le h1
   have hn : n < 26 := by omega
   rw [inb_nat hn, cond_true, Int.toNat_natCast, List.getD_eq_getElem?_getD, List.getElem?_replicate, if_pos hn]
   rfl
theorem letters_law_td (x : TD (entys (parEns 0 (S3 0).pars))) (hx : FitsTD _ x) : laws_FnLetters N0 x = some true := by
 have h1 : Fits (.sl (.int .u8)) x := hx ⟨.sl (.int .u8), x⟩ (.head _)
 refine letters_law x (maxLen_eq ▸ h1.1) (fun v hv => ?_)
 have h := h1.2 v hv
 have h : (decide ((0 : Int) ≤ v) && decide (v ≤ 255)) = true := h
 rw [Bool.and_eq_true, decide_eq_true_iff, decide_eq_true_iff] at h
 omega
end AM
end Go.Proofs.YtelkmjkclmjggaaGreatDoor
