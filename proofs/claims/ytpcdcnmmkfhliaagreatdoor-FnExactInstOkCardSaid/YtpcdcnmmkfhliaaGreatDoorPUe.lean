/- A pool is right by the program just when it is by the reference, as plain functions. No condition. -/
import Derived.Test.YtpcdcnmmkfhliaaGreatDoorPUd
namespace Go.Proofs.YtpcdcnmmkfhliaaGreatDoor
namespace AM
open Go
set_option linter.unusedVariables false
set_option linter.unusedSimpArgs false

abbrev Node3 := Int × (Int × Int)
abbrev kN : Ty := .pr (.int .i64) (.pr (.int .i64) (.int .i64))

theorem inRange_eq (n : Nat) (a b c : Int) : impl_inRange n (a, b, c) = some (decide (a ≥ b) && decide (a ≤ c)) := by
  unfold impl_inRange
  cases decide (a ≥ b) <;> rfl
theorem in_eq (n : Nat) (a b c : Int) : spec_l1In n (a, b, c) = some (decide (a ≥ b) && decide (a ≤ c)) := inRange_eq n a b c
theorem count_some (n : Nat) (x : Int) : ∃ v, impl_count n x = some v := by
  unfold impl_count
  simp only [cond_eq_ite]
  repeat' split
  all_goals exact ⟨_, rfl⟩
theorem nodeOk_some (n : Nat) (x : Int × Int × Int × Int) : ∃ v, impl_nodeOk n x = some v := by
  unfold impl_nodeOk
  obtain ⟨v, hv⟩ := count_some n x.1
  rw [hv]
  simp only [Option.bind_some, inRange_eq, cond_eq_ite]
  repeat' split
  all_goals exact ⟨_, rfl⟩
def nodeV (n : Nat) (x : Int × Int × Int × Int) : Bool := (impl_nodeOk n x).getD false
theorem nodeOk_eq (n : Nat) (x) : impl_nodeOk n x = some (nodeV n x) := by
  obtain ⟨v, hv⟩ := nodeOk_some n x
  unfold nodeV
  rw [hv]; rfl
theorem right_eq (n : Nat) (x) : spec_l1Right n x = some (nodeV n x) := nodeOk_eq n x

/-- The rest of a pool is right behind what stands before. -/
def okFrom (n : Nat) (pre : List Node3) : List Node3 → Bool
  | [] => true
  | k :: r => (!pre.contains k && nodeV n (k.1, k.2.1, k.2.2, (pre.length : Int))) && okFrom n (pre ++ [k]) r

theorem find_loop (n : Nat) {pre r : List Node3} {k : Node3} (hx : (pre ++ k :: r).length ≤ 4294967296) : ∀ (m j : Nat), j ≤ pre.length → pre.length < m + j →
    ∃ q : Nat, spec_l1Find_L2 n m (pre ++ k :: r, k.1, k.2.1, k.2.2, (j : Int)) = some (Sum.inl (q : Int)) ∧ q ≤ pre.length ∧ (q = pre.length ↔ k ∉ pre.drop j)
  | 0, j, h1, h2 => by omega
  | m + 1, j, h1, h2 => by
    have hlt : j < (pre ++ k :: r).length := by simp; omega
    have e0 : spec_l1Find_L2 n (m + 1) (pre ++ k :: r, k.1, k.2.1, k.2.2, (j : Int)) = (cond (decide ((j : Int) < ((pre ++ k :: r).length : Int))) (cond (inb (j : Int) (pre ++ k :: r).length) (cond (((pre ++ k :: r).getD ((j : Int)).toNat ((0 : Int), ((0 : Int), (0 : Int)))).1 == k.1 && (((pre ++ k :: r).getD ((j : Int)).toNat ((0 : Int), ((0 : Int), (0 : Int)))).2.1 == k.2.1 && (((pre ++ k :: r).getD ((j : Int)).toNat ((0 : Int), ((0 : Int), (0 : Int)))).2.2 == k.2.2 && true))) (some (Sum.inl (j : Int))) (spec_l1Find_L2 n m (pre ++ k :: r, k.1, k.2.1, k.2.2, IntKind.i64.wrap ((j : Int) + (1 : Int))))) none) (some (Sum.inr ()))) := rfl
    rw [e0, decide_eq_true (by omega : (j : Int) < ((pre ++ k :: r).length : Int)), cond_true, inb_nat hlt, cond_true, Int.toNat_natCast, getD_of hlt]
    have heq : ∀ p : Node3, (p.1 == k.1 && (p.2.1 == k.2.1 && (p.2.2 == k.2.2 && true))) = decide (p = k) := by
      intro p
      obtain ⟨p1, p2, p3⟩ := p
      obtain ⟨k1, k2, k3⟩ := k
      rw [Bool.eq_iff_iff]
      simp
    rw [heq]
    rcases Nat.lt_or_ge j pre.length with q | q
    · have hg : (pre ++ k :: r)[j] = pre[j] := List.getElem_append_left q
      rw [hg]
      have hd : pre.drop j = pre[j] :: pre.drop (j + 1) := List.drop_eq_getElem_cons q
      by_cases hk : pre[j] = k
      · rw [decide_eq_true hk, cond_true]
        exact ⟨j, rfl, by omega, by rw [hd, hk]; simp; omega⟩
      · rw [decide_eq_false hk, cond_false, step_wrap hlt hx]
        obtain ⟨z, g1, g2, g3⟩ := find_loop n hx m (j + 1) q (by omega)
        refine ⟨z, g1, g2, g3.trans ?_⟩
        rw [hd, List.mem_cons]
        constructor
        · intro h h2
          rcases h2 with h2 | h2
          · exact hk h2.symm
          · exact h h2
        · exact fun h h2 => h (.inr h2)
    · have hj : j = pre.length := by omega
      subst hj
      rw [show (pre ++ k :: r)[pre.length] = k by simp, decide_eq_true rfl, cond_true]
      exact ⟨pre.length, rfl, Nat.le_refl _, by simp⟩

theorem find_eq (n : Nat) (hn : 4294967296 < n) {pre r : List Node3} {k : Node3} (hx : (pre ++ k :: r).length ≤ 4294967296) : ∃ q : Int, spec_l1Find n (pre ++ k :: r, k.1, k.2.1, k.2.2) = some q ∧ (q != (pre.length : Int)) = pre.contains k := by
  have hlen : pre.length < n := by have : pre.length ≤ (pre ++ k :: r).length := by simp
                                   omega
  obtain ⟨z, g1, g2, g3⟩ := find_loop n hx n 0 (Nat.zero_le _) (by omega)
  refine ⟨(z : Int), ?_, ?_⟩
  · show ((spec_l1Find_L2 n n (pre ++ k :: r, k.1, k.2.1, k.2.2, ((0 : Nat) : Int))).bind _) = _
    rw [g1]; rfl
  · rw [List.drop_zero] at g3
    rw [Bool.eq_iff_iff]
    simp only [bne_iff_ne, ne_eq, List.contains_iff_mem]
    constructor
    · intro h
      exact Classical.byContradiction fun h2 => h (by rw [g3.2 h2])
    · intro h h2
      exact (g3.1 (by omega)) h

theorem specPool_loop (n : Nat) (hn : 4294967296 < n) : ∀ (m : Nat) (pre r : List Node3), (pre ++ r).length ≤ 4294967296 → r.length < m → spec_PoolOk_L4 n m (pre ++ r, (pre.length : Int)) = some (bif okFrom n pre r then Sum.inr () else Sum.inl false)
  | 0, pre, r, hx, hm => by omega
  | m + 1, pre, [], hx, hm => by
    show (cond (decide ((pre.length : Int) < ((pre ++ []).length : Int))) _ _) = _
    rw [decide_eq_false (by simp), cond_false]; rfl
  | m + 1, pre, k :: r, hx, hm => by
    have hlt : pre.length < (pre ++ k :: r).length := by simp
    have e0 : spec_PoolOk_L4 n (m + 1) (pre ++ k :: r, (pre.length : Int)) = (cond (decide ((pre.length : Int) < ((pre ++ k :: r).length : Int))) (cond (inb (pre.length : Int) (pre ++ k :: r).length) ((spec_l1Right n (((pre ++ k :: r).getD ((pre.length : Int)).toNat ((0 : Int), ((0 : Int), (0 : Int)))).1, ((pre ++ k :: r).getD ((pre.length : Int)).toNat ((0 : Int), ((0 : Int), (0 : Int)))).2.1, ((pre ++ k :: r).getD ((pre.length : Int)).toNat ((0 : Int), ((0 : Int), (0 : Int)))).2.2, (pre.length : Int))).bind fun r1 => (cond (!r1) (some (Sum.inl false)) (cond (inb (pre.length : Int) (pre ++ k :: r).length) ((spec_l1Find n (pre ++ k :: r, ((pre ++ k :: r).getD ((pre.length : Int)).toNat ((0 : Int), ((0 : Int), (0 : Int)))).1, ((pre ++ k :: r).getD ((pre.length : Int)).toNat ((0 : Int), ((0 : Int), (0 : Int)))).2.1, ((pre ++ k :: r).getD ((pre.length : Int)).toNat ((0 : Int), ((0 : Int), (0 : Int)))).2.2)).bind fun r2 => (cond (r2 != (pre.length : Int)) (some (Sum.inl false)) (spec_PoolOk_L4 n m (pre ++ k :: r, IntKind.i64.wrap ((pre.length : Int) + (1 : Int)))))) none))) none) (some (Sum.inr ()))) := rfl
    obtain ⟨q, g1, g2⟩ := find_eq n hn (pre := pre) (r := r) (k := k) hx
    rw [e0, decide_eq_true (by omega : (pre.length : Int) < ((pre ++ k :: r).length : Int)), cond_true, inb_nat hlt, cond_true, Int.toNat_natCast, getD_of hlt, show (pre ++ k :: r)[pre.length] = k by simp, right_eq, g1]
    simp only [Option.bind_some, cond_true]
    rw [g2, step_wrap hlt hx]
    have ih := specPool_loop n hn m (pre ++ [k]) r (by simpa using hx) (by simp at hm; omega)
    rw [show pre ++ [k] ++ r = pre ++ k :: r by simp, show (pre ++ [k]).length = pre.length + 1 by simp] at ih
    rw [ih]
    rw [show okFrom n pre (k :: r) = ((!pre.contains k && nodeV n (k.1, k.2.1, k.2.2, (pre.length : Int))) && okFrom n (pre ++ [k]) r) from rfl]
    cases nodeV n (k.1, k.2.1, k.2.2, (pre.length : Int)) <;> cases pre.contains k <;> cases okFrom n (pre ++ [k]) r <;> rfl

theorem specPool_eq (n : Nat) (hn : 4294967296 < n) {xs : List Node3} (hx : xs.length ≤ 4294967296) : spec_PoolOk n xs = some (decide (xs.length ≤ 500) && okFrom n [] xs) := by
  unfold spec_PoolOk
  by_cases q : xs.length ≤ 500
  · rw [decide_eq_false (by omega : ¬ (xs.length : Int) > (500 : Int)), cond_false, decide_eq_true q, Bool.true_and]
    have := specPool_loop n hn n [] xs (by simpa using hx) (by omega)
    rw [List.nil_append, show (([] : List Node3).length : Int) = (0 : Int) from rfl] at this
    rw [this]
    cases okFrom n [] xs <;> rfl
  · rw [decide_eq_true (by omega : (xs.length : Int) > (500 : Int)), cond_true, decide_eq_false q]; rfl

/-! ### The program's side: a counter -/
def Cnt (kvs : List (Node3 × Int)) (pre : List Node3) : Prop := ∀ k : Node3, mget kN k kvs = if k ∈ pre then 1 else 0

theorem eqv_N {a b : Node3} : kN.eqv a b = decide (a = b) := by
  rw [Bool.eq_iff_iff, decide_eq_true_iff]
  exact ⟨eqv_eq kN, fun h => h ▸ eqv_self kN rfl a⟩

theorem region_eq (n : Nat) (kvs : List (Node3 × Int)) (i a b c : Int) (xs : List Node3) (l j : Int) : impl_PoolOk_R7 n (kvs, i, a, b, c, xs, l, j) = some (mput kN (a, b, c) (IntKind.i64.wrap (mget kN (a, b, c) kvs + (1 : Int))) kvs, i, a, b, c, xs, l, j) := by
  unfold impl_PoolOk_R7
  rw [mpos_in, cond_true, mset_mput]

theorem implPool_loop (n : Nat) {xs : List Node3} (hx : xs.length ≤ 4294967296) : ∀ (m : Nat) (pre r : List Node3) (kvs : List (Node3 × Int)), xs = pre ++ r → Cnt kvs pre → r.length < m → impl_PoolOk_L5 n m (kvs, xs, (xs.length : Int), (pre.length : Int)) = some (bif okFrom n pre r then Sum.inr () else Sum.inl false)
  | 0, pre, r, kvs, he, hc, hm => by omega
  | m + 1, pre, [], kvs, he, hc, hm => by
    show (cond (decide ((pre.length : Int) < (xs.length : Int))) _ _) = _
    rw [decide_eq_false (by rw [he]; simp), cond_false]; rfl
  | m + 1, pre, k :: r, kvs, he, hc, hm => by
    have hlt : pre.length < xs.length := by rw [he]; simp
    have hk : xs[pre.length] = k := by simp [he]
    have e0 : impl_PoolOk_L5 n (m + 1) (kvs, xs, (xs.length : Int), (pre.length : Int)) = (cond (decide ((pre.length : Int) < (xs.length : Int))) (cond (inb (pre.length : Int) xs.length) ((impl_PoolOk_R7 n (kvs, (pre.length : Int), (xs.getD ((pre.length : Int)).toNat ((0 : Int), ((0 : Int), (0 : Int)))).1, (xs.getD ((pre.length : Int)).toNat ((0 : Int), ((0 : Int), (0 : Int)))).2.1, (xs.getD ((pre.length : Int)).toNat ((0 : Int), ((0 : Int), (0 : Int)))).2.2, xs, (xs.length : Int), (pre.length : Int))).bind fun g1 => (cond (decide ((mget kN (g1.2.2.1, (g1.2.2.2.1, g1.2.2.2.2.1)) g1.1) > (1 : Int))) (some (Sum.inl false)) ((impl_nodeOk n (g1.2.2.1, g1.2.2.2.1, g1.2.2.2.2.1, g1.2.1)).bind fun r2 => (cond (!r2) (some (Sum.inl false)) (impl_PoolOk_L5 n m (g1.1, g1.2.2.2.2.2.1, g1.2.2.2.2.2.2.1, (IntKind.i64.wrap (g1.2.2.2.2.2.2.2 + (1 : Int))))))))) none) (some (Sum.inr ()))) := rfl
    rw [e0, decide_eq_true (by omega : (pre.length : Int) < (xs.length : Int)), cond_true, inb_nat hlt, cond_true, Int.toNat_natCast, getD_of hlt, hk, region_eq]
    simp only [Option.bind_some]
    have hself : kN.eqv (k.1, k.2.1, k.2.2) (k.1, k.2.1, k.2.2) = true := eqv_self kN rfl _
    have hke : ((k.1, k.2.1, k.2.2) : Node3) = k := rfl
    rw [mget_mput hself, nodeOk_eq, step_wrap hlt hx]
    rw [show okFrom n pre (k :: r) = ((!pre.contains k && nodeV n (k.1, k.2.1, k.2.2, (pre.length : Int))) && okFrom n (pre ++ [k]) r) from rfl]
    have hck := hc k
    by_cases hin : k ∈ pre
    · rw [if_pos hin] at hck
      have : pre.contains k = true := by simpa using hin
      rw [this, show mget kN (k.1, k.2.1, k.2.2) kvs = 1 from hck]
      rfl
    · rw [if_neg hin] at hck
      have hcf : pre.contains k = false := by simpa using hin
      rw [hcf, show mget kN (k.1, k.2.1, k.2.2) kvs = 0 from hck]
      rw [show decide (IntKind.i64.wrap ((0 : Int) + (1 : Int)) > (1 : Int)) = false from rfl, cond_false]
      have ih := implPool_loop n hx m (pre ++ [k]) r (mput kN k (IntKind.i64.wrap ((0 : Int) + (1 : Int))) kvs) (by simpa using he) (by
        intro k'
        by_cases q : k' = k
        · subst q
          rw [mget_mput (eqv_self kN rfl k')]
          simp; rfl
        · rw [mget_mput_ne (by rw [eqv_N]; exact decide_eq_false q), hc k']
          simp [q]) (by simp at hm; omega)
      rw [show (pre ++ [k]).length = pre.length + 1 by simp] at ih
      simp only [Option.bind_some]
      rw [show mput kN (k.1, k.2.1, k.2.2) (IntKind.i64.wrap ((0 : Int) + (1 : Int))) kvs = mput kN k (IntKind.i64.wrap ((0 : Int) + (1 : Int))) kvs from rfl, ih]
      cases nodeV n (k.1, k.2.1, k.2.2, (pre.length : Int)) <;> cases okFrom n (pre ++ [k]) r <;> rfl

theorem implPool_eq (n : Nat) (hn : 4294967296 < n) {xs : List Node3} (hx : xs.length ≤ 4294967296) : impl_PoolOk n xs = some (decide (xs.length ≤ 500) && okFrom n [] xs) := by
  unfold impl_PoolOk
  by_cases q : xs.length ≤ 500
  · rw [decide_eq_false (by omega : ¬ (xs.length : Int) > (500 : Int)), cond_false, decide_eq_true q, Bool.true_and]
    have := implPool_loop n hx n [] xs [] rfl (fun k => by simp [mget, mfind]) (by omega)
    rw [show (([] : List Node3).length : Int) = (0 : Int) from rfl] at this
    rw [this]
    cases okFrom n [] xs <;> rfl
  · rw [decide_eq_true (by omega : (xs.length : Int) > (500 : Int)), cond_true, decide_eq_false q]; rfl

/-- One answer on both sides. -/
theorem pool_same (n : Nat) (hn : 4294967296 < n) {xs : List Node3} (hx : xs.length ≤ 4294967296) : impl_PoolOk n xs = spec_PoolOk n xs := (implPool_eq n hn hx).trans (specPool_eq n hn hx).symm

end AM
end Go.Proofs.YtpcdcnmmkfhliaaGreatDoor
