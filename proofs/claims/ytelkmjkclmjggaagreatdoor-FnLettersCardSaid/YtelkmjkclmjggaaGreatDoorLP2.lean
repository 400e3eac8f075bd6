/- Small laws on whole numbers that wrap, on strings as lists of bytes, and on answers that may be none. No condition. And what follows it: see the remarks. -/
import Derived.Test.YtelkmjkclmjggaaGreatDoorLW4
import Derived.Lib.ItoaNum
import Derived.Lib.IndexMore
import Derived.Laws.BitsLemmas
import Derived.Test.YtelkmjkclmjggaaGreatDoorLALd
import Derived.Test.YtelkmjkclmjggaaGreatDoorLP1
import Derived.Lib.AtoiAllCases
namespace Go.Proofs.YtelkmjkclmjggaaGreatDoor
namespace AM
open Go
set_option linter.unusedSimpArgs false
set_option linter.unusedVariables false
theorem wrap8_in {n : Int} (h1 : 0 ≤ n) (h2 : n ≤ 255) : IntKind.u8.wrap n = n := by
 have : IntKind.u8.wrap n = n % 256 := by rfl
 rw [this]; omega
def ba (l : List UInt8) : ByteArray := ⟨l.toArray⟩
theorem ba_self (s : ByteArray) : ba s.data.toList = s := by cases s; rfl
theorem ba_append (a b : List UInt8) : ba a ++ ba b = ba (a ++ b) := by
 apply ByteArray.ext
 simp [ba]
theorem ba_size (l : List UInt8) : (ba l).size = l.length := by simp [ba, ByteArray.size]
theorem strRoom_of {a b : ByteArray} (h : a.size + b.size ≤ 4611686018427387904) : strRoom a b = true := decide_eq_true h
theorem strEq_self (a : ByteArray) : strEq a a = true := decide_eq_true rfl
theorem append_size (a b : ByteArray) : (a ++ b).size = a.size + b.size := by
 rw [← ba_self a, ← ba_self b, ba_append, ba_size, ba_size, ba_size, List.length_append]
theorem bt_eq {s : ByteArray} {i : Nat} (h : i < s.data.toList.length) : bt s (i : Int) = ((s.data.toList[i]).toNat : Int) := by
 unfold bt
 rw [Int.toNat_natCast, List.getD_eq_getElem?_getD, List.getElem?_eq_getElem h]; rfl
end AM
end Go.Proofs.YtelkmjkclmjggaaGreatDoor
namespace Go.Proofs.YtelkmjkclmjggaaGreatDoor
namespace AM
open Go
set_option linter.unusedVariables false
set_option linter.unusedSimpArgs false
abbrev N0 : Nat := 1000000000000000000000000000000
theorem wrap_ok {n : Int} (h1 : -9223372036854775808 ≤ n) (h2 : n ≤ 9223372036854775807) : IntKind.i64.wrap n = n := by
 rw [IntKind.wrap_i64]; omega
theorem getD_of {α : Type} {l : List α} {i : Nat} (h : i < l.length) (d : α) : l.getD i d = l[i] := by
 rw [List.getD_eq_getElem?_getD, List.getElem?_eq_getElem h]; rfl
theorem inb_nat {i n : Nat} (h : i < n) : inb (i : Int) n = true := by
 unfold inb
 exact decide_eq_true ⟨Int.natCast_nonneg _, by omega⟩
theorem step_wrap {i n : Nat} (hi : i < n) (hn : n ≤ 4294967296) : IntKind.i64.wrap ((i : Int) + (1 : Int)) = ((i + 1 : Nat) : Int) := by
 rw [wrap_ok (by omega) (by omega)]; omega
theorem eqv_self : ∀ (t : Ty), t.hasSl = false → ∀ x : t.den, t.eqv x x = true
 | .int _, _, x => by simp [Ty.eqv]
 | .bool, _, x => by simp [Ty.eqv]
 | .str, _, x => decide_eq_true rfl
 | .sl _, h, _ => by cases h
 | .pr a b, h, x => by
  have h : (a.hasSl || b.hasSl) = false := h
  rw [Bool.or_eq_false_iff] at h
  show (a.eqv x.1 x.1 && b.eqv x.2 x.2) = true
  rw [eqv_self a h.1, eqv_self b h.2]; rfl
theorem mfind_len {kt : Ty} {k : kt.den} {m : List (kt.den × Int)} {j : Nat} {v : Int} (h : mfind kt k m 0 = some (j, v)) : j < m.length := by
 obtain ⟨_, h2⟩ := mfind_spec h
 exact (List.getElem?_eq_some_iff.1 h2).1
theorem mset_set {α : Type} {y : Int} {k : α} {c : Int} : ∀ {m : List (α × Int)} {j : Nat}, j < m.length → msetG y (m.set j (k, c)) j = m.set j (k, y)
 | [], _, h => by simp at h
 | p :: r, 0, _ => rfl
 | p :: r, j + 1, h => by
  show p :: msetG y (r.set j (k, c)) j = p :: r.set j (k, y)
  rw [mset_set (by simpa using h)]
theorem mset_push {α : Type} {y : Int} {k : α} {c : Int} : ∀ {m : List (α × Int)}, msetG y (m ++ [(k, c)]) m.length = m ++ [(k, y)]
 | [] => rfl
 | p :: r => by
  show p :: msetG y (r ++ [(k, c)]) r.length = p :: (r ++ [(k, y)])
  rw [mset_push]
theorem mset_mput {kt : Ty} {k : kt.den} {c y : Int} {m : List (kt.den × Int)} : mset (mpos kt k m) y (mput kt k c m) = mput kt k y m := by
 unfold mset mpos mput
 cases h : mfind kt k m 0 with
 | some p =>
  obtain ⟨j, v⟩ := p
  dsimp only
  rw [Int.toNat_natCast]
  exact mset_set (mfind_len h)
 | none =>
  dsimp only
  rw [Int.toNat_natCast]
  exact mset_push
theorem mpos_in {kt : Ty} {k : kt.den} {c : Int} {m : List (kt.den × Int)} : inb (mpos kt k m) (mput kt k c m).length = true := by
 unfold mpos mput
 cases h : mfind kt k m 0 with
 | some p =>
  obtain ⟨j, v⟩ := p
  dsimp only
  rw [List.length_set]
  exact inb_nat (mfind_len h)
 | none =>
  dsimp only
  rw [List.length_append]
  exact inb_nat (by simp)
theorem mfind_set_ne {kt : Ty} {k k' : kt.den} {x : Int} (hne : kt.eqv k' k = false) : ∀ {m : List (kt.den × Int)} {i j : Nat} {v : Int}, mfind kt k m i = some (j, v) → mfind kt k' (m.set (j - i) (k, x)) i = mfind kt k' m i
 | [], _, _, _, h => by cases h
 | p :: r, i, j, v, h => by
  unfold mfind at h
  cases q : kt.eqv k p.1 with
  | true =>
   rw [q] at h
   obtain ⟨rfl, rfl⟩ := Prod.mk.inj (Option.some.inj h)
   rw [Nat.sub_self, List.set_cons_zero]
   have := eqv_eq kt q
   unfold mfind
   rw [hne, ← this, hne]
   rfl
  | false =>
   rw [q] at h
   have h : mfind kt k r (i + 1) = some (j, v) := h
   obtain ⟨h1, _⟩ := mfind_spec h
   rw [show j - i = (j - (i + 1)) + 1 by omega, List.set_cons_succ]
   unfold mfind
   rw [mfind_set_ne hne h]
theorem mfind_push_ne {kt : Ty} {k k' : kt.den} {x : Int} (hne : kt.eqv k' k = false) : ∀ {m : List (kt.den × Int)} {i : Nat}, mfind kt k' (m ++ [(k, x)]) i = mfind kt k' m i
 | [], i => by
  show mfind kt k' [(k, x)] i = _
  unfold mfind
  rw [hne]; rfl
 | p :: r, i => by
  show mfind kt k' (p :: (r ++ [(k, x)])) i = _
  unfold mfind
  rw [mfind_push_ne hne]
theorem mget_mput_ne {kt : Ty} {k k' : kt.den} {x : Int} {m : List (kt.den × Int)} (hne : kt.eqv k' k = false) : mget kt k' (mput kt k x m) = mget kt k' m := by
 unfold mget mput
 cases h : mfind kt k m 0 with
 | some p =>
  obtain ⟨j, v⟩ := p
  have := mfind_set_ne (x := x) hne h
  rw [Nat.sub_zero] at this
  simp only [this]
 | none => simp only [mfind_push_ne hne]
abbrev Node3 := Int × (Int × Int)
abbrev kN : Ty := .pr (.int .i64) (.pr (.int .i64) (.int .i64))
theorem inRange_eq (n : Nat) (a b c : Int) : impl_inRange n (a, b, c) = some (decide (a ≥ b) && decide (a ≤ c)) := by
 unfold impl_inRange
 cases decide (a ≥ b) <;> rfl
theorem in_eq (n : Nat) (a b c : Int) : spec_l1In n (a, b, c) = some (decide (a ≥ b) && decide (a ≤ c)) := inRange_eq n a b c
theorem count_some (n : Nat) (x : Int) : ∃ v, impl_count n x = some v := by
 unfold impl_count
 simp only [cond_eq_ite]
 repeat' split
 all_goals exact ⟨_, rfl⟩
theorem nodeOk_some (n : Nat) (x : Int × Int × Int × Int) : ∃ v, impl_nodeOk n x = some v := by
 unfold impl_nodeOk
 obtain ⟨v, hv⟩ := count_some n x.1
 rw [hv]
 simp only [Option.bind_some, inRange_eq, cond_eq_ite]
 repeat' split
 all_goals exact ⟨_, rfl⟩
def nodeV (n : Nat) (x : Int × Int × Int × Int) : Bool := (impl_nodeOk n x).getD false
theorem nodeOk_eq (n : Nat) (x) : impl_nodeOk n x = some (nodeV n x) := by
 obtain ⟨v, hv⟩ := nodeOk_some n x
 unfold nodeV
 rw [hv]; rfl
theorem right_eq (n : Nat) (x) : spec_l1Right n x = some (nodeV n x) := nodeOk_eq n x
def okFrom (n : Nat) (pre : List Node3) : List Node3 → Bool
 | [] => true
 | k :: r => (!pre.contains k && nodeV n (k.1, k.2.1, k.2.2, (pre.length : Int))) && okFrom n (pre ++ [k]) r
theorem find_loop (n : Nat) {pre r : List Node3} {k : Node3} (hx : (pre ++ k :: r).length ≤ 4294967296) : ∀ (m j : Nat), j ≤ pre.length → pre.length < m + j →
  ∃ q : Nat, spec_l1Find_L2 n m (pre ++ k :: r, k.1, k.2.1, k.2.2, (j : Int)) = some (Sum.inl (q : Int)) ∧ q ≤ pre.length ∧ (q = pre.length ↔ k ∉ pre.drop j)
 | 0, j, h1, h2 => by omega
 | m + 1, j, h1, h2 => by
  have hlt : j < (pre ++ k :: r).length := by simp; omega
  have e0 : spec_l1Find_L2 n (m + 1) (pre ++ k :: r, k.1, k.2.1, k.2.2, (j : Int)) = (cond (decide ((j : Int) < ((pre ++ k :: r).length : Int))) (cond (inb (j : Int) (pre ++ k :: r).length) (cond (((pre ++ k :: r).getD ((j : Int)).toNat ((0 : Int), ((0 : Int), (0 : Int)))).1 == k.1 && (((pre ++ k :: r).getD ((j : Int)).toNat ((0 : Int), ((0 : Int), (0 : Int)))).2.1 == k.2.1 && (((pre ++ k :: r).getD ((j : Int)).toNat ((0 : Int), ((0 : Int), (0 : Int)))).2.2 == k.2.2 && true))) (some (Sum.inl (j : Int))) (spec_l1Find_L2 n m (pre ++ k :: r, k.1, k.2.1, k.2.2, IntKind.i64.wrap ((j : Int) + (1 : Int))))) none) (some (Sum.inr ()))) := rfl
  rw [e0, decide_eq_true (by omega : (j : Int) < ((pre ++ k :: r).length : Int)), cond_true, inb_nat hlt, cond_true, Int.toNat_natCast, getD_of hlt]
  have heq : ∀ p : Node3, (p.1 == k.1 && (p.2.1 == k.2.1 && (p.2.2 == k.2.2 && true))) = decide (p = k) := by
   intro p
   obtain ⟨p1, p2, p3⟩ := p
   obtain ⟨k1, k2, k3⟩ := k
   rw [Bool.eq_iff_iff]
   simp
  rw [heq]
  rcases Nat.lt_or_ge j pre.length with q | q
  ·have hg : (pre ++ k :: r)[j] = pre[j] := List.getElem_append_left q
   rw [hg]
   have hd : pre.drop j = pre[j] :: pre.drop (j + 1) := List.drop_eq_getElem_cons q
   by_cases hk : pre[j] = k
   ·rw [decide_eq_true hk, cond_true]
    exact ⟨j, rfl, by omega, by rw [hd, hk]; simp; omega⟩
   ·rw [decide_eq_false hk, cond_false, step_wrap hlt hx]
    obtain ⟨z, g1, g2, g3⟩ := find_loop n hx m (j + 1) q (by omega)
    refine ⟨z, g1, g2, g3.trans ?_⟩
    rw [hd, List.mem_cons]
    constructor
    ·intro h h2
     rcases h2 with h2 | h2
     ·exact hk h2.symm
     ·exact h h2
    ·exact fun h h2 => h (.inr h2)
  ·have hj : j = pre.length := by omega
   subst hj
   rw [show (pre ++ k :: r)[pre.length] = k by simp, decide_eq_true rfl, cond_true]
   exact ⟨pre.length, rfl, Nat.le_refl _, by simp⟩
theorem find_eq (n : Nat) (hn : 4294967296 < n) {pre r : List Node3} {k : Node3} (hx : (pre ++ k :: r).length ≤ 4294967296) : ∃ q : Int, spec_l1Find n (pre ++ k :: r, k.1, k.2.1, k.2.2) = some q ∧ (q != (pre.length : Int)) = pre.contains k := by
  have hlen : pre.length < n := by have : pre.length ≤ (pre ++ k :: r).length := by simp
                                   omega
  obtain ⟨z, g1, g2, g3⟩ := find_loop n hx n 0 (Nat.zero_le _) (by omega)
  refine ⟨(z : Int), ?_, ?_⟩
  · show ((spec_l1Find_L2 n n (pre ++ k :: r, k.1, k.2.1, k.2.2, ((0 : Nat) : Int))).bind _) = _
    rw [g1]; rfl
  · rw [List.drop_zero] at g3
    rw [Bool.eq_iff_iff]
    simp only [bne_iff_ne, ne_eq, List.contains_iff_mem]
    constructor
    · intro h
      exact Classical.byContradiction fun h2 => h (by rw [g3.2 h2])
    · intro h h2
      exact (g3.1 (by omega)) h
theorem specPool_loop (n : Nat) (hn : 4294967296 < n) : ∀ (m : Nat) (pre r : List Node3), (pre ++ r).length ≤ 4294967296 → r.length < m → spec_PoolOk_L4 n m (pre ++ r, (pre.length : Int)) = some (bif okFrom n pre r then Sum.inr () else Sum.inl false)
 | 0, pre, r, hx, hm => by omega
 | m + 1, pre, [], hx, hm => by
  show (cond (decide ((pre.length : Int) < ((pre ++ []).length : Int))) _ _) = _
  rw [decide_eq_false (by simp), cond_false]; rfl
 | m + 1, pre, k :: r, hx, hm => by
  have hlt : pre.length < (pre ++ k :: r).length := by simp
  have e0 : spec_PoolOk_L4 n (m + 1) (pre ++ k :: r, (pre.length : Int)) = (cond (decide ((pre.length : Int) < ((pre ++ k :: r).length : Int))) (cond (inb (pre.length : Int) (pre ++ k :: r).length) ((spec_l1Right n (((pre ++ k :: r).getD ((pre.length : Int)).toNat ((0 : Int), ((0 : Int), (0 : Int)))).1, ((pre ++ k :: r).getD ((pre.length : Int)).toNat ((0 : Int), ((0 : Int), (0 : Int)))).2.1, ((pre ++ k :: r).getD ((pre.length : Int)).toNat ((0 : Int), ((0 : Int), (0 : Int)))).2.2, (pre.length : Int))).bind fun r1 => (cond (!r1) (some (Sum.inl false)) (cond (inb (pre.length : Int) (pre ++ k :: r).length) ((spec_l1Find n (pre ++ k :: r, ((pre ++ k :: r).getD ((pre.length : Int)).toNat ((0 : Int), ((0 : Int), (0 : Int)))).1, ((pre ++ k :: r).getD ((pre.length : Int)).toNat ((0 : Int), ((0 : Int), (0 : Int)))).2.1, ((pre ++ k :: r).getD ((pre.length : Int)).toNat ((0 : Int), ((0 : Int), (0 : Int)))).2.2)).bind fun r2 => (cond (r2 != (pre.length : Int)) (some (Sum.inl false)) (spec_PoolOk_L4 n m (pre ++ k :: r, IntKind.i64.wrap ((pre.length : Int) + (1 : Int)))))) none))) none) (some (Sum.inr ()))) := rfl
  obtain ⟨q, g1, g2⟩ := find_eq n hn (pre := pre) (r := r) (k := k) hx
  rw [e0, decide_eq_true (by omega : (pre.length : Int) < ((pre ++ k :: r).length : Int)), cond_true, inb_nat hlt, cond_true, Int.toNat_natCast, getD_of hlt, show (pre ++ k :: r)[pre.length] = k by simp, right_eq, g1]
  simp only [Option.bind_some, cond_true]
  rw [g2, step_wrap hlt hx]
  have ih := specPool_loop n hn m (pre ++ [k]) r (by simpa using hx) (by simp at hm; omega)
  rw [show pre ++ [k] ++ r = pre ++ k :: r by simp, show (pre ++ [k]).length = pre.length + 1 by simp] at ih
  rw [ih]
  rw [show okFrom n pre (k :: r) = ((!pre.contains k && nodeV n (k.1, k.2.1, k.2.2, (pre.length : Int))) && okFrom n (pre ++ [k]) r) from rfl]
  cases nodeV n (k.1, k.2.1, k.2.2, (pre.length : Int)) <;> cases pre.contains k <;> cases okFrom n (pre ++ [k]) r <;> rfl
theorem specPool_eq (n : Nat) (hn : 4294967296 < n) {xs : List Node3} (hx : xs.length ≤ 4294967296) : spec_PoolOk n xs = some (decide (xs.length ≤ 500) && okFrom n [] xs) := by
 unfold spec_PoolOk
 by_cases q : xs.length ≤ 500
 ·rw [decide_eq_false (by omega : ¬ (xs.length : Int) > (500 : Int)), cond_false, decide_eq_true q, Bool.true_and]
  have := specPool_loop n hn n [] xs (by simpa using hx) (by omega)
  rw [List.nil_append, show (([] : List Node3).length : Int) = (0 : Int) from rfl] at this
  rw [this]
  cases okFrom n [] xs <;> rfl
 ·rw [decide_eq_true (by omega : (xs.length : Int) > (500 : Int)), cond_true, decide_eq_false q]; rfl
def Cnt (kvs : List (Node3 × Int)) (pre : List Node3) : Prop := ∀ k : Node3, mget kN k kvs = if k ∈ pre then 1 else 0
theorem eqv_N {a b : Node3} : kN.eqv a b = decide (a = b) := by
 rw [Bool.eq_iff_iff, decide_eq_true_iff]
 exact ⟨eqv_eq kN, fun h => h ▸ eqv_self kN rfl a⟩
theorem region_eq (n : Nat) (kvs : List (Node3 × Int)) (i a b c : Int) (xs : List Node3) (l j : Int) : impl_PoolOk_R7 n (kvs, i, a, b, c, xs, l, j) = some (mput kN (a, b, c) (IntKind.i64.wrap (mget kN (a, b, c) kvs + (1 : Int))) kvs, i, a, b, c, xs, l, j) := by
 unfold impl_PoolOk_R7
 rw [mpos_in, cond_true, mset_mput]
theorem implPool_loop (n : Nat) {xs : List Node3} (hx : xs.length ≤ 4294967296) : ∀ (m : Nat) (pre r : List Node3) (kvs : List (Node3 × Int)), xs = pre ++ r → Cnt kvs pre → r.length < m → impl_PoolOk_L5 n m (kvs, xs, (xs.length : Int), (pre.length : Int)) = some (bif okFrom n pre r then Sum.inr () else Sum.inl false)
 | 0, pre, r, kvs, he, hc, hm => by omega
 | m + 1, pre, [], kvs, he, hc, hm => by
  show (cond (decide ((pre.length : Int) < (xs.length : Int))) _ _) = _
  rw [decide_eq_false (by rw [he]; simp), cond_false]; rfl
 | m + 1, pre, k :: r, kvs, he, hc, hm => by
  have hlt : pre.length < xs.length := by rw [he]; simp
  have hk : xs[pre.length] = k := by simp [he]
  have e0 : impl_PoolOk_L5 n (m + 1) (kvs, xs, (xs.length : Int), (pre.length : Int)) = (cond (decide ((pre.length : Int) < (xs.length : Int))) (cond (inb (pre.length : Int) xs.length) ((impl_PoolOk_R7 n (kvs, (pre.length : Int), (xs.getD ((pre.length : Int)).toNat ((0 : Int), ((0 : Int), (0 : Int)))).1, (xs.getD ((pre.length : Int)).toNat ((0 : Int), ((0 : Int), (0 : Int)))).2.1, (xs.getD ((pre.length : Int)).toNat ((0 : Int), ((0 : Int), (0 : Int)))).2.2, xs, (xs.length : Int), (pre.length : Int))).bind fun g1 => (cond (decide ((mget kN (g1.2.2.1, (g1.2.2.2.1, g1.2.2.2.2.1)) g1.1) > (1 : Int))) (some (Sum.inl false)) ((impl_nodeOk n (g1.2.2.1, g1.2.2.2.1, g1.2.2.2.2.1, g1.2.1)).bind fun r2 => (cond (!r2) (some (Sum.inl false)) (impl_PoolOk_L5 n m (g1.1, g1.2.2.2.2.2.1, g1.2.2.2.2.2.2.1, (IntKind.i64.wrap (g1.2.2.2.2.2.2.2 + (1 : Int))))))))) none) (some (Sum.inr ()))) := rfl
  rw [e0, decide_eq_true (by omega : (pre.length : Int) < (xs.length : Int)), cond_true, inb_nat hlt, cond_true, Int.toNat_natCast, getD_of hlt, hk, region_eq]
  simp only [Option.bind_some]
  have hself : kN.eqv (k.1, k.2.1, k.2.2) (k.1, k.2.1, k.2.2) = true := eqv_self kN rfl _
  have hke : ((k.1, k.2.1, k.2.2) : Node3) = k := rfl
  rw [mget_mput hself, nodeOk_eq, step_wrap hlt hx]
  rw [show okFrom n pre (k :: r) = ((!pre.contains k && nodeV n (k.1, k.2.1, k.2.2, (pre.length : Int))) && okFrom n (pre ++ [k]) r) from rfl]
  have hck := hc k
  by_cases hin : k ∈ pre
  ·rw [if_pos hin] at hck
   have : pre.contains k = true := by simpa using hin
   rw [this, show mget kN (k.1, k.2.1, k.2.2) kvs = 1 from hck]
   rfl
  ·rw [if_neg hin] at hck
   have hcf : pre.contains k = false := by simpa using hin
   rw [hcf, show mget kN (k.1, k.2.1, k.2.2) kvs = 0 from hck]
   rw [show decide (IntKind.i64.wrap ((0 : Int) + (1 : Int)) > (1 : Int)) = false from rfl, cond_false]
   have ih := implPool_loop n hx m (pre ++ [k]) r (mput kN k (IntKind.i64.wrap ((0 : Int) + (1 : Int))) kvs) (by simpa using he) (by
    intro k'
    by_cases q : k' = k
    ·subst q
     rw [mget_mput (eqv_self kN rfl k')]
     simp; rfl
    ·rw [mget_mput_ne (by rw [eqv_N]; exact decide_eq_false q), hc k']
     simp [q]) (by simp at hm; omega)
   rw [show (pre ++ [k]).length = pre.length + 1 by simp] at ih
   simp only [Option.bind_some]
   rw [show mput kN (k.1, k.2.1, k.2.2) (IntKind.i64.wrap ((0 : Int) + (1 : Int))) kvs = mput kN k (IntKind.i64.wrap ((0 : Int) + (1 : Int))) kvs from rfl, ih]
   cases nodeV n (k.1, k.2.1, k.2.2, (pre.length : Int)) <;> cases okFrom n (pre ++ [k]) r <;> rfl
theorem implPool_eq (n : Nat) (hn : 4294967296 < n) {xs : List Node3} (hx : xs.length ≤ 4294967296) : impl_PoolOk n xs = some (decide (xs.length ≤ 500) && okFrom n [] xs) := by
 unfold impl_PoolOk
 by_cases q : xs.length ≤ 500
 ·rw [decide_eq_false (by omega : ¬ (xs.length : Int) > (500 : Int)), cond_false, decide_eq_true q, Bool.true_and]
  have := implPool_loop n hx n [] xs [] rfl (fun k => by simp [mget, mfind]) (by omega)
  rw [show (([] : List Node3).length : Int) = (0 : Int) from rfl] at this
  rw [this]
  cases okFrom n [] xs <;> rfl
 ·rw [decide_eq_true (by omega : (xs.length : Int) > (500 : Int)), cond_true, decide_eq_false q]; rfl
def hasB (xs : List Node3) (v : Int) : Bool := decide (v ≥ 0) && decide (v ≤ (xs.length : Int) - 1)
theorem has_eq (n : Nat) {xs : List Node3} (hx : xs.length ≤ 4294967296) (v : Int) : spec_l1Has n (xs, v) = some (hasB xs v) := by
 show ((spec_l1In n (v, (0 : Int), IntKind.i64.wrap ((xs.length : Int) - (1 : Int)))).bind fun r1 => some r1) = _
 rw [wrap_ok (by omega) (by omega), in_eq]; rfl
theorem isTerm_eq (n : Nat) {xs : List Node3} (hx : xs.length ≤ 4294967296) (v : Int) : impl_Pool_isTerm n (xs, v) = some (xs, hasB xs v) := by
 show ((impl_inRange n (v, (0 : Int), IntKind.i64.wrap ((xs.length : Int) - (1 : Int)))).bind fun r1 => some (xs, r1)) = _
 rw [wrap_ok (by omega) (by omega), inRange_eq]; rfl
def envB (xs : List Node3) : List Int → Bool
 | [] => true
 | v :: r => (v == -1 || hasB xs v) && envB xs r
theorem implEnv_loop (n : Nat) {xs : List Node3} (hx : xs.length ≤ 4294967296) {env : List Int} (he : env.length ≤ 4294967296) : ∀ (m : Nat) (pre r : List Int), env = pre ++ r → r.length < m →
  impl_EnvOk_L2 n m (env, xs, env, (env.length : Int), (pre.length : Int)) = some (bif envB xs r then Sum.inr (env, xs) else Sum.inl false)
 | 0, pre, r, h, hm => by omega
 | m + 1, pre, [], h, hm => by
  show (cond (decide ((pre.length : Int) < (env.length : Int))) _ _) = _
  rw [decide_eq_false (by rw [h]; simp), cond_false]; rfl
 | m + 1, pre, v :: r, h, hm => by
  have hlt : pre.length < env.length := by rw [h]; simp
  have hk : env[pre.length] = v := by simp [h]
  have e0 : impl_EnvOk_L2 n (m + 1) (env, xs, env, (env.length : Int), (pre.length : Int)) = (cond (decide ((pre.length : Int) < (env.length : Int))) (cond (inb (pre.length : Int) env.length) (cond ((env.getD ((pre.length : Int)).toNat (0 : Int)) != (-1 : Int)) ((impl_Pool_isTerm n (xs, (env.getD ((pre.length : Int)).toNat (0 : Int)))).bind fun r1 => (cond (!r1.2) (some (Sum.inl false)) (impl_EnvOk_L2 n m (env, r1.1, env, (env.length : Int), (IntKind.i64.wrap ((pre.length : Int) + (1 : Int))))))) (impl_EnvOk_L2 n m (env, xs, env, (env.length : Int), (IntKind.i64.wrap ((pre.length : Int) + (1 : Int)))))) none) (some (Sum.inr (env, xs)))) := rfl
  rw [e0, decide_eq_true (by omega : (pre.length : Int) < (env.length : Int)), cond_true, inb_nat hlt, cond_true, Int.toNat_natCast, getD_of hlt, hk, step_wrap hlt he, isTerm_eq n hx]
  have ih := implEnv_loop n hx he m (pre ++ [v]) r (by simpa using h) (by simp at hm; omega)
  rw [show (pre ++ [v]).length = pre.length + 1 by simp] at ih
  simp only [Option.bind_some, ih]
  rw [show envB xs (v :: r) = ((v == -1 || hasB xs v) && envB xs r) from rfl, show (v != -1) = !(v == -1) from rfl]
  cases v == -1 <;> cases hasB xs v <;> cases envB xs r <;> rfl
theorem implEnv_eq (n : Nat) (hn : 4294967296 < n) {xs : List Node3} (hx : xs.length ≤ 4294967296) {env : List Int} (he : env.length ≤ 4294967296) :
  impl_EnvOk n (xs, env) = some (envB xs env && (decide (env.length = 26) && (decide (xs.length ≤ 500) && okFrom n [] xs))) := by
 have := implEnv_loop n hx he n [] env rfl (by omega)
 rw [show (([] : List Int).length : Int) = (0 : Int) from rfl] at this
 show ((impl_EnvOk_L2 n n (env, xs, env, (env.length : Int), (0 : Int))).bind _) = _
 rw [this]
 cases envB xs env with
 | false => rfl
 | true =>
  show (cond ((env.length : Int) == (26 : Int)) ((impl_PoolOk n xs).bind fun r5 => some r5) (some false)) = _
  rw [implPool_eq n hn hx]
  by_cases q : env.length = 26
  ·rw [show ((env.length : Int) == (26 : Int)) = true by rw [q]; rfl, decide_eq_true q]; rfl
  ·rw [show ((env.length : Int) == (26 : Int)) = false by simp; omega, decide_eq_false q]; rfl
theorem specEnv_loop (n : Nat) {xs : List Node3} (hx : xs.length ≤ 4294967296) {env : List Int} (he : env.length = 26) : ∀ (m : Nat) (pre r : List Int), env = pre ++ r → r.length < m →
  spec_l11Env_L4 n m (env, xs, (pre.length : Int)) = some (bif envB xs r then Sum.inr () else Sum.inl false)
 | 0, pre, r, h, hm => by omega
 | m + 1, pre, [], h, hm => by
  show (cond (decide ((pre.length : Int) < (26 : Int))) _ _) = _
  have : pre.length = 26 := by rw [h] at he; simpa using he
  rw [decide_eq_false (by omega), cond_false]; rfl
 | m + 1, pre, v :: r, h, hm => by
  have hlt : pre.length < env.length := by rw [h]; simp
  have hk : env[pre.length] = v := by simp [h]
  have e0 : spec_l11Env_L4 n (m + 1) (env, xs, (pre.length : Int)) = (cond (decide ((pre.length : Int) < (26 : Int))) (cond (inb (pre.length : Int) env.length) (cond ((env.getD ((pre.length : Int)).toNat (0 : Int)) != (-1 : Int)) (cond (inb (pre.length : Int) env.length) ((spec_l1Has n (xs, (env.getD ((pre.length : Int)).toNat (0 : Int)))).bind fun r1 => (cond (!r1) (some (Sum.inl false)) (spec_l11Env_L4 n m (env, xs, (IntKind.i64.wrap ((pre.length : Int) + (1 : Int))))))) none) (spec_l11Env_L4 n m (env, xs, (IntKind.i64.wrap ((pre.length : Int) + (1 : Int)))))) none) (some (Sum.inr ()))) := rfl
  rw [e0, decide_eq_true (by omega : (pre.length : Int) < (26 : Int)), cond_true, inb_nat hlt, cond_true, cond_true, Int.toNat_natCast, getD_of hlt, hk, step_wrap hlt (by omega), has_eq n hx]
  have ih := specEnv_loop n hx he m (pre ++ [v]) r (by simpa using h) (by simp at hm; omega)
  rw [show (pre ++ [v]).length = pre.length + 1 by simp] at ih
  simp only [Option.bind_some, ih]
  rw [show envB xs (v :: r) = ((v == -1 || hasB xs v) && envB xs r) from rfl, show (v != -1) = !(v == -1) from rfl]
  cases v == -1 <;> cases hasB xs v <;> cases envB xs r <;> rfl
theorem specEnv_eq (n : Nat) (hn : 4294967296 < n) {xs : List Node3} (hx : xs.length ≤ 4294967296) {env : List Int} : spec_l11Env n (xs, env) = some (decide (env.length = 26) && envB xs env) := by
 show (cond ((env.length : Int) != (26 : Int)) (some false) ((spec_l11Env_L4 n n (env, xs, (0 : Int))).bind _)) = _
 by_cases q : env.length = 26
 ·have := specEnv_loop n hx q n [] env rfl (by omega)
  rw [show (([] : List Int).length : Int) = (0 : Int) from rfl] at this
  rw [show ((env.length : Int) != (26 : Int)) = false by rw [q]; rfl, cond_false, this, decide_eq_true q]
  cases envB xs env <;> rfl
 ·rw [show ((env.length : Int) != (26 : Int)) = true by simp; omega, decide_eq_false q]; rfl
theorem n0 : 4294967296 < N0 := by decide
theorem maxLen_eq : maxLen = 9223372036854775807 := by decide
def places (d : Nat → Bool) (n : Nat) : List Nat := (List.range n).filter d
abbrev Inst9 := Int × (Int × (Int × (Int × (Int × ((List Int) × (Bool × (Bool × Int)))))))
abbrev Claim3 := Int × (Bool × Bool)
abbrev zI : Inst9 := ((0 : Int), ((0 : Int), ((0 : Int), ((0 : Int), ((0 : Int), ([], (false, (false, (0 : Int)))))))))
theorem lt_nat (i n : Nat) : decide ((i : Int) < (n : Int)) = decide (i < n) := by
 rw [Bool.eq_iff_iff]; simp
abbrev envL (x : Inst9) : List Int := x.2.2.2.2.2.1
structure Small (xs : List Node3) (kn : List Int) (li : List Inst9) (gv sh : List Int) (lg : List Claim3) : Prop where
 fx : xs.length ≤ 4294967296
 fk : kn.length ≤ 4294967296
 fl : li.length ≤ 4294967296
 fg : gv.length ≤ 4294967296
 fs : sh.length ≤ 4294967296
 fo : lg.length ≤ 4294967296
 fe : ∀ i, i < li.length → (envL (li.getD i zI)).length ≤ 4294967296
def poolB (xs : List Node3) : Bool := decide (xs.length ≤ 500) && okFrom N0 [] xs
section
variable {xs : List Node3} {kn : List Int} {li : List Inst9} {fr : Int} {gv sh : List Int} {lg : List Claim3}
end
section
variable {xs : List Node3} {kn : List Int} {li : List Inst9} {fr : Int} {gv sh : List Int} {lg : List Claim3}
end
section
variable {xs : List Node3} {kn : List Int} {li : List Inst9} {fr : Int} {gv sh : List Int} {lg : List Claim3}
end
section
variable {xs : List Node3} {kn : List Int} {li : List Inst9} {fr : Int} {gv sh : List Int} {lg : List Claim3} {k : Int}
end
abbrev zN3 : Node3 := ((0 : Int), ((0 : Int), (0 : Int)))
def pf (xs : List Node3) (k : Node3) : Nat → Nat → Option Nat
 | _, 0 => none
 | i, m + 1 => if xs.getD i zN3 = k then some i else pf xs k (i + 1) m
abbrev pfind (xs : List Node3) (k : Node3) : Option Nat := pf xs k 0 xs.length
theorem pf_some {xs : List Node3} {k : Node3} : ∀ {m i j : Nat}, pf xs k i m = some j → i ≤ j ∧ j < i + m ∧ xs.getD j zN3 = k
 | 0, _, _, h => by cases h
 | m + 1, i, j, h => by
  unfold pf at h
  by_cases hk : xs.getD i zN3 = k
  ·rw [if_pos hk] at h
   obtain rfl := Option.some.inj h
   exact ⟨Nat.le_refl _, by omega, hk⟩
  ·rw [if_neg hk] at h
   obtain ⟨h1, h2, h3⟩ := pf_some h
   exact ⟨by omega, by omega, h3⟩
theorem pf_none {xs : List Node3} {k : Node3} : ∀ {m i : Nat}, pf xs k i m = none → ∀ q, i ≤ q → q < i + m → xs.getD q zN3 ≠ k
 | 0, i, _, q, h1, h2 => by omega
 | m + 1, i, h, q, h1, h2 => by
  unfold pf at h
  by_cases hk : xs.getD i zN3 = k
  ·rw [if_pos hk] at h; cases h
  ·rw [if_neg hk] at h
   rcases Nat.eq_or_lt_of_le h1 with e | e
   ·subst e; exact hk
   ·exact pf_none h q e (by omega)
theorem node_beq (p k : Node3) : (p.1 == k.1 && (p.2.1 == k.2.1 && (p.2.2 == k.2.2 && true))) = decide (p = k) := by
 obtain ⟨p1, p2, p3⟩ := p
 obtain ⟨k1, k2, k3⟩ := k
 rw [Bool.eq_iff_iff]
 simp
theorem node_beq' (p k : Node3) : (k.1 == p.1 && (k.2.1 == p.2.1 && (k.2.2 == p.2.2 && true))) = decide (p = k) := by
 rw [node_beq k p, Bool.eq_iff_iff]
 simp [eq_comm]
theorem pf_step {xs : List Node3} {k : Node3} {i : Nat} (h : i < xs.length) : pf xs k i (xs.length - i) = if xs.getD i zN3 = k then some i else pf xs k (i + 1) (xs.length - (i + 1)) := by
 have e : xs.length - i = (xs.length - (i + 1)) + 1 := by omega
 rw [e]; rfl
theorem pf_end {xs : List Node3} {k : Node3} {i : Nat} (h : xs.length ≤ i) : pf xs k i (xs.length - i) = none := by
 have e : xs.length - i = 0 := by omega
 rw [e]; rfl
theorem index_loop (n : Nat) {xs : List Node3} (hx : xs.length ≤ 4294967296) (k : Node3) : ∀ (m i : Nat), i ≤ xs.length → xs.length < m + i → slices_Index___impl_Node_impl_Node__L2 n m (xs, k.1, k.2.1, k.2.2, (xs.length : Int), (i : Int)) =
  some (match pf xs k i (xs.length - i) with | some j => Sum.inl (j : Int) | none => Sum.inr ())
 | 0, i, h1, h2 => by omega
 | m + 1, i, h1, h2 => by
  have e0 : slices_Index___impl_Node_impl_Node__L2 n (m + 1) (xs, k.1, k.2.1, k.2.2, (xs.length : Int), (i : Int)) = (cond (decide ((i : Int) < (xs.length : Int))) (cond (inb (i : Int) xs.length) (cond (k.1 == (xs.getD ((i : Int)).toNat zN3).1 && (k.2.1 == (xs.getD ((i : Int)).toNat zN3).2.1 && (k.2.2 == (xs.getD ((i : Int)).toNat zN3).2.2 && true))) (some (Sum.inl (i : Int))) (slices_Index___impl_Node_impl_Node__L2 n m (xs, k.1, k.2.1, k.2.2, (xs.length : Int), IntKind.i64.wrap ((i : Int) + (1 : Int))))) none) (some (Sum.inr ()))) := rfl
  rw [e0, lt_nat]
  by_cases hlt : i < xs.length
  ·rw [decide_eq_true hlt, cond_true, inb_nat hlt, cond_true, Int.toNat_natCast, step_wrap hlt hx, node_beq', pf_step hlt]
   by_cases hk : xs.getD i zN3 = k
   ·rw [decide_eq_true hk, cond_true, if_pos hk]
   ·rw [decide_eq_false hk, cond_false, if_neg hk, index_loop n hx k m (i + 1) hlt (by omega)]
  ·rw [decide_eq_false hlt, cond_false, pf_end (by omega)]
theorem find_loop2 (n : Nat) {xs : List Node3} (hx : xs.length ≤ 4294967296) (k : Node3) : ∀ (m i : Nat), i ≤ xs.length → xs.length < m + i → spec_l1Find_L2 n m (xs, k.1, k.2.1, k.2.2, (i : Int)) =
  some (match pf xs k i (xs.length - i) with | some j => Sum.inl (j : Int) | none => Sum.inr ())
 | 0, i, h1, h2 => by omega
 | m + 1, i, h1, h2 => by
  have e0 : spec_l1Find_L2 n (m + 1) (xs, k.1, k.2.1, k.2.2, (i : Int)) = (cond (decide ((i : Int) < (xs.length : Int))) (cond (inb (i : Int) xs.length) (cond ((xs.getD ((i : Int)).toNat zN3).1 == k.1 && ((xs.getD ((i : Int)).toNat zN3).2.1 == k.2.1 && ((xs.getD ((i : Int)).toNat zN3).2.2 == k.2.2 && true))) (some (Sum.inl (i : Int))) (spec_l1Find_L2 n m (xs, k.1, k.2.1, k.2.2, IntKind.i64.wrap ((i : Int) + (1 : Int))))) none) (some (Sum.inr ()))) := rfl
  rw [e0, lt_nat]
  by_cases hlt : i < xs.length
  ·rw [decide_eq_true hlt, cond_true, inb_nat hlt, cond_true, Int.toNat_natCast, step_wrap hlt hx, node_beq, pf_step hlt]
   by_cases hk : xs.getD i zN3 = k
   ·rw [decide_eq_true hk, cond_true, if_pos hk]
   ·rw [decide_eq_false hk, cond_false, if_neg hk, find_loop2 n hx k m (i + 1) hlt (by omega)]
  ·rw [decide_eq_false hlt, cond_false, pf_end (by omega)]
def pfI (xs : List Node3) (k : Node3) : Int := match pfind xs k with
 | some j => (j : Int)
 | none => -1
theorem index_eq {xs : List Node3} (hx : xs.length ≤ 4294967296) (k : Node3) : slices_Index___impl_Node_impl_Node_ N0 (xs, k.1, k.2.1, k.2.2) = some (pfI xs k) := by
 unfold slices_Index___impl_Node_impl_Node_
 dsimp only
 have h := index_loop N0 hx k N0 0 (Nat.zero_le _) (by have := n0; omega)
 rw [Nat.sub_zero] at h
 rw [show (0 : Int) = ((0 : Nat) : Int) from rfl, h]
 unfold pfI pfind
 cases pf xs k 0 xs.length <;> rfl
theorem l1Find_eq {xs : List Node3} (hx : xs.length ≤ 4294967296) (k : Node3) : spec_l1Find N0 (xs, k.1, k.2.1, k.2.2) = some (pfI xs k) := by
 unfold spec_l1Find
 dsimp only
 have h := find_loop2 N0 hx k N0 0 (Nat.zero_le _) (by have := n0; omega)
 rw [Nat.sub_zero] at h
 rw [show (0 : Int) = ((0 : Nat) : Int) from rfl, h]
 unfold pfI pfind
 cases pf xs k 0 xs.length <;> rfl
theorem room_500 {α : Type} {xs : List Node3} (h : xs.length ≤ 500) {k : α} : room (xs.length + [k].length) = true := by
 unfold room
 rw [List.length_singleton]
 simp
 omega
theorem nodeV_up {c a b : Int} {i j : Nat} (hj : j ≤ 4294967296) (hij : i ≤ j) (h : nodeV N0 (c, a, b, (i : Int)) = true) : nodeV N0 (c, a, b, (j : Int)) = true := by
 have wi : IntKind.i64.wrap ((i : Int) - (1 : Int)) = (i : Int) - 1 := wrap_ok (by omega) (by omega)
 have wj : IntKind.i64.wrap ((j : Int) - (1 : Int)) = (j : Int) - 1 := wrap_ok (by omega) (by omega)
 have up : ∀ v : Int, (decide (v ≥ 0) && decide (v ≤ (i : Int) - 1)) = true → (decide (v ≥ 0) && decide (v ≤ (j : Int) - 1)) = true := fun v hv => by
  rw [Bool.and_eq_true, decide_eq_true_iff, decide_eq_true_iff] at hv ⊢
  omega
 have ha := up a
 have hb := up b
 revert h
 unfold nodeV impl_nodeOk
 dsimp only
 obtain ⟨v, hv⟩ := count_some N0 c
 rw [hv]
 simp only [Option.bind_some, inRange_eq, wi, wj]
 generalize (decide (a ≥ 0) && decide (a ≤ (i : Int) - 1)) = A1 at ha ⊢
 generalize (decide (a ≥ 0) && decide (a ≤ (j : Int) - 1)) = A2 at ha ⊢
 generalize (decide (b ≥ 0) && decide (b ≤ (i : Int) - 1)) = B1 at hb ⊢
 generalize (decide (b ≥ 0) && decide (b ≤ (j : Int) - 1)) = B2 at hb ⊢
 cases (v == (0 : Int))
 ·cases (v == (1 : Int))
  ·cases (v == (2 : Int))
   ·exact id
   ·cases A1
    ·exact fun h => Bool.noConfusion h
    ·cases B1
     ·exact fun h => (by cases A2 <;> exact Bool.noConfusion h)
     ·rw [ha rfl, hb rfl]; exact id
  ·cases A1
   ·exact fun h => Bool.noConfusion h
   ·rw [ha rfl]; exact id
 ·exact id
theorem okFrom_nd {n : Nat} : ∀ {r pre : List Node3}, okFrom n pre r = true → ∀ j, j < r.length → nodeV n ((r.getD j zN3).1, (r.getD j zN3).2.1, (r.getD j zN3).2.2, ((pre.length + j : Nat) : Int)) = true
 | [], pre, _, j, hj => absurd hj (Nat.not_lt_zero _)
 | k :: r, pre, h, j, hj => by
  have h : ((!pre.contains k && nodeV n (k.1, k.2.1, k.2.2, (pre.length : Int))) && okFrom n (pre ++ [k]) r) = true := h
  rw [Bool.and_eq_true, Bool.and_eq_true] at h
  match j with
  | 0 => exact h.1.2
  | j + 1 =>
   have := okFrom_nd h.2 j (by simpa using hj)
   rw [List.length_append] at this
   have e : pre.length + (j + 1) = pre.length + [k].length + j := by simp; omega
   rw [e]
   exact this
theorem okFrom_app {n : Nat} : ∀ {r pre s : List Node3}, okFrom n pre (r ++ s) = (okFrom n pre r && okFrom n (pre ++ r) s)
 | [], pre, s => by simp [okFrom]
 | k :: r, pre, s => by
  show ((!pre.contains k && nodeV n (k.1, k.2.1, k.2.2, (pre.length : Int))) && okFrom n (pre ++ [k]) (r ++ s)) = (((!pre.contains k && nodeV n (k.1, k.2.1, k.2.2, (pre.length : Int))) && okFrom n (pre ++ [k]) r) && okFrom n (pre ++ (k :: r)) s)
  rw [okFrom_app]
  simp only [Bool.and_assoc, List.append_assoc, List.singleton_append]
theorem poolB_len {xs : List Node3} (h : poolB xs = true) : xs.length ≤ 500 := by
 unfold poolB at h
 rw [Bool.and_eq_true, decide_eq_true_iff] at h
 exact h.1
theorem poolB_nd {xs : List Node3} (h : poolB xs = true) {j : Nat} (hj : j < xs.length) : nodeV N0 ((xs.getD j zN3).1, (xs.getD j zN3).2.1, (xs.getD j zN3).2.2, (j : Int)) = true := by
 unfold poolB at h
 rw [Bool.and_eq_true] at h
 have := okFrom_nd h.2 j hj
 simpa using this
theorem poolB_push {xs : List Node3} (h : poolB xs = true) (hl : xs.length < 500) {k : Node3} (hk : nodeV N0 (k.1, k.2.1, k.2.2, (xs.length : Int)) = true) (hn : pfind xs k = none) : poolB (xs ++ [k]) = true := by
 unfold poolB at h ⊢
 rw [Bool.and_eq_true] at h ⊢
 refine ⟨decide_eq_true (by simp; omega), ?_⟩
 rw [okFrom_app, h.2, Bool.true_and, List.nil_append]
 show ((!xs.contains k && nodeV N0 (k.1, k.2.1, k.2.2, (xs.length : Int))) && true) = true
 rw [hk, Bool.and_true, Bool.and_true, Bool.not_eq_true']
 rw [← Bool.not_eq_true]
 intro hc
 have hm : k ∈ xs := by simpa using hc
 obtain ⟨j, hj, e⟩ := List.mem_iff_getElem.1 hm
 refine pf_none hn j (Nat.zero_le _) (by omega) ?_
 rw [getD_of hj]
 exact e
def addK (xs : List Node3) (k : Node3) : Option (List Node3 × Int) :=
 bif nodeV N0 (k.1, k.2.1, k.2.2, (xs.length : Int)) then (match pfind xs k with
  | some j => some (xs, (j : Int))
  | none => if 500 ≤ xs.length then none else some (xs ++ [k], (xs.length : Int))) else none
def norm (kd a b : Int) : Node3 := bif kd == 8 then (kd, mn a b, mx a b) else (kd, a, b)
def addP (xs : List Node3) (kd a b : Int) : Option (List Node3 × Int) := addK xs (norm kd a b)
def outI (xs : List Node3) : Option (List Node3 × Int) → List Node3 × Int
 | some r => r
 | none => (xs, -1)
theorem addK_pool {xs ys : List Node3} {k : Node3} {t : Int} (hp : poolB xs = true) (h : addK xs k = some (ys, t)) : poolB ys = true ∧ 0 ≤ t ∧ t < (ys.length : Int) ∧ (∃ zs, ys = xs ++ zs) ∧ ys.getD t.toNat zN3 = k := by
 unfold addK at h
 cases hk : nodeV N0 (k.1, k.2.1, k.2.2, (xs.length : Int)) with
 | false => rw [hk] at h; cases h
 | true =>
  rw [hk, cond_true] at h
  cases hf : pfind xs k with
  | some j =>
   rw [hf] at h
   obtain ⟨rfl, rfl⟩ := Prod.mk.inj (Option.some.inj h)
   obtain ⟨h1, h2, h3⟩ := pf_some hf
   exact ⟨hp, by omega, by omega, ⟨[], by simp⟩, by rw [Int.toNat_natCast]; exact h3⟩
  | none =>
   rw [hf] at h
   dsimp only at h
   by_cases hl : 500 ≤ xs.length
   ·rw [if_pos hl] at h; cases h
   ·rw [if_neg hl] at h
    obtain ⟨rfl, rfl⟩ := Prod.mk.inj (Option.some.inj h)
    exact ⟨poolB_push hp (by omega) hk hf, by omega, by simp; omega, ⟨[k], rfl⟩, by rw [Int.toNat_natCast]; simp [List.getD_eq_getElem?_getD]⟩
theorem isTermO_eq {xs : List Node3} (hx : xs.length ≤ 4294967296) (v : Int) : impl_Pool_isTerm_o N0 (xs, v) = some (xs, hasB xs v) := isTerm_eq N0 hx v
theorem implAddK {xs : List Node3} (hx : xs.length ≤ 500) (k : Node3) : ((impl_nodeOk N0 (k.1, k.2.1, k.2.2, ((xs).length : Int))).bind fun r1 => (cond (!r1) (some (xs, (-1 : Int))) ((impl_Pool_find_o N0 (xs, k.1, k.2.1, k.2.2)).bind fun r2 => (cond (decide (r2.2 ≥ (0 : Int))) (some (r2.1, r2.2)) (cond (decide (((r2.1).length : Int) ≥ (500 : Int))) (some (r2.1, (-1 : Int))) ((impl_Pool_add_R11 N0 (r2.1, k.1, k.2.1, k.2.2)).bind fun g3 => (some (g3, (IntKind.i64.wrap (((g3).length : Int) - (1 : Int)))))))))))
  = some (outI xs (addK xs k)) := by
 rw [nodeOk_eq, Option.bind_some]
 unfold addK
 cases nodeV N0 (k.1, k.2.1, k.2.2, (xs.length : Int)) with
 | false => rfl
 | true =>
  rw [cond_true, Bool.not_true, cond_false]
  have e1 : impl_Pool_find_o N0 (xs, k.1, k.2.1, k.2.2) = some (xs, pfI xs k) := by
   unfold impl_Pool_find_o
   dsimp only
   rw [index_eq (by omega)]; rfl
  rw [e1, Option.bind_some]
  dsimp only
  unfold pfI
  cases hf : pfind xs k with
  | some j =>
   dsimp only
   rw [decide_eq_true (by omega : (j : Int) ≥ (0 : Int)), cond_true]; rfl
  | none =>
   dsimp only
   rw [decide_eq_false (by omega : ¬ ((-1 : Int) ≥ (0 : Int))), cond_false]
   by_cases hl : 500 ≤ xs.length
   ·rw [decide_eq_true (by omega : (xs.length : Int) ≥ (500 : Int)), cond_true, if_pos hl]; rfl
   ·rw [decide_eq_false (by omega : ¬ ((xs.length : Int) ≥ (500 : Int))), cond_false, if_neg hl]
    have e2 : impl_Pool_add_R11 N0 (xs, k.1, k.2.1, k.2.2) = some (xs ++ [k]) := by
     unfold impl_Pool_add_R11
     dsimp only
     have : room (xs.length + [(k.1, (k.2.1, k.2.2))].length) = true := room_500 hx
     rw [this]; rfl
    rw [e2, Option.bind_some]
    have e3 : IntKind.i64.wrap (((xs ++ [k]).length : Int) - (1 : Int)) = (xs.length : Int) := by
     have hl : (xs ++ [k]).length = xs.length + 1 := by rw [List.length_append, List.length_singleton]
     rw [hl, wrap_ok (by omega) (by omega)]
     omega
    rw [e3]; rfl
theorem implAdd_eq {xs : List Node3} (hx : xs.length ≤ 500) (kd a b : Int) : impl_Pool_add N0 (xs, kd, a, b) = some (outI xs (addP xs kd a b)) := by
 unfold impl_Pool_add addP norm
 dsimp only
 cases hk : (kd == (8 : Int)) with
 | true => rw [cond_true, cond_true]; exact implAddK hx (kd, mn a b, mx a b)
 | false => rw [cond_false, cond_false]; exact implAddK hx (kd, a, b)
theorem implName_eq {xs : List Node3} (hx : xs.length ≤ 500) (c : Int) : impl_Pool_name N0 (xs, c) = some (outI xs (addP xs 1 c 0)) := by
 unfold impl_Pool_name
 dsimp only
 rw [implAdd_eq hx]; rfl
theorem specAddK {xs : List Node3} (hp : poolB xs = true) (k : Node3) : ((spec_l1Find N0 (xs, k.1, k.2.1, k.2.2)).bind fun r9 => (cond (decide (r9 ≥ (0 : Int))) (some (xs, r9)) ((spec_l1Right N0 (k.1, k.2.1, k.2.2, ((xs).length : Int))).bind fun r10 => (cond (!r10) (some (xs, (-1 : Int))) (cond (((xs).length : Int) == (500 : Int)) (some (xs, (-1 : Int))) ((spec_l1Copy N0 xs).bind fun r11 => (cond (room ((r11).length + ([(k.1, (k.2.1, k.2.2))]).length)) ((spec_l1Add_R10 N0 (xs, [], (r11 ++ [(k.1, (k.2.1, k.2.2))]))).bind fun g12 => (some (g12.1, g12.2))) none)))))))
  = some (outI xs (addK xs k)) := by
 have hx := poolB_len hp
 rw [l1Find_eq (by omega), Option.bind_some]
 unfold pfI addK
 cases hf : pfind xs k with
 | some j =>
  obtain ⟨h1, h2, h3⟩ := pf_some hf
  have hj : j < xs.length := by omega
  have hnd := poolB_nd hp hj
  rw [h3] at hnd
  rw [nodeV_up (by omega) (Nat.le_of_lt hj) hnd]
  dsimp only
  rw [decide_eq_true (by omega : (j : Int) ≥ (0 : Int)), cond_true]; rfl
 | none =>
  dsimp only
  rw [decide_eq_false (by omega : ¬ ((-1 : Int) ≥ (0 : Int))), cond_false, right_eq, Option.bind_some]
  cases nodeV N0 (k.1, k.2.1, k.2.2, (xs.length : Int)) with
  | false => rfl
  | true =>
   rw [cond_true, Bool.not_true, cond_false]
   by_cases hl : 500 ≤ xs.length
   ·have : ((xs.length : Int) == (500 : Int)) = true := by simp; omega
    rw [this, cond_true, if_pos hl]; rfl
   ·have : ((xs.length : Int) == (500 : Int)) = false := by simp; omega
    rw [this, cond_false, if_neg hl]
    have e1 : spec_l1Copy N0 xs = some xs := by
     unfold spec_l1Copy
     have : room (([] : List Node3).length + xs.length) = true := by
      unfold room
      simp
      omega
     rw [this]; rfl
    rw [e1, Option.bind_some]
    have : room (xs.length + [(k.1, (k.2.1, k.2.2))].length) = true := room_500 hx
    rw [this, cond_true]; rfl
theorem specAdd_eq {xs : List Node3} (hp : poolB xs = true) (kd a b : Int) : spec_l1Add N0 (xs, kd, a, b) = some (outI xs (addP xs kd a b)) := by
 unfold spec_l1Add addP norm mn mx
 dsimp only
 cases hk : (kd == (8 : Int)) with
 | true =>
  rw [cond_true, cond_true]
  by_cases hab : a > b
  ·rw [decide_eq_true hab, cond_true, if_pos (by omega : b < a), if_neg (by omega : ¬ b > a)]
   exact specAddK hp (kd, b, a)
  ·rw [decide_eq_false hab, cond_false, if_neg (by omega : ¬ b < a)]
   have : (if b > a then b else a) = b := by split <;> omega
   rw [this]
   exact specAddK hp (kd, a, b)
 | false => rw [cond_false, cond_false]; exact specAddK hp (kd, a, b)
theorem specName_eq {xs : List Node3} (hp : poolB xs = true) (c : Int) : spec_l2Name N0 (xs, c) = some (outI xs (addP xs 1 c 0)) := by
 unfold spec_l2Name
 dsimp only
 rw [specAdd_eq hp]; rfl
def raiseP (xs : List Node3) (a e : Int) : Option (List Node3 × Int) :=
 bif hasB xs a then (bif hasB xs e then (bif (xs.getD a.toNat zN3).1 == 7 then addP xs 8 e (xs.getD a.toNat zN3).2.1 else none) else none) else none
theorem hasB_inb {xs : List Node3} {a : Int} (h : hasB xs a = true) : inb a xs.length = true := by
 unfold hasB at h
 rw [Bool.and_eq_true, decide_eq_true_iff, decide_eq_true_iff] at h
 have e : a = ((a.toNat : Nat) : Int) := by omega
 rw [e]
 exact inb_nat (by omega)
theorem implRaise_eq {xs : List Node3} (hx : xs.length ≤ 500) (a e : Int) : impl_Pool_raise N0 (xs, a, e) = some (outI xs (raiseP xs a e)) := by
 unfold impl_Pool_raise raiseP
 dsimp only
 rw [isTermO_eq (by omega), Option.bind_some]
 dsimp only
 cases ha : hasB xs a with
 | false => rfl
 | true =>
  rw [Bool.not_true, cond_false, cond_true, isTermO_eq (by omega), Option.bind_some]
  dsimp only
  cases hasB xs e with
  | false => rfl
  | true =>
   rw [Bool.not_true, cond_false, cond_true, hasB_inb ha, cond_true, cond_true]
   show (cond (!((xs.getD a.toNat zN3).1 == (7 : Int))) _ _) = _
   cases ((xs.getD a.toNat zN3).1 == (7 : Int)) with
   | false => rfl
   | true =>
    rw [Bool.not_true, cond_false, cond_true, implAdd_eq hx]; rfl
theorem specRaise_eq {xs : List Node3} (hp : poolB xs = true) (a e : Int) : spec_l3Raise N0 (xs, a, e) = some (outI xs (raiseP xs a e)) := by
 have hx := poolB_len hp
 unfold spec_l3Raise raiseP
 dsimp only
 rw [has_eq N0 (by omega), Option.bind_some]
 cases ha : hasB xs a with
 | false => rfl
 | true =>
  rw [Bool.not_true, cond_false, cond_true, has_eq N0 (by omega), Option.bind_some]
  cases hasB xs e with
  | false => rfl
  | true =>
   rw [Bool.not_true, cond_false, cond_true, hasB_inb ha, cond_true, cond_true]
   show (cond (!((xs.getD a.toNat zN3).1 == (7 : Int))) _ _) = _
   cases ((xs.getD a.toNat zN3).1 == (7 : Int)) with
   | false => rfl
   | true =>
    rw [Bool.not_true, cond_false, cond_true, specAdd_eq hp]; rfl
inductive Pat where
 | name (c : Int)
 | var (i : Int)
 | ask (i : Int)
 | un (k : Int) (p : Pat)
 | bin (k : Int) (p q : Pat)
 | exp (p q : Pat)
def Pat.asks : Pat → Bool
 | .ask _ => true
 | .un _ p => p.asks
 | .bin _ p q => p.asks || q.asks
 | .exp p q => p.asks || q.asks
 | _ => false
def mk (env : List Int) : Pat → List Node3 → Option (List Node3 × Int)
 | .name c, xs => addP xs 1 c 0
 | .var i, xs => bif decide (env.getD i.toNat 0 < 0) then none else some (xs, env.getD i.toNat 0)
 | .ask _, xs => none
 | .un k p, xs => (mk env p xs).bind fun r => addP r.1 k r.2 0
 | .bin k p q, xs => (mk env p xs).bind fun r => (mk env q r.1).bind fun s => addP s.1 k r.2 s.2
 | .exp p q, xs => (mk env p xs).bind fun r => (mk env q r.1).bind fun s => raiseP s.1 s.2 r.2
theorem mk_asks {env : List Int} : ∀ {p : Pat} (xs : List Node3), p.asks = true → mk env p xs = none
 | .name c, xs, h => by cases h
 | .var i, xs, h => by cases h
 | .ask _, xs, _ => rfl
 | .un k p, xs, h => by
  show (mk env p xs).bind _ = none
  rw [mk_asks xs (show p.asks = true from h)]; rfl
 | .bin k p q, xs, h => by
  have h : (p.asks || q.asks) = true := h
  show (mk env p xs).bind _ = none
  cases hp : p.asks with
  | true => rw [mk_asks xs hp]; rfl
  | false =>
   rw [hp, Bool.false_or] at h
   cases mk env p xs with
   | none => rfl
   | some r => show (mk env q r.1).bind _ = none; rw [mk_asks r.1 h]; rfl
 | .exp p q, xs, h => by
  have h : (p.asks || q.asks) = true := h
  show (mk env p xs).bind _ = none
  cases hp : p.asks with
  | true => rw [mk_asks xs hp]; rfl
  | false =>
   rw [hp, Bool.false_or] at h
   cases mk env p xs with
   | none => rfl
   | some r => show (mk env q r.1).bind _ = none; rw [mk_asks r.1 h]; rfl
def Grown (xs ys : List Node3) (t : Int) : Prop := poolB ys = true ∧ 0 ≤ t ∧ (∃ zs, ys = xs ++ zs)
theorem addP_grown {xs ys : List Node3} {kd a b t : Int} (hp : poolB xs = true) (h : addP xs kd a b = some (ys, t)) : Grown xs ys t ∧ t < (ys.length : Int) := by
 obtain ⟨h1, h2, h3, h4, _⟩ := addK_pool hp h
 exact ⟨⟨h1, h2, h4⟩, h3⟩
theorem Grown.trans {xs ys zs : List Node3} {t u : Int} (h1 : Grown xs ys t) (h2 : Grown ys zs u) : Grown xs zs u := by
 obtain ⟨a1, a2, v, rfl⟩ := h1
 obtain ⟨b1, b2, w, rfl⟩ := h2
 exact ⟨b1, b2, v ++ w, by rw [List.append_assoc]⟩
theorem raiseP_add {xs ys : List Node3} {a e t : Int} (h : raiseP xs a e = some (ys, t)) : addP xs 8 e (xs.getD a.toNat zN3).2.1 = some (ys, t) := by
 unfold raiseP at h
 cases h1 : hasB xs a with
 | false => rw [h1] at h; cases h
 | true =>
  cases h2 : hasB xs e with
  | false => rw [h1, h2] at h; cases h
  | true =>
   cases h3 : ((xs.getD a.toNat zN3).1 == 7) with
   | false => rw [h1, h2, h3] at h; cases h
   | true => rw [h1, h2, h3] at h; exact h
theorem mk_grown {env : List Int} : ∀ {p : Pat} {xs ys : List Node3} {t : Int}, poolB xs = true → mk env p xs = some (ys, t) → Grown xs ys t
 | .name c, xs, ys, t, hp, h => (addP_grown hp h).1
 | .var i, xs, ys, t, hp, h => by
  have h : (bif decide (env.getD i.toNat 0 < 0) then none else some (xs, env.getD i.toNat 0)) = some (ys, t) := h
  by_cases hn : env.getD i.toNat 0 < 0
  ·rw [decide_eq_true hn] at h; cases h
  ·rw [decide_eq_false hn] at h
   obtain ⟨rfl, rfl⟩ := Prod.mk.inj (Option.some.inj h)
   exact ⟨hp, by omega, [], by simp⟩
 | .ask _, xs, ys, t, hp, h => by cases h
 | .un k p, xs, ys, t, hp, h => by
  obtain ⟨r, h1, h2⟩ := Option.bind_eq_some_iff.1 (show (mk env p xs).bind _ = some (ys, t) from h)
  have g1 := mk_grown hp (show mk env p xs = some (r.1, r.2) from h1)
  exact g1.trans (addP_grown g1.1 h2).1
 | .bin k p q, xs, ys, t, hp, h => by
  obtain ⟨r, h1, h2⟩ := Option.bind_eq_some_iff.1 (show (mk env p xs).bind _ = some (ys, t) from h)
  have g1 := mk_grown hp (show mk env p xs = some (r.1, r.2) from h1)
  obtain ⟨s, h3, h4⟩ := Option.bind_eq_some_iff.1 h2
  have g2 := mk_grown g1.1 (show mk env q r.1 = some (s.1, s.2) from h3)
  exact (g1.trans g2).trans (addP_grown g2.1 h4).1
 | .exp p q, xs, ys, t, hp, h => by
  obtain ⟨r, h1, h2⟩ := Option.bind_eq_some_iff.1 (show (mk env p xs).bind _ = some (ys, t) from h)
  have g1 := mk_grown hp (show mk env p xs = some (r.1, r.2) from h1)
  obtain ⟨s, h3, h4⟩ := Option.bind_eq_some_iff.1 h2
  have g2 := mk_grown g1.1 (show mk env q r.1 = some (s.1, s.2) from h3)
  exact (g1.trans g2).trans (addP_grown g2.1 (raiseP_add h4)).1
abbrev Piece := Int × (Int × List Int)
abbrev SNode := Int × (Int × (Int × Bool))
abbrev zP : Piece := ((0 : Int), ((0 : Int), []))
abbrev zS : SNode := ((0 : Int), ((0 : Int), ((0 : Int), false)))
def kindV (s : Int) : Int := if s = 40 then 2 else if s = 123 then 3 else if s = 91 then 4 else if s = 35 then 5 else if s = 107 then 6 else if s = 94 then 7 else if s = 42 then 8 else 0
def leaf2 (x : Piece) (y : SNode) : Option Pat :=
 bif x.1 == 110 then (bif y.1 == 1 && (x.2.1 == y.2.1 && !y.2.2.2) then some (.name x.2.1) else none)
 else bif x.1 == 36 then (bif (y.1 == 9 && (x.2.1 == y.2.1 && !y.2.2.2)) && (decide (0 ≤ x.2.1) && decide (x.2.1 < 26)) then some (.var x.2.1) else none)
 else bif x.1 == 63 then (bif (y.1 == 9 && (x.2.1 == y.2.1 && y.2.2.2)) && (decide (0 ≤ x.2.1) && decide (x.2.1 < 26)) then some (.ask x.2.1) else none)
 else none
def isLeaf (s : Int) : Bool := s == 110 || (s == 36 || s == 63)
def one2 (x : Piece) (y : SNode) (P : Pat) : Option Pat :=
 bif !isLeaf x.1 && (!(x.1 == 120) && ((kindV x.1 == y.1) && ((y.1 == 5 || y.1 == 7) && (y.2.2.2 == P.asks)))) then some (.un y.1 P) else none
def two2 (x : Piece) (y : SNode) (P Q : Pat) : Option Pat :=
 bif !isLeaf x.1 && (y.2.2.2 == (P.asks || Q.asks)) then (bif x.1 == 120 then (bif y.1 == 10 then some (.exp P Q) else none) else (bif (kindV x.1 == y.1) && (y.1 == 2 || (y.1 == 3 || (y.1 == 4 || (y.1 == 6 || y.1 == 8)))) then some (.bin y.1 P Q) else none)) else none
def dec2 (l1 : List Piece) (l2 : List SNode) : Nat → Int → Int → Option Pat
 | 0, _, _ => none
 | k + 1, a, b => bif inb a l1.length && inb b l2.length then (match (l1.getD a.toNat zP).2.2 with
   | [] => leaf2 (l1.getD a.toNat zP) (l2.getD b.toNat zS)
   | [p] => (dec2 l1 l2 k p (l2.getD b.toNat zS).2.1).bind fun P => one2 (l1.getD a.toNat zP) (l2.getD b.toNat zS) P
   | [p, q] => (dec2 l1 l2 k p (l2.getD b.toNat zS).2.1).bind fun P => (dec2 l1 l2 k q (l2.getD b.toNat zS).2.2.1).bind fun Q => two2 (l1.getD a.toNat zP) (l2.getD b.toNat zS) P Q
   | _ => none) else none
theorem map_cond' {α β : Type} (f : α → β) (c : Bool) (a b : Option α) : Option.map f (cond c a b) = cond c (Option.map f a) (Option.map f b) := by cases c <;> rfl
theorem map_bind' {α β γ : Type} (f : β → γ) (x : Option α) (g : α → Option β) : Option.map f (x.bind g) = x.bind fun a => Option.map f (g a) := by cases x <;> rfl
theorem bind_map' {α β γ : Type} (f : α → β) (x : Option α) (g : β → Option γ) : (Option.map f x).bind g = x.bind fun a => g (f a) := by cases x <;> rfl
theorem bind_cond' {α β : Type} (f : α → Option β) (c : Bool) (a b : Option α) : (cond c a b).bind f = cond c (a.bind f) (b.bind f) := by cases c <;> rfl
theorem some_map' {α β : Type} (f : α → β) (a : α) : Option.map f (some a) = some (f a) := rfl
theorem none_map' {α β : Type} (f : α → β) : Option.map f (none : Option α) = none := rfl
theorem l11Make_o_map (n : Nat) : ∀ (k : Nat) (xs : List Node3) (env : List Int) (l : List SNode) (b : Int), spec_l11Make_o n k (xs, env, l, b) = (spec_l11Make n k (xs, env, l, b)).map (fun r => (env, r.1, r.2))
 | 0, xs, env, l, b => rfl
 | k + 1, xs, env, l, b => by
  have ih := l11Make_o_map n k
  show spec_l11Make_o_body n (spec_l11Make_o n k) (xs, env, l, b) = (spec_l11Make_body n (spec_l11Make n k) (xs, env, l, b)).map _
  simp only [spec_l11Make_o_body, spec_l11Make_body, spec_l11Make_o_R5, spec_l11Make_R5, ih, map_cond', map_bind', bind_map', some_map', none_map', bind_cond', Option.bind_some, Option.bind_none]
theorem leaf2_cases {x : Piece} {y : SNode} {P : Pat} (h : leaf2 x y = some P) :
  ((x.1 == 110) = true ∧ y.1 = 1 ∧ y.2.1 = x.2.1 ∧ y.2.2.2 = false ∧ P = .name x.2.1) ∨
  ((x.1 == 110) = false ∧ (x.1 == 36) = true ∧ y.1 = 9 ∧ y.2.1 = x.2.1 ∧ y.2.2.2 = false ∧ 0 ≤ x.2.1 ∧ x.2.1 < 26 ∧ P = .var x.2.1) ∨
  ((x.1 == 110) = false ∧ (x.1 == 36) = false ∧ (x.1 == 63) = true ∧ y.1 = 9 ∧ y.2.1 = x.2.1 ∧ y.2.2.2 = true ∧ 0 ≤ x.2.1 ∧ x.2.1 < 26 ∧ P = .ask x.2.1) := by
 unfold leaf2 at h
 cases h1 : (x.1 == 110) with
 | true =>
  rw [h1, cond_true] at h
  cases hc : (y.1 == 1 && (x.2.1 == y.2.1 && !y.2.2.2)) with
  | false => rw [hc] at h; cases h
  | true =>
   rw [hc] at h
   simp only [Bool.and_eq_true, beq_iff_eq, Bool.not_eq_true'] at hc
   exact .inl ⟨rfl, hc.1, hc.2.1.symm, hc.2.2, (Option.some.inj h).symm⟩
 | false =>
  rw [h1, cond_false] at h
  cases h2 : (x.1 == 36) with
  | true =>
   rw [h2, cond_true] at h
   cases hc : ((y.1 == 9 && (x.2.1 == y.2.1 && !y.2.2.2)) && (decide (0 ≤ x.2.1) && decide (x.2.1 < 26))) with
   | false => rw [hc] at h; cases h
   | true =>
    rw [hc] at h
    simp only [Bool.and_eq_true, beq_iff_eq, Bool.not_eq_true', decide_eq_true_iff] at hc
    exact .inr (.inl ⟨rfl, rfl, hc.1.1, hc.1.2.1.symm, hc.1.2.2, hc.2.1, hc.2.2, (Option.some.inj h).symm⟩)
  | false =>
   rw [h2, cond_false] at h
   cases h3 : (x.1 == 63) with
   | false => rw [h3] at h; cases h
   | true =>
    rw [h3, cond_true] at h
    cases hc : ((y.1 == 9 && (x.2.1 == y.2.1 && y.2.2.2)) && (decide (0 ≤ x.2.1) && decide (x.2.1 < 26))) with
    | false => rw [hc] at h; cases h
    | true =>
     rw [hc] at h
     simp only [Bool.and_eq_true, beq_iff_eq, decide_eq_true_iff] at hc
     exact .inr (.inr ⟨rfl, rfl, rfl, hc.1.1, hc.1.2.1.symm, hc.1.2.2, hc.2.1, hc.2.2, (Option.some.inj h).symm⟩)
theorem isLeaf_no {s : Int} (h : (!isLeaf s) = true) : (s == 110) = false ∧ (s == 36) = false ∧ (s == 63) = false := by
 unfold isLeaf at h
 simpa using h
theorem one2_cases {x : Piece} {y : SNode} {P R : Pat} (h : one2 x y P = some R) :
  ((x.1 == 110) = false ∧ (x.1 == 36) = false ∧ (x.1 == 63) = false) ∧ (x.1 == 120) = false ∧ kindV x.1 = y.1 ∧ (y.1 = 5 ∨ y.1 = 7) ∧ y.2.2.2 = P.asks ∧ R = .un y.1 P := by
 unfold one2 at h
 cases hc : (!isLeaf x.1 && (!(x.1 == 120) && ((kindV x.1 == y.1) && ((y.1 == 5 || y.1 == 7) && (y.2.2.2 == P.asks))))) with
 | false => rw [hc] at h; cases h
 | true =>
  rw [hc] at h
  rw [Bool.and_eq_true] at hc
  have h2 := hc.2
  simp only [Bool.and_eq_true, Bool.not_eq_true', beq_iff_eq, Bool.or_eq_true] at h2
  exact ⟨isLeaf_no hc.1, h2.1, h2.2.1, h2.2.2.1, h2.2.2.2, (Option.some.inj h).symm⟩
theorem two2_cases {x : Piece} {y : SNode} {P Q R : Pat} (h : two2 x y P Q = some R) :
  ((x.1 == 110) = false ∧ (x.1 == 36) = false ∧ (x.1 == 63) = false) ∧ y.2.2.2 = (P.asks || Q.asks) ∧
  (((x.1 == 120) = true ∧ y.1 = 10 ∧ R = .exp P Q) ∨ ((x.1 == 120) = false ∧ kindV x.1 = y.1 ∧ (y.1 = 2 ∨ y.1 = 3 ∨ y.1 = 4 ∨ y.1 = 6 ∨ y.1 = 8) ∧ R = .bin y.1 P Q)) := by
 unfold two2 at h
 cases hc : (!isLeaf x.1 && (y.2.2.2 == (P.asks || Q.asks))) with
 | false => rw [hc] at h; cases h
 | true =>
  rw [hc, cond_true] at h
  rw [Bool.and_eq_true] at hc
  refine ⟨isLeaf_no hc.1, by simpa using hc.2, ?_⟩
  cases h1 : (x.1 == 120) with
  | true =>
   rw [h1, cond_true] at h
   cases h2 : (y.1 == 10) with
   | false => rw [h2] at h; cases h
   | true => rw [h2] at h; exact .inl ⟨rfl, by simpa using h2, (Option.some.inj h).symm⟩
  | false =>
   rw [h1, cond_false] at h
   cases h2 : ((kindV x.1 == y.1) && (y.1 == 2 || (y.1 == 3 || (y.1 == 4 || (y.1 == 6 || y.1 == 8))))) with
   | false => rw [h2] at h; cases h
   | true =>
    rw [h2] at h
    simp only [Bool.and_eq_true, beq_iff_eq, Bool.or_eq_true] at h2
    exact .inr ⟨rfl, h2.1, h2.2, (Option.some.inj h).symm⟩
theorem kindOf_eq (n : Nat) {s : Int} (h : kindV s ≠ 0) : impl_kindOf n s = some (kindV s) := by
 unfold impl_kindOf kindV
 unfold kindV at h
 by_cases h1 : s = 40
 ·subst h1; rfl
 by_cases h2 : s = 123
 ·subst h2; rfl
 by_cases h3 : s = 91
 ·subst h3; rfl
 by_cases h4 : s = 35
 ·subst h4; rfl
 by_cases h5 : s = 107
 ·subst h5; rfl
 by_cases h6 : s = 94
 ·subst h6; rfl
 by_cases h7 : s = 42
 ·subst h7; rfl
 ·rw [if_neg h1, if_neg h2, if_neg h3, if_neg h4, if_neg h5, if_neg h6, if_neg h7] at h
  exact absurd rfl h
abbrev MkIn := List Piece × List Node3 × List Int × Int
theorem addP_nn {xs : List Node3} {kd a b : Int} (hp : poolB xs = true) : ∀ r, addP xs kd a b = some r → 0 ≤ r.2 := fun r h => (addP_grown hp (show _ = some (r.1, r.2) from h)).1.2.1
theorem raiseP_nn {xs : List Node3} {a e : Int} (hp : poolB xs = true) : ∀ r, raiseP xs a e = some r → 0 ≤ r.2 := fun r h => (addP_grown hp (raiseP_add (show _ = some (r.1, r.2) from h))).1.2.1
theorem dec2_step {l1 : List Piece} {l2 : List SNode} {k : Nat} {a b : Int} {P : Pat} (h : dec2 l1 l2 (k + 1) a b = some P) :
    inb a l1.length = true ∧ inb b l2.length = true ∧
    (((l1.getD a.toNat zP).2.2 = [] ∧ leaf2 (l1.getD a.toNat zP) (l2.getD b.toNat zS) = some P) ∨
     (∃ p Q, (l1.getD a.toNat zP).2.2 = [p] ∧ dec2 l1 l2 k p (l2.getD b.toNat zS).2.1 = some Q ∧ one2 (l1.getD a.toNat zP) (l2.getD b.toNat zS) Q = some P) ∨
     (∃ p q Q R, (l1.getD a.toNat zP).2.2 = [p, q] ∧ dec2 l1 l2 k p (l2.getD b.toNat zS).2.1 = some Q ∧ dec2 l1 l2 k q (l2.getD b.toNat zS).2.2.1 = some R ∧ two2 (l1.getD a.toNat zP) (l2.getD b.toNat zS) Q R = some P)) := by
  unfold dec2 at h
  cases hb : (inb a l1.length && inb b l2.length) with
  | false => rw [hb] at h; cases h
  | true =>
    rw [hb, cond_true] at h
    rw [Bool.and_eq_true] at hb
    refine ⟨hb.1, hb.2, ?_⟩
    split at h
    · rename_i e; exact .inl ⟨e, h⟩
    · rename_i p e
      obtain ⟨Q, h1, h2⟩ := Option.bind_eq_some_iff.1 h
      exact .inr (.inl ⟨p, Q, e, h1, h2⟩)
    · rename_i p q e
      obtain ⟨Q, h1, h2⟩ := Option.bind_eq_some_iff.1 h
      obtain ⟨R, h3, h4⟩ := Option.bind_eq_some_iff.1 h2
      exact .inr (.inr ⟨p, q, Q, R, e, h1, h3, h4⟩)
    · cases h
theorem env_in {env : List Int} (he : env.length = 26) {i : Int} (h0 : 0 ≤ i) (h1 : i < 26) : inb i env.length = true := by
 have e : i = ((i.toNat : Nat) : Int) := by omega
 rw [e]
 exact inb_nat (by omega)
theorem mk_var {env : List Int} (xs : List Node3) (i : Int) : (match mk env (.var i) xs with
  | some s => (xs, env.getD i.toNat 0) = s
  | none => env.getD i.toNat 0 < 0) := by
 by_cases hn : env.getD i.toNat 0 < 0
 ·have : mk env (.var i) xs = none := by
   show (bif decide (env.getD i.toNat 0 < 0) then none else some (xs, env.getD i.toNat 0)) = none
   rw [decide_eq_true hn]; rfl
  rw [this]; exact hn
 ·have : mk env (.var i) xs = some (xs, env.getD i.toNat 0) := by
   show (bif decide (env.getD i.toNat 0 < 0) then none else some (xs, env.getD i.toNat 0)) = _
   rw [decide_eq_false hn]; rfl
  rw [this]
abbrev HasIn := List Piece × Int × Int
abbrev HasOut := List Piece × Bool
theorem has_loop1 (n : Nat) (rec_ : HasIn → Option HasOut) (m : Nat) (l : List Piece) (s c v p : Int) (ps : List Int) :
  impl_pattern_has_L3 n rec_ (m + 2) (l, v, s, c, ps, [p], (1 : Int), (0 : Int)) = (rec_ (l, p, v)).bind fun r1 => cond r1.2 (some (Sum.inl (r1.1, true))) (some (Sum.inr (r1.1, v, s, c, ps))) := by kernel_rfl
theorem has_loop2 (n : Nat) (rec_ : HasIn → Option HasOut) (m : Nat) (l : List Piece) (s c v p q : Int) (ps : List Int) :
  impl_pattern_has_L3 n rec_ (m + 3) (l, v, s, c, ps, [p, q], (2 : Int), (0 : Int)) = (rec_ (l, p, v)).bind fun r1 => cond r1.2 (some (Sum.inl (r1.1, true))) ((rec_ (r1.1, q, v)).bind fun r2 => cond r2.2 (some (Sum.inl (r2.1, true))) (some (Sum.inr (r2.1, v, s, c, ps)))) := by kernel_rfl
theorem implHas {l1 : List Piece} {l2 : List SNode} : ∀ (k : Nat) (a b : Int) (P : Pat) (j : Nat), dec2 l1 l2 k a b = some P → k ≤ j → impl_pattern_has N0 j (l1, a, (63 : Int)) = some (l1, P.asks)
 | 0, a, b, P, j, h, _ => by cases h
 | k + 1, a, b, P, 0, h, hj => by omega
 | k + 1, a, b, P, j + 1, h, hj => by
  obtain ⟨hb, _, hc⟩ := dec2_step h
  have e0 : impl_pattern_has N0 (j + 1) (l1, a, (63 : Int)) = cond (inb a l1.length) ((impl_pattern_has_L3 N0 (impl_pattern_has N0 j) N0 (l1, (63 : Int), (l1.getD a.toNat zP).1, (l1.getD a.toNat zP).2.1, (l1.getD a.toNat zP).2.2, (l1.getD a.toNat zP).2.2, ((l1.getD a.toNat zP).2.2.length : Int), (0 : Int))).bind fun e2 => (match e2 with
   | Sum.inl a3 => (some (a3.1, a3.2))
   | Sum.inr b4 => (some (b4.1, (b4.2.2.1 == b4.2.1))))) none := rfl
  rw [e0, hb, cond_true]
  rcases hc with ⟨hps, hl⟩ | ⟨p, Q, hps, h1, h2⟩ | ⟨p, q, Q, R, hps, h1, h2, h3⟩
  ·rw [hps]
   have lp : impl_pattern_has_L3 N0 (impl_pattern_has N0 j) N0 (l1, (63 : Int), (l1.getD a.toNat zP).1, (l1.getD a.toNat zP).2.1, [], [], (([] : List Int).length : Int), (0 : Int)) = some (Sum.inr (l1, (63 : Int), (l1.getD a.toNat zP).1, (l1.getD a.toNat zP).2.1, [])) := by
    rw [show N0 = 999999999999999999999999999999 + 1 from by kernel_rfl]; rfl
   rw [lp, Option.bind_some]
   show some (l1, ((l1.getD a.toNat zP).1 == (63 : Int))) = _
   rcases leaf2_cases hl with ⟨c1, _, _, _, rfl⟩ | ⟨c1, c2, _, _, _, c6, c7, rfl⟩ | ⟨c1, c2, c3, _, _, _, _, _, rfl⟩
   ·have : (l1.getD a.toNat zP).1 = 110 := by simpa using c1
    rw [this]; rfl
   ·have : (l1.getD a.toNat zP).1 = 36 := by simpa using c2
    rw [this]; rfl
   ·rw [c3]; rfl
  ·obtain ⟨⟨c1, c2, c3⟩, c4, c5, c6, c7, rfl⟩ := one2_cases h2
   rw [hps]
   have lp := has_loop1 N0 (impl_pattern_has N0 j) 999999999999999999999999999998 l1 (l1.getD a.toNat zP).1 (l1.getD a.toNat zP).2.1 63 p [p]
   rw [show (999999999999999999999999999998 + 2 : Nat) = N0 from by kernel_rfl, implHas k p _ Q j h1 (by omega), Option.bind_some] at lp
   have el : (([p] : List Int).length : Int) = 1 := rfl
   rw [el, lp]
   show (cond Q.asks (some (Sum.inl (l1, true))) (some (Sum.inr (l1, (63 : Int), (l1.getD a.toNat zP).1, (l1.getD a.toNat zP).2.1, [p])))).bind _ = some (l1, Q.asks)
   cases Q.asks with
   | true => rfl
   | false => rw [cond_false, Option.bind_some]; dsimp only; rw [c3]
  ·obtain ⟨⟨c1, c2, c3⟩, c4, c5⟩ := two2_cases h3
   rw [hps]
   have lp := has_loop2 N0 (impl_pattern_has N0 j) 999999999999999999999999999997 l1 (l1.getD a.toNat zP).1 (l1.getD a.toNat zP).2.1 63 p q [p, q]
   rw [show (999999999999999999999999999997 + 3 : Nat) = N0 from by kernel_rfl, implHas k p _ Q j h1 (by omega), Option.bind_some] at lp
   dsimp only at lp
   rw [implHas k q _ R j h2 (by omega), Option.bind_some] at lp
   have el : (([p, q] : List Int).length : Int) = 2 := rfl
   rw [el, lp]
   have ha : P.asks = (Q.asks || R.asks) := by
    rcases c5 with ⟨_, _, rfl⟩ | ⟨_, _, _, rfl⟩ <;> rfl
   rw [ha]
   cases Q.asks with
   | true => rfl
   | false =>
    rw [cond_false]
    cases R.asks with
    | true => rfl
    | false => rw [cond_false, Option.bind_some]; dsimp only; rw [c3]; rfl
abbrev SMkOut := List Node3 × Int
def MadeS (res : Option SMkOut) (m : Option (List Node3 × Int)) : Prop := ∃ ys t, res = some (ys, t) ∧ (match m with
 | some s => (ys, t) = s
 | none => t = -1)
theorem madeS_out {xs : List Node3} {m : Option (List Node3 × Int)} (h : ∀ r, m = some r → 0 ≤ r.2) : MadeS (some ((outI xs m).1, (outI xs m).2)) m := by
 refine ⟨_, _, rfl, ?_⟩
 cases m with
 | none => rfl
 | some s => rfl
theorem mk_var1 {env : List Int} (hv : ∀ i : Nat, env.getD i 0 < 0 → env.getD i 0 = -1) (xs : List Node3) (i : Int) : (match mk env (.var i) xs with
  | some s => (xs, env.getD i.toNat 0) = s
  | none => env.getD i.toNat 0 = -1) := by
 have h := mk_var (env := env) xs i
 cases q : mk env (.var i) xs with
 | none => rw [q] at h; exact hv _ h
 | some s => rw [q] at h; exact h
theorem parts_eq (n : Nat) (y : SNode) : spec_l11Parts n (y.1, y.2.1, y.2.2.1, y.2.2.2) = cond (y.1 == (9 : Int)) (some (0 : Int)) (cond (y.1 == (10 : Int)) (some (2 : Int)) ((spec_l1Parts n y.1).bind fun r1 => (some r1))) := rfl
theorem specMake {l1 : List Piece} {l2 : List SNode} {env : List Int} (he : env.length = 26) (hv : ∀ i : Nat, env.getD i 0 < 0 → env.getD i 0 = -1) : ∀ (k : Nat) (a b : Int) (P : Pat) (xs : List Node3) (j : Nat), dec2 l1 l2 k a b = some P → k ≤ j → poolB xs = true → MadeS (spec_l11Make N0 j (xs, env, l2, b)) (mk env P xs)
 | 0, a, b, P, xs, j, h, _, _ => by cases h
 | k + 1, a, b, P, xs, 0, h, hj, _ => by omega
 | k + 1, a, b, P, xs, j + 1, h, hj, hp => by
  have hx := poolB_len hp
  obtain ⟨_, hb, hc⟩ := dec2_step h
  have e0 : spec_l11Make N0 (j + 1) (xs, env, l2, b) = cond (inb b l2.length) (cond (l2.getD b.toNat zS).2.2.2 (some (xs, (-1 : Int))) (cond ((l2.getD b.toNat zS).1 == (9 : Int)) ((spec_l11Make_R5 N0 (spec_l11Make N0 j) (env, xs, [], (l2.getD b.toNat zS).1, (l2.getD b.toNat zS).2.1, (l2.getD b.toNat zS).2.2.1, (l2.getD b.toNat zS).2.2.2)).bind fun g1 => (some (g1.1, g1.2))) (cond ((l2.getD b.toNat zS).1 == (1 : Int)) ((spec_l2Name N0 (xs, (l2.getD b.toNat zS).2.1)).bind fun r2 => (some (r2.1, r2.2))) ((spec_l11Make N0 j (xs, env, l2, (l2.getD b.toNat zS).2.1)).bind fun r3 => (cond (decide (r3.2 < (0 : Int))) (some (xs, (-1 : Int))) ((spec_l11Parts N0 ((l2.getD b.toNat zS).1, (l2.getD b.toNat zS).2.1, (l2.getD b.toNat zS).2.2.1, (l2.getD b.toNat zS).2.2.2)).bind fun r4 => (cond (r4 == (1 : Int)) ((spec_l1Add N0 (r3.1, (l2.getD b.toNat zS).1, r3.2, (0 : Int))).bind fun r5 => (some (r5.1, r5.2))) ((spec_l11Make N0 j (r3.1, env, l2, (l2.getD b.toNat zS).2.2.1)).bind fun r6 => (cond (decide (r6.2 < (0 : Int))) (some (xs, (-1 : Int))) (cond ((l2.getD b.toNat zS).1 == (10 : Int)) ((spec_l3Raise N0 (r6.1, r6.2, r3.2)).bind fun r7 => (some (r7.1, r7.2))) ((spec_l1Add N0 (r6.1, (l2.getD b.toNat zS).1, r3.2, r6.2)).bind fun r8 => (some (r8.1, r8.2))))))))))))) none := rfl
  rw [e0, hb, cond_true]
  have fin2 : ∀ (z : Option SMkOut), (l2.getD b.toNat zS).2.2.2 = P.asks → (P.asks = false → MadeS z (mk env P xs)) → MadeS (cond (l2.getD b.toNat zS).2.2.2 (some (xs, (-1 : Int))) z) (mk env P xs) := fun z q1 q2 => by
   rw [q1]
   cases hA : P.asks with
   | true =>
    rw [cond_true, mk_asks xs hA]
    exact ⟨xs, -1, rfl, rfl⟩
   | false => rw [cond_false]; exact q2 hA
  rcases hc with ⟨hps, hl⟩ | ⟨p, Q, hps, h1, h2⟩ | ⟨p, q, Q, R, hps, h1, h2, h3⟩
  ·rcases leaf2_cases hl with ⟨c1, c2, c3, c4, rfl⟩ | ⟨_, c1, c2, c3, c4, c6, c7, rfl⟩ | ⟨_, _, c1, c2, c3, c4, c6, c7, rfl⟩
   ·rw [c4, c2, c3, cond_false]
    show MadeS ((spec_l2Name N0 (xs, (l1.getD a.toNat zP).2.1)).bind fun r2 => (some (r2.1, r2.2))) _
    rw [specName_eq hp, Option.bind_some]
    exact madeS_out (addP_nn hp)
   ·rw [c4, c2, c3, cond_false]
    show MadeS ((spec_l11Make_R5 N0 (spec_l11Make N0 j) (env, xs, [], _, (l1.getD a.toNat zP).2.1, _, _)).bind fun g1 => (some (g1.1, g1.2))) _
    unfold spec_l11Make_R5
    dsimp only
    rw [env_in he c6 c7, cond_true, Option.bind_some]
    exact ⟨_, _, rfl, mk_var1 hv xs _⟩
   ·rw [c4, cond_true]
    exact ⟨xs, -1, rfl, rfl⟩
  ·obtain ⟨_, c4, c5, c6, c7, rfl⟩ := one2_cases h2
   refine fin2 _ c7 fun hA => ?_
   have n9 : ((l2.getD b.toNat zS).1 == (9 : Int)) = false := by rw [beq_eq_false_iff_ne]; omega
   have n1 : ((l2.getD b.toNat zS).1 == (1 : Int)) = false := by rw [beq_eq_false_iff_ne]; omega
   have hpt : spec_l11Parts N0 ((l2.getD b.toNat zS).1, (l2.getD b.toNat zS).2.1, (l2.getD b.toNat zS).2.2.1, (l2.getD b.toNat zS).2.2.2) = some 1 := by
    rw [parts_eq]
    rcases c6 with e | e <;> rw [e] <;> rfl
   rw [n9, n1, cond_false, cond_false]
   obtain ⟨ys, t, g1, g2⟩ := specMake he hv k p _ Q xs j h1 (by omega) hp
   rw [g1, Option.bind_some]
   dsimp only
   show MadeS _ ((mk env Q xs).bind fun r => addP r.1 (l2.getD b.toNat zS).1 r.2 0)
   cases hm : mk env Q xs with
   | none =>
    rw [hm] at g2
    have g2 : t = -1 := g2
    rw [decide_eq_true (by omega : t < 0), cond_true]
    exact ⟨xs, -1, rfl, rfl⟩
   | some s =>
    rw [hm] at g2
    have g2 : (ys, t) = s := g2
    subst g2
    have gr := mk_grown hp hm
    rw [decide_eq_false (by have := gr.2.1; omega), cond_false, hpt, Option.bind_some, Option.bind_some]
    show MadeS ((spec_l1Add N0 (ys, (l2.getD b.toNat zS).1, t, (0 : Int))).bind fun r5 => (some (r5.1, r5.2))) _
    rw [specAdd_eq gr.1, Option.bind_some]
    exact madeS_out (addP_nn gr.1)
  ·obtain ⟨_, c4, c5⟩ := two2_cases h3
   have hasks : P.asks = (Q.asks || R.asks) := by
    rcases c5 with ⟨_, _, rfl⟩ | ⟨_, _, _, rfl⟩ <;> rfl
   refine fin2 _ (c4.trans hasks.symm) fun hA => ?_
   have n9 : ((l2.getD b.toNat zS).1 == (9 : Int)) = false := by
    rw [beq_eq_false_iff_ne]
    rcases c5 with ⟨_, e, _⟩ | ⟨_, _, e, _⟩ <;> omega
   have n1 : ((l2.getD b.toNat zS).1 == (1 : Int)) = false := by
    rw [beq_eq_false_iff_ne]
    rcases c5 with ⟨_, e, _⟩ | ⟨_, _, e, _⟩ <;> omega
   have hpt : spec_l11Parts N0 ((l2.getD b.toNat zS).1, (l2.getD b.toNat zS).2.1, (l2.getD b.toNat zS).2.2.1, (l2.getD b.toNat zS).2.2.2) = some 2 := by
    rw [parts_eq]
    rcases c5 with ⟨_, e, _⟩ | ⟨_, _, e, _⟩
    ·rw [e]; rfl
    ·rcases e with e | e | e | e | e <;> rw [e] <;> rfl
   rw [n9, n1, cond_false, cond_false]
   have hmk : (mk env Q xs = none → mk env P xs = none) ∧ (∀ s, mk env Q xs = some s → mk env R s.1 = none → mk env P xs = none) := by
    rcases c5 with ⟨_, _, rfl⟩ | ⟨_, _, _, rfl⟩
    ·exact ⟨fun e => by show (mk env Q xs).bind _ = none; rw [e]; rfl, fun s e1 e2 => by show (mk env Q xs).bind _ = none; rw [e1]; show (mk env R s.1).bind _ = none; rw [e2]; rfl⟩
    ·exact ⟨fun e => by show (mk env Q xs).bind _ = none; rw [e]; rfl, fun s e1 e2 => by show (mk env Q xs).bind _ = none; rw [e1]; show (mk env R s.1).bind _ = none; rw [e2]; rfl⟩
   obtain ⟨ys, t, g1, g2⟩ := specMake he hv k p _ Q xs j h1 (by omega) hp
   rw [g1, Option.bind_some]
   dsimp only
   cases hm : mk env Q xs with
   | none =>
    rw [hm] at g2
    have g2 : t = -1 := g2
    rw [decide_eq_true (by omega : t < 0), cond_true, hmk.1 hm]
    exact ⟨xs, -1, rfl, rfl⟩
   | some s =>
    rw [hm] at g2
    have g2 : (ys, t) = s := g2
    subst g2
    have gr := mk_grown hp hm
    rw [decide_eq_false (by have := gr.2.1; omega), cond_false, hpt, Option.bind_some]
    show MadeS ((spec_l11Make N0 j (ys, env, l2, (l2.getD b.toNat zS).2.2.1)).bind fun r6 => (cond (decide (r6.2 < (0 : Int))) (some (xs, (-1 : Int))) (cond ((l2.getD b.toNat zS).1 == (10 : Int)) ((spec_l3Raise N0 (r6.1, r6.2, t)).bind fun r7 => (some (r7.1, r7.2))) ((spec_l1Add N0 (r6.1, (l2.getD b.toNat zS).1, t, r6.2)).bind fun r8 => (some (r8.1, r8.2)))))) _
    obtain ⟨zs, u, g3, g4⟩ := specMake he hv k q _ R ys j h2 (by omega) gr.1
    rw [g3, Option.bind_some]
    dsimp only
    cases hm2 : mk env R ys with
    | none =>
     rw [hm2] at g4
     have g4 : u = -1 := g4
     rw [decide_eq_true (by omega : u < 0), cond_true, hmk.2 _ hm hm2]
     exact ⟨xs, -1, rfl, rfl⟩
    | some s2 =>
     rw [hm2] at g4
     have g4 : (zs, u) = s2 := g4
     subst g4
     have gr2 := mk_grown gr.1 hm2
     rw [decide_eq_false (by have := gr2.2.1; omega), cond_false]
     rcases c5 with ⟨d1, d2, rfl⟩ | ⟨d1, d2, d3, rfl⟩
     ·rw [d2]
      show MadeS ((spec_l3Raise N0 (zs, u, t)).bind fun r7 => (some (r7.1, r7.2))) _
      rw [specRaise_eq gr2.1, Option.bind_some]
      have e : mk env (.exp Q R) xs = raiseP zs u t := by
       show (mk env Q xs).bind _ = _
       rw [hm]
       show (mk env R ys).bind _ = _
       rw [hm2]; rfl
      rw [e]
      exact madeS_out (raiseP_nn gr2.1)
     ·have n10 : ((l2.getD b.toNat zS).1 == (10 : Int)) = false := by rw [beq_eq_false_iff_ne]; omega
      rw [n10, cond_false, specAdd_eq gr2.1, Option.bind_some]
      have e : mk env (.bin (l2.getD b.toNat zS).1 Q R) xs = addP zs (l2.getD b.toNat zS).1 t u := by
       show (mk env Q xs).bind _ = _
       rw [hm]
       show (mk env R ys).bind _ = _
       rw [hm2]; rfl
      rw [e]
      exact madeS_out (addP_nn gr2.1)
def PatIs (T : ByteArray) (P : Pat) : Prop := ∃ b l1 l2 k, impl_patternOf N0 T = some (b, true, l1) ∧ spec_l11Read N0 T = some (l2, true) ∧ k ≤ N0 ∧ dec2 l1 l2 k ((l1.length : Int) - 1) ((l2.length : Int) - 1) = some P ∧ l1.length ≤ 4294967296 ∧ l2.length ≤ 4294967296
theorem envB_neg {xs : List Node3} : ∀ {env : List Int}, envB xs env = true → ∀ i : Nat, env.getD i 0 < 0 → env.getD i 0 = -1
 | [], _, i, h => by simp at h
 | v :: r, hb, i, h => by
  have hb : ((v == -1 || hasB xs v) && envB xs r) = true := hb
  rw [Bool.and_eq_true, Bool.or_eq_true] at hb
  match i with
  | 0 =>
   have h : v < 0 := h
   rcases hb.1 with q | q
   ·exact by simpa using q
   ·unfold hasB at q
    simp at q
    omega
  | i + 1 => exact envB_neg hb.2 i h
theorem copy_eq {xs : List Node3} (hx : xs.length ≤ 4294967296) : impl_copyPool N0 xs = some xs := by
 unfold impl_copyPool lib_cloneNode
 rw [decide_eq_true hx]; rfl
theorem copyS_eq {xs : List Node3} (hx : xs.length ≤ 4294967296) : spec_l1Copy N0 xs = some xs := by
 unfold spec_l1Copy
 have : room (([] : List Node3).length + xs.length) = true := by
  unfold room
  simp
  omega
 rw [this]; rfl
section
variable {xs : List Node3} {kn : List Int} {li : List Inst9} {fr : Int} {gv sh : List Int} {lg : List Claim3} {k : Int}
theorem hasB_iff {xs : List Node3} {t : Int} : hasB xs t = true ↔ 0 ≤ t ∧ t < (xs.length : Int) := by
 unfold hasB
 rw [Bool.and_eq_true, decide_eq_true_iff, decide_eq_true_iff]
 omega
end
abbrev MkOutO := List Piece × List Node3 × List Int × Int
theorem make_o_loop1 (n : Nat) (rec_ : MkIn → Option MkOutO) (m : Nat) (l : List Piece) (xs : List Node3) (env : List Int) (s c : Int) (ps : List Int) (u v p : Int) :
  impl_pattern_make_o_L11 n rec_ (m + 2) (l, xs, env, s, c, ps, u, v, [p], (1 : Int), (0 : Int)) = (rec_ (l, xs, env, p)).bind fun r2 => cond (decide (r2.2.2.2 < (0 : Int))) (some (Sum.inl (r2.1, r2.2.1, r2.2.2.1, (-1 : Int)))) (some (Sum.inr (r2.1, r2.2.1, r2.2.2.1, s, c, ps, r2.2.2.2, v))) := by kernel_rfl
theorem make_o_loop2 (n : Nat) (rec_ : MkIn → Option MkOutO) (m : Nat) (l : List Piece) (xs : List Node3) (env : List Int) (s c : Int) (ps : List Int) (u v p q : Int) :
  impl_pattern_make_o_L11 n rec_ (m + 3) (l, xs, env, s, c, ps, u, v, [p, q], (2 : Int), (0 : Int)) = (rec_ (l, xs, env, p)).bind fun r2 => cond (decide (r2.2.2.2 < (0 : Int))) (some (Sum.inl (r2.1, r2.2.1, r2.2.2.1, (-1 : Int)))) ((rec_ (r2.1, r2.2.1, r2.2.2.1, q)).bind fun r3 => cond (decide (r3.2.2.2 < (0 : Int))) (some (Sum.inl (r3.1, r3.2.1, r3.2.2.1, (-1 : Int)))) (some (Sum.inr (r3.1, r3.2.1, r3.2.2.1, s, c, ps, r2.2.2.2, r3.2.2.2)))) := by kernel_rfl
def MadeO (l : List Piece) (env : List Int) (res : Option MkOutO) (m : Option (List Node3 × Int)) : Prop := ∃ ys t, res = some (l, ys, env, t) ∧ (match m with
 | some s => (ys, t) = s
 | none => t < 0)
theorem madeO_out {l : List Piece} {env : List Int} {xs : List Node3} {m : Option (List Node3 × Int)} (h : ∀ r, m = some r → 0 ≤ r.2) : MadeO l env (some (l, (outI xs m).1, env, (outI xs m).2)) m := by
 refine ⟨_, _, rfl, ?_⟩
 cases m with
 | none => show (-1 : Int) < 0; omega
 | some s => rfl
theorem implMakeO {l1 : List Piece} {l2 : List SNode} {env : List Int} (he : env.length = 26) : ∀ (k : Nat) (a b : Int) (P : Pat) (xs : List Node3) (j : Nat), dec2 l1 l2 k a b = some P → k ≤ j → poolB xs = true → MadeO l1 env (impl_pattern_make_o N0 j (l1, xs, env, a)) (mk env P xs)
 | 0, a, b, P, xs, j, h, _, _ => by cases h
 | k + 1, a, b, P, xs, 0, h, hj, _ => by omega
 | k + 1, a, b, P, xs, j + 1, h, hj, hp => by
  have hx := poolB_len hp
  obtain ⟨hb, _, hc⟩ := dec2_step h
  have e0 : impl_pattern_make_o N0 (j + 1) (l1, xs, env, a) = impl_pattern_make_o_body N0 (impl_pattern_make_o N0 j) (l1, xs, env, a) := rfl
  rw [e0]
  unfold impl_pattern_make_o_body
  dsimp only
  rw [hb, cond_true]
  rcases hc with ⟨hps, hl⟩ | ⟨p, Q, hps, h1, h2⟩ | ⟨p, q, Q, R, hps, h1, h2, h3⟩
  ·rcases leaf2_cases hl with ⟨c1, _, _, _, rfl⟩ | ⟨c1, c2, _, _, _, c6, c7, rfl⟩ | ⟨c1, c2, c3, _, _, _, _, _, rfl⟩
   ·rw [c1, cond_true, implName_eq hx, Option.bind_some]
    exact madeO_out (addP_nn hp)
   ·rw [c1, c2, cond_false, cond_true, env_in he c6 c7, cond_true]
    exact ⟨_, _, rfl, mk_var xs _⟩
   ·rw [c1, c2, c3, cond_false, cond_false, cond_true]
    exact ⟨_, _, rfl, by show (-1 : Int) < 0; omega⟩
  ·obtain ⟨⟨c1, c2, c3⟩, c4, c5, c6, c7, rfl⟩ := one2_cases h2
   rw [c1, c2, c3, cond_false, cond_false, cond_false, hps]
   have el : (([p] : List Int).length : Int) = 1 := rfl
   rw [el]
   obtain ⟨ys, t, g1, g2⟩ := implMakeO he k p _ Q xs j h1 (by omega) hp
   have lp := make_o_loop1 N0 (impl_pattern_make_o N0 j) 999999999999999999999999999998 l1 xs env (l1.getD a.toNat zP).1 (l1.getD a.toNat zP).2.1 [p] 0 0 p
   rw [show (999999999999999999999999999998 + 2 : Nat) = N0 from by kernel_rfl, g1, Option.bind_some] at lp
   rw [lp]
   dsimp only
   show MadeO l1 env _ ((mk env Q xs).bind fun r => addP r.1 (l2.getD b.toNat zS).1 r.2 0)
   cases hm : mk env Q xs with
   | none =>
    rw [hm] at g2
    have g2 : t < 0 := g2
    rw [decide_eq_true g2, cond_true]
    exact ⟨ys, -1, rfl, by show (-1 : Int) < 0; omega⟩
   | some s =>
    rw [hm] at g2
    have g2 : (ys, t) = s := g2
    subst g2
    have gr := mk_grown hp hm
    rw [decide_eq_false (by have := gr.2.1; omega), cond_false, Option.bind_some, Option.bind_some]
    dsimp only
    have hk0 : kindV (l1.getD a.toNat zP).1 ≠ 0 := by rw [c5]; omega
    rw [c4, cond_false]
    unfold impl_pattern_make_o_R19
    dsimp only
    rw [kindOf_eq N0 hk0, Option.bind_some, implAdd_eq (poolB_len gr.1), Option.bind_some, Option.bind_some, c5]
    exact madeO_out (addP_nn gr.1)
  ·obtain ⟨⟨c1, c2, c3⟩, c4, c5⟩ := two2_cases h3
   rw [c1, c2, c3, cond_false, cond_false, cond_false, hps]
   have el : (([p, q] : List Int).length : Int) = 2 := rfl
   rw [el]
   obtain ⟨ys, t, g1, g2⟩ := implMakeO he k p _ Q xs j h1 (by omega) hp
   have lp := make_o_loop2 N0 (impl_pattern_make_o N0 j) 999999999999999999999999999997 l1 xs env (l1.getD a.toNat zP).1 (l1.getD a.toNat zP).2.1 [p, q] 0 0 p q
   rw [show (999999999999999999999999999997 + 3 : Nat) = N0 from by kernel_rfl, g1, Option.bind_some] at lp
   rw [lp]
   dsimp only
   have hmk : ∀ u : Nat, (mk env Q xs = none → mk env P xs = none) ∧ (∀ s, mk env Q xs = some s → mk env R s.1 = none → mk env P xs = none) := by
    intro u
    rcases c5 with ⟨_, _, rfl⟩ | ⟨_, _, _, rfl⟩
    ·exact ⟨fun e => by show (mk env Q xs).bind _ = none; rw [e]; rfl, fun s e1 e2 => by show (mk env Q xs).bind _ = none; rw [e1]; show (mk env R s.1).bind _ = none; rw [e2]; rfl⟩
    ·exact ⟨fun e => by show (mk env Q xs).bind _ = none; rw [e]; rfl, fun s e1 e2 => by show (mk env Q xs).bind _ = none; rw [e1]; show (mk env R s.1).bind _ = none; rw [e2]; rfl⟩
   cases hm : mk env Q xs with
   | none =>
    rw [hm] at g2
    have g2 : t < 0 := g2
    rw [decide_eq_true g2, cond_true, (hmk 0).1 hm]
    exact ⟨ys, -1, rfl, by show (-1 : Int) < 0; omega⟩
   | some s =>
    rw [hm] at g2
    have g2 : (ys, t) = s := g2
    subst g2
    have gr := mk_grown hp hm
    obtain ⟨zs, u, g3, g4⟩ := implMakeO he k q _ R ys j h2 (by omega) gr.1
    rw [decide_eq_false (by have := gr.2.1; omega), cond_false, g3, Option.bind_some]
    dsimp only
    cases hm2 : mk env R ys with
    | none =>
     rw [hm2] at g4
     have g4 : u < 0 := g4
     rw [decide_eq_true g4, cond_true, (hmk 0).2 _ hm hm2]
     exact ⟨zs, -1, rfl, by show (-1 : Int) < 0; omega⟩
    | some s2 =>
     rw [hm2] at g4
     have g4 : (zs, u) = s2 := g4
     subst g4
     have gr2 := mk_grown gr.1 hm2
     rw [decide_eq_false (by have := gr2.2.1; omega), cond_false, Option.bind_some]
     dsimp only
     rcases c5 with ⟨d1, d2, rfl⟩ | ⟨d1, d2, d3, rfl⟩
     ·rw [d1, cond_true, implRaise_eq (poolB_len gr2.1), Option.bind_some]
      have e : mk env (.exp Q R) xs = raiseP zs u t := by
       show (mk env Q xs).bind _ = _
       rw [hm]
       show (mk env R ys).bind _ = _
       rw [hm2]; rfl
      rw [e]
      exact madeO_out (raiseP_nn gr2.1)
     ·have hk0 : kindV (l1.getD a.toNat zP).1 ≠ 0 := by rw [d2]; omega
      rw [d1, cond_false]
      unfold impl_pattern_make_o_R19
      dsimp only
      rw [kindOf_eq N0 hk0, Option.bind_some, implAdd_eq (poolB_len gr2.1), Option.bind_some, Option.bind_some, d2]
      have e : mk env (.bin (l2.getD b.toNat zS).1 Q R) xs = addP zs (l2.getD b.toNat zS).1 t u := by
       show (mk env Q xs).bind _ = _
       rw [hm]
       show (mk env R ys).bind _ = _
       rw [hm2]; rfl
      rw [e]
      exact madeO_out (addP_nn gr2.1)
def EnvG (env : List Int) : Prop := env.length = 26 ∧ ∀ i : Nat, env.getD i 0 < 0 → env.getD i 0 = -1
theorem set_get {env : List Int} {i : Nat} (h : i < env.length) (t : Int) : (env.set i t).getD i 0 = t := by
 rw [List.getD_eq_getElem?_getD, List.getElem?_set_self h]; rfl
theorem EnvG.set {env : List Int} (h : EnvG env) {i : Nat} (hi : i < env.length) {t : Int} (ht : 0 ≤ t) : EnvG (env.set i t) := by
 refine ⟨by rw [List.length_set]; exact h.1, fun j hj => ?_⟩
 by_cases e : i = j
 ·subst e
  rw [set_get hi] at hj
  omega
 ·have e2 : (env.set i t).getD j 0 = env.getD j 0 := by rw [List.getD_eq_getElem?_getD, List.getD_eq_getElem?_getD, List.getElem?_set_ne e]
  rw [e2] at hj ⊢
  exact h.2 _ hj
theorem hasB_mono {xs zs : List Node3} {t : Int} (h : hasB xs t = true) : hasB (xs ++ zs) t = true := by
 rw [hasB_iff] at h ⊢
 rw [List.length_append]
 omega
def mkT (env : List Int) (P : Pat) (xs : List Node3) (t : Int) : Option (List Int × List Node3) := (mk env P xs).bind fun r => bif r.2 == t then some (env, r.1) else none
abbrev nd (xs : List Node3) (t : Int) : Node3 := xs.getD t.toNat zN3
def matchP : Pat → List Int → List Node3 → Int → Option (List Int × List Node3)
 | .ask i, env, xs, t => bif decide (env.getD i.toNat 0 < 0) then some (env.set i.toNat t, xs) else bif env.getD i.toNat 0 == t then some (env, xs) else none
 | .bin k p q, env, xs, t => bif k == 2 then (bif (nd xs t).1 == 2 then (matchP p env xs (nd xs t).2.1).bind fun r => matchP q r.1 r.2 (nd xs t).2.2 else none)
   else bif k == 3 || k == 4 then (bif (nd xs t).1 == k then (matchP q env xs (nd xs t).2.2).bind fun r => matchP p r.1 r.2 (nd xs t).2.1 else none)
   else mkT env (.bin k p q) xs t
 | .name c, env, xs, t => mkT env (.name c) xs t
 | .var i, env, xs, t => mkT env (.var i) xs t
 | .un k p, env, xs, t => mkT env (.un k p) xs t
 | .exp p q, env, xs, t => mkT env (.exp p q) xs t
theorem mkT_good {env e : List Int} {P : Pat} {xs ys : List Node3} {t : Int} (hE : EnvG env) (hp : poolB xs = true) (h : mkT env P xs t = some (e, ys)) : EnvG e ∧ poolB ys = true ∧ ∃ zs, ys = xs ++ zs := by
 obtain ⟨r, h1, h2⟩ := Option.bind_eq_some_iff.1 (show (mk env P xs).bind _ = some (e, ys) from h)
 have g := mk_grown hp (show mk env P xs = some (r.1, r.2) from h1)
 cases hc : (r.2 == t) with
 | false => rw [hc] at h2; cases h2
 | true =>
  rw [hc] at h2
  obtain ⟨rfl, rfl⟩ := Prod.mk.inj (Option.some.inj h2)
  exact ⟨hE, g.1, g.2.2⟩
theorem kids {xs : List Node3} {t : Int} (hp : poolB xs = true) (ht : hasB xs t = true) (hk : (nd xs t).1 = 2 ∨ (nd xs t).1 = 3 ∨ (nd xs t).1 = 4) : hasB xs (nd xs t).2.1 = true ∧ hasB xs (nd xs t).2.2 = true := by
 have hl := poolB_len hp
 rw [hasB_iff] at ht
 have h := poolB_nd hp (j := t.toNat) (by omega)
 have hd : (xs.getD t.toNat zN3) = nd xs t := rfl
 rw [hd] at h
 generalize nd xs t = X at h hk
 have hc : impl_count N0 X.1 = some 2 := by rcases hk with e | e | e <;> rw [e] <;> rfl
 rw [show ((t.toNat : Nat) : Int) = t from by omega] at h
 unfold nodeV impl_nodeOk at h
 dsimp only at h
 rw [hc, wrap_ok (by omega) (by omega)] at h
 simp only [Option.bind_some, inRange_eq] at h
 have c0 : ((2 : Int) == (0 : Int)) = false := by decide
 have c1 : ((2 : Int) == (1 : Int)) = false := by decide
 have c2 : ((2 : Int) == (2 : Int)) = true := by decide
 rw [c0, c1, c2, cond_false, cond_false, cond_true] at h
 cases h1 : (decide (X.2.1 ≥ 0) && decide (X.2.1 ≤ t - 1)) with
 | false => rw [h1] at h; cases h
 | true =>
  cases h2 : (decide (X.2.2 ≥ 0) && decide (X.2.2 ≤ t - 1)) with
  | false => rw [h1, h2] at h; cases h
  | true =>
   rw [Bool.and_eq_true, decide_eq_true_iff, decide_eq_true_iff] at h1 h2
   rw [hasB_iff, hasB_iff]
   omega
theorem matchP_good : ∀ {P : Pat} {env e : List Int} {xs ys : List Node3} {t : Int}, EnvG env → poolB xs = true → hasB xs t = true → matchP P env xs t = some (e, ys) → EnvG e ∧ poolB ys = true ∧ ∃ zs, ys = xs ++ zs
 | .name c, env, e, xs, ys, t, hE, hp, ht, h => mkT_good hE hp h
 | .var i, env, e, xs, ys, t, hE, hp, ht, h => mkT_good hE hp h
 | .un k p, env, e, xs, ys, t, hE, hp, ht, h => mkT_good hE hp h
 | .exp p q, env, e, xs, ys, t, hE, hp, ht, h => mkT_good hE hp h
 | .ask i, env, e, xs, ys, t, hE, hp, ht, h => by
  have h : (bif decide (env.getD i.toNat 0 < 0) then some (env.set i.toNat t, xs) else bif env.getD i.toNat 0 == t then some (env, xs) else none) = some (e, ys) := h
  by_cases hn : env.getD i.toNat 0 < 0
  ·rw [decide_eq_true hn] at h
   obtain ⟨rfl, rfl⟩ := Prod.mk.inj (Option.some.inj h)
   have hi : i.toNat < env.length := by
    refine Nat.lt_of_not_le fun q => ?_
    rw [List.getD_eq_getElem?_getD, List.getElem?_eq_none q] at hn
    exact absurd hn (by decide)
   exact ⟨hE.set hi (hasB_iff.1 ht).1, hp, [], by simp⟩
  ·rw [decide_eq_false hn] at h
   cases hc : (env.getD i.toNat 0 == t) with
   | false => rw [hc] at h; cases h
   | true =>
    rw [hc] at h
    obtain ⟨rfl, rfl⟩ := Prod.mk.inj (Option.some.inj h)
    exact ⟨hE, hp, [], by simp⟩
 | .bin k p q, env, e, xs, ys, t, hE, hp, ht, h => by
  have h : (bif k == 2 then (bif (nd xs t).1 == 2 then (matchP p env xs (nd xs t).2.1).bind fun r => matchP q r.1 r.2 (nd xs t).2.2 else none)
   else bif k == 3 || k == 4 then (bif (nd xs t).1 == k then (matchP q env xs (nd xs t).2.2).bind fun r => matchP p r.1 r.2 (nd xs t).2.1 else none)
   else mkT env (.bin k p q) xs t) = some (e, ys) := h
  cases h2 : (k == 2) with
  | true =>
   rw [h2, cond_true] at h
   cases h3 : ((nd xs t).1 == 2) with
   | false => rw [h3] at h; cases h
   | true =>
    rw [h3, cond_true] at h
    obtain ⟨k1, k2⟩ := kids hp ht (.inl (by simpa using h3))
    obtain ⟨r, h4, h5⟩ := Option.bind_eq_some_iff.1 h
    obtain ⟨g1, g2, w, g3⟩ := matchP_good hE hp k1 (show _ = some (r.1, r.2) from h4)
    obtain ⟨g4, g5, v, g6⟩ := matchP_good g1 g2 (by rw [g3]; exact hasB_mono k2) h5
    exact ⟨g4, g5, w ++ v, by rw [g6, g3, List.append_assoc]⟩
  | false =>
   rw [h2, cond_false] at h
   cases h3 : (k == 3 || k == 4) with
   | false => rw [h3, cond_false] at h; exact mkT_good hE hp h
   | true =>
    rw [h3, cond_true] at h
    cases h6 : ((nd xs t).1 == k) with
    | false => rw [h6] at h; cases h
    | true =>
     rw [h6, cond_true] at h
     have h7 : (nd xs t).1 = k := by simpa using h6
     have h8 : k = 3 ∨ k = 4 := by simpa using h3
     obtain ⟨k1, k2⟩ := kids hp ht (by rw [h7]; exact .inr h8)
     obtain ⟨r, h4, h5⟩ := Option.bind_eq_some_iff.1 h
     obtain ⟨g1, g2, w, g3⟩ := matchP_good hE hp k2 (show _ = some (r.1, r.2) from h4)
     obtain ⟨g4, g5, v, g6⟩ := matchP_good g1 g2 (by rw [g3]; exact hasB_mono k1) h5
     exact ⟨g4, g5, w ++ v, by rw [g6, g3, List.append_assoc]⟩
abbrev MtO := List Piece × List Node3 × List Int × Bool
def FoundI (l : List Piece) (res : Option MtO) (m : Option (List Int × List Node3)) : Prop := ∃ ys e c, res = some (l, ys, e, c) ∧ (match m with
 | some s => (e, ys) = s ∧ c = true
 | none => c = false)
theorem makeBr {l1 : List Piece} {l2 : List SNode} {env : List Int} {xs : List Node3} {k : Nat} {a b t : Int} {P : Pat} (he : env.length = 26) (hd : dec2 l1 l2 k a b = some P) (hk : k ≤ N0) (hp : poolB xs = true) (ht : 0 ≤ t) :
  FoundI l1 ((impl_pattern_has N0 N0 (l1, a, (63 : Int))).bind fun r4 => (cond (!r4.2) ((impl_pattern_make_o N0 N0 (r4.1, xs, env, a)).bind fun r5 => (some (r5.1, r5.2.1, r5.2.2.1, (r5.2.2.2 == t)))) (some (r4.1, xs, env, false)))) (mkT env P xs t) := by
 rw [implHas k a b P N0 hd hk, Option.bind_some]
 dsimp only
 cases hA : P.asks with
 | true =>
  refine ⟨xs, env, false, rfl, ?_⟩
  unfold mkT
  rw [mk_asks xs hA]; rfl
 | false =>
  rw [Bool.not_false, cond_true]
  obtain ⟨ys, u, g1, g2⟩ := implMakeO he k a b P xs N0 hd hk hp
  rw [g1, Option.bind_some]
  refine ⟨ys, env, (u == t), rfl, ?_⟩
  unfold mkT
  cases hm : mk env P xs with
  | none =>
   rw [hm] at g2
   have g2 : u < 0 := g2
   show (u == t) = false
   rw [beq_eq_false_iff_ne]; omega
  | some s =>
   rw [hm] at g2
   have g2 : (ys, u) = s := g2
   subst g2
   show match (bif u == t then some (env, ys) else none : Option (List Int × List Node3)) with
    | some s => (env, ys) = s ∧ (u == t) = true
    | none => (u == t) = false
   cases (u == t) with
   | true => exact ⟨rfl, rfl⟩
   | false => rfl
theorem kindV_inv {s : Int} : (kindV s = 2 → s = 40) ∧ (kindV s = 3 → s = 123) ∧ (kindV s = 4 → s = 91) ∧ ((s == 40) = true → kindV s = 2) ∧ ((s == 123) = true → kindV s = 3) ∧ ((s == 91) = true → kindV s = 4) := by
 unfold kindV
 refine ⟨fun h => ?_, fun h => ?_, fun h => ?_, fun h => ?_, fun h => ?_, fun h => ?_⟩
 ·by_cases q : s = 40
  ·exact q
  ·rw [if_neg q] at h
   revert h
   repeat' (split <;> first | (intro h; exact absurd h (by decide)) | skip)
 ·by_cases q : s = 123
  ·exact q
  ·rw [if_neg q] at h
   revert h
   repeat' (split <;> first | (intro h; exact absurd h (by decide)) | skip)
 ·by_cases q : s = 91
  ·exact q
  ·rw [if_neg q] at h
   revert h
   repeat' (split <;> first | (intro h; exact absurd h (by decide)) | skip)
 ·have h : s = 40 := by simpa using h
  subst h; rfl
 ·have h : s = 123 := by simpa using h
  subst h; rfl
 ·have h : s = 91 := by simpa using h
  subst h; rfl
theorem implMatch {l1 : List Piece} {l2 : List SNode} : ∀ (k : Nat) (a b : Int) (P : Pat) (env : List Int) (xs : List Node3) (t : Int) (j : Nat), dec2 l1 l2 k a b = some P → k ≤ j → k ≤ N0 → EnvG env → poolB xs = true → hasB xs t = true → FoundI l1 (impl_pattern_match N0 j (l1, xs, env, a, t)) (matchP P env xs t)
 | 0, a, b, P, env, xs, t, j, h, _, _, _, _, _ => by cases h
 | k + 1, a, b, P, env, xs, t, 0, h, hj, _, _, _, _ => by omega
 | k + 1, a, b, P, env, xs, t, j + 1, h, hj, hn, hE, hp, ht => by
  have hx := poolB_len hp
  obtain ⟨t0, t1⟩ := hasB_iff.1 ht
  obtain ⟨hb, _, hc⟩ := dec2_step h
  have mb := makeBr (t := t) hE.1 h hn hp t0
  have e0 : impl_pattern_match N0 (j + 1) (l1, xs, env, a, t) = impl_pattern_match_body N0 (impl_pattern_match N0 j) (l1, xs, env, a, t) := rfl
  rw [e0]
  unfold impl_pattern_match_body
  dsimp only
  rw [hb, hasB_inb ht, cond_true, cond_true]
  rcases hc with ⟨hps, hl⟩ | ⟨p, Q, hps, h1, h2⟩ | ⟨p, q, Q, R, hps, h1, h2, h3⟩
  ·rcases leaf2_cases hl with ⟨c1, _, _, _, rfl⟩ | ⟨c1, c2, _, _, _, c6, c7, rfl⟩ | ⟨c1, c2, c3, _, _, _, c6, c7, rfl⟩
   ·have e1 : (l1.getD a.toNat zP).1 = 110 := by simpa using c1
    rw [e1]
    exact mb
   ·have e1 : (l1.getD a.toNat zP).1 = 36 := by simpa using c2
    rw [e1]
    exact mb
   ·rw [c3, cond_true, env_in hE.1 c6 c7, cond_true, cond_true, cond_true]
    have hi : inb (l1.getD a.toNat zP).2.1 (env.set (l1.getD a.toNat zP).2.1.toNat t).length = true := by rw [List.length_set]; exact env_in hE.1 c6 c7
    rw [hi, cond_true, set_get (i := (l1.getD a.toNat zP).2.1.toNat) (by have := hE.1; omega)]
    show FoundI l1 _ (bif decide (env.getD (l1.getD a.toNat zP).2.1.toNat 0 < 0) then some (env.set (l1.getD a.toNat zP).2.1.toNat t, xs) else bif env.getD (l1.getD a.toNat zP).2.1.toNat 0 == t then some (env, xs) else none)
    by_cases hneg : env.getD (l1.getD a.toNat zP).2.1.toNat 0 < 0
    ·rw [decide_eq_true hneg, show (env.getD (l1.getD a.toNat zP).2.1.toNat 0 == -1) = true from by rw [hE.2 _ hneg]; rfl, cond_true, cond_true]
     exact ⟨_, _, _, rfl, rfl, by simp⟩
    ·rw [decide_eq_false hneg, show (env.getD (l1.getD a.toNat zP).2.1.toNat 0 == -1) = false from by rw [beq_eq_false_iff_ne]; omega, cond_false, cond_false]
     cases hq : (env.getD (l1.getD a.toNat zP).2.1.toNat 0 == t) with
     | true => exact ⟨_, _, _, rfl, rfl, rfl⟩
     | false => exact ⟨_, _, _, rfl, rfl⟩
  ·obtain ⟨⟨c1, c2, c3⟩, c4, c5, c6, c7, rfl⟩ := one2_cases h2
   have ki := @kindV_inv (l1.getD a.toNat zP).1
   have d1 : ((l1.getD a.toNat zP).1 == (40 : Int)) = false := Bool.eq_false_iff.2 fun q => by have := ki.2.2.2.1 q; omega
   have d2 : ((l1.getD a.toNat zP).1 == (123 : Int)) = false := Bool.eq_false_iff.2 fun q => by have := ki.2.2.2.2.1 q; omega
   have d3 : ((l1.getD a.toNat zP).1 == (91 : Int)) = false := Bool.eq_false_iff.2 fun q => by have := ki.2.2.2.2.2 q; omega
   rw [c3, d1, d2, d3, cond_false, cond_false, cond_false, cond_false]
   exact mb
  ·obtain ⟨⟨c1, c2, c3⟩, c4, c5⟩ := two2_cases h3
   have ki := @kindV_inv (l1.getD a.toNat zP).1
   rcases c5 with ⟨d1, d2, rfl⟩ | ⟨d1, d2, d3, rfl⟩
   ·have e1 : (l1.getD a.toNat zP).1 = 120 := by simpa using d1
    rw [e1]
    exact mb
   ·rw [c3, cond_false]
    have i0 : inb (0 : Int) ([p, q] : List Int).length = true := rfl
    have i1 : inb (1 : Int) ([p, q] : List Int).length = true := rfl
    have r12 : ∀ kk : Int, (kk = 3 ∨ kk = 4) → kindV (l1.getD a.toNat zP).1 = kk → FoundI l1 ((impl_pattern_match_R12 N0 (impl_pattern_match N0 j) (l1, xs, env, (l1.getD a.toNat zP).1, (l1.getD a.toNat zP).2.1, (l1.getD a.toNat zP).2.2, (xs.getD t.toNat zN3).1, (xs.getD t.toNat zN3).2.1, (xs.getD t.toNat zN3).2.2)).bind fun g2 => some (g2.1, g2.2.1, g2.2.2.1, g2.2.2.2)) (bif (nd xs t).1 == kk then (matchP R env xs (nd xs t).2.2).bind fun r => matchP Q r.1 r.2 (nd xs t).2.1 else none) := by
     intro kk hkk hv
     unfold impl_pattern_match_R12
     dsimp only
     rw [kindOf_eq N0 (by rw [hv]; omega), Option.bind_some, hv, hps, i0, i1]
     cases hkd : ((nd xs t).1 == kk) with
     | false =>
      exact ⟨_, _, _, rfl, rfl⟩
     | true =>
      obtain ⟨k1, k2⟩ := kids hp ht (by
       have : (nd xs t).1 = kk := by simpa using hkd
       rw [this]; exact .inr hkk)
      obtain ⟨ys, e, c, g1, g2⟩ := implMatch k q _ R env xs (nd xs t).2.2 j h2 (by omega) (by omega) hE hp k2
      have g1' : impl_pattern_match N0 j (l1, xs, env, (([p, q] : List Int).getD ((1 : Int)).toNat (0 : Int)), (xs.getD t.toNat zN3).2.2) = some (l1, ys, e, c) := g1
      simp only [cond_true]
      rw [g1', Option.bind_some]
      dsimp only
      cases hm : matchP R env xs (nd xs t).2.2 with
      | none =>
       rw [hm] at g2
       have g2 : c = false := g2
       subst g2
       exact ⟨_, _, _, rfl, rfl⟩
      | some s =>
       rw [hm] at g2
       obtain ⟨g2, g3⟩ := (g2 : (e, ys) = s ∧ c = true)
       subst g2; subst g3
       obtain ⟨f1, f2, w, f3⟩ := matchP_good hE hp k2 hm
       obtain ⟨zs, e2, c2, g4, g5⟩ := implMatch k p _ Q e ys (nd xs t).2.1 j h1 (by omega) (by omega) f1 f2 (by rw [f3]; exact hasB_mono k1)
       have g4' : impl_pattern_match N0 j (l1, ys, e, (([p, q] : List Int).getD ((0 : Int)).toNat (0 : Int)), (xs.getD t.toNat zN3).2.1) = some (l1, zs, e2, c2) := g4
       rw [cond_true, g4']
       exact ⟨_, _, _, rfl, g5⟩
    rcases d3 with d3 | d3 | d3 | d3 | d3
    ·have e1 : (l1.getD a.toNat zP).1 = 40 := ki.1 (by rw [d2, d3])
     have hk2 : (l1.getD a.toNat zP).1 == (40 : Int) := by rw [e1]; rfl
     rw [hk2, cond_true, d3]
     show FoundI l1 _ (bif (nd xs t).1 == 2 then (matchP Q env xs (nd xs t).2.1).bind fun r => matchP R r.1 r.2 (nd xs t).2.2 else none)
     unfold impl_pattern_match_R9
     dsimp only
     rw [hps, i0, i1]
     cases hkd : ((nd xs t).1 == 2) with
     | false => exact ⟨_, _, _, rfl, rfl⟩
     | true =>
      obtain ⟨k1, k2⟩ := kids hp ht (.inl (by simpa using hkd))
      obtain ⟨ys, e, c, g1, g2⟩ := implMatch k p _ Q env xs (nd xs t).2.1 j h1 (by omega) (by omega) hE hp k1
      have g1' : impl_pattern_match N0 j (l1, xs, env, (([p, q] : List Int).getD ((0 : Int)).toNat (0 : Int)), (xs.getD t.toNat zN3).2.1) = some (l1, ys, e, c) := g1
      simp only [cond_true]
      rw [g1', Option.bind_some]
      dsimp only
      cases hm : matchP Q env xs (nd xs t).2.1 with
      | none =>
       rw [hm] at g2
       have g2 : c = false := g2
       subst g2
       exact ⟨_, _, _, rfl, rfl⟩
      | some s =>
       rw [hm] at g2
       obtain ⟨g2, g3⟩ := (g2 : (e, ys) = s ∧ c = true)
       subst g2; subst g3
       obtain ⟨f1, f2, w, f3⟩ := matchP_good hE hp k1 hm
       obtain ⟨zs, e2, c2, g4, g5⟩ := implMatch k q _ R e ys (nd xs t).2.2 j h2 (by omega) (by omega) f1 f2 (by rw [f3]; exact hasB_mono k2)
       have g4' : impl_pattern_match N0 j (l1, ys, e, (([p, q] : List Int).getD ((1 : Int)).toNat (0 : Int)), (xs.getD t.toNat zN3).2.2) = some (l1, zs, e2, c2) := g4
       rw [cond_true, g4']
       exact ⟨_, _, _, rfl, g5⟩
    ·have e1 : (l1.getD a.toNat zP).1 = 123 := ki.2.1 (by rw [d2, d3])
     have r := r12 3 (.inl rfl) (by rw [d2, d3])
     have q1 : ((l1.getD a.toNat zP).1 == (40 : Int)) = false := by rw [e1]; rfl
     have q2 : ((l1.getD a.toNat zP).1 == (123 : Int)) = true := by rw [e1]; rfl
     rw [q1, q2, cond_false, cond_true, d3]
     exact r
    ·have e1 : (l1.getD a.toNat zP).1 = 91 := ki.2.2.1 (by rw [d2, d3])
     have r := r12 4 (.inr rfl) (by rw [d2, d3])
     have q1 : ((l1.getD a.toNat zP).1 == (40 : Int)) = false := by rw [e1]; rfl
     have q2 : ((l1.getD a.toNat zP).1 == (123 : Int)) = false := by rw [e1]; rfl
     have q3 : ((l1.getD a.toNat zP).1 == (91 : Int)) = true := by rw [e1]; rfl
     rw [q1, q2, q3, cond_false, cond_false, cond_true, d3]
     exact r
    ·have q1 : ((l1.getD a.toNat zP).1 == (40 : Int)) = false := Bool.eq_false_iff.2 fun q => by have := ki.2.2.2.1 q; omega
     have q2 : ((l1.getD a.toNat zP).1 == (123 : Int)) = false := Bool.eq_false_iff.2 fun q => by have := ki.2.2.2.2.1 q; omega
     have q3 : ((l1.getD a.toNat zP).1 == (91 : Int)) = false := Bool.eq_false_iff.2 fun q => by have := ki.2.2.2.2.2 q; omega
     rw [q1, q2, q3, cond_false, cond_false, cond_false]
     rw [d3] at mb ⊢
     exact mb
    ·have q1 : ((l1.getD a.toNat zP).1 == (40 : Int)) = false := Bool.eq_false_iff.2 fun q => by have := ki.2.2.2.1 q; omega
     have q2 : ((l1.getD a.toNat zP).1 == (123 : Int)) = false := Bool.eq_false_iff.2 fun q => by have := ki.2.2.2.2.1 q; omega
     have q3 : ((l1.getD a.toNat zP).1 == (91 : Int)) = false := Bool.eq_false_iff.2 fun q => by have := ki.2.2.2.2.2 q; omega
     rw [q1, q2, q3, cond_false, cond_false, cond_false]
     rw [d3] at mb ⊢
     exact mb
def FoundS (res : Option (List Int × List Node3 × Bool)) (m : Option (List Int × List Node3)) : Prop := ∃ e ys c, res = some (e, ys, c) ∧ (match m with
 | some s => (e, ys) = s ∧ c = true
 | none => c = false)
theorem makeBrS {l1 : List Piece} {l2 : List SNode} {env : List Int} {xs : List Node3} {k : Nat} {a b t : Int} {P : Pat} (he : EnvG env) (hd : dec2 l1 l2 k a b = some P) (hk : k ≤ N0) (hp : poolB xs = true) (ht : 0 ≤ t) :
  FoundS ((spec_l11Make_o N0 N0 (xs, env, l2, b)).bind fun r16 => (cond (r16.2.2 == t) (some (r16.1, r16.2.1, (decide (r16.2.2 ≥ (0 : Int))))) (some (r16.1, r16.2.1, false)))) (mkT env P xs t) := by
 obtain ⟨ys, u, g1, g2⟩ := specMake he.1 he.2 k a b P xs N0 hd hk hp
 rw [l11Make_o_map, g1, some_map', Option.bind_some]
 dsimp only
 unfold mkT
 cases hm : mk env P xs with
 | none =>
  rw [hm] at g2
  have g2 : u = -1 := g2
  have : (u == t) = false := by rw [beq_eq_false_iff_ne]; omega
  rw [this, cond_false]
  exact ⟨_, _, _, rfl, rfl⟩
 | some s =>
  rw [hm] at g2
  have g2 : (ys, u) = s := g2
  subst g2
  have gr := mk_grown hp hm
  rw [Option.bind_some]
  dsimp only
  cases (u == t) with
  | true => exact ⟨_, _, _, rfl, rfl, decide_eq_true gr.2.1⟩
  | false => exact ⟨_, _, _, rfl, rfl⟩
theorem specMatch {l1 : List Piece} {l2 : List SNode} : ∀ (k : Nat) (a b : Int) (P : Pat) (env : List Int) (xs : List Node3) (t : Int) (j : Nat), dec2 l1 l2 k a b = some P → k ≤ j → k ≤ N0 → EnvG env → poolB xs = true → hasB xs t = true → FoundS (spec_l11Match N0 j (xs, env, l2, b, t)) (matchP P env xs t)
 | 0, a, b, P, env, xs, t, j, h, _, _, _, _, _ => by cases h
 | k + 1, a, b, P, env, xs, t, 0, h, hj, _, _, _, _ => by omega
 | k + 1, a, b, P, env, xs, t, j + 1, h, hj, hn, hE, hp, ht => by
  have hx := poolB_len hp
  obtain ⟨t0, t1⟩ := hasB_iff.1 ht
  obtain ⟨_, hb, hc⟩ := dec2_step h
  have mb := makeBrS (t := t) hE h hn hp t0
  have e0 : spec_l11Match N0 (j + 1) (xs, env, l2, b, t) = spec_l11Match_body N0 (spec_l11Match N0 j) (xs, env, l2, b, t) := rfl
  rw [e0]
  unfold spec_l11Match_body spec_l11Match_R6
  dsimp only
  rw [hb, hasB_inb ht]
  simp only [cond_true]
  rcases hc with ⟨hps, hl⟩ | ⟨p, Q, hps, h1, h2⟩ | ⟨p, q, Q, R, hps, h1, h2, h3⟩
  ·rcases leaf2_cases hl with ⟨c1, c2, c3, c4, rfl⟩ | ⟨_, c1, c2, c3, c4, c6, c7, rfl⟩ | ⟨_, _, c1, c2, c3, c4, c6, c7, rfl⟩
   ·rw [c2]
    exact mb
   ·rw [c2, c4, c3, env_in hE.1 c6 c7]
    refine ⟨env, xs, (env.getD (l1.getD a.toNat zP).2.1.toNat 0 == t), rfl, ?_⟩
    show match mkT env (.var (l1.getD a.toNat zP).2.1) xs t with
     | some s => (env, xs) = s ∧ (env.getD (l1.getD a.toNat zP).2.1.toNat 0 == t) = true
     | none => (env.getD (l1.getD a.toNat zP).2.1.toNat 0 == t) = false
    have hv := mk_var (env := env) xs (l1.getD a.toNat zP).2.1
    unfold mkT
    cases hm : mk env (.var (l1.getD a.toNat zP).2.1) xs with
    | none =>
     rw [hm] at hv
     have hv : env.getD (l1.getD a.toNat zP).2.1.toNat 0 < 0 := hv
     show (_ == t) = false
     rw [beq_eq_false_iff_ne]; omega
    | some s =>
     rw [hm] at hv
     have hv : (xs, env.getD (l1.getD a.toNat zP).2.1.toNat 0) = s := hv
     subst hv
     rw [Option.bind_some]
     dsimp only
     cases (env.getD (l1.getD a.toNat zP).2.1.toNat 0 == t) with
     | true => exact ⟨rfl, rfl⟩
     | false => rfl
   ·rw [c2, c4, c3]
    have hi : inb (l1.getD a.toNat zP).2.1 (env.set (l1.getD a.toNat zP).2.1.toNat t).length = true := by rw [List.length_set]; exact env_in hE.1 c6 c7
    rw [env_in hE.1 c6 c7, hi, set_get (i := (l1.getD a.toNat zP).2.1.toNat) (by have := hE.1; omega)]
    show FoundS _ (bif decide (env.getD (l1.getD a.toNat zP).2.1.toNat 0 < 0) then some (env.set (l1.getD a.toNat zP).2.1.toNat t, xs) else bif env.getD (l1.getD a.toNat zP).2.1.toNat 0 == t then some (env, xs) else none)
    by_cases hneg : env.getD (l1.getD a.toNat zP).2.1.toNat 0 < 0
    ·rw [decide_eq_true hneg]
     exact ⟨_, _, _, rfl, rfl, by simp⟩
    ·rw [decide_eq_false hneg]
     cases hq : (env.getD (l1.getD a.toNat zP).2.1.toNat 0 == t) with
     | true => exact ⟨_, _, _, rfl, rfl, rfl⟩
     | false => exact ⟨_, _, _, rfl, rfl⟩
  ·obtain ⟨_, c4, c5, c6, c7, rfl⟩ := one2_cases h2
   rcases c6 with e | e
   ·rw [e] at mb ⊢
    exact mb
   ·rw [e] at mb ⊢
    exact mb
  ·obtain ⟨_, c4, c5⟩ := two2_cases h3
   rcases c5 with ⟨d1, d2, rfl⟩ | ⟨d1, d2, d3, rfl⟩
   ·rw [d2]
    exact mb
   ·rcases d3 with d3 | d3 | d3 | d3 | d3
    ·rw [d3]
     show FoundS (cond ((nd xs t).1 != 2) (some (env, xs, false)) ((spec_l11Match N0 j (xs, env, l2, (l2.getD b.toNat zS).2.1, (nd xs t).2.1)).bind fun r4 => (cond (!r4.2.2) (some (r4.1, xs, false)) ((spec_l11Match N0 j (r4.2.1, r4.1, l2, (l2.getD b.toNat zS).2.2.1, (nd xs t).2.2)).bind fun r5 => (some (r5.1, r5.2.1, r5.2.2)))))) (bif (nd xs t).1 == 2 then (matchP Q env xs (nd xs t).2.1).bind fun r => matchP R r.1 r.2 (nd xs t).2.2 else none)
     rw [show ((nd xs t).1 != 2) = !((nd xs t).1 == 2) from rfl]
     cases hkd : ((nd xs t).1 == 2) with
     | false => exact ⟨_, _, _, rfl, rfl⟩
     | true =>
      obtain ⟨k1, k2⟩ := kids hp ht (.inl (by simpa using hkd))
      obtain ⟨e, ys, c, g1, g2⟩ := specMatch k p _ Q env xs (nd xs t).2.1 j h1 (by omega) (by omega) hE hp k1
      rw [Bool.not_true, cond_false, cond_true, g1, Option.bind_some]
      dsimp only
      cases hm : matchP Q env xs (nd xs t).2.1 with
      | none =>
       rw [hm] at g2
       have g2 : c = false := g2
       subst g2
       exact ⟨_, _, _, rfl, rfl⟩
      | some s =>
       rw [hm] at g2
       obtain ⟨g2, g3⟩ := (g2 : (e, ys) = s ∧ c = true)
       subst g2; subst g3
       obtain ⟨f1, f2, w, f3⟩ := matchP_good hE hp k1 hm
       obtain ⟨e2, zs, c2, g4, g5⟩ := specMatch k q _ R e ys (nd xs t).2.2 j h2 (by omega) (by omega) f1 f2 (by rw [f3]; exact hasB_mono k2)
       rw [Bool.not_true, cond_false, g4]
       exact ⟨_, _, _, rfl, g5⟩
    ·rw [d3]
     show FoundS (cond ((nd xs t).1 != 3) (some (env, xs, false)) ((spec_l11Match N0 j (xs, env, l2, (l2.getD b.toNat zS).2.2.1, (nd xs t).2.2)).bind fun r4 => (cond (!r4.2.2) (some (r4.1, xs, false)) ((spec_l11Match N0 j (r4.2.1, r4.1, l2, (l2.getD b.toNat zS).2.1, (nd xs t).2.1)).bind fun r5 => (some (r5.1, r5.2.1, r5.2.2)))))) (bif (nd xs t).1 == 3 then (matchP R env xs (nd xs t).2.2).bind fun r => matchP Q r.1 r.2 (nd xs t).2.1 else none)
     rw [show ((nd xs t).1 != 3) = !((nd xs t).1 == 3) from rfl]
     cases hkd : ((nd xs t).1 == 3) with
     | false => exact ⟨_, _, _, rfl, rfl⟩
     | true =>
      obtain ⟨k1, k2⟩ := kids hp ht (by
       have : (nd xs t).1 = 3 := by simpa using hkd
       rw [this]; decide)
      obtain ⟨e, ys, c, g1, g2⟩ := specMatch k q _ R env xs (nd xs t).2.2 j h2 (by omega) (by omega) hE hp k2
      rw [Bool.not_true, cond_false, cond_true, g1, Option.bind_some]
      dsimp only
      cases hm : matchP R env xs (nd xs t).2.2 with
      | none =>
       rw [hm] at g2
       have g2 : c = false := g2
       subst g2
       exact ⟨_, _, _, rfl, rfl⟩
      | some s =>
       rw [hm] at g2
       obtain ⟨g2, g3⟩ := (g2 : (e, ys) = s ∧ c = true)
       subst g2; subst g3
       obtain ⟨f1, f2, w, f3⟩ := matchP_good hE hp k2 hm
       obtain ⟨e2, zs, c2, g4, g5⟩ := specMatch k p _ Q e ys (nd xs t).2.1 j h1 (by omega) (by omega) f1 f2 (by rw [f3]; exact hasB_mono k1)
       rw [Bool.not_true, cond_false, g4]
       exact ⟨_, _, _, rfl, g5⟩
    ·rw [d3]
     show FoundS (cond ((nd xs t).1 != 4) (some (env, xs, false)) ((spec_l11Match N0 j (xs, env, l2, (l2.getD b.toNat zS).2.2.1, (nd xs t).2.2)).bind fun r4 => (cond (!r4.2.2) (some (r4.1, xs, false)) ((spec_l11Match N0 j (r4.2.1, r4.1, l2, (l2.getD b.toNat zS).2.1, (nd xs t).2.1)).bind fun r5 => (some (r5.1, r5.2.1, r5.2.2)))))) (bif (nd xs t).1 == 4 then (matchP R env xs (nd xs t).2.2).bind fun r => matchP Q r.1 r.2 (nd xs t).2.1 else none)
     rw [show ((nd xs t).1 != 4) = !((nd xs t).1 == 4) from rfl]
     cases hkd : ((nd xs t).1 == 4) with
     | false => exact ⟨_, _, _, rfl, rfl⟩
     | true =>
      obtain ⟨k1, k2⟩ := kids hp ht (by
       have : (nd xs t).1 = 4 := by simpa using hkd
       rw [this]; decide)
      obtain ⟨e, ys, c, g1, g2⟩ := specMatch k q _ R env xs (nd xs t).2.2 j h2 (by omega) (by omega) hE hp k2
      rw [Bool.not_true, cond_false, cond_true, g1, Option.bind_some]
      dsimp only
      cases hm : matchP R env xs (nd xs t).2.2 with
      | none =>
       rw [hm] at g2
       have g2 : c = false := g2
       subst g2
       exact ⟨_, _, _, rfl, rfl⟩
      | some s =>
       rw [hm] at g2
       obtain ⟨g2, g3⟩ := (g2 : (e, ys) = s ∧ c = true)
       subst g2; subst g3
       obtain ⟨f1, f2, w, f3⟩ := matchP_good hE hp k2 hm
       obtain ⟨e2, zs, c2, g4, g5⟩ := specMatch k p _ Q e ys (nd xs t).2.1 j h1 (by omega) (by omega) f1 f2 (by rw [f3]; exact hasB_mono k1)
       rw [Bool.not_true, cond_false, g4]
       exact ⟨_, _, _, rfl, g5⟩
    ·rw [d3] at mb ⊢
     exact mb
    ·rw [d3] at mb ⊢
     exact mb
theorem get_pre {α : Type} (pre r : List α) (a d : α) : (pre ++ a :: r).getD pre.length d = a := by
 rw [List.getD_eq_getElem?_getD, List.getElem?_append_right (Nat.le_refl _), Nat.sub_self]; rfl
theorem in_pre {α : Type} (pre r : List α) (a : α) : inb (pre.length : Int) (pre ++ a :: r).length = true := inb_nat (by simp)
theorem lt_pre {α : Type} (pre r : List α) (a : α) : decide ((pre.length : Int) < ((pre ++ a :: r).length : Int)) = true := decide_eq_true (by simp; omega)
theorem lt_end {α : Type} (pre : List α) : decide ((pre.length : Int) < ((pre ++ ([] : List α)).length : Int)) = false := decide_eq_false (by simp)
theorem app_one {α : Type} (pre r : List α) (a : α) : pre ++ a :: r = (pre ++ [a]) ++ r := by rw [List.append_assoc]; rfl
theorem len_one {α : Type} (pre : List α) (a : α) : ((pre ++ [a]).length : Int) = (pre.length : Int) + 1 := by rw [List.length_append, List.length_singleton]; omega
theorem cloneInt_eq {v : List Int} (he : v.length ≤ 4294967296) : lib_cloneInt v = some v := by
 unfold lib_cloneInt
 rw [decide_eq_true he]; rfl
theorem patMatch_eq {T : ByteArray} {P : Pat} (hT : PatIs T P) {xs : List Node3} (hp : poolB xs = true) {env : List Int} (he : env.length = 26) (hv : envB xs env = true) (t : Int) :
  impl_PatMatch N0 (xs, env, T, t) = some (bif hasB xs t then (match matchP P env xs t with | some r => (r.2, r.1, true) | none => (xs, [], false)) else (xs, [], false)) := by
 obtain ⟨b, l1, l2, k, e1, e2, hk, hd, hl1, hl2⟩ := hT
 have hx := poolB_len hp
 have hP : (decide (xs.length ≤ 500) && okFrom N0 [] xs) = true := hp
 unfold impl_PatMatch
 dsimp only
 rw [implPool_eq N0 n0 (by omega), hP]
 simp only [Option.bind_some, Bool.not_true, cond_false, e1]
 rw [isTerm_eq N0 (by omega)]
 simp only [Option.bind_some]
 cases ht : hasB xs t with
 | false => rw [Bool.not_false, cond_true, copy_eq (by omega)]; rfl
 | true =>
  rw [Bool.not_true, cond_false, cond_true, implEnv_eq N0 n0 (by omega) (by omega), hv, decide_eq_true he, hP]
  simp only [Option.bind_some, Bool.and_true, Bool.not_true, cond_false]
  rw [copy_eq (by omega), cloneInt_eq (by omega)]
  have ew : impl_pattern_whole N0 l1 = some (l1, (l1.length : Int) - 1) := by
   unfold impl_pattern_whole
   rw [wrap_ok (by omega) (by omega)]
  rw [Option.bind_some, Option.bind_some, ew]
  simp only [Option.bind_some]
  obtain ⟨ys, e, c, g1, g2⟩ := implMatch k _ _ P env xs t N0 hd hk hk ⟨he, envB_neg hv⟩ hp ht
  rw [g1, Option.bind_some]
  dsimp only
  cases hm : matchP P env xs t with
  | none =>
   rw [hm] at g2
   have g2 : c = false := g2
   subst g2; rfl
  | some s =>
   rw [hm] at g2
   obtain ⟨g2, g3⟩ := (g2 : (e, ys) = s ∧ c = true)
   subst g2; subst g3; rfl
theorem l11Take_eq {T : ByteArray} {P : Pat} (hT : PatIs T P) {xs : List Node3} (hp : poolB xs = true) {env : List Int} (he : env.length = 26) (hv : envB xs env = true) {t : Int} (ht : hasB xs t = true) :
  ∃ l2 e ys c, spec_l11Read N0 T = some (l2, true) ∧ spec_l11Take N0 (xs, env, l2, t) = some (ys, e, c) ∧ (match matchP P env xs t with
   | some s => (e, ys) = s ∧ c = true
   | none => c = false) := by
 obtain ⟨b, l1, l2, k, e1, e2, hk, hd, hl1, hl2⟩ := hT
 obtain ⟨e, ys, c, g1, g2⟩ := specMatch k _ _ P env xs t N0 hd hk hk ⟨he, envB_neg hv⟩ hp ht
 refine ⟨l2, e, ys, c, e2, ?_, g2⟩
 unfold spec_l11Take
 dsimp only
 have : room (([] : List Int).length + env.length) = true := by
  unfold room
  simp
  omega
 rw [this, cond_true, List.nil_append, wrap_ok (by omega) (by omega), g1]; rfl
theorem envB_mono {xs zs : List Node3} : ∀ {env : List Int}, envB xs env = true → envB (xs ++ zs) env = true
 | [], _ => rfl
 | v :: r, h => by
  have h : ((v == -1 || hasB xs v) && envB xs r) = true := h
  show ((v == -1 || hasB (xs ++ zs) v) && envB (xs ++ zs) r) = true
  rw [Bool.and_eq_true, Bool.or_eq_true] at h ⊢
  exact ⟨h.1.imp id hasB_mono, envB_mono h.2⟩
theorem envB_set {xs : List Node3} {t : Int} (ht : hasB xs t = true) : ∀ {env : List Int} (i : Nat), envB xs env = true → envB xs (env.set i t) = true
 | [], i, _ => rfl
 | v :: r, 0, h => by
  have h : ((v == -1 || hasB xs v) && envB xs r) = true := h
  show ((t == -1 || hasB xs t) && envB xs r) = true
  rw [Bool.and_eq_true] at h
  rw [ht, h.2, Bool.or_true]; rfl
 | v :: r, i + 1, h => by
  have h : ((v == -1 || hasB xs v) && envB xs r) = true := h
  show ((v == -1 || hasB xs v) && envB xs (r.set i t)) = true
  rw [Bool.and_eq_true] at h
  rw [h.1, envB_set ht i h.2]; rfl
theorem l97 {x : Int} (h0 : 97 ≤ x) (h1 : x ≤ 122) : IntKind.u8.wrap (x - 97) = x - 97 ∧ IntKind.i64.wrap (IntKind.i64.wrap x - 97) = x - 97 := by
 have h : x = 97 ∨ x = 98 ∨ x = 99 ∨ x = 100 ∨ x = 101 ∨ x = 102 ∨ x = 103 ∨ x = 104 ∨ x = 105 ∨ x = 106 ∨ x = 107 ∨ x = 108 ∨ x = 109 ∨ x = 110 ∨ x = 111 ∨ x = 112 ∨ x = 113 ∨ x = 114 ∨ x = 115 ∨ x = 116 ∨ x = 117 ∨ x = 118 ∨ x = 119 ∨ x = 120 ∨ x = 121 ∨ x = 122 := by omega
 rcases h with h | h | h | h | h | h | h | h | h | h | h | h | h | h | h | h | h | h | h | h | h | h | h | h | h | h <;> subst h <;> exact ⟨by decide, by decide⟩
theorem getD_out {env : List Int} {i : Nat} (h : env.length ≤ i) : env.getD i 0 = 0 := by
 rw [List.getD_eq_getElem?_getD, List.getElem?_eq_none h]; rfl
def Pat.Fine : Pat → Prop
 | .name _ => True
 | .var i => 0 ≤ i ∧ i < 26
 | .ask i => 0 ≤ i ∧ i < 26
 | .un _ p => p.Fine
 | .bin _ p q => p.Fine ∧ q.Fine
 | .exp p q => p.Fine ∧ q.Fine
theorem dec2_fine {l1 : List Piece} {l2 : List SNode} : ∀ {k : Nat} {a b : Int} {P : Pat}, dec2 l1 l2 k a b = some P → P.Fine
 | 0, a, b, P, h => by cases h
 | k + 1, a, b, P, h => by
  obtain ⟨_, _, hc⟩ := dec2_step h
  rcases hc with ⟨_, hl⟩ | ⟨p, Q, _, h1, h2⟩ | ⟨p, q, Q, R, _, h1, h2, h3⟩
  ·rcases leaf2_cases hl with ⟨_, _, _, _, rfl⟩ | ⟨_, _, _, _, _, c6, c7, rfl⟩ | ⟨_, _, _, _, _, _, c6, c7, rfl⟩
   ·exact trivial
   ·exact ⟨c6, c7⟩
   ·exact ⟨c6, c7⟩
  ·obtain ⟨_, _, _, _, _, rfl⟩ := one2_cases h2
   exact (show Q.Fine from dec2_fine h1)
  ·obtain ⟨_, _, c5⟩ := two2_cases h3
   rcases c5 with ⟨_, _, rfl⟩ | ⟨_, _, _, rfl⟩
   ·exact ⟨dec2_fine h1, dec2_fine h2⟩
   ·exact ⟨dec2_fine h1, dec2_fine h2⟩
theorem PatIs.fine {T : ByteArray} {P : Pat} (h : PatIs T P) : P.Fine := by
 obtain ⟨_, _, _, _, _, _, _, hd, _⟩ := h
 exact dec2_fine hd
def Keeps (env e : List Int) : Prop := ∀ i : Nat, env.getD i 0 ≠ -1 → e.getD i 0 = env.getD i 0
theorem Keeps.refl (env : List Int) : Keeps env env := fun _ _ => rfl
theorem Keeps.trans {a b c : List Int} (h1 : Keeps a b) (h2 : Keeps b c) : Keeps a c := fun i h => (h2 i (by rw [h1 i h]; exact h)).trans (h1 i h)
theorem mkT_more {env e : List Int} {P : Pat} {xs ys : List Node3} {t : Int} (hp : poolB xs = true) (hv : envB xs env = true) (h : mkT env P xs t = some (e, ys)) : envB ys e = true ∧ Keeps env e := by
 obtain ⟨r, h1, h2⟩ := Option.bind_eq_some_iff.1 (show (mk env P xs).bind _ = some (e, ys) from h)
 obtain ⟨_, _, zs, hz⟩ := mk_grown hp (show mk env P xs = some (r.1, r.2) from h1)
 cases hc : (r.2 == t) with
 | false => rw [hc] at h2; cases h2
 | true =>
  rw [hc] at h2
  obtain ⟨rfl, rfl⟩ := Prod.mk.inj (Option.some.inj h2)
  exact ⟨by rw [hz]; exact envB_mono hv, Keeps.refl _⟩
theorem matchP_more : ∀ {P : Pat} {env e : List Int} {xs ys : List Node3} {t : Int}, EnvG env → envB xs env = true → poolB xs = true → hasB xs t = true → matchP P env xs t = some (e, ys) → envB ys e = true ∧ Keeps env e
 | .name c, env, e, xs, ys, t, hE, hv, hp, ht, h => mkT_more hp hv h
 | .var i, env, e, xs, ys, t, hE, hv, hp, ht, h => mkT_more hp hv h
 | .un k p, env, e, xs, ys, t, hE, hv, hp, ht, h => mkT_more hp hv h
 | .exp p q, env, e, xs, ys, t, hE, hv, hp, ht, h => mkT_more hp hv h
 | .ask i, env, e, xs, ys, t, hE, hv, hp, ht, h => by
  have h : (bif decide (env.getD i.toNat 0 < 0) then some (env.set i.toNat t, xs) else bif env.getD i.toNat 0 == t then some (env, xs) else none) = some (e, ys) := h
  by_cases hn : env.getD i.toNat 0 < 0
  ·rw [decide_eq_true hn] at h
   obtain ⟨rfl, rfl⟩ := Prod.mk.inj (Option.some.inj h)
   refine ⟨envB_set ht _ hv, fun j hj => ?_⟩
   have hij : i.toNat ≠ j := fun q => by
    rw [← q] at hj
    exact hj (hE.2 _ hn)
   rw [List.getD_eq_getElem?_getD, List.getD_eq_getElem?_getD, List.getElem?_set_ne hij]
  ·rw [decide_eq_false hn] at h
   cases hc : (env.getD i.toNat 0 == t) with
   | false => rw [hc] at h; cases h
   | true =>
    rw [hc] at h
    obtain ⟨rfl, rfl⟩ := Prod.mk.inj (Option.some.inj h)
    exact ⟨hv, Keeps.refl _⟩
 | .bin k p q, env, e, xs, ys, t, hE, hv, hp, ht, h => by
  have h : (bif k == 2 then (bif (nd xs t).1 == 2 then (matchP p env xs (nd xs t).2.1).bind fun r => matchP q r.1 r.2 (nd xs t).2.2 else none)
   else bif k == 3 || k == 4 then (bif (nd xs t).1 == k then (matchP q env xs (nd xs t).2.2).bind fun r => matchP p r.1 r.2 (nd xs t).2.1 else none)
   else mkT env (.bin k p q) xs t) = some (e, ys) := h
  cases h2 : (k == 2) with
  | true =>
   rw [h2, cond_true] at h
   cases h3 : ((nd xs t).1 == 2) with
   | false => rw [h3] at h; cases h
   | true =>
    rw [h3, cond_true] at h
    obtain ⟨k1, k2⟩ := kids hp ht (.inl (by simpa using h3))
    obtain ⟨r, h4, h5⟩ := Option.bind_eq_some_iff.1 h
    have h4 : matchP p env xs (nd xs t).2.1 = some (r.1, r.2) := h4
    obtain ⟨g1, g2, w, g3⟩ := matchP_good hE hp k1 h4
    obtain ⟨m1, m2⟩ := matchP_more hE hv hp k1 h4
    obtain ⟨m3, m4⟩ := matchP_more g1 m1 g2 (by rw [g3]; exact hasB_mono k2) h5
    exact ⟨m3, m2.trans m4⟩
  | false =>
   rw [h2, cond_false] at h
   cases h3 : (k == 3 || k == 4) with
   | false => rw [h3, cond_false] at h; exact mkT_more hp hv h
   | true =>
    rw [h3, cond_true] at h
    cases h6 : ((nd xs t).1 == k) with
    | false => rw [h6] at h; cases h
    | true =>
     rw [h6, cond_true] at h
     have h7 : (nd xs t).1 = k := by simpa using h6
     have h8 : k = 3 ∨ k = 4 := by simpa using h3
     obtain ⟨k1, k2⟩ := kids hp ht (by rw [h7]; exact .inr h8)
     obtain ⟨r, h4, h5⟩ := Option.bind_eq_some_iff.1 h
     have h4 : matchP q env xs (nd xs t).2.2 = some (r.1, r.2) := h4
     obtain ⟨g1, g2, w, g3⟩ := matchP_good hE hp k2 h4
     obtain ⟨m1, m2⟩ := matchP_more hE hv hp k2 h4
     obtain ⟨m3, m4⟩ := matchP_more g1 m1 g2 (by rw [g3]; exact hasB_mono k1) h5
     exact ⟨m3, m2.trans m4⟩
def dg (k : Nat) : UInt8 := UInt8.ofNat (48 + k)
def it3 (u : Nat) : List UInt8 := if u < 10 then [dg u] else if u < 100 then [dg (u / 10), dg (u % 10)] else [dg (u / 100), dg (u / 10 % 10), dg (u % 10)]
theorem digits3 {u : Nat} (h : u < 1000) : Lib.decDigits u = it3 u := by
 unfold it3 dg
 by_cases h1 : u < 10
 ·rw [if_pos h1, Lib.decDigits, dif_pos h1]
 ·rw [if_neg h1, Lib.decDigits, dif_neg h1]
  by_cases h2 : u < 100
  ·rw [if_pos h2, Lib.decDigits, dif_pos (by omega)]; rfl
  ·rw [if_neg h2, Lib.decDigits, dif_neg (by omega), Lib.decDigits, dif_pos (by omega)]
   rw [show u / 10 / 10 = u / 100 by omega]; rfl
theorem itoa3 {u : Nat} (h : u < 1000) : Lib.itoa (u : Int) = it3 u := by
 unfold Lib.itoa
 rw [if_neg (by omega), Int.toNat_natCast, digits3 h]
set_option maxRecDepth 100000 in
theorem atoi_all3 : ∀ u : Fin 1000, Lib.atoiAll (it3 u.val) = .ok (u.val : Int) := by decide +kernel
theorem it3_len (u : Nat) : (it3 u).length ≤ 3 := by
 unfold it3
 split
 ·simp
 ·split <;> simp
def isD (c : UInt8) : Bool := decide (48 ≤ c.toNat) && decide (c.toNat ≤ 57)
abbrev bs (T : ByteArray) : List UInt8 := T.data.toList
theorem bs_len (T : ByteArray) : (bs T).length = T.size := by
 rw [bs, Array.length_toList]; rfl
theorem drop_cons {T : ByteArray} {a : Nat} {c : UInt8} {r : List UInt8} (h : (bs T).drop a = c :: r) : a < T.size ∧ bt T (a : Int) = (c.toNat : Int) ∧ (bs T).drop (a + 1) = r := by
 have hl : a < (bs T).length := by
  refine Nat.lt_of_not_le fun q => ?_
  rw [List.drop_eq_nil_of_le q] at h
  cases h
 rw [List.drop_eq_getElem_cons hl] at h
 injection h with h1 h2
 refine ⟨by rw [← bs_len]; exact hl, ?_, h2⟩
 rw [bt_eq hl, h1]
theorem drop_nil {T : ByteArray} {a : Nat} (h : (bs T).drop a = []) : T.size ≤ a := by
 rw [← bs_len]
 exact List.drop_eq_nil_iff.1 h
def MS : ByteArray := ⟨#[36, 63, 120]⟩
theorem peek_cons {T : ByteArray} {a : Nat} {c : UInt8} {r : List UInt8} (h : (bs T).drop a = c :: r) (k : Int) (M : ByteArray) : impl_reader_peek N0 (T, (a : Int), k, M) = some (T, (a : Int), k, M, (c.toNat : Int)) := by
 obtain ⟨h1, h2, _⟩ := drop_cons h
 unfold impl_reader_peek
 dsimp only
 rw [decide_eq_false (by omega : ¬ (a : Int) ≥ (T.size : Int)), cond_false, inb_nat h1, cond_true, h2]
theorem peek_nil {T : ByteArray} {a : Nat} (h : (bs T).drop a = []) (k : Int) (M : ByteArray) : impl_reader_peek N0 (T, (a : Int), k, M) = some (T, (a : Int), k, M, (0 : Int)) := by
 have h1 := drop_nil h
 unfold impl_reader_peek
 dsimp only
 rw [decide_eq_true (by omega : (a : Int) ≥ (T.size : Int)), cond_true]
theorem isFig_eq (c : UInt8) : impl_isFigure N0 (c.toNat : Int) = some (isD c) := by
 unfold impl_isFigure isD
 by_cases h : 48 ≤ c.toNat
 ·rw [decide_eq_true (by omega : (c.toNat : Int) ≥ 48), decide_eq_true h, cond_true, Bool.true_and]
  congr 1
  by_cases h2 : c.toNat ≤ 57
  ·rw [decide_eq_true h2, decide_eq_true (by omega)]
  ·rw [decide_eq_false h2, decide_eq_false (by omega)]
 ·rw [decide_eq_false (by omega : ¬ (c.toNat : Int) ≥ 48), decide_eq_false h]; rfl
theorem figs_loop {T : ByteArray} (hT : T.size ≤ 200) (k most from_ : Int) (M : ByteArray) : ∀ (l : List UInt8) (a m : Nat), (bs T).drop a = l → a ≤ T.size → l.length < m → impl_reader_figures_L2 N0 m (T, (a : Int), k, M, most, from_) = some (T, ((a + (l.takeWhile isD).length : Nat) : Int), k, M, most, from_)
 | l, a, 0, h, _, hm => by omega
 | [], a, m + 1, h, ha, hm => by
  rw [impl_reader_figures_L2]; dsimp only
  rw [peek_nil h, Option.bind_some]
  dsimp only
  rw [show impl_isFigure N0 (0 : Int) = some false from rfl, Option.bind_some, cond_false]; rfl
 | c :: r, a, m + 1, h, ha, hm => by
  obtain ⟨h1, h2, h3⟩ := drop_cons h
  rw [impl_reader_figures_L2]; dsimp only
  rw [peek_cons h, Option.bind_some]
  dsimp only
  rw [isFig_eq, Option.bind_some]
  cases hc : isD c with
  | false =>
   rw [cond_false, List.takeWhile_cons_of_neg (by rw [hc]; decide)]; rfl
  | true =>
   have w : IntKind.i64.wrap ((a : Int) + 1) = ((a + 1 : Nat) : Int) := by rw [wrap_ok (by omega) (by omega)]; omega
   rw [cond_true, w, figs_loop hT k most from_ M r (a + 1) m h3 (by omega) (by simp at hm; omega), List.takeWhile_cons_of_pos hc, List.length_cons]
   congr 4
   omega
theorem sub_list {T : ByteArray} {a b : Nat} : (sub T (a : Int) (b : Int)).data.toList = ((bs T).drop a).take (b - a) := by
 unfold sub
 rw [Int.toNat_natCast, Int.toNat_natCast, ByteArray.data_extract, Array.toList_extract, List.extract_eq_take_drop]
theorem take_while (l : List UInt8) : l.take (l.takeWhile isD).length = l.takeWhile isD := (List.prefix_iff_eq_take.1 (List.takeWhile_prefix isD)).symm
def figV (L : List UInt8) : Int := match Lib.atoiAll L with
 | .ok v => if L.length ≤ 9 ∧ Lib.itoa v = L then v else -1
 | _ => -1
theorem figs_eq {T : ByteArray} (hT : T.size ≤ 200) {a : Nat} (ha : a ≤ T.size) (k : Int) (M : ByteArray) : impl_reader_figures N0 (T, (a : Int), k, M, (9 : Int)) = some (T, ((a + (((bs T).drop a).takeWhile isD).length : Nat) : Int), k, M, figV (((bs T).drop a).takeWhile isD)) := by
 have hl : ((bs T).drop a).length ≤ 200 := by rw [List.length_drop, bs_len]; omega
 have hw : (((bs T).drop a).takeWhile isD).length ≤ ((bs T).drop a).length := (List.takeWhile_prefix isD).length_le
 unfold impl_reader_figures
 dsimp only
 rw [figs_loop hT k 9 (a : Int) M _ a N0 rfl ha (by have := n0; omega), Option.bind_some]
 dsimp only
 have hr : rng (a : Int) ((a + (((bs T).drop a).takeWhile isD).length : Nat) : Int) T.size = true := by
  unfold rng
  rw [decide_eq_true_iff]
  rw [List.length_drop, bs_len] at hw
  omega
 rw [hr, cond_true]
 have hs : (sub T (a : Int) ((a + (((bs T).drop a).takeWhile isD).length : Nat) : Int)).data.toList = ((bs T).drop a).takeWhile isD := by
  rw [sub_list, Nat.add_sub_cancel_left, take_while]
 generalize sub T (a : Int) ((a + (((bs T).drop a).takeWhile isD).length : Nat) : Int) = s at hs ⊢
 have hz : s.size = (((bs T).drop a).takeWhile isD).length := by rw [← hs, Array.length_toList]; rfl
 generalize hL : ((bs T).drop a).takeWhile isD = L at hs hz hw ⊢
 unfold lib_atoi figV
 rw [if_pos (by omega), hs]
 cases he : Lib.atoiAll L with
 | ok v =>
  dsimp only
  rw [Option.bind_some]
  dsimp only
  rw [Bool.not_false, Bool.not_true, cond_false]
  by_cases h9 : L.length ≤ 9
  ·obtain ⟨b1, b2⟩ := Lib.atoiAll_bounds he
   rw [decide_eq_false (by omega : ¬ (s.size : Int) > 9), cond_false]
   unfold lib_itoa
   rw [if_pos ⟨b1, b2⟩, Option.bind_some]
   have hq : strEq (⟨(Lib.itoa v).toArray⟩ : ByteArray) s = decide (Lib.itoa v = L) := by
    unfold strEq
    rw [decide_eq_decide]
    constructor
    ·intro h
     rw [← hs, ← h]
    ·intro h
     apply ByteArray.ext
     apply Array.ext'
     rw [hs, ← h]
   rw [hq]
   by_cases h2 : Lib.itoa v = L
   ·rw [decide_eq_true h2, if_pos ⟨h9, h2⟩]; rfl
   ·rw [decide_eq_false h2, if_neg (fun q => h2 q.2)]; rfl
  ·rw [decide_eq_true (by omega : (s.size : Int) > 9), cond_true, if_neg (fun q => h9 q.1)]
 | _ => rfl
theorem figV_iff (L : List UInt8) : (∃ u : Nat, u < 200 ∧ L = it3 u ∧ figV L = (u : Int)) ∨ ((∀ u : Nat, u < 200 → L ≠ it3 u) ∧ (decide (figV L ≥ 0) && decide (figV L ≤ 199)) = false) := by
 by_cases h : ∃ u : Nat, u < 200 ∧ L = it3 u
 ·obtain ⟨u, h1, rfl⟩ := h
  refine .inl ⟨u, h1, rfl, ?_⟩
  unfold figV
  rw [show Lib.atoiAll (it3 u) = .ok (u : Int) from atoi_all3 ⟨u, by omega⟩]
  dsimp only
  rw [if_pos ⟨by have := it3_len u; omega, itoa3 (by omega)⟩]
 ·refine .inr ⟨fun u h1 h2 => h ⟨u, h1, h2⟩, ?_⟩
  rw [Bool.and_eq_false_iff, decide_eq_false_iff_not, decide_eq_false_iff_not]
  refine Classical.byContradiction fun q => ?_
  have q1 : figV L ≥ 0 := Classical.byContradiction fun w => q (.inl w)
  have q2 : figV L ≤ 199 := Classical.byContradiction fun w => q (.inr w)
  unfold figV at q1 q2
  cases he : Lib.atoiAll L with
  | ok v =>
   rw [he] at q1 q2
   dsimp only at q1 q2
   by_cases h2 : L.length ≤ 9 ∧ Lib.itoa v = L
   ·rw [if_pos h2] at q1 q2
    obtain ⟨u, rfl⟩ := Int.eq_ofNat_of_zero_le q1
    exact h ⟨u, by omega, by rw [← h2.2, itoa3 (by omega)]⟩
   ·rw [if_neg h2] at q1
    omega
  | _ => rw [he] at q1; exact absurd (show (-1 : Int) ≥ 0 from q1) (by decide)
theorem number_eq {T : ByteArray} (hT : T.size ≤ 200) {a : Nat} (ha : a ≤ T.size) (M : ByteArray) (from_ : Int) : (∃ u : Nat, u < 200 ∧ ((bs T).drop a).takeWhile isD = it3 u ∧ impl_reader_number N0 (T, (a : Int), (0 : Int), M, from_) = some (T, ((a + (it3 u).length : Nat) : Int), (0 : Int), M, (u : Int))) ∨
  ((∀ u : Nat, u < 200 → ((bs T).drop a).takeWhile isD ≠ it3 u) ∧ ∃ a2 v, impl_reader_number N0 (T, (a : Int), (0 : Int), M, from_) = some (T, a2, (4 : Int), M, v)) := by
 have h := figs_eq hT ha (0 : Int) M
 unfold impl_reader_number
 dsimp only
 rw [h, Option.bind_some]
 dsimp only
 rw [inRange_eq, Option.bind_some]
 rcases figV_iff (((bs T).drop a).takeWhile isD) with ⟨u, h1, h2, h3⟩ | ⟨h1, h2⟩
 ·refine .inl ⟨u, h1, h2, ?_⟩
  have : (decide (figV (((bs T).drop a).takeWhile isD) ≥ 0) && decide (figV (((bs T).drop a).takeWhile isD) ≤ 199)) = true := by
   rw [h3, Bool.and_eq_true, decide_eq_true_iff, decide_eq_true_iff]
   omega
  rw [this, h3, h2]; rfl
 ·refine .inr ⟨h1, from_, -1, ?_⟩
  rw [h2]; rfl
def valD : Int → List UInt8 → Int
 | x, [] => x
 | x, c :: r => valD (10 * x + (c.toNat : Int) - 48) r
theorem isD_iff {c : UInt8} : isD c = true ↔ 48 ≤ c.toNat ∧ c.toNat ≤ 57 := by
 unfold isD
 rw [Bool.and_eq_true, decide_eq_true_iff, decide_eq_true_iff]
theorem name_loop {T : ByteArray} (hT : T.size ≤ 200) (f : Nat) : ∀ (l : List UInt8) (a m : Nat) (x : Int), (bs T).drop a = l → a ≤ T.size → f ≤ a → a - f ≤ 4 → l.length < m → 0 ≤ x → x < 10 ^ (a - f) → spec_l4Name_L3 N0 m (T, (a : Int), (f : Int), x) = some (T, ((a + ((l.takeWhile isD).take (4 - (a - f))).length : Nat) : Int), (f : Int), valD x ((l.takeWhile isD).take (4 - (a - f))))
 | l, a, 0, x, h, _, _, _, hm, _, _ => by omega
 | [], a, m + 1, x, h, ha, hf, hk, hm, hx, hx2 => by
  have h1 := drop_nil h
  rw [spec_l4Name_L3]; dsimp only
  rw [decide_eq_false (by omega : ¬ (a : Int) < (T.size : Int)), cond_false, List.takeWhile_nil, List.take_nil]; rfl
 | c :: r, a, m + 1, x, h, ha, hf, hk, hm, hx, hx2 => by
  obtain ⟨h1, h2, h3⟩ := drop_cons h
  rw [spec_l4Name_L3]; dsimp only
  rw [decide_eq_true (by omega : (a : Int) < (T.size : Int)), cond_true, inb_nat h1, h2]
  simp only [cond_true]
  have stop : isD c = false → ((c :: r).takeWhile isD) = [] := fun q => List.takeWhile_cons_of_neg (by rw [q]; decide)
  by_cases g1 : 48 ≤ c.toNat
  ·by_cases g2 : c.toNat ≤ 57
   ·have gc : isD c = true := isD_iff.2 ⟨g1, g2⟩
    have ws : IntKind.i64.wrap ((a : Int) - (f : Int)) = ((a - f : Nat) : Int) := by rw [wrap_ok (by omega) (by omega)]; omega
    rw [decide_eq_true (by omega : (c.toNat : Int) ≥ 48), decide_eq_true (by omega : (c.toNat : Int) ≤ 57), cond_true, cond_true, ws, List.takeWhile_cons_of_pos gc]
    by_cases g3 : a - f < 4
    ·have w1 : IntKind.i64.wrap ((a : Int) + 1) = ((a + 1 : Nat) : Int) := by rw [wrap_ok (by omega) (by omega)]; omega
     have hb : x < 10000 := by
      have q : (10 : Int) ^ 0 = 1 ∧ (10 : Int) ^ 1 = 10 ∧ (10 : Int) ^ 2 = 100 ∧ (10 : Int) ^ 3 = 1000 := by decide
      have q2 : a - f = 0 ∨ a - f = 1 ∨ a - f = 2 ∨ a - f = 3 := by omega
      rcases q2 with e | e | e | e <;> rw [e] at hx2 <;> omega
     have w2 : IntKind.i64.wrap (10 * x) = 10 * x := wrap_ok (by omega) (by omega)
     have w3 : IntKind.i64.wrap (c.toNat : Int) = (c.toNat : Int) := wrap_ok (by omega) (by omega)
     have w4 : IntKind.i64.wrap (10 * x + (c.toNat : Int)) = 10 * x + (c.toNat : Int) := wrap_ok (by omega) (by omega)
     have w5 : IntKind.i64.wrap (10 * x + (c.toNat : Int) - 48) = 10 * x + (c.toNat : Int) - 48 := wrap_ok (by omega) (by omega)
     have e4 : 4 - (a - f) = (4 - (a + 1 - f)) + 1 := by omega
     have hp : (10 : Int) ^ (a + 1 - f) = 10 * 10 ^ (a - f) := by
      rw [show a + 1 - f = (a - f) + 1 by omega, Int.pow_succ, Int.mul_comm]
     rw [decide_eq_true (by omega : ((a - f : Nat) : Int) < 4), cond_true, w1, w2, w3, w4, w5, name_loop hT f r (a + 1) m (10 * x + (c.toNat : Int) - 48) h3 (by omega) (by omega) (by omega) (by simp at hm; omega) (by omega) (by rw [hp]; omega), e4, List.take_succ_cons, List.length_cons]
     congr 3
     omega
    ·rw [decide_eq_false (by omega : ¬ ((a - f : Nat) : Int) < 4), cond_false, show 4 - (a - f) = 0 by omega]
     rfl
   ·rw [decide_eq_true (by omega : (c.toNat : Int) ≥ 48), decide_eq_false (by omega : ¬ (c.toNat : Int) ≤ 57), stop (by rw [← Bool.not_eq_true, isD_iff]; omega), List.take_nil]; rfl
  ·rw [decide_eq_false (by omega : ¬ (c.toNat : Int) ≥ 48), stop (by rw [← Bool.not_eq_true, isD_iff]; omega), List.take_nil]; rfl
theorem isD_dg {c : UInt8} (h : isD c = true) : ∃ k : Nat, k < 10 ∧ c.toNat = 48 + k ∧ c = dg k := by
 obtain ⟨h1, h2⟩ := isD_iff.1 h
 refine ⟨c.toNat - 48, by omega, by omega, ?_⟩
 unfold dg
 rw [show 48 + (c.toNat - 48) = c.toNat by omega, UInt8.ofNat_toNat]
theorem it3_inj {u v : Nat} (hu : u < 1000) (hv : v < 1000) (h : it3 u = it3 v) : u = v := by
 have h1 := atoi_all3 ⟨u, hu⟩
 have h2 := atoi_all3 ⟨v, hv⟩
 dsimp only at h1 h2
 rw [h, h2] at h1
 injection h1 with h1
 omega
set_option maxRecDepth 100000 in
theorem it3_no0 : ∀ u : Fin 200, 2 ≤ (it3 u.val).length → (it3 u.val).head? ≠ some (dg 0) := by decide +kernel
theorem it3_1 : ∀ i : Fin 10, it3 i.val = [dg i.val] := by decide +kernel
theorem it3_2 : ∀ i j : Fin 10, i.val ≠ 0 → it3 (10 * i.val + j.val) = [dg i.val, dg j.val] := by decide +kernel
set_option maxRecDepth 100000 in
theorem it3_3 : ∀ i j k : Fin 10, i.val ≠ 0 → it3 (10 * (10 * i.val + j.val) + k.val) = [dg i.val, dg j.val, dg k.val] := by decide +kernel
theorem it3_ne (u : Nat) : it3 u ≠ [] := by
 unfold it3
 split
 ·simp
 ·split <;> simp
theorem name_eq {T : ByteArray} (hT : T.size ≤ 200) {a : Nat} (ha : a ≤ T.size) : (∃ u : Nat, u < 200 ∧ ((bs T).drop a).takeWhile isD = it3 u ∧ spec_l4Name N0 (T, (a : Int)) = some ((u : Int), ((a + (it3 u).length : Nat) : Int), true)) ∨
  ((∀ u : Nat, u < 200 → ((bs T).drop a).takeWhile isD ≠ it3 u) ∧ spec_l4Name N0 (T, (a : Int)) = some ((0 : Int), (0 : Int), false)) := by
 have hl : ((bs T).drop a).length ≤ 200 := by rw [List.length_drop, bs_len]; omega
 have h := name_loop hT a _ a N0 0 rfl ha (Nat.le_refl _) (by omega) (by have := n0; omega) (by omega) (by rw [Nat.sub_self]; decide)
 rw [Nat.sub_self, Nat.sub_zero] at h
 unfold spec_l4Name
 dsimp only
 rw [h, Option.bind_some]
 dsimp only
 have hall : ∀ c ∈ ((bs T).drop a).takeWhile isD, isD c = true := fun c hc => by
  have := List.all_eq_true.1 (List.all_takeWhile (p := isD) (l := (bs T).drop a)) c hc
  exact this
 have hhead : ∀ c r, ((bs T).drop a).takeWhile isD = c :: r → ∃ r', (bs T).drop a = c :: r' := fun c r q => by
  cases hd : (bs T).drop a with
  | nil => rw [hd] at q; cases q
  | cons c' r' =>
   rw [hd] at q
   cases hc : isD c' with
   | false => rw [List.takeWhile_cons_of_neg (by rw [hc]; decide)] at q; cases q
   | true =>
    rw [List.takeWhile_cons_of_pos hc] at q
    injection q with q1 q2
    exact ⟨r', by rw [q1]⟩
 have hlen : (((bs T).drop a).takeWhile isD).length ≤ T.size - a := by
  have := (List.takeWhile_prefix (l := (bs T).drop a) isD).length_le
  rw [List.length_drop, bs_len] at this
  exact this
 generalize hD : ((bs T).drop a).takeWhile isD = D at h hall hhead hlen ⊢
 match D, hall, hhead, hlen with
 | [], _, _, _ =>
  refine .inr ⟨fun u _ q => it3_ne u q.symm, ?_⟩
  rw [show ((a + (([] : List UInt8).take 4).length : Nat) : Int) = (a : Int) from rfl, beq_self_eq_true, cond_true]
 | [c], hall, hhead, hlen =>
  obtain ⟨i, i1, i2, rfl⟩ := isD_dg (hall c (by simp))
  obtain ⟨r', hr⟩ := hhead _ _ rfl
  obtain ⟨b1, b2, _⟩ := drop_cons hr
  refine .inl ⟨i, by omega, (it3_1 ⟨i, i1⟩).symm, ?_⟩
  have e1 : (([dg i] : List UInt8).take 4).length = 1 := rfl
  have e2 : valD 0 (([dg i] : List UInt8).take 4) = (i : Int) := by show 10 * 0 + ((dg i).toNat : Int) - 48 = _; omega
  have e3 : IntKind.i64.wrap (((a + 1 : Nat) : Int) - (a : Int)) = 1 := by rw [wrap_ok (by omega) (by omega)]; omega
  rw [e1, e2, e3, show (((a + 1 : Nat) : Int) == (a : Int)) = false from by rw [beq_eq_false_iff_ne]; omega, cond_false, inb_nat b1, show (it3 i).length = 1 from by rw [it3_1 ⟨i, i1⟩]; rfl, decide_eq_false (by omega : ¬ (i : Int) ≥ 200)]
  cases (bt T (a : Int) == 48) <;> rfl
 | [c, d], hall, hhead, hlen =>
  obtain ⟨i, i1, i2, rfl⟩ := isD_dg (hall c (by simp))
  obtain ⟨j, j1, j2, rfl⟩ := isD_dg (hall d (by simp))
  obtain ⟨r', hr⟩ := hhead _ _ rfl
  obtain ⟨b1, b2, _⟩ := drop_cons hr
  have e1 : (([dg i, dg j] : List UInt8).take 4).length = 2 := rfl
  have e2 : valD 0 (([dg i, dg j] : List UInt8).take 4) = ((10 * i + j : Nat) : Int) := by show 10 * (10 * 0 + ((dg i).toNat : Int) - 48) + ((dg j).toNat : Int) - 48 = _; omega
  have e3 : IntKind.i64.wrap (((a + 2 : Nat) : Int) - (a : Int)) = 2 := by rw [wrap_ok (by omega) (by omega)]; omega
  rw [e1, e2, e3, show (((a + 2 : Nat) : Int) == (a : Int)) = false from by rw [beq_eq_false_iff_ne]; omega, cond_false, inb_nat b1, decide_eq_false (by omega : ¬ ((10 * i + j : Nat) : Int) ≥ 200)]
  by_cases h0 : i = 0
  ·subst h0
   refine .inr ⟨fun u hu q => it3_no0 ⟨u, hu⟩ (by rw [← q]; simp) (by rw [← q]; rfl), ?_⟩
   rw [show (bt T (a : Int) == 48) = true from by rw [beq_iff_eq, b2]; omega]; rfl
  ·have e := it3_2 ⟨i, i1⟩ ⟨j, j1⟩ h0
   dsimp only at e
   refine .inl ⟨10 * i + j, by omega, e.symm, ?_⟩
   rw [show (bt T (a : Int) == 48) = false from by rw [beq_eq_false_iff_ne, b2]; omega, e]; rfl
 | [c, d, e], hall, hhead, hlen =>
  obtain ⟨i, i1, i2, rfl⟩ := isD_dg (hall c (by simp))
  obtain ⟨j, j1, j2, rfl⟩ := isD_dg (hall d (by simp))
  obtain ⟨k, k1, k2, rfl⟩ := isD_dg (hall e (by simp))
  obtain ⟨r', hr⟩ := hhead _ _ rfl
  obtain ⟨b1, b2, _⟩ := drop_cons hr
  have e1 : (([dg i, dg j, dg k] : List UInt8).take 4).length = 3 := rfl
  have e2 : valD 0 (([dg i, dg j, dg k] : List UInt8).take 4) = ((10 * (10 * i + j) + k : Nat) : Int) := by show 10 * (10 * (10 * 0 + ((dg i).toNat : Int) - 48) + ((dg j).toNat : Int) - 48) + ((dg k).toNat : Int) - 48 = _; omega
  have e3 : IntKind.i64.wrap (((a + 3 : Nat) : Int) - (a : Int)) = 3 := by rw [wrap_ok (by omega) (by omega)]; omega
  rw [e1, e2, e3, show (((a + 3 : Nat) : Int) == (a : Int)) = false from by rw [beq_eq_false_iff_ne]; omega, cond_false, inb_nat b1]
  by_cases h0 : i = 0
  ·subst h0
   refine .inr ⟨fun u hu q => it3_no0 ⟨u, hu⟩ (by rw [← q]; simp) (by rw [← q]; rfl), ?_⟩
   rw [show (bt T (a : Int) == 48) = true from by rw [beq_iff_eq, b2]; omega]; rfl
  ·have e := it3_3 ⟨i, i1⟩ ⟨j, j1⟩ ⟨k, k1⟩ h0
   dsimp only at e
   by_cases h2 : 10 * (10 * i + j) + k < 200
   ·refine .inl ⟨10 * (10 * i + j) + k, h2, e.symm, ?_⟩
    rw [show (bt T (a : Int) == 48) = false from by rw [beq_eq_false_iff_ne, b2]; omega, e, decide_eq_false (by omega : ¬ ((10 * (10 * i + j) + k : Nat) : Int) ≥ 200)]; rfl
   ·refine .inr ⟨fun u hu q => ?_, ?_⟩
    ·rw [← e] at q
     have := it3_inj (by omega) (by omega) q
     omega
    ·rw [show (bt T (a : Int) == 48) = false from by rw [beq_eq_false_iff_ne, b2]; omega, decide_eq_true (by omega : ((10 * (10 * i + j) + k : Nat) : Int) ≥ 200)]; rfl
 | c :: d :: e :: f :: r, hall, hhead, hlen =>
  refine .inr ⟨fun u hu q => ?_, ?_⟩
  ·have := it3_len u
   rw [← q] at this
   simp at this
  ·have e1 : ((c :: d :: e :: f :: r).take 4).length = 4 := rfl
   simp only [List.length_cons] at hlen
   have e3 : IntKind.i64.wrap (((a + 4 : Nat) : Int) - (a : Int)) = 4 := by rw [wrap_ok (by omega) (by omega)]; omega
   rw [e1, e3, show (((a + 4 : Nat) : Int) == (a : Int)) = false from by rw [beq_eq_false_iff_ne]; omega]; rfl
theorem inb_app {a : Int} {n m : Nat} (h : inb a n = true) (hm : n ≤ m) : inb a m = true := by
 unfold inb at h ⊢
 simp at h ⊢
 omega
theorem inb_two {a : Int} {n : Nat} (h : inb a n = true) : 0 ≤ a ∧ a.toNat < n := by
 unfold inb at h
 simp at h
 omega
theorem getD_app {α : Type} {l x : List α} {i : Nat} (h : i < l.length) (d : α) : (l ++ x).getD i d = l.getD i d := by
 rw [List.getD_eq_getElem?_getD, List.getD_eq_getElem?_getD, List.getElem?_append_left h]
theorem dec2_grow {l1 x1 : List Piece} {l2 x2 : List SNode} : ∀ {k k' : Nat} {a b : Int} {P : Pat}, dec2 l1 l2 k a b = some P → k ≤ k' → dec2 (l1 ++ x1) (l2 ++ x2) k' a b = some P
 | 0, k', a, b, P, h, _ => by cases h
 | k + 1, 0, a, b, P, h, hk => by omega
 | k + 1, k' + 1, a, b, P, h, hk => by
  obtain ⟨h1, h2, hc⟩ := dec2_step h
  have g1 := (inb_two h1).2
  have g2 := (inb_two h2).2
  unfold dec2
  rw [inb_app h1 (by simp), inb_app h2 (by simp), Bool.and_true, cond_true, getD_app g1, getD_app g2]
  rcases hc with ⟨hps, hl⟩ | ⟨p, Q, hps, q1, q2⟩ | ⟨p, q, Q, R, hps, q1, q2, q3⟩
  ·rw [hps]; exact hl
  ·rw [hps]
   dsimp only
   rw [dec2_grow q1 (by omega), Option.bind_some]
   exact q2
  ·rw [hps]
   dsimp only
   rw [dec2_grow q1 (by omega), Option.bind_some, dec2_grow q2 (by omega), Option.bind_some]
   exact q3
theorem dec2_asks {l1 : List Piece} {l2 : List SNode} {k : Nat} {a b : Int} {P : Pat} (h : dec2 l1 l2 k a b = some P) : (l2.getD b.toNat zS).2.2.2 = P.asks := by
 match k, h with
 | 0, h => cases h
 | k + 1, h =>
  obtain ⟨h1, h2, hc⟩ := dec2_step h
  rcases hc with ⟨hps, hl⟩ | ⟨p, Q, hps, q1, q2⟩ | ⟨p, q, Q, R, hps, q1, q2, q3⟩
  ·rcases leaf2_cases hl with ⟨_, _, _, c4, rfl⟩ | ⟨_, _, _, _, c5, _, _, rfl⟩ | ⟨_, _, _, _, _, c6, _, _, rfl⟩
   ·exact c4
   ·exact c5
   ·exact c6
  ·obtain ⟨_, _, _, _, c7, rfl⟩ := one2_cases q2
   exact c7
  ·obtain ⟨_, c4, c5⟩ := two2_cases q3
   rcases c5 with ⟨_, _, rfl⟩ | ⟨_, _, _, rfl⟩
   ·exact c4
   ·exact c4
theorem dec2_inb {l1 : List Piece} {l2 : List SNode} {k : Nat} {a b : Int} {P : Pat} (h : dec2 l1 l2 k a b = some P) : inb a l1.length = true ∧ inb b l2.length = true := by
 match k, h with
 | 0, h => cases h
 | k + 1, h =>
  obtain ⟨h1, h2, _⟩ := dec2_step h
  exact ⟨h1, h2⟩
theorem last_at {α : Type} (l : List α) (x d : α) : (l ++ [x]).getD (((l ++ [x]).length : Int) - 1).toNat d = x ∧ inb (((l ++ [x]).length : Int) - 1) (l ++ [x]).length = true := by
 have e : (((l ++ [x]).length : Int) - 1).toNat = l.length := by rw [len_one]; omega
 have e2 : ((l ++ [x]).length : Int) - 1 = (l.length : Int) := by rw [len_one]; omega
 refine ⟨by rw [e]; exact get_pre l [] x d, ?_⟩
 rw [e2]
 exact inb_nat (by simp)
theorem dec2_leaf {l1 : List Piece} {l2 : List SNode} {s c : Int} {y : SNode} {P : Pat} (h : leaf2 (s, (c, [])) y = some P) : dec2 (l1 ++ [(s, (c, []))]) (l2 ++ [y]) 1 (((l1 ++ [(s, (c, []))]).length : Int) - 1) (((l2 ++ [y]).length : Int) - 1) = some P := by
 obtain ⟨a1, a2⟩ := last_at l1 (s, (c, [])) zP
 obtain ⟨b1, b2⟩ := last_at l2 y zS
 unfold dec2
 rw [a2, b2, a1, b1]
 exact h
theorem dec2_one {l1 : List Piece} {l2 : List SNode} {k : Nat} {s c p kd A B : Int} {P Q : Pat} {u : Bool} (h : dec2 l1 l2 k p A = some Q) (h2 : one2 (s, (c, [p])) (kd, (A, (B, u))) Q = some P) :
  dec2 (l1 ++ [(s, (c, [p]))]) (l2 ++ [(kd, (A, (B, u)))]) (k + 1) (((l1 ++ [(s, (c, [p]))]).length : Int) - 1) (((l2 ++ [(kd, (A, (B, u)))]).length : Int) - 1) = some P := by
 obtain ⟨a1, a2⟩ := last_at l1 (s, (c, [p])) zP
 obtain ⟨b1, b2⟩ := last_at l2 (kd, (A, (B, u))) zS
 unfold dec2
 rw [a2, b2, a1, b1]
 dsimp only
 rw [Bool.and_true, cond_true, dec2_grow h (Nat.le_refl _), Option.bind_some]
 exact h2
theorem dec2_two {l1 : List Piece} {l2 : List SNode} {k : Nat} {s c p q kd A B : Int} {P Q R : Pat} {u : Bool} (h : dec2 l1 l2 k p A = some Q) (h' : dec2 l1 l2 k q B = some R) (h2 : two2 (s, (c, [p, q])) (kd, (A, (B, u))) Q R = some P) :
  dec2 (l1 ++ [(s, (c, [p, q]))]) (l2 ++ [(kd, (A, (B, u)))]) (k + 1) (((l1 ++ [(s, (c, [p, q]))]).length : Int) - 1) (((l2 ++ [(kd, (A, (B, u)))]).length : Int) - 1) = some P := by
 obtain ⟨a1, a2⟩ := last_at l1 (s, (c, [p, q])) zP
 obtain ⟨b1, b2⟩ := last_at l2 (kd, (A, (B, u))) zS
 unfold dec2
 rw [a2, b2, a1, b1]
 dsimp only
 rw [Bool.and_true, cond_true, dec2_grow h (Nat.le_refl _), Option.bind_some, dec2_grow h' (Nat.le_refl _), Option.bind_some]
 exact h2
theorem one_loop {S : ByteArray} (hS : S.size ≤ 200) (b : Int) : ∀ (l : List UInt8) (a m : Nat), (bs S).drop a = l → a ≤ S.size → l.length < m → impl_isOneOf_L2 N0 m (b, S, (a : Int)) = some (bif l.any (fun c => (c.toNat : Int) == b) then Sum.inl true else Sum.inr ())
 | l, a, 0, h, _, hm => by omega
 | [], a, m + 1, h, ha, hm => by
  have h1 := drop_nil h
  rw [impl_isOneOf_L2]; dsimp only
  rw [decide_eq_false (by omega : ¬ (a : Int) < (S.size : Int)), cond_false]; rfl
 | c :: r, a, m + 1, h, ha, hm => by
  obtain ⟨h1, h2, h3⟩ := drop_cons h
  rw [impl_isOneOf_L2]; dsimp only
  have w : IntKind.i64.wrap ((a : Int) + 1) = ((a + 1 : Nat) : Int) := by rw [wrap_ok (by omega) (by omega)]; omega
  rw [decide_eq_true (by omega : (a : Int) < (S.size : Int)), cond_true, inb_nat h1, cond_true, h2, w, one_loop hS b r (a + 1) m h3 (by omega) (by simp at hm; omega), List.any_cons]
  cases ((c.toNat : Int) == b) <;> rfl
theorem isOne_eq {S : ByteArray} (hS : S.size ≤ 200) (b : Int) : impl_isOneOf N0 (b, S) = some ((bs S).any (fun c => (c.toNat : Int) == b)) := by
 have h := one_loop hS b (bs S) 0 N0 rfl (Nat.zero_le _) (by rw [bs_len]; have := n0; omega)
 unfold impl_isOneOf
 dsimp only
 rw [show ((0 : Nat) : Int) = (0 : Int) from rfl] at h
 rw [h, Option.bind_some]
 cases (bs S).any (fun c => (c.toNat : Int) == b) <;> rfl
theorem put_eq {l1 : List Piece} (h : l1.length ≤ 4294967295) (s c : Int) (ps : List Int) : impl_pattern_put N0 (l1, s, c, ps) = some (l1 ++ [(s, (c, ps))], (((l1 ++ [(s, (c, ps))]).length : Int) - 1)) := by
 have hr : room (l1.length + [(s, (c, ps))].length) = true := by
  unfold room
  rw [List.length_singleton]
  simp
  omega
 unfold impl_pattern_put impl_pattern_put_R1
 dsimp only
 rw [hr, cond_true, Option.bind_some]
 rw [wrap_ok (by omega) (by rw [len_one]; omega)]
theorem take_cons {T : ByteArray} (hT : T.size ≤ 200) {a : Nat} {c : UInt8} {r : List UInt8} (h : (bs T).drop a = c :: r) (M : ByteArray) (e : Int) : impl_reader_take N0 (T, (a : Int), (0 : Int), M, e) = bif (c.toNat : Int) == e then some (T, ((a + 1 : Nat) : Int), (0 : Int), M) else some (T, (a : Int), (3 : Int), M) := by
 obtain ⟨h1, h2, h3⟩ := drop_cons h
 have w : IntKind.i64.wrap ((a : Int) + 1) = ((a + 1 : Nat) : Int) := by rw [wrap_ok (by omega) (by omega)]; omega
 unfold impl_reader_take
 dsimp only
 rw [show ((0 : Int) != 0) = false from rfl, cond_false, decide_eq_false (by omega : ¬ (a : Int) ≥ (T.size : Int)), cond_false, inb_nat h1, cond_true, h2, w]
 rw [show ((c.toNat : Int) != e) = !((c.toNat : Int) == e) from rfl]
 cases ((c.toNat : Int) == e) <;> rfl
theorem take_nil {T : ByteArray} {a : Nat} (h : (bs T).drop a = []) (M : ByteArray) (e : Int) : impl_reader_take N0 (T, (a : Int), (0 : Int), M, e) = some (T, (T.size : Int), (2 : Int), M) := by
 have h1 := drop_nil h
 unfold impl_reader_take
 dsimp only
 rw [show ((0 : Int) != 0) = false from rfl, cond_false, decide_eq_true (by omega : (a : Int) ≥ (T.size : Int)), cond_true]; rfl
theorem take_bad {T : ByteArray} {a k : Int} (h : k ≠ 0) (M : ByteArray) (e : Int) : impl_reader_take N0 (T, a, k, M, e) = some (T, a, k, M) := by
 unfold impl_reader_take
 dsimp only
 rw [show (k != 0) = true from by rw [bne_iff_ne]; exact h, cond_true]
theorem want_cons {T : ByteArray} (hT : T.size ≤ 200) {a : Nat} {c : UInt8} {r : List UInt8} (h : (bs T).drop a = c :: r) (e : Int) : spec_l4Want N0 (T, (a : Int), e) = bif (c.toNat : Int) == e then some (((a + 1 : Nat) : Int), (0 : Int)) else some ((a : Int), (3 : Int)) := by
 obtain ⟨h1, h2, h3⟩ := drop_cons h
 have w : IntKind.i64.wrap ((a : Int) + 1) = ((a + 1 : Nat) : Int) := by rw [wrap_ok (by omega) (by omega)]; omega
 unfold spec_l4Want
 dsimp only
 rw [decide_eq_false (by omega : ¬ (a : Int) ≥ (T.size : Int)), cond_false, inb_nat h1, cond_true, h2, w]
 rw [show ((c.toNat : Int) != e) = !((c.toNat : Int) == e) from rfl]
 cases ((c.toNat : Int) == e) <;> rfl
theorem want_nil {T : ByteArray} {a : Nat} (h : (bs T).drop a = []) (e : Int) : spec_l4Want N0 (T, (a : Int), e) = some ((T.size : Int), (2 : Int)) := by
 have h1 := drop_nil h
 unfold spec_l4Want
 dsimp only
 rw [decide_eq_true (by omega : (a : Int) ≥ (T.size : Int)), cond_true]
theorem want_both {T : ByteArray} (hT : T.size ≤ 200) {a : Nat} (ha : a ≤ T.size) (e : Int) : (impl_reader_take N0 (T, (a : Int), (0 : Int), MS, e) = some (T, ((a + 1 : Nat) : Int), (0 : Int), MS) ∧ spec_l4Want N0 (T, (a : Int), e) = some (((a + 1 : Nat) : Int), (0 : Int)) ∧ a + 1 ≤ T.size ∧ bt T (a : Int) = e) ∨
  (∃ a2 k b2 k2, impl_reader_take N0 (T, (a : Int), (0 : Int), MS, e) = some (T, a2, k, MS) ∧ k ≠ 0 ∧ spec_l4Want N0 (T, (a : Int), e) = some (b2, k2) ∧ k2 ≠ 0) := by
 cases hd : (bs T).drop a with
 | nil => exact .inr ⟨_, _, _, _, take_nil hd MS e, by decide, want_nil hd e, by decide⟩
 | cons c r =>
  have h1 := take_cons hT hd MS e
  have h2 := want_cons hT hd e
  cases hc : ((c.toNat : Int) == e) with
  | true =>
   rw [hc] at h1 h2
   exact .inl ⟨h1, h2, (drop_cons hd).1, (drop_cons hd).2.1.trans (by simpa using hc)⟩
  | false =>
   rw [hc] at h1 h2
   exact .inr ⟨_, _, _, _, h1, by decide, h2, by decide⟩
abbrev RdO := ByteArray × Int × Int × ByteArray × Bool × Bool × Bool × List Piece × Int
abbrev PsO := List SNode × Int × Int × Bool
def Pat.lets : Pat → List Int
 | .ask i => [i]
 | .un _ p => p.lets
 | .bin _ p q => p.lets ++ q.lets
 | .exp p q => p.lets ++ q.lets
 | _ => []
def letsP (l : List Piece) : List Int := l.flatMap fun x => bif x.1 == 63 then [x.2.1] else []
def letsS (l : List SNode) : List Int := l.flatMap fun y => bif y.1 == 9 && y.2.2.2 then [y.2.1] else []
theorem letsP_app (a b : List Piece) : letsP (a ++ b) = letsP a ++ letsP b := List.flatMap_append
theorem letsS_app (a b : List SNode) : letsS (a ++ b) = letsS a ++ letsS b := List.flatMap_append
theorem letsP_one (x : Piece) : letsP [x] = bif x.1 == 63 then [x.2.1] else [] := by show _ ++ [] = _; rw [List.append_nil]
theorem letsS_one (y : SNode) : letsS [y] = bif y.1 == 9 && y.2.2.2 then [y.2.1] else [] := by show _ ++ [] = _; rw [List.append_nil]
theorem leaf2_lets {x : Piece} {y : SNode} {P : Pat} (h : leaf2 x y = some P) : letsP [x] = P.lets ∧ letsS [y] = P.lets := by
 rw [letsP_one, letsS_one]
 rcases leaf2_cases h with ⟨c1, c2, _, c4, rfl⟩ | ⟨_, c2, c3, _, c5, _, _, rfl⟩ | ⟨_, _, c3, c4, c5, c6, _, _, rfl⟩
 ·rw [beq_iff_eq] at c1
  rw [c1, c2]; exact ⟨rfl, rfl⟩
 ·rw [beq_iff_eq] at c2
  rw [c2, c3, c5]; exact ⟨rfl, rfl⟩
 ·rw [c3, c4, c5, c6]; exact ⟨rfl, rfl⟩
theorem one2_lets {x : Piece} {y : SNode} {P Q : Pat} (h : one2 x y Q = some P) : letsP [x] = [] ∧ letsS [y] = [] ∧ P.lets = Q.lets := by
 rw [letsP_one, letsS_one]
 obtain ⟨⟨_, _, c3⟩, _, _, c4, _, rfl⟩ := one2_cases h
 rw [c3, show (y.1 == 9) = false from by rw [beq_eq_false_iff_ne]; omega]
 exact ⟨rfl, rfl, rfl⟩
theorem two2_lets {x : Piece} {y : SNode} {P Q R : Pat} (h : two2 x y Q R = some P) : letsP [x] = [] ∧ letsS [y] = [] ∧ P.lets = Q.lets ++ R.lets := by
 rw [letsP_one, letsS_one]
 obtain ⟨⟨_, _, c3⟩, _, c⟩ := two2_cases h
 rw [c3]
 rcases c with ⟨_, c4, rfl⟩ | ⟨_, _, c4, rfl⟩
 ·rw [c4]; exact ⟨rfl, rfl, rfl⟩
 ·rw [show (y.1 == 9) = false from by rw [beq_eq_false_iff_ne]; omega]
  exact ⟨rfl, rfl, rfl⟩
def askAt (T : ByteArray) (i : Nat) : List Int := bif bt T (i : Int) == 63 then [bt T ((i : Int) + 1) - 97] else []
def scan (T : ByteArray) (a b : Nat) : List Int := (List.range' a (b - a)).flatMap (askAt T)
theorem scan_self (T : ByteArray) (a : Nat) : scan T a a = [] := by unfold scan; rw [Nat.sub_self]; rfl
theorem scan_app {T : ByteArray} {a b c : Nat} (h1 : a ≤ b) (h2 : b ≤ c) : scan T a c = scan T a b ++ scan T b c := by
 unfold scan
 rw [← List.flatMap_append]
 congr 1
 have := List.range'_append (s := a) (m := b - a) (n := c - b) (step := 1)
 rw [show a + 1 * (b - a) = b by omega, show b - a + (c - b) = c - a by omega] at this
 exact this.symm
theorem scan_one (T : ByteArray) (a : Nat) : scan T a (a + 1) = askAt T a := by
 unfold scan
 rw [show a + 1 - a = 1 by omega]
 show askAt T a ++ [] = _
 rw [List.append_nil]
theorem scan_no {T : ByteArray} {a : Nat} (h : bt T (a : Int) ≠ 63) : scan T a (a + 1) = [] := by
 rw [scan_one]
 unfold askAt
 rw [show (bt T (a : Int) == 63) = false from by rw [beq_eq_false_iff_ne]; exact h]; rfl
theorem scan_skip {T : ByteArray} {a b : Nat} (h : bt T (a : Int) ≠ 63) (hb : a + 1 ≤ b) : scan T a b = scan T (a + 1) b := by
 rw [scan_app (Nat.le_succ a) hb, scan_no h, List.nil_append]
theorem scan_back {T : ByteArray} {a b : Nat} (h : bt T (b : Int) ≠ 63) (hb : a ≤ b) : scan T a (b + 1) = scan T a b := by
 rw [scan_app hb (Nat.le_succ b), scan_no h, List.append_nil]
theorem tw_all {p : UInt8 → Bool} : ∀ {l : List UInt8} {c : UInt8}, c ∈ l.takeWhile p → p c = true
 | [], c, h => by cases h
 | d :: l, c, h => by
  rw [List.takeWhile_cons] at h
  cases q : p d with
  | false => rw [q] at h; cases h
  | true =>
   rw [q] at h
   rcases List.mem_cons.1 h with e | e
   ·rw [e]; exact q
   ·exact tw_all e
theorem isD_ne {c : UInt8} (h : isD c = true) : (c.toNat : Int) ≠ 63 := by
 intro q
 have : c = 63 := UInt8.toNat_inj.1 (by show c.toNat = 63; omega)
 rw [this] at h; cases h
theorem scan_digits {T : ByteArray} : ∀ (u : List UInt8) (a : Nat), ((bs T).drop a).take u.length = u → (∀ c ∈ u, isD c = true) → scan T a (a + u.length) = []
 | [], a, _, _ => scan_self T a
 | c :: u, a, h, hd => by
  cases hq : (bs T).drop a with
  | nil => rw [hq] at h; cases h
  | cons d r =>
   rw [hq] at h
   have h : d :: r.take u.length = c :: u := h
   injection h with h1 h2
   subst h1
   obtain ⟨_, g2, g3⟩ := drop_cons hq
   rw [List.length_cons, show a + (u.length + 1) = (a + 1) + u.length by omega, scan_skip (by rw [g2]; exact isD_ne (hd _ (.head _))) (by omega)]
   exact scan_digits u (a + 1) (by rw [g3]; exact h2) (fun c hc => hd c (.tail _ hc))
def Both (T : ByteArray) (a : Nat) (l1 : List Piece) (l2 : List SNode) (ri : Option RdO) (rs : Option PsO) : Prop :=
 (∃ (a' : Nat) (l1' : List Piece) (l2' : List SNode) (k : Nat) (P : Pat), ri = some (T, (a' : Int), (0 : Int), MS, false, false, false, l1', (l1'.length : Int) - 1) ∧ rs = some (l2', (l2'.length : Int) - 1, (a' : Int), true) ∧ a < a' ∧ a' ≤ T.size ∧ l1'.length = l2'.length ∧ l1'.length + a ≤ l1.length + a' ∧
  (∃ x, l1' = l1 ++ x ∧ letsP x = P.lets ∧ scan T a a' = P.lets) ∧ (∃ y, l2' = l2 ++ y ∧ letsS y = P.lets) ∧ k + a ≤ a' ∧ dec2 l1' l2' k ((l1'.length : Int) - 1) ((l2'.length : Int) - 1) = some P) ∨
 (∃ a2 c l1' v l2', ri = some (T, a2, c, MS, false, false, false, l1', v) ∧ c ≠ 0 ∧ rs = some (l2', (0 : Int), (0 : Int), false))
theorem read_bad {T : ByteArray} {a c : Int} (hc : c ≠ 0) (l1 : List Piece) {j : Nat} (hj : 0 < j) : impl_reader_read N0 j (T, a, c, MS, false, false, false, l1) = some (T, a, c, MS, false, false, false, l1, (-1 : Int)) := by
 obtain ⟨i, rfl⟩ : ∃ i, j = i + 1 := ⟨j - 1, by omega⟩
 show impl_reader_read_body N0 (impl_reader_read N0 i) (T, a, c, MS, false, false, false, l1) = _
 unfold impl_reader_read_body
 dsimp only
 rw [show (c != 0) = true from by rw [bne_iff_ne]; exact hc, cond_true]
theorem two_bad {T : ByteArray} {a c : Int} (hc : c ≠ 0) (l1 : List Piece) {j : Nat} (hj : 0 < j) (e : Int) : impl_reader_two N0 (impl_reader_read N0 j) (T, a, c, MS, false, false, e, false, l1) = some (T, a, c, MS, false, false, false, l1, [(-1 : Int), (-1 : Int)]) := by
 unfold impl_reader_two
 dsimp only
 simp only [read_bad hc l1 hj, take_bad hc, Option.bind_some]
theorem read_two {T : ByteArray} (hT : T.size ≤ 200) {j1 j2 : Nat} (hj : 0 < j1) {n : Nat} (ih : ∀ (a : Nat) (l1 : List Piece) (l2 : List SNode), T.size - a ≤ n → a ≤ T.size → l1.length = l2.length → l1.length ≤ a → Both T a l1 l2 (impl_reader_read N0 j1 (T, (a : Int), (0 : Int), MS, false, false, false, l1)) (spec_l11Parse N0 j2 (T, (a : Int), l2)))
  (e : Int) (he : e ≠ 63) {a : Nat} {l1 : List Piece} {l2 : List SNode} (hn : T.size - a ≤ n) (ha : a ≤ T.size) (hl : l1.length = l2.length) (hb : l1.length ≤ a) :
  (∃ (a' : Nat) (l1' : List Piece) (l2' : List SNode) (k : Nat) (P Q : Pat) (p q A B : Int), impl_reader_two N0 (impl_reader_read N0 j1) (T, (a : Int), (0 : Int), MS, false, false, e, false, l1) = some (T, (a' : Int), (0 : Int), MS, false, false, false, l1', [p, q]) ∧ spec_l11Two N0 (spec_l11Parse N0 j2) (T, (a : Int), false, e, l2) = some (l2', A, B, (a' : Int), true) ∧
   a < a' ∧ a' ≤ T.size ∧ l1'.length = l2'.length ∧ l1'.length + a < l1.length + a' ∧ (∃ x, l1' = l1 ++ x ∧ letsP x = P.lets ++ Q.lets ∧ scan T a a' = P.lets ++ Q.lets) ∧ (∃ y, l2' = l2 ++ y ∧ letsS y = P.lets ++ Q.lets) ∧ k + a < a' ∧ dec2 l1' l2' k p A = some P ∧ dec2 l1' l2' k q B = some Q) ∨
  (∃ a2 c l1' ps l2' A B d, impl_reader_two N0 (impl_reader_read N0 j1) (T, (a : Int), (0 : Int), MS, false, false, e, false, l1) = some (T, a2, c, MS, false, false, false, l1', ps) ∧ c ≠ 0 ∧ spec_l11Two N0 (spec_l11Parse N0 j2) (T, (a : Int), false, e, l2) = some (l2', A, B, d, false)) := by
 have z0 : ((0 : Int) != 0) = false := rfl
 unfold impl_reader_two spec_l11Two
 dsimp only
 rw [z0]
 simp only [cond_false]
 rcases ih a l1 l2 hn ha hl hb with ⟨b, m1, m2, k, P, r1, r2, r3, r4, r5, r6, ⟨x, r7, r7', rs⟩, ⟨y, r8, r8'⟩, r9, r10⟩ | ⟨a2, c, m1, v, m2, r1, r2, r3⟩
 ·rw [r1, r2]
  simp only [Option.bind_some, Bool.not_true, cond_false]
  rcases want_both hT r4 44 with ⟨t1, t2, t3, t5⟩ | ⟨a2, c, b2, c2, t1, t2, t3, t4⟩
  ·rw [t1, t2]
   simp only [Option.bind_some, z0, cond_false]
   rcases ih (b + 1) m1 m2 (by omega) t3 r5 (by omega) with ⟨b', n1, n2, k', Q, s1, s2, s3, s4, s5, s6, ⟨x', s7, s7', ss⟩, ⟨y', s8, s8'⟩, s9, s10⟩ | ⟨a2, c, n1, v, n2, s1, s2, s3⟩
   ·rw [s1, s2]
    simp only [Option.bind_some, Bool.not_true, cond_false]
    have g1 : dec2 n1 n2 (max k k') ((m1.length : Int) - 1) ((m2.length : Int) - 1) = some P := by
     rw [s7, s8]; exact dec2_grow r10 (Nat.le_max_left ..)
    have g2 : dec2 n1 n2 (max k k') ((n1.length : Int) - 1) ((n2.length : Int) - 1) = some Q := by
     have := dec2_grow (x1 := []) (x2 := []) s10 (Nat.le_max_right k k')
     rw [List.append_nil, List.append_nil] at this
     exact this
    have hk : max k k' + a < b' + 1 := by omega
    rcases want_both hT s4 e with ⟨u1, u2, u3, u5⟩ | ⟨a2, c, b2, c2, u1, u2, u3, u4⟩
    ·rw [u1, u2]
     exact .inl ⟨b' + 1, n1, n2, max k k', P, Q, _, _, _, _, rfl, rfl, by omega, u3, s5, by omega, ⟨x ++ x', by rw [s7, r7, List.append_assoc], by rw [letsP_app, r7', s7'], by rw [scan_back (by rw [u5]; exact he) (by omega), scan_app (b := b) (by omega) (by omega), rs, scan_skip (by rw [t5]; decide) (by omega), ss]⟩, ⟨y ++ y', by rw [s8, r8, List.append_assoc], by rw [letsS_app, r8', s8']⟩, by omega, g1, g2⟩
    ·rw [u1, u3]
     simp only [Option.bind_some, show (c2 == 0) = false from by rw [beq_eq_false_iff_ne]; exact u4]
     exact .inr ⟨_, _, _, _, _, _, _, _, rfl, u2, rfl⟩
   ·rw [s1, s3]
    simp only [Option.bind_some, take_bad s2, Bool.not_false, cond_true]
    exact .inr ⟨_, _, _, _, _, _, _, _, rfl, s2, rfl⟩
  ·rw [t1, t3]
   simp only [Option.bind_some, show (c2 != 0) = true from by rw [bne_iff_ne]; exact t4, cond_true, read_bad t2 m1 hj, take_bad t2]
   exact .inr ⟨_, _, _, _, _, _, _, _, rfl, t2, rfl⟩
 ·rw [r1, r3]
  simp only [Option.bind_some, take_bad r2, read_bad r2 m1 hj, Bool.not_false, cond_true]
  exact .inr ⟨_, _, _, _, _, _, _, _, rfl, r2, rfl⟩
theorem two_open {T : ByteArray} {a b e : Int} {l2 : List SNode} {rec_ : ByteArray × Int × List SNode → Option PsO} (h : spec_l4Want N0 (T, a, 40) = some (b, 0)) : spec_l11Two N0 rec_ (T, a, true, e, l2) = spec_l11Two N0 rec_ (T, b, false, e, l2) := by
 unfold spec_l11Two
 dsimp only
 rw [h]
 rfl
theorem two_shut {T : ByteArray} {a b e c : Int} {l2 : List SNode} {rec_ : ByteArray × Int × List SNode → Option PsO} (h : spec_l4Want N0 (T, a, 40) = some (b, c)) (hc : c ≠ 0) : spec_l11Two N0 rec_ (T, a, true, e, l2) = some (l2, 0, 0, 0, false) := by
 unfold spec_l11Two
 dsimp only
 rw [h, Option.bind_some]
 dsimp only
 rw [show (c != 0) = true from by rw [bne_iff_ne]; exact hc]
 rfl
theorem one1 (b : Int) : impl_isOneOf N0 (b, (⟨#[64, 36, 63]⟩ : ByteArray)) = some ((64 == b) || ((36 == b) || (63 == b))) := by
 rw [isOne_eq (by decide)]
 show some ((64 == b) || ((36 == b) || ((63 == b) || false))) = _
 rw [Bool.or_false]
theorem one2' (b : Int) : impl_isOneOf N0 (b, (⟨#[40, 123, 91]⟩ : ByteArray)) = some ((40 == b) || ((123 == b) || (91 == b))) := by
 rw [isOne_eq (by decide)]
 show some ((40 == b) || ((123 == b) || ((91 == b) || false))) = _
 rw [Bool.or_false]
theorem one3 (b : Int) : impl_isOneOf N0 (b, (⟨#[35, 94]⟩ : ByteArray)) = some ((35 == b) || (94 == b)) := by
 rw [isOne_eq (by decide)]
 show some ((35 == b) || ((94 == b) || false)) = _
 rw [Bool.or_false]
theorem one4 (b : Int) : impl_isOneOf N0 (b, (⟨#[60, 62, 33]⟩ : ByteArray)) = some ((60 == b) || ((62 == b) || (33 == b))) := by
 rw [isOne_eq (by decide)]
 show some ((60 == b) || ((62 == b) || ((33 == b) || false))) = _
 rw [Bool.or_false]
theorem one5 (b : Int) : impl_isOneOf N0 (b, (⟨#[107, 42]⟩ : ByteArray)) = some ((107 == b) || (42 == b)) := by
 rw [isOne_eq (by decide)]
 show some ((107 == b) || ((42 == b) || false)) = _
 rw [Bool.or_false]
theorem one6 (b : Int) : impl_isOneOf N0 (b, (⟨#[111, 120]⟩ : ByteArray)) = some ((111 == b) || (120 == b)) := by
 rw [isOne_eq (by decide)]
 show some ((111 == b) || ((120 == b) || false)) = _
 rw [Bool.or_false]
theorem one7 (b : Int) : impl_isOneOf N0 (b, MS) = some ((36 == b) || ((63 == b) || (120 == b))) := by
 rw [isOne_eq (by decide)]
 show some ((36 == b) || ((63 == b) || ((120 == b) || false))) = _
 rw [Bool.or_false]
theorem room_node {l2 : List SNode} (h : l2.length ≤ 4294967295) (y : SNode) : room (l2.length + [y].length) = true := by
 unfold room
 rw [List.length_singleton]
 simp
 omega
theorem idx_last {α : Type} (l : List α) (x : α) : (((l ++ [x]).length : Int) - 1) = (l.length : Int) := by rw [len_one]; omega
theorem Both.leaf {T : ByteArray} {a a' : Nat} {l1 : List Piece} {l2 : List SNode} {s c : Int} {y : SNode} {P : Pat} (h1 : a < a') (h2 : a' ≤ T.size) (hl : l1.length = l2.length) (hb : l1.length ≤ a) (hp : leaf2 (s, (c, [])) y = some P) (hsc : scan T a a' = P.lets) :
  Both T a l1 l2 (some (T, (a' : Int), (0 : Int), MS, false, false, false, l1 ++ [(s, (c, []))], ((l1 ++ [(s, (c, []))]).length : Int) - 1)) (some (l2 ++ [y], (l2.length : Int), (a' : Int), true)) :=
 .inl ⟨a', _, _, 1, P, rfl, by rw [show (((l2 ++ [y]).length : Int) - 1) = (l2.length : Int) from by rw [len_one]; omega], h1, h2, by simp; omega, by simp; omega, ⟨_, rfl, (leaf2_lets hp).1, hsc⟩, ⟨_, rfl, (leaf2_lets hp).2⟩, by omega, dec2_leaf hp⟩
theorem Both.one {T : ByteArray} {a b : Nat} {l1 m1 : List Piece} {l2 m2 : List SNode} {s kd : Int} {k : Nat} {P Q : Pat} (h1 : a < b) (h2 : b ≤ T.size) (hl : m1.length = m2.length) (hb : m1.length + a < l1.length + b) {f : Nat} (hf : a ≤ f) (hfb : f ≤ b) (hsc : scan T a f = []) (g1 : ∃ x, m1 = l1 ++ x ∧ letsP x = Q.lets ∧ scan T f b = Q.lets) (g2 : ∃ y, m2 = l2 ++ y ∧ letsS y = Q.lets) (hk : k + a < b)
  (hd : dec2 m1 m2 k ((m1.length : Int) - 1) ((m2.length : Int) - 1) = some Q) (hp : one2 (s, (0, [(m1.length : Int) - 1])) (kd, ((m2.length : Int) - 1, (0, Q.asks))) Q = some P) :
  Both T a l1 l2 (some (T, (b : Int), (0 : Int), MS, false, false, false, m1 ++ [(s, (0, [(m1.length : Int) - 1]))], ((m1 ++ [(s, (0, [(m1.length : Int) - 1]))]).length : Int) - 1)) (some (m2 ++ [(kd, ((m2.length : Int) - 1, (0, Q.asks)))], (m2.length : Int), (b : Int), true)) := by
 obtain ⟨x, rfl, gx, gs⟩ := g1
 obtain ⟨y, rfl, gy⟩ := g2
 obtain ⟨e1, e2, e3⟩ := one2_lets hp
 exact .inl ⟨b, _, _, k + 1, P, rfl, by rw [idx_last], h1, h2, by simp at hl ⊢; omega, by rw [List.length_append, List.length_singleton]; omega, ⟨_, List.append_assoc .., by rw [letsP_app, gx, e1, e3, List.append_nil], by rw [scan_app hf hfb, hsc, gs, e3, List.nil_append]⟩, ⟨_, List.append_assoc .., by rw [letsS_app, gy, e2, e3, List.append_nil]⟩, by omega, dec2_one hd hp⟩
theorem Both.two {T : ByteArray} {a b : Nat} {l1 m1 : List Piece} {l2 m2 : List SNode} {s kd p q A B : Int} {k : Nat} {u : Bool} {P Q R : Pat} (h1 : a < b) (h2 : b ≤ T.size) (hl : m1.length = m2.length) (hb : m1.length + a < l1.length + b) {f : Nat} (hf : a ≤ f) (hfb : f ≤ b) (hsc : scan T a f = []) (g1 : ∃ x, m1 = l1 ++ x ∧ letsP x = Q.lets ++ R.lets ∧ scan T f b = Q.lets ++ R.lets) (g2 : ∃ y, m2 = l2 ++ y ∧ letsS y = Q.lets ++ R.lets) (hk : k + a < b)
  (hd : dec2 m1 m2 k p A = some Q) (hd' : dec2 m1 m2 k q B = some R) (hp : two2 (s, (0, [p, q])) (kd, (A, (B, u))) Q R = some P) :
  Both T a l1 l2 (some (T, (b : Int), (0 : Int), MS, false, false, false, m1 ++ [(s, (0, [p, q]))], ((m1 ++ [(s, (0, [p, q]))]).length : Int) - 1)) (some (m2 ++ [(kd, (A, (B, u)))], (m2.length : Int), (b : Int), true)) := by
 obtain ⟨x, rfl, gx, gs⟩ := g1
 obtain ⟨y, rfl, gy⟩ := g2
 obtain ⟨e1, e2, e3⟩ := two2_lets hp
 exact .inl ⟨b, _, _, k + 1, P, rfl, by rw [idx_last], h1, h2, by simp at hl ⊢; omega, by rw [List.length_append, List.length_singleton]; omega, ⟨_, List.append_assoc .., by rw [letsP_app, gx, e1, e3, List.append_nil], by rw [scan_app hf hfb, hsc, gs, e3, List.nil_append]⟩, ⟨_, List.append_assoc .., by rw [letsS_app, gy, e2, e3, List.append_nil]⟩, by omega, dec2_two hd hd' hp⟩
theorem read_nil {T : ByteArray} {a : Nat} (h : (bs T).drop a = []) (l1 : List Piece) (l2 : List SNode) {j1 j2 : Nat} (h1 : 0 < j1) (h2 : 0 < j2) : Both T a l1 l2 (impl_reader_read N0 j1 (T, (a : Int), (0 : Int), MS, false, false, false, l1)) (spec_l11Parse N0 j2 (T, (a : Int), l2)) := by
 obtain ⟨i1, rfl⟩ : ∃ i, j1 = i + 1 := ⟨j1 - 1, by omega⟩
 obtain ⟨i2, rfl⟩ : ∃ i, j2 = i + 1 := ⟨j2 - 1, by omega⟩
 have hs := drop_nil h
 have hd : decide ((a : Int) ≥ (T.size : Int)) = true := decide_eq_true (by omega)
 refine .inr ⟨(T.size : Int), 2, l1, -1, l2, ?_, by decide, ?_⟩
 ·show impl_reader_read_body N0 (impl_reader_read N0 i1) _ = _
  unfold impl_reader_read_body
  dsimp only
  rw [show ((0 : Int) != 0) = false from rfl, cond_false, peek_nil h, Option.bind_some]
  dsimp only
  rw [hd, cond_true]; rfl
 ·show spec_l11Parse_body N0 (spec_l11Parse N0 i2) _ = _
  unfold spec_l11Parse_body
  dsimp only
  rw [hd, cond_true]
section
variable {T : ByteArray} {a : Nat} {c : UInt8} {r : List UInt8} {l1 : List Piece} {l2 : List SNode} {i1 i2 n : Nat}
theorem read_110 (hT : T.size ≤ 200) (hd : (bs T).drop a = c :: r) (hv : (c.toNat : Int) = 110) (hl : l1.length = l2.length) (hb : l1.length ≤ a) : Both T a l1 l2 (impl_reader_read N0 (i1 + 1) (T, (a : Int), (0 : Int), MS, false, false, false, l1)) (spec_l11Parse N0 (i2 + 1) (T, (a : Int), l2)) := by
 obtain ⟨h1, h2, h3⟩ := drop_cons hd
 have z0 : ((0 : Int) != 0) = false := rfl
 have hz : decide ((a : Int) ≥ (T.size : Int)) = false := decide_eq_false (by omega)
 have hin := inb_nat h1
 have w1 : IntKind.i64.wrap ((a : Int) + 1) = ((a + 1 : Nat) : Int) := by rw [wrap_ok (by omega) (by omega)]; omega
 have hl2 : l2.length ≤ 4294967295 := by omega
 rw [hv] at h2
 have pk := peek_cons hd 0 MS
 rw [hv] at pk
 show Both T a l1 l2 (impl_reader_read_body N0 (impl_reader_read N0 i1) (T, (a : Int), (0 : Int), MS, false, false, false, l1)) (spec_l11Parse_body N0 (spec_l11Parse N0 i2) (T, (a : Int), l2))
 unfold impl_reader_read_body spec_l11Parse_body
 have hP : spec_l11Parts N0 = fun x => spec_l11Parts N0 x := rfl
 simp only [z0, hz, pk, h2, hin, w1, one1, one2', one3, one4, one5, one6, one7, Option.bind_some, Int.reduceBEq, Int.reduceBNe, Bool.or_true, Bool.or_false, Bool.true_or, Bool.false_or, Bool.or_self, cond_true, cond_false, impl_patternOf_1]
 rcases number_eq hT (a := a + 1) h1 MS (a : Int) with ⟨u, u1, u2, u3⟩ | ⟨u1, a2, v, u3⟩
 ·rcases name_eq hT (a := a + 1) h1 with ⟨u', v1, v2, v3⟩ | ⟨v1, v3⟩
  ·obtain rfl : u = u' := it3_inj (by omega) (by omega) (u2.symm.trans v2)
   have hlen : a + 1 + (it3 u).length ≤ T.size := by
    have := (List.takeWhile_prefix (l := (bs T).drop (a + 1)) isD).length_le
    rw [u2, List.length_drop, bs_len] at this
    omega
   have hpt : spec_l11Parts N0 ((1 : Int), (u : Int), (0 : Int), false) = some 0 := rfl
   have hr := room_node hl2 ((1 : Int), ((u : Int), ((0 : Int), false)))
   simp only [u3, v3, put_eq (show l1.length ≤ 4294967295 by omega), Option.bind_some, Bool.not_true, cond_false, hpt, show decide ((0 : Int) > 0) = false from rfl, show decide ((0 : Int) > 1) = false from rfl, hr, cond_true]
   have hlf : leaf2 (110, ((u : Int), [])) (1, ((u : Int), ((0 : Int), false))) = some (.name (u : Int)) := by
    unfold leaf2
    simp
   have hsc : scan T a (a + 1 + (it3 u).length) = [] := by
    rw [scan_skip (by rw [h2]; decide) (by omega)]
    refine scan_digits (it3 u) (a + 1) ?_ (fun c hc => ?_)
    ·rw [← u2]; exact (List.prefix_iff_eq_take.1 (List.takeWhile_prefix _)).symm
    ·rw [← u2] at hc; exact tw_all hc
   exact Both.leaf (by omega) hlen hl hb hlf hsc
  ·exact absurd u2 (v1 u u1)
 ·rcases name_eq hT (a := a + 1) h1 with ⟨u', v1, v2, v3⟩ | ⟨v1, v3⟩
  ·exact absurd v2 (u1 u' v1)
  ·simp only [u3, v3, put_eq (show l1.length ≤ 4294967295 by omega), Option.bind_some, Bool.not_false, cond_true]
   exact .inr ⟨_, _, _, _, _, rfl, by decide, rfl⟩
theorem read_36 (hT : T.size ≤ 200) (hd : (bs T).drop a = c :: r) (hv : (c.toNat : Int) = 36) (hl : l1.length = l2.length) (hb : l1.length ≤ a) : Both T a l1 l2 (impl_reader_read N0 (i1 + 1) (T, (a : Int), (0 : Int), MS, false, false, false, l1)) (spec_l11Parse N0 (i2 + 1) (T, (a : Int), l2)) := by
 obtain ⟨h1, h2, h3⟩ := drop_cons hd
 have z0 : ((0 : Int) != 0) = false := rfl
 have hz : decide ((a : Int) ≥ (T.size : Int)) = false := decide_eq_false (by omega)
 have hin := inb_nat h1
 have w1 : IntKind.i64.wrap ((a : Int) + 1) = ((a + 1 : Nat) : Int) := by rw [wrap_ok (by omega) (by omega)]; omega
 have hl2 : l2.length ≤ 4294967295 := by omega
 rw [hv] at h2
 have pk := peek_cons hd 0 MS
 rw [hv] at pk
 show Both T a l1 l2 (impl_reader_read_body N0 (impl_reader_read N0 i1) (T, (a : Int), (0 : Int), MS, false, false, false, l1)) (spec_l11Parse_body N0 (spec_l11Parse N0 i2) (T, (a : Int), l2))
 unfold impl_reader_read_body spec_l11Parse_body
 simp only [z0, hz, pk, h2, hin, w1, one1, one2', one3, one4, one5, one6, one7, Option.bind_some, Int.reduceBEq, Int.reduceBNe, Bool.or_true, Bool.or_false, Bool.true_or, Bool.false_or, Bool.or_self, cond_true, cond_false, impl_patternOf_1, impl_reader_letter]
 cases hd2 : (bs T).drop (a + 1) with
 | nil =>
  have q := drop_nil hd2
  have hz2 : decide (((a + 1 : Nat) : Int) ≥ (T.size : Int)) = true := decide_eq_true (by omega)
  simp only [peek_nil hd2 0 MS, hz2, impl_reader_fail, put_eq (show l1.length ≤ 4294967295 by omega), Option.bind_some, Int.reduceLT, decide_true, beq_self_eq_true, cond_true]
  exact .inr ⟨_, _, _, _, _, rfl, by decide, rfl⟩
 | cons d r2 =>
  obtain ⟨g1, g2, g3⟩ := drop_cons hd2
  have hz2 : decide (((a + 1 : Nat) : Int) ≥ (T.size : Int)) = false := decide_eq_false (by omega)
  have hin2 := inb_nat g1
  have pk2 := peek_cons hd2 0 MS
  by_cases k1 : (d.toNat : Int) < 97
  ·simp only [pk2, hz2, hin2, g2, decide_eq_true k1, impl_reader_fail, put_eq (show l1.length ≤ 4294967295 by omega), Option.bind_some, beq_self_eq_true, cond_true, cond_false]
   exact .inr ⟨_, _, _, _, _, rfl, by decide, rfl⟩
  ·by_cases k2 : (d.toNat : Int) > 122
   ·simp only [pk2, hz2, hin2, g2, decide_eq_false k1, decide_eq_true k2, impl_reader_fail, put_eq (show l1.length ≤ 4294967295 by omega), Option.bind_some, beq_self_eq_true, cond_true, cond_false]
    exact .inr ⟨_, _, _, _, _, rfl, by decide, rfl⟩
   ·obtain ⟨e1, e2⟩ := l97 (show 97 ≤ (d.toNat : Int) by omega) (show (d.toNat : Int) ≤ 122 by omega)
    have e3 : IntKind.i64.wrap ((d.toNat : Int) - 97) = (d.toNat : Int) - 97 := wrap_ok (by omega) (by omega)
    have w2 : IntKind.i64.wrap (((a + 1 : Nat) : Int) + 1) = ((a + 2 : Nat) : Int) := by rw [wrap_ok (by omega) (by omega)]; omega
    have w3 : IntKind.i64.wrap ((a : Int) + 2) = ((a + 2 : Nat) : Int) := by rw [wrap_ok (by omega) (by omega)]; omega
    have hpt : ∀ b : Bool, spec_l11Parts N0 ((9 : Int), (d.toNat : Int) - 97, (0 : Int), b) = some 0 := fun b => rfl
    have hr := fun b : Bool => room_node hl2 ((9 : Int), ((d.toNat : Int) - 97, ((0 : Int), b)))
    simp only [pk2, hz2, hin2, g2, decide_eq_false k1, decide_eq_false k2, e1, e2, e3, w2, w3, hpt, hr, put_eq (show l1.length ≤ 4294967295 by omega), Option.bind_some, show decide ((0 : Int) > 0) = false from rfl, show decide ((0 : Int) > 1) = false from rfl, cond_true, cond_false]
    have hlf : leaf2 (36, ((d.toNat : Int) - 97, [])) (9, ((d.toNat : Int) - 97, ((0 : Int), false))) = some (.var ((d.toNat : Int) - 97)) := by
     have c1 : (decide (0 ≤ (d.toNat : Int) - 97) && decide ((d.toNat : Int) - 97 < 26)) = true := by
      rw [Bool.and_eq_true, decide_eq_true_iff, decide_eq_true_iff]
      omega
     unfold leaf2
     simp only [Int.reduceBEq, cond_false, cond_true, beq_self_eq_true, c1, Bool.not_false, Bool.not_true, Bool.and_true, Bool.and_self]
    have hsc : scan T a (a + 2) = [] := by
     rw [show a + 2 = (a + 1) + 1 from rfl, scan_back (by rw [g2]; omega) (by omega), scan_one]
     unfold askAt
     rw [h2]
     first | rfl | (show [_] = [_]; rw [show (a : Int) + 1 = ((a + 1 : Nat) : Int) by omega, g2])
    exact Both.leaf (by omega) (by omega) hl hb hlf hsc
theorem read_63 (hT : T.size ≤ 200) (hd : (bs T).drop a = c :: r) (hv : (c.toNat : Int) = 63) (hl : l1.length = l2.length) (hb : l1.length ≤ a) : Both T a l1 l2 (impl_reader_read N0 (i1 + 1) (T, (a : Int), (0 : Int), MS, false, false, false, l1)) (spec_l11Parse N0 (i2 + 1) (T, (a : Int), l2)) := by
 obtain ⟨h1, h2, h3⟩ := drop_cons hd
 have z0 : ((0 : Int) != 0) = false := rfl
 have hz : decide ((a : Int) ≥ (T.size : Int)) = false := decide_eq_false (by omega)
 have hin := inb_nat h1
 have w1 : IntKind.i64.wrap ((a : Int) + 1) = ((a + 1 : Nat) : Int) := by rw [wrap_ok (by omega) (by omega)]; omega
 have hl2 : l2.length ≤ 4294967295 := by omega
 rw [hv] at h2
 have pk := peek_cons hd 0 MS
 rw [hv] at pk
 show Both T a l1 l2 (impl_reader_read_body N0 (impl_reader_read N0 i1) (T, (a : Int), (0 : Int), MS, false, false, false, l1)) (spec_l11Parse_body N0 (spec_l11Parse N0 i2) (T, (a : Int), l2))
 unfold impl_reader_read_body spec_l11Parse_body
 simp only [z0, hz, pk, h2, hin, w1, one1, one2', one3, one4, one5, one6, one7, Option.bind_some, Int.reduceBEq, Int.reduceBNe, Bool.or_true, Bool.or_false, Bool.true_or, Bool.false_or, Bool.or_self, cond_true, cond_false, impl_patternOf_1, impl_reader_letter]
 cases hd2 : (bs T).drop (a + 1) with
 | nil =>
  have q := drop_nil hd2
  have hz2 : decide (((a + 1 : Nat) : Int) ≥ (T.size : Int)) = true := decide_eq_true (by omega)
  simp only [peek_nil hd2 0 MS, hz2, impl_reader_fail, put_eq (show l1.length ≤ 4294967295 by omega), Option.bind_some, Int.reduceLT, decide_true, beq_self_eq_true, cond_true]
  exact .inr ⟨_, _, _, _, _, rfl, by decide, rfl⟩
 | cons d r2 =>
  obtain ⟨g1, g2, g3⟩ := drop_cons hd2
  have hz2 : decide (((a + 1 : Nat) : Int) ≥ (T.size : Int)) = false := decide_eq_false (by omega)
  have hin2 := inb_nat g1
  have pk2 := peek_cons hd2 0 MS
  by_cases k1 : (d.toNat : Int) < 97
  ·simp only [pk2, hz2, hin2, g2, decide_eq_true k1, impl_reader_fail, put_eq (show l1.length ≤ 4294967295 by omega), Option.bind_some, beq_self_eq_true, cond_true, cond_false]
   exact .inr ⟨_, _, _, _, _, rfl, by decide, rfl⟩
  ·by_cases k2 : (d.toNat : Int) > 122
   ·simp only [pk2, hz2, hin2, g2, decide_eq_false k1, decide_eq_true k2, impl_reader_fail, put_eq (show l1.length ≤ 4294967295 by omega), Option.bind_some, beq_self_eq_true, cond_true, cond_false]
    exact .inr ⟨_, _, _, _, _, rfl, by decide, rfl⟩
   ·obtain ⟨e1, e2⟩ := l97 (show 97 ≤ (d.toNat : Int) by omega) (show (d.toNat : Int) ≤ 122 by omega)
    have e3 : IntKind.i64.wrap ((d.toNat : Int) - 97) = (d.toNat : Int) - 97 := wrap_ok (by omega) (by omega)
    have w2 : IntKind.i64.wrap (((a + 1 : Nat) : Int) + 1) = ((a + 2 : Nat) : Int) := by rw [wrap_ok (by omega) (by omega)]; omega
    have w3 : IntKind.i64.wrap ((a : Int) + 2) = ((a + 2 : Nat) : Int) := by rw [wrap_ok (by omega) (by omega)]; omega
    have hpt : ∀ b : Bool, spec_l11Parts N0 ((9 : Int), (d.toNat : Int) - 97, (0 : Int), b) = some 0 := fun b => rfl
    have hr := fun b : Bool => room_node hl2 ((9 : Int), ((d.toNat : Int) - 97, ((0 : Int), b)))
    simp only [pk2, hz2, hin2, g2, decide_eq_false k1, decide_eq_false k2, e1, e2, e3, w2, w3, hpt, hr, put_eq (show l1.length ≤ 4294967295 by omega), Option.bind_some, show decide ((0 : Int) > 0) = false from rfl, show decide ((0 : Int) > 1) = false from rfl, cond_true, cond_false]
    have hlf : leaf2 (63, ((d.toNat : Int) - 97, [])) (9, ((d.toNat : Int) - 97, ((0 : Int), true))) = some (.ask ((d.toNat : Int) - 97)) := by
     have c1 : (decide (0 ≤ (d.toNat : Int) - 97) && decide ((d.toNat : Int) - 97 < 26)) = true := by
      rw [Bool.and_eq_true, decide_eq_true_iff, decide_eq_true_iff]
      omega
     unfold leaf2
     simp only [Int.reduceBEq, cond_false, cond_true, beq_self_eq_true, c1, Bool.not_false, Bool.not_true, Bool.and_true, Bool.and_self]
    have hsc : scan T a (a + 2) = [(d.toNat : Int) - 97] := by
     rw [show a + 2 = (a + 1) + 1 from rfl, scan_back (by rw [g2]; omega) (by omega), scan_one]
     unfold askAt
     rw [h2]
     first | rfl | (show [_] = [_]; rw [show (a : Int) + 1 = ((a + 1 : Nat) : Int) by omega, g2])
    exact Both.leaf (by omega) (by omega) hl hb hlf hsc
theorem read_40 (hT : T.size ≤ 200) (hd : (bs T).drop a = c :: r) (hv : (c.toNat : Int) = 40) (hl : l1.length = l2.length) (hb : l1.length ≤ a) (hi : 0 < i1) (ih : ∀ (a : Nat) (l1 : List Piece) (l2 : List SNode), T.size - a ≤ n → a ≤ T.size → l1.length = l2.length → l1.length ≤ a → Both T a l1 l2 (impl_reader_read N0 i1 (T, (a : Int), (0 : Int), MS, false, false, false, l1)) (spec_l11Parse N0 i2 (T, (a : Int), l2))) (hn : T.size - (a + 1) ≤ n) : Both T a l1 l2 (impl_reader_read N0 (i1 + 1) (T, (a : Int), (0 : Int), MS, false, false, false, l1)) (spec_l11Parse N0 (i2 + 1) (T, (a : Int), l2)) := by
 obtain ⟨h1, h2, h3⟩ := drop_cons hd
 have z0 : ((0 : Int) != 0) = false := rfl
 have hz : decide ((a : Int) ≥ (T.size : Int)) = false := decide_eq_false (by omega)
 have hin := inb_nat h1
 have w1 : IntKind.i64.wrap ((a : Int) + 1) = ((a + 1 : Nat) : Int) := by rw [wrap_ok (by omega) (by omega)]; omega
 have hl2 : l2.length ≤ 4294967295 := by omega
 rw [hv] at h2
 have pk := peek_cons hd 0 MS
 rw [hv] at pk
 show Both T a l1 l2 (impl_reader_read_body N0 (impl_reader_read N0 i1) (T, (a : Int), (0 : Int), MS, false, false, false, l1)) (spec_l11Parse_body N0 (spec_l11Parse N0 i2) (T, (a : Int), l2))
 unfold impl_reader_read_body spec_l11Parse_body
 have hk : spec_l4Kind N0 (T, (a : Int)) = some ((2 : Int), (1 : Int), (41 : Int)) := by
  unfold spec_l4Kind
  simp only [hin, h2, Int.reduceBEq, cond_true, cond_false]
 have hc : impl_closing N0 (40 : Int) = some (41 : Int) := rfl
 simp only [z0, hz, pk, h2, hin, w1, one1, one2', one3, one4, one5, one6, one7, Option.bind_some, Int.reduceBEq, Int.reduceBNe, Bool.or_true, Bool.or_false, Bool.true_or, Bool.false_or, Bool.or_self, cond_true, cond_false, hk, hc, show decide ((41 : Int) > 0) = true from rfl]
 rcases read_two hT hi ih 41 (by decide) (a := a + 1) hn h1 hl (by omega) with ⟨b, m1, m2, k, P, Q, p, q, A, B, q1, q2, q3, q4, q5, q6, q7, q8, q8', q9, q10⟩ | ⟨a2, c2, m1, ps, m2, A, B, d, q1, q2, q3⟩
 ·have hkk := q8'
  have FA : a < a + 1 := Nat.lt_succ_self a
  have FB : a + 1 ≤ b := by omega
  have FS : scan T a (a + 1) = [] := scan_no (by rw [h2]; decide)
  have A1 := (dec2_inb q9).2
  have B1 := (dec2_inb q10).2
  have A2 := dec2_asks q9
  have B2 := dec2_asks q10
  have hpt : spec_l11Parts N0 ((2 : Int), A, B, false) = some 2 := rfl
  have hr := fun b : Bool => room_node (l2 := m2) (by omega) ((2 : Int), (A, (B, b)))
  have t2 : two2 (40, (0, [p, q])) (2, (A, (B, (P.asks || Q.asks)))) P Q = some (.bin 2 P Q) := by
   unfold two2
   simp [isLeaf, kindV]
  simp only [q1, q2, z0, hpt, hr, A1, A2, B1, B2, impl_patternOf_2, put_eq (show m1.length ≤ 4294967295 by omega), Option.bind_some, Bool.not_true, show decide ((2 : Int) > 0) = true from rfl, show decide ((2 : Int) > 1) = true from rfl, cond_true, cond_false]
  cases hq : P.asks with
  | true =>
   rw [hq, Bool.true_or] at t2
   exact Both.two (by omega) q4 q5 (by omega) (Nat.le_of_lt FA) FB FS q7 q8 (by omega) q9 q10 t2
  | false =>
   rw [hq, Bool.false_or] at t2
   exact Both.two (by omega) q4 q5 (by omega) (Nat.le_of_lt FA) FB FS q7 q8 (by omega) q9 q10 t2
 ·simp only [q1, q3, show (c2 != 0) = true from by rw [bne_iff_ne]; exact q2, Option.bind_some, Bool.not_false, cond_true]
  exact .inr ⟨_, _, _, _, _, rfl, q2, rfl⟩
theorem read_123 (hT : T.size ≤ 200) (hd : (bs T).drop a = c :: r) (hv : (c.toNat : Int) = 123) (hl : l1.length = l2.length) (hb : l1.length ≤ a) (hi : 0 < i1) (ih : ∀ (a : Nat) (l1 : List Piece) (l2 : List SNode), T.size - a ≤ n → a ≤ T.size → l1.length = l2.length → l1.length ≤ a → Both T a l1 l2 (impl_reader_read N0 i1 (T, (a : Int), (0 : Int), MS, false, false, false, l1)) (spec_l11Parse N0 i2 (T, (a : Int), l2))) (hn : T.size - (a + 1) ≤ n) : Both T a l1 l2 (impl_reader_read N0 (i1 + 1) (T, (a : Int), (0 : Int), MS, false, false, false, l1)) (spec_l11Parse N0 (i2 + 1) (T, (a : Int), l2)) := by
 obtain ⟨h1, h2, h3⟩ := drop_cons hd
 have z0 : ((0 : Int) != 0) = false := rfl
 have hz : decide ((a : Int) ≥ (T.size : Int)) = false := decide_eq_false (by omega)
 have hin := inb_nat h1
 have w1 : IntKind.i64.wrap ((a : Int) + 1) = ((a + 1 : Nat) : Int) := by rw [wrap_ok (by omega) (by omega)]; omega
 have hl2 : l2.length ≤ 4294967295 := by omega
 rw [hv] at h2
 have pk := peek_cons hd 0 MS
 rw [hv] at pk
 show Both T a l1 l2 (impl_reader_read_body N0 (impl_reader_read N0 i1) (T, (a : Int), (0 : Int), MS, false, false, false, l1)) (spec_l11Parse_body N0 (spec_l11Parse N0 i2) (T, (a : Int), l2))
 unfold impl_reader_read_body spec_l11Parse_body
 have hk : spec_l4Kind N0 (T, (a : Int)) = some ((3 : Int), (1 : Int), (125 : Int)) := by
  unfold spec_l4Kind
  simp only [hin, h2, Int.reduceBEq, cond_true, cond_false]
 have hc : impl_closing N0 (123 : Int) = some (125 : Int) := rfl
 simp only [z0, hz, pk, h2, hin, w1, one1, one2', one3, one4, one5, one6, one7, Option.bind_some, Int.reduceBEq, Int.reduceBNe, Bool.or_true, Bool.or_false, Bool.true_or, Bool.false_or, Bool.or_self, cond_true, cond_false, hk, hc, show decide ((125 : Int) > 0) = true from rfl]
 rcases read_two hT hi ih 125 (by decide) (a := a + 1) hn h1 hl (by omega) with ⟨b, m1, m2, k, P, Q, p, q, A, B, q1, q2, q3, q4, q5, q6, q7, q8, q8', q9, q10⟩ | ⟨a2, c2, m1, ps, m2, A, B, d, q1, q2, q3⟩
 ·have hkk := q8'
  have FA : a < a + 1 := Nat.lt_succ_self a
  have FB : a + 1 ≤ b := by omega
  have FS : scan T a (a + 1) = [] := scan_no (by rw [h2]; decide)
  have A1 := (dec2_inb q9).2
  have B1 := (dec2_inb q10).2
  have A2 := dec2_asks q9
  have B2 := dec2_asks q10
  have hpt : spec_l11Parts N0 ((3 : Int), A, B, false) = some 2 := rfl
  have hr := fun b : Bool => room_node (l2 := m2) (by omega) ((3 : Int), (A, (B, b)))
  have t2 : two2 (123, (0, [p, q])) (3, (A, (B, (P.asks || Q.asks)))) P Q = some (.bin 3 P Q) := by
   unfold two2
   simp [isLeaf, kindV]
  simp only [q1, q2, z0, hpt, hr, A1, A2, B1, B2, impl_patternOf_2, put_eq (show m1.length ≤ 4294967295 by omega), Option.bind_some, Bool.not_true, show decide ((2 : Int) > 0) = true from rfl, show decide ((2 : Int) > 1) = true from rfl, cond_true, cond_false]
  cases hq : P.asks with
  | true =>
   rw [hq, Bool.true_or] at t2
   exact Both.two (by omega) q4 q5 (by omega) (Nat.le_of_lt FA) FB FS q7 q8 (by omega) q9 q10 t2
  | false =>
   rw [hq, Bool.false_or] at t2
   exact Both.two (by omega) q4 q5 (by omega) (Nat.le_of_lt FA) FB FS q7 q8 (by omega) q9 q10 t2
 ·simp only [q1, q3, show (c2 != 0) = true from by rw [bne_iff_ne]; exact q2, Option.bind_some, Bool.not_false, cond_true]
  exact .inr ⟨_, _, _, _, _, rfl, q2, rfl⟩
theorem read_91 (hT : T.size ≤ 200) (hd : (bs T).drop a = c :: r) (hv : (c.toNat : Int) = 91) (hl : l1.length = l2.length) (hb : l1.length ≤ a) (hi : 0 < i1) (ih : ∀ (a : Nat) (l1 : List Piece) (l2 : List SNode), T.size - a ≤ n → a ≤ T.size → l1.length = l2.length → l1.length ≤ a → Both T a l1 l2 (impl_reader_read N0 i1 (T, (a : Int), (0 : Int), MS, false, false, false, l1)) (spec_l11Parse N0 i2 (T, (a : Int), l2))) (hn : T.size - (a + 1) ≤ n) : Both T a l1 l2 (impl_reader_read N0 (i1 + 1) (T, (a : Int), (0 : Int), MS, false, false, false, l1)) (spec_l11Parse N0 (i2 + 1) (T, (a : Int), l2)) := by
 obtain ⟨h1, h2, h3⟩ := drop_cons hd
 have z0 : ((0 : Int) != 0) = false := rfl
 have hz : decide ((a : Int) ≥ (T.size : Int)) = false := decide_eq_false (by omega)
 have hin := inb_nat h1
 have w1 : IntKind.i64.wrap ((a : Int) + 1) = ((a + 1 : Nat) : Int) := by rw [wrap_ok (by omega) (by omega)]; omega
 have hl2 : l2.length ≤ 4294967295 := by omega
 rw [hv] at h2
 have pk := peek_cons hd 0 MS
 rw [hv] at pk
 show Both T a l1 l2 (impl_reader_read_body N0 (impl_reader_read N0 i1) (T, (a : Int), (0 : Int), MS, false, false, false, l1)) (spec_l11Parse_body N0 (spec_l11Parse N0 i2) (T, (a : Int), l2))
 unfold impl_reader_read_body spec_l11Parse_body
 have hk : spec_l4Kind N0 (T, (a : Int)) = some ((4 : Int), (1 : Int), (93 : Int)) := by
  unfold spec_l4Kind
  simp only [hin, h2, Int.reduceBEq, cond_true, cond_false]
 have hc : impl_closing N0 (91 : Int) = some (93 : Int) := rfl
 simp only [z0, hz, pk, h2, hin, w1, one1, one2', one3, one4, one5, one6, one7, Option.bind_some, Int.reduceBEq, Int.reduceBNe, Bool.or_true, Bool.or_false, Bool.true_or, Bool.false_or, Bool.or_self, cond_true, cond_false, hk, hc, show decide ((93 : Int) > 0) = true from rfl]
 rcases read_two hT hi ih 93 (by decide) (a := a + 1) hn h1 hl (by omega) with ⟨b, m1, m2, k, P, Q, p, q, A, B, q1, q2, q3, q4, q5, q6, q7, q8, q8', q9, q10⟩ | ⟨a2, c2, m1, ps, m2, A, B, d, q1, q2, q3⟩
 ·have hkk := q8'
  have FA : a < a + 1 := Nat.lt_succ_self a
  have FB : a + 1 ≤ b := by omega
  have FS : scan T a (a + 1) = [] := scan_no (by rw [h2]; decide)
  have A1 := (dec2_inb q9).2
  have B1 := (dec2_inb q10).2
  have A2 := dec2_asks q9
  have B2 := dec2_asks q10
  have hpt : spec_l11Parts N0 ((4 : Int), A, B, false) = some 2 := rfl
  have hr := fun b : Bool => room_node (l2 := m2) (by omega) ((4 : Int), (A, (B, b)))
  have t2 : two2 (91, (0, [p, q])) (4, (A, (B, (P.asks || Q.asks)))) P Q = some (.bin 4 P Q) := by
   unfold two2
   simp [isLeaf, kindV]
  simp only [q1, q2, z0, hpt, hr, A1, A2, B1, B2, impl_patternOf_2, put_eq (show m1.length ≤ 4294967295 by omega), Option.bind_some, Bool.not_true, show decide ((2 : Int) > 0) = true from rfl, show decide ((2 : Int) > 1) = true from rfl, cond_true, cond_false]
  cases hq : P.asks with
  | true =>
   rw [hq, Bool.true_or] at t2
   exact Both.two (by omega) q4 q5 (by omega) (Nat.le_of_lt FA) FB FS q7 q8 (by omega) q9 q10 t2
  | false =>
   rw [hq, Bool.false_or] at t2
   exact Both.two (by omega) q4 q5 (by omega) (Nat.le_of_lt FA) FB FS q7 q8 (by omega) q9 q10 t2
 ·simp only [q1, q3, show (c2 != 0) = true from by rw [bne_iff_ne]; exact q2, Option.bind_some, Bool.not_false, cond_true]
  exact .inr ⟨_, _, _, _, _, rfl, q2, rfl⟩
theorem read_107 (hT : T.size ≤ 200) (hd : (bs T).drop a = c :: r) (hv : (c.toNat : Int) = 107) (hl : l1.length = l2.length) (hb : l1.length ≤ a) (hi : 0 < i1) (ih : ∀ (a : Nat) (l1 : List Piece) (l2 : List SNode), T.size - a ≤ n → a ≤ T.size → l1.length = l2.length → l1.length ≤ a → Both T a l1 l2 (impl_reader_read N0 i1 (T, (a : Int), (0 : Int), MS, false, false, false, l1)) (spec_l11Parse N0 i2 (T, (a : Int), l2))) (hn : T.size - (a + 1) ≤ n) : Both T a l1 l2 (impl_reader_read N0 (i1 + 1) (T, (a : Int), (0 : Int), MS, false, false, false, l1)) (spec_l11Parse N0 (i2 + 1) (T, (a : Int), l2)) := by
 obtain ⟨h1, h2, h3⟩ := drop_cons hd
 have z0 : ((0 : Int) != 0) = false := rfl
 have hz : decide ((a : Int) ≥ (T.size : Int)) = false := decide_eq_false (by omega)
 have hin := inb_nat h1
 have w1 : IntKind.i64.wrap ((a : Int) + 1) = ((a + 1 : Nat) : Int) := by rw [wrap_ok (by omega) (by omega)]; omega
 have hl2 : l2.length ≤ 4294967295 := by omega
 rw [hv] at h2
 have pk := peek_cons hd 0 MS
 rw [hv] at pk
 show Both T a l1 l2 (impl_reader_read_body N0 (impl_reader_read N0 i1) (T, (a : Int), (0 : Int), MS, false, false, false, l1)) (spec_l11Parse_body N0 (spec_l11Parse N0 i2) (T, (a : Int), l2))
 unfold impl_reader_read_body spec_l11Parse_body
 have hk : spec_l4Kind N0 (T, (a : Int)) = some ((6 : Int), (2 : Int), (41 : Int)) := by
  unfold spec_l4Kind
  simp only [hin, h2, Int.reduceBEq, cond_true, cond_false]
 simp only [z0, hz, pk, h2, hin, w1, one1, one2', one3, one4, one5, one6, one7, Option.bind_some, Int.reduceBEq, Int.reduceBNe, Bool.or_true, Bool.or_false, Bool.true_or, Bool.false_or, Bool.or_self, cond_true, cond_false, hk, show decide ((41 : Int) > 0) = true from rfl]
 rcases want_both hT (a := a + 1) h1 40 with ⟨t1, t2, t3, t5⟩ | ⟨a2, k, b2, k2, t1, t2, t3, t4⟩
 ·simp only [t1, two_open t2, Option.bind_some]
  rcases read_two hT hi ih 41 (by decide) (a := a + 1 + 1) (by omega) t3 hl (by omega) with ⟨b, m1, m2, k, P, Q, p, q, A, B, q1, q2, q3, q4, q5, q6, q7, q8, q8', q9, q10⟩ | ⟨a2, c2, m1, ps, m2, A, B, d, q1, q2, q3⟩
  ·have hkk := q8'
   have FA : a < a + 1 + 1 := by omega
   have FB : a + 1 + 1 ≤ b := by omega
   have FS : scan T a (a + 1 + 1) = [] := by rw [scan_back (by rw [t5]; decide) (by omega), scan_no (by rw [h2]; decide)]
   have A1 := (dec2_inb q9).2
   have B1 := (dec2_inb q10).2
   have A2 := dec2_asks q9
   have B2 := dec2_asks q10
   have hpt : spec_l11Parts N0 ((6 : Int), A, B, false) = some 2 := rfl
   have hr := fun b : Bool => room_node (l2 := m2) (by omega) ((6 : Int), (A, (B, b)))
   have t2 : two2 (107, (0, [p, q])) (6, (A, (B, (P.asks || Q.asks)))) P Q = some (.bin 6 P Q) := by
    unfold two2
    simp [isLeaf, kindV]
   simp only [q1, q2, z0, hpt, hr, A1, A2, B1, B2, impl_patternOf_2, put_eq (show m1.length ≤ 4294967295 by omega), Option.bind_some, Bool.not_true, show decide ((2 : Int) > 0) = true from rfl, show decide ((2 : Int) > 1) = true from rfl, cond_true, cond_false]
   cases hq : P.asks with
   | true =>
    rw [hq, Bool.true_or] at t2
    exact Both.two (by omega) q4 q5 (by omega) (Nat.le_of_lt FA) FB FS q7 q8 (by omega) q9 q10 t2
   | false =>
    rw [hq, Bool.false_or] at t2
    exact Both.two (by omega) q4 q5 (by omega) (Nat.le_of_lt FA) FB FS q7 q8 (by omega) q9 q10 t2
  ·simp only [q1, q3, show (c2 != 0) = true from by rw [bne_iff_ne]; exact q2, Option.bind_some, Bool.not_false, cond_true]
   exact .inr ⟨_, _, _, _, _, rfl, q2, rfl⟩
 ·simp only [t1, two_shut t3 t4, two_bad t2 l1 hi, show (k != 0) = true from by rw [bne_iff_ne]; exact t2, Option.bind_some, Bool.not_false, cond_true]
  exact .inr ⟨_, _, _, _, _, rfl, t2, rfl⟩
theorem read_42 (hT : T.size ≤ 200) (hd : (bs T).drop a = c :: r) (hv : (c.toNat : Int) = 42) (hl : l1.length = l2.length) (hb : l1.length ≤ a) (hi : 0 < i1) (ih : ∀ (a : Nat) (l1 : List Piece) (l2 : List SNode), T.size - a ≤ n → a ≤ T.size → l1.length = l2.length → l1.length ≤ a → Both T a l1 l2 (impl_reader_read N0 i1 (T, (a : Int), (0 : Int), MS, false, false, false, l1)) (spec_l11Parse N0 i2 (T, (a : Int), l2))) (hn : T.size - (a + 1) ≤ n) : Both T a l1 l2 (impl_reader_read N0 (i1 + 1) (T, (a : Int), (0 : Int), MS, false, false, false, l1)) (spec_l11Parse N0 (i2 + 1) (T, (a : Int), l2)) := by
 obtain ⟨h1, h2, h3⟩ := drop_cons hd
 have z0 : ((0 : Int) != 0) = false := rfl
 have hz : decide ((a : Int) ≥ (T.size : Int)) = false := decide_eq_false (by omega)
 have hin := inb_nat h1
 have w1 : IntKind.i64.wrap ((a : Int) + 1) = ((a + 1 : Nat) : Int) := by rw [wrap_ok (by omega) (by omega)]; omega
 have hl2 : l2.length ≤ 4294967295 := by omega
 rw [hv] at h2
 have pk := peek_cons hd 0 MS
 rw [hv] at pk
 show Both T a l1 l2 (impl_reader_read_body N0 (impl_reader_read N0 i1) (T, (a : Int), (0 : Int), MS, false, false, false, l1)) (spec_l11Parse_body N0 (spec_l11Parse N0 i2) (T, (a : Int), l2))
 unfold impl_reader_read_body spec_l11Parse_body
 have hk : spec_l4Kind N0 (T, (a : Int)) = some ((8 : Int), (2 : Int), (41 : Int)) := by
  unfold spec_l4Kind
  simp only [hin, h2, Int.reduceBEq, cond_true, cond_false]
 simp only [z0, hz, pk, h2, hin, w1, one1, one2', one3, one4, one5, one6, one7, Option.bind_some, Int.reduceBEq, Int.reduceBNe, Bool.or_true, Bool.or_false, Bool.true_or, Bool.false_or, Bool.or_self, cond_true, cond_false, hk, show decide ((41 : Int) > 0) = true from rfl]
 rcases want_both hT (a := a + 1) h1 40 with ⟨t1, t2, t3, t5⟩ | ⟨a2, k, b2, k2, t1, t2, t3, t4⟩
 ·simp only [t1, two_open t2, Option.bind_some]
  rcases read_two hT hi ih 41 (by decide) (a := a + 1 + 1) (by omega) t3 hl (by omega) with ⟨b, m1, m2, k, P, Q, p, q, A, B, q1, q2, q3, q4, q5, q6, q7, q8, q8', q9, q10⟩ | ⟨a2, c2, m1, ps, m2, A, B, d, q1, q2, q3⟩
  ·have hkk := q8'
   have FA : a < a + 1 + 1 := by omega
   have FB : a + 1 + 1 ≤ b := by omega
   have FS : scan T a (a + 1 + 1) = [] := by rw [scan_back (by rw [t5]; decide) (by omega), scan_no (by rw [h2]; decide)]
   have A1 := (dec2_inb q9).2
   have B1 := (dec2_inb q10).2
   have A2 := dec2_asks q9
   have B2 := dec2_asks q10
   have hpt : spec_l11Parts N0 ((8 : Int), A, B, false) = some 2 := rfl
   have hr := fun b : Bool => room_node (l2 := m2) (by omega) ((8 : Int), (A, (B, b)))
   have t2 : two2 (42, (0, [p, q])) (8, (A, (B, (P.asks || Q.asks)))) P Q = some (.bin 8 P Q) := by
    unfold two2
    simp [isLeaf, kindV]
   simp only [q1, q2, z0, hpt, hr, A1, A2, B1, B2, impl_patternOf_2, put_eq (show m1.length ≤ 4294967295 by omega), Option.bind_some, Bool.not_true, show decide ((2 : Int) > 0) = true from rfl, show decide ((2 : Int) > 1) = true from rfl, cond_true, cond_false]
   cases hq : P.asks with
   | true =>
    rw [hq, Bool.true_or] at t2
    exact Both.two (by omega) q4 q5 (by omega) (Nat.le_of_lt FA) FB FS q7 q8 (by omega) q9 q10 t2
   | false =>
    rw [hq, Bool.false_or] at t2
    exact Both.two (by omega) q4 q5 (by omega) (Nat.le_of_lt FA) FB FS q7 q8 (by omega) q9 q10 t2
  ·simp only [q1, q3, show (c2 != 0) = true from by rw [bne_iff_ne]; exact q2, Option.bind_some, Bool.not_false, cond_true]
   exact .inr ⟨_, _, _, _, _, rfl, q2, rfl⟩
 ·simp only [t1, two_shut t3 t4, two_bad t2 l1 hi, show (k != 0) = true from by rw [bne_iff_ne]; exact t2, Option.bind_some, Bool.not_false, cond_true]
  exact .inr ⟨_, _, _, _, _, rfl, t2, rfl⟩
theorem read_120 (hT : T.size ≤ 200) (hd : (bs T).drop a = c :: r) (hv : (c.toNat : Int) = 120) (hl : l1.length = l2.length) (hb : l1.length ≤ a) (hi : 0 < i1) (ih : ∀ (a : Nat) (l1 : List Piece) (l2 : List SNode), T.size - a ≤ n → a ≤ T.size → l1.length = l2.length → l1.length ≤ a → Both T a l1 l2 (impl_reader_read N0 i1 (T, (a : Int), (0 : Int), MS, false, false, false, l1)) (spec_l11Parse N0 i2 (T, (a : Int), l2))) (hn : T.size - (a + 1) ≤ n) : Both T a l1 l2 (impl_reader_read N0 (i1 + 1) (T, (a : Int), (0 : Int), MS, false, false, false, l1)) (spec_l11Parse N0 (i2 + 1) (T, (a : Int), l2)) := by
 obtain ⟨h1, h2, h3⟩ := drop_cons hd
 have z0 : ((0 : Int) != 0) = false := rfl
 have hz : decide ((a : Int) ≥ (T.size : Int)) = false := decide_eq_false (by omega)
 have hin := inb_nat h1
 have w1 : IntKind.i64.wrap ((a : Int) + 1) = ((a + 1 : Nat) : Int) := by rw [wrap_ok (by omega) (by omega)]; omega
 have hl2 : l2.length ≤ 4294967295 := by omega
 rw [hv] at h2
 have pk := peek_cons hd 0 MS
 rw [hv] at pk
 show Both T a l1 l2 (impl_reader_read_body N0 (impl_reader_read N0 i1) (T, (a : Int), (0 : Int), MS, false, false, false, l1)) (spec_l11Parse_body N0 (spec_l11Parse N0 i2) (T, (a : Int), l2))
 unfold impl_reader_read_body spec_l11Parse_body
 simp only [z0, hz, pk, h2, hin, w1, one1, one2', one3, one4, one5, one6, one7, Option.bind_some, Int.reduceBEq, Int.reduceBNe, Bool.or_true, Bool.or_false, Bool.true_or, Bool.false_or, Bool.or_self, cond_true, cond_false, show decide ((41 : Int) > 0) = true from rfl]
 rcases want_both hT (a := a + 1) h1 40 with ⟨t1, t2, t3, t5⟩ | ⟨a2, k, b2, k2, t1, t2, t3, t4⟩
 ·simp only [t1, two_open t2, Option.bind_some]
  rcases read_two hT hi ih 41 (by decide) (a := a + 1 + 1) (by omega) t3 hl (by omega) with ⟨b, m1, m2, k, P, Q, p, q, A, B, q1, q2, q3, q4, q5, q6, q7, q8, q8', q9, q10⟩ | ⟨a2, c2, m1, ps, m2, A, B, d, q1, q2, q3⟩
  ·have hkk := q8'
   have FA : a < a + 1 + 1 := by omega
   have FB : a + 1 + 1 ≤ b := by omega
   have FS : scan T a (a + 1 + 1) = [] := by rw [scan_back (by rw [t5]; decide) (by omega), scan_no (by rw [h2]; decide)]
   have A1 := (dec2_inb q9).2
   have B1 := (dec2_inb q10).2
   have A2 := dec2_asks q9
   have B2 := dec2_asks q10
   have hpt : spec_l11Parts N0 ((10 : Int), A, B, false) = some 2 := rfl
   have hr := fun b : Bool => room_node (l2 := m2) (by omega) ((10 : Int), (A, (B, b)))
   have t2 : two2 (120, (0, [p, q])) (10, (A, (B, (P.asks || Q.asks)))) P Q = some (.exp P Q) := by
    unfold two2
    simp [isLeaf, kindV]
   simp only [q1, q2, z0, hpt, hr, A1, A2, B1, B2, impl_patternOf_2, put_eq (show m1.length ≤ 4294967295 by omega), Option.bind_some, Bool.not_true, show decide ((2 : Int) > 0) = true from rfl, show decide ((2 : Int) > 1) = true from rfl, cond_true, cond_false]
   cases hq : P.asks with
   | true =>
    rw [hq, Bool.true_or] at t2
    exact Both.two (by omega) q4 q5 (by omega) (Nat.le_of_lt FA) FB FS q7 q8 (by omega) q9 q10 t2
   | false =>
    rw [hq, Bool.false_or] at t2
    exact Both.two (by omega) q4 q5 (by omega) (Nat.le_of_lt FA) FB FS q7 q8 (by omega) q9 q10 t2
  ·simp only [q1, q3, show (c2 != 0) = true from by rw [bne_iff_ne]; exact q2, Option.bind_some, Bool.not_false, cond_true]
   exact .inr ⟨_, _, _, _, _, rfl, q2, rfl⟩
 ·simp only [t1, two_shut t3 t4, two_bad t2 l1 hi, show (k != 0) = true from by rw [bne_iff_ne]; exact t2, Option.bind_some, Bool.not_false, cond_true]
  exact .inr ⟨_, _, _, _, _, rfl, t2, rfl⟩
theorem read_35 (hT : T.size ≤ 200) (hd : (bs T).drop a = c :: r) (hv : (c.toNat : Int) = 35) (hl : l1.length = l2.length) (hb : l1.length ≤ a) (hi : 0 < i1) (ih : ∀ (a : Nat) (l1 : List Piece) (l2 : List SNode), T.size - a ≤ n → a ≤ T.size → l1.length = l2.length → l1.length ≤ a → Both T a l1 l2 (impl_reader_read N0 i1 (T, (a : Int), (0 : Int), MS, false, false, false, l1)) (spec_l11Parse N0 i2 (T, (a : Int), l2))) (hn : T.size - (a + 1) ≤ n) : Both T a l1 l2 (impl_reader_read N0 (i1 + 1) (T, (a : Int), (0 : Int), MS, false, false, false, l1)) (spec_l11Parse N0 (i2 + 1) (T, (a : Int), l2)) := by
 obtain ⟨h1, h2, h3⟩ := drop_cons hd
 have z0 : ((0 : Int) != 0) = false := rfl
 have hz : decide ((a : Int) ≥ (T.size : Int)) = false := decide_eq_false (by omega)
 have hin := inb_nat h1
 have w1 : IntKind.i64.wrap ((a : Int) + 1) = ((a + 1 : Nat) : Int) := by rw [wrap_ok (by omega) (by omega)]; omega
 have hl2 : l2.length ≤ 4294967295 := by omega
 rw [hv] at h2
 have pk := peek_cons hd 0 MS
 rw [hv] at pk
 show Both T a l1 l2 (impl_reader_read_body N0 (impl_reader_read N0 i1) (T, (a : Int), (0 : Int), MS, false, false, false, l1)) (spec_l11Parse_body N0 (spec_l11Parse N0 i2) (T, (a : Int), l2))
 unfold impl_reader_read_body spec_l11Parse_body
 have hk : spec_l4Kind N0 (T, (a : Int)) = some ((5 : Int), (1 : Int), (0 : Int)) := by
  unfold spec_l4Kind
  simp only [hin, h2, Int.reduceBEq, cond_true, cond_false]
 simp only [z0, hz, pk, h2, hin, w1, one1, one2', one3, one4, one5, one6, one7, Option.bind_some, Int.reduceBEq, Int.reduceBNe, Bool.or_true, Bool.or_false, Bool.true_or, Bool.false_or, Bool.or_self, cond_true, cond_false, hk, show decide ((0 : Int) > 0) = false from rfl]
 rcases ih (a + 1) l1 l2 hn h1 hl (by omega) with ⟨b, m1, m2, k, Q, q1, q2, q3, q4, q5, q6, q7, q8, q9, q10⟩ | ⟨a2, c2, m1, v, m2, q1, q2, q3⟩
 ·have A1 := (dec2_inb q10).2
  have A2 := dec2_asks q10
  have hpt : spec_l11Parts N0 ((5 : Int), ((m2.length : Int) - 1), (0 : Int), false) = some 1 := rfl
  have hr := fun b : Bool => room_node (l2 := m2) (by omega) ((5 : Int), (((m2.length : Int) - 1), ((0 : Int), b)))
  have t2 : one2 (35, (0, [(m1.length : Int) - 1])) (5, ((m2.length : Int) - 1, (0, Q.asks))) Q = some (.un 5 Q) := by
   unfold one2
   simp [isLeaf, kindV]
  simp only [q1, q2, z0, hpt, hr, A1, A2, impl_patternOf_2, put_eq (show m1.length ≤ 4294967295 by omega), Option.bind_some, Bool.not_true, show decide ((1 : Int) > 0) = true from rfl, show decide ((1 : Int) > 1) = false from rfl, cond_true, cond_false]
  exact Both.one (by omega) q4 q5 (by omega) (f := a + 1) (by omega) (by omega) (scan_no (by rw [h2]; decide)) q7 q8 (by omega) q10 t2
 ·simp only [q1, q3, show (c2 != 0) = true from by rw [bne_iff_ne]; exact q2, Option.bind_some, Bool.not_false, cond_true]
  exact .inr ⟨_, _, _, _, _, rfl, q2, rfl⟩
theorem read_94 (hT : T.size ≤ 200) (hd : (bs T).drop a = c :: r) (hv : (c.toNat : Int) = 94) (hl : l1.length = l2.length) (hb : l1.length ≤ a) (hi : 0 < i1) (ih : ∀ (a : Nat) (l1 : List Piece) (l2 : List SNode), T.size - a ≤ n → a ≤ T.size → l1.length = l2.length → l1.length ≤ a → Both T a l1 l2 (impl_reader_read N0 i1 (T, (a : Int), (0 : Int), MS, false, false, false, l1)) (spec_l11Parse N0 i2 (T, (a : Int), l2))) (hn : T.size - (a + 1) ≤ n) : Both T a l1 l2 (impl_reader_read N0 (i1 + 1) (T, (a : Int), (0 : Int), MS, false, false, false, l1)) (spec_l11Parse N0 (i2 + 1) (T, (a : Int), l2)) := by
 obtain ⟨h1, h2, h3⟩ := drop_cons hd
 have z0 : ((0 : Int) != 0) = false := rfl
 have hz : decide ((a : Int) ≥ (T.size : Int)) = false := decide_eq_false (by omega)
 have hin := inb_nat h1
 have w1 : IntKind.i64.wrap ((a : Int) + 1) = ((a + 1 : Nat) : Int) := by rw [wrap_ok (by omega) (by omega)]; omega
 have hl2 : l2.length ≤ 4294967295 := by omega
 rw [hv] at h2
 have pk := peek_cons hd 0 MS
 rw [hv] at pk
 show Both T a l1 l2 (impl_reader_read_body N0 (impl_reader_read N0 i1) (T, (a : Int), (0 : Int), MS, false, false, false, l1)) (spec_l11Parse_body N0 (spec_l11Parse N0 i2) (T, (a : Int), l2))
 unfold impl_reader_read_body spec_l11Parse_body
 have hk : spec_l4Kind N0 (T, (a : Int)) = some ((7 : Int), (1 : Int), (0 : Int)) := by
  unfold spec_l4Kind
  simp only [hin, h2, Int.reduceBEq, cond_true, cond_false]
 simp only [z0, hz, pk, h2, hin, w1, one1, one2', one3, one4, one5, one6, one7, Option.bind_some, Int.reduceBEq, Int.reduceBNe, Bool.or_true, Bool.or_false, Bool.true_or, Bool.false_or, Bool.or_self, cond_true, cond_false, hk, show decide ((0 : Int) > 0) = false from rfl]
 rcases ih (a + 1) l1 l2 hn h1 hl (by omega) with ⟨b, m1, m2, k, Q, q1, q2, q3, q4, q5, q6, q7, q8, q9, q10⟩ | ⟨a2, c2, m1, v, m2, q1, q2, q3⟩
 ·have A1 := (dec2_inb q10).2
  have A2 := dec2_asks q10
  have hpt : spec_l11Parts N0 ((7 : Int), ((m2.length : Int) - 1), (0 : Int), false) = some 1 := rfl
  have hr := fun b : Bool => room_node (l2 := m2) (by omega) ((7 : Int), (((m2.length : Int) - 1), ((0 : Int), b)))
  have t2 : one2 (94, (0, [(m1.length : Int) - 1])) (7, ((m2.length : Int) - 1, (0, Q.asks))) Q = some (.un 7 Q) := by
   unfold one2
   simp [isLeaf, kindV]
  simp only [q1, q2, z0, hpt, hr, A1, A2, impl_patternOf_2, put_eq (show m1.length ≤ 4294967295 by omega), Option.bind_some, Bool.not_true, show decide ((1 : Int) > 0) = true from rfl, show decide ((1 : Int) > 1) = false from rfl, cond_true, cond_false]
  exact Both.one (by omega) q4 q5 (by omega) (f := a + 1) (by omega) (by omega) (scan_no (by rw [h2]; decide)) q7 q8 (by omega) q10 t2
 ·simp only [q1, q3, show (c2 != 0) = true from by rw [bne_iff_ne]; exact q2, Option.bind_some, Bool.not_false, cond_true]
  exact .inr ⟨_, _, _, _, _, rfl, q2, rfl⟩
end
section
variable {T : ByteArray} {a : Nat} {c : UInt8} {r : List UInt8} {l1 : List Piece} {l2 : List SNode} {i1 i2 n : Nat}
theorem read_else (hT : T.size ≤ 200) (hd : (bs T).drop a = c :: r) (hl : l1.length = l2.length) (hb : l1.length ≤ a) (k110 : (c.toNat : Int) ≠ 110) (k36 : (c.toNat : Int) ≠ 36) (k63 : (c.toNat : Int) ≠ 63) (k40 : (c.toNat : Int) ≠ 40) (k123 : (c.toNat : Int) ≠ 123) (k91 : (c.toNat : Int) ≠ 91) (k107 : (c.toNat : Int) ≠ 107) (k42 : (c.toNat : Int) ≠ 42) (k120 : (c.toNat : Int) ≠ 120) (k35 : (c.toNat : Int) ≠ 35) (k94 : (c.toNat : Int) ≠ 94) : Both T a l1 l2 (impl_reader_read N0 (i1 + 1) (T, (a : Int), (0 : Int), MS, false, false, false, l1)) (spec_l11Parse N0 (i2 + 1) (T, (a : Int), l2)) := by
 obtain ⟨h1, h2, h3⟩ := drop_cons hd
 have z0 : ((0 : Int) != 0) = false := rfl
 have hz : decide ((a : Int) ≥ (T.size : Int)) = false := decide_eq_false (by omega)
 have hin := inb_nat h1
 have w1 : IntKind.i64.wrap ((a : Int) + 1) = ((a + 1 : Nat) : Int) := by rw [wrap_ok (by omega) (by omega)]; omega
 have hl2 : l2.length ≤ 4294967295 := by omega
 have pk := peek_cons hd 0 MS
 show Both T a l1 l2 (impl_reader_read_body N0 (impl_reader_read N0 i1) (T, (a : Int), (0 : Int), MS, false, false, false, l1)) (spec_l11Parse_body N0 (spec_l11Parse N0 i2) (T, (a : Int), l2))
 unfold impl_reader_read_body spec_l11Parse_body
 have e110 : ((110 : Int) == (c.toNat : Int)) = false := by rw [beq_eq_false_iff_ne]; omega
 have f110 : ((c.toNat : Int) == (110 : Int)) = false := by rw [beq_eq_false_iff_ne]; omega
 have e36 : ((36 : Int) == (c.toNat : Int)) = false := by rw [beq_eq_false_iff_ne]; omega
 have f36 : ((c.toNat : Int) == (36 : Int)) = false := by rw [beq_eq_false_iff_ne]; omega
 have e63 : ((63 : Int) == (c.toNat : Int)) = false := by rw [beq_eq_false_iff_ne]; omega
 have f63 : ((c.toNat : Int) == (63 : Int)) = false := by rw [beq_eq_false_iff_ne]; omega
 have e40 : ((40 : Int) == (c.toNat : Int)) = false := by rw [beq_eq_false_iff_ne]; omega
 have f40 : ((c.toNat : Int) == (40 : Int)) = false := by rw [beq_eq_false_iff_ne]; omega
 have e123 : ((123 : Int) == (c.toNat : Int)) = false := by rw [beq_eq_false_iff_ne]; omega
 have f123 : ((c.toNat : Int) == (123 : Int)) = false := by rw [beq_eq_false_iff_ne]; omega
 have e91 : ((91 : Int) == (c.toNat : Int)) = false := by rw [beq_eq_false_iff_ne]; omega
 have f91 : ((c.toNat : Int) == (91 : Int)) = false := by rw [beq_eq_false_iff_ne]; omega
 have e107 : ((107 : Int) == (c.toNat : Int)) = false := by rw [beq_eq_false_iff_ne]; omega
 have f107 : ((c.toNat : Int) == (107 : Int)) = false := by rw [beq_eq_false_iff_ne]; omega
 have e42 : ((42 : Int) == (c.toNat : Int)) = false := by rw [beq_eq_false_iff_ne]; omega
 have f42 : ((c.toNat : Int) == (42 : Int)) = false := by rw [beq_eq_false_iff_ne]; omega
 have e120 : ((120 : Int) == (c.toNat : Int)) = false := by rw [beq_eq_false_iff_ne]; omega
 have f120 : ((c.toNat : Int) == (120 : Int)) = false := by rw [beq_eq_false_iff_ne]; omega
 have e35 : ((35 : Int) == (c.toNat : Int)) = false := by rw [beq_eq_false_iff_ne]; omega
 have f35 : ((c.toNat : Int) == (35 : Int)) = false := by rw [beq_eq_false_iff_ne]; omega
 have e94 : ((94 : Int) == (c.toNat : Int)) = false := by rw [beq_eq_false_iff_ne]; omega
 have f94 : ((c.toNat : Int) == (94 : Int)) = false := by rw [beq_eq_false_iff_ne]; omega
 have hk : spec_l4Kind N0 (T, (a : Int)) = some ((0 : Int), (0 : Int), (0 : Int)) := by
  unfold spec_l4Kind
  simp only [hin, h2, e110, f110, e36, f36, e63, f63, e40, f40, e123, f123, e91, f91, e107, f107, e42, f42, e120, f120, e35, f35, e94, f94, cond_true, cond_false]
 refine .inr ⟨(a : Int), 3, l1, -1, l2, ?_, by decide, ?_⟩
 ·dsimp only
  simp only [z0, hz, pk, one1, one2', one3, one4, one5, one6, one7, e110, f110, e36, f36, e63, f63, e40, f40, e123, f123, e91, f91, e107, f107, e42, f42, e120, f120, e35, f35, e94, f94, Option.bind_some, Bool.or_false, Bool.or_self, cond_false, impl_reader_fail, beq_self_eq_true, cond_true]
  cases ((64 : Int) == (c.toNat : Int)) <;> cases ((60 : Int) == (c.toNat : Int)) <;> cases ((62 : Int) == (c.toNat : Int)) <;> cases ((33 : Int) == (c.toNat : Int)) <;> cases ((111 : Int) == (c.toNat : Int)) <;> rfl
 ·dsimp only
  simp only [hz, hin, h2, e110, f110, e36, f36, e63, f63, e40, f40, e123, f123, e91, f91, e107, f107, e42, f42, e120, f120, e35, f35, e94, f94, hk, Option.bind_some, Int.reduceBEq, beq_self_eq_true, cond_true, cond_false]
end
theorem read_both {T : ByteArray} (hT : T.size ≤ 200) : ∀ (n a : Nat) (l1 : List Piece) (l2 : List SNode) (j1 j2 : Nat), T.size - a ≤ n → n < j1 → n < j2 → a ≤ T.size → l1.length = l2.length → l1.length ≤ a → Both T a l1 l2 (impl_reader_read N0 j1 (T, (a : Int), (0 : Int), MS, false, false, false, l1)) (spec_l11Parse N0 j2 (T, (a : Int), l2))
 | 0, a, l1, l2, j1, j2, hn, h1, h2, ha, hl, hb => read_nil (List.drop_eq_nil_of_le (by rw [bs_len]; omega)) l1 l2 h1 h2
 | n + 1, a, l1, l2, j1, j2, hn, h1, h2, ha, hl, hb => by
  obtain ⟨i1, rfl⟩ : ∃ i, j1 = i + 1 := ⟨j1 - 1, by omega⟩
  obtain ⟨i2, rfl⟩ : ∃ i, j2 = i + 1 := ⟨j2 - 1, by omega⟩
  cases hd : (bs T).drop a with
  | nil => exact read_nil hd l1 l2 (by omega) (by omega)
  | cons c r =>
   have hs := (drop_cons hd).1
   have ih : ∀ (a : Nat) (l1 : List Piece) (l2 : List SNode), T.size - a ≤ n → a ≤ T.size → l1.length = l2.length → l1.length ≤ a → Both T a l1 l2 (impl_reader_read N0 i1 (T, (a : Int), (0 : Int), MS, false, false, false, l1)) (spec_l11Parse N0 i2 (T, (a : Int), l2)) := fun a l1 l2 q1 q2 q3 q4 => read_both hT n a l1 l2 i1 i2 q1 (by omega) (by omega) q2 q3 q4
   have hi : 0 < i1 := by omega
   have hn' : T.size - (a + 1) ≤ n := by omega
   by_cases h110 : (c.toNat : Int) = 110
   ·exact read_110 hT hd h110 hl hb
   by_cases h36 : (c.toNat : Int) = 36
   ·exact read_36 hT hd h36 hl hb
   by_cases h63 : (c.toNat : Int) = 63
   ·exact read_63 hT hd h63 hl hb
   by_cases h40 : (c.toNat : Int) = 40
   ·exact read_40 hT hd h40 hl hb hi ih hn'
   by_cases h123 : (c.toNat : Int) = 123
   ·exact read_123 hT hd h123 hl hb hi ih hn'
   by_cases h91 : (c.toNat : Int) = 91
   ·exact read_91 hT hd h91 hl hb hi ih hn'
   by_cases h107 : (c.toNat : Int) = 107
   ·exact read_107 hT hd h107 hl hb hi ih hn'
   by_cases h42 : (c.toNat : Int) = 42
   ·exact read_42 hT hd h42 hl hb hi ih hn'
   by_cases h120 : (c.toNat : Int) = 120
   ·exact read_120 hT hd h120 hl hb hi ih hn'
   by_cases h35 : (c.toNat : Int) = 35
   ·exact read_35 hT hd h35 hl hb hi ih hn'
   by_cases h94 : (c.toNat : Int) = 94
   ·exact read_94 hT hd h94 hl hb hi ih hn'
   exact read_else hT hd hl hb h110 h36 h63 h40 h123 h91 h107 h42 h120 h35 h94
theorem pat_all (T : ByteArray) : (∃ P, PatIs T P) ∨ ((∃ l1, impl_patternOf N0 T = some (false, false, l1)) ∧ ∃ l2, spec_l11Read N0 T = some (l2, false)) := by
 unfold impl_patternOf impl_reader_all spec_l11Read
 by_cases hT : T.size ≤ 200
 ·have hz : decide ((T.size : Int) > 200) = false := decide_eq_false (by omega)
  have b := read_both hT 200 0 [] [] N0 N0 (by omega) (by have := n0; omega) (by have := n0; omega) (Nat.zero_le _) rfl (Nat.le_refl _)
  have e0 : ((0 : Nat) : Int) = (0 : Int) := rfl
  rw [e0] at b
  have eM : (⟨#[36, 63, 120]⟩ : ByteArray) = MS := rfl
  rcases b with ⟨a', l1, l2, k, P, r1, r2, r3, r4, r5, r6, r7, r8, r9, r10⟩ | ⟨a2, c, l1, v, l2, r1, r2, r3⟩
  ·by_cases hq : a' = T.size
   ·left
    refine ⟨P, false, l1, l2, k, ?_, ?_, by have := n0; omega, r10, by simp at r6; omega, by simp at r6; omega⟩
    ·unfold impl_patternOf impl_reader_all
     simp only [hz, eM, r1, cond_false, Option.bind_some, beq_self_eq_true, cond_true, decide_eq_false (show ¬ (a' : Int) < (T.size : Int) by omega)]
    ·unfold spec_l11Read
     simp only [hz, r2, cond_false, Option.bind_some, cond_true, show ((a' : Int) == (T.size : Int)) = true from by rw [beq_iff_eq]; omega]
   ·right
    refine ⟨⟨l1, ?_⟩, l2, ?_⟩
    ·simp only [hz, eM, r1, cond_false, Option.bind_some, beq_self_eq_true, cond_true, decide_eq_true (show (a' : Int) < (T.size : Int) by omega), impl_reader_fail]
     rfl
    ·simp only [hz, r2, cond_false, Option.bind_some, cond_true, show ((a' : Int) == (T.size : Int)) = false from by rw [beq_eq_false_iff_ne]; omega]
  ·right
   have hc : (c == 0) = false := by rw [beq_eq_false_iff_ne]; exact r2
   refine ⟨⟨l1, ?_⟩, l2, ?_⟩
   ·simp only [hz, eM, r1, cond_false, Option.bind_some, hc]
   ·simp only [hz, r3, cond_false, Option.bind_some]
 ·right
  have hz : decide ((T.size : Int) > 200) = true := decide_eq_true (by omega)
  refine ⟨⟨[], ?_⟩, [], ?_⟩
  ·simp only [hz, cond_true, impl_reader_fail, beq_self_eq_true, Option.bind_some]
   rfl
  ·simp only [hz, cond_true]
def matchAll (xs : List Node3) (env : List Int) (T : ByteArray) (t : Int) (r : List Node3 × List Int × Bool) : Prop :=
 (poolB xs = false ∧ r = ([], [], false)) ∨ (poolB xs = true ∧ r = (xs, [], false)) ∨ (poolB xs = true ∧ env.length = 26 ∧ envB xs env = true ∧ hasB xs t = true ∧ ∃ P ys e, PatIs T P ∧ matchP P env xs t = some (e, ys) ∧ r = (ys, e, true))
theorem patMatch_all {xs : List Node3} (hx : xs.length ≤ 4294967296) {env : List Int} (he : env.length ≤ 4294967296) (T : ByteArray) (t : Int) : ∃ r, impl_PatMatch N0 (xs, env, T, t) = some r ∧ spec_PatMatch N0 (xs, env, T, t) = some r ∧ matchAll xs env T t r := by
 have cp := copy_eq hx
 have cs := copyS_eq hx
 have pIm := implPool_eq N0 n0 hx
 have pS := specPool_eq N0 n0 hx
 cases hP : (decide (xs.length ≤ 500) && okFrom N0 [] xs) with
 | false =>
  rw [hP] at pIm pS
  refine ⟨([], [], false), ?_, ?_, .inl ⟨hP, rfl⟩⟩
  ·unfold impl_PatMatch
   simp only [pIm, Option.bind_some, Bool.not_false, cond_true]
  ·unfold spec_PatMatch
   simp only [pS, Option.bind_some, Bool.not_false, cond_true]
 | true =>
  rw [hP] at pIm pS
  have hp : poolB xs = true := hP
  rcases pat_all T with ⟨P, hT⟩ | ⟨⟨l1, q1⟩, l2, q2⟩
  ·have eI := implEnv_eq N0 n0 hx he
   have eS := specEnv_eq N0 n0 hx (env := env)
   have hh := has_eq N0 hx t
   have hi := isTerm_eq N0 hx t
   by_cases hE : env.length = 26 ∧ envB xs env = true
   ·obtain ⟨he26, hv⟩ := hE
    have h1 := patMatch_eq hT hp he26 hv t
    have es : spec_l11Env N0 (xs, env) = some true := by rw [eS, hv, decide_eq_true he26]; rfl
    cases ht : hasB xs t with
    | false =>
     rw [ht] at h1 hh
     obtain ⟨b, l1, l2, k, e1, e2, _⟩ := hT
     refine ⟨(xs, [], false), h1, ?_, .inr (.inl ⟨hp, rfl⟩)⟩
     unfold spec_PatMatch
     simp only [pS, e2, es, hh, cs, Option.bind_some, Bool.not_true, Bool.not_false, cond_true, cond_false]
    | true =>
     rw [ht] at h1 hh
     obtain ⟨l2, e, ys, c, e1, e2, e3⟩ := l11Take_eq hT hp he26 hv ht
     cases hm : matchP P env xs t with
     | none =>
      rw [hm] at h1 e3
      have e3 : c = false := e3
      subst e3
      refine ⟨(xs, [], false), h1, ?_, .inr (.inl ⟨hp, rfl⟩)⟩
      unfold spec_PatMatch
      simp only [pS, e1, es, hh, e2, cs, Option.bind_some, Bool.not_true, Bool.not_false, cond_true, cond_false]
     | some s =>
      rw [hm] at h1 e3
      obtain ⟨e3, e4⟩ := (e3 : (e, ys) = s ∧ c = true)
      subst e3; subst e4
      obtain ⟨g1, g2, g3⟩ := matchP_good ⟨he26, envB_neg hv⟩ hp ht hm
      have cy := copyS_eq (xs := ys) (by have := poolB_len g2; omega)
      refine ⟨(ys, e, true), h1, ?_, .inr (.inr ⟨hp, he26, hv, ht, P, ys, e, hT, hm, rfl⟩)⟩
      unfold spec_PatMatch
      simp only [pS, e1, es, hh, e2, cy, Option.bind_some, Bool.not_true, Bool.not_false, cond_true, cond_false]
   ·have hb : (decide (env.length = 26) && envB xs env) = false := by
     rw [Bool.and_eq_false_iff]
     by_cases h26 : env.length = 26
     ·right
      cases hq : envB xs env with
      | false => rfl
      | true => exact absurd ⟨h26, hq⟩ hE
     ·left; exact decide_eq_false h26
    obtain ⟨b, l1, l2, k, e1, e2, _⟩ := hT
    have ei : impl_EnvOk N0 (xs, env) = some false := by
     rw [eI]
     rw [Bool.and_comm] at hb
     rw [← Bool.and_assoc, hb]; rfl
    rw [hb] at eS
    refine ⟨(xs, [], false), ?_, ?_, .inr (.inl ⟨hp, rfl⟩)⟩
    ·unfold impl_PatMatch
     simp only [pIm, e1, hi, ei, cp, Option.bind_some, Bool.not_true, Bool.not_false, cond_true, cond_false]
     cases hasB xs t <;> simp only [Bool.not_true, Bool.not_false, cond_true, cond_false]
    ·unfold spec_PatMatch
     simp only [pS, e2, eS, cs, Option.bind_some, Bool.not_true, Bool.not_false, cond_true, cond_false]
  ·refine ⟨(xs, [], false), ?_, ?_, .inr (.inl ⟨hp, rfl⟩)⟩
   ·unfold impl_PatMatch
    simp only [pIm, q1, cp, Option.bind_some, Bool.not_true, Bool.not_false, cond_true, cond_false]
   ·unfold spec_PatMatch
    simp only [pS, q2, cs, Option.bind_some, Bool.not_true, Bool.not_false, cond_true, cond_false]
theorem dec2_det {l1 : List Piece} {l2 : List SNode} {k k' : Nat} {a b : Int} {P P' : Pat} (h : dec2 l1 l2 k a b = some P) (h' : dec2 l1 l2 k' a b = some P') : P = P' := by
 have g := dec2_grow (x1 := []) (x2 := []) h (Nat.le_max_left k k')
 have g' := dec2_grow (x1 := []) (x2 := []) h' (Nat.le_max_right k k')
 rw [List.append_nil, List.append_nil] at g g'
 exact Option.some.inj (g.symm.trans g')
theorem pat_lets {T : ByteArray} {P : Pat} (h : PatIs T P) : T.size ≤ 200 ∧ ∃ b l1 l2, impl_patternOf N0 T = some (b, true, l1) ∧ spec_l11Read N0 T = some (l2, true) ∧ letsP l1 = P.lets ∧ letsS l2 = P.lets ∧ l1.length ≤ 200 ∧ scan T 0 T.size = P.lets := by
 obtain ⟨b0, m1, m2, k0, p1, p2, p3, p4, p5, p6⟩ := h
 have p1' := p1
 have p2' := p2
 unfold impl_patternOf impl_reader_all at p1
 unfold spec_l11Read at p2
 by_cases hT : T.size ≤ 200
 ·refine ⟨hT, b0, m1, m2, p1', p2', ?_⟩
  have hz : decide ((T.size : Int) > 200) = false := decide_eq_false (by omega)
  have b := read_both hT 200 0 [] [] N0 N0 (by omega) (by have := n0; omega) (by have := n0; omega) (Nat.zero_le _) rfl (Nat.le_refl _)
  have e0 : ((0 : Nat) : Int) = (0 : Int) := rfl
  rw [e0] at b
  have eM : (⟨#[36, 63, 120]⟩ : ByteArray) = MS := rfl
  rcases b with ⟨a', l1, l2, k, P', r1, r2, r3, r4, r5, r6, ⟨x, r7, r7', rs⟩, ⟨y, r8, r8'⟩, r9, r10⟩ | ⟨a2, c, l1, v, l2, r1, r2, r3⟩
  ·by_cases hq : a' = T.size
   ·simp only [hz, eM, r1, cond_false, Option.bind_some, beq_self_eq_true, cond_true, decide_eq_false (show ¬ (a' : Int) < (T.size : Int) by omega)] at p1
    simp only [hz, r2, cond_false, Option.bind_some, cond_true, show ((a' : Int) == (T.size : Int)) = true from by rw [beq_iff_eq]; omega] at p2
    simp only [Option.some.injEq, Prod.mk.injEq] at p1 p2
    obtain ⟨_, _, rfl⟩ := p1
    obtain ⟨rfl, _⟩ := p2
    obtain rfl := dec2_det p4 r10
    rw [List.nil_append] at r7 r8
    rw [← r7] at r7'
    rw [← r8] at r8'
    exact ⟨r7', r8', by simp at r6; omega, hq ▸ rs⟩
   ·exfalso
    simp only [hz, r2, cond_false, Option.bind_some, cond_true, show ((a' : Int) == (T.size : Int)) = false from by rw [beq_eq_false_iff_ne]; omega] at p2
    simp at p2
  ·exfalso
   simp only [hz, r3, cond_false, Option.bind_some] at p2
   simp at p2
 ·exfalso
  have hz : decide ((T.size : Int) > 200) = true := decide_eq_true (by omega)
  simp only [hz, cond_true, Option.bind_some] at p2
  simp at p2
theorem lets_nil : ∀ {P : Pat}, P.asks = false → P.lets = []
 | .name _, _ => rfl
 | .var _, _ => rfl
 | .ask _, h => by cases h
 | .un _ p, h => lets_nil (P := p) h
 | .bin _ p q, h => by
  have h : (p.asks || q.asks) = false := h
  rw [Bool.or_eq_false_iff] at h
  show p.lets ++ q.lets = []
  rw [lets_nil h.1, lets_nil h.2]; rfl
 | .exp p q, h => by
  have h : (p.asks || q.asks) = false := h
  rw [Bool.or_eq_false_iff] at h
  show p.lets ++ q.lets = []
  rw [lets_nil h.1, lets_nil h.2]; rfl
def Pat.plain : Pat → Pat
 | .ask i => .var i
 | .un k p => .un k p.plain
 | .bin k p q => .bin k p.plain q.plain
 | .exp p q => .exp p.plain q.plain
 | p => p
theorem mk_noask {env : List Int} {P : Pat} {xs : List Node3} {r : List Node3 × Int} (h : mk env P xs = some r) : P.asks = false := by
 cases q : P.asks with
 | false => rfl
 | true => rw [mk_asks xs q] at h; cases h
theorem and255 (a : Int) : 0 ≤ bits .and .i64 a 255 ∧ bits .and .i64 a 255 ≤ 255 := by
 have h : ((BitVec.ofInt 64 a) &&& (BitVec.ofInt 64 255)).toNat ≤ 255 := by
  rw [BitVec.toNat_and]
  exact Nat.and_le_right
 have e : bits .and .i64 a 255 = IntKind.i64.wrap (((BitVec.ofInt 64 a) &&& (BitVec.ofInt 64 255)).toNat : Int) := rfl
 rw [e, wrap_ok (by omega) (by omega)]
 omega
def Cu (b : List Int) (i : Int) : Prop := 0 ≤ i ∧ b.length ≤ 4294967296
theorem byte_ok (n : Nat) {b : List Int} {i : Int} (h : Int) (hc : Cu b i) : ∃ i' h' v, spec_l1Byte n (b, i, h) = some (b, i', h', v) ∧ Cu b i' ∧ 0 ≤ v ∧ v ≤ 255 := by
 obtain ⟨h0, h1⟩ := hc
 unfold spec_l1Byte
 dsimp only
 rw [decide_eq_true (show (0 : Int) ≤ 33 by decide), decide_eq_true (show (0 : Int) ≤ 45 by decide), cond_true, cond_true]
 by_cases hl : i < (b.length : Int)
 ·have e : i = ((i.toNat : Nat) : Int) := by omega
  have hin : inb i b.length = true := by rw [e]; exact inb_nat (by omega)
  rw [decide_eq_true hl, hin, cond_true, cond_true, wrap_ok (n := i + 1) (by omega) (by omega)]
  exact ⟨_, _, _, rfl, ⟨by omega, h1⟩, and255 _⟩
 ·rw [decide_eq_false hl, cond_false]
  exact ⟨_, _, _, rfl, ⟨h0, h1⟩, and255 _⟩
theorem tmod_in {x k : Int} (hx : 0 ≤ x) (hk : 0 < k) : 0 ≤ x.tmod k ∧ x.tmod k < k := by
 rw [Int.tmod_eq_emod_of_nonneg hx]
 exact ⟨Int.emod_nonneg _ (by omega), Int.emod_lt_of_pos _ hk⟩
def Bel (k v : Int) : Prop := (k ≤ 0 ∧ v = 0) ∨ (0 ≤ v ∧ v < k)
theorem below_ok (n : Nat) {b : List Int} {i : Int} (h k : Int) (hc : Cu b i) : ∃ i' h' v, spec_l1Below n (b, i, h, k) = some (b, i', h', v) ∧ Cu b i' ∧ Bel k v := by
 unfold spec_l1Below
 dsimp only
 by_cases h0 : k ≤ 0
 ·rw [decide_eq_true h0, cond_true]
  exact ⟨_, _, _, rfl, hc, .inl ⟨h0, rfl⟩⟩
 ·have hk : (k != 0) = true := by rw [bne_iff_ne]; omega
  rw [decide_eq_false h0, cond_false]
  by_cases h1 : k ≤ 256
  ·rw [decide_eq_true h1, cond_true]
   obtain ⟨i1, h1, v1, e1, c1, q1, q2⟩ := byte_ok n h hc
   rw [e1, Option.bind_some]
   dsimp only
   rw [hk, cond_true]
   exact ⟨_, _, _, rfl, c1, .inr (tmod_in q1 (by omega))⟩
  ·rw [decide_eq_false h1, cond_false]
   obtain ⟨i1, h1, v1, e1, c1, p1, q1⟩ := byte_ok n h hc
   rw [e1, Option.bind_some]
   dsimp only
   obtain ⟨i2, h2, v2, e2, c2, p2, q2⟩ := byte_ok n h1 c1
   rw [e2, Option.bind_some]
   dsimp only
   obtain ⟨i3, h3, v3, e3, c3, p3, q3⟩ := byte_ok n h2 c2
   rw [e3, Option.bind_some]
   dsimp only
   obtain ⟨i4, h4, v4, e4, c4, p4, q4⟩ := byte_ok n h3 c3
   rw [e4, Option.bind_some]
   dsimp only
   rw [hk, cond_true]
   have w1 : IntKind.i64.wrap (v1 * 16777216) = v1 * 16777216 := wrap_ok (by omega) (by omega)
   have w2 : IntKind.i64.wrap (v2 * 65536) = v2 * 65536 := wrap_ok (by omega) (by omega)
   have w3 : IntKind.i64.wrap (v3 * 256) = v3 * 256 := wrap_ok (by omega) (by omega)
   have w4 : IntKind.i64.wrap (v1 * 16777216 + v2 * 65536) = v1 * 16777216 + v2 * 65536 := wrap_ok (by omega) (by omega)
   have w5 : IntKind.i64.wrap (v1 * 16777216 + v2 * 65536 + v3 * 256) = v1 * 16777216 + v2 * 65536 + v3 * 256 := wrap_ok (by omega) (by omega)
   have w6 : IntKind.i64.wrap (v1 * 16777216 + v2 * 65536 + v3 * 256 + v4) = v1 * 16777216 + v2 * 65536 + v3 * 256 + v4 := wrap_ok (by omega) (by omega)
   rw [w1, w2, w3, w4, w5, w6]
   exact ⟨_, _, _, rfl, c4, .inr (tmod_in (by omega) (by omega))⟩
theorem once_ok (n : Nat) {b : List Int} {i : Int} (h k : Int) (hc : Cu b i) : ∃ i' h' v, spec_l1Once n (b, i, h, k) = some (b, i', h', v) ∧ Cu b i' := by
 unfold spec_l1Once
 dsimp only
 obtain ⟨i1, h1, v1, e1, c1, _⟩ := below_ok n h k hc
 rw [e1, Option.bind_some]
 exact ⟨_, _, _, rfl, c1⟩
theorem pickInt_ok (n : Nat) {b : List Int} {i : Int} (h : Int) (l : List Int) (hl : l ≠ []) (hc : Cu b i) : ∃ i' h' v, spec_l1PickInt n (b, i, h, l) = some (b, i', h', v) ∧ Cu b i' ∧ v ∈ l := by
 unfold spec_l1PickInt
 dsimp only
 obtain ⟨i1, h1, v1, e1, c1, hb⟩ := below_ok n h (l.length : Int) hc
 have hpos : 0 < l.length := List.length_pos_iff.2 hl
 rw [e1, Option.bind_some]
 dsimp only
 have hv : 0 ≤ v1 ∧ v1 < (l.length : Int) := by
  rcases hb with ⟨q, _⟩ | q
  ·omega
  ·exact q
 have e : v1 = ((v1.toNat : Nat) : Int) := by omega
 have hin : inb v1 l.length = true := by rw [e]; exact inb_nat (by omega)
 rw [hin, cond_true]
 refine ⟨_, _, _, rfl, c1, ?_⟩
 rw [List.getD_eq_getElem?_getD, List.getElem?_eq_getElem (by omega), Option.getD_some]
 exact List.getElem_mem _
theorem draw_ok (n : Nat) {b : List Int} {i : Int} (h : Int) {k : Int} (hk : k ≤ 4294967296) (hc : Cu b i) : ∃ i' h' v, spec_l1Draw n (b, i, h, k) = some (b, i', h', v) ∧ Cu b i' ∧ Bel k v := by
 unfold spec_l1Draw
 dsimp only
 by_cases h6 : k > 6
 ·rw [decide_eq_true h6, cond_true]
  obtain ⟨i1, h1, v1, e1, c1⟩ := once_ok n h 2 hc
  rw [e1, Option.bind_some]
  dsimp only
  cases v1 with
  | true =>
   rw [cond_true]
   obtain ⟨i2, h2, v2, e2, c2, b2⟩ := below_ok n h1 6 c1
   rw [e2, Option.bind_some]
   dsimp only
   have hv : 0 ≤ v2 ∧ v2 < 6 := by
    rcases b2 with ⟨q, _⟩ | q
    ·omega
    ·exact q
   rw [wrap_ok (n := k - 1) (by omega) (by omega), wrap_ok (n := k - 1 - v2) (by omega) (by omega)]
   exact ⟨_, _, _, rfl, c2, .inr ⟨by omega, by omega⟩⟩
  | false =>
   rw [cond_false]
   obtain ⟨i2, h2, v2, e2, c2, b2⟩ := below_ok n h1 k c1
   rw [e2, Option.bind_some]
   exact ⟨_, _, _, rfl, c2, b2⟩
 ·rw [decide_eq_false h6, cond_false]
  obtain ⟨i2, h2, v2, e2, c2, b2⟩ := below_ok n h k hc
  rw [e2, Option.bind_some]
  exact ⟨_, _, _, rfl, c2, b2⟩
theorem parts_ok (n : Nat) (k : Int) : ∃ v, spec_l1Parts n k = some v := by
 unfold spec_l1Parts
 cases (k == 1) <;> cases (k == 5) <;> cases (k == 7) <;> cases (k == 2) <;> cases (k == 3) <;> cases (k == 4) <;> cases (k == 6) <;> cases (k == 8) <;> exact ⟨_, rfl⟩
theorem drawNode_ok (n : Nat) {b : List Int} {i : Int} (h : Int) {k : Int} (hk : k ≤ 4294967296) (hc : Cu b i) : ∃ i' h' kd x y, spec_l1DrawNode n (b, i, h, k) = some (b, i', h', kd, x, y) ∧ Cu b i' := by
 unfold spec_l1DrawNode
 dsimp only
 cases (k == 0) with
 | true =>
  rw [cond_true]
  obtain ⟨i1, h1, v1, e1, c1, _⟩ := pickInt_ok n h [(0 : Int), (1 : Int), (5 : Int), (6 : Int), (50 : Int), (51 : Int), (62 : Int), (90 : Int), (91 : Int), (100 : Int), (101 : Int), (102 : Int), (199 : Int)] (by simp) hc
  rw [e1, Option.bind_some]
  exact ⟨_, _, _, _, _, rfl, c1⟩
 | false =>
  rw [cond_false]
  obtain ⟨i1, h1, v1, e1, c1⟩ := once_ok n h 4 hc
  rw [e1, Option.bind_some]
  dsimp only
  cases v1 with
  | true =>
   rw [cond_true]
   obtain ⟨i2, h2, v2, e2, c2, _⟩ := pickInt_ok n h1 [(0 : Int), (1 : Int), (5 : Int), (6 : Int), (50 : Int), (51 : Int), (62 : Int), (90 : Int), (91 : Int), (100 : Int), (101 : Int), (102 : Int), (199 : Int)] (by simp) c1
   rw [e2, Option.bind_some]
   exact ⟨_, _, _, _, _, rfl, c2⟩
  | false =>
   rw [cond_false]
   obtain ⟨i2, h2, v2, e2, c2, _⟩ := draw_ok n h1 (k := 7) (by decide) c1
   rw [e2, Option.bind_some]
   dsimp only
   obtain ⟨i3, h3, v3, e3, c3, _⟩ := draw_ok n h2 hk c2
   rw [e3, Option.bind_some]
   dsimp only
   obtain ⟨u, hu⟩ := parts_ok n (IntKind.i64.wrap ((2 : Int) + v2))
   rw [hu, Option.bind_some]
   cases (u == 2) with
   | true =>
    rw [cond_true]
    obtain ⟨i4, h4, v4, e4, c4, _⟩ := draw_ok n h3 hk c3
    rw [e4, Option.bind_some]
    exact ⟨_, _, _, _, _, rfl, c4⟩
   | false => exact ⟨_, _, _, _, _, rfl, c3⟩
theorem add_more {xs : List Node3} (hp : poolB xs = true) (kd a b : Int) : ∃ ys t, spec_l1Add N0 (xs, kd, a, b) = some (ys, t) ∧ poolB ys = true ∧ ys.length ≤ xs.length + 1 ∧ xs.length ≤ ys.length := by
 rw [specAdd_eq hp]
 cases h : addP xs kd a b with
 | none => exact ⟨xs, -1, rfl, hp, by omega, by omega⟩
 | some r =>
  obtain ⟨⟨g1, _, zs, g2⟩, _⟩ := addP_grown hp (show addP xs kd a b = some (r.1, r.2) from h)
  refine ⟨r.1, r.2, rfl, g1, ?_, by rw [g2]; simp⟩
  have h : addK xs (norm kd a b) = some r := h
  unfold addK at h
  cases q : nodeV N0 ((norm kd a b).1, (norm kd a b).2.1, (norm kd a b).2.2, (xs.length : Int)) with
  | false => rw [q] at h; cases h
  | true =>
   rw [q, cond_true] at h
   cases hf : pfind xs (norm kd a b) with
   | some j => rw [hf] at h; obtain rfl := Option.some.inj h; simp
   | none =>
    rw [hf] at h
    dsimp only at h
    by_cases hq : 500 ≤ xs.length
    ·rw [if_pos hq] at h; cases h
    ·rw [if_neg hq] at h; obtain rfl := Option.some.inj h; simp
theorem drawPool_loop {b : List Int} : ∀ (m : Nat) (i h : Int) (l0 xs : List Node3) (k j : Nat), Cu b i → poolB xs = true → k < m + j → j ≤ k → k ≤ 1000 →
  ∃ i' h' ys, spec_l1DrawPool_L4 N0 m (b, i, h, l0, xs, (k : Int), (j : Int)) = some (b, i', h', l0, ys) ∧ Cu b i' ∧ poolB ys = true ∧ ys.length ≤ xs.length + (k - j)
 | 0, i, h, l0, xs, k, j, hc, hp, hm, hj, hk => by omega
 | m + 1, i, h, l0, xs, k, j, hc, hp, hm, hj, hk => by
  unfold spec_l1DrawPool_L4
  dsimp only
  by_cases hq : j < k
  ·rw [decide_eq_true (show (j : Int) < (k : Int) by omega), cond_true]
   unfold spec_l1DrawPool_R6
   dsimp only
   have hl := poolB_len hp
   obtain ⟨i1, h1, kd, x, y, e1, c1⟩ := drawNode_ok N0 h (k := (xs.length : Int)) (by omega) hc
   rw [e1, Option.bind_some]
   dsimp only
   obtain ⟨ys, t, e2, p2, l2, _⟩ := add_more hp kd x y
   rw [e2, Option.bind_some, Option.bind_some]
   dsimp only
   rw [wrap_ok (n := (j : Int) + 1) (by omega) (by omega), show (j : Int) + 1 = ((j + 1 : Nat) : Int) by omega]
   obtain ⟨i3, h3, zs, e3, c3, p3, l3⟩ := drawPool_loop m i1 h1 l0 ys k (j + 1) c1 p2 (by omega) (by omega) hk
   exact ⟨i3, h3, zs, e3, c3, p3, by omega⟩
  ·rw [decide_eq_false (show ¬ (j : Int) < (k : Int) by omega), cond_false]
   exact ⟨i, h, xs, rfl, hc, hp, by omega⟩
theorem poolB_nil : poolB [] = true := by
 unfold poolB
 rfl
theorem drawPool_ok {b : List Int} {i : Int} (h : Int) {k : Int} (h0 : 0 ≤ k) (hk : k ≤ 100) (hc : Cu b i) : ∃ i' h' xs, spec_l1DrawPool N0 (b, i, h, k) = some (b, i', h', xs) ∧ Cu b i' ∧ poolB xs = true ∧ (xs.length : Int) ≤ k := by
 unfold spec_l1DrawPool
 dsimp only
 rw [wrap_ok (n := k + 1) (by omega) (by omega)]
 obtain ⟨i1, h1, v1, e1, c1, b1⟩ := below_ok N0 h (k + 1) hc
 rw [e1, Option.bind_some]
 dsimp only
 have hv : 0 ≤ v1 ∧ v1 ≤ k := by
  rcases b1 with ⟨q, _⟩ | q
  ·omega
  ·omega
 obtain ⟨v, rfl⟩ := Int.eq_ofNat_of_zero_le hv.1
 have := n0
 obtain ⟨i2, h2, ys, e2, c2, p2, l2⟩ := drawPool_loop N0 i1 h1 [] [] v 0 c1 poolB_nil (by omega) (Nat.zero_le _) (by omega)
 rw [show ((0 : Nat) : Int) = (0 : Int) from rfl] at e2
 rw [e2, Option.bind_some]
 exact ⟨_, _, _, rfl, c2, p2, by simp at l2; show (ys.length : Int) ≤ k; omega⟩
theorem drawTerm_ok {b : List Int} {i : Int} (h : Int) {xs : List Node3} (hx : xs.length ≤ 4294967296) (hc : Cu b i) : ∃ i' h' t, spec_l1DrawTerm N0 (b, i, h, xs) = some (b, i', h', t) ∧ Cu b i' ∧ (t = -1 ∨ t = (xs.length : Int) ∨ (0 ≤ t ∧ t < (max xs.length 1 : Nat))) := by
 unfold spec_l1DrawTerm
 dsimp only
 obtain ⟨i1, h1, v1, e1, c1⟩ := once_ok N0 h 25 hc
 rw [e1, Option.bind_some]
 dsimp only
 cases v1 with
 | true =>
  rw [cond_true]
  obtain ⟨i2, h2, v2, e2, c2, m2⟩ := pickInt_ok N0 h1 [(-1 : Int), (xs.length : Int)] (by simp) c1
  rw [e2, Option.bind_some]
  refine ⟨_, _, _, rfl, c2, ?_⟩
  simp at m2
  rcases m2 with q | q
  ·exact .inl q
  ·exact .inr (.inl q)
 | false =>
  rw [cond_false]
  have hm : spec_l1Max N0 ((xs.length : Int), (1 : Int)) = some ((max xs.length 1 : Nat) : Int) := by
   unfold spec_l1Max
   dsimp only
   by_cases q : (xs.length : Int) > 1
   ·rw [decide_eq_true q, cond_true]; congr 1; omega
   ·rw [decide_eq_false q, cond_false]; congr 1; omega
  rw [hm, Option.bind_some]
  obtain ⟨i2, h2, v2, e2, c2, b2⟩ := draw_ok N0 h1 (k := ((max xs.length 1 : Nat) : Int)) (by omega) c1
  rw [e2, Option.bind_some]
  refine ⟨_, _, _, rfl, c2, .inr (.inr ?_)⟩
  rcases b2 with ⟨q, _⟩ | q
  ·omega
  ·exact q
theorem new_loop {b : List Int} (hb : b.length ≤ 4294967296) : ∀ (m : Nat) (h : Int) (j : Nat), 4001 < m + j → j ≤ 4000 → ∃ h', spec_l1New_L3 N0 m (b, h, (j : Int)) = some (b, h')
 | 0, h, j, hm, hj => by omega
 | m + 1, h, j, hm, hj => by
  unfold spec_l1New_L3
  dsimp only
  by_cases h1 : j < b.length
  ·rw [decide_eq_true (show (j : Int) < (b.length : Int) by omega), cond_true]
   by_cases h2 : j < 4000
   ·rw [decide_eq_true (show (j : Int) < 4000 by omega), cond_true, inb_nat h1, cond_true, wrap_ok (n := (j : Int) + 1) (by omega) (by omega), show (j : Int) + 1 = ((j + 1 : Nat) : Int) by omega]
    exact new_loop hb m _ (j + 1) (by omega) (by omega)
   ·rw [decide_eq_false (show ¬ (j : Int) < 4000 by omega), cond_false]
    exact ⟨_, rfl⟩
  ·rw [decide_eq_false (show ¬ (j : Int) < (b.length : Int) by omega), cond_false]
   exact ⟨_, rfl⟩
theorem new_ok {b : List Int} (hb : b.length ≤ 4294967296) : ∃ h, spec_l1New N0 b = some (false, b, (0 : Int), h) ∧ Cu b 0 := by
 unfold spec_l1New
 have := n0
 obtain ⟨h', e⟩ := new_loop hb N0 (IntKind.i64.wrap ((12241 : Int) + (b.length : Int))) 0 (by omega) (by omega)
 rw [show ((0 : Nat) : Int) = (0 : Int) from rfl] at e
 rw [e, Option.bind_some]
 exact ⟨_, rfl, by decide, hb⟩
end AM
end Go.Proofs.YtelkmjkclmjggaaGreatDoor
