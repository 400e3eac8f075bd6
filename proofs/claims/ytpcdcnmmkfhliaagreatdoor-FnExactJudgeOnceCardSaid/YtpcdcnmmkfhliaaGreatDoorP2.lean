/- Small laws on whole numbers that wrap, on strings as lists of bytes, and on answers that may be none. No condition. And what follows it: see the remarks. -/
import Derived.Test.YtpcdcnmmkfhliaaGreatDoorW3
import Derived.Lib.ItoaNum
import Derived.Lib.IndexMore
import Derived.Laws.BitsLemmas
import Derived.Test.YtpcdcnmmkfhliaaGreatDoorALd
import Derived.Test.YtpcdcnmmkfhliaaGreatDoorP1

/-! Small laws on whole numbers that wrap, on strings as lists of bytes, and on answers that may be none. No condition. -/
namespace Go.Proofs.YtpcdcnmmkfhliaaGreatDoor
namespace AM
open Go
set_option linter.unusedSimpArgs false
set_option linter.unusedVariables false

theorem wrap_in {n : Int} (h1 : -9223372036854775808 ≤ n) (h2 : n ≤ 9223372036854775807) : IntKind.i64.wrap n = n := by
  rw [IntKind.wrap_i64]; omega
theorem wrap8_in {n : Int} (h1 : 0 ≤ n) (h2 : n ≤ 255) : IntKind.u8.wrap n = n := by
  have : IntKind.u8.wrap n = n % 256 := by rfl
  rw [this]; omega

/-- A string as the list of its bytes. -/
def ba (l : List UInt8) : ByteArray := ⟨l.toArray⟩
theorem ba_self (s : ByteArray) : ba s.data.toList = s := by cases s; rfl
theorem ba_append (a b : List UInt8) : ba a ++ ba b = ba (a ++ b) := by
  apply ByteArray.ext
  simp [ba]
theorem ba_size (l : List UInt8) : (ba l).size = l.length := by simp [ba, ByteArray.size]
theorem ba_inj {a b : List UInt8} (h : ba a = ba b) : a = b := by
  have := congrArg (fun s : ByteArray => s.data.toList) h
  simpa [ba] using this
theorem ba_data (l : List UInt8) : (ba l).data.toList = l := by simp [ba]
theorem size_data (s : ByteArray) : s.size = s.data.toList.length := rfl
theorem strRoom_of {a b : ByteArray} (h : a.size + b.size ≤ 4611686018427387904) : strRoom a b = true := decide_eq_true h
theorem strEq_self (a : ByteArray) : strEq a a = true := decide_eq_true rfl
theorem strEq_iff {a b : ByteArray} : strEq a b = true ↔ a = b := ⟨fun h => of_decide_eq_true h, fun h => decide_eq_true h⟩
theorem append_size (a b : ByteArray) : (a ++ b).size = a.size + b.size := by
  rw [← ba_self a, ← ba_self b, ba_append, ba_size, ba_size, ba_size, List.length_append]

theorem bt_eq {s : ByteArray} {i : Nat} (h : i < s.data.toList.length) : bt s (i : Int) = ((s.data.toList[i]).toNat : Int) := by
  unfold bt
  rw [Int.toNat_natCast, List.getD_eq_getElem?_getD, List.getElem?_eq_getElem h]; rfl
theorem u8_eq {x : UInt8} {n : Nat} (hn : n < 256) : ((x.toNat : Int) == (n : Int)) = decide (x = UInt8.ofNat n) := by
  rw [Bool.eq_iff_iff]
  simp only [beq_iff_eq, decide_eq_true_eq]
  constructor
  · intro h
    have : x.toNat = n := by omega
    rw [← this]; simp
  · intro h
    rw [h]
    simp; omega

theorem contains_byte (l : List UInt8) (c : UInt8) : Lib.contains l [c] = l.contains c := by
  unfold Lib.contains
  rw [Lib.index_one, Bool.eq_iff_iff]
  simp only [decide_eq_true_eq, List.contains_iff_mem]
  constructor
  · intro h
    obtain ⟨o, ho⟩ := Int.eq_ofNat_of_zero_le h
    have := (Lib.indexByte_some ho).1
    exact List.mem_of_getElem? this
  · intro h
    have hge := Lib.indexByte_ge l c
    by_cases q : Lib.indexByte l c = -1
    · obtain ⟨i, hi⟩ := List.getElem?_of_mem h
      exact absurd hi (Lib.indexByte_none q i)
    · omega
theorem ibeq (a b : Int) : (a == b) = decide (a = b) := by rw [Bool.eq_iff_iff]; simp
theorem ibne (a b : Int) : (a != b) = decide (a ≠ b) := by rw [Bool.eq_iff_iff]; simp
end AM
end Go.Proofs.YtpcdcnmmkfhliaaGreatDoor

/-! The copies and comparisons that a law makes of what comes in, as plain functions: a copy is what it is a copy of. No condition. -/
namespace Go.Proofs.YtpcdcnmmkfhliaaGreatDoor
namespace AM
open Go
set_option linter.unusedVariables false
set_option linter.unusedSimpArgs false

/-- Longer than any list can be. -/
abbrev N0 : Nat := 1000000000000000000000000000000

theorem wrap_ok {n : Int} (h1 : -9223372036854775808 ≤ n) (h2 : n ≤ 9223372036854775807) : IntKind.i64.wrap n = n := by
  rw [IntKind.wrap_i64]; omega

theorem getD_of {α : Type} {l : List α} {i : Nat} (h : i < l.length) (d : α) : l.getD i d = l[i] := by
  rw [List.getD_eq_getElem?_getD, List.getElem?_eq_getElem h]; rfl

theorem inb_nat {i n : Nat} (h : i < n) : inb (i : Int) n = true := by
  unfold inb
  exact decide_eq_true ⟨Int.natCast_nonneg _, by omega⟩

theorem step_wrap {i n : Nat} (hi : i < n) (hn : n ≤ 4294967296) : IntKind.i64.wrap ((i : Int) + (1 : Int)) = ((i + 1 : Nat) : Int) := by
  rw [wrap_ok (by omega) (by omega)]; omega

/-- A list that has been copied so far. -/
theorem copy_set {α : Type} {xs ys : List α} {i : Nat} (hi : i < xs.length) (hl : ys.length = xs.length) (h : ∀ j, j < i → ys[j]? = xs[j]?) : (ys.set i xs[i]).length = xs.length ∧ ∀ j, j < i + 1 → (ys.set i xs[i])[j]? = xs[j]? := by
  refine ⟨by simp [hl], fun j hj => ?_⟩
  rw [List.getElem?_set]
  by_cases q : i = j
  · subst q
    rw [if_pos rfl, if_pos (by omega), List.getElem?_eq_getElem hi]
  · rw [if_neg q]; exact h j (by omega)

theorem copy_done {α : Type} {xs ys : List α} {i : Nat} (hi : xs.length ≤ i) (hl : ys.length = xs.length) (h : ∀ j, j < i → ys[j]? = xs[j]?) : ys = xs := by
  apply List.ext_getElem?
  intro j
  rcases Nat.lt_or_ge j i with q | q
  · exact h j q
  · rw [List.getElem?_eq_none (by omega), List.getElem?_eq_none (by omega)]

theorem toNodeS_loop (n : Nat) {xs : List (Int × Int × Int)} (hx : xs.length ≤ 4294967296) : ∀ (m i : Nat) (ys : List (Int × Int × Int)), i ≤ xs.length → ys.length = xs.length → (∀ j, j < i → ys[j]? = xs[j]?) → xs.length < m + i → laws_toNodeS_L3 n m (xs, ys, (i : Int)) = some xs
  | 0, i, ys, hi, hl, h, hm => by omega
  | m + 1, i, ys, hi, hl, h, hm => by
    show (cond (decide ((i : Int) < (xs.length : Int))) _ _) = _
    by_cases q : i < xs.length
    · rw [decide_eq_true (by omega : (i : Int) < (xs.length : Int)), cond_true]
      show (cond (inb (i : Int) xs.length) _ none) = _
      rw [inb_nat q, cond_true]
      show (cond (inb (i : Int) ys.length) (laws_toNodeS_L3 n m (xs, ys.set ((i : Int)).toNat (xs.getD ((i : Int)).toNat ((0 : Int), ((0 : Int), (0 : Int)))), IntKind.i64.wrap ((i : Int) + (1 : Int)))) none) = _
      rw [inb_nat (by omega), cond_true, step_wrap q hx, Int.toNat_natCast, getD_of q]
      obtain ⟨h1, h2⟩ := copy_set q hl h
      exact toNodeS_loop n hx m (i + 1) _ q h1 h2 (by omega)
    · rw [decide_eq_false (by omega : ¬ (i : Int) < (xs.length : Int)), cond_false]
      rw [copy_done (by omega) hl h]

theorem toIntS_loop (n : Nat) {xs : List Int} (hx : xs.length ≤ 4294967296) : ∀ (m i : Nat) (ys : List Int), i ≤ xs.length → ys.length = xs.length → (∀ j, j < i → ys[j]? = xs[j]?) → xs.length < m + i → laws_toIntS_L3 n m (xs, ys, (i : Int)) = some xs
  | 0, i, ys, hi, hl, h, hm => by omega
  | m + 1, i, ys, hi, hl, h, hm => by
    show (cond (decide ((i : Int) < (xs.length : Int))) _ _) = _
    by_cases q : i < xs.length
    · rw [decide_eq_true (by omega : (i : Int) < (xs.length : Int)), cond_true]
      show (cond (inb (i : Int) xs.length) (cond (inb (i : Int) ys.length) (laws_toIntS_L3 n m (xs, ys.set ((i : Int)).toNat (xs.getD ((i : Int)).toNat (0 : Int)), IntKind.i64.wrap ((i : Int) + (1 : Int)))) none) none) = _
      rw [inb_nat q, inb_nat (by omega), cond_true, cond_true, step_wrap q hx, Int.toNat_natCast, getD_of q]
      obtain ⟨h1, h2⟩ := copy_set q hl h
      exact toIntS_loop n hx m (i + 1) _ q h1 h2 (by omega)
    · rw [decide_eq_false (by omega : ¬ (i : Int) < (xs.length : Int)), cond_false]
      rw [copy_done (by omega) hl h]

theorem toNodeS_eq (n : Nat) (hn : 4294967296 < n) {xs : List (Int × Int × Int)} (hx : xs.length ≤ 4294967296) : laws_toNodeS n xs = some xs := by
  unfold laws_toNodeS
  rw [decide_eq_true (by omega : 0 ≤ (xs.length : Int) ∧ (xs.length : Int) ≤ (xs.length : Int) ∧ (xs.length : Int) ≤ 4294967296), cond_true]
  have := toNodeS_loop n hx n 0 (List.replicate ((xs.length : Int)).toNat ((0 : Int), ((0 : Int), (0 : Int)))) (Nat.zero_le _) (by simp) (fun j hj => by omega) (by omega)
  rw [show ((0 : Nat) : Int) = (0 : Int) from rfl] at this
  rw [this]; rfl
theorem toIntS_eq (n : Nat) (hn : 4294967296 < n) {xs : List Int} (hx : xs.length ≤ 4294967296) : laws_toIntS n xs = some xs := by
  unfold laws_toIntS
  rw [decide_eq_true (by omega : 0 ≤ (xs.length : Int) ∧ (xs.length : Int) ≤ (xs.length : Int) ∧ (xs.length : Int) ≤ 4294967296), cond_true]
  have := toIntS_loop n hx n 0 (List.replicate ((xs.length : Int)).toNat (0 : Int)) (Nat.zero_le _) (by simp) (fun j hj => by omega) (by omega)
  rw [show ((0 : Nat) : Int) = (0 : Int) from rfl] at this
  rw [this]; rfl
theorem toPool_eq (n : Nat) (hn : 4294967296 < n) {xs : List (Int × Int × Int)} (hx : xs.length ≤ 4294967296) : laws_toPool n xs = some xs := by
  unfold laws_toPool
  rw [toNodeS_eq n hn hx]; rfl
theorem toInst_eq (n : Nat) (hn : 4294967296 < n) {a b c d e : Int} {v : List Int} {f g : Bool} {k : Int} (hx : v.length ≤ 4294967296) : laws_toInst n (a, b, c, d, e, v, f, g, k) = some (a, b, c, d, e, v, f, g, k) := by
  show ((laws_toIntS n v).bind fun r1 => some (a, b, c, d, e, r1, f, g, k)) = _
  rw [toIntS_eq n hn hx]; rfl

/-! ### A list is held against itself -/
theorem eqNodeS_loop (n : Nat) {xs : List (Int × Int × Int)} (hx : xs.length ≤ 4294967296) : ∀ (m i : Nat), i ≤ xs.length → xs.length < m + i → laws_eqNodeS_L4 n m (xs, xs, (i : Int)) = some (Sum.inr ())
  | 0, i, hi, hm => by omega
  | m + 1, i, hi, hm => by
    show (cond (decide ((i : Int) < (xs.length : Int))) _ _) = _
    by_cases q : i < xs.length
    · rw [decide_eq_true (by omega : (i : Int) < (xs.length : Int)), cond_true]
      show (cond (inb (i : Int) xs.length) (cond (inb (i : Int) xs.length) ((laws_eqNode n _).bind fun r1 => (cond (!r1) (some (Sum.inl false)) (laws_eqNodeS_L4 n m (xs, xs, IntKind.i64.wrap ((i : Int) + (1 : Int)))))) none) none) = _
      rw [inb_nat q, cond_true, cond_true]
      generalize xs.getD ((i : Int)).toNat ((0 : Int), ((0 : Int), (0 : Int))) = p
      have : laws_eqNode n (p.1, p.2.1, p.2.2, p.1, p.2.1, p.2.2) = some true := by simp [laws_eqNode]
      rw [this, step_wrap q hx]
      exact eqNodeS_loop n hx m (i + 1) q (by omega)
    · rw [decide_eq_false (by omega : ¬ (i : Int) < (xs.length : Int)), cond_false]
theorem eqIntS_loop (n : Nat) {xs : List Int} (hx : xs.length ≤ 4294967296) : ∀ (m i : Nat), i ≤ xs.length → xs.length < m + i → laws_eqIntS_L4 n m (xs, xs, (i : Int)) = some (Sum.inr ())
  | 0, i, hi, hm => by omega
  | m + 1, i, hi, hm => by
    show (cond (decide ((i : Int) < (xs.length : Int))) _ _) = _
    by_cases q : i < xs.length
    · rw [decide_eq_true (by omega : (i : Int) < (xs.length : Int)), cond_true]
      show (cond (inb (i : Int) xs.length) (cond (inb (i : Int) xs.length) (cond (xs.getD ((i : Int)).toNat (0 : Int) != xs.getD ((i : Int)).toNat (0 : Int)) (some (Sum.inl false)) (laws_eqIntS_L4 n m (xs, xs, IntKind.i64.wrap ((i : Int) + (1 : Int))))) none) none) = _
      rw [inb_nat q, cond_true, cond_true, bne_self_eq_false, cond_false, step_wrap q hx]
      exact eqIntS_loop n hx m (i + 1) q (by omega)
    · rw [decide_eq_false (by omega : ¬ (i : Int) < (xs.length : Int)), cond_false]
theorem eqPool_self (n : Nat) (hn : 4294967296 < n) {xs : List (Int × Int × Int)} (hx : xs.length ≤ 4294967296) : laws_eqPool n (xs, xs) = some true := by
  unfold laws_eqPool laws_eqNodeS
  have := eqNodeS_loop n hx n 0 (Nat.zero_le _) (by omega)
  rw [show ((0 : Nat) : Int) = (0 : Int) from rfl] at this
  simp only [bne_self_eq_false, cond_false, this]; rfl
theorem eqInst_self (n : Nat) (hn : 4294967296 < n) {a b c d e : Int} {v : List Int} {f g : Bool} {k : Int} (hx : v.length ≤ 4294967296) : laws_eqInst n (a, b, c, d, e, v, f, g, k, a, b, c, d, e, v, f, g, k) = some true := by
  have h2 : laws_eqIntS n (v, v) = some true := by
    unfold laws_eqIntS
    have := eqIntS_loop n hx n 0 (Nat.zero_le _) (by omega)
    rw [show ((0 : Nat) : Int) = (0 : Int) from rfl] at this
    simp only [bne_self_eq_false, cond_false, this]; rfl
  unfold laws_eqInst
  simp only [bne_self_eq_false, cond_false, h2, Option.bind_some, Bool.not_true]
end AM
end Go.Proofs.YtpcdcnmmkfhliaaGreatDoor

/-! A counter of keys, as the program lays it: what stands at a key behind a put. No condition. -/
namespace Go.Proofs.YtpcdcnmmkfhliaaGreatDoor
namespace AM
open Go
set_option linter.unusedVariables false
set_option linter.unusedSimpArgs false

theorem eqv_self : ∀ (t : Ty), t.hasSl = false → ∀ x : t.den, t.eqv x x = true
  | .int _, _, x => by simp [Ty.eqv]
  | .bool, _, x => by simp [Ty.eqv]
  | .str, _, x => decide_eq_true rfl
  | .sl _, h, _ => by cases h
  | .pr a b, h, x => by
    have h : (a.hasSl || b.hasSl) = false := h
    rw [Bool.or_eq_false_iff] at h
    show (a.eqv x.1 x.1 && b.eqv x.2 x.2) = true
    rw [eqv_self a h.1, eqv_self b h.2]; rfl

theorem mfind_len {kt : Ty} {k : kt.den} {m : List (kt.den × Int)} {j : Nat} {v : Int} (h : mfind kt k m 0 = some (j, v)) : j < m.length := by
  obtain ⟨_, h2⟩ := mfind_spec h
  exact (List.getElem?_eq_some_iff.1 h2).1

theorem mset_set {α : Type} {y : Int} {k : α} {c : Int} : ∀ {m : List (α × Int)} {j : Nat}, j < m.length → msetG y (m.set j (k, c)) j = m.set j (k, y)
  | [], _, h => by simp at h
  | p :: r, 0, _ => rfl
  | p :: r, j + 1, h => by
    show p :: msetG y (r.set j (k, c)) j = p :: r.set j (k, y)
    rw [mset_set (by simpa using h)]
theorem mset_push {α : Type} {y : Int} {k : α} {c : Int} : ∀ {m : List (α × Int)}, msetG y (m ++ [(k, c)]) m.length = m ++ [(k, y)]
  | [] => rfl
  | p :: r => by
    show p :: msetG y (r ++ [(k, c)]) r.length = p :: (r ++ [(k, y)])
    rw [mset_push]

/-- To put an entry and then to write its value is to put the value. -/
theorem mset_mput {kt : Ty} {k : kt.den} {c y : Int} {m : List (kt.den × Int)} : mset (mpos kt k m) y (mput kt k c m) = mput kt k y m := by
  unfold mset mpos mput
  cases h : mfind kt k m 0 with
  | some p =>
    obtain ⟨j, v⟩ := p
    dsimp only
    rw [Int.toNat_natCast]
    exact mset_set (mfind_len h)
  | none =>
    dsimp only
    rw [Int.toNat_natCast]
    exact mset_push
theorem mpos_in {kt : Ty} {k : kt.den} {c : Int} {m : List (kt.den × Int)} : inb (mpos kt k m) (mput kt k c m).length = true := by
  unfold mpos mput
  cases h : mfind kt k m 0 with
  | some p =>
    obtain ⟨j, v⟩ := p
    dsimp only
    rw [List.length_set]
    exact inb_nat (mfind_len h)
  | none =>
    dsimp only
    rw [List.length_append]
    exact inb_nat (by simp)

theorem mfind_set_ne {kt : Ty} {k k' : kt.den} {x : Int} (hne : kt.eqv k' k = false) : ∀ {m : List (kt.den × Int)} {i j : Nat} {v : Int}, mfind kt k m i = some (j, v) → mfind kt k' (m.set (j - i) (k, x)) i = mfind kt k' m i
  | [], _, _, _, h => by cases h
  | p :: r, i, j, v, h => by
    unfold mfind at h
    cases q : kt.eqv k p.1 with
    | true =>
      rw [q] at h
      obtain ⟨rfl, rfl⟩ := Prod.mk.inj (Option.some.inj h)
      rw [Nat.sub_self, List.set_cons_zero]
      have := eqv_eq kt q
      unfold mfind
      rw [hne, ← this, hne]
      rfl
    | false =>
      rw [q] at h
      have h : mfind kt k r (i + 1) = some (j, v) := h
      obtain ⟨h1, _⟩ := mfind_spec h
      rw [show j - i = (j - (i + 1)) + 1 by omega, List.set_cons_succ]
      unfold mfind
      rw [mfind_set_ne hne h]
theorem mfind_push_ne {kt : Ty} {k k' : kt.den} {x : Int} (hne : kt.eqv k' k = false) : ∀ {m : List (kt.den × Int)} {i : Nat}, mfind kt k' (m ++ [(k, x)]) i = mfind kt k' m i
  | [], i => by
    show mfind kt k' [(k, x)] i = _
    unfold mfind
    rw [hne]; rfl
  | p :: r, i => by
    show mfind kt k' (p :: (r ++ [(k, x)])) i = _
    unfold mfind
    rw [mfind_push_ne hne]
theorem mget_mput_ne {kt : Ty} {k k' : kt.den} {x : Int} {m : List (kt.den × Int)} (hne : kt.eqv k' k = false) : mget kt k' (mput kt k x m) = mget kt k' m := by
  unfold mget mput
  cases h : mfind kt k m 0 with
  | some p =>
    obtain ⟨j, v⟩ := p
    have := mfind_set_ne (x := x) hne h
    rw [Nat.sub_zero] at this
    simp only [this]
  | none => simp only [mfind_push_ne hne]
end AM
end Go.Proofs.YtpcdcnmmkfhliaaGreatDoor

/-! A pool is right by the program just when it is by the reference, as plain functions. No condition. -/
namespace Go.Proofs.YtpcdcnmmkfhliaaGreatDoor
namespace AM
open Go
set_option linter.unusedVariables false
set_option linter.unusedSimpArgs false

abbrev Node3 := Int × (Int × Int)
abbrev kN : Ty := .pr (.int .i64) (.pr (.int .i64) (.int .i64))

theorem inRange_eq (n : Nat) (a b c : Int) : impl_inRange n (a, b, c) = some (decide (a ≥ b) && decide (a ≤ c)) := by
  unfold impl_inRange
  cases decide (a ≥ b) <;> rfl
theorem in_eq (n : Nat) (a b c : Int) : spec_l1In n (a, b, c) = some (decide (a ≥ b) && decide (a ≤ c)) := inRange_eq n a b c
theorem count_some (n : Nat) (x : Int) : ∃ v, impl_count n x = some v := by
  unfold impl_count
  simp only [cond_eq_ite]
  repeat' split
  all_goals exact ⟨_, rfl⟩
theorem nodeOk_some (n : Nat) (x : Int × Int × Int × Int) : ∃ v, impl_nodeOk n x = some v := by
  unfold impl_nodeOk
  obtain ⟨v, hv⟩ := count_some n x.1
  rw [hv]
  simp only [Option.bind_some, inRange_eq, cond_eq_ite]
  repeat' split
  all_goals exact ⟨_, rfl⟩
def nodeV (n : Nat) (x : Int × Int × Int × Int) : Bool := (impl_nodeOk n x).getD false
theorem nodeOk_eq (n : Nat) (x) : impl_nodeOk n x = some (nodeV n x) := by
  obtain ⟨v, hv⟩ := nodeOk_some n x
  unfold nodeV
  rw [hv]; rfl
theorem right_eq (n : Nat) (x) : spec_l1Right n x = some (nodeV n x) := nodeOk_eq n x

/-- The rest of a pool is right behind what stands before. -/
def okFrom (n : Nat) (pre : List Node3) : List Node3 → Bool
  | [] => true
  | k :: r => (!pre.contains k && nodeV n (k.1, k.2.1, k.2.2, (pre.length : Int))) && okFrom n (pre ++ [k]) r

theorem find_loop (n : Nat) {pre r : List Node3} {k : Node3} (hx : (pre ++ k :: r).length ≤ 4294967296) : ∀ (m j : Nat), j ≤ pre.length → pre.length < m + j →
    ∃ q : Nat, spec_l1Find_L2 n m (pre ++ k :: r, k.1, k.2.1, k.2.2, (j : Int)) = some (Sum.inl (q : Int)) ∧ q ≤ pre.length ∧ (q = pre.length ↔ k ∉ pre.drop j)
  | 0, j, h1, h2 => by omega
  | m + 1, j, h1, h2 => by
    have hlt : j < (pre ++ k :: r).length := by simp; omega
    have e0 : spec_l1Find_L2 n (m + 1) (pre ++ k :: r, k.1, k.2.1, k.2.2, (j : Int)) = (cond (decide ((j : Int) < ((pre ++ k :: r).length : Int))) (cond (inb (j : Int) (pre ++ k :: r).length) (cond (((pre ++ k :: r).getD ((j : Int)).toNat ((0 : Int), ((0 : Int), (0 : Int)))).1 == k.1 && (((pre ++ k :: r).getD ((j : Int)).toNat ((0 : Int), ((0 : Int), (0 : Int)))).2.1 == k.2.1 && (((pre ++ k :: r).getD ((j : Int)).toNat ((0 : Int), ((0 : Int), (0 : Int)))).2.2 == k.2.2 && true))) (some (Sum.inl (j : Int))) (spec_l1Find_L2 n m (pre ++ k :: r, k.1, k.2.1, k.2.2, IntKind.i64.wrap ((j : Int) + (1 : Int))))) none) (some (Sum.inr ()))) := rfl
    rw [e0, decide_eq_true (by omega : (j : Int) < ((pre ++ k :: r).length : Int)), cond_true, inb_nat hlt, cond_true, Int.toNat_natCast, getD_of hlt]
    have heq : ∀ p : Node3, (p.1 == k.1 && (p.2.1 == k.2.1 && (p.2.2 == k.2.2 && true))) = decide (p = k) := by
      intro p
      obtain ⟨p1, p2, p3⟩ := p
      obtain ⟨k1, k2, k3⟩ := k
      rw [Bool.eq_iff_iff]
      simp
    rw [heq]
    rcases Nat.lt_or_ge j pre.length with q | q
    · have hg : (pre ++ k :: r)[j] = pre[j] := List.getElem_append_left q
      rw [hg]
      have hd : pre.drop j = pre[j] :: pre.drop (j + 1) := List.drop_eq_getElem_cons q
      by_cases hk : pre[j] = k
      · rw [decide_eq_true hk, cond_true]
        exact ⟨j, rfl, by omega, by rw [hd, hk]; simp; omega⟩
      · rw [decide_eq_false hk, cond_false, step_wrap hlt hx]
        obtain ⟨z, g1, g2, g3⟩ := find_loop n hx m (j + 1) q (by omega)
        refine ⟨z, g1, g2, g3.trans ?_⟩
        rw [hd, List.mem_cons]
        constructor
        · intro h h2
          rcases h2 with h2 | h2
          · exact hk h2.symm
          · exact h h2
        · exact fun h h2 => h (.inr h2)
    · have hj : j = pre.length := by omega
      subst hj
      rw [show (pre ++ k :: r)[pre.length] = k by simp, decide_eq_true rfl, cond_true]
      exact ⟨pre.length, rfl, Nat.le_refl _, by simp⟩

theorem find_eq (n : Nat) (hn : 4294967296 < n) {pre r : List Node3} {k : Node3} (hx : (pre ++ k :: r).length ≤ 4294967296) : ∃ q : Int, spec_l1Find n (pre ++ k :: r, k.1, k.2.1, k.2.2) = some q ∧ (q != (pre.length : Int)) = pre.contains k := by
  have hlen : pre.length < n := by have : pre.length ≤ (pre ++ k :: r).length := by simp
                                   omega
  obtain ⟨z, g1, g2, g3⟩ := find_loop n hx n 0 (Nat.zero_le _) (by omega)
  refine ⟨(z : Int), ?_, ?_⟩
  · show ((spec_l1Find_L2 n n (pre ++ k :: r, k.1, k.2.1, k.2.2, ((0 : Nat) : Int))).bind _) = _
    rw [g1]; rfl
  · rw [List.drop_zero] at g3
    rw [Bool.eq_iff_iff]
    simp only [bne_iff_ne, ne_eq, List.contains_iff_mem]
    constructor
    · intro h
      exact Classical.byContradiction fun h2 => h (by rw [g3.2 h2])
    · intro h h2
      exact (g3.1 (by omega)) h

theorem specPool_loop (n : Nat) (hn : 4294967296 < n) : ∀ (m : Nat) (pre r : List Node3), (pre ++ r).length ≤ 4294967296 → r.length < m → spec_PoolOk_L4 n m (pre ++ r, (pre.length : Int)) = some (bif okFrom n pre r then Sum.inr () else Sum.inl false)
  | 0, pre, r, hx, hm => by omega
  | m + 1, pre, [], hx, hm => by
    show (cond (decide ((pre.length : Int) < ((pre ++ []).length : Int))) _ _) = _
    rw [decide_eq_false (by simp), cond_false]; rfl
  | m + 1, pre, k :: r, hx, hm => by
    have hlt : pre.length < (pre ++ k :: r).length := by simp
    have e0 : spec_PoolOk_L4 n (m + 1) (pre ++ k :: r, (pre.length : Int)) = (cond (decide ((pre.length : Int) < ((pre ++ k :: r).length : Int))) (cond (inb (pre.length : Int) (pre ++ k :: r).length) ((spec_l1Right n (((pre ++ k :: r).getD ((pre.length : Int)).toNat ((0 : Int), ((0 : Int), (0 : Int)))).1, ((pre ++ k :: r).getD ((pre.length : Int)).toNat ((0 : Int), ((0 : Int), (0 : Int)))).2.1, ((pre ++ k :: r).getD ((pre.length : Int)).toNat ((0 : Int), ((0 : Int), (0 : Int)))).2.2, (pre.length : Int))).bind fun r1 => (cond (!r1) (some (Sum.inl false)) (cond (inb (pre.length : Int) (pre ++ k :: r).length) ((spec_l1Find n (pre ++ k :: r, ((pre ++ k :: r).getD ((pre.length : Int)).toNat ((0 : Int), ((0 : Int), (0 : Int)))).1, ((pre ++ k :: r).getD ((pre.length : Int)).toNat ((0 : Int), ((0 : Int), (0 : Int)))).2.1, ((pre ++ k :: r).getD ((pre.length : Int)).toNat ((0 : Int), ((0 : Int), (0 : Int)))).2.2)).bind fun r2 => (cond (r2 != (pre.length : Int)) (some (Sum.inl false)) (spec_PoolOk_L4 n m (pre ++ k :: r, IntKind.i64.wrap ((pre.length : Int) + (1 : Int)))))) none))) none) (some (Sum.inr ()))) := rfl
    obtain ⟨q, g1, g2⟩ := find_eq n hn (pre := pre) (r := r) (k := k) hx
    rw [e0, decide_eq_true (by omega : (pre.length : Int) < ((pre ++ k :: r).length : Int)), cond_true, inb_nat hlt, cond_true, Int.toNat_natCast, getD_of hlt, show (pre ++ k :: r)[pre.length] = k by simp, right_eq, g1]
    simp only [Option.bind_some, cond_true]
    rw [g2, step_wrap hlt hx]
    have ih := specPool_loop n hn m (pre ++ [k]) r (by simpa using hx) (by simp at hm; omega)
    rw [show pre ++ [k] ++ r = pre ++ k :: r by simp, show (pre ++ [k]).length = pre.length + 1 by simp] at ih
    rw [ih]
    rw [show okFrom n pre (k :: r) = ((!pre.contains k && nodeV n (k.1, k.2.1, k.2.2, (pre.length : Int))) && okFrom n (pre ++ [k]) r) from rfl]
    cases nodeV n (k.1, k.2.1, k.2.2, (pre.length : Int)) <;> cases pre.contains k <;> cases okFrom n (pre ++ [k]) r <;> rfl

theorem specPool_eq (n : Nat) (hn : 4294967296 < n) {xs : List Node3} (hx : xs.length ≤ 4294967296) : spec_PoolOk n xs = some (decide (xs.length ≤ 500) && okFrom n [] xs) := by
  unfold spec_PoolOk
  by_cases q : xs.length ≤ 500
  · rw [decide_eq_false (by omega : ¬ (xs.length : Int) > (500 : Int)), cond_false, decide_eq_true q, Bool.true_and]
    have := specPool_loop n hn n [] xs (by simpa using hx) (by omega)
    rw [List.nil_append, show (([] : List Node3).length : Int) = (0 : Int) from rfl] at this
    rw [this]
    cases okFrom n [] xs <;> rfl
  · rw [decide_eq_true (by omega : (xs.length : Int) > (500 : Int)), cond_true, decide_eq_false q]; rfl

/-! ### The program's side: a counter -/
def Cnt (kvs : List (Node3 × Int)) (pre : List Node3) : Prop := ∀ k : Node3, mget kN k kvs = if k ∈ pre then 1 else 0

theorem eqv_N {a b : Node3} : kN.eqv a b = decide (a = b) := by
  rw [Bool.eq_iff_iff, decide_eq_true_iff]
  exact ⟨eqv_eq kN, fun h => h ▸ eqv_self kN rfl a⟩

theorem region_eq (n : Nat) (kvs : List (Node3 × Int)) (i a b c : Int) (xs : List Node3) (l j : Int) : impl_PoolOk_R7 n (kvs, i, a, b, c, xs, l, j) = some (mput kN (a, b, c) (IntKind.i64.wrap (mget kN (a, b, c) kvs + (1 : Int))) kvs, i, a, b, c, xs, l, j) := by
  unfold impl_PoolOk_R7
  rw [mpos_in, cond_true, mset_mput]

theorem implPool_loop (n : Nat) {xs : List Node3} (hx : xs.length ≤ 4294967296) : ∀ (m : Nat) (pre r : List Node3) (kvs : List (Node3 × Int)), xs = pre ++ r → Cnt kvs pre → r.length < m → impl_PoolOk_L5 n m (kvs, xs, (xs.length : Int), (pre.length : Int)) = some (bif okFrom n pre r then Sum.inr () else Sum.inl false)
  | 0, pre, r, kvs, he, hc, hm => by omega
  | m + 1, pre, [], kvs, he, hc, hm => by
    show (cond (decide ((pre.length : Int) < (xs.length : Int))) _ _) = _
    rw [decide_eq_false (by rw [he]; simp), cond_false]; rfl
  | m + 1, pre, k :: r, kvs, he, hc, hm => by
    have hlt : pre.length < xs.length := by rw [he]; simp
    have hk : xs[pre.length] = k := by simp [he]
    have e0 : impl_PoolOk_L5 n (m + 1) (kvs, xs, (xs.length : Int), (pre.length : Int)) = (cond (decide ((pre.length : Int) < (xs.length : Int))) (cond (inb (pre.length : Int) xs.length) ((impl_PoolOk_R7 n (kvs, (pre.length : Int), (xs.getD ((pre.length : Int)).toNat ((0 : Int), ((0 : Int), (0 : Int)))).1, (xs.getD ((pre.length : Int)).toNat ((0 : Int), ((0 : Int), (0 : Int)))).2.1, (xs.getD ((pre.length : Int)).toNat ((0 : Int), ((0 : Int), (0 : Int)))).2.2, xs, (xs.length : Int), (pre.length : Int))).bind fun g1 => (cond (decide ((mget kN (g1.2.2.1, (g1.2.2.2.1, g1.2.2.2.2.1)) g1.1) > (1 : Int))) (some (Sum.inl false)) ((impl_nodeOk n (g1.2.2.1, g1.2.2.2.1, g1.2.2.2.2.1, g1.2.1)).bind fun r2 => (cond (!r2) (some (Sum.inl false)) (impl_PoolOk_L5 n m (g1.1, g1.2.2.2.2.2.1, g1.2.2.2.2.2.2.1, (IntKind.i64.wrap (g1.2.2.2.2.2.2.2 + (1 : Int))))))))) none) (some (Sum.inr ()))) := rfl
    rw [e0, decide_eq_true (by omega : (pre.length : Int) < (xs.length : Int)), cond_true, inb_nat hlt, cond_true, Int.toNat_natCast, getD_of hlt, hk, region_eq]
    simp only [Option.bind_some]
    have hself : kN.eqv (k.1, k.2.1, k.2.2) (k.1, k.2.1, k.2.2) = true := eqv_self kN rfl _
    have hke : ((k.1, k.2.1, k.2.2) : Node3) = k := rfl
    rw [mget_mput hself, nodeOk_eq, step_wrap hlt hx]
    rw [show okFrom n pre (k :: r) = ((!pre.contains k && nodeV n (k.1, k.2.1, k.2.2, (pre.length : Int))) && okFrom n (pre ++ [k]) r) from rfl]
    have hck := hc k
    by_cases hin : k ∈ pre
    · rw [if_pos hin] at hck
      have : pre.contains k = true := by simpa using hin
      rw [this, show mget kN (k.1, k.2.1, k.2.2) kvs = 1 from hck]
      rfl
    · rw [if_neg hin] at hck
      have hcf : pre.contains k = false := by simpa using hin
      rw [hcf, show mget kN (k.1, k.2.1, k.2.2) kvs = 0 from hck]
      rw [show decide (IntKind.i64.wrap ((0 : Int) + (1 : Int)) > (1 : Int)) = false from rfl, cond_false]
      have ih := implPool_loop n hx m (pre ++ [k]) r (mput kN k (IntKind.i64.wrap ((0 : Int) + (1 : Int))) kvs) (by simpa using he) (by
        intro k'
        by_cases q : k' = k
        · subst q
          rw [mget_mput (eqv_self kN rfl k')]
          simp; rfl
        · rw [mget_mput_ne (by rw [eqv_N]; exact decide_eq_false q), hc k']
          simp [q]) (by simp at hm; omega)
      rw [show (pre ++ [k]).length = pre.length + 1 by simp] at ih
      simp only [Option.bind_some]
      rw [show mput kN (k.1, k.2.1, k.2.2) (IntKind.i64.wrap ((0 : Int) + (1 : Int))) kvs = mput kN k (IntKind.i64.wrap ((0 : Int) + (1 : Int))) kvs from rfl, ih]
      cases nodeV n (k.1, k.2.1, k.2.2, (pre.length : Int)) <;> cases okFrom n (pre ++ [k]) r <;> rfl

theorem implPool_eq (n : Nat) (hn : 4294967296 < n) {xs : List Node3} (hx : xs.length ≤ 4294967296) : impl_PoolOk n xs = some (decide (xs.length ≤ 500) && okFrom n [] xs) := by
  unfold impl_PoolOk
  by_cases q : xs.length ≤ 500
  · rw [decide_eq_false (by omega : ¬ (xs.length : Int) > (500 : Int)), cond_false, decide_eq_true q, Bool.true_and]
    have := implPool_loop n hx n [] xs [] rfl (fun k => by simp [mget, mfind]) (by omega)
    rw [show (([] : List Node3).length : Int) = (0 : Int) from rfl] at this
    rw [this]
    cases okFrom n [] xs <;> rfl
  · rw [decide_eq_true (by omega : (xs.length : Int) > (500 : Int)), cond_true, decide_eq_false q]; rfl

/-- One answer on both sides. -/
theorem pool_same (n : Nat) (hn : 4294967296 < n) {xs : List Node3} (hx : xs.length ≤ 4294967296) : impl_PoolOk n xs = spec_PoolOk n xs := (implPool_eq n hn hx).trans (specPool_eq n hn hx).symm

end AM
end Go.Proofs.YtpcdcnmmkfhliaaGreatDoor

/-! An instance is right by the program just when it is by the reference, as plain functions. No condition. -/
namespace Go.Proofs.YtpcdcnmmkfhliaaGreatDoor
namespace AM
open Go
set_option linter.unusedVariables false
set_option linter.unusedSimpArgs false

def hasB (xs : List Node3) (v : Int) : Bool := decide (v ≥ 0) && decide (v ≤ (xs.length : Int) - 1)
theorem has_eq (n : Nat) {xs : List Node3} (hx : xs.length ≤ 4294967296) (v : Int) : spec_l1Has n (xs, v) = some (hasB xs v) := by
  show ((spec_l1In n (v, (0 : Int), IntKind.i64.wrap ((xs.length : Int) - (1 : Int)))).bind fun r1 => some r1) = _
  rw [wrap_ok (by omega) (by omega), in_eq]; rfl
theorem isTerm_eq (n : Nat) {xs : List Node3} (hx : xs.length ≤ 4294967296) (v : Int) : impl_Pool_isTerm n (xs, v) = some (xs, hasB xs v) := by
  show ((impl_inRange n (v, (0 : Int), IntKind.i64.wrap ((xs.length : Int) - (1 : Int)))).bind fun r1 => some (xs, r1)) = _
  rw [wrap_ok (by omega) (by omega), inRange_eq]; rfl

def envB (xs : List Node3) : List Int → Bool
  | [] => true
  | v :: r => (v == -1 || hasB xs v) && envB xs r

theorem implEnv_loop (n : Nat) {xs : List Node3} (hx : xs.length ≤ 4294967296) {env : List Int} (he : env.length ≤ 4294967296) : ∀ (m : Nat) (pre r : List Int), env = pre ++ r → r.length < m →
    impl_EnvOk_L2 n m (env, xs, env, (env.length : Int), (pre.length : Int)) = some (bif envB xs r then Sum.inr (env, xs) else Sum.inl false)
  | 0, pre, r, h, hm => by omega
  | m + 1, pre, [], h, hm => by
    show (cond (decide ((pre.length : Int) < (env.length : Int))) _ _) = _
    rw [decide_eq_false (by rw [h]; simp), cond_false]; rfl
  | m + 1, pre, v :: r, h, hm => by
    have hlt : pre.length < env.length := by rw [h]; simp
    have hk : env[pre.length] = v := by simp [h]
    have e0 : impl_EnvOk_L2 n (m + 1) (env, xs, env, (env.length : Int), (pre.length : Int)) = (cond (decide ((pre.length : Int) < (env.length : Int))) (cond (inb (pre.length : Int) env.length) (cond ((env.getD ((pre.length : Int)).toNat (0 : Int)) != (-1 : Int)) ((impl_Pool_isTerm n (xs, (env.getD ((pre.length : Int)).toNat (0 : Int)))).bind fun r1 => (cond (!r1.2) (some (Sum.inl false)) (impl_EnvOk_L2 n m (env, r1.1, env, (env.length : Int), (IntKind.i64.wrap ((pre.length : Int) + (1 : Int))))))) (impl_EnvOk_L2 n m (env, xs, env, (env.length : Int), (IntKind.i64.wrap ((pre.length : Int) + (1 : Int)))))) none) (some (Sum.inr (env, xs)))) := rfl
    rw [e0, decide_eq_true (by omega : (pre.length : Int) < (env.length : Int)), cond_true, inb_nat hlt, cond_true, Int.toNat_natCast, getD_of hlt, hk, step_wrap hlt he, isTerm_eq n hx]
    have ih := implEnv_loop n hx he m (pre ++ [v]) r (by simpa using h) (by simp at hm; omega)
    rw [show (pre ++ [v]).length = pre.length + 1 by simp] at ih
    simp only [Option.bind_some, ih]
    rw [show envB xs (v :: r) = ((v == -1 || hasB xs v) && envB xs r) from rfl, show (v != -1) = !(v == -1) from rfl]
    cases v == -1 <;> cases hasB xs v <;> cases envB xs r <;> rfl

theorem implEnv_eq (n : Nat) (hn : 4294967296 < n) {xs : List Node3} (hx : xs.length ≤ 4294967296) {env : List Int} (he : env.length ≤ 4294967296) :
    impl_EnvOk n (xs, env) = some (envB xs env && (decide (env.length = 26) && (decide (xs.length ≤ 500) && okFrom n [] xs))) := by
  have := implEnv_loop n hx he n [] env rfl (by omega)
  rw [show (([] : List Int).length : Int) = (0 : Int) from rfl] at this
  show ((impl_EnvOk_L2 n n (env, xs, env, (env.length : Int), (0 : Int))).bind _) = _
  rw [this]
  cases envB xs env with
  | false => rfl
  | true =>
    show (cond ((env.length : Int) == (26 : Int)) ((impl_PoolOk n xs).bind fun r5 => some r5) (some false)) = _
    rw [implPool_eq n hn hx]
    by_cases q : env.length = 26
    · rw [show ((env.length : Int) == (26 : Int)) = true by rw [q]; rfl, decide_eq_true q]; rfl
    · rw [show ((env.length : Int) == (26 : Int)) = false by simp; omega, decide_eq_false q]; rfl

theorem specEnv_loop (n : Nat) {xs : List Node3} (hx : xs.length ≤ 4294967296) {env : List Int} (he : env.length = 26) : ∀ (m : Nat) (pre r : List Int), env = pre ++ r → r.length < m →
    spec_l11Env_L4 n m (env, xs, (pre.length : Int)) = some (bif envB xs r then Sum.inr () else Sum.inl false)
  | 0, pre, r, h, hm => by omega
  | m + 1, pre, [], h, hm => by
    show (cond (decide ((pre.length : Int) < (26 : Int))) _ _) = _
    have : pre.length = 26 := by rw [h] at he; simpa using he
    rw [decide_eq_false (by omega), cond_false]; rfl
  | m + 1, pre, v :: r, h, hm => by
    have hlt : pre.length < env.length := by rw [h]; simp
    have hk : env[pre.length] = v := by simp [h]
    have e0 : spec_l11Env_L4 n (m + 1) (env, xs, (pre.length : Int)) = (cond (decide ((pre.length : Int) < (26 : Int))) (cond (inb (pre.length : Int) env.length) (cond ((env.getD ((pre.length : Int)).toNat (0 : Int)) != (-1 : Int)) (cond (inb (pre.length : Int) env.length) ((spec_l1Has n (xs, (env.getD ((pre.length : Int)).toNat (0 : Int)))).bind fun r1 => (cond (!r1) (some (Sum.inl false)) (spec_l11Env_L4 n m (env, xs, (IntKind.i64.wrap ((pre.length : Int) + (1 : Int))))))) none) (spec_l11Env_L4 n m (env, xs, (IntKind.i64.wrap ((pre.length : Int) + (1 : Int)))))) none) (some (Sum.inr ()))) := rfl
    rw [e0, decide_eq_true (by omega : (pre.length : Int) < (26 : Int)), cond_true, inb_nat hlt, cond_true, cond_true, Int.toNat_natCast, getD_of hlt, hk, step_wrap hlt (by omega), has_eq n hx]
    have ih := specEnv_loop n hx he m (pre ++ [v]) r (by simpa using h) (by simp at hm; omega)
    rw [show (pre ++ [v]).length = pre.length + 1 by simp] at ih
    simp only [Option.bind_some, ih]
    rw [show envB xs (v :: r) = ((v == -1 || hasB xs v) && envB xs r) from rfl, show (v != -1) = !(v == -1) from rfl]
    cases v == -1 <;> cases hasB xs v <;> cases envB xs r <;> rfl

theorem specEnv_eq (n : Nat) (hn : 4294967296 < n) {xs : List Node3} (hx : xs.length ≤ 4294967296) {env : List Int} : spec_l11Env n (xs, env) = some (decide (env.length = 26) && envB xs env) := by
  show (cond ((env.length : Int) != (26 : Int)) (some false) ((spec_l11Env_L4 n n (env, xs, (0 : Int))).bind _)) = _
  by_cases q : env.length = 26
  · have := specEnv_loop n hx q n [] env rfl (by omega)
    rw [show (([] : List Int).length : Int) = (0 : Int) from rfl] at this
    rw [show ((env.length : Int) != (26 : Int)) = false by rw [q]; rfl, cond_false, this, decide_eq_true q]
    cases envB xs env <;> rfl
  · rw [show ((env.length : Int) != (26 : Int)) = true by simp; omega, decide_eq_false q]; rfl

/-! ### Roles: six texts -/
theorem role_of {w p : Int} {L : Nat} (h1 : (impl_roleOf N0 (w, p)).map (fun r => (r.1.length, r.2)) = some (L, true)) (h2 : (spec_l12Acts N0 (w, p)).map List.length = some L) (h3 : spec_l13Role N0 (w, p) = some true) (h4 : L ≤ 20) :
    ∃ a b, impl_roleOf N0 (w, p) = some (a, true) ∧ spec_l12Acts N0 (w, p) = some b ∧ a.length = b.length ∧ a.length ≤ 20 ∧ spec_l13Role N0 (w, p) = some true := by
  cases e1 : impl_roleOf N0 (w, p) with
  | none => rw [e1] at h1; cases h1
  | some r =>
    cases e2 : spec_l12Acts N0 (w, p) with
    | none => rw [e2] at h2; cases h2
    | some b =>
      rw [e1] at h1
      rw [e2] at h2
      obtain ⟨g1, g2⟩ := Prod.mk.inj (Option.some.inj h1)
      have g3 : b.length = L := Option.some.inj h2
      obtain ⟨a, t⟩ := r
      have g2 : t = true := g2
      subst g2
      exact ⟨a, b, rfl, rfl, by rw [g3]; exact g1, by have : a.length = L := g1; omega, h3⟩

theorem role_in (w p : Int) (hw : w = 1 ∨ w = 2 ∨ w = 3) (hp : p = 0 ∨ p = 1) : ∃ a b, impl_roleOf N0 (w, p) = some (a, true) ∧ spec_l12Acts N0 (w, p) = some b ∧ a.length = b.length ∧ a.length ≤ 20 ∧ spec_l13Role N0 (w, p) = some true := by
  rcases hw with rfl | rfl | rfl <;> rcases hp with rfl | rfl
  all_goals exact role_of (L := 5) (by kernel_rfl) (by kernel_rfl) (by kernel_rfl) (by omega)
end AM
end Go.Proofs.YtpcdcnmmkfhliaaGreatDoor

/-! The law FnExactInstOk, as a plain function, comes to true. No condition but that lists are no longer than memory. -/
namespace Go.Proofs.YtpcdcnmmkfhliaaGreatDoor
namespace AM
open Go
set_option linter.unusedVariables false
set_option linter.unusedSimpArgs false

theorem role_out (w p : Int) (h : ¬ ((w = 1 ∨ w = 2 ∨ w = 3) ∧ (p = 0 ∨ p = 1))) : impl_roleOf N0 (w, p) = some ([], false) ∧ spec_l13Role N0 (w, p) = some false := by
  constructor
  · have e1 : impl_RoleText N0 (w, p) = some (⟨#[]⟩ : ByteArray) := by
      unfold impl_RoleText
      simp only [inRange_eq, Option.bind_some]
      by_cases h1 : decide (w ≥ 1) && decide (w ≤ 3)
      · rw [h1]
        have h2 : (decide (p ≥ 0) && decide (p ≤ 1)) = false := by
          rw [Bool.eq_false_iff]
          intro h2
          simp at h1 h2
          omega
        rw [h2]; rfl
      · rw [Bool.not_eq_true] at h1
        rw [h1]; rfl
    show ((impl_RoleText N0 (w, p)).bind _) = _
    rw [e1]
    show ((impl_RoleParse N0 (⟨#[]⟩ : ByteArray)).bind fun r2 => some (r2.1, r2.2)) = _
    rw [show impl_RoleParse N0 (⟨#[]⟩ : ByteArray) = some ([], false) by kernel_rfl]; rfl
  · have e1 : spec_RoleText N0 (w, p) = some (⟨#[]⟩ : ByteArray) := by
      unfold spec_RoleText
      have q : ∀ a b : Int, (w == a) = decide (w = a) := fun a b => rfl
      by_cases w1 : w = 1
      · subst w1
        have p0 : (p == 0) = false := by simp; omega
        have p1 : (p == 1) = false := by simp; omega
        simp only [p0, p1]; rfl
      · by_cases w2 : w = 2
        · subst w2
          have p0 : (p == 0) = false := by simp; omega
          have p1 : (p == 1) = false := by simp; omega
          simp only [p0, p1]; rfl
        · by_cases w3 : w = 3
          · subst w3
            have p0 : (p == 0) = false := by simp; omega
            have p1 : (p == 1) = false := by simp; omega
            simp only [p0, p1]; rfl
          · have e1 : (w == 1) = false := by simpa using w1
            have e2 : (w == 2) = false := by simpa using w2
            have e3 : (w == 3) = false := by simpa using w3
            simp only [e1, e2, e3]; rfl
    show ((spec_RoleText N0 (w, p)).bind fun r1 => some (!strEq r1 (⟨#[]⟩ : ByteArray))) = _
    rw [e1]
    show some (!strEq (⟨#[]⟩ : ByteArray) (⟨#[]⟩ : ByteArray)) = _
    rw [show strEq (⟨#[]⟩ : ByteArray) (⟨#[]⟩ : ByteArray) = true from decide_eq_true rfl]; rfl

theorem agent_eq (n : Nat) (x : Int) : impl_isAgent n x = some (decide (x ≥ 0) && decide (x ≤ 4)) := by
  show ((impl_inRange n (x, (0 : Int), (4 : Int))).bind fun r => some r) = _
  rw [inRange_eq]; rfl
theorem agent2_eq (n : Nat) (x : Int) : spec_l2Agent n x = some (decide (x ≥ 0) && decide (x ≤ 4)) := agent_eq n x

theorem n0 : 4294967296 < N0 := by decide

theorem inst_same {xs : List Node3} (hx : xs.length ≤ 4294967296) {w p a b at_ : Int} {env : List Int} (he : env.length ≤ 4294967296) {dn dd : Bool} {key : Int} :
    ∃ v, impl_InstOk N0 (xs, w, p, a, b, at_, env, dn, dd, key) = some v ∧ spec_InstOk N0 (xs, w, p, a, b, at_, env, dn, dd, key) = some v := by
  unfold impl_InstOk spec_InstOk spec_l13Inst
  simp only [specPool_eq N0 n0 hx, implEnv_eq N0 n0 hx he, specEnv_eq N0 n0 hx, agent_eq, agent2_eq, Option.bind_some]
  by_cases hr : (w = 1 ∨ w = 2 ∨ w = 3) ∧ (p = 0 ∨ p = 1)
  · obtain ⟨ra, rb, r1, r2, r3, r4, r5⟩ := role_in w p hr.1 hr.2
    rw [r1, r2, r5]
    simp only [Option.bind_some, inRange_eq, in_eq, isTerm_eq N0 hx, has_eq N0 hx, ← r3, wrap_ok (show -9223372036854775808 ≤ (ra.length : Int) - 1 by omega) (show (ra.length : Int) - 1 ≤ 9223372036854775807 by omega)]
    generalize (decide (a ≥ 0) && decide (a ≤ 4)) = A
    generalize (decide (b ≥ 0) && decide (b ≤ 4)) = B
    generalize (a == b) = C
    generalize envB xs env = D
    generalize decide (env.length = 26) = F
    generalize (decide (xs.length ≤ 500) && okFrom N0 [] xs) = G
    generalize hasB xs key = H
    generalize (key == -1) = K
    have hq : (at_ == (ra.length : Int)) = true → (decide (at_ ≥ 0) && decide (at_ ≤ (ra.length : Int))) = true := by
      intro h
      have : at_ = (ra.length : Int) := by simpa using h
      simp; omega
    have hq2 : (at_ == (ra.length : Int)) = false → (decide (at_ ≥ 0) && decide (at_ ≤ (ra.length : Int) - 1)) = (decide (at_ ≥ 0) && decide (at_ ≤ (ra.length : Int))) := by
      intro h
      have : at_ ≠ (ra.length : Int) := by simpa using h
      congr 1
      rw [Bool.eq_iff_iff]; simp; omega
    have hq3 : (at_ == (ra.length : Int)) = true → (decide (at_ ≥ 0) && decide (at_ ≤ (ra.length : Int) - 1)) = false := by
      intro h
      have : at_ = (ra.length : Int) := by simpa using h
      rw [Bool.and_eq_false_iff]; right; simp; omega
    revert hq hq2 hq3
    generalize (at_ == (ra.length : Int)) = M
    generalize (decide (at_ ≥ 0) && decide (at_ ≤ (ra.length : Int))) = R
    generalize (decide (at_ ≥ 0) && decide (at_ ≤ (ra.length : Int) - 1)) = R2
    intro hq hq2 hq3
    cases M
    · have := hq2 rfl
      subst this
      refine ⟨A && (B && (!C && (D && (F && (G && (R2 && (!dn && K))))))), ?_, ?_⟩ <;> clear hq hq2 hq3 <;> revert A B C D F G H K R2 dn dd <;> decide
    · have h1 := hq rfl
      have h2 := hq3 rfl
      subst h1; subst h2
      refine ⟨A && (B && (!C && (D && (F && (G && (dn && (!dd && H))))))), ?_, ?_⟩ <;> clear hq hq2 hq3 <;> revert A B C D F G H K dn dd <;> decide
  · obtain ⟨r1, r2⟩ := role_out w p hr
    rw [r1, r2]
    refine ⟨false, rfl, ?_⟩
    cases (decide (xs.length ≤ 500) && okFrom N0 [] xs) <;> rfl

theorem szPool_eq (n : Nat) {xs : List Node3} (hx : xs.length ≤ 9223372036854775807) : laws_szPool n (xs, (1048576 : Int)) = some (if xs.length ≤ 1048576 then (1048576 : Int) - (xs.length : Int) else -1) := by
  unfold laws_szPool laws_szNodeS
  simp only [wrap_ok (show -9223372036854775808 ≤ (1048576 : Int) - (xs.length : Int) by omega) (show (1048576 : Int) - (xs.length : Int) ≤ 9223372036854775807 by omega)]
  by_cases q : xs.length ≤ 1048576
  · rw [if_pos q, decide_eq_false (by omega : ¬ (1048576 : Int) - (xs.length : Int) < (0 : Int))]
    simp only [cond_false, Option.bind_some]
    rw [decide_eq_false (by omega : ¬ (1048576 : Int) - (xs.length : Int) < (0 : Int))]; rfl
  · rw [if_neg q, decide_eq_true (by omega : (1048576 : Int) - (xs.length : Int) < (0 : Int))]; rfl
theorem szInst_eq (n : Nat) {w p a b at_ : Int} {env : List Int} {dn dd : Bool} {key r : Int} (hr : 0 ≤ r ∧ r ≤ 1048576) (he : env.length ≤ 9223372036854775807) : laws_szInst n (w, p, a, b, at_, env, dn, dd, key, r) = some (if (env.length : Int) ≤ r then r - (env.length : Int) else -1) := by
  unfold laws_szInst laws_szIntS
  simp only [wrap_ok (show -9223372036854775808 ≤ r - (env.length : Int) by omega) (show r - (env.length : Int) ≤ 9223372036854775807 by omega)]
  by_cases q : (env.length : Int) ≤ r
  · rw [if_pos q, decide_eq_false (by omega : ¬ r - (env.length : Int) < (0 : Int))]
    simp only [cond_false, Option.bind_some]
    rw [decide_eq_false (by omega : ¬ r - (env.length : Int) < (0 : Int))]; rfl
  · rw [if_neg q, decide_eq_true (by omega : r - (env.length : Int) < (0 : Int))]; rfl

theorem instOk_law (xs : List Node3) (w p a b at_ : Int) (env : List Int) (dn dd : Bool) (key : Int) (hx : xs.length ≤ 9223372036854775807) (he : env.length ≤ 9223372036854775807) :
    laws_FnExactInstOk N0 (xs, w, p, a, b, at_, env, dn, dd, key) = some true := by
  unfold laws_FnExactInstOk
  simp only [szPool_eq N0 hx, Option.bind_some]
  by_cases q : xs.length ≤ 1048576
  · rw [if_pos q, decide_eq_false (by omega : ¬ (1048576 : Int) - (xs.length : Int) < (0 : Int)), cond_false, szInst_eq N0 (by omega) he]
    simp only [Option.bind_some]
    by_cases q2 : (env.length : Int) ≤ (1048576 : Int) - (xs.length : Int)
    · rw [if_pos q2, decide_eq_false (by omega : ¬ (1048576 : Int) - (xs.length : Int) - (env.length : Int) < (0 : Int)), cond_false]
      have hx' : xs.length ≤ 4294967296 := by omega
      have he' : env.length ≤ 4294967296 := by omega
      obtain ⟨v, g1, g2⟩ := inst_same hx' (w := w) (p := p) (a := a) (b := b) (at_ := at_) he' (dn := dn) (dd := dd) (key := key)
      simp only [toPool_eq N0 n0 hx', toInst_eq N0 n0 he', Option.bind_some, g1, g2, bne_self_eq_false, cond_false, eqPool_self N0 n0 hx', Bool.not_true, eqInst_self N0 n0 he']
    · rw [if_neg q2]; rfl
  · rw [if_neg q]; rfl
theorem maxLen_eq : maxLen = 9223372036854775807 := by decide

theorem instOk_law_td (x : TD (entys (parEns 0 (S3 0).pars))) (hx : FitsTD _ x) : laws_FnExactInstOk N0 x = some true := by
  obtain ⟨xs, w, p, a, b, at_, env, dn, dd, key⟩ := x
  have h1 : Fits (.sl kN) xs := hx ⟨.sl kN, xs⟩ (.head _)
  have h2 : Fits (.sl (.int .i64)) env := hx ⟨.sl (.int .i64), env⟩ (.tail _ (.tail _ (.tail _ (.tail _ (.tail _ (.tail _ (.head _)))))))
  exact instOk_law xs w p a b at_ env dn dd key (maxLen_eq ▸ h1.1) (maxLen_eq ▸ h2.1)
end AM
end Go.Proofs.YtpcdcnmmkfhliaaGreatDoor

/-! Tests over the places of a list; lists without doubles. No condition. -/
namespace Go.Proofs.YtpcdcnmmkfhliaaGreatDoor
namespace AM
open Go
set_option linter.unusedVariables false
set_option linter.unusedSimpArgs false

/-- A test at k places from i on. -/
def allN (g : Nat → Bool) : Nat → Nat → Bool
  | _, 0 => true
  | i, k + 1 => g i && allN g (i + 1) k

theorem allN_iff {g : Nat → Bool} : ∀ {k i : Nat}, allN g i k = true ↔ ∀ j, i ≤ j → j < i + k → g j = true
  | 0, i => ⟨fun _ j h1 h2 => by omega, fun _ => rfl⟩
  | k + 1, i => by
    show (g i && allN g (i + 1) k) = true ↔ _
    rw [Bool.and_eq_true, allN_iff]
    constructor
    · rintro ⟨h1, h2⟩ j g1 g2
      rcases Nat.eq_or_lt_of_le g1 with q | q
      · subst q; exact h1
      · exact h2 j q (by omega)
    · exact fun h => ⟨h i (Nat.le_refl _) (by omega), fun j g1 g2 => h j (by omega) (by omega)⟩

theorem nodup_len {α : Type} [DecidableEq α] : ∀ {l m : List α}, l.Nodup → (∀ x ∈ l, x ∈ m) → l.length ≤ m.length
  | [], m, _, _ => Nat.zero_le _
  | a :: l, m, hn, hs => by
    have ha := hs a (List.mem_cons_self ..)
    have hn' := List.nodup_cons.1 hn
    have := nodup_len (l := l) (m := m.erase a) hn'.2 (fun x hx => (List.mem_erase_of_ne (fun (e : x = a) => hn'.1 (e ▸ hx))).2 (hs x (List.mem_cons_of_mem _ hx)))
    rw [List.length_erase_of_mem ha] at this
    have : 0 < m.length := List.length_pos_of_mem ha
    simp; omega

/-- Of two lists without doubles, one of which holds the other: they hold the same just when they are of one length. -/
theorem nodup_full {α : Type} [DecidableEq α] {l m : List α} (hl : l.Nodup) (hm : m.Nodup) (hs : ∀ x ∈ l, x ∈ m) : (∀ x ∈ m, x ∈ l) ↔ l.length = m.length := by
  constructor
  · exact fun h => Nat.le_antisymm (nodup_len hl hs) (nodup_len hm h)
  · intro h x hx
    exact Classical.byContradiction fun hn => by
      have := nodup_len (l := x :: l) (m := m) (List.nodup_cons.2 ⟨hn, hl⟩) (fun y hy => by
        rcases List.mem_cons.1 hy with q | q
        · exact q ▸ hx
        · exact hs y q)
      simp at this; omega

/-- The places below n at which a test holds. -/
def places (d : Nat → Bool) (n : Nat) : List Nat := (List.range n).filter d
theorem places_nodup (d : Nat → Bool) (n : Nat) : (places d n).Nodup := List.nodup_range.filter _
theorem mem_places {d : Nat → Bool} {n i : Nat} : i ∈ places d n ↔ i < n ∧ d i = true := by
  unfold places
  rw [List.mem_filter, List.mem_range]
theorem places_succ (d : Nat → Bool) (n : Nat) : (places d (n + 1)).length = (places d n).length + (bif d n then 1 else 0) := by
  unfold places
  rw [List.range_succ, List.filter_append, List.length_append]
  cases h : d n <;> simp [h]
/-- A log without doubles, all of whose numbers are places at which a test holds: it names them all just when it is as long as they are many. -/
theorem log_full (done : Nat → Bool) (n : Nat) (L : List Int) (hnd : L.Nodup) (hin : ∀ k ∈ L, ∃ i : Nat, k = (i : Int) ∧ i < n ∧ done i = true) : (∀ i : Nat, i < n → done i = true → (i : Int) ∈ L) ↔ L.length = (places done n).length := by
  have hm : ((places done n).map Int.ofNat).Nodup := List.pairwise_map.2 ((places_nodup done n).imp fun hne e => hne (Int.ofNat.inj e))
  have := nodup_full hnd hm (fun k hk => by
    obtain ⟨i, rfl, h1, h2⟩ := hin k hk
    exact List.mem_map.2 ⟨i, mem_places.2 ⟨h1, h2⟩, rfl⟩)
  rw [List.length_map] at this
  rw [← this]
  constructor
  · intro h x hx
    obtain ⟨i, hi, rfl⟩ := List.mem_map.1 hx
    have := mem_places.1 hi
    exact h i this.1 this.2
  · intro h i h1 h2
    exact h _ (List.mem_map.2 ⟨i, mem_places.2 ⟨h1, h2⟩, rfl⟩)

theorem nodup_getD {L : List Int} : L.Nodup ↔ ∀ i, i < L.length → ∀ j, j < i → L.getD j 0 ≠ L.getD i 0 := by
  rw [List.Nodup, List.pairwise_iff_getElem]
  constructor
  · intro h i hi j hj
    rw [getD_of hi, getD_of (by omega)]
    exact h j i (by omega) hi hj
  · intro h i j hi hj hij
    have := h j hj i hij
    rw [getD_of hi, getD_of hj] at this
    exact this
end AM
end Go.Proofs.YtpcdcnmmkfhliaaGreatDoor

/-! A world is right by the program just when it is by the reference, as plain functions. No condition. -/
namespace Go.Proofs.YtpcdcnmmkfhliaaGreatDoor
namespace AM
open Go
set_option linter.unusedVariables false
set_option linter.unusedSimpArgs false

abbrev Inst9 := Int × (Int × (Int × (Int × (Int × ((List Int) × (Bool × (Bool × Int)))))))
abbrev Claim3 := Int × (Bool × Bool)
abbrev zI : Inst9 := ((0 : Int), ((0 : Int), ((0 : Int), ((0 : Int), ((0 : Int), ([], (false, (false, (0 : Int)))))))))
abbrev zC : Claim3 := ((0 : Int), (false, false))

/-- A loop that tests place by place. -/
theorem test_loop {X A B : Type} (L : Nat → X → Option (A ⊕ B)) (st : Nat → X) (g : Nat → Bool) (bad : A) (fin : B) (len : Nat)
    (step : ∀ m i, i < len → L (m + 1) (st i) = bif g i then L m (st (i + 1)) else some (.inl bad)) (stop : ∀ m, L (m + 1) (st len) = some (.inr fin)) :
    ∀ m i, i ≤ len → len < m + i → L m (st i) = some (bif allN g i (len - i) then .inr fin else .inl bad)
  | 0, i, h1, h2 => by omega
  | m + 1, i, h1, h2 => by
    rcases Nat.eq_or_lt_of_le h1 with q | q
    · subst q
      rw [stop, Nat.sub_self]; rfl
    · rw [step m i q, show len - i = (len - (i + 1)) + 1 by omega]
      show (bif g i then _ else _) = some (bif g i && allN g (i + 1) (len - (i + 1)) then _ else _)
      cases g i with
      | false => rfl
      | true => exact test_loop L st g bad fin len step stop m (i + 1) q (by omega)

theorem prev_wrap {i : Nat} (h : 0 < i) (hi : i ≤ 4294967296) : IntKind.i64.wrap ((i : Int) - (1 : Int)) = ((i - 1 : Nat) : Int) := by
  rw [wrap_ok (by omega) (by omega)]; omega
theorem lt_nat (i n : Nat) : decide ((i : Int) < (n : Int)) = decide (i < n) := by
  rw [Bool.eq_iff_iff]; simp
theorem lt_t {i n : Nat} (h : i < n) : decide ((i : Int) < (n : Int)) = true := decide_eq_true (by omega)
theorem lt_f (n : Nat) : decide ((n : Int) < (n : Int)) = false := decide_eq_false (by omega)

/-! ### What is known -/
def ascAt (l : List Int) (j : Nat) : Bool := decide (j = 0) || decide (l.getD (j - 1) 0 < l.getD j 0)
def knowAt (xs : List Node3) (k : List Int) (j : Nat) : Bool := hasB xs (k.getD j 0) && ascAt k j

theorem gt0_f : decide (((0 : Nat) : Int) > (0 : Int)) = false := rfl
theorem gt0_t {i : Nat} (h : 0 < i) : decide ((i : Int) > (0 : Int)) = true := decide_eq_true (by omega)
theorem le_not_lt (a b : Int) : decide (a ≤ b) = !decide (b < a) := by
  rw [Bool.eq_iff_iff]; simp
theorem ge_not_lt (a b : Int) : decide (a ≥ b) = !decide (a < b) := by
  rw [Bool.eq_iff_iff]; simp

theorem implKnow_step {xs : List Node3} (hx : xs.length ≤ 4294967296) {k : List Int} (hk : k.length ≤ 4294967296) (m i : Nat) (hi : i < k.length) :
    impl_KnowOk_L2 N0 (m + 1) (k, xs, k, (k.length : Int), (i : Int)) = bif knowAt xs k i then impl_KnowOk_L2 N0 m (k, xs, k, (k.length : Int), ((i + 1 : Nat) : Int)) else some (.inl false) := by
  rw [impl_KnowOk_L2]
  dsimp only
  rw [lt_t hi, cond_true, inb_nat hi, cond_true, isTerm_eq N0 hx]
  simp only [Option.bind_some, Int.toNat_natCast, step_wrap hi hk]
  unfold knowAt ascAt
  cases hasB xs (k.getD i 0) with
  | false => rfl
  | true =>
    rcases Nat.eq_zero_or_pos i with q | q
    · subst q; rfl
    · rw [gt0_t q, cond_true, prev_wrap q (by omega), inb_nat (by omega), cond_true, Int.toNat_natCast, le_not_lt, decide_eq_false (by omega : ¬ i = 0)]
      cases decide (k.getD (i - 1) 0 < k.getD i 0) <;> rfl
theorem implKnow_eq {xs : List Node3} (hx : xs.length ≤ 4294967296) {k : List Int} (hk : k.length ≤ 4294967296) :
    impl_KnowOk N0 (xs, k) = some (allN (knowAt xs k) 0 k.length && (decide (k.length ≤ 200) && (decide (xs.length ≤ 500) && okFrom N0 [] xs))) := by
  have := test_loop (impl_KnowOk_L2 N0) (fun i => (k, xs, k, (k.length : Int), (i : Int))) (knowAt xs k) false (k, xs) k.length (implKnow_step hx hk) (fun m => by
    rw [impl_KnowOk_L2]; dsimp only; rw [lt_f]; rfl) N0 0 (Nat.zero_le _) (by have := n0; omega)
  rw [Nat.sub_zero] at this
  show ((impl_KnowOk_L2 N0 N0 (k, xs, k, (k.length : Int), (0 : Int))).bind _) = _
  rw [show impl_KnowOk_L2 N0 N0 (k, xs, k, (k.length : Int), (0 : Int)) = _ from this]
  cases allN (knowAt xs k) 0 k.length with
  | false => rfl
  | true =>
    show (cond (decide ((k.length : Int) ≤ (200 : Int))) ((impl_PoolOk N0 xs).bind fun r5 => some r5) (some false)) = _
    rw [implPool_eq N0 n0 hx]
    by_cases q : k.length ≤ 200
    · rw [decide_eq_true (by omega : (k.length : Int) ≤ (200 : Int)), decide_eq_true q]; rfl
    · rw [decide_eq_false (by omega : ¬ (k.length : Int) ≤ (200 : Int)), decide_eq_false q]; rfl

theorem specKnow_step {xs : List Node3} (hx : xs.length ≤ 4294967296) {k : List Int} (hk : k.length ≤ 4294967296) (m i : Nat) (hi : i < k.length) :
    spec_l6Know_L4 N0 (m + 1) (k, xs, (i : Int)) = bif knowAt xs k i then spec_l6Know_L4 N0 m (k, xs, ((i + 1 : Nat) : Int)) else some (.inl false) := by
  rw [spec_l6Know_L4]
  dsimp only
  rw [lt_t hi, cond_true, inb_nat hi, cond_true, has_eq N0 hx]
  simp only [Option.bind_some, Int.toNat_natCast, step_wrap hi hk]
  unfold knowAt ascAt
  cases hasB xs (k.getD i 0) with
  | false => rfl
  | true =>
    rcases Nat.eq_zero_or_pos i with q | q
    · subst q; rfl
    · rw [gt0_t q, cond_true, prev_wrap q (by omega), inb_nat (by omega), cond_true, Int.toNat_natCast, ge_not_lt, decide_eq_false (by omega : ¬ i = 0)]
      cases decide (k.getD (i - 1) 0 < k.getD i 0) <;> rfl
theorem specKnow_eq {xs : List Node3} (hx : xs.length ≤ 4294967296) {k : List Int} (hk : k.length ≤ 4294967296) :
    spec_KnowOk N0 (xs, k) = some (allN (knowAt xs k) 0 k.length && (decide (k.length ≤ 200) && (decide (xs.length ≤ 500) && okFrom N0 [] xs))) := by
  have := test_loop (spec_l6Know_L4 N0) (fun i => (k, xs, (i : Int))) (knowAt xs k) false () k.length (specKnow_step hx hk) (fun m => by
    rw [spec_l6Know_L4]; dsimp only; rw [lt_f]; rfl) N0 0 (Nat.zero_le _) (by have := n0; omega)
  rw [Nat.sub_zero] at this
  have e : spec_l6Know N0 (xs, k) = some (decide (k.length ≤ 200) && allN (knowAt xs k) 0 k.length) := by
    show (cond (decide ((k.length : Int) > (200 : Int))) (some false) ((spec_l6Know_L4 N0 N0 (k, xs, (0 : Int))).bind _)) = _
    rw [show spec_l6Know_L4 N0 N0 (k, xs, (0 : Int)) = _ from this]
    by_cases q : k.length ≤ 200
    · rw [decide_eq_false (by omega : ¬ (k.length : Int) > (200 : Int)), decide_eq_true q]
      cases allN (knowAt xs k) 0 k.length <;> rfl
    · rw [decide_eq_true (by omega : (k.length : Int) > (200 : Int)), decide_eq_false q]; rfl
  show ((spec_PoolOk N0 xs).bind fun r1 => (cond r1 ((spec_l6Know N0 (xs, k)).bind fun r2 => (some r2)) (some false))) = _
  rw [specPool_eq N0 n0 hx, e]
  generalize (decide (xs.length ≤ 500) && okFrom N0 [] xs) = P
  generalize allN (knowAt xs k) 0 k.length = Q
  generalize decide (k.length ≤ 200) = R
  cases P <;> cases Q <;> cases R <;> rfl

/-! ### Ascending -/
theorem asc_step {k : List Int} (hk : k.length ≤ 4294967296) (m i : Nat) (h0 : 0 < i) (hi : i < k.length) :
    impl_isAscending_L2 N0 (m + 1) (k, (i : Int)) = bif ascAt k i then impl_isAscending_L2 N0 m (k, ((i + 1 : Nat) : Int)) else some (.inl false) := by
  rw [impl_isAscending_L2]
  dsimp only
  rw [lt_t hi, cond_true, inb_nat hi, cond_true, prev_wrap h0 (by omega), inb_nat (by omega), cond_true, Int.toNat_natCast, Int.toNat_natCast, step_wrap hi hk, le_not_lt]
  unfold ascAt
  rw [decide_eq_false (by omega : ¬ i = 0)]
  cases decide (k.getD (i - 1) 0 < k.getD i 0) <;> rfl
theorem implAsc_eq {k : List Int} (hk : k.length ≤ 4294967296) : impl_isAscending N0 k = some (allN (ascAt k) 0 k.length) := by
  have h0 : ∀ m, impl_isAscending_L2 N0 (m + 1) (k, (k.length : Int)) = some (.inr ()) := fun m => by
    rw [impl_isAscending_L2]; dsimp only; rw [lt_f]; rfl
  show ((impl_isAscending_L2 N0 N0 (k, (1 : Int))).bind _) = _
  rcases Nat.eq_zero_or_pos k.length with q | q
  · have : k = [] := List.eq_nil_of_length_eq_zero q
    subst this
    rfl
  · have := test_loop (impl_isAscending_L2 N0) (fun i => (k, ((i + 1 : Nat) : Int))) (fun i => ascAt k (i + 1)) false () (k.length - 1) (fun m i hi => asc_step hk m (i + 1) (Nat.succ_pos i) (by omega)) (fun m => by
      rw [show k.length - 1 + 1 = k.length by omega]; exact h0 m) N0 0 (Nat.zero_le _) (by have := n0; omega)
    rw [show impl_isAscending_L2 N0 N0 (k, (1 : Int)) = _ from this]
    have e : allN (fun i => ascAt k (i + 1)) 0 (k.length - 1 - 0) = allN (ascAt k) 0 k.length := by
      rw [Bool.eq_iff_iff, allN_iff, allN_iff]
      constructor
      · intro h j h1 h2
        rcases Nat.eq_zero_or_pos j with z | z
        · subst z; rfl
        · have := h (j - 1) (Nat.zero_le _) (by omega)
          rw [show j - 1 + 1 = j by omega] at this
          exact this
      · intro h j h1 h2
        exact h (j + 1) (Nat.zero_le _) (by omega)
    rw [e]
    cases allN (ascAt k) 0 k.length <;> rfl

def inB (lo hi v : Int) : Bool := decide (v ≥ lo) && decide (v ≤ hi)
theorem asc2_step {k : List Int} (hk : k.length ≤ 4294967296) (lo hi : Int) (m i : Nat) (hl : i < k.length) :
    spec_l14Asc_L2 N0 (m + 1) (k, lo, hi, (i : Int)) = bif inB lo hi (k.getD i 0) && ascAt k i then spec_l14Asc_L2 N0 m (k, lo, hi, ((i + 1 : Nat) : Int)) else some (.inl false) := by
  rw [spec_l14Asc_L2]
  dsimp only
  rw [lt_t hl, cond_true, inb_nat hl, cond_true, in_eq]
  simp only [Option.bind_some, Int.toNat_natCast, step_wrap hl hk]
  rw [show (decide (k.getD i 0 ≥ lo) && decide (k.getD i 0 ≤ hi)) = inB lo hi (k.getD i 0) from rfl]
  unfold ascAt
  cases inB lo hi (k.getD i 0) with
  | false => rfl
  | true =>
    rcases Nat.eq_zero_or_pos i with q | q
    · subst q; rfl
    · rw [gt0_t q, cond_true, prev_wrap q (by omega), inb_nat (by omega), cond_true, Int.toNat_natCast, ge_not_lt, decide_eq_false (by omega : ¬ i = 0)]
      cases decide (k.getD (i - 1) 0 < k.getD i 0) <;> rfl
theorem specAsc_eq {k : List Int} (hk : k.length ≤ 4294967296) (lo hi : Int) : spec_l14Asc N0 (k, lo, hi) = some (allN (fun j => inB lo hi (k.getD j 0) && ascAt k j) 0 k.length) := by
  have := test_loop (spec_l14Asc_L2 N0) (fun i => (k, lo, hi, (i : Int))) (fun j => inB lo hi (k.getD j 0) && ascAt k j) false () k.length (asc2_step hk lo hi) (fun m => by
    rw [spec_l14Asc_L2]; dsimp only; rw [lt_f]; rfl) N0 0 (Nat.zero_le _) (by have := n0; omega)
  rw [Nat.sub_zero] at this
  show ((spec_l14Asc_L2 N0 N0 (k, lo, hi, (0 : Int))).bind _) = _
  rw [show spec_l14Asc_L2 N0 N0 (k, lo, hi, (0 : Int)) = _ from this]
  cases allN (fun j => inB lo hi (k.getD j 0) && ascAt k j) 0 k.length <;> rfl

/-! ### Does a number stand in a list? -/
def hasAt (l : List Int) (v : Int) : Bool := !allN (fun j => !(l.getD j 0 == v)) 0 l.length
theorem knowHas_eq {k : List Int} (hk : k.length ≤ 4294967296) (v : Int) : spec_KnowHas N0 (k, v) = some (hasAt k v) := by
  have := test_loop (spec_KnowHas_L2 N0) (fun i => (k, v, (i : Int))) (fun j => !(k.getD j 0 == v)) true () k.length (fun m i hi => by
    rw [spec_KnowHas_L2]; dsimp only
    rw [lt_t hi, cond_true, inb_nat hi, cond_true, Int.toNat_natCast, step_wrap hi hk]
    cases (k.getD i 0 == v) <;> rfl) (fun m => by
    rw [spec_KnowHas_L2]; dsimp only; rw [lt_f]; rfl) N0 0 (Nat.zero_le _) (by have := n0; omega)
  rw [Nat.sub_zero] at this
  show ((spec_KnowHas_L2 N0 N0 (k, v, (0 : Int))).bind _) = _
  rw [show spec_KnowHas_L2 N0 N0 (k, v, (0 : Int)) = _ from this]
  unfold hasAt
  cases allN (fun j => !(k.getD j 0 == v)) 0 k.length <;> rfl
theorem hasAt_iff {l : List Int} {v : Int} : hasAt l v = true ↔ ∃ j, j < l.length ∧ l.getD j 0 = v := by
  unfold hasAt
  rw [Bool.not_eq_true', Bool.eq_false_iff, ne_eq, allN_iff]
  constructor
  · intro h
    refine Classical.byContradiction fun h2 => h fun j _ hj => ?_
    have : ¬ l.getD j 0 = v := fun e => h2 ⟨j, by omega, e⟩
    simpa using this
  · rintro ⟨j, h1, h2⟩ h
    have := h j (Nat.zero_le _) (by omega)
    rw [h2] at this
    simp at this
end AM
end Go.Proofs.YtpcdcnmmkfhliaaGreatDoor

/-! A world is right by the program just when it is by the reference, as plain functions. No condition but that lists are no longer than 2^32. -/
namespace Go.Proofs.YtpcdcnmmkfhliaaGreatDoor
namespace AM
open Go
set_option linter.unusedVariables false
set_option linter.unusedSimpArgs false

abbrev kI : Ty := .int .i64
abbrev envL (x : Inst9) : List Int := x.2.2.2.2.2.1
def dn (x : Inst9) : Bool := x.2.2.2.2.2.2.1
structure Small (xs : List Node3) (kn : List Int) (li : List Inst9) (gv sh : List Int) (lg : List Claim3) : Prop where
  fx : xs.length ≤ 4294967296
  fk : kn.length ≤ 4294967296
  fl : li.length ≤ 4294967296
  fg : gv.length ≤ 4294967296
  fs : sh.length ≤ 4294967296
  fo : lg.length ≤ 4294967296
  fe : ∀ i, i < li.length → (envL (li.getD i zI)).length ≤ 4294967296

def instV (xs : List Node3) (x : Inst9) : Bool := (impl_InstOk N0 (xs, x.1, x.2.1, x.2.2.1, x.2.2.2.1, x.2.2.2.2.1, x.2.2.2.2.2.1, x.2.2.2.2.2.2.1, x.2.2.2.2.2.2.2.1, x.2.2.2.2.2.2.2.2)).getD false
theorem instV_eq {xs : List Node3} (hx : xs.length ≤ 4294967296) {x : Inst9} (he : (envL x).length ≤ 4294967296) :
    impl_InstOk N0 (xs, x.1, x.2.1, x.2.2.1, x.2.2.2.1, x.2.2.2.2.1, x.2.2.2.2.2.1, x.2.2.2.2.2.2.1, x.2.2.2.2.2.2.2.1, x.2.2.2.2.2.2.2.2) = some (instV xs x) ∧
    spec_InstOk N0 (xs, x.1, x.2.1, x.2.2.1, x.2.2.2.1, x.2.2.2.2.1, x.2.2.2.2.2.1, x.2.2.2.2.2.2.1, x.2.2.2.2.2.2.2.1, x.2.2.2.2.2.2.2.2) = some (instV xs x) := by
  obtain ⟨v, h1, h2⟩ := inst_same hx (w := x.1) (p := x.2.1) (a := x.2.2.1) (b := x.2.2.2.1) (at_ := x.2.2.2.2.1) (env := x.2.2.2.2.2.1) he (dn := x.2.2.2.2.2.2.1) (dd := x.2.2.2.2.2.2.2.1) (key := x.2.2.2.2.2.2.2.2)
  unfold instV
  rw [h1]
  exact ⟨rfl, h2⟩
def poolB (xs : List Node3) : Bool := decide (xs.length ≤ 500) && okFrom N0 [] xs
theorem l13_eq {xs : List Node3} (hx : xs.length ≤ 4294967296) {x : Inst9} (he : (envL x).length ≤ 4294967296) (hP : poolB xs = true) :
    spec_l13Inst N0 (xs, x.1, x.2.1, x.2.2.1, x.2.2.2.1, x.2.2.2.2.1, x.2.2.2.2.2.1, x.2.2.2.2.2.2.1, x.2.2.2.2.2.2.2.1, x.2.2.2.2.2.2.2.2) = some (instV xs x) := by
  have h2 := (instV_eq hx he).2
  have hP : (decide (xs.length ≤ 500) && okFrom N0 [] xs) = true := hP
  rw [spec_InstOk] at h2
  dsimp only at h2
  rw [specPool_eq N0 n0 hx, hP] at h2
  simp only [Option.bind_some, cond_true] at h2
  cases hq : spec_l13Inst N0 (xs, x.1, x.2.1, x.2.2.1, x.2.2.2.1, x.2.2.2.2.1, x.2.2.2.2.2.1, x.2.2.2.2.2.2.1, x.2.2.2.2.2.2.2.1, x.2.2.2.2.2.2.2.2) with
  | none => rw [hq] at h2; cases h2
  | some v => rw [hq] at h2; exact h2

def inst0 (n : Int) (k : Int) : Bool := decide (k ≥ 0) && decide (k ≤ n - 1)
def doneB (li : List Inst9) (k : Int) : Bool := inst0 (li.length : Int) k && dn (li.getD k.toNat zI)
theorem inst0_inb {li : List Inst9} {k : Int} (h : inst0 (li.length : Int) k = true) : inb k li.length = true := by
  unfold inst0 at h
  simp at h
  exact decide_eq_true ⟨by omega, by omega⟩

section
variable {xs : List Node3} {kn : List Int} {li : List Inst9} {fr : Int} {gv sh : List Int} {lg : List Claim3}

theorem isInst_eq (hl : li.length ≤ 4294967296) (k : Int) : impl_World_isInst N0 (xs, kn, li, fr, gv, sh, lg, k) = some (xs, kn, li, fr, gv, sh, lg, inst0 (li.length : Int) k) := by
  rw [impl_World_isInst]
  dsimp only
  rw [wrap_ok (by omega) (by omega), inRange_eq]; rfl
theorem isDone_eq (hl : li.length ≤ 4294967296) (k : Int) : impl_World_isDone N0 (xs, kn, li, fr, gv, sh, lg, k) = some (xs, kn, li, fr, gv, sh, lg, doneB li k) := by
  rw [impl_World_isDone]
  dsimp only
  rw [isInst_eq hl]
  simp only [Option.bind_some]
  unfold doneB
  cases h : inst0 (li.length : Int) k with
  | false => rfl
  | true =>
    rw [inst0_inb h]; rfl

/-! ### The log -/
def lk (lg : List Claim3) (j : Nat) : Int := (lg.getD j zC).1
def gLog (li : List Inst9) (lg : List Claim3) (i : Nat) : Bool := doneB li (lk lg i) && allN (fun j => !(lk lg j == lk lg i)) 0 i
def kvOf (lg : List Claim3) : Nat → List (Int × Int)
  | 0 => []
  | i + 1 => mput kI (lk lg i) (IntKind.i64.wrap (mget kI (lk lg i) (kvOf lg i) + (1 : Int))) (kvOf lg i)
def cntK (lg : List Claim3) (k : Int) : Nat → Nat
  | 0 => 0
  | i + 1 => cntK lg k i + (if lk lg i = k then 1 else 0)
theorem cntK_le (lg : List Claim3) (k : Int) : ∀ i, cntK lg k i ≤ i
  | 0 => Nat.le_refl _
  | i + 1 => by
    have := cntK_le lg k i
    show cntK lg k i + (if lk lg i = k then 1 else 0) ≤ i + 1
    split <;> omega
theorem kv_cnt (lg : List Claim3) (k : Int) : ∀ i, i ≤ 4294967296 → mget kI k (kvOf lg i) = (cntK lg k i : Int)
  | 0, _ => rfl
  | i + 1, h => by
    have ih := fun k => kv_cnt lg k i (by omega)
    show mget kI k (mput kI (lk lg i) (IntKind.i64.wrap (mget kI (lk lg i) (kvOf lg i) + (1 : Int))) (kvOf lg i)) = ((cntK lg k i + (if lk lg i = k then 1 else 0) : Nat) : Int)
    by_cases q : lk lg i = k
    · subst q
      rw [mget_mput (eqv_self kI rfl _), kv_cnt lg _ i (by omega), if_pos rfl]
      have := cntK_le lg (lk lg i) i
      rw [wrap_ok (by omega) (by omega)]; omega
    · have hne : kI.eqv k (lk lg i) = false := by
        rw [Bool.eq_false_iff]
        exact fun h => q (eqv_eq kI h).symm
      rw [mget_mput_ne hne, kv_cnt lg k i (by omega), if_neg q, Nat.add_zero]
theorem cntK_zero (lg : List Claim3) (k : Int) : ∀ i, cntK lg k i = 0 ↔ ∀ j, j < i → lk lg j ≠ k
  | 0 => ⟨fun _ j h => by omega, fun _ => rfl⟩
  | i + 1 => by
    show cntK lg k i + (if lk lg i = k then 1 else 0) = 0 ↔ _
    have ih := cntK_zero lg k i
    by_cases q : lk lg i = k
    · rw [if_pos q]
      exact ⟨fun h => by omega, fun h => absurd q (h i (by omega))⟩
    · rw [if_neg q, Nat.add_zero, ih]
      constructor
      · intro h j hj
        rcases Nat.lt_or_ge j i with z | z
        · exact h j z
        · have : j = i := by omega
          subst this; exact q
      · exact fun h j hj => h j (by omega)

theorem log_test (hg : lg.length ≤ 4294967296) {i : Nat} (hi : i < lg.length) : decide (mget kI (lk lg i) (kvOf lg (i + 1)) > (1 : Int)) = !allN (fun j => !(lk lg j == lk lg i)) 0 i := by
  rw [kv_cnt lg _ (i + 1) (by omega), show cntK lg (lk lg i) (i + 1) = cntK lg (lk lg i) i + 1 from by show _ + (if _ then 1 else 0) = _; rw [if_pos rfl]]
  have hc := cntK_le lg (lk lg i) i
  rw [Bool.eq_iff_iff, decide_eq_true_iff, Bool.not_eq_true', Bool.eq_false_iff, ne_eq, allN_iff]
  have hz := cntK_zero lg (lk lg i) i
  constructor
  · intro h h2
    have : cntK lg (lk lg i) i = 0 := hz.2 fun j hj e => by
      have := h2 j (Nat.zero_le _) (by omega)
      rw [e] at this
      simp at this
    omega
  · intro h
    have : cntK lg (lk lg i) i ≠ 0 := fun e => h fun j _ hj => by
      have := hz.1 e j (by omega)
      simpa using this
    omega

def haveAt (li : List Inst9) (lg : List Claim3) (i : Nat) : Bool := !dn (li.getD i zI) || !(((cntK lg (i : Int) lg.length : Nat) : Int) == (0 : Int))

theorem logOk_eq (hl : li.length ≤ 4294967296) (hg : lg.length ≤ 4294967296) : impl_World_logOk N0 (xs, kn, li, fr, gv, sh, lg) = some (xs, kn, li, fr, gv, sh, lg, allN (gLog li lg) 0 lg.length && allN (haveAt li lg) 0 li.length) := by
  have h1 := test_loop (impl_World_logOk_L3 N0) (fun i => (xs, kn, li, fr, gv, sh, lg, kvOf lg i, lg, (lg.length : Int), (i : Int))) (gLog li lg) (xs, kn, li, fr, gv, sh, lg, false) (xs, kn, li, fr, gv, sh, lg, kvOf lg lg.length) lg.length (fun m i hi => by
    rw [impl_World_logOk_L3]; dsimp only
    rw [lt_t hi, cond_true, inb_nat hi, cond_true, isDone_eq hl]
    simp only [Option.bind_some, Int.toNat_natCast, step_wrap hi hg]
    show (cond (!doneB li (lk lg i)) (some (Sum.inl (xs, kn, li, fr, gv, sh, lg, false))) (cond (decide (mget kI (lk lg i) (kvOf lg (i + 1)) > (1 : Int))) (some (Sum.inl (xs, kn, li, fr, gv, sh, lg, false))) (impl_World_logOk_L3 N0 m (xs, kn, li, fr, gv, sh, lg, kvOf lg (i + 1), lg, (lg.length : Int), ((i + 1 : Nat) : Int))))) = _
    rw [log_test hg hi]
    unfold gLog
    cases doneB li (lk lg i) with
    | false => rfl
    | true =>
      cases allN (fun j => !(lk lg j == lk lg i)) 0 i <;> rfl) (fun m => by
    rw [impl_World_logOk_L3]; dsimp only; rw [lt_f]; rfl) N0 0 (Nat.zero_le _) (by have := n0; omega)
  have h2 := test_loop (impl_World_logOk_L10 N0) (fun i => (xs, kn, li, fr, gv, sh, lg, kvOf lg lg.length, li, (li.length : Int), (i : Int))) (haveAt li lg) (xs, kn, li, fr, gv, sh, lg, false) (xs, kn, li, fr, gv, sh, lg) li.length (fun m i hi => by
    rw [impl_World_logOk_L10]; dsimp only
    rw [lt_t hi, cond_true, inb_nat hi, cond_true]
    simp only [Int.toNat_natCast, step_wrap hi hl]
    rw [kv_cnt lg (i : Int) lg.length hg]
    unfold haveAt dn
    cases (li.getD i zI).2.2.2.2.2.2.1 with
    | false => rfl
    | true => cases (((cntK lg (i : Int) lg.length : Nat) : Int) == (0 : Int)) <;> rfl) (fun m => by
    rw [impl_World_logOk_L10]; dsimp only; rw [lt_f]; rfl) N0 0 (Nat.zero_le _) (by have := n0; omega)
  rw [Nat.sub_zero] at h1 h2
  rw [impl_World_logOk]
  dsimp only
  rw [show impl_World_logOk_L3 N0 N0 (xs, kn, li, fr, gv, sh, lg, [], lg, (lg.length : Int), (0 : Int)) = _ from h1]
  cases allN (gLog li lg) 0 lg.length with
  | false => rfl
  | true =>
    show ((impl_World_logOk_L10 N0 N0 (xs, kn, li, fr, gv, sh, lg, kvOf lg lg.length, li, (li.length : Int), (0 : Int))).bind _) = _
    rw [show impl_World_logOk_L10 N0 N0 (xs, kn, li, fr, gv, sh, lg, kvOf lg lg.length, li, (li.length : Int), (0 : Int)) = _ from h2]
    cases allN (haveAt li lg) 0 li.length <;> rfl

/-! ### The program's side -/
def instsB (xs : List Node3) (li : List Inst9) : Bool := allN (fun i => instV xs (li.getD i zI)) 0 li.length
def agentsB (gv : List Int) : Bool := allN (fun i => inB 0 4 (gv.getD i 0)) 0 gv.length
def shownB (li : List Inst9) (sh : List Int) : Bool := allN (fun i => doneB li (sh.getD i 0)) 0 sh.length
def knowB (xs : List Node3) (kn : List Int) : Bool := allN (knowAt xs kn) 0 kn.length && (decide (kn.length ≤ 200) && poolB xs)

theorem implWorld_eq (hs : Small xs kn li gv sh lg) : impl_WorldOk N0 (xs, kn, li, fr, gv, sh, lg) = some (knowB xs kn && (decide (li.length ≤ 8) && (inB 0 8 fr && (allN (ascAt gv) 0 gv.length && (allN (ascAt sh) 0 sh.length && (instsB xs li && (agentsB gv && (shownB li sh && (allN (gLog li lg) 0 lg.length && allN (haveAt li lg) 0 li.length))))))))) := by
  have h1 := test_loop (impl_WorldOk_L4 N0) (fun i => (xs, kn, li, fr, gv, sh, lg, li, (li.length : Int), (i : Int))) (fun i => instV xs (li.getD i zI)) false (xs, kn, li, fr, gv, sh, lg) li.length (fun m i hi => by
    rw [impl_WorldOk_L4]; dsimp only
    rw [lt_t hi, cond_true, inb_nat hi, cond_true]
    simp only [Int.toNat_natCast, step_wrap hi hs.fl]
    rw [(instV_eq hs.fx (hs.fe i hi)).1]
    simp only [Option.bind_some]
    cases instV xs (li.getD i zI) <;> rfl) (fun m => by
    rw [impl_WorldOk_L4]; dsimp only; rw [lt_f]; rfl) N0 0 (Nat.zero_le _) (by have := n0; have := hs.fl; omega)
  have h2 := test_loop (impl_WorldOk_L10 N0) (fun i => (xs, kn, li, fr, gv, sh, lg, gv, (gv.length : Int), (i : Int))) (fun i => inB 0 4 (gv.getD i 0)) false (xs, kn, li, fr, gv, sh, lg) gv.length (fun m i hi => by
    rw [impl_WorldOk_L10]; dsimp only
    rw [lt_t hi, cond_true, inb_nat hi, cond_true, agent_eq]
    simp only [Option.bind_some, Int.toNat_natCast, step_wrap hi hs.fg]
    rw [show (decide (gv.getD i 0 ≥ 0) && decide (gv.getD i 0 ≤ 4)) = inB 0 4 (gv.getD i 0) from rfl]
    cases inB 0 4 (gv.getD i 0) <;> rfl) (fun m => by
    rw [impl_WorldOk_L10]; dsimp only; rw [lt_f]; rfl) N0 0 (Nat.zero_le _) (by have := n0; have := hs.fg; omega)
  have h3 := test_loop (impl_WorldOk_L16 N0) (fun i => (xs, kn, li, fr, gv, sh, lg, sh, (sh.length : Int), (i : Int))) (fun i => doneB li (sh.getD i 0)) false (xs, kn, li, fr, gv, sh, lg) sh.length (fun m i hi => by
    rw [impl_WorldOk_L16]; dsimp only
    rw [lt_t hi, cond_true, inb_nat hi, cond_true, isDone_eq hs.fl]
    simp only [Option.bind_some, Int.toNat_natCast, step_wrap hi hs.fs]
    cases doneB li (sh.getD i 0) <;> rfl) (fun m => by
    rw [impl_WorldOk_L16]; dsimp only; rw [lt_f]; rfl) N0 0 (Nat.zero_le _) (by have := n0; have := hs.fs; omega)
  rw [Nat.sub_zero] at h1 h2 h3
  rw [impl_WorldOk]
  dsimp only
  rw [implKnow_eq hs.fx hs.fk, inRange_eq, implAsc_eq hs.fg, implAsc_eq hs.fs,
    show impl_WorldOk_L4 N0 N0 (xs, kn, li, fr, gv, sh, lg, li, (li.length : Int), (0 : Int)) = _ from h1]
  simp only [Option.bind_some]
  rw [show (allN (knowAt xs kn) 0 kn.length && (decide (kn.length ≤ 200) && (decide (xs.length ≤ 500) && okFrom N0 [] xs))) = knowB xs kn from rfl,
    show (decide (fr ≥ 0) && decide (fr ≤ 8)) = inB 0 8 fr from rfl, show allN (fun i => instV xs (li.getD i zI)) 0 li.length = instsB xs li from rfl]
  cases knowB xs kn with
  | false => rfl
  | true =>
    by_cases q : li.length ≤ 8
    · rw [decide_eq_false (by omega : ¬ (li.length : Int) > (8 : Int)), decide_eq_true q]
      cases inB 0 8 fr with
      | false => rfl
      | true =>
        cases allN (ascAt gv) 0 gv.length with
        | false => rfl
        | true =>
          cases allN (ascAt sh) 0 sh.length with
          | false => rfl
          | true =>
            cases instsB xs li with
            | false => rfl
            | true =>
              show ((impl_WorldOk_L10 N0 N0 (xs, kn, li, fr, gv, sh, lg, gv, (gv.length : Int), (0 : Int))).bind _) = _
              rw [show impl_WorldOk_L10 N0 N0 (xs, kn, li, fr, gv, sh, lg, gv, (gv.length : Int), (0 : Int)) = _ from h2, show allN (fun i => inB 0 4 (gv.getD i 0)) 0 gv.length = agentsB gv from rfl]
              cases agentsB gv with
              | false => rfl
              | true =>
                show ((impl_WorldOk_L16 N0 N0 (xs, kn, li, fr, gv, sh, lg, sh, (sh.length : Int), (0 : Int))).bind _) = _
                rw [show impl_WorldOk_L16 N0 N0 (xs, kn, li, fr, gv, sh, lg, sh, (sh.length : Int), (0 : Int)) = _ from h3, show allN (fun i => doneB li (sh.getD i 0)) 0 sh.length = shownB li sh from rfl]
                cases shownB li sh with
                | false => rfl
                | true =>
                  show ((impl_World_logOk N0 (xs, kn, li, fr, gv, sh, lg)).bind _) = _
                  rw [logOk_eq hs.fl hs.fo]; rfl
    · rw [decide_eq_true (by omega : (li.length : Int) > (8 : Int)), decide_eq_false q]; rfl

/-! ### The reference's side -/
def dAt (li : List Inst9) (i : Nat) : Bool := dn (li.getD i zI)
def six (xs : List Node3) (li : List Inst9) (sh : List Int) (i : Nat) : Bool := instV xs (li.getD i zI) && (!hasAt sh (i : Int) || dAt li i)
theorem places_le (d : Nat → Bool) (n : Nat) : (places d n).length ≤ n := by
  unfold places
  exact Nat.le_trans (List.length_filter_le _ _) (by simp)

theorem spec6 (hs : Small xs kn li gv sh lg) (hP : poolB xs = true) : spec_WorldOk_L6 N0 N0 (xs, kn, li, fr, gv, sh, lg, (li.length : Int), (0 : Int), (0 : Int)) =
    some (bif allN (six xs li sh) 0 li.length then .inr (xs, kn, li, fr, gv, sh, lg, (li.length : Int), ((places (dAt li) li.length).length : Int)) else .inl false) := by
  have h := test_loop (spec_WorldOk_L6 N0) (fun i => (xs, kn, li, fr, gv, sh, lg, (li.length : Int), ((places (dAt li) i).length : Int), (i : Int))) (six xs li sh) false (xs, kn, li, fr, gv, sh, lg, (li.length : Int), ((places (dAt li) li.length).length : Int)) li.length (fun m i hi => by
    rw [spec_WorldOk_L6]; dsimp only
    rw [lt_t hi, cond_true, inb_nat hi, cond_true]
    simp only [Int.toNat_natCast, step_wrap hi hs.fl]
    rw [l13_eq hs.fx (hs.fe i hi) hP, knowHas_eq hs.fs]
    simp only [Option.bind_some, cond_true]
    have hpl := places_le (dAt li) i
    have hli := hs.fl
    rw [places_succ, show (li.getD i zI).2.2.2.2.2.2.1 = dAt li i from rfl, step_wrap (i := (places (dAt li) i).length) (n := i + 1) (by omega) (by omega)]
    unfold six
    cases instV xs (li.getD i zI) with
    | false => rfl
    | true =>
      cases hasAt sh (i : Int) <;> cases dAt li i <;> rfl) (fun m => by
    rw [spec_WorldOk_L6]; dsimp only; rw [lt_f]; rfl) N0 0 (Nat.zero_le _) (by have := n0; have := hs.fl; omega)
  rw [Nat.sub_zero] at h
  exact h

theorem spec19 (hg : lg.length ≤ 4294967296) {N D k : Int} {i : Nat} (hi : i < lg.length) : spec_WorldOk_L19 N0 N0 (xs, kn, li, fr, gv, sh, lg, N, D, (i : Int), k, (0 : Int)) =
    some (bif allN (fun j => !(lk lg j == k)) 0 i then .inr (xs, kn, li, fr, gv, sh, lg, N, D, (i : Int)) else .inl false) := by
  have h := test_loop (spec_WorldOk_L19 N0) (fun j => (xs, kn, li, fr, gv, sh, lg, N, D, (i : Int), k, (j : Int))) (fun j => !(lk lg j == k)) false (xs, kn, li, fr, gv, sh, lg, N, D, (i : Int)) i (fun m j hj => by
    rw [spec_WorldOk_L19]; dsimp only
    rw [lt_t hj, cond_true, inb_nat (by omega : j < lg.length), cond_true]
    simp only [Int.toNat_natCast, step_wrap (by omega : j < lg.length) hg]
    rw [show (lg.getD j zC).1 = lk lg j from rfl]
    cases (lk lg j == k) <;> rfl) (fun m => by
    rw [spec_WorldOk_L19]; dsimp only; rw [lt_f]; rfl) N0 0 (Nat.zero_le _) (by have := n0; omega)
  rw [Nat.sub_zero] at h
  exact h

theorem spec13 (hl : li.length ≤ 4294967296) (hg : lg.length ≤ 4294967296) {D : Int} : spec_WorldOk_L13 N0 N0 (xs, kn, li, fr, gv, sh, lg, (li.length : Int), D, (0 : Int)) =
    some (bif allN (gLog li lg) 0 lg.length then .inr (xs, kn, li, fr, gv, sh, lg, D) else .inl false) := by
  have h := test_loop (spec_WorldOk_L13 N0) (fun i => (xs, kn, li, fr, gv, sh, lg, (li.length : Int), D, (i : Int))) (gLog li lg) false (xs, kn, li, fr, gv, sh, lg, D) lg.length (fun m i hi => by
    rw [spec_WorldOk_L13]; dsimp only
    rw [lt_t hi, cond_true, inb_nat hi, cond_true, wrap_ok (show -9223372036854775808 ≤ (li.length : Int) - 1 by omega) (show (li.length : Int) - 1 ≤ 9223372036854775807 by omega), in_eq]
    simp only [Option.bind_some, Int.toNat_natCast]
    rw [show (decide ((lg.getD i zC).1 ≥ 0) && decide ((lg.getD i zC).1 ≤ (li.length : Int) - 1)) = inst0 (li.length : Int) (lk lg i) from rfl, show (lg.getD i zC).1 = lk lg i from rfl]
    unfold gLog doneB
    cases hq : inst0 (li.length : Int) (lk lg i) with
    | false => rfl
    | true =>
      rw [inst0_inb hq, spec19 hg hi]
      unfold dn
      cases (li.getD (lk lg i).toNat zI).2.2.2.2.2.2.1 with
      | false => rfl
      | true =>
        cases allN (fun j => !(lk lg j == lk lg i)) 0 i with
        | false => rfl
        | true =>
          show spec_WorldOk_L13 N0 m (xs, kn, li, fr, gv, sh, lg, (li.length : Int), D, IntKind.i64.wrap ((i : Int) + (1 : Int))) = _
          rw [step_wrap hi hg]; rfl) (fun m => by
    rw [spec_WorldOk_L13]; dsimp only; rw [lt_f]; rfl) N0 0 (Nat.zero_le _) (by have := n0; omega)
  rw [Nat.sub_zero] at h
  exact h

theorem specWorld_eq (hs : Small xs kn li gv sh lg) : spec_WorldOk N0 (xs, kn, li, fr, gv, sh, lg) = some (knowB xs kn && (decide (li.length ≤ 8) && (inB 0 8 fr && (allN (fun j => inB 0 4 (gv.getD j 0) && ascAt gv j) 0 gv.length && (allN (fun j => inB 0 ((li.length : Int) - 1) (sh.getD j 0) && ascAt sh j) 0 sh.length && (allN (six xs li sh) 0 li.length && (allN (gLog li lg) 0 lg.length && ((lg.length : Int) == ((places (dAt li) li.length).length : Int))))))))) := by
  have hli := hs.fl
  rw [spec_WorldOk]
  dsimp only
  rw [specKnow_eq hs.fx hs.fk, in_eq, specAsc_eq hs.fg, wrap_ok (show -9223372036854775808 ≤ (li.length : Int) - 1 by omega) (show (li.length : Int) - 1 ≤ 9223372036854775807 by omega), specAsc_eq hs.fs]
  simp only [Option.bind_some]
  rw [show (allN (knowAt xs kn) 0 kn.length && (decide (kn.length ≤ 200) && (decide (xs.length ≤ 500) && okFrom N0 [] xs))) = knowB xs kn from rfl,
    show (decide (fr ≥ 0) && decide (fr ≤ 8)) = inB 0 8 fr from rfl]
  cases hk : knowB xs kn with
  | false => rfl
  | true =>
    have hP : poolB xs = true := by
      unfold knowB at hk
      rw [Bool.and_eq_true, Bool.and_eq_true] at hk
      exact hk.2.2
    rw [spec6 hs hP]
    by_cases q : li.length ≤ 8
    · rw [decide_eq_false (by omega : ¬ (li.length : Int) > (8 : Int)), decide_eq_true q]
      cases inB 0 8 fr with
      | false => rfl
      | true =>
        cases allN (fun j => inB 0 4 (gv.getD j 0) && ascAt gv j) 0 gv.length with
        | false => rfl
        | true =>
          cases allN (fun j => inB 0 ((li.length : Int) - 1) (sh.getD j 0) && ascAt sh j) 0 sh.length with
          | false => rfl
          | true =>
            cases allN (six xs li sh) 0 li.length with
            | false => rfl
            | true =>
              show ((spec_WorldOk_L13 N0 N0 (xs, kn, li, fr, gv, sh, lg, (li.length : Int), ((places (dAt li) li.length).length : Int), (0 : Int))).bind _) = _
              rw [spec13 hs.fl hs.fo]
              cases allN (gLog li lg) 0 lg.length <;> rfl
    · rw [decide_eq_true (by omega : (li.length : Int) > (8 : Int)), decide_eq_false q]; rfl
end
end AM
end Go.Proofs.YtpcdcnmmkfhliaaGreatDoor

/-! The copies and comparisons of a world; the law FnExactWorldOk, as a plain function, comes to true. No condition but that lists are no longer than memory. -/
namespace Go.Proofs.YtpcdcnmmkfhliaaGreatDoor
namespace AM
open Go
set_option linter.unusedVariables false
set_option linter.unusedSimpArgs false

theorem allN_and (a b : Nat → Bool) (i k : Nat) : allN (fun j => a j && b j) i k = (allN a i k && allN b i k) := by
  rw [Bool.eq_iff_iff, Bool.and_eq_true, allN_iff, allN_iff, allN_iff]
  constructor
  · intro h
    refine ⟨fun j h1 h2 => ?_, fun j h1 h2 => ?_⟩
    · have := h j h1 h2
      rw [Bool.and_eq_true] at this; exact this.1
    · have := h j h1 h2
      rw [Bool.and_eq_true] at this; exact this.2
  · rintro ⟨h1, h2⟩ j h3 h4
    rw [Bool.and_eq_true]
    exact ⟨h1 j h3 h4, h2 j h3 h4⟩

section
variable {xs : List Node3} {kn : List Int} {li : List Inst9} {fr : Int} {gv sh : List Int} {lg : List Claim3}

theorem shown_same : (instsB xs li && shownB li sh) = (allN (fun j => inB 0 ((li.length : Int) - 1) (sh.getD j 0)) 0 sh.length && allN (six xs li sh) 0 li.length) := by
  unfold instsB shownB
  rw [Bool.eq_iff_iff, Bool.and_eq_true, Bool.and_eq_true, allN_iff, allN_iff, allN_iff, allN_iff]
  constructor
  · rintro ⟨h1, h2⟩
    refine ⟨fun j h3 h4 => ?_, fun i h3 h4 => ?_⟩
    · have := h2 j h3 h4
      unfold doneB at this
      rw [Bool.and_eq_true] at this
      exact this.1
    · unfold six
      rw [Bool.and_eq_true]
      refine ⟨h1 i h3 h4, ?_⟩
      cases hh : hasAt sh (i : Int) with
      | false => rfl
      | true =>
        obtain ⟨j, h5, h6⟩ := hasAt_iff.1 hh
        have := h2 j (Nat.zero_le _) (by omega)
        unfold doneB at this
        rw [Bool.and_eq_true, h6, Int.toNat_natCast] at this
        show (false || dAt li i) = true
        rw [Bool.false_or]; exact this.2
  · rintro ⟨h1, h2⟩
    refine ⟨fun i h3 h4 => ?_, fun j h3 h4 => ?_⟩
    · have := h2 i h3 h4
      unfold six at this
      rw [Bool.and_eq_true] at this
      exact this.1
    · have hr := h1 j h3 h4
      unfold doneB
      rw [Bool.and_eq_true]
      refine ⟨hr, ?_⟩
      have hr' := hr
      unfold inB at hr'
      rw [Bool.and_eq_true, decide_eq_true_iff, decide_eq_true_iff] at hr'
      obtain ⟨i, hi⟩ := Int.eq_ofNat_of_zero_le hr'.1
      rw [hi] at hr' ⊢
      rw [Int.toNat_natCast]
      have := h2 i (Nat.zero_le _) (by omega)
      unfold six at this
      rw [Bool.and_eq_true] at this
      have hh : hasAt sh (i : Int) = true := hasAt_iff.2 ⟨j, by omega, hi⟩
      have h3 := this.2
      rw [hh] at h3
      exact h3

theorem log_same (h : allN (gLog li lg) 0 lg.length = true) : allN (haveAt li lg) 0 li.length = ((lg.length : Int) == ((places (dAt li) li.length).length : Int)) := by
  rw [allN_iff] at h
  have hg : ∀ i, i < lg.length → doneB li (lk lg i) = true ∧ ∀ j, j < i → lk lg j ≠ lk lg i := fun i hi => by
    have := h i (Nat.zero_le _) (by omega)
    unfold gLog at this
    rw [Bool.and_eq_true, allN_iff] at this
    refine ⟨this.1, fun j hj e => ?_⟩
    have := this.2 j (Nat.zero_le _) (by omega)
    rw [e] at this
    simp at this
  have hL : ((List.range lg.length).map (lk lg)).length = lg.length := by simp
  have hnd : ((List.range lg.length).map (lk lg)).Nodup := by
    rw [nodup_getD, hL]
    intro i hi j hj
    have e : ∀ k, k < lg.length → ((List.range lg.length).map (lk lg)).getD k 0 = lk lg k := fun k hk => by
      rw [getD_of (by rw [hL]; exact hk)]; simp
    rw [e i hi, e j (by omega)]
    exact (hg i hi).2 j hj
  have hin : ∀ k ∈ (List.range lg.length).map (lk lg), ∃ i : Nat, k = (i : Int) ∧ i < li.length ∧ dAt li i = true := by
    intro k hk
    obtain ⟨j, hj, rfl⟩ := List.mem_map.1 hk
    have := (hg j (List.mem_range.1 hj)).1
    unfold doneB inst0 at this
    rw [Bool.and_eq_true, Bool.and_eq_true, decide_eq_true_iff, decide_eq_true_iff] at this
    obtain ⟨⟨h1, h2⟩, h3⟩ := this
    obtain ⟨i, hi⟩ := Int.eq_ofNat_of_zero_le h1
    rw [hi] at h2 h3
    rw [Int.toNat_natCast] at h3
    exact ⟨i, hi, by omega, h3⟩
  have key := log_full (dAt li) li.length _ hnd hin
  rw [hL] at key
  rw [Bool.eq_iff_iff, allN_iff, beq_iff_eq]
  have hmem : ∀ i : Nat, (i : Int) ∈ (List.range lg.length).map (lk lg) ↔ cntK lg (i : Int) lg.length ≠ 0 := by
    intro i
    rw [Ne, cntK_zero, List.mem_map]
    constructor
    · rintro ⟨j, h1, h2⟩ h3
      exact h3 j (List.mem_range.1 h1) h2
    · intro h1
      refine Classical.byContradiction fun h2 => h1 fun j hj e => h2 ⟨j, List.mem_range.2 hj, e⟩
  have e1 : ((lg.length : Int) = ((places (dAt li) li.length).length : Int)) ↔ lg.length = (places (dAt li) li.length).length := by omega
  rw [e1, ← key]
  constructor
  · intro h1 i h2 h3
    have := h1 i (Nat.zero_le _) (by omega)
    rw [hmem]
    unfold haveAt at this
    rw [show dn (li.getD i zI) = dAt li i from rfl, h3] at this
    intro h4
    rw [h4] at this
    exact absurd this (by decide)
  · intro h1 i _ h2
    unfold haveAt
    cases h3 : dn (li.getD i zI) with
    | false => rfl
    | true =>
      have := (hmem i).1 (h1 i (by omega) h3)
      show (false || !(((cntK lg (i : Int) lg.length : Nat) : Int) == (0 : Int))) = true
      rw [Bool.false_or, Bool.not_eq_true', beq_eq_false_iff_ne]
      omega

/-- What a world's rightness comes to. -/
def worldB (xs : List Node3) (kn : List Int) (li : List Inst9) (fr : Int) (gv sh : List Int) (lg : List Claim3) : Bool :=
  knowB xs kn && (decide (li.length ≤ 8) && (inB 0 8 fr && (allN (ascAt gv) 0 gv.length && (allN (ascAt sh) 0 sh.length && (instsB xs li && (agentsB gv && (shownB li sh && (allN (gLog li lg) 0 lg.length && allN (haveAt li lg) 0 li.length))))))))

theorem world_same (hs : Small xs kn li gv sh lg) : impl_WorldOk N0 (xs, kn, li, fr, gv, sh, lg) = some (worldB xs kn li fr gv sh lg) ∧ spec_WorldOk N0 (xs, kn, li, fr, gv, sh, lg) = some (worldB xs kn li fr gv sh lg) := by
  refine ⟨implWorld_eq hs, (specWorld_eq hs).trans (congrArg some ?_)⟩
  unfold worldB
  have e1 : allN (fun j => inB 0 4 (gv.getD j 0) && ascAt gv j) 0 gv.length = (agentsB gv && allN (ascAt gv) 0 gv.length) := allN_and _ _ _ _
  have e2 : allN (fun j => inB 0 ((li.length : Int) - 1) (sh.getD j 0) && ascAt sh j) 0 sh.length = (allN (fun j => inB 0 ((li.length : Int) - 1) (sh.getD j 0)) 0 sh.length && allN (ascAt sh) 0 sh.length) := allN_and _ _ _ _
  have e3 := shown_same (xs := xs) (li := li) (sh := sh)
  rw [e1, e2]
  cases hl : allN (gLog li lg) 0 lg.length with
  | true =>
    rw [log_same hl]
    revert e3
    generalize allN (fun j => inB 0 ((li.length : Int) - 1) (sh.getD j 0)) 0 sh.length = A
    generalize allN (six xs li sh) 0 li.length = B
    generalize instsB xs li = C
    generalize shownB li sh = D
    generalize agentsB gv = E
    generalize allN (ascAt gv) 0 gv.length = F
    generalize allN (ascAt sh) 0 sh.length = G
    generalize ((lg.length : Int) == ((places (dAt li) li.length).length : Int)) = H
    generalize knowB xs kn = K
    generalize decide (li.length ≤ 8) = M
    generalize inB 0 8 fr = R
    intro e3
    have : (A && B) = (C && D) := e3.symm
    cases A <;> cases B <;> cases C <;> cases D <;> simp_all <;> (cases E <;> cases F <;> cases G <;> rfl)
  | false =>
    simp only [Bool.false_and, Bool.and_false]
end

/-! ### Sizes -/
theorem szIntS_ex (n : Nat) {l : List Int} (hl : l.length ≤ 9223372036854775807) {r : Int} (h0 : 0 ≤ r) (h1 : r ≤ 1048576) : ∃ q, laws_szIntS n (l, r) = some q ∧ (q < 0 ∨ (0 ≤ q ∧ q ≤ 1048576 ∧ l.length ≤ 1048576)) := by
  unfold laws_szIntS
  simp only [wrap_ok (show -9223372036854775808 ≤ r - (l.length : Int) by omega) (show r - (l.length : Int) ≤ 9223372036854775807 by omega)]
  by_cases q : r - (l.length : Int) < 0
  · rw [decide_eq_true q]; exact ⟨-1, rfl, .inl (by omega)⟩
  · rw [decide_eq_false q]; exact ⟨_, rfl, .inr (by omega)⟩
theorem szClaimS_ex (n : Nat) {l : List Claim3} (hl : l.length ≤ 9223372036854775807) {r : Int} (h0 : 0 ≤ r) (h1 : r ≤ 1048576) : ∃ q, laws_szClaimS n (l, r) = some q ∧ (q < 0 ∨ (0 ≤ q ∧ q ≤ 1048576 ∧ l.length ≤ 1048576)) := by
  unfold laws_szClaimS
  simp only [wrap_ok (show -9223372036854775808 ≤ r - (l.length : Int) by omega) (show r - (l.length : Int) ≤ 9223372036854775807 by omega)]
  by_cases q : r - (l.length : Int) < 0
  · rw [decide_eq_true q]; exact ⟨-1, rfl, .inl (by omega)⟩
  · rw [decide_eq_false q]; exact ⟨_, rfl, .inr (by omega)⟩

theorem szInstS_loop (n : Nat) {li : List Inst9} (hl : li.length ≤ 1048576) (he : ∀ i, i < li.length → (envL (li.getD i zI)).length ≤ 9223372036854775807) : ∀ (m i : Nat) (r : Int), 0 ≤ r → r ≤ 1048576 → i ≤ li.length → li.length < m + i →
    (∃ q, laws_szInstS_L5 n m (li, r, (i : Int)) = some (.inl q) ∧ q < 0) ∨ (∃ q, laws_szInstS_L5 n m (li, r, (i : Int)) = some (.inr q) ∧ 0 ≤ q ∧ q ≤ 1048576 ∧ ∀ j, i ≤ j → j < li.length → (envL (li.getD j zI)).length ≤ 1048576)
  | 0, i, r, _, _, h1, h2 => by omega
  | m + 1, i, r, h0, h1, h2, h3 => by
    rcases Nat.eq_or_lt_of_le h2 with q | q
    · subst q
      refine .inr ⟨r, ?_, h0, h1, fun j _ _ => by omega⟩
      rw [laws_szInstS_L5]; dsimp only; rw [lt_f]; rfl
    · have e : laws_szInstS_L5 n (m + 1) (li, r, (i : Int)) = (bif decide ((if ((envL (li.getD i zI)).length : Int) ≤ r then r - ((envL (li.getD i zI)).length : Int) else -1) < 0) then some (.inl (-1)) else laws_szInstS_L5 n m (li, (if ((envL (li.getD i zI)).length : Int) ≤ r then r - ((envL (li.getD i zI)).length : Int) else -1), ((i + 1 : Nat) : Int))) := by
        rw [laws_szInstS_L5]; dsimp only
        rw [lt_t q, cond_true, inb_nat q, cond_true]
        simp only [Int.toNat_natCast, step_wrap q (by omega : li.length ≤ 4294967296)]
        rw [szInst_eq n ⟨h0, h1⟩ (he i q)]
        rfl
      rw [e]
      by_cases hz : ((envL (li.getD i zI)).length : Int) ≤ r
      · rw [if_pos hz, decide_eq_false (by omega : ¬ r - ((envL (li.getD i zI)).length : Int) < 0), cond_false]
        rcases szInstS_loop n hl he m (i + 1) (r - ((envL (li.getD i zI)).length : Int)) (by omega) (by omega) q (by omega) with g | ⟨v, g1, g2, g3, g4⟩
        · exact .inl g
        · refine .inr ⟨v, g1, g2, g3, fun j h5 h6 => ?_⟩
          rcases Nat.eq_or_lt_of_le h5 with z | z
          · subst z; omega
          · exact g4 j z h6
      · rw [if_neg hz]
        exact .inl ⟨-1, rfl, by omega⟩
theorem szInstS_ex {li : List Inst9} (hl : li.length ≤ 9223372036854775807) (he : ∀ i, i < li.length → (envL (li.getD i zI)).length ≤ 9223372036854775807) {r : Int} (h0 : 0 ≤ r) (h1 : r ≤ 1048576) :
    ∃ q, laws_szInstS N0 (li, r) = some q ∧ (q < 0 ∨ (0 ≤ q ∧ q ≤ 1048576 ∧ li.length ≤ 1048576 ∧ ∀ j, j < li.length → (envL (li.getD j zI)).length ≤ 1048576)) := by
  unfold laws_szInstS
  simp only [wrap_ok (show -9223372036854775808 ≤ r - (li.length : Int) by omega) (show r - (li.length : Int) ≤ 9223372036854775807 by omega)]
  by_cases q : r - (li.length : Int) < 0
  · rw [decide_eq_true q]; exact ⟨-1, rfl, .inl (by omega)⟩
  · rw [decide_eq_false q, cond_false]
    rcases szInstS_loop N0 (by omega) he N0 0 (r - (li.length : Int)) (by omega) (by omega) (Nat.zero_le _) (by have := n0; omega) with ⟨v, g1, g2⟩ | ⟨v, g1, g2, g3, g4⟩
    · rw [show laws_szInstS_L5 N0 N0 (li, r - (li.length : Int), (0 : Int)) = _ from g1]
      exact ⟨v, rfl, .inl g2⟩
    · rw [show laws_szInstS_L5 N0 N0 (li, r - (li.length : Int), (0 : Int)) = _ from g1]
      exact ⟨v, rfl, .inr ⟨g2, g3, by omega, fun j hj => g4 j (Nat.zero_le _) hj⟩⟩

structure Big (xs : List Node3) (kn : List Int) (li : List Inst9) (gv sh : List Int) (lg : List Claim3) : Prop where
  fx : xs.length ≤ 9223372036854775807
  fk : kn.length ≤ 9223372036854775807
  fl : li.length ≤ 9223372036854775807
  fg : gv.length ≤ 9223372036854775807
  fs : sh.length ≤ 9223372036854775807
  fo : lg.length ≤ 9223372036854775807
  fe : ∀ i, i < li.length → (envL (li.getD i zI)).length ≤ 9223372036854775807

section
variable {xs : List Node3} {kn : List Int} {li : List Inst9} {fr : Int} {gv sh : List Int} {lg : List Claim3}

theorem szWorld_ex (hb : Big xs kn li gv sh lg) : ∃ q, laws_szWorld N0 (xs, kn, li, fr, gv, sh, lg, (1048576 : Int)) = some q ∧ (q < 0 ∨ (0 ≤ q ∧ Small xs kn li gv sh lg)) := by
  rw [laws_szWorld]; dsimp only
  rw [szPool_eq N0 hb.fx]
  simp only [Option.bind_some]
  by_cases q1 : xs.length ≤ 1048576
  · rw [if_pos q1, decide_eq_false (by omega : ¬ (1048576 : Int) - (xs.length : Int) < 0), cond_false]
    obtain ⟨a, ha, ha2⟩ := szIntS_ex N0 hb.fk (r := (1048576 : Int) - (xs.length : Int)) (by omega) (by omega)
    rw [ha]
    rcases ha2 with ha2 | ⟨ha2, ha3, ha4⟩
    · simp only [Option.bind_some]
      rw [decide_eq_true ha2]; exact ⟨-1, rfl, .inl (by omega)⟩
    · simp only [Option.bind_some]
      rw [decide_eq_false (by omega : ¬ a < 0), cond_false]
      obtain ⟨b, hb1, hb2⟩ := szInstS_ex hb.fl hb.fe ha2 ha3
      rw [hb1]
      rcases hb2 with hb2 | ⟨hb2, hb3, hb4, hb5⟩
      · simp only [Option.bind_some]
        rw [decide_eq_true hb2]; exact ⟨-1, rfl, .inl (by omega)⟩
      · simp only [Option.bind_some]
        rw [decide_eq_false (by omega : ¬ b < 0), cond_false]
        obtain ⟨c, hc1, hc2⟩ := szIntS_ex N0 hb.fg hb2 hb3
        rw [hc1]
        rcases hc2 with hc2 | ⟨hc2, hc3, hc4⟩
        · simp only [Option.bind_some]
          rw [decide_eq_true hc2]; exact ⟨-1, rfl, .inl (by omega)⟩
        · simp only [Option.bind_some]
          rw [decide_eq_false (by omega : ¬ c < 0), cond_false]
          obtain ⟨d, hd1, hd2⟩ := szIntS_ex N0 hb.fs hc2 hc3
          rw [hd1]
          rcases hd2 with hd2 | ⟨hd2, hd3, hd4⟩
          · simp only [Option.bind_some]
            rw [decide_eq_true hd2]; exact ⟨-1, rfl, .inl (by omega)⟩
          · simp only [Option.bind_some]
            rw [decide_eq_false (by omega : ¬ d < 0), cond_false]
            obtain ⟨e, he1, he2⟩ := szClaimS_ex N0 hb.fo hd2 hd3
            rw [he1]
            rcases he2 with he2 | ⟨he2, he3, he4⟩
            · simp only [Option.bind_some]
              rw [decide_eq_true he2]; exact ⟨-1, rfl, .inl (by omega)⟩
            · simp only [Option.bind_some]
              rw [decide_eq_false (by omega : ¬ e < 0), cond_false]
              exact ⟨e, rfl, .inr ⟨he2, by omega, by omega, by omega, by omega, by omega, by omega, fun i hi => Nat.le_trans (hb5 i hi) (by omega)⟩⟩
  · rw [if_neg q1]
    exact ⟨-1, rfl, .inl (by omega)⟩

/-! ### Copies -/
theorem getD_set_copy {α : Type} (d : α) {xs ys : List α} {i : Nat} (hi : i < xs.length) (hl : ys.length = xs.length) (h : ∀ j, j < i → ys[j]? = xs[j]?) : (ys.set i (xs.getD i d)).length = xs.length ∧ ∀ j, j < i + 1 → (ys.set i (xs.getD i d))[j]? = xs[j]? := by
  rw [getD_of hi]; exact copy_set hi hl h

theorem toInstS_loop {li : List Inst9} (hl : li.length ≤ 4294967296) (he : ∀ i, i < li.length → (envL (li.getD i zI)).length ≤ 4294967296) : ∀ (m i : Nat) (ys : List Inst9), i ≤ li.length → ys.length = li.length → (∀ j, j < i → ys[j]? = li[j]?) → li.length < m + i → laws_toInstS_L3 N0 m (li, ys, (i : Int)) = some li
  | 0, i, ys, hi, hy, h, hm => by omega
  | m + 1, i, ys, hi, hy, h, hm => by
    rcases Nat.eq_or_lt_of_le hi with q | q
    · subst q
      rw [laws_toInstS_L3]; dsimp only; rw [lt_f, cond_false, copy_done (Nat.le_refl _) hy h]
    · have e : laws_toInstS_L3 N0 (m + 1) (li, ys, (i : Int)) = laws_toInstS_L3 N0 m (li, ys.set i (li.getD i zI), ((i + 1 : Nat) : Int)) := by
        rw [laws_toInstS_L3]; dsimp only
        rw [lt_t q, cond_true, inb_nat q, cond_true, Int.toNat_natCast, toInst_eq N0 n0 (he i q)]
        simp only [Option.bind_some]
        rw [inb_nat (by omega : i < ys.length), cond_true, step_wrap q hl]
      obtain ⟨h1, h2⟩ := getD_set_copy zI q hy h
      rw [e]
      exact toInstS_loop hl he m (i + 1) _ q h1 h2 (by omega)
theorem toInstS_eq {li : List Inst9} (hl : li.length ≤ 4294967296) (he : ∀ i, i < li.length → (envL (li.getD i zI)).length ≤ 4294967296) : laws_toInstS N0 li = some li := by
  unfold laws_toInstS
  rw [decide_eq_true (by omega : 0 ≤ (li.length : Int) ∧ (li.length : Int) ≤ (li.length : Int) ∧ (li.length : Int) ≤ 4294967296), cond_true]
  have := toInstS_loop hl he N0 0 (List.replicate ((li.length : Int)).toNat zI) (Nat.zero_le _) (by simp) (fun j hj => by omega) (by have := n0; omega)
  rw [show laws_toInstS_L3 N0 N0 (li, List.replicate ((li.length : Int)).toNat zI, (0 : Int)) = _ from this]; rfl

theorem toClaimS_loop {lg : List Claim3} (hl : lg.length ≤ 4294967296) : ∀ (m i : Nat) (ys : List Claim3), i ≤ lg.length → ys.length = lg.length → (∀ j, j < i → ys[j]? = lg[j]?) → lg.length < m + i → laws_toClaimS_L3 N0 m (lg, ys, (i : Int)) = some lg
  | 0, i, ys, hi, hy, h, hm => by omega
  | m + 1, i, ys, hi, hy, h, hm => by
    rcases Nat.eq_or_lt_of_le hi with q | q
    · subst q
      rw [laws_toClaimS_L3]; dsimp only; rw [lt_f, cond_false, copy_done (Nat.le_refl _) hy h]
    · have e : laws_toClaimS_L3 N0 (m + 1) (lg, ys, (i : Int)) = laws_toClaimS_L3 N0 m (lg, ys.set i (lg.getD i zC), ((i + 1 : Nat) : Int)) := by
        rw [laws_toClaimS_L3]; dsimp only
        rw [lt_t q, cond_true, inb_nat q, cond_true, Int.toNat_natCast, show laws_toClaim N0 ((lg.getD i zC).1, (lg.getD i zC).2.1, (lg.getD i zC).2.2) = some (lg.getD i zC) from rfl]
        simp only [Option.bind_some]
        rw [inb_nat (by omega : i < ys.length), cond_true, step_wrap q hl]
      obtain ⟨h1, h2⟩ := getD_set_copy zC q hy h
      rw [e]
      exact toClaimS_loop hl m (i + 1) _ q h1 h2 (by omega)
theorem toClaimS_eq {lg : List Claim3} (hl : lg.length ≤ 4294967296) : laws_toClaimS N0 lg = some lg := by
  unfold laws_toClaimS
  rw [decide_eq_true (by omega : 0 ≤ (lg.length : Int) ∧ (lg.length : Int) ≤ (lg.length : Int) ∧ (lg.length : Int) ≤ 4294967296), cond_true]
  have := toClaimS_loop hl N0 0 (List.replicate ((lg.length : Int)).toNat zC) (Nat.zero_le _) (by simp) (fun j hj => by omega) (by have := n0; omega)
  rw [show laws_toClaimS_L3 N0 N0 (lg, List.replicate ((lg.length : Int)).toNat zC, (0 : Int)) = _ from this]; rfl

theorem toWorld_eq (hs : Small xs kn li gv sh lg) : laws_toWorld N0 (xs, kn, li, fr, gv, sh, lg) = some (xs, kn, li, fr, gv, sh, lg) := by
  rw [laws_toWorld]; dsimp only
  rw [toPool_eq N0 n0 hs.fx, toIntS_eq N0 n0 hs.fk, toInstS_eq hs.fl hs.fe, toIntS_eq N0 n0 hs.fg, toIntS_eq N0 n0 hs.fs, toClaimS_eq hs.fo]; rfl

/-! ### A world is held against itself -/
theorem eqIntS_self {l : List Int} (hl : l.length ≤ 4294967296) : laws_eqIntS N0 (l, l) = some true := by
  unfold laws_eqIntS
  have := eqIntS_loop N0 hl N0 0 (Nat.zero_le _) (by have := n0; omega)
  rw [show ((0 : Nat) : Int) = (0 : Int) from rfl] at this
  simp only [bne_self_eq_false, cond_false, this]; rfl
theorem eqInstS_self {li : List Inst9} (hl : li.length ≤ 4294967296) (he : ∀ i, i < li.length → (envL (li.getD i zI)).length ≤ 4294967296) : laws_eqInstS N0 (li, li) = some true := by
  have h := test_loop (laws_eqInstS_L4 N0) (fun i => (li, li, (i : Int))) (fun _ => true) false () li.length (fun m i hi => by
    rw [laws_eqInstS_L4]; dsimp only
    rw [lt_t hi, cond_true, inb_nat hi, cond_true, cond_true, Int.toNat_natCast, eqInst_self N0 n0 (he i hi)]
    simp only [Option.bind_some, step_wrap hi hl]; rfl) (fun m => by
    rw [laws_eqInstS_L4]; dsimp only; rw [lt_f]; rfl) N0 0 (Nat.zero_le _) (by have := n0; omega)
  have ht : allN (fun _ => true) 0 (li.length - 0) = true := allN_iff.2 fun _ _ _ => rfl
  rw [ht] at h
  unfold laws_eqInstS
  simp only [bne_self_eq_false, cond_false]
  rw [show laws_eqInstS_L4 N0 N0 (li, li, (0 : Int)) = _ from h]; rfl
theorem eqClaim_self (x : Claim3) : laws_eqClaim N0 (x.1, x.2.1, x.2.2, x.1, x.2.1, x.2.2) = some true := by
  unfold laws_eqClaim
  simp only [bne_self_eq_false, cond_false]
theorem eqClaimS_self {lg : List Claim3} (hl : lg.length ≤ 4294967296) : laws_eqClaimS N0 (lg, lg) = some true := by
  have h := test_loop (laws_eqClaimS_L4 N0) (fun i => (lg, lg, (i : Int))) (fun _ => true) false () lg.length (fun m i hi => by
    rw [laws_eqClaimS_L4]; dsimp only
    rw [lt_t hi, cond_true, inb_nat hi, cond_true, cond_true, Int.toNat_natCast, eqClaim_self]
    simp only [Option.bind_some, step_wrap hi hl]; rfl) (fun m => by
    rw [laws_eqClaimS_L4]; dsimp only; rw [lt_f]; rfl) N0 0 (Nat.zero_le _) (by have := n0; omega)
  have ht : allN (fun _ => true) 0 (lg.length - 0) = true := allN_iff.2 fun _ _ _ => rfl
  rw [ht] at h
  unfold laws_eqClaimS
  simp only [bne_self_eq_false, cond_false]
  rw [show laws_eqClaimS_L4 N0 N0 (lg, lg, (0 : Int)) = _ from h]; rfl
theorem eqWorld_self (hs : Small xs kn li gv sh lg) : laws_eqWorld N0 (xs, kn, li, fr, gv, sh, lg, xs, kn, li, fr, gv, sh, lg) = some true := by
  rw [laws_eqWorld]; dsimp only
  rw [eqPool_self N0 n0 hs.fx, eqIntS_self hs.fk, eqInstS_self hs.fl hs.fe, eqIntS_self hs.fg, eqIntS_self hs.fs, eqClaimS_self hs.fo]
  simp only [Option.bind_some, Bool.not_true, cond_false, bne_self_eq_false]

theorem worldOk_law (hb : Big xs kn li gv sh lg) : laws_FnExactWorldOk N0 (xs, kn, li, fr, gv, sh, lg) = some true := by
  obtain ⟨q, h1, h2⟩ := szWorld_ex (fr := fr) hb
  rw [laws_FnExactWorldOk]; dsimp only
  rw [h1]
  simp only [Option.bind_some]
  rcases h2 with h2 | ⟨h2, hs⟩
  · rw [decide_eq_true h2]; rfl
  · rw [decide_eq_false (by omega : ¬ q < 0), cond_false]
    simp only [toWorld_eq hs, Option.bind_some, (world_same hs).1, (world_same hs).2, bne_self_eq_false, cond_false, eqWorld_self hs, Bool.not_true]
end

theorem big_of {xs : List Node3} {kn : List Int} {li : List Inst9} {gv sh : List Int} {lg : List Claim3} (h1 : Fits (.sl kN) xs) (h2 : Fits (.sl kI) kn) (h3 : Fits (.sl (.pr kI (.pr kI (.pr kI (.pr kI (.pr kI (.pr (.sl kI) (.pr .bool (.pr .bool kI))))))))) li) (h4 : Fits (.sl kI) gv) (h5 : Fits (.sl kI) sh) (h6 : Fits (.sl (.pr kI (.pr .bool .bool))) lg) : Big xs kn li gv sh lg where
  fx := maxLen_eq ▸ h1.1
  fk := maxLen_eq ▸ h2.1
  fl := maxLen_eq ▸ h3.1
  fg := maxLen_eq ▸ h4.1
  fs := maxLen_eq ▸ h5.1
  fo := maxLen_eq ▸ h6.1
  fe := fun i hi => by
    have hm : li.getD i zI ∈ li := by rw [getD_of hi]; exact List.getElem_mem hi
    have := h3.2 _ hm
    exact maxLen_eq ▸ this.2.2.2.2.2.1.1

theorem worldOk_law_td (x : TD (entys (parEns 0 (S4 0).pars))) (hx : FitsTD _ x) : laws_FnExactWorldOk N0 x = some true := by
  obtain ⟨xs, kn, li, fr, gv, sh, lg⟩ := x
  exact worldOk_law (big_of (hx ⟨_, xs⟩ (.head _)) (hx ⟨_, kn⟩ (.tail _ (.head _))) (hx ⟨_, li⟩ (.tail _ (.tail _ (.head _)))) (hx ⟨_, gv⟩ (.tail _ (.tail _ (.tail _ (.tail _ (.head _)))))) (hx ⟨_, sh⟩ (.tail _ (.tail _ (.tail _ (.tail _ (.tail _ (.head _))))))) (hx ⟨_, lg⟩ (.tail _ (.tail _ (.tail _ (.tail _ (.tail _ (.tail _ (.head _)))))))))
end AM
end Go.Proofs.YtpcdcnmmkfhliaaGreatDoor

/-! What hangs on a world's rightness: given, claims, trust, shown keys, an instance as text, secrets; the laws, as plain functions, come to true. No condition but that lists are no longer than memory. -/
namespace Go.Proofs.YtpcdcnmmkfhliaaGreatDoor
namespace AM
open Go
set_option linter.unusedVariables false
set_option linter.unusedSimpArgs false

section
variable {xs : List Node3} {kn : List Int} {li : List Inst9} {fr : Int} {gv sh : List Int} {lg : List Claim3} {k : Int}

theorem contains_eq {l : List Int} (hl : l.length ≤ 4294967296) (v : Int) : slices_Contains___int_int_ N0 (l, v) = some (hasAt l v) := by
  have h : ∀ (m i : Nat), i ≤ l.length → l.length < m + i →
      (∃ j : Nat, slices_Index___int_int__L2 N0 m (l, v, (l.length : Int), (i : Int)) = some (.inl (j : Int)) ∧ allN (fun j => !(l.getD j 0 == v)) i (l.length - i) = false) ∨
      (slices_Index___int_int__L2 N0 m (l, v, (l.length : Int), (i : Int)) = some (.inr ()) ∧ allN (fun j => !(l.getD j 0 == v)) i (l.length - i) = true) := by
    intro m
    induction m with
    | zero => intro i h1 h2; omega
    | succ m ih =>
      intro i h1 h2
      rcases Nat.eq_or_lt_of_le h1 with q | q
      · subst q
        refine .inr ⟨?_, ?_⟩
        · rw [slices_Index___int_int__L2]; dsimp only; rw [lt_f]; rfl
        · rw [Nat.sub_self]; rfl
      · rw [slices_Index___int_int__L2]
        dsimp only
        rw [lt_t q, cond_true, inb_nat q, cond_true, Int.toNat_natCast, step_wrap q hl, show l.length - i = (l.length - (i + 1)) + 1 by omega]
        show (∃ j : Nat, _ ∧ (!(l.getD i 0 == v) && allN (fun j => !(l.getD j 0 == v)) (i + 1) (l.length - (i + 1))) = false) ∨ (_ ∧ (!(l.getD i 0 == v) && allN (fun j => !(l.getD j 0 == v)) (i + 1) (l.length - (i + 1))) = true)
        have hc : (v == l.getD i 0) = (l.getD i 0 == v) := by
          rw [Bool.eq_iff_iff, beq_iff_eq, beq_iff_eq]
          exact ⟨fun h => h.symm, fun h => h.symm⟩
        rw [hc]
        cases hq : (l.getD i 0 == v) with
        | true => exact .inl ⟨i, rfl, rfl⟩
        | false => exact ih (i + 1) q (by omega)
  rcases h N0 0 (Nat.zero_le _) (by have := n0; omega) with ⟨j, h1, h2⟩ | ⟨h1, h2⟩
  · rw [slices_Contains___int_int_]; dsimp only
    rw [slices_Index___int_int_]; dsimp only
    rw [show slices_Index___int_int__L2 N0 N0 (l, v, (l.length : Int), (0 : Int)) = _ from h1]
    unfold hasAt
    rw [Nat.sub_zero] at h2
    rw [h2]
    show some (decide ((j : Int) ≥ 0)) = some true
    rw [decide_eq_true (by omega : (j : Int) ≥ 0)]
  · rw [slices_Contains___int_int_]; dsimp only
    rw [slices_Index___int_int_]; dsimp only
    rw [show slices_Index___int_int__L2 N0 N0 (l, v, (l.length : Int), (0 : Int)) = _ from h1]
    unfold hasAt
    rw [Nat.sub_zero] at h2
    rw [h2]; rfl
theorem given_eq (hg : gv.length ≤ 4294967296) (v : Int) : impl_World_given N0 (xs, kn, li, fr, gv, sh, lg, v) = some (xs, kn, li, fr, gv, sh, lg, hasAt gv v) := by
  rw [impl_World_given]; dsimp only
  rw [contains_eq hg]; rfl

/-- What closes each of these laws. -/
theorem wasGiven_same (hs : Small xs kn li gv sh lg) : ∃ v, impl_WasGiven N0 (xs, kn, li, fr, gv, sh, lg, k) = some v ∧ spec_WasGiven N0 (xs, kn, li, fr, gv, sh, lg, k) = some v := by
  refine ⟨worldB xs kn li fr gv sh lg && hasAt gv k, ?_, ?_⟩
  · rw [impl_WasGiven]; dsimp only
    rw [given_eq hs.fg]
    simp only [Option.bind_some]
    cases hasAt gv k with
    | false => rw [Bool.and_false]; rfl
    | true =>
      rw [Bool.and_true, cond_true, (world_same hs).1]; rfl
  · rw [spec_WasGiven]; dsimp only
    rw [(world_same hs).2, knowHas_eq hs.fg]
    simp only [Option.bind_some]
    cases worldB xs kn li fr gv sh lg <;> rfl

/-! ### Claims -/
/-- The first claim of an instance from a place on. -/
def claimFrom (lg : List Claim3) (k : Int) : Nat → Nat → Option Claim3
  | _, 0 => none
  | i, m + 1 => bif lk lg i == k then some (lg.getD i zC) else claimFrom lg k (i + 1) m
def claimAt (lg : List Claim3) (k : Int) : Option Claim3 := claimFrom lg k 0 lg.length

theorem implClaim_loop (hg : lg.length ≤ 4294967296) : ∀ (m i : Nat), i ≤ lg.length → lg.length < m + i → impl_World_claimOf_L2 N0 m (xs, kn, li, fr, gv, sh, lg, k, (0 : Int), false, false, lg, (lg.length : Int), (i : Int)) =
    some (match claimFrom lg k i (lg.length - i) with | some c => .inl (xs, kn, li, fr, gv, sh, lg, c.1, c.2.1, c.2.2, true) | none => .inr (xs, kn, li, fr, gv, sh, lg, (0 : Int), false, false))
  | 0, i, h1, h2 => by omega
  | m + 1, i, h1, h2 => by
    rcases Nat.eq_or_lt_of_le h1 with q | q
    · subst q
      rw [impl_World_claimOf_L2]; dsimp only; rw [lt_f, Nat.sub_self]; rfl
    · have ih := implClaim_loop hg m (i + 1) q (by omega)
      rw [impl_World_claimOf_L2]; dsimp only
      rw [lt_t q, cond_true, inb_nat q, cond_true, Int.toNat_natCast, step_wrap q hg, show lg.length - i = (lg.length - (i + 1)) + 1 by omega, ih]
      show (cond (lk lg i == k) _ _) = some (match (bif lk lg i == k then some (lg.getD i zC) else claimFrom lg k (i + 1) (lg.length - (i + 1))) with | some c => _ | none => _)
      cases (lk lg i == k) <;> rfl
theorem implClaim_eq (hg : lg.length ≤ 4294967296) : impl_World_claimOf N0 (xs, kn, li, fr, gv, sh, lg, k) =
    some (match claimAt lg k with | some c => (xs, kn, li, fr, gv, sh, lg, c.1, c.2.1, c.2.2, true) | none => (xs, kn, li, fr, gv, sh, lg, (0 : Int), false, false, false)) := by
  have h := implClaim_loop (xs := xs) (kn := kn) (li := li) (fr := fr) (gv := gv) (sh := sh) (k := k) hg N0 0 (Nat.zero_le _) (by have := n0; omega)
  rw [Nat.sub_zero] at h
  rw [impl_World_claimOf]; dsimp only
  rw [show impl_World_claimOf_L2 N0 N0 (xs, kn, li, fr, gv, sh, lg, k, (0 : Int), false, false, lg, (lg.length : Int), (0 : Int)) = _ from h]
  unfold claimAt
  cases claimFrom lg k 0 lg.length <;> rfl

theorem specClaim_loop (hg : lg.length ≤ 4294967296) : ∀ (m i : Nat), i ≤ lg.length → lg.length < m + i → spec_l15Claim_L2 N0 m (k, xs, kn, li, fr, gv, sh, lg, (0 : Int), false, false, (i : Int)) =
    some (match claimFrom lg k i (lg.length - i) with | some c => .inl (c.1, c.2.1, c.2.2, true) | none => .inr ((0 : Int), false, false))
  | 0, i, h1, h2 => by omega
  | m + 1, i, h1, h2 => by
    rcases Nat.eq_or_lt_of_le h1 with q | q
    · subst q
      rw [spec_l15Claim_L2]; dsimp only; rw [lt_f, Nat.sub_self]; rfl
    · have ih := specClaim_loop hg m (i + 1) q (by omega)
      rw [spec_l15Claim_L2]; dsimp only
      rw [lt_t q, cond_true, inb_nat q, cond_true, cond_true, Int.toNat_natCast, step_wrap q hg, show lg.length - i = (lg.length - (i + 1)) + 1 by omega, ih]
      show (cond (lk lg i == k) _ _) = some (match (bif lk lg i == k then some (lg.getD i zC) else claimFrom lg k (i + 1) (lg.length - (i + 1))) with | some c => _ | none => _)
      cases (lk lg i == k) <;> rfl
theorem specClaim_eq (hg : lg.length ≤ 4294967296) : spec_l15Claim N0 (xs, kn, li, fr, gv, sh, lg, k) =
    some (match claimAt lg k with | some c => (c.1, c.2.1, c.2.2, true) | none => ((0 : Int), false, false, false)) := by
  have h := specClaim_loop (xs := xs) (kn := kn) (li := li) (fr := fr) (gv := gv) (sh := sh) (k := k) hg N0 0 (Nat.zero_le _) (by have := n0; omega)
  rw [Nat.sub_zero] at h
  rw [spec_l15Claim]; dsimp only
  rw [show spec_l15Claim_L2 N0 N0 (k, xs, kn, li, fr, gv, sh, lg, (0 : Int), false, false, (0 : Int)) = _ from h]
  unfold claimAt
  cases claimFrom lg k 0 lg.length <;> rfl

theorem claimOf_same (hs : Small xs kn li gv sh lg) : ∃ v, impl_ClaimOf N0 (xs, kn, li, fr, gv, sh, lg, k) = some v ∧ spec_ClaimOf N0 (xs, kn, li, fr, gv, sh, lg, k) = some v := by
  have e1 : impl_ClaimOf N0 (xs, kn, li, fr, gv, sh, lg, k) = some (bif worldB xs kn li fr gv sh lg then (match claimAt lg k with | some c => (c.1, c.2.1, c.2.2, true) | none => ((0 : Int), false, false, false)) else ((0 : Int), false, false, false)) := by
    rw [impl_ClaimOf]; dsimp only
    rw [(world_same hs).1, implClaim_eq hs.fo]
    simp only [Option.bind_some]
    cases worldB xs kn li fr gv sh lg <;> cases claimAt lg k <;> rfl
  have e2 : spec_ClaimOf N0 (xs, kn, li, fr, gv, sh, lg, k) = some (bif worldB xs kn li fr gv sh lg then (match claimAt lg k with | some c => (c.1, c.2.1, c.2.2, true) | none => ((0 : Int), false, false, false)) else ((0 : Int), false, false, false)) := by
    rw [spec_ClaimOf]; dsimp only
    rw [(world_same hs).2, specClaim_eq hs.fo]
    simp only [Option.bind_some]
    cases worldB xs kn li fr gv sh lg <;> cases claimAt lg k <;> rfl
  exact ⟨_, e1, e2⟩

theorem claimFrom_lk (lg : List Claim3) (k : Int) : ∀ (m i : Nat) {c : Claim3}, claimFrom lg k i m = some c → ∃ j, i ≤ j ∧ j < i + m ∧ lk lg j = k
  | 0, i, c, h => by cases h
  | m + 1, i, c, h => by
    unfold claimFrom at h
    cases q : (lk lg i == k) with
    | true => exact ⟨i, Nat.le_refl _, by omega, beq_iff_eq.1 q⟩
    | false =>
      rw [q] at h
      obtain ⟨j, h1, h2, h3⟩ := claimFrom_lk lg k m (i + 1) h
      exact ⟨j, by omega, by omega, h3⟩

/-- Of a right world: who has a claim is an instance. -/
theorem world_claim (hw : worldB xs kn li fr gv sh lg = true) {c : Claim3} (hc : claimAt lg k = some c) : inst0 (li.length : Int) k = true := by
  obtain ⟨j, _, h2, h3⟩ := claimFrom_lk lg k _ 0 hc
  unfold worldB at hw
  simp only [Bool.and_eq_true] at hw
  have hl := hw.2.2.2.2.2.2.2.2.1
  rw [allN_iff] at hl
  have := hl j (Nat.zero_le _) h2
  unfold gLog at this
  rw [Bool.and_eq_true] at this
  have := this.1
  unfold doneB at this
  rw [Bool.and_eq_true, h3] at this
  exact this.1
/-- ... and what is shown is one, too. -/
theorem world_shown (hw : worldB xs kn li fr gv sh lg = true) {j : Nat} (hj : j < sh.length) : inst0 (li.length : Int) (sh.getD j 0) = true := by
  unfold worldB at hw
  simp only [Bool.and_eq_true] at hw
  have hl := hw.2.2.2.2.2.2.2.1
  unfold shownB at hl
  rw [allN_iff] at hl
  have := hl j (Nat.zero_le _) (by omega)
  unfold doneB at this
  rw [Bool.and_eq_true] at this
  exact this.1

def trustB (li : List Inst9) (lg : List Claim3) (k : Int) : Bool := match claimAt lg k with
  | some c => !c.2.1 && (((li.getD k.toNat zI).1 != (2 : Int)) || !c.2.2)
  | none => false
theorem implTrusted_eq (hs : Small xs kn li gv sh lg) (hw : worldB xs kn li fr gv sh lg = true) : impl_World_trusted N0 (xs, kn, li, fr, gv, sh, lg, k) = some (xs, kn, li, fr, gv, sh, lg, trustB li lg k) := by
  rw [impl_World_trusted]; dsimp only
  rw [implClaim_eq hs.fo]
  simp only [Option.bind_some]
  unfold trustB
  cases hc : claimAt lg k with
  | none => rfl
  | some c =>
    have := inst0_inb (world_claim hw hc)
    dsimp only
    rw [this]
    cases c.2.1 <;> cases ((li.getD k.toNat zI).1 != (2 : Int)) <;> cases c.2.2 <;> rfl
theorem specTrusted_eq (hs : Small xs kn li gv sh lg) (hw : worldB xs kn li fr gv sh lg = true) : spec_l15Trusted N0 (xs, kn, li, fr, gv, sh, lg, k) = some (trustB li lg k) := by
  rw [spec_l15Trusted]; dsimp only
  rw [specClaim_eq hs.fo]
  simp only [Option.bind_some]
  unfold trustB
  cases hc : claimAt lg k with
  | none => rfl
  | some c =>
    have := inst0_inb (world_claim hw hc)
    dsimp only
    rw [this]
    cases c.2.1 <;> cases ((li.getD k.toNat zI).1 != (2 : Int)) <;> cases c.2.2 <;> rfl
theorem trusted_same (hs : Small xs kn li gv sh lg) : ∃ v, impl_Trusted N0 (xs, kn, li, fr, gv, sh, lg, k) = some v ∧ spec_Trusted N0 (xs, kn, li, fr, gv, sh, lg, k) = some v := by
  rw [impl_Trusted, spec_Trusted]; dsimp only
  rw [(world_same hs).1, (world_same hs).2]
  simp only [Option.bind_some]
  cases hw : worldB xs kn li fr gv sh lg with
  | false => exact ⟨false, rfl, rfl⟩
  | true =>
    rw [implTrusted_eq hs hw, specTrusted_eq hs hw]
    exact ⟨trustB li lg k, rfl, rfl⟩

/-! ### Shown keys -/
def keyAt (li : List Inst9) (k : Int) : Int := (li.getD k.toNat zI).2.2.2.2.2.2.2.2
def noKey (li : List Inst9) (sh : List Int) (k : Int) (j : Nat) : Bool := !(keyAt li (sh.getD j 0) == keyAt li k)
def keyShownB (li : List Inst9) (sh : List Int) (k : Int) : Bool := doneB li k && !allN (noKey li sh k) 0 sh.length

theorem one_eq {j : Int} (h1 : inst0 (li.length : Int) j = true) (h2 : inst0 (li.length : Int) k = true) : impl_World_keyShown_1 N0 (j, false, k, xs, kn, li, fr, gv, sh, lg) = some (false, k, xs, kn, li, fr, gv, sh, lg, keyAt li j == keyAt li k) := by
  rw [impl_World_keyShown_1]; dsimp only
  rw [inst0_inb h1, inst0_inb h2]; rfl

theorem indexFunc_loop (hs : Small xs kn li gv sh lg) (hw : worldB xs kn li fr gv sh lg = true) (hk : inst0 (li.length : Int) k = true) : ∀ (m i : Nat), i ≤ sh.length → sh.length < m + i →
    (∃ j : Nat, slices_IndexFunc___int_int__L2 N0 m (sh, false, (sh.length : Int), (i : Int), false, k, xs, kn, li, fr, gv, sh, lg) = some (.inl ((j : Int), false, k, xs, kn, li, fr, gv, sh, lg)) ∧ allN (noKey li sh k) i (sh.length - i) = false) ∨
    (slices_IndexFunc___int_int__L2 N0 m (sh, false, (sh.length : Int), (i : Int), false, k, xs, kn, li, fr, gv, sh, lg) = some (.inr (false, k, xs, kn, li, fr, gv, sh, lg)) ∧ allN (noKey li sh k) i (sh.length - i) = true)
  | 0, i, h1, h2 => by omega
  | m + 1, i, h1, h2 => by
    rcases Nat.eq_or_lt_of_le h1 with q | q
    · subst q
      refine .inr ⟨?_, ?_⟩
      · rw [slices_IndexFunc___int_int__L2]; dsimp only; rw [lt_f]; rfl
      · rw [Nat.sub_self]; rfl
    · have ih := indexFunc_loop hs hw hk m (i + 1) q (by omega)
      rw [slices_IndexFunc___int_int__L2]
      dsimp only
      rw [lt_t q, cond_true, inb_nat q, cond_true, Int.toNat_natCast, step_wrap q hs.fs, show sh.length - i = (sh.length - (i + 1)) + 1 by omega, one_eq (world_shown hw q) hk]
      simp only [Option.bind_some]
      show (∃ j : Nat, _ ∧ (noKey li sh k i && allN (noKey li sh k) (i + 1) (sh.length - (i + 1))) = false) ∨ (_ ∧ (noKey li sh k i && allN (noKey li sh k) (i + 1) (sh.length - (i + 1))) = true)
      unfold noKey at ih ⊢
      cases hq : (keyAt li (sh.getD i 0) == keyAt li k) with
      | true => exact .inl ⟨i, rfl, rfl⟩
      | false => exact ih

theorem implShown_eq (hs : Small xs kn li gv sh lg) (hw : worldB xs kn li fr gv sh lg = true) : impl_World_keyShown N0 (xs, kn, li, fr, gv, sh, lg, k) = some (xs, kn, li, fr, gv, sh, lg, keyShownB li sh k) := by
  rw [impl_World_keyShown]; dsimp only
  rw [isDone_eq hs.fl]
  simp only [Option.bind_some]
  unfold keyShownB
  cases hd : doneB li k with
  | false => rfl
  | true =>
    have hk : inst0 (li.length : Int) k = true := by
      unfold doneB at hd
      rw [Bool.and_eq_true] at hd
      exact hd.1
    rw [cond_true, slices_ContainsFunc___int_int_]; dsimp only
    rw [slices_IndexFunc___int_int_]; dsimp only
    rcases indexFunc_loop hs hw hk N0 0 (Nat.zero_le _) (by have := n0; have := hs.fs; omega) with ⟨j, h1, h2⟩ | ⟨h1, h2⟩
    · rw [show slices_IndexFunc___int_int__L2 N0 N0 (sh, false, (sh.length : Int), (0 : Int), false, k, xs, kn, li, fr, gv, sh, lg) = _ from h1]
      rw [Nat.sub_zero] at h2
      rw [h2]
      simp only [Option.bind_some]
      rw [decide_eq_true (by omega : (j : Int) ≥ 0)]; rfl
    · rw [show slices_IndexFunc___int_int__L2 N0 N0 (sh, false, (sh.length : Int), (0 : Int), false, k, xs, kn, li, fr, gv, sh, lg) = _ from h1]
      rw [Nat.sub_zero] at h2
      rw [h2]; rfl

theorem specShown_eq (hs : Small xs kn li gv sh lg) (hw : worldB xs kn li fr gv sh lg = true) : spec_l15Shown N0 (xs, kn, li, fr, gv, sh, lg, k) = some (keyShownB li sh k) := by
  have hli := hs.fl
  rw [spec_l15Shown]; dsimp only
  rw [wrap_ok (show -9223372036854775808 ≤ (li.length : Int) - 1 by omega) (show (li.length : Int) - 1 ≤ 9223372036854775807 by omega), in_eq]
  simp only [Option.bind_some]
  rw [show (decide (k ≥ 0) && decide (k ≤ (li.length : Int) - 1)) = inst0 (li.length : Int) k from rfl]
  unfold keyShownB doneB
  cases hk : inst0 (li.length : Int) k with
  | false => rfl
  | true =>
    rw [inst0_inb hk]
    unfold dn
    cases (li.getD k.toNat zI).2.2.2.2.2.2.1 with
    | false => rfl
    | true =>
      have h := test_loop (spec_l15Shown_L4 N0) (fun i => (k, xs, kn, li, fr, gv, sh, lg, (i : Int))) (noKey li sh k) true () sh.length (fun m i hi => by
        rw [spec_l15Shown_L4]; dsimp only
        rw [lt_t hi, cond_true, inb_nat hi, cond_true, Int.toNat_natCast, step_wrap hi hs.fs, inst0_inb (world_shown hw hi), cond_true, inst0_inb hk, cond_true]
        unfold noKey keyAt
        cases ((li.getD (sh.getD i 0).toNat zI).2.2.2.2.2.2.2.2 == (li.getD k.toNat zI).2.2.2.2.2.2.2.2) <;> rfl) (fun m => by
        rw [spec_l15Shown_L4]; dsimp only; rw [lt_f]; rfl) N0 0 (Nat.zero_le _) (by have := n0; have := hs.fs; omega)
      rw [Nat.sub_zero] at h
      show ((spec_l15Shown_L4 N0 N0 (k, xs, kn, li, fr, gv, sh, lg, (0 : Int))).bind _) = _
      rw [show spec_l15Shown_L4 N0 N0 (k, xs, kn, li, fr, gv, sh, lg, (0 : Int)) = _ from h]
      cases allN (noKey li sh k) 0 sh.length <;> rfl

theorem keyShown_same (hs : Small xs kn li gv sh lg) : ∃ v, impl_KeyShown N0 (xs, kn, li, fr, gv, sh, lg, k) = some v ∧ spec_KeyShown N0 (xs, kn, li, fr, gv, sh, lg, k) = some v := by
  rw [impl_KeyShown, spec_KeyShown]; dsimp only
  rw [(world_same hs).1, (world_same hs).2]
  simp only [Option.bind_some]
  cases hw : worldB xs kn li fr gv sh lg with
  | false => exact ⟨false, rfl, rfl⟩
  | true =>
    rw [implShown_eq hs hw, specShown_eq hs hw]
    exact ⟨keyShownB li sh k, rfl, rfl⟩

theorem secret_same (hs : Small xs kn li gv sh lg) : ∃ v, impl_Secret N0 (xs, kn, li, fr, gv, sh, lg, k) = some v ∧ spec_Secret N0 (xs, kn, li, fr, gv, sh, lg, k) = some v := by
  rw [impl_Secret, spec_Secret]; dsimp only
  rw [(world_same hs).1, (world_same hs).2]
  simp only [Option.bind_some]
  cases hw : worldB xs kn li fr gv sh lg with
  | false => exact ⟨false, rfl, rfl⟩
  | true =>
    rw [impl_World_secret, spec_l15Secret]; dsimp only
    rw [implTrusted_eq hs hw, specTrusted_eq hs hw]
    simp only [Option.bind_some]
    cases ht : trustB li lg k with
    | false => exact ⟨false, rfl, rfl⟩
    | true =>
      have hk : inst0 (li.length : Int) k = true := by
        unfold trustB at ht
        cases hc : claimAt lg k with
        | none => rw [hc] at ht; cases ht
        | some c => exact world_claim hw hc
      simp only [Bool.not_true, cond_false, implShown_eq hs hw, specShown_eq hs hw, Option.bind_some, cond_true]
      cases keyShownB li sh k with
      | true => exact ⟨false, rfl, rfl⟩
      | false =>
        simp only [cond_false, inst0_inb hk, cond_true, given_eq hs.fg, knowHas_eq hs.fg, Option.bind_some]
        cases ((li.getD k.toNat zI).1 == (1 : Int)) with
        | true => exact ⟨true, rfl, rfl⟩
        | false =>
          cases hasAt gv (li.getD k.toNat zI).2.2.1 with
          | true => exact ⟨false, rfl, rfl⟩
          | false => exact ⟨!hasAt gv (li.getD k.toNat zI).2.2.2.1, rfl, rfl⟩

/-! ### The laws -/
theorem wasGiven_law (hb : Big xs kn li gv sh lg) : laws_FnExactWasGiven N0 (xs, kn, li, fr, gv, sh, lg, k) = some true := by
  obtain ⟨q, h1, h2⟩ := szWorld_ex (fr := fr) hb
  rw [laws_FnExactWasGiven]; dsimp only
  rw [h1]
  simp only [Option.bind_some]
  rcases h2 with h2 | ⟨h2, hs⟩
  · rw [decide_eq_true h2]; rfl
  · obtain ⟨v, g1, g2⟩ := wasGiven_same (k := k) (fr := fr) hs
    rw [decide_eq_false (by omega : ¬ q < 0), cond_false]
    simp only [toWorld_eq hs, Option.bind_some, g1, g2, bne_self_eq_false, cond_false, eqWorld_self hs, Bool.not_true]
theorem trusted_law (hb : Big xs kn li gv sh lg) : laws_FnExactTrusted N0 (xs, kn, li, fr, gv, sh, lg, k) = some true := by
  obtain ⟨q, h1, h2⟩ := szWorld_ex (fr := fr) hb
  rw [laws_FnExactTrusted]; dsimp only
  rw [h1]
  simp only [Option.bind_some]
  rcases h2 with h2 | ⟨h2, hs⟩
  · rw [decide_eq_true h2]; rfl
  · obtain ⟨v, g1, g2⟩ := trusted_same (k := k) (fr := fr) hs
    rw [decide_eq_false (by omega : ¬ q < 0), cond_false]
    simp only [toWorld_eq hs, Option.bind_some, g1, g2, bne_self_eq_false, cond_false, eqWorld_self hs, Bool.not_true]
theorem keyShown_law (hb : Big xs kn li gv sh lg) : laws_FnExactKeyShown N0 (xs, kn, li, fr, gv, sh, lg, k) = some true := by
  obtain ⟨q, h1, h2⟩ := szWorld_ex (fr := fr) hb
  rw [laws_FnExactKeyShown]; dsimp only
  rw [h1]
  simp only [Option.bind_some]
  rcases h2 with h2 | ⟨h2, hs⟩
  · rw [decide_eq_true h2]; rfl
  · obtain ⟨v, g1, g2⟩ := keyShown_same (k := k) (fr := fr) hs
    rw [decide_eq_false (by omega : ¬ q < 0), cond_false]
    simp only [toWorld_eq hs, Option.bind_some, g1, g2, bne_self_eq_false, cond_false, eqWorld_self hs, Bool.not_true]
theorem secret_law (hb : Big xs kn li gv sh lg) : laws_FnExactSecret N0 (xs, kn, li, fr, gv, sh, lg, k) = some true := by
  obtain ⟨q, h1, h2⟩ := szWorld_ex (fr := fr) hb
  rw [laws_FnExactSecret]; dsimp only
  rw [h1]
  simp only [Option.bind_some]
  rcases h2 with h2 | ⟨h2, hs⟩
  · rw [decide_eq_true h2]; rfl
  · obtain ⟨v, g1, g2⟩ := secret_same (k := k) (fr := fr) hs
    rw [decide_eq_false (by omega : ¬ q < 0), cond_false]
    simp only [toWorld_eq hs, Option.bind_some, g1, g2, bne_self_eq_false, cond_false, eqWorld_self hs, Bool.not_true]
theorem claimOf_law (hb : Big xs kn li gv sh lg) : laws_FnExactClaimOf N0 (xs, kn, li, fr, gv, sh, lg, k) = some true := by
  obtain ⟨q, h1, h2⟩ := szWorld_ex (fr := fr) hb
  rw [laws_FnExactClaimOf]; dsimp only
  rw [h1]
  simp only [Option.bind_some]
  rcases h2 with h2 | ⟨h2, hs⟩
  · rw [decide_eq_true h2]; rfl
  · obtain ⟨v, g1, g2⟩ := claimOf_same (k := k) (fr := fr) hs
    rw [decide_eq_false (by omega : ¬ q < 0), cond_false]
    simp only [toWorld_eq hs, Option.bind_some, g1, g2, bne_self_eq_false, cond_false, eqWorld_self hs, Bool.not_true, eqClaim_self (v.1, v.2.1, v.2.2.1)]
end

/-! ### In the form that a row wants -/
theorem big_td (x : TD (entys (parEns 0 (S5 0).pars))) (hx : FitsTD _ x) : Big x.1 x.2.1 x.2.2.1 x.2.2.2.2.1 x.2.2.2.2.2.1 x.2.2.2.2.2.2.1 := by
  obtain ⟨xs, kn, li, fr, gv, sh, lg, k⟩ := x
  exact big_of (hx ⟨_, xs⟩ (.head _)) (hx ⟨_, kn⟩ (.tail _ (.head _))) (hx ⟨_, li⟩ (.tail _ (.tail _ (.head _)))) (hx ⟨_, gv⟩ (.tail _ (.tail _ (.tail _ (.tail _ (.head _)))))) (hx ⟨_, sh⟩ (.tail _ (.tail _ (.tail _ (.tail _ (.tail _ (.head _))))))) (hx ⟨_, lg⟩ (.tail _ (.tail _ (.tail _ (.tail _ (.tail _ (.tail _ (.head _))))))))
theorem wasGiven_law_td (x : TD (entys (parEns 0 (S5 0).pars))) (hx : FitsTD _ x) : laws_FnExactWasGiven N0 x = some true := wasGiven_law (big_td x hx)
theorem claimOf_law_td (x : TD (entys (parEns 0 (S5 0).pars))) (hx : FitsTD _ x) : laws_FnExactClaimOf N0 x = some true := claimOf_law (big_td x hx)
theorem trusted_law_td (x : TD (entys (parEns 0 (S5 0).pars))) (hx : FitsTD _ x) : laws_FnExactTrusted N0 x = some true := trusted_law (big_td x hx)
theorem keyShown_law_td (x : TD (entys (parEns 0 (S5 0).pars))) (hx : FitsTD _ x) : laws_FnExactKeyShown N0 x = some true := keyShown_law (big_td x hx)
theorem secret_law_td (x : TD (entys (parEns 0 (S5 0).pars))) (hx : FitsTD _ x) : laws_FnExactSecret N0 x = some true := secret_law (big_td x hx)
end AM
end Go.Proofs.YtpcdcnmmkfhliaaGreatDoor

/-! Numbers as text; the law FnExactShowInst, as a plain function, comes to true. No condition but that lists are no longer than memory. -/
namespace Go.Proofs.YtpcdcnmmkfhliaaGreatDoor
namespace AM
open Go
set_option linter.unusedVariables false
set_option linter.unusedSimpArgs false

theorem digits_step (u : Nat) (h : 10 ≤ u) : Lib.decDigits u = Lib.decDigits (u / 10) ++ [UInt8.ofNat (48 + u % 10)] := by
  rw [Lib.decDigits, dif_neg (by omega)]
theorem digits_one (u : Nat) (h : u < 10) : Lib.decDigits u = [UInt8.ofNat (48 + u)] := by
  rw [Lib.decDigits, dif_pos h]

theorem l4Num_round (n m u : Nat) (out : ByteArray) (h0 : 0 < u) (h1 : u ≤ 9223372036854775807) (hs : out.size ≤ 1000) :
    spec_l4Num_L4 n (m + 1) ((u : Int), out) = spec_l4Num_L4 n m (((u / 10 : Nat) : Int), ba [UInt8.ofNat (48 + u % 10)] ++ out) := by
  have e1 : ((u : Int)).tmod 10 = ((u % 10 : Nat) : Int) := by rw [Int.tmod_eq_emod_of_nonneg (by omega)]; omega
  have e2 : ((u : Int)).tdiv 10 = ((u / 10 : Nat) : Int) := by rw [Int.tdiv_eq_ediv_of_nonneg (by omega)]; omega
  have e3 : IntKind.i64.wrap ((48 : Int) + ((u % 10 : Nat) : Int)) = ((48 + u % 10 : Nat) : Int) := by rw [wrap_in (by omega) (by omega)]; omega
  have e4 : IntKind.u8.wrap (((48 + u % 10 : Nat)) : Int) = ((48 + u % 10 : Nat) : Int) := wrap8_in (by omega) (by omega)
  have e5 : bytesOf [(((48 + u % 10 : Nat)) : Int)] = ba [UInt8.ofNat (48 + u % 10)] := rfl
  have e6 : IntKind.i64.wrap (((u / 10 : Nat)) : Int) = ((u / 10 : Nat) : Int) := wrap_in (by omega) (by omega)
  have e7 : (decide ((u : Int) > (0 : Int))) = true := decide_eq_true (by omega)
  have e8 : strRoom (ba [UInt8.ofNat (48 + u % 10)]) out = true := strRoom_of (by rw [ba_size]; simp; omega)
  simp only [spec_l4Num_L4]
  rw [e1, e2, e3, e4, e5, e6, e7, e8]
  rfl

theorem l4Num_loop (n : Nat) : ∀ (k u m : Nat) (out : ByteArray), 0 < u → u < 10 ^ k → k < m → out.size + k ≤ 1000 → u ≤ 9223372036854775807 →
    spec_l4Num_L4 n m ((u : Int), out) = some (ba (Lib.decDigits u) ++ out)
  | 0, u, _, _, h0, h1, _, _, _ => by simp at h1; omega
  | k + 1, u, 0, _, _, _, h, _, _ => by omega
  | k + 1, u, m + 1, out, h0, h1, hm, hs, hu => by
    rw [l4Num_round n m u out h0 hu (by omega)]
    rcases Nat.lt_or_ge u 10 with q | q
    · obtain ⟨m', rfl⟩ : ∃ m', m = m' + 1 := ⟨m - 1, by omega⟩
      rw [show u / 10 = 0 by omega, digits_one u q, show u % 10 = u by omega]
      rfl
    · have hp : u / 10 < 10 ^ k := by rw [Nat.pow_succ] at h1; omega
      rw [l4Num_loop n k (u / 10) m _ (by omega) hp (by omega) (by rw [append_size, ba_size]; simp; omega) (by omega)]
      rw [digits_step u q, ← ba_append]
      congr 1
      rw [← ba_self out, ba_append, ba_append, ba_append, ba_append, List.append_assoc]

theorem l4Num_eq (n : Nat) (x : Int) (h0 : 0 ≤ x) (h1 : x ≤ 9223372036854775807) (hn : 20 ≤ n) : spec_l4Num n x = some (ba (Lib.itoa x)) := by
  unfold spec_l4Num Lib.itoa
  rw [if_neg (by omega)]
  obtain ⟨u, rfl⟩ := Int.eq_ofNat_of_zero_le h0
  rw [Int.toNat_natCast]
  rcases Nat.eq_zero_or_pos u with rfl | hu
  · rw [digits_one 0 (by omega)]; rfl
  · rw [decide_eq_false (by omega : ¬ (u : Int) ≤ 0)]
    show (spec_l4Num_L4 n n ((u : Int), _)).bind _ = _
    rw [l4Num_loop n 19 u n _ hu (by omega) (by omega) (by show (0 : Nat) + 19 ≤ 1000; omega) (by omega)]
    show some (ba (Lib.decDigits u) ++ ba []) = _
    rw [ba_append, List.append_nil]

theorem itoa_eq (x : Int) (h0 : -9223372036854775808 ≤ x) (h1 : x ≤ 9223372036854775807) : lib_itoa x = some (ba (Lib.itoa x)) := by
  unfold lib_itoa; rw [if_pos ⟨h0, h1⟩]; rfl

theorem digits_len : ∀ (k u : Nat), u < 10 ^ k → (Lib.decDigits u).length ≤ k + 1
  | 0, u, h => by rw [digits_one u (by simp at h; omega)]; simp
  | k + 1, u, h => by
    rcases Nat.lt_or_ge u 10 with q | q
    · rw [digits_one u q]; simp
    · rw [digits_step u q, List.length_append]
      have := digits_len k (u / 10) (by rw [Nat.pow_succ] at h; omega)
      simp; omega
theorem itoa_len {x : Int} (h0 : 0 ≤ x) (h1 : x ≤ 999) : (Lib.itoa x).length ≤ 4 := by
  unfold Lib.itoa
  rw [if_neg (by omega)]
  exact digits_len 3 _ (by omega)


/-! ### A right instance stands within its role -/
theorem inst_at {xs : List Node3} (hx : xs.length ≤ 4294967296) {w p a b at_ : Int} {env : List Int} (he : env.length ≤ 4294967296) {dn dd : Bool} {key : Int} (h : impl_InstOk N0 (xs, w, p, a, b, at_, env, dn, dd, key) = some true) : 0 ≤ at_ ∧ at_ ≤ 20 := by
  unfold impl_InstOk at h
  by_cases hr : (w = 1 ∨ w = 2 ∨ w = 3) ∧ (p = 0 ∨ p = 1)
  · obtain ⟨ra, rb, r1, r2, r3, r4, r5⟩ := role_in w p hr.1 hr.2
    dsimp only at h
    rw [r1] at h
    simp only [Option.bind_some, agent_eq, implEnv_eq N0 n0 hx he, inRange_eq] at h
    cases h1 : (decide (at_ ≥ 0) && decide (at_ ≤ (ra.length : Int))) with
    | true =>
      rw [Bool.and_eq_true, decide_eq_true_iff, decide_eq_true_iff] at h1
      omega
    | false =>
      exfalso
      rw [h1] at h
      revert h
      generalize (decide (a ≥ 0) && decide (a ≤ 4)) = A
      generalize (decide (b ≥ 0) && decide (b ≤ 4)) = B
      generalize (a == b) = C
      generalize (envB xs env && (decide (env.length = 26) && (decide (xs.length ≤ 500) && okFrom N0 [] xs))) = D
      cases A <;> cases B <;> cases C <;> cases D <;> intro h <;> exact Bool.noConfusion (Option.some.inj h)
  · obtain ⟨r1, r2⟩ := role_out w p hr
    dsimp only at h
    rw [r1] at h
    exact Bool.noConfusion (Option.some.inj h)

section
variable {xs : List Node3} {kn : List Int} {li : List Inst9} {fr : Int} {gv sh : List Int} {lg : List Claim3} {k : Int}

theorem world_at (hs : Small xs kn li gv sh lg) (hw : worldB xs kn li fr gv sh lg = true) (hk : inst0 (li.length : Int) k = true) : 0 ≤ (li.getD k.toNat zI).2.2.2.2.1 ∧ (li.getD k.toNat zI).2.2.2.2.1 ≤ 20 := by
  have hlt : k.toNat < li.length := by
    unfold inst0 at hk
    simp at hk
    omega
  unfold worldB at hw
  simp only [Bool.and_eq_true] at hw
  have hl := hw.2.2.2.2.2.1
  unfold instsB at hl
  rw [allN_iff] at hl
  have h1 := hl k.toNat (Nat.zero_le _) (by omega)
  have h2 := (instV_eq hs.fx (hs.fe _ hlt)).1
  rw [h1] at h2
  exact inst_at hs.fx (hs.fe _ hlt) h2

def stateOf (x : Inst9) : ByteArray := bif dn x then ⟨#[100, 111, 110, 101]⟩ else bif x.2.2.2.2.2.2.2.1 then ⟨#[100, 101, 97, 100]⟩ else ⟨#[111, 112, 101, 110]⟩
theorem room3 {l : List UInt8} (h : l.length ≤ 4) (s : ByteArray) (hs : s.size = 4) : strRoom (ba l) (⟨#[58]⟩ : ByteArray) = true ∧ strRoom (ba l ++ (⟨#[58]⟩ : ByteArray)) s = true := by
  have e : (⟨#[58]⟩ : ByteArray).size = 1 := rfl
  refine ⟨strRoom_of ?_, strRoom_of ?_⟩
  · rw [ba_size, e]; omega
  · rw [ByteArray.size_append, ba_size, e, hs]; omega

theorem showInst_same (hs : Small xs kn li gv sh lg) : ∃ v, impl_ShowInst N0 (xs, kn, li, fr, gv, sh, lg, k) = some v ∧ spec_ShowInst N0 (xs, kn, li, fr, gv, sh, lg, k) = some v := by
  have hli := hs.fl
  rw [impl_ShowInst, spec_ShowInst]; dsimp only
  rw [isInst_eq hs.fl, (world_same hs).2, wrap_ok (show -9223372036854775808 ≤ (li.length : Int) - 1 by omega) (show (li.length : Int) - 1 ≤ 9223372036854775807 by omega), in_eq]
  simp only [Option.bind_some, (world_same hs).1]
  rw [show (decide (k ≥ 0) && decide (k ≤ (li.length : Int) - 1)) = inst0 (li.length : Int) k from rfl]
  cases hk : inst0 (li.length : Int) k with
  | false =>
    refine ⟨⟨#[]⟩, rfl, ?_⟩
    cases worldB xs kn li fr gv sh lg <;> rfl
  | true =>
    cases hw : worldB xs kn li fr gv sh lg with
    | false => exact ⟨⟨#[]⟩, rfl, rfl⟩
    | true =>
      obtain ⟨h1, h2⟩ := world_at hs hw hk
      have hr := fun s hs => room3 (itoa_len h1 (by omega)) s hs
      simp only [Bool.not_true, cond_false, inst0_inb hk, cond_true, itoa_eq _ (show -9223372036854775808 ≤ (li.getD k.toNat zI).2.2.2.2.1 by omega) (show (li.getD k.toNat zI).2.2.2.2.1 ≤ 9223372036854775807 by omega),
        l4Num_eq N0 _ h1 (by omega) (show 20 ≤ N0 by decide), Option.bind_some, (hr (⟨#[100, 111, 110, 101]⟩ : ByteArray) rfl).1, (hr (⟨#[100, 111, 110, 101]⟩ : ByteArray) rfl).2, (hr (⟨#[100, 101, 97, 100]⟩ : ByteArray) rfl).2, (hr (⟨#[111, 112, 101, 110]⟩ : ByteArray) rfl).2]
      cases (li.getD k.toNat zI).2.2.2.2.2.2.1 <;> cases (li.getD k.toNat zI).2.2.2.2.2.2.2.1 <;> exact ⟨_, rfl, rfl⟩

theorem showInst_law (hb : Big xs kn li gv sh lg) : laws_FnExactShowInst N0 (xs, kn, li, fr, gv, sh, lg, k) = some true := by
  obtain ⟨q, h1, h2⟩ := szWorld_ex (fr := fr) hb
  rw [laws_FnExactShowInst]; dsimp only
  rw [h1]
  simp only [Option.bind_some]
  rcases h2 with h2 | ⟨h2, hs⟩
  · rw [decide_eq_true h2]; rfl
  · obtain ⟨v, g1, g2⟩ := showInst_same (k := k) (fr := fr) hs
    rw [decide_eq_false (by omega : ¬ q < 0), cond_false]
    simp only [toWorld_eq hs, Option.bind_some, g1, g2, show strEq v v = true from decide_eq_true rfl, Bool.not_true, cond_false, eqWorld_self hs]
end
theorem showInst_law_td (x : TD (entys (parEns 0 (S5 0).pars))) (hx : FitsTD _ x) : laws_FnExactShowInst N0 x = some true := showInst_law (big_td x hx)
end AM
end Go.Proofs.YtpcdcnmmkfhliaaGreatDoor
