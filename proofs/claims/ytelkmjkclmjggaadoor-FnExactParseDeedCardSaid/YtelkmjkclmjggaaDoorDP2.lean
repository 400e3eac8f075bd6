/- Small laws on whole numbers that wrap, on strings as lists of bytes, and on answers that may be none. No condition. And what follows it: see the remarks. -/
import Derived.Test.YtelkmjkclmjggaaDoorDW3
import Derived.Lib.ItoaNum
import Derived.Lib.IndexMore
import Derived.Laws.BitsLemmas
import Derived.Test.YtelkmjkclmjggaaDoorDALd
import Derived.Lib.AtoiAll
import Derived.Lib.Split
import Derived.Lib.AtoiAllCases

/-! Small laws on whole numbers that wrap, on strings as lists of bytes, and on answers that may be none. No condition. -/
namespace Go.Proofs.YtelkmjkclmjggaaDoor
namespace AM
open Go
set_option linter.unusedSimpArgs false
set_option linter.unusedVariables false

theorem wrap_in {n : Int} (h1 : -9223372036854775808 ≤ n) (h2 : n ≤ 9223372036854775807) : IntKind.i64.wrap n = n := by
  rw [IntKind.wrap_i64]; omega
theorem wrap8_in {n : Int} (h1 : 0 ≤ n) (h2 : n ≤ 255) : IntKind.u8.wrap n = n := by
  have : IntKind.u8.wrap n = n % 256 := by rfl
  rw [this]; omega

/-- A string as the list of its bytes. -/
def ba (l : List UInt8) : ByteArray := ⟨l.toArray⟩
theorem ba_self (s : ByteArray) : ba s.data.toList = s := by cases s; rfl
theorem ba_append (a b : List UInt8) : ba a ++ ba b = ba (a ++ b) := by
  apply ByteArray.ext
  simp [ba]
theorem ba_size (l : List UInt8) : (ba l).size = l.length := by simp [ba, ByteArray.size]
theorem ba_inj {a b : List UInt8} (h : ba a = ba b) : a = b := by
  have := congrArg (fun s : ByteArray => s.data.toList) h
  simpa [ba] using this
theorem ba_data (l : List UInt8) : (ba l).data.toList = l := by simp [ba]
theorem size_data (s : ByteArray) : s.size = s.data.toList.length := rfl
theorem strRoom_of {a b : ByteArray} (h : a.size + b.size ≤ 4611686018427387904) : strRoom a b = true := decide_eq_true h
theorem strEq_self (a : ByteArray) : strEq a a = true := decide_eq_true rfl
theorem strEq_iff {a b : ByteArray} : strEq a b = true ↔ a = b := ⟨fun h => of_decide_eq_true h, fun h => decide_eq_true h⟩
theorem append_size (a b : ByteArray) : (a ++ b).size = a.size + b.size := by
  rw [← ba_self a, ← ba_self b, ba_append, ba_size, ba_size, ba_size, List.length_append]

theorem bt_eq {s : ByteArray} {i : Nat} (h : i < s.data.toList.length) : bt s (i : Int) = ((s.data.toList[i]).toNat : Int) := by
  unfold bt
  rw [Int.toNat_natCast, List.getD_eq_getElem?_getD, List.getElem?_eq_getElem h]; rfl
theorem u8_eq {x : UInt8} {n : Nat} (hn : n < 256) : ((x.toNat : Int) == (n : Int)) = decide (x = UInt8.ofNat n) := by
  rw [Bool.eq_iff_iff]
  simp only [beq_iff_eq, decide_eq_true_eq]
  constructor
  · intro h
    have : x.toNat = n := by omega
    rw [← this]; simp
  · intro h
    rw [h]
    simp; omega

theorem contains_byte (l : List UInt8) (c : UInt8) : Lib.contains l [c] = l.contains c := by
  unfold Lib.contains
  rw [Lib.index_one, Bool.eq_iff_iff]
  simp only [decide_eq_true_eq, List.contains_iff_mem]
  constructor
  · intro h
    obtain ⟨o, ho⟩ := Int.eq_ofNat_of_zero_le h
    have := (Lib.indexByte_some ho).1
    exact List.mem_of_getElem? this
  · intro h
    have hge := Lib.indexByte_ge l c
    by_cases q : Lib.indexByte l c = -1
    · obtain ⟨i, hi⟩ := List.getElem?_of_mem h
      exact absurd hi (Lib.indexByte_none q i)
    · omega
theorem ibeq (a b : Int) : (a == b) = decide (a = b) := by rw [Bool.eq_iff_iff]; simp
end AM
end Go.Proofs.YtelkmjkclmjggaaDoor

/-! The program's DeedLine and the reference's, as plain functions, return the same line for every deed. No condition. -/
namespace Go.Proofs.YtelkmjkclmjggaaDoor
namespace AM
open Go
set_option linter.unusedSimpArgs false
set_option linter.unusedVariables false

/-! ### Numbers as text -/
theorem digits_step (u : Nat) (h : 10 ≤ u) : Lib.decDigits u = Lib.decDigits (u / 10) ++ [UInt8.ofNat (48 + u % 10)] := by
  rw [Lib.decDigits, dif_neg (by omega)]
theorem digits_one (u : Nat) (h : u < 10) : Lib.decDigits u = [UInt8.ofNat (48 + u)] := by
  rw [Lib.decDigits, dif_pos h]

theorem l4Num_round (n m u : Nat) (out : ByteArray) (h0 : 0 < u) (h1 : u ≤ 9223372036854775807) (hs : out.size ≤ 1000) :
    spec_l4Num_L4 n (m + 1) ((u : Int), out) = spec_l4Num_L4 n m (((u / 10 : Nat) : Int), ba [UInt8.ofNat (48 + u % 10)] ++ out) := by
  have e1 : ((u : Int)).tmod 10 = ((u % 10 : Nat) : Int) := by rw [Int.tmod_eq_emod_of_nonneg (by omega)]; omega
  have e2 : ((u : Int)).tdiv 10 = ((u / 10 : Nat) : Int) := by rw [Int.tdiv_eq_ediv_of_nonneg (by omega)]; omega
  have e3 : IntKind.i64.wrap ((48 : Int) + ((u % 10 : Nat) : Int)) = ((48 + u % 10 : Nat) : Int) := by rw [wrap_in (by omega) (by omega)]; omega
  have e4 : IntKind.u8.wrap (((48 + u % 10 : Nat)) : Int) = ((48 + u % 10 : Nat) : Int) := wrap8_in (by omega) (by omega)
  have e5 : bytesOf [(((48 + u % 10 : Nat)) : Int)] = ba [UInt8.ofNat (48 + u % 10)] := rfl
  have e6 : IntKind.i64.wrap (((u / 10 : Nat)) : Int) = ((u / 10 : Nat) : Int) := wrap_in (by omega) (by omega)
  have e7 : (decide ((u : Int) > (0 : Int))) = true := decide_eq_true (by omega)
  have e8 : strRoom (ba [UInt8.ofNat (48 + u % 10)]) out = true := strRoom_of (by rw [ba_size]; simp; omega)
  simp only [spec_l4Num_L4]
  rw [e1, e2, e3, e4, e5, e6, e7, e8]
  rfl

theorem l4Num_loop (n : Nat) : ∀ (k u m : Nat) (out : ByteArray), 0 < u → u < 10 ^ k → k < m → out.size + k ≤ 1000 → u ≤ 9223372036854775807 →
    spec_l4Num_L4 n m ((u : Int), out) = some (ba (Lib.decDigits u) ++ out)
  | 0, u, _, _, h0, h1, _, _, _ => by simp at h1; omega
  | k + 1, u, 0, _, _, _, h, _, _ => by omega
  | k + 1, u, m + 1, out, h0, h1, hm, hs, hu => by
    rw [l4Num_round n m u out h0 hu (by omega)]
    rcases Nat.lt_or_ge u 10 with q | q
    · obtain ⟨m', rfl⟩ : ∃ m', m = m' + 1 := ⟨m - 1, by omega⟩
      rw [show u / 10 = 0 by omega, digits_one u q, show u % 10 = u by omega]
      rfl
    · have hp : u / 10 < 10 ^ k := by rw [Nat.pow_succ] at h1; omega
      rw [l4Num_loop n k (u / 10) m _ (by omega) hp (by omega) (by rw [append_size, ba_size]; simp; omega) (by omega)]
      rw [digits_step u q, ← ba_append]
      congr 1
      rw [← ba_self out, ba_append, ba_append, ba_append, ba_append, List.append_assoc]

theorem l4Num_eq (n : Nat) (x : Int) (h0 : 0 ≤ x) (h1 : x ≤ 9223372036854775807) (hn : 20 ≤ n) : spec_l4Num n x = some (ba (Lib.itoa x)) := by
  unfold spec_l4Num Lib.itoa
  rw [if_neg (by omega)]
  obtain ⟨u, rfl⟩ := Int.eq_ofNat_of_zero_le h0
  rw [Int.toNat_natCast]
  rcases Nat.eq_zero_or_pos u with rfl | hu
  · rw [digits_one 0 (by omega)]; rfl
  · rw [decide_eq_false (by omega : ¬ (u : Int) ≤ 0)]
    show (spec_l4Num_L4 n n ((u : Int), _)).bind _ = _
    rw [l4Num_loop n 19 u n _ hu (by omega) (by omega) (by show (0 : Nat) + 19 ≤ 1000; omega) (by omega)]
    show some (ba (Lib.decDigits u) ++ ba []) = _
    rw [ba_append, List.append_nil]

theorem itoa_eq (x : Int) (h0 : -9223372036854775808 ≤ x) (h1 : x ≤ 9223372036854775807) : lib_itoa x = some (ba (Lib.itoa x)) := by
  unfold lib_itoa; rw [if_pos ⟨h0, h1⟩]; rfl

theorem digits_len : ∀ (k u : Nat), u < 10 ^ k → (Lib.decDigits u).length ≤ k + 1
  | 0, u, h => by rw [digits_one u (by simp at h; omega)]; simp
  | k + 1, u, h => by
    rcases Nat.lt_or_ge u 10 with q | q
    · rw [digits_one u q]; simp
    · rw [digits_step u q, List.length_append]
      have := digits_len k (u / 10) (by rw [Nat.pow_succ] at h; omega)
      simp; omega
theorem itoa_len {x : Int} (h0 : 0 ≤ x) (h1 : x ≤ 999) : (Lib.itoa x).length ≤ 4 := by
  unfold Lib.itoa
  rw [if_neg (by omega)]
  exact digits_len 3 _ (by omega)

/-! ### No line's end -/
theorem nl_loop (n : Nat) (k a b c d : Int) (t : ByteArray) (ht : t.size ≤ 2000) : ∀ (j m i : Nat), i + j = t.size → j < m →
    spec_DeedLine_L4 n m (k, a, b, c, d, t, (i : Int)) = if (10 : UInt8) ∈ t.data.toList.drop i then some (Sum.inl (⟨#[]⟩, false)) else some (Sum.inr (k, a, b, c, d, t))
  | 0, 0, _, _, h => by omega
  | j + 1, 0, _, _, h => by omega
  | 0, m + 1, i, h, _ => by
    have hd : t.data.toList.drop i = [] := List.drop_eq_nil_of_le (by rw [← size_data]; omega)
    rw [hd, if_neg (by simp)]
    simp only [spec_DeedLine_L4]
    rw [decide_eq_false (by omega : ¬ (i : Int) < (t.size : Int))]
    rfl
  | j + 1, m + 1, i, h, hm => by
    have hi : i < t.data.toList.length := by rw [← size_data]; omega
    have hd : t.data.toList.drop i = t.data.toList[i] :: t.data.toList.drop (i + 1) := List.drop_eq_getElem_cons hi
    have ih := nl_loop n k a b c d t ht j m (i + 1) (by omega) (by omega)
    simp only [spec_DeedLine_L4]
    rw [decide_eq_true (by omega : (i : Int) < (t.size : Int)), show inb (i : Int) t.size = true from decide_eq_true (by omega), bt_eq hi, show ((10 : Int)) = ((10 : Nat) : Int) from rfl, u8_eq (by omega), wrap_in (by omega) (by omega), hd]
    simp only [cond_true, List.mem_cons]
    by_cases q : t.data.toList[i] = UInt8.ofNat 10
    · rw [decide_eq_true q, if_pos (.inl q.symm)]; rfl
    · rw [decide_eq_false q]
      simp only [cond_false]
      rw [show (i : Int) + 1 = ((i + 1 : Nat) : Int) by omega, ih]
      by_cases q2 : (10 : UInt8) ∈ t.data.toList.drop (i + 1)
      · rw [if_pos q2, if_pos (.inr q2)]
      · rw [if_neg q2, if_neg (fun h => h.elim (fun h => q h.symm) q2)]

/-! ### The line -/
/-- What a deed's line is, of one that has one. -/
def body (k a b c d : Int) (t : ByteArray) : List UInt8 :=
  if k = 1 then [115, 116, 97, 114, 116] ++ [32] ++ Lib.itoa a ++ [32] ++ Lib.itoa b ++ [32] ++ Lib.itoa c ++ [32] ++ Lib.itoa d
  else if k = 2 then [116, 97, 107, 101] ++ [32] ++ Lib.itoa a ++ [32] ++ t.data.toList
  else if k = 3 then [103, 105, 118, 101] ++ [32] ++ Lib.itoa a
  else [115, 104, 111, 119] ++ [32] ++ Lib.itoa a

def formed (k a b c d : Int) (t : ByteArray) : Bool :=
  if k = 1 then decide (t = ⟨#[]⟩) else if k = 2 then decide (b = 0 ∧ c = 0 ∧ d = 0) else if k = 3 ∨ k = 4 then decide (b = 0 ∧ c = 0 ∧ d = 0 ∧ t = ⟨#[]⟩) else false

theorem spec_formed (n : Nat) (k a b c d : Int) (t : ByteArray) : spec_l14Deed n (k, a, b, c, d, t) = some (formed k a b c d t) := by
  unfold spec_l14Deed formed
  simp only [beq_self_eq_true, Bool.true_and, Bool.and_true, strEq_self]
  by_cases h1 : k = 1
  · rw [if_pos h1, beq_iff_eq.2 h1]; rfl
  · rw [if_neg h1, beq_eq_false_iff_ne.2 h1]
    by_cases h2 : k = 2
    · rw [if_pos h2, beq_iff_eq.2 h2]
      simp only [cond_false, cond_true, Option.some.injEq]
      rw [Bool.eq_iff_iff]; simp
    · rw [if_neg h2, beq_eq_false_iff_ne.2 h2]
      by_cases h3 : k = 3
      · rw [if_pos (.inl h3), beq_iff_eq.2 h3]
        simp only [cond_false, cond_true, Option.some.injEq]
        rw [Bool.eq_iff_iff]; simp [strEq_iff]
      · by_cases h4 : k = 4
        · rw [if_pos (.inr h4), beq_eq_false_iff_ne.2 h3, beq_iff_eq.2 h4]
          simp only [cond_false, cond_true, Option.some.injEq]
          rw [Bool.eq_iff_iff]; simp [strEq_iff]
        · rw [if_neg (by omega), beq_eq_false_iff_ne.2 h3, beq_eq_false_iff_ne.2 h4]; rfl

theorem impl_formed (n : Nat) (k a b c d : Int) (t : ByteArray) : impl_deedOk n (k, a, b, c, d, t) = some (formed k a b c d t) := by
  unfold impl_deedOk formed
  have three : (cond (b == (0 : Int)) (cond (c == (0 : Int)) (some (d == (0 : Int))) (some false)) (some false)) = some (decide (b = 0 ∧ c = 0 ∧ d = 0)) := by
    by_cases hb : b = 0 <;> by_cases hc : c = 0 <;> by_cases hd : d = 0 <;> simp [ibeq, hb, hc, hd]
  have four : (cond (b == (0 : Int)) (cond (c == (0 : Int)) (cond (d == (0 : Int)) (some (strEq t (⟨#[]⟩ : ByteArray))) (some false)) (some false)) (some false)) = some (decide (b = 0 ∧ c = 0 ∧ d = 0 ∧ t = ⟨#[]⟩)) := by
    by_cases hb : b = 0 <;> by_cases hc : c = 0 <;> by_cases hd : d = 0 <;> simp [ibeq, hb, hc, hd, strEq]
  simp only [three, four]
  by_cases h1 : k = 1
  · rw [if_pos h1, beq_iff_eq.2 h1]; rfl
  · rw [if_neg h1, beq_eq_false_iff_ne.2 h1]
    by_cases h2 : k = 2
    · rw [if_pos h2, beq_iff_eq.2 h2]; rfl
    · rw [if_neg h2, beq_eq_false_iff_ne.2 h2]
      by_cases h3 : k = 3
      · rw [if_pos (.inl h3), beq_iff_eq.2 h3]; rfl
      · by_cases h4 : k = 4
        · rw [if_pos (.inr h4), beq_eq_false_iff_ne.2 h3, beq_iff_eq.2 h4]; rfl
        · rw [if_neg (by omega), beq_eq_false_iff_ne.2 h3, beq_eq_false_iff_ne.2 h4]; rfl

theorem formed_kind {k a b c d : Int} {t : ByteArray} (h : formed k a b c d t = true) : (k = 1 ∧ t = ⟨#[]⟩) ∨ (k = 2 ∧ b = 0 ∧ c = 0 ∧ d = 0) ∨ (k = 3 ∧ b = 0 ∧ c = 0 ∧ d = 0 ∧ t = ⟨#[]⟩) ∨ (k = 4 ∧ b = 0 ∧ c = 0 ∧ d = 0 ∧ t = ⟨#[]⟩) := by
  unfold formed at h
  split at h
  · rename_i q; exact .inl ⟨q, of_decide_eq_true h⟩
  · split at h
    · rename_i q; exact .inr (.inl ⟨q, of_decide_eq_true h⟩)
    · split at h
      · rename_i q
        rcases q with q | q
        · exact .inr (.inr (.inl ⟨q, of_decide_eq_true h⟩))
        · exact .inr (.inr (.inr ⟨q, of_decide_eq_true h⟩))
      · cases h

def inR (x : Int) : Bool := decide (0 ≤ x ∧ x ≤ 999)
theorem spec_in (n : Nat) (x : Int) : spec_l1In n (x, 0, 999) = some (inR x) := by
  unfold spec_l1In inR
  by_cases h : x ≥ 0 <;> by_cases h2 : x ≤ 999 <;> simp [h, h2]
theorem impl_in (n : Nat) (x : Int) : impl_inRange n (x, 0, 999) = some (inR x) := by
  unfold impl_inRange inR
  by_cases h : x ≥ 0 <;> by_cases h2 : x ≤ 999 <;> simp [h, h2]

def good (k a b c d : Int) (t : ByteArray) : Bool := formed k a b c d t && (decide (t.size ≤ 2000) && ((inR a && (inR b && (inR c && inR d))) && !(t.data.toList.contains 10)))
def lineOf (k a b c d : Int) (t : ByteArray) : ByteArray × Bool := if good k a b c d t = true then (ba (body k a b c d t), true) else (⟨#[]⟩, false)


theorem spec_line (n : Nat) (hn : 3000 ≤ n) (k a b c d : Int) (t : ByteArray) : spec_DeedLine n (k, a, b, c, d, t) = some (lineOf k a b c d t) := by
  unfold spec_DeedLine lineOf good
  simp only [spec_formed, spec_in, Option.bind_some]
  cases hf : formed k a b c d t with
  | false => rfl
  | true =>
    by_cases hs : t.size ≤ 2000
    · rw [decide_eq_true hs, decide_eq_false (by omega : ¬ ((t.size : Int) > 2000))]
      cases ha : inR a with
      | false => rfl
      | true =>
        cases hb : inR b with
        | false => rfl
        | true =>
          cases hc : inR c with
          | false => rfl
          | true =>
            cases hd : inR d with
            | false => rfl
            | true =>
              have ra := of_decide_eq_true ha
              have rb := of_decide_eq_true hb
              have rc := of_decide_eq_true hc
              have rd := of_decide_eq_true hd
              have hl := nl_loop n k a b c d t hs t.size n 0 (by omega) (by omega)
              rw [show ((0 : Nat) : Int) = (0 : Int) from rfl] at hl
              simp only [Bool.not_true, cond_false, Bool.and_true, Bool.true_and, Bool.true_and]
              rw [hl]
              rw [List.drop_zero]
              by_cases q : (10 : UInt8) ∈ t.data.toList
              · rw [if_pos q, if_neg (by simpa using q)]; rfl
              · rw [if_neg q, if_pos (by simpa using q)]
                have na := l4Num_eq n a ra.1 (by omega) (by omega)
                have nb := l4Num_eq n b rb.1 (by omega) (by omega)
                have nc := l4Num_eq n c rc.1 (by omega) (by omega)
                have nd := l4Num_eq n d rd.1 (by omega) (by omega)
                have la := itoa_len ra.1 ra.2
                have lb := itoa_len rb.1 rb.2
                have lc := itoa_len rc.1 rc.2
                have ld := itoa_len rd.1 rd.2
                have w1 : (⟨#[32]⟩ : ByteArray) = ba [32] := rfl
                have word : ∀ wd : List UInt8, wd.length = 4 ∨ wd.length = 5 → spec_l20Word n k = some (ba wd) → (k = 1 → wd = [115, 116, 97, 114, 116]) → (k = 2 → wd = [116, 97, 107, 101]) → (k = 3 → wd = [103, 105, 118, 101]) → (k = 4 → wd = [115, 104, 111, 119]) → (k = 1 ∨ k = 2 ∨ k = 3 ∨ k = 4) → (spec_l20Word n k).bind (fun r9 => (cond (strRoom r9 (⟨#[32]⟩ : ByteArray)) ((spec_l4Num n a).bind fun r10 => (cond (strRoom (r9 ++ (⟨#[32]⟩ : ByteArray)) r10) (cond (k == (1 : Int)) (cond (strRoom ((r9 ++ (⟨#[32]⟩ : ByteArray)) ++ r10) (⟨#[32]⟩ : ByteArray)) ((spec_l4Num n b).bind fun r11 => (cond (strRoom (((r9 ++ (⟨#[32]⟩ : ByteArray)) ++ r10) ++ (⟨#[32]⟩ : ByteArray)) r11) (cond (strRoom ((((r9 ++ (⟨#[32]⟩ : ByteArray)) ++ r10) ++ (⟨#[32]⟩ : ByteArray)) ++ r11) (⟨#[32]⟩ : ByteArray)) ((spec_l4Num n c).bind fun r12 => (cond (strRoom (((((r9 ++ (⟨#[32]⟩ : ByteArray)) ++ r10) ++ (⟨#[32]⟩ : ByteArray)) ++ r11) ++ (⟨#[32]⟩ : ByteArray)) r12) (cond (strRoom ((((((r9 ++ (⟨#[32]⟩ : ByteArray)) ++ r10) ++ (⟨#[32]⟩ : ByteArray)) ++ r11) ++ (⟨#[32]⟩ : ByteArray)) ++ r12) (⟨#[32]⟩ : ByteArray)) ((spec_l4Num n d).bind fun r13 => (cond (strRoom (((((((r9 ++ (⟨#[32]⟩ : ByteArray)) ++ r10) ++ (⟨#[32]⟩ : ByteArray)) ++ r11) ++ (⟨#[32]⟩ : ByteArray)) ++ r12) ++ (⟨#[32]⟩ : ByteArray)) r13) (some (((((((((r9 ++ (⟨#[32]⟩ : ByteArray)) ++ r10) ++ (⟨#[32]⟩ : ByteArray)) ++ r11) ++ (⟨#[32]⟩ : ByteArray)) ++ r12) ++ (⟨#[32]⟩ : ByteArray)) ++ r13), true)) none)) none) none)) none) none)) none) (cond (k == (2 : Int)) (cond (strRoom ((r9 ++ (⟨#[32]⟩ : ByteArray)) ++ r10) (⟨#[32]⟩ : ByteArray)) (cond (strRoom (((r9 ++ (⟨#[32]⟩ : ByteArray)) ++ r10) ++ (⟨#[32]⟩ : ByteArray)) t) (some (((((r9 ++ (⟨#[32]⟩ : ByteArray)) ++ r10) ++ (⟨#[32]⟩ : ByteArray)) ++ t), true)) none) none) (some (((r9 ++ (⟨#[32]⟩ : ByteArray)) ++ r10), true)))) none)) none)) = some (ba (body k a b c d t), true) := by
                  intro wd hw hk k1 k2 k3 k4 hor
                  have hst := size_data t
                  rw [hk]
                  simp only [Option.bind_some, na, nb, nc, nd, w1, ba_append]
                  rw [← ba_self t]
                  simp only [ba_append]
                  have room : ∀ x y : List UInt8, x.length + y.length ≤ 3000 → strRoom (ba x) (ba y) = true := fun x y h => strRoom_of (by rw [ba_size, ba_size]; omega)
                  rw [room wd [32] (by simp; omega)]
                  simp only [cond_true]
                  rw [room _ (Lib.itoa a) (by simp; omega)]
                  simp only [cond_true]
                  unfold body
                  by_cases h1 : k = 1
                  · rw [if_pos h1, ibeq, decide_eq_true h1, ← k1 h1]
                    simp only [cond_true]
                    rw [room _ [32] (by simp; omega), room _ (Lib.itoa b) (by simp; omega), room _ [32] (by simp; omega), room _ (Lib.itoa c) (by simp; omega), room _ [32] (by simp; omega), room _ (Lib.itoa d) (by simp; omega)]
                    rfl
                  · rw [if_neg h1, ibeq, decide_eq_false h1]
                    simp only [cond_false]
                    by_cases h2 : k = 2
                    · rw [if_pos h2, ibeq, decide_eq_true h2, ← k2 h2]
                      simp only [cond_true]
                      rw [room _ [32] (by simp; omega), room _ t.data.toList (by simp only [List.length_append, List.length_cons, List.length_nil]; omega)]
                      simp only [cond_true, ba_data]
                    · rw [if_neg h2, ibeq, decide_eq_false h2]
                      simp only [cond_false]
                      by_cases h3 : k = 3
                      · rw [if_pos h3, ← k3 h3]
                      · rw [if_neg h3, ← k4 (by omega)]
                rcases formed_kind hf with h | h | h | h
                · obtain ⟨rfl, h⟩ := h
                  exact word [115, 116, 97, 114, 116] (.inr rfl) rfl (fun _ => rfl) (fun h => by omega) (fun h => by omega) (fun h => by omega) (.inl rfl)
                · obtain ⟨rfl, h⟩ := h
                  exact word [116, 97, 107, 101] (.inl rfl) rfl (fun h => by omega) (fun _ => rfl) (fun h => by omega) (fun h => by omega) (.inr (.inl rfl))
                · obtain ⟨rfl, h⟩ := h
                  exact word [103, 105, 118, 101] (.inl rfl) rfl (fun h => by omega) (fun h => by omega) (fun _ => rfl) (fun h => by omega) (.inr (.inr (.inl rfl)))
                · obtain ⟨rfl, h⟩ := h
                  exact word [115, 104, 111, 119] (.inl rfl) rfl (fun h => by omega) (fun h => by omega) (fun h => by omega) (fun _ => rfl) (.inr (.inr (.inr rfl)))
    · rw [decide_eq_false hs, decide_eq_true (by omega : ((t.size : Int) > 2000))]
      rfl

def nums (xs : List Int) : List UInt8 := xs.flatMap fun x => 32 :: Lib.itoa x
theorem num_loop (n : Nat) (k a b c d : Int) (t : ByteArray) (xs : List Int) (hx : xs.length ≤ 4) : ∀ (j m i : Nat) (l : List UInt8), i + j = xs.length → j < m → l.length + 5 * j ≤ 100 →
    impl_DeedLine_L5 n m (k, a, b, c, d, t, ba l, xs, (xs.length : Int), (i : Int)) = bif (xs.drop i).all inR then some (Sum.inr (k, a, b, c, d, t, ba (l ++ nums (xs.drop i)))) else some (Sum.inl (⟨#[]⟩, false))
  | 0, 0, _, _, _, h, _ => by omega
  | j + 1, 0, _, _, _, h, _ => by omega
  | 0, m + 1, i, l, h, _, _ => by
    have hd : xs.drop i = [] := List.drop_eq_nil_of_le (by omega)
    rw [hd]
    simp only [impl_DeedLine_L5]
    rw [decide_eq_false (by omega : ¬ (i : Int) < (xs.length : Int))]
    simp [nums]
  | j + 1, m + 1, i, l, h, hm, hl => by
    have hi : i < xs.length := by omega
    have hd : xs.drop i = xs[i] :: xs.drop (i + 1) := List.drop_eq_getElem_cons hi
    have hg : xs.getD (i : Int).toNat 0 = xs[i] := by rw [Int.toNat_natCast, List.getD_eq_getElem?_getD, List.getElem?_eq_getElem hi]; rfl
    simp only [impl_DeedLine_L5]
    rw [decide_eq_true (by omega : (i : Int) < (xs.length : Int)), show inb (i : Int) xs.length = true from decide_eq_true (by omega), hg, impl_in, hd]
    simp only [cond_true, Option.bind_some, List.all_cons]
    rcases Bool.eq_false_or_eq_true (inR xs[i]) with q | q
    case inr => rw [q]; rfl
    case inl =>
      have r := of_decide_eq_true q
      rw [q]
      have hlen := itoa_len r.1 r.2
      rw [itoa_eq _ (by omega) (by omega)]
      simp only [Bool.not_true, cond_false, Option.bind_some, Bool.true_and]
      rw [show (⟨#[32]⟩ : ByteArray) = ba [32] from rfl, ba_append]
      rw [strRoom_of (by rw [ba_size, ba_size]; simp; omega), strRoom_of (by rw [ba_size, ba_size]; simp; omega), ba_append, wrap_in (by omega) (by omega), show (i : Int) + 1 = ((i + 1 : Nat) : Int) by omega]
      simp only [cond_true]
      rw [num_loop n k a b c d t xs hx j m (i + 1) (l ++ ([32] ++ Lib.itoa xs[i])) (by omega) (by omega) (by simp; omega)]
      have : l ++ ([32] ++ Lib.itoa xs[i]) ++ nums (xs.drop (i + 1)) = l ++ nums (xs[i] :: xs.drop (i + 1)) := by simp only [nums, List.flatMap_cons, List.append_assoc, List.cons_append, List.nil_append]
      rw [this]

theorem impl_line (n : Nat) (hn : 3000 ≤ n) (k a b c d : Int) (t : ByteArray) : impl_DeedLine n (k, a, b, c, d, t) = some (lineOf k a b c d t) := by
  unfold impl_DeedLine lineOf good
  simp only [impl_formed, Option.bind_some]
  cases hf : formed k a b c d t with
  | false => rfl
  | true =>
    by_cases hs : t.size ≤ 2000
    · rw [decide_eq_true hs, decide_eq_false (by omega : ¬ ((t.size : Int) > 2000))]
      have hc : lib_contains (t, (⟨#[10]⟩ : ByteArray)) = some (t.data.toList.contains 10) := by
        unfold lib_contains
        rw [if_pos (by show t.size < _; omega)]
        exact congrArg some (contains_byte _ 10)
      simp only [Bool.not_true, cond_false, Bool.true_and]
      rw [hc]
      simp only [Option.bind_some]
      cases hq : t.data.toList.contains 10 with
      | true => simp
      | false =>
        simp only [cond_false, Bool.not_false, Bool.and_true]
        have z : inR 0 = true := rfl
        have hst := size_data t
        have go : ∀ (wd : List UInt8) (xs : List Int), wd.length ≤ 5 → xs.length ≤ 4 → impl_deedNumbers n (k, a, b, c, d, t) = some (ba wd, xs) → (inR a && (inR b && (inR c && inR d))) = xs.all inR → (xs.all inR = true → (if k = 2 then wd ++ nums xs ++ [32] ++ t.data.toList else wd ++ nums xs) = body k a b c d t) →
            (impl_deedNumbers n (k, a, b, c, d, t)).bind (fun r3 => ((impl_DeedLine_L5 n n (k, a, b, c, d, t, r3.1, r3.2, ((r3.2).length : Int), (0 : Int))).bind fun e6 => (match e6 with | Sum.inl a7 => (some (a7.1, a7.2)) | Sum.inr b8 => (cond (b8.1 == (2 : Int)) (cond (strRoom (⟨#[32]⟩ : ByteArray) b8.2.2.2.2.2.1) (cond (strRoom b8.2.2.2.2.2.2 ((⟨#[32]⟩ : ByteArray) ++ b8.2.2.2.2.2.1)) (some ((b8.2.2.2.2.2.2 ++ ((⟨#[32]⟩ : ByteArray) ++ b8.2.2.2.2.2.1)), true)) none) none) (some (b8.2.2.2.2.2.2, true)))))) =
            some (if (inR a && (inR b && (inR c && inR d))) = true then (ba (body k a b c d t), true) else (⟨#[]⟩, false)) := by
          intro wd xs hw hx he hall hb
          rw [he]
          simp only [Option.bind_some]
          have hl := num_loop n k a b c d t xs hx xs.length n 0 wd (by omega) (by omega) (by omega)
          rw [show ((0 : Nat) : Int) = (0 : Int) from rfl] at hl
          rw [hl, List.drop_zero, hall]
          cases qa : xs.all inR with
          | false => rfl
          | true =>
            have hb := hb qa
            have hnl : (nums xs).length ≤ 20 := by
              have : ∀ l : List Int, l.all inR = true → (nums l).length ≤ 5 * l.length := by
                intro l
                induction l with
                | nil => intro _; simp [nums]
                | cons x l ih =>
                  intro h
                  rw [List.all_cons, Bool.and_eq_true] at h
                  have r := of_decide_eq_true h.1
                  have := itoa_len r.1 r.2
                  have := ih h.2
                  simp [nums] at *
                  omega
              have := this xs qa
              omega
            simp only [if_pos, Option.bind_some, cond_true]
            by_cases h2 : k = 2
            · rw [if_pos h2] at hb
              rw [ibeq, decide_eq_true h2]
              simp only [cond_true]
              rw [show (⟨#[32]⟩ : ByteArray) = ba [32] from rfl]
              rw [strRoom_of (by rw [ba_size]; simp; omega), strRoom_of (by rw [append_size, ba_size, ba_size]; simp; omega)]
              simp only [cond_true]
              rw [← hb]
              congr 2
              rw [← ba_self t, ba_append, ba_append, ba_data]
              simp
            · rw [if_neg h2] at hb
              rw [ibeq, decide_eq_false h2, ← hb]
              rfl
        rcases formed_kind hf with h | h | h | h
        · obtain ⟨rfl, h⟩ := h
          exact go [115, 116, 97, 114, 116] [a, b, c, d] (by simp) (by simp) rfl (by simp) (fun _ => by simp [body, nums])
        · obtain ⟨rfl, rfl, rfl, rfl⟩ := h
          exact go [116, 97, 107, 101] [a] (by simp) (by simp) rfl (by simp [z]) (fun _ => by simp [body, nums])
        · obtain ⟨rfl, rfl, rfl, rfl, h⟩ := h
          exact go [103, 105, 118, 101] [a] (by simp) (by simp) rfl (by simp [z]) (fun _ => by simp [body, nums])
        · obtain ⟨rfl, rfl, rfl, rfl, h⟩ := h
          exact go [115, 104, 111, 119] [a] (by simp) (by simp) rfl (by simp [z]) (fun _ => by simp [body, nums])
    · rw [decide_eq_false hs, decide_eq_true (by omega : ((t.size : Int) > 2000))]
      rfl

end AM
end Go.Proofs.YtelkmjkclmjggaaDoor

/-! Words apart by single spaces: how they are cut and split; numbers of at most three digits as text and back. No condition. -/
namespace Go.Proofs.YtelkmjkclmjggaaDoor
namespace AM
open Go
set_option linter.unusedVariables false
set_option linter.unusedSimpArgs false

theorem index_sp : ∀ {a r : List UInt8}, (32 : UInt8) ∉ a → Lib.index (a ++ 32 :: r) [32] = (a.length : Int)
  | [], r, _ => by
    unfold Lib.index
    rfl
  | b :: a, r, h => by
    have hb : ¬ (32 : UInt8) = b := fun e => h (e ▸ List.mem_cons_self ..)
    have ih := index_sp (a := a) (r := r) (fun q => h (List.mem_cons_of_mem _ q))
    show Lib.index (b :: (a ++ 32 :: r)) [32] = _
    unfold Lib.index
    rw [ih]
    have hp : List.isPrefixOf [(32 : UInt8)] (b :: (a ++ 32 :: r)) = false := by
      show ((32 : UInt8) == b && _) = false
      rw [beq_eq_false_iff_ne.2 hb]; rfl
    rw [hp]
    have hn : (((a.length : Nat) : Int) == -1) = false := by rw [beq_eq_false_iff_ne]; omega
    rw [hn]
    simp
theorem index_no : ∀ {a : List UInt8}, (32 : UInt8) ∉ a → Lib.index a [32] = -1
  | [], _ => rfl
  | b :: a, h => by
    have hb : ¬ (32 : UInt8) = b := fun e => h (e ▸ List.mem_cons_self ..)
    have ih := index_no (a := a) (fun q => h (List.mem_cons_of_mem _ q))
    unfold Lib.index
    rw [ih]
    have hp : List.isPrefixOf [(32 : UInt8)] (b :: a) = false := by
      show ((32 : UInt8) == b && _) = false
      rw [beq_eq_false_iff_ne.2 hb]; rfl
    rw [hp]
    rfl

theorem cut_sp {a r : List UInt8} (h : (32 : UInt8) ∉ a) : Lib.cut (a ++ 32 :: r) [32] = (a, r, true) := by
  unfold Lib.cut
  rw [index_sp h, if_pos (by omega), Int.toNat_natCast]
  congr 1
  · simp
  · congr 1
    have e : a ++ 32 :: r = (a ++ [32]) ++ r := by simp
    rw [e]
    exact List.drop_left' (by simp)
/-- Words, one space between. -/
def joinSp : List (List UInt8) → List UInt8
  | [] => []
  | [w] => w
  | w :: v :: ws => w ++ 32 :: joinSp (v :: ws)

theorem drop_sp (a r : List UInt8) : (a ++ 32 :: r).drop (a.length + 1) = r := by
  have e : a ++ 32 :: r = (a ++ [32]) ++ r := by simp
  rw [e]
  exact List.drop_left' (by simp)

theorem count_join : ∀ (ws : List (List UInt8)) (w : List UInt8) (fuel : Nat), (∀ v ∈ w :: ws, (32 : UInt8) ∉ v) → ws.length < fuel → Lib.countFrom [32] fuel (joinSp (w :: ws)) = ws.length
  | _, w, 0, _, h => by omega
  | [], w, fuel + 1, h, _ => by
    show Lib.countFrom [32] (fuel + 1) w = 0
    unfold Lib.countFrom
    rw [index_no (h w (List.mem_cons_self ..))]
    rfl
  | v :: ws, w, fuel + 1, h, hf => by
    have ih := count_join ws v fuel (fun x hx => h x (List.mem_cons_of_mem _ hx)) (by simp at hf; omega)
    show Lib.countFrom [32] (fuel + 1) (w ++ 32 :: joinSp (v :: ws)) = _
    unfold Lib.countFrom
    rw [index_sp (h w (List.mem_cons_self ..))]
    have hn : (((w.length : Nat) : Int) == -1) = false := by rw [beq_eq_false_iff_ne]; omega
    rw [hn, Int.toNat_natCast]
    show 1 + Lib.countFrom [32] fuel ((w ++ 32 :: joinSp (v :: ws)).drop (w.length + 1)) = _
    rw [drop_sp, ih]
    simp; omega

theorem splitK_join : ∀ (ws : List (List UInt8)) (w : List UInt8), (∀ v ∈ w :: ws, (32 : UInt8) ∉ v) → Lib.splitK [32] 0 ws.length (joinSp (w :: ws)) = w :: ws
  | [], w, _ => rfl
  | v :: ws, w, h => by
    have ih := splitK_join ws v (fun x hx => h x (List.mem_cons_of_mem _ hx))
    show Lib.splitK [32] 0 (ws.length + 1) (w ++ 32 :: joinSp (v :: ws)) = _
    unfold Lib.splitK
    rw [index_sp (h w (List.mem_cons_self ..))]
    have hn : (((w.length : Nat) : Int) == -1) = false := by rw [beq_eq_false_iff_ne]; omega
    rw [hn, Int.toNat_natCast]
    show (w ++ 32 :: joinSp (v :: ws)).take (w.length + 0) :: Lib.splitK [32] 0 ws.length ((w ++ 32 :: joinSp (v :: ws)).drop (w.length + 1)) = _
    rw [drop_sp, ih]
    simp

theorem len_join : ∀ (ws : List (List UInt8)) (w : List UInt8), ws.length ≤ (joinSp (w :: ws)).length
  | [], w => Nat.zero_le _
  | v :: ws, w => by
    have := len_join ws v
    show ws.length + 1 ≤ (w ++ 32 :: joinSp (v :: ws)).length
    simp; omega
/-- What has been joined is split again. -/
theorem split_join (w : List UInt8) (ws : List (List UInt8)) (h : ∀ v ∈ w :: ws, (32 : UInt8) ∉ v) : Lib.split (joinSp (w :: ws)) [32] = w :: ws := by
  unfold Lib.split Lib.count
  rw [count_join ws w _ h (by have := len_join ws w; omega)]
  exact splitK_join ws w h

/-! ### Numbers of at most three digits -/
def dg (k : Nat) : UInt8 := UInt8.ofNat (48 + k)
def it3 (u : Nat) : List UInt8 := if u < 10 then [dg u] else if u < 100 then [dg (u / 10), dg (u % 10)] else [dg (u / 100), dg (u / 10 % 10), dg (u % 10)]
theorem digits3 {u : Nat} (h : u < 1000) : Lib.decDigits u = it3 u := by
  unfold it3 dg
  by_cases h1 : u < 10
  · rw [if_pos h1, Lib.decDigits, dif_pos h1]
  · rw [if_neg h1, Lib.decDigits, dif_neg h1]
    by_cases h2 : u < 100
    · rw [if_pos h2, Lib.decDigits, dif_pos (by omega)]; rfl
    · rw [if_neg h2, Lib.decDigits, dif_neg (by omega), Lib.decDigits, dif_pos (by omega)]
      rw [show u / 10 / 10 = u / 100 by omega]; rfl
theorem itoa3 {u : Nat} (h : u < 1000) : Lib.itoa (u : Int) = it3 u := by
  unfold Lib.itoa
  rw [if_neg (by omega), Int.toNat_natCast, digits3 h]

set_option maxRecDepth 100000 in
theorem atoi_all3 : ∀ u : Fin 1000, Lib.atoiAll (it3 u.val) = .ok (u.val : Int) := by decide +kernel
set_option maxRecDepth 100000 in
theorem nosp_all3 : ∀ u : Fin 1000, ((it3 u.val).contains (32 : UInt8)) = false := by decide +kernel
theorem atoi_itoa3 {n : Int} (h0 : 0 ≤ n) (h1 : n ≤ 999) : Lib.atoiAll (Lib.itoa n) = .ok n := by
  obtain ⟨u, rfl⟩ := Int.eq_ofNat_of_zero_le h0
  rw [itoa3 (by omega)]
  exact atoi_all3 ⟨u, by omega⟩
theorem nosp_itoa3 {n : Int} (h0 : 0 ≤ n) (h1 : n ≤ 999) : (32 : UInt8) ∉ Lib.itoa n := by
  obtain ⟨u, rfl⟩ := Int.eq_ofNat_of_zero_le h0
  rw [itoa3 (by omega)]
  have := nosp_all3 ⟨u, by omega⟩
  intro h
  rw [List.contains_iff_mem.2 h] at this
  cases this
end AM
end Go.Proofs.YtelkmjkclmjggaaDoor

/-! The program's ParseDeed as a plain function: it reads back what DeedLine writes, and nothing else. Under: the line is short. -/
namespace Go.Proofs.YtelkmjkclmjggaaDoor
namespace AM
open Go
set_option linter.unusedVariables false
set_option linter.unusedSimpArgs false

abbrev wStart : List UInt8 := [115, 116, 97, 114, 116]
abbrev wTake : List UInt8 := [116, 97, 107, 101]
abbrev wGive : List UInt8 := [103, 105, 118, 101]
abbrev wShow : List UInt8 := [115, 104, 111, 119]
theorem atoi_lib {w : ByteArray} (hw : w.size ≤ 281474976710656) : lib_atoi w = match Lib.atoiAll w.data.toList with | .ok v => some (v, false) | .range => some (Lib.atoiSat w.data.toList, true) | _ => some (0, true) := by
  unfold lib_atoi
  rw [if_pos hw]
  cases Lib.atoiAll w.data.toList <;> rfl
theorem lineNum_some (n : Nat) {w : ByteArray} (hw : w.size ≤ 281474976710656) : ∃ v b, impl_lineNumber n w = some (v, b) := by
  unfold impl_lineNumber
  rw [atoi_lib hw]
  cases h : Lib.atoiAll w.data.toList with
  | ok v =>
    obtain ⟨h1, h2⟩ := Lib.atoiAll_bounds h
    simp only [Option.bind_some, Bool.not_false, Bool.not_true, cond_false, itoa_eq v h1 h2, impl_in]
    cases strEq (ba (Lib.itoa v)) w with
    | false => exact ⟨_, _, rfl⟩
    | true => cases inR v <;> exact ⟨_, _, rfl⟩
  | _ => exact ⟨_, _, rfl⟩
theorem lineNum_itoa (n : Nat) {x : Int} (h0 : 0 ≤ x) (h1 : x ≤ 999) : impl_lineNumber n (ba (Lib.itoa x)) = some (x, true) := by
  have hl := itoa_len h0 h1
  unfold impl_lineNumber
  rw [atoi_lib (by rw [ba_size]; omega), ba_data, atoi_itoa3 h0 h1]
  simp only [Option.bind_some, Bool.not_false, Bool.not_true, cond_false, itoa_eq x (by omega) (by omega), impl_in, strEq_self]
  have : inR x = true := decide_eq_true ⟨h0, h1⟩
  rw [this]; rfl
def kw (w : ByteArray) : Int := bif strEq (ba wStart) w then 1 else bif strEq (ba wTake) w then 2 else bif strEq (ba wGive) w then 3 else bif strEq (ba wShow) w then 4 else 0
theorem kind_eq (n : Nat) (hn : 10 ≤ n) (w : ByteArray) : impl_kindOfWord n w = some (kw w) := by
  obtain ⟨m, rfl⟩ : ∃ m, n = m + 5 := ⟨n - 5, by omega⟩
  have r1 : impl_kindOfWord_L2 (m + 5) (m + 5) (w, 1) = bif strEq (ba wStart) w then some (Sum.inl 1) else impl_kindOfWord_L2 (m + 5) (m + 4) (w, 2) := by kernel_rfl
  have r2 : impl_kindOfWord_L2 (m + 5) (m + 4) (w, 2) = bif strEq (ba wTake) w then some (Sum.inl 2) else impl_kindOfWord_L2 (m + 5) (m + 3) (w, 3) := by kernel_rfl
  have r3 : impl_kindOfWord_L2 (m + 5) (m + 3) (w, 3) = bif strEq (ba wGive) w then some (Sum.inl 3) else impl_kindOfWord_L2 (m + 5) (m + 2) (w, 4) := by kernel_rfl
  have r4 : impl_kindOfWord_L2 (m + 5) (m + 2) (w, 4) = bif strEq (ba wShow) w then some (Sum.inl 4) else impl_kindOfWord_L2 (m + 5) (m + 1) (w, 5) := by kernel_rfl
  have r5 : impl_kindOfWord_L2 (m + 5) (m + 1) (w, 5) = some (Sum.inr ()) := by kernel_rfl
  unfold impl_kindOfWord kw
  rw [r1, r2, r3, r4, r5]
  cases strEq (ba wStart) w <;> cases strEq (ba wTake) w <;> cases strEq (ba wGive) w <;> cases strEq (ba wShow) w <;> rfl

/-! ### The words behind -/
theorem l11_step (n m : Nat) {T : ByteArray} {k A B C D : Int} {t : ByteArray} {ws : List ByteArray} {len : Nat} {j : Nat} (hj : j < len) (hl : ws.length = len) (h4 : len ≤ 4) {v : Int} {b : Bool} (h : impl_lineNumber n (ws.getD j (⟨#[]⟩ : ByteArray)) = some (v, b)) :
    impl_ParseDeed_L11 n (m + 1) (T, (0 : Int), (0 : Int), (0 : Int), (0 : Int), (0 : Int), (⟨#[]⟩ : ByteArray), k, A, B, C, D, t, false, false, false, false, ws, (len : Int), (j : Int)) =
    impl_ParseDeed_L11 n m (T, (0 : Int), (0 : Int), (0 : Int), (0 : Int), (0 : Int), (⟨#[]⟩ : ByteArray), k, (if j = 0 then v else A), (if j = 1 then v else B), (if j = 2 then v else C), (if j = 3 then v else D), t, false, false, false, false, ws, (len : Int), ((j + 1 : Nat) : Int)) := by
  have hd : decide ((j : Int) < (len : Int)) = true := decide_eq_true (by omega)
  have hi : inb (j : Int) ws.length = true := decide_eq_true (by omega)
  rw [impl_ParseDeed_L11]
  dsimp only
  rw [hd, cond_true, hi, cond_true, Int.toNat_natCast]
  unfold impl_ParseDeed_R13
  dsimp only
  rw [h]
  have hc : j = 0 ∨ j = 1 ∨ j = 2 ∨ j = 3 := by omega
  rcases hc with rfl | rfl | rfl | rfl <;> rfl
theorem l11_end (n m : Nat) {T : ByteArray} {k A B C D : Int} {t : ByteArray} {ws : List ByteArray} {len : Nat} :
    impl_ParseDeed_L11 n (m + 1) (T, (0 : Int), (0 : Int), (0 : Int), (0 : Int), (0 : Int), (⟨#[]⟩ : ByteArray), k, A, B, C, D, t, false, false, false, false, ws, (len : Int), (len : Int)) =
    some (T, (0 : Int), (0 : Int), (0 : Int), (0 : Int), (0 : Int), (⟨#[]⟩ : ByteArray), k, A, B, C, D, t) := by
  rw [impl_ParseDeed_L11]
  dsimp only
  rw [decide_eq_false (Int.lt_irrefl _), cond_false]
theorem l11_some (n : Nat) {T : ByteArray} {k : Int} {t : ByteArray} {ws : List ByteArray} {len : Nat} (hl : ws.length = len) (h4 : len ≤ 4) (hs : ∀ w ∈ ws, w.size ≤ 281474976710656) : ∀ (m j : Nat) (A B C D : Int), j ≤ len → len < m + j →
    ∃ A' B' C' D', impl_ParseDeed_L11 n m (T, (0 : Int), (0 : Int), (0 : Int), (0 : Int), (0 : Int), (⟨#[]⟩ : ByteArray), k, A, B, C, D, t, false, false, false, false, ws, (len : Int), (j : Int)) = some (T, (0 : Int), (0 : Int), (0 : Int), (0 : Int), (0 : Int), (⟨#[]⟩ : ByteArray), k, A', B', C', D', t)
  | 0, j, A, B, C, D, hj, hm => by omega
  | m + 1, j, A, B, C, D, hj, hm => by
    by_cases hq : j < len
    · have hw : ws.getD j (⟨#[]⟩ : ByteArray) ∈ ws := by
        rw [List.getD_eq_getElem?_getD, List.getElem?_eq_getElem (by omega), Option.getD_some]
        exact List.getElem_mem _
      obtain ⟨v, b, h⟩ := lineNum_some n (hs _ hw)
      rw [l11_step n m hq hl h4 h]
      exact l11_some n hl h4 hs m (j + 1) _ _ _ _ (by omega) (by omega)
    · obtain rfl : j = len := by omega
      exact ⟨_, _, _, _, l11_end n m⟩
/-- What a reader of deeds hands back: nothing, or a deed whose line is this one. -/
def ReadD (T : ByteArray) (v : Int × Int × Int × Int × Int × ByteArray × Bool) : Prop := v = ((0 : Int), (0 : Int), (0 : Int), (0 : Int), (0 : Int), (⟨#[]⟩ : ByteArray), false) ∨ ∃ k a b c d t, v = (k, a, b, c, d, t, true) ∧ lineOf k a b c d t = (T, true)
theorem read_tail (T : ByteArray) (k a b c d : Int) (t : ByteArray) : ∃ v, (bif (!(lineOf k a b c d t).2) then some ((0 : Int), (0 : Int), (0 : Int), (0 : Int), (0 : Int), (⟨#[]⟩ : ByteArray), false) else bif (!strEq (lineOf k a b c d t).1 T) then some ((0 : Int), (0 : Int), (0 : Int), (0 : Int), (0 : Int), (⟨#[]⟩ : ByteArray), false) else some (k, a, b, c, d, t, true)) = some v ∧ ReadD T v := by
  cases h : (lineOf k a b c d t).2 with
  | false => exact ⟨_, rfl, .inl rfl⟩
  | true =>
    cases h2 : strEq (lineOf k a b c d t).1 T with
    | false => exact ⟨_, rfl, .inl rfl⟩
    | true => exact ⟨_, rfl, .inr ⟨k, a, b, c, d, t, rfl, Prod.ext (strEq_iff.1 h2) h⟩⟩
theorem cut_len (l sep : List UInt8) : (Lib.cut l sep).1.length ≤ l.length ∧ (Lib.cut l sep).2.1.length ≤ l.length := by
  unfold Lib.cut
  split
  · exact ⟨by simp; omega, by simp⟩
  · exact ⟨Nat.le_refl _, Nat.zero_le _⟩
theorem piece_len (sep : ByteArray) : ∀ (k : Nat) (s : ByteArray), ∀ p ∈ Lib.splitB sep 0 k s, p.size ≤ s.size
  | 0, s, p, hp => by rw [List.mem_singleton.1 hp]; exact Nat.le_refl _
  | k + 1, s, p, hp => by
    unfold Lib.splitB at hp
    split at hp
    · rw [List.mem_singleton.1 hp]; exact Nat.le_refl _
    · rcases List.mem_cons.1 hp with rfl | hp
      · rw [ByteArray.size_extract]; omega
      · have := piece_len sep k _ p hp
        rw [ByteArray.size_extract] at this
        omega
theorem impl_parse (n : Nat) (hn : 3000 ≤ n) (T : ByteArray) (hT : T.size ≤ 1048576) : ∃ v, impl_ParseDeed n T = some v ∧ ReadD T v := by
  unfold impl_ParseDeed
  have c1 : lib_cut (T, (⟨#[32]⟩ : ByteArray)) = some (ba (Lib.cut T.data.toList [32]).1, ba (Lib.cut T.data.toList [32]).2.1, (Lib.cut T.data.toList [32]).2.2) := by
    unfold lib_cut
    rw [if_pos (by show T.size < _; omega)]
    rfl
  have hl := cut_len T.data.toList [32]
  have hTl : T.data.toList.length = T.size := rfl
  rw [c1, Option.bind_some]
  dsimp only
  rw [kind_eq n (by omega), Option.bind_some]
  generalize kw (ba (Lib.cut T.data.toList [32]).1) = k
  have hr : (ba (Lib.cut T.data.toList [32]).2.1).size ≤ 1048576 := by rw [ba_size]; omega
  generalize ba (Lib.cut T.data.toList [32]).2.1 = R at hr ⊢
  cases (k == 2) with
  | true =>
    have c2 : lib_cut (R, (⟨#[32]⟩ : ByteArray)) = some (ba (Lib.cut R.data.toList [32]).1, ba (Lib.cut R.data.toList [32]).2.1, (Lib.cut R.data.toList [32]).2.2) := by
      unfold lib_cut
      rw [if_pos (by show R.size < _; omega)]
      rfl
    have hl2 := cut_len R.data.toList [32]
    have hRl : R.data.toList.length = R.size := rfl
    rw [cond_true, c2, Option.bind_some]
    dsimp only
    have hw : (ba (Lib.cut R.data.toList [32]).1).size ≤ 281474976710656 := by rw [ba_size]; omega
    generalize ba (Lib.cut R.data.toList [32]).1 = w at hw ⊢
    have hrng : rng 0 (mn (([w].length : Nat) : Int) (4 : Int)) ([w]).length = true := rfl
    have hsl : sl [w] 0 (mn (([w].length : Nat) : Int) (4 : Int)) = [w] := rfl
    rw [hrng, cond_true, hsl]
    obtain ⟨A, B, C, D, e⟩ := l11_some n (T := T) (k := k) (t := ba (Lib.cut R.data.toList [32]).2.1) (ws := [w]) (len := 1) rfl (by omega) (fun x hx => by rw [List.mem_singleton.1 hx]; exact hw) n 0 0 0 0 0 (by omega) (by omega)
    have e : impl_ParseDeed_L11 n n (T, (0 : Int), (0 : Int), (0 : Int), (0 : Int), (0 : Int), (⟨#[]⟩ : ByteArray), k, (0 : Int), (0 : Int), (0 : Int), (0 : Int), ba (Lib.cut R.data.toList [32]).2.1, false, false, false, false, [w], ((([w].length : Nat)) : Int), (0 : Int)) = _ := e
    rw [e, Option.bind_some]
    dsimp only
    rw [impl_line n hn, Option.bind_some]
    exact read_tail T _ _ _ _ _ _
  | false =>
    have c2 : lib_split (R, (⟨#[32]⟩ : ByteArray)) = some (Lib.splitB (⟨#[32]⟩ : ByteArray) 0 (Lib.countB R (⟨#[32]⟩ : ByteArray)) R) := by
      unfold lib_split
      rw [if_pos ⟨by show R.size < _; omega, by show 1 ≤ (⟨#[32]⟩ : ByteArray).size; decide⟩]
    have hp := piece_len (⟨#[32]⟩ : ByteArray) (Lib.countB R (⟨#[32]⟩ : ByteArray)) R
    rw [cond_false, c2, Option.bind_some]
    generalize Lib.splitB (⟨#[32]⟩ : ByteArray) 0 (Lib.countB R (⟨#[32]⟩ : ByteArray)) R = ps at hp ⊢
    have hmn : mn ((ps.length : Nat) : Int) (4 : Int) = ((min ps.length 4 : Nat) : Int) := by
      unfold mn
      split <;> omega
    rw [hmn]
    have hrng : rng 0 ((min ps.length 4 : Nat) : Int) ps.length = true := decide_eq_true (by omega)
    have hsl : sl ps 0 ((min ps.length 4 : Nat) : Int) = ps.take 4 := by
      show (ps.take (((min ps.length 4 : Nat) : Int)).toNat).drop 0 = _
      rw [List.drop_zero, Int.toNat_natCast]
      by_cases q : ps.length ≤ 4
      · rw [List.take_of_length_le (by omega), List.take_of_length_le q]
      · rw [show min ps.length 4 = 4 by omega]
    rw [hrng, cond_true, hsl]
    obtain ⟨A, B, C, D, e⟩ := l11_some n (T := T) (k := k) (t := (⟨#[]⟩ : ByteArray)) (ws := ps.take 4) (len := (ps.take 4).length) rfl (by rw [List.length_take]; omega) (fun x hx => by have := hp x (List.mem_of_mem_take hx); omega) n 0 0 0 0 0 (by omega) (by rw [List.length_take]; omega)
    rw [show ((0 : Nat) : Int) = (0 : Int) from rfl] at e
    rw [e, Option.bind_some]
    dsimp only
    rw [impl_line n hn, Option.bind_some]
    exact read_tail T _ _ _ _ _ _

/-! ### What DeedLine writes is read back -/
theorem cut_word {w r : List UInt8} (h : (32 : UInt8) ∉ w) (hs : (w ++ 32 :: r).length ≤ 1048576) : lib_cut (ba (w ++ 32 :: r), (⟨#[32]⟩ : ByteArray)) = some (ba w, ba r, true) := by
  unfold lib_cut
  rw [if_pos (by show (ba _).size < _; rw [ba_size]; omega)]
  show some (ba (Lib.cut (ba (w ++ 32 :: r)).data.toList [32]).1, ba (Lib.cut (ba (w ++ 32 :: r)).data.toList [32]).2.1, (Lib.cut (ba (w ++ 32 :: r)).data.toList [32]).2.2) = _
  rw [ba_data, cut_sp h]
theorem split_words {w : List UInt8} {ws : List (List UInt8)} (h : ∀ v ∈ w :: ws, (32 : UInt8) ∉ v) (hs : (joinSp (w :: ws)).length ≤ 1048576) : lib_split (ba (joinSp (w :: ws)), (⟨#[32]⟩ : ByteArray)) = some ((w :: ws).map ba) := by
  unfold lib_split
  rw [if_pos ⟨by show (ba _).size < _; rw [ba_size]; omega, by show 1 ≤ (⟨#[32]⟩ : ByteArray).size; decide⟩]
  have hd := Lib.splitB_data (⟨#[32]⟩ : ByteArray) 0 (Lib.countB (ba (joinSp (w :: ws))) (⟨#[32]⟩ : ByteArray)) (ba (joinSp (w :: ws)))
  have hc : Lib.countB (ba (joinSp (w :: ws))) (⟨#[32]⟩ : ByteArray) = Lib.count (joinSp (w :: ws)) [32] := by
    show Lib.count (ba (joinSp (w :: ws))).data.toList [32] = _
    rw [ba_data]
  have hj := split_join w ws h
  unfold Lib.split at hj
  rw [hc, ba_data] at hd
  have hd : (Lib.splitB (⟨#[32]⟩ : ByteArray) 0 (Lib.count (joinSp (w :: ws)) [32]) (ba (joinSp (w :: ws)))).map (·.data.toList) = w :: ws := hd.trans hj
  have this : (ba ∘ fun s : ByteArray => s.data.toList) = id := funext fun s => ba_self s
  have e : Lib.splitB (⟨#[32]⟩ : ByteArray) 0 (Lib.count (joinSp (w :: ws)) [32]) (ba (joinSp (w :: ws))) = (w :: ws).map ba := by
    refine Eq.trans ?_ (congrArg (List.map ba) hd)
    rw [List.map_map, this, List.map_id]
  show some (Lib.splitB (⟨#[32]⟩ : ByteArray) 0 (Lib.countB (ba (joinSp (w :: ws))) (⟨#[32]⟩ : ByteArray)) (ba (joinSp (w :: ws)))) = _
  rw [hc, e]
theorem read_good {T : ByteArray} {k a b c d : Int} {t : ByteArray} (h : lineOf k a b c d t = (T, true)) : (bif (!(lineOf k a b c d t).2) then some ((0 : Int), (0 : Int), (0 : Int), (0 : Int), (0 : Int), (⟨#[]⟩ : ByteArray), false) else bif (!strEq (lineOf k a b c d t).1 T) then some ((0 : Int), (0 : Int), (0 : Int), (0 : Int), (0 : Int), (⟨#[]⟩ : ByteArray), false) else some (k, a, b, c, d, t, true)) = some (k, a, b, c, d, t, true) := by
  rw [h]
  dsimp only
  rw [strEq_self]
  rfl
theorem line_good {T : ByteArray} {k a b c d : Int} {t : ByteArray} (h : lineOf k a b c d t = (T, true)) : good k a b c d t = true ∧ T = ba (body k a b c d t) := by
  unfold lineOf at h
  cases q : good k a b c d t with
  | false => rw [q, if_neg (by simp)] at h; cases h
  | true => rw [q, if_pos rfl] at h; exact ⟨rfl, (congrArg Prod.fst h).symm⟩
theorem inR_in {x : Int} (h : inR x = true) : 0 ≤ x ∧ x ≤ 999 := of_decide_eq_true h
theorem impl_back (n : Nat) (hn : 3000 ≤ n) {T : ByteArray} {k a b c d : Int} {t : ByteArray} (h : lineOf k a b c d t = (T, true)) : impl_ParseDeed n T = some (k, a, b, c, d, t, true) := by
  obtain ⟨hg, rfl⟩ := line_good h
  have hg0 := hg
  unfold good at hg
  rw [Bool.and_eq_true, Bool.and_eq_true, Bool.and_eq_true, Bool.and_eq_true, Bool.and_eq_true, Bool.and_eq_true] at hg
  obtain ⟨hf, hts, ⟨ha, hb, hc, hd⟩, _⟩ := hg
  have hts : t.size ≤ 2000 := of_decide_eq_true hts
  obtain ⟨a0, a1⟩ := inR_in ha
  obtain ⟨b0, b1⟩ := inR_in hb
  obtain ⟨c0, c1⟩ := inR_in hc
  obtain ⟨d0, d1⟩ := inR_in hd
  have la := itoa_len a0 a1
  have lb := itoa_len b0 b1
  have lc := itoa_len c0 c1
  have ld := itoa_len d0 d1
  have na := nosp_itoa3 a0 a1
  obtain ⟨m, rfl⟩ : ∃ m, n = m + 5 := ⟨n - 5, by omega⟩
  unfold impl_ParseDeed
  rcases formed_kind hf with ⟨rfl, rfl⟩ | ⟨rfl, rfl, rfl, rfl⟩ | ⟨rfl, rfl, rfl, rfl, rfl⟩ | ⟨rfl, rfl, rfl, rfl, rfl⟩
  · have eT : body 1 a b c d (⟨#[]⟩ : ByteArray) = wStart ++ 32 :: joinSp [Lib.itoa a, Lib.itoa b, Lib.itoa c, Lib.itoa d] := by
      unfold body joinSp
      simp [joinSp]
    have hj : (joinSp [Lib.itoa a, Lib.itoa b, Lib.itoa c, Lib.itoa d]).length ≤ 30 := by simp [joinSp]; omega
    have hw : ∀ v ∈ [Lib.itoa a, Lib.itoa b, Lib.itoa c, Lib.itoa d], (32 : UInt8) ∉ v := fun v hv => by
      simp at hv
      rcases hv with rfl | rfl | rfl | rfl
      · exact na
      · exact nosp_itoa3 b0 b1
      · exact nosp_itoa3 c0 c1
      · exact nosp_itoa3 d0 d1
    rw [eT] at h ⊢
    rw [cut_word (by decide) (by simp only [List.length_append, List.length_cons, List.length_nil]; omega), Option.bind_some]
    dsimp only
    rw [kind_eq _ (by omega), Option.bind_some, show kw (ba wStart) = 1 from rfl, show ((1 : Int) == 2) = false from rfl, cond_false, split_words hw (by omega), Option.bind_some]
    have hrng : rng 0 (mn ((([Lib.itoa a, Lib.itoa b, Lib.itoa c, Lib.itoa d].map ba).length : Nat) : Int) (4 : Int)) ([Lib.itoa a, Lib.itoa b, Lib.itoa c, Lib.itoa d].map ba).length = true := rfl
    have hsl : sl ([Lib.itoa a, Lib.itoa b, Lib.itoa c, Lib.itoa d].map ba) 0 (mn ((([Lib.itoa a, Lib.itoa b, Lib.itoa c, Lib.itoa d].map ba).length : Nat) : Int) (4 : Int)) = [ba (Lib.itoa a), ba (Lib.itoa b), ba (Lib.itoa c), ba (Lib.itoa d)] := rfl
    rw [hrng, cond_true, hsl]
    have s0 := l11_step (m + 5) (m + 4) (T := ba (wStart ++ 32 :: joinSp [Lib.itoa a, Lib.itoa b, Lib.itoa c, Lib.itoa d])) (k := 1) (A := 0) (B := 0) (C := 0) (D := 0) (t := (⟨#[]⟩ : ByteArray)) (ws := [ba (Lib.itoa a), ba (Lib.itoa b), ba (Lib.itoa c), ba (Lib.itoa d)]) (len := 4) (j := 0) (by omega) rfl (by omega) (lineNum_itoa _ a0 a1)
    have s1 := l11_step (m + 5) (m + 3) (T := ba (wStart ++ 32 :: joinSp [Lib.itoa a, Lib.itoa b, Lib.itoa c, Lib.itoa d])) (k := 1) (A := a) (B := 0) (C := 0) (D := 0) (t := (⟨#[]⟩ : ByteArray)) (ws := [ba (Lib.itoa a), ba (Lib.itoa b), ba (Lib.itoa c), ba (Lib.itoa d)]) (len := 4) (j := 1) (by omega) rfl (by omega) (lineNum_itoa _ b0 b1)
    have s2 := l11_step (m + 5) (m + 2) (T := ba (wStart ++ 32 :: joinSp [Lib.itoa a, Lib.itoa b, Lib.itoa c, Lib.itoa d])) (k := 1) (A := a) (B := b) (C := 0) (D := 0) (t := (⟨#[]⟩ : ByteArray)) (ws := [ba (Lib.itoa a), ba (Lib.itoa b), ba (Lib.itoa c), ba (Lib.itoa d)]) (len := 4) (j := 2) (by omega) rfl (by omega) (lineNum_itoa _ c0 c1)
    have s3 := l11_step (m + 5) (m + 1) (T := ba (wStart ++ 32 :: joinSp [Lib.itoa a, Lib.itoa b, Lib.itoa c, Lib.itoa d])) (k := 1) (A := a) (B := b) (C := c) (D := 0) (t := (⟨#[]⟩ : ByteArray)) (ws := [ba (Lib.itoa a), ba (Lib.itoa b), ba (Lib.itoa c), ba (Lib.itoa d)]) (len := 4) (j := 3) (by omega) rfl (by omega) (lineNum_itoa _ d0 d1)
    have s4 := l11_end (m + 5) m (T := ba (wStart ++ 32 :: joinSp [Lib.itoa a, Lib.itoa b, Lib.itoa c, Lib.itoa d])) (k := 1) (A := a) (B := b) (C := c) (D := d) (t := (⟨#[]⟩ : ByteArray)) (ws := [ba (Lib.itoa a), ba (Lib.itoa b), ba (Lib.itoa c), ba (Lib.itoa d)]) (len := 4)
    have e := s0.trans (s1.trans (s2.trans (s3.trans s4)))
    have e : impl_ParseDeed_L11 (m + 5) (m + 5) (ba (wStart ++ 32 :: joinSp [Lib.itoa a, Lib.itoa b, Lib.itoa c, Lib.itoa d]), (0 : Int), (0 : Int), (0 : Int), (0 : Int), (0 : Int), (⟨#[]⟩ : ByteArray), (1 : Int), (0 : Int), (0 : Int), (0 : Int), (0 : Int), (⟨#[]⟩ : ByteArray), false, false, false, false, [ba (Lib.itoa a), ba (Lib.itoa b), ba (Lib.itoa c), ba (Lib.itoa d)], ((([ba (Lib.itoa a), ba (Lib.itoa b), ba (Lib.itoa c), ba (Lib.itoa d)] : List ByteArray).length : Nat) : Int), (0 : Int)) = _ := e
    rw [e, Option.bind_some]
    dsimp only
    rw [impl_line _ hn, Option.bind_some]
    exact read_good h
  · have eT : body 2 a 0 0 0 t = wTake ++ 32 :: (Lib.itoa a ++ 32 :: t.data.toList) := by
      unfold body
      simp
    have htl : t.data.toList.length = t.size := rfl
    rw [eT] at h ⊢
    rw [cut_word (by decide) (by simp; omega), Option.bind_some]
    dsimp only
    rw [kind_eq _ (by omega), Option.bind_some, show kw (ba wTake) = 2 from rfl, show ((2 : Int) == 2) = true from rfl, cond_true, cut_word na (by simp; omega), Option.bind_some]
    dsimp only
    rw [ba_self t]
    have hrng : rng 0 (mn ((([ba (Lib.itoa a)] : List ByteArray).length : Nat) : Int) (4 : Int)) ([ba (Lib.itoa a)] : List ByteArray).length = true := rfl
    have hsl : sl [ba (Lib.itoa a)] 0 (mn ((([ba (Lib.itoa a)] : List ByteArray).length : Nat) : Int) (4 : Int)) = [ba (Lib.itoa a)] := rfl
    rw [hrng, cond_true, hsl]
    have s0 := l11_step (m + 5) (m + 4) (T := ba (wTake ++ 32 :: (Lib.itoa a ++ 32 :: t.data.toList))) (k := 2) (A := 0) (B := 0) (C := 0) (D := 0) (t := t) (ws := [ba (Lib.itoa a)]) (len := 1) (j := 0) (by omega) rfl (by omega) (lineNum_itoa _ a0 a1)
    have s4 := l11_end (m + 5) (m + 3) (T := ba (wTake ++ 32 :: (Lib.itoa a ++ 32 :: t.data.toList))) (k := 2) (A := a) (B := 0) (C := 0) (D := 0) (t := t) (ws := [ba (Lib.itoa a)]) (len := 1)
    have e := s0.trans s4
    have e : impl_ParseDeed_L11 (m + 5) (m + 5) (ba (wTake ++ 32 :: (Lib.itoa a ++ 32 :: t.data.toList)), (0 : Int), (0 : Int), (0 : Int), (0 : Int), (0 : Int), (⟨#[]⟩ : ByteArray), (2 : Int), (0 : Int), (0 : Int), (0 : Int), (0 : Int), t, false, false, false, false, [ba (Lib.itoa a)], ((([ba (Lib.itoa a)] : List ByteArray).length : Nat) : Int), (0 : Int)) = _ := e
    rw [e, Option.bind_some]
    dsimp only
    rw [impl_line _ hn, Option.bind_some]
    exact read_good h
  · have eT : body 3 a 0 0 0 (⟨#[]⟩ : ByteArray) = wGive ++ 32 :: joinSp [Lib.itoa a] := by
      unfold body
      simp [joinSp]
    rw [eT] at h ⊢
    rw [cut_word (by decide) (by simp [joinSp]; omega), Option.bind_some]
    dsimp only
    rw [kind_eq _ (by omega), Option.bind_some, show kw (ba wGive) = 3 from rfl, show ((3 : Int) == 2) = false from rfl, cond_false, split_words (fun v hv => by rw [List.mem_singleton.1 hv]; exact na) (by simp [joinSp]; omega), Option.bind_some]
    have hrng : rng 0 (mn ((([Lib.itoa a].map ba).length : Nat) : Int) (4 : Int)) ([Lib.itoa a].map ba).length = true := rfl
    have hsl : sl ([Lib.itoa a].map ba) 0 (mn ((([Lib.itoa a].map ba).length : Nat) : Int) (4 : Int)) = [ba (Lib.itoa a)] := rfl
    rw [hrng, cond_true, hsl]
    have s0 := l11_step (m + 5) (m + 4) (T := ba (wGive ++ 32 :: joinSp [Lib.itoa a])) (k := 3) (A := 0) (B := 0) (C := 0) (D := 0) (t := (⟨#[]⟩ : ByteArray)) (ws := [ba (Lib.itoa a)]) (len := 1) (j := 0) (by omega) rfl (by omega) (lineNum_itoa _ a0 a1)
    have s4 := l11_end (m + 5) (m + 3) (T := ba (wGive ++ 32 :: joinSp [Lib.itoa a])) (k := 3) (A := a) (B := 0) (C := 0) (D := 0) (t := (⟨#[]⟩ : ByteArray)) (ws := [ba (Lib.itoa a)]) (len := 1)
    have e := s0.trans s4
    have e : impl_ParseDeed_L11 (m + 5) (m + 5) (ba (wGive ++ 32 :: joinSp [Lib.itoa a]), (0 : Int), (0 : Int), (0 : Int), (0 : Int), (0 : Int), (⟨#[]⟩ : ByteArray), (3 : Int), (0 : Int), (0 : Int), (0 : Int), (0 : Int), (⟨#[]⟩ : ByteArray), false, false, false, false, [ba (Lib.itoa a)], ((([ba (Lib.itoa a)] : List ByteArray).length : Nat) : Int), (0 : Int)) = _ := e
    rw [e, Option.bind_some]
    dsimp only
    rw [impl_line _ hn, Option.bind_some]
    exact read_good h
  · have eT : body 4 a 0 0 0 (⟨#[]⟩ : ByteArray) = wShow ++ 32 :: joinSp [Lib.itoa a] := by
      unfold body
      simp [joinSp]
    rw [eT] at h ⊢
    rw [cut_word (by decide) (by simp [joinSp]; omega), Option.bind_some]
    dsimp only
    rw [kind_eq _ (by omega), Option.bind_some, show kw (ba wShow) = 4 from rfl, show ((4 : Int) == 2) = false from rfl, cond_false, split_words (fun v hv => by rw [List.mem_singleton.1 hv]; exact na) (by simp [joinSp]; omega), Option.bind_some]
    have hrng : rng 0 (mn ((([Lib.itoa a].map ba).length : Nat) : Int) (4 : Int)) ([Lib.itoa a].map ba).length = true := rfl
    have hsl : sl ([Lib.itoa a].map ba) 0 (mn ((([Lib.itoa a].map ba).length : Nat) : Int) (4 : Int)) = [ba (Lib.itoa a)] := rfl
    rw [hrng, cond_true, hsl]
    have s0 := l11_step (m + 5) (m + 4) (T := ba (wShow ++ 32 :: joinSp [Lib.itoa a])) (k := 4) (A := 0) (B := 0) (C := 0) (D := 0) (t := (⟨#[]⟩ : ByteArray)) (ws := [ba (Lib.itoa a)]) (len := 1) (j := 0) (by omega) rfl (by omega) (lineNum_itoa _ a0 a1)
    have s4 := l11_end (m + 5) (m + 3) (T := ba (wShow ++ 32 :: joinSp [Lib.itoa a])) (k := 4) (A := a) (B := 0) (C := 0) (D := 0) (t := (⟨#[]⟩ : ByteArray)) (ws := [ba (Lib.itoa a)]) (len := 1)
    have e := s0.trans s4
    have e : impl_ParseDeed_L11 (m + 5) (m + 5) (ba (wShow ++ 32 :: joinSp [Lib.itoa a]), (0 : Int), (0 : Int), (0 : Int), (0 : Int), (0 : Int), (⟨#[]⟩ : ByteArray), (4 : Int), (0 : Int), (0 : Int), (0 : Int), (0 : Int), (⟨#[]⟩ : ByteArray), false, false, false, false, [ba (Lib.itoa a)], ((([ba (Lib.itoa a)] : List ByteArray).length : Nat) : Int), (0 : Int)) = _ := e
    rw [e, Option.bind_some]
    dsimp only
    rw [impl_line _ hn, Option.bind_some]
    exact read_good h
end AM
end Go.Proofs.YtelkmjkclmjggaaDoor

/-! The reference's ParseDeed as a plain function: it reads back what DeedLine writes, and nothing else; both readers of deeds agree. Under: the line is short. -/
namespace Go.Proofs.YtelkmjkclmjggaaDoor
namespace AM
open Go
set_option linter.unusedVariables false
set_option linter.unusedSimpArgs false

theorem inbN {i n : Nat} (h : i < n) : inb (i : Int) n = true := decide_eq_true (by omega)
theorem wrapN {x : Int} (h1 : -9223372036854775808 ≤ x) (h2 : x ≤ 9223372036854775807) : IntKind.i64.wrap x = x := wrap_in h1 h2
/-! ### A number -/
theorem l10_some (n : Nat) {T : ByteArray} (hT : T.size ≤ 1048576) {p : Nat} : ∀ (m i : Nat) (acc : Int), p ≤ i → i ≤ p + 5 → p + 5 < m + i → ∃ (i' : Nat) (acc' : Int), spec_l10Num_L3 n m (T, (i : Int), (p : Int), acc) = some (T, (i' : Int), (p : Int), acc') ∧ i ≤ i' ∧ (i < i' → i < T.size)
  | 0, i, acc, h1, h2, hm => by omega
  | m + 1, i, acc, h1, h2, hm => by
    rw [spec_l10Num_L3]
    dsimp only
    by_cases hq : i < T.size
    · rw [decide_eq_true (show (i : Int) < (T.size : Int) by omega), cond_true, inbN hq, cond_true]
      cases decide (bt T (i : Int) ≥ 48) with
      | false => exact ⟨i, acc, rfl, Nat.le_refl _, fun q => by omega⟩
      | true =>
        rw [cond_true, cond_true]
        cases decide (bt T (i : Int) ≤ 57) with
        | false => exact ⟨i, acc, rfl, Nat.le_refl _, fun q => by omega⟩
        | true =>
          rw [cond_true, wrapN (x := (i : Int) - (p : Int)) (by omega) (by omega)]
          by_cases h5 : (i : Int) - (p : Int) < 5
          · rw [decide_eq_true h5, cond_true, cond_true, wrapN (x := (i : Int) + 1) (by omega) (by omega), show (i : Int) + 1 = ((i + 1 : Nat) : Int) by omega]
            obtain ⟨i', a', e1, e2, e3⟩ := l10_some n hT m (i + 1) (IntKind.i64.wrap ((IntKind.i64.wrap ((IntKind.i64.wrap ((10 : Int) * acc)) + (IntKind.i64.wrap (bt T (i : Int))))) - (48 : Int))) (by omega) (by omega) (by omega) (p := p)
            exact ⟨i', a', e1, by omega, fun _ => hq⟩
          · rw [decide_eq_false h5, cond_false]
            exact ⟨i, acc, rfl, Nat.le_refl _, fun q => by omega⟩
    · rw [decide_eq_false (show ¬ (i : Int) < (T.size : Int) by omega), cond_false]
      exact ⟨i, acc, rfl, Nat.le_refl _, fun q => by omega⟩
theorem num10_some (n : Nat) (hn : 100 ≤ n) {T : ByteArray} (hT : T.size ≤ 1048576) (p : Nat) : ∃ (x : Int) (nx : Nat) (b : Bool), spec_l10Num n (T, (p : Int)) = some (x, (nx : Int), b) := by
  obtain ⟨i', a', e1, e2, e3⟩ := l10_some n hT (p := p) n p 0 (Nat.le_refl _) (by omega) (by omega)
  unfold spec_l10Num
  dsimp only
  rw [e1, Option.bind_some]
  dsimp only
  cases hq : ((i' : Int) == (p : Int)) with
  | true => exact ⟨0, 0, false, rfl⟩
  | false =>
    have hlt : p < i' := by
      rw [beq_eq_false_iff_ne] at hq
      omega
    rw [cond_false, inbN (e3 hlt)]
    cases decide (IntKind.i64.wrap ((i' : Int) - (p : Int)) > 4) with
    | true => exact ⟨0, 0, false, rfl⟩
    | false =>
      rw [cond_false, cond_true]
      cases (bt T (p : Int) == 48) with
      | false => exact ⟨_, i', true, rfl⟩
      | true =>
        rw [cond_true]
        cases decide (IntKind.i64.wrap ((i' : Int) - (p : Int)) > 1) with
        | true => exact ⟨0, 0, false, rfl⟩
        | false => exact ⟨_, i', true, rfl⟩
theorem num20_some (n : Nat) (hn : 100 ≤ n) {T : ByteArray} (hT : T.size ≤ 1048576) (p : Nat) : ∃ (x : Int) (nx : Nat) (b : Bool), spec_l20Num n (T, (p : Int)) = some (x, (nx : Int), b) := by
  obtain ⟨x, nx, b, e⟩ := num10_some n hn hT p
  unfold spec_l20Num
  dsimp only
  rw [e, Option.bind_some]
  cases b with
  | true => exact ⟨_, _, _, rfl⟩
  | false => exact ⟨_, _, _, rfl⟩
theorem nums_some (n : Nat) (hn : 100 ≤ n) {T : ByteArray} (hT : T.size ≤ 1048576) {many : Nat} (h4 : many ≤ 4) : ∀ (m at_ j : Nat) (out : List Int), out.length = j → j ≤ many → many < m + j →
    (∃ out' at', spec_l20Nums_L3 n m (T, (at_ : Int), (many : Int), out, (j : Int)) = some (Sum.inl (out', at', false))) ∨ ∃ (at' : Nat) (out' : List Int), spec_l20Nums_L3 n m (T, (at_ : Int), (many : Int), out, (j : Int)) = some (Sum.inr ((at' : Int), out')) ∧ out'.length = many
  | 0, at_, j, out, ho, hj, hm => by omega
  | m + 1, at_, j, out, ho, hj, hm => by
    rw [spec_l20Nums_L3]
    dsimp only
    by_cases hq : j < many
    · rw [decide_eq_true (show (j : Int) < (many : Int) by omega), cond_true]
      by_cases ha : at_ < T.size
      · rw [decide_eq_false (show ¬ (at_ : Int) ≥ (T.size : Int) by omega), cond_false, inbN ha, cond_true]
        cases (bt T (at_ : Int) != 32) with
        | true => exact .inl ⟨_, _, rfl⟩
        | false =>
          rw [cond_false, wrapN (x := (at_ : Int) + 1) (by omega) (by omega), show (at_ : Int) + 1 = ((at_ + 1 : Nat) : Int) by omega]
          obtain ⟨x, nx, b, e⟩ := num20_some n hn hT (at_ + 1)
          rw [e, Option.bind_some]
          dsimp only
          cases b with
          | false => exact .inl ⟨_, _, rfl⟩
          | true =>
            have hr : room (out.length + [x].length) = true := decide_eq_true (by rw [List.length_singleton]; omega)
            rw [Bool.not_true, cond_false, hr, cond_true, wrapN (x := (j : Int) + 1) (by omega) (by omega), show (j : Int) + 1 = ((j + 1 : Nat) : Int) by omega]
            exact nums_some n hn hT h4 m nx (j + 1) (out ++ [x]) (by simp; omega) (by omega) (by omega)
      · rw [decide_eq_true (show (at_ : Int) ≥ (T.size : Int) by omega), cond_true]
        exact .inl ⟨_, _, rfl⟩
    · rw [decide_eq_false (show ¬ (j : Int) < (many : Int) by omega), cond_false]
      exact .inr ⟨at_, out, rfl, by omega⟩
theorem numsF_some (n : Nat) (hn : 100 ≤ n) {T : ByteArray} (hT : T.size ≤ 1048576) {many : Nat} (h4 : many ≤ 4) (at_ : Nat) : (∃ out' at', spec_l20Nums n (T, (at_ : Int), (many : Int)) = some (out', at', false)) ∨ ∃ (at' : Nat) (out' : List Int), spec_l20Nums n (T, (at_ : Int), (many : Int)) = some (out', (at' : Int), true) ∧ out'.length = many := by
  unfold spec_l20Nums
  dsimp only
  rcases nums_some n hn hT h4 n at_ 0 [] rfl (Nat.zero_le _) (by omega) with ⟨o, a, e⟩ | ⟨a, o, e, h⟩
  · rw [show ((0 : Nat) : Int) = (0 : Int) from rfl] at e
    rw [e, Option.bind_some]
    exact .inl ⟨_, _, rfl⟩
  · rw [show ((0 : Nat) : Int) = (0 : Int) from rfl] at e
    rw [e, Option.bind_some]
    exact .inr ⟨_, _, rfl, h⟩

/-! ### Any line -/
theorem read_inl (T : ByteArray) (k a b c d : Int) (t : ByteArray) (g : Bool) : ∃ v, (bif g then some (Sum.inl ((0 : Int), (0 : Int), (0 : Int), (0 : Int), (0 : Int), (⟨#[]⟩ : ByteArray), false)) else bif (!(lineOf k a b c d t).2) then some (Sum.inl ((0 : Int), (0 : Int), (0 : Int), (0 : Int), (0 : Int), (⟨#[]⟩ : ByteArray), false)) else bif (!strEq (lineOf k a b c d t).1 T) then some (Sum.inl ((0 : Int), (0 : Int), (0 : Int), (0 : Int), (0 : Int), (⟨#[]⟩ : ByteArray), false)) else (some (Sum.inl (k, a, b, c, d, t, true)) : Option ((Int × Int × Int × Int × Int × ByteArray × Bool) ⊕ (Int × Int × Int × Int × Int × ByteArray × Int × Int × Int × Int × Int × ByteArray)))) = some (Sum.inl v) ∧ ReadD T v := by
  cases g with
  | true => exact ⟨_, rfl, .inl rfl⟩
  | false =>
    cases h : (lineOf k a b c d t).2 with
    | false => exact ⟨_, rfl, .inl rfl⟩
    | true =>
      cases h2 : strEq (lineOf k a b c d t).1 T with
      | false => exact ⟨_, rfl, .inl rfl⟩
      | true => exact ⟨_, rfl, .inr ⟨k, a, b, c, d, t, rfl, Prod.ext (strEq_iff.1 h2) h⟩⟩
abbrev pL3 (n m : Nat) (T : ByteArray) (k : Int) := spec_ParseDeed_L3 n m (T, (0 : Int), (0 : Int), (0 : Int), (0 : Int), (0 : Int), (⟨#[]⟩ : ByteArray), (0 : Int), (0 : Int), (0 : Int), (0 : Int), (0 : Int), (⟨#[]⟩ : ByteArray), k)
theorem skip1 (n m : Nat) {T : ByteArray} (h : T.size < 5 ∨ strEq (sub T 0 (5 : Int)) (ba wStart) = false) : pL3 n (m + 1) T 1 = pL3 n m T 2 := by
  show spec_ParseDeed_L3 n (m + 1) _ = _
  rw [spec_ParseDeed_L3]
  dsimp only
  rw [show decide ((1 : Int) ≤ 4) = true from rfl, cond_true, show spec_l20Word n 1 = some (ba wStart) from rfl, Option.bind_some, show ((ba wStart).size : Int) = (5 : Int) from rfl, show IntKind.i64.wrap ((1 : Int) + 1) = 2 from rfl]
  by_cases hs : T.size < 5
  · rw [decide_eq_true (show (T.size : Int) < (5 : Int) by omega), cond_true]
  · have hr : rng 0 (5 : Int) T.size = true := decide_eq_true (by omega)
    rcases h with h | h
    · omega
    · rw [decide_eq_false (show ¬ (T.size : Int) < (5 : Int) by omega), cond_false, hr, cond_true, h, Bool.not_false, cond_true]
theorem take1 (n m : Nat) {T : ByteArray} (hs : 5 ≤ T.size) (h : strEq (sub T 0 (5 : Int)) (ba wStart) = true) : pL3 n (m + 1) T 1 = (spec_l20Nums n (T, (5 : Int), (4 : Int))).bind fun r2 => (bif (!r2.2.2) then some (Sum.inl ((0 : Int), (0 : Int), (0 : Int), (0 : Int), (0 : Int), (⟨#[]⟩ : ByteArray), false)) else bif inb (0 : Int) (r2.1).length then (bif inb (1 : Int) (r2.1).length then (bif inb (2 : Int) (r2.1).length then (bif inb (3 : Int) (r2.1).length then ((spec_DeedLine n ((1 : Int), (r2.1.getD ((0 : Int)).toNat (0 : Int)), (r2.1.getD ((1 : Int)).toNat (0 : Int)), (r2.1.getD ((2 : Int)).toNat (0 : Int)), (r2.1.getD ((3 : Int)).toNat (0 : Int)), (⟨#[]⟩ : ByteArray))).bind fun r4 => (bif (r2.2.1 != (T.size : Int)) then some (Sum.inl ((0 : Int), (0 : Int), (0 : Int), (0 : Int), (0 : Int), (⟨#[]⟩ : ByteArray), false)) else bif (!r4.2) then some (Sum.inl ((0 : Int), (0 : Int), (0 : Int), (0 : Int), (0 : Int), (⟨#[]⟩ : ByteArray), false)) else bif (!strEq r4.1 T) then some (Sum.inl ((0 : Int), (0 : Int), (0 : Int), (0 : Int), (0 : Int), (⟨#[]⟩ : ByteArray), false)) else some (Sum.inl ((1 : Int), (r2.1.getD ((0 : Int)).toNat (0 : Int)), (r2.1.getD ((1 : Int)).toNat (0 : Int)), (r2.1.getD ((2 : Int)).toNat (0 : Int)), (r2.1.getD ((3 : Int)).toNat (0 : Int)), (⟨#[]⟩ : ByteArray), true)))) else none) else none) else none) else none) := by
  show spec_ParseDeed_L3 n (m + 1) _ = _
  rw [spec_ParseDeed_L3]
  dsimp only
  have hr : rng 0 (5 : Int) T.size = true := decide_eq_true (by omega)
  rw [show decide ((1 : Int) ≤ 4) = true from rfl, cond_true, show spec_l20Word n 1 = some (ba wStart) from rfl, Option.bind_some, show ((ba wStart).size : Int) = (5 : Int) from rfl, decide_eq_false (show ¬ (T.size : Int) < (5 : Int) by omega), cond_false, hr, cond_true, h, Bool.not_true, cond_false]
  rfl
theorem round1 (n m : Nat) (hn : 3000 ≤ n) {T : ByteArray} (hT : T.size ≤ 1048576) : pL3 n (m + 1) T 1 = pL3 n m T 2 ∨ ∃ v, pL3 n (m + 1) T 1 = some (Sum.inl v) ∧ ReadD T v := by
  by_cases hs : T.size < 5
  · exact .inl (skip1 n m (.inl hs))
  cases h : strEq (sub T 0 (5 : Int)) (ba wStart) with
  | false => exact .inl (skip1 n m (.inr h))
  | true =>
    right
    rw [take1 n m (by omega) h]
    rcases numsF_some n (by omega) hT (many := 4) (by omega) 5 with ⟨o, a, e⟩ | ⟨a, o, e, ho⟩
    · have e : spec_l20Nums n (T, (5 : Int), (4 : Int)) = some (o, a, false) := e
      rw [e, Option.bind_some]
      exact ⟨_, rfl, .inl rfl⟩
    · have e : spec_l20Nums n (T, (5 : Int), (4 : Int)) = some (o, (a : Int), true) := e
      rw [e, Option.bind_some]
      dsimp only
      have i0 : inb (0 : Int) o.length = true := by rw [ho]; rfl
      have i1 : inb (1 : Int) o.length = true := by rw [ho]; rfl
      have i2 : inb (2 : Int) o.length = true := by rw [ho]; rfl
      have i3 : inb (3 : Int) o.length = true := by rw [ho]; rfl
      simp only [Bool.not_true, cond_false, cond_true, i0, i1, i2, i3, spec_line n hn, Option.bind_some]
      exact read_inl T _ _ _ _ _ _ _
theorem skip2 (n m : Nat) {T : ByteArray} (h : T.size < 4 ∨ strEq (sub T 0 (4 : Int)) (ba wTake) = false) : pL3 n (m + 1) T 2 = pL3 n m T 3 := by
  show spec_ParseDeed_L3 n (m + 1) _ = _
  rw [spec_ParseDeed_L3]
  dsimp only
  rw [show decide ((2 : Int) ≤ 4) = true from rfl, cond_true, show spec_l20Word n 2 = some (ba wTake) from rfl, Option.bind_some, show ((ba wTake).size : Int) = (4 : Int) from rfl, show IntKind.i64.wrap ((2 : Int) + 1) = 3 from rfl]
  by_cases hs : T.size < 4
  · rw [decide_eq_true (show (T.size : Int) < (4 : Int) by omega), cond_true]
  · have hr : rng 0 (4 : Int) T.size = true := decide_eq_true (by omega)
    rcases h with h | h
    · omega
    · rw [decide_eq_false (show ¬ (T.size : Int) < (4 : Int) by omega), cond_false, hr, cond_true, h, Bool.not_false, cond_true]
theorem take2 (n m : Nat) {T : ByteArray} (hs : 4 ≤ T.size) (h : strEq (sub T 0 (4 : Int)) (ba wTake) = true) : pL3 n (m + 1) T 2 = (spec_l20Nums n (T, (4 : Int), (1 : Int))).bind fun r2 => (bif (!r2.2.2) then some (Sum.inl ((0 : Int), (0 : Int), (0 : Int), (0 : Int), (0 : Int), (⟨#[]⟩ : ByteArray), false)) else bif inb (0 : Int) (r2.1).length then (bif decide (r2.2.1 ≥ (T.size : Int)) then some (Sum.inl ((0 : Int), (0 : Int), (0 : Int), (0 : Int), (0 : Int), (⟨#[]⟩ : ByteArray), false)) else bif inb r2.2.1 T.size then (bif (bt T r2.2.1 != (32 : Int)) then some (Sum.inl ((0 : Int), (0 : Int), (0 : Int), (0 : Int), (0 : Int), (⟨#[]⟩ : ByteArray), false)) else bif rng (IntKind.i64.wrap (r2.2.1 + (1 : Int))) (T.size : Int) T.size then ((spec_DeedLine n ((2 : Int), (r2.1.getD ((0 : Int)).toNat (0 : Int)), (0 : Int), (0 : Int), (0 : Int), (sub T (IntKind.i64.wrap (r2.2.1 + (1 : Int))) (T.size : Int)))).bind fun r4 => (bif ((T.size : Int) != (T.size : Int)) then some (Sum.inl ((0 : Int), (0 : Int), (0 : Int), (0 : Int), (0 : Int), (⟨#[]⟩ : ByteArray), false)) else bif (!r4.2) then some (Sum.inl ((0 : Int), (0 : Int), (0 : Int), (0 : Int), (0 : Int), (⟨#[]⟩ : ByteArray), false)) else bif (!strEq r4.1 T) then some (Sum.inl ((0 : Int), (0 : Int), (0 : Int), (0 : Int), (0 : Int), (⟨#[]⟩ : ByteArray), false)) else some (Sum.inl ((2 : Int), (r2.1.getD ((0 : Int)).toNat (0 : Int)), (0 : Int), (0 : Int), (0 : Int), (sub T (IntKind.i64.wrap (r2.2.1 + (1 : Int))) (T.size : Int)), true)))) else none) else none) else none) := by
  show spec_ParseDeed_L3 n (m + 1) _ = _
  rw [spec_ParseDeed_L3]
  dsimp only
  have hr : rng 0 (4 : Int) T.size = true := decide_eq_true (by omega)
  rw [show decide ((2 : Int) ≤ 4) = true from rfl, cond_true, show spec_l20Word n 2 = some (ba wTake) from rfl, Option.bind_some, show ((ba wTake).size : Int) = (4 : Int) from rfl, decide_eq_false (show ¬ (T.size : Int) < (4 : Int) by omega), cond_false, hr, cond_true, h, Bool.not_true, cond_false]
  rfl
theorem round2 (n m : Nat) (hn : 3000 ≤ n) {T : ByteArray} (hT : T.size ≤ 1048576) : pL3 n (m + 1) T 2 = pL3 n m T 3 ∨ ∃ v, pL3 n (m + 1) T 2 = some (Sum.inl v) ∧ ReadD T v := by
  by_cases hs : T.size < 4
  · exact .inl (skip2 n m (.inl hs))
  cases h : strEq (sub T 0 (4 : Int)) (ba wTake) with
  | false => exact .inl (skip2 n m (.inr h))
  | true =>
    right
    rw [take2 n m (by omega) h]
    rcases numsF_some n (by omega) hT (many := 1) (by omega) 4 with ⟨o, a, e⟩ | ⟨a, o, e, ho⟩
    · have e : spec_l20Nums n (T, (4 : Int), (1 : Int)) = some (o, a, false) := e
      rw [e, Option.bind_some]
      exact ⟨_, rfl, .inl rfl⟩
    · have e : spec_l20Nums n (T, (4 : Int), (1 : Int)) = some (o, (a : Int), true) := e
      rw [e, Option.bind_some]
      dsimp only
      have i0 : inb (0 : Int) o.length = true := by rw [ho]; rfl
      simp only [Bool.not_true, cond_false, cond_true, i0]
      by_cases ha : a < T.size
      · have w1 : IntKind.i64.wrap ((a : Int) + 1) = ((a + 1 : Nat) : Int) := by rw [wrap_in (by omega) (by omega)]; omega
        have hr : rng ((a + 1 : Nat) : Int) (T.size : Int) T.size = true := decide_eq_true (by omega)
        rw [decide_eq_false (show ¬ (a : Int) ≥ (T.size : Int) by omega), cond_false, inbN ha, cond_true]
        cases (bt T (a : Int) != 32) with
        | true => exact ⟨_, rfl, .inl rfl⟩
        | false =>
          rw [cond_false, w1, hr, cond_true, spec_line n hn, Option.bind_some]
          exact read_inl T _ _ _ _ _ _ _
      · rw [decide_eq_true (show (a : Int) ≥ (T.size : Int) by omega), cond_true]
        exact ⟨_, rfl, .inl rfl⟩
theorem skip3 (n m : Nat) {T : ByteArray} (h : T.size < 4 ∨ strEq (sub T 0 (4 : Int)) (ba wGive) = false) : pL3 n (m + 1) T 3 = pL3 n m T 4 := by
  show spec_ParseDeed_L3 n (m + 1) _ = _
  rw [spec_ParseDeed_L3]
  dsimp only
  rw [show decide ((3 : Int) ≤ 4) = true from rfl, cond_true, show spec_l20Word n 3 = some (ba wGive) from rfl, Option.bind_some, show ((ba wGive).size : Int) = (4 : Int) from rfl, show IntKind.i64.wrap ((3 : Int) + 1) = 4 from rfl]
  by_cases hs : T.size < 4
  · rw [decide_eq_true (show (T.size : Int) < (4 : Int) by omega), cond_true]
  · have hr : rng 0 (4 : Int) T.size = true := decide_eq_true (by omega)
    rcases h with h | h
    · omega
    · rw [decide_eq_false (show ¬ (T.size : Int) < (4 : Int) by omega), cond_false, hr, cond_true, h, Bool.not_false, cond_true]
theorem take3 (n m : Nat) {T : ByteArray} (hs : 4 ≤ T.size) (h : strEq (sub T 0 (4 : Int)) (ba wGive) = true) : pL3 n (m + 1) T 3 = (spec_l20Nums n (T, (4 : Int), (1 : Int))).bind fun r2 => (bif (!r2.2.2) then some (Sum.inl ((0 : Int), (0 : Int), (0 : Int), (0 : Int), (0 : Int), (⟨#[]⟩ : ByteArray), false)) else bif inb (0 : Int) (r2.1).length then ((spec_DeedLine n ((3 : Int), (r2.1.getD ((0 : Int)).toNat (0 : Int)), (0 : Int), (0 : Int), (0 : Int), (⟨#[]⟩ : ByteArray))).bind fun r4 => (bif (r2.2.1 != (T.size : Int)) then some (Sum.inl ((0 : Int), (0 : Int), (0 : Int), (0 : Int), (0 : Int), (⟨#[]⟩ : ByteArray), false)) else bif (!r4.2) then some (Sum.inl ((0 : Int), (0 : Int), (0 : Int), (0 : Int), (0 : Int), (⟨#[]⟩ : ByteArray), false)) else bif (!strEq r4.1 T) then some (Sum.inl ((0 : Int), (0 : Int), (0 : Int), (0 : Int), (0 : Int), (⟨#[]⟩ : ByteArray), false)) else some (Sum.inl ((3 : Int), (r2.1.getD ((0 : Int)).toNat (0 : Int)), (0 : Int), (0 : Int), (0 : Int), (⟨#[]⟩ : ByteArray), true)))) else none) := by
  show spec_ParseDeed_L3 n (m + 1) _ = _
  rw [spec_ParseDeed_L3]
  dsimp only
  have hr : rng 0 (4 : Int) T.size = true := decide_eq_true (by omega)
  rw [show decide ((3 : Int) ≤ 4) = true from rfl, cond_true, show spec_l20Word n 3 = some (ba wGive) from rfl, Option.bind_some, show ((ba wGive).size : Int) = (4 : Int) from rfl, decide_eq_false (show ¬ (T.size : Int) < (4 : Int) by omega), cond_false, hr, cond_true, h, Bool.not_true, cond_false]
  rfl
theorem round3 (n m : Nat) (hn : 3000 ≤ n) {T : ByteArray} (hT : T.size ≤ 1048576) : pL3 n (m + 1) T 3 = pL3 n m T 4 ∨ ∃ v, pL3 n (m + 1) T 3 = some (Sum.inl v) ∧ ReadD T v := by
  by_cases hs : T.size < 4
  · exact .inl (skip3 n m (.inl hs))
  cases h : strEq (sub T 0 (4 : Int)) (ba wGive) with
  | false => exact .inl (skip3 n m (.inr h))
  | true =>
    right
    rw [take3 n m (by omega) h]
    rcases numsF_some n (by omega) hT (many := 1) (by omega) 4 with ⟨o, a, e⟩ | ⟨a, o, e, ho⟩
    · have e : spec_l20Nums n (T, (4 : Int), (1 : Int)) = some (o, a, false) := e
      rw [e, Option.bind_some]
      exact ⟨_, rfl, .inl rfl⟩
    · have e : spec_l20Nums n (T, (4 : Int), (1 : Int)) = some (o, (a : Int), true) := e
      rw [e, Option.bind_some]
      dsimp only
      have i0 : inb (0 : Int) o.length = true := by rw [ho]; rfl
      simp only [Bool.not_true, cond_false, cond_true, i0, spec_line n hn, Option.bind_some]
      exact read_inl T _ _ _ _ _ _ _
theorem skip4 (n m : Nat) {T : ByteArray} (h : T.size < 4 ∨ strEq (sub T 0 (4 : Int)) (ba wShow) = false) : pL3 n (m + 1) T 4 = pL3 n m T 5 := by
  show spec_ParseDeed_L3 n (m + 1) _ = _
  rw [spec_ParseDeed_L3]
  dsimp only
  rw [show decide ((4 : Int) ≤ 4) = true from rfl, cond_true, show spec_l20Word n 4 = some (ba wShow) from rfl, Option.bind_some, show ((ba wShow).size : Int) = (4 : Int) from rfl, show IntKind.i64.wrap ((4 : Int) + 1) = 5 from rfl]
  by_cases hs : T.size < 4
  · rw [decide_eq_true (show (T.size : Int) < (4 : Int) by omega), cond_true]
  · have hr : rng 0 (4 : Int) T.size = true := decide_eq_true (by omega)
    rcases h with h | h
    · omega
    · rw [decide_eq_false (show ¬ (T.size : Int) < (4 : Int) by omega), cond_false, hr, cond_true, h, Bool.not_false, cond_true]
theorem take4 (n m : Nat) {T : ByteArray} (hs : 4 ≤ T.size) (h : strEq (sub T 0 (4 : Int)) (ba wShow) = true) : pL3 n (m + 1) T 4 = (spec_l20Nums n (T, (4 : Int), (1 : Int))).bind fun r2 => (bif (!r2.2.2) then some (Sum.inl ((0 : Int), (0 : Int), (0 : Int), (0 : Int), (0 : Int), (⟨#[]⟩ : ByteArray), false)) else bif inb (0 : Int) (r2.1).length then ((spec_DeedLine n ((4 : Int), (r2.1.getD ((0 : Int)).toNat (0 : Int)), (0 : Int), (0 : Int), (0 : Int), (⟨#[]⟩ : ByteArray))).bind fun r4 => (bif (r2.2.1 != (T.size : Int)) then some (Sum.inl ((0 : Int), (0 : Int), (0 : Int), (0 : Int), (0 : Int), (⟨#[]⟩ : ByteArray), false)) else bif (!r4.2) then some (Sum.inl ((0 : Int), (0 : Int), (0 : Int), (0 : Int), (0 : Int), (⟨#[]⟩ : ByteArray), false)) else bif (!strEq r4.1 T) then some (Sum.inl ((0 : Int), (0 : Int), (0 : Int), (0 : Int), (0 : Int), (⟨#[]⟩ : ByteArray), false)) else some (Sum.inl ((4 : Int), (r2.1.getD ((0 : Int)).toNat (0 : Int)), (0 : Int), (0 : Int), (0 : Int), (⟨#[]⟩ : ByteArray), true)))) else none) := by
  show spec_ParseDeed_L3 n (m + 1) _ = _
  rw [spec_ParseDeed_L3]
  dsimp only
  have hr : rng 0 (4 : Int) T.size = true := decide_eq_true (by omega)
  rw [show decide ((4 : Int) ≤ 4) = true from rfl, cond_true, show spec_l20Word n 4 = some (ba wShow) from rfl, Option.bind_some, show ((ba wShow).size : Int) = (4 : Int) from rfl, decide_eq_false (show ¬ (T.size : Int) < (4 : Int) by omega), cond_false, hr, cond_true, h, Bool.not_true, cond_false]
  rfl
theorem round4 (n m : Nat) (hn : 3000 ≤ n) {T : ByteArray} (hT : T.size ≤ 1048576) : pL3 n (m + 1) T 4 = pL3 n m T 5 ∨ ∃ v, pL3 n (m + 1) T 4 = some (Sum.inl v) ∧ ReadD T v := by
  by_cases hs : T.size < 4
  · exact .inl (skip4 n m (.inl hs))
  cases h : strEq (sub T 0 (4 : Int)) (ba wShow) with
  | false => exact .inl (skip4 n m (.inr h))
  | true =>
    right
    rw [take4 n m (by omega) h]
    rcases numsF_some n (by omega) hT (many := 1) (by omega) 4 with ⟨o, a, e⟩ | ⟨a, o, e, ho⟩
    · have e : spec_l20Nums n (T, (4 : Int), (1 : Int)) = some (o, a, false) := e
      rw [e, Option.bind_some]
      exact ⟨_, rfl, .inl rfl⟩
    · have e : spec_l20Nums n (T, (4 : Int), (1 : Int)) = some (o, (a : Int), true) := e
      rw [e, Option.bind_some]
      dsimp only
      have i0 : inb (0 : Int) o.length = true := by rw [ho]; rfl
      simp only [Bool.not_true, cond_false, cond_true, i0, spec_line n hn, Option.bind_some]
      exact read_inl T _ _ _ _ _ _ _
theorem round5 (n m : Nat) (T : ByteArray) : pL3 n (m + 1) T 5 = some (Sum.inr ((0 : Int), (0 : Int), (0 : Int), (0 : Int), (0 : Int), (⟨#[]⟩ : ByteArray), (0 : Int), (0 : Int), (0 : Int), (0 : Int), (0 : Int), (⟨#[]⟩ : ByteArray))) := by
  show spec_ParseDeed_L3 n (m + 1) _ = _
  rw [spec_ParseDeed_L3]
  rfl
theorem spec_inl {n : Nat} {T : ByteArray} {v : Int × Int × Int × Int × Int × ByteArray × Bool} (h : pL3 n n T 1 = some (Sum.inl v)) : spec_ParseDeed n T = some v := by
  unfold spec_ParseDeed
  have h : spec_ParseDeed_L3 n n (T, (0 : Int), (0 : Int), (0 : Int), (0 : Int), (0 : Int), (⟨#[]⟩ : ByteArray), (0 : Int), (0 : Int), (0 : Int), (0 : Int), (0 : Int), (⟨#[]⟩ : ByteArray), (1 : Int)) = some (Sum.inl v) := h
  rw [h]; rfl
theorem spec_parse (n : Nat) (hn : 3000 ≤ n) (T : ByteArray) (hT : T.size ≤ 1048576) : ∃ v, spec_ParseDeed n T = some v ∧ ReadD T v := by
  obtain ⟨m, hm⟩ : ∃ m, n = m + 4 + 1 := ⟨n - 5, by omega⟩
  have key : (∃ v, pL3 n (m + 4 + 1) T 1 = some (Sum.inl v) ∧ ReadD T v) ∨ pL3 n (m + 4 + 1) T 1 = some (Sum.inr ((0 : Int), (0 : Int), (0 : Int), (0 : Int), (0 : Int), (⟨#[]⟩ : ByteArray), (0 : Int), (0 : Int), (0 : Int), (0 : Int), (0 : Int), (⟨#[]⟩ : ByteArray))) := by
    rcases round1 n (m + 4) hn hT with e1 | q
    · rcases round2 n (m + 3) hn hT with e2 | q
      · rcases round3 n (m + 2) hn hT with e3 | q
        · rcases round4 n (m + 1) hn hT with e4 | q
          · exact .inr (e1.trans (e2.trans (e3.trans (e4.trans (round5 n m T)))))
          · rw [e1, e2, e3]; exact .inl q
        · rw [e1, e2]; exact .inl q
      · rw [e1]; exact .inl q
    · exact .inl q
  rw [← hm] at key
  rcases key with ⟨v, e, h⟩ | e
  · exact ⟨v, spec_inl e, h⟩
  · refine ⟨_, ?_, .inl rfl⟩
    unfold spec_ParseDeed
    have e : spec_ParseDeed_L3 n n (T, (0 : Int), (0 : Int), (0 : Int), (0 : Int), (0 : Int), (⟨#[]⟩ : ByteArray), (0 : Int), (0 : Int), (0 : Int), (0 : Int), (0 : Int), (⟨#[]⟩ : ByteArray), (1 : Int)) = _ := e
    rw [e]; rfl

end AM
end Go.Proofs.YtelkmjkclmjggaaDoor

/-! Both readers of deeds agree. Under: the line is short. -/
namespace Go.Proofs.YtelkmjkclmjggaaDoor
namespace AM
open Go
set_option linter.unusedVariables false
set_option linter.unusedSimpArgs false

def valE : Int → List UInt8 → Int
  | x, [] => x
  | x, c :: r => valE (10 * x + (c.toNat : Int) - 48) r
def digE (c : UInt8) : Bool := decide (48 ≤ c.toNat) && decide (c.toNat ≤ 57)
def itOk (l : List UInt8) (u : Nat) : Bool := l.all digE && (Nat.ble 1 l.length && (Nat.ble l.length 3 && (decide (valE 0 l = (u : Int)) && (!(l.headD 0 == 48) || Nat.beq l.length 1))))
set_option maxRecDepth 100000 in
theorem it_all : ∀ u : Fin 1000, itOk (it3 u.val) u.val = true := by decide +kernel
theorem bt_drop {T : ByteArray} {i : Nat} {c : UInt8} {r : List UInt8} (h : T.data.toList.drop i = c :: r) : i < T.size ∧ bt T (i : Int) = (c.toNat : Int) ∧ T.data.toList.drop (i + 1) = r := by
  have hl : i < T.data.toList.length := by
    refine Nat.lt_of_not_le fun q => ?_
    rw [List.drop_eq_nil_of_le q] at h
    cases h
  refine ⟨hl, ?_, ?_⟩
  · rw [List.drop_eq_getElem_cons hl] at h
    rw [bt_eq hl, (List.cons.inj h).1]
  · rw [List.drop_eq_getElem_cons hl] at h
    exact (List.cons.inj h).2
theorem step10 (n m : Nat) {T : ByteArray} (hT : T.size ≤ 1048576) {i p : Nat} {acc : Int} {c : UInt8} {r : List UInt8} (h : T.data.toList.drop i = c :: r) (hc : digE c = true) (h1 : p ≤ i) (h2 : i ≤ p + 4) (a0 : 0 ≤ acc) (a1 : acc ≤ 1000000) :
    spec_l10Num_L3 n (m + 1) (T, (i : Int), (p : Int), acc) = spec_l10Num_L3 n m (T, ((i + 1 : Nat) : Int), (p : Int), 10 * acc + (c.toNat : Int) - 48) := by
  obtain ⟨g1, g2, _⟩ := bt_drop h
  unfold digE at hc
  rw [Bool.and_eq_true, decide_eq_true_iff, decide_eq_true_iff] at hc
  rw [spec_l10Num_L3]
  dsimp only
  rw [decide_eq_true (show (i : Int) < (T.size : Int) by omega), cond_true, inbN g1, cond_true, g2, decide_eq_true (show (c.toNat : Int) ≥ 48 by omega), cond_true, cond_true, decide_eq_true (show (c.toNat : Int) ≤ 57 by omega), cond_true, wrapN (x := (i : Int) - (p : Int)) (by omega) (by omega), decide_eq_true (show (i : Int) - (p : Int) < 5 by omega), cond_true, cond_true, wrapN (x := (i : Int) + 1) (by omega) (by omega), wrapN (x := 10 * acc) (by omega) (by omega), wrapN (x := (c.toNat : Int)) (by omega) (by omega), wrapN (x := 10 * acc + (c.toNat : Int)) (by omega) (by omega), wrapN (x := 10 * acc + (c.toNat : Int) - 48) (by omega) (by omega), show (i : Int) + 1 = ((i + 1 : Nat) : Int) by omega]
def noDig (r : List UInt8) : Prop := r = [] ∨ ∃ c s, r = c :: s ∧ digE c = false
theorem stop10 (n m : Nat) {T : ByteArray} {i p : Nat} {acc : Int} {r : List UInt8} (h : T.data.toList.drop i = r) (hr : noDig r) : spec_l10Num_L3 n (m + 1) (T, (i : Int), (p : Int), acc) = some (T, (i : Int), (p : Int), acc) := by
  rw [spec_l10Num_L3]
  dsimp only
  rcases hr with rfl | ⟨c, s, rfl, hc⟩
  · have hl : T.size ≤ i := by
      have := List.drop_eq_nil_iff.1 h
      exact this
    rw [decide_eq_false (show ¬ (i : Int) < (T.size : Int) by omega), cond_false]
  · obtain ⟨g1, g2, _⟩ := bt_drop h
    rw [decide_eq_true (show (i : Int) < (T.size : Int) by omega), cond_true, inbN g1, cond_true, g2]
    unfold digE at hc
    by_cases h48 : 48 ≤ c.toNat
    · rw [decide_eq_true h48, Bool.true_and] at hc
      have h57 : ¬ c.toNat ≤ 57 := of_decide_eq_false hc
      rw [decide_eq_true (show (c.toNat : Int) ≥ 48 by omega), cond_true, cond_true, decide_eq_false (show ¬ (c.toNat : Int) ≤ 57 by omega), cond_false]
    · rw [decide_eq_false (show ¬ (c.toNat : Int) ≥ 48 by omega), cond_false]
theorem l10_read (n m : Nat) (hm : 10 ≤ m) {T : ByteArray} (hT : T.size ≤ 1048576) {p : Nat} {ds r : List UInt8} (hd : ∀ c ∈ ds, digE c = true) (h3 : ds.length ≤ 3) (h : T.data.toList.drop p = ds ++ r) (hr : noDig r) : spec_l10Num_L3 n m (T, (p : Int), (p : Int), 0) = some (T, ((p + ds.length : Nat) : Int), (p : Int), valE 0 ds) := by
  obtain ⟨k, rfl⟩ : ∃ k, m = k + 4 := ⟨m - 4, by omega⟩
  match ds, h3, hd, h with
  | [], _, _, h => exact stop10 n (k + 3) h hr
  | [c0], _, hd, h =>
    have d0 := hd c0 (by simp)
    have h1 := (bt_drop h).2.2
    rw [step10 n (k + 3) hT h d0 (by omega) (by omega) (by omega) (by omega)]
    exact stop10 n (k + 2) h1 hr
  | [c0, c1], _, hd, h =>
    have d0 := hd c0 (by simp)
    have d1 := hd c1 (by simp)
    have h1 := (bt_drop h).2.2
    have h2 := (bt_drop h1).2.2
    have b0 : 48 ≤ c0.toNat ∧ c0.toNat ≤ 57 := by unfold digE at d0; rw [Bool.and_eq_true, decide_eq_true_iff, decide_eq_true_iff] at d0; exact d0
    rw [step10 n (k + 3) hT h d0 (by omega) (by omega) (by omega) (by omega), step10 n (k + 2) hT h1 d1 (by omega) (by omega) (by omega) (by omega)]
    exact stop10 n (k + 1) h2 hr
  | [c0, c1, c2], _, hd, h =>
    have d0 := hd c0 (by simp)
    have d1 := hd c1 (by simp)
    have d2 := hd c2 (by simp)
    have h1 := (bt_drop h).2.2
    have h2 := (bt_drop h1).2.2
    have h4 := (bt_drop h2).2.2
    have b0 : 48 ≤ c0.toNat ∧ c0.toNat ≤ 57 := by unfold digE at d0; rw [Bool.and_eq_true, decide_eq_true_iff, decide_eq_true_iff] at d0; exact d0
    have b1 : 48 ≤ c1.toNat ∧ c1.toNat ≤ 57 := by unfold digE at d1; rw [Bool.and_eq_true, decide_eq_true_iff, decide_eq_true_iff] at d1; exact d1
    rw [step10 n (k + 3) hT h d0 (by omega) (by omega) (by omega) (by omega), step10 n (k + 2) hT h1 d1 (by omega) (by omega) (by omega) (by omega), step10 n (k + 1) hT h2 d2 (by omega) (by omega) (by omega) (by omega)]
    exact stop10 n k h4 hr
theorem itoa_ok {x : Int} (h0 : 0 ≤ x) (h1 : x ≤ 999) : (∀ c ∈ Lib.itoa x, digE c = true) ∧ 1 ≤ (Lib.itoa x).length ∧ (Lib.itoa x).length ≤ 3 ∧ valE 0 (Lib.itoa x) = x ∧ ((Lib.itoa x).headD 0 = 48 → (Lib.itoa x).length = 1) := by
  obtain ⟨u, rfl⟩ := Int.eq_ofNat_of_zero_le h0
  have hk := it_all ⟨u, by omega⟩
  rw [itoa3 (by omega)]
  unfold itOk at hk
  rw [Bool.and_eq_true, Bool.and_eq_true, Bool.and_eq_true, Bool.and_eq_true, decide_eq_true_iff] at hk
  obtain ⟨k1, k2, k3, k4, k5⟩ := hk
  refine ⟨fun c hc => List.all_eq_true.1 k1 c hc, Nat.le_of_ble_eq_true k2, Nat.le_of_ble_eq_true k3, k4, fun q => ?_⟩
  rw [q] at k5
  rw [Bool.or_eq_true] at k5
  rcases k5 with w | w
  · cases w
  · exact Nat.eq_of_beq_eq_true w
theorem num_read (n : Nat) (hn : 100 ≤ n) {T : ByteArray} (hT : T.size ≤ 1048576) {p : Nat} {x : Int} {r : List UInt8} (h0 : 0 ≤ x) (h1 : x ≤ 999) (h : T.data.toList.drop p = Lib.itoa x ++ r) (hr : noDig r) : spec_l20Num n (T, (p : Int)) = some (x, ((p + (Lib.itoa x).length : Nat) : Int), true) := by
  obtain ⟨k1, k2, k3, k4, k5⟩ := itoa_ok h0 h1
  have e := l10_read n n (by omega) hT k1 k3 h hr
  rw [k4] at e
  obtain ⟨c, s, hcs⟩ : ∃ c s, Lib.itoa x = c :: s := by
    cases q : Lib.itoa x with
    | nil => rw [q] at k2; simp at k2
    | cons c s => exact ⟨c, s, rfl⟩
  have hb := bt_drop (h.trans (by rw [hcs]; rfl) : T.data.toList.drop p = c :: (s ++ r))
  have w : IntKind.i64.wrap (((p + (Lib.itoa x).length : Nat) : Int) - (p : Int)) = ((Lib.itoa x).length : Int) := by rw [wrapN (by omega) (by omega)]; omega
  have e2 : spec_l10Num n (T, (p : Int)) = some (x, ((p + (Lib.itoa x).length : Nat) : Int), true) := by
    unfold spec_l10Num
    dsimp only
    rw [e, Option.bind_some]
    dsimp only
    rw [show ((((p + (Lib.itoa x).length : Nat) : Int)) == (p : Int)) = false from by rw [beq_eq_false_iff_ne]; omega, cond_false, w, decide_eq_false (show ¬ ((Lib.itoa x).length : Int) > 4 by omega), cond_false, inbN hb.1, cond_true]
    cases q : (bt T (p : Int) == 48) with
    | false => rfl
    | true =>
      have hc : c = 48 := by
        rw [hb.2.1] at q
        have : (c.toNat : Int) = 48 := by simpa using q
        apply UInt8.toNat_inj.1
        show c.toNat = 48
        omega
      have := k5 (by rw [hcs, hc]; rfl)
      rw [cond_true, decide_eq_false (show ¬ ((Lib.itoa x).length : Int) > 1 by omega), cond_false]
  unfold spec_l20Num
  dsimp only
  rw [e2, Option.bind_some]
  dsimp only
  rw [cond_true, w, decide_eq_true (show ((Lib.itoa x).length : Int) ≤ 3 by omega)]
theorem nums_step (n m : Nat) (hn : 100 ≤ n) {T : ByteArray} (hT : T.size ≤ 1048576) {many j p : Nat} {out : List Int} {x : Int} {r : List UInt8} (hj : j < many) (h4 : many ≤ 4) (ho : out.length = j) (h0 : 0 ≤ x) (h1 : x ≤ 999) (h : T.data.toList.drop p = 32 :: (Lib.itoa x ++ r)) (hr : noDig r) :
    spec_l20Nums_L3 n (m + 1) (T, (p : Int), (many : Int), out, (j : Int)) = spec_l20Nums_L3 n m (T, ((p + 1 + (Lib.itoa x).length : Nat) : Int), (many : Int), out ++ [x], ((j + 1 : Nat) : Int)) ∧ T.data.toList.drop (p + 1 + (Lib.itoa x).length) = r ∧ p + 1 + (Lib.itoa x).length ≤ T.size := by
  obtain ⟨g1, g2, g3⟩ := bt_drop h
  have hlen : (T.data.toList.drop (p + 1)).length = (Lib.itoa x ++ r).length := by rw [g3]
  rw [List.length_drop, List.length_append] at hlen
  have hsz : T.data.toList.length = T.size := rfl
  refine ⟨?_, ?_, by omega⟩
  · rw [spec_l20Nums_L3]
    dsimp only
    have hro : room (out.length + [x].length) = true := decide_eq_true (by rw [List.length_singleton]; omega)
    rw [decide_eq_true (show (j : Int) < (many : Int) by omega), cond_true, decide_eq_false (show ¬ (p : Int) ≥ (T.size : Int) by omega), cond_false, inbN g1, cond_true, g2, show ((((32 : UInt8).toNat : Int)) != 32) = false from rfl, cond_false, wrapN (x := (p : Int) + 1) (by omega) (by omega), show (p : Int) + 1 = ((p + 1 : Nat) : Int) by omega, num_read n hn hT h0 h1 g3 hr, Option.bind_some]
    dsimp only
    rw [Bool.not_true, cond_false, hro, cond_true, wrapN (x := (j : Int) + 1) (by omega) (by omega), show (j : Int) + 1 = ((j + 1 : Nat) : Int) by omega]
  · have : T.data.toList.drop (p + 1 + (Lib.itoa x).length) = (T.data.toList.drop (p + 1)).drop (Lib.itoa x).length := by rw [List.drop_drop]
    rw [this, g3]
    exact List.drop_left' rfl
theorem nums_end (n m : Nat) {T : ByteArray} {many : Nat} {p : Int} {out : List Int} : spec_l20Nums_L3 n (m + 1) (T, p, (many : Int), out, (many : Int)) = some (Sum.inr (p, out)) := by
  rw [spec_l20Nums_L3]
  dsimp only
  rw [decide_eq_false (Int.lt_irrefl _), cond_false]
theorem nums_of {n : Nat} {T : ByteArray} {p : Int} {many : Int} {q : Int} {out : List Int} (h : spec_l20Nums_L3 n n (T, p, many, [], 0) = some (Sum.inr (q, out))) : spec_l20Nums n (T, p, many) = some (out, q, true) := by
  unfold spec_l20Nums
  dsimp only
  rw [h]; rfl
theorem noDig_sp (r : List UInt8) : noDig (32 :: r) := .inr ⟨32, r, rfl, rfl⟩
theorem sub_ba (L : List UInt8) {s : Nat} (h : s ≤ L.length) : sub (ba L) 0 (s : Int) = ba (L.take s) := by
  apply ByteArray.ext
  show ((ba L).extract ((0 : Int)).toNat ((s : Int)).toNat).data = _
  rw [ByteArray.data_extract, Int.toNat_natCast]
  apply Array.toList_inj.1
  rw [Array.toList_extract]
  show List.extract (ba L).data.toList 0 s = (ba (L.take s)).data.toList
  rw [ba_data, ba_data, List.extract_eq_take_drop]
  simp
theorem pre_no {L w : List UInt8} {s : Nat} (h : s ≤ L.length) (hne : L.take s ≠ w) : strEq (sub (ba L) 0 (s : Int)) (ba w) = false := by
  rw [sub_ba L h]
  cases q : strEq (ba (L.take s)) (ba w) with
  | false => rfl
  | true => exact absurd (ba_inj (strEq_iff.1 q)) hne
theorem pre_yes {L w : List UInt8} {s : Nat} (h : s ≤ L.length) (he : L.take s = w) : strEq (sub (ba L) 0 (s : Int)) (ba w) = true := by
  rw [sub_ba L h, he]
  exact strEq_self _
theorem spec_back (n : Nat) (hn : 3000 ≤ n) {T : ByteArray} {k a b c d : Int} {t : ByteArray} (h : lineOf k a b c d t = (T, true)) : spec_ParseDeed n T = some (k, a, b, c, d, t, true) := by
  obtain ⟨hg, rfl⟩ := line_good h
  unfold good at hg
  rw [Bool.and_eq_true, Bool.and_eq_true, Bool.and_eq_true, Bool.and_eq_true, Bool.and_eq_true, Bool.and_eq_true] at hg
  obtain ⟨hf, hts, ⟨ha, hb, hc, hd⟩, _⟩ := hg
  have hts : t.size ≤ 2000 := of_decide_eq_true hts
  obtain ⟨a0, a1⟩ := inR_in ha
  obtain ⟨b0, b1⟩ := inR_in hb
  obtain ⟨c0, c1⟩ := inR_in hc
  obtain ⟨d0, d1⟩ := inR_in hd
  have la := itoa_len a0 a1
  have lb := itoa_len b0 b1
  have lc := itoa_len c0 c1
  have ld := itoa_len d0 d1
  obtain ⟨m, hm⟩ : ∃ m, n = m + 4 + 1 := ⟨n - 5, by omega⟩
  apply spec_inl
  rcases formed_kind hf with ⟨rfl, rfl⟩ | ⟨rfl, rfl, rfl, rfl⟩ | ⟨rfl, rfl, rfl, rfl, rfl⟩ | ⟨rfl, rfl, rfl, rfl, rfl⟩
  · have eT : body 1 a b c d (⟨#[]⟩ : ByteArray) = wStart ++ 32 :: (Lib.itoa a ++ 32 :: (Lib.itoa b ++ 32 :: (Lib.itoa c ++ 32 :: (Lib.itoa d ++ [])))) := by
      unfold body
      simp
    rw [eT] at h ⊢
    have hl : (wStart ++ 32 :: (Lib.itoa a ++ 32 :: (Lib.itoa b ++ 32 :: (Lib.itoa c ++ 32 :: (Lib.itoa d ++ []))))).length ≤ 1048576 := by
      simp only [List.length_append, List.length_cons, List.length_nil]
      omega
    generalize hL : wStart ++ 32 :: (Lib.itoa a ++ 32 :: (Lib.itoa b ++ 32 :: (Lib.itoa c ++ 32 :: (Lib.itoa d ++ [])))) = L at h hl ⊢
    have hT : (ba L).size ≤ 1048576 := by rw [ba_size]; exact hl
    have hsz : (ba L).size = L.length := ba_size L
    have h5 : 5 ≤ L.length := by
      rw [← hL]
      simp only [List.length_append, List.length_cons, List.length_nil]
      omega
    have e0 : pL3 n n (ba L) 1 = pL3 n (m + 4 + 1) (ba L) 1 := by rw [← hm]
    have hdr : (ba L).data.toList.drop 5 = 32 :: (Lib.itoa a ++ 32 :: (Lib.itoa b ++ 32 :: (Lib.itoa c ++ 32 :: (Lib.itoa d ++ [])))) := by
      rw [ba_data, ← hL]
      rfl
    have tk := take1 n (m + 4) (T := ba L) (by rw [hsz]; exact h5) (pre_yes (s := 5) h5 (by rw [← hL]; rfl))
    obtain ⟨s1, q1, z1⟩ := nums_step n (m + 4) (by omega) hT (many := 4) (j := 0) (out := []) (by omega) (by omega) rfl a0 a1 hdr (noDig_sp _)
    obtain ⟨s2, q2, z2⟩ := nums_step n (m + 3) (by omega) hT (many := 4) (j := 1) (out := [a]) (by omega) (by omega) rfl b0 b1 q1 (noDig_sp _)
    obtain ⟨s3, q3, z3⟩ := nums_step n (m + 2) (by omega) hT (many := 4) (j := 2) (out := [a, b]) (by omega) (by omega) rfl c0 c1 q2 (noDig_sp _)
    obtain ⟨s4, q4, z4⟩ := nums_step n (m + 1) (by omega) hT (many := 4) (j := 3) (out := [a, b, c]) (by omega) (by omega) rfl d0 d1 q3 (.inl rfl)
    have s5 := nums_end n m (T := ba L) (many := 4) (p := ((5 + 1 + (Lib.itoa a).length + 1 + (Lib.itoa b).length + 1 + (Lib.itoa c).length + 1 + (Lib.itoa d).length : Nat) : Int)) (out := [a, b, c, d])
    have e1 : spec_l20Nums n (ba L, 5, 4) = some ([a, b, c, d], ((5 + 1 + (Lib.itoa a).length + 1 + (Lib.itoa b).length + 1 + (Lib.itoa c).length + 1 + (Lib.itoa d).length : Nat) : Int), true) := nums_of (by
      rw [show spec_l20Nums_L3 n n (ba L, (5 : Int), (4 : Int), [], (0 : Int)) = spec_l20Nums_L3 n (m + 4 + 1) (ba L, (5 : Int), (4 : Int), [], (0 : Int)) from by rw [← hm]]
      exact s1.trans (s2.trans (s3.trans (s4.trans s5))))
    have hend : 5 + 1 + (Lib.itoa a).length + 1 + (Lib.itoa b).length + 1 + (Lib.itoa c).length + 1 + (Lib.itoa d).length = (ba L).size := by
      have := List.drop_eq_nil_iff.1 q4
      have hs2 : (ba L).data.toList.length = (ba L).size := rfl
      omega
    have e2 : spec_DeedLine n ((1 : Int), ([a, b, c, d].getD ((0 : Int)).toNat 0), ([a, b, c, d].getD ((1 : Int)).toNat 0), ([a, b, c, d].getD ((2 : Int)).toNat 0), ([a, b, c, d].getD ((3 : Int)).toNat 0), (⟨#[]⟩ : ByteArray)) = some (ba L, true) := (spec_line n hn 1 a b c d (⟨#[]⟩ : ByteArray)).trans (congrArg some h)
    rw [e0, tk, e1, Option.bind_some]
    dsimp only
    rw [show inb (0 : Int) ([a, b, c, d] : List Int).length = true from rfl, show inb (1 : Int) ([a, b, c, d] : List Int).length = true from rfl, show inb (2 : Int) ([a, b, c, d] : List Int).length = true from rfl, show inb (3 : Int) ([a, b, c, d] : List Int).length = true from rfl]
    simp only [Bool.not_true, cond_false, cond_true]
    rw [e2, Option.bind_some, hend, bne_self_eq_false, cond_false]
    dsimp only
    rw [strEq_self]
    rfl
  · have eT : body 2 a 0 0 0 t = wTake ++ 32 :: (Lib.itoa a ++ 32 :: t.data.toList) := by
      unfold body
      simp
    rw [eT] at h ⊢
    have hl : (wTake ++ 32 :: (Lib.itoa a ++ 32 :: t.data.toList)).length ≤ 1048576 := by
      simp only [List.length_append, List.length_cons, List.length_nil]
      have := size_data t
      omega
    generalize hL : wTake ++ 32 :: (Lib.itoa a ++ 32 :: t.data.toList) = L at h hl ⊢
    have hT : (ba L).size ≤ 1048576 := by rw [ba_size]; exact hl
    have hsz : (ba L).size = L.length := ba_size L
    have h4 : 4 ≤ L.length := by
      rw [← hL]
      simp only [List.length_append, List.length_cons, List.length_nil]
      omega
    have n1 : pL3 n (m + 4 + 1) (ba L) 1 = pL3 n (m + 4) (ba L) 2 := by
      by_cases hs : L.length < 5
      · exact skip1 n _ (.inl (by rw [hsz]; exact hs))
      · exact skip1 n _ (.inr (pre_no (s := 5) (by omega) (by
          intro q
          rw [← hL] at q
          simp at q)))
    have e0 : pL3 n n (ba L) 1 = pL3 n (m + 3 + 1) (ba L) 2 := by
      rw [show pL3 n n (ba L) 1 = pL3 n (m + 4 + 1) (ba L) 1 from by rw [← hm]]
      exact n1
    have hdr : (ba L).data.toList.drop 4 = 32 :: (Lib.itoa a ++ 32 :: t.data.toList) := by
      rw [ba_data, ← hL]
      rfl
    have tk := take2 n (m + 3) (T := ba L) (by rw [hsz]; exact h4) (pre_yes (s := 4) h4 (by rw [← hL]; rfl))
    obtain ⟨s1, q1, z1⟩ := nums_step n (m + 4) (by omega) hT (many := 1) (j := 0) (out := []) (by omega) (by omega) rfl a0 a1 hdr (noDig_sp _)
    have s5 := nums_end n (m + 3) (T := ba L) (many := 1) (p := ((4 + 1 + (Lib.itoa a).length : Nat) : Int)) (out := [a])
    have e1 : spec_l20Nums n (ba L, 4, 1) = some ([a], ((4 + 1 + (Lib.itoa a).length : Nat) : Int), true) := nums_of (by
      rw [show spec_l20Nums_L3 n n (ba L, (4 : Int), (1 : Int), [], (0 : Int)) = spec_l20Nums_L3 n (m + 4 + 1) (ba L, (4 : Int), (1 : Int), [], (0 : Int)) from by rw [← hm]]
      exact s1.trans s5)
    obtain ⟨g1, g2, g3⟩ := bt_drop q1
    have w1 : IntKind.i64.wrap (((4 + 1 + (Lib.itoa a).length : Nat) : Int) + 1) = ((4 + 1 + (Lib.itoa a).length + 1 : Nat) : Int) := by rw [wrap_in (by omega) (by omega)]; omega
    have hr : rng ((4 + 1 + (Lib.itoa a).length + 1 : Nat) : Int) ((ba L).size : Int) (ba L).size = true := decide_eq_true (by omega)
    have hsub : sub (ba L) ((4 + 1 + (Lib.itoa a).length + 1 : Nat) : Int) ((ba L).size : Int) = t := by
      apply ByteArray.ext
      show ((ba L).extract (((4 + 1 + (Lib.itoa a).length + 1 : Nat) : Int)).toNat (((ba L).size : Int)).toNat).data = _
      rw [ByteArray.data_extract, Int.toNat_natCast, Int.toNat_natCast]
      apply Array.toList_inj.1
      rw [Array.toList_extract, List.extract_eq_take_drop, g3]
      apply List.take_of_length_le
      have hs2 : (ba L).data.toList.length = (ba L).size := rfl
      have := congrArg List.length g3
      rw [List.length_drop] at this
      omega
    have e2 : spec_DeedLine n ((2 : Int), ([a].getD ((0 : Int)).toNat 0), (0 : Int), (0 : Int), (0 : Int), t) = some (ba L, true) := (spec_line n hn 2 a 0 0 0 t).trans (congrArg some h)
    rw [e0, tk, e1, Option.bind_some]
    dsimp only
    rw [show inb (0 : Int) ([a] : List Int).length = true from rfl]
    simp only [Bool.not_true, cond_false, cond_true]
    rw [decide_eq_false (show ¬ ((4 + 1 + (Lib.itoa a).length : Nat) : Int) ≥ ((ba L).size : Int) by omega), cond_false, inbN g1, cond_true, g2, show ((((32 : UInt8).toNat : Int)) != 32) = false from rfl, cond_false, w1, hr, cond_true, hsub, e2, Option.bind_some, bne_self_eq_false, cond_false]
    dsimp only
    rw [strEq_self]
    rfl
  · have eT : body 3 a 0 0 0 (⟨#[]⟩ : ByteArray) = wGive ++ 32 :: (Lib.itoa a ++ []) := by
      unfold body
      simp
    rw [eT] at h ⊢
    have hl : (wGive ++ 32 :: (Lib.itoa a ++ [])).length ≤ 1048576 := by
      simp only [List.length_append, List.length_cons, List.length_nil]
      omega
    generalize hL : wGive ++ 32 :: (Lib.itoa a ++ []) = L at h hl ⊢
    have hT : (ba L).size ≤ 1048576 := by rw [ba_size]; exact hl
    have hsz : (ba L).size = L.length := ba_size L
    have h4 : 4 ≤ L.length := by
      rw [← hL]
      simp only [List.length_append, List.length_cons, List.length_nil]
      omega
    have n1 : pL3 n (m + 4 + 1) (ba L) 1 = pL3 n (m + 4) (ba L) 2 := by
      by_cases hs : L.length < 5
      · exact skip1 n _ (.inl (by rw [hsz]; exact hs))
      · exact skip1 n _ (.inr (pre_no (s := 5) (by omega) (by
          intro q
          rw [← hL] at q
          simp at q)))
    have n2 : pL3 n (m + 3 + 1) (ba L) 2 = pL3 n (m + 3) (ba L) 3 := by
      by_cases hs : L.length < 4
      · exact skip2 n _ (.inl (by rw [hsz]; exact hs))
      · exact skip2 n _ (.inr (pre_no (s := 4) (by omega) (by
          intro q
          rw [← hL] at q
          simp at q)))
    have e0 : pL3 n n (ba L) 1 = pL3 n (m + 2 + 1) (ba L) 3 := by
      rw [show pL3 n n (ba L) 1 = pL3 n (m + 4 + 1) (ba L) 1 from by rw [← hm]]
      exact n1.trans n2
    have hdr : (ba L).data.toList.drop 4 = 32 :: (Lib.itoa a ++ []) := by
      rw [ba_data, ← hL]
      rfl
    have tk := take3 n (m + 2) (T := ba L) (by rw [hsz]; exact h4) (pre_yes (s := 4) h4 (by rw [← hL]; rfl))
    obtain ⟨s1, q1, z1⟩ := nums_step n (m + 4) (by omega) hT (many := 1) (j := 0) (out := []) (by omega) (by omega) rfl a0 a1 hdr (.inl rfl)
    have s5 := nums_end n (m + 3) (T := ba L) (many := 1) (p := ((4 + 1 + (Lib.itoa a).length : Nat) : Int)) (out := [a])
    have e1 : spec_l20Nums n (ba L, 4, 1) = some ([a], ((4 + 1 + (Lib.itoa a).length : Nat) : Int), true) := nums_of (by
      rw [show spec_l20Nums_L3 n n (ba L, (4 : Int), (1 : Int), [], (0 : Int)) = spec_l20Nums_L3 n (m + 4 + 1) (ba L, (4 : Int), (1 : Int), [], (0 : Int)) from by rw [← hm]]
      exact s1.trans s5)
    have hend : 4 + 1 + (Lib.itoa a).length = (ba L).size := by
      have := List.drop_eq_nil_iff.1 q1
      have hs2 : (ba L).data.toList.length = (ba L).size := rfl
      omega
    have e2 : spec_DeedLine n ((3 : Int), ([a].getD ((0 : Int)).toNat 0), (0 : Int), (0 : Int), (0 : Int), (⟨#[]⟩ : ByteArray)) = some (ba L, true) := (spec_line n hn 3 a 0 0 0 (⟨#[]⟩ : ByteArray)).trans (congrArg some h)
    rw [e0, tk, e1, Option.bind_some]
    dsimp only
    rw [show inb (0 : Int) ([a] : List Int).length = true from rfl]
    simp only [Bool.not_true, cond_false, cond_true]
    rw [e2, Option.bind_some, hend, bne_self_eq_false, cond_false]
    dsimp only
    rw [strEq_self]
    rfl
  · have eT : body 4 a 0 0 0 (⟨#[]⟩ : ByteArray) = wShow ++ 32 :: (Lib.itoa a ++ []) := by
      unfold body
      simp
    rw [eT] at h ⊢
    have hl : (wShow ++ 32 :: (Lib.itoa a ++ [])).length ≤ 1048576 := by
      simp only [List.length_append, List.length_cons, List.length_nil]
      omega
    generalize hL : wShow ++ 32 :: (Lib.itoa a ++ []) = L at h hl ⊢
    have hT : (ba L).size ≤ 1048576 := by rw [ba_size]; exact hl
    have hsz : (ba L).size = L.length := ba_size L
    have h4 : 4 ≤ L.length := by
      rw [← hL]
      simp only [List.length_append, List.length_cons, List.length_nil]
      omega
    have n1 : pL3 n (m + 4 + 1) (ba L) 1 = pL3 n (m + 4) (ba L) 2 := by
      by_cases hs : L.length < 5
      · exact skip1 n _ (.inl (by rw [hsz]; exact hs))
      · exact skip1 n _ (.inr (pre_no (s := 5) (by omega) (by
          intro q
          rw [← hL] at q
          simp at q)))
    have n2 : pL3 n (m + 3 + 1) (ba L) 2 = pL3 n (m + 3) (ba L) 3 := by
      by_cases hs : L.length < 4
      · exact skip2 n _ (.inl (by rw [hsz]; exact hs))
      · exact skip2 n _ (.inr (pre_no (s := 4) (by omega) (by
          intro q
          rw [← hL] at q
          simp at q)))
    have n3 : pL3 n (m + 2 + 1) (ba L) 3 = pL3 n (m + 2) (ba L) 4 := by
      by_cases hs : L.length < 4
      · exact skip3 n _ (.inl (by rw [hsz]; exact hs))
      · exact skip3 n _ (.inr (pre_no (s := 4) (by omega) (by
          intro q
          rw [← hL] at q
          simp at q)))
    have e0 : pL3 n n (ba L) 1 = pL3 n (m + 1 + 1) (ba L) 4 := by
      rw [show pL3 n n (ba L) 1 = pL3 n (m + 4 + 1) (ba L) 1 from by rw [← hm]]
      exact n1.trans (n2.trans n3)
    have hdr : (ba L).data.toList.drop 4 = 32 :: (Lib.itoa a ++ []) := by
      rw [ba_data, ← hL]
      rfl
    have tk := take4 n (m + 1) (T := ba L) (by rw [hsz]; exact h4) (pre_yes (s := 4) h4 (by rw [← hL]; rfl))
    obtain ⟨s1, q1, z1⟩ := nums_step n (m + 4) (by omega) hT (many := 1) (j := 0) (out := []) (by omega) (by omega) rfl a0 a1 hdr (.inl rfl)
    have s5 := nums_end n (m + 3) (T := ba L) (many := 1) (p := ((4 + 1 + (Lib.itoa a).length : Nat) : Int)) (out := [a])
    have e1 : spec_l20Nums n (ba L, 4, 1) = some ([a], ((4 + 1 + (Lib.itoa a).length : Nat) : Int), true) := nums_of (by
      rw [show spec_l20Nums_L3 n n (ba L, (4 : Int), (1 : Int), [], (0 : Int)) = spec_l20Nums_L3 n (m + 4 + 1) (ba L, (4 : Int), (1 : Int), [], (0 : Int)) from by rw [← hm]]
      exact s1.trans s5)
    have hend : 4 + 1 + (Lib.itoa a).length = (ba L).size := by
      have := List.drop_eq_nil_iff.1 q1
      have hs2 : (ba L).data.toList.length = (ba L).size := rfl
      omega
    have e2 : spec_DeedLine n ((4 : Int), ([a].getD ((0 : Int)).toNat 0), (0 : Int), (0 : Int), (0 : Int), (⟨#[]⟩ : ByteArray)) = some (ba L, true) := (spec_line n hn 4 a 0 0 0 (⟨#[]⟩ : ByteArray)).trans (congrArg some h)
    rw [e0, tk, e1, Option.bind_some]
    dsimp only
    rw [show inb (0 : Int) ([a] : List Int).length = true from rfl]
    simp only [Bool.not_true, cond_false, cond_true]
    rw [e2, Option.bind_some, hend, bne_self_eq_false, cond_false]
    dsimp only
    rw [strEq_self]
    rfl
theorem parse_same (n : Nat) (hn : 3000 ≤ n) (T : ByteArray) (hT : T.size ≤ 1048576) : ∃ v, impl_ParseDeed n T = some v ∧ spec_ParseDeed n T = some v := by
  obtain ⟨v, h1, h2⟩ := impl_parse n hn T hT
  obtain ⟨w, g1, g2⟩ := spec_parse n hn T hT
  rcases h2 with rfl | ⟨k, a, b, c, d, t, rfl, hl⟩
  · rcases g2 with rfl | ⟨k, a, b, c, d, t, rfl, hl⟩
    · exact ⟨_, h1, g1⟩
    · rw [impl_back n hn hl] at h1
      exact ⟨_, impl_back n hn hl, g1⟩
  · exact ⟨_, h1, spec_back n hn hl⟩
theorem eqDeed_self (n : Nat) (k a b c d : Int) (t : ByteArray) : laws_eqDeed n (k, a, b, c, d, t, k, a, b, c, d, t) = some true := by
  unfold laws_eqDeed
  dsimp only
  rw [bne_self_eq_false, bne_self_eq_false, bne_self_eq_false, bne_self_eq_false, bne_self_eq_false, strEq_self]
  rfl
theorem parseDeed_law (T : ByteArray) : laws_FnExactParseDeed 3000 T = some true := by
  unfold laws_FnExactParseDeed
  by_cases hT : (T.size : Int) > 1048576
  · rw [decide_eq_true hT, cond_true]
  · rw [decide_eq_false hT, cond_false]
    obtain ⟨⟨k, a, b, c, d, t, ok⟩, h1, h2⟩ := parse_same 3000 (Nat.le_refl _) T (by omega)
    rw [h2, Option.bind_some, h1, Option.bind_some]
    dsimp only
    rw [eqDeed_self, Option.bind_some, Bool.not_true, cond_false, bne_self_eq_false, cond_false]
theorem parseDeed_law_td (x : TD (entys (parEns 0 (S3 0).pars))) (hx : FitsTD _ x) : laws_FnExactParseDeed 3000 x = some true := parseDeed_law x
end AM
end Go.Proofs.YtelkmjkclmjggaaDoor
