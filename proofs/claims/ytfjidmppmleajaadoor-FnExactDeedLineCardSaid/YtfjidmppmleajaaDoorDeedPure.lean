/- The program's DeedLine and the reference's, as plain functions, return the same line for every deed. No condition. -/
import Derived.Test.YtfjidmppmleajaaDoorPUa
import Derived.Test.YtfjidmppmleajaaDoorALd
namespace Go.Proofs.YtfjidmppmleajaaDoor
namespace AM
open Go
set_option linter.unusedSimpArgs false
set_option linter.unusedVariables false

/-! ### Numbers as text -/
theorem digits_step (u : Nat) (h : 10 ≤ u) : Lib.decDigits u = Lib.decDigits (u / 10) ++ [UInt8.ofNat (48 + u % 10)] := by
  rw [Lib.decDigits, dif_neg (by omega)]
theorem digits_one (u : Nat) (h : u < 10) : Lib.decDigits u = [UInt8.ofNat (48 + u)] := by
  rw [Lib.decDigits, dif_pos h]

theorem l4Num_round (n m u : Nat) (out : ByteArray) (h0 : 0 < u) (h1 : u ≤ 9223372036854775807) (hs : out.size ≤ 1000) :
    spec_l4Num_L4 n (m + 1) ((u : Int), out) = spec_l4Num_L4 n m (((u / 10 : Nat) : Int), ba [UInt8.ofNat (48 + u % 10)] ++ out) := by
  have e1 : ((u : Int)).tmod 10 = ((u % 10 : Nat) : Int) := by rw [Int.tmod_eq_emod_of_nonneg (by omega)]; omega
  have e2 : ((u : Int)).tdiv 10 = ((u / 10 : Nat) : Int) := by rw [Int.tdiv_eq_ediv_of_nonneg (by omega)]; omega
  have e3 : IntKind.i64.wrap ((48 : Int) + ((u % 10 : Nat) : Int)) = ((48 + u % 10 : Nat) : Int) := by rw [wrap_in (by omega) (by omega)]; omega
  have e4 : IntKind.u8.wrap (((48 + u % 10 : Nat)) : Int) = ((48 + u % 10 : Nat) : Int) := wrap8_in (by omega) (by omega)
  have e5 : bytesOf [(((48 + u % 10 : Nat)) : Int)] = ba [UInt8.ofNat (48 + u % 10)] := rfl
  have e6 : IntKind.i64.wrap (((u / 10 : Nat)) : Int) = ((u / 10 : Nat) : Int) := wrap_in (by omega) (by omega)
  have e7 : (decide ((u : Int) > (0 : Int))) = true := decide_eq_true (by omega)
  have e8 : strRoom (ba [UInt8.ofNat (48 + u % 10)]) out = true := strRoom_of (by rw [ba_size]; simp; omega)
  simp only [spec_l4Num_L4]
  rw [e1, e2, e3, e4, e5, e6, e7, e8]
  rfl

theorem l4Num_loop (n : Nat) : ∀ (k u m : Nat) (out : ByteArray), 0 < u → u < 10 ^ k → k < m → out.size + k ≤ 1000 → u ≤ 9223372036854775807 →
    spec_l4Num_L4 n m ((u : Int), out) = some (ba (Lib.decDigits u) ++ out)
  | 0, u, _, _, h0, h1, _, _, _ => by simp at h1; omega
  | k + 1, u, 0, _, _, _, h, _, _ => by omega
  | k + 1, u, m + 1, out, h0, h1, hm, hs, hu => by
    rw [l4Num_round n m u out h0 hu (by omega)]
    rcases Nat.lt_or_ge u 10 with q | q
    · obtain ⟨m', rfl⟩ : ∃ m', m = m' + 1 := ⟨m - 1, by omega⟩
      rw [show u / 10 = 0 by omega, digits_one u q, show u % 10 = u by omega]
      rfl
    · have hp : u / 10 < 10 ^ k := by rw [Nat.pow_succ] at h1; omega
      rw [l4Num_loop n k (u / 10) m _ (by omega) hp (by omega) (by rw [append_size, ba_size]; simp; omega) (by omega)]
      rw [digits_step u q, ← ba_append]
      congr 1
      rw [← ba_self out, ba_append, ba_append, ba_append, ba_append, List.append_assoc]

theorem l4Num_eq (n : Nat) (x : Int) (h0 : 0 ≤ x) (h1 : x ≤ 9223372036854775807) (hn : 20 ≤ n) : spec_l4Num n x = some (ba (Lib.itoa x)) := by
  unfold spec_l4Num Lib.itoa
  rw [if_neg (by omega)]
  obtain ⟨u, rfl⟩ := Int.eq_ofNat_of_zero_le h0
  rw [Int.toNat_natCast]
  rcases Nat.eq_zero_or_pos u with rfl | hu
  · rw [digits_one 0 (by omega)]; rfl
  · rw [decide_eq_false (by omega : ¬ (u : Int) ≤ 0)]
    show (spec_l4Num_L4 n n ((u : Int), _)).bind _ = _
    rw [l4Num_loop n 19 u n _ hu (by omega) (by omega) (by show (0 : Nat) + 19 ≤ 1000; omega) (by omega)]
    show some (ba (Lib.decDigits u) ++ ba []) = _
    rw [ba_append, List.append_nil]

theorem itoa_eq (x : Int) (h0 : -9223372036854775808 ≤ x) (h1 : x ≤ 9223372036854775807) : lib_itoa x = some (ba (Lib.itoa x)) := by
  unfold lib_itoa; rw [if_pos ⟨h0, h1⟩]; rfl

theorem digits_len : ∀ (k u : Nat), u < 10 ^ k → (Lib.decDigits u).length ≤ k + 1
  | 0, u, h => by rw [digits_one u (by simp at h; omega)]; simp
  | k + 1, u, h => by
    rcases Nat.lt_or_ge u 10 with q | q
    · rw [digits_one u q]; simp
    · rw [digits_step u q, List.length_append]
      have := digits_len k (u / 10) (by rw [Nat.pow_succ] at h; omega)
      simp; omega
theorem itoa_len {x : Int} (h0 : 0 ≤ x) (h1 : x ≤ 999) : (Lib.itoa x).length ≤ 4 := by
  unfold Lib.itoa
  rw [if_neg (by omega)]
  exact digits_len 3 _ (by omega)

/-! ### No line's end -/
theorem nl_loop (n : Nat) (k a b c d : Int) (t : ByteArray) (ht : t.size ≤ 2000) : ∀ (j m i : Nat), i + j = t.size → j < m →
    spec_DeedLine_L4 n m (k, a, b, c, d, t, (i : Int)) = if (10 : UInt8) ∈ t.data.toList.drop i then some (Sum.inl (⟨#[]⟩, false)) else some (Sum.inr (k, a, b, c, d, t))
  | 0, 0, _, _, h => by omega
  | j + 1, 0, _, _, h => by omega
  | 0, m + 1, i, h, _ => by
    have hd : t.data.toList.drop i = [] := List.drop_eq_nil_of_le (by rw [← size_data]; omega)
    rw [hd, if_neg (by simp)]
    simp only [spec_DeedLine_L4]
    rw [decide_eq_false (by omega : ¬ (i : Int) < (t.size : Int))]
    rfl
  | j + 1, m + 1, i, h, hm => by
    have hi : i < t.data.toList.length := by rw [← size_data]; omega
    have hd : t.data.toList.drop i = t.data.toList[i] :: t.data.toList.drop (i + 1) := List.drop_eq_getElem_cons hi
    have ih := nl_loop n k a b c d t ht j m (i + 1) (by omega) (by omega)
    simp only [spec_DeedLine_L4]
    rw [decide_eq_true (by omega : (i : Int) < (t.size : Int)), show inb (i : Int) t.size = true from decide_eq_true (by omega), bt_eq hi, show ((10 : Int)) = ((10 : Nat) : Int) from rfl, u8_eq (by omega), wrap_in (by omega) (by omega), hd]
    simp only [cond_true, List.mem_cons]
    by_cases q : t.data.toList[i] = UInt8.ofNat 10
    · rw [decide_eq_true q, if_pos (.inl q.symm)]; rfl
    · rw [decide_eq_false q]
      simp only [cond_false]
      rw [show (i : Int) + 1 = ((i + 1 : Nat) : Int) by omega, ih]
      by_cases q2 : (10 : UInt8) ∈ t.data.toList.drop (i + 1)
      · rw [if_pos q2, if_pos (.inr q2)]
      · rw [if_neg q2, if_neg (fun h => h.elim (fun h => q h.symm) q2)]

/-! ### The line -/
/-- What a deed's line is, of one that has one. -/
def body (k a b c d : Int) (t : ByteArray) : List UInt8 :=
  if k = 1 then [115, 116, 97, 114, 116] ++ [32] ++ Lib.itoa a ++ [32] ++ Lib.itoa b ++ [32] ++ Lib.itoa c ++ [32] ++ Lib.itoa d
  else if k = 2 then [116, 97, 107, 101] ++ [32] ++ Lib.itoa a ++ [32] ++ t.data.toList
  else if k = 3 then [103, 105, 118, 101] ++ [32] ++ Lib.itoa a
  else [115, 104, 111, 119] ++ [32] ++ Lib.itoa a

def formed (k a b c d : Int) (t : ByteArray) : Bool :=
  if k = 1 then decide (t = ⟨#[]⟩) else if k = 2 then decide (b = 0 ∧ c = 0 ∧ d = 0) else if k = 3 ∨ k = 4 then decide (b = 0 ∧ c = 0 ∧ d = 0 ∧ t = ⟨#[]⟩) else false

theorem spec_formed (n : Nat) (k a b c d : Int) (t : ByteArray) : spec_l14Deed n (k, a, b, c, d, t) = some (formed k a b c d t) := by
  unfold spec_l14Deed formed
  simp only [beq_self_eq_true, Bool.true_and, Bool.and_true, strEq_self]
  by_cases h1 : k = 1
  · rw [if_pos h1, beq_iff_eq.2 h1]; rfl
  · rw [if_neg h1, beq_eq_false_iff_ne.2 h1]
    by_cases h2 : k = 2
    · rw [if_pos h2, beq_iff_eq.2 h2]
      simp only [cond_false, cond_true, Option.some.injEq]
      rw [Bool.eq_iff_iff]; simp
    · rw [if_neg h2, beq_eq_false_iff_ne.2 h2]
      by_cases h3 : k = 3
      · rw [if_pos (.inl h3), beq_iff_eq.2 h3]
        simp only [cond_false, cond_true, Option.some.injEq]
        rw [Bool.eq_iff_iff]; simp [strEq_iff]
      · by_cases h4 : k = 4
        · rw [if_pos (.inr h4), beq_eq_false_iff_ne.2 h3, beq_iff_eq.2 h4]
          simp only [cond_false, cond_true, Option.some.injEq]
          rw [Bool.eq_iff_iff]; simp [strEq_iff]
        · rw [if_neg (by omega), beq_eq_false_iff_ne.2 h3, beq_eq_false_iff_ne.2 h4]; rfl

theorem impl_formed (n : Nat) (k a b c d : Int) (t : ByteArray) : impl_deedOk n (k, a, b, c, d, t) = some (formed k a b c d t) := by
  unfold impl_deedOk formed
  have three : (cond (b == (0 : Int)) (cond (c == (0 : Int)) (some (d == (0 : Int))) (some false)) (some false)) = some (decide (b = 0 ∧ c = 0 ∧ d = 0)) := by
    by_cases hb : b = 0 <;> by_cases hc : c = 0 <;> by_cases hd : d = 0 <;> simp [ibeq, hb, hc, hd]
  have four : (cond (b == (0 : Int)) (cond (c == (0 : Int)) (cond (d == (0 : Int)) (some (strEq t (⟨#[]⟩ : ByteArray))) (some false)) (some false)) (some false)) = some (decide (b = 0 ∧ c = 0 ∧ d = 0 ∧ t = ⟨#[]⟩)) := by
    by_cases hb : b = 0 <;> by_cases hc : c = 0 <;> by_cases hd : d = 0 <;> simp [ibeq, hb, hc, hd, strEq]
  simp only [three, four]
  by_cases h1 : k = 1
  · rw [if_pos h1, beq_iff_eq.2 h1]; rfl
  · rw [if_neg h1, beq_eq_false_iff_ne.2 h1]
    by_cases h2 : k = 2
    · rw [if_pos h2, beq_iff_eq.2 h2]; rfl
    · rw [if_neg h2, beq_eq_false_iff_ne.2 h2]
      by_cases h3 : k = 3
      · rw [if_pos (.inl h3), beq_iff_eq.2 h3]; rfl
      · by_cases h4 : k = 4
        · rw [if_pos (.inr h4), beq_eq_false_iff_ne.2 h3, beq_iff_eq.2 h4]; rfl
        · rw [if_neg (by omega), beq_eq_false_iff_ne.2 h3, beq_eq_false_iff_ne.2 h4]; rfl

theorem formed_kind {k a b c d : Int} {t : ByteArray} (h : formed k a b c d t = true) : (k = 1 ∧ t = ⟨#[]⟩) ∨ (k = 2 ∧ b = 0 ∧ c = 0 ∧ d = 0) ∨ (k = 3 ∧ b = 0 ∧ c = 0 ∧ d = 0 ∧ t = ⟨#[]⟩) ∨ (k = 4 ∧ b = 0 ∧ c = 0 ∧ d = 0 ∧ t = ⟨#[]⟩) := by
  unfold formed at h
  split at h
  · rename_i q; exact .inl ⟨q, of_decide_eq_true h⟩
  · split at h
    · rename_i q; exact .inr (.inl ⟨q, of_decide_eq_true h⟩)
    · split at h
      · rename_i q
        rcases q with q | q
        · exact .inr (.inr (.inl ⟨q, of_decide_eq_true h⟩))
        · exact .inr (.inr (.inr ⟨q, of_decide_eq_true h⟩))
      · cases h

def inR (x : Int) : Bool := decide (0 ≤ x ∧ x ≤ 999)
theorem spec_in (n : Nat) (x : Int) : spec_l1In n (x, 0, 999) = some (inR x) := by
  unfold spec_l1In inR
  by_cases h : x ≥ 0 <;> by_cases h2 : x ≤ 999 <;> simp [h, h2]
theorem impl_in (n : Nat) (x : Int) : impl_inRange n (x, 0, 999) = some (inR x) := by
  unfold impl_inRange inR
  by_cases h : x ≥ 0 <;> by_cases h2 : x ≤ 999 <;> simp [h, h2]

def good (k a b c d : Int) (t : ByteArray) : Bool := formed k a b c d t && (decide (t.size ≤ 2000) && ((inR a && (inR b && (inR c && inR d))) && !(t.data.toList.contains 10)))
def lineOf (k a b c d : Int) (t : ByteArray) : ByteArray × Bool := if good k a b c d t = true then (ba (body k a b c d t), true) else (⟨#[]⟩, false)


theorem room_of {a b : ByteArray} {n m : Nat} (h1 : a.size ≤ n) (h2 : b.size ≤ m) (h : n + m ≤ 4611686018427387904) : strRoom a b = true := strRoom_of (by omega)

theorem spec_line (n : Nat) (hn : 3000 ≤ n) (k a b c d : Int) (t : ByteArray) : spec_DeedLine n (k, a, b, c, d, t) = some (lineOf k a b c d t) := by
  unfold spec_DeedLine lineOf good
  simp only [spec_formed, spec_in, Option.bind_some]
  cases hf : formed k a b c d t with
  | false => rfl
  | true =>
    by_cases hs : t.size ≤ 2000
    · rw [decide_eq_true hs, decide_eq_false (by omega : ¬ ((t.size : Int) > 2000))]
      cases ha : inR a with
      | false => rfl
      | true =>
        cases hb : inR b with
        | false => rfl
        | true =>
          cases hc : inR c with
          | false => rfl
          | true =>
            cases hd : inR d with
            | false => rfl
            | true =>
              have ra := of_decide_eq_true ha
              have rb := of_decide_eq_true hb
              have rc := of_decide_eq_true hc
              have rd := of_decide_eq_true hd
              have hl := nl_loop n k a b c d t hs t.size n 0 (by omega) (by omega)
              rw [show ((0 : Nat) : Int) = (0 : Int) from rfl] at hl
              simp only [Bool.not_true, cond_false, Bool.and_true, Bool.true_and, Bool.true_and]
              rw [hl]
              rw [List.drop_zero]
              by_cases q : (10 : UInt8) ∈ t.data.toList
              · rw [if_pos q, if_neg (by simpa using q)]; rfl
              · rw [if_neg q, if_pos (by simpa using q)]
                have na := l4Num_eq n a ra.1 (by omega) (by omega)
                have nb := l4Num_eq n b rb.1 (by omega) (by omega)
                have nc := l4Num_eq n c rc.1 (by omega) (by omega)
                have nd := l4Num_eq n d rd.1 (by omega) (by omega)
                have la := itoa_len ra.1 ra.2
                have lb := itoa_len rb.1 rb.2
                have lc := itoa_len rc.1 rc.2
                have ld := itoa_len rd.1 rd.2
                have w1 : (⟨#[32]⟩ : ByteArray) = ba [32] := rfl
                have word : ∀ wd : List UInt8, wd.length = 4 ∨ wd.length = 5 → spec_l20Word n k = some (ba wd) → (k = 1 → wd = [115, 116, 97, 114, 116]) → (k = 2 → wd = [116, 97, 107, 101]) → (k = 3 → wd = [103, 105, 118, 101]) → (k = 4 → wd = [115, 104, 111, 119]) → (k = 1 ∨ k = 2 ∨ k = 3 ∨ k = 4) → (spec_l20Word n k).bind (fun r9 => (cond (strRoom r9 (⟨#[32]⟩ : ByteArray)) ((spec_l4Num n a).bind fun r10 => (cond (strRoom (r9 ++ (⟨#[32]⟩ : ByteArray)) r10) (cond (k == (1 : Int)) (cond (strRoom ((r9 ++ (⟨#[32]⟩ : ByteArray)) ++ r10) (⟨#[32]⟩ : ByteArray)) ((spec_l4Num n b).bind fun r11 => (cond (strRoom (((r9 ++ (⟨#[32]⟩ : ByteArray)) ++ r10) ++ (⟨#[32]⟩ : ByteArray)) r11) (cond (strRoom ((((r9 ++ (⟨#[32]⟩ : ByteArray)) ++ r10) ++ (⟨#[32]⟩ : ByteArray)) ++ r11) (⟨#[32]⟩ : ByteArray)) ((spec_l4Num n c).bind fun r12 => (cond (strRoom (((((r9 ++ (⟨#[32]⟩ : ByteArray)) ++ r10) ++ (⟨#[32]⟩ : ByteArray)) ++ r11) ++ (⟨#[32]⟩ : ByteArray)) r12) (cond (strRoom ((((((r9 ++ (⟨#[32]⟩ : ByteArray)) ++ r10) ++ (⟨#[32]⟩ : ByteArray)) ++ r11) ++ (⟨#[32]⟩ : ByteArray)) ++ r12) (⟨#[32]⟩ : ByteArray)) ((spec_l4Num n d).bind fun r13 => (cond (strRoom (((((((r9 ++ (⟨#[32]⟩ : ByteArray)) ++ r10) ++ (⟨#[32]⟩ : ByteArray)) ++ r11) ++ (⟨#[32]⟩ : ByteArray)) ++ r12) ++ (⟨#[32]⟩ : ByteArray)) r13) (some (((((((((r9 ++ (⟨#[32]⟩ : ByteArray)) ++ r10) ++ (⟨#[32]⟩ : ByteArray)) ++ r11) ++ (⟨#[32]⟩ : ByteArray)) ++ r12) ++ (⟨#[32]⟩ : ByteArray)) ++ r13), true)) none)) none) none)) none) none)) none) (cond (k == (2 : Int)) (cond (strRoom ((r9 ++ (⟨#[32]⟩ : ByteArray)) ++ r10) (⟨#[32]⟩ : ByteArray)) (cond (strRoom (((r9 ++ (⟨#[32]⟩ : ByteArray)) ++ r10) ++ (⟨#[32]⟩ : ByteArray)) t) (some (((((r9 ++ (⟨#[32]⟩ : ByteArray)) ++ r10) ++ (⟨#[32]⟩ : ByteArray)) ++ t), true)) none) none) (some (((r9 ++ (⟨#[32]⟩ : ByteArray)) ++ r10), true)))) none)) none)) = some (ba (body k a b c d t), true) := by
                  intro wd hw hk k1 k2 k3 k4 hor
                  have hst := size_data t
                  rw [hk]
                  simp only [Option.bind_some, na, nb, nc, nd, w1, ba_append]
                  rw [← ba_self t]
                  simp only [ba_append]
                  have room : ∀ x y : List UInt8, x.length + y.length ≤ 3000 → strRoom (ba x) (ba y) = true := fun x y h => strRoom_of (by rw [ba_size, ba_size]; omega)
                  rw [room wd [32] (by simp; omega)]
                  simp only [cond_true]
                  rw [room _ (Lib.itoa a) (by simp; omega)]
                  simp only [cond_true]
                  unfold body
                  by_cases h1 : k = 1
                  · rw [if_pos h1, ibeq, decide_eq_true h1, ← k1 h1]
                    simp only [cond_true]
                    rw [room _ [32] (by simp; omega), room _ (Lib.itoa b) (by simp; omega), room _ [32] (by simp; omega), room _ (Lib.itoa c) (by simp; omega), room _ [32] (by simp; omega), room _ (Lib.itoa d) (by simp; omega)]
                    rfl
                  · rw [if_neg h1, ibeq, decide_eq_false h1]
                    simp only [cond_false]
                    by_cases h2 : k = 2
                    · rw [if_pos h2, ibeq, decide_eq_true h2, ← k2 h2]
                      simp only [cond_true]
                      rw [room _ [32] (by simp; omega), room _ t.data.toList (by simp only [List.length_append, List.length_cons, List.length_nil]; omega)]
                      simp only [cond_true, ba_data]
                    · rw [if_neg h2, ibeq, decide_eq_false h2]
                      simp only [cond_false]
                      by_cases h3 : k = 3
                      · rw [if_pos h3, ← k3 h3]
                      · rw [if_neg h3, ← k4 (by omega)]
                rcases formed_kind hf with h | h | h | h
                · obtain ⟨rfl, h⟩ := h
                  exact word [115, 116, 97, 114, 116] (.inr rfl) rfl (fun _ => rfl) (fun h => by omega) (fun h => by omega) (fun h => by omega) (.inl rfl)
                · obtain ⟨rfl, h⟩ := h
                  exact word [116, 97, 107, 101] (.inl rfl) rfl (fun h => by omega) (fun _ => rfl) (fun h => by omega) (fun h => by omega) (.inr (.inl rfl))
                · obtain ⟨rfl, h⟩ := h
                  exact word [103, 105, 118, 101] (.inl rfl) rfl (fun h => by omega) (fun h => by omega) (fun _ => rfl) (fun h => by omega) (.inr (.inr (.inl rfl)))
                · obtain ⟨rfl, h⟩ := h
                  exact word [115, 104, 111, 119] (.inl rfl) rfl (fun h => by omega) (fun h => by omega) (fun h => by omega) (fun _ => rfl) (.inr (.inr (.inr rfl)))
    · rw [decide_eq_false hs, decide_eq_true (by omega : ((t.size : Int) > 2000))]
      rfl

def nums (xs : List Int) : List UInt8 := xs.flatMap fun x => 32 :: Lib.itoa x
theorem num_loop (n : Nat) (k a b c d : Int) (t : ByteArray) (xs : List Int) (hx : xs.length ≤ 4) : ∀ (j m i : Nat) (l : List UInt8), i + j = xs.length → j < m → l.length + 5 * j ≤ 100 →
    impl_DeedLine_L5 n m (k, a, b, c, d, t, ba l, xs, (xs.length : Int), (i : Int)) = bif (xs.drop i).all inR then some (Sum.inr (k, a, b, c, d, t, ba (l ++ nums (xs.drop i)))) else some (Sum.inl (⟨#[]⟩, false))
  | 0, 0, _, _, _, h, _ => by omega
  | j + 1, 0, _, _, _, h, _ => by omega
  | 0, m + 1, i, l, h, _, _ => by
    have hd : xs.drop i = [] := List.drop_eq_nil_of_le (by omega)
    rw [hd]
    simp only [impl_DeedLine_L5]
    rw [decide_eq_false (by omega : ¬ (i : Int) < (xs.length : Int))]
    simp [nums]
  | j + 1, m + 1, i, l, h, hm, hl => by
    have hi : i < xs.length := by omega
    have hd : xs.drop i = xs[i] :: xs.drop (i + 1) := List.drop_eq_getElem_cons hi
    have hg : xs.getD (i : Int).toNat 0 = xs[i] := by rw [Int.toNat_natCast, List.getD_eq_getElem?_getD, List.getElem?_eq_getElem hi]; rfl
    simp only [impl_DeedLine_L5]
    rw [decide_eq_true (by omega : (i : Int) < (xs.length : Int)), show inb (i : Int) xs.length = true from decide_eq_true (by omega), hg, impl_in, hd]
    simp only [cond_true, Option.bind_some, List.all_cons]
    rcases Bool.eq_false_or_eq_true (inR xs[i]) with q | q
    case inr => rw [q]; rfl
    case inl =>
      have r := of_decide_eq_true q
      rw [q]
      have hlen := itoa_len r.1 r.2
      rw [itoa_eq _ (by omega) (by omega)]
      simp only [Bool.not_true, cond_false, Option.bind_some, Bool.true_and]
      rw [show (⟨#[32]⟩ : ByteArray) = ba [32] from rfl, ba_append]
      rw [strRoom_of (by rw [ba_size, ba_size]; simp; omega), strRoom_of (by rw [ba_size, ba_size]; simp; omega), ba_append, wrap_in (by omega) (by omega), show (i : Int) + 1 = ((i + 1 : Nat) : Int) by omega]
      simp only [cond_true]
      rw [num_loop n k a b c d t xs hx j m (i + 1) (l ++ ([32] ++ Lib.itoa xs[i])) (by omega) (by omega) (by simp; omega)]
      have : l ++ ([32] ++ Lib.itoa xs[i]) ++ nums (xs.drop (i + 1)) = l ++ nums (xs[i] :: xs.drop (i + 1)) := by simp only [nums, List.flatMap_cons, List.append_assoc, List.cons_append, List.nil_append]
      rw [this]

theorem impl_line (n : Nat) (hn : 3000 ≤ n) (k a b c d : Int) (t : ByteArray) : impl_DeedLine n (k, a, b, c, d, t) = some (lineOf k a b c d t) := by
  unfold impl_DeedLine lineOf good
  simp only [impl_formed, Option.bind_some]
  cases hf : formed k a b c d t with
  | false => rfl
  | true =>
    by_cases hs : t.size ≤ 2000
    · rw [decide_eq_true hs, decide_eq_false (by omega : ¬ ((t.size : Int) > 2000))]
      have hc : lib_contains (t, (⟨#[10]⟩ : ByteArray)) = some (t.data.toList.contains 10) := by
        unfold lib_contains
        rw [if_pos (by show t.size < _; omega)]
        exact congrArg some (contains_byte _ 10)
      simp only [Bool.not_true, cond_false, Bool.true_and]
      rw [hc]
      simp only [Option.bind_some]
      cases hq : t.data.toList.contains 10 with
      | true => simp
      | false =>
        simp only [cond_false, Bool.not_false, Bool.and_true]
        have z : inR 0 = true := rfl
        have hst := size_data t
        have go : ∀ (wd : List UInt8) (xs : List Int), wd.length ≤ 5 → xs.length ≤ 4 → impl_deedNumbers n (k, a, b, c, d, t) = some (ba wd, xs) → (inR a && (inR b && (inR c && inR d))) = xs.all inR → (xs.all inR = true → (if k = 2 then wd ++ nums xs ++ [32] ++ t.data.toList else wd ++ nums xs) = body k a b c d t) →
            (impl_deedNumbers n (k, a, b, c, d, t)).bind (fun r3 => ((impl_DeedLine_L5 n n (k, a, b, c, d, t, r3.1, r3.2, ((r3.2).length : Int), (0 : Int))).bind fun e6 => (match e6 with | Sum.inl a7 => (some (a7.1, a7.2)) | Sum.inr b8 => (cond (b8.1 == (2 : Int)) (cond (strRoom (⟨#[32]⟩ : ByteArray) b8.2.2.2.2.2.1) (cond (strRoom b8.2.2.2.2.2.2 ((⟨#[32]⟩ : ByteArray) ++ b8.2.2.2.2.2.1)) (some ((b8.2.2.2.2.2.2 ++ ((⟨#[32]⟩ : ByteArray) ++ b8.2.2.2.2.2.1)), true)) none) none) (some (b8.2.2.2.2.2.2, true)))))) =
            some (if (inR a && (inR b && (inR c && inR d))) = true then (ba (body k a b c d t), true) else (⟨#[]⟩, false)) := by
          intro wd xs hw hx he hall hb
          rw [he]
          simp only [Option.bind_some]
          have hl := num_loop n k a b c d t xs hx xs.length n 0 wd (by omega) (by omega) (by omega)
          rw [show ((0 : Nat) : Int) = (0 : Int) from rfl] at hl
          rw [hl, List.drop_zero, hall]
          cases qa : xs.all inR with
          | false => rfl
          | true =>
            have hb := hb qa
            have hnl : (nums xs).length ≤ 20 := by
              have : ∀ l : List Int, l.all inR = true → (nums l).length ≤ 5 * l.length := by
                intro l
                induction l with
                | nil => intro _; simp [nums]
                | cons x l ih =>
                  intro h
                  rw [List.all_cons, Bool.and_eq_true] at h
                  have r := of_decide_eq_true h.1
                  have := itoa_len r.1 r.2
                  have := ih h.2
                  simp [nums] at *
                  omega
              have := this xs qa
              omega
            simp only [if_pos, Option.bind_some, cond_true]
            by_cases h2 : k = 2
            · rw [if_pos h2] at hb
              rw [ibeq, decide_eq_true h2]
              simp only [cond_true]
              rw [show (⟨#[32]⟩ : ByteArray) = ba [32] from rfl]
              rw [strRoom_of (by rw [ba_size]; simp; omega), strRoom_of (by rw [append_size, ba_size, ba_size]; simp; omega)]
              simp only [cond_true]
              rw [← hb]
              congr 2
              rw [← ba_self t, ba_append, ba_append, ba_data]
              simp
            · rw [if_neg h2] at hb
              rw [ibeq, decide_eq_false h2, ← hb]
              rfl
        rcases formed_kind hf with h | h | h | h
        · obtain ⟨rfl, h⟩ := h
          exact go [115, 116, 97, 114, 116] [a, b, c, d] (by simp) (by simp) rfl (by simp) (fun _ => by simp [body, nums])
        · obtain ⟨rfl, rfl, rfl, rfl⟩ := h
          exact go [116, 97, 107, 101] [a] (by simp) (by simp) rfl (by simp [z]) (fun _ => by simp [body, nums])
        · obtain ⟨rfl, rfl, rfl, rfl, h⟩ := h
          exact go [103, 105, 118, 101] [a] (by simp) (by simp) rfl (by simp [z]) (fun _ => by simp [body, nums])
        · obtain ⟨rfl, rfl, rfl, rfl, h⟩ := h
          exact go [115, 104, 111, 119] [a] (by simp) (by simp) rfl (by simp [z]) (fun _ => by simp [body, nums])
    · rw [decide_eq_false hs, decide_eq_true (by omega : ((t.size : Int) > 2000))]
      rfl

/-- THE LAW. -/
theorem deedLine_law (k a b c d : Int) (t : ByteArray) : laws_FnExactDeedLine 3000 (k, a, b, c, d, t) = some true := by
  unfold laws_FnExactDeedLine laws_szDeed laws_toDeed
  simp only [Option.bind_some]
  rw [spec_line 3000 (by omega), impl_line 3000 (by omega)]
  simp only [Option.bind_some, strEq_self, Bool.not_true, cond_false, bne_self_eq_false]
  cases decide (IntKind.i64.wrap (1048576 - (t.size : Int)) < 0) <;> simp
end AM
end Go.Proofs.YtfjidmppmleajaaDoor
