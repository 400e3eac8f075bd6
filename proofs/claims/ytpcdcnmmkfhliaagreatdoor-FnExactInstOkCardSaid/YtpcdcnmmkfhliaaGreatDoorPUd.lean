/- A counter of keys, as the program lays it: what stands at a key behind a put. No condition. -/
import Derived.Test.YtpcdcnmmkfhliaaGreatDoorPUc
import Derived.Test.YtpcdcnmmkfhliaaGreatDoorALp
namespace Go.Proofs.YtpcdcnmmkfhliaaGreatDoor
namespace AM
open Go
set_option linter.unusedVariables false
set_option linter.unusedSimpArgs false

theorem eqv_self : ∀ (t : Ty), t.hasSl = false → ∀ x : t.den, t.eqv x x = true
  | .int _, _, x => by simp [Ty.eqv]
  | .bool, _, x => by simp [Ty.eqv]
  | .str, _, x => decide_eq_true rfl
  | .sl _, h, _ => by cases h
  | .pr a b, h, x => by
    have h : (a.hasSl || b.hasSl) = false := h
    rw [Bool.or_eq_false_iff] at h
    show (a.eqv x.1 x.1 && b.eqv x.2 x.2) = true
    rw [eqv_self a h.1, eqv_self b h.2]; rfl

theorem mfind_len {kt : Ty} {k : kt.den} {m : List (kt.den × Int)} {j : Nat} {v : Int} (h : mfind kt k m 0 = some (j, v)) : j < m.length := by
  obtain ⟨_, h2⟩ := mfind_spec h
  exact (List.getElem?_eq_some_iff.1 h2).1

theorem mset_set {α : Type} {y : Int} {k : α} {c : Int} : ∀ {m : List (α × Int)} {j : Nat}, j < m.length → msetG y (m.set j (k, c)) j = m.set j (k, y)
  | [], _, h => by simp at h
  | p :: r, 0, _ => rfl
  | p :: r, j + 1, h => by
    show p :: msetG y (r.set j (k, c)) j = p :: r.set j (k, y)
    rw [mset_set (by simpa using h)]
theorem mset_push {α : Type} {y : Int} {k : α} {c : Int} : ∀ {m : List (α × Int)}, msetG y (m ++ [(k, c)]) m.length = m ++ [(k, y)]
  | [] => rfl
  | p :: r => by
    show p :: msetG y (r ++ [(k, c)]) r.length = p :: (r ++ [(k, y)])
    rw [mset_push]

/-- To put an entry and then to write its value is to put the value. -/
theorem mset_mput {kt : Ty} {k : kt.den} {c y : Int} {m : List (kt.den × Int)} : mset (mpos kt k m) y (mput kt k c m) = mput kt k y m := by
  unfold mset mpos mput
  cases h : mfind kt k m 0 with
  | some p =>
    obtain ⟨j, v⟩ := p
    dsimp only
    rw [Int.toNat_natCast]
    exact mset_set (mfind_len h)
  | none =>
    dsimp only
    rw [Int.toNat_natCast]
    exact mset_push
theorem mpos_in {kt : Ty} {k : kt.den} {c : Int} {m : List (kt.den × Int)} : inb (mpos kt k m) (mput kt k c m).length = true := by
  unfold mpos mput
  cases h : mfind kt k m 0 with
  | some p =>
    obtain ⟨j, v⟩ := p
    dsimp only
    rw [List.length_set]
    exact inb_nat (mfind_len h)
  | none =>
    dsimp only
    rw [List.length_append]
    exact inb_nat (by simp)

theorem mfind_set_ne {kt : Ty} {k k' : kt.den} {x : Int} (hne : kt.eqv k' k = false) : ∀ {m : List (kt.den × Int)} {i j : Nat} {v : Int}, mfind kt k m i = some (j, v) → mfind kt k' (m.set (j - i) (k, x)) i = mfind kt k' m i
  | [], _, _, _, h => by cases h
  | p :: r, i, j, v, h => by
    unfold mfind at h
    cases q : kt.eqv k p.1 with
    | true =>
      rw [q] at h
      obtain ⟨rfl, rfl⟩ := Prod.mk.inj (Option.some.inj h)
      rw [Nat.sub_self, List.set_cons_zero]
      have := eqv_eq kt q
      unfold mfind
      rw [hne, ← this, hne]
      rfl
    | false =>
      rw [q] at h
      have h : mfind kt k r (i + 1) = some (j, v) := h
      obtain ⟨h1, _⟩ := mfind_spec h
      rw [show j - i = (j - (i + 1)) + 1 by omega, List.set_cons_succ]
      unfold mfind
      rw [mfind_set_ne hne h]
theorem mfind_push_ne {kt : Ty} {k k' : kt.den} {x : Int} (hne : kt.eqv k' k = false) : ∀ {m : List (kt.den × Int)} {i : Nat}, mfind kt k' (m ++ [(k, x)]) i = mfind kt k' m i
  | [], i => by
    show mfind kt k' [(k, x)] i = _
    unfold mfind
    rw [hne]; rfl
  | p :: r, i => by
    show mfind kt k' (p :: (r ++ [(k, x)])) i = _
    unfold mfind
    rw [mfind_push_ne hne]
theorem mget_mput_ne {kt : Ty} {k k' : kt.den} {x : Int} {m : List (kt.den × Int)} (hne : kt.eqv k' k = false) : mget kt k' (mput kt k x m) = mget kt k' m := by
  unfold mget mput
  cases h : mfind kt k m 0 with
  | some p =>
    obtain ⟨j, v⟩ := p
    have := mfind_set_ne (x := x) hne h
    rw [Nat.sub_zero] at this
    simp only [this]
  | none => simp only [mfind_push_ne hne]
end AM
end Go.Proofs.YtpcdcnmmkfhliaaGreatDoor
