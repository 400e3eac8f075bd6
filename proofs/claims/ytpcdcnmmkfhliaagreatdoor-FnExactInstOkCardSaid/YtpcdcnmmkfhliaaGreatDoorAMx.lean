/- How what comes in reads as plain data. No condition. -/
import Derived.Test.YtpcdcnmmkfhliaaGreatDoorAMu
import Derived.ChangeArms
import Derived.Carry
import Derived.ChangeShapes
namespace Go.Proofs.YtpcdcnmmkfhliaaGreatDoor
namespace AM
open Go
set_option linter.unusedSimpArgs false
set_option linter.unusedVariables false

/-- The fields of a struct, one behind the other from a place on. -/
def tyFs (sz : TypeId → Nat) (r : TypeId → Option Ty) : Nat → List Field → Option Ty
  | _, [] => none
  | off, [f] => match r f.type with
    | some t => bif Nat.beq f.offset off && Nat.beq (sz f.type) t.sz then some t else none
    | none => none
  | off, f :: g :: l => match r f.type with
    | some t => bif Nat.beq f.offset off && Nat.beq (sz f.type) t.sz then (match tyFs sz r (off + t.sz) (g :: l) with
      | some u => some (.pr t u)
      | none => none) else none
    | none => none
def tyOf (P : Program) : Nat → TypeId → Option Ty
  | 0, _ => none
  | n + 1, T => match P.underlying T with
    | some (.int k) => some (.int k)
    | some .bool => some .bool
    | some .string => some .str
    | some (.slice e) => match tyOf P n e with
      | some t => bif Nat.beq (P.cellsOf e) t.sz then some (.sl t) else none
      | none => none
    | some (.struct fs) => match tyFs P.cellsOf (tyOf P n) 0 fs.toList with
      | some t => bif Nat.beq (P.cellsOf T) t.sz then some t else none
      | none => none
    | _ => none

/-- Each number is one of its kind, nothing is longer than a length can be. -/
def Fits : (t : Ty) → t.den → Prop
  | .int k, n => (Lit.int k n).wf = true
  | .bool, _ => True
  | .str, s => ByteArray.size s ≤ maxLen
  | .sl t, xs => List.length xs ≤ maxLen ∧ ∀ x ∈ (show List t.den from xs), Fits t x
  | .pr a b, x => Fits a x.1 ∧ Fits b x.2

section
variable {H : Type} {enc : TypeId × Value → H} {P : Program} {w : World} {sp : Nat → Bool} {held : Bool}

theorem cells?_at {a : Addr} {n : Nat} {cs : List Value} (h : w.cells? 0 a n = some cs) : cs.length = n ∧ ∀ j u, cs[j]? = some u → w.cell? (a.add j) = some u := by
  unfold World.cells? at h
  split at h
  · have hl := mapM_some_length h
    refine ⟨by simpa using hl, fun j u hu => ?_⟩
    have hj : j < n := by
      rcases Nat.lt_or_ge j n with q | q
      · exact q
      · rw [List.getElem?_eq_none (by simp at hl; omega)] at hu; cases hu
    have := mapM_some_get h j j (by simp [hj])
    rw [this, hu]
  · cases h

theorem cell_spot {a : Addr} {u : Value} (h : w.cell? a = some u) : a = ⟨a.block, a.off, none⟩ ∧ a.block < w.heap.size := by
  have hspot : a.spot = none := by
    cases hsp : a.spot with
    | none => rfl
    | some s =>
      simp only [World.cell?] at h
      split at h
      · simp [hsp] at h
      · cases h
  exact ⟨by cases a; simp_all, World.block_lt_of_cell? w a h⟩
theorem add_plain (b off j : Nat) : (⟨b, off, none⟩ : Addr).add j = ⟨b, off + j, none⟩ := by
  unfold Addr.add
  by_cases h : j = 0
  · subst h; rfl
  · rw [if_neg h]

def Read (w : World) (t : Ty) (cs : List Value) : Prop := ∃ d : t.den, Rep (fun b => b < w.heap.size) w t d cs ∧ Fits t d

theorem choose_list {α β : Type} {R : Nat → α → β → Prop} : ∀ {n : Nat}, (∀ i, i < n → ∃ a b, R i a b) → ∃ (xs : List α) (ys : List β), xs.length = n ∧ ys.length = n ∧ ∀ (i : Nat) (x : α) (y : β), xs[i]? = some x → ys[i]? = some y → R i x y
  | 0, _ => ⟨[], [], rfl, rfl, fun _ _ _ h => by cases h⟩
  | n + 1, h => by
    obtain ⟨xs, ys, h1, h2, h3⟩ := choose_list (n := n) (fun i hi => h i (by omega))
    obtain ⟨a, b, hab⟩ := h n (by omega)
    refine ⟨xs ++ [a], ys ++ [b], by simp [h1], by simp [h2], fun i x y hx hy => ?_⟩
    rcases Nat.lt_or_ge i n with q | q
    · rw [List.getElem?_append_left (by omega)] at hx hy
      exact h3 i x y hx hy
    · have hi : i = n := by
        have := List.getElem?_eq_some_iff.1 hx
        obtain ⟨q2, _⟩ := this
        simp at q2; omega
      subst hi
      rw [List.getElem?_append_right (by omega)] at hx hy
      simp [h1, h2] at hx hy
      subst hx; subst hy
      exact hab

theorem all2_of_get {α β : Type} {R : α → β → Prop} : ∀ {xs : List α} {ys : List β}, xs.length = ys.length → (∀ (i : Nat) (x : α) (y : β), xs[i]? = some x → ys[i]? = some y → R x y) → All2 R xs ys
  | [], [], _, _ => trivial
  | x :: xs, y :: ys, h, g => ⟨g 0 x y rfl rfl, all2_of_get (by simpa using h) (fun i a b ha hb => g (i + 1) a b ha hb)⟩
  | [], _ :: _, h, _ => by cases h
  | _ :: _, [], h, _ => by cases h

theorem flatten_get {sz : Nat} : ∀ {css : List (List Value)}, (∀ cs ∈ css, cs.length = sz) → ∀ {j : Nat} {u : Value}, css.flatten[j]? = some u → ∃ i k cs, j = i * sz + k ∧ css[i]? = some cs ∧ cs[k]? = some u
  | [], _, _, _, h => by simp at h
  | c :: css, hl, j, u, h => by
    rw [List.flatten_cons] at h
    have hc := hl c (List.mem_cons_self ..)
    rcases Nat.lt_or_ge j c.length with q | q
    · rw [List.getElem?_append_left q] at h
      exact ⟨0, j, c, by omega, rfl, h⟩
    · rw [List.getElem?_append_right q] at h
      obtain ⟨i, k, cs, h1, h2, h3⟩ := flatten_get (fun x hx => hl x (List.mem_cons_of_mem _ hx)) h
      exact ⟨i + 1, k, cs, by rw [Nat.add_mul]; omega, h2, h3⟩

theorem read_sl {e : Nat} {t : Ty} {n : Nat} (ih : ∀ cs (x : DataW H × List MemPlace), DataW.trod enc P w 0 sp held n e cs = some x → Read w t cs) (hsz : P.cellsOf e = t.sz) {a : Addr} {len cap : Nat} (hl : len ≤ cap) (hc : cap ≤ maxLen)
    {el : Nat → Option (DataW H × List MemPlace)} (hel : ∀ i, i < len → (w.cells? 0 (a.add (i * P.cellsOf e)) (P.cellsOf e)).bind (DataW.trod enc P w 0 sp held n e) = el i) (hs : ∀ i, i < len → (el i).isSome = true) : Read w (.sl t) [.slice (some a) len cap] := by
  have each : ∀ i, i < len → ∃ (d : t.den) (cs : List Value), (Rep (fun b => b < w.heap.size) w t d cs ∧ Fits t d) ∧ (∀ k u, cs[k]? = some u → w.cell? ((a.add (i * t.sz)).add k) = some u) ∧ cs.length = t.sz := by
    intro i hi
    have h1 := hel i hi
    have h2 := hs i hi
    cases he : el i with
    | none => rw [he] at h2; cases h2
    | some y =>
      rw [he, Option.bind_eq_some_iff] at h1
      obtain ⟨cs, h3, h4⟩ := h1
      obtain ⟨d, h5⟩ := ih cs y h4
      rw [hsz] at h3
      obtain ⟨h6, h7⟩ := cells?_at h3
      exact ⟨d, cs, h5, h7, h6⟩
  obtain ⟨xs, css, g1, g2, g3⟩ := choose_list each
  have add2 : ∀ (i k : Nat), (a.add i).add k = a.add (i + k) := by
    intro i k
    unfold Addr.add
    by_cases hi : i = 0
    · subst hi; simp
    · by_cases hk : k = 0
      · subst hk; simp [hi]
      · have : i + k ≠ 0 := by omega
        simp [hi, hk, this, Nat.add_assoc]
  have hcl : ∀ cs ∈ css, cs.length = t.sz := by
    intro cs hcs
    obtain ⟨i, hi⟩ := List.getElem?_of_mem hcs
    have hlt : i < xs.length := by have := (List.getElem?_eq_some_iff.1 hi).1; omega
    exact (g3 i _ cs (List.getElem?_eq_getElem hlt) hi).2.2
  refine ⟨xs, ⟨some a, cap, css, by rw [g1], by rw [g1]; exact hl, all2_of_get (by omega) (fun i x cs hx hcs => (g3 i x cs hx hcs).1.1), ?_⟩, by rw [g1]; omega, fun x hx => ?_⟩
  · cases hxs : xs with
    | nil => exact .inl rfl
    | cons x0 r =>
      refine .inr ?_
      have h0 : 0 < len := by rw [← g1, hxs]; simp
      have hcss : 0 < css.length := by omega
      have e0 := g3 0 xs[0] css[0] (List.getElem?_eq_getElem (by omega)) (List.getElem?_eq_getElem hcss)
      have hp := t.sz_pos
      have hk0 : 0 < css[0].length := by rw [e0.2.2]; exact hp
      have c0 := e0.2.1 0 css[0][0] (List.getElem?_eq_getElem hk0)
      rw [add2, show 0 * t.sz + 0 = 0 by omega] at c0
      obtain ⟨hsp, s3⟩ := cell_spot (show w.cell? a = _ from c0)
      refine ⟨a.block, a.off, by rw [← hsp], s3, fun j u hu => ?_⟩
      obtain ⟨i, k, cs, q1, q2, q3⟩ := flatten_get hcl hu
      have hlt : i < xs.length := by have := (List.getElem?_eq_some_iff.1 q2).1; omega
      have c1 := (g3 i _ cs (List.getElem?_eq_getElem hlt) q2).2.1 k u q3
      rw [add2, hsp, add_plain] at c1
      rw [q1]
      exact c1
  · obtain ⟨i, hi⟩ := List.getElem?_of_mem hx
    have hlt : i < css.length := by have : i < xs.length := (List.getElem?_eq_some_iff.1 hi).1; omega
    exact (g3 i x _ hi (List.getElem?_eq_getElem hlt)).1.2

theorem read_fs {n : Nat} {r : TypeId → Option Ty} (ih : ∀ T t, r T = some t → ∀ cs (x : DataW H × List MemPlace), DataW.trod enc P w 0 sp held n T cs = some x → Read w t cs) {cs : List Value} : ∀ (fs : List Field) (off : Nat) (t : Ty), tyFs P.cellsOf r off fs = some t →
    (∀ f ∈ fs, ∃ x, DataW.trod enc P w 0 sp held n f.type ((cs.drop f.offset).take (P.cellsOf f.type)) = some x) → (cs.drop off).length = t.sz → Read w t (cs.drop off)
  | [], _, _, h, _, _ => by cases h
  | [f], off, t, h, hf, hl => by
    simp only [tyFs] at h
    split at h
    · rename_i u hu
      cases q : (Nat.beq f.offset off && Nat.beq (P.cellsOf f.type) u.sz) with
      | false => rw [q] at h; cases h
      | true =>
        rw [q] at h
        obtain rfl := Option.some.inj h
        rw [Bool.and_eq_true] at q
        obtain ⟨x, hx⟩ := hf f (List.mem_cons_self ..)
        rw [Nat.eq_of_beq_eq_true q.1, Nat.eq_of_beq_eq_true q.2, List.take_of_length_le (by omega)] at hx
        exact ih _ _ hu _ x hx
    · cases h
  | f :: g :: l, off, t, h, hf, hl => by
    simp only [tyFs] at h
    split at h
    · rename_i u hu
      cases q : (Nat.beq f.offset off && Nat.beq (P.cellsOf f.type) u.sz) with
      | false => rw [q] at h; cases h
      | true =>
        rw [q] at h
        simp only [cond_true] at h
        rw [Bool.and_eq_true] at q
        split at h
        · rename_i v hv
          obtain rfl := Option.some.inj h
          obtain ⟨x, hx⟩ := hf f (List.mem_cons_self ..)
          rw [Nat.eq_of_beq_eq_true q.1, Nat.eq_of_beq_eq_true q.2] at hx
          obtain ⟨d1, r1, f1⟩ := ih _ _ hu _ x hx
          have hl2 : (cs.drop (off + u.sz)).length = v.sz := by
            rw [← List.drop_drop, List.length_drop, hl]
            show u.sz + v.sz - u.sz = _
            omega
          obtain ⟨d2, r2, f2⟩ := read_fs ih (g :: l) (off + u.sz) v hv (fun y hy => hf y (List.mem_cons_of_mem _ hy)) hl2
          refine ⟨(d1, d2), ⟨_, _, ?_, r1, r2⟩, f1, f2⟩
          rw [← List.drop_drop, List.take_append_drop]
        · cases h
    · cases h

theorem read_of_trod : ∀ (n : Nat) (T : TypeId) (t : Ty), tyOf P n T = some t → ∀ (fuel : Nat) (cs : List Value) (x : DataW H × List MemPlace), DataW.trod enc P w 0 sp held fuel T cs = some x → Read w t cs
  | 0, _, _, h, _, _, _, _ => by cases h
  | n + 1, T, t, h, fuel, cs, x, hx => by
    unfold tyOf at h
    split at h
    · rename_i k hu
      obtain rfl := Option.some.inj h
      obtain ⟨m, rfl, _, hw⟩ := DataW.trod_int hu hx
      exact ⟨m, rfl, hw⟩
    · rename_i hu
      obtain rfl := Option.some.inj h
      obtain ⟨m, rfl, _⟩ := DataW.trod_bool hu hx
      exact ⟨m, rfl, trivial⟩
    · rename_i hu
      obtain rfl := Option.some.inj h
      obtain ⟨s, rfl, _, hs⟩ := DataW.trod_string hu hx
      exact ⟨s, rfl, hs⟩
    · rename_i e hu
      split at h
      · rename_i u he
        cases q : Nat.beq (P.cellsOf e) u.sz with
        | false => rw [q] at h; cases h
        | true =>
          rw [q] at h
          obtain rfl := Option.some.inj h
          rcases DataW.trod_slice hu hx with ⟨rfl, _⟩ | ⟨a, len, cap, elems, rest, m, rfl, rfl, rfl, _, hl, hm, hlen, hel, _, _⟩
          · exact ⟨[], ⟨none, 0, [], rfl, Nat.le_refl _, trivial, .inl rfl⟩, Nat.zero_le _, fun x hx => by cases hx⟩
          · exact read_sl (fun cs y hy => read_of_trod n e u he m cs y hy) (Nat.eq_of_beq_eq_true q) hl hm hel (fun i hi => by rw [List.getElem?_eq_getElem (by omega)]; rfl)
      · cases h
    · rename_i fs hu
      split at h
      · rename_i u hf
        cases q : Nat.beq (P.cellsOf T) u.sz with
        | false => rw [q] at h; cases h
        | true =>
          rw [q] at h
          obtain rfl := Option.some.inj h
          obtain ⟨xs, m, rfl, rfl, hcl, hxl, hel⟩ := DataW.trod_struct hu hx
          have := read_fs (P := P) (fun T t ht cs y hy => read_of_trod n T t ht m cs y hy) (cs := cs) fs.toList 0 u hf (fun f hfm => by
            obtain ⟨i, hi⟩ := List.getElem?_of_mem hfm
            have hi' : fs[i]? = some f := by simpa using hi
            have hlt : i < xs.length := by rw [hxl]; exact (Array.getElem?_eq_some_iff.1 hi').1
            refine ⟨xs[i], ?_⟩
            rw [hel i f hi', List.getElem?_eq_getElem hlt]) (by rw [List.drop_zero, hcl]; exact Nat.eq_of_beq_eq_true q)
          simpa using this
      · cases h
    · cases h
end
end AM
end Go.Proofs.YtpcdcnmmkfhliaaGreatDoor
