/- Regions whose order is drawn, where all orders have been listed. Under: the callees obey their summaries. -/
import Derived.Test.YtpcdcnmmkfhliaaGreatDoorAMv2
namespace Go.Proofs.YtpcdcnmmkfhliaaGreatDoor
namespace AM
open Go
set_option linter.unusedSimpArgs false
set_option linter.unusedVariables false

section
variable {P : Program} {X : Ctx} {L : Nm → Value} {I : Nat → Prop} {s : St} {a : Act} {w : World} {R : Type}

theorem bif_bind {α β : Type} (c : Bool) (x y : Option α) (k : α → Option β) : Option.bind (bif c then x else y) k = bif c then x.bind k else y.bind k := by cases c <;> rfl

theorem callAt_fun {S : FSum} {f : Nat} {c : Target} {xs : List Operand} {d : Nat} (k : St → Option R) : callAt S f c xs d s k = (callAt S f c xs d s some).bind k := by
  unfold callAt
  repeat' (first | rfl | split)
  all_goals simp only [bif_bind, Option.bind_some, Option.bind_none]

theorem callK_fun {S : FSum} {f : Nat} {c : Target} {xs : List Operand} {d : Nat} (k : St → Option R) : callK S f c xs d s k = (callK S f c xs d s some).bind k := by
  unfold callK
  split
  · split
    · exact callAt_fun k
    · rfl
  · rfl

theorem opK_fun {E : Env} {o : Oper} (k : St → Option R) : opK E o s k = (opK E o s some).bind k := by
  unfold opK
  split
  · split
    · split
      · cases Nat.blt _ E.N with
        | false => rfl
        | true => simp only [cond_true]; exact callK_fun k
      · rfl
    · rfl
  · split
    · split
      · cases Nat.blt _ E.N with
        | false => rfl
        | true => simp only [cond_true]; exact callK_fun k
      · rfl
    · rfl
  · split
    · rename_i c v e
      cases dstOk E.N o.dst with
      | false => rfl
      | true => cases c <;> rfl
    · split
      · cases Nat.blt _ E.N with
        | false => rfl
        | true =>
          simp only [cond_true]
          split
          · rename_i c ob v e; cases c <;> rfl
          · split
            · rename_i c s' e; cases c <;> rfl
            · rfl
      · split
        · rename_i c s' e; cases c <;> rfl
        · rfl

theorem opsK_fun {E : Env} {all : List Oper} {o : Oper} {r : List Oper} (k : St → Option R) : opsK E all (o :: r) s k = (opsK E all [o] s some).bind fun s' => opsK E all r s' k := by
  simp only [opsK]
  cases hg : o.guard with
  | none => exact opK_fun _
  | some gw =>
    obtain ⟨j, want⟩ := gw
    dsimp only
    cases ht : (all[j]?).bind (·.dst) with
    | none => rfl
    | some t =>
      dsimp only
      cases hb : isTmp (s.t t) with
      | none => cases q : (isGone (s.t t) && dstOk E.N o.dst) <;> simp only [q] <;> rfl
      | some b =>
        dsimp only
        cases b with
        | true =>
          cases want with
          | true => exact opK_fun _
          | false => cases q : dstOk E.N o.dst <;> simp only [q] <;> rfl
        | false =>
          cases want with
          | false => exact opK_fun _
          | true => cases q : dstOk E.N o.dst <;> simp only [q] <;> rfl

theorem remNat_mem {i j : Nat} {rem : List Nat} : j ∈ remNat i rem ↔ j ∈ rem ∧ j ≠ i := by
  unfold remNat
  rw [List.mem_filter]
  constructor
  · rintro ⟨h1, h2⟩
    refine ⟨h1, fun q => ?_⟩
    subst q
    rw [Nat.beq_refl] at h2; cases h2
  · rintro ⟨h1, h2⟩
    exact ⟨h1, by rw [beq_ne (Ne.symm h2)]; rfl⟩
theorem remNat_len {i : Nat} : ∀ {rem : List Nat}, rem.Nodup → i ∈ rem → (remNat i rem).length + 1 = rem.length
  | [], _, h => by cases h
  | x :: r, hn, h => by
    have hn := List.nodup_cons.1 hn
    rcases List.mem_cons.1 h with rfl | h
    · have : remNat i r = r := by
        unfold remNat
        rw [List.filter_eq_self]
        intro a ha
        rw [beq_ne (a := i) (b := a) (fun q => hn.1 (by rw [q]; exact ha))]; rfl
      unfold remNat at this ⊢
      rw [List.filter_cons, Nat.beq_refl]
      simp only [Bool.not_true, Bool.false_eq_true, if_false, this, List.length_cons]
    · have hne : i ≠ x := fun q => hn.1 (by rw [← q]; exact h)
      have := remNat_len hn.2 h
      unfold remNat at this ⊢
      rw [List.filter_cons, beq_ne hne]
      simp only [Bool.not_false, if_true, List.length_cons, this]

theorem min_mem : ∀ {l : List Nat}, l ≠ [] → ∃ m ∈ l, ∀ x ∈ l, m ≤ x
  | [], h => absurd rfl h
  | [x], _ => ⟨x, List.mem_cons_self .., fun y hy => by rw [List.mem_singleton.1 hy]; exact Nat.le_refl _⟩
  | x :: y :: r, _ => by
    obtain ⟨m, h1, h2⟩ := min_mem (l := y :: r) (by simp)
    rcases Nat.le_total x m with q | q
    · exact ⟨x, List.mem_cons_self .., fun z hz => by
        rcases List.mem_cons.1 hz with rfl | hz
        · exact Nat.le_refl _
        · exact Nat.le_trans q (h2 z hz)⟩
    · exact ⟨m, List.mem_cons_of_mem _ h1, fun z hz => by
        rcases List.mem_cons.1 hz with rfl | hz
        · exact q
        · exact h2 z hz⟩

def Aft (l : List Oper) : Prop := ∀ j o, l[j]? = some o → ∀ i ∈ afters o, i < j

theorem aft_of {l : List Oper} (h : aftOk l = true) : Aft l := by
  intro j o hj i hi
  unfold aftOk at h
  rw [List.all_eq_true] at h
  have hl : j < l.length := (List.getElem?_eq_some_iff.1 hj).1
  have := h j (List.mem_range.2 hl)
  rw [hj] at this
  simp only [List.all_eq_true] at this
  exact Nat.le_of_ble_eq_true (this i hi)

theorem free_min {l : List Oper} (ha : Aft l) {rem : List Nat} (hlt : ∀ i ∈ rem, i < l.length) (hne : rem ≠ []) : ∃ m ∈ rem, freeOf l rem m = true := by
  obtain ⟨m, h1, h2⟩ := min_mem hne
  refine ⟨m, h1, ?_⟩
  have hml := hlt m h1
  have ho : l[m]? = some l[m] := List.getElem?_eq_getElem hml
  unfold freeOf
  rw [ho]
  simp only [List.all_eq_true]
  intro a hA
  have := ha m _ ho a hA
  cases q : memNat a rem with
  | false => rfl
  | true => have := h2 a (memNat_iff.1 q); omega

theorem exts_ne {l : List Oper} (ha : Aft l) : ∀ (n : Nat) (rem : List Nat), rem.length = n → rem.Nodup → (∀ i ∈ rem, i < l.length) → ∃ π, π ∈ extsN l n rem
  | 0, rem, _, _, _ => ⟨[], List.mem_singleton.2 rfl⟩
  | n + 1, rem, hl, hn, hlt => by
    obtain ⟨m, h1, h2⟩ := free_min ha hlt (fun q => by rw [q] at hl; cases hl)
    obtain ⟨π, hπ⟩ := exts_ne ha n (remNat m rem) (by have := remNat_len hn h1; omega) (hn.sublist (List.filter_sublist ..)) (fun i hi => hlt i (remNat_mem.1 hi).1)
    refine ⟨m :: π, ?_⟩
    show _ ∈ rem.flatMap _
    refine List.mem_flatMap.2 ⟨m, h1, ?_⟩
    rw [h2]
    exact List.mem_map.2 ⟨π, hπ, rfl⟩

/-- What is left of a region. -/
structure Rem (l : List Oper) (rem : List Nat) (listed : Array Bool) : Prop where
  sz : listed.size = l.length
  lt : ∀ i ∈ rem, i < l.length
  nd : rem.Nodup
  un : ∀ i, i < l.length → (listed.getD i true = false ↔ i ∈ rem)

theorem Rem.lis {l : List Oper} {rem : List Nat} {listed : Array Bool} (h : Rem l rem listed) {i : Nat} (hl : i < l.length) : listed.getD i false = true ↔ i ∉ rem := by
  have hs := h.sz
  have q := h.un i hl
  rw [Array.getD_eq_getD_getElem?] at q ⊢
  rw [Array.getElem?_eq_getElem (by omega)] at q ⊢
  rw [← q]
  simp

theorem draw_enum {E : Env} (hE : EnvOk P X.K E) (hN : E.N = X.N) {l : List Oper} (ha : Aft l) {k : St → Option R} {y : R} {Q : Exit → Act → World → Prop} (hQ : ∀ a w, Post X L k y a w → Q .normal a w) :
    ∀ (n : Nat) (rem : List Nat) (listed : Array Bool) {L1 : Nm → Value} {I : Nat → Prop} {s : St} {a : Act} {w : World}, n = rem.length → Rem l rem listed → Rel X L1 I s a w → (∀ n, kept n = true → L1 n = L n) →
      (∀ π ∈ extsN l n rem, opsK E l (opsOf l π) s k = some y) → wpAny P .any l.toArray Q n listed a w := by
  intro n
  induction n with
  | zero =>
    intro rem listed L1 I s a w hn hl h hk e
    obtain rfl : rem = [] := List.eq_nil_of_length_eq_zero hn.symm
    refine ⟨?_, hQ _ _ ⟨s, L1, I, h, hk, e [] (List.mem_singleton.2 rfl)⟩⟩
    rcases hr : Region.ready .any l.toArray listed with _ | ⟨i, r⟩
    · rfl
    · have hi : i ∈ Region.ready .any l.toArray listed := by rw [hr]; exact List.mem_cons_self ..
      obtain ⟨h0, o, ho, _⟩ := mem_ready.1 hi
      have hil : i < l.length := by simpa using (Array.getElem?_eq_some_iff.1 ho).1
      exact absurd ((hl.un i hil).1 h0) (by simp)
  | succ n ih =>
    intro rem listed L1 I s a w hn hl h hk e
    refine ⟨fun hr => ?_, fun i hi => ?_⟩
    · obtain ⟨m, h1, h2⟩ := free_min ha hl.lt (fun q => by rw [q] at hn; cases hn)
      have hml := hl.lt m h1
      have ho : l[m]? = some l[m] := List.getElem?_eq_getElem hml
      have : m ∈ Region.ready .any l.toArray listed := by
        refine mem_ready.2 ⟨(hl.un m hml).2 h1, l[m], by simp [hml], fun ed he hb => ?_⟩
        have hA : ed.on ∈ afters l[m] := mem_afters.2 ⟨ed, he, hb, rfl⟩
        have := ha m _ ho _ hA
        refine (hl.lis (by omega)).2 fun q => ?_
        unfold freeOf at h2
        rw [ho] at h2
        simp only [List.all_eq_true] at h2
        have := h2 _ hA
        rw [memNat_iff.2 q] at this; cases this
      rw [hr] at this; cases this
    · obtain ⟨h0, o, ho, hall⟩ := mem_ready.1 hi
      have hil : i < l.length := by simpa using (Array.getElem?_eq_some_iff.1 ho).1
      have hol : l[i]? = some o := by simpa using ho
      have him : i ∈ rem := (hl.un i hil).1 h0
      have hfree : freeOf l rem i = true := by
        unfold freeOf
        rw [hol]
        simp only [List.all_eq_true]
        intro b hb
        obtain ⟨ed, h1, h2, rfl⟩ := mem_afters.1 hb
        have h3 := hall ed h1 h2
        have h4 := ha i _ hol _ hb
        cases q : memNat ed.on rem with
        | false => rfl
        | true => exact absurd (memNat_iff.1 q) ((hl.lis (by omega)).1 h3)
      have hlen := remNat_len hl.nd him
      have hsub : ∀ π ∈ extsN l n (remNat i rem), (opsK E l [o] s some).bind (fun s' => opsK E l (opsOf l π) s' k) = some y := by
        intro π hπ
        have := e (i :: π) (by
          show _ ∈ rem.flatMap _
          refine List.mem_flatMap.2 ⟨i, him, ?_⟩
          rw [hfree]
          exact List.mem_map.2 ⟨π, hπ, rfl⟩)
        rw [← opsK_fun, ← this]
        unfold opsOf
        rw [List.filterMap_cons, hol]
      obtain ⟨π0, hπ0⟩ := exts_ne ha n (remNat i rem) (by omega) (hl.nd.sublist (List.filter_sublist ..)) (fun j hj => hl.lt j (remNat_mem.1 hj).1)
      cases hs1 : opsK E l [o] s some with
      | none => have := hsub π0 hπ0; rw [hs1] at this; cases this
      | some s1 =>
        have hs2 : ∀ π ∈ extsN l n (remNat i rem), opsK E l (opsOf l π) s1 k = some y := fun π hπ => by
          have := hsub π hπ
          rw [hs1] at this
          exact this
        have one := opsK_one h hE hN (k := some) (r := []) hs1 Q
        have nxt : ∀ a' w', Post X L1 (fun s' => opsK E l [] s' some) s1 a' w' → wpAny P .any l.toArray Q n (listed.setIfInBounds i true) a' w' := by
          rintro a' w' ⟨s', L', I', r1, r2, r3⟩
          obtain rfl := Option.some.inj (show some s' = some s1 from r3)
          refine ih (remNat i rem) (listed.setIfInBounds i true) (by omega) ⟨by simpa using hl.sz, fun j hj => hl.lt j (remNat_mem.1 hj).1, hl.nd.sublist (List.filter_sublist ..), fun j hj => ?_⟩ r1 (fun n hn => (r2 n hn).trans (hk n hn)) hs2
          have hsz := hl.sz
          rw [getD_true_set (by omega), remNat_mem]
          by_cases q : j = i
          · simp [q]
          · rw [if_neg q, hl.un j hj]; simp [q]
        unfold wpOp
        simp only [ho]
        split
        · rename_i hw; rw [if_pos hw] at one; exact .inl (Oper.wp_mono nxt one)
        · rename_i hw; rw [if_neg hw] at one; exact nxt _ _ one

end
end AM
end Go.Proofs.YtpcdcnmmkfhliaaGreatDoor
