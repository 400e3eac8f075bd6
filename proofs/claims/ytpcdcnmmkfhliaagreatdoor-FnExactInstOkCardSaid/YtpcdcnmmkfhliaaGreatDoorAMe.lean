/- The relation between a state of plain data and a frame in memory; how it is carried over steps. No condition. -/
import Derived.Test.YtpcdcnmmkfhliaaGreatDoorAMd
namespace Go.Proofs.YtpcdcnmmkfhliaaGreatDoor
namespace AM
open Go

/-! ## Steps of memory -/
def BlkEq (T : Nat → Prop) (o o' : Option Go.Obj) : Prop := match o with
  | some (.cells c t fz) => ∃ c', o' = some (.cells c' t fz) ∧ c'.size = c.size ∧ ∀ j, ¬ T j → c'[j]? = c[j]?
  | some (.map es ck) => o' = some (.map es ck) ∨ ((∃ j, T j) ∧ ∃ es' ck', o' = some (.map es' ck'))
  | o => o' = o

structure Step (T : Nat → Nat → Prop) (w w' : World) : Prop where
  os : w'.os = w.os
  tape : w'.tape = w.tape
  output : w'.output = w.output
  size : w.heap.size ≤ w'.heap.size
  blk : ∀ b, b < w.heap.size → BlkEq (T b) w.heap[b]? w'.heap[b]?

theorem BlkEq.refl (T : Nat → Prop) (o : Option Go.Obj) : BlkEq T o o := by
  unfold BlkEq; split
  · exact ⟨_, rfl, rfl, fun _ _ => rfl⟩
  · exact .inl rfl
  · rfl

theorem BlkEq.of_eq {T : Nat → Prop} {o o' : Option Go.Obj} (h : o' = o) : BlkEq T o o' := by subst h; exact BlkEq.refl T _

theorem BlkEq.trans {T U : Nat → Prop} {a b c : Option Go.Obj} (h : BlkEq T a b) (g : BlkEq U b c) : BlkEq (fun j => T j ∨ U j) a c := by
  unfold BlkEq at h ⊢
  split
  · rename_i x t fz
    obtain ⟨y, rfl, e1, e2⟩ := h
    obtain ⟨z, rfl, e3, e4⟩ := g
    exact ⟨z, rfl, e3.trans e1, fun j hj => (e4 j (fun q => hj (.inr q))).trans (e2 j (fun q => hj (.inl q)))⟩
  · rename_i es ck
    rcases h with rfl | ⟨⟨j, hj⟩, es', ck', rfl⟩
    · rcases g with rfl | ⟨⟨j, hj⟩, es2, ck2, rfl⟩
      · exact .inl rfl
      · exact .inr ⟨⟨j, .inr hj⟩, es2, ck2, rfl⟩
    · rcases g with rfl | ⟨_, es2, ck2, rfl⟩
      · exact .inr ⟨⟨j, .inl hj⟩, es', ck', rfl⟩
      · exact .inr ⟨⟨j, .inl hj⟩, es2, ck2, rfl⟩
  · rename_i hne hne2
    split at h
    · exact absurd rfl (hne _ _ _)
    · exact absurd rfl (hne2 _ _)
    · subst h
      unfold BlkEq at g
      split at g
      · exact absurd rfl (hne _ _ _)
      · exact absurd rfl (hne2 _ _)
      · exact g

theorem BlkEq.mono {T U : Nat → Prop} {a b : Option Go.Obj} (hT : ∀ j, T j → U j) (h : BlkEq T a b) : BlkEq U a b := by
  unfold BlkEq at h ⊢
  split
  · obtain ⟨y, rfl, e1, e2⟩ := h
    exact ⟨y, rfl, e1, fun j hj => e2 j (fun q => hj (hT j q))⟩
  · rcases h with h | ⟨⟨j, hj⟩, h⟩
    · exact .inl h
    · exact .inr ⟨⟨j, hT j hj⟩, h⟩
  · rename_i hne hne2
    split at h
    · exact absurd rfl (hne _ _ _)
    · exact absurd rfl (hne2 _ _)
    · exact h

theorem BlkEq.same {T : Nat → Prop} {a b : Option Go.Obj} (hT : ∀ j, ¬ T j) (h : BlkEq T a b) : b = a := by
  unfold BlkEq at h
  split at h
  · obtain ⟨y, rfl, e1, e2⟩ := h
    congr 2
    exact Array.ext_getElem? fun j => e2 j (hT j)
  · rcases h with h | ⟨⟨j, hj⟩, _⟩
    · exact h
    · exact absurd hj (hT j)
  · exact h

theorem Step.refl (T : Nat → Nat → Prop) (w : World) : Step T w w := ⟨rfl, rfl, rfl, Nat.le_refl _, fun _ _ => BlkEq.refl _ _⟩

/-- A step behind others: what it touches of the first world's blocks was to be touched. -/
theorem Step.trans {E T : Nat → Nat → Prop} {a b c : World} (h : Step E a b) (g : Step T b c) (hT : ∀ k j, T k j → k < a.heap.size → E k j) : Step E a c :=
  ⟨g.os.trans h.os, g.tape.trans h.tape, g.output.trans h.output, Nat.le_trans h.size g.size, fun k hk =>
    ((h.blk k hk).trans (g.blk k (Nat.lt_of_lt_of_le hk h.size))).mono fun j q => q.elim id fun q => hT k j q hk⟩

theorem Step.mono {E T : Nat → Nat → Prop} {a b : World} (hT : ∀ k j, T k j → E k j) (g : Step T a b) : Step E a b :=
  ⟨g.os, g.tape, g.output, g.size, fun k hk => (g.blk k hk).mono (hT k)⟩

theorem Step.same {T : Nat → Nat → Prop} {w w' : World} (h : Step T w w') {b : Nat} (hb : b < w.heap.size) (hT : ∀ j, ¬ T b j) : w'.heap[b]? = w.heap[b]? :=
  (h.blk b hb).same hT

theorem Step.alloc (T : Nat → Nat → Prop) (w : World) (o : Go.Obj) : Step T w (w.alloc o) :=
  ⟨rfl, rfl, rfl, by simp, fun b hb => BlkEq.of_eq (RowKit.Below.heap_alloc w o b hb)⟩

theorem Step.drew (T : Nat → Nat → Prop) (w : World) : Step T w w.drew := ⟨rfl, rfl, rfl, Nat.le_refl _, fun _ _ => BlkEq.refl _ _⟩

theorem Step.of_below {w w' : World} (h : RowKit.Below w.heap.size w w') : Step (fun _ _ => False) w w' :=
  ⟨h.os, h.tape, h.output, h.size, fun b hb => BlkEq.of_eq (h.block b hb)⟩

theorem Step.below {w w' : World} (h : Step (fun _ _ => False) w w') : RowKit.Below w.heap.size w w' :=
  ⟨h.os, h.tape, h.output, h.size, fun _ hb => h.same hb fun _ q => q⟩

theorem Step.of_grown {w w' : World} {row : Option Nat} (g : w.grownBy w' row) (T : Nat → Nat → Prop) (hrow : ∀ b, row = some b → b < w.heap.size → BlkEq (T b) w.heap[b]? w'.heap[b]?) : Step T w w' :=
  ⟨g.os, g.tape, g.output, g.size, fun b hb => by
    by_cases q : row = some b
    · exact hrow b q hb
    · exact BlkEq.of_eq (g.block b hb fun e => q e.symm)⟩

end AM
end Go.Proofs.YtpcdcnmmkfhliaaGreatDoor
