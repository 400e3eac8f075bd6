/- impl.RolePrint (f126) by hand. -/
import Derived.Test.YtpcdcnmmkfhliaaGreatDoorPBu
namespace Go.Proofs.YtpcdcnmmkfhliaaGreatDoor
namespace AM
open Go Go.Shelf Go.RowKit
set_option linter.unusedVariables false

theorem word_calls {K : Glob} {n : Nat} (h : Good Tryz.prog K (150, S150 n)) {w : World} (hK : K.ok w) (hKb : ∀ b, K.blk b → b < w.heap.size) {x : Int} {r : ByteArray} (hx : impl_wordOf n x = some r) :
    Calls Tryz.prog 150 #[.int .i64 x] w fun e w' => e = .returned (.string r) ∧ Step (fun _ _ => False) w w' := by
  let Y : Ctx := { K := K, N := 1, w0 := w, E := fun _ _ => False, I0 := fun b => b < w.heap.size }
  have hrel : Rel Y (fun _ => undef) (fun b => b < w.heap.size) (mkSt (parEns 0 (S150 n).pars) x) ⟨#[.int .i64 x], []⟩ w := by
    refine ⟨rfl, rfl, fun i hi => ?_, fun i hi => ?_, fun _ _ h => (by cases h), fun _ _ _ _ h => (by cases h), fun _ _ h => (by cases h), fun b hb => ⟨hb, .inl hb⟩, fun b hb => hb, Step.refl _ _, hK, hKb⟩
    · obtain rfl : i = 0 := by have : i < 1 := hi; omega
      show Rep (fun b => b < w.heap.size) w (.int .i64) x [.int .i64 x]
      rfl
    · have hi : 1 ≤ i := hi
      match i, hi with
      | i + 1, _ => rfl
  have hc := h.2 Y _ _ ⟨#[.int .i64 x], []⟩ w x r hx hrel rfl rfl rfl
  refine hc.mono fun e w' h => ?_
  obtain ⟨v, L', I', a', rfl, hR, _, rfl⟩ := h
  have hs : a'.tmps.getD 1 undef = .string r := List.head_eq_of_cons_eq (hR.slot 1)
  exact ⟨congrArg Ending.returned hs, hR.step⟩
abbrev actT : Ty := .pr (.int .i64) .str

theorem role_calls {K : Glob} {n : Nat} (h : Good Tryz.prog K (125, S125 n)) {w : World} (hK : K.ok w) (hKb : ∀ b, K.blk b → b < w.heap.size) {x : List (Int × ByteArray)} {u : Value} (hu : Rep (fun b => b < w.heap.size) w (.sl actT) x [u]) {r : Bool} (hx : impl_RoleOk n x = some r) :
    Calls Tryz.prog 125 #[u] w fun e w' => e = .returned (.bool r) ∧ Step (fun _ _ => False) w w' := by
  let Y : Ctx := { K := K, N := 1, w0 := w, E := fun _ _ => False, I0 := fun b => b < w.heap.size }
  have hrel : Rel Y (fun _ => undef) (fun b => b < w.heap.size) (mkSt (parEns 0 (S125 n).pars) x) ⟨#[u], []⟩ w := by
    refine ⟨rfl, rfl, fun i hi => ?_, fun i hi => ?_, fun _ _ h => (by cases h), fun _ _ _ _ h => (by cases h), fun _ _ h => (by cases h), fun b hb => ⟨hb, .inl hb⟩, fun b hb => hb, Step.refl _ _, hK, hKb⟩
    · obtain rfl : i = 0 := by have : i < 1 := hi; omega
      exact hu
    · have hi : 1 ≤ i := hi
      match i, hi with
      | i + 1, _ => rfl
  have hc := h.2 Y _ _ ⟨#[u], []⟩ w x r hx hrel rfl rfl rfl
  refine hc.mono fun e w' h => ?_
  obtain ⟨v, L', I', a', rfl, hR, _, rfl⟩ := h
  have hs : a'.tmps.getD 1 undef = .bool r := List.head_eq_of_cons_eq (hR.slot 1)
  exact ⟨congrArg Ending.returned hs, hR.step⟩

end AM
end Go.Proofs.YtpcdcnmmkfhliaaGreatDoor
