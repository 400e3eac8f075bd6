/- The law FnExactJudgeOnce, as a plain function, comes to true. No condition but that lists are no longer than memory. And what follows it: see the remarks. -/
import Derived.Test.YtpcdcnmmkfhliaaGreatDoorP2

/-! The law FnExactJudgeOnce, as a plain function, comes to true. No condition but that lists are no longer than memory. -/
namespace Go.Proofs.YtpcdcnmmkfhliaaGreatDoor
namespace AM
open Go
set_option linter.unusedVariables false
set_option linter.unusedSimpArgs false

/-- Two instances in one part with one key, both trusted. -/
def clash (li : List Inst9) (lg : List Claim3) (i j : Nat) : Bool :=
  trustB li lg (i : Int) && (trustB li lg (j : Int) && (((li.getD i zI).1 == (li.getD j zI).1) && (((li.getD i zI).2.1 == (li.getD j zI).2.1) && ((li.getD i zI).2.2.2.2.2.2.2.2 == (li.getD j zI).2.2.2.2.2.2.2.2))))
def freeAt (li : List Inst9) (lg : List Claim3) (i : Nat) : Bool := allN (fun j => !clash li lg i j) 0 i

theorem sl_len {li : List Inst9} {i : Nat} (h : i ≤ li.length) : (sl li 0 (i : Int)).length = i := by
  unfold sl
  simp
  omega
theorem sl_get {li : List Inst9} {i j : Nat} (h : i ≤ li.length) (hj : j < i) : (sl li 0 (i : Int)).getD j zI = li.getD j zI := by
  unfold sl
  rw [List.getD_eq_getElem?_getD, List.getD_eq_getElem?_getD]
  congr 1
  simp [List.getElem?_take, hj]

section
variable {xs : List Node3} {kn : List Int} {li : List Inst9} {fr : Int} {gv sh : List Int} {lg : List Claim3} {k : Int}

theorem judge7 (hs : Small xs kn li gv sh lg) (hw : worldB xs kn li fr gv sh lg = true) {i : Nat} (hi : i < li.length) :
    impl_JudgeOnce_L7 N0 N0 (xs, kn, li, fr, gv, sh, lg, (i : Int), (li.getD i zI).1, (li.getD i zI).2.1, (li.getD i zI).2.2.1, (li.getD i zI).2.2.2.1, (li.getD i zI).2.2.2.2.1, (li.getD i zI).2.2.2.2.2.1, (li.getD i zI).2.2.2.2.2.2.1, (li.getD i zI).2.2.2.2.2.2.2.1, (li.getD i zI).2.2.2.2.2.2.2.2, li, (li.length : Int), (i : Int), sl li 0 (i : Int), ((sl li 0 (i : Int)).length : Int), (0 : Int)) =
      some (bif freeAt li lg i then .inr (xs, kn, li, fr, gv, sh, lg, li, (li.length : Int), (i : Int)) else .inl false) := by
  have hli := hs.fl
  rw [sl_len (Nat.le_of_lt hi)]
  have h := test_loop (impl_JudgeOnce_L7 N0) (fun j => (xs, kn, li, fr, gv, sh, lg, (i : Int), (li.getD i zI).1, (li.getD i zI).2.1, (li.getD i zI).2.2.1, (li.getD i zI).2.2.2.1, (li.getD i zI).2.2.2.2.1, (li.getD i zI).2.2.2.2.2.1, (li.getD i zI).2.2.2.2.2.2.1, (li.getD i zI).2.2.2.2.2.2.2.1, (li.getD i zI).2.2.2.2.2.2.2.2, li, (li.length : Int), (i : Int), sl li 0 (i : Int), (i : Int), (j : Int))) (fun j => !clash li lg i j) false (xs, kn, li, fr, gv, sh, lg, li, (li.length : Int), (i : Int)) i (fun m j hj => by
    rw [impl_JudgeOnce_L7]; dsimp only
    rw [lt_t hj, cond_true, sl_len (Nat.le_of_lt hi), inb_nat hj, cond_true, implTrusted_eq hs hw]
    simp only [Option.bind_some, Int.toNat_natCast, step_wrap (Nat.lt_trans hj hi) hli, implTrusted_eq hs hw, sl_get (Nat.le_of_lt hi) hj]
    unfold clash
    cases trustB li lg (i : Int) <;> cases trustB li lg (j : Int) <;> cases ((li.getD i zI).1 == (li.getD j zI).1) <;> cases ((li.getD i zI).2.1 == (li.getD j zI).2.1) <;> cases ((li.getD i zI).2.2.2.2.2.2.2.2 == (li.getD j zI).2.2.2.2.2.2.2.2) <;> rfl) (fun m => by
    rw [impl_JudgeOnce_L7]; dsimp only; rw [lt_f]; rfl) N0 0 (Nat.zero_le _) (by have := n0; omega)
  rw [Nat.sub_zero] at h
  exact h

theorem implJudge_eq (hs : Small xs kn li gv sh lg) : impl_JudgeOnce N0 (xs, kn, li, fr, gv, sh, lg) = some (worldB xs kn li fr gv sh lg && allN (freeAt li lg) 0 li.length) := by
  have hli := hs.fl
  rw [impl_JudgeOnce]; dsimp only
  rw [(world_same hs).1]
  simp only [Option.bind_some]
  cases hw : worldB xs kn li fr gv sh lg with
  | false => rfl
  | true =>
    have h := test_loop (impl_JudgeOnce_L4 N0) (fun i => (xs, kn, li, fr, gv, sh, lg, li, (li.length : Int), (i : Int))) (freeAt li lg) false () li.length (fun m i hi => by
      rw [impl_JudgeOnce_L4]; dsimp only
      rw [lt_t hi, cond_true, inb_nat hi, cond_true, show rng 0 (i : Int) li.length = true from decide_eq_true ⟨Int.le_refl _, by omega, by omega⟩, cond_true]
      simp only [Int.toNat_natCast]
      rw [judge7 hs hw hi]
      cases freeAt li lg i with
      | false => rfl
      | true =>
        show impl_JudgeOnce_L4 N0 m (xs, kn, li, fr, gv, sh, lg, li, (li.length : Int), IntKind.i64.wrap ((i : Int) + (1 : Int))) = _
        rw [step_wrap hi hli]; rfl) (fun m => by
      rw [impl_JudgeOnce_L4]; dsimp only; rw [lt_f]; rfl) N0 0 (Nat.zero_le _) (by have := n0; omega)
    rw [Nat.sub_zero] at h
    show ((impl_JudgeOnce_L4 N0 N0 (xs, kn, li, fr, gv, sh, lg, li, (li.length : Int), (0 : Int))).bind _) = _
    rw [show impl_JudgeOnce_L4 N0 N0 (xs, kn, li, fr, gv, sh, lg, li, (li.length : Int), (0 : Int)) = _ from h]
    cases allN (freeAt li lg) 0 li.length <;> rfl

theorem spec7 (hs : Small xs kn li gv sh lg) (hw : worldB xs kn li fr gv sh lg = true) {i : Nat} (hi : i < li.length) :
    spec_JudgeOnce_L7 N0 N0 (xs, kn, li, fr, gv, sh, lg, (i : Int), (0 : Int)) = some (bif freeAt li lg i then .inr (xs, kn, li, fr, gv, sh, lg, (i : Int)) else .inl false) := by
  have hli := hs.fl
  have h := test_loop (spec_JudgeOnce_L7 N0) (fun j => (xs, kn, li, fr, gv, sh, lg, (i : Int), (j : Int))) (fun j => !clash li lg i j) false (xs, kn, li, fr, gv, sh, lg, (i : Int)) i (fun m j hj => by
    rw [spec_JudgeOnce_L7]; dsimp only
    rw [lt_t hj, cond_true, spec_JudgeOnce_R9]; dsimp only
    rw [inb_nat hi, cond_true, inb_nat (Nat.lt_trans hj hi), cond_true]
    simp only [Option.bind_some, Int.toNat_natCast, step_wrap (Nat.lt_trans hj hi) hli, specTrusted_eq hs hw]
    unfold clash
    cases trustB li lg (i : Int) <;> cases trustB li lg (j : Int) <;> cases ((li.getD i zI).1 == (li.getD j zI).1) <;> cases ((li.getD i zI).2.1 == (li.getD j zI).2.1) <;> cases ((li.getD i zI).2.2.2.2.2.2.2.2 == (li.getD j zI).2.2.2.2.2.2.2.2) <;> rfl) (fun m => by
    rw [spec_JudgeOnce_L7]; dsimp only; rw [lt_f]; rfl) N0 0 (Nat.zero_le _) (by have := n0; omega)
  rw [Nat.sub_zero] at h
  exact h

theorem specJudge_eq (hs : Small xs kn li gv sh lg) : spec_JudgeOnce N0 (xs, kn, li, fr, gv, sh, lg) = some (worldB xs kn li fr gv sh lg && allN (freeAt li lg) 0 li.length) := by
  have hli := hs.fl
  rw [spec_JudgeOnce]; dsimp only
  rw [(world_same hs).2]
  simp only [Option.bind_some]
  cases hw : worldB xs kn li fr gv sh lg with
  | false => rfl
  | true =>
    have h := test_loop (spec_JudgeOnce_L4 N0) (fun i => (xs, kn, li, fr, gv, sh, lg, (i : Int))) (freeAt li lg) false () li.length (fun m i hi => by
      rw [spec_JudgeOnce_L4]; dsimp only
      rw [lt_t hi, cond_true, spec7 hs hw hi]
      cases freeAt li lg i with
      | false => rfl
      | true =>
        show spec_JudgeOnce_L4 N0 m (xs, kn, li, fr, gv, sh, lg, IntKind.i64.wrap ((i : Int) + (1 : Int))) = _
        rw [step_wrap hi hli]; rfl) (fun m => by
      rw [spec_JudgeOnce_L4]; dsimp only; rw [lt_f]; rfl) N0 0 (Nat.zero_le _) (by have := n0; omega)
    rw [Nat.sub_zero] at h
    show ((spec_JudgeOnce_L4 N0 N0 (xs, kn, li, fr, gv, sh, lg, (0 : Int))).bind _) = _
    rw [show spec_JudgeOnce_L4 N0 N0 (xs, kn, li, fr, gv, sh, lg, (0 : Int)) = _ from h]
    cases allN (freeAt li lg) 0 li.length <;> rfl

theorem judgeOnce_law (hb : Big xs kn li gv sh lg) : laws_FnExactJudgeOnce N0 (xs, kn, li, fr, gv, sh, lg) = some true := by
  obtain ⟨q, h1, h2⟩ := szWorld_ex (fr := fr) hb
  rw [laws_FnExactJudgeOnce]; dsimp only
  rw [h1]
  simp only [Option.bind_some]
  rcases h2 with h2 | ⟨h2, hs⟩
  · rw [decide_eq_true h2]; rfl
  · rw [decide_eq_false (by omega : ¬ q < 0), cond_false]
    simp only [toWorld_eq hs, Option.bind_some, implJudge_eq hs, specJudge_eq hs, bne_self_eq_false, cond_false, eqWorld_self hs, Bool.not_true]
end
theorem judgeOnce_law_td (x : TD (entys (parEns 0 (S4 0).pars))) (hx : FitsTD _ x) : laws_FnExactJudgeOnce N0 x = some true := by
  obtain ⟨xs, kn, li, fr, gv, sh, lg⟩ := x
  exact judgeOnce_law (big_of (hx ⟨_, xs⟩ (.head _)) (hx ⟨_, kn⟩ (.tail _ (.head _))) (hx ⟨_, li⟩ (.tail _ (.tail _ (.head _)))) (hx ⟨_, gv⟩ (.tail _ (.tail _ (.tail _ (.tail _ (.head _)))))) (hx ⟨_, sh⟩ (.tail _ (.tail _ (.tail _ (.tail _ (.tail _ (.head _))))))) (hx ⟨_, lg⟩ (.tail _ (.tail _ (.tail _ (.tail _ (.tail _ (.tail _ (.head _)))))))))
end AM
end Go.Proofs.YtpcdcnmmkfhliaaGreatDoor
