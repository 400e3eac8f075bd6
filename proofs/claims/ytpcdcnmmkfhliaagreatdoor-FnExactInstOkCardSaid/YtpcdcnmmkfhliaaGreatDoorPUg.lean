/- The law FnExactInstOk, as a plain function, comes to true. No condition but that lists are no longer than memory. -/
import Derived.Test.YtpcdcnmmkfhliaaGreatDoorPUf
namespace Go.Proofs.YtpcdcnmmkfhliaaGreatDoor
namespace AM
open Go
set_option linter.unusedVariables false
set_option linter.unusedSimpArgs false

theorem role_out (w p : Int) (h : ¬ ((w = 1 ∨ w = 2 ∨ w = 3) ∧ (p = 0 ∨ p = 1))) : impl_roleOf N0 (w, p) = some ([], false) ∧ spec_l13Role N0 (w, p) = some false := by
  constructor
  · have e1 : impl_RoleText N0 (w, p) = some (⟨#[]⟩ : ByteArray) := by
      unfold impl_RoleText
      simp only [inRange_eq, Option.bind_some]
      by_cases h1 : decide (w ≥ 1) && decide (w ≤ 3)
      · rw [h1]
        have h2 : (decide (p ≥ 0) && decide (p ≤ 1)) = false := by
          rw [Bool.eq_false_iff]
          intro h2
          simp at h1 h2
          omega
        rw [h2]; rfl
      · rw [Bool.not_eq_true] at h1
        rw [h1]; rfl
    show ((impl_RoleText N0 (w, p)).bind _) = _
    rw [e1]
    show ((impl_RoleParse N0 (⟨#[]⟩ : ByteArray)).bind fun r2 => some (r2.1, r2.2)) = _
    rw [show impl_RoleParse N0 (⟨#[]⟩ : ByteArray) = some ([], false) by kernel_rfl]; rfl
  · have e1 : spec_RoleText N0 (w, p) = some (⟨#[]⟩ : ByteArray) := by
      unfold spec_RoleText
      have q : ∀ a b : Int, (w == a) = decide (w = a) := fun a b => rfl
      by_cases w1 : w = 1
      · subst w1
        have p0 : (p == 0) = false := by simp; omega
        have p1 : (p == 1) = false := by simp; omega
        simp only [p0, p1]; rfl
      · by_cases w2 : w = 2
        · subst w2
          have p0 : (p == 0) = false := by simp; omega
          have p1 : (p == 1) = false := by simp; omega
          simp only [p0, p1]; rfl
        · by_cases w3 : w = 3
          · subst w3
            have p0 : (p == 0) = false := by simp; omega
            have p1 : (p == 1) = false := by simp; omega
            simp only [p0, p1]; rfl
          · have e1 : (w == 1) = false := by simpa using w1
            have e2 : (w == 2) = false := by simpa using w2
            have e3 : (w == 3) = false := by simpa using w3
            simp only [e1, e2, e3]; rfl
    show ((spec_RoleText N0 (w, p)).bind fun r1 => some (!strEq r1 (⟨#[]⟩ : ByteArray))) = _
    rw [e1]
    show some (!strEq (⟨#[]⟩ : ByteArray) (⟨#[]⟩ : ByteArray)) = _
    rw [show strEq (⟨#[]⟩ : ByteArray) (⟨#[]⟩ : ByteArray) = true from decide_eq_true rfl]; rfl

theorem agent_eq (n : Nat) (x : Int) : impl_isAgent n x = some (decide (x ≥ 0) && decide (x ≤ 4)) := by
  show ((impl_inRange n (x, (0 : Int), (4 : Int))).bind fun r => some r) = _
  rw [inRange_eq]; rfl
theorem agent2_eq (n : Nat) (x : Int) : spec_l2Agent n x = some (decide (x ≥ 0) && decide (x ≤ 4)) := agent_eq n x

theorem n0 : 4294967296 < N0 := by decide

theorem inst_same {xs : List Node3} (hx : xs.length ≤ 4294967296) {w p a b at_ : Int} {env : List Int} (he : env.length ≤ 4294967296) {dn dd : Bool} {key : Int} :
    ∃ v, impl_InstOk N0 (xs, w, p, a, b, at_, env, dn, dd, key) = some v ∧ spec_InstOk N0 (xs, w, p, a, b, at_, env, dn, dd, key) = some v := by
  unfold impl_InstOk spec_InstOk spec_l13Inst
  simp only [specPool_eq N0 n0 hx, implEnv_eq N0 n0 hx he, specEnv_eq N0 n0 hx, agent_eq, agent2_eq, Option.bind_some]
  by_cases hr : (w = 1 ∨ w = 2 ∨ w = 3) ∧ (p = 0 ∨ p = 1)
  · obtain ⟨ra, rb, r1, r2, r3, r4, r5⟩ := role_in w p hr.1 hr.2
    rw [r1, r2, r5]
    simp only [Option.bind_some, inRange_eq, in_eq, isTerm_eq N0 hx, has_eq N0 hx, ← r3, wrap_ok (show -9223372036854775808 ≤ (ra.length : Int) - 1 by omega) (show (ra.length : Int) - 1 ≤ 9223372036854775807 by omega)]
    generalize (decide (a ≥ 0) && decide (a ≤ 4)) = A
    generalize (decide (b ≥ 0) && decide (b ≤ 4)) = B
    generalize (a == b) = C
    generalize envB xs env = D
    generalize decide (env.length = 26) = F
    generalize (decide (xs.length ≤ 500) && okFrom N0 [] xs) = G
    generalize hasB xs key = H
    generalize (key == -1) = K
    have hq : (at_ == (ra.length : Int)) = true → (decide (at_ ≥ 0) && decide (at_ ≤ (ra.length : Int))) = true := by
      intro h
      have : at_ = (ra.length : Int) := by simpa using h
      simp; omega
    have hq2 : (at_ == (ra.length : Int)) = false → (decide (at_ ≥ 0) && decide (at_ ≤ (ra.length : Int) - 1)) = (decide (at_ ≥ 0) && decide (at_ ≤ (ra.length : Int))) := by
      intro h
      have : at_ ≠ (ra.length : Int) := by simpa using h
      congr 1
      rw [Bool.eq_iff_iff]; simp; omega
    have hq3 : (at_ == (ra.length : Int)) = true → (decide (at_ ≥ 0) && decide (at_ ≤ (ra.length : Int) - 1)) = false := by
      intro h
      have : at_ = (ra.length : Int) := by simpa using h
      rw [Bool.and_eq_false_iff]; right; simp; omega
    revert hq hq2 hq3
    generalize (at_ == (ra.length : Int)) = M
    generalize (decide (at_ ≥ 0) && decide (at_ ≤ (ra.length : Int))) = R
    generalize (decide (at_ ≥ 0) && decide (at_ ≤ (ra.length : Int) - 1)) = R2
    intro hq hq2 hq3
    cases M
    · have := hq2 rfl
      subst this
      refine ⟨A && (B && (!C && (D && (F && (G && (R2 && (!dn && K))))))), ?_, ?_⟩ <;> clear hq hq2 hq3 <;> revert A B C D F G H K R2 dn dd <;> decide
    · have h1 := hq rfl
      have h2 := hq3 rfl
      subst h1; subst h2
      refine ⟨A && (B && (!C && (D && (F && (G && (dn && (!dd && H))))))), ?_, ?_⟩ <;> clear hq hq2 hq3 <;> revert A B C D F G H K dn dd <;> decide
  · obtain ⟨r1, r2⟩ := role_out w p hr
    rw [r1, r2]
    refine ⟨false, rfl, ?_⟩
    cases (decide (xs.length ≤ 500) && okFrom N0 [] xs) <;> rfl

theorem szPool_eq (n : Nat) {xs : List Node3} (hx : xs.length ≤ 9223372036854775807) : laws_szPool n (xs, (1048576 : Int)) = some (if xs.length ≤ 1048576 then (1048576 : Int) - (xs.length : Int) else -1) := by
  unfold laws_szPool laws_szNodeS
  simp only [wrap_ok (show -9223372036854775808 ≤ (1048576 : Int) - (xs.length : Int) by omega) (show (1048576 : Int) - (xs.length : Int) ≤ 9223372036854775807 by omega)]
  by_cases q : xs.length ≤ 1048576
  · rw [if_pos q, decide_eq_false (by omega : ¬ (1048576 : Int) - (xs.length : Int) < (0 : Int))]
    simp only [cond_false, Option.bind_some]
    rw [decide_eq_false (by omega : ¬ (1048576 : Int) - (xs.length : Int) < (0 : Int))]; rfl
  · rw [if_neg q, decide_eq_true (by omega : (1048576 : Int) - (xs.length : Int) < (0 : Int))]; rfl
theorem szInst_eq (n : Nat) {w p a b at_ : Int} {env : List Int} {dn dd : Bool} {key r : Int} (hr : 0 ≤ r ∧ r ≤ 1048576) (he : env.length ≤ 9223372036854775807) : laws_szInst n (w, p, a, b, at_, env, dn, dd, key, r) = some (if (env.length : Int) ≤ r then r - (env.length : Int) else -1) := by
  unfold laws_szInst laws_szIntS
  simp only [wrap_ok (show -9223372036854775808 ≤ r - (env.length : Int) by omega) (show r - (env.length : Int) ≤ 9223372036854775807 by omega)]
  by_cases q : (env.length : Int) ≤ r
  · rw [if_pos q, decide_eq_false (by omega : ¬ r - (env.length : Int) < (0 : Int))]
    simp only [cond_false, Option.bind_some]
    rw [decide_eq_false (by omega : ¬ r - (env.length : Int) < (0 : Int))]; rfl
  · rw [if_neg q, decide_eq_true (by omega : r - (env.length : Int) < (0 : Int))]; rfl

theorem instOk_law (xs : List Node3) (w p a b at_ : Int) (env : List Int) (dn dd : Bool) (key : Int) (hx : xs.length ≤ 9223372036854775807) (he : env.length ≤ 9223372036854775807) :
    laws_FnExactInstOk N0 (xs, w, p, a, b, at_, env, dn, dd, key) = some true := by
  unfold laws_FnExactInstOk
  simp only [szPool_eq N0 hx, Option.bind_some]
  by_cases q : xs.length ≤ 1048576
  · rw [if_pos q, decide_eq_false (by omega : ¬ (1048576 : Int) - (xs.length : Int) < (0 : Int)), cond_false, szInst_eq N0 (by omega) he]
    simp only [Option.bind_some]
    by_cases q2 : (env.length : Int) ≤ (1048576 : Int) - (xs.length : Int)
    · rw [if_pos q2, decide_eq_false (by omega : ¬ (1048576 : Int) - (xs.length : Int) - (env.length : Int) < (0 : Int)), cond_false]
      have hx' : xs.length ≤ 4294967296 := by omega
      have he' : env.length ≤ 4294967296 := by omega
      obtain ⟨v, g1, g2⟩ := inst_same hx' (w := w) (p := p) (a := a) (b := b) (at_ := at_) he' (dn := dn) (dd := dd) (key := key)
      simp only [toPool_eq N0 n0 hx', toInst_eq N0 n0 he', Option.bind_some, g1, g2, bne_self_eq_false, cond_false, eqPool_self N0 n0 hx', Bool.not_true, eqInst_self N0 n0 he']
    · rw [if_neg q2]; rfl
  · rw [if_neg q]; rfl
theorem maxLen_eq : maxLen = 9223372036854775807 := by decide

theorem instOk_law_td (x : TD (entys (parEns 0 (S3 0).pars))) (hx : FitsTD _ x) : laws_FnExactInstOk N0 x = some true := by
  obtain ⟨xs, w, p, a, b, at_, env, dn, dd, key⟩ := x
  have h1 : Fits (.sl kN) xs := hx ⟨.sl kN, xs⟩ (.head _)
  have h2 : Fits (.sl (.int .i64)) env := hx ⟨.sl (.int .i64), env⟩ (.tail _ (.tail _ (.tail _ (.tail _ (.tail _ (.tail _ (.head _)))))))
  exact instOk_law xs w p a b at_ env dn dd key (maxLen_eq ▸ h1.1) (maxLen_eq ▸ h2.1)
end AM
end Go.Proofs.YtpcdcnmmkfhliaaGreatDoor
