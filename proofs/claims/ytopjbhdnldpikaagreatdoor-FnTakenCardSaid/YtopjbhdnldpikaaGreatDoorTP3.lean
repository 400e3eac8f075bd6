/- A term that a drawn instance takes it takes once; a drawn instance that goes on is right behind it. Under: the drawn bytes are no longer than memory. And what follows it: see the remarks. -/
import Derived.Test.YtopjbhdnldpikaaGreatDoorTP2
namespace Go.Proofs.YtopjbhdnldpikaaGreatDoor
namespace AM
open Go
set_option linter.unusedVariables false
set_option linter.unusedSimpArgs false
theorem drawTake_ok {b : List Int} (hb : b.length ≤ 4294967296) : ∃ xs w p a c at_ e d dd k t, spec_DrawInstTake N0 b = some (xs, w, p, a, c, at_, e, d, dd, k, t) ∧ xs.length ≤ 500 ∧ e.length ≤ 26 := by
 unfold spec_DrawInstTake spec_DrawInstTake_R2
 obtain ⟨xs, w, p, a, c, at_, e, d, dd, k, t, nx, e1, q1, q2⟩ := l13Draw_ok hb
 rw [e1, Option.bind_some]
 exact ⟨_, _, _, _, _, _, _, _, _, _, _, rfl, q1, q2⟩
theorem keptI_loop {env e : List Int} {w p a b at_ k w' p' a' b' at' k' : Int} {d dd d' dd' : Bool} {ys : List Node3} (he : env.length = 26) (hl : e.length = 26) (hk : Keeps env e) : ∀ (m j : Nat), j ≤ 26 → 26 < m + j → laws_FnTaken_L13 N0 m (w, p, a, b, at_, env, d, dd, k, ys, w', p', a', b', at', e, d', dd', k', (j : Int)) = some (Sum.inr (w, p, a, b, at_, env, d, dd, k, ys, w', p', a', b', at', e, d', dd', k'))
 | 0, j, hj, hm => by omega
 | m + 1, j, hj, hm => by
  unfold laws_FnTaken_L13
  dsimp only
  by_cases hq : j < 26
  ·have wj : IntKind.i64.wrap ((j : Int) + 1) = ((j + 1 : Nat) : Int) := by rw [wrap_ok (by omega) (by omega)]; omega
   have ih := keptI_loop he hl hk m (j + 1) (by omega) (by omega) (w := w) (p := p) (a := a) (b := b) (at_ := at_) (k := k) (w' := w') (p' := p') (a' := a') (b' := b') (at' := at') (k' := k') (d := d) (dd := dd) (d' := d') (dd' := dd') (ys := ys)
   rw [decide_eq_true (show (j : Int) < 26 by omega), cond_true, inb_nat (show j < env.length by omega), inb_nat (show j < e.length by omega), cond_true, cond_true, cond_true, Int.toNat_natCast, wj]
   cases hn : (env.getD j 0 != -1) with
   | true =>
    have hk := hk j (by rw [bne_iff_ne] at hn; exact hn)
    rw [cond_true, hk, bne_self_eq_false, cond_false]
    exact ih
   | false =>
    rw [cond_false]
    exact ih
  ·rw [decide_eq_false (show ¬ (j : Int) < 26 by omega), cond_false]
theorem taken_law (x : List Int) (hx : x.length ≤ 9223372036854775807) : laws_FnTaken N0 x = some true := by
 have hN := n0
 unfold laws_FnTaken laws_big
 rw [Option.bind_some]
 by_cases hb : (x.length : Int) > 1048576
 ·rw [decide_eq_true hb]; rfl
 ·rw [decide_eq_false hb, cond_false]
  obtain ⟨xs, w, p, a, c, at_, env, d, dd, k, t, e1, q1, q2⟩ := drawTake_ok (b := x) (by omega)
  rw [e1, Option.bind_some]
  dsimp only
  have hS := (instV_eq (xs := xs) (by omega) (x := (w, p, a, c, at_, env, d, dd, k)) (show env.length ≤ 4294967296 by omega)).2
  dsimp only at hS
  rcases take_full (t := t) (xs := xs) (by omega) (env := env) (by omega) (w := w) (p := p) (a := a) (b := c) (at_ := at_) (d := d) (dd := dd) (key := k) with ⟨h, r1, r2⟩ | ⟨h, r1, r2⟩ | ⟨h, ys, e, r1, r2, v1, v2, v3, v4, v5⟩
  ·rw [r1, r2, Option.bind_some, Option.bind_some, hS, h]
   dsimp only
   rw [bne_self_eq_false, bne_self_eq_false, cond_false, cond_false, sameInts_self (by simp), Option.bind_some]
   rfl
  ·rw [r1, r2, Option.bind_some, Option.bind_some, hS, h]
   dsimp only
   rw [bne_self_eq_false, bne_self_eq_false, cond_false, cond_false, sameInts_self (by omega), Option.bind_some]
   simp only [Bool.not_true, Bool.not_false, cond_false, cond_true, Option.bind_some, beq_self_eq_true]
  ·have g := good_of (xs := xs) (by omega) (x := (w, p, a, c, at_, env, d, dd, k)) (show env.length ≤ 4294967296 by omega) h
   have he : env.length = 26 := g.len
   have g0 : 0 ≤ at_ := g.at0.1
   have wat : IntKind.i64.wrap (at_ + 1) = at_ + 1 := wrap_ok (by omega) (by omega)
   obtain ⟨_, _, _, _, _, _, t1, t2, t3, t4, _⟩ := take_spec (t := t) (xs := xs) (by omega) (env := env) (by omega) h
   have hys : ys.length ≤ 4294967296 := by
    have : spec_InstTake N0 (xs, w, p, a, c, at_, env, d, dd, k, t) = _ := r2
    unfold spec_InstTake at r2
    dsimp only at r2
    rw [hS, h, Option.bind_some, Bool.not_true, cond_false, t1, Option.bind_some] at r2
    unfold spec_InstTake_R4 at r2
    dsimp only at r2
    have hl := poolB_len t4
    rw [copyS_eq (by omega), Option.bind_some] at r2
    obtain ⟨z, z1, z2⟩ := Option.bind_eq_some_iff.1 r2
    obtain ⟨z', z3, z4⟩ := Option.bind_eq_some_iff.1 z1
    have z4 := Option.some.inj z4
    have z2 := Option.some.inj z2
    rw [← z4] at z2
    have := congrArg Prod.fst z2
    dsimp only at this
    rw [← this]; omega
   have hI := (instV_eq (xs := ys) hys (x := (w, p, a, c, at_ + 1, e, false, false, k)) (show e.length ≤ 4294967296 by omega)).1
   dsimp only at hI
   have kl := keptI_loop (w := w) (p := p) (a := a) (b := c) (at_ := at_) (k := k) (w' := w) (p' := p) (a' := a) (b' := c) (at' := at_ + 1) (k' := k) (d := d) (dd := dd) (d' := false) (dd' := false) (ys := ys) he v3 v2 N0 0 (by omega) (by omega)
   rw [show ((0 : Nat) : Int) = (0 : Int) from rfl] at kl
   rw [r1, r2, Option.bind_some, Option.bind_some, hS, h]
   dsimp only
   rw [bne_self_eq_false, bne_self_eq_false, cond_false, cond_false, sameInts_self (by omega), Option.bind_some]
   simp only [Bool.not_true, cond_false, Option.bind_some]
   rw [kl, Option.bind_some]
   dsimp only
   rw [wat, beq_self_eq_true, cond_true, hI, v1]
   rfl
theorem taken_law_td (x : TD (entys (parEns 0 (S3 0).pars))) (hx : FitsTD _ x) : laws_FnTaken N0 x = some true := by
 have h1 : Fits (.sl (.int .u8)) x := hx ⟨.sl (.int .u8), x⟩ (.head _)
 exact taken_law x (maxLen_eq ▸ h1.1)
end AM
end Go.Proofs.YtopjbhdnldpikaaGreatDoor
