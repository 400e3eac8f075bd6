/- Loops, and the code of a function. Under: the callees obey their summaries, the loops theirs. -/
import Derived.Test.YtpcdcnmmkfhliaaGreatDoorAMv3
namespace Go.Proofs.YtpcdcnmmkfhliaaGreatDoor
namespace AM
open Go
set_option linter.unusedSimpArgs false
set_option linter.unusedVariables false

section
variable {P : Program} {X : Ctx} {L : Nm → Value} {I : Nat → Prop} {s : St} {a : Act} {w : World} {R : Type}

/-! ## Loops and code -/
def ExIs : Ex → Exit → Prop
  | .normal, .normal => True
  | .exit i, .exit j => i = j
  | .ret, .ret => True
  | _, _ => False

def PostX (X : Ctx) (L : Nm → Value) (k : Ex → St → Option R) (y : R) (e : Exit) (a : Act) (w : World) : Prop :=
  ∃ x s' L' I', ExIs x e ∧ Rel X L' I' s' a w ∧ (∀ n, kept n = true → L' n = L n) ∧ k x s' = some y

/-- A region whose orders have been listed comes to what its summary says. -/
def RegOk (E : Env) (id : Nat) (ops : Array Oper) : Prop := ∀ S, E.Ω id = some S → aftOk ops.toList = true ∧ ∀ x y, S.g x = some y → ∀ π ∈ exts ops.toList, opsK E ops.toList (opsOf ops.toList π) (mkSt S.ent x) (fun s' => getEns E.N S.out s') = some y

/-- The loops in the code come to what their summaries say. -/
def LoopsOk (E : Env) : Code → Prop
  | .region id ops _ => RegOk E id ops
  | .seq a b => LoopsOk E a ∧ LoopsOk E b
  | .cond _ a b => LoopsOk E a ∧ LoopsOk E b
  | .block _ c => LoopsOk E c
  | .loop c => LoopsOk E c ∧ ∀ S, E.Λ (key c) = some S → ∃ f : Nat → TD (entys S.ent) → Option (EX S.exs), (∀ x, f 0 x = none) ∧ (∃ n, S.g = f n) ∧ ∀ n x, f (n + 1) x = runL E c S (f n) x
  | _ => True

theorem eqbX {x y : Ex} (h : Ex.eqb x y = true) : x = y := by
  cases x <;> cases y <;> first | rfl | (cases h; done) | exact congrArg Ex.exit (Nat.eq_of_beq_eq_true h)

theorem exIn_sound {N : Nat} : ∀ {l : List (Ex × List En)} {x : Ex} {s : St} {y : EX l}, exIn N l x s = some y → ∃ es, ∃ z : TD (entys es), getEns N es s = some z ∧ ∀ (R : Type) (k : Ex → St → Option R), exOut l y k = k x (mkSt es z)
  | [], _, _, _, h => by cases h
  | [e], x, s, y, h => by
    unfold exIn at h
    cases q : Ex.eqb e.1 x with
    | false => rw [q] at h; cases h
    | true =>
      rw [q] at h
      have := eqbX q
      exact ⟨e.2, y, h, fun R k => by show k e.1 _ = _; rw [this]⟩
  | e :: f :: r, x, s, y, h => by
    unfold exIn at h
    cases q : Ex.eqb e.1 x with
    | false =>
      rw [q] at h
      simp only [cond_false] at h
      split at h
      · rename_i y' e1
        obtain rfl := Option.some.inj h
        obtain ⟨es, z, g1, g2⟩ := exIn_sound e1
        exact ⟨es, z, g1, fun R k => g2 R k⟩
      · cases h
    | true =>
      rw [q] at h
      simp only [cond_true] at h
      split at h
      · rename_i y' e1
        obtain rfl := Option.some.inj h
        exact ⟨e.2, y', e1, fun R k => by show k e.1 _ = _; rw [eqbX q]⟩
      · cases h

theorem getEns_sound (h : Rel X L I s a w) {es : List En} {x : TD (entys es)} (e : getEns X.N es s = some x) : ∃ L' I', Rel X L' I' (mkSt es x) a w ∧ ∀ n, kept n = true → L' n = L n := by
  obtain ⟨L', I', h1, _, h2⟩ := shut_sound h e (us := es.map fun e => a.tmps.getD e.slot undef) (by
    clear e x
    induction es with
    | nil => trivial
    | cons en es ih => exact ⟨h.slot en.slot, ih⟩) (a' := a) h.defers h.size (fun i en u z1 z2 => by
      rw [List.getElem?_map, z1] at z2
      exact Option.some.inj z2)
  exact ⟨L', I', h1, h2⟩

theorem PostX.trans {k : Ex → St → Option R} {y : R} {L1 : Nm → Value} {e : Exit} (hk : ∀ n, kept n = true → L1 n = L n) (h : PostX X L1 k y e a w) : PostX X L k y e a w := by
  obtain ⟨x, s', L', I', h1, h2, h3, h4⟩ := h
  exact ⟨x, s', L', I', h1, h2, fun n hn => (h3 n hn).trans (hk n hn), h4⟩

theorem draw_sound {E : Env} (hE : EnvOk P X.K E) (hN : E.N = X.N) (h : Rel X L I s a w) {id : Nat} {ops : Array Oper} (hr : RegOk E id ops) {k : Ex → St → Option R} {y : R} (e : exec E (.region id ops true) s k = some y) :
    (Code.region id ops true).wp P (PostX X L k y) a w := by
  simp only [exec] at e
  cases q : drawOk ops.toList (plains E ops.toList) with
  | false =>
    rw [q] at e
    simp only [cond_false] at e
    unfold exReg at e
    split at e
    · rename_i S hS
      split at e
      · rename_i x hx
        split at e
        · rename_i z hz
          obtain ⟨ha, hall⟩ := hr S hS
          have hall := hall x z hz
          rw [hN] at hx
          obtain ⟨L1, I1, h1, hk1⟩ := getEns_sound h hx
          refine wp_region_any hE.mo ?_
          have hg : Rel X L1 I1 (mkSt S.ent x) a { w with drawn := w.drawn + 1 } := h1.grows (Step.drew _ w)
          have := draw_enum (L := L) (k := fun s' => getEns E.N S.out s') (y := z) (Q := PostX X L k y) (l := ops.toList) hE hN (aft_of ha) (fun a' w' hp => by
            obtain ⟨s', L', I', r1, r2, r3⟩ := hp
            rw [hN] at r3
            obtain ⟨L2, I2, h2, hk2⟩ := getEns_sound r1 r3
            exact ⟨.normal, _, L2, I2, trivial, h2, fun n hn => (hk2 n hn).trans (r2 n hn), e⟩) ops.toList.length (List.range ops.toList.length) (Array.replicate ops.size false) (by simp) ⟨by simp, fun i hi => List.mem_range.1 hi, List.nodup_range, fun i hi => by
              have hi' : i < ops.size := by simpa using hi
              simp [hi']⟩ hg hk1 hall
          rw [Array.length_toList] at this
          exact this
        · cases e
      · cases e
    · cases e
  | true =>
    rw [q] at e
    simp only [cond_true] at e
    refine wp_region_any hE.mo ?_
    have hg : Rel X L I s a { w with drawn := w.drawn + 1 } := h.grows (Step.drew _ w)
    have hle := plains_le E ops.toList
    obtain ⟨hl, hlen⟩ := left_start hle q
    have := draw_any (L := L) (k := k .normal) (y := y) (Q := PostX X L k y) (l := ops.toList) hE hN (fun a' w' hp => by
      obtain ⟨s', L', I', r1, r2, r3⟩ := hp
      exact ⟨.normal, s', L', I', trivial, r1, r2, r3⟩) ops.size (plainIdx ops.toList (plains E ops.toList)) (tailIdx ops.toList (plains E ops.toList)) (Array.replicate ops.size false) (by
        rw [hlen, Array.length_toList]) (by rw [← Array.length_toList]; exact hl) hg (fun _ _ => rfl) e
    exact this

theorem exec_sound {E : Env} (hE : EnvOk P X.K E) (hN : E.N = X.N) : ∀ (c : Code), LoopsOk E c → ∀ {R : Type} {k : Ex → St → Option R} {y : R} {L : Nm → Value} {I : Nat → Prop} {s : St} {a : Act} {w : World}, Rel X L I s a w → exec E c s k = some y →
    c.wp P (PostX X L k y) a w := by
  intro c
  induction c with
  | skip => intro _ R k y L I s a w h e; exact wp_skip ⟨.normal, s, L, I, trivial, h, fun _ _ => rfl, e⟩
  | exit id => intro _ R k y L I s a w h e; exact wp_exit ⟨.exit id, s, L, I, rfl, h, fun _ _ => rfl, e⟩
  | ret => intro _ R k y L I s a w h e; exact wp_ret ⟨.ret, s, L, I, trivial, h, fun _ _ => rfl, e⟩
  | region id ops draw =>
    intro hl R k y L I s a w h e
    cases draw with
    | true => exact draw_sound hE hN h hl e
    | false =>
      refine wp_region_list ?_
      refine opsK_sound (L := L) (k := k .normal) (y := y) (all := ops.toList) hE hN (fun a' w' hp => ?_) h (fun _ _ => rfl) e
      obtain ⟨s', L', I', r1, r2, r3⟩ := hp
      exact ⟨.normal, s', L', I', trivial, r1, r2, r3⟩
  | seq x z ihx ihz =>
    intro hl R k y L I s a w h e
    refine wp_seq (Go.wp_mono (ihx hl.1 h e) fun en a' w' hp => ?_)
    obtain ⟨x', s', L', I', h1, r1, r2, r3⟩ := hp
    cases x' with
    | normal =>
      cases en <;> try exact h1.elim
      exact Go.wp_mono (ihz hl.2 r1 r3) fun _ _ _ q => PostX.trans r2 q
    | exit i =>
      cases en <;> try exact h1.elim
      exact ⟨.exit i, s', L', I', h1, r1, r2, r3⟩
    | ret =>
      cases en <;> try exact h1.elim
      exact ⟨.ret, s', L', I', h1, r1, r2, r3⟩
  | cond c x z ihx ihz =>
    intro hl R k y L I s a w h e
    simp only [exec] at e
    split at e
    · rename_i b hb
      have hv := h.ev c
      rw [isTmp_eq hb] at hv
      have hv : a.eval c = .bool b := List.head_eq_of_cons_eq hv
      cases b with
      | true => simp only [know_eq hb] at e; exact wp_cond_true hv (ihx hl.1 h e)
      | false => simp only [know_eq hb] at e; exact wp_cond_false hv (ihz hl.2 h e)
    · cases e
  | block id c ih =>
    intro hl R k y L I s a w h e
    refine wp_block (Go.wp_mono (ih hl h e) fun en a' w' hp => ?_)
    obtain ⟨x', s', L', I', h1, r1, r2, r3⟩ := hp
    cases x' with
    | normal =>
      cases en <;> try exact h1.elim
      exact ⟨.normal, s', L', I', trivial, r1, r2, r3⟩
    | exit i =>
      cases en with
      | exit j =>
        obtain rfl : i = j := h1
        dsimp only at r3
        show if i = id then PostX X L k y .normal a' w' else PostX X L k y (.exit i) a' w'
        cases q : Nat.beq i id with
        | true =>
          rw [q] at r3
          rw [if_pos (Nat.eq_of_beq_eq_true q)]
          exact ⟨.normal, s', L', I', trivial, r1, r2, r3⟩
        | false =>
          rw [q] at r3
          rw [if_neg (Nat.ne_of_beq_eq_false q)]
          exact ⟨.exit i, s', L', I', rfl, r1, r2, r3⟩
      | _ => exact h1.elim
    | ret =>
      cases en <;> try exact h1.elim
      exact ⟨.ret, s', L', I', trivial, r1, r2, r3⟩
  | loop c ih =>
    intro hl R k y L I s a w h e
    simp only [exec] at e
    split at e
    · rename_i S hS
      split at e
      · rename_i x hx
        split at e
        · rename_i z hz
          obtain ⟨f, f0, ⟨n, hn⟩, fs⟩ := hl.2 S hS
          rw [hn] at hz
          rw [hN] at hx
          obtain ⟨L1, I1, h1, hk1⟩ := getEns_sound h hx
          refine wp_loop_rounds n ?_
          have main : ∀ n x, f n x = some z → ∀ {L1 : Nm → Value} {I1 : Nat → Prop} {a : Act} {w : World}, Rel X L1 I1 (mkSt S.ent x) a w → (∀ n, kept n = true → L1 n = L n) → Code.rounds P c (PostX X L k y) n a w := by
            intro n
            induction n with
            | zero => intro x hx; rw [f0] at hx; cases hx
            | succ n ihn =>
              intro x hx L1 I1 a w h1 hk1
              rw [fs] at hx
              rw [rounds_succ]
              refine Go.wp_mono (ih hl.1 h1 hx) fun en a' w' hp => ?_
              obtain ⟨x', s', L', I', g1, r1, r2, r3⟩ := hp
              have ends : ∀ {ex : Ex}, ExIs ex en → exIn E.N S.exs ex s' = some z → PostX X L k y en a' w' := by
                intro ex g1 r3
                obtain ⟨es, z', g2, g3⟩ := exIn_sound r3
                rw [hN] at g2
                obtain ⟨L2, I2, h2, hk2⟩ := getEns_sound r1 g2
                refine ⟨ex, _, L2, I2, g1, h2, fun n hn => (hk2 n hn).trans ((r2 n hn).trans (hk1 n hn)), ?_⟩
                rw [← g3 R k]; exact e
              cases x' with
              | normal =>
                cases en <;> try exact g1.elim
                dsimp only at r3
                split at r3
                · rename_i x2 hx2
                  rw [hN] at hx2
                  obtain ⟨L2, I2, h2, hk2⟩ := getEns_sound r1 hx2
                  exact ihn x2 r3 h2 (fun n hn => (hk2 n hn).trans ((r2 n hn).trans (hk1 n hn)))
                · cases r3
              | exit i =>
                cases en <;> try exact g1.elim
                exact ends (ex := .exit i) g1 r3
              | ret =>
                cases en <;> try exact g1.elim
                exact ends (ex := .ret) g1 r3
          exact main n x hz h1 hk1
        · cases e
      · cases e
    · cases e
  | _ => intro _ R k y L I s a w h e; cases e
end
end AM
end Go.Proofs.YtpcdcnmmkfhliaaGreatDoor
