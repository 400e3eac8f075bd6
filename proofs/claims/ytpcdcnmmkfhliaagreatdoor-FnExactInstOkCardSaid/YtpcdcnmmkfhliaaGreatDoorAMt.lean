/- The code of a function. Under: the callees obey their summaries, the loops theirs. -/
import Derived.Test.YtpcdcnmmkfhliaaGreatDoorAMs
import Derived.LoopN
namespace Go.Proofs.YtpcdcnmmkfhliaaGreatDoor
namespace AM
open Go
set_option linter.unusedSimpArgs false
set_option linter.unusedVariables false

def Plain (P : Program) (f : FuncId) : Prop := ∃ fn, P.funcs[f]? = some fn ∧ (fn.name == "runtime.NumGoroutine") = false ∧ fn.body.isNone = false

structure EnvOk (P : Program) (K : Glob) (E : Env) : Prop where
  τ : TabOk P E.τ
  Γ : ∀ f d S, E.Γ f d = some S → Plain P f ∧ Obeys P K f S
  mo : P.follows .mixedOrders = true

section
variable {P : Program} {X : Ctx} {L : Nm → Value} {I : Nat → Prop} {s : St} {a : Act} {w : World} {R : Type}

def Target.vals (a : Act) : Target → List Value
  | .fn => []
  | .tmp t => match a.tmps.getD t undef with
    | .func _ _ cs => cs.toList
    | _ => []

theorem caps_ra {A : Nm → Option (Nat × Nat)} : ∀ {cs : List (Nm × Nat)} {us : List Value}, Caps L cs us → All2 (RA L I w A) (cs.map fun p => AV.c (.pb p.1 p.2)) us
  | [], [], _ => trivial
  | p :: ps, u :: us, ⟨h1, h2⟩ => ⟨h1, caps_ra h2⟩
  | [], _ :: _, h => h.elim
  | _ :: _, [], h => h.elim

theorem argsOf_sound (h : Rel X L I s a w) {f : Nat} {c : Target} {xs : List Operand} {vs : List AV} (e : s.argsOf f c xs = some vs) : All2 (RA L I w (AL s.o)) vs (xs.map a.eval ++ c.vals a) := by
  cases c with
  | fn =>
    obtain rfl := Option.some.inj e
    simpa [Target.vals] using evs_sound h xs
  | tmp t =>
    simp only [St.argsOf] at e
    split at e
    · rename_i g cs et
      cases q : Nat.beq f g with
      | false => rw [q] at e; cases e
      | true =>
        rw [q] at e
        obtain rfl := Option.some.inj e
        have r := h.slot t
        rw [et] at r
        obtain ⟨us, r1, r2⟩ := r
        refine (evs_sound h xs).append ?_
        rw [show Target.vals a (.tmp t) = us by simp only [Target.vals, r1]]
        exact caps_ra r2
    · cases e

theorem capAt_sound {A : Nm → Option (Nat × Nat)} {c : CV} {u : Value} (r : RC L I w A c u) (g : Option Nat) : ∃ u', RA L I w A (capAt c g) u' := by
  unfold capAt
  split
  · exact ⟨_, r⟩
  · split
    · rename_i p e
      obtain ⟨us, _, r2⟩ := r
      obtain ⟨u', _, r3⟩ := (caps_ra (I := I) (w := w) (A := A) r2).get (i := _) (a := AV.c (.pb p.1 p.2)) (by rw [List.getElem?_map, e]; rfl)
      exact ⟨u', r3⟩
    · exact ⟨undef, trivial⟩
  · exact ⟨undef, trivial⟩

theorem All2.getD {R : CV → Value → Prop} (hd : ∀ u, R .dead u) {as : List CV} {bs : List Value} (h : All2 R as bs) (i : Nat) : ∃ u, R (as.getD i .dead) u := by
  rw [List.getD_eq_getElem?_getD]
  cases e : as[i]? with
  | none => exact ⟨undef, hd _⟩
  | some a => obtain ⟨u, _, r⟩ := h.get e; exact ⟨u, r⟩

theorem ghost1_sound (h : Rel X L I s a w) {vs : List AV} {us : List Value} (r : All2 (RA L I w (AL s.o)) vs us) (g : Nat × Nat × Option Nat) : ∃ u, RA L I w (AL s.o) (ghost1 s.o vs g) u := by
  unfold ghost1
  split
  · rename_i m off e
    split
    · rename_i cs em
      obtain ⟨b, o, vs', _, r1, _⟩ := h.obj m _ em
      obtain ⟨u, r2⟩ := r1.getD (fun _ => trivial) (off + g.2.1)
      exact capAt_sound r2 _
    · exact ⟨undef, trivial⟩
  · rename_i f cs e
    obtain ⟨u, _, r1⟩ := r.get e
    exact capAt_sound (c := .clo f cs) r1 _
  · rename_i cs e
    obtain ⟨u, _, r1⟩ := r.get e
    obtain ⟨vs', _, r1⟩ := r1
    obtain ⟨u, r2⟩ := r1.getD (fun _ => trivial) g.2.1
    exact capAt_sound r2 _
  · exact ⟨undef, trivial⟩

theorem ghosts_sound (h : Rel X L I s a w) : ∀ (gh : List (Nat × Nat × Option Nat)) {vs : List AV} {us : List Value}, All2 (RA L I w (AL s.o)) vs us → ∃ us', All2 (RA L I w (AL s.o)) (ghosts s.o vs gh) (us ++ us')
  | [], vs, us, r => ⟨[], by simpa [ghosts] using r⟩
  | g :: gh, vs, us, r => by
    obtain ⟨u, r1⟩ := ghost1_sound h r g
    obtain ⟨us', r2⟩ := ghosts_sound h gh (r.append (show All2 (RA L I w (AL s.o)) [ghost1 s.o vs g] [u] from ⟨r1, trivial⟩))
    exact ⟨u :: us', by simpa [ghosts] using r2⟩

theorem callK_sound (h : Rel X L I s a w) {f : FuncId} {S : FSum} {K : Glob} (hK : X.K = K) (ob : Obeys P K f S) {c : Target} {xs : List Operand} {d : Nat} {k : St → Option R} {y : R} (e : callK S f c xs d s k = some y) (hd : d < X.N) :
    Calls P f (xs.map a.eval ++ c.vals a).toArray w fun e w' => ∃ v, e = .returned v ∧ ∃ s' L' I', Rel X L' I' s' (a.put (some d) v) w' ∧ (∀ n, kept n = true → L' n = L n) ∧ k s' = some y := by
  unfold callK at e
  split at e
  · rename_i vs0 ea0
    split at e
    · rename_i ds0 ts0 e0
      have hfr : ∃ I1, (∀ b, I b → I1 b) ∧ Rel X L I1 (bif S.shares then s.frzs (ts0.flatMap Tag.lent) else s) a w := by
        cases S.shares with
        | true => exact Rel.frzs _ h
        | false => exact ⟨I, fun _ q => q, h⟩
      obtain ⟨I1, hI1, h1⟩ := hfr
      generalize (bif S.shares then s.frzs (ts0.flatMap Tag.lent) else s) = s' at e h1
      unfold callAt at e
      split at e
      · rename_i vs ea
        cases q0 : Nat.beq (vs.length + S.gh.length) S.pars.length with
        | false => rw [q0] at e; cases e
        | true =>
        rw [q0] at e
        simp only [cond_true] at e
        have q0 := Nat.eq_of_beq_eq_true q0
        split at e
        · rename_i ds ts e1
          cases q1 : (shapeOk S.pars.length (parEns 0 S.pars) && (tagsOk ts && (bif S.shares then isNil (ts.flatMap Tag.lent) else true))) with
          | false => rw [q1] at e; cases e
          | true =>
            rw [q1] at e
            simp only [cond_true] at e
            rw [Bool.and_eq_true, Bool.and_eq_true] at q1
            obtain ⟨q1, q2, q3⟩ := q1
            split at e
            · rename_i x e2
              split at e
              · rename_i r e3
                split at e
                · rename_i ups e4
                  cases q4 : (callOk S d (s'.drops (ts.flatMap Tag.moved ++ (S.ens.flatMap En.names).map (fun m => d :: m))).o ts (mkVs S.ens (unpack _ r)) (mkBs S.ens (unpack _ r)) ups) with
                  | false => rw [show callOk S d _ ts (mkVs S.ens (unpack _ r)) (mkBs S.ens (unpack _ r)) ups = false from q4] at e; cases e
                  | true =>
                    rw [show callOk S d _ ts (mkVs S.ens (unpack _ r)) (mkBs S.ens (unpack _ r)) ups = true from q4] at e
                    simp only [cond_true] at e
                    let Y : Ctx := { K := X.K, N := S.pars.length, w0 := w, E := fun b o => ∃ t ∈ ts, ∃ n ob, (∃ m, t.pair = [(m, n)]) ∧ s'.o n = some ob ∧ fp L n ob b o ∧ TagFp L t b o, I0 := Lent L I1 ts }
                    have hus0 := argsOf_sound h1 ea
                    obtain ⟨us', hus⟩ := ghosts_sound h1 S.gh hus0
                    have hlen : (xs.map a.eval ++ c.vals a ++ us').length = S.pars.length := by
                      have g1 := getVs_len e1
                      rw [parEns_len] at g1
                      rw [← hus.len, g1]
                    have hreal : (xs.map a.eval ++ c.vals a).length = S.real := by
                      rw [← hus0.len]; unfold FSum.real; omega
                    obtain ⟨Lc, g1, _, g3⟩ := h1.reshape (I' := Lent L I1 ts) (fun b q => .inl q) e1 hus (fun _ => Iff.rfl) q1 q2 (Y := Y) rfl rfl (a' := ⟨(xs.map a.eval ++ c.vals a ++ us').toArray, []⟩) rfl (by simpa using hlen)
                      (fun i en u z1 z2 => by
                        rw [parEns_get z1, Nat.zero_add, Array.getD_eq_getD_getElem?, List.getElem?_toArray, z2]; rfl)
                      (fun t n ob b o z1 z2 z3 z4 z5 _ => ⟨t, z1, n, ob, z2, z3, z4, z5⟩) (fun b q => .inl q) (fun b q => q) (Step.refl _ w) (.inr (parEns_ptr _ 0))
                    have hx : mkSt (parEns 0 S.pars) x = mkD (parEns 0 S.pars) ds := by unfold mkSt; rw [unpack_pack e2]
                    have hc := ob Y Lc _ ⟨(xs.map a.eval ++ c.vals a ++ us').toArray, []⟩ w x r e3 (by rw [hx]; exact g1) hK rfl rfl
                    have hf1 : first S.real (xs.map a.eval ++ c.vals a ++ us').toArray = (xs.map a.eval ++ c.vals a).toArray := by
                      unfold first
                      rw [← hreal, List.toList_toArray, List.take_left]
                    rw [show (⟨(xs.map a.eval ++ c.vals a ++ us').toArray, []⟩ : Act).tmps = (xs.map a.eval ++ c.vals a ++ us').toArray from rfl, hf1] at hc
                    refine Calls.mono hc fun en w' hen => ?_
                    obtain ⟨v, L', I', a', rfl, hE, hk, rfl⟩ := hen
                    have hE' : Rel { Y with N := S.pars.length + (S.res.length + S.nb.length) } L' I' ⟨look (mkVs S.ens (unpack _ r)), lookO (mkBs S.ens (unpack _ r))⟩ a' w' := hE
                    obtain ⟨L2, I2, r1, r2, r3, _⟩ := absorb h1 (d := d) (Y := { Y with N := S.pars.length + (S.res.length + S.nb.length) }) rfl (fun _ _ => Iff.rfl) (fun _ => Iff.rfl) g3 hE' hk q2 (fun hs => by
                      rw [hs] at q3
                      generalize ts.flatMap Tag.lent = l at q3
                      cases l with
                      | nil => rfl
                      | cons _ _ => cases q3) rfl e4 q4 (fun p hp m hm => mkVs_own hp hm) (fun q hq => mkBs_names hq) (fun m cs n z1 z2 => mkBs_own z1 z2) S.pars.length S.res.length
                    exact ⟨_, rfl, _, L2, I2, r1.put (some d) (fun i q => (Option.some.inj q) ▸ hd) r2, r3, e⟩
                · cases e
              · cases e
            · cases e
        · cases e
      · cases e
    · cases e
  · cases e

/-- What an operation comes to. -/
def Post (X : Ctx) (L : Nm → Value) (k : St → Option R) (y : R) (a : Act) (w : World) : Prop :=
  ∃ s' L' I', Rel X L' I' s' a w ∧ (∀ n, kept n = true → L' n = L n) ∧ k s' = some y

theorem opK_sound (h : Rel X L I s a w) {E : Env} (hE : EnvOk P X.K E) (hN : E.N = X.N) {o : Oper} {k : St → Option R} {y : R} (e : opK E o s k = some y) (Q : Exit → Act → World → Prop) :
    o.wp P a w (Post X L k y) Q := by
  unfold opK at e
  split at e
  · rename_i f args ts ho
    split at e
    · rename_i d hd
      split at e
      · rename_i S hS
        cases q : Nat.blt d E.N with
        | false => rw [q] at e; cases e
        | true =>
          rw [q] at e
          simp only [cond_true] at e
          have hdN : d < X.N := by rw [← hN]; exact Nat.le_of_ble_eq_true q
          obtain ⟨⟨fn, p1, p2, p3⟩, ob⟩ := hE.Γ f d S hS
          have hc := callK_sound h rfl ob e hdN
          rw [show args.toList.map a.eval ++ Target.vals a .fn = args.toList.map a.eval from List.append_nil _] at hc
          have hex : (execOp a.eval o).run P w = .ok (.enter f (args.toList.map a.eval).toArray) w := by
            have : (args.map a.eval) = (args.toList.map a.eval).toArray := by rw [← Array.toList_map]
            rw [← this]
            have p2' : ¬ fn.name = "runtime.NumGoroutine" := fun z => by rw [z] at p2; cases p2
            have p3' : ¬ fn.body = none := fun z => by rw [z] at p3; cases p3
            simp [execOp, ho, resolve, invoke, callFunc, Deferred.ofValue, p1, p2', p3', Result.andThen, Act.eval]
          unfold Oper.wp
          rw [hex, Oper.upon_enter]
          refine Calls.mono hc fun en w' hen => ?_
          obtain ⟨v, rfl, s', L', I', r1, r2, r3⟩ := hen
          show Post X L k y (a.put o.dst v) w'
          rw [hd]
          exact ⟨s', L', I', r1, r2, r3⟩
      · cases e
    · cases e
  · rename_i t args ts ho
    split at e
    · rename_i d f cs hd hst
      split at e
      · rename_i S hS
        cases q : Nat.blt d E.N with
        | false => rw [q] at e; cases e
        | true =>
          rw [q] at e
          simp only [cond_true] at e
          have hdN : d < X.N := by rw [← hN]; exact Nat.le_of_ble_eq_true q
          obtain ⟨⟨fn, p1, p2, p3⟩, ob⟩ := hE.Γ f d S hS
          have hc := callK_sound h rfl ob e hdN
          have r := h.slot t
          rw [hst] at r
          obtain ⟨us, r1, _⟩ := r
          rw [show Target.vals a (.tmp t) = us by simp only [Target.vals, r1]] at hc
          have hex : (execOp a.eval o).run P w = .ok (.enter f (args.toList.map a.eval ++ us).toArray) w := by
            have e1 : (args.map a.eval) = (args.toList.map a.eval).toArray := by rw [← Array.toList_map]
            have e2 : (args.toList.map a.eval ++ us).toArray = #[] ++ (args.toList.map a.eval).toArray ++ us.toArray := by simp
            have r1' : a.eval (.tmp t) = .func (.func f) #[] us.toArray := r1
            rw [e2, ← e1]
            have p2' : ¬ fn.name = "runtime.NumGoroutine" := fun z => by rw [z] at p2; cases p2
            have p3' : ¬ fn.body = none := fun z => by rw [z] at p3; cases p3
            simp [execOp, ho, resolve, invoke, callFunc, Deferred.ofValue, p1, p2', p3', Result.andThen, r1']
          unfold Oper.wp
          rw [hex, Oper.upon_enter]
          refine Calls.mono hc fun en w' hen => ?_
          obtain ⟨v, rfl, s', L', I', r1, r2, r3⟩ := hen
          show Post X L k y (a.put o.dst v) w'
          rw [hd]
          exact ⟨s', L', I', r1, r2, r3⟩
      · cases e
    · cases e
  · rename_i op _
    split at e
    · rename_i c v ev
      cases q : dstOk E.N o.dst with
      | false => rw [q] at e; cases e
      | true =>
        rw [q] at e
        simp only [cond_true] at e
        split at e
        · obtain ⟨u, g1, g2⟩ := vop_sound h hE.τ ev
          unfold Oper.wp
          rw [show (execOp a.eval o).run P w = _ from g1, Oper.upon_value]
          refine ⟨_, L, I, h.put o.dst (fun i hi => ?_) g2, fun _ _ => rfl, e⟩
          rw [hi] at q
          rw [← hN]; exact Nat.le_of_ble_eq_true q
        · cases e
    · have write : ∀ {dst : Option Nat} {s' : St}, o.dst = dst → (∀ i, dst = some i → i < X.N) → wop E.τ o.op dst s = some (true, s') → k s' = some y → o.wp P a w (Post X L k y) Q := by
        intro dst s' hd hdN ew ek
        subst hd
        obtain ⟨nx, w', L', I', g1, g2, g3⟩ := wop_sound h hE.τ hdN ew
        unfold Oper.wp
        rw [g1]
        rcases g3 with ⟨u, rfl, g3⟩ | ⟨rfl, g3⟩
        · rw [Oper.upon_value]; exact ⟨s', L', I', g3, g2, ek⟩
        · rw [Oper.upon_skip]; exact ⟨s', L', I', g3, g2, ek⟩
      split at e
      · rename_i d hd
        cases q : Nat.blt d E.N with
        | false => rw [q] at e; cases e
        | true =>
          rw [q] at e
          simp only [cond_true] at e
          have hdN : d < X.N := by rw [← hN]; exact Nat.le_of_ble_eq_true q
          split at e
          · rename_i c ob v em
            split at e
            · obtain ⟨u, w', u', g1, g2, g3⟩ := mop_sound h hE.τ em
              unfold Oper.wp
              rw [g1, Oper.upon_value, hd]
              exact ⟨_, _, I, g2.put (some d) (fun i hi => (Option.some.inj hi) ▸ hdN) g3, fun m hm => upd_ne L u' (fun z => by rw [z] at hm; cases hm), e⟩
            · cases e
          · split at e
            · rename_i c s' ew
              split at e
              · exact write hd (fun i hi => (Option.some.inj hi) ▸ hdN) ew e
              · cases e
            · cases e
      · rename_i hd
        split at e
        · rename_i c s' ew
          split at e
          · exact write hd (fun i hi => by cases hi) ew e
          · cases e
        · cases e

theorem isTmp_eq {v : AV} {b : Bool} (h : isTmp v = some b) : v = .c (.v .bool b) := by
  unfold isTmp at h
  split at h
  · obtain rfl := Option.some.inj h; rfl
  · cases h

theorem know_eq {c : Operand} {b : Bool} (h : isTmp (s.ev c) = some b) : s.know c b = s := by
  cases c with
  | tmp t =>
    have e := isTmp_eq h
    have e : s.t t = .c (.v .bool b) := e
    have : (fun i => bif Nat.beq i t then AV.c (.v .bool b) else s.t i) = s.t := by
      funext i
      cases q : Nat.beq i t with
      | true => have := Nat.eq_of_beq_eq_true q; subst this; exact e.symm
      | false => rfl
    show (⟨fun i => bif Nat.beq i t then AV.c (.v .bool b) else s.t i, s.o⟩ : St) = s
    rw [this]
  | _ => rfl

theorem wanted_eq (h : Rel X L I s a w) {all : List Oper} {o : Oper} {j t : Nat} {want b : Bool} (hg : o.guard = some (j, want)) (ht : (all[j]?).bind (·.dst) = some t) (hb : isTmp (s.t t) = some b) :
    Region.wanted o (yielded all.toArray a.tmps) = (b == want) := by
  have hv := isTmp_eq hb
  have hsl := h.slot t
  rw [hv] at hsl
  have hsl : a.tmps.getD t undef = .bool b := List.head_eq_of_cons_eq hsl
  have hy : yielded all.toArray a.tmps j = some b := by
    unfold yielded
    have : (all.toArray[j]?).bind (·.dst) = some t := by simpa using ht
    rw [this]
    have : a.tmps[t]? = some (.bool b) := by
      rw [Array.getD_eq_getD_getElem?] at hsl
      cases q : a.tmps[t]? with
      | none => rw [q] at hsl; cases hsl
      | some z => rw [q] at hsl; exact congrArg some hsl
    simp [this]
  unfold Region.wanted
  rw [hg]
  show (yielded all.toArray a.tmps j == some want) = _
  rw [hy]
  cases b <;> cases want <;> rfl

theorem gone_eq {v : AV} (h : isGone v = true) : v = gone := by
  unfold isGone at h
  split at h
  · rfl
  · cases h

theorem wanted_gone (h : Rel X L I s a w) {all : List Oper} {o : Oper} {j t : Nat} {want : Bool} (hg : o.guard = some (j, want)) (ht : (all[j]?).bind (·.dst) = some t) (hb : isGone (s.t t) = true) :
    Region.wanted o (yielded all.toArray a.tmps) = false := by
  have hv := gone_eq hb
  have hsl := h.slot t
  rw [hv] at hsl
  have hsl : a.tmps.getD t undef = .tuple #[] := hsl
  have hy : yielded all.toArray a.tmps j = none := by
    unfold yielded
    have : (all.toArray[j]?).bind (·.dst) = some t := by simpa using ht
    rw [this]
    rw [Array.getD_eq_getD_getElem?] at hsl
    cases q : a.tmps[t]? with
    | none => simp [q]
    | some z =>
      rw [q] at hsl
      have : z = .tuple #[] := hsl
      simp [q, this]
  unfold Region.wanted
  rw [hg]
  show (yielded all.toArray a.tmps j == some want) = _
  rw [hy]; rfl

/-- One operation of a list. -/
theorem opsK_one (h : Rel X L I s a w) {E : Env} (hE : EnvOk P X.K E) (hN : E.N = X.N) {all : List Oper} {o : Oper} {r : List Oper} {k : St → Option R} {y : R} (e : opsK E all (o :: r) s k = some y) (Q : Exit → Act → World → Prop) :
    if Region.wanted o (yielded all.toArray a.tmps) then o.wp P a w (Post X L (fun s' => opsK E all r s' k) y) Q else Post X L (fun s' => opsK E all r s' k) y (a.put o.dst undef) w := by
  have go : opK E o s (fun s' => opsK E all r s' k) = some y → o.wp P a w (Post X L (fun s' => opsK E all r s' k) y) Q := fun e => opK_sound h hE hN e Q
  have skip : (bif dstOk E.N o.dst then opsK E all r (s.put o.dst gone) k else none) = some y → Post X L (fun s' => opsK E all r s' k) y (a.put o.dst undef) w := by
    intro e
    cases q : dstOk E.N o.dst with
    | false => rw [q] at e; cases e
    | true =>
      rw [q] at e
      simp only [cond_true] at e
      refine ⟨_, L, I, h.put o.dst (fun i hi => ?_) (v := gone) rfl, fun _ _ => rfl, e⟩
      rw [hi] at q
      rw [← hN]; exact Nat.le_of_ble_eq_true q
  simp only [opsK] at e
  split at e
  · rename_i hg
    rw [if_pos (by simp [Region.wanted, hg])]
    exact go e
  · rename_i j want hg
    split at e
    · rename_i t ht
      split at e
      · rename_i b hb
        rw [wanted_eq h hg ht hb]
        have hkn : ∀ c, c = b → s.know (.tmp t) c = s := fun c q => by subst q; exact know_eq (c := .tmp t) hb
        cases b with
        | true =>
          cases want with
          | true => rw [if_pos (show (true == true) = true from rfl)]; simp only [hkn true rfl] at e; exact go e
          | false => rw [if_neg (by decide)]; simp only [hkn true rfl] at e; exact skip e
        | false =>
          cases want with
          | false => rw [if_pos (show (false == false) = true from rfl)]; simp only [hkn false rfl] at e; exact go e
          | true => rw [if_neg (by decide)]; simp only [hkn false rfl] at e; exact skip e
      · rename_i hb
        cases qg : isGone (s.t t) with
        | false => rw [qg] at e; cases e
        | true =>
          rw [qg, Bool.true_and] at e
          rw [wanted_gone h hg ht qg, if_neg (by decide)]
          exact skip e
    · cases e

theorem opsK_sound {E : Env} (hE : EnvOk P X.K E) (hN : E.N = X.N) {all : List Oper} {Q : Exit → Act → World → Prop} {k : St → Option R} {y : R} (hQ : ∀ a w, Post X L k y a w → Q .normal a w) :
    ∀ {l : List Oper} {L1 : Nm → Value} {I : Nat → Prop} {s : St} {a : Act} {w : World}, Rel X L1 I s a w → (∀ n, kept n = true → L1 n = L n) → opsK E all l s k = some y → wpList P all.toArray Q l a w
  | [], L1, I, s, a, w, h, hk, e => wpList_nil (hQ _ _ ⟨s, L1, I, h, hk, e⟩)
  | o :: r, L1, I, s, a, w, h, hk, e => by
    have one := opsK_one h hE hN e Q
    have next : ∀ a' w', Post X L1 (fun s' => opsK E all r s' k) y a' w' → wpList P all.toArray Q r a' w' := fun a' w' hp => by
      obtain ⟨s', L', I', r1, r2, r3⟩ := hp
      exact opsK_sound hE hN hQ r1 (fun n hn => (r2 n hn).trans (hk n hn)) r3
    unfold wpList
    split
    · rename_i hw; rw [if_pos hw] at one; exact .inl (Oper.wp_mono next one)
    · rename_i hw; rw [if_neg hw] at one; exact next _ _ one
end
end AM
end Go.Proofs.YtpcdcnmmkfhliaaGreatDoor
