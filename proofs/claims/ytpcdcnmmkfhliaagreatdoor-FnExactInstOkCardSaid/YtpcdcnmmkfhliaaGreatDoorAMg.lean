/- How the relation goes on: memory that grows, a new object, an object that is written, one that nobody writes any more. No condition. -/
import Derived.Test.YtpcdcnmmkfhliaaGreatDoorAMf
namespace Go.Proofs.YtpcdcnmmkfhliaaGreatDoor
namespace AM
open Go

section
variable {X : Ctx} {L : Nm → Value} {I : Nat → Prop} {s : St} {a : Act} {w : World}

theorem Step.cell {T : Nat → Nat → Prop} {w w' : World} (h : Step T w w') {b : Nat} (hb : b < w.heap.size) {off : Nat} (hT : ¬ T b off) :
    w'.cell? ⟨b, off, none⟩ = w.cell? ⟨b, off, none⟩ ∧ w'.frozen? ⟨b, off, none⟩ = w.frozen? ⟨b, off, none⟩ := by
  have g := h.blk b hb
  unfold BlkEq at g
  split at g
  · rename_i c t fz e
    obtain ⟨c', e', _, e2⟩ := g
    simp only [World.cell?, World.frozen?, e, e']
    exact ⟨by simpa using e2 off hT, trivial⟩
  · rename_i es ck e
    rcases g with g | ⟨_, es', ck', g⟩
    · simp only [World.cell?, World.frozen?, e, g]
      exact ⟨trivial, trivial⟩
    · simp only [World.cell?, World.frozen?, e, g]
      exact ⟨trivial, trivial⟩
  · simp only [World.cell?, World.frozen?, g]
    exact ⟨trivial, trivial⟩

theorem cell_lt {w : World} {b off : Nat} {u : Value} (h : w.cell? ⟨b, off, none⟩ = some u) : b < w.heap.size := World.block_lt_of_cell? w ⟨b, off, none⟩ h

theorem RO.step {w' : World} {T : Nat → Nat → Prop} (h : Step T w w') {A : Nm → Option (Nat × Nat)} (hI : Same I w w') {n : Nm} {ob : Ob} (hT : ∀ b o, fp L n ob b o → ¬ T b o) (r : RO L I w A n ob) : RO L I w' A n ob := by
  cases ob with
  | box cs =>
    obtain ⟨b, off, vs, h1, h2, h3⟩ := r
    have hl := h2.len
    refine ⟨b, off, vs, h1, RCs.mono (fun _ q => q) hI (fun m _ => ⟨rfl, rfl⟩) h2, ?_⟩
    have hb := h3.lt
    obtain ⟨c, q, g1, g0, g2⟩ := h3
    have g := h.blk b hb
    rw [g1] at g
    obtain ⟨c', e1, e2, e3⟩ := g
    refine ⟨c', q, e1, by omega, fun j u hu => ?_⟩
    have hj : j < vs.length := by rcases Nat.lt_or_ge j vs.length with q | q; exact q; rw [List.getElem?_eq_none q] at hu; cases hu
    rw [e3 (off + j) (hT b (off + j) ⟨off, h1, by omega, by omega⟩)]
    exact g2 j u hu
  | arr e t xs =>
    obtain ⟨vs, ⟨h1, h2⟩, h3⟩ := r
    refine ⟨vs, ⟨h1, ?_⟩, h3.mono (fun _ q => q) hI⟩
    rcases h2 with h2 | ⟨g, cap, cur, e1, e2, e3, e4⟩
    · exact .inl h2
    · refine .inr ⟨g, cap, cur, e1, e2, ?_, e4⟩
      rw [h.same (b := g) ?_ (fun j => hT g j (by show (L n).ownBlock = some g; rw [e1]; rfl))]
      · exact e3
      · rcases Nat.lt_or_ge g w.heap.size with q | q
        · exact q
        · rw [Array.getElem?_eq_none q] at e3; cases e3
  | mp kt vt ka kvs =>
    obtain ⟨b, es, h1, h2, h3⟩ := r
    refine ⟨b, es, h1, ?_, h3⟩
    rw [h.same (b := b) ?_ (fun j => hT b j h1)]
    · exact h2
    · rcases Nat.lt_or_ge b w.heap.size with q | q
      · exact q
      · rw [Array.getElem?_eq_none q] at h2; cases h2

theorem Rel.globs (h : Rel X L I s a w) {w' : World} (hw : Same I w w') : X.K.ok w' ∧ ∀ b, X.K.blk b → I b :=
  ⟨X.K.keep w w' h.glob.1 fun b hb => ⟨(h.imm b (h.glob.2 b hb)).1, hw b (h.glob.2 b hb)⟩, h.glob.2⟩

/-- Memory goes on; nothing that the state speaks of is touched. -/
theorem Rel.world (h : Rel X L I s a w) {w' : World} {T : Nat → Nat → Prop} (hs : Step T w w') (hI : ∀ b j, I b → ¬ T b j)
    (hT : ∀ n ob, s.o n = some ob → ∀ b o, fp L n ob b o → ¬ T b o) (hE : ∀ b j, T b j → b < X.w0.heap.size → X.E b j) : Rel X L I s a w' := by
  have hw : Same I w w' := fun b hb => hs.same (h.imm b hb).1 (fun j => hI b j hb)
  refine ⟨h.defers, h.size, fun i hi => RA.mono (fun _ q => q) hw (fun _ _ => ⟨rfl, rfl⟩) (h.tmp i hi), h.hi, fun n ob e => RO.step hs hw (hT n ob e) (h.obj n ob e), h.sep,
    fun n ob e b o q => ?_, fun b hb => ?_, h.sub, h.step.trans hs hE, h.globs hw⟩
  · obtain ⟨h1, h2, h3⟩ := h.own n ob e b o q
    exact ⟨Nat.lt_of_lt_of_le h1 hs.size, h2, h3⟩
  · obtain ⟨h1, h2⟩ := h.imm b hb
    exact ⟨Nat.lt_of_lt_of_le h1 hs.size, h2⟩

theorem Rel.grows (h : Rel X L I s a w) {w' : World} (hs : Step (fun _ _ => False) w w') : Rel X L I s a w' :=
  h.world hs (fun _ _ _ q => q) (fun _ _ _ _ _ _ q => q) (fun _ _ q => q.elim)

def upd (L : Nm → Value) (n : Nm) (u : Value) : Nm → Value := fun m => bif Nm.eqb m n then u else L m
theorem upd_same (L : Nm → Value) (n : Nm) (u : Value) : upd L n u n = u := by simp [upd, eqb_self]
theorem upd_ne (L : Nm → Value) {n m : Nm} (u : Value) (h : m ≠ n) : upd L n u m = L m := by simp [upd, eqb_false.2 h]

theorem setO_same (s : St) (n : Nm) (ob : Ob) : (s.setO n ob).o n = some ob := by simp [St.setO, eqb_self]
theorem setO_ne (s : St) {n m : Nm} (ob : Ob) (h : m ≠ n) : (s.setO n ob).o m = s.o m := by simp [St.setO, eqb_false.2 h]
theorem AL_setO_ne (s : St) {n m : Nm} (ob : Ob) (h : m ≠ n) : AL (s.setO n ob).o m = AL s.o m := by unfold AL; rw [setO_ne s ob h]

theorem drop_none (s : St) (n : Nm) : (s.drop n).o n = none := by simp [St.drop, eqb_self]
theorem drop_tment {s : St} {n m : Nm} {i : Nat} (h : AMent ((s.drop n).t i) m) : m ≠ n := (AMent.drop h).2
theorem drop_oment {s : St} {n m k : Nm} {cs : List CV} (e : (s.drop n).o k = some (.box cs)) (h : CMent cs m) : m ≠ n := by
  obtain ⟨_, ob, _, e2⟩ := drop_o e
  cases ob with
  | box ds => obtain rfl := Ob.box.inj e2; exact (CMent.drop h).2
  | arr => cases e2
  | mp => cases e2

theorem fp_upd {n m : Nm} {u : Value} {ob : Ob} {b o : Nat} (h : m ≠ n) : fp (upd L n u) m ob b o ↔ fp L m ob b o := by
  cases ob with
  | box cs => simp only [fp, upd_ne L u h]
  | arr e t xs => simp only [fp, upd_ne L u h]
  | mp _ _ _ _ => simp only [fp, upd_ne L u h]

/-- A new object under a name of which nobody speaks. -/
theorem Rel.add (h : Rel X L I s a w) (n : Nm) (u : Value) (ob : Ob)
    (hob : RO (upd L n u) I w (AL ((s.drop n).setO n ob).o) n ob)
    (hfp : ∀ b o, fp (upd L n u) n ob b o → b < w.heap.size ∧ ¬ I b ∧ (b < X.w0.heap.size → X.E b o) ∧ ∀ m ob', m ≠ n → s.o m = some ob' → ¬ fp L m ob' b o) :
    Rel X (upd L n u) I ((s.drop n).setO n ob) a w := by
  have hw : Same I w w := fun _ _ => rfl
  have hI : ∀ b, I b → I b := fun _ q => q
  have g := h.drop n (L' := L) (fun _ _ => rfl)
  have key : ∀ m, m ≠ n → upd L n u m = L m ∧ AL ((s.drop n).setO n ob).o m = AL (s.drop n).o m := fun m hm => ⟨upd_ne L u hm, AL_setO_ne _ ob hm⟩
  have old : ∀ m ob', m ≠ n → ((s.drop n).setO n ob).o m = some ob' → (s.drop n).o m = some ob' := fun m ob' hm e => by rw [setO_ne _ _ hm] at e; exact e
  refine ⟨g.defers, g.size, fun i hi => ?_, g.hi, fun m ob' e => ?_, fun m k ob1 ob2 e1 e2 b o q1 q2 => ?_, fun m ob' e b o q => ?_, g.imm, g.sub, g.step, g.glob⟩
  · exact RA.mono hI hw (fun m hm => key m (drop_tment hm)) (g.tmp i hi)
  · by_cases hm : m = n
    · subst hm
      rw [setO_same] at e
      obtain rfl := Option.some.inj e
      exact hob
    · have e' := old m ob' hm e
      have r := g.obj m ob' e'
      cases ob' with
      | box cs =>
        obtain ⟨b, off, vs, h1, h2, h3⟩ := r
        exact ⟨b, off, vs, by rw [upd_ne L u hm]; exact h1, RCs.mono hI hw (fun k hk => key k (drop_oment e' hk)) h2, h3⟩
      | arr e t xs =>
        obtain ⟨vs, h1, h2⟩ := r
        exact ⟨vs, by rw [upd_ne L u hm]; exact h1, h2⟩
      | mp kt vt ka kvs =>
        obtain ⟨b, es, h1, h2⟩ := r
        exact ⟨b, es, by rw [upd_ne L u hm]; exact h1, h2⟩
  · by_cases hm : m = n
    · by_cases hk : k = n
      · rw [hm, hk]
      · subst hm
        rw [setO_same] at e1
        obtain rfl := Option.some.inj e1
        obtain ⟨_, y, ey, rfl⟩ := drop_o (old k ob2 hk e2)
        exact absurd (fp_drop.1 ((fp_upd hk).1 q2)) ((hfp b o q1).2.2.2 k y hk ey)
    · by_cases hk : k = n
      · subst hk
        rw [setO_same] at e2
        obtain rfl := Option.some.inj e2
        obtain ⟨_, y, ey, rfl⟩ := drop_o (old m ob1 hm e1)
        exact absurd (fp_drop.1 ((fp_upd hm).1 q1)) ((hfp b o q2).2.2.2 m y hm ey)
      · exact g.sep m k ob1 ob2 (old m ob1 hm e1) (old k ob2 hk e2) b o ((fp_upd hm).1 q1) ((fp_upd hk).1 q2)
  · by_cases hm : m = n
    · subst hm
      rw [setO_same] at e
      obtain rfl := Option.some.inj e
      exact ⟨(hfp b o q).1, (hfp b o q).2.1, (hfp b o q).2.2.1⟩
    · exact g.own m ob' (old m ob' hm e) b o ((fp_upd hm).1 q)

/-- A new block as an object. -/
theorem Rel.new (h : Rel X L I s a w) {w' : World} (hs : Step (fun _ _ => False) w w') (n : Nm) (u : Value) (ob : Ob)
    (hob : RO (upd L n u) I w' (AL ((s.drop n).setO n ob).o) n ob)
    (hfp : ∀ b o, fp (upd L n u) n ob b o → w.heap.size ≤ b ∧ b < w'.heap.size) : Rel X (upd L n u) I ((s.drop n).setO n ob) a w' := by
  refine (h.grows hs).add n u ob hob fun b o q => ?_
  obtain ⟨h1, h2⟩ := hfp b o q
  refine ⟨h2, fun hb => ?_, fun hb => ?_, fun m ob' _ e q' => ?_⟩
  · have := (h.imm b hb).1; omega
  · have := h.step.size; omega
  · have := (h.own m ob' e b o q').1; omega

/-- An object is written: its header stays. -/
theorem Rel.modify (h : Rel X L I s a w) {w' : World} {T : Nat → Nat → Prop} (hs : Step T w w') (n : Nm) (ob ob' : Ob) (e : s.o n = some ob)
    (hT : ∀ b o, T b o → fp L n ob b o) (hA : AL (s.setO n ob').o n = AL s.o n) (hfp : ∀ b o, fp L n ob' b o → fp L n ob b o)
    (hob : RO L I w' (AL s.o) n ob') : Rel X L I (s.setO n ob') a w' := by
  have hA' : AL (s.setO n ob').o = AL s.o := by
    funext m
    by_cases hm : m = n
    · rw [hm]; exact hA
    · exact AL_setO_ne s ob' hm
  have hIT : ∀ b j, I b → ¬ T b j := fun b j hb q => (h.own n ob e b j (hT b j q)).2.1 hb
  have hw : Same I w w' := fun b hb => hs.same (h.imm b hb).1 (fun j => hIT b j hb)
  have oth : ∀ m x, m ≠ n → (s.setO n ob').o m = some x → s.o m = some x := fun m x hm q => by rw [setO_ne s ob' hm] at q; exact q
  refine ⟨h.defers, h.size, fun i hi => ?_, h.hi, fun m x ex => ?_, fun m k x y ex ey b o qx qy => ?_, fun m x ex b o q => ?_, fun b hb => ?_, h.sub, h.step.trans hs (fun b j q => (h.own n ob e b j (hT b j q)).2.2), h.globs hw⟩
  · rw [hA']; exact RA.mono (fun _ q => q) hw (fun _ _ => ⟨rfl, rfl⟩) (h.tmp i hi)
  · rw [hA']
    by_cases hm : m = n
    · subst hm; rw [setO_same] at ex; obtain rfl := Option.some.inj ex; exact hob
    · have ex' := oth m x hm ex
      refine RO.step hs hw (fun b o q t => ?_) (h.obj m x ex')
      exact hm (h.sep m n x ob ex' e b o q (hT b o t))
  · have fx : ∃ x', s.o m = some x' ∧ fp L m x' b o := by
      by_cases hm : m = n
      · subst hm; rw [setO_same] at ex; obtain rfl := Option.some.inj ex; exact ⟨ob, e, hfp b o qx⟩
      · exact ⟨x, oth m x hm ex, qx⟩
    have fy : ∃ y', s.o k = some y' ∧ fp L k y' b o := by
      by_cases hk : k = n
      · subst hk; rw [setO_same] at ey; obtain rfl := Option.some.inj ey; exact ⟨ob, e, hfp b o qy⟩
      · exact ⟨y, oth k y hk ey, qy⟩
    obtain ⟨x', e1, q1⟩ := fx
    obtain ⟨y', e2, q2⟩ := fy
    exact h.sep m k x' y' e1 e2 b o q1 q2
  · have fx : ∃ x', s.o m = some x' ∧ fp L m x' b o := by
      by_cases hm : m = n
      · subst hm; rw [setO_same] at ex; obtain rfl := Option.some.inj ex; exact ⟨ob, e, hfp b o q⟩
      · exact ⟨x, oth m x hm ex, q⟩
    obtain ⟨x', e1, q1⟩ := fx
    obtain ⟨h1, h2, h3⟩ := h.own m x' e1 b o q1
    exact ⟨Nat.lt_of_lt_of_le h1 hs.size, h2, h3⟩
  · obtain ⟨h1, h2⟩ := h.imm b hb
    exact ⟨Nat.lt_of_lt_of_le h1 hs.size, h2⟩

/-! ### An array that nobody writes any more -/
theorem own_rep {e : Nat} {t : Ty} {xs : List t.den} {vs : List Value} {u : Value} {I' : Nat → Prop} (h1 : w.ownsRow 0 e t.sz u xs.length vs) (h2 : FRep I' w t xs vs) (hb : ∀ b, u.ownBlock = some b → I' b) :
    Rep I' w (.sl t) xs [u] := by
  obtain ⟨hl, h1⟩ := h1
  obtain ⟨css, h3, rfl⟩ := h2
  rcases h1 with ⟨rfl, hn⟩ | ⟨g, cap, cur, rfl, _, hg, hc, _, _, ht⟩
  · refine ⟨none, 0, css, ?_, ?_, h3, .inl (List.length_eq_zero_iff.1 hn)⟩
    · rw [hn]
    · rw [hn]; exact Nat.le_refl _
  · refine ⟨some ⟨g, 0, none⟩, cap, css, rfl, hc, h3, .inr ⟨g, 0, rfl, hb g rfl, fun j v hv => ?_⟩⟩
    rw [← ht, List.getElem?_take] at hv
    split at hv
    · rw [Nat.zero_add]
      simp only [World.cell?, hg]
      simpa using hv
    · cases hv

theorem RC.frz {I' : Nat → Prop} {A A' : Nm → Option (Nat × Nat)} {n : Nm} {t : Ty} {xs : List t.den} (hI : ∀ b, I b → I' b) (hr : Rep I' w (.sl t) xs [L n]) (hA : ∀ m, m ≠ n → A' m = A m) :
    ∀ {c : CV} {u : Value}, RC L I w A c u → RC L I' w A' (c.frz n t xs) u
  | .own m, u, h => by
    show RC L I' w A' (bif Nm.eqb m n then .v (.sl t) xs else .own m) u
    cases q : Nm.eqb m n with
    | true => have := eqb_iff.1 q; subst this; obtain ⟨_, _, _, _, h⟩ := h; rw [← h]; exact hr
    | false => exact h
  | .pb m i, u, h => by
    show RC L I' w A' (bif Nm.eqb m n then .dead else .pb m i) u
    cases q : Nm.eqb m n with
    | true => trivial
    | false => exact h
  | .pa m sz i j, u, h => by
    show RC L I' w A' (bif Nm.eqb m n then .dead else .pa m sz i j) u
    cases q : Nm.eqb m n with
    | true => trivial
    | false =>
      obtain ⟨b, len, cap, h1, h2, h3⟩ := h
      exact ⟨b, len, cap, h1, by rw [hA m (eqb_false.1 q)]; exact h2, h3⟩
  | .v s y, _, h => Rep.mono hI (fun _ _ => rfl) s h
  | .nil, _, h => h
  | .pe s y j, _, h => by
    obtain ⟨b, off, cs, h1, h2, h3, h4⟩ := h
    exact ⟨b, off, cs, h1, hI b h2, Rep.mono hI (fun _ _ => rfl) s h3, h4⟩
  | .clo f cs, _, h => by
    show RC L I' w A' (bif cs.any (fun p => Nm.eqb p.1 n) then .dead else .clo f cs) _
    cases cs.any (fun p => Nm.eqb p.1 n)
    · exact h
    · trivial
  | .er _, _, h => h
  | .mp m, _, h => by
    show RC L I' w A' (bif Nm.eqb m n then .dead else .mp m) _
    cases Nm.eqb m n
    · exact h
    · trivial
  | .hd _, _, h => h
  | .raw _, _, h => h
  | .dead, _, _ => trivial

theorem RA.frz {I' : Nat → Prop} {A A' : Nm → Option (Nat × Nat)} {n : Nm} {t : Ty} {xs : List t.den} (hI : ∀ b, I b → I' b) (hr : Rep I' w (.sl t) xs [L n]) (hA : ∀ m, m ≠ n → A' m = A m) :
    ∀ {v : AV} {u : Value}, RA L I w A v u → RA L I' w A' (v.frz n t xs) u
  | .c _, _, h => RC.frz hI hr hA h
  | .g _, _, h => by obtain ⟨vs, rfl, h⟩ := h; exact ⟨vs, rfl, All2.map _ (fun _ _ r => RC.frz hI hr hA r) h⟩
  | .tup _, _, h => by
    obtain ⟨us, rfl, h⟩ := h
    refine ⟨us, rfl, All2.map _ (fun p u r => ?_) h⟩
    obtain ⟨b, cs⟩ := p
    cases b with
    | true => obtain ⟨vs, rfl, r⟩ := r; exact ⟨vs, rfl, All2.map _ (fun _ _ r => RC.frz hI hr hA r) r⟩
    | false => exact All2.map _ (fun _ _ r => RC.frz hI hr hA r) r

theorem freeze_o {n m : Nm} {t : Ty} {xs : List t.den} {ob : Ob} (h : (s.freeze n t xs).o m = some ob) : m ≠ n ∧ ∃ ob', s.o m = some ob' ∧ ob = ob'.frz n t xs := by
  have h' : (bif Nm.eqb m n then none else (s.o m).map (Ob.frz n t xs)) = some ob := h
  cases q : Nm.eqb m n with
  | true => rw [q] at h'; cases h'
  | false =>
    rw [q] at h'
    cases e : s.o m with
    | none => rw [e] at h'; cases h'
    | some ob' => rw [e] at h'; exact ⟨eqb_false.1 q, ob', rfl, (Option.some.inj h').symm⟩

theorem fp_frz {n m : Nm} {t : Ty} {xs : List t.den} {ob : Ob} {b o : Nat} : fp L m (ob.frz n t xs) b o ↔ fp L m ob b o := by
  cases ob with
  | box cs => simp [fp, Ob.frz]
  | arr e t xs => exact Iff.rfl
  | mp _ _ _ _ => exact Iff.rfl

theorem AL_freeze {n m : Nm} {t : Ty} {xs : List t.den} (h : m ≠ n) : AL (s.freeze n t xs).o m = AL s.o m := by
  show (match (bif Nm.eqb m n then none else (s.o m).map (Ob.frz n t xs)) with | some (.arr _ t xs) => some (t.sz, xs.length) | _ => none) = AL s.o m
  rw [eqb_false.2 h]
  unfold AL
  cases s.o m with
  | none => rfl
  | some x => cases x <;> rfl

theorem Rel.freeze (h : Rel X L I s a w) {n : Nm} {e : Nat} {t : Ty} {xs : List t.den} (en : s.o n = some (.arr e t xs)) :
    ∃ I', (∀ b, I b → I' b) ∧ Rel X L I' (s.freeze n t xs) a w ∧ Rep I' w (.sl t) xs [L n] := by
  obtain ⟨vs, h1, h2⟩ := h.obj n _ en
  let I' : Nat → Prop := fun b => I b ∨ (L n).ownBlock = some b
  have hI : ∀ b, I b → I' b := fun b q => .inl q
  have hr : Rep I' w (.sl t) xs [L n] := own_rep h1 (h2.mono hI (fun _ _ => rfl)) (fun b q => .inr q)
  refine ⟨I', hI, ⟨h.defers, h.size, fun i hi => ?_, fun i hi => ?_, fun m ob q => ?_, fun m k x y ex ey b o qx qy => ?_, fun m x ex b o q => ?_, fun b hb => ?_, fun b hb => hI b (h.sub b hb), h.step, h.glob.1, fun b q => hI b (h.glob.2 b q)⟩, hr⟩
  · exact RA.frz hI hr (fun m hm => AL_freeze hm) (h.tmp i hi)
  · show (s.t i).frz n t xs = _
    rw [h.hi i hi]; rfl
  · obtain ⟨hm, ob', eo, rfl⟩ := freeze_o q
    have r := h.obj m ob' eo
    cases ob' with
    | box cs =>
      obtain ⟨b, off, vs, g1, g2, g3⟩ := r
      exact ⟨b, off, vs, g1, All2.map _ (fun _ _ r => RC.frz hI hr (fun m hm => AL_freeze hm) r) g2, g3⟩
    | arr e' t' ys =>
      obtain ⟨vs, g1, g2⟩ := r
      exact ⟨vs, g1, g2.mono hI (fun _ _ => rfl)⟩
    | mp kt vt ka kvs => exact r
  · obtain ⟨_, x', e1, rfl⟩ := freeze_o ex
    obtain ⟨_, y', e2, rfl⟩ := freeze_o ey
    exact h.sep m k x' y' e1 e2 b o (fp_frz.1 qx) (fp_frz.1 qy)
  · obtain ⟨hm, x', e1, rfl⟩ := freeze_o ex
    have q' := fp_frz.1 q
    obtain ⟨g1, g2, g3⟩ := h.own m x' e1 b o q'
    refine ⟨g1, fun hb => ?_, g3⟩
    rcases hb with hb | hb
    · exact g2 hb
    · exact hm (h.sep m n x' _ e1 en b o q' hb)
  · rcases hb with hb | hb
    · exact h.imm b hb
    · obtain ⟨g1, g2, g3⟩ := h.own n _ en b 0 hb
      refine ⟨g1, ?_⟩
      rcases Nat.lt_or_ge b X.w0.heap.size with q | q
      · exact .inr (.inr fun o => (h.own n _ en b o hb).2.2 q)
      · exact .inr (.inl q)
end
end AM
end Go.Proofs.YtpcdcnmmkfhliaaGreatDoor
