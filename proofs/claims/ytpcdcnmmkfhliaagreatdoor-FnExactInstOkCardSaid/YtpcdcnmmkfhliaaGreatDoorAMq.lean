/- What a call gives back is laid into the caller's state. No condition. -/
import Derived.Test.YtpcdcnmmkfhliaaGreatDoorAMp
namespace Go.Proofs.YtpcdcnmmkfhliaaGreatDoor
namespace AM
open Go
set_option linter.unusedSimpArgs false
set_option linter.unusedVariables false

section
variable {X : Ctx} {L : Nm → Value} {I : Nat → Prop} {s : St} {a : Act} {w : World}

def al : Ob → Option (Nat × Nat)
  | .arr _ t xs => some (t.sz, List.length xs)
  | _ => none
theorem AL_eq (o : Nm → Option Ob) (n : Nm) : AL o n = (o n).bind al := by
  unfold AL
  cases o n with
  | none => rfl
  | some ob => cases ob <;> rfl

/-- Nothing speaks of the name. -/
def NoName (s : St) (n : Nm) : Prop := (∀ i, ¬ AMent (s.t i) n) ∧ (∀ m cs, s.o m = some (.box cs) → ¬ CMent cs n) ∧ s.o n = none

theorem noName_drop_self (s : St) (n : Nm) : NoName (s.drop n) n :=
  ⟨fun i h => drop_tment h rfl, fun m cs e h => drop_oment e h rfl, drop_none s n⟩

theorem NoName.drop {n m : Nm} (h : NoName s n) : NoName (s.drop m) n := by
  refine ⟨fun i q => h.1 i (AMent.drop q).1, fun k cs e q => ?_, ?_⟩
  · obtain ⟨_, ob, e1, e2⟩ := drop_o e
    cases ob with
    | box ds => obtain rfl := Ob.box.inj e2; exact h.2.1 k ds e1 (CMent.drop q).1
    | arr => cases e2
    | mp => cases e2
  · show (bif Nm.eqb n m then none else (s.o n).map (Ob.drop m)) = none
    rw [h.2.2]
    cases Nm.eqb n m <;> rfl

theorem Rel.drops : ∀ (ns : List Nm) {s : St}, Rel X L I s a w → Rel X L I (s.drops ns) a w
  | [], _, h => h
  | n :: r, s, h => Rel.drops r (s := s.drop n) (h.drop n (L' := L) (fun _ _ => rfl))

theorem NoName.drops {n : Nm} : ∀ (ns : List Nm) {s : St}, NoName s n → NoName (s.drops ns) n
  | [], _, h => h
  | m :: ns, s, h => NoName.drops ns (s := s.drop m) (NoName.drop h)

theorem noName_drops {n : Nm} : ∀ (ns : List Nm) {s : St}, n ∈ ns → NoName (s.drops ns) n
  | m :: ns, s, h => by
    rcases List.mem_cons.1 h with rfl | h
    · exact NoName.drops ns (s := s.drop n) (noName_drop_self s n)
    · exact noName_drops ns (s := s.drop m) h

theorem drops_o {n : Nm} {ob : Ob} : ∀ {ns : List Nm} {s : St}, (s.drops ns).o n = some ob → n ∉ ns ∧ ∃ ob', s.o n = some ob' ∧ al ob = al ob' ∧ ∀ L b o, fp L n ob b o ↔ fp L n ob' b o
  | [], s, h => ⟨by simp, ob, h, rfl, fun _ _ _ => Iff.rfl⟩
  | m :: ns, s, h => by
    obtain ⟨h1, ob', h2, h3, h4⟩ := drops_o (ns := ns) (s := s.drop m) h
    obtain ⟨h5, ob2, h6, rfl⟩ := drop_o h2
    refine ⟨by simp [h1, h5], ob2, h6, by rw [h3]; cases ob2 <;> rfl, fun L b o => (h4 L b o).trans fp_drop⟩

theorem Rel.over (h : Rel X L I s a w) {w' : World} {T : Nat → Nat → Prop} (hs : Step T w w') {ups : List (Nm × Ob)} {L2 : Nm → Value} {I2 : Nat → Prop} {F : Nm → Prop}
    (hL : ∀ n, ¬ F n → L2 n = L n) (hF : ∀ n, F n → NoName s n)
    (hU : ∀ n ob', lookO ups n = some ob' → F n ∨ ∃ ob, s.o n = some ob ∧ al ob' = al ob)
    (hI : ∀ b, I b → I2 b) (hIT : ∀ b j, I b → ¬ T b j) (hI2 : ∀ b, I2 b → b < w'.heap.size ∧ (X.I0 b ∨ X.w0.heap.size ≤ b ∨ ∀ o, X.E b o))
    (hOld : ∀ n ob, s.o n = some ob → lookO ups n = none → ∀ b o, fp L n ob b o → ¬ T b o ∧ ¬ I2 b)
    (hNew : ∀ n ob', lookO ups n = some ob' → RO L2 I2 w' (AL (s.over ups).o) n ob' ∧ ∀ b o, fp L2 n ob' b o → b < w'.heap.size ∧ ¬ I2 b ∧ (b < X.w0.heap.size → X.E b o) ∧
      (∀ m ob, s.o m = some ob → lookO ups m = none → ¬ fp L m ob b o) ∧ ∀ m ob2, lookO ups m = some ob2 → fp L2 m ob2 b o → m = n)
    (hE : ∀ b j, T b j → b < X.w0.heap.size → X.E b j) : Rel X L2 I2 (s.over ups) a w' := by
  have hw : Same I w w' := fun b hb => hs.same (h.imm b hb).1 (fun j => hIT b j hb)
  have oth : ∀ n, lookO ups n = none → (s.over ups).o n = s.o n := fun n q => by
    show (match lookO ups n with | some ob => some ob | none => s.o n) = _
    rw [q]
  have new : ∀ n ob, lookO ups n = some ob → (s.over ups).o n = some ob := fun n ob q => by
    show (match lookO ups n with | some ob => some ob | none => s.o n) = _
    rw [q]
  have key : ∀ m, ¬ F m → L2 m = L m ∧ AL (s.over ups).o m = AL s.o m := fun m hm => by
    refine ⟨hL m hm, ?_⟩
    rw [AL_eq, AL_eq]
    cases q : lookO ups m with
    | none => rw [oth m q]
    | some ob' =>
      rw [new m ob' q]
      rcases hU m ob' q with q1 | ⟨ob, q1, q2⟩
      · exact absurd q1 hm
      · rw [q1]; exact q2
  have fpL : ∀ n ob b o, s.o n = some ob → (fp L2 n ob b o ↔ fp L n ob b o) := fun n ob b o e => by
    have : L2 n = L n := hL n (fun q => by rw [(hF n q).2.2] at e; cases e)
    cases ob with
    | box cs => simp only [fp, this]
    | arr e t xs => simp only [fp, this]
    | mp _ _ _ _ => simp only [fp, this]
  refine ⟨h.defers, h.size, fun i hi => ?_, h.hi, fun n ob e => ?_, fun n m x y ex ey b o qx qy => ?_, fun n ob e b o q => ?_, hI2, fun b hb => hI b (h.sub b hb), h.step.trans hs hE, (h.globs hw).1, fun b q => hI b (h.glob.2 b q)⟩
  · exact RA.mono hI hw (fun m hm => key m fun q => (hF m q).1 i hm) (h.tmp i hi)
  · cases q : lookO ups n with
    | some ob' =>
      rw [new n ob' q] at e
      obtain rfl := Option.some.inj e
      exact (hNew n _ q).1
    | none =>
      rw [oth n q] at e
      have hn : ¬ F n := fun z => by rw [(hF n z).2.2] at e; cases e
      have r := RO.step hs hw (fun b o z => (hOld n ob e q b o z).1) (h.obj n ob e)
      cases ob with
      | box cs =>
        obtain ⟨b, off, vs, h1, h2, h3⟩ := r
        exact ⟨b, off, vs, by rw [hL n hn]; exact h1, RCs.mono hI (fun _ _ => rfl) (fun m hm => key m fun z => (hF m z).2.1 n cs e hm) h2, h3⟩
      | arr e' t xs =>
        obtain ⟨vs, h1, h2⟩ := r
        exact ⟨vs, by rw [hL n hn]; exact h1, h2.mono hI (fun _ _ => rfl)⟩
      | mp kt vt ka kvs =>
        obtain ⟨b, es, h1, h2⟩ := r
        exact ⟨b, es, by rw [hL n hn]; exact h1, h2⟩
  · cases q : lookO ups n with
    | some x' =>
      rw [new n x' q] at ex
      obtain rfl := Option.some.inj ex
      obtain ⟨_, hx⟩ := hNew n _ q
      cases q2 : lookO ups m with
      | some y' =>
        rw [new m y' q2] at ey
        obtain rfl := Option.some.inj ey
        exact ((hx b o qx).2.2.2.2 m _ q2 qy).symm
      | none =>
        rw [oth m q2] at ey
        exact absurd ((fpL m y b o ey).1 qy) ((hx b o qx).2.2.2.1 m y ey q2)
    | none =>
      rw [oth n q] at ex
      cases q2 : lookO ups m with
      | some y' =>
        rw [new m y' q2] at ey
        obtain rfl := Option.some.inj ey
        obtain ⟨_, hy⟩ := hNew m _ q2
        exact absurd ((fpL n x b o ex).1 qx) ((hy b o qy).2.2.2.1 n x ex q)
      | none =>
        rw [oth m q2] at ey
        exact h.sep n m x y ex ey b o ((fpL n x b o ex).1 qx) ((fpL m y b o ey).1 qy)
  · cases q2 : lookO ups n with
    | some ob' =>
      rw [new n ob' q2] at e
      obtain rfl := Option.some.inj e
      obtain ⟨g1, g2, g3, _⟩ := (hNew n _ q2).2 b o q
      exact ⟨g1, g2, g3⟩
    | none =>
      rw [oth n q2] at e
      have q' := (fpL n ob b o e).1 q
      obtain ⟨h1, h2, h3⟩ := h.own n ob e b o q'
      exact ⟨Nat.lt_of_lt_of_le h1 hs.size, (hOld n ob e q2 b o q').2, h3⟩

theorem Rel.frzs : ∀ (ns : List Nm) {I : Nat → Prop} {s : St}, Rel X L I s a w → ∃ I', (∀ b, I b → I' b) ∧ Rel X L I' (s.frzs ns) a w
  | [], I, s, h => ⟨I, fun _ q => q, h⟩
  | n :: r, I, s, h => by
    have : ∃ I', (∀ b, I b → I' b) ∧ Rel X L I' (s.frz1 n) a w := by
      unfold St.frz1
      split
      · rename_i e t xs en
        obtain ⟨I', h1, h2, _⟩ := h.freeze en
        exact ⟨I', h1, h2⟩
      · exact ⟨I, fun _ q => q, h⟩
    obtain ⟨I1, h1, h2⟩ := this
    obtain ⟨I2, h3, h4⟩ := Rel.frzs r h2
    exact ⟨I2, fun b q => h3 b (h1 b q), h4⟩

/-! ### Lists of what comes back -/
theorem upsOf_mem {d : Nat} {o : Nm → Option Ob} {ts : List Tag} {names : List Nm} : ∀ {l ups : List (Nm × Ob)}, upsOf d o ts names l = some ups → ∀ {n : Nm} {ob' : Ob}, (n, ob') ∈ ups → ∃ m ob, (m, ob) ∈ l ∧ upOf d o ts names m ob = some (n, ob')
  | [], _, e, _, _, h => by obtain rfl := Option.some.inj e; cases h
  | (m, ob) :: r, _, e, n, ob', h => by
    simp only [upsOf] at e
    split at e
    · rename_i q l e1 e2
      obtain rfl := Option.some.inj e
      rcases List.mem_cons.1 h with rfl | h
      · exact ⟨m, ob, List.mem_cons_self .., e1⟩
      · obtain ⟨m', ob2, g1, g2⟩ := upsOf_mem e2 h
        exact ⟨m', ob2, List.mem_cons_of_mem _ g1, g2⟩
    · cases e

theorem lookO_of_mem {n : Nm} {ob : Ob} : ∀ {l : List (Nm × Ob)}, (l.map Prod.fst).Nodup → (n, ob) ∈ l → lookO l n = some ob
  | [], _, h => by cases h
  | q :: l, hn, h => by
    rw [List.map_cons, List.nodup_cons] at hn
    unfold lookO
    rcases List.mem_cons.1 h with h | h
    · subst h; rw [eqb_self]; rfl
    · have : q.1 ≠ n := fun e => hn.1 (e ▸ List.mem_map.2 ⟨(n, ob), h, rfl⟩)
      rw [eqb_false.2 this]
      exact lookO_of_mem hn.2 h

theorem lookO_none {n : Nm} : ∀ {l : List (Nm × Ob)}, lookO l n = none ↔ n ∉ l.map Prod.fst
  | [] => by simp [lookO]
  | q :: l => by
    unfold lookO
    cases e : Nm.eqb q.1 n with
    | true => have := eqb_iff.1 e; subst this; simp
    | false => have := eqb_false.1 e; simp [lookO_none (l := l), Ne.symm this]

theorem mkO_names {n : Nm} {p : PS} {d : DV} {q : Nm × Ob} (h : q ∈ mkO n p d) : q.1 ∈ nm1 n p := by
  cases p with
  | i t => cases h
  | o e t =>
    have h : q ∈ arrO n e t d := h
    unfold arrO at h
    split at h
    · rw [List.mem_singleton.1 h]; exact List.mem_singleton.2 rfl
    · cases h
  | b e t =>
    have h : q ∈ arrO n e t d := h
    unfold arrO at h
    split at h
    · rw [List.mem_singleton.1 h]; exact List.mem_singleton.2 rfl
    · cases h
  | m kt vt ka =>
    have h : q ∈ mapO n kt vt ka d := h
    unfold mapO at h
    split at h
    · rw [List.mem_singleton.1 h]; exact List.mem_singleton.2 rfl
    · cases h
  | q _ _ => cases h
  | f _ _ => cases h
  | e => cases h

theorem mkOs_names {nm : Nat → PS → Nm} : ∀ {ps : List PS} {ds : List DV} {k : Nat} {q : Nm × Ob}, q ∈ mkOs nm k ps ds → q.1 ∈ psNames nm k ps
  | [], _, _, _, h => by cases h
  | _ :: _, [], _, _, h => by cases h
  | p :: ps, d :: ds, k, q, h => by
    rw [psNames_cons]
    rcases List.mem_append.1 h with h | h
    · exact List.mem_append_left _ (mkO_names h)
    · exact List.mem_append_right _ (mkOs_names h)

theorem mkBs_names : ∀ {es : List En} {ds : List DV} {q : Nm × Ob}, q ∈ mkBs es ds → q.1 ∈ es.flatMap En.names
  | [], _, _, h => by cases h
  | e :: es, ds, q, h => by
    rw [List.flatMap_cons]
    rcases List.mem_append.1 h with h | h
    · refine List.mem_append_left _ ?_
      cases e with
      | val i p => exact mkOs_names h
      | agg i ps => exact mkOs_names h
      | box i n ps =>
        rcases List.mem_cons.1 h with rfl | h
        · exact List.mem_cons_self ..
        · exact List.mem_cons_of_mem _ (mkOs_names h)
      | ptr i n off => cases h
      | nbox i n ps =>
        rcases List.mem_cons.1 h with rfl | h
        · exact List.mem_cons_self ..
        · exact List.mem_cons_of_mem _ (mkOs_names h)
      | hid n ps =>
        rcases List.mem_cons.1 h with rfl | h
        · exact List.mem_cons_self ..
        · exact List.mem_cons_of_mem _ (mkOs_names h)
    · exact List.mem_append_right _ (mkBs_names h)

theorem mkCells_own {nm : Nat → PS → Nm} {n : Nm} : ∀ {ps : List PS} {ds : List DV} {k : Nat}, CV.own n ∈ mkCells nm k ps ds → n ∈ psNames nm k ps
  | [], _, _, h => by cases h
  | _ :: _, [], _, h => by cases h
  | p :: ps, d :: ds, k, h => by
    rw [psNames_cons]
    rcases List.mem_cons.1 h with h | h
    · refine List.mem_append_left _ ?_
      cases p with
      | i t => cases h
      | o e t => obtain rfl := CV.own.inj h; exact List.mem_singleton.2 rfl
      | b e t => obtain rfl := CV.own.inj h; exact List.mem_singleton.2 rfl
      | q _ _ => cases h
      | f _ _ => cases h
      | m _ _ _ => cases h
      | e =>
        have h : CV.own n = (match d.as .bool with | some b => CV.er b | none => .dead) := h
        split at h <;> cases h
    · exact List.mem_append_right _ (mkCells_own h)

/-- The cells of a value. -/
def AV.cellsOf : AV → List CV
  | .c x => [x]
  | .g cs => cs
  | .tup l => l.flatMap Prod.snd

theorem mkV_own {e : En} {ds : List DV} {n : Nm} (h : CV.own n ∈ (mkV e ds).cellsOf) : n ∈ e.names := by
  cases e with
  | val i p =>
    unfold mkV at h
    dsimp only at h
    split at h
    · rename_i c r ec
      have h := List.mem_singleton.1 h
      exact mkCells_own (ds := ds) (by rw [ec, ← h]; exact List.mem_cons_self ..)
    · cases List.mem_singleton.1 h
  | agg i ps => exact mkCells_own h
  | box i m ps => cases List.mem_singleton.1 h
  | ptr i m off => cases List.mem_singleton.1 h
  | nbox i m ps => cases List.mem_singleton.1 h
  | hid m ps => cases List.mem_singleton.1 h

theorem mkVs_own : ∀ {es : List En} {ds : List DV} {p : Nat × AV} {n : Nm}, p ∈ mkVs es ds → CV.own n ∈ p.2.cellsOf → n ∈ es.flatMap En.names
  | [], _, _, _, h, _ => by cases h
  | e :: es, ds, p, n, h, g => by
    rw [List.flatMap_cons]
    rcases List.mem_cons.1 h with rfl | h
    · exact List.mem_append_left _ (mkV_own g)
    · exact List.mem_append_right _ (mkVs_own h g)

theorem mkBs_own : ∀ {es : List En} {ds : List DV} {m : Nm} {cs : List CV} {n : Nm}, (m, Ob.box cs) ∈ mkBs es ds → CV.own n ∈ cs → n ∈ es.flatMap En.names
  | [], _, _, _, _, h, _ => by cases h
  | e :: es, ds, m, cs, n, h, g => by
    have arrs : ∀ {nm : Nat → PS → Nm} {ps : List PS} {k : Nat} {ds : List DV}, (m, Ob.box cs) ∉ mkOs nm k ps ds := by
      intro nm ps
      induction ps with
      | nil => intro k ds h; cases h
      | cons p ps ih =>
        intro k ds h
        cases ds with
        | nil => cases h
        | cons d ds =>
          rcases List.mem_append.1 h with h | h
          · have arr1 : ∀ {n : Nm} {e : Nat} {t : Ty}, (m, Ob.box cs) ∉ arrO n e t d := by
              intro n e t h
              unfold arrO at h
              split at h
              · cases List.mem_singleton.1 h
              · cases h
            cases p with
            | i t => cases h
            | o e t => exact arr1 h
            | b e t => exact arr1 h
            | q _ _ => cases h
            | f _ _ => cases h
            | e => cases h
            | m kt vt ka =>
              have h : (m, Ob.box cs) ∈ mapO _ kt vt ka d := h
              unfold mapO at h
              split at h
              · cases List.mem_singleton.1 h
              · cases h
          · exact ih h
    rw [List.flatMap_cons]
    rcases List.mem_append.1 h with h | h
    · refine List.mem_append_left _ ?_
      cases e with
      | val i p => exact absurd h arrs
      | agg i ps => exact absurd h arrs
      | box i m' ps =>
        rcases List.mem_cons.1 h with h | h
        · obtain ⟨_, h⟩ := Prod.mk.inj h
          obtain rfl := Ob.box.inj h
          exact List.mem_cons_of_mem _ (mkCells_own g)
        · exact absurd h arrs
      | ptr i m' off => cases h
      | nbox i m' ps =>
        rcases List.mem_cons.1 h with h | h
        · obtain ⟨_, h⟩ := Prod.mk.inj h
          obtain rfl := Ob.box.inj h
          exact List.mem_cons_of_mem _ (mkCells_own g)
        · exact absurd h arrs
      | hid m' ps =>
        rcases List.mem_cons.1 h with h | h
        · obtain ⟨_, h⟩ := Prod.mk.inj h
          obtain rfl := Ob.box.inj h
          exact List.mem_cons_of_mem _ (mkCells_own g)
        · exact absurd h arrs
    · exact List.mem_append_right _ (mkBs_own h g)

end
end AM
end Go.Proofs.YtpcdcnmmkfhliaaGreatDoor
