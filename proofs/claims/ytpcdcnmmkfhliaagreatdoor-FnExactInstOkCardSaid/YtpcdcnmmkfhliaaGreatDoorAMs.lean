/- A call. Under: the callee obeys its summary. -/
import Derived.Test.YtpcdcnmmkfhliaaGreatDoorAMr
namespace Go.Proofs.YtpcdcnmmkfhliaaGreatDoor
namespace AM
open Go
set_option linter.unusedSimpArgs false
set_option linter.unusedVariables false
set_option maxHeartbeats 1000000

section
variable {P : Program} {X : Ctx} {L : Nm → Value} {I : Nat → Prop} {s : St} {a : Act} {w : World}

theorem over_key {ups : List (Nm × Ob)} {F : Nm → Prop} (hU : ∀ n ob', lookO ups n = some ob' → F n ∨ ∃ ob, s.o n = some ob ∧ al ob' = al ob) : ∀ m, ¬ F m → AL (s.over ups).o m = AL s.o m := by
  intro m hm
  rw [AL_eq, AL_eq]
  show Option.bind (match lookO ups m with | some ob => some ob | none => s.o m) al = _
  cases q : lookO ups m with
  | none => rfl
  | some ob' =>
    rcases hU m ob' q with q1 | ⟨ob, q1, q2⟩
    · exact absurd q1 hm
    · rw [q1]; exact q2

theorem ownsRow_len {e e' sz sz' : Nat} {u : Value} {n m : Nat} {vs us : List Value} {w' : World} (h : w.ownsRow 0 e sz u n vs) (g : w'.ownsRow 0 e' sz' u m us) : n = m := by
  rcases h.2 with ⟨rfl, h0⟩ | ⟨b, cap, cur, rfl, _⟩
  · rcases g.2 with ⟨_, g0⟩ | ⟨b, cap, cur, g1, _⟩
    · omega
    · injection g1 with _ g1; omega
  · rcases g.2 with ⟨g1, _⟩ | ⟨b', cap', cur', g1, _⟩
    · injection g1 with g1; cases g1
    · injection g1

/-- What a call's frame gives back, in the caller's state. -/
theorem absorb (h : Rel X L I s a w) {S : FSum} {d : Nat} {ts : List Tag} {Lc : Nm → Value} {Y : Ctx} {L' : Nm → Value} {I' : Nat → Prop} {a' : Act} {w' : World} {te : List (Nat × AV)} {oe ups : List (Nm × Ob)} {s1 : St}
    (hYw : Y.w0 = w) (hYE : ∀ b o, Y.E b o ↔ ∃ t ∈ ts, ∃ n ob, (∃ m, t.pair = [(m, n)]) ∧ s.o n = some ob ∧ fp L n ob b o ∧ TagFp L t b o)
    (hYI : ∀ b, Y.I0 b ↔ Lent L I ts b) (htag : ∀ t ∈ ts, TagAt L Lc s t) (hE : Rel Y L' I' ⟨look te, lookO oe⟩ a' w') (hkept : ∀ n, kept n = true → L' n = Lc n)
    (ht : tagsOk ts = true) (hsh : S.shares = true → ts.flatMap Tag.lent = [])
    (hs1 : s1 = s.drops (ts.flatMap Tag.moved ++ (S.ens.flatMap En.names).map (fun m => d :: m)))
    (hup : upsOf d s1.o ts (S.ens.flatMap En.names) oe = some ups) (hok : callOk S d s1.o ts te oe ups = true)
    (ote : ∀ p ∈ te, ∀ m, CV.own m ∈ p.2.cellsOf → m ∈ S.ens.flatMap En.names) (ooe : ∀ q ∈ oe, q.1 ∈ S.ens.flatMap En.names) (obx : ∀ m cs n, (m, Ob.box cs) ∈ oe → CV.own n ∈ cs → n ∈ S.ens.flatMap En.names) (np nr : Nat) :
    ∃ L2 I2, Rel X L2 I2 (s1.over ups) a w' ∧ RA L2 I2 w' (AL (s1.over ups).o) ((resAV te np nr).ren d ts (S.ens.flatMap En.names)) (resV a' np nr) ∧ (∀ n, kept n = true → L2 n = L n) ∧ ∀ b, I b → I2 b := by
  unfold callOk at hok
  rw [Bool.and_eq_true, Bool.and_eq_true, Bool.and_eq_true, Bool.and_eq_true, nodupN_iff, nodupN_iff] at hok
  obtain ⟨hnu, hno, hfl, hkn, hall⟩ := hok
  rw [List.all_eq_true] at hkn hall
  unfold tagsOk at ht
  rw [Bool.and_eq_true, Bool.and_eq_true, nodupN_iff, apartN_iff] at ht
  obtain ⟨ht1, ht2, _⟩ := ht
  generalize hnm : S.ens.flatMap En.names = names at *
  have hlent : ∀ b, I b → Y.I0 b := fun b q => (hYI b).2 (.inl q)
  have hII : ∀ b, I b → I' b := fun b q => hE.sub b (hlent b q)
  have hstep : Step Y.E w w' := hYw ▸ hE.step
  let L2 : Nm → Value := fun n => match n with
    | [] => L []
    | x :: m => bif Nat.beq x d && memN m names then L' m else L (x :: m)
  let I2 : Nat → Prop := fun b => (S.shares = true ∧ I' b) ∨ (S.shares = false ∧ I b)
  let F : Nm → Prop := fun n => ∃ m, n = d :: m ∧ m ∈ names
  have hL : ∀ n, ¬ F n → L2 n = L n := by
    intro n hn
    cases n with
    | nil => rfl
    | cons x m =>
      show (bif Nat.beq x d && memN m names then L' m else L (x :: m)) = _
      cases q : (Nat.beq x d && memN m names) with
      | false => rfl
      | true =>
        rw [Bool.and_eq_true] at q
        exact absurd ⟨m, by rw [Nat.eq_of_beq_eq_true q.1], memN_iff.1 q.2⟩ hn
  have hLF : ∀ m ∈ names, L2 (d :: m) = L' m := by
    intro m hm
    show (bif Nat.beq d d && memN m names then L' m else L (d :: m)) = _
    rw [memN_iff.2 hm, Nat.beq_refl]; rfl
  have hF : ∀ n, F n → NoName s1 n := by
    rintro n ⟨m, rfl, hm⟩
    rw [hs1]
    exact noName_drops _ (List.mem_append_right _ (List.mem_map.2 ⟨m, hm, rfl⟩))
  have nF : ∀ n ob, s1.o n = some ob → ¬ F n := fun n ob e q => by rw [(hF n q).2.2] at e; cases e
  have h2 : Rel X L I s1 a w := by rw [hs1]; exact h.drops _
  have old : ∀ n ob, s1.o n = some ob → ∃ ob0, s.o n = some ob0 ∧ al ob = al ob0 ∧ ∀ L b o, fp L n ob b o ↔ fp L n ob0 b o := by
    intro n ob e
    rw [hs1] at e
    exact (drops_o e).2
  have hI2I : ∀ b, I b → I2 b := by
    intro b q
    cases e : S.shares with
    | true => exact .inl ⟨e, hII b q⟩
    | false => exact .inr ⟨e, q⟩
  have lentI : S.shares = true → ∀ b, Y.I0 b → I b := by
    intro hq b q
    rcases (hYI b).1 q with q | ⟨m, hm, _⟩
    · exact q
    · rw [hsh hq] at hm; cases hm
  have ET : ∀ b o, Y.E b o → ∃ n ob, n ∈ (ts.flatMap Tag.pair).map Prod.snd ∧ s.o n = some ob ∧ fp L n ob b o := by
    intro b o q
    obtain ⟨t, h1, n, ob, ⟨m, h3⟩, h4, h5, _⟩ := (hYE b o).1 q
    exact ⟨n, ob, List.mem_map.2 ⟨(m, n), List.mem_flatMap.2 ⟨t, h1, by rw [h3]; exact List.mem_singleton.2 rfl⟩, rfl⟩, h4, h5⟩
  have EX0 : ∀ b o, Y.E b o → b < X.w0.heap.size → X.E b o := by
    intro b o q q2
    obtain ⟨n, ob, _, h4, h5⟩ := ET b o q
    exact (h.own n ob h4 b o h5).2.2 q2
  have EI : ∀ b o, Y.E b o → ¬ I b := by
    intro b o q
    obtain ⟨n, ob, _, h4, h5⟩ := ET b o q
    exact (h.own n ob h4 b o h5).2.1
  -- an object that is not written is not lent
  have notE : ∀ n ob, s1.o n = some ob → lookO ups n = none → ∀ b o, fp L n ob b o → ¬ Y.E b o := by
    intro n ob e hn b o q qE
    obtain ⟨n', ob', h3, h4, h5⟩ := ET b o qE
    obtain ⟨ob0, h6, _, h7⟩ := old n ob e
    obtain rfl := h.sep n n' ob0 ob' h6 h4 b o ((h7 L b o).1 q) h5
    have h8 := hall n h3
    rw [e] at h8
    exact (lookO_none.1 hn) (memN_iff.1 h8)
  have I2sub : ∀ b, I2 b → I' b := by
    rintro b (⟨_, q⟩ | ⟨_, q⟩)
    · exact q
    · exact hII b q
  have hI2 : ∀ b, I2 b → b < w'.heap.size ∧ (X.I0 b ∨ X.w0.heap.size ≤ b ∨ ∀ o, X.E b o) := by
    rintro b (⟨q1, q⟩ | ⟨q1, q⟩)
    · obtain ⟨g1, g2⟩ := hE.imm b q
      refine ⟨g1, ?_⟩
      rcases g2 with g2 | g2 | g2
      · exact (h.imm b (lentI q1 b g2)).2
      · rw [hYw] at g2
        exact .inr (.inl (Nat.le_trans h.step.size g2))
      · rcases Nat.lt_or_ge b X.w0.heap.size with g3 | g3
        · exact .inr (.inr fun o => EX0 b o (g2 o) g3)
        · exact .inr (.inl g3)
    · obtain ⟨g1, g2⟩ := h.imm b q
      exact ⟨Nat.lt_of_lt_of_le g1 hstep.size, g2⟩
  have notI2 : ∀ b o, b < w.heap.size → ¬ I b → ¬ Y.E b o → ¬ I2 b := by
    rintro b o q1 q2 q3 (⟨q4, q5⟩ | ⟨q4, q5⟩)
    · rcases (hE.imm b q5).2 with g2 | g2 | g2
      · exact q2 (lentI q4 b g2)
      · rw [hYw] at g2; omega
      · exact q3 (g2 o)
    · exact q2 q5
  have rpt : ∀ p q, renP d ts names p = some q → ∀ b o, L' p.1 = .pointer (some ⟨b, o, none⟩) → ∃ o', L2 q.1 = .pointer (some ⟨b, o', none⟩) ∧ o' + q.2 = o + p.2 := by
    intro p q e b o hp
    unfold renP at e
    have fs := findTag_sound (m := p.1) (ts := ts)
    split at e
    · rename_i k0 m off len e1
      rw [e1] at fs
      rcases fs with fs | ⟨f1, f2⟩
      · cases fs
      · cases kk : (kept p.1 && !isF d names m) with
        | false => rw [kk] at e; cases e
        | true =>
          rw [kk] at e
          obtain rfl := Option.some.inj e
          rw [Bool.and_eq_true] at kk
          obtain ⟨b0, o0, cs, _, _, _, g1, g2⟩ := htag _ f1
          have : k0 = p.1 := Option.some.inj f2
          rw [this, ← hkept _ kk.1, hp] at g2
          injection g2 with g2; injection g2 with g2; injection g2 with g2 g2' _
          subst g2; subst g2'
          refine ⟨o0, ?_, by simp only; omega⟩
          rw [← g1]
          refine hL m ?_
          rintro ⟨m', rfl, hm⟩
          have := kk.2
          rw [show isF d names (d :: m') = (Nat.beq d d && memN m' names) from rfl, memN_iff.2 hm, Nat.beq_refl] at this
          cases this
    · cases kk : memN p.1 names with
      | false => rw [kk] at e; cases e
      | true =>
        rw [kk] at e
        obtain rfl := Option.some.inj e
        exact ⟨o, by rw [hLF _ (memN_iff.1 kk)]; exact hp, rfl⟩
    · cases e
  have ren : Ren L' L2 I' I2 w' d ts names (!S.shares) := ⟨hLF, rpt, fun q b hb => .inl ⟨by simpa using q, hb⟩⟩
  have hflt : (!S.shares) = true → te.all (fun p => p.2.flat) = true ∧ oe.all (fun q => q.2.flat) = true := by
    intro q
    have q : S.shares = false := by simpa using q
    rw [q] at hfl
    simpa using hfl
  have eobj : ∀ m ob, (m, ob) ∈ oe → (⟨look te, lookO oe⟩ : St).o m = some ob := fun m ob hm => lookO_of_mem hno hm
  -- the news, one by one
  have news : ∀ n ob', lookO ups n = some ob' → ∃ m ob, (m, ob) ∈ oe ∧ upOf d s1.o ts names m ob = some (n, ob') := fun n ob' q => upsOf_mem hup (lookO_mem q)
  have same : ∀ {m ob}, (m, ob) ∈ oe → ∀ {ob2}, (m, ob2) ∈ oe → ob = ob2 := by
    intro m ob g1 ob2 g2
    have := eobj m ob g1
    rw [eobj m ob2 g2] at this
    exact (Option.some.inj this).symm
  have back : ∀ k t n, t ∈ ts → t = Tag.bw k n → kept k = true → L' k = L n := by
    rintro k t n h1 rfl h3
    rw [hkept k h3]
    exact htag _ h1
  have tagOf : ∀ m t, findTag m ts = t → t.new ≠ none → t ∈ ts ∧ t.new = some m := by
    intro m t e hn
    rcases findTag_sound (m := m) (ts := ts) with q | q
    · rw [e] at q; subst q; exact absurd rfl hn
    · rw [e] at q; exact q
  have hU : ∀ n ob', lookO ups n = some ob' → F n ∨ ∃ ob, s1.o n = some ob ∧ al ob' = al ob := by
    intro n ob' q
    obtain ⟨m, ob, hm, hu⟩ := news n ob' q
    rcases upOf_inv hu with ⟨k, e, t, xs, e', u, xs', h1, rfl, h3, h4, h5, rfl⟩ | ⟨k, off, len, cells, cs, h1, rfl, h3, h4, h5, h6, rfl⟩ | ⟨e, t, xs, rfl, rfl, rfl⟩ | ⟨cells, rfl, rfl, rfl⟩
    · refine .inr ⟨_, h3, ?_⟩
      obtain ⟨q1, q2⟩ := tagOf m _ h1 (by simp [Tag.new])
      have hk : k = m := Option.some.inj q2
      subst hk
      obtain ⟨vs, g1, _⟩ := h2.obj n _ h3
      obtain ⟨vs', g3, _⟩ := hE.obj k _ (eobj k _ hm)
      rw [back k _ n q1 rfl h5] at g3
      show some (t.sz, _) = some (u.sz, _)
      rw [h4, ownsRow_len g1 g3]
    · exact .inr ⟨_, h3, rfl⟩
    · exact .inl ⟨m, rfl, ooe _ hm⟩
    · exact .inl ⟨m, rfl, ooe _ hm⟩
  have key := over_key hU
  -- where what is new stands
  have cls : ∀ n ob', lookO ups n = some ob' → ∀ m ob, (m, ob) ∈ oe → upOf d s1.o ts names m ob = some (n, ob') →
      RO L2 I2 w' (AL (s1.over ups).o) n ob' ∧ ∀ b o, fp L2 n ob' b o → fp L' m ob b o ∨ ∃ obo, s1.o n = some obo ∧ fp L n obo b o ∧ ¬ Y.E b o ∧ ¬ I2 b := by
    intro n ob' q m ob hm hu
    have hob := hE.obj m ob (eobj m ob hm)
    have hflo : (!S.shares) = true → ob.flat = true := fun q => by
      have := (hflt q).2
      rw [List.all_eq_true] at this
      exact this _ hm
    rcases upOf_inv hu with ⟨k, e, t, xs, e', u, xs', h1, rfl, h3, h4, h5, rfl⟩ | ⟨k, off, len, cells, cs, h1, rfl, h3, h4, h5, h6, rfl⟩ | ⟨e, t, xs, rfl, rfl, rfl⟩ | ⟨cells, rfl, rfl, rfl⟩
    · obtain ⟨q1, q2⟩ := tagOf m _ h1 (by simp [Tag.new])
      have hk : k = m := Option.some.inj q2
      subst hk
      have hb := back k _ n q1 rfl h5
      have hLn := hL n (nF n _ h3)
      obtain ⟨vs, g1, g2⟩ := hob
      refine ⟨⟨vs, by rw [hLn, ← hb]; exact g1, ren.frep (fun q => by simpa [Ob.flat] using hflo q) g2⟩, fun b o qf => .inl ?_⟩
      show (L' k).ownBlock = some b
      rw [hb, ← hLn]; exact qf
    · obtain ⟨q1, q2⟩ := tagOf m _ h1 (by simp [Tag.new])
      have hk : k = m := Option.some.inj q2
      subst hk
      obtain ⟨b0, o0, cs0, _, _, hpos, hp1, hp2⟩ := htag _ q1
      have hLn := hL n (nF n _ h3)
      have hLk : L' k = .pointer (some ⟨b0, o0 + off, none⟩) := by rw [hkept k h6, hp2]
      obtain ⟨b1, o1, us, g1, g2, g3⟩ := hob
      rw [hLk] at g1
      injection g1 with g1; injection g1 with g1; injection g1 with g1 g1' _
      subst g1; subst g1'
      obtain ⟨b2, o2, vs, f1, f2, f3⟩ := h2.obj n _ h3
      rw [hp1] at f1
      injection f1 with f1; injection f1 with f1; injection f1 with f1 f1' _
      subst f1; subst f1'
      have hul := g2.len
      have hvl := f2.len
      have inR : ∀ o, o0 + off ≤ o → o < o0 + off + len → fp L' k (.box cells) b0 o := fun o z1 z2 => ⟨o0 + off, hLk, z1, by omega⟩
      have notR : ∀ o, o0 ≤ o → o < o0 + cs.length → ¬ (o0 + off ≤ o ∧ o < o0 + off + len) → ¬ Y.E b0 o := by
        intro o z1 z2 z3 z4
        obtain ⟨t, y1, n', ob', ⟨m', y3⟩, y4, y5, y6⟩ := (hYE b0 o).1 z4
        obtain ⟨ob0, y7, _, y8⟩ := old n _ h3
        obtain rfl := h.sep n n' ob0 ob' y7 y4 b0 o ((y8 L b0 o).1 ⟨o0, hp1, z1, z2⟩) y5
        obtain rfl := tag_uniq ht1 y1 q1 y3 (show (Tag.pb k n off len).pair = [(k, n)] from rfl)
        obtain ⟨o3, y9, y10, y11⟩ := y6
        rw [hp1] at y9
        injection y9 with y9; injection y9 with y9; injection y9 with _ y9 _
        subst y9
        exact z3 ⟨y10, y11⟩
      have hw : Same I w w' := fun b hb => hstep.same (h.imm b hb).1 (fun j q => EI b j q hb)
      have oldRC : All2 (RC L2 I2 w' (AL (s1.over ups).o)) cs vs := RCs.mono hI2I hw (fun m' hm' => by
        have nf : ¬ F m' := fun z => (hF m' z).2.1 n cs h3 hm'
        exact ⟨hL m' nf, key m' nf⟩) f2
      have newRC := ren.rcs (A2 := AL (s1.over ups).o) (fun n' hn' => obx k cells n' hm hn') (fun q => by simpa [Ob.flat] using hflo q) g2
      have hml : (cells.map (renC d ts names)).length = len := by rw [List.length_map, h5]
      refine ⟨⟨b0, o0, vs.take off ++ us ++ vs.drop (off + (cells.map (renC d ts names)).length), by rw [hLn]; exact hp1, ((oldRC.take off).append newRC).append (oldRC.drop _), ?_⟩, fun b o qf => ?_⟩
      · obtain ⟨c, T, c1, c2, c3⟩ := f3
        have hlt : b0 < w.heap.size := by
          rcases Nat.lt_or_ge b0 w.heap.size with z | z
          · exact z
          · rw [Array.getElem?_eq_none z] at c1; cases c1
        have bq := hstep.blk b0 hlt
        rw [c1] at bq
        obtain ⟨c', d1, d2, d3⟩ := bq
        obtain ⟨c2', T2, k1, k2, k3⟩ := g3
        rw [d1] at k1
        injection k1 with k1; injection k1 with k1 k1' _
        subst k1; subst k1'
        refine ⟨c', T, d1, ?_, fun j v hj => ?_⟩
        · rw [List.length_append, List.length_append, List.length_take, List.length_drop, hml]; omega
        · rcases Nat.lt_or_ge j off with z | z
          · rw [List.append_assoc, List.getElem?_append_left (by rw [List.length_take]; omega), List.getElem?_take, if_pos z] at hj
            rw [d3 (o0 + j) (notR _ (by omega) (by omega) (by omega))]
            exact c3 j v hj
          · have htl : (vs.take off).length = off := by rw [List.length_take]; omega
            rcases Nat.lt_or_ge j (off + len) with z2 | z2
            · rw [List.append_assoc, List.getElem?_append_right (by omega), htl, List.getElem?_append_left (by omega)] at hj
              have := k3 (j - off) v hj
              rw [show o0 + j = o0 + off + (j - off) by omega]
              exact this
            · have hjl : j < vs.length := by
                rcases Nat.lt_or_ge j vs.length with z3 | z3
                · exact z3
                · rw [List.getElem?_eq_none (by rw [List.length_append, List.length_append, htl, List.length_drop, hml]; omega)] at hj; cases hj
              rw [List.getElem?_append_right (by rw [List.length_append, htl]; omega), List.length_append, htl, List.getElem?_drop, hml] at hj
              rw [d3 (o0 + j) (notR _ (by omega) (by omega) (by omega))]
              refine c3 j v ?_
              rw [show j = off + len + (j - (off + us.length)) by omega]
              exact hj
      · obtain ⟨o2, y1, y2, y3⟩ := qf
        rw [hLn, hp1] at y1
        injection y1 with y1; injection y1 with y1; injection y1 with y1 y1' _
        subst y1; subst y1'
        rw [spl_len (cs := cs) (new := cells.map (renC d ts names)) (off := off) (by omega)] at y3
        by_cases z : o0 + off ≤ o ∧ o < o0 + off + len
        · exact .inl (inR o z.1 z.2)
        · exact .inr ⟨_, h3, ⟨o0, hp1, y2, y3⟩, notR o y2 y3 z, fun z2 => (hE.own k _ (eobj k _ hm) b0 (o0 + off) (inR _ (by omega) (by omega))).2.1 (I2sub b0 z2)⟩
    · obtain ⟨vs, g1, g2⟩ := hob
      have hLn := hLF m (ooe _ hm)
      refine ⟨⟨vs, by rw [hLn]; exact g1, ren.frep (fun q => by simpa [Ob.flat] using hflo q) g2⟩, fun b o qf => .inl ?_⟩
      show (L' m).ownBlock = some b
      rw [← hLn]; exact qf
    · obtain ⟨b0, o0, us, g1, g2, g3⟩ := hob
      have hLn := hLF m (ooe _ hm)
      refine ⟨⟨b0, o0, us, by rw [hLn]; exact g1, ren.rcs (A2 := AL (s1.over ups).o) (fun n' hn' => obx m cells n' hm hn') (fun q => by simpa [Ob.flat] using hflo q) g2, g3⟩, fun b o qf => .inl ?_⟩
      obtain ⟨o1, y1, y2, y3⟩ := qf
      rw [hLn] at y1
      rw [List.length_map] at y3
      exact ⟨o1, y1, y2, y3⟩
  have ownE : ∀ m ob, (m, ob) ∈ oe → ∀ b o, fp L' m ob b o → b < w'.heap.size ∧ ¬ I' b ∧ (b < w.heap.size → Y.E b o) := by
    intro m ob hm b o q
    have := hE.own m ob (eobj m ob hm) b o q
    rw [show ({ Y with N := Y.N } : Ctx).w0 = w from hYw] at this
    exact this
  have hNew : ∀ n ob', lookO ups n = some ob' → RO L2 I2 w' (AL (s1.over ups).o) n ob' ∧ ∀ b o, fp L2 n ob' b o → b < w'.heap.size ∧ ¬ I2 b ∧ (b < X.w0.heap.size → X.E b o) ∧
      (∀ m ob, s1.o m = some ob → lookO ups m = none → ¬ fp L m ob b o) ∧ ∀ m ob2, lookO ups m = some ob2 → fp L2 m ob2 b o → m = n := by
    intro n ob' q
    obtain ⟨m, ob, hm, hu⟩ := news n ob' q
    obtain ⟨r1, r2⟩ := cls n ob' q m ob hm hu
    refine ⟨r1, fun b o qf => ?_⟩
    rcases r2 b o qf with c1 | ⟨obo, c1, c2, c3, c4⟩
    · obtain ⟨o1, o2, o3⟩ := ownE m ob hm b o c1
      refine ⟨o1, fun z => o2 (I2sub b z), fun z => EX0 b o (o3 (Nat.lt_of_lt_of_le z h.step.size)) z, fun m' obm em hn' qm => notE m' obm em hn' b o qm (o3 (h2.own m' obm em b o qm).1), fun m2 ob2 q2 qf2 => ?_⟩
      obtain ⟨k, obk, hk, huk⟩ := news m2 ob2 q2
      rcases (cls m2 ob2 q2 k obk hk huk).2 b o qf2 with d1 | ⟨obo2, d1, d2, d3, _⟩
      · obtain rfl := hE.sep k m obk ob (eobj k obk hk) (eobj m ob hm) b o d1 c1
        obtain rfl := same hk hm
        rw [huk] at hu
        exact (Prod.mk.inj (Option.some.inj hu)).1
      · exact absurd (o3 (h2.own m2 obo2 d1 b o d2).1) d3
    · obtain ⟨p1, p2, p3⟩ := h2.own n obo c1 b o c2
      refine ⟨Nat.lt_of_lt_of_le p1 hstep.size, c4, p3, fun m' obm em hn' qm => ?_, fun m2 ob2 q2 qf2 => ?_⟩
      · obtain rfl := h2.sep n m' obo obm c1 em b o c2 qm
        rw [hn'] at q; cases q
      · obtain ⟨k, obk, hk, huk⟩ := news m2 ob2 q2
        rcases (cls m2 ob2 q2 k obk hk huk).2 b o qf2 with d1 | ⟨obo2, d1, d2, d3, _⟩
        · exact absurd ((ownE k obk hk b o d1).2.2 p1) c3
        · exact h2.sep m2 n obo2 obo d1 c1 b o d2 c2
  have hR := h2.over hstep hL hF hU hI2I (fun b j q z => EI b j z q) hI2 (fun n ob e hn b o q => ⟨notE n ob e hn b o q, notI2 b o (h2.own n ob e b o q).1 (h2.own n ob e b o q).2.1 (notE n ob e hn b o q)⟩) hNew EX0
  refine ⟨L2, I2, hR, ren.res (fun i m hm => ?_) (fun q i => ?_) (fun i => hE.slot i) nr, fun n hn => hL n ?_, hI2I⟩
  · rcases look_or te i with ⟨p, z1, _, z2⟩ | ⟨_, z2⟩
    · rw [z2] at hm; exact ote p z1 m hm
    · rw [z2] at hm; cases List.mem_singleton.1 hm
  · have := (hflt q).1
    rw [List.all_eq_true] at this
    rcases look_or te i with ⟨p, z1, _, z2⟩ | ⟨_, z2⟩
    · rw [z2]; exact this p z1
    · rw [z2]; rfl
  · rintro ⟨m, rfl, hm⟩
    have := hkn m hm
    rw [hn] at this
    cases this
end
end AM
end Go.Proofs.YtpcdcnmmkfhliaaGreatDoor
