/- A function comes to what its summary says. Under: its callees and its loops do. -/
import Derived.Test.YtpcdcnmmkfhliaaGreatDoorAMw
namespace Go.Proofs.YtpcdcnmmkfhliaaGreatDoor
namespace AM
open Go
set_option linter.unusedSimpArgs false
set_option linter.unusedVariables false

section
variable {P : Program} {X : Ctx} {L : Nm → Value} {I : Nat → Prop} {s : St} {a : Act} {w : World}

theorem Rel.extend (h : Rel X L I s a w) {N r : Nat} (hr : r ≤ X.N) (hN : r ≤ N) : Rel { X with N := N } L I (s.cut r) { tmps := first r a.tmps ++ Array.replicate (N - (first r a.tmps).size) undef, defers := [] } w := by
  have hs := h.size
  have hfs : (first r a.tmps).size = r := by unfold first; simp; omega
  refine ⟨rfl, ?_, fun i hi => ?_, fun i hi => ?_, h.obj, h.sep, h.own, h.imm, h.sub, h.step, h.glob⟩
  · show (first r a.tmps ++ Array.replicate (N - (first r a.tmps).size) undef).size = N
    simp [hfs]; omega
  · by_cases q : i < r
    · have e1 : (s.cut r).t i = s.t i := by
        show (bif Nat.blt i r then s.t i else .c .dead) = _
        rw [show Nat.blt i r = true from Nat.ble_eq_true_of_le q]; rfl
      have e2 : (first r a.tmps ++ Array.replicate (N - (first r a.tmps).size) undef).getD i undef = a.tmps.getD i undef := by
        rw [Array.getD_eq_getD_getElem?, Array.getD_eq_getD_getElem?, Array.getElem?_append_left (by rw [hfs]; exact q)]
        unfold first
        rw [List.getElem?_toArray, List.getElem?_take, if_pos q]
        simp
      rw [e1, e2]; exact h.tmp i (by omega)
    · have e1 : (s.cut r).t i = .c .dead := by
        show (bif Nat.blt i r then s.t i else .c .dead) = _
        rw [show Nat.blt i r = false from by cases z : Nat.blt i r with | false => rfl | true => exact absurd (Nat.le_of_ble_eq_true z) q]; rfl
      rw [e1]; trivial
  · have hi : N ≤ i := hi
    show (bif Nat.blt i r then s.t i else .c .dead) = _
    rw [show Nat.blt i r = false from by cases z : Nat.blt i r with | false => rfl | true => exact absurd (Nat.le_of_ble_eq_true z) (by show ¬ (i < r); omega)]; rfl

def readVar (a : Act) : ResultVar → Sem Value
  | .tmp t => pure (a.tmps.getD t undef)
  | .cell b t => do loadVar t (← asAddr (a.tmps.getD b undef))

theorem resVar_sound (h : Rel X L I s a w) {τ : Tab} (hτ : TabOk P τ) {v : ResultVar} {x : AV} (e : resVar τ s v = some x) :
    ∃ u, (readVar a v).run P w = .ok u w ∧ RA L I w (AL s.o) x u := by
  cases v with
  | tmp t => obtain rfl := Option.some.inj e; exact ⟨_, by simp [readVar], h.slot t⟩
  | cell b t =>
    simp only [resVar] at e
    split at e
    · rename_i ti p e1 e2
      have r := h.slot b
      rw [e2] at r
      obtain ⟨b', off, vs, e4, hl, hc, hr, h1⟩ := loadCells_sound h e r
      refine ⟨_, ?_, hr⟩
      have := run_loadVar' (P := P) (hτ t ti e1) hl hc h1
      show (do loadVar t (← asAddr (a.tmps.getD b undef))).run P w = _
      rw [e4]
      simp [asAddr, this, Result.andThen]
    · cases e

theorem resVars_sound (h : Rel X L I s a w) {τ : Tab} (hτ : TabOk P τ) : ∀ {vs : List ResultVar} {xs : List AV}, resVars τ s vs = some xs →
    ∃ us, (vs.mapM (readVar a)).run P w = .ok us w ∧ All2 (RA L I w (AL s.o)) xs us
  | [], _, e => by obtain rfl := Option.some.inj e; exact ⟨[], by simp, trivial⟩
  | v :: vs, _, e => by
    simp only [resVars] at e
    split at e
    · rename_i x xs e1 e2
      obtain rfl := Option.some.inj e
      obtain ⟨u, g1, g2⟩ := resVar_sound h hτ e1
      obtain ⟨us, g3, g4⟩ := resVars_sound h hτ e2
      exact ⟨u :: us, by simp [List.mapM_cons, g1, g3, Result.andThen], g2, g4⟩
    · cases e

theorem resVars_len {τ : Tab} : ∀ {vs : List ResultVar} {xs : List AV}, resVars τ s vs = some xs → xs.length = vs.length
  | [], _, e => by obtain rfl := Option.some.inj e; rfl
  | v :: vs, _, e => by
    simp only [resVars] at e
    split at e
    · rename_i x xs e1 e2
      obtain rfl := Option.some.inj e
      simp [resVars_len e2]
    · cases e

theorem run_results {fn : Func} {us : List Value} (h : (fn.results.toList.mapM (readVar a)).run P w = .ok us w) :
    (results fn a.tmps).run P w = .ok (if h : us.toArray.size = 1 then us.toArray[0] else .tuple us.toArray) w := by
  show (do
    let vs ← fn.results.mapM (readVar a)
    pure (if h : vs.size = 1 then vs[0] else Value.tuple vs)).run P w = _
  rw [Array.mapM_eq_mapM_toList]
  simp [h, Result.andThen]

def outVals (f : Nat → Value) : Nat → List Par → List Value
  | _, [] => []
  | i, .c (.b _ _) :: r => f i :: outVals f (i + 1) r
  | i, .p _ :: r => f i :: outVals f (i + 1) r
  | i, _ :: r => outVals f (i + 1) r

theorem outAVs_sound {L' : Nm → Value} {I' : Nat → Prop} {w' : World} {A A' : Nm → Option (Nat × Nat)} {f : Nat → AV} {g : Nat → Value} (h : ∀ i, RA L I w A (f i) (g i)) (hk : ∀ n, kept n = true → L' n = L n) : ∀ {ps : List Par} {k : Nat} {l : List AV},
    outAVs f k ps = some l → All2 (RA L' I' w' A') l (outVals g k ps)
  | [], _, _, e => by obtain rfl := Option.some.inj e; trivial
  | p :: ps, k, _, e => by
    simp only [outAVs] at e
    split at e
    · rename_i l e1
      have ih := outAVs_sound (L' := L') (I' := I') (w' := w') (A' := A') h hk e1
      have one : keptAV (f k) = true → RA L' I' w' A' (f k) (g k) := by
        intro q
        have r := h k
        unfold keptAV at q
        split at q
        · rename_i n o en
          rw [en] at r ⊢
          obtain ⟨b, off, r1, r2⟩ := r
          exact ⟨b, off, by rw [hk n q]; exact r1, r2⟩
        · rename_i n en
          rw [en] at r ⊢
          obtain ⟨x1, x2, x3, r1, r2⟩ := r
          exact ⟨x1, x2, x3, r1, by rw [hk n q]; exact r2⟩
        · cases q
      have two : ∀ {l2 : List AV}, (bif keptAV (f k) then some (f k :: l) else none) = some l2 → All2 (RA L' I' w' A') l2 (g k :: outVals g (k + 1) ps) := by
        intro l2 e
        cases q : keptAV (f k) with
        | false => rw [q] at e; cases e
        | true => rw [q] at e; obtain rfl := Option.some.inj e; exact ⟨one q, ih⟩
      cases p with
      | c q =>
        cases q with
        | i t => obtain rfl := Option.some.inj e; exact ih
        | o _ t => obtain rfl := Option.some.inj e; exact ih
        | b _ t => exact two e
        | q _ _ => obtain rfl := Option.some.inj e; exact ih
        | m _ _ _ => obtain rfl := Option.some.inj e; exact ih
        | f _ _ => obtain rfl := Option.some.inj e; exact ih
        | e => obtain rfl := Option.some.inj e; exact ih
      | g ps' => obtain rfl := Option.some.inj e; exact ih
      | p ps' => exact two e
    · cases e

theorem outEns_get {g : Nat → Value} : ∀ {ps : List Par} {k i : Nat} {e : En} {u : Value}, (outEns k ps)[i]? = some e → (outVals g k ps)[i]? = some u → u = g e.slot ∧ e.slot < k + ps.length
  | [], _, _, _, _, h, _ => by cases h
  | p :: ps, k, i, e, u, h, h' => by
    have rest : (outEns (k + 1) ps)[i]? = some e → (outVals g (k + 1) ps)[i]? = some u → u = g e.slot ∧ e.slot < k + (ps.length + 1) := fun h h' => by
      obtain ⟨g1, g2⟩ := outEns_get h h'; exact ⟨g1, by omega⟩
    have cons : ∀ {en : En}, en.slot = k → (en :: outEns (k + 1) ps)[i]? = some e → (g k :: outVals g (k + 1) ps)[i]? = some u → u = g e.slot ∧ e.slot < k + (ps.length + 1) := by
      intro en he h h'
      cases i with
      | zero => obtain rfl := Option.some.inj h; obtain rfl := Option.some.inj h'; exact ⟨by rw [he], by omega⟩
      | succ i => obtain ⟨g1, g2⟩ := outEns_get (i := i) h h'; exact ⟨g1, by omega⟩
    cases p with
    | c q =>
      cases q with
      | i t => exact rest h h'
      | o _ t => exact rest h h'
      | b _ t => exact cons rfl h h'
      | q _ _ => exact rest h h'
      | m _ _ _ => exact rest h h'
      | f _ _ => exact rest h h'
      | e => exact rest h h'
    | g ps' => exact rest h h'
    | p ps' => exact cons rfl h h'

theorem outEns_len {g : Nat → Value} : ∀ (ps : List Par) (k : Nat), (outEns k ps).length = (outVals g k ps).length
  | [], _ => rfl
  | p :: ps, k => by
    cases p with
    | c q => cases q <;> simp [outEns, outVals, outEns_len (g := g) ps (k + 1)]
    | g ps' => simp [outEns, outVals, outEns_len (g := g) ps (k + 1)]
    | p ps' => simp [outEns, outVals, outEns_len (g := g) ps (k + 1)]

theorem resEns_get : ∀ {rs : List (Bool × List PS)} {k i : Nat} {e : En}, (resEns k rs)[i]? = some e → e.slot = k + i
  | [], _, _, _, h => by cases h
  | (b, ps) :: rs, k, 0, e, h => by cases b <;> (obtain rfl := Option.some.inj h; rfl)
  | (b, ps) :: rs, k, i + 1, e, h => by
    have h : (resEns (k + 1) rs)[i]? = some e := by cases b <;> exact h
    rw [resEns_get h]; omega

theorem resEns_len : ∀ (rs : List (Bool × List PS)) (k : Nat), (resEns k rs).length = rs.length
  | [], _ => rfl
  | (b, ps) :: rs, k => by cases b <;> simp [resEns, resEns_len rs]

theorem nbEns_get : ∀ {rs : List (Nat × Nm × List PS)} {k i : Nat} {e : En}, (nbEns k rs)[i]? = some e → e.slot = k + i
  | [], _, _, _, h => by cases h
  | p :: rs, k, 0, e, h => by obtain rfl := Option.some.inj h; rfl
  | p :: rs, k, i + 1, e, h => by
    have h : (nbEns (k + 1) rs)[i]? = some e := h
    rw [nbEns_get h]; omega

theorem RA.getD {A : Nm → Option (Nat × Nat)} {xs : List AV} {us : List Value} (h : All2 (RA L I w A) xs us) (i : Nat) : RA L I w A (xs.getD i (.c .dead)) (us.getD i undef) := by
  rw [List.getD_eq_getElem?_getD, List.getD_eq_getElem?_getD]
  cases e : xs[i]? with
  | none => exact trivial
  | some x => obtain ⟨u, e2, r⟩ := h.get e; rw [e2]; exact r

theorem nb_sound {A : Nm → Option (Nat × Nat)} {xs : List AV} {us : List Value} (h : All2 (RA L I w A) xs us) : ∀ nb : List (Nat × Nm × List PS), All2 (RA L I w A) (nb.map fun p => xs.getD p.1 (.c .dead)) (nb.map fun p => us.getD p.1 undef)
  | [] => trivial
  | p :: nb => ⟨RA.getD h p.1, nb_sound h nb⟩

theorem resV_eq {a'' : Act} {np : Nat} {us : List Value} (h : ∀ j u, us[j]? = some u → a''.tmps.getD (np + j) undef = u) : (if h : us.toArray.size = 1 then us.toArray[0] else .tuple us.toArray) = resV a'' np us.length := by
  match us with
  | [u] => rw [dif_pos (show #[u].size = 1 from rfl)]; exact (h 0 u rfl).symm
  | [] => simp [resV]
  | u :: v :: r =>
    have : ∀ l : List Value, (∀ j u, l[j]? = some u → a''.tmps.getD (np + j) undef = u) → (List.range l.length).map (fun j => a''.tmps.getD (np + j) undef) = l := by
      intro l hl
      apply List.ext_getElem?
      intro i
      rw [List.getElem?_map]
      rcases Nat.lt_or_ge i l.length with q | q
      · rw [List.getElem?_range q]
        exact (congrArg some (hl i _ (List.getElem?_eq_getElem q))).trans (List.getElem?_eq_getElem q).symm
      · rw [List.getElem?_eq_none (by simpa using q), List.getElem?_eq_none q]; rfl
    have := this _ h
    rw [dif_neg (by simp)]
    show _ = Value.tuple ((List.range (u :: v :: r).length).map fun j => a''.tmps.getD (np + j) undef).toArray
    rw [this]

/-- A function whose code has been evaluated. -/
theorem obeys {E : Env} {K : Glob} (hE : EnvOk P K E) {f : FuncId} {fn : Func} {c : Code} {S : FSum} (hf : P.funcs[f]? = some fn) (hb : fn.body = some c) (hN : E.N = fn.ntmps) (hn : S.pars.length ≤ fn.ntmps) (hr : fn.results.size = S.res.length)
    (hl : LoopsOk E c) (hg : ∀ x r, S.g x = some r → runF E fn S x = some r) : Obeys P K f S := by
  intro Y L I a w x r hx h hK hY hw
  subst hK
  refine calls_of_wp hf hb ?_
  have hreal : S.real ≤ S.pars.length := by unfold FSum.real; omega
  have h1 := h.extend (N := fn.ntmps) (r := S.real) (by rw [hY]; exact hreal) (by omega)
  have e := hg x r hx
  unfold runF at e
  rw [hb] at e
  dsimp only at e
  refine Go.wp_mono (exec_sound hE (X := { Y with N := fn.ntmps }) hN c hl h1 e) fun en a' w' hp => ?_
  obtain ⟨ex, s', L', I', hx', r1, r2, r3⟩ := hp
  have fin : retK E fn S (mkSt (parEns 0 S.pars) x) s' = some r → a'.defers = [] ∧ ∃ v, (results fn a'.tmps).run P w' = .ok v w' ∧
      ∃ v' L2 I2 a2, Ending.returned v = .returned v' ∧ Rel { Y with N := S.pars.length + (S.res.length + S.nb.length) } L2 I2 (mkSt S.ens r) a2 w' ∧ (∀ n, kept n = true → L2 n = L n) ∧ v' = resV a2 S.pars.length S.res.length := by
    intro e
    refine ⟨r1.defers, ?_⟩
    unfold retK at e
    split at e
    · rename_i rs os e1 e2
      obtain ⟨us, g1, g2⟩ := resVars_sound r1 hE.τ e1
      have hul : us.length = S.res.length := by
        rw [← g2.len, resVars_len e1, ← hr]; simp
      have hos := outAVs_sound (L' := L') (I' := I') (w' := w') (A' := AL s'.o) (g := fun i => a.tmps.getD i undef) (fun i => h.slot i) r2 e2
      have hsz : a.tmps.size = S.pars.length := by rw [h.size, hY]
      let bs := S.nb.map fun p => us.getD p.1 undef
      have hbl : bs.length = S.nb.length := List.length_map ..
      have hat : ∀ j u, us[j]? = some u → (a.tmps ++ us.toArray ++ bs.toArray).getD (S.pars.length + j) undef = u := by
        intro j u hj
        have hjl : j < us.length := (List.getElem?_eq_some_iff.1 hj).1
        rw [Array.getD_eq_getD_getElem?, Array.getElem?_append_left (by simp; omega), Array.getElem?_append_right (by omega), hsz, Nat.add_sub_cancel_left]
        simp [hj]
      have hat2 : ∀ j u, bs[j]? = some u → (a.tmps ++ us.toArray ++ bs.toArray).getD (S.pars.length + S.res.length + j) undef = u := by
        intro j u hj
        have : (a.tmps ++ us.toArray).size = S.pars.length + S.res.length := by simp [hsz, hul]
        rw [Array.getD_eq_getD_getElem?, Array.getElem?_append_right (by omega), this, Nat.add_sub_cancel_left, List.getElem?_toArray, hj]; rfl
      obtain ⟨L2, I2, k1, _, k3⟩ := shut_sound r1 e (hos.append (g2.append (nb_sound g2 S.nb))) (a' := ⟨a.tmps ++ us.toArray ++ bs.toArray, []⟩) rfl (by simp [hsz, hul, hbl]) (fun i en u z1 z2 => by
        unfold endEns at z1
        rcases Nat.lt_or_ge i (outEns 0 S.pars).length with q | q
        · rw [List.getElem?_append_left q] at z1
          rw [List.getElem?_append_left (by rw [← outEns_len]; exact q)] at z2
          obtain ⟨y1, y2⟩ := outEns_get z1 z2
          rw [y1, Array.getD_eq_getD_getElem?, Array.append_assoc, Array.getElem?_append_left (by omega), ← Array.getD_eq_getD_getElem?]
        · rw [List.getElem?_append_right q] at z1
          rw [List.getElem?_append_right (by rw [← outEns_len]; exact q), ← outEns_len] at z2
          generalize i - (outEns 0 S.pars).length = m at z1 z2
          rcases Nat.lt_or_ge m S.res.length with q2 | q2
          · rw [List.getElem?_append_left (by rw [resEns_len]; exact q2)] at z1
            rw [List.getElem?_append_left (by omega)] at z2
            rw [resEns_get z1]
            exact hat _ u z2
          · rw [List.getElem?_append_right (by rw [resEns_len]; exact q2), resEns_len] at z1
            rw [List.getElem?_append_right (by omega), hul] at z2
            rw [nbEns_get z1]
            exact hat2 _ u z2)
      refine ⟨_, run_results g1, _, L2, I2, ⟨a.tmps ++ us.toArray ++ bs.toArray, []⟩, rfl, k1, fun n hn => (k3 n hn).trans (r2 n hn), ?_⟩
      rw [← hul]
      exact resV_eq (a'' := ⟨a.tmps ++ us.toArray ++ bs.toArray, []⟩) hat
    · cases e
  cases ex with
  | normal =>
    cases en <;> try exact hx'.elim
    exact fin r3
  | exit i => cases r3
  | ret =>
    cases en <;> try exact hx'.elim
    exact fin r3
end
end AM
end Go.Proofs.YtpcdcnmmkfhliaaGreatDoor
