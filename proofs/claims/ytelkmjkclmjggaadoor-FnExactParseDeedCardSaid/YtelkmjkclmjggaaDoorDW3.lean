/- A function comes to what its summary says. Under: its callees and its loops do. And what follows it: see the remarks. -/
import Derived.Test.YtelkmjkclmjggaaDoorDW2
import Derived.ChangeArms
import Derived.Carry
import Derived.ChangeShapes
import Derived.Laws.StructEq
import Derived.WideShapes
import Derived.RowKit
import Derived.WideKeyArgs
import Derived.ChangeOld
import Derived.Lib.LaidTab
import Derived.Sort.Grow
import Derived.Deep.Draws
import Derived.ChangeCalls

/-! A function comes to what its summary says. Under: its callees and its loops do. -/
namespace Go.Proofs.YtelkmjkclmjggaaDoor
namespace AM
open Go
set_option linter.unusedSimpArgs false
set_option linter.unusedVariables false

section
variable {P : Program} {X : Ctx} {L : Nm → Value} {I : Nat → Prop} {s : St} {a : Act} {w : World}

theorem Rel.extend (h : Rel X L I s a w) {N r : Nat} (hr : r ≤ X.N) (hN : r ≤ N) : Rel { X with N := N } L I (s.cut r) { tmps := first r a.tmps ++ Array.replicate (N - (first r a.tmps).size) undef, defers := [] } w := by
  have hs := h.size
  have hfs : (first r a.tmps).size = r := by unfold first; simp; omega
  refine ⟨rfl, ?_, fun i hi => ?_, fun i hi => ?_, h.obj, h.sep, h.own, h.imm, h.sub, h.step, h.glob⟩
  · show (first r a.tmps ++ Array.replicate (N - (first r a.tmps).size) undef).size = N
    simp [hfs]; omega
  · by_cases q : i < r
    · have e1 : (s.cut r).t i = s.t i := by
        show (bif Nat.blt i r then s.t i else .c .dead) = _
        rw [show Nat.blt i r = true from Nat.ble_eq_true_of_le q]; rfl
      have e2 : (first r a.tmps ++ Array.replicate (N - (first r a.tmps).size) undef).getD i undef = a.tmps.getD i undef := by
        rw [Array.getD_eq_getD_getElem?, Array.getD_eq_getD_getElem?, Array.getElem?_append_left (by rw [hfs]; exact q)]
        unfold first
        rw [List.getElem?_toArray, List.getElem?_take, if_pos q]
        simp
      rw [e1, e2]; exact h.tmp i (by omega)
    · have e1 : (s.cut r).t i = .c .dead := by
        show (bif Nat.blt i r then s.t i else .c .dead) = _
        rw [show Nat.blt i r = false from by cases z : Nat.blt i r with | false => rfl | true => exact absurd (Nat.le_of_ble_eq_true z) q]; rfl
      rw [e1]; trivial
  · have hi : N ≤ i := hi
    show (bif Nat.blt i r then s.t i else .c .dead) = _
    rw [show Nat.blt i r = false from by cases z : Nat.blt i r with | false => rfl | true => exact absurd (Nat.le_of_ble_eq_true z) (by show ¬ (i < r); omega)]; rfl

def readVar (a : Act) : ResultVar → Sem Value
  | .tmp t => pure (a.tmps.getD t undef)
  | .cell b t => do loadVar t (← asAddr (a.tmps.getD b undef))

theorem resVar_sound (h : Rel X L I s a w) {τ : Tab} (hτ : TabOk P τ) {v : ResultVar} {x : AV} (e : resVar τ s v = some x) :
    ∃ u, (readVar a v).run P w = .ok u w ∧ RA L I w (AL s.o) x u := by
  cases v with
  | tmp t => obtain rfl := Option.some.inj e; exact ⟨_, by simp [readVar], h.slot t⟩
  | cell b t =>
    simp only [resVar] at e
    split at e
    · rename_i ti p e1 e2
      have r := h.slot b
      rw [e2] at r
      obtain ⟨b', off, vs, e4, hl, hc, hr, h1⟩ := loadCells_sound h e r
      refine ⟨_, ?_, hr⟩
      have := run_loadVar' (P := P) (hτ t ti e1) hl hc h1
      show (do loadVar t (← asAddr (a.tmps.getD b undef))).run P w = _
      rw [e4]
      simp [asAddr, this, Result.andThen]
    · cases e

theorem resVars_sound (h : Rel X L I s a w) {τ : Tab} (hτ : TabOk P τ) : ∀ {vs : List ResultVar} {xs : List AV}, resVars τ s vs = some xs →
    ∃ us, (vs.mapM (readVar a)).run P w = .ok us w ∧ All2 (RA L I w (AL s.o)) xs us
  | [], _, e => by obtain rfl := Option.some.inj e; exact ⟨[], by simp, trivial⟩
  | v :: vs, _, e => by
    simp only [resVars] at e
    split at e
    · rename_i x xs e1 e2
      obtain rfl := Option.some.inj e
      obtain ⟨u, g1, g2⟩ := resVar_sound h hτ e1
      obtain ⟨us, g3, g4⟩ := resVars_sound h hτ e2
      exact ⟨u :: us, by simp [List.mapM_cons, g1, g3, Result.andThen], g2, g4⟩
    · cases e

theorem resVars_len {τ : Tab} : ∀ {vs : List ResultVar} {xs : List AV}, resVars τ s vs = some xs → xs.length = vs.length
  | [], _, e => by obtain rfl := Option.some.inj e; rfl
  | v :: vs, _, e => by
    simp only [resVars] at e
    split at e
    · rename_i x xs e1 e2
      obtain rfl := Option.some.inj e
      simp [resVars_len e2]
    · cases e

theorem run_results {fn : Func} {us : List Value} (h : (fn.results.toList.mapM (readVar a)).run P w = .ok us w) :
    (results fn a.tmps).run P w = .ok (if h : us.toArray.size = 1 then us.toArray[0] else .tuple us.toArray) w := by
  show (do
    let vs ← fn.results.mapM (readVar a)
    pure (if h : vs.size = 1 then vs[0] else Value.tuple vs)).run P w = _
  rw [Array.mapM_eq_mapM_toList]
  simp [h, Result.andThen]

def outVals (f : Nat → Value) : Nat → List Par → List Value
  | _, [] => []
  | i, .c (.b _ _) :: r => f i :: outVals f (i + 1) r
  | i, .p _ :: r => f i :: outVals f (i + 1) r
  | i, .h _ :: r => f i :: outVals f (i + 1) r
  | i, _ :: r => outVals f (i + 1) r

theorem keptCs_sound {L' : Nm → Value} {I' : Nat → Prop} {w' : World} {A A' : Nm → Option (Nat × Nat)} (hk : ∀ n, kept n = true → L' n = L n) : ∀ {cs : List CV} {us : List Value}, cs.all keptC = true → All2 (RC L I w A) cs us → All2 (RC L' I' w' A') cs us
  | [], [], _, _ => trivial
  | [], _ :: _, _, r => r.elim
  | _ :: _, [], _, r => r.elim
  | c :: cs, u :: us, q, r => by
    rw [List.all_cons, Bool.and_eq_true] at q
    refine ⟨?_, keptCs_sound hk q.2 r.2⟩
    have q := q.1
    have r := r.1
    cases c with
    | own n =>
      obtain ⟨x1, x2, x3, r1, r2⟩ := r
      exact ⟨x1, x2, x3, r1, by rw [hk n q]; exact r2⟩
    | v ty x => exact Rep.plain ty (by simpa [keptC] using q) r
    | _ => cases q
theorem outAVs_sound {L' : Nm → Value} {I' : Nat → Prop} {w' : World} {A A' : Nm → Option (Nat × Nat)} {f : Nat → AV} {g : Nat → Value} (h : ∀ i, RA L I w A (f i) (g i)) (hk : ∀ n, kept n = true → L' n = L n) : ∀ {ps : List Par} {k : Nat} {l : List AV},
    outAVs f k ps = some l → All2 (RA L' I' w' A') l (outVals g k ps)
  | [], _, _, e => by obtain rfl := Option.some.inj e; trivial
  | p :: ps, k, _, e => by
    simp only [outAVs] at e
    split at e
    · rename_i l e1
      have ih := outAVs_sound (L' := L') (I' := I') (w' := w') (A' := A') h hk e1
      have one : keptAV (f k) = true → RA L' I' w' A' (f k) (g k) := by
        intro q
        have r := h k
        unfold keptAV at q
        split at q
        · rename_i n o en
          rw [en] at r ⊢
          obtain ⟨b, off, r1, r2⟩ := r
          exact ⟨b, off, by rw [hk n q]; exact r1, r2⟩
        · rename_i n en
          rw [en] at r ⊢
          obtain ⟨x1, x2, x3, r1, r2⟩ := r
          exact ⟨x1, x2, x3, r1, by rw [hk n q]; exact r2⟩
        · rename_i cs en
          rw [en] at r ⊢
          obtain ⟨vs, r1, r⟩ := r
          exact ⟨vs, r1, keptCs_sound hk q r⟩
        · cases q
      have two : ∀ {l2 : List AV}, (bif keptAV (f k) then some (f k :: l) else none) = some l2 → All2 (RA L' I' w' A') l2 (g k :: outVals g (k + 1) ps) := by
        intro l2 e
        cases q : keptAV (f k) with
        | false => rw [q] at e; cases e
        | true => rw [q] at e; obtain rfl := Option.some.inj e; exact ⟨one q, ih⟩
      cases p with
      | c q =>
        cases q with
        | i t => obtain rfl := Option.some.inj e; exact ih
        | o _ t => obtain rfl := Option.some.inj e; exact ih
        | b _ t => exact two e
        | q _ _ => obtain rfl := Option.some.inj e; exact ih
        | m _ _ _ => obtain rfl := Option.some.inj e; exact ih
        | f _ _ => obtain rfl := Option.some.inj e; exact ih
        | e => obtain rfl := Option.some.inj e; exact ih
      | g ps' => obtain rfl := Option.some.inj e; exact ih
      | p ps' => exact two e
      | h ps' => exact two e
    · cases e

theorem outEns_get {g : Nat → Value} : ∀ {ps : List Par} {k i : Nat} {e : En} {u : Value}, (outEns k ps)[i]? = some e → (outVals g k ps)[i]? = some u → u = g e.slot ∧ e.slot < k + ps.length
  | [], _, _, _, _, h, _ => by cases h
  | p :: ps, k, i, e, u, h, h' => by
    have rest : (outEns (k + 1) ps)[i]? = some e → (outVals g (k + 1) ps)[i]? = some u → u = g e.slot ∧ e.slot < k + (ps.length + 1) := fun h h' => by
      obtain ⟨g1, g2⟩ := outEns_get h h'; exact ⟨g1, by omega⟩
    have cons : ∀ {en : En}, en.slot = k → (en :: outEns (k + 1) ps)[i]? = some e → (g k :: outVals g (k + 1) ps)[i]? = some u → u = g e.slot ∧ e.slot < k + (ps.length + 1) := by
      intro en he h h'
      cases i with
      | zero => obtain rfl := Option.some.inj h; obtain rfl := Option.some.inj h'; exact ⟨by rw [he], by omega⟩
      | succ i => obtain ⟨g1, g2⟩ := outEns_get (i := i) h h'; exact ⟨g1, by omega⟩
    cases p with
    | c q =>
      cases q with
      | i t => exact rest h h'
      | o _ t => exact rest h h'
      | b _ t => exact cons rfl h h'
      | q _ _ => exact rest h h'
      | m _ _ _ => exact rest h h'
      | f _ _ => exact rest h h'
      | e => exact rest h h'
    | g ps' => exact rest h h'
    | p ps' => exact cons rfl h h'
    | h ps' => exact cons rfl h h'

theorem outEns_len {g : Nat → Value} : ∀ (ps : List Par) (k : Nat), (outEns k ps).length = (outVals g k ps).length
  | [], _ => rfl
  | p :: ps, k => by
    cases p with
    | c q => cases q <;> simp [outEns, outVals, outEns_len (g := g) ps (k + 1)]
    | g ps' => simp [outEns, outVals, outEns_len (g := g) ps (k + 1)]
    | p ps' => simp [outEns, outVals, outEns_len (g := g) ps (k + 1)]
    | h ps' => simp [outEns, outVals, outEns_len (g := g) ps (k + 1)]

theorem resEns_get : ∀ {rs : List (Bool × List PS)} {k i : Nat} {e : En}, (resEns k rs)[i]? = some e → e.slot = k + i
  | [], _, _, _, h => by cases h
  | (b, ps) :: rs, k, 0, e, h => by cases b <;> (obtain rfl := Option.some.inj h; rfl)
  | (b, ps) :: rs, k, i + 1, e, h => by
    have h : (resEns (k + 1) rs)[i]? = some e := by cases b <;> exact h
    rw [resEns_get h]; omega

theorem resEns_len : ∀ (rs : List (Bool × List PS)) (k : Nat), (resEns k rs).length = rs.length
  | [], _ => rfl
  | (b, ps) :: rs, k => by cases b <;> simp [resEns, resEns_len rs]

theorem nbEns_get : ∀ {rs : List (Nat × Nm × List PS)} {k i : Nat} {e : En}, (nbEns k rs)[i]? = some e → e.slot = k + i
  | [], _, _, _, h => by cases h
  | p :: rs, k, 0, e, h => by obtain rfl := Option.some.inj h; rfl
  | p :: rs, k, i + 1, e, h => by
    have h : (nbEns (k + 1) rs)[i]? = some e := h
    rw [nbEns_get h]; omega

theorem RA.getD {A : Nm → Option (Nat × Nat)} {xs : List AV} {us : List Value} (h : All2 (RA L I w A) xs us) (i : Nat) : RA L I w A (xs.getD i (.c .dead)) (us.getD i undef) := by
  rw [List.getD_eq_getElem?_getD, List.getD_eq_getElem?_getD]
  cases e : xs[i]? with
  | none => exact trivial
  | some x => obtain ⟨u, e2, r⟩ := h.get e; rw [e2]; exact r

theorem nb_sound {A : Nm → Option (Nat × Nat)} {xs : List AV} {us : List Value} (h : All2 (RA L I w A) xs us) : ∀ nb : List (Nat × Nm × List PS), All2 (RA L I w A) (nb.map fun p => xs.getD p.1 (.c .dead)) (nb.map fun p => us.getD p.1 undef)
  | [] => trivial
  | p :: nb => ⟨RA.getD h p.1, nb_sound h nb⟩

theorem resV_eq {a'' : Act} {np : Nat} {us : List Value} (h : ∀ j u, us[j]? = some u → a''.tmps.getD (np + j) undef = u) : (if h : us.toArray.size = 1 then us.toArray[0] else .tuple us.toArray) = resV a'' np us.length := by
  match us with
  | [u] => rw [dif_pos (show #[u].size = 1 from rfl)]; exact (h 0 u rfl).symm
  | [] => simp [resV]
  | u :: v :: r =>
    have : ∀ l : List Value, (∀ j u, l[j]? = some u → a''.tmps.getD (np + j) undef = u) → (List.range l.length).map (fun j => a''.tmps.getD (np + j) undef) = l := by
      intro l hl
      apply List.ext_getElem?
      intro i
      rw [List.getElem?_map]
      rcases Nat.lt_or_ge i l.length with q | q
      · rw [List.getElem?_range q]
        exact (congrArg some (hl i _ (List.getElem?_eq_getElem q))).trans (List.getElem?_eq_getElem q).symm
      · rw [List.getElem?_eq_none (by simpa using q), List.getElem?_eq_none q]; rfl
    have := this _ h
    rw [dif_neg (by simp)]
    show _ = Value.tuple ((List.range (u :: v :: r).length).map fun j => a''.tmps.getD (np + j) undef).toArray
    rw [this]

/-- A function whose code has been evaluated. -/
theorem obeys {E : Env} {K : Glob} (hE : EnvOk P K E) {f : FuncId} {fn : Func} {c : Code} {S : FSum} (hf : P.funcs[f]? = some fn) (hb : fn.body = some c) (hN : E.N = fn.ntmps) (hn : S.pars.length ≤ fn.ntmps) (hr : fn.results.size = S.res.length)
    (hl : LoopsOk E c) (hg : ∀ x r, S.g x = some r → runF E fn S x = some r) : Obeys P K f S := by
  intro Y L I a w x r hx h hK hY hw
  subst hK
  refine calls_of_wp hf hb ?_
  have hreal : S.real ≤ S.pars.length := by unfold FSum.real; omega
  have h1 := h.extend (N := fn.ntmps) (r := S.real) (by rw [hY]; exact hreal) (by omega)
  have e := hg x r hx
  unfold runF at e
  rw [hb] at e
  dsimp only at e
  refine Go.wp_mono (exec_sound hE (X := { Y with N := fn.ntmps }) hN c hl h1 e) fun en a' w' hp => ?_
  obtain ⟨ex, s', L', I', hx', r1, r2, r3⟩ := hp
  have fin : retK E fn S (mkSt (parEns 0 S.pars) x) s' = some r → a'.defers = [] ∧ ∃ v, (results fn a'.tmps).run P w' = .ok v w' ∧
      ∃ v' L2 I2 a2, Ending.returned v = .returned v' ∧ Rel { Y with N := S.pars.length + (S.res.length + S.nb.length) } L2 I2 (mkSt S.ens r) a2 w' ∧ (∀ n, kept n = true → L2 n = L n) ∧ v' = resV a2 S.pars.length S.res.length := by
    intro e
    refine ⟨r1.defers, ?_⟩
    unfold retK at e
    split at e
    · rename_i rs os e1 e2
      obtain ⟨us, g1, g2⟩ := resVars_sound r1 hE.τ e1
      have hul : us.length = S.res.length := by
        rw [← g2.len, resVars_len e1, ← hr]; simp
      have hos := outAVs_sound (L' := L') (I' := I') (w' := w') (A' := AL s'.o) (g := fun i => a.tmps.getD i undef) (fun i => h.slot i) r2 e2
      have hsz : a.tmps.size = S.pars.length := by rw [h.size, hY]
      let bs := S.nb.map fun p => us.getD p.1 undef
      have hbl : bs.length = S.nb.length := List.length_map ..
      have hat : ∀ j u, us[j]? = some u → (a.tmps ++ us.toArray ++ bs.toArray).getD (S.pars.length + j) undef = u := by
        intro j u hj
        have hjl : j < us.length := (List.getElem?_eq_some_iff.1 hj).1
        rw [Array.getD_eq_getD_getElem?, Array.getElem?_append_left (by simp; omega), Array.getElem?_append_right (by omega), hsz, Nat.add_sub_cancel_left]
        simp [hj]
      have hat2 : ∀ j u, bs[j]? = some u → (a.tmps ++ us.toArray ++ bs.toArray).getD (S.pars.length + S.res.length + j) undef = u := by
        intro j u hj
        have : (a.tmps ++ us.toArray).size = S.pars.length + S.res.length := by simp [hsz, hul]
        rw [Array.getD_eq_getD_getElem?, Array.getElem?_append_right (by omega), this, Nat.add_sub_cancel_left, List.getElem?_toArray, hj]; rfl
      obtain ⟨L2, I2, k1, _, k3⟩ := shut_sound r1 e (hos.append (g2.append (nb_sound g2 S.nb))) (a' := ⟨a.tmps ++ us.toArray ++ bs.toArray, []⟩) rfl (by simp [hsz, hul, hbl]) (fun i en u z1 z2 => by
        unfold endEns at z1
        rcases Nat.lt_or_ge i (outEns 0 S.pars).length with q | q
        · rw [List.getElem?_append_left q] at z1
          rw [List.getElem?_append_left (by rw [← outEns_len]; exact q)] at z2
          obtain ⟨y1, y2⟩ := outEns_get z1 z2
          rw [y1, Array.getD_eq_getD_getElem?, Array.append_assoc, Array.getElem?_append_left (by omega), ← Array.getD_eq_getD_getElem?]
        · rw [List.getElem?_append_right q] at z1
          rw [List.getElem?_append_right (by rw [← outEns_len]; exact q), ← outEns_len] at z2
          generalize i - (outEns 0 S.pars).length = m at z1 z2
          rcases Nat.lt_or_ge m S.res.length with q2 | q2
          · rw [List.getElem?_append_left (by rw [resEns_len]; exact q2)] at z1
            rw [List.getElem?_append_left (by omega)] at z2
            rw [resEns_get z1]
            exact hat _ u z2
          · rw [List.getElem?_append_right (by rw [resEns_len]; exact q2), resEns_len] at z1
            rw [List.getElem?_append_right (by omega), hul] at z2
            rw [nbEns_get z1]
            exact hat2 _ u z2)
      refine ⟨_, run_results g1, _, L2, I2, ⟨a.tmps ++ us.toArray ++ bs.toArray, []⟩, rfl, k1, fun n hn => (k3 n hn).trans (r2 n hn), ?_⟩
      rw [← hul]
      exact resV_eq (a'' := ⟨a.tmps ++ us.toArray ++ bs.toArray, []⟩) hat
    · cases e
  cases ex with
  | normal =>
    cases en <;> try exact hx'.elim
    exact fin r3
  | exit i => cases r3
  | ret =>
    cases en <;> try exact hx'.elim
    exact fin r3
end
end AM
end Go.Proofs.YtelkmjkclmjggaaDoor

/-! How what comes in reads as plain data. No condition. -/
namespace Go.Proofs.YtelkmjkclmjggaaDoor
namespace AM
open Go
set_option linter.unusedSimpArgs false
set_option linter.unusedVariables false

/-- The fields of a struct, one behind the other from a place on. -/
def tyFs (sz : TypeId → Nat) (r : TypeId → Option Ty) : Nat → List Field → Option Ty
  | _, [] => none
  | off, [f] => match r f.type with
    | some t => bif Nat.beq f.offset off && Nat.beq (sz f.type) t.sz then some t else none
    | none => none
  | off, f :: g :: l => match r f.type with
    | some t => bif Nat.beq f.offset off && Nat.beq (sz f.type) t.sz then (match tyFs sz r (off + t.sz) (g :: l) with
      | some u => some (.pr t u)
      | none => none) else none
    | none => none
def tyOf (P : Program) : Nat → TypeId → Option Ty
  | 0, _ => none
  | n + 1, T => match P.underlying T with
    | some (.int k) => some (.int k)
    | some .bool => some .bool
    | some .string => some .str
    | some (.slice e) => match tyOf P n e with
      | some t => bif Nat.beq (P.cellsOf e) t.sz then some (.sl t) else none
      | none => none
    | some (.struct fs) => match tyFs P.cellsOf (tyOf P n) 0 fs.toList with
      | some t => bif Nat.beq (P.cellsOf T) t.sz then some t else none
      | none => none
    | _ => none

/-- Each number is one of its kind, nothing is longer than a length can be. -/
def Fits : (t : Ty) → t.den → Prop
  | .int k, n => (Lit.int k n).wf = true
  | .bool, _ => True
  | .str, s => ByteArray.size s ≤ maxLen
  | .sl t, xs => List.length xs ≤ maxLen ∧ ∀ x ∈ (show List t.den from xs), Fits t x
  | .pr a b, x => Fits a x.1 ∧ Fits b x.2

section
variable {H : Type} {enc : TypeId × Value → H} {P : Program} {w : World} {sp : Nat → Bool} {held : Bool}

theorem cells?_at {a : Addr} {n : Nat} {cs : List Value} (h : w.cells? 0 a n = some cs) : cs.length = n ∧ ∀ j u, cs[j]? = some u → w.cell? (a.add j) = some u := by
  unfold World.cells? at h
  split at h
  · have hl := mapM_some_length h
    refine ⟨by simpa using hl, fun j u hu => ?_⟩
    have hj : j < n := by
      rcases Nat.lt_or_ge j n with q | q
      · exact q
      · rw [List.getElem?_eq_none (by simp at hl; omega)] at hu; cases hu
    have := mapM_some_get h j j (by simp [hj])
    rw [this, hu]
  · cases h

theorem cell_spot {a : Addr} {u : Value} (h : w.cell? a = some u) : a = ⟨a.block, a.off, none⟩ ∧ a.block < w.heap.size := by
  have hspot : a.spot = none := by
    cases hsp : a.spot with
    | none => rfl
    | some s =>
      simp only [World.cell?] at h
      split at h
      · simp [hsp] at h
      · cases h
  exact ⟨by cases a; simp_all, World.block_lt_of_cell? w a h⟩
theorem add_plain (b off j : Nat) : (⟨b, off, none⟩ : Addr).add j = ⟨b, off + j, none⟩ := by
  unfold Addr.add
  by_cases h : j = 0
  · subst h; rfl
  · rw [if_neg h]

def Read (w : World) (t : Ty) (cs : List Value) : Prop := ∃ d : t.den, Rep (fun b => b < w.heap.size) w t d cs ∧ Fits t d

theorem choose_list {α β : Type} {R : Nat → α → β → Prop} : ∀ {n : Nat}, (∀ i, i < n → ∃ a b, R i a b) → ∃ (xs : List α) (ys : List β), xs.length = n ∧ ys.length = n ∧ ∀ (i : Nat) (x : α) (y : β), xs[i]? = some x → ys[i]? = some y → R i x y
  | 0, _ => ⟨[], [], rfl, rfl, fun _ _ _ h => by cases h⟩
  | n + 1, h => by
    obtain ⟨xs, ys, h1, h2, h3⟩ := choose_list (n := n) (fun i hi => h i (by omega))
    obtain ⟨a, b, hab⟩ := h n (by omega)
    refine ⟨xs ++ [a], ys ++ [b], by simp [h1], by simp [h2], fun i x y hx hy => ?_⟩
    rcases Nat.lt_or_ge i n with q | q
    · rw [List.getElem?_append_left (by omega)] at hx hy
      exact h3 i x y hx hy
    · have hi : i = n := by
        have := List.getElem?_eq_some_iff.1 hx
        obtain ⟨q2, _⟩ := this
        simp at q2; omega
      subst hi
      rw [List.getElem?_append_right (by omega)] at hx hy
      simp [h1, h2] at hx hy
      subst hx; subst hy
      exact hab

theorem all2_of_get {α β : Type} {R : α → β → Prop} : ∀ {xs : List α} {ys : List β}, xs.length = ys.length → (∀ (i : Nat) (x : α) (y : β), xs[i]? = some x → ys[i]? = some y → R x y) → All2 R xs ys
  | [], [], _, _ => trivial
  | x :: xs, y :: ys, h, g => ⟨g 0 x y rfl rfl, all2_of_get (by simpa using h) (fun i a b ha hb => g (i + 1) a b ha hb)⟩
  | [], _ :: _, h, _ => by cases h
  | _ :: _, [], h, _ => by cases h

theorem flatten_get {sz : Nat} : ∀ {css : List (List Value)}, (∀ cs ∈ css, cs.length = sz) → ∀ {j : Nat} {u : Value}, css.flatten[j]? = some u → ∃ i k cs, j = i * sz + k ∧ css[i]? = some cs ∧ cs[k]? = some u
  | [], _, _, _, h => by simp at h
  | c :: css, hl, j, u, h => by
    rw [List.flatten_cons] at h
    have hc := hl c (List.mem_cons_self ..)
    rcases Nat.lt_or_ge j c.length with q | q
    · rw [List.getElem?_append_left q] at h
      exact ⟨0, j, c, by omega, rfl, h⟩
    · rw [List.getElem?_append_right q] at h
      obtain ⟨i, k, cs, h1, h2, h3⟩ := flatten_get (fun x hx => hl x (List.mem_cons_of_mem _ hx)) h
      exact ⟨i + 1, k, cs, by rw [Nat.add_mul]; omega, h2, h3⟩

theorem read_sl {e : Nat} {t : Ty} {n : Nat} (ih : ∀ cs (x : DataW H × List MemPlace), DataW.trod enc P w 0 sp held n e cs = some x → Read w t cs) (hsz : P.cellsOf e = t.sz) {a : Addr} {len cap : Nat} (hl : len ≤ cap) (hc : cap ≤ maxLen)
    {el : Nat → Option (DataW H × List MemPlace)} (hel : ∀ i, i < len → (w.cells? 0 (a.add (i * P.cellsOf e)) (P.cellsOf e)).bind (DataW.trod enc P w 0 sp held n e) = el i) (hs : ∀ i, i < len → (el i).isSome = true) : Read w (.sl t) [.slice (some a) len cap] := by
  have each : ∀ i, i < len → ∃ (d : t.den) (cs : List Value), (Rep (fun b => b < w.heap.size) w t d cs ∧ Fits t d) ∧ (∀ k u, cs[k]? = some u → w.cell? ((a.add (i * t.sz)).add k) = some u) ∧ cs.length = t.sz := by
    intro i hi
    have h1 := hel i hi
    have h2 := hs i hi
    cases he : el i with
    | none => rw [he] at h2; cases h2
    | some y =>
      rw [he, Option.bind_eq_some_iff] at h1
      obtain ⟨cs, h3, h4⟩ := h1
      obtain ⟨d, h5⟩ := ih cs y h4
      rw [hsz] at h3
      obtain ⟨h6, h7⟩ := cells?_at h3
      exact ⟨d, cs, h5, h7, h6⟩
  obtain ⟨xs, css, g1, g2, g3⟩ := choose_list each
  have add2 : ∀ (i k : Nat), (a.add i).add k = a.add (i + k) := by
    intro i k
    unfold Addr.add
    by_cases hi : i = 0
    · subst hi; simp
    · by_cases hk : k = 0
      · subst hk; simp [hi]
      · have : i + k ≠ 0 := by omega
        simp [hi, hk, this, Nat.add_assoc]
  have hcl : ∀ cs ∈ css, cs.length = t.sz := by
    intro cs hcs
    obtain ⟨i, hi⟩ := List.getElem?_of_mem hcs
    have hlt : i < xs.length := by have := (List.getElem?_eq_some_iff.1 hi).1; omega
    exact (g3 i _ cs (List.getElem?_eq_getElem hlt) hi).2.2
  refine ⟨xs, ⟨some a, cap, css, by rw [g1], by rw [g1]; exact hl, all2_of_get (by omega) (fun i x cs hx hcs => (g3 i x cs hx hcs).1.1), ?_⟩, by rw [g1]; omega, fun x hx => ?_⟩
  · cases hxs : xs with
    | nil => exact .inl rfl
    | cons x0 r =>
      refine .inr ?_
      have h0 : 0 < len := by rw [← g1, hxs]; simp
      have hcss : 0 < css.length := by omega
      have e0 := g3 0 xs[0] css[0] (List.getElem?_eq_getElem (by omega)) (List.getElem?_eq_getElem hcss)
      have hp := t.sz_pos
      have hk0 : 0 < css[0].length := by rw [e0.2.2]; exact hp
      have c0 := e0.2.1 0 css[0][0] (List.getElem?_eq_getElem hk0)
      rw [add2, show 0 * t.sz + 0 = 0 by omega] at c0
      obtain ⟨hsp, s3⟩ := cell_spot (show w.cell? a = _ from c0)
      refine ⟨a.block, a.off, by rw [← hsp], s3, fun j u hu => ?_⟩
      obtain ⟨i, k, cs, q1, q2, q3⟩ := flatten_get hcl hu
      have hlt : i < xs.length := by have := (List.getElem?_eq_some_iff.1 q2).1; omega
      have c1 := (g3 i _ cs (List.getElem?_eq_getElem hlt) q2).2.1 k u q3
      rw [add2, hsp, add_plain] at c1
      rw [q1]
      exact c1
  · obtain ⟨i, hi⟩ := List.getElem?_of_mem hx
    have hlt : i < css.length := by have : i < xs.length := (List.getElem?_eq_some_iff.1 hi).1; omega
    exact (g3 i x _ hi (List.getElem?_eq_getElem hlt)).1.2

theorem read_fs {n : Nat} {r : TypeId → Option Ty} (ih : ∀ T t, r T = some t → ∀ cs (x : DataW H × List MemPlace), DataW.trod enc P w 0 sp held n T cs = some x → Read w t cs) {cs : List Value} : ∀ (fs : List Field) (off : Nat) (t : Ty), tyFs P.cellsOf r off fs = some t →
    (∀ f ∈ fs, ∃ x, DataW.trod enc P w 0 sp held n f.type ((cs.drop f.offset).take (P.cellsOf f.type)) = some x) → (cs.drop off).length = t.sz → Read w t (cs.drop off)
  | [], _, _, h, _, _ => by cases h
  | [f], off, t, h, hf, hl => by
    simp only [tyFs] at h
    split at h
    · rename_i u hu
      cases q : (Nat.beq f.offset off && Nat.beq (P.cellsOf f.type) u.sz) with
      | false => rw [q] at h; cases h
      | true =>
        rw [q] at h
        obtain rfl := Option.some.inj h
        rw [Bool.and_eq_true] at q
        obtain ⟨x, hx⟩ := hf f (List.mem_cons_self ..)
        rw [Nat.eq_of_beq_eq_true q.1, Nat.eq_of_beq_eq_true q.2, List.take_of_length_le (by omega)] at hx
        exact ih _ _ hu _ x hx
    · cases h
  | f :: g :: l, off, t, h, hf, hl => by
    simp only [tyFs] at h
    split at h
    · rename_i u hu
      cases q : (Nat.beq f.offset off && Nat.beq (P.cellsOf f.type) u.sz) with
      | false => rw [q] at h; cases h
      | true =>
        rw [q] at h
        simp only [cond_true] at h
        rw [Bool.and_eq_true] at q
        split at h
        · rename_i v hv
          obtain rfl := Option.some.inj h
          obtain ⟨x, hx⟩ := hf f (List.mem_cons_self ..)
          rw [Nat.eq_of_beq_eq_true q.1, Nat.eq_of_beq_eq_true q.2] at hx
          obtain ⟨d1, r1, f1⟩ := ih _ _ hu _ x hx
          have hl2 : (cs.drop (off + u.sz)).length = v.sz := by
            rw [← List.drop_drop, List.length_drop, hl]
            show u.sz + v.sz - u.sz = _
            omega
          obtain ⟨d2, r2, f2⟩ := read_fs ih (g :: l) (off + u.sz) v hv (fun y hy => hf y (List.mem_cons_of_mem _ hy)) hl2
          refine ⟨(d1, d2), ⟨_, _, ?_, r1, r2⟩, f1, f2⟩
          rw [← List.drop_drop, List.take_append_drop]
        · cases h
    · cases h

theorem read_of_trod : ∀ (n : Nat) (T : TypeId) (t : Ty), tyOf P n T = some t → ∀ (fuel : Nat) (cs : List Value) (x : DataW H × List MemPlace), DataW.trod enc P w 0 sp held fuel T cs = some x → Read w t cs
  | 0, _, _, h, _, _, _, _ => by cases h
  | n + 1, T, t, h, fuel, cs, x, hx => by
    unfold tyOf at h
    split at h
    · rename_i k hu
      obtain rfl := Option.some.inj h
      obtain ⟨m, rfl, _, hw⟩ := DataW.trod_int hu hx
      exact ⟨m, rfl, hw⟩
    · rename_i hu
      obtain rfl := Option.some.inj h
      obtain ⟨m, rfl, _⟩ := DataW.trod_bool hu hx
      exact ⟨m, rfl, trivial⟩
    · rename_i hu
      obtain rfl := Option.some.inj h
      obtain ⟨s, rfl, _, hs⟩ := DataW.trod_string hu hx
      exact ⟨s, rfl, hs⟩
    · rename_i e hu
      split at h
      · rename_i u he
        cases q : Nat.beq (P.cellsOf e) u.sz with
        | false => rw [q] at h; cases h
        | true =>
          rw [q] at h
          obtain rfl := Option.some.inj h
          rcases DataW.trod_slice hu hx with ⟨rfl, _⟩ | ⟨a, len, cap, elems, rest, m, rfl, rfl, rfl, _, hl, hm, hlen, hel, _, _⟩
          · exact ⟨[], ⟨none, 0, [], rfl, Nat.le_refl _, trivial, .inl rfl⟩, Nat.zero_le _, fun x hx => by cases hx⟩
          · exact read_sl (fun cs y hy => read_of_trod n e u he m cs y hy) (Nat.eq_of_beq_eq_true q) hl hm hel (fun i hi => by rw [List.getElem?_eq_getElem (by omega)]; rfl)
      · cases h
    · rename_i fs hu
      split at h
      · rename_i u hf
        cases q : Nat.beq (P.cellsOf T) u.sz with
        | false => rw [q] at h; cases h
        | true =>
          rw [q] at h
          obtain rfl := Option.some.inj h
          obtain ⟨xs, m, rfl, rfl, hcl, hxl, hel⟩ := DataW.trod_struct hu hx
          have := read_fs (P := P) (fun T t ht cs y hy => read_of_trod n T t ht m cs y hy) (cs := cs) fs.toList 0 u hf (fun f hfm => by
            obtain ⟨i, hi⟩ := List.getElem?_of_mem hfm
            have hi' : fs[i]? = some f := by simpa using hi
            have hlt : i < xs.length := by rw [hxl]; exact (Array.getElem?_eq_some_iff.1 hi').1
            refine ⟨xs[i], ?_⟩
            rw [hel i f hi', List.getElem?_eq_getElem hlt]) (by rw [List.drop_zero, hcl]; exact Nat.eq_of_beq_eq_true q)
          simpa using this
      · cases h
    · cases h
end
end AM
end Go.Proofs.YtelkmjkclmjggaaDoor

/-! A law that has been evaluated, called with what comes in. No condition. -/
namespace Go.Proofs.YtelkmjkclmjggaaDoor
namespace AM
open Go
set_option linter.unusedSimpArgs false
set_option linter.unusedVariables false

def flat : Ty → List Ty
  | .pr a b => flat a ++ flat b
  | .int k => [.int k]
  | .bool => [.bool]
  | .str => [.str]
  | .sl t => [.sl t]
def dvs : (t : Ty) → t.den → List DV
  | .pr a b, x => dvs a x.1 ++ dvs b x.2
  | .int k, x => [⟨.int k, x⟩]
  | .bool, x => [⟨.bool, x⟩]
  | .str, x => [⟨.str, x⟩]
  | .sl t, x => [⟨.sl t, x⟩]
def DV.cv (d : DV) : CV := .v d.t d.x

theorem dvs_t : ∀ (t : Ty) (x : t.den), (dvs t x).map DV.t = flat t
  | .pr a b, x => by simp only [dvs, flat, List.map_append, dvs_t a, dvs_t b]
  | .int k, x => rfl
  | .bool, x => rfl
  | .str, x => rfl
  | .sl t, x => rfl
theorem dvs_split : ∀ (t : Ty) (x : t.den), (dvs t x).map DV.cv = split t x
  | .pr a b, x => by simp only [dvs, split, List.map_append, dvs_split a, dvs_split b]
  | .int k, x => rfl
  | .bool, x => rfl
  | .str, x => rfl
  | .sl t, x => rfl
theorem dvs_fits : ∀ (t : Ty) (x : t.den), Fits t x → ∀ d ∈ dvs t x, Fits d.t d.x
  | .pr a b, x, h, d, hd => by
    rcases List.mem_append.1 hd with q | q
    · exact dvs_fits a _ h.1 d q
    · exact dvs_fits b _ h.2 d q
  | .int k, x, h, d, hd => by obtain rfl := List.mem_singleton.1 hd; exact h
  | .bool, x, h, d, hd => by obtain rfl := List.mem_singleton.1 hd; exact h
  | .str, x, h, d, hd => by obtain rfl := List.mem_singleton.1 hd; exact h
  | .sl t, x, h, d, hd => by obtain rfl := List.mem_singleton.1 hd; exact h

theorem pack_cons {t u : Ty} {r : List Ty} {d : DV} {ds : List DV} {x : t.den} {y : TD (u :: r)} (h1 : d.as t = some x) (h2 : pack (u :: r) ds = some y) : pack (t :: u :: r) (d :: ds) = some (x, y) := by
  unfold pack
  rw [h1, h2]
theorem pack_self : ∀ ds : List DV, ∃ x, pack (ds.map DV.t) ds = some x
  | [] => ⟨(), rfl⟩
  | [d] => ⟨d.x, as_self d.x⟩
  | d :: e :: r => by
    obtain ⟨x, hx⟩ := pack_self (e :: r)
    exact ⟨(d.x, x), pack_cons (as_self d.x) hx⟩

/-- What comes in: a value, how it reads, the value of the model. -/
structure Arg where
  t : Ty
  agg : Bool
  x : t.den
  u : Value

def Arg.par (a : Arg) : Par := bif a.agg then .g ((flat a.t).map .i) else .c (.i a.t)
def Arg.dv (a : Arg) : List DV := bif a.agg then dvs a.t a.x else [⟨a.t, a.x⟩]
def Arg.av (a : Arg) : AV := bif a.agg then .g (split a.t a.x) else .c (.v a.t a.x)
def Arg.ok (w : World) (a : Arg) : Prop := Fits a.t a.x ∧ (a.agg = true → ∃ vs, a.u = .agg vs.toArray ∧ Rep (fun b => b < w.heap.size) w a.t a.x vs) ∧ (a.agg = false → Rep (fun b => b < w.heap.size) w a.t a.x [a.u])

theorem mkCells_i (nm : Nat → PS → Nm) : ∀ (ts : List Ty) (k : Nat) (ds : List DV), ds.length = ts.length → mkCells nm k (ts.map .i) ds = ds.map DV.cv ∧ mkOs nm k (ts.map .i) ds = []
  | [], _, [], _ => ⟨rfl, rfl⟩
  | [], _, _ :: _, h => by cases h
  | _ :: _, _, [], h => by cases h
  | t :: ts, k, d :: ds, h => by
    obtain ⟨h1, h2⟩ := mkCells_i nm ts (k + 1) ds (by simpa using h)
    constructor
    · show mkCell _ (.i t) d :: mkCells nm (k + 1) (ts.map .i) ds = _
      rw [h1]; rfl
    · show mkO _ (.i t) d ++ mkOs nm (k + 1) (ts.map .i) ds = _
      rw [h2]; rfl

def argVs : Nat → List Arg → List (Nat × AV)
  | _, [] => []
  | k, a :: r => (k, a.av) :: argVs (k + 1) r

theorem mk_args : ∀ (l : List Arg) (k : Nat), mkVs (parEns k (l.map Arg.par)) (l.flatMap Arg.dv) = argVs k l ∧ mkBs (parEns k (l.map Arg.par)) (l.flatMap Arg.dv) = [] ∧ entys (parEns k (l.map Arg.par)) = (l.flatMap Arg.dv).map DV.t
  | [], _ => ⟨rfl, rfl, rfl⟩
  | a :: r, k => by
    obtain ⟨h1, h2, h3⟩ := mk_args r (k + 1)
    obtain ⟨t, agg, x, u⟩ := a
    cases agg with
    | true =>
      have hl : (dvs t x).length = (flat t).length := by rw [← dvs_t t x, List.length_map]
      have hl2 : (dvs t x).length = ((flat t).map PS.i).length := by rw [List.length_map]; exact hl
      obtain ⟨c1, c2⟩ := mkCells_i (nmOf k) (flat t) 0 (dvs t x) hl
      refine ⟨?_, ?_, ?_⟩
      · show (k, AV.g (mkCells (nmOf k) 0 ((flat t).map PS.i) ((dvs t x ++ r.flatMap Arg.dv).take ((flat t).map PS.i).length))) :: mkVs (parEns (k + 1) (r.map Arg.par)) ((dvs t x ++ r.flatMap Arg.dv).drop ((flat t).map PS.i).length) = _
        rw [← hl2, List.take_left, List.drop_left, h1, c1, dvs_split]; rfl
      · show mkOs (nmOf k) 0 ((flat t).map PS.i) ((dvs t x ++ r.flatMap Arg.dv).take ((flat t).map PS.i).length) ++ mkBs (parEns (k + 1) (r.map Arg.par)) ((dvs t x ++ r.flatMap Arg.dv).drop ((flat t).map PS.i).length) = _
        rw [← hl2, List.take_left, List.drop_left, h2, c2]; rfl
      · show ((flat t).map PS.i).map PS.ty ++ entys (parEns (k + 1) (r.map Arg.par)) = (dvs t x ++ r.flatMap Arg.dv).map DV.t
        rw [h3, List.map_append, dvs_t, List.map_map]
        congr 1
        exact (List.map_congr_left fun _ _ => rfl).trans (List.map_id _)
    | false =>
      refine ⟨?_, ?_, ?_⟩
      · show (k, AV.c (.v t x)) :: mkVs (parEns (k + 1) (r.map Arg.par)) (r.flatMap Arg.dv) = _
        rw [h1]; rfl
      · show [] ++ mkBs (parEns (k + 1) (r.map Arg.par)) (r.flatMap Arg.dv) = _
        rw [h2]; rfl
      · show t :: entys (parEns (k + 1) (r.map Arg.par)) = t :: (r.flatMap Arg.dv).map DV.t
        rw [h3]

theorem look_args {L : Nm → Value} {I : Nat → Prop} {w : World} {A : Nm → Option (Nat × Nat)} : ∀ (l : List Arg) (k i : Nat), (∀ a ∈ l, RA L I w A a.av a.u) → RA L I w A (look (argVs k l) (k + i)) ((l.map Arg.u).getD i undef)
  | [], _, _, _ => trivial
  | a :: r, k, 0, h => by
    show RA L I w A (bif Nat.beq k k then a.av else _) _
    rw [Nat.beq_refl]; exact h a (List.mem_cons_self ..)
  | a :: r, k, i + 1, h => by
    show RA L I w A (bif Nat.beq k (k + (i + 1)) then a.av else look (argVs (k + 1) r) (k + (i + 1))) _
    rw [beq_ne (by omega : k ≠ k + (i + 1)), show k + (i + 1) = (k + 1) + i by omega]
    exact look_args r (k + 1) i (fun b hb => h b (List.mem_cons_of_mem _ hb))

theorem look_hi : ∀ (l : List Arg) (k i : Nat), k + l.length ≤ i → look (argVs k l) i = .c .dead
  | [], _, _, _ => rfl
  | a :: r, k, i, h => by
    show (bif Nat.beq k i then a.av else look (argVs (k + 1) r) i) = _
    have h : k + (r.length + 1) ≤ i := h
    rw [beq_ne (by omega : k ≠ i)]
    exact look_hi r (k + 1) i (by omega)

theorem outEns_args : ∀ (l : List Arg) (k : Nat), outEns k (l.map Arg.par) = []
  | [], _ => rfl
  | a :: r, k => by
    obtain ⟨t, agg, x, u⟩ := a
    have := outEns_args r (k + 1)
    cases agg <;> exact this

def FitsTD (ts : List Ty) (x : TD ts) : Prop := ∀ d ∈ unpack ts x, Fits d.t d.x

theorem first_all {n : Nat} {xs : Array Value} (h : xs.size ≤ n) : first n xs = xs := by
  unfold first
  rw [List.take_of_length_le (by simpa using h)]

/-- The law is called. -/
theorem law_calls {P : Program} {K : Glob} {f : FuncId} {pars : List Par} {g : Nat → TD (entys (parEns 0 pars)) → Option (TD (entys (endEns pars [(false, [.i .bool])] [])))}
    (obs : ∀ n, Obeys P K f { pars := pars, res := [(false, [.i .bool])], g := g n }) (pure : ∀ x, FitsTD _ x → ∃ n r, g n x = some r ∧ unpack _ r = [⟨.bool, true⟩])
    {W : World} (hK : K.ok W) (hKb : ∀ b, K.blk b → b < W.heap.size) {l : List Arg} (hl : l.map Arg.par = pars) (hok : ∀ a ∈ l, a.ok W) :
    Calls P f (l.map Arg.u).toArray W fun e w' => e = .returned (.bool true) ∧ RowKit.Below W.heap.size W w' := by
  subst hl
  obtain ⟨m1, m2, m3⟩ := mk_args l 0
  obtain ⟨x, hx⟩ : ∃ x, pack (entys (parEns 0 (l.map Arg.par))) (l.flatMap Arg.dv) = some x := by
    rw [m3]; exact pack_self _
  have hux := unpack_pack hx
  obtain ⟨n, r, hr, hur⟩ := pure x (fun d hd => by
    rw [hux] at hd
    obtain ⟨a, ha, hd⟩ := List.mem_flatMap.1 hd
    have hf := (hok a ha).1
    obtain ⟨t, agg, y, u⟩ := a
    cases agg with
    | true => exact dvs_fits t y hf d hd
    | false => obtain rfl := List.mem_singleton.1 hd; exact hf)
  let Y : Ctx := { K := K, N := l.length, w0 := W, E := fun _ _ => False, I0 := fun b => b < W.heap.size }
  have hst : mkSt (parEns 0 (l.map Arg.par)) x = ⟨look (argVs 0 l), fun _ => none⟩ := by
    unfold mkSt mkD
    rw [hux, m1, m2]
    rfl
  have hrel : Rel Y (fun _ => undef) (fun b => b < W.heap.size) (mkSt (parEns 0 (l.map Arg.par)) x) ⟨(l.map Arg.u).toArray, []⟩ W := by
    rw [hst]
    refine ⟨rfl, by simp [Y], fun i hi => ?_, fun i hi => look_hi l 0 i (by show 0 + l.length ≤ i; have : l.length ≤ i := hi; omega), fun _ _ h => (by cases h), fun _ _ _ _ h => (by cases h), fun _ _ h => (by cases h), fun b hb => ⟨hb, .inl hb⟩, fun b hb => hb, Step.refl _ _, hK, hKb⟩
    have := look_args (L := fun _ => undef) (I := fun b => b < W.heap.size) (w := W) (A := AL (fun _ => none)) l 0 i (fun a ha => by
      obtain ⟨_, h2, h3⟩ := hok a ha
      obtain ⟨t, agg, y, u⟩ := a
      cases agg with
      | true => obtain ⟨vs, h4, h5⟩ := h2 rfl; exact ⟨vs, h4, split_sound t h5⟩
      | false => exact h3 rfl)
    rw [Nat.zero_add] at this
    simpa using this
  have hc := obs n Y _ _ ⟨(l.map Arg.u).toArray, []⟩ W x r hr hrel rfl (by simp [Y]) rfl
  rw [show first (FSum.real { pars := l.map Arg.par, res := [(false, [.i .bool])], g := g n }) (⟨(l.map Arg.u).toArray, []⟩ : Act).tmps = (l.map Arg.u).toArray from first_all (by unfold FSum.real; simp)] at hc
  refine hc.mono fun e w' h => ?_
  obtain ⟨v, L', I', a', rfl, hR, _, rfl⟩ := h
  have hs := hR.slot (l.map Arg.par).length
  have hlk : (mkSt (FSum.ens { pars := l.map Arg.par, res := [(false, [.i .bool])], g := g n }) r).t (l.map Arg.par).length = .c (.v .bool true) := by
    unfold mkSt mkD
    rw [show unpack (entys (FSum.ens { pars := l.map Arg.par, res := [(false, [.i .bool])], g := g n })) r = [⟨.bool, true⟩] from hur]
    show look (mkVs (outEns 0 (l.map Arg.par) ++ _) _) _ = _
    rw [outEns_args]
    show (bif Nat.beq (l.map Arg.par).length (l.map Arg.par).length then _ else _) = _
    rw [Nat.beq_refl]; rfl
  rw [hlk] at hs
  have hs : a'.tmps.getD (l.map Arg.par).length undef = .bool true := List.head_eq_of_cons_eq hs
  exact ⟨congrArg Ending.returned hs, Step.below hR.step⟩
end AM
end Go.Proofs.YtelkmjkclmjggaaDoor

/-! Library functions over numbers, bools and strings, by their contracts. Under: the contract. -/
namespace Go.Proofs.YtelkmjkclmjggaaDoor
namespace AM
open Go
set_option linter.unusedSimpArgs false
set_option linter.unusedVariables false

def DV.val : DV → Value
  | ⟨.int k, n⟩ => .int k n
  | ⟨.bool, b⟩ => .bool b
  | ⟨.str, s⟩ => .string s
  | _ => undef
def retVal : List Value → Value
  | [v] => v
  | vs => .tuple vs.toArray
def Ty.one : Ty → Bool
  | .int _ => true
  | .bool => true
  | .str => true
  | _ => false
def parsOf (ts : List Ty) : List Par := ts.map fun t => .c (.i t)
def ressOf (ts : List PS) : List (Bool × List PS) := ts.map fun p => (false, [p])
/-- What comes out: single values, errors. -/
def PS.outs : PS → Bool
  | .i t => t.one
  | .e => true
  | _ => false
def Out (p : PS) (d : DV) (v : Value) : Prop := match p with
  | .e => ∃ b, d.as .bool = some b ∧ match b with
    | true => ∃ t x, v = .iface t x
    | false => v = .nilIface
  | _ => v = DV.val d
def Outs : List PS → List DV → List Value → Prop
  | [], [], [] => True
  | p :: ps, d :: ds, v :: vs => Out p d v ∧ Outs ps ds vs
  | _, _, _ => False
theorem Outs.len : ∀ {ps : List PS} {ds : List DV} {vs : List Value}, Outs ps ds vs → ds.length = ps.length ∧ vs.length = ps.length
  | [], [], [], _ => ⟨rfl, rfl⟩
  | _ :: _, _ :: _, _ :: _, h => by obtain ⟨g1, g2⟩ := Outs.len h.2; exact ⟨by simp [g1], by simp [g2]⟩
  | [], [], _ :: _, h => h.elim
  | [], _ :: _, _, h => h.elim
  | _ :: _, [], _, h => h.elim
  | _ :: _, _ :: _, [], h => h.elim
theorem Outs.get : ∀ {ps : List PS} {ds : List DV} {vs : List Value}, Outs ps ds vs → ∀ {i : Nat} {p : PS} {d : DV}, ps[i]? = some p → ds[i]? = some d → ∃ v, vs[i]? = some v ∧ Out p d v
  | [], _, _, _, _, _, _, h, _ => by cases h
  | _ :: _, _ :: _, v :: _, h, 0, _, _, e, e2 => by obtain rfl := Option.some.inj e; obtain rfl := Option.some.inj e2; exact ⟨v, rfl, h.1⟩
  | _ :: _, _ :: _, _ :: _, h, i + 1, _, _, e, e2 => Outs.get h.2 (i := i) e e2
  | _ :: _, [], _, h, _, _, _, _, _ => h.elim
  | _ :: _, _ :: _, [], h, _, _, _, _, _ => h.elim

theorem one_val {t : Ty} (h : t.one = true) {x : t.den} {u : Value} {I : Nat → Prop} {w : World} : Rep I w t x [u] ↔ u = DV.val ⟨t, x⟩ := by
  cases t with
  | int k => exact ⟨fun r => List.head_eq_of_cons_eq r, fun e => congrArg (fun v => [v]) e⟩
  | bool => exact ⟨fun r => List.head_eq_of_cons_eq r, fun e => congrArg (fun v => [v]) e⟩
  | str => exact ⟨fun r => List.head_eq_of_cons_eq r, fun e => congrArg (fun v => [v]) e⟩
  | sl t => cases h
  | pr a b => cases h

theorem entys_pars : ∀ (ts : List Ty) (k : Nat), entys (parEns k (parsOf ts)) = ts
  | [], _ => rfl
  | t :: ts, k => congrArg (t :: ·) (entys_pars ts (k + 1))
theorem entys_ress : ∀ (ts : List PS) (k : Nat), entys (resEns k (ressOf ts)) = ts.map PS.ty
  | [], _ => rfl
  | t :: ts, k => congrArg (t.ty :: ·) (entys_ress ts (k + 1))
theorem outEns_pars : ∀ (ts : List Ty) (k : Nat), outEns k (parsOf ts) = []
  | [], _ => rfl
  | t :: ts, k => outEns_pars ts (k + 1)
theorem endEns_pars (ps : List Ty) (rs : List PS) : endEns (parsOf ps) (ressOf rs) [] = resEns ps.length (ressOf rs) := by
  unfold endEns
  rw [outEns_pars, List.nil_append, show (parsOf ps).length = ps.length from List.length_map .., show nbEns (ps.length + (ressOf rs).length) [] = [] from rfl, List.append_nil]

def valsVs : Nat → List DV → List (Nat × AV)
  | _, [] => []
  | k, d :: r => (k, .c (.v d.t d.x)) :: valsVs (k + 1) r
theorem mk_pars : ∀ (ts : List Ty) (k : Nat) (ds : List DV), ds.length = ts.length → mkVs (parEns k (parsOf ts)) ds = valsVs k ds ∧ mkBs (parEns k (parsOf ts)) ds = []
  | [], _, [], _ => ⟨rfl, rfl⟩
  | [], _, _ :: _, h => by cases h
  | _ :: _, _, [], h => by cases h
  | t :: ts, k, d :: ds, h => by
    obtain ⟨h1, h2⟩ := mk_pars ts (k + 1) ds (by simpa using h)
    exact ⟨congrArg ((k, AV.c (.v d.t d.x)) :: ·) h1, h2⟩
def outC : PS → DV → CV
  | .e, d => match d.as .bool with
    | some b => .er b
    | none => .dead
  | _, d => .v d.t d.x
def outVs : Nat → List PS → List DV → List (Nat × AV)
  | k, p :: ps, d :: r => (k, .c (outC p d)) :: outVs (k + 1) ps r
  | _, _, _ => []
theorem mk_ress : ∀ (ts : List PS) (k : Nat) (ds : List DV), ts.all PS.outs = true → ds.length = ts.length → mkVs (resEns k (ressOf ts)) ds = outVs k ts ds ∧ mkBs (resEns k (ressOf ts)) ds = []
  | [], _, [], _, _ => ⟨rfl, rfl⟩
  | [], _, _ :: _, _, h => by cases h
  | _ :: _, _, [], _, h => by cases h
  | t :: ts, k, d :: ds, ho, h => by
    rw [List.all_cons, Bool.and_eq_true] at ho
    obtain ⟨h1, h2⟩ := mk_ress ts (k + 1) ds ho.2 (by simpa using h)
    have hc : ∀ nm, mkCell nm t d = outC t d ∧ mkO nm t d = [] := fun nm => by
      cases t with
      | i t => exact ⟨rfl, rfl⟩
      | e => exact ⟨rfl, rfl⟩
      | _ => cases ho.1
    constructor
    · show (k, mkV (.val k t) (d :: ds.take 0)) :: mkVs (resEns (k + 1) (ressOf ts)) ds = (k, .c (outC t d)) :: outVs (k + 1) ts ds
      rw [h1]
      congr 2
      exact congrArg AV.c (hc _).1
    · show (mkO _ t d ++ []) ++ mkBs (resEns (k + 1) (ressOf ts)) ds = []
      rw [h2, (hc _).2]; rfl

theorem look_outs : ∀ (ps : List PS) (ds : List DV) (k i : Nat), look (outVs k ps ds) (k + i) = match ps[i]?, ds[i]? with | some p, some d => .c (outC p d) | _, _ => .c .dead
  | [], _, _, _ => rfl
  | p :: ps, [], k, i => by cases (p :: ps)[i]? <;> rfl
  | p :: ps, d :: ds, k, 0 => by
    show (bif Nat.beq k k then _ else _) = _
    rw [Nat.beq_refl]; rfl
  | p :: ps, d :: ds, k, i + 1 => by
    show (bif Nat.beq k (k + (i + 1)) then _ else look (outVs (k + 1) ps ds) (k + (i + 1))) = _
    rw [beq_ne (by omega : k ≠ k + (i + 1)), show k + (i + 1) = (k + 1) + i by omega]
    exact look_outs ps ds (k + 1) i
theorem look_lo' : ∀ (ps : List PS) (ds : List DV) (k i : Nat), i < k → look (outVs k ps ds) i = .c .dead
  | [], _, _, _, _ => rfl
  | _ :: _, [], _, _, _ => rfl
  | p :: ps, d :: ds, k, i, h => by
    show (bif Nat.beq k i then _ else look (outVs (k + 1) ps ds) i) = _
    rw [beq_ne (by omega : k ≠ i)]
    exact look_lo' ps ds (k + 1) i (by omega)

theorem look_vals : ∀ (ds : List DV) (k i : Nat), look (valsVs k ds) (k + i) = match ds[i]? with | some d => .c (.v d.t d.x) | none => .c .dead
  | [], _, _ => rfl
  | d :: ds, k, 0 => by
    show (bif Nat.beq k k then _ else _) = _
    rw [Nat.beq_refl]; rfl
  | d :: ds, k, i + 1 => by
    show (bif Nat.beq k (k + (i + 1)) then _ else look (valsVs (k + 1) ds) (k + (i + 1))) = _
    rw [beq_ne (by omega : k ≠ k + (i + 1)), show k + (i + 1) = (k + 1) + i by omega]
    exact look_vals ds (k + 1) i
theorem unpack_len : ∀ (ts : List Ty) (x : TD ts), (unpack ts x).length = ts.length
  | [], _ => rfl
  | [t], _ => rfl
  | t :: u :: r, x => congrArg (· + 1) (unpack_len (u :: r) x.2)
theorem unpack_t : ∀ (ts : List Ty) (x : TD ts) (i : Nat) (d : DV), (unpack ts x)[i]? = some d → ts[i]? = some d.t
  | [], _, _, _, h => by cases h
  | [t], x, 0, d, h => by obtain rfl := Option.some.inj h; rfl
  | [t], x, i + 1, d, h => by cases h
  | t :: u :: r, x, 0, d, h => by obtain rfl := Option.some.inj h; rfl
  | t :: u :: r, x, i + 1, d, h => unpack_t (u :: r) x.2 i d h

/-- A function over single values, by its contract. -/
theorem obeys_prim {P : Program} {K : Glob} {f : FuncId} {ps : List Ty} {rs : List PS} (hp : ps.all Ty.one = true) (hr : rs.all PS.outs = true) {g : TD (entys (parEns 0 (parsOf ps))) → Option (TD (entys (endEns (parsOf ps) (ressOf rs) [])))}
    (h : ∀ w x r, g x = some r → K.ok w → Calls P f ((unpack _ x).map DV.val).toArray w fun e w' => ∃ vs, e = .returned (retVal vs) ∧ Outs rs (unpack _ r) vs ∧ Step (fun _ _ => False) w w') :
    Obeys P K f { pars := parsOf ps, res := ressOf rs, g := g } := by
  intro Y L I a w x r hx hR hK hY hw
  have hxl : (unpack _ x).length = ps.length := by rw [unpack_len, entys_pars]
  have hrl : (unpack _ r).length = rs.length := by rw [unpack_len, endEns_pars, entys_ress, List.length_map]
  have hN : Y.N = ps.length := hY.trans (List.length_map ..)
  have hxo : ∀ (i : Nat) (d : DV), (unpack _ x)[i]? = some d → d.t.one = true := fun i d hd => by
    have := unpack_t _ x i d hd
    rw [entys_pars] at this
    exact List.all_eq_true.1 hp _ (List.mem_of_getElem? this)
  have hro : ∀ (i : Nat) (d : DV), (unpack _ r)[i]? = some d → ∃ p, rs[i]? = some p ∧ p.ty = d.t ∧ p.outs = true := fun i d hd => by
    have := unpack_t _ r i d hd
    rw [endEns_pars, entys_ress, List.getElem?_map] at this
    cases e : rs[i]? with
    | none => rw [e] at this; cases this
    | some p => rw [e] at this; exact ⟨p, rfl, Option.some.inj this, List.all_eq_true.1 hr _ (List.mem_of_getElem? e)⟩
  obtain ⟨m1, m2⟩ := mk_pars ps 0 (unpack _ x) hxl
  have htm : a.tmps = ((unpack _ x).map DV.val).toArray := by
    refine Array.ext (by rw [hR.size, hN]; simp [hxl]) fun i hi _ => ?_
    have hi' : i < ps.length := by rw [hR.size, hN] at hi; exact hi
    have hs := hR.slot i
    have hd : (unpack _ x)[i]? = some (unpack _ x)[i] := List.getElem?_eq_getElem (by omega)
    have hlk : (mkSt (parEns 0 (parsOf ps)) x).t i = .c (.v ((unpack _ x)[i]).t ((unpack _ x)[i]).x) := by
      show look (mkVs _ _) i = _
      rw [m1]
      have := look_vals (unpack _ x) 0 i
      rw [Nat.zero_add, hd] at this
      exact this
    have hs : RA L I w (AL (mkSt (parEns 0 (parsOf ps)) x).o) ((mkSt (parEns 0 (parsOf ps)) x).t i) (a.tmps.getD i undef) := hs
    rw [hlk] at hs
    have := (one_val (hxo i _ hd)).1 hs
    rw [Array.getD_eq_getD_getElem?, Array.getElem?_eq_getElem hi] at this
    simp only [Option.getD_some] at this
    rw [this]
    simp
  rw [show first (FSum.real { pars := parsOf ps, res := ressOf rs, g := g }) a.tmps = a.tmps from first_all (by unfold FSum.real; rw [hR.size, hY]; exact Nat.le_refl _), htm]
  subst hK
  refine (h w x r hx hR.glob.1).mono fun e w' hp' => ?_
  obtain ⟨vs, rfl, hov, hst⟩ := hp'
  have h1 := hR.grows hst
  have hvl := hov.len.2
  refine ⟨_, L, I, ⟨((unpack _ x).map DV.val ++ vs).toArray, []⟩, rfl, ?_, fun _ _ => rfl, ?_⟩
  · obtain ⟨k1, k2⟩ := mk_ress rs ps.length (unpack _ r) hr hrl
    have hst2 : mkSt (FSum.ens { pars := parsOf ps, res := ressOf rs, g := g }) r = ⟨look (outVs ps.length rs (unpack _ r)), fun _ => none⟩ := by
      show mkD (endEns (parsOf ps) (ressOf rs) []) (unpack _ r) = _
      unfold mkD
      rw [show mkVs (endEns (parsOf ps) (ressOf rs) []) (unpack (entys (endEns (parsOf ps) (ressOf rs) [])) r) = outVs ps.length rs (unpack _ r) by rw [← k1]; congr 1; exact endEns_pars ps rs]
      rw [show mkBs (endEns (parsOf ps) (ressOf rs) []) (unpack (entys (endEns (parsOf ps) (ressOf rs) [])) r) = [] by rw [← k2]; congr 1; exact endEns_pars ps rs]
      rfl
    have hlen : (parsOf ps).length + ((ressOf rs).length + 0) = ps.length + rs.length := by rw [show (parsOf ps).length = ps.length from List.length_map .., show (ressOf rs).length = rs.length from List.length_map ..]; rfl
    rw [hst2]
    refine ⟨rfl, by simp [hxl, hvl]; exact hlen.symm, fun i hi => ?_, fun i hi => ?_, fun _ _ q => (by cases q), fun _ _ _ _ q => (by cases q), fun _ _ q => (by cases q), h1.imm, h1.sub, h1.step, h1.glob⟩
    · have hi : i < ps.length + rs.length := by rw [← hlen]; exact hi
      rcases Nat.lt_or_ge i ps.length with q | q
      · have hd := look_lo' rs (unpack (entys (endEns (parsOf ps) (ressOf rs) [])) r) ps.length i q
        show RA L I w' _ (look (outVs ps.length rs (unpack (entys (endEns (parsOf ps) (ressOf rs) [])) r)) i) _
        rw [hd]; trivial
      · have hd : (unpack _ r)[i - ps.length]? = some (unpack _ r)[i - ps.length] := List.getElem?_eq_getElem (by omega)
        have := look_outs rs (unpack _ r) ps.length (i - ps.length)
        obtain ⟨p, hp1, hp2, hp3⟩ := hro _ _ hd
        rw [hd, hp1, show ps.length + (i - ps.length) = i by omega] at this
        show RA L I w' _ (look (outVs ps.length rs (unpack (entys (endEns (parsOf ps) (ressOf rs) [])) r)) i) _
        rw [this]
        obtain ⟨v, hv1, hv2⟩ := hov.get hp1 hd
        have hval : (((unpack _ x).map DV.val ++ vs).toArray).getD i undef = v := by
          have hxl' : ((unpack (entys (parEns 0 (parsOf ps))) x).map DV.val).length = ps.length := (List.length_map ..).trans hxl
          rw [Array.getD_eq_getD_getElem?, List.getElem?_toArray, List.getElem?_append_right (by rw [hxl']; exact q), hxl', hv1]; rfl
        rw [hval]
        cases p with
        | i t =>
          have ht : (unpack _ r)[i - ps.length].t.one = true := by rw [← hp2]; exact hp3
          exact (one_val ht).2 hv2
        | e =>
          obtain ⟨b, hb1, hb2⟩ := hv2
          show RC L I w' _ (match DV.as .bool _ with | some b => .er b | none => .dead) v
          rw [hb1]; exact hb2
        | _ => cases hp3
    · have hi : ps.length + rs.length ≤ i := by rw [← hlen]; exact hi
      show look (outVs ps.length rs (unpack _ r)) i = _
      have := look_outs rs (unpack _ r) ps.length (i - ps.length)
      rw [show ps.length + (i - ps.length) = i by omega, List.getElem?_eq_none (by omega : rs.length ≤ i - ps.length)] at this
      exact this
  · have hl : (parsOf ps).length = ps.length := List.length_map ..
    have hl2 : (ressOf rs).length = rs.length := List.length_map ..
    have at_ : ∀ j, j < rs.length → (((unpack _ x).map DV.val ++ vs).toArray).getD (ps.length + j) undef = vs.getD j undef := by
      intro j hj
      have hxl' : ((unpack (entys (parEns 0 (parsOf ps))) x).map DV.val).length = ps.length := (List.length_map ..).trans hxl
      rw [Array.getD_eq_getD_getElem?, List.getElem?_toArray, List.getElem?_append_right (by rw [hxl']; exact Nat.le_add_right ..), List.getD_eq_getElem?_getD, hxl', Nat.add_sub_cancel_left]
    show _ = resV ⟨_, []⟩ (parsOf ps).length (ressOf rs).length
    rw [hl, hl2]
    clear hov
    match vs, hvl with
    | [], hml =>
      have : rs.length = 0 := hml.symm
      rw [this]; rfl
    | [v], hml =>
      have : rs.length = 1 := hml.symm
      rw [this]
      exact (at_ 0 (by omega)).symm
    | v :: u :: t, hml =>
      have hz : rs.length = t.length + 1 + 1 := hml.symm
      rw [hz]
      show Value.tuple (v :: u :: t).toArray = Value.tuple ((List.range (t.length + 1 + 1)).map fun j => Array.getD _ (ps.length + j) undef).toArray
      congr 2
      refine List.ext_getElem (by simp) fun i h1 h2 => ?_
      rw [List.getElem_map, List.getElem_range]
      have h1' : i < rs.length := by simp at h1; omega
      rw [at_ i h1', List.getD_eq_getElem?_getD, List.getElem?_eq_getElem h1]; rfl

theorem outs_i : ∀ {rs : List Ty} {ds : List DV}, ds.length = rs.length → Outs (rs.map .i) ds (ds.map DV.val)
  | [], [], _ => trivial
  | [], _ :: _, h => by cases h
  | _ :: _, [], h => by cases h
  | _ :: rs, _ :: ds, h => ⟨rfl, outs_i (rs := rs) (ds := ds) (by simpa using h)⟩

/-- ... where no error comes out. -/
theorem obeys_plain {P : Program} {K : Glob} {f : FuncId} {ps rs : List Ty} (hp : ps.all Ty.one = true) (hr : rs.all Ty.one = true) {g : TD (entys (parEns 0 (parsOf ps))) → Option (TD (entys (endEns (parsOf ps) (ressOf (rs.map .i)) [])))}
    (h : ∀ w x r, g x = some r → K.ok w → Calls P f ((unpack _ x).map DV.val).toArray w fun e w' => e = .returned (retVal ((unpack _ r).map DV.val)) ∧ Step (fun _ _ => False) w w') :
    Obeys P K f { pars := parsOf ps, res := ressOf (rs.map .i), g := g } := by
  refine obeys_prim hp (by rw [List.all_map]; exact hr) fun w x r hx hw => (h w x r hx hw).mono fun e w' hq => ⟨_, hq.1, ?_, hq.2⟩
  exact outs_i (by rw [unpack_len, endEns_pars, entys_ress, List.length_map, List.length_map])
end AM
end Go.Proofs.YtelkmjkclmjggaaDoor

/-! A table of types, held against the program's types by one computation. No condition. -/
namespace Go.Proofs.YtelkmjkclmjggaaDoor
namespace AM
open Go
set_option linter.unusedSimpArgs false
set_option linter.unusedVariables false

def zvB : Ty → List Value → Option (List Value)
  | .int k, vs => match vs with
    | .int l n :: r => if l = k ∧ n = 0 then some r else none
    | _ => none
  | .bool, vs => match vs with
    | .bool false :: r => some r
    | _ => none
  | .str, vs => match vs with
    | .string s :: r => bif Nat.beq s.size 0 then some r else none
    | _ => none
  | .sl _, vs => match vs with
    | .slice none 0 0 :: r => some r
    | _ => none
  | .pr a b, vs => match zvB a vs with
    | some r => zvB b r
    | none => none

theorem zvB_sound : ∀ (t : Ty) {vs r : List Value}, zvB t vs = some r → vs = zvals t ++ r
  | .int k, vs, r, h => by
    simp only [zvB] at h
    split at h
    · split at h
      · rename_i e; obtain ⟨rfl, rfl⟩ := e; obtain rfl := Option.some.inj h; rfl
      · cases h
    · cases h
  | .bool, vs, r, h => by
    simp only [zvB] at h
    split at h
    · obtain rfl := Option.some.inj h; rfl
    · cases h
  | .str, vs, r, h => by
    simp only [zvB] at h
    split at h
    · rename_i s r'
      cases q : Nat.beq s.size 0 with
      | false => rw [q] at h; cases h
      | true =>
        rw [q] at h
        obtain rfl := Option.some.inj h
        have : s = ⟨#[]⟩ := by
          have := Nat.eq_of_beq_eq_true q
          obtain ⟨d⟩ := s
          obtain ⟨l⟩ := d
          cases l with
          | nil => rfl
          | cons x l => simp [ByteArray.size] at this
        rw [this]; rfl
    · cases h
  | .sl t, vs, r, h => by
    simp only [zvB] at h
    split at h
    · obtain rfl := Option.some.inj h; rfl
    · cases h
  | .pr a b, vs, r, h => by
    simp only [zvB] at h
    split at h
    · rename_i r1 h1
      rw [zvB_sound a h1, zvB_sound b h]
      simp [zvals]
    · cases h

def zsB : List Z → List Value → Bool
  | [], [] => true
  | .t x :: zs, vs => match zvB x vs with
    | some r => zsB zs r
    | none => false
  | .ptr :: zs, .pointer none :: vs => zsB zs vs
  | .fn :: zs, .nilFunc :: vs => zsB zs vs
  | .ifc :: zs, .nilIface :: vs => zsB zs vs
  | _, _ => false
theorem zsB_sound : ∀ {zs : List Z} {vs : List Value}, zsB zs vs = true → vs = zs.flatMap Z.vals
  | [], [], _ => rfl
  | [], _ :: _, h => by cases h
  | .t x :: zs, vs, h => by
    unfold zsB at h
    split at h
    · rename_i r e
      rw [zvB_sound x e, zsB_sound h]; rfl
    · cases h
  | .ptr :: zs, [], h => by cases h
  | .fn :: zs, [], h => by cases h
  | .ifc :: zs, [], h => by cases h
  | .ptr :: zs, v :: vs, h => by
    cases v <;> try (simp [zsB] at h; done)
    rename_i q
    cases q <;> first | (simp [zsB] at h; done) | (rw [zsB_sound (show zsB zs vs = true from h)]; rfl)
  | .fn :: zs, v :: vs, h => by
    cases v <;> first | (simp [zsB] at h; done) | (rw [zsB_sound (show zsB zs vs = true from h)]; rfl)
  | .ifc :: zs, v :: vs, h => by
    cases v <;> first | (simp [zsB] at h; done) | (rw [zsB_sound (show zsB zs vs = true from h)]; rfl)

def isAggD : TypeDesc → Bool
  | .struct _ => true
  | .array _ _ => true
  | _ => false
def aggB (P : Program) (t : TypeId) (b : Bool) : Bool := match P.underlying t with
  | some d => bif isAggD d then b else !b
  | none => false
theorem aggB_sound {P : Program} {t : TypeId} {b : Bool} (h : aggB P t b = true) (w : World) : (isAgg t).run P w = .ok b w := by
  unfold aggB at h
  split at h
  · rename_i d hd
    simp only [isAgg, Sem.run_bind, run_underlying hd, Result.andThen_ok]
    cases d <;> cases b <;> first | rfl | (cases h; done)
  · cases h

def fieldsB (P : Program) : List Field → List (Nat × Nat × Bool) → Bool
  | [], [] => true
  | f :: fs, x :: xs => Nat.beq f.offset x.1 && (Nat.blt 0 x.2.1 && ((match P.info? f.type with | some i => Nat.beq i.size x.2.1 | none => false) && (aggB P f.type x.2.2 && fieldsB P fs xs)))
  | _, _ => false

theorem fieldsB_sound {P : Program} : ∀ {fs : List Field} {xs : List (Nat × Nat × Bool)}, fieldsB P fs xs = true → fs.length = xs.length ∧ ∀ (i : Nat) (x : Nat × Nat × Bool), xs[i]? = some x → ∃ fd : Field, fs[i]? = some fd ∧ fd.offset = x.1 ∧ x.2.1 ≠ 0 ∧
    (∀ w, (sizeOf fd.type).run P w = .ok x.2.1 w) ∧ (∀ w, (isAgg fd.type).run P w = .ok x.2.2 w)
  | [], [], _ => ⟨rfl, fun _ _ h => by cases h⟩
  | [], _ :: _, h => by cases h
  | _ :: _, [], h => by cases h
  | f :: fs, x :: xs, h => by
    unfold fieldsB at h
    simp only [Bool.and_eq_true] at h
    obtain ⟨h1, h2, h3, h4, h5⟩ := h
    obtain ⟨g1, g2⟩ := fieldsB_sound h5
    refine ⟨by simp [g1], fun i y hy => ?_⟩
    cases i with
    | zero =>
      obtain rfl := Option.some.inj hy
      refine ⟨f, rfl, Nat.eq_of_beq_eq_true h1, by have := Nat.le_of_ble_eq_true h2; omega, fun w => ?_, aggB_sound h4⟩
      split at h3
      · rename_i i hi
        rw [← Nat.eq_of_beq_eq_true h3]
        simp [sizeOf, typeInfo, hi]
      · cases h3
    | succ i => exact g2 i y hy

/-- The fields of a struct that is compared: single cells, one behind the other. -/
def eqB (P : Program) : Nat → List Field → List Ty → Bool
  | _, [], [] => true
  | k, f :: fs, t :: ts => Nat.beq f.offset k && ((f.name != "_") && ((match P.info? f.type with | some i => Nat.beq i.size 1 | none => false) && (aggB P f.type false && ((match P.underlying f.type, t with
      | some (.int k1), .int k2 => decide (k1 = k2)
      | some .bool, .bool => true
      | some .string, .str => true
      | _, _ => false) && eqB P (k + 1) fs ts))))
  | _, _, _ => false

theorem run_part1 {P : Program} {w : World} {t : TypeId} {i : TypeInfo} (hi : P.info? t = some i) (hs : i.size = 1) (ha : aggB P t false = true) {xs : Array Value} {off : Nat} {v : Value} (hx : xs[off]? = some v) : (Go.part t xs off).run P w = .ok v w := by
  have h1 : ∀ w, (sizeOf t).run P w = .ok 1 w := fun w => by simp [sizeOf, typeInfo, hi, hs]
  have h2 := aggB_sound ha
  have hlt := (Array.getElem?_eq_some_iff.1 hx).1
  obtain ⟨hlt, hv⟩ := Array.getElem?_eq_some_iff.1 hx
  unfold Go.part
  simp [h1, h2, Result.andThen]
  simp [hx, hlt, hv]

theorem eqB_sound {P : Program} {d : Nat} {w : World} {xs ys : Array Value} : ∀ {k : Nat} {fs : List Field} {ts : List Ty} {us vs : List Value} {e : Bool}, eqB P k fs ts = true → eqVals ts us vs = some e → xs.toList.drop k = us → ys.toList.drop k = vs →
    (Op.eqFields (d + 1) xs ys fs).run P w = .ok e w
  | _, [], [], us, vs, e, _, he, _, _ => by
    cases us with
    | nil => cases vs with
      | nil => obtain rfl := Option.some.inj he; simp [Op.eqFields]
      | cons _ _ => cases he
    | cons _ _ => cases he
  | _, [], _ :: _, _, _, _, h, _, _, _ => by cases h
  | _, _ :: _, [], _, _, _, h, _, _, _ => by cases h
  | k, f :: fs, t :: ts, us, vs, e, h, he, hu, hv => by
    unfold eqB at h
    simp only [Bool.and_eq_true] at h
    obtain ⟨h1, h2, h3, h4, h5, h6⟩ := h
    have h1 := Nat.eq_of_beq_eq_true h1
    have hname : f.name ≠ "_" := by simpa using h2
    split at h3
    case h_2 => cases h3
    rename_i i hi
    have hs := Nat.eq_of_beq_eq_true h3
    have next : ∀ {zs : Array Value} {z : Value} {zl : List Value}, zs.toList.drop k = z :: zl → zs[f.offset]? = some z ∧ zs.toList.drop (k + 1) = zl := by
      intro zs z zl q
      have g := congrArg (fun l => l[0]?) q
      simp at g
      refine ⟨by rw [h1]; simpa using g, ?_⟩
      rw [← List.drop_drop, q]; rfl
    have fin : ∀ {u v : Value} {ul vl : List Value} {b e' : Bool}, us = u :: ul → vs = v :: vl → (Op.equalIn (d + 1) f.type u v).run P w = .ok b w → eqVals ts ul vl = some e' → e = (b && e') → (Op.eqFields (d + 1) xs ys (f :: fs)).run P w = .ok e w := by
      intro u v ul vl b e' eu ev hb hr hE
      obtain ⟨n1, n2⟩ := next (hu.trans eu)
      obtain ⟨n3, n4⟩ := next (hv.trans ev)
      have ih := eqB_sound (d := d) (w := w) h6 hr n2 n4
      have p1 := run_part1 (P := P) (w := w) hi hs h4 n1
      have p2 := run_part1 (P := P) (w := w) hi hs h4 n3
      unfold Op.eqFields
      rw [if_pos hname]
      simp only [Sem.run_bind, p1, Result.andThen_ok, p2, hb]
      cases b with
      | true => simp [ih, hE]
      | false => simp [hE]
    cases us with
    | nil => cases t <;> simp [eqVals] at he
    | cons u ul =>
      cases vs with
      | nil => cases t <;> cases u <;> simp [eqVals] at he
      | cons v vl =>
        cases t with
        | int q =>
          cases u <;> try (simp [eqVals] at he; done)
          cases v <;> try (simp [eqVals] at he; done)
          simp only [eqVals] at he
          split at he
          · rename_i hk
            obtain ⟨rfl, rfl⟩ := hk
            split at he
            · rename_i e' hr
              split at h5
              · exact fin rfl rfl (run_equalIn_int _ _ _ _ _ _ _ ‹_›) hr (Option.some.inj he).symm
              · rename_i q1; cases q1
              · rename_i q1; cases q1
              · cases h5
            · cases he
          · cases he
        | bool =>
          cases u <;> try (simp [eqVals] at he; done)
          cases v <;> try (simp [eqVals] at he; done)
          simp only [eqVals] at he
          split at he
          · rename_i e' hr
            split at h5
            · rename_i q1; cases q1
            · exact fin rfl rfl (run_equalIn_bool' _ _ _ _ _ ‹_›) hr (Option.some.inj he).symm
            · rename_i q1; cases q1
            · cases h5
          · cases he
        | str =>
          cases u <;> try (simp [eqVals] at he; done)
          cases v <;> try (simp [eqVals] at he; done)
          simp only [eqVals] at he
          split at he
          · rename_i e' hr
            split at h5
            · rename_i q1; cases q1
            · rename_i q1; cases q1
            · rename_i hu5 _
              have key : ∀ a b, (Op.equalIn (d + 1) f.type (.string a) (.string b)).run P w = .ok (strEq a b) w := fun a b => by rw [← strEq_toList]; exact run_equalIn_string w d f.type a b hu5
              exact fin rfl rfl (key _ _) hr (Option.some.inj he).symm
            · cases h5
          · cases he
        | sl _ => simp [eqVals] at he
        | pr _ _ => simp [eqVals] at he

def ckLoop (e : Bool) (d : Nat) (xs : Array Value) (fs : List Field) : Sem PUnit :=
  forIn (m := Sem) fs PUnit.unit (fun f _ => do
      if f.name ≠ "_" then do
        let __do_lift ← Go.part f.type xs f.offset
        Instr.checkKey e (d + 1) f.type __do_lift
        pure (ForInStep.yield PUnit.unit)
      else pure (ForInStep.yield PUnit.unit))
theorem ckF_sound {P : Program} {d : Nat} {e : Bool} {w : World} {xs : Array Value} : ∀ {k : Nat} {fs : List Field} {ts : List Ty} {us vs : List Value} {b : Bool}, eqB P k fs ts = true → eqVals ts us vs = some b → xs.toList.drop k = us →
    (ckLoop e d xs fs).run P w = .ok PUnit.unit w
  | _, [], _, _, _, _, _, _, _ => by simp [ckLoop]
  | _, _ :: _, [], _, _, _, h, _, _ => by cases h
  | k, f :: fs, t :: ts, us, vs, b, h, he, hu => by
    unfold eqB at h
    simp only [Bool.and_eq_true] at h
    obtain ⟨h1, h2, h3, h4, h5, h6⟩ := h
    have h1 := Nat.eq_of_beq_eq_true h1
    have hname : f.name ≠ "_" := by simpa using h2
    split at h3
    case h_2 => cases h3
    rename_i i hi
    have hs := Nat.eq_of_beq_eq_true h3
    have fin : ∀ {u : Value} {ul vl : List Value} {b' : Bool} {D : TypeDesc}, us = u :: ul → eqVals ts ul vl = some b' → P.underlying f.type = some D → (∀ w, (Instr.checkKey e (d + 1) f.type u).run P w = .ok () w) → (ckLoop e d xs (f :: fs)).run P w = .ok PUnit.unit w := by
      intro u ul vl b' D eu hr _ hck
      have hu' := hu.trans eu
      have g : xs[f.offset]? = some u ∧ xs.toList.drop (k + 1) = ul := by
        have g := congrArg (fun l => l[0]?) hu'
        simp at g
        refine ⟨by rw [h1]; simpa using g, ?_⟩
        rw [← List.drop_drop, hu']; rfl
      have ih := ckF_sound (d := d) (e := e) (w := w) h6 hr g.2
      have p1 := run_part1 (P := P) (w := w) hi hs h4 g.1
      unfold ckLoop at ih ⊢
      rw [List.forIn_cons]
      simp only [Sem.run_bind, if_pos hname, p1, Result.andThen_ok, hck, Sem.run_pure]
      exact ih
    cases us with
    | nil => cases t <;> simp [eqVals] at he
    | cons u ul =>
      cases vs with
      | nil => cases t <;> cases u <;> simp [eqVals] at he
      | cons v vl =>
        have ckp : ∀ {D : TypeDesc}, P.underlying f.type = some D → (D = .bool ∨ D = .string ∨ ∃ q, D = .int q) → ∀ w, (Instr.checkKey e (d + 1) f.type u).run P w = .ok () w := by
          intro D hD hc w
          rcases hc with rfl | rfl | ⟨q, rfl⟩ <;> simp [Instr.checkKey, run_underlying hD]
        cases t with
        | int q =>
          cases u <;> try (simp [eqVals] at he; done)
          cases v <;> try (simp [eqVals] at he; done)
          simp only [eqVals] at he
          split at he
          · split at he
            · rename_i e' hr
              split at h5
              · exact fin rfl hr ‹_› (ckp ‹_› (.inr (.inr ⟨_, rfl⟩)))
              · rename_i q1; cases q1
              · rename_i q1; cases q1
              · cases h5
            · cases he
          · cases he
        | bool =>
          cases u <;> try (simp [eqVals] at he; done)
          cases v <;> try (simp [eqVals] at he; done)
          simp only [eqVals] at he
          split at he
          · rename_i e' hr
            split at h5
            · rename_i q1; cases q1
            · exact fin rfl hr ‹_› (ckp ‹_› (.inl rfl))
            · rename_i q1; cases q1
            · cases h5
          · cases he
        | str =>
          cases u <;> try (simp [eqVals] at he; done)
          cases v <;> try (simp [eqVals] at he; done)
          simp only [eqVals] at he
          split at he
          · rename_i e' hr
            split at h5
            · rename_i q1; cases q1
            · rename_i q1; cases q1
            · exact fin rfl hr ‹_› (ckp ‹_› (.inr (.inl rfl)))
            · cases h5
          · cases he
        | sl _ => simp [eqVals] at he
        | pr _ _ => simp [eqVals] at he

def tiB (P : Program) (t : Nat) (ti : TI) : Bool :=
  (match P.info? t with
    | some i => Nat.beq i.size ti.size && (Nat.beq i.bytes ti.bytes && (match ti.ty with
      | some ty => Nat.beq ty.sz ti.size && (match i.zero with
        | some z => (match zvB ty z.cells.toList with | some [] => true | _ => false)
        | none => false)
      | none => true))
    | none => false) &&
  (aggB P t ti.agg &&
  ((match P.underlying t with
    | some (.int k) => !Nat.beq ti.kind 1 || decide (k = ti.ik)
    | _ => !Nat.beq ti.kind 1) &&
  ((match P.underlying t with
    | some (.struct fs) => !Nat.beq ti.kind 2 || fieldsB P fs.toList ti.fs
    | _ => !Nat.beq ti.kind 2) &&
  ((match P.underlying t with
    | some (.slice e) => !Nat.beq ti.kind 3 || Nat.beq e ti.el
    | _ => !Nat.beq ti.kind 3) &&
  ((match P.underlying t with
    | some (.array n e) => !Nat.beq ti.kind 4 || (Nat.beq e ti.el && (match P.info? e with | some i => Nat.beq ti.size (n * i.size) | none => true))
    | _ => !Nat.beq ti.kind 4) &&
  ((match P.underlying t with
    | some .string => true
    | _ => !Nat.beq ti.kind 5) &&
  ((match P.underlying t with
    | some .bool => true
    | _ => !Nat.beq ti.kind 6) &&
  ((match P.underlying t with
    | some (.interface _) => true
    | _ => !Nat.beq ti.kind 7) &&
  ((match P.underlying t with
    | some (.pointer _) => true
    | _ => !Nat.beq ti.kind 8) &&
  ((match P.underlying t with
    | some (.map ky e) => !Nat.beq ti.kind 9 || (Nat.beq ky ti.ky && Nat.beq e ti.el)
    | _ => !Nat.beq ti.kind 9) &&
  ((!Nat.beq ti.kind 1 || (match P.info? t with
      | some i => (match i.zero with
        | some (.int k n) => decide (k = ti.ik ∧ n = 0)
        | _ => false)
      | none => false)) &&
  ((match ti.zs with
    | none => true
    | some zs => (match P.info? t with
      | some i => (match i.zero with
        | some z => zsB zs z.cells.toList
        | none => false)
      | none => false)) &&
  (match ti.eqs with
    | none => true
    | some ts => !P.stoodInHeld t && (!P.eqGuardType P.depth t && (match P.underlying t with
      | some (.struct fs) => eqB P 0 fs.toList ts
      | _ => false)))))))))))))))

theorem tiB_sound {P : Program} {t : Nat} {ti : TI} (h : tiB P t ti = true) : TIok P t ti := by
  unfold tiB at h
  simp only [Bool.and_eq_true] at h
  obtain ⟨h1, h2, h3, h4, h5, h6, h7, h8, hi7, hi8, hi9, hz1, hzs, h9⟩ := h
  have nk : ∀ {k : Nat}, ti.kind = k → (!Nat.beq ti.kind k) = true → False := by
    intro k e q; rw [e] at q; simp [Nat.beq_refl] at q
  refine ⟨?_, fun zs e => ?_, aggB_sound h2, ?_, fun e => ?_, fun e => ?_, fun e => ?_, fun e => ?_, fun e => ?_, fun e => ?_, fun e => ?_, fun e => ?_, fun e => ?_, fun e => ?_, fun ts e em w xs ys b hb => ?_, fun ts e w xs ys b hb => ?_⟩
  · split at h1
    · rename_i i hi
      simp only [Bool.and_eq_true] at h1
      obtain ⟨g1, g2, g3⟩ := h1
      refine ⟨i, hi, Nat.eq_of_beq_eq_true g1, Nat.eq_of_beq_eq_true g2, fun ty hty => ?_⟩
      rw [hty] at g3
      dsimp only at g3
      rw [Bool.and_eq_true] at g3
      refine ⟨Nat.eq_of_beq_eq_true g3.1, ?_⟩
      have g4 := g3.2
      split at g4
      · rename_i z hz
        refine ⟨z, hz, ?_⟩
        split at g4
        · rename_i hzv
          have := zvB_sound ty hzv
          rw [List.append_nil] at this
          rw [← this]
        · cases g4
      · cases g4
    · cases h1
  · rw [e] at hzs
    dsimp only at hzs
    split at hzs
    · rename_i i hi
      split at hzs
      · rename_i z hz
        exact ⟨i, z, hi, hz, by rw [← zsB_sound hzs]⟩
      · cases hzs
    · cases hzs
  · unfold aggB at h2
    split at h2
    · rename_i d hd; rw [hd]; rfl
    · cases h2
  · split at h3
    · rename_i k hk
      rcases Bool.or_eq_true _ _ |>.mp h3 with q | q
      · exact (nk e q).elim
      · rw [hk, of_decide_eq_true q]
    · exact (nk e h3).elim
  · split at h4
    · rename_i fs hfs
      rcases Bool.or_eq_true _ _ |>.mp h4 with q | q
      · exact (nk e q).elim
      · obtain ⟨g1, g2⟩ := fieldsB_sound q
        refine ⟨fs, hfs, by simpa using g1, fun f x hx => ?_⟩
        obtain ⟨fd, k1, k2⟩ := g2 f x hx
        exact ⟨fd, by simpa using k1, k2⟩
    · exact (nk e h4).elim
  · split at h5
    · rename_i el hel
      rcases Bool.or_eq_true _ _ |>.mp h5 with q | q
      · exact (nk e q).elim
      · rw [hel, Nat.eq_of_beq_eq_true q]
    · exact (nk e h5).elim
  · split at h6
    · rename_i n el hel
      rcases Bool.or_eq_true _ _ |>.mp h6 with q | q
      · exact (nk e q).elim
      · rw [Bool.and_eq_true] at q
        have q1 := Nat.eq_of_beq_eq_true q.1
        refine ⟨n, by rw [hel, q1], fun i hi => ?_⟩
        have q2 := q.2
        rw [q1, hi] at q2
        exact Nat.eq_of_beq_eq_true q2
    · exact (nk e h6).elim
  · split at h7
    · assumption
    · exact (nk e h7).elim
  · split at h8
    · assumption
    · exact (nk e h8).elim
  · split at hi7
    · rename_i ms hms; exact ⟨ms, hms⟩
    · exact (nk e hi7).elim
  · split at hi8
    · rename_i ms hms; exact ⟨ms, hms⟩
    · exact (nk e hi8).elim
  · split at hi9
    · rename_i ky el hel
      rcases Bool.or_eq_true _ _ |>.mp hi9 with q | q
      · exact (nk e q).elim
      · rw [Bool.and_eq_true] at q
        rw [hel, Nat.eq_of_beq_eq_true q.1, Nat.eq_of_beq_eq_true q.2]
    · exact (nk e hi9).elim
  · rcases Bool.or_eq_true _ _ |>.mp hz1 with q | q
    · exact (nk e q).elim
    · split at q
      · rename_i i hi
        split at q
        · rename_i k n hz
          obtain ⟨rfl, rfl⟩ := of_decide_eq_true q
          exact ⟨i, hi, hz⟩
        · cases q
      · cases q
  · rw [e] at h9
    dsimp only at h9
    simp only [Bool.and_eq_true, Bool.not_eq_true'] at h9
    obtain ⟨g1, g2, g3⟩ := h9
    split at g3
    · rename_i fs hfs
      show (Instr.checkKey em (9999 + 1) t (.agg xs.toArray)).run P w = _
      unfold Instr.checkKey
      simp only [Sem.run_bind, run_underlying hfs, Result.andThen_ok]
      rw [← Array.forIn_toList]
      have hck := ckF_sound (d := 9998) (e := em) (w := w) (xs := xs.toArray) g3 hb (by simp)
      unfold ckLoop at hck
      rw [hck]; rfl
    · cases g3
  · rw [e] at h9
    dsimp only at h9
    simp only [Bool.and_eq_true, Bool.not_eq_true'] at h9
    obtain ⟨g1, g2, g3⟩ := h9
    split at g3
    · rename_i fs hfs
      have hfo : P.fieldsOf t = fs := by simp [Program.fieldsOf, hfs]
      refine ⟨?_, fun op x y => run_eqGuard_agg _ op t x y _ _ g2⟩
      show (Op.equalIn (9999 + 1) t (.agg xs.toArray) (.agg ys.toArray)).run P w = _
      rw [run_equalIn_struct w 9999 t _ _ (by rw [hfo]; exact hfs) g1, hfo]
      exact eqB_sound (d := 9998) g3 hb (by simp) (by simp)
    · cases g3

def tabB (P : Program) : Tab → Bool
  | [] => true
  | p :: r => tiB P p.1 p.2 && tabB P r
theorem tabB_sound {P : Program} : ∀ {τ : Tab}, tabB P τ = true → TabOk P τ
  | [], _, _, _, e => by cases e
  | p :: r, h, t, ti, e => by
    unfold tabB at h
    rw [Bool.and_eq_true] at h
    unfold Tab.get at e
    cases q : Nat.beq p.1 t with
    | true =>
      rw [q] at e
      have := Nat.eq_of_beq_eq_true q
      obtain rfl := Option.some.inj e
      rw [← this]; exact tiB_sound h.1
    | false => rw [q] at e; exact tabB_sound h.2 t ti e
end AM
end Go.Proofs.YtelkmjkclmjggaaDoor

/-! What a printed text says, put together: a function obeys when its callees do. No condition. -/
namespace Go.Proofs.YtelkmjkclmjggaaDoor
namespace AM
open Go
set_option linter.unusedSimpArgs false
set_option linter.unusedVariables false

/-- The loops of a code, outer ones first. -/
def loopsIn : Code → List Code
  | .seq a b => loopsIn a ++ loopsIn b
  | .cond _ a b => loopsIn a ++ loopsIn b
  | .block _ c => loopsIn c
  | .loop c => c :: loopsIn c
  | _ => []

def Looped (E : Env) (c : Code) : Prop := ∀ S, E.Λ (key c) = some S → ∃ f : Nat → TD (entys S.ent) → Option (EX S.exs), (∀ x, f 0 x = none) ∧ (∃ n, S.g = f n) ∧ ∀ n x, f (n + 1) x = runL E c S (f n) x

/-- The regions of a code. -/
def regsIn : Code → List (Nat × Array Oper)
  | .region id ops _ => [(id, ops)]
  | .seq a b => regsIn a ++ regsIn b
  | .cond _ a b => regsIn a ++ regsIn b
  | .block _ c => regsIn c
  | .loop c => regsIn c
  | _ => []

theorem loopsOk_mem {E : Env} : ∀ c : Code, (∀ b ∈ loopsIn c, Looped E b) → (∀ p ∈ regsIn c, RegOk E p.1 p.2) → LoopsOk E c := by
  intro c
  induction c with
  | seq a b iha ihb => exact fun h g => ⟨iha (fun x hx => h x (List.mem_append_left _ hx)) fun x hx => g x (List.mem_append_left _ hx), ihb (fun x hx => h x (List.mem_append_right _ hx)) fun x hx => g x (List.mem_append_right _ hx)⟩
  | cond _ a b iha ihb => exact fun h g => ⟨iha (fun x hx => h x (List.mem_append_left _ hx)) fun x hx => g x (List.mem_append_left _ hx), ihb (fun x hx => h x (List.mem_append_right _ hx)) fun x hx => g x (List.mem_append_right _ hx)⟩
  | block _ c ih => exact fun h g => ih h g
  | loop c ih => exact fun h g => ⟨ih (fun x hx => h x (List.mem_cons_of_mem _ hx)) g, h c (List.mem_cons_self ..)⟩
  | region id ops d => exact fun _ g => g (id, ops) (List.mem_singleton.2 rfl)
  | _ => exact fun _ _ => trivial

/-- The region with this number. -/
def regAt (c : Code) (id : Nat) : List Oper := match (regsIn c).find? (fun p => Nat.beq p.1 id) with
  | some p => p.2.toList
  | none => []
def nodupNat : List Nat → Bool
  | [] => true
  | n :: r => !memNat n r && nodupNat r
theorem find_uniq {β : Type} : ∀ {l : List (Nat × β)}, nodupNat (l.map Prod.fst) = true → ∀ p ∈ l, l.find? (fun q => Nat.beq q.1 p.1) = some p
  | [], _, _, h => by cases h
  | q :: l, hn, p, h => by
    unfold nodupNat at hn
    simp only [List.map_cons, Bool.and_eq_true, Bool.not_eq_true'] at hn
    rcases List.mem_cons.1 h with rfl | h
    · rw [List.find?_cons, Nat.beq_refl]
    · have : Nat.beq q.1 p.1 = false := by
        cases z : Nat.beq q.1 p.1 with
        | false => rfl
        | true =>
          have hm : memNat q.1 (l.map Prod.fst) = true := memNat_iff.2 (by rw [Nat.eq_of_beq_eq_true z]; exact List.mem_map.2 ⟨p, h, rfl⟩)
          rw [hn.1] at hm; cases hm
      rw [List.find?_cons, this]
      exact find_uniq hn.2 p h
theorem regs_at {E : Env} {c : Code} (hn : nodupNat ((regsIn c).map Prod.fst) = true) (h : ∀ id S, E.Ω id = some S → aftOk (regAt c id) = true ∧ ∀ x y, S.g x = some y → ∀ π ∈ exts (regAt c id), opsK E (regAt c id) (opsOf (regAt c id) π) (mkSt S.ent x) (fun s' => getEns E.N S.out s') = some y) : ∀ p ∈ regsIn c, RegOk E p.1 p.2 := by
  intro p hp S hS
  have hr : regAt c p.1 = p.2.toList := by unfold regAt; rw [find_uniq hn p hp]
  rw [← hr]
  exact h p.1 S hS

def loopAt (c : Code) (i : Nat) : Code := (loopsIn c).getD i .skip
def bodyOf (fn : Func) : Code := fn.body.getD .skip

theorem loopsOk_of {E : Env} {c : Code} (k : Nat) (hk : (loopsIn c).length = k) (h : ∀ i, i < k → Looped E (loopAt c i)) (hR : ∀ p ∈ regsIn c, RegOk E p.1 p.2) : LoopsOk E c := by
  refine loopsOk_mem c (fun b hb => ?_) hR
  obtain ⟨i, hi⟩ := List.getElem?_of_mem hb
  have hlt : i < k := by rw [← hk]; exact (List.getElem?_eq_some_iff.1 hi).1
  have := h i hlt
  unfold loopAt at this
  rw [List.getD_eq_getElem?_getD, hi] at this
  exact this

theorem looped {E : Env} {c : Code} {S : LSum} (hS : E.Λ (key c) = some S) (f : Nat → TD (entys S.ent) → Option (EX S.exs)) (h0 : ∀ x, f 0 x = none) (n : Nat) (hn : S.g = f n) (hs : ∀ m x, f (m + 1) x = runL E c S (f m) x) : Looped E c := by
  intro S' hS'
  rw [hS] at hS'
  obtain rfl := Option.some.inj hS'
  exact ⟨f, h0, ⟨n, hn⟩, hs⟩

def gl1 : List (Nat × FSum) → Nat → Option FSum
  | [], _ => none
  | p :: r, f => bif Nat.beq p.1 f then some p.2 else gl1 r f
def gl2 : List ((Nat × Nat) × FSum) → Nat → Nat → Option FSum
  | [], _, _ => none
  | p :: r, f, d => bif Nat.beq p.1.1 f && Nat.beq p.1.2 d then some p.2 else gl2 r f d
/-- The summaries of the callees: of a function, or of it at one call. -/
def gl (l : List (Nat × FSum)) (l2 : List ((Nat × Nat) × FSum)) (f d : Nat) : Option FSum :=
  match gl2 l2 f d with
  | some S => some S
  | none => gl1 l f

def Good (P : Program) (K : Glob) (p : Nat × FSum) : Prop := Plain P p.1 ∧ Obeys P K p.1 p.2
def Goods (P : Program) (K : Glob) : List (Nat × FSum) → Prop
  | [] => True
  | p :: r => Good P K p ∧ Goods P K r

def Goods2 (P : Program) (K : Glob) : List ((Nat × Nat) × FSum) → Prop
  | [] => True
  | p :: r => Good P K (p.1.1, p.2) ∧ Goods2 P K r

theorem gl1_good {P : Program} {K : Glob} : ∀ {l : List (Nat × FSum)}, Goods P K l → ∀ f S, gl1 l f = some S → Plain P f ∧ Obeys P K f S
  | [], _, _, _, h => by cases h
  | p :: r, ⟨h1, h2⟩, f, S, h => by
    unfold gl1 at h
    cases q : Nat.beq p.1 f with
    | true =>
      rw [q] at h
      obtain rfl := Option.some.inj h
      rw [← Nat.eq_of_beq_eq_true q]
      exact h1
    | false => rw [q] at h; exact gl1_good h2 f S h
theorem gl2_good {P : Program} {K : Glob} : ∀ {l : List ((Nat × Nat) × FSum)}, Goods2 P K l → ∀ f d S, gl2 l f d = some S → Plain P f ∧ Obeys P K f S
  | [], _, _, _, _, h => by cases h
  | p :: r, ⟨h1, h2⟩, f, d, S, h => by
    unfold gl2 at h
    cases q : (Nat.beq p.1.1 f && Nat.beq p.1.2 d) with
    | true =>
      rw [q] at h
      obtain rfl := Option.some.inj h
      rw [Bool.and_eq_true] at q
      rw [← Nat.eq_of_beq_eq_true q.1]
      exact h1
    | false => rw [q] at h; exact gl2_good h2 f d S h
theorem gl_good {P : Program} {K : Glob} {l : List (Nat × FSum)} {l2 : List ((Nat × Nat) × FSum)} (h1 : Goods P K l) (h2 : Goods2 P K l2) (f d : Nat) (S : FSum) (h : gl l l2 f d = some S) : Plain P f ∧ Obeys P K f S := by
  unfold gl at h
  split at h
  · rename_i S' e
    obtain rfl := Option.some.inj h
    exact gl2_good h2 f d S' e
  · exact gl1_good h1 f S h

theorem plain_of {P : Program} {f : FuncId} {fn : Func} (h : P.funcs[f]? = some fn) (hn : (fn.name == "runtime.NumGoroutine") = false) (hb : fn.body.isNone = false) : Plain P f := ⟨fn, h, hn, hb⟩

theorem body_of {fn : Func} (h : fn.body.isSome = true) : fn.body = some (bodyOf fn) := by
  unfold bodyOf
  cases q : fn.body with
  | none => rw [q] at h; cases h
  | some c => rfl

theorem all_of {α β : Type} {xs : List α} {F : α → β} {vs : List β} (h : xs.map F = vs) {r : β} (hv : ∀ v ∈ vs, v = r) : ∀ x ∈ xs, F x = r := fun x hx => hv _ (h ▸ List.mem_map.2 ⟨x, hx, rfl⟩)

/-- A function obeys its summary. -/
theorem obeys_of {P : Program} {K : Glob} {f : FuncId} {fn : Func} {S : FSum} {E : Env} {l : List (Nat × FSum)} {l2 : List ((Nat × Nat) × FSum)} (hf : P.funcs[f]? = some fn) (hmo : P.follows .mixedOrders = true) (hτ : TabOk P E.τ) (hΓ : E.Γ = gl l l2) (hl : Goods P K l) (hl2 : Goods2 P K l2)
    (hb : fn.body.isSome = true) (hN : E.N = fn.ntmps) (hn : S.pars.length ≤ fn.ntmps) (hr : fn.results.size = S.res.length) (hloops : LoopsOk E (bodyOf fn)) (hg : ∀ x, S.g x = runF E fn S x) : Obeys P K f S :=
  obeys ⟨hτ, fun f d S h => by rw [hΓ] at h; exact gl_good hl hl2 f d S h, hmo⟩ hf (body_of hb) hN hn hr hloops (fun x r h => by rw [← hg]; exact h)
end AM
end Go.Proofs.YtelkmjkclmjggaaDoor

/-! From a law's calls to what a row asks. No condition. -/
namespace Go.Proofs.YtelkmjkclmjggaaDoor
namespace AM
open Go
set_option linter.unusedSimpArgs false
set_option linter.unusedVariables false

/-- All that lay there when the law was called stays. -/
def Glob.of (W : World) : Glob where
  blk := fun b => b < W.heap.size
  ok := fun w => ∀ b, b < W.heap.size → w.heap[b]? = W.heap[b]?
  keep := fun w w' h k b hb => ((k b hb).2).trans (h b hb)

theorem Glob.of_cell {W w : World} (h : (Glob.of W).ok w) {b off : Nat} {u : Value} (hu : W.cell? ⟨b, off, none⟩ = some u) : w.cell? ⟨b, off, none⟩ = some u := by
  have hb := World.block_lt_of_cell? W ⟨b, off, none⟩ hu
  rw [World.cell?_of_block (w := W) (a := ⟨b, off, none⟩) (h b hb)]; exact hu

theorem Glob.of_tab {P : Program} {W w : World} (h : (Glob.of W).ok w) {name : String} {k : IntKind} {zs : List Int} (ht : Lib.TabIs P W name k zs) : Lib.TabIs P w name k zs := by
  unfold Lib.TabIs World.var? at ht ⊢
  cases hg : P.globalNamed name with
  | none => rw [hg] at ht; cases ht
  | some g =>
    rw [hg] at ht
    simp only [Option.bind_some] at ht ⊢
    have hb : g < W.heap.size := by
      rcases Nat.lt_or_ge g W.heap.size with q | q
      · exact q
      · rw [Array.getElem?_eq_none q] at ht; cases ht
    rw [h g hb]; exact ht

theorem Step.drewN (w : World) (n : Nat) : Step (fun _ _ => False) w (w.drewN n) := ⟨rfl, rfl, rfl, Nat.le_refl _, fun _ _ => BlkEq.refl _ _⟩
theorem Step.grow (w : World) (os : Array Go.Obj) : Step (fun _ _ => False) w (Sort.grow w os) :=
  ⟨rfl, rfl, rfl, by show w.heap.size ≤ (w.heap ++ os).size; simp, fun b hb => BlkEq.of_eq (by show (w.heap ++ os)[b]? = w.heap[b]?; rw [Array.getElem?_append_left hb])⟩

def sigs (P : Program) (n : Nat) : List TypeId → Option (List (Ty × Bool))
  | [] => some []
  | T :: r => match tyOf P n T, P.underlying T, sigs P n r with
    | some t, some d, some l => some ((t, isAggD d) :: l)
    | _, _, _ => none

section
variable {H : Type} {enc : TypeId × Value → H} {P : Program} {W : World} {sp : Nat → Bool} {held : Bool}

theorem arg_of {n T : Nat} {t : Ty} {d : TypeDesc} (ht : tyOf P n T = some t) (hd : P.underlying T = some d) {base : Nat} {v : Value} (hv : Value.okWide P W .any base T v) {x : DataW H} {ps : List MemPlace} (h : DataW.Trod enc P W 0 sp held T v x ps) :
    ∃ a : Arg, a.t = t ∧ a.agg = isAggD d ∧ a.u = v ∧ a.ok W := by
  obtain ⟨fuel, hf⟩ := h
  obtain ⟨y, hr, hfit⟩ := read_of_trod n T t ht fuel _ _ hf
  refine ⟨⟨t, isAggD d, y, v⟩, rfl, rfl, rfl, hfit, fun q => ?_, fun q => ?_⟩
  · have q : isAggD d = true := q
    cases d with
    | struct fs =>
      obtain ⟨cs, rfl, _⟩ := WideShapes.okWide_struct hd hv
      exact ⟨cs.toList, by simp, hr⟩
    | array m e =>
      exfalso
      cases n with
      | zero => cases ht
      | succ n => unfold tyOf at ht; rw [hd] at ht; cases ht
    | _ => cases q
  · have q : isAggD d = false := q
    have hc : v.cells.toList = [v] := by
      cases n with
      | zero => cases ht
      | succ n =>
        unfold tyOf at ht
        rw [hd] at ht
        cases d with
        | bool => obtain ⟨b, rfl⟩ := WideShapes.okWide_bool hd hv; rfl
        | int k => obtain ⟨m, rfl⟩ := WideShapes.okWide_int hd hv; rfl
        | string => obtain ⟨s, rfl⟩ := WideShapes.okWide_string hd hv; rfl
        | slice e => obtain ⟨a, l, c, rfl⟩ := WideShapes.okWide_slice hd hv; rfl
        | struct fs => cases q
        | _ => cases ht
    rw [hc] at hr
    exact hr

theorem args_of {n base : Nat} : ∀ {Ts : List TypeId} {vs : List Value} {ds : List (DataW H)} {ps : List MemPlace} {l : List (Ty × Bool)}, sigs P n Ts = some l → DataW.TrodAll enc P W 0 sp held Ts vs ds ps →
    (∀ (j : Nat) t v, Ts[j]? = some t → vs[j]? = some v → Value.okWide P W .any base t v) → ∃ as : List Arg, as.map (fun a => (a.t, a.agg)) = l ∧ as.map Arg.u = vs ∧ ∀ a ∈ as, a.ok W
  | [], vs, ds, ps, l, hs, h, _ => by
    obtain rfl := Option.some.inj hs
    obtain ⟨rfl, _, _⟩ := ChangeShapes.trodAll_nil h
    exact ⟨[], rfl, rfl, fun a ha => by cases ha⟩
  | T :: Ts, vs, ds, ps, l, hs, h, hv => by
    obtain ⟨v, vs', d, ds', p, q, rfl, rfl, rfl, h0, h1⟩ := ChangeShapes.trodAll_cons h
    simp only [sigs] at hs
    split at hs
    · rename_i t dd l' e1 e2 e3
      obtain rfl := Option.some.inj hs
      obtain ⟨a, a1, a2, a3, a4⟩ := arg_of e1 e2 (hv 0 T v rfl rfl) h0
      obtain ⟨as, b1, b2, b3⟩ := args_of e3 h1 (fun j t v ht hv' => hv (j + 1) t v ht hv')
      refine ⟨a :: as, ?_, ?_, fun x hx => ?_⟩
      · rw [List.map_cons, b1, a1, a2]
      · rw [List.map_cons, b2, a3]
      · rcases List.mem_cons.1 hx with rfl | hx
        · exact a4
        · exact b3 x hx
    · cases hs

theorem trodAll_stays {W' : World} (hl : laidOutB P = true) (hb : RowKit.Below W.heap.size W W') {sp' : Nat → Bool} : ∀ {Ts : List TypeId} {vs : List Value} {ds : List (DataW H)} {ps : List MemPlace}, Ts.all (fun t => P.readableRec t && decide (t < P.types.size)) = true →
    DataW.TrodAll enc P W 0 (fun _ => true) true Ts vs ds ps → (∀ p ∈ ps, p.block < W.heap.size) → (∀ p ∈ ps, sp' p.block = true) → DataW.TrodAll enc P W' 0 sp' true Ts vs ds ps
  | [], _, _, _, _, h, _, _ => by
    obtain ⟨rfl, rfl, rfl⟩ := ChangeShapes.trodAll_nil h
    exact ChangeShapes.trodAll_mk0
  | T :: Ts, _, _, _, hr, h, hlt, hsp => by
    obtain ⟨v, vs', d, ds', p, q, rfl, rfl, rfl, h0, h1⟩ := ChangeShapes.trodAll_cons h
    rw [List.all_cons, Bool.and_eq_true, Bool.and_eq_true] at hr
    obtain ⟨⟨hr1, hr2⟩, hr3⟩ := hr
    refine ⟨p, q, WideElems.Trod_stays hl hr1 (of_decide_eq_true hr2) h0 (fun x hx => hb.same (hlt x (List.mem_append_left _ hx))) (fun x hx => hsp x (List.mem_append_left _ hx)), ?_, rfl⟩
    exact trodAll_stays hl hb hr3 h1 (fun x hx => hlt x (List.mem_append_right _ hx)) (fun x hx => hsp x (List.mem_append_right _ hx))

/-- What a law's row asks behind the call. -/
theorem law_post {f : Func} {s : ChangeSpec} {B : TypeId} {W' : World} {args : Array Value} {ds gs : List (DataW H)} {before : List MemPlace} (hvars : s.vars = []) (hfn : ∀ l : List (DataW H), l.length = f.params.size → s.fn H l = { results := [.lit (.bool true)], args := l })
    (hrt : f.resultTypes = #[B]) (hB : P.underlying B = some .bool) (hl : laidOutB P = true) (hrd : f.params.toList.all (fun t => P.readableRec t && decide (t < P.types.size)) = true)
    (hW : DataW.Whole enc P f.params.toList s.vars false W args.toList ds gs before) (hb : RowKit.Below W.heap.size W W') : s.post enc P f false true false false W args (.bool true) W' := by
  have hlt := hW.lt
  have hW0 := hW
  obtain ⟨p, q, hA, hV, rfl, hz, _⟩ := hW
  rw [hvars] at hV
  obtain ⟨rfl, rfl⟩ := ChangeShapes.trodVars_none hV
  have hlen : ds.length = f.params.size := by
    have := (trodAll_length hA).2
    simpa using this
  have hfn' := hfn (ds ++ []) (by simpa using hlen)
  refine ⟨ds, [], p ++ [], [], p, [], hW0, ?_, ?_, ?_, ⟨hb.os, hb.output, fun i hi => ?_⟩, fun h => by cases h⟩
  · rw [hfn', hrt]
    exact ChangeShapes.trodAll_mk1 (RowKit.shut_bool hB true)
  · rw [hfn']
    show DataW.TrodAll enc P W' 0 _ true f.params.toList args.toList (ds ++ []) p
    rw [List.append_nil]
    have hlt' : ∀ x ∈ p, x.block < W.heap.size := fun x hx => hlt x (List.mem_append_left _ hx)
    exact trodAll_stays hl hb hrd hA hlt' (fun x hx => by simpa using hlt' x hx)
  · rw [hfn', hvars]; rfl
  · rw [hb.block i hi]
    cases W.heap[i]? with
    | none => trivial
    | some o => cases o <;> first | exact ⟨rfl, rfl, rfl, fun _ _ => rfl⟩ | exact .inr ⟨rfl, rfl⟩ | rfl
end

theorem laidMet_mem {P : Program} {w : World} : ∀ {laid : List (String × DataW Unit)} {name : String} {d : DataW Unit}, laidMet P laid w → (name, d) ∈ laid → laidMet P [(name, d)] w := by
  have vars : ∀ {laid : List (String × DataW Unit)} {ps : List MemPlace} {name : String} {d : DataW Unit}, DataW.LaidVars P w laid ps → (name, d) ∈ laid → ∃ qs, DataW.LaidVars P w [(name, d)] qs ∧ qs.Sublist ps := by
    intro laid
    induction laid with
    | nil => intro ps name d _ hm; cases hm
    | cons x r ih =>
      intro ps name d h hm
      obtain ⟨g, t, cs, fuel, p, q, h1, h2, h3, h4, h5, h6⟩ := h
      rcases List.mem_cons.1 hm with rfl | hm
      · refine ⟨_, ⟨g, t, cs, fuel, p, [], h1, h2, h3, h4, rfl, rfl⟩, ?_⟩
        rw [h6]
        rw [List.append_nil]
        exact List.sublist_append_left ..
      · obtain ⟨qs, k1, k2⟩ := ih h5 hm
        exact ⟨qs, k1, k2.trans (by rw [h6]; exact List.sublist_append_right ..)⟩
  intro laid name d h hm
  obtain ⟨ps, h1, h2, h3⟩ := h
  obtain ⟨qs, k1, k2⟩ := vars h1 hm
  exact ⟨qs, k1, h2.sublist k2, fun b off hq => h3 b off (k2.subset hq)⟩
end AM
end Go.Proofs.YtelkmjkclmjggaaDoor

/-! A function that hands back an array of its own, made from a slice that came in, by its contract. Under: the contract. -/
namespace Go.Proofs.YtelkmjkclmjggaaDoor
namespace AM
open Go
set_option linter.unusedVariables false
set_option linter.unusedSimpArgs false

end AM
end Go.Proofs.YtelkmjkclmjggaaDoor

/-! A function that hands back an array of texts of its own, made from two texts, by its contract. Under: the contract. -/
namespace Go.Proofs.YtelkmjkclmjggaaDoor
namespace AM
open Go
set_option linter.unusedVariables false
set_option linter.unusedSimpArgs false

/-- Such a function's summary. -/
def own2Sum (el : Nat) (g : ByteArray × ByteArray → Option (List ByteArray)) : FSum := { pars := [.c (.i .str), .c (.i .str)], gh := [], nb := [], res := [(false, [.o el .str])], g := g }

theorem obeys_own2 {P : Program} {K : Glob} {f : FuncId} {el : Nat} {g : ByteArray × ByteArray → Option (List ByteArray)}
    (h : ∀ (w : World) (s sep : ByteArray) (r : List ByteArray), g (s, sep) = some r → K.ok w →
      Calls P f #[.string s, .string sep] w fun e w' => ∃ v' vs, e = .returned v' ∧ w'.ownsRow w.heap.size el (Ty.sz .str) v' r.length vs ∧ (∀ I, FRep I w .str r vs) ∧ Step (fun _ _ => False) w w') :
    Obeys P K f (own2Sum el g) := by
  intro Y L I a w x r hx hR hK hY hw
  have hN : Y.N = 2 := hY
  have hsz : a.tmps.size = 2 := hR.size.trans hN
  obtain ⟨s, sep⟩ := x
  have hu0 : RA L I w (AL (mkSt (parEns 0 (own2Sum el g).pars) (s, sep)).o) (.c (.v .str s)) (a.tmps.getD 0 undef) := hR.slot 0
  have hu1 : RA L I w (AL (mkSt (parEns 0 (own2Sum el g).pars) (s, sep)).o) (.c (.v .str sep)) (a.tmps.getD 1 undef) := hR.slot 1
  have e0 : a.tmps.getD 0 undef = .string s := (one_val (I := I) (w := w) (t := .str) rfl).1 hu0
  have e1 : a.tmps.getD 1 undef = .string sep := (one_val (I := I) (w := w) (t := .str) rfl).1 hu1
  have hI : ∀ b, I b → b < w.heap.size := fun b hb => (hR.imm b hb).1
  have htm : a.tmps = #[.string s, .string sep] := by
    refine Array.ext (by simp [hsz]) fun i hi _ => ?_
    have hi2 : i < 2 := by omega
    match i, hi2 with
    | 0, _ => rw [Array.getD_eq_getD_getElem?, Array.getElem?_eq_getElem (by omega)] at e0; exact e0
    | 1, _ => rw [Array.getD_eq_getD_getElem?, Array.getElem?_eq_getElem (by omega)] at e1; exact e1
  subst hK
  rw [show first (FSum.real (own2Sum el g)) a.tmps = a.tmps from first_all (by rw [hsz]; exact Nat.le_refl _), htm]
  refine (h w s sep r hx hR.glob.1).mono fun e w' hp => ?_
  obtain ⟨v', vs, rfl, hown, hf, hst⟩ := hp
  have g1 := hR.grows hst
  have hsm : Same I w w' := fun b hb => hst.same (hI b hb) (fun _ q => q)
  have hsl : ∃ a l c, v' = .slice a l c := by
    rcases hown.2 with ⟨e, _⟩ | ⟨g, cap, cur, e, _⟩
    · exact ⟨_, _, _, e⟩
    · exact ⟨_, _, _, e⟩
  have hmk : mkSt (FSum.ens (own2Sum el g)) r = ⟨look [(2, .c (.own [2, 0]))], lookO [([2, 0], .arr el .str r)]⟩ := by
    have ha : arrO [2, 0] el .str ⟨.sl .str, r⟩ = [([2, 0], .arr el .str r)] := by
      unfold arrO
      rw [show DV.as (.sl .str) ⟨.sl .str, r⟩ = some r from as_self (t := .sl .str) r]
    show St.mk _ (lookO ((arrO [2, 0] el .str ⟨.sl .str, r⟩ ++ []) ++ [])) = _
    rw [ha]; rfl
  refine ⟨_, fun n => bif Nm.eqb n [2, 0] then v' else L n, I, ⟨#[.string s, .string sep, v'], []⟩, rfl, ?_, fun n hn => ?_, rfl⟩
  · rw [hmk]
    have one : ∀ {n : Nm} {ob : Ob}, lookO [([2, 0], Ob.arr el .str r)] n = some ob → n = [2, 0] ∧ ob = .arr el .str r := fun {n ob} hq => by
      have hq : (bif Nm.eqb [2, 0] n then some (Ob.arr el .str r) else none) = some ob := hq
      cases hn : Nm.eqb [2, 0] n with
      | false => rw [hn] at hq; cases hq
      | true =>
        rw [hn] at hq
        exact ⟨(eqb_iff.1 hn).symm, (Option.some.inj hq).symm⟩
    refine ⟨rfl, rfl, fun i hi => ?_, fun i hi => ?_, fun n ob hob => ?_, fun n m ob ob' h1 h2 b o q1 q2 => ?_, fun n ob hob b o hq => ?_, g1.imm, g1.sub, g1.step, g1.glob⟩
    · have hi : i < 3 := hi
      match i, hi with
      | 0, _ => trivial
      | 1, _ => trivial
      | 2, _ =>
        obtain ⟨sa, l, c, e⟩ := hsl
        exact ⟨sa, l, c, e, rfl⟩
    · have hi : 3 ≤ i := hi
      match i, hi with
      | i + 3, _ => rfl
    · obtain ⟨rfl, rfl⟩ := one hob
      refine ⟨vs, ⟨hown.1, hown.2.imp id ?_⟩, FRep.mono (fun _ q => q) hsm (hf I)⟩
      rintro ⟨g, cap, cur, k1, k2, k3⟩
      exact ⟨g, cap, cur, k1, Nat.zero_le _, k3⟩
    · exact (one h1).1.trans (one h2).1.symm
    · obtain ⟨rfl, rfl⟩ := one hob
      have hq : v'.ownBlock = some b := hq
      have hlt := hown.lt b hq
      refine ⟨hlt.2, fun q => ?_, fun q => ?_⟩
      · have := hI b q
        omega
      · exfalso
        have q : b < Y.w0.heap.size := q
        rw [hw] at q
        omega
  · show (bif Nm.eqb n [2, 0] then v' else L n) = L n
    have hne : Nm.eqb n [2, 0] = false := by
      rw [eqb_false]
      intro e
      subst e
      cases hn
    rw [hne]; rfl
end AM
end Go.Proofs.YtelkmjkclmjggaaDoor
