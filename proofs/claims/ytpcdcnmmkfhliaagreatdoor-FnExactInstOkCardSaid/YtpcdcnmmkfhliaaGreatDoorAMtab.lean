/- A table of types, held against the program's types by one computation. No condition. -/
import Derived.Test.YtpcdcnmmkfhliaaGreatDoorAMz
import Derived.Laws.StructEq
namespace Go.Proofs.YtpcdcnmmkfhliaaGreatDoor
namespace AM
open Go
set_option linter.unusedSimpArgs false
set_option linter.unusedVariables false

def zvB : Ty → List Value → Option (List Value)
  | .int k, vs => match vs with
    | .int l n :: r => if l = k ∧ n = 0 then some r else none
    | _ => none
  | .bool, vs => match vs with
    | .bool false :: r => some r
    | _ => none
  | .str, vs => match vs with
    | .string s :: r => bif Nat.beq s.size 0 then some r else none
    | _ => none
  | .sl _, vs => match vs with
    | .slice none 0 0 :: r => some r
    | _ => none
  | .pr a b, vs => match zvB a vs with
    | some r => zvB b r
    | none => none

theorem zvB_sound : ∀ (t : Ty) {vs r : List Value}, zvB t vs = some r → vs = zvals t ++ r
  | .int k, vs, r, h => by
    simp only [zvB] at h
    split at h
    · split at h
      · rename_i e; obtain ⟨rfl, rfl⟩ := e; obtain rfl := Option.some.inj h; rfl
      · cases h
    · cases h
  | .bool, vs, r, h => by
    simp only [zvB] at h
    split at h
    · obtain rfl := Option.some.inj h; rfl
    · cases h
  | .str, vs, r, h => by
    simp only [zvB] at h
    split at h
    · rename_i s r'
      cases q : Nat.beq s.size 0 with
      | false => rw [q] at h; cases h
      | true =>
        rw [q] at h
        obtain rfl := Option.some.inj h
        have : s = ⟨#[]⟩ := by
          have := Nat.eq_of_beq_eq_true q
          obtain ⟨d⟩ := s
          obtain ⟨l⟩ := d
          cases l with
          | nil => rfl
          | cons x l => simp [ByteArray.size] at this
        rw [this]; rfl
    · cases h
  | .sl t, vs, r, h => by
    simp only [zvB] at h
    split at h
    · obtain rfl := Option.some.inj h; rfl
    · cases h
  | .pr a b, vs, r, h => by
    simp only [zvB] at h
    split at h
    · rename_i r1 h1
      rw [zvB_sound a h1, zvB_sound b h]
      simp [zvals]
    · cases h

def zsB : List Z → List Value → Bool
  | [], [] => true
  | .t x :: zs, vs => match zvB x vs with
    | some r => zsB zs r
    | none => false
  | .ptr :: zs, .pointer none :: vs => zsB zs vs
  | .fn :: zs, .nilFunc :: vs => zsB zs vs
  | .ifc :: zs, .nilIface :: vs => zsB zs vs
  | _, _ => false
theorem zsB_sound : ∀ {zs : List Z} {vs : List Value}, zsB zs vs = true → vs = zs.flatMap Z.vals
  | [], [], _ => rfl
  | [], _ :: _, h => by cases h
  | .t x :: zs, vs, h => by
    unfold zsB at h
    split at h
    · rename_i r e
      rw [zvB_sound x e, zsB_sound h]; rfl
    · cases h
  | .ptr :: zs, [], h => by cases h
  | .fn :: zs, [], h => by cases h
  | .ifc :: zs, [], h => by cases h
  | .ptr :: zs, v :: vs, h => by
    cases v <;> try (simp [zsB] at h; done)
    rename_i q
    cases q <;> first | (simp [zsB] at h; done) | (rw [zsB_sound (show zsB zs vs = true from h)]; rfl)
  | .fn :: zs, v :: vs, h => by
    cases v <;> first | (simp [zsB] at h; done) | (rw [zsB_sound (show zsB zs vs = true from h)]; rfl)
  | .ifc :: zs, v :: vs, h => by
    cases v <;> first | (simp [zsB] at h; done) | (rw [zsB_sound (show zsB zs vs = true from h)]; rfl)

def isAggD : TypeDesc → Bool
  | .struct _ => true
  | .array _ _ => true
  | _ => false
def aggB (P : Program) (t : TypeId) (b : Bool) : Bool := match P.underlying t with
  | some d => bif isAggD d then b else !b
  | none => false
theorem aggB_sound {P : Program} {t : TypeId} {b : Bool} (h : aggB P t b = true) (w : World) : (isAgg t).run P w = .ok b w := by
  unfold aggB at h
  split at h
  · rename_i d hd
    simp only [isAgg, Sem.run_bind, run_underlying hd, Result.andThen_ok]
    cases d <;> cases b <;> first | rfl | (cases h; done)
  · cases h

def fieldsB (P : Program) : List Field → List (Nat × Nat × Bool) → Bool
  | [], [] => true
  | f :: fs, x :: xs => Nat.beq f.offset x.1 && (Nat.blt 0 x.2.1 && ((match P.info? f.type with | some i => Nat.beq i.size x.2.1 | none => false) && (aggB P f.type x.2.2 && fieldsB P fs xs)))
  | _, _ => false

theorem fieldsB_sound {P : Program} : ∀ {fs : List Field} {xs : List (Nat × Nat × Bool)}, fieldsB P fs xs = true → fs.length = xs.length ∧ ∀ (i : Nat) (x : Nat × Nat × Bool), xs[i]? = some x → ∃ fd : Field, fs[i]? = some fd ∧ fd.offset = x.1 ∧ x.2.1 ≠ 0 ∧
    (∀ w, (sizeOf fd.type).run P w = .ok x.2.1 w) ∧ (∀ w, (isAgg fd.type).run P w = .ok x.2.2 w)
  | [], [], _ => ⟨rfl, fun _ _ h => by cases h⟩
  | [], _ :: _, h => by cases h
  | _ :: _, [], h => by cases h
  | f :: fs, x :: xs, h => by
    unfold fieldsB at h
    simp only [Bool.and_eq_true] at h
    obtain ⟨h1, h2, h3, h4, h5⟩ := h
    obtain ⟨g1, g2⟩ := fieldsB_sound h5
    refine ⟨by simp [g1], fun i y hy => ?_⟩
    cases i with
    | zero =>
      obtain rfl := Option.some.inj hy
      refine ⟨f, rfl, Nat.eq_of_beq_eq_true h1, by have := Nat.le_of_ble_eq_true h2; omega, fun w => ?_, aggB_sound h4⟩
      split at h3
      · rename_i i hi
        rw [← Nat.eq_of_beq_eq_true h3]
        simp [sizeOf, typeInfo, hi]
      · cases h3
    | succ i => exact g2 i y hy

/-- The fields of a struct that is compared: single cells, one behind the other. -/
def eqB (P : Program) : Nat → List Field → List Ty → Bool
  | _, [], [] => true
  | k, f :: fs, t :: ts => Nat.beq f.offset k && ((f.name != "_") && ((match P.info? f.type with | some i => Nat.beq i.size 1 | none => false) && (aggB P f.type false && ((match P.underlying f.type, t with
      | some (.int k1), .int k2 => decide (k1 = k2)
      | some .bool, .bool => true
      | some .string, .str => true
      | _, _ => false) && eqB P (k + 1) fs ts))))
  | _, _, _ => false

theorem run_part1 {P : Program} {w : World} {t : TypeId} {i : TypeInfo} (hi : P.info? t = some i) (hs : i.size = 1) (ha : aggB P t false = true) {xs : Array Value} {off : Nat} {v : Value} (hx : xs[off]? = some v) : (Go.part t xs off).run P w = .ok v w := by
  have h1 : ∀ w, (sizeOf t).run P w = .ok 1 w := fun w => by simp [sizeOf, typeInfo, hi, hs]
  have h2 := aggB_sound ha
  have hlt := (Array.getElem?_eq_some_iff.1 hx).1
  obtain ⟨hlt, hv⟩ := Array.getElem?_eq_some_iff.1 hx
  unfold Go.part
  simp [h1, h2, Result.andThen]
  simp [hx, hlt, hv]

theorem eqB_sound {P : Program} {d : Nat} {w : World} {xs ys : Array Value} : ∀ {k : Nat} {fs : List Field} {ts : List Ty} {us vs : List Value} {e : Bool}, eqB P k fs ts = true → eqVals ts us vs = some e → xs.toList.drop k = us → ys.toList.drop k = vs →
    (Op.eqFields (d + 1) xs ys fs).run P w = .ok e w
  | _, [], [], us, vs, e, _, he, _, _ => by
    cases us with
    | nil => cases vs with
      | nil => obtain rfl := Option.some.inj he; simp [Op.eqFields]
      | cons _ _ => cases he
    | cons _ _ => cases he
  | _, [], _ :: _, _, _, _, h, _, _, _ => by cases h
  | _, _ :: _, [], _, _, _, h, _, _, _ => by cases h
  | k, f :: fs, t :: ts, us, vs, e, h, he, hu, hv => by
    unfold eqB at h
    simp only [Bool.and_eq_true] at h
    obtain ⟨h1, h2, h3, h4, h5, h6⟩ := h
    have h1 := Nat.eq_of_beq_eq_true h1
    have hname : f.name ≠ "_" := by simpa using h2
    split at h3
    case h_2 => cases h3
    rename_i i hi
    have hs := Nat.eq_of_beq_eq_true h3
    have next : ∀ {zs : Array Value} {z : Value} {zl : List Value}, zs.toList.drop k = z :: zl → zs[f.offset]? = some z ∧ zs.toList.drop (k + 1) = zl := by
      intro zs z zl q
      have g := congrArg (fun l => l[0]?) q
      simp at g
      refine ⟨by rw [h1]; simpa using g, ?_⟩
      rw [← List.drop_drop, q]; rfl
    have fin : ∀ {u v : Value} {ul vl : List Value} {b e' : Bool}, us = u :: ul → vs = v :: vl → (Op.equalIn (d + 1) f.type u v).run P w = .ok b w → eqVals ts ul vl = some e' → e = (b && e') → (Op.eqFields (d + 1) xs ys (f :: fs)).run P w = .ok e w := by
      intro u v ul vl b e' eu ev hb hr hE
      obtain ⟨n1, n2⟩ := next (hu.trans eu)
      obtain ⟨n3, n4⟩ := next (hv.trans ev)
      have ih := eqB_sound (d := d) (w := w) h6 hr n2 n4
      have p1 := run_part1 (P := P) (w := w) hi hs h4 n1
      have p2 := run_part1 (P := P) (w := w) hi hs h4 n3
      unfold Op.eqFields
      rw [if_pos hname]
      simp only [Sem.run_bind, p1, Result.andThen_ok, p2, hb]
      cases b with
      | true => simp [ih, hE]
      | false => simp [hE]
    cases us with
    | nil => cases t <;> simp [eqVals] at he
    | cons u ul =>
      cases vs with
      | nil => cases t <;> cases u <;> simp [eqVals] at he
      | cons v vl =>
        cases t with
        | int q =>
          cases u <;> try (simp [eqVals] at he; done)
          cases v <;> try (simp [eqVals] at he; done)
          simp only [eqVals] at he
          split at he
          · rename_i hk
            obtain ⟨rfl, rfl⟩ := hk
            split at he
            · rename_i e' hr
              split at h5
              · exact fin rfl rfl (run_equalIn_int _ _ _ _ _ _ _ ‹_›) hr (Option.some.inj he).symm
              · rename_i q1; cases q1
              · rename_i q1; cases q1
              · cases h5
            · cases he
          · cases he
        | bool =>
          cases u <;> try (simp [eqVals] at he; done)
          cases v <;> try (simp [eqVals] at he; done)
          simp only [eqVals] at he
          split at he
          · rename_i e' hr
            split at h5
            · rename_i q1; cases q1
            · exact fin rfl rfl (run_equalIn_bool' _ _ _ _ _ ‹_›) hr (Option.some.inj he).symm
            · rename_i q1; cases q1
            · cases h5
          · cases he
        | str =>
          cases u <;> try (simp [eqVals] at he; done)
          cases v <;> try (simp [eqVals] at he; done)
          simp only [eqVals] at he
          split at he
          · rename_i e' hr
            split at h5
            · rename_i q1; cases q1
            · rename_i q1; cases q1
            · rename_i hu5 _
              have key : ∀ a b, (Op.equalIn (d + 1) f.type (.string a) (.string b)).run P w = .ok (strEq a b) w := fun a b => by rw [← strEq_toList]; exact run_equalIn_string w d f.type a b hu5
              exact fin rfl rfl (key _ _) hr (Option.some.inj he).symm
            · cases h5
          · cases he
        | sl _ => simp [eqVals] at he
        | pr _ _ => simp [eqVals] at he

def ckLoop (e : Bool) (d : Nat) (xs : Array Value) (fs : List Field) : Sem PUnit :=
  forIn (m := Sem) fs PUnit.unit (fun f _ => do
      if f.name ≠ "_" then do
        let __do_lift ← Go.part f.type xs f.offset
        Instr.checkKey e (d + 1) f.type __do_lift
        pure (ForInStep.yield PUnit.unit)
      else pure (ForInStep.yield PUnit.unit))
theorem ckF_sound {P : Program} {d : Nat} {e : Bool} {w : World} {xs : Array Value} : ∀ {k : Nat} {fs : List Field} {ts : List Ty} {us vs : List Value} {b : Bool}, eqB P k fs ts = true → eqVals ts us vs = some b → xs.toList.drop k = us →
    (ckLoop e d xs fs).run P w = .ok PUnit.unit w
  | _, [], _, _, _, _, _, _, _ => by simp [ckLoop]
  | _, _ :: _, [], _, _, _, h, _, _ => by cases h
  | k, f :: fs, t :: ts, us, vs, b, h, he, hu => by
    unfold eqB at h
    simp only [Bool.and_eq_true] at h
    obtain ⟨h1, h2, h3, h4, h5, h6⟩ := h
    have h1 := Nat.eq_of_beq_eq_true h1
    have hname : f.name ≠ "_" := by simpa using h2
    split at h3
    case h_2 => cases h3
    rename_i i hi
    have hs := Nat.eq_of_beq_eq_true h3
    have fin : ∀ {u : Value} {ul vl : List Value} {b' : Bool} {D : TypeDesc}, us = u :: ul → eqVals ts ul vl = some b' → P.underlying f.type = some D → (∀ w, (Instr.checkKey e (d + 1) f.type u).run P w = .ok () w) → (ckLoop e d xs (f :: fs)).run P w = .ok PUnit.unit w := by
      intro u ul vl b' D eu hr _ hck
      have hu' := hu.trans eu
      have g : xs[f.offset]? = some u ∧ xs.toList.drop (k + 1) = ul := by
        have g := congrArg (fun l => l[0]?) hu'
        simp at g
        refine ⟨by rw [h1]; simpa using g, ?_⟩
        rw [← List.drop_drop, hu']; rfl
      have ih := ckF_sound (d := d) (e := e) (w := w) h6 hr g.2
      have p1 := run_part1 (P := P) (w := w) hi hs h4 g.1
      unfold ckLoop at ih ⊢
      rw [List.forIn_cons]
      simp only [Sem.run_bind, if_pos hname, p1, Result.andThen_ok, hck, Sem.run_pure]
      exact ih
    cases us with
    | nil => cases t <;> simp [eqVals] at he
    | cons u ul =>
      cases vs with
      | nil => cases t <;> cases u <;> simp [eqVals] at he
      | cons v vl =>
        have ckp : ∀ {D : TypeDesc}, P.underlying f.type = some D → (D = .bool ∨ D = .string ∨ ∃ q, D = .int q) → ∀ w, (Instr.checkKey e (d + 1) f.type u).run P w = .ok () w := by
          intro D hD hc w
          rcases hc with rfl | rfl | ⟨q, rfl⟩ <;> simp [Instr.checkKey, run_underlying hD]
        cases t with
        | int q =>
          cases u <;> try (simp [eqVals] at he; done)
          cases v <;> try (simp [eqVals] at he; done)
          simp only [eqVals] at he
          split at he
          · split at he
            · rename_i e' hr
              split at h5
              · exact fin rfl hr ‹_› (ckp ‹_› (.inr (.inr ⟨_, rfl⟩)))
              · rename_i q1; cases q1
              · rename_i q1; cases q1
              · cases h5
            · cases he
          · cases he
        | bool =>
          cases u <;> try (simp [eqVals] at he; done)
          cases v <;> try (simp [eqVals] at he; done)
          simp only [eqVals] at he
          split at he
          · rename_i e' hr
            split at h5
            · rename_i q1; cases q1
            · exact fin rfl hr ‹_› (ckp ‹_› (.inl rfl))
            · rename_i q1; cases q1
            · cases h5
          · cases he
        | str =>
          cases u <;> try (simp [eqVals] at he; done)
          cases v <;> try (simp [eqVals] at he; done)
          simp only [eqVals] at he
          split at he
          · rename_i e' hr
            split at h5
            · rename_i q1; cases q1
            · rename_i q1; cases q1
            · exact fin rfl hr ‹_› (ckp ‹_› (.inr (.inl rfl)))
            · cases h5
          · cases he
        | sl _ => simp [eqVals] at he
        | pr _ _ => simp [eqVals] at he

def tiB (P : Program) (t : Nat) (ti : TI) : Bool :=
  (match P.info? t with
    | some i => Nat.beq i.size ti.size && (Nat.beq i.bytes ti.bytes && (match ti.ty with
      | some ty => Nat.beq ty.sz ti.size && (match i.zero with
        | some z => (match zvB ty z.cells.toList with | some [] => true | _ => false)
        | none => false)
      | none => true))
    | none => false) &&
  (aggB P t ti.agg &&
  ((match P.underlying t with
    | some (.int k) => !Nat.beq ti.kind 1 || decide (k = ti.ik)
    | _ => !Nat.beq ti.kind 1) &&
  ((match P.underlying t with
    | some (.struct fs) => !Nat.beq ti.kind 2 || fieldsB P fs.toList ti.fs
    | _ => !Nat.beq ti.kind 2) &&
  ((match P.underlying t with
    | some (.slice e) => !Nat.beq ti.kind 3 || Nat.beq e ti.el
    | _ => !Nat.beq ti.kind 3) &&
  ((match P.underlying t with
    | some (.array n e) => !Nat.beq ti.kind 4 || (Nat.beq e ti.el && (match P.info? e with | some i => Nat.beq ti.size (n * i.size) | none => true))
    | _ => !Nat.beq ti.kind 4) &&
  ((match P.underlying t with
    | some .string => true
    | _ => !Nat.beq ti.kind 5) &&
  ((match P.underlying t with
    | some .bool => true
    | _ => !Nat.beq ti.kind 6) &&
  ((match P.underlying t with
    | some (.interface _) => true
    | _ => !Nat.beq ti.kind 7) &&
  ((match P.underlying t with
    | some (.pointer _) => true
    | _ => !Nat.beq ti.kind 8) &&
  ((match P.underlying t with
    | some (.map ky e) => !Nat.beq ti.kind 9 || (Nat.beq ky ti.ky && Nat.beq e ti.el)
    | _ => !Nat.beq ti.kind 9) &&
  ((!Nat.beq ti.kind 1 || (match P.info? t with
      | some i => (match i.zero with
        | some (.int k n) => decide (k = ti.ik ∧ n = 0)
        | _ => false)
      | none => false)) &&
  ((match ti.zs with
    | none => true
    | some zs => (match P.info? t with
      | some i => (match i.zero with
        | some z => zsB zs z.cells.toList
        | none => false)
      | none => false)) &&
  (match ti.eqs with
    | none => true
    | some ts => !P.stoodInHeld t && (!P.eqGuardType P.depth t && (match P.underlying t with
      | some (.struct fs) => eqB P 0 fs.toList ts
      | _ => false)))))))))))))))

theorem tiB_sound {P : Program} {t : Nat} {ti : TI} (h : tiB P t ti = true) : TIok P t ti := by
  unfold tiB at h
  simp only [Bool.and_eq_true] at h
  obtain ⟨h1, h2, h3, h4, h5, h6, h7, h8, hi7, hi8, hi9, hz1, hzs, h9⟩ := h
  have nk : ∀ {k : Nat}, ti.kind = k → (!Nat.beq ti.kind k) = true → False := by
    intro k e q; rw [e] at q; simp [Nat.beq_refl] at q
  refine ⟨?_, fun zs e => ?_, aggB_sound h2, ?_, fun e => ?_, fun e => ?_, fun e => ?_, fun e => ?_, fun e => ?_, fun e => ?_, fun e => ?_, fun e => ?_, fun e => ?_, fun e => ?_, fun ts e em w xs ys b hb => ?_, fun ts e w xs ys b hb => ?_⟩
  · split at h1
    · rename_i i hi
      simp only [Bool.and_eq_true] at h1
      obtain ⟨g1, g2, g3⟩ := h1
      refine ⟨i, hi, Nat.eq_of_beq_eq_true g1, Nat.eq_of_beq_eq_true g2, fun ty hty => ?_⟩
      rw [hty] at g3
      dsimp only at g3
      rw [Bool.and_eq_true] at g3
      refine ⟨Nat.eq_of_beq_eq_true g3.1, ?_⟩
      have g4 := g3.2
      split at g4
      · rename_i z hz
        refine ⟨z, hz, ?_⟩
        split at g4
        · rename_i hzv
          have := zvB_sound ty hzv
          rw [List.append_nil] at this
          rw [← this]
        · cases g4
      · cases g4
    · cases h1
  · rw [e] at hzs
    dsimp only at hzs
    split at hzs
    · rename_i i hi
      split at hzs
      · rename_i z hz
        exact ⟨i, z, hi, hz, by rw [← zsB_sound hzs]⟩
      · cases hzs
    · cases hzs
  · unfold aggB at h2
    split at h2
    · rename_i d hd; rw [hd]; rfl
    · cases h2
  · split at h3
    · rename_i k hk
      rcases Bool.or_eq_true _ _ |>.mp h3 with q | q
      · exact (nk e q).elim
      · rw [hk, of_decide_eq_true q]
    · exact (nk e h3).elim
  · split at h4
    · rename_i fs hfs
      rcases Bool.or_eq_true _ _ |>.mp h4 with q | q
      · exact (nk e q).elim
      · obtain ⟨g1, g2⟩ := fieldsB_sound q
        refine ⟨fs, hfs, by simpa using g1, fun f x hx => ?_⟩
        obtain ⟨fd, k1, k2⟩ := g2 f x hx
        exact ⟨fd, by simpa using k1, k2⟩
    · exact (nk e h4).elim
  · split at h5
    · rename_i el hel
      rcases Bool.or_eq_true _ _ |>.mp h5 with q | q
      · exact (nk e q).elim
      · rw [hel, Nat.eq_of_beq_eq_true q]
    · exact (nk e h5).elim
  · split at h6
    · rename_i n el hel
      rcases Bool.or_eq_true _ _ |>.mp h6 with q | q
      · exact (nk e q).elim
      · rw [Bool.and_eq_true] at q
        have q1 := Nat.eq_of_beq_eq_true q.1
        refine ⟨n, by rw [hel, q1], fun i hi => ?_⟩
        have q2 := q.2
        rw [q1, hi] at q2
        exact Nat.eq_of_beq_eq_true q2
    · exact (nk e h6).elim
  · split at h7
    · assumption
    · exact (nk e h7).elim
  · split at h8
    · assumption
    · exact (nk e h8).elim
  · split at hi7
    · rename_i ms hms; exact ⟨ms, hms⟩
    · exact (nk e hi7).elim
  · split at hi8
    · rename_i ms hms; exact ⟨ms, hms⟩
    · exact (nk e hi8).elim
  · split at hi9
    · rename_i ky el hel
      rcases Bool.or_eq_true _ _ |>.mp hi9 with q | q
      · exact (nk e q).elim
      · rw [Bool.and_eq_true] at q
        rw [hel, Nat.eq_of_beq_eq_true q.1, Nat.eq_of_beq_eq_true q.2]
    · exact (nk e hi9).elim
  · rcases Bool.or_eq_true _ _ |>.mp hz1 with q | q
    · exact (nk e q).elim
    · split at q
      · rename_i i hi
        split at q
        · rename_i k n hz
          obtain ⟨rfl, rfl⟩ := of_decide_eq_true q
          exact ⟨i, hi, hz⟩
        · cases q
      · cases q
  · rw [e] at h9
    dsimp only at h9
    simp only [Bool.and_eq_true, Bool.not_eq_true'] at h9
    obtain ⟨g1, g2, g3⟩ := h9
    split at g3
    · rename_i fs hfs
      show (Instr.checkKey em (9999 + 1) t (.agg xs.toArray)).run P w = _
      unfold Instr.checkKey
      simp only [Sem.run_bind, run_underlying hfs, Result.andThen_ok]
      rw [← Array.forIn_toList]
      have hck := ckF_sound (d := 9998) (e := em) (w := w) (xs := xs.toArray) g3 hb (by simp)
      unfold ckLoop at hck
      rw [hck]; rfl
    · cases g3
  · rw [e] at h9
    dsimp only at h9
    simp only [Bool.and_eq_true, Bool.not_eq_true'] at h9
    obtain ⟨g1, g2, g3⟩ := h9
    split at g3
    · rename_i fs hfs
      have hfo : P.fieldsOf t = fs := by simp [Program.fieldsOf, hfs]
      refine ⟨?_, fun op x y => run_eqGuard_agg _ op t x y _ _ g2⟩
      show (Op.equalIn (9999 + 1) t (.agg xs.toArray) (.agg ys.toArray)).run P w = _
      rw [run_equalIn_struct w 9999 t _ _ (by rw [hfo]; exact hfs) g1, hfo]
      exact eqB_sound (d := 9998) g3 hb (by simp) (by simp)
    · cases g3

def tabB (P : Program) : Tab → Bool
  | [] => true
  | p :: r => tiB P p.1 p.2 && tabB P r
theorem tabB_sound {P : Program} : ∀ {τ : Tab}, tabB P τ = true → TabOk P τ
  | [], _, _, _, e => by cases e
  | p :: r, h, t, ti, e => by
    unfold tabB at h
    rw [Bool.and_eq_true] at h
    unfold Tab.get at e
    cases q : Nat.beq p.1 t with
    | true =>
      rw [q] at e
      have := Nat.eq_of_beq_eq_true q
      obtain rfl := Option.some.inj e
      rw [← this]; exact tiB_sound h.1
    | false => rw [q] at e; exact tabB_sound h.2 t ti e
end AM
end Go.Proofs.YtpcdcnmmkfhliaaGreatDoor
