/- Each operation that only computes gives in the model what the evaluator says. Under: the table of types tells the program's types. -/
import Derived.Test.YtpcdcnmmkfhliaaGreatDoorAMg
namespace Go.Proofs.YtpcdcnmmkfhliaaGreatDoor
namespace AM
open Go
set_option linter.unusedSimpArgs false
set_option linter.unusedVariables false

def eqVals : List Ty → List Value → List Value → Option Bool
  | [], [], [] => some true
  | .int k :: r, .int k1 a :: xs, .int k2 b :: ys => if k1 = k ∧ k2 = k then (match eqVals r xs ys with
    | some e => some (a == b && e)
    | none => none) else none
  | .bool :: r, .bool a :: xs, .bool b :: ys => match eqVals r xs ys with
    | some e => some (a == b && e)
    | none => none
  | .str :: r, .string a :: xs, .string b :: ys => match eqVals r xs ys with
    | some e => some (strEq a b && e)
    | none => none
  | _, _, _ => none

structure TIok (P : Program) (t : Nat) (ti : TI) : Prop where
  info : ∃ i, P.info? t = some i ∧ i.size = ti.size ∧ i.bytes = ti.bytes ∧ ∀ ty, ti.ty = some ty → ty.sz = ti.size ∧ ∃ z, i.zero = some z ∧ z.cells = (zvals ty).toArray
  zz : ∀ zs, ti.zs = some zs → ∃ i z, P.info? t = some i ∧ i.zero = some z ∧ z.cells = (zs.flatMap Z.vals).toArray
  agg : ∀ w, (isAgg t).run P w = .ok ti.agg w
  und : (P.underlying t).isSome = true
  int : ti.kind = 1 → P.underlying t = some (.int ti.ik)
  struct : ti.kind = 2 → ∃ fields : Array Field, P.underlying t = some (.struct fields) ∧ fields.size = ti.fs.length ∧ ∀ (f : Nat) (x : Nat × Nat × Bool), ti.fs[f]? = some x → ∃ fd : Field, fields[f]? = some fd ∧ fd.offset = x.1 ∧ x.2.1 ≠ 0 ∧
    (∀ w, (sizeOf fd.type).run P w = .ok x.2.1 w) ∧ (∀ w, (isAgg fd.type).run P w = .ok x.2.2 w)
  slice : ti.kind = 3 → P.underlying t = some (.slice ti.el)
  array : ti.kind = 4 → ∃ n, P.underlying t = some (.array n ti.el) ∧ ∀ i, P.info? ti.el = some i → ti.size = n * i.size
  str : ti.kind = 5 → P.underlying t = some .string
  bool : ti.kind = 6 → P.underlying t = some .bool
  ifc : ti.kind = 7 → ∃ ms, P.underlying t = some (.interface ms)
  ptr : ti.kind = 8 → ∃ e, P.underlying t = some (.pointer e)
  map : ti.kind = 9 → P.underlying t = some (.map ti.ky ti.el)
  z1 : ti.kind = 1 → ∃ i, P.info? t = some i ∧ i.zero = some (.int ti.ik 0)
  ck : ∀ ts, ti.eqs = some ts → ∀ e w xs ys b, eqVals ts xs ys = some b → (Instr.checkKey e 10000 t (.agg xs.toArray)).run P w = .ok () w
  eqs : ∀ ts, ti.eqs = some ts → ∀ w xs ys e, eqVals ts xs ys = some e → (Op.equal t (.agg xs.toArray) (.agg ys.toArray)).run P w = .ok e w ∧
    ∀ op x y, (eqGuard op t x y (.agg xs.toArray) (.agg ys.toArray)).run P w = .ok () w

def TabOk (P : Program) (τ : Tab) : Prop := ∀ t ti, τ.get t = some ti → TIok P t ti

section
variable {P : Program} {τ : Tab} {X : Ctx} {L : Nm → Value} {I : Nat → Prop} {s : St} {a : Act} {w : World}

/-- What the operation gives, in the model. -/
def Gives (P : Program) (w : World) (ρ : Operand → Value) (o : Oper) (u : Value) : Prop := (execOp ρ o).run P w = .ok (.value u) w

theorem TIok.sizeOf {t : Nat} {ti : TI} (h : TIok P t ti) (w : World) : (sizeOf t).run P w = .ok ti.size w := by
  obtain ⟨i, h1, h2, _⟩ := h.info
  simp [Go.sizeOf, typeInfo, h1, h2]

theorem single {A : Nm → Option (Nat × Nat)} {x : CV} {cs : List CV} (h : asCells (.c x) = some cs) {u : Value} (r : RC L I w A x u) : cs = [x] ∧ u.cells = #[u] := by
  cases x with
  | dead => cases h
  | raw y =>
    rw [show u = y from r]
    cases y <;> first | cases h; done | (obtain rfl := Option.some.inj h; exact ⟨rfl, rfl⟩)
  | v t x =>
    obtain rfl := Option.some.inj h
    refine ⟨rfl, ?_⟩
    cases t with
    | int k => obtain rfl := List.head_eq_of_cons_eq (show [u] = [Value.int k x] from r); rfl
    | bool => obtain rfl := List.head_eq_of_cons_eq (show [u] = [Value.bool x] from r); rfl
    | str => obtain rfl := List.head_eq_of_cons_eq (show [u] = [Value.string x] from r); rfl
    | sl t => obtain ⟨a, c, css, e, _⟩ := r; obtain rfl := List.head_eq_of_cons_eq e; rfl
    | pr p q => have := Rep.len _ (show Rep I w (.pr p q) x [u] from r); have := p.sz_pos; have := q.sz_pos; simp [Ty.sz] at *; omega
  | nil => obtain rfl := Option.some.inj h; rw [show u = _ from r]; exact ⟨rfl, rfl⟩
  | own n => obtain rfl := Option.some.inj h; obtain ⟨_, _, _, rfl, _⟩ := r; exact ⟨rfl, rfl⟩
  | pb n i => obtain rfl := Option.some.inj h; obtain ⟨b, off, _, rfl⟩ := r; exact ⟨rfl, rfl⟩
  | pa n sz i j => obtain rfl := Option.some.inj h; obtain ⟨b, len, cap, _, _, _, rfl⟩ := r; exact ⟨rfl, rfl⟩
  | pe t x j => obtain rfl := Option.some.inj h; obtain ⟨b, off, cs, rfl, _⟩ := r; exact ⟨rfl, rfl⟩
  | clo f cs => obtain rfl := Option.some.inj h; obtain ⟨us, rfl, _⟩ := r; exact ⟨rfl, rfl⟩
  | mp n => obtain rfl := Option.some.inj h; obtain ⟨_, rfl, _⟩ := r; exact ⟨rfl, rfl⟩
  | hd k => obtain rfl := Option.some.inj h; obtain ⟨_, _, rfl⟩ := r; exact ⟨rfl, rfl⟩
  | er e => cases e with
    | true => obtain rfl := Option.some.inj h; obtain ⟨_, _, rfl⟩ := r; exact ⟨rfl, rfl⟩
    | false => obtain rfl := Option.some.inj h; rw [show u = _ from r]; exact ⟨rfl, rfl⟩

theorem gives_v {ρ : Operand → Value} {o : Oper} {e : Sem Value} {u : Value} (he : execOp ρ o = (do pure (.value (← e)))) (hs : e.run P w = .ok u w) : Gives P w ρ o u := by
  unfold Gives; rw [he]; simp [hs, Result.andThen]

theorem ofCells_sound {A : Nm → Option (Nat × Nat)} {agg : Bool} {cs : List CV} {vs : List Value} {v : AV} (h : ofCells agg cs = some v) (r : All2 (RC L I w A) cs vs) :
    RA L I w A v (if agg then .agg vs.toArray else vs.headD undef) ∧ (agg = false → ∃ u, vs = [u]) := by
  cases agg with
  | true => obtain rfl := Option.some.inj h; exact ⟨⟨vs, rfl, r⟩, fun e => by cases e⟩
  | false =>
    cases cs with
    | nil => cases h
    | cons c cs =>
      cases cs with
      | cons => cases h
      | nil =>
        obtain rfl := Option.some.inj h
        cases vs with
        | nil => exact r.elim
        | cons u us =>
          cases us with
          | cons => exact r.2.elim
          | nil => exact ⟨r.1, fun _ => ⟨u, rfl⟩⟩

theorem part_sound {A : Nm → Option (Nat × Nat)} {agg : Bool} {cs : List CV} {vs : List Value} {v : AV} {off n : Nat} (h : part cs off n agg = some v) (r : All2 (RC L I w A) cs vs) :
    ((vs.drop off).take n).length = n ∧ RA L I w A v (if agg then .agg ((vs.drop off).take n).toArray else ((vs.drop off).take n).headD undef) ∧ (agg = false → ∃ u, (vs.drop off).take n = [u]) := by
  unfold part at h
  cases q : Nat.ble (off + n) cs.length with
  | false => rw [q] at h; cases h
  | true =>
    rw [q] at h
    have hl := Nat.le_of_ble_eq_true q
    have e := r.len
    exact ⟨by simp only [List.length_take, List.length_drop]; omega, ofCells_sound h ((r.drop off).take n)⟩

theorem Cells.part {b off : Nat} {vs : List Value} (h : Cells w b off vs) (i n : Nat) : Cells w b (off + i) ((vs.drop i).take n) := fun j u hu => by
  rw [List.getElem?_take] at hu
  split at hu
  · rw [List.getElem?_drop] at hu
    rw [Nat.add_assoc]
    exact h (i + j) u hu
  · cases hu

/-- A pointer that is loaded from: where it points, and the cells that lie there. -/
theorem loadCells_sound (h : Rel X L I s a w) {n : Nat} {agg : Bool} {p : CV} {v : AV} {u : Value} (e : loadCells s.o n agg p = some v) (r : RC L I w (AL s.o) p u) :
    ∃ b off vs, u = .pointer (some ⟨b, off, none⟩) ∧ vs.length = n ∧ Cells w b off vs ∧ RA L I w (AL s.o) v (if agg then .agg vs.toArray else vs.headD undef) ∧ (agg = false → ∃ u, vs = [u]) := by
  cases p with
  | pb nm off =>
    simp only [loadCells] at e
    split at e
    · rename_i cs en
      obtain ⟨b, o0, h1, rfl⟩ := r
      obtain ⟨b', o0', vs, g1, g2, g3⟩ := h.obj nm _ en
      rw [h1] at g1
      injection g1 with g1; injection g1 with g1; injection g1 with g1 g1' _
      subst g1; subst g1'
      have k := part_sound e g2
      exact ⟨b, o0 + off, (vs.drop off).take n, rfl, k.1, g3.cells.part off n, k.2⟩
    · cases e
  | pa nm sz i j =>
    simp only [loadCells] at e
    split at e
    · rename_i e' t xs en
      obtain ⟨b, len, cap, h1, h2, h3, rfl⟩ := r
      obtain ⟨vs, g1, g2⟩ := h.obj nm _ en
      have hA : (t.sz, xs.length) = (sz, len) := by
        have : AL s.o nm = some (t.sz, xs.length) := by unfold AL; rw [en]
        rw [this] at h2; exact Option.some.inj h2
      obtain ⟨rfl, rfl⟩ := Prod.mk.inj hA
      obtain ⟨cs, k1, k2⟩ := g2.get i h3
      have hc := g1.cells (g := b) (by rw [h1]; rfl)
      have hcs : Cells w b (i * t.sz) cs := fun q x hx => by
        have := hc (i * t.sz + q) x (k2 q x hx)
        rwa [Addr.add_lit, Nat.zero_add] at this
      have k := part_sound e (split_sound (L := L) (A := AL s.o) t k1)
      exact ⟨b, i * t.sz + j, (cs.drop j).take n, rfl, k.1, hcs.part j n, k.2⟩
    · cases e
  | pe t x j =>
    simp only [loadCells] at e
    obtain ⟨b, off, cs, rfl, _, h3, h4⟩ := r
    have k := part_sound e (split_sound (L := L) (A := AL s.o) t h3)
    exact ⟨b, off + j, (cs.drop j).take n, rfl, k.1, h4.part j n, k.2⟩
  | _ => cases e

theorem run_loadVar' {t : Nat} {ti : TI} (ht : TIok P t ti) {b off : Nat} {vs : List Value} (hl : vs.length = ti.size) (hc : Cells w b off vs) (h1 : ti.agg = false → ∃ u, vs = [u]) :
    (loadVar t ⟨b, off, none⟩).run P w = .ok (if ti.agg then .agg vs.toArray else vs.headD undef) w := by
  cases q : ti.agg with
  | true =>
    have := run_loadCells_list (P := P) w ⟨b, off, none⟩ vs (fun j v hv => by rw [Addr.add_lit]; exact hc j v hv)
    rw [hl] at this
    simp [loadVar, ht.agg, q, ht.sizeOf, this, Result.andThen]
  | false =>
    obtain ⟨u, rfl⟩ := h1 q
    have := hc 0 u rfl
    simp only [Nat.add_zero] at this
    simp [loadVar, ht.agg, q, run_load, this, Result.andThen]

theorem vop_load (h : Rel X L I s a w) (hτ : TabOk P τ) {o : Oper} {t : Nat} {x : Operand} (ho : o.op = .load t x) {c : Bool} {v : AV} (e : vop τ (.load t x) s.ev s.o = some (c, v)) :
    ∃ u, Gives P w a.eval o u ∧ RA L I w (AL s.o) v u := by
  simp only [vop] at e
  split at e
  · rename_i ti p e1 e2
    split at e
    · rename_i v' e3
      obtain ⟨rfl, rfl⟩ := Prod.mk.inj (Option.some.inj e)
      have r := h.ev x
      rw [e2] at r
      obtain ⟨b, off, vs, e4, hl, hc, hr, h1⟩ := loadCells_sound h e3 r
      refine ⟨_, gives_v (e := Instr.loadAt t (a.eval x)) (by simp [execOp, ho]) ?_, hr⟩
      rw [e4]
      have := run_loadVar' (P := P) (hτ t ti e1) hl hc h1
      simp [Instr.loadAt, Instr.sureAddr, this, Result.andThen]
    · cases e
  · cases e

theorem vop_move (h : Rel X L I s a w) {o : Oper} {x : Operand} (ho : o.op = .move x ∨ o.op = .assign x) :
    ∃ u, Gives P w a.eval o u ∧ RA L I w (AL s.o) (s.ev x) u := by
  refine ⟨a.eval x, ?_, h.ev x⟩
  unfold Gives
  rcases ho with ho | ho <;> simp [execOp, ho]

theorem pick_sound {A : Nm → Option (Nat × Nat)} {x : Bool} {p q : AV} {u v : Value} (r : RA L I w A p u) (g : RA L I w A q v) : RA L I w A (pickAV x p q) (if x then u else v) := by
  unfold pickAV
  split
  · rename_i y z
    have e1 : u = .bool y := List.head_eq_of_cons_eq (show [u] = [Value.bool y] from r)
    have e2 : v = .bool z := List.head_eq_of_cons_eq (show [v] = [Value.bool z] from g)
    subst e1; subst e2
    cases x <;> rfl
  · cases x
    · exact g
    · exact r

theorem isBool {A : Nm → Option (Nat × Nat)} {x : Bool} {u : Value} (r : RA L I w A (.c (.v .bool x)) u) : u = .bool x := List.head_eq_of_cons_eq (show [u] = [Value.bool x] from r)
theorem isInt {A : Nm → Option (Nat × Nat)} {k : IntKind} {x : Int} {u : Value} (r : RA L I w A (.c (.v (.int k) x)) u) : u = .int k x := List.head_eq_of_cons_eq (show [u] = [Value.int k x] from r)
theorem isStr {A : Nm → Option (Nat × Nat)} {x : ByteArray} {u : Value} (r : RA L I w A (.c (.v .str x)) u) : u = .string x := List.head_eq_of_cons_eq (show [u] = [Value.string x] from r)

theorem vop_pick (h : Rel X L I s a w) {o : Oper} {c x y : Operand} (ho : o.op = .pick c x y) {q : Bool} {v : AV} (e : vop τ (.pick c x y) s.ev s.o = some (q, v)) :
    ∃ u, Gives P w a.eval o u ∧ RA L I w (AL s.o) v u := by
  simp only [vop] at e
  split at e
  · rename_i b e1
    obtain ⟨rfl, rfl⟩ := Prod.mk.inj (Option.some.inj e)
    have r := h.ev c
    rw [e1] at r
    refine ⟨_, ?_, pick_sound (x := b) (h.ev x) (h.ev y)⟩
    unfold Gives
    simp [execOp, ho, isBool r, asBool, Result.andThen]
  · cases e

theorem place_sound {A : Nm → Option (Nat × Nat)} {i : Nat} {p q : CV} {u : Value} (e : place i p = some q) (r : RC L I w A p u) :
    ∃ b off, u = .pointer (some ⟨b, off, none⟩) ∧ RC L I w A q (.pointer (some ⟨b, off + i, none⟩)) := by
  cases p with
  | pb n off => obtain rfl := Option.some.inj e; obtain ⟨b, o0, h1, rfl⟩ := r; exact ⟨b, _, rfl, b, o0, h1, by rw [Nat.add_assoc]⟩
  | pa n sz k j => obtain rfl := Option.some.inj e; obtain ⟨b, len, cap, h1, h2, h3, rfl⟩ := r; exact ⟨b, _, rfl, b, len, cap, h1, h2, h3, by rw [Nat.add_assoc]⟩
  | pe t x j => obtain rfl := Option.some.inj e; obtain ⟨b, o0, cs, rfl, h1, h2⟩ := r; exact ⟨b, _, rfl, b, o0, cs, by rw [Nat.add_assoc], h1, h2⟩
  | _ => cases e

theorem vop_fieldAddr (h : Rel X L I s a w) (hτ : TabOk P τ) {o : Oper} {t f : Nat} {x : Operand} (ho : o.op = .fieldAddr t x f) {c : Bool} {v : AV} (e : vop τ (.fieldAddr t x f) s.ev s.o = some (c, v)) :
    ∃ u, Gives P w a.eval o u ∧ RA L I w (AL s.o) v u := by
  simp only [vop] at e
  split at e
  · rename_i ti p e1 e2
    cases k : Nat.beq ti.kind 2 with
    | false => rw [k] at e; cases e
    | true =>
      rw [k] at e
      simp only [cond_true] at e
      split at e
      · rename_i fd e3
        split at e
        · rename_i q e4
          obtain ⟨rfl, rfl⟩ := Prod.mk.inj (Option.some.inj e)
          have r := h.ev x
          rw [e2] at r
          obtain ⟨fields, g1, _, g2⟩ := (hτ t ti e1).struct (Nat.eq_of_beq_eq_true k)
          obtain ⟨fld, g3, g4, g5, g6, _⟩ := g2 f fd e3
          obtain ⟨b, off, e5, r'⟩ := place_sound e4 r
          refine ⟨_, gives_v (e := Instr.fieldAt t (a.eval x) f) (by simp [execOp, ho]) ?_, r'⟩
          rw [e5]
          simp [Instr.fieldAt, run_underlying g1, g3, Instr.sureAddr, fieldPlace, g6, g5, Result.andThen, Addr.add_lit, g4]
        · cases e
      · cases e
  · cases e

theorem run_part {t : Nat} {n off : Nat} {agg : Bool} {vs : List Value} (hs : (sizeOf t).run P w = .ok n w) (ha : (isAgg t).run P w = .ok agg w)
    (hl : ((vs.drop off).take n).length = n) (h1 : agg = false → ∃ u, (vs.drop off).take n = [u]) :
    (Go.part t vs.toArray off).run P w = .ok (if agg then .agg ((vs.drop off).take n).toArray else ((vs.drop off).take n).headD undef) w := by
  cases agg with
  | true =>
    simp only [Go.part, Sem.run_bind, ha, hs, Result.andThen, if_true, Sem.run_pure]
    congr 2
    apply Array.ext'
    simp [Array.toList_extract, List.extract_eq_drop_take']
  | false =>
    obtain ⟨u, e⟩ := h1 rfl
    have e0 : vs[off]? = some u := by
      have : ((vs.drop off).take n)[0]? = some u := by rw [e]; rfl
      rw [List.getElem?_take] at this
      split at this
      · simpa using this
      · cases this
    simp [Go.part, ha, Result.andThen, e0, e]

theorem vop_field (h : Rel X L I s a w) (hτ : TabOk P τ) {o : Oper} {t f : Nat} {x : Operand} (ho : o.op = .field t x f) {c : Bool} {v : AV} (e : vop τ (.field t x f) s.ev s.o = some (c, v)) :
    ∃ u, Gives P w a.eval o u ∧ RA L I w (AL s.o) v u := by
  simp only [vop] at e
  split at e
  · rename_i ti cs e1 e2
    cases k : Nat.beq ti.kind 2 with
    | false => rw [k] at e; cases e
    | true =>
      rw [k] at e
      simp only [cond_true] at e
      split at e
      · rename_i fd e3
        split at e
        · rename_i q e4
          obtain ⟨rfl, rfl⟩ := Prod.mk.inj (Option.some.inj e)
          have r := h.ev x
          rw [e2] at r
          obtain ⟨vs, e5, r⟩ := r
          obtain ⟨fields, g1, _, g2⟩ := (hτ t ti e1).struct (Nat.eq_of_beq_eq_true k)
          obtain ⟨fld, g3, g4, g5, g6, g7⟩ := g2 f fd e3
          obtain ⟨k1, k2, k3⟩ := part_sound e4 r
          have := run_part (P := P) (w := w) (g6 w) (g7 w) k1 k3
          refine ⟨_, gives_v (e := Instr.field t (a.eval x) f) (by simp [execOp, ho]) ?_, k2⟩
          rw [e5]
          rw [← g4] at this
          simp only [Instr.field, run_underlying g1, g3, asAgg, Sem.run_bind, Sem.run_pure, Result.andThen]
          rw [this, g4]
        · cases e
      · cases e
  · cases e

theorem inb_iff {i : Int} {n : Nat} : inb i n = true ↔ 0 ≤ i ∧ i < (n : Int) := by simp [inb]
theorem rng_iff {l h : Int} {n : Nat} : rng l h n = true ↔ 0 ≤ l ∧ l ≤ h ∧ h ≤ (n : Int) := by simp [rng]

theorem slice_get {t : Ty} {xs : List t.den} {u : Value} (r : Rep I w (.sl t) xs [u]) {i : Nat} (hi : i < xs.length) :
    ∃ b off c cs, u = .slice (some ⟨b, off, none⟩) xs.length c ∧ I b ∧ Rep I w t (xs.getD i t.zero) cs ∧ Cells w b (off + i * t.sz) cs := by
  obtain ⟨a, c, css, e, hc, h1, h2⟩ := r
  obtain rfl := List.head_eq_of_cons_eq e
  rcases h2 with rfl | ⟨b, off, rfl, hb, h2⟩
  · simp at hi
  · obtain ⟨cs, k1, k2⟩ := FRep.get (I := I) (w := w) ⟨css, h1, rfl⟩ i hi
    exact ⟨b, off, c, cs, rfl, hb, k1, fun j x hx => by rw [Nat.add_assoc]; exact h2 _ x (k2 j x hx)⟩

theorem vop_indexAddr (h : Rel X L I s a w) (hτ : TabOk P τ) {o : Oper} {t : Nat} {x i : Operand} (ho : o.op = .indexAddr t x i) {v : AV} (e : vop τ (.indexAddr t x i) s.ev s.o = some (true, v)) :
    ∃ u, Gives P w a.eval o u ∧ RA L I w (AL s.o) v u := by
  simp only [vop] at e
  split at e
  · rename_i ti p ik j e1 e2 e3
    cases k : Nat.beq ti.kind 3 with
    | false => rw [k] at e; cases e
    | true =>
      rw [k] at e
      simp only [cond_true] at e
      split at e
      · rename_i te e4
        have rx := h.ev x
        have ri := h.ev i
        rw [e2] at rx
        rw [e3] at ri
        have hu := (hτ t ti e1).slice (Nat.eq_of_beq_eq_true k)
        have hsz := fun w => (hτ _ te e4).sizeOf w
        refine (?_ : ∃ b off len cap n, a.eval x = .slice (some ⟨b, off, none⟩) len cap ∧ 0 ≤ j ∧ j < (len : Int) ∧ n = te.size ∧ RA L I w (AL s.o) v (.pointer (some ⟨b, off + j.toNat * n, none⟩))).elim ?_
        · cases p with
          | v q xs =>
            cases q with
            | sl q =>
              simp only [idxAddr] at e
              cases k2 : Nat.beq te.size q.sz with
              | false => rw [k2] at e; cases e
              | true =>
                rw [k2] at e
                obtain ⟨hin, rfl⟩ := Prod.mk.inj (Option.some.inj e)
                obtain ⟨h0, h1⟩ := inb_iff.1 hin
                obtain ⟨b, off, c, cs, g1, g2, g3, g4⟩ := slice_get (show Rep I w (.sl q) xs [a.eval x] from rx) (i := j.toNat) (by omega)
                exact ⟨b, off, _, c, q.sz, g1, h0, h1, (Nat.eq_of_beq_eq_true k2).symm, b, _, cs, rfl, g2, g3, g4⟩
            | _ => simp [idxAddr] at e
          | own nm =>
            simp only [idxAddr] at e
            split at e
            · rename_i e' q xs en
              cases k2 : Nat.beq te.size q.sz with
              | false => rw [k2] at e; cases e
              | true =>
                rw [k2] at e
                obtain ⟨hin, rfl⟩ := Prod.mk.inj (Option.some.inj e)
                obtain ⟨h0, h1⟩ := inb_iff.1 hin
                obtain ⟨vs, ⟨g1, g2⟩, g3⟩ := h.obj nm _ en
                obtain ⟨_, _, _, _, rx⟩ := rx
                rcases g2 with ⟨_, g2⟩ | ⟨b, cap, cur, g2, _⟩
                · omega
                · refine ⟨b, 0, _, cap, q.sz, rx ▸ g2, h0, h1, (Nat.eq_of_beq_eq_true k2).symm, b, _, cap, g2, ?_, by omega, by rw [Nat.zero_add, Nat.add_zero]⟩
                  unfold AL; rw [en]
            · cases e
          | _ => simp [idxAddr] at e
        · rintro b ⟨off, len, cap, n, g1, g2, g3, rfl, g4⟩
          refine ⟨_, gives_v (e := Instr.indexAt t (a.eval x) (a.eval i)) (by simp [execOp, ho]) ?_, g4⟩
          rw [g1, isInt ri]
          simp [Instr.indexAt, asIntOf, run_underlying hu, hsz, Result.andThen, g2, g3, Addr.add_lit]
      · cases e
  · cases e

theorem rowAs_sound {A : Nm → Option (Nat × Nat)} {t : Ty} : ∀ {n : Nat} {cs : List CV} {xs : List t.den} {vs : List Value}, rowAs t n cs = some xs → All2 (RC L I w A) cs vs → FRep I w t xs vs
  | 0, [], xs, vs, e, r => by
    obtain rfl := Option.some.inj e
    cases vs with
    | nil => exact FRep.nil
    | cons _ _ => exact r.elim
  | 0, _ :: _, _, _, e, _ => by cases e
  | n + 1, cs, xs, vs, e, r => by
    simp only [rowAs] at e
    split at e
    · rename_i x q e1
      split at e
      · rename_i ys e2
        obtain rfl := Option.some.inj e
        obtain ⟨va, vb, rfl, h1, h2⟩ := join_sound t e1 r
        exact FRep.cons h1 (rowAs_sound e2 h2)
      · cases e
    · cases e

theorem FRep.mid {t : Ty} : ∀ {xs : List t.den} {vs : List Value}, FRep I w t xs vs → ∀ (i : Nat), i < xs.length →
    ∃ A cs B, vs = A ++ cs ++ B ∧ A.length = i * t.sz ∧ Rep I w t (xs.getD i t.zero) cs
  | [], _, _, i, h => by simp at h
  | y :: xs, _, h, 0, _ => by
    obtain ⟨cs, us, rfl, h1, h2⟩ := h.un
    exact ⟨[], cs, us, rfl, by simp, h1⟩
  | y :: xs, _, h, i + 1, hi => by
    obtain ⟨cs, us, rfl, h1, h2⟩ := h.un
    obtain ⟨A, ds, B, rfl, g1, g2⟩ := FRep.mid h2 i (by simpa using hi)
    exact ⟨cs ++ A, ds, B, by simp, by rw [List.length_append, g1, Rep.len t h1, Nat.add_mul]; omega, by simpa using g2⟩

theorem vop_index (h : Rel X L I s a w) (hτ : TabOk P τ) {o : Oper} {t : Nat} {x i : Operand} (ho : o.op = .index t x i) {v : AV} (e : vop τ (.index t x i) s.ev s.o = some (true, v)) :
    ∃ u, Gives P w a.eval o u ∧ RA L I w (AL s.o) v u := by
  simp only [vop] at e
  split at e
  · rename_i ti y k j e1 e2 e3
    cases k : Nat.beq ti.kind 5 with
    | false => rw [k] at e; cases e
    | true =>
      rw [k] at e
      obtain ⟨hin, rfl⟩ := Prod.mk.inj (Option.some.inj e)
      obtain ⟨h0, h1⟩ := inb_iff.1 hin
      have rx := h.ev x
      have ri := h.ev i
      rw [e2] at rx
      rw [e3] at ri
      have hu := (hτ t ti e1).str (Nat.eq_of_beq_eq_true k)
      refine ⟨.int .u8 (bt y j), gives_v (e := Instr.index t (a.eval x) (a.eval i)) (by simp [execOp, ho]) ?_, rfl⟩
      rw [isStr rx, isInt ri]
      have hlt : j.toNat < ByteArray.size y := by omega
      have e4 : y[j.toNat]? = some (y[j.toNat]'hlt) := by simp [hlt]
      have e5 : bt y j = ((y[j.toNat]'hlt).toNat : Int) := by
        unfold bt
        have : y.data.toList.getD j.toNat 0 = y[j.toNat]'hlt := by
          rw [List.getD_eq_getElem?_getD, Array.getElem?_toList]
          rw [Array.getElem?_eq_getElem (by exact hlt)]
          rfl
        rw [this]
      simp [Instr.index, asIntOf, run_underlying hu, h0, e4, e5]
  · rename_i ti cs k j e1 e2 e3
    cases k : Nat.beq ti.kind 4 with
    | false => rw [k] at e; cases e
    | true =>
      rw [k] at e
      simp only [cond_true] at e
      split at e
      · rename_i te e4
        split at e
        · rename_i ty e5
          cases ka : te.agg with
          | true =>
            rw [ka] at e
            simp only [cond_true] at e
            split at e
            · rename_i xs e6
              cases k2 : Nat.beq (xs.length * te.size) ti.size with
              | false => rw [k2] at e; cases e
              | true =>
                rw [k2] at e
                simp only [cond_true] at e
                obtain ⟨hin, rfl⟩ := Prod.mk.inj (Option.some.inj e)
                obtain ⟨h0, h1⟩ := inb_iff.1 hin
                have k2 := Nat.eq_of_beq_eq_true k2
                have rx := h.ev x
                have ri := h.ev i
                rw [e2] at rx
                rw [e3] at ri
                obtain ⟨vs, e7, r⟩ := rx
                obtain ⟨n, hu, hn⟩ := (hτ t ti e1).array (Nat.eq_of_beq_eq_true k)
                obtain ⟨inf, i1, i2, i3, i4⟩ := (hτ _ te e4).info
                obtain ⟨hsz, _⟩ := i4 ty e5
                have hn' := hn inf i1
                rw [i2] at hn'
                have hpos := ty.sz_pos
                have hxn : xs.length = n := Nat.eq_of_mul_eq_mul_right (by omega : 0 < te.size) (k2.trans hn')
                have hf := rowAs_sound e6 r
                obtain ⟨A, cs', B, rfl, g1, g2⟩ := hf.mid j.toNat (by omega)
                have g3 := Rep.len ty g2
                refine ⟨.agg cs'.toArray, gives_v (e := Instr.index t (a.eval x) (a.eval i)) (by simp [execOp, ho]) ?_, cs', rfl, split_sound ty g2⟩
                rw [e7, isInt ri]
                have hlt : @LT.lt Int _ j (n : Int) := by omega
                have hex : (A ++ cs' ++ B).toArray.extract (j.toNat * te.size) (j.toNat * te.size + te.size) = cs'.toArray := by
                  rw [← hsz, ← g1, ← g3]
                  simp [List.extract_toArray, List.extract_eq_drop_take]
                have hpart : (Go.part ti.el (A ++ cs' ++ B).toArray (j.toNat * te.size)).run P w = .ok (.agg cs'.toArray) w := by
                  rw [← hex]
                  simp only [Go.part, Sem.run_bind, (hτ _ te e4).agg, ka, Result.andThen_ok, if_true, (hτ _ te e4).sizeOf, Sem.run_pure]
                  try rfl
                simp only [Instr.index, asIntOf, Sem.run_bind, run_underlying hu, Result.andThen_ok, Sem.run_pure, h0, hlt, true_and, and_self, if_true, (hτ _ te e4).sizeOf]
                exact hpart
            · cases e
          | false =>
          rw [ka] at e
          simp only [cond_false] at e
          rw [← ka] at e
          cases k2 : (Nat.beq te.size 1 && !te.agg && Nat.beq cs.length ti.size) with
          | false => rw [k2] at e; cases e
          | true =>
            rw [k2] at e
            simp only [cond_true] at e
            split at e
            · rename_i xs e6
              obtain ⟨hin, rfl⟩ := Prod.mk.inj (Option.some.inj e)
              obtain ⟨h0, h1⟩ := inb_iff.1 hin
              simp only [Bool.and_eq_true, Bool.not_eq_true'] at k2
              obtain ⟨⟨k3, k4⟩, k5⟩ := k2
              have k3 := Nat.eq_of_beq_eq_true k3
              have k5 := Nat.eq_of_beq_eq_true k5
              have rx := h.ev x
              have ri := h.ev i
              rw [e2] at rx
              rw [e3] at ri
              obtain ⟨vs, e7, r⟩ := rx
              obtain ⟨n, hu, hn⟩ := (hτ t ti e1).array (Nat.eq_of_beq_eq_true k)
              obtain ⟨inf, i1, i2, _⟩ := (hτ _ te e4).info
              have hn' := hn inf i1
              rw [i2, k3, Nat.mul_one] at hn'
              have key : ∀ {cs : List CV} {xs : List ty.den} {vs : List Value}, allAs ty cs = some xs → All2 (RC L I w (AL s.o)) cs vs → xs.length = vs.length ∧ ∀ q, q < xs.length → ∃ u, vs[q]? = some u ∧ Rep I w ty (xs.getD q ty.zero) [u] := by
                intro cs
                induction cs with
                | nil => intro xs vs e r; obtain rfl := Option.some.inj e; cases vs; exact ⟨rfl, fun q hq => by simp at hq⟩; exact r.elim
                | cons c cs ih =>
                  intro xs vs e r
                  simp only [allAs] at e
                  split at e
                  · rename_i z zs z1 z2
                    obtain rfl := Option.some.inj e
                    cases vs with
                    | nil => exact r.elim
                    | cons u us =>
                      obtain ⟨l1, l2⟩ := ih z2 r.2
                      refine ⟨by simp [l1], fun q hq => ?_⟩
                      cases q with
                      | zero => exact ⟨u, rfl, by simpa using as_sound z1 r.1⟩
                      | succ q => simpa using l2 q (by simpa using hq)
                  · cases e
              obtain ⟨l1, l2⟩ := key e6 r
              have lr := r.len
              obtain ⟨u, g1, g2⟩ := l2 j.toNat (by omega)
              refine ⟨u, gives_v (e := Instr.index t (a.eval x) (a.eval i)) (by simp [execOp, ho]) ?_, g2⟩
              rw [e7, isInt ri]
              have hlt : @LT.lt Int _ j (n : Int) := by omega
              simp [Instr.index, asIntOf, run_underlying hu, h0, hlt, (hτ _ te e4).sizeOf, k3, Result.andThen, Go.part, (hτ _ te e4).agg, k4, g1]
            · cases e
        · cases e
      · cases e
  · cases e

end
end AM
end Go.Proofs.YtpcdcnmmkfhliaaGreatDoor
