/- Each operation that only computes, continued: arithmetic, comparisons, conversions, cuts, tuples. Under: the table of types tells the program's types. -/
import Derived.Test.YtpcdcnmmkfhliaaGreatDoorAMh
import Derived.Laws.BytesString
import Derived.Laws.Concat
namespace Go.Proofs.YtpcdcnmmkfhliaaGreatDoor
namespace AM
open Go
set_option linter.unusedSimpArgs false
set_option linter.unusedVariables false

section
variable {P : Program} {τ : Tab} {X : Ctx} {L : Nm → Value} {I : Nat → Prop} {s : St} {a : Act} {w : World}

theorem ibin_sound {op : BinOp} {k : IntKind} {x y : Int} {c : CV} (t : TypeId) (e : ibin op k x y = some (true, c)) :
    ∃ u, (binOp op t (.int k x) (.int k y)).run P w = .ok u w ∧ ∀ (A : Nm → Option (Nat × Nat)), RC L I w A c u := by
  cases op <;> simp only [ibin] at e
  case add => obtain ⟨_, rfl⟩ := Prod.mk.inj (Option.some.inj e); exact ⟨_, by simp [binOp, Op.intArith], fun _ => rfl⟩
  case sub => obtain ⟨_, rfl⟩ := Prod.mk.inj (Option.some.inj e); exact ⟨_, by simp [binOp, Op.intArith], fun _ => rfl⟩
  case mul => obtain ⟨_, rfl⟩ := Prod.mk.inj (Option.some.inj e); exact ⟨_, by simp [binOp, Op.intArith], fun _ => rfl⟩
  case quo =>
    obtain ⟨h, rfl⟩ := Prod.mk.inj (Option.some.inj e)
    have h : y ≠ 0 := by simpa using h
    exact ⟨_, by simp [binOp, Op.intDiv, h], fun _ => rfl⟩
  case rem =>
    obtain ⟨h, rfl⟩ := Prod.mk.inj (Option.some.inj e)
    have h : y ≠ 0 := by simpa using h
    exact ⟨_, by simp [binOp, Op.intDiv, h], fun _ => rfl⟩
  case and => obtain ⟨_, rfl⟩ := Prod.mk.inj (Option.some.inj e); exact ⟨_, by simp [binOp]; rfl, fun _ => rfl⟩
  case or => obtain ⟨_, rfl⟩ := Prod.mk.inj (Option.some.inj e); exact ⟨_, by simp [binOp]; rfl, fun _ => rfl⟩
  case xor => obtain ⟨_, rfl⟩ := Prod.mk.inj (Option.some.inj e); exact ⟨_, by simp [binOp]; rfl, fun _ => rfl⟩
  case andNot => obtain ⟨_, rfl⟩ := Prod.mk.inj (Option.some.inj e); exact ⟨_, by simp [binOp]; rfl, fun _ => rfl⟩
  case eql => obtain ⟨_, rfl⟩ := Prod.mk.inj (Option.some.inj e); exact ⟨_, by simp [binOp, Op.intCmp], fun _ => rfl⟩
  case neq => obtain ⟨_, rfl⟩ := Prod.mk.inj (Option.some.inj e); exact ⟨_, by simp [binOp, Op.intCmp], fun _ => rfl⟩
  case lss => obtain ⟨_, rfl⟩ := Prod.mk.inj (Option.some.inj e); exact ⟨_, by simp [binOp, Op.intCmp], fun _ => rfl⟩
  case leq => obtain ⟨_, rfl⟩ := Prod.mk.inj (Option.some.inj e); exact ⟨_, by simp [binOp, Op.intCmp], fun _ => rfl⟩
  case gtr => obtain ⟨_, rfl⟩ := Prod.mk.inj (Option.some.inj e); exact ⟨_, by simp [binOp, Op.intCmp], fun _ => rfl⟩
  case geq => obtain ⟨_, rfl⟩ := Prod.mk.inj (Option.some.inj e); exact ⟨_, by simp [binOp, Op.intCmp], fun _ => rfl⟩
  all_goals cases e

theorem toList_data (a : ByteArray) : a.toList = a.data.toList := ByteArray.toList_eq a

theorem strEq_toList (x y : ByteArray) : (x.toList == y.toList) = strEq x y := by
  unfold strEq
  by_cases h : x = y
  · subst h; simp
  · have : x.toList ≠ y.toList := fun e => h (by
      rw [toList_data, toList_data] at e
      cases x; cases y
      congr 1
      exact Array.ext' e)
    simp [h, this]

theorem sbin_sound {op : BinOp} {x y : ByteArray} {c : CV} (t : TypeId) (e : sbin op x y = some (true, c)) :
    ∃ u, (binOp op t (.string x) (.string y)).run P w = .ok u w ∧ ∀ (A : Nm → Option (Nat × Nat)), RC L I w A c u := by
  cases op <;> simp only [sbin] at e
  case add =>
    obtain ⟨h, rfl⟩ := Prod.mk.inj (Option.some.inj e)
    have h : x.size + y.size ≤ 4611686018427387904 := of_decide_eq_true h
    have h2 : ¬ (((x.size + y.size : Nat) : Int) > IntKind.i64.max) := by
      have : IntKind.i64.max = 9223372036854775807 := by decide
      rw [this]; omega
    exact ⟨_, by simp only [binOp, Op.stringOp, if_neg h2, Sem.run_pure], fun _ => rfl⟩
  case eql => obtain ⟨_, rfl⟩ := Prod.mk.inj (Option.some.inj e); exact ⟨.bool (strEq x y), by simp only [binOp, Op.stringOp, Sem.run_pure, strEq_toList], fun _ => rfl⟩
  case neq => obtain ⟨_, rfl⟩ := Prod.mk.inj (Option.some.inj e); exact ⟨.bool (!strEq x y), by simp only [binOp, Op.stringOp, Sem.run_pure, strEq_toList], fun _ => rfl⟩
  all_goals cases e

theorem run_equal_bool {t : TypeId} (ht : P.underlying t = some .bool) (x y : Bool) : (Op.equal t (.bool x) (.bool y)).run P w = .ok (x == y) w := by
  have : ∀ d, (Op.equalIn (d + 1) t (.bool x) (.bool y)).run P w = .ok (x == y) w := fun d => by
    simp only [Op.equalIn, Sem.run_bind, run_underlying ht, Result.andThen, Sem.run_pure]
  exact this 9999

theorem bbin_sound {op : BinOp} {x y : Bool} {c : CV} {t : TypeId} (ht : P.underlying t = some .bool) (e : bbin op x y = some (true, c)) :
    ∃ u, (binOp op t (.bool x) (.bool y)).run P w = .ok u w ∧ ∀ (A : Nm → Option (Nat × Nat)), RC L I w A c u := by
  cases op <;> simp only [bbin] at e
  case eql =>
    obtain ⟨_, rfl⟩ := Prod.mk.inj (Option.some.inj e)
    refine ⟨.bool (x == y), ?_, fun _ => rfl⟩
    simp only [binOp, Sem.run_bind, run_equal_bool ht, Result.andThen, Sem.run_pure]
  case neq =>
    obtain ⟨_, rfl⟩ := Prod.mk.inj (Option.some.inj e)
    refine ⟨.bool (x != y), ?_, fun _ => rfl⟩
    simp only [binOp, Sem.run_bind, run_equal_bool ht, Result.andThen, Sem.run_pure]
    rfl
  all_goals cases e

theorem as_int {A : Nm → Option (Nat × Nat)} {k : IntKind} {c : CV} {x : Int} (e : c.as (.int k) = some x) {u : Value} (r : RC L I w A c u) : u = .int k x :=
  List.head_eq_of_cons_eq (show [u] = [Value.int k x] from as_sound e r)
theorem as_bool {A : Nm → Option (Nat × Nat)} {c : CV} {x : Bool} (e : c.as .bool = some x) {u : Value} (r : RC L I w A c u) : u = .bool x :=
  List.head_eq_of_cons_eq (show [u] = [Value.bool x] from as_sound e r)
theorem as_str {A : Nm → Option (Nat × Nat)} {c : CV} {x : ByteArray} (e : c.as .str = some x) {u : Value} (r : RC L I w A c u) : u = .string x :=
  List.head_eq_of_cons_eq (show [u] = [Value.string x] from as_sound e r)

theorem eqCells_sound {A : Nm → Option (Nat × Nat)} : ∀ {ts : List Ty} {xs ys : List CV} {e : Bool} {us vs : List Value}, eqCells ts xs ys = some e → All2 (RC L I w A) xs us → All2 (RC L I w A) ys vs → eqVals ts us vs = some e
  | [], xs, ys, e, us, vs, h, r, q => by
    cases xs with
    | cons => cases ys <;> simp [eqCells] at h
    | nil =>
      cases ys with
      | cons => simp [eqCells] at h
      | nil =>
        cases us with
        | cons => exact r.elim
        | nil => cases vs with
          | cons => exact q.elim
          | nil => exact h
  | t :: ts, xs, ys, e, us, vs, h, r, q => by
    cases xs with
    | nil => cases t <;> cases ys <;> simp [eqCells] at h
    | cons x xs =>
      cases ys with
      | nil => cases t <;> simp [eqCells] at h
      | cons y ys =>
        cases us with
        | nil => exact r.elim
        | cons u us =>
          cases vs with
          | nil => exact q.elim
          | cons v vs =>
            cases t with
            | int k =>
              simp only [eqCells] at h
              split at h
              · rename_i b1 b2 b3 e1 e2 e3
                obtain rfl := Option.some.inj h
                rw [as_int e1 r.1, as_int e2 q.1]
                simp [eqVals, eqCells_sound e3 r.2 q.2]
              · cases h
            | bool =>
              simp only [eqCells] at h
              split at h
              · rename_i b1 b2 b3 e1 e2 e3
                obtain rfl := Option.some.inj h
                rw [as_bool e1 r.1, as_bool e2 q.1]
                simp [eqVals, eqCells_sound e3 r.2 q.2]
              · cases h
            | str =>
              simp only [eqCells] at h
              split at h
              · rename_i b1 b2 b3 e1 e2 e3
                obtain rfl := Option.some.inj h
                rw [as_str e1 r.1, as_str e2 q.1]
                simp [eqVals, eqCells_sound e3 r.2 q.2]
              · cases h
            | sl t => simp [eqCells] at h
            | pr p q => simp [eqCells] at h

theorem eqGuard_int {op : BinOp} {t : TypeId} {x y : Operand} (k : IntKind) (n : Int) (v : Value) : eqGuard op t x y (.int k n) v = pure () := by cases op <;> rfl

theorem bin_sound (hτ : TabOk P τ) {op : BinOp} {t : Nat} {p q : AV} {v : AV} {A : Nm → Option (Nat × Nat)} {u1 u2 : Value} (e : bin τ op t p q = some (true, v)) (r : RA L I w A p u1) (g : RA L I w A q u2) (x y : Operand) :
    ∃ u, (do eqGuard op t x y u1 u2; binOp op t u1 u2 : Sem Value).run P w = .ok u w ∧ RA L I w A v u := by
  unfold bin at e
  split at e
  · rename_i k n l m
    rw [isInt r, isInt g]
    rw [eqGuard_int]
    split at e
    · obtain ⟨h, rfl⟩ := Prod.mk.inj (Option.some.inj e)
      have h : ¬ @LT.lt Int _ m 0 := Int.not_lt.2 (of_decide_eq_true h)
      exact ⟨_, by simp [binOp, Op.shift, h, Result.andThen], rfl⟩
    · obtain ⟨h, rfl⟩ := Prod.mk.inj (Option.some.inj e)
      have h : ¬ @LT.lt Int _ m 0 := Int.not_lt.2 (of_decide_eq_true h)
      exact ⟨_, by simp [binOp, Op.shift, h, Result.andThen], rfl⟩
    · split at e
      · rename_i hk
        subst hk
        split at e
        · rename_i c r' e1
          obtain ⟨rfl, rfl⟩ := Prod.mk.inj (Option.some.inj e)
          obtain ⟨u, h1, h2⟩ := ibin_sound (P := P) (w := w) (L := L) (I := I) t e1
          exact ⟨u, by simp [h1, Result.andThen], h2 A⟩
        · cases e
      · cases e
  · rename_i n m
    rw [isStr r, isStr g]
    split at e
    · rename_i c r' e1
      obtain ⟨rfl, rfl⟩ := Prod.mk.inj (Option.some.inj e)
      obtain ⟨u, h1, h2⟩ := sbin_sound (P := P) (w := w) (L := L) (I := I) t e1
      have : eqGuard op t x y (.string n) (.string m) = pure () := by cases op <;> rfl
      exact ⟨u, by simp [this, h1, Result.andThen], h2 A⟩
    · cases e
  · rename_i n m
    rw [isBool r, isBool g]
    split at e
    · rename_i ti e0
      cases k : Nat.beq ti.kind 6 with
      | false => rw [k] at e; cases e
      | true =>
        rw [k] at e
        simp only [cond_true] at e
        split at e
        · rename_i c r' e1
          obtain ⟨rfl, rfl⟩ := Prod.mk.inj (Option.some.inj e)
          obtain ⟨u, h1, h2⟩ := bbin_sound (P := P) (w := w) (L := L) (I := I) ((hτ t ti e0).bool (Nat.eq_of_beq_eq_true k)) e1
          have : eqGuard op t x y (.bool n) (.bool m) = pure () := by cases op <;> rfl
          exact ⟨u, by simp [this, h1, Result.andThen], h2 A⟩
        · cases e
    · cases e
  · rename_i xs ys
    split at e
    · rename_i ti e0
      split at e
      · rename_i ts e1
        obtain ⟨us, rfl, r⟩ := r
        obtain ⟨vs, rfl, g⟩ := g
        split at e
        · rename_i b e2
          obtain ⟨_, rfl⟩ := Prod.mk.inj (Option.some.inj e)
          obtain ⟨h1, h2⟩ := (hτ t ti e0).eqs ts e1 w us vs b (eqCells_sound e2 r g)
          exact ⟨.bool b, by simp only [Sem.run_bind, h2, binOp, h1, Result.andThen, Sem.run_pure], rfl⟩
        · rename_i b e2
          obtain ⟨_, rfl⟩ := Prod.mk.inj (Option.some.inj e)
          obtain ⟨h1, h2⟩ := (hτ t ti e0).eqs ts e1 w us vs b (eqCells_sound e2 r g)
          exact ⟨.bool (!b), by simp only [Sem.run_bind, h2, binOp, h1, Result.andThen, Sem.run_pure], rfl⟩
        · cases e
      · cases e
    · cases e
  · cases e

theorem nilIs_sound {k : NilK} {p : AV} {b : Bool} {A : Nm → Option (Nat × Nat)} {u1 : Value} {y : Operand} {t : Nat} {ti : TI} (hk : nilOp y = some k) (hi : nilIs k p = some b) (ht : TIok P t ti) (hd : ti.kind = nilKind k) (r : RA L I w A p u1) :
    ∃ z, (∀ a : Act, a.eval y = z) ∧ (Op.equal t u1 z).run P w = .ok b w ∧ (∀ op x, (eqGuard op t x y u1 z).run P w = .ok () w) ∧
      (binOp .eql t u1 z).run P w = ((Op.equal t u1 z).run P w).andThen (fun b w' => .ok (.bool b) w') ∧
      (binOp .neq t u1 z).run P w = ((Op.equal t u1 z).run P w).andThen (fun b w' => .ok (.bool (!b)) w') := by
  unfold nilOp at hk
  split at hk
  · obtain rfl := Option.some.inj hk
    obtain ⟨ms, hms⟩ := ht.ifc hd
    refine ⟨.nilIface, fun _ => rfl, ?_⟩
    cases p with
    | g _ => cases hi
    | tup _ => cases hi
    | c x =>
    have nl : (Op.equal t .nilIface .nilIface).run P w = .ok true w := by
      show (Op.equalIn (9999 + 1) t _ _).run P w = _
      rw [Op.equalIn]; simp [run_underlying hms]
    cases x <;> try (cases hi; done)
    rotate_left
    · rename_i z
      cases z <;> try (cases hi; done)
      obtain rfl := Option.some.inj hi
      rw [show u1 = .nilIface from r]
      exact ⟨nl, fun op x => by cases op <;> simp [eqGuard], by simp [binOp], by simp [binOp]⟩
    rename_i e
    obtain rfl := Option.some.inj hi
    cases e with
    | true =>
      obtain ⟨tx, vx, rfl⟩ := r
      refine ⟨?_, fun op x => by cases op <;> simp [eqGuard], by simp [binOp], by simp [binOp]⟩
      show (Op.equalIn (9999 + 1) t _ _).run P w = _
      rw [Op.equalIn]; simp [run_underlying hms]
    | false =>
      rw [show u1 = .nilIface from r]
      refine ⟨?_, fun op x => by cases op <;> simp [eqGuard], by simp [binOp], by simp [binOp]⟩
      show (Op.equalIn (9999 + 1) t _ _).run P w = _
      rw [Op.equalIn]; simp [run_underlying hms]
  · obtain rfl := Option.some.inj hk
    obtain ⟨el, hel⟩ := ht.ptr hd
    refine ⟨.pointer none, fun _ => rfl, ?_⟩
    have go : ∀ q : Option Addr, q.isNone = b → (Op.equal t (.pointer q) (.pointer none)).run P w = .ok b w ∧ (∀ op x, (eqGuard op t x (.const (.pointer none)) (.pointer q) (.pointer none)).run P w = .ok () w) ∧
        (binOp .eql t (.pointer q) (.pointer none)).run P w = ((Op.equal t (.pointer q) (.pointer none)).run P w).andThen (fun b w' => .ok (.bool b) w') ∧
        (binOp .neq t (.pointer q) (.pointer none)).run P w = ((Op.equal t (.pointer q) (.pointer none)).run P w).andThen (fun b w' => .ok (.bool (!b)) w') := by
      intro q hq
      refine ⟨?_, fun op x => by cases op <;> simp [eqGuard], by simp [binOp], by simp [binOp]⟩
      show (Op.equalIn (9999 + 1) t _ _).run P w = _
      rw [Op.equalIn, ← hq]
      cases q <;> simp [run_underlying hel]
    cases p with
    | g _ => cases hi
    | tup _ => cases hi
    | c x =>
    cases x <;> try (cases hi; done)
    · obtain rfl := Option.some.inj hi
      obtain ⟨b, off, _, rfl⟩ := r
      exact go _ rfl
    · rename_i z
      cases z <;> try (cases hi; done)
      rename_i q
      cases q <;> try (cases hi; done)
      obtain rfl := Option.some.inj hi
      rw [show u1 = .pointer none from r]
      exact go _ rfl
  · cases hk

theorem nilBin_sound (hτ : TabOk P τ) {op : BinOp} {t : Nat} {k : NilK} {y : Operand} {p : AV} {v : AV} {A : Nm → Option (Nat × Nat)} {u1 : Value} (hk : nilOp y = some k) (e : nilBin τ op t k p = some (true, v)) (r : RA L I w A p u1) (x : Operand) (a : Act) :
    ∃ u, (do eqGuard op t x y u1 (a.eval y); binOp op t u1 (a.eval y)).run P w = .ok u w ∧ RA L I w A v u := by
  unfold nilBin at e
  split at e
  · cases e
  rename_i ti e1
  split at e
  · rename_i b e2
    cases q : Nat.beq ti.kind (nilKind k) with
    | false => rw [q] at e; cases e
    | true =>
      rw [q] at e
      simp only [cond_true] at e
      obtain ⟨z, h1, h2, h3, h4, h5⟩ := nilIs_sound (P := P) (w := w) hk e2 (hτ t ti e1) (Nat.eq_of_beq_eq_true q) r
      rw [h1 a]
      cases op <;> try (cases e; done)
      · obtain ⟨_, rfl⟩ := Prod.mk.inj (Option.some.inj e)
        exact ⟨.bool b, by simp only [Sem.run_bind, h3, h4, h2, Result.andThen], rfl⟩
      · obtain ⟨_, rfl⟩ := Prod.mk.inj (Option.some.inj e)
        exact ⟨.bool (!b), by simp only [Sem.run_bind, h3, h5, h2, Result.andThen], rfl⟩
  · cases e

theorem vop_bin (h : Rel X L I s a w) (hτ : TabOk P τ) {o : Oper} {op : BinOp} {t t' : Nat} {x y : Operand} (ho : o.op = .binOp op t x y t') {v : AV} (e : vop τ (.binOp op t x y t') s.ev s.o = some (true, v)) :
    ∃ u, Gives P w a.eval o u ∧ RA L I w (AL s.o) v u := by
  simp only [vop] at e
  split at e
  · rename_i k hk
    obtain ⟨u, h1, h2⟩ := nilBin_sound (P := P) hτ hk e (h.ev x) x a
    exact ⟨u, gives_v (e := do eqGuard op t x y (a.eval x) (a.eval y); binOp op t (a.eval x) (a.eval y)) (by simp [execOp, ho]) h1, h2⟩
  obtain ⟨u, h1, h2⟩ := bin_sound (P := P) hτ e (h.ev x) (h.ev y) x y
  exact ⟨u, gives_v (e := do eqGuard op t x y (a.eval x) (a.eval y); binOp op t (a.eval x) (a.eval y)) (by simp [execOp, ho]) h1, h2⟩

theorem vop_un (h : Rel X L I s a w) {o : Oper} {op : UnOp} {t : Nat} {x : Operand} (ho : o.op = .unOp op t x) {v : AV} (e : vop τ (.unOp op t x) s.ev s.o = some (true, v)) :
    ∃ u, Gives P w a.eval o u ∧ RA L I w (AL s.o) v u := by
  simp only [vop] at e
  have r := h.ev x
  split at e
  · rename_i b e1
    obtain ⟨_, rfl⟩ := Prod.mk.inj (Option.some.inj e)
    rw [e1] at r
    exact ⟨_, gives_v (e := Op.unary .not (a.eval x)) (by simp [execOp, ho]) (by rw [isBool r]; rfl), rfl⟩
  · rename_i k n e1
    obtain ⟨_, rfl⟩ := Prod.mk.inj (Option.some.inj e)
    rw [e1] at r
    exact ⟨_, gives_v (e := Op.unary .neg (a.eval x)) (by simp [execOp, ho]) (by rw [isInt r]; rfl), rfl⟩
  · cases e

theorem vop_extract (h : Rel X L I s a w) {o : Oper} {x : Operand} {i : Nat} (ho : o.op = .extract x i) {c : Bool} {v : AV} (e : vop τ (.extract x i) s.ev s.o = some (c, v)) :
    ∃ u, Gives P w a.eval o u ∧ RA L I w (AL s.o) v u := by
  simp only [vop] at e
  have r := h.ev x
  split at e
  · rename_i cs e1
    rw [e1] at r
    obtain ⟨us, e2, r⟩ := r
    split at e
    · rename_i p e3
      split at e
      · rename_i v' e4
        obtain ⟨_, rfl⟩ := Prod.mk.inj (Option.some.inj e)
        obtain ⟨u, e5, g⟩ := r.get e3
        refine ⟨u, gives_v (e := Instr.extract (a.eval x) i) (by simp [execOp, ho]) (by rw [e2]; simp [Instr.extract, e5]), ?_⟩
        obtain ⟨b, cs'⟩ := p
        cases b with
        | true => obtain rfl := Option.some.inj e4; exact g
        | false =>
          cases cs' with
          | nil => cases e4
          | cons d ds =>
            cases ds with
            | cons => cases e4
            | nil => obtain rfl := Option.some.inj e4; exact g.1
      · cases e
    · cases e
  · cases e

theorem vop_nilCheck (h : Rel X L I s a w) {o : Oper} {x : Operand} (ho : o.op = .nilCheck x) {c : Bool} {v : AV} (e : vop τ (.nilCheck x) s.ev s.o = some (c, v)) :
    ∃ u, Gives P w a.eval o u ∧ RA L I w (AL s.o) v u := by
  simp only [vop] at e
  have r := h.ev x
  split at e
  · rename_i n i e1
    obtain ⟨_, rfl⟩ := Prod.mk.inj (Option.some.inj e)
    rw [e1] at r
    refine ⟨a.eval x, ?_, r⟩
    obtain ⟨b, off, _, e2⟩ := r
    unfold Gives; simp [execOp, ho, e2]
  · rename_i n sz i j e1
    obtain ⟨_, rfl⟩ := Prod.mk.inj (Option.some.inj e)
    rw [e1] at r
    refine ⟨a.eval x, ?_, r⟩
    obtain ⟨b, len, cap, _, _, _, e2⟩ := r
    unfold Gives; simp [execOp, ho, e2]
  · rename_i t y j e1
    obtain ⟨_, rfl⟩ := Prod.mk.inj (Option.some.inj e)
    rw [e1] at r
    refine ⟨a.eval x, ?_, r⟩
    obtain ⟨b, off, cs, e2, _⟩ := r
    unfold Gives; simp [execOp, ho, e2]
  · cases e

end
end AM
end Go.Proofs.YtpcdcnmmkfhliaaGreatDoor
