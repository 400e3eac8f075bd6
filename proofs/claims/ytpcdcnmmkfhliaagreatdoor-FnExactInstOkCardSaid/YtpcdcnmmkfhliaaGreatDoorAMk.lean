/- Each operation that only computes: the last ones, and all together. Under: the table of types tells the program's types. -/
import Derived.Test.YtpcdcnmmkfhliaaGreatDoorAMkm
namespace Go.Proofs.YtpcdcnmmkfhliaaGreatDoor
namespace AM
open Go
set_option linter.unusedSimpArgs false
set_option linter.unusedVariables false

section
variable {P : Program} {τ : Tab} {X : Ctx} {L : Nm → Value} {I : Nat → Prop} {s : St} {a : Act} {w : World}

theorem gives_builtin {ρ : Operand → Value} {o : Oper} {b : Builtin} {xs : Array Operand} {ts : Array TypeId} (ho : o.op = .call { callee := .builtin b, args := xs, argTypes := ts }) {e : Sem Value} {u : Value}
    (hb : ∀ cs, builtin b ts o.type cs (xs.map ρ) = (do pure (.value (← e)))) (hs : e.run P w = .ok u w) : Gives P w ρ o u := by
  unfold Gives
  simp [execOp, ho, resolve, invoke, hb, hs, Result.andThen]

theorem map_one {xs : Array Operand} {f : Operand → AV} {v : AV} (h : xs.toList.map f = [v]) : ∃ x, xs = #[x] ∧ f x = v := by
  obtain ⟨l⟩ := xs
  cases l with
  | nil => cases h
  | cons x l =>
    cases l with
    | cons => cases h
    | nil => exact ⟨x, rfl, List.head_eq_of_cons_eq h⟩
theorem map_two {xs : Array Operand} {f : Operand → AV} {v u : AV} (h : xs.toList.map f = [v, u]) : ∃ x y, xs = #[x, y] ∧ f x = v ∧ f y = u := by
  obtain ⟨l⟩ := xs
  match l, h with
  | [x, y], h => exact ⟨x, y, rfl, List.head_eq_of_cons_eq h, List.head_eq_of_cons_eq (List.tail_eq_of_cons_eq h)⟩

theorem len_sound (h : Rel X L I s a w) {x : CV} {n : Int} {u : Value} {t : TypeId} {ty : TypeId} (e : lenOf s.o x = some n) (r : RC L I w (AL s.o) x u)
    (h5 : lenKind x = 5 → P.underlying t = some .string) (h3 : lenKind x = 3 → ∃ el, P.underlying t = some (.slice el)) : (Builtin.len_ #[t] ty #[u]).run P w = .ok (.int .i64 n) w := by
  have sl : ∀ (a : Option Addr) (m c : Nat), (∃ el, P.underlying t = some (.slice el)) → (Builtin.len_ #[t] ty #[.slice a m c]).run P w = .ok (.int .i64 m) w := by
    rintro a m c ⟨el, hu⟩
    simp [Builtin.len_, run_underlying hu, goInt]
  cases x with
  | v q y =>
    cases q with
    | str =>
      obtain rfl := Option.some.inj e
      obtain rfl := List.head_eq_of_cons_eq (show [u] = [Value.string y] from r)
      simp [Builtin.len_, run_underlying (h5 rfl), goInt]
    | sl q =>
      obtain rfl := Option.some.inj e
      obtain ⟨ad, c, css, e1, _⟩ := r
      obtain rfl := List.head_eq_of_cons_eq e1
      exact sl _ _ _ (h3 rfl)
    | _ => cases e
  | nil => obtain rfl := Option.some.inj e; rw [show u = _ from r]; exact sl _ 0 _ (h3 rfl)
  | hd k => obtain rfl := Option.some.inj e; obtain ⟨_, _, rfl⟩ := r; exact sl _ _ _ (h3 rfl)
  | own m =>
    simp only [lenOf] at e
    split at e
    · rename_i el q ys en
      obtain rfl := Option.some.inj e
      obtain ⟨vs, ⟨_, g⟩, _⟩ := h.obj m _ en
      obtain ⟨_, _, _, _, r⟩ := r
      rcases g with ⟨g1, g2⟩ | ⟨b, cap, cur, g1, _⟩
      · rw [← r, g1, g2]; exact sl _ 0 _ (h3 rfl)
      · rw [← r, g1]; exact sl _ _ _ (h3 rfl)
    · cases e
  | _ => cases e

theorem vop_builtin (h : Rel X L I s a w) (hτ : TabOk P τ) {o : Oper} {b : Builtin} {xs : Array Operand} {ts : Array TypeId} (ho : o.op = .call { callee := .builtin b, args := xs, argTypes := ts }) {v : AV}
    (e : vop τ (.call { callee := .builtin b, args := xs, argTypes := ts }) s.ev s.o = some (true, v)) : ∃ u, Gives P w a.eval o u ∧ RA L I w (AL s.o) v u := by
  simp only [vop] at e
  split at e
  · rename_i x e1
    obtain ⟨y, rfl, e2⟩ := map_one e1
    split at e
    · rename_i n t tr e3 e4
      split at e
      · rename_i ti e5
        cases k : (Nat.beq ti.kind (lenKind x) && !Nat.beq ti.kind 0) with
        | false => rw [k] at e; cases e
        | true =>
          rw [k] at e
          obtain ⟨_, rfl⟩ := Prod.mk.inj (Option.some.inj e)
          rw [Bool.and_eq_true] at k
          have k1 := Nat.eq_of_beq_eq_true k.1
          have r := h.ev y
          rw [e2] at r
          obtain ⟨l⟩ := ts
          obtain rfl : l = t :: tr := e4
          have e6 : ∀ ty, Builtin.len_ (List.toArray (t :: tr)) ty #[a.eval y] = Builtin.len_ #[t] ty #[a.eval y] := fun ty => by simp [Builtin.len_]
          refine ⟨.int .i64 n, gives_builtin ho (e := Builtin.len_ (List.toArray (t :: tr)) o.type #[a.eval y]) (fun cs => by simp [builtin]) ?_, rfl⟩
          rw [e6]
          exact len_sound h e3 r (fun q => (hτ t ti e5).str (k1.trans q)) (fun q => ⟨_, (hτ t ti e5).slice (k1.trans q)⟩)
      · cases e
    · cases e
  · rename_i k n l m e1
    obtain ⟨x, y, rfl, e2, e3⟩ := map_two e1
    split at e
    · rename_i hk
      subst hk
      obtain ⟨_, rfl⟩ := Prod.mk.inj (Option.some.inj e)
      have rx := h.ev x
      have ry := h.ev y
      rw [e2] at rx
      rw [e3] at ry
      refine ⟨.int k (mn n m), gives_builtin ho (e := Builtin.min_ ts o.type #[a.eval x, a.eval y]) (fun cs => by simp [builtin]) ?_, rfl⟩
      rw [isInt rx, isInt ry]
      simp [Builtin.min_, Builtin.min2, mn, Result.andThen]
    · cases e
  · rename_i k n l m e1
    obtain ⟨x, y, rfl, e2, e3⟩ := map_two e1
    split at e
    · rename_i hk
      subst hk
      obtain ⟨_, rfl⟩ := Prod.mk.inj (Option.some.inj e)
      have rx := h.ev x
      have ry := h.ev y
      rw [e2] at rx
      rw [e3] at ry
      refine ⟨.int k (mx n m), gives_builtin ho (e := Builtin.max_ ts o.type #[a.eval x, a.eval y]) (fun cs => by simp [builtin]) ?_, rfl⟩
      rw [isInt rx, isInt ry]
      simp [Builtin.max_, Builtin.max2, mx, Result.andThen]
    · cases e
  · cases e

/-! ### build -/
theorem foldl_set (new : List Value) (off : Nat) : ∀ (i : Nat) (cs : Array Value), off + i + new.length ≤ cs.size →
    ((new.zipIdx i).foldl (fun cs (c, j) => cs.setIfInBounds (off + j) c) cs).toList = cs.toList.take (off + i) ++ new ++ cs.toList.drop (off + i + new.length) := by
  induction new with
  | nil => intro i cs h; simp
  | cons x new ih =>
    intro i cs h
    rw [List.zipIdx_cons, List.foldl_cons]
    have h' : off + (i + 1) + new.length ≤ (cs.setIfInBounds (off + i) x).size := by simp at h ⊢; omega
    rw [ih (i + 1) _ h']
    have hlt : off + i < cs.toList.length := by simp at h ⊢; omega
    rw [Array.toList_setIfInBounds]
    have e1 : (cs.toList.set (off + i) x).take (off + (i + 1)) = cs.toList.take (off + i) ++ [x] := by
      rw [show off + (i + 1) = off + i + 1 by omega, List.take_succ_eq_append_getElem (by simpa using hlt)]
      simp [List.take_set_of_le]
    have e2 : (cs.toList.set (off + i) x).drop (off + (i + 1) + new.length) = cs.toList.drop (off + i + (x :: new).length) := by
      rw [List.drop_set_of_lt (by omega)]
      congr 1
      simp; omega
    rw [e1, e2]
    simp

theorem fill_sound {A : Nm → Option (Nat × Nat)} {pl : Nat → Option (Nat × Nat)} {f : Operand → AV} {g : Operand → Value} (hfg : ∀ x, RA L I w A (f x) (g x)) :
    ∀ (ps : List (Nat × Operand)) {cs : List CV} {vs : Array Value} {out : List CV}, fillC pl cs (ps.map fun p => (p.1, f p.2)) = some out → All2 (RC L I w A) cs vs.toList →
      ∃ us : Array Value, Instr.fill pl vs (ps.map fun p => (p.1, g p.2)) = some us ∧ All2 (RC L I w A) out us.toList
  | [], cs, vs, out, e, r => by obtain rfl := Option.some.inj e; exact ⟨vs, rfl, r⟩
  | (i, x) :: ps, cs, vs, out, e, r => by
    simp only [List.map_cons, fillC] at e
    split at e
    · rename_i off n new e1 e2
      cases k : (Nat.beq new.length n && Nat.ble (off + n) cs.length) with
      | false => rw [k] at e; cases e
      | true =>
        rw [k] at e
        simp only [cond_true] at e
        rw [Bool.and_eq_true] at k
        have k1 := Nat.eq_of_beq_eq_true k.1
        have k2 := Nat.le_of_ble_eq_true k.2
        have hc : All2 (RC L I w A) new (g x).cells.toList := by
          have r' := hfg x
          cases hf : f x with
          | c y =>
            rw [hf] at e2 r'
            obtain ⟨rfl, h2⟩ := single e2 r'
            rw [h2]; exact ⟨r', trivial⟩
          | g ys =>
            rw [hf] at e2 r'
            obtain rfl := Option.some.inj e2
            obtain ⟨us, h1, h2⟩ := r'
            rw [h1]; simpa [Value.cells] using h2
          | tup ys => rw [hf] at e2; cases e2
        have hl := hc.len
        have hl2 := r.len
        have hsz : (g x).cells.size = n := by rw [← k1, hl]; simp
        have hle : off + (g x).cells.size ≤ vs.size := by rw [hsz]; rw [hl2] at k2; simpa using k2
        have hfold := foldl_set (g x).cells.toList off 0 vs (by simpa using hle)
        obtain ⟨us, h3, h4⟩ := fill_sound hfg ps (vs := (g x).cells.zipIdx.foldl (fun cs (c, j) => cs.setIfInBounds (off + j) c) vs) e (by
          rw [← Array.foldl_toList, Array.toList_zipIdx]
          rw [hfold]
          unfold spl
          simp only [Nat.add_zero]
          rw [hl]
          exact ((r.take off).append hc).append (r.drop _))
        refine ⟨us, ?_, h4⟩
        simp only [List.map_cons, Instr.fill, e1]
        rw [if_neg (by rw [hsz]; simp; rw [← hsz]; exact hle)]
        exact h3
    · cases e

theorem run_mapM_list {α β : Type} (f : α → Sem β) (g : α → β) : ∀ (l : List α), (∀ x ∈ l, (f x).run P w = .ok (g x) w) → (l.mapM f).run P w = .ok (l.map g) w
  | [], _ => by simp
  | x :: l, h => by
    rw [List.mapM_cons]
    simp [h x (List.mem_cons_self ..), run_mapM_list f g l (fun y hy => h y (List.mem_cons_of_mem _ hy)), Result.andThen]

theorem run_mapM_array {α β : Type} (f : α → Sem β) (g : α → β) (xs : Array α) (h : ∀ x ∈ xs, (f x).run P w = .ok (g x) w) : (xs.mapM f).run P w = .ok (xs.map g) w := by
  rw [Array.mapM_eq_mapM_toList]
  simp only [Sem.run_map, run_mapM_list f g xs.toList (fun x hx => h x (by simpa using hx)), Result.andThen]
  congr 1
  apply Array.ext'
  simp

theorem TIok.zero {t : Nat} {ti : TI} (h : TIok P t ti) {ty : Ty} (e : ti.ty = some ty) : ∃ z, (∀ w, (zeroValue t).run P w = .ok z w) ∧ z.cells = (zvals ty).toArray ∧ ty.sz = ti.size := by
  obtain ⟨i, h1, h2, _, h3⟩ := h.info
  obtain ⟨h4, z, h5, h6⟩ := h3 ty e
  exact ⟨z, fun w => by simp [zeroValue, typeInfo, h1, h5], h6, h4⟩

theorem TIok.z0 {t : Nat} {ti : TI} (h : TIok P t ti) {cs : List CV} (e : ti.z0 = some cs) : ∃ z, (∀ w, (zeroValue t).run P w = .ok z w) ∧ ∀ L I w A, All2 (RC L I w A) cs z.cells.toList := by
  unfold TI.z0 at e
  split at e
  · rename_i ty e2
    obtain rfl := Option.some.inj e
    obtain ⟨z, h1, h2, _⟩ := h.zero e2
    exact ⟨z, h1, fun L I w A => by rw [h2]; simpa using zvals_cells ty⟩
  · split at e
    · rename_i zs e2
      obtain rfl := Option.some.inj e
      obtain ⟨i, z, h1, h2, h3⟩ := h.zz zs e2
      exact ⟨z, fun w => by simp [zeroValue, typeInfo, h1, h2], fun L I w A => by rw [h3]; simpa using zs_cells zs⟩
    · cases e

theorem vop_build (h : Rel X L I s a w) (hτ : TabOk P τ) {o : Oper} {t : Nat} {ps : Array (Nat × Operand)} (ho : o.op = .build t ps) {c : Bool} {v : AV} (e : vop τ (.build t ps) s.ev s.o = some (c, v)) :
    ∃ u, Gives P w a.eval o u ∧ RA L I w (AL s.o) v u := by
  simp only [vop] at e
  have hp : (ps.map fun p => (p.1, a.eval p.2)).toList = ps.toList.map fun p => (p.1, a.eval p.2) := by simp
  split at e
  · rename_i ti e1
    split at e
    · rename_i ty e2
      obtain ⟨z, hz, hz2⟩ := (hτ t ti e1).z0 e2
      have zc := hz2 L I w (AL s.o)
      cases k : Nat.beq ti.kind 2 with
      | true =>
        rw [k] at e
        simp only [cond_true] at e
        split at e
        · rename_i cs e3
          obtain ⟨_, rfl⟩ := Prod.mk.inj (Option.some.inj e)
          obtain ⟨fields, g1, g0, g2⟩ := (hτ t ti e1).struct (Nat.eq_of_beq_eq_true k)
          let pl : Array (Nat × Nat) := fields.map fun f => (f.offset, P.cellsOf f.type)
          have hsz : ∀ f ∈ fields, (sizeOf f.type).run P w = .ok (P.cellsOf f.type) w := by
            intro f hf
            obtain ⟨i, hi, rfl⟩ := Array.mem_iff_getElem.1 hf
            obtain ⟨fd, k1, _, _, k2, _⟩ := g2 i (ti.fs[i]'(by omega)) (by simp)
            have : fd = fields[i] := by rw [Array.getElem?_eq_getElem hi] at k1; exact (Option.some.inj k1).symm
            subst this
            have k2 := k2 w
            unfold Go.sizeOf typeInfo at k2 ⊢
            cases hinf : P.info? fields[i].type with
            | none => simp [hinf, Result.andThen, stuck] at k2
            | some inf => simp [hinf, Program.cellsOf]
          have hpl : (fields.mapM fun f => do pure (f.offset, ← sizeOf f.type) : Sem (Array (Nat × Nat))).run P w = .ok pl w :=
            run_mapM_array _ _ fields (fun f hf => by simp [hsz f hf, Result.andThen])
          have hfs : (fun i : Nat => pl[i]?) = fun i : Nat => (ti.fs[i]?).map fun (f : Nat × Nat × Bool) => (f.1, f.2.1) := by
            funext i
            by_cases q : i < ti.fs.length
            · obtain ⟨fd, k1, k2, _, k3, _⟩ := g2 i (ti.fs[i]) (by simp [q])
              have k4 := hsz fd (Array.mem_of_getElem? k1)
              rw [k3 w] at k4
              injection k4 with k4
              simp [pl, k1, q, k2, ← k4]
            · have q2 : ¬ i < fields.size := by omega
              simp [pl, q, q2]
          rw [← hfs] at e3
          obtain ⟨us, h3, h4⟩ := fill_sound h.ev ps.toList (vs := z.cells) e3 zc
          refine ⟨.agg us, gives_v (e := Instr.build t (ps.map fun p => (p.1, a.eval p.2))) (by simp [execOp, ho]) ?_, ⟨us.toList, by simp, h4⟩⟩
          simp only [Instr.build, Sem.run_bind, hz, run_underlying g1, Result.andThen, hpl, hp, h3, Sem.run_pure]
        · cases e
      | false =>
        rw [k] at e
        simp only [cond_false] at e
        cases k2 : Nat.beq ti.kind 4 with
        | false => rw [k2] at e; cases e
        | true =>
          rw [k2] at e
          simp only [cond_true] at e
          split at e
          · rename_i te e4
            split at e
            · rename_i cs e3
              obtain ⟨_, rfl⟩ := Prod.mk.inj (Option.some.inj e)
              obtain ⟨n, hu, _⟩ := (hτ t ti e1).array (Nat.eq_of_beq_eq_true k2)
              obtain ⟨us, h3, h4⟩ := fill_sound h.ev ps.toList (vs := z.cells) e3 zc
              refine ⟨.agg us, gives_v (e := Instr.build t (ps.map fun p => (p.1, a.eval p.2))) (by simp [execOp, ho]) ?_, ⟨us.toList, by simp, h4⟩⟩
              simp only [Instr.build, Sem.run_bind, hz, run_underlying hu, (hτ _ te e4).sizeOf, Result.andThen, hp, h3, Sem.run_pure]
            · cases e
          · cases e
    · cases e
  · cases e

theorem caps_sound (h : Rel X L I s a w) : ∀ {xs : List Operand} {cs : List (Nm × Nat)}, capsOf (xs.map s.ev) = some cs → Caps L cs (xs.map a.eval)
  | [], cs, e => by obtain rfl := Option.some.inj e; trivial
  | x :: xs, cs, e => by
    simp only [List.map_cons, capsOf] at e
    split at e
    · rename_i n i l e1 e2
      obtain rfl := Option.some.inj e
      have r := h.ev x
      rw [e1] at r
      exact ⟨r, caps_sound h e2⟩
    · cases e

theorem vop_makeFunc (h : Rel X L I s a w) {o : Oper} {f : FuncId} {xs ys : Array Operand} (ho : o.op = .makeFunc (.func f) xs ys) {c : Bool} {v : AV} (e : vop τ (.makeFunc (.func f) xs ys) s.ev s.o = some (c, v)) :
    ∃ u, Gives P w a.eval o u ∧ RA L I w (AL s.o) v u := by
  simp only [vop] at e
  split at e
  · rename_i cs e1 e2
    obtain ⟨_, rfl⟩ := Prod.mk.inj (Option.some.inj e)
    have hx : xs = #[] := Array.ext' e1
    subst hx
    refine ⟨.func (.func f) #[] (ys.toList.map a.eval).toArray, gives_v (e := Instr.makeFunc (.func f) (#[].map a.eval) (ys.map a.eval)) (by simp [execOp, ho]) (by rw [Instr.makeFunc, show ys.map a.eval = (ys.toList.map a.eval).toArray from Array.ext' (by simp)]; simp), _, rfl, caps_sound h e2⟩
  · cases e

/-- What only computes does in the model what it says. -/
theorem vop_sound (h : Rel X L I s a w) (hτ : TabOk P τ) {o : Oper} {v : AV} (e : vop τ o.op s.ev s.o = some (true, v)) : ∃ u, Gives P w a.eval o u ∧ RA L I w (AL s.o) v u := by
  cases ho : o.op with
  | move x => rw [ho] at e; obtain ⟨_, rfl⟩ := Prod.mk.inj (Option.some.inj (show some (true, s.ev x) = _ from e)); exact vop_move h (.inl ho)
  | assign x => rw [ho] at e; obtain ⟨_, rfl⟩ := Prod.mk.inj (Option.some.inj (show some (true, s.ev x) = _ from e)); exact vop_move h (.inr ho)
  | pick c x y => rw [ho] at e; exact vop_pick h ho e
  | build t ps => rw [ho] at e; exact vop_build h hτ ho e
  | load t x => rw [ho] at e; exact vop_load h hτ ho e
  | nilCheck x => rw [ho] at e; exact vop_nilCheck h ho e
  | binOp op t x y t' => rw [ho] at e; exact vop_bin h hτ ho e
  | unOp op t x => rw [ho] at e; exact vop_un h ho e
  | convert q d x => rw [ho] at e; exact vop_convert h hτ ho e
  | slice t x lo hi mx => rw [ho] at e; exact vop_slice h hτ ho e
  | fieldAddr t x f => rw [ho] at e; exact vop_fieldAddr h hτ ho e
  | field t x f => rw [ho] at e; exact vop_field h hτ ho e
  | indexAddr t x i => rw [ho] at e; exact vop_indexAddr h hτ ho e
  | index t x i => rw [ho] at e; exact vop_index h hτ ho e
  | extract x i => rw [ho] at e; exact vop_extract h ho e
  | lookup t m k ok => rw [ho] at e; exact vop_lookup h hτ ho e
  | makeFunc fn xs ys =>
    cases fn with
    | func f => rw [ho] at e; exact vop_makeFunc h ho e
    | _ => rw [ho] at e; simp [vop] at e
  | call c =>
    obtain ⟨cl, xs, ts⟩ := c
    cases cl with
    | builtin b => rw [ho] at e; exact vop_builtin h hτ ho e
    | _ => rw [ho] at e; simp [vop] at e
  | _ => rw [ho] at e; simp [vop] at e

end
end AM
end Go.Proofs.YtpcdcnmmkfhliaaGreatDoor
