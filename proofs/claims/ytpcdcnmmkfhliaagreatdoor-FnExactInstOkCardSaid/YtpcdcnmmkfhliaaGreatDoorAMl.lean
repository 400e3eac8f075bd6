/- Operations that make an object. Under: the table of types tells the program's types. -/
import Derived.Test.YtpcdcnmmkfhliaaGreatDoorAMk
namespace Go.Proofs.YtpcdcnmmkfhliaaGreatDoor
namespace AM
open Go
set_option linter.unusedSimpArgs false
set_option linter.unusedVariables false

section
variable {P : Program} {τ : Tab} {X : Ctx} {L : Nm → Value} {I : Nat → Prop} {s : St} {a : Act} {w : World}

theorem split_ment : ∀ (t : Ty) (x : t.den) (m : Nm), ¬ CMent (split t x) m
  | .int _, _, _, ⟨c, hc, h⟩ => by cases List.mem_singleton.1 hc; exact h
  | .bool, _, _, ⟨c, hc, h⟩ => by cases List.mem_singleton.1 hc; exact h
  | .str, _, _, ⟨c, hc, h⟩ => by cases List.mem_singleton.1 hc; exact h
  | .sl _, _, _, ⟨c, hc, h⟩ => by cases List.mem_singleton.1 hc; exact h
  | .pr p q, x, m, ⟨c, hc, h⟩ => by
    rcases List.mem_append.1 hc with g | g
    · exact split_ment p x.1 m ⟨c, g, h⟩
    · exact split_ment q x.2 m ⟨c, g, h⟩

theorem zcells_ment : ∀ (t : Ty) (m : Nm), ¬ CMent (zcells t) m
  | .int _, _, ⟨c, hc, h⟩ => by cases List.mem_singleton.1 hc; exact h
  | .bool, _, ⟨c, hc, h⟩ => by cases List.mem_singleton.1 hc; exact h
  | .str, _, ⟨c, hc, h⟩ => by cases List.mem_singleton.1 hc; exact h
  | .sl _, _, ⟨c, hc, h⟩ => by cases List.mem_singleton.1 hc; exact h
  | .pr p q, m, ⟨c, hc, h⟩ => by
    rcases List.mem_append.1 hc with g | g
    · exact zcells_ment p m ⟨c, g, h⟩
    · exact zcells_ment q m ⟨c, g, h⟩

theorem z0_ment {ti : TI} {cs : List CV} (e : ti.z0 = some cs) (m : Nm) : ¬ CMent cs m := by
  unfold TI.z0 at e
  split at e
  · rename_i ty _
    obtain rfl := Option.some.inj e
    exact zcells_ment ty m
  · split at e
    · rename_i zs _
      obtain rfl := Option.some.inj e
      rintro ⟨c, hc, h⟩
      obtain ⟨z, _, hc⟩ := List.mem_flatMap.1 hc
      cases z with
      | t x => exact zcells_ment x m ⟨c, hc, h⟩
      | ptr => cases List.mem_singleton.1 hc; exact h
      | fn => cases List.mem_singleton.1 hc; exact h
      | ifc => cases List.mem_singleton.1 hc; exact h
    · cases e

theorem ofConst_ment (v : Value) (m : Nm) : ¬ AMent (ofConst v) m := by
  intro h
  unfold ofConst at h
  split at h
  · exact h
  · exact h
  · exact h
  · exact h
  · obtain ⟨c, hc, h⟩ := h
    obtain ⟨x, _, rfl⟩ := List.mem_map.1 hc
    split at h <;> exact h
  · exact h

theorem ev_drop_ment {s : St} {n m : Nm} {x : Operand} (h : AMent ((s.drop n).ev x) m) : m ≠ n := by
  cases x with
  | tmp t => exact drop_tment h
  | const v => exact absurd h (ofConst_ment v m)
  | global g => exact h.elim
  | func f => exact h.elim

theorem asCells_ment {v : AV} {cs : List CV} (e : asCells v = some cs) {m : Nm} (h : CMent cs m) : AMent v m := by
  cases v with
  | c x =>
    obtain ⟨c, hc, h⟩ := h
    have : cs = [x] := by
      cases x with
      | dead => cases e
      | raw y => cases y <;> first | cases e; done | exact (Option.some.inj e).symm
      | _ => exact (Option.some.inj e).symm
    subst this
    cases List.mem_singleton.1 hc
    exact h
  | g ds => obtain rfl := Option.some.inj e; exact h
  | tup => cases e

theorem asCells_sound {A : Nm → Option (Nat × Nat)} {v : AV} {cs : List CV} {u : Value} (e : asCells v = some cs) (r : RA L I w A v u) : All2 (RC L I w A) cs u.cells.toList := by
  cases v with
  | c x => obtain ⟨rfl, h2⟩ := single e r; rw [h2]; exact ⟨r, trivial⟩
  | g ys => obtain rfl := Option.some.inj e; obtain ⟨us, h1, h2⟩ := r; rw [h1]; simpa [Value.cells] using h2
  | tup => cases e

theorem heap_new (w : World) (o : Go.Obj) : (w.alloc o).heap[w.heap.size]? = some o := by
  show (w.heap.push o)[w.heap.size]? = _
  simp
theorem heap_new_size (w : World) (o : Go.Obj) : (w.alloc o).heap.size = w.heap.size + 1 := by
  show (w.heap.push o).size = _
  simp

/-- A new box. -/
theorem new_box (h : Rel X L I s a w) (n : Nm) {cs : List CV} {vs : Array Value} (T : Nat) (hm : ∀ m, CMent cs m → m ≠ n) (r : All2 (RC L I w (AL (s.drop n).o)) cs vs.toList) :
    Rel X (upd L n (.pointer (some ⟨w.heap.size, 0, none⟩))) I ((s.drop n).setO n (.box cs)) a (w.alloc (.cells vs T)) := by
  have hs : Step (fun _ _ => False) w (w.alloc (.cells vs T)) := Step.alloc _ w _
  refine h.new hs n _ _ ?_ ?_
  · refine ⟨w.heap.size, 0, vs.toList, upd_same L n _, ?_, vs, T, heap_new w _, by simp, fun j u hu => by simpa using hu⟩
    exact RCs.mono (fun _ q => q) (fun b hb => hs.same (h.imm b hb).1 (fun _ q => q)) (fun m hc => ⟨upd_ne L _ (hm m hc), AL_setO_ne _ _ (hm m hc)⟩) r
  · rintro b o ⟨off, e, _⟩
    rw [upd_same] at e
    injection e with e; injection e with e; injection e with e _ _
    rw [heap_new_size]
    omega

/-- A new array. -/
theorem new_arr (h : Rel X L I s a w) (n : Nm) {t : Ty} {xs : List t.den} {vs : Array Value} (T cap : Nat) (hcap : xs.length ≤ cap) (hm : cap ≤ maxLen) (hsz : vs.size = cap * t.sz)
    (r : FRep I w t xs (vs.toList.take (xs.length * t.sz))) :
    Rel X (upd L n (.slice (some ⟨w.heap.size, 0, none⟩) xs.length cap)) I ((s.drop n).setO n (.arr T t xs)) a (w.alloc (.cells vs T)) := by
  have hs : Step (fun _ _ => False) w (w.alloc (.cells vs T)) := Step.alloc _ w _
  refine h.new hs n _ _ ?_ ?_
  · refine ⟨vs.toList.take (xs.length * t.sz), ⟨?_, .inr ⟨w.heap.size, cap, vs, upd_same L n _, Nat.zero_le _, heap_new w _, hcap, hm, hsz, rfl⟩⟩, ?_⟩
    · rw [List.length_take, show vs.toList.length = cap * t.sz from by simpa using hsz]
      exact Nat.min_eq_left (Nat.mul_le_mul_right _ hcap)
    · exact r.mono (fun _ q => q) (fun b hb => hs.same (h.imm b hb).1 (fun _ q => q))
  · intro b o e
    have e' : (upd L n (.slice (some ⟨w.heap.size, 0, none⟩) xs.length cap) n).ownBlock = some b := e
    rw [upd_same] at e'
    have : w.heap.size = b := Option.some.inj e'
    rw [heap_new_size]
    omega

theorem rep_flat (l : List Value) (hl : 0 < l.length) : ∀ (n i : Nat), i < n * l.length → (List.replicate n l).flatten[i]? = l[i % l.length]?
  | 0, i, h => by simp at h
  | n + 1, i, h => by
    rw [List.replicate_succ, List.flatten_cons]
    by_cases q : i < l.length
    · rw [List.getElem?_append_left q, Nat.mod_eq_of_lt q]
    · rw [List.getElem?_append_right (by omega), rep_flat l hl n (i - l.length) (by rw [Nat.add_mul] at h; omega)]
      congr 1
      exact (Nat.mod_eq_sub_mod (by omega)).symm

theorem made_flat (l : List Value) (hl : 0 < l.length) (n : Nat) : ((Array.range (n * l.length)).map (l.toArray[· % l.toArray.size]!)).toList = (List.replicate n l).flatten := by
  apply List.ext_getElem?
  intro i
  by_cases q : i < n * l.length
  · rw [rep_flat l hl n i q]
    have hm := Nat.mod_lt i hl
    simp [q, hm]
  · have : ((List.replicate n l).flatten).length ≤ i := by simp; omega
    rw [List.getElem?_eq_none this]
    simp; omega

theorem rows_sound {f : Operand → AV} {g : Operand → Value} {A : Nm → Option (Nat × Nat)} (hfg : ∀ x, RA L I w A (f x) (g x)) {ty : Ty} :
    ∀ (ps : List (Nat × Operand)) {xs ys : List ty.den} {vs : Array Value}, rows ty xs (ps.map fun p => (p.1, f p.2)) = some ys → FRep I w ty xs vs.toList →
      ∃ us : Array Value, Instr.fill (fun i => some (i * ty.sz, ty.sz)) vs (ps.map fun p => (p.1, g p.2)) = some us ∧ FRep I w ty ys us.toList ∧ ys.length = xs.length
  | [], xs, ys, vs, e, r => by obtain rfl := Option.some.inj e; exact ⟨vs, rfl, r, rfl⟩
  | (i, x) :: ps, xs, ys, vs, e, r => by
    simp only [List.map_cons, rows] at e
    split at e
    · rename_i cs e1
      split at e
      · rename_i y e2
        cases k : Nat.blt i xs.length with
        | false => rw [k] at e; cases e
        | true =>
          rw [k] at e
          simp only [cond_true] at e
          have hi : i < xs.length := by simpa [Nat.blt_eq] using k
          have hc := asCells_sound e1 (hfg x)
          have hr := joinAll_sound e2 hc
          have hl := Rep.len ty hr
          have hlen := r.len
          have hle : i * ty.sz + (g x).cells.size ≤ vs.size := by
            have : (g x).cells.size = ty.sz := by simpa using hl
            have h2 : vs.size = xs.length * ty.sz := by simpa using hlen
            rw [this, h2]
            have := Nat.mul_le_mul_right ty.sz (show i + 1 ≤ xs.length from hi)
            rw [Nat.add_mul] at this
            omega
          have hfold := foldl_set (g x).cells.toList (i * ty.sz) 0 vs (by simpa using hle)
          obtain ⟨us, h3, h4, h5⟩ := rows_sound hfg ps (vs := (g x).cells.zipIdx.foldl (fun cs (c, j) => cs.setIfInBounds (i * ty.sz + j) c) vs) e (by
            rw [← Array.foldl_toList, Array.toList_zipIdx, hfold]
            simp only [Nat.add_zero]
            rw [hl]
            exact FRep.set hr r i hi)
          refine ⟨us, ?_, h4, by rw [h5, List.length_set]⟩
          simp only [List.map_cons, Instr.fill]
          rw [if_neg (by
            have : (g x).cells.size = ty.sz := by simpa using hl
            rw [this]; rw [this] at hle; simp; exact hle)]
          exact h3
      · cases e
    · cases e

theorem Rel.drop' (h : Rel X L I s a w) (n : Nm) : Rel X L I (s.drop n) a w := h.drop n fun _ _ => rfl

set_option maxHeartbeats 1000000 in
theorem mop_alloc (h : Rel X L I s a w) (hτ : TabOk P τ) {o : Oper} (t : Nat) (ho : o.op = .alloc t) {n : Nm} {ob : Ob} {v : AV} (e : mop τ o.op (s.drop n).ev n = some (true, ob, v)) :
    ∃ u w' u', (execOp a.eval o).run P w = .ok (.value u) w' ∧ Rel X (upd L n u') I ((s.drop n).setO n ob) a w' ∧ RA (upd L n u') I w' (AL ((s.drop n).setO n ob).o) v u := by
  have g := h.drop' n
  have newv : ∀ {q : Sem Value} {u : Value} {w' : World}, execOp a.eval o = (do pure (.value (← q))) → q.run P w = .ok u w' → (execOp a.eval o).run P w = .ok (.value u) w' := by
    intro q u w' h1 h2; rw [h1]; simp [h2, Result.andThen]
  rw [ho] at e
  simp only [mop] at e
  split at e
  · rename_i ti e1
    split at e
    · rename_i ty e2
      obtain ⟨_, e3⟩ := Prod.mk.inj (Option.some.inj e)
      obtain ⟨rfl, rfl⟩ := Prod.mk.inj e3
      obtain ⟨z, hz, hz2⟩ := (hτ t ti e1).z0 e2
      refine ⟨.pointer (some ⟨w.heap.size, 0, none⟩), w.alloc (.cells z.cells t), _, newv (q := Instr.alloc t true (.tuple #[])) (by simp [execOp, ho]) ?_, new_box h n t (fun m hm => absurd hm (z0_ment e2 m)) (vs := z.cells) (hz2 _ _ _ _), ?_⟩
      · simp [Instr.alloc, hz, newVar, newRow, Result.andThen]
      · exact ⟨w.heap.size, 0, upd_same _ _ _, rfl⟩
    · cases e
  · cases e

theorem mop_makeMap (h : Rel X L I s a w) (hτ : TabOk P τ) {o : Oper} (t : Nat) (r : Option Operand) (ho : o.op = .makeMap t r) {n : Nm} {ob : Ob} {v : AV} (e : mop τ o.op (s.drop n).ev n = some (true, ob, v)) :
    ∃ u w' u', (execOp a.eval o).run P w = .ok (.value u) w' ∧ Rel X (upd L n u') I ((s.drop n).setO n ob) a w' ∧ RA (upd L n u') I w' (AL ((s.drop n).setO n ob).o) v u := by
  rw [ho] at e
  cases r with
  | some _ => simp [mop] at e
  | none =>
  simp only [mop] at e
  split at e
  · rename_i ti e1
    split at e
    · rename_i tk te e2 e3
      split at e
      · rename_i kt e4
        cases q : (Nat.beq ti.kind 9 && (Nat.beq te.kind 1 && keyOk τ ti.ky kt tk.agg)) with
        | false => rw [q] at e; cases e
        | true =>
          rw [q] at e
          obtain ⟨_, e5⟩ := Prod.mk.inj (Option.some.inj e)
          obtain ⟨rfl, rfl⟩ := Prod.mk.inj e5
          have hs : Step (fun _ _ => False) w (w.alloc (.map #[] 0)) := Step.alloc _ w _
          refine ⟨.map (some w.heap.size), w.alloc (.map #[] 0), .map (some w.heap.size), ?_, h.new hs n _ _ ⟨w.heap.size, #[], upd_same _ _ _, heap_new w _, trivial⟩ (fun b o q => ?_), w.heap.size, rfl, upd_same _ _ _⟩
          · simp [execOp, ho, Instr.makeMap, Result.andThen]
          · have q : upd L n (.map (some w.heap.size)) n = .map (some b) := q
            rw [upd_same] at q
            injection q with q; injection q with q
            rw [heap_new_size]
            omega
      · cases e
    · cases e
  · cases e

set_option maxHeartbeats 1000000 in
theorem mop_box (h : Rel X L I s a w) (hτ : TabOk P τ) {o : Oper} (t : Nat) (x : Operand) (ho : o.op = .box t x) {n : Nm} {ob : Ob} {v : AV} (e : mop τ o.op (s.drop n).ev n = some (true, ob, v)) :
    ∃ u w' u', (execOp a.eval o).run P w = .ok (.value u) w' ∧ Rel X (upd L n u') I ((s.drop n).setO n ob) a w' ∧ RA (upd L n u') I w' (AL ((s.drop n).setO n ob).o) v u := by
  have g := h.drop' n
  have newv : ∀ {q : Sem Value} {u : Value} {w' : World}, execOp a.eval o = (do pure (.value (← q))) → q.run P w = .ok u w' → (execOp a.eval o).run P w = .ok (.value u) w' := by
    intro q u w' h1 h2; rw [h1]; simp [h2, Result.andThen]
  rw [ho] at e
  simp only [mop] at e
  split at e
  · rename_i ti cs e1 e2
    obtain ⟨_, e3⟩ := Prod.mk.inj (Option.some.inj e)
    obtain ⟨rfl, rfl⟩ := Prod.mk.inj e3
    have r := g.ev x
    refine ⟨.pointer (some ⟨w.heap.size, 0, none⟩), w.alloc (.cells (a.eval x).cells t), _, newv (q := Instr.box t (a.eval x)) (by simp [execOp, ho]) ?_, new_box h n t (fun m hm => ev_drop_ment (asCells_ment e2 hm)) (vs := (a.eval x).cells) (asCells_sound e2 r), ?_⟩
    · simp [Instr.box, newVar, newRow, Result.andThen]
    · exact ⟨w.heap.size, 0, upd_same _ _ _, rfl⟩
  · cases e

set_option maxHeartbeats 1000000 in
theorem mop_buildSlice (h : Rel X L I s a w) (hτ : TabOk P τ) {o : Oper} (t len : Nat) (ps : Array (Nat × Operand)) (ho : o.op = .buildSlice t len ps) {n : Nm} {ob : Ob} {v : AV} (e : mop τ o.op (s.drop n).ev n = some (true, ob, v)) :
    ∃ u w' u', (execOp a.eval o).run P w = .ok (.value u) w' ∧ Rel X (upd L n u') I ((s.drop n).setO n ob) a w' ∧ RA (upd L n u') I w' (AL ((s.drop n).setO n ob).o) v u := by
  have g := h.drop' n
  have newv : ∀ {q : Sem Value} {u : Value} {w' : World}, execOp a.eval o = (do pure (.value (← q))) → q.run P w = .ok u w' → (execOp a.eval o).run P w = .ok (.value u) w' := by
    intro q u w' h1 h2; rw [h1]; simp [h2, Result.andThen]
  rw [ho] at e
  simp only [mop] at e
  split at e
  · rename_i ti e1
    cases k : Nat.beq ti.kind 3 with
    | false => rw [k] at e; cases e
    | true =>
      rw [k] at e
      simp only [cond_true] at e
      split at e
      · rename_i te e2
        split at e
        · rename_i ty e3
          cases k2 : Nat.ble (len * te.size) 65536 with
          | false => rw [k2] at e; cases e
          | true =>
            rw [k2] at e
            simp only [cond_true] at e
            split at e
            · rename_i xs e4
              obtain ⟨_, e5⟩ := Prod.mk.inj (Option.some.inj e)
              obtain ⟨rfl, rfl⟩ := Prod.mk.inj e5
              have hk := Nat.le_of_ble_eq_true k2
              obtain ⟨z, hz, hz2, hsz⟩ := (hτ _ te e2).zero e3
              have hu := (hτ t ti e1).slice (Nat.eq_of_beq_eq_true k)
              have hpos := ty.sz_pos
              have hzl : (zvals ty).length = ty.sz := Rep.len (I := I) (w := w) ty (zvals_rep ty)
              let cells : Array Value := (Array.range (len * te.size)).map (z.cells[· % z.cells.size]!)
              have hcells : cells.toList = (List.replicate len (zvals ty)).flatten := by
                have := made_flat (zvals ty) (by omega) len
                rw [hzl, hsz] at this
                show ((Array.range (len * te.size)).map (z.cells[· % z.cells.size]!)).toList = _
                rw [hz2]; exact this
              obtain ⟨us, h3, h4, h5⟩ := rows_sound (fun x => g.ev x) ps.toList (vs := cells) e4 (by rw [hcells]; exact FRep.replicate (zvals_rep ty) len)
              rw [List.length_replicate] at h5
              have hlu := h4.len
              have hp : (ps.map fun p => (p.1, a.eval p.2)).toList = ps.toList.map fun p => (p.1, a.eval p.2) := by simp
              have hrun : (Instr.buildSlice t len (ps.map fun p => (p.1, a.eval p.2))).run P w = .ok (.slice (some ⟨w.heap.size, 0, none⟩) len len) (w.alloc (.cells us ti.el)) := by
                have hno : ¬ (len * te.size > 2 ^ 24) := by omega
                simp only [Instr.buildSlice, Sem.run_bind, run_underlying hu, (hτ _ te e2).sizeOf, Result.andThen, if_neg hno, hp]
                by_cases q : len * te.size = 0
                · have hl0 : len = 0 := by
                    rcases Nat.mul_eq_zero.1 q with q | q
                    · exact q
                    · omega
                  have hc0 : cells = (Array.range (len * te.size)).map ((#[] : Array Value)[· % 0]!) := by
                    show (Array.range (len * te.size)).map _ = _
                    rw [q]; simp
                  rw [← hsz] at *
                  simp only [if_pos q, Sem.run_bind, Sem.run_pure, Result.andThen]
                  rw [hc0] at h3
                  simp only [Array.size_empty, h3]
                  simp [newRow, Result.andThen]
                · simp only [if_neg q, Sem.run_bind, hz, Sem.run_pure, Result.andThen]
                  have h3' := h3
                  rw [hsz] at h3'
                  rw [show ((Array.range (len * te.size)).map fun x => z.cells[x % z.cells.size]!) = cells from rfl, h3']
                  simp [newRow, Result.andThen]
              have R := new_arr h n (xs := xs) (vs := us) ti.el len (by omega) (by unfold maxLen; have := Nat.le_mul_of_pos_right len hpos; rw [hsz] at this; omega) (by rw [← h5]; simpa using hlu) (by rw [List.take_of_length_le (by rw [hlu]; exact Nat.le_refl _)]; exact h4)
              refine ⟨.slice (some ⟨w.heap.size, 0, none⟩) len len, w.alloc (.cells us ti.el), _, newv (q := Instr.buildSlice t len (ps.map fun p => (p.1, a.eval p.2))) (by simp [execOp, ho]) hrun, R, ?_⟩
              exact ⟨_, _, _, rfl, by rw [upd_same, h5]⟩
            · cases e
        · cases e
      · cases e
  · cases e

set_option maxHeartbeats 1000000 in
theorem mop_makeSlice (h : Rel X L I s a w) (hτ : TabOk P τ) {o : Oper} (t : Nat) (l c : Operand) (ho : o.op = .makeSlice t l c) {n : Nm} {ob : Ob} {v : AV} (e : mop τ o.op (s.drop n).ev n = some (true, ob, v)) :
    ∃ u w' u', (execOp a.eval o).run P w = .ok (.value u) w' ∧ Rel X (upd L n u') I ((s.drop n).setO n ob) a w' ∧ RA (upd L n u') I w' (AL ((s.drop n).setO n ob).o) v u := by
  have g := h.drop' n
  have newv : ∀ {q : Sem Value} {u : Value} {w' : World}, execOp a.eval o = (do pure (.value (← q))) → q.run P w = .ok u w' → (execOp a.eval o).run P w = .ok (.value u) w' := by
    intro q u w' h1 h2; rw [h1]; simp [h2, Result.andThen]
  rw [ho] at e
  simp only [mop] at e
  split at e
  · rename_i ti nl nc e1 e2 e3
    cases k : Nat.beq ti.kind 3 with
    | false => rw [k] at e; cases e
    | true =>
      rw [k] at e
      simp only [cond_true] at e
      split at e
      · rename_i te e4
        split at e
        · rename_i ty e5
          cases k2 : Nat.ble te.bytes 65536 with
          | false => rw [k2] at e; cases e
          | true =>
            rw [k2] at e
            obtain ⟨hc, e6⟩ := Prod.mk.inj (Option.some.inj e)
            obtain ⟨rfl, rfl⟩ := Prod.mk.inj e6
            obtain ⟨c0, c1, c2⟩ := of_decide_eq_true hc
            have c0 : @LE.le Int _ 0 nl := c0
            have c1 : @LE.le Int _ nl nc := c1
            have c2 : @LE.le Int _ nc 4294967296 := c2
            have hk := Nat.le_of_ble_eq_true k2
            obtain ⟨z, hz, hz2, hsz⟩ := (hτ _ te e4).zero e5
            obtain ⟨i, i1, i2, i3, i4⟩ := (hτ _ te e4).info
            obtain ⟨_, z', i5, i6⟩ := i4 ty e5
            have hu := (hτ t ti e1).slice (Nat.eq_of_beq_eq_true k)
            have hpos := ty.sz_pos
            have hzl : (zvals ty).length = ty.sz := Rep.len (I := I) (w := w) ty (zvals_rep ty)
            have rl := g.ev l
            have rc := g.ev c
            rw [e2] at rl
            rw [e3] at rc
            have hcn : ((Int.toNat nc : Nat) : Int) = nc := Int.toNat_of_nonneg (Int.le_trans c0 c1)
            have hln : ((Int.toNat nl : Nat) : Int) = nl := Int.toNat_of_nonneg c0
            have hcle : Int.toNat nc ≤ 4294967296 := by omega
            have hrun := run_make (P := P) w t ti.el i z' hu i1 i5 .i64 .i64 nl nc c0 c1 (by
              have : i.bytes * Int.toNat nc ≤ 65536 * 4294967296 := Nat.mul_le_mul (by omega) hcle
              have h2 : ((i.bytes * Int.toNat nc : Nat) : Int) ≤ 281474976710656 := by omega
              rw [Int.natCast_mul, hcn] at h2
              exact h2) (by omega)
            have hmade : madeCells z'.cells (Int.toNat nc * i.size) = (Array.range (Int.toNat nc * ty.sz)).map ((zvals ty).toArray[· % (zvals ty).toArray.size]!) := by
              rw [i6, i2, ← hsz]; rfl
            rw [hmade] at hrun
            have hflat := made_flat (zvals ty) (by omega) (Int.toNat nc)
            rw [hzl] at hflat
            have hlen : (List.replicate (Int.toNat nl) ty.zero).length = Int.toNat nl := List.length_replicate
            have R := new_arr h n (xs := List.replicate (Int.toNat nl) ty.zero) (vs := (Array.range (Int.toNat nc * ty.sz)).map ((zvals ty).toArray[· % (zvals ty).toArray.size]!)) ti.el (Int.toNat nc)
              (by rw [hlen]; omega) (by unfold maxLen; omega) (by simp) (by
                rw [hlen, hflat]
                have hf := FRep.replicate (I := I) (w := w) (zvals_rep ty) (Int.toNat nl)
                have hcut : (List.replicate (Int.toNat nc) (zvals ty)).flatten.take (Int.toNat nl * ty.sz) = (List.replicate (Int.toNat nl) (zvals ty)).flatten := by
                  obtain ⟨d, hd⟩ := Nat.le.dest (show Int.toNat nl ≤ Int.toNat nc by omega)
                  rw [← hd, ← List.replicate_append_replicate, List.flatten_append]
                  rw [List.take_left' (by simp [hzl])]
                rw [hcut]; exact hf)
            rw [hlen] at R
            refine ⟨.slice (some ⟨w.heap.size, 0, none⟩) (Int.toNat nl) (Int.toNat nc), _, _, newv (q := Instr.makeSlice t (a.eval l) (a.eval c)) (by simp [execOp, ho]) (by rw [isInt rl, isInt rc]; exact hrun), R, ?_⟩
            exact ⟨_, _, _, rfl, upd_same _ _ _⟩
        · cases e
      · cases e
  · cases e

theorem mop_sound (h : Rel X L I s a w) (hτ : TabOk P τ) {o : Oper} {n : Nm} {ob : Ob} {v : AV} (e : mop τ o.op (s.drop n).ev n = some (true, ob, v)) :
    ∃ u w' u', (execOp a.eval o).run P w = .ok (.value u) w' ∧ Rel X (upd L n u') I ((s.drop n).setO n ob) a w' ∧ RA (upd L n u') I w' (AL ((s.drop n).setO n ob).o) v u := by
  have g := h.drop' n
  have newv : ∀ {q : Sem Value} {u : Value} {w' : World}, execOp a.eval o = (do pure (.value (← q))) → q.run P w = .ok u w' → (execOp a.eval o).run P w = .ok (.value u) w' := by
    intro q u w' h1 h2; rw [h1]; simp [h2, Result.andThen]
  cases ho : o.op with
  | alloc t => exact mop_alloc h hτ t ho e
  | box t x => exact mop_box h hτ t x ho e
  | makeMap t r => exact mop_makeMap h hτ t r ho e
  | buildSlice t len ps => exact mop_buildSlice h hτ t len ps ho e
  | makeSlice t l c => exact mop_makeSlice h hτ t l c ho e
  | _ => rw [ho] at e; simp [mop] at e

end
end AM
end Go.Proofs.YtpcdcnmmkfhliaaGreatDoor
