/- Maps: what the model's operations on a map do to the list of its entries. Under: the table of types tells the program's types. -/
import Derived.Test.YtpcdcnmmkfhliaaGreatDoorAMj
import Derived.MapKept
namespace Go.Proofs.YtpcdcnmmkfhliaaGreatDoor
namespace AM
open Go
set_option linter.unusedSimpArgs false
set_option linter.unusedVariables false

section
variable {P : Program} {τ : Tab} {X : Ctx} {L : Nm → Value} {I : Nat → Prop} {s : St} {a : Act} {w : World}

theorem tyEqs_eq : ∀ {a b : List Ty}, tyEqs a b = true → a = b
  | [], [], _ => rfl
  | [], _ :: _, h => by cases h
  | _ :: _, [], h => by cases h
  | a :: r, b :: q, h => by
    unfold tyEqs at h
    rw [Bool.and_eq_true] at h
    obtain ⟨h1, h2⟩ := h
    split at h1
    · rename_i p _; rw [p.down, tyEqs_eq h2]
    · cases h1

theorem eqVals_append : ∀ {t1 : List Ty} {u1 v1 : List Value} {e1 : Bool} {t2 : List Ty} {u2 v2 : List Value} {e2 : Bool}, eqVals t1 u1 v1 = some e1 → eqVals t2 u2 v2 = some e2 → eqVals (t1 ++ t2) (u1 ++ u2) (v1 ++ v2) = some (e1 && e2)
  | [], u1, v1, e1, t2, u2, v2, e2, h, g => by
    cases u1 with
    | nil => cases v1 with
      | nil => obtain rfl := Option.some.inj h; simpa using g
      | cons _ _ => cases h
    | cons _ _ => cases h
  | t :: t1, u1, v1, e1, t2, u2, v2, e2, h, g => by
    cases u1 with
    | nil => cases t <;> simp [eqVals] at h
    | cons u ul =>
      cases v1 with
      | nil => cases t <;> cases u <;> simp [eqVals] at h
      | cons v vl =>
        cases t with
        | int q =>
          cases u <;> try (simp [eqVals] at h; done)
          cases v <;> try (simp [eqVals] at h; done)
          simp only [eqVals] at h
          split at h
          · rename_i hk
            split at h
            · rename_i e' hr
              obtain rfl := Option.some.inj h
              have ih := eqVals_append hr g
              simp only [List.cons_append, eqVals, if_pos hk, ih, Bool.and_assoc]
            · cases h
          · cases h
        | bool =>
          cases u <;> try (simp [eqVals] at h; done)
          cases v <;> try (simp [eqVals] at h; done)
          simp only [eqVals] at h
          split at h
          · rename_i e' hr
            obtain rfl := Option.some.inj h
            have ih := eqVals_append hr g
            simp only [List.cons_append, eqVals, ih, Bool.and_assoc]
          · cases h
        | str =>
          cases u <;> try (simp [eqVals] at h; done)
          cases v <;> try (simp [eqVals] at h; done)
          simp only [eqVals] at h
          split at h
          · rename_i e' hr
            obtain rfl := Option.some.inj h
            have ih := eqVals_append hr g
            simp only [List.cons_append, eqVals, ih, Bool.and_assoc]
          · cases h
        | sl _ => simp [eqVals] at h
        | pr _ _ => simp [eqVals] at h

theorem eqVals_kvals : ∀ (t : Ty), t.hasSl = false → ∀ x y : t.den, eqVals t.cellTys (kvals t x) (kvals t y) = some (t.eqv x y)
  | .int k, _, x, y => by simp [Ty.cellTys, kvals, eqVals, Ty.eqv]
  | .bool, _, x, y => by simp [Ty.cellTys, kvals, eqVals, Ty.eqv]
  | .str, _, x, y => by simp [Ty.cellTys, kvals, eqVals, Ty.eqv]
  | .sl _, h, _, _ => by cases h
  | .pr a b, h, x, y => by
    have h : (a.hasSl || b.hasSl) = false := h
    rw [Bool.or_eq_false_iff] at h
    exact eqVals_append (eqVals_kvals a h.1 x.1 y.1) (eqVals_kvals b h.2 x.2 y.2)

theorem eqv_eq : ∀ (t : Ty) {x y : t.den}, t.eqv x y = true → x = y
  | .int _, x, y, h => by simpa [Ty.eqv] using h
  | .bool, x, y, h => by simpa [Ty.eqv] using h
  | .str, x, y, h => of_decide_eq_true h
  | .sl _, _, _, h => by cases h
  | .pr a b, x, y, h => by
    unfold Ty.eqv at h
    rw [Bool.and_eq_true] at h
    exact Prod.ext (eqv_eq a h.1) (eqv_eq b h.2)

theorem rep_kvals : ∀ (t : Ty), t.hasSl = false → ∀ {x : t.den} {vs : List Value}, Rep I w t x vs → vs = kvals t x
  | .int _, _, _, _, r => r
  | .bool, _, _, _, r => r
  | .str, _, _, _, r => r
  | .sl _, h, _, _, _ => by cases h
  | .pr a b, h, x, vs, r => by
    have h : (a.hasSl || b.hasSl) = false := h
    rw [Bool.or_eq_false_iff] at h
    obtain ⟨va, vb, rfl, h1, h2⟩ := r
    rw [rep_kvals a h.1 h1, rep_kvals b h.2 h2]; rfl

/-- The key's type, as the program has it. -/
structure KeyFit (P : Program) (τ : Tab) (ky : Nat) (kt : Ty) (ka : Bool) : Prop where
  flat : kt.hasSl = false
  ok : ∃ tk, τ.get ky = some tk ∧ TIok P ky tk ∧ ((ka = true ∧ tk.eqs = some kt.cellTys) ∨ (ka = false ∧ ∃ k, kt = .int k ∧ tk.kind = 1 ∧ tk.ik = k))

theorem keyOk_fit (hτ : TabOk P τ) {ky : Nat} {kt : Ty} {ka : Bool} (h : keyOk τ ky kt ka = true) : KeyFit P τ ky kt ka := by
  unfold keyOk at h
  split at h
  · cases h
  · rename_i tk e
    split at h
    · rw [Bool.and_eq_true, Bool.not_eq_true'] at h
      refine ⟨h.1, tk, e, hτ ky tk e, .inl ⟨rfl, ?_⟩⟩
      have h2 := h.2
      split at h2
      · rename_i ts e2; rw [e2, tyEqs_eq h2]
      · cases h2
    · split at h
      · rename_i k
        rw [Bool.and_eq_true] at h
        exact ⟨rfl, tk, e, hτ ky tk e, .inr ⟨rfl, k, rfl, Nat.eq_of_beq_eq_true h.1, of_decide_eq_true h.2⟩⟩
      · cases h

theorem key_val {A : Nm → Option (Nat × Nat)} {ka : Bool} {kt : Ty} (hf : kt.hasSl = false) {p : AV} {x : kt.den} {u : Value} (e : mkey ka kt p = some x) (r : RA L I w A p u) : KVal ka kt x u := by
  unfold mkey at e
  split at e
  · cases ka with
    | true => cases e
    | false => exact (rep_kvals kt hf (as_sound e r)).symm
  · cases ka with
    | false => cases e
    | true =>
      obtain ⟨vs, rfl, r⟩ := r
      show Value.agg vs.toArray = _
      rw [rep_kvals kt hf (joinAll_sound e r)]
  · cases e

theorem checkKey_run {ky : Nat} {kt : Ty} {ka : Bool} (hk : KeyFit P τ ky kt ka) {x : kt.den} {u : Value} (hv : KVal ka kt x u) (e : Bool) : (Instr.checkKey e 10000 ky u).run P w = .ok () w := by
  obtain ⟨tk, h1, h2, h3⟩ := hk.ok
  rcases h3 with ⟨rfl, h3⟩ | ⟨rfl, k, rfl, h4, h5⟩
  · rw [show u = _ from hv]
    exact h2.ck _ h3 e w _ _ _ (eqVals_kvals kt hk.flat x x)
  · have hu := h2.int h4
    have hu2 : u = .int k x := (List.head_eq_of_cons_eq hv).symm
    subst hu2
    show (Instr.checkKey e (9999 + 1) ky (.int k x)).run P w = _
    rw [Instr.checkKey]
    simp only [Sem.run_bind, run_underlying hu, Result.andThen_ok, Sem.run_pure]

theorem equal_run {ky : Nat} {kt : Ty} (hk : KeyFit P τ ky kt true) (x y : kt.den) : (Op.equal ky (.agg (kvals kt x).toArray) (.agg (kvals kt y).toArray)).run P w = .ok (kt.eqv x y) w := by
  obtain ⟨tk, h1, h2, h3⟩ := hk.ok
  rcases h3 with ⟨_, h3⟩ | ⟨h, _⟩
  · exact (h2.eqs _ h3 w _ _ _ (eqVals_kvals kt hk.flat x y)).1
  · cases h

def foundV (vk : IntKind) : Option (Nat × Int) → Option (Nat × Value)
  | some p => some (p.1, .int vk p.2)
  | none => none

theorem asking_run {ky : Nat} {kt : Ty} {vk : IntKind} (hk : KeyFit P τ ky kt true) (x : kt.den) : ∀ {kvs : List (kt.den × Int)} {es : List MapEntry} {i j : Nat}, MRow kt (.int vk) true i kvs es →
    (Instr.findAsking ky (.agg (kvals kt x).toArray) es j).run P w = .ok (foundV vk (mfind kt x kvs j)) w
  | [], [], _, j, _ => by simp [Instr.findAsking, mfind, foundV]
  | [], _ :: _, _, _, h => h.elim
  | _ :: _, [], _, _, h => h.elim
  | kv :: kvs, e :: es, i, j, h => by
    obtain ⟨⟨h1, h2, _⟩, h4⟩ := h
    have ih := asking_run hk x (j := j + 1) h4
    have hv : e.val = .int vk kv.2 := (List.head_eq_of_cons_eq h2).symm
    unfold Instr.findAsking mfind
    rw [show e.key = .agg (kvals kt kv.1).toArray from h1]
    simp only [Sem.run_bind, equal_run hk, Result.andThen_ok]
    cases kt.eqv x kv.1 with
    | true => simp [foundV, hv]
    | false => simpa using ih

theorem now_run {k vk : IntKind} (x : Int) : ∀ {kvs : List (Int × Int)} {es : List MapEntry} {i j : Nat}, MRow (.int k) (.int vk) false i kvs es →
    Instr.findNow (.int k) (.int k x) es j = some (foundV vk (mfind (.int k) x kvs j))
  | [], [], _, j, _ => by simp [Instr.findNow, mfind, foundV]
  | [], _ :: _, _, _, h => h.elim
  | _ :: _, [], _, _, h => h.elim
  | kv :: kvs, e :: es, i, j, h => by
    obtain ⟨⟨h1, h2, _⟩, h4⟩ := h
    have ih := now_run x (j := j + 1) h4
    have hv : e.val = .int vk kv.2 := (List.head_eq_of_cons_eq h2).symm
    have hk : e.key = .int k kv.1 := (List.head_eq_of_cons_eq h1).symm
    unfold Instr.findNow mfind
    rw [hk]
    simp only [Instr.sameNow, if_true, Ty.eqv]
    cases q : (x == kv.1) with
    | true => simp [foundV, hv]
    | false => simpa using ih

theorem find_run {ky : Nat} {kt : Ty} {vk : IntKind} {ka : Bool} (hk : KeyFit P τ ky kt ka) {x : kt.den} {u : Value} (hv : KVal ka kt x u) {kvs : List (kt.den × Int)} {es : List MapEntry} (h : MRow kt (.int vk) ka 0 kvs es) :
    (Instr.findKey ky u es).run P w = .ok (foundV vk (mfind kt x kvs 0)) w := by
  obtain ⟨tk, h1, h2, h3⟩ := hk.ok
  rcases h3 with ⟨rfl, h3⟩ | ⟨rfl, k, rfl, h4, h5⟩
  · rw [show u = _ from hv]
    obtain ⟨D, hD⟩ := Option.isSome_iff_exists.1 h2.und
    unfold Instr.findKey
    simp only [Sem.run_bind, run_underlying hD, Result.andThen_ok]
    cases kvs with
    | nil => cases es with
      | nil => simp [Instr.findNow, mfind, foundV]
      | cons _ _ => exact h.elim
    | cons kv kvs => cases es with
      | nil => exact h.elim
      | cons e es =>
        have hn : Instr.findNow D (.agg (kvals kt x).toArray) (e :: es) 0 = none := by
          unfold Instr.findNow
          have : Instr.sameNow D (.agg (kvals kt x).toArray) e.key = none := by unfold Instr.sameNow; split <;> first | rfl | contradiction
          rw [this]
        rw [hn]
        exact asking_run hk x h
  · have hu : u = .int k x := (List.head_eq_of_cons_eq hv).symm
    have hd := h2.int h4
    rw [h5] at hd
    unfold Instr.findKey
    simp only [Sem.run_bind, run_underlying hd, Result.andThen_ok, hu, now_run x h, Sem.run_pure]

theorem mfind_spec {kt : Ty} {k : kt.den} : ∀ {kvs : List (kt.den × Int)} {i j : Nat} {v : Int}, mfind kt k kvs i = some (j, v) → i ≤ j ∧ kvs[j - i]? = some (k, v)
  | [], _, _, _, h => by cases h
  | p :: r, i, j, v, h => by
    unfold mfind at h
    cases q : kt.eqv k p.1 with
    | true =>
      rw [q] at h
      obtain ⟨rfl, rfl⟩ := Prod.mk.inj (Option.some.inj h)
      refine ⟨Nat.le_refl _, ?_⟩
      rw [Nat.sub_self, List.getElem?_cons_zero, eqv_eq kt q]
    | false =>
      rw [q] at h
      obtain ⟨h1, h2⟩ := mfind_spec h
      refine ⟨by omega, ?_⟩
      rw [show j - i = (j - (i + 1)) + 1 by omega, List.getElem?_cons_succ]
      exact h2

theorem MRow.len {kt vt : Ty} {ka : Bool} : ∀ {kvs : List (kt.den × vt.den)} {es : List MapEntry} {i : Nat}, MRow kt vt ka i kvs es → kvs.length = es.length
  | [], [], _, _ => rfl
  | [], _ :: _, _, h => h.elim
  | _ :: _, [], _, h => h.elim
  | _ :: kvs, _ :: es, _, h => by simp [MRow.len h.2]

theorem MRow.get {kt vt : Ty} {ka : Bool} : ∀ {kvs : List (kt.den × vt.den)} {es : List MapEntry} {i : Nat}, MRow kt vt ka i kvs es → ∀ {j : Nat} {kv : kt.den × vt.den}, kvs[j]? = some kv → ∃ e, es[j]? = some e ∧ KVal ka kt kv.1 e.key ∧ kvals vt kv.2 = [e.val] ∧ e.born = i + j
  | [], _, _, _, _, _, e => by cases e
  | _ :: _, [], _, h, _, _, _ => h.elim
  | _ :: _, e0 :: _, _, h, 0, _, e => by obtain rfl := Option.some.inj e; exact ⟨e0, rfl, h.1⟩
  | _ :: _, _ :: _, i, h, j + 1, _, e => by
    obtain ⟨e', h1, h2, h3, h4⟩ := MRow.get h.2 (j := j) e
    exact ⟨e', h1, h2, h3, by omega⟩

theorem MRow.upd {kt vt : Ty} {ka : Bool} {x : kt.den × vt.den} {f : MapEntry → MapEntry} : ∀ {kvs : List (kt.den × vt.den)} {es : List MapEntry} {i : Nat}, MRow kt vt ka i kvs es → ∀ {j : Nat}, (∀ e, es[j]? = some e → KVal ka kt x.1 (f e).key ∧ kvals vt x.2 = [(f e).val] ∧ (f e).born = e.born) → MRow kt vt ka i (kvs.set j x) (es.modify j f)
  | [], [], _, _, _, _ => by simp [MRow]
  | [], _ :: _, _, h, _, _ => h.elim
  | _ :: _, [], _, h, _, _ => h.elim
  | _ :: _, e0 :: _, _, h, 0, g => by
    obtain ⟨g1, g2, g3⟩ := g e0 rfl
    exact ⟨⟨g1, g2, g3.trans h.1.2.2⟩, h.2⟩
  | _ :: _, _ :: _, i, h, j + 1, g => ⟨h.1, MRow.upd h.2 (j := j) g⟩

theorem MRow.push {kt vt : Ty} {ka : Bool} {x : kt.den × vt.den} {e : MapEntry} : ∀ {kvs : List (kt.den × vt.den)} {es : List MapEntry} {i : Nat}, MRow kt vt ka i kvs es → KVal ka kt x.1 e.key → kvals vt x.2 = [e.val] → e.born = i + es.length → MRow kt vt ka i (kvs ++ [x]) (es ++ [e])
  | [], [], _, _, h1, h2, h3 => ⟨⟨h1, h2, by simpa using h3⟩, trivial⟩
  | [], _ :: _, _, h, _, _, _ => h.elim
  | _ :: _, [], _, h, _, _, _ => h.elim
  | _ :: _, _ :: es, i, h, h1, h2, h3 => ⟨h.1, MRow.push h.2 h1 h2 (by simp at h3; omega)⟩

theorem sameBits_list : ∀ {n : Nat} (l : List Value), (∀ v ∈ l, Instr.sameBits n v v = true) → ((l.zip l).all fun (x, y) => Instr.sameBits n x y) = true
  | _, [], _ => rfl
  | n, v :: l, h => by
    simp only [List.zip_cons_cons, List.all_cons, h v (List.mem_cons_self ..), Bool.true_and]
    exact sameBits_list l fun u hu => h u (List.mem_cons_of_mem _ hu)

theorem sameBits_kvals : ∀ (t : Ty) (x : t.den) (n : Nat), ∀ v ∈ kvals t x, Instr.sameBits n v v = true
  | .int k, x, n, v, h => by rw [List.mem_singleton.1 h]; cases n <;> simp [Instr.sameBits]
  | .bool, x, n, v, h => by rw [List.mem_singleton.1 h]; cases n <;> simp [Instr.sameBits]
  | .str, x, n, v, h => by
    have hx : (x == x) = true := by rw [beq_toListBytes]; simp
    rw [List.mem_singleton.1 h]; cases n <;> simp only [Instr.sameBits, hx]
  | .sl _, _, _, _, h => by cases h
  | .pr a b, x, n, v, h => by
    rcases List.mem_append.1 h with h | h
    · exact sameBits_kvals a x.1 n v h
    · exact sameBits_kvals b x.2 n v h

theorem sameBits_key {kt : Ty} {ka : Bool} {x : kt.den} {u v : Value} (h : KVal ka kt x u) (g : KVal ka kt x v) : Instr.sameBits 10000 u v = true := by
  cases ka with
  | true =>
    rw [show u = _ from h, show v = _ from g]
    show Instr.sameBits (9999 + 1) _ _ = true
    unfold Instr.sameBits
    simp only [beq_self_eq_true, Bool.true_and]
    exact sameBits_list _ (sameBits_kvals kt x 9999)
  | false =>
    have h : kvals kt x = [u] := h
    have g : kvals kt x = [v] := g
    rw [h] at g
    rw [← List.head_eq_of_cons_eq g]
    exact sameBits_kvals kt x 10000 u (by rw [h]; exact List.mem_singleton.2 rfl)

theorem stays_run {kt : Ty} {ka : Bool} {x : kt.den} {u v : Value} (h : KVal ka kt x u) (g : KVal ka kt x v) : (Instr.keyThatStays u v).run P w = .ok v w := by
  unfold Instr.keyThatStays
  simp [sameBits_key h g]

/-- The map in memory. -/
theorem map_block (h : Rel X L I s a w) {n : Nm} {kt vt : Ty} {ka : Bool} {kvs : List (kt.den × vt.den)} (en : s.o n = some (.mp kt vt ka kvs)) {u : Value} (r : RC L I w (AL s.o) (.mp n) u) :
    ∃ b es, u = .map (some b) ∧ L n = .map (some b) ∧ w.heap[b]? = some (.map es es.size) ∧ MRow kt vt ka 0 kvs es.toList := by
  obtain ⟨b, rfl, r2⟩ := r
  obtain ⟨b', es, h1, h2, h3⟩ := h.obj n _ en
  rw [r2] at h1
  injection h1 with h1; injection h1 with h1
  subst h1
  exact ⟨b, es, rfl, r2, h2, h3⟩

theorem run_setMap {b : Nat} {es : Array MapEntry} {ck : Nat} (o : Obj) (hb : w.heap[b]? = some (.map es ck)) : (setObj b o).run P w = .ok () { w with heap := w.heap.setIfInBounds b o } := by
  simp [setObj, Sem.run, hb]

theorem vop_lookup (h : Rel X L I s a w) (hτ : TabOk P τ) {o : Oper} {t : Nat} {m k : Operand} {ok : Bool} (ho : o.op = .lookup t m k ok) {v : AV} (e : vop τ (.lookup t m k ok) s.ev s.o = some (true, v)) :
    ∃ u, Gives P w a.eval o u ∧ RA L I w (AL s.o) v u := by
  cases ok with
  | true => simp [vop] at e
  | false =>
  simp only [vop] at e
  split at e
  · rename_i ti n e1 e2
    split at e
    · rename_i kt vk ka kvs en
      split at e
      · rename_i te key e3 e4
        cases q : (Nat.beq ti.kind 9 && (Nat.beq te.kind 1 && (decide (te.ik = vk) && keyOk τ ti.ky kt ka))) with
        | false => rw [q] at e; cases e
        | true =>
          rw [q] at e
          obtain ⟨_, rfl⟩ := Prod.mk.inj (Option.some.inj e)
          simp only [Bool.and_eq_true] at q
          obtain ⟨q1, q2, q3, q4⟩ := q
          have hk := keyOk_fit hτ q4
          have rm := h.ev m
          rw [e2] at rm
          obtain ⟨b, es, g1, _, g2, g3⟩ := map_block h en rm
          have hkv := key_val hk.flat e4 (h.ev k)
          have hu := (hτ t ti e1).map (Nat.eq_of_beq_eq_true q1)
          obtain ⟨i, z1, z2⟩ := (hτ _ te e3).z1 (Nat.eq_of_beq_eq_true q2)
          have hz : (zeroValue ti.el).run P w = .ok (.int vk 0) w := by
            rw [← of_decide_eq_true q3]; simp [zeroValue, typeInfo, z1, z2]
          refine ⟨.int vk (mget kt key kvs), gives_v (e := Instr.lookup t (a.eval m) (a.eval k) false) (by simp [execOp, ho]) ?_, rfl⟩
          rw [g1]
          unfold Instr.lookup
          simp only [Sem.run_bind, run_underlying hu, Result.andThen_ok, run_getObj_map w b es es.size g2, Sem.run_pure, checkKey_run hk hkv, find_run hk hkv g3]
          unfold mget
          cases mfind kt key kvs 0 with
          | none => simp [foundV, hz, Result.andThen]
          | some p => simp [foundV]
      · cases e
    · cases e
  · cases e

theorem step_map {b : Nat} {es : Array MapEntry} {ck : Nat} (hb : w.heap[b]? = some (.map es ck)) (es' : Array MapEntry) (ck' : Nat) : Step (fun b' _ => b' = b) w { w with heap := w.heap.setIfInBounds b (.map es' ck') } := by
  refine ⟨rfl, rfl, rfl, by simp, fun k hk => ?_⟩
  by_cases q : k = b
  · subst q
    rw [hb]
    refine .inr ⟨⟨0, rfl⟩, es', ck', ?_⟩
    simp [hk]
  · refine BlkEq.of_eq ?_
    simp [Array.getElem?_setIfInBounds, Ne.symm q]

/-- A map is written. -/
theorem Rel.setMap (h : Rel X L I s a w) {n : Nm} {kt vt : Ty} {ka : Bool} {kvs kvs' : List (kt.den × vt.den)} (en : s.o n = some (.mp kt vt ka kvs)) {b : Nat} (hL : L n = .map (some b)) {es es' : Array MapEntry} {ck : Nat} (hb : w.heap[b]? = some (.map es ck))
    (hr : MRow kt vt ka 0 kvs' es'.toList) : Rel X L I (s.setO n (.mp kt vt ka kvs')) a { w with heap := w.heap.setIfInBounds b (.map es' es'.size) } := by
  have hlt : b < w.heap.size := by
    rcases Nat.lt_or_ge b w.heap.size with z | z
    · exact z
    · rw [Array.getElem?_eq_none z] at hb; cases hb
  refine h.modify (step_map hb es' es'.size) n _ _ en (fun b' o q => ?_) ?_ (fun _ _ q => q) ⟨b, es', hL, by simp [hlt], hr⟩
  · have q : b' = b := q
    subst q; exact hL
  · rw [AL_eq', AL_eq', setO_same, en]
where AL_eq' (o : Nm → Option Ob) (n : Nm) : AL o n = match o n with | some (.arr _ t xs) => some (t.sz, xs.length) | _ => none := rfl

end
end AM
end Go.Proofs.YtpcdcnmmkfhliaaGreatDoor
