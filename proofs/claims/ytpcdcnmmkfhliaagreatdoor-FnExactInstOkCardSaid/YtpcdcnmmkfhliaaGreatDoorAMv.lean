/- Regions whose order is drawn. Under: the callees obey their summaries. -/
import Derived.Test.YtpcdcnmmkfhliaaGreatDoorAMt
import Derived.Orders
namespace Go.Proofs.YtpcdcnmmkfhliaaGreatDoor
namespace AM
open Go
set_option linter.unusedSimpArgs false
set_option linter.unusedVariables false

section
variable {P : Program} {X : Ctx} {L : Nm → Value} {I : Nat → Prop} {s : St} {a : Act} {w : World} {R : Type}

theorem beq_ne {a b : Nat} (h : a ≠ b) : Nat.beq a b = false := by
  cases q : Nat.beq a b with
  | false => rfl
  | true => exact absurd (Nat.eq_of_beq_eq_true q) h

theorem isNil_iff {l : List Nm} : isNil l = true ↔ l = [] := by cases l <;> simp [isNil]

theorem callP_callK {S : FSum} {xs : List Operand} {d : Nat} {v : AV} (e : callP S (xs.map s.ev) d s.o = some v) (f : Nat) (k : St → Option R) : callK S f .fn xs d s k = k (s.put (some d) v) := by
  unfold callP at e
  split at e
  · rename_i ds ts e1
    cases q : pOk S ts with
    | false => rw [q] at e; cases e
    | true =>
      rw [q] at e
      simp only [cond_true] at e
      unfold pOk at q
      rw [Bool.and_eq_true, Bool.and_eq_true, Bool.and_eq_true, Bool.and_eq_true, Bool.and_eq_true, isNil_iff, isNil_iff] at q
      obtain ⟨qg, qt, q1, q2, q3, q4⟩ := q
      have hgh : S.gh = [] := by
        generalize S.gh = l at qg
        cases l with
        | nil => rfl
        | cons _ _ => cases qg
      have hpts : ts.flatMap Tag.pts = [] := by
        generalize ts.flatMap Tag.pts = l at qt
        cases l with
        | nil => rfl
        | cons _ _ => cases qt
      have hvl : Nat.beq ((xs.map s.ev).length + S.gh.length) S.pars.length = true := by
        have := getVs_len e1
        rw [parEns_len] at this
        rw [this, hgh]; exact Nat.beq_refl _
      split at e
      · rename_i x e2
        split at e
        · rename_i r e3
          cases q5 : (bif S.shares then true else (mkVs S.ens (unpack (entys (endEns S.pars S.res S.nb)) r)).all (fun p => p.2.flat)) with
          | false => rw [q5] at e; cases e
          | true =>
            rw [q5] at e
            obtain rfl := Option.some.inj e
            have hs : (bif S.shares then s.frzs (ts.flatMap Tag.lent) else s) = s := by
              cases hsh : S.shares with
              | false => rfl
              | true =>
                rw [hsh] at q3
                rw [isNil_iff.1 q3]; rfl
            have hp : ts.flatMap Tag.pair = [] := List.map_eq_nil_iff.1 q2
            have hm : ts.flatMap Tag.moved = [] := by
              rw [List.flatMap_eq_nil_iff] at hp ⊢
              intro t ht
              have := hp t ht
              cases t <;> simp_all [Tag.pair, Tag.moved]
            have ho : mkBs S.ens (unpack (entys (endEns S.pars S.res S.nb)) r) = [] := by
              rcases hmb : mkBs S.ens (unpack (entys (endEns S.pars S.res S.nb)) r) with _ | ⟨z, l⟩
              · rfl
              · have := mkBs_names (q := z) (by rw [hmb]; exact List.mem_cons_self ..)
                rw [q4] at this; cases this
            have htags : tagsOk ts = true := by
              unfold tagsOk
              rw [q2, hpts]
              simp [nodupN, apartN, memN]
            have hok : callOk S d s.o ts (mkVs S.ens (unpack (entys (endEns S.pars S.res S.nb)) r)) [] [] = true := by
              unfold callOk
              rw [q2, q4]
              cases hsh : S.shares with
              | true => simp [nodupN]
              | false => rw [hsh] at q5; simp only [cond_false] at q5 ⊢; simp [nodupN]; simpa using q5
            unfold callK
            rw [show s.argsOf f .fn xs = some (xs.map s.ev) from rfl]
            dsimp only
            rw [hgh, show ghosts s.o (xs.map s.ev) [] = xs.map s.ev from rfl, e1]
            dsimp only
            rw [hs]
            unfold callAt
            rw [show s.argsOf f .fn xs = some (xs.map s.ev) from rfl]
            dsimp only
            rw [hvl]
            simp only [cond_true]
            rw [hgh, show ghosts s.o (xs.map s.ev) [] = xs.map s.ev from rfl, e1]
            dsimp only
            rw [q1, htags, q3]
            simp only [Bool.and_true, cond_true, Bool.true_and]
            rw [e2]
            dsimp only
            rw [e3]
            dsimp only
            rw [hm, q4, ho]
            simp only [List.map_nil, List.append_nil, St.drops, upsOf]
            rw [hok]
            rfl
        · cases e
      · cases e
  · cases e

theorem opP_opK {E : Env} {o : Oper} {v : AV} (e : opP E o s.ev s.o = some (true, v)) (hd : dstOk E.N o.dst = true) (k : St → Option R) : opK E o s k = k (s.put o.dst v) := by
  unfold opP at e
  unfold opK
  split at e
  · rename_i f args ts ho
    split at e
    · rename_i d hdst
      split at e
      · rename_i S hS
        rw [hdst] at hd ⊢
        have hd : Nat.blt d E.N = true := hd
        rw [ho]
        dsimp only
        rw [hS]
        dsimp only
        rw [hd]
        split at e
        · rename_i v' e1
          obtain ⟨_, rfl⟩ := Prod.mk.inj (Option.some.inj e)
          exact callP_callK e1 f k
        · cases e
      · cases e
    · cases e
  · rename_i op hno
    split
    · rename_i f args ts ho
      exact absurd ho (hno f args ts)
    · rename_i t args ts ho
      rw [ho] at e; simp [vop] at e
    · rw [e]
      simp only [hd, cond_true]

theorem vop_congr {τ : Tab} {op : Op} {e e' : Operand → AV} {o : Nm → Option Ob} (h : ∀ x ∈ op.operands, e x = e' x) : vop τ op e o = vop τ op e' o := by
  have pairs : ∀ ps : Array (Nat × Operand), (∀ x ∈ (ps.toList.map (·.2)).toArray, e x = e' x) → (ps.toList.map fun p => (p.1, e p.2)) = (ps.toList.map fun p => (p.1, e' p.2)) := fun ps hp =>
    List.map_congr_left fun p hm => by rw [hp p.2 (by simp; exact ⟨p.1, by simpa using hm⟩)]
  cases op <;> simp only [Op.operands] at h <;> simp only [vop]
  case build t ps => rw [pairs ps h]
  case call c =>
    obtain ⟨cl, xs, ts⟩ := c
    cases cl with
    | builtin b =>
      have : xs.toList.map e = xs.toList.map e' := List.map_congr_left fun x hx => h x (by simp [Call.operands]; simpa using hx)
      simp only [this]
    | _ => rfl
  case lookup t m k ok =>
    cases ok with
    | true => rfl
    | false =>
      have h1 := h m (by simp)
      have h2 := h k (by simp)
      simp only [h1, h2]
  case makeFunc fn xs ys =>
    cases fn with
    | func f =>
      have : ys.toList.map e = ys.toList.map e' := List.map_congr_left fun x hx => h x (by simp; exact .inr (by simpa using hx))
      simp only [this]
    | _ => rfl
  case slice t x lo hi mx =>
    cases mx with
    | some m => rfl
    | none =>
      have h1 := h x (by simp)
      have h2 : lo.map e = lo.map e' := by cases lo with
        | none => rfl
        | some l => exact congrArg some (h l (by simp))
      have h3 : hi.map e = hi.map e' := by cases hi with
        | none => rfl
        | some l => exact congrArg some (h l (by simp))
      simp only [h1, h2, h3]
  all_goals first
    | rfl
    | (simp at h; simp only [h]; done)
    | (simp at h; rw [h]; done)
    | (simp at h; obtain ⟨h1, h2⟩ := h; simp only [h1, h2]; done)
    | (simp at h; obtain ⟨h1, h2, h3⟩ := h; simp only [h1, h2, h3]; done)

theorem opP_congr {E : Env} {o : Oper} {e e' : Operand → AV} {ob : Nm → Option Ob} (h : ∀ x ∈ o.op.operands, e x = e' x) : opP E o e ob = opP E o e' ob := by
  unfold opP
  split
  · rename_i f args ts ho
    rw [ho] at h
    have : args.toList.map e = args.toList.map e' := List.map_congr_left fun x hx => h x (by simp [Op.operands, Call.operands]; exact .inr (by simpa using hx))
    rw [this]
  · exact vop_congr h

theorem callPK_eq {S : FSum} {vs : List AV} {d : Nat} {o : Nm → Option Ob} (k : AV → Option R) : callPK S vs d o k = match callP S vs d o with | some v => k v | none => none := by
  unfold callPK callP
  split
  · rename_i ds ts e1
    cases pOk S ts with
    | false => rfl
    | true =>
      simp only [cond_true]
      split
      · rename_i x e2
        split
        · rename_i r e3
          cases (bif S.shares then true else (mkVs S.ens (unpack (entys (endEns S.pars S.res S.nb)) r)).all (fun p => p.2.flat)) <;> rfl
        · rfl
      · rfl
  · rfl

theorem opPK_eq {E : Env} {o : Oper} {e : Operand → AV} {ob : Nm → Option Ob} (k : AV → Option R) : opPK E o e ob k = match (match opP E o e ob with | some (true, v) => some v | _ => none) with | some v => k v | none => none := by
  unfold opPK opP
  split
  · rename_i f args ts ho
    split
    · rename_i d hd
      split
      · rename_i S hS
        rw [callPK_eq]
        cases callP S (args.toList.map e) d ob <;> rfl
      · rfl
    · rfl
  · generalize vop E.τ _ e ob = q
    match q with
    | none => rfl
    | some (true, v) => rfl
    | some (false, v) => rfl

/-- What an operation lays, its question asked. -/
def valP (E : Env) (all : List Oper) (o : Oper) (s : St) : Option AV :=
  match o.guard with
  | none => match opP E o s.ev s.o with
    | some (true, v) => some v
    | _ => none
  | some (j, want) => match (all[j]?).bind (·.dst) with
    | some t => match isTmp (s.t t) with
      | some b => match b == want with
        | true => match opP E o s.ev s.o with
          | some (true, v) => some v
          | _ => none
        | false => some gone
      | none => match isGone (s.t t) with
        | true => some gone
        | false => none
    | none => none

theorem opsP_cons (E : Env) (all : List Oper) (o : Oper) (r : List Oper) (s : St) (k : St → Option R) :
    opsP E all (o :: r) s k = bif dstOk E.N o.dst then (match valP E all o s with | some v => opsP E all r (s.put o.dst v) k | none => none) else none := by
  simp only [opsP]
  congr 1
  unfold valP
  cases hg : o.guard with
  | none => exact opPK_eq _
  | some gw =>
    obtain ⟨j, want⟩ := gw
    dsimp only
    cases ht : (all[j]?).bind (·.dst) with
    | none => rfl
    | some t =>
      dsimp only
      cases hb : isTmp (s.t t) with
      | none => cases qg : isGone (s.t t) <;> rfl
      | some b =>
        dsimp only
        have hkn : ∀ c, c = b → s.know (.tmp t) c = s := fun c q => by subst q; exact know_eq (c := .tmp t) hb
        cases b with
        | true =>
          simp only [hkn true rfl]
          cases want with
          | true => exact opPK_eq _
          | false => rfl
        | false =>
          simp only [hkn false rfl]
          cases want with
          | false => exact opPK_eq _
          | true => rfl

theorem valP_put {E : Env} {all : List Oper} {o : Oper} {x : Option Nat} {u : AV} (h : ∀ d, x = some d → d ∉ o.looksAt all.toArray) : valP E all o (s.put x u) = valP E all o s := by
  cases x with
  | none => rfl
  | some d =>
    have hd := h d rfl
    have hop : opP E o (s.put (some d) u).ev (s.put (some d) u).o = opP E o s.ev s.o := by
      refine opP_congr fun y hy => ?_
      cases y with
      | tmp t =>
        have : t ≠ d := fun q => hd (List.mem_append_left _ (List.mem_filterMap.2 ⟨.tmp t, by simpa using hy, by rw [q]⟩))
        show (bif Nat.beq t d then u else s.t t) = s.t t
        rw [beq_ne this]; rfl
      | _ => rfl
    unfold valP
    rw [hop]
    cases hg : o.guard with
    | none => rfl
    | some gw =>
      obtain ⟨j, want⟩ := gw
      dsimp only
      cases ht : (all[j]?).bind (·.dst) with
      | none => rfl
      | some t =>
        have : t ≠ d := fun q => hd (List.mem_append_right _ (by
          rw [hg]
          have ht' : (all.toArray[j]?).bind (·.dst) = some t := by simpa using ht
          simp only [ht', q]
          simp))
        have hst : (s.put (some d) u).t t = s.t t := by
          show (bif Nat.beq t d then u else s.t t) = s.t t
          rw [beq_ne this]; rfl
        simp only [hst]

theorem put_comm {x y : Option Nat} {u v : AV} (h : ∀ d, x = some d → y ≠ some d) : (s.put x u).put y v = (s.put y v).put x u := by
  cases x with
  | none => rfl
  | some d =>
    cases y with
    | none => rfl
    | some e =>
      have hne : d ≠ e := fun q => h d rfl (by rw [q])
      show (⟨_, _⟩ : St) = ⟨_, _⟩
      congr 1
      funext i
      show (bif Nat.beq i e then v else bif Nat.beq i d then u else s.t i) = bif Nat.beq i d then u else bif Nat.beq i e then v else s.t i
      cases q1 : Nat.beq i e with
      | false => cases Nat.beq i d <;> rfl
      | true =>
        have := Nat.eq_of_beq_eq_true q1
        subst this
        have : Nat.beq i d = false := beq_ne (fun q => hne q.symm)
        rw [this]; rfl

theorem bubble {E : Env} {all : List Oper} {oj : Oper} {k : St → Option R} {y : R} {B : List Oper} : ∀ {A : List Oper} {s : St}, opsP E all (A ++ oj :: B) s k = some y → (∀ oi ∈ A, oi.apart all.toArray oj = true) →
    dstOk E.N oj.dst = true ∧ ∃ v, valP E all oj s = some v ∧ opsP E all (A ++ B) (s.put oj.dst v) k = some y
  | [], s, e, _ => by
    rw [List.nil_append, opsP_cons] at e
    cases q : dstOk E.N oj.dst with
    | false => rw [q] at e; cases e
    | true =>
      rw [q] at e
      simp only [cond_true] at e
      split at e
      · rename_i v ev; exact ⟨rfl, v, ev, e⟩
      · cases e
  | oi :: A, s, e, h => by
    rw [List.cons_append, opsP_cons] at e
    cases q : dstOk E.N oi.dst with
    | false => rw [q] at e; cases e
    | true =>
      rw [q] at e
      simp only [cond_true] at e
      split at e
      · rename_i u eu
        obtain ⟨g1, v, g2, g3⟩ := bubble e (fun x hx => h x (List.mem_cons_of_mem _ hx))
        obtain ⟨h1, h2, h3⟩ := Oper.apart_spec (h oi (List.mem_cons_self ..))
        rw [valP_put h1] at g2
        refine ⟨g1, v, g2, ?_⟩
        rw [List.cons_append, opsP_cons, q]
        simp only [cond_true]
        rw [valP_put h3, eu]
        dsimp only
        rw [← put_comm h2]
        exact g3
      · cases e

/-- One plain operation is done. -/
theorem valP_step (h : Rel X L I s a w) {E : Env} (hE : EnvOk P X.K E) (hN : E.N = X.N) {all : List Oper} {o : Oper} {v : AV} (hd : dstOk E.N o.dst = true) (e : valP E all o s = some v) (Q : Exit → Act → World → Prop) :
    if Region.wanted o (yielded all.toArray a.tmps) then o.wp P a w (Post X L (fun s' => some s') (s.put o.dst v)) Q else Post X L (fun s' => some s') (s.put o.dst v) (a.put o.dst undef) w := by
  have go : ∀ {q : Option (Bool × AV)}, opP E o s.ev s.o = q → (match q with | some (true, v) => some v | _ => none) = some v → o.wp P a w (Post X L (fun s' => some s') (s.put o.dst v)) Q := by
    intro q eq e
    match q with
    | none => cases e
    | some (false, _) => cases e
    | some (true, v') =>
      obtain rfl := Option.some.inj e
      exact opK_sound h hE hN (k := fun s' => some s') (by rw [opP_opK eq hd]) Q
  unfold valP at e
  cases hg : o.guard with
  | none =>
    rw [hg] at e
    rw [if_pos (by simp [Region.wanted, hg])]
    exact go rfl e
  | some gw =>
    obtain ⟨j, want⟩ := gw
    rw [hg] at e
    dsimp only at e
    split at e
    · rename_i t ht
      split at e
      · rename_i b hb
        rw [wanted_eq h hg ht hb]
        split at e
        · rename_i hbw
          rw [if_pos hbw]
          exact go rfl e
        · rename_i hbw
          rw [if_neg (by rw [hbw]; decide)]
          obtain rfl := Option.some.inj e
          refine ⟨_, L, I, h.put o.dst (fun i hi => ?_) (v := gone) rfl, fun _ _ => rfl, rfl⟩
          rw [hi] at hd
          rw [← hN]; exact Nat.le_of_ble_eq_true hd
      · split at e
        · rename_i qg
          rw [wanted_gone h hg ht qg, if_neg (by decide)]
          obtain rfl := Option.some.inj e
          refine ⟨_, L, I, h.put o.dst (fun i hi => ?_) (v := gone) rfl, fun _ _ => rfl, rfl⟩
          rw [hi] at hd
          rw [← hN]; exact Nat.le_of_ble_eq_true hd
        · cases e
    · cases e

/-! ### Constants may be laid at any time -/
def Still (v : AV) : Prop := ∀ n, v.drop n = v ∧ (∀ t xs, v.frz n t xs = v) ∧ ∀ k, v.past n k = v

theorem still_const (c : Value) : Still (ofConst c) := by
  intro n
  have cells : ∀ (l : List CV), (∀ x ∈ l, ∀ m, ¬ Ment x m) → l.map (CV.drop n) = l ∧ (∀ t xs, l.map (CV.frz n t xs) = l) ∧ ∀ k, l.map (CV.past n k) = l := by
    intro l
    induction l with
    | nil => intro _; exact ⟨rfl, fun _ _ => rfl, fun _ => rfl⟩
    | cons x l ih =>
      intro h
      obtain ⟨h1, h2, h3⟩ := ih (fun y hy => h y (List.mem_cons_of_mem _ hy))
      have hx : x.drop n = x ∧ (∀ t xs, x.frz n t xs = x) ∧ ∀ k, x.past n k = x := by
        have := h x (List.mem_cons_self ..)
        cases x with
        | own m => exact absurd rfl (this m)
        | pb m i => exact absurd rfl (this m)
        | pa m _ _ _ => exact absurd rfl (this m)
        | mp m => exact absurd rfl (this m)
        | clo f cs =>
          cases cs with
          | nil => exact ⟨rfl, fun _ _ => rfl, fun _ => rfl⟩
          | cons p cs => exact absurd ⟨p, List.mem_cons_self .., rfl⟩ (this p.1)
        | _ => exact ⟨rfl, fun _ _ => rfl, fun _ => rfl⟩
      exact ⟨by rw [List.map_cons, hx.1, h1], fun t xs => by rw [List.map_cons, hx.2.1, h2], fun k => by rw [List.map_cons, hx.2.2, h3]⟩
  unfold ofConst
  split
  · exact ⟨rfl, fun _ _ => rfl, fun _ => rfl⟩
  · exact ⟨rfl, fun _ _ => rfl, fun _ => rfl⟩
  · exact ⟨rfl, fun _ _ => rfl, fun _ => rfl⟩
  · exact ⟨rfl, fun _ _ => rfl, fun _ => rfl⟩
  · rename_i cs
    have := cells (cs.toList.map fun
      | .int k n => CV.v (.int k) n
      | .bool b => .v .bool b
      | .string s => .v .str s
      | .slice none 0 0 => .nil
      | u => .raw u) (fun x hx m => by
        obtain ⟨u, _, rfl⟩ := List.mem_map.1 hx
        split <;> exact id)
    exact ⟨congrArg AV.g this.1, fun t xs => congrArg AV.g (this.2.1 t xs), fun k => congrArg AV.g (this.2.2 k)⟩
  · exact ⟨rfl, fun _ _ => rfl, fun _ => rfl⟩

section
variable {df : Nat} {v : AV}
theorem put_drop (hv : Still v) (n : Nm) : (s.put (some df) v).drop n = (s.drop n).put (some df) v := by
  show (⟨_, _⟩ : St) = ⟨_, _⟩
  congr 1
  funext i
  show (bif Nat.beq i df then v else s.t i).drop n = bif Nat.beq i df then v else (s.t i).drop n
  cases Nat.beq i df with
  | true => exact (hv n).1
  | false => rfl
theorem put_past (hv : Still v) (n : Nm) (k : Nat) : (s.put (some df) v).past n k = (s.past n k).put (some df) v := by
  show (⟨_, _⟩ : St) = ⟨_, _⟩
  congr 1
  funext i
  show (bif Nat.beq i df then v else s.t i).past n k = bif Nat.beq i df then v else (s.t i).past n k
  cases Nat.beq i df with
  | true => exact (hv n).2.2 k
  | false => rfl
theorem put_freeze (hv : Still v) (n : Nm) (t : Ty) (xs : List t.den) : (s.put (some df) v).freeze n t xs = (s.freeze n t xs).put (some df) v := by
  show (⟨_, _⟩ : St) = ⟨_, _⟩
  congr 1
  funext i
  show (bif Nat.beq i df then v else s.t i).frz n t xs = bif Nat.beq i df then v else (s.t i).frz n t xs
  cases Nat.beq i df with
  | true => exact (hv n).2.1 t xs
  | false => rfl
theorem put_drops (hv : Still v) : ∀ (ns : List Nm) (s : St), (s.put (some df) v).drops ns = (s.drops ns).put (some df) v
  | [], _ => rfl
  | n :: r, s => by
    show ((s.put (some df) v).drop n).drops r = ((s.drop n).drops r).put (some df) v
    rw [put_drop hv, put_drops hv r]
theorem put_frzs (hv : Still v) : ∀ (ns : List Nm) (s : St), (s.put (some df) v).frzs ns = (s.frzs ns).put (some df) v
  | [], _ => rfl
  | n :: r, s => by
    show ((s.put (some df) v).frz1 n).frzs r = ((s.frz1 n).frzs r).put (some df) v
    have : (s.put (some df) v).frz1 n = (s.frz1 n).put (some df) v := by
      unfold St.frz1
      rw [show (s.put (some df) v).o = s.o from rfl]
      cases s.o n with
      | none => rfl
      | some ob => cases ob with
        | box cs => rfl
        | mp _ _ _ _ => rfl
        | arr e t xs => exact put_freeze hv n t xs
    rw [this, put_frzs hv r]
theorem ev_put {x : Operand} (h : x ≠ .tmp df) : (s.put (some df) v).ev x = s.ev x := by
  cases x with
  | tmp t =>
    show (bif Nat.beq t df then v else s.t t) = s.t t
    rw [beq_ne (fun q => h (by rw [q]))]; rfl
  | _ => rfl
theorem evs_put {xs : List Operand} (h : ∀ x ∈ xs, x ≠ .tmp df) : xs.map (s.put (some df) v).ev = xs.map s.ev := List.map_congr_left fun x hx => ev_put (h x hx)

theorem argsOf_put {f : Nat} {c : Target} {xs : List Operand} (h : ∀ x ∈ xs, x ≠ .tmp df) (hc : ∀ t, c = .tmp t → t ≠ df) : (s.put (some df) v).argsOf f c xs = s.argsOf f c xs := by
  cases c with
  | fn => exact congrArg some (evs_put h)
  | tmp t =>
    have : (s.put (some df) v).t t = s.t t := by
      show (bif Nat.beq t df then v else s.t t) = s.t t
      rw [beq_ne (hc t rfl)]; rfl
    unfold St.argsOf
    dsimp only
    rw [this, evs_put h]

theorem callAt_float {S : FSum} {f : Nat} {c : Target} {xs : List Operand} {d : Nat} (hv : Still v) (h : ∀ x ∈ xs, x ≠ .tmp df) (hc : ∀ t, c = .tmp t → t ≠ df) (hd : d ≠ df) (k : St → Option R) : callAt S f c xs d (s.put (some df) v) k = callAt S f c xs d s (fun s' => k (s'.put (some df) v)) := by
  have hp : ∀ ups s1 (u : AV), (St.over ups (St.put (some df) v s1)).put (some d) u = ((St.over ups s1).put (some d) u).put (some df) v := fun ups s1 u =>
    put_comm (s := St.over ups s1) (fun e he q => hd ((Option.some.inj q).trans (Option.some.inj he).symm))
  unfold callAt
  rw [argsOf_put h hc]
  rw [show (s.put (some df) v).o = s.o from rfl]
  simp only [put_drops hv, hp]
  rfl
theorem callK_float {S : FSum} {f : Nat} {c : Target} {xs : List Operand} {d : Nat} (hv : Still v) (h : ∀ x ∈ xs, x ≠ .tmp df) (hc : ∀ t, c = .tmp t → t ≠ df) (hd : d ≠ df) (k : St → Option R) : callK S f c xs d (s.put (some df) v) k = callK S f c xs d s (fun s' => k (s'.put (some df) v)) := by
  unfold callK
  rw [argsOf_put h hc, show (s.put (some df) v).o = s.o from rfl]
  split
  · split
    · rename_i ds0 ts0 e0
      have hs : (bif S.shares then (s.put (some df) v).frzs (ts0.flatMap Tag.lent) else s.put (some df) v) = (bif S.shares then s.frzs (ts0.flatMap Tag.lent) else s).put (some df) v := by
        cases S.shares with
        | true => exact put_frzs hv _ s
        | false => rfl
      rw [hs]
      exact callAt_float hv h hc hd k
    · rfl
  · rfl

theorem setO_put (n : Nm) (ob : Ob) : (s.put (some df) v).setO n ob = (s.setO n ob).put (some df) v := rfl

theorem bif_map {α β : Type} (c : Bool) (f : α → β) (x y : Option α) : Option.map f (bif c then x else y) = bif c then Option.map f x else Option.map f y := by cases c <;> rfl

theorem wop_float {τ : Tab} {op : Op} {dst : Option Nat} (hv : Still v) (h : ∀ x ∈ op.operands, x ≠ .tmp df) (hd : ∀ d, dst = some d → d ≠ df) :
    wop τ op dst (s.put (some df) v) = (wop τ op dst s).map fun p => (p.1, p.2.put (some df) v) := by
  have hp : ∀ s1 (u : AV), (St.put (some df) v s1).put dst u = (St.put dst u s1).put (some df) v := fun s1 u =>
    put_comm (s := s1) (fun e he q => hd _ q (Option.some.inj he).symm)
  cases op with
  | store t a x =>
    have h1 := ev_put (s := s) (v := v) (h a (by simp [Op.operands]))
    have h2 := ev_put (s := s) (v := v) (h x (by simp [Op.operands]))
    simp only [wop, h1, h2]
    rw [show (s.put (some df) v).o = s.o from rfl]
    split
    · rename_i ti p new e1 e2 e3
      cases (Nat.beq new.length ti.size && new.all CV.fine) with
      | false => rfl
      | true =>
        simp only [cond_true]
        split
        · rename_i nm ob e4
          show some (true, St.put dst _ (St.put (some df) v (s.setO nm ob))) = some (true, St.put (some df) v (St.put dst _ (s.setO nm ob)))
          rw [hp]
        · rfl
    · rfl
  | slice ty x lo hi mx =>
    cases mx with
    | some m => rfl
    | none =>
      have h1 := ev_put (s := s) (v := v) (h x (by simp [Op.operands]))
      have h2 : lo.map (s.put (some df) v).ev = lo.map s.ev := by
        cases lo with
        | none => rfl
        | some l => exact congrArg some (ev_put (h l (by simp [Op.operands])))
      have h3 : hi.map (s.put (some df) v).ev = hi.map s.ev := by
        cases hi with
        | none => rfl
        | some l => exact congrArg some (ev_put (h l (by simp [Op.operands])))
      simp only [wop, h1, h2, h3]
      rw [show (s.put (some df) v).o = s.o from rfl]
      split
      · rename_i ti n e1 e2
        cases Nat.beq ti.kind 3 with
        | false => rfl
        | true =>
          simp only [cond_true]
          split
          · rename_i el t xs te e3 e4
            cases Nat.beq te.size t.sz with
            | false => rfl
            | true =>
              simp only [cond_true]
              split <;> first
                | rfl
                | (simp only [put_freeze hv, hp, Option.map_some]; done)
                | (simp only [hp, Option.map_some]; done)
          · rfl
      · rfl
  | mapUpdate t m k x =>
    have h1 := ev_put (s := s) (v := v) (h m (by simp [Op.operands]))
    have h2 := ev_put (s := s) (v := v) (h k (by simp [Op.operands]))
    have h3 := ev_put (s := s) (v := v) (h x (by simp [Op.operands]))
    simp only [wop, h1, h2, h3]
    rw [show (s.put (some df) v).o = s.o from rfl]
    simp only [setO_put, hp]
    repeat' (first | rfl | split)
    all_goals simp only [bif_map, Option.map_none, Option.map_some]
  | mapEntry t m k =>
    have h1 := ev_put (s := s) (v := v) (h m (by simp [Op.operands]))
    have h2 := ev_put (s := s) (v := v) (h k (by simp [Op.operands]))
    simp only [wop, h1, h2]
    rw [show (s.put (some df) v).o = s.o from rfl]
    simp only [setO_put, hp]
    repeat' (first | rfl | split)
    all_goals simp only [bif_map, Option.map_none, Option.map_some]
  | entryStore t m j x =>
    have h1 := ev_put (s := s) (v := v) (h m (by simp [Op.operands]))
    have h2 := ev_put (s := s) (v := v) (h j (by simp [Op.operands]))
    have h3 := ev_put (s := s) (v := v) (h x (by simp [Op.operands]))
    simp only [wop, h1, h2, h3]
    rw [show (s.put (some df) v).o = s.o from rfl]
    simp only [setO_put, hp]
    repeat' (first | rfl | split)
  | call c =>
    obtain ⟨cl, xs, ts⟩ := c
    cases cl with
    | builtin b =>
      cases b with
      | append =>
        have h1 : xs.toList.map (s.put (some df) v).ev = xs.toList.map s.ev := evs_put fun x hx => h x (by simp [Op.operands, Call.operands]; simpa using hx)
        simp only [wop, h1]
        rw [show (s.put (some df) v).o = s.o from rfl]
        simp only [put_drop hv, put_past hv, setO_put, hp]
        repeat' (first | rfl | split)
        all_goals simp only [bif_map, Option.map_none, Option.map_some]
      | _ => rfl
    | _ => rfl
  | _ => rfl

theorem mop_congr {τ : Tab} {op : Op} {e e' : Operand → AV} {nm : Nm} (h : ∀ x ∈ op.operands, e x = e' x) : mop τ op e nm = mop τ op e' nm := by
  cases op with
  | alloc t => rfl
  | box t x => simp only [mop, h x (by simp [Op.operands])]
  | buildSlice t n ps =>
    have : (ps.toList.map fun p => (p.1, e p.2)) = (ps.toList.map fun p => (p.1, e' p.2)) := List.map_congr_left fun p hm => by rw [h p.2 (by simp [Op.operands]; exact ⟨p.1, by simpa using hm⟩)]
    simp only [mop, this]
  | makeSlice t l c => simp only [mop, h l (by simp [Op.operands]), h c (by simp [Op.operands])]
  | makeMap t r => cases r <;> rfl
  | _ => rfl

theorem opK_float {E : Env} {o : Oper} (hv : Still v) (h : ∀ x ∈ o.op.operands, x ≠ .tmp df) (hd : ∀ d, o.dst = some d → d ≠ df) (k : St → Option R) :
    opK E o (s.put (some df) v) k = opK E o s (fun s' => k (s'.put (some df) v)) := by
  have hp : ∀ s1 (u : AV), (St.put (some df) v s1).put o.dst u = (St.put o.dst u s1).put (some df) v := fun s1 u =>
    put_comm (s := s1) (fun e he q => hd _ q (Option.some.inj he).symm)
  unfold opK
  split
  · rename_i f args ts ho
    split
    · rename_i d hdst
      split
      · rename_i S hS
        cases Nat.blt d E.N with
        | false => rfl
        | true =>
          simp only [cond_true]
          exact callK_float hv (fun x hx => h x (by rw [ho]; simp [Op.operands, Call.operands]; exact .inr (by simpa using hx))) (fun t q => by cases q) (hd d hdst) k
      · rfl
    · rfl
  · rename_i t args ts ho
    have ht : t ≠ df := fun q => h (.tmp t) (by rw [ho]; simp [Op.operands, Call.operands]) (by rw [q])
    have hst : (s.put (some df) v).t t = s.t t := by
      show (bif Nat.beq t df then v else s.t t) = s.t t
      rw [beq_ne ht]; rfl
    rw [hst]
    split
    · rename_i d f cs hdst hcl
      split
      · rename_i S hS
        cases Nat.blt d E.N with
        | false => rfl
        | true =>
          simp only [cond_true]
          exact callK_float hv (fun x hx => h x (by rw [ho]; simp [Op.operands, Call.operands]; exact .inr (by simpa using hx))) (fun t' q => by injection q with q; rw [← q]; exact ht) (hd d hdst) k
      · rfl
    · rfl
  · have h1 : vop E.τ o.op (s.put (some df) v).ev s.o = vop E.τ o.op s.ev s.o := vop_congr fun x hx => ev_put (h x hx)
    rw [show (s.put (some df) v).o = s.o from rfl, h1]
    split
    · rename_i c u e1
      cases dstOk E.N o.dst with
      | false => rfl
      | true =>
        simp only [cond_true]
        split
        · rw [hp]
        · rfl
    · split
      · rename_i d hdst
        cases Nat.blt d E.N with
        | false => rfl
        | true =>
          simp only [cond_true]
          have h2 : mop E.τ o.op ((s.put (some df) v).drop [d, 0]).ev [d, 0] = mop E.τ o.op (s.drop [d, 0]).ev [d, 0] := mop_congr fun x hx => by rw [put_drop hv]; exact ev_put (h x hx)
          rw [h2]
          rw [hdst] at hp
          split
          · rename_i c ob u e2
            split
            · rw [put_drop hv, setO_put, hp]
            · rfl
          · rw [wop_float hv h (fun e he => hd e (hdst.trans he))]
            cases wop E.τ o.op (some d) s with
            | none => rfl
            | some p => obtain ⟨c, s'⟩ := p; cases c <;> rfl
      · rename_i hdst
        rw [wop_float hv h (fun e he => by cases he)]
        cases wop E.τ o.op none s with
        | none => rfl
        | some p => obtain ⟨c, s'⟩ := p; cases c <;> rfl
end
end
end AM
end Go.Proofs.YtpcdcnmmkfhliaaGreatDoor
