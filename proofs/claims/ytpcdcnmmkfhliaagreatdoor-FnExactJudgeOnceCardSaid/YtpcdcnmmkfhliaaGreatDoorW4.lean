/- Orders that come to the same: what only makes a new box may stand anywhere ahead of what looks at it. No condition. And what follows it: see the remarks. -/
import Derived.Test.YtpcdcnmmkfhliaaGreatDoorW3

/-! Orders that come to the same: what only makes a new box may stand anywhere ahead of what looks at it. No condition. -/
namespace Go.Proofs.YtpcdcnmmkfhliaaGreatDoor
namespace AM
open Go
set_option linter.unusedVariables false
set_option linter.unusedSimpArgs false

/-! ### Operations without a guard that call nothing: one step from state to state -/
def isCall : Op → Bool
  | .call _ => true
  | _ => false
def easy (o : Oper) : Bool := (match o.guard with | none => true | some _ => false) && !isCall o.op

def stp (E : Env) (o : Oper) (s : St) : Option St := opK (R := St) E o s some
def run (E : Env) : List Oper → St → Option St
  | [], s => some s
  | o :: r, s => (stp E o s).bind (run E r)

section
variable {R : Type} {E : Env}

def tailK (E : Env) (o : Oper) (op : Op) (s : St) (k : St → Option R) : Option R :=
  match vop E.τ op s.ev s.o with
    | some (c, v) => bif dstOk E.N o.dst then (match c with | true => k (s.put o.dst v) | false => none) else none
    | none => match o.dst with
      | some d => bif Nat.blt d E.N then (match mop E.τ op (s.drop [d, 0]).ev [d, 0] with
        | some (c, ob, v) => (match c with | true => k (((s.drop [d, 0]).setO [d, 0] ob).put (some d) v) | false => none)
        | none => match wop E.τ op (some d) s with
          | some (c, s') => (match c with | true => k s' | false => none)
          | none => none) else none
      | none => match wop E.τ op none s with
        | some (c, s') => (match c with | true => k s' | false => none)
        | none => none

theorem tail_bind (o : Oper) (op : Op) (s : St) (k : St → Option R) : tailK E o op s k = (tailK E o op s some).bind k := by
  unfold tailK
  cases vop E.τ op s.ev s.o with
  | some p => obtain ⟨c, v⟩ := p; dsimp only; cases dstOk E.N o.dst <;> cases c <;> rfl
  | none =>
    dsimp only
    cases o.dst with
    | none =>
      dsimp only
      cases wop E.τ op none s with
      | none => rfl
      | some p => obtain ⟨c, s'⟩ := p; cases c <;> rfl
    | some d =>
      dsimp only
      cases Nat.blt d E.N with
      | false => rfl
      | true =>
        dsimp only [cond_true]
        cases mop E.τ op (s.drop [d, 0]).ev [d, 0] with
        | some p => obtain ⟨c, ob, v⟩ := p; cases c <;> rfl
        | none =>
          dsimp only
          cases wop E.τ op (some d) s with
          | none => rfl
          | some p => obtain ⟨c, s'⟩ := p; cases c <;> rfl

theorem opK_tail {o : Oper} (h : isCall o.op = false) (s : St) (k : St → Option R) : opK E o s k = tailK E o o.op s k := by
  unfold opK tailK
  cases hop : o.op <;> first | rfl | (rw [hop] at h; cases h)
theorem opK_stp {o : Oper} (h : isCall o.op = false) (s : St) (k : St → Option R) : opK E o s k = (stp E o s).bind k := by
  unfold stp
  rw [opK_tail h, opK_tail h, tail_bind]

theorem opsK_run {all : List Oper} : ∀ {l : List Oper} (h : ∀ o ∈ l, easy o = true) (s : St) (k : St → Option R), opsK E all l s k = (run E l s).bind k
  | [], _, s, k => rfl
  | o :: r, h, s, k => by
    have ho := h o (List.mem_cons_self ..)
    unfold easy at ho
    rw [Bool.and_eq_true] at ho
    have hc : isCall o.op = false := by simpa using ho.2
    have hg : o.guard = none := by
      have := ho.1
      cases hq : o.guard with
      | none => rfl
      | some g => rw [hq] at this; cases this
    unfold opsK
    rw [hg]
    dsimp only
    rw [opK_stp hc]
    show (stp E o s).bind _ = ((stp E o s).bind (run E r)).bind k
    cases stp E o s with
    | none => rfl
    | some s1 => exact opsK_run (fun x hx => h x (List.mem_cons_of_mem _ hx)) s1 k
end

/-! ### Two neighbours change places -/
def Sw (E : Env) (a b : Oper) : Prop := ∀ s s1 s2, stp E a s = some s1 → stp E b s1 = some s2 → ∃ s1', stp E b s = some s1' ∧ stp E a s1' = some s2

theorem bubbleSw {E : Env} {x : Oper} {rest : List Oper} : ∀ {pre : List Oper} {s y : St}, (∀ a ∈ pre, Sw E a x) → run E (pre ++ x :: rest) s = some y → run E (x :: (pre ++ rest)) s = some y
  | [], s, y, _, h => h
  | a :: pre, s, y, hs, h => by
    have h : (stp E a s).bind (run E (pre ++ x :: rest)) = some y := h
    obtain ⟨s1, h1, h2⟩ := Option.bind_eq_some_iff.1 h
    have h3 := bubbleSw (fun b hb => hs b (List.mem_cons_of_mem _ hb)) h2
    have h3 : (stp E x s1).bind (run E (pre ++ rest)) = some y := h3
    obtain ⟨s2, h4, h5⟩ := Option.bind_eq_some_iff.1 h3
    obtain ⟨s1', h6, h7⟩ := hs a (List.mem_cons_self ..) s s1 s2 h1 h4
    show (stp E x s).bind (fun t => (stp E a t).bind (run E (pre ++ rest))) = some y
    rw [h6, Option.bind_some, h7, Option.bind_some]
    exact h5

/-- The operations that only lay something into a slot and are taken here; the slots they look at. -/
def easyP (o : Oper) : Bool := match o.dst with
  | some _ => (match o.op with
    | .move _ => true
    | .assign _ => true
    | .load _ _ => true
    | .fieldAddr _ _ _ => true
    | .indexAddr _ _ _ => true
    | _ => false)
  | none => false
def slotOf : Operand → List Nat
  | .tmp t => [t]
  | _ => []
def slots : Op → List Nat
  | .move x => slotOf x
  | .assign x => slotOf x
  | .load _ a => slotOf a
  | .fieldAddr _ x _ => slotOf x
  | .indexAddr _ x i => slotOf x ++ slotOf i
  | _ => []
def nameless : CV → Bool
  | .own _ => false
  | .pb _ _ => false
  | .pa _ _ _ _ => false
  | .clo _ _ => false
  | .mp _ => false
  | _ => true
/-- ... that make a box of cells that name nothing. -/
def easyA (τ : Tab) (o : Oper) : Bool := match o.dst with
  | some _ => (match o.op with
    | .alloc t => (match τ.get t with
      | some ti => (match ti.z0 with
        | some zc => zc.all nameless
        | none => false)
      | none => false)
    | _ => false)
  | none => false
def dstNe (a b : Oper) : Bool := match a.dst, b.dst with
  | some d, some e => !Nat.beq d e
  | _, _ => false
def noLook (a b : Oper) : Bool := match a.dst with
  | some d => !memNat d (slots b.op)
  | none => false
def swB (τ : Tab) (a b : Oper) : Bool :=
  dstNe a b && ((easyP a && (easyP b && (noLook a b && noLook b a))) || ((easyA τ a && (easyP b && noLook a b)) || (easyA τ a && easyA τ b)))

section
variable {E : Env} {o : Oper} {s s1 : St}

theorem tail_none {op : Op} {d : Nat} (hd : o.dst = some d) (hm : ∀ e nm, mop E.τ op e nm = none) (hw : ∀ d s, wop E.τ op d s = none) : tailK (R := St) E o op s some = match vop E.τ op s.ev s.o with
    | some (c, v) => bif Nat.blt d E.N then (match c with | true => some (s.put (some d) v) | false => none) else none
    | none => none := by
  unfold tailK
  rw [hd]
  cases vop E.τ op s.ev s.o with
  | some p => rfl
  | none =>
    dsimp only
    rw [hm, hw]
    cases Nat.blt d E.N <;> rfl
theorem stpP (h : easyP o = true) : stp E o s = some s1 ↔ ∃ d v, o.dst = some d ∧ Nat.blt d E.N = true ∧ vop E.τ o.op s.ev s.o = some (true, v) ∧ s1 = s.put (some d) v := by
  obtain ⟨d, hd⟩ : ∃ d, o.dst = some d := by
    unfold easyP at h
    cases hq : o.dst with
    | none => rw [hq] at h; cases h
    | some d => exact ⟨d, rfl⟩
  have hc : isCall o.op = false ∧ (∀ e nm, mop E.τ o.op e nm = none) ∧ ∀ d s, wop E.τ o.op d s = none := by
    unfold easyP at h
    rw [hd] at h
    cases hop : o.op <;> first | exact ⟨rfl, fun _ _ => rfl, fun _ _ => rfl⟩ | (rw [hop] at h; cases h)
  unfold stp
  rw [opK_tail hc.1, tail_none hd hc.2.1 hc.2.2]
  constructor
  · intro h
    cases hv : vop E.τ o.op s.ev s.o with
    | none => rw [hv] at h; cases h
    | some p =>
      obtain ⟨c, v⟩ := p
      rw [hv] at h
      dsimp only at h
      cases hb : Nat.blt d E.N with
      | false => rw [hb] at h; cases h
      | true =>
        rw [hb] at h
        cases c with
        | false => cases h
        | true => exact ⟨d, v, hd, hb, rfl, (Option.some.inj h).symm⟩
  · rintro ⟨d', v, h1, h2, h3, rfl⟩
    rw [hd] at h1
    obtain rfl := Option.some.inj h1
    rw [h3]
    dsimp only
    rw [h2]; rfl
theorem stpA (h : easyA E.τ o = true) : stp E o s = some s1 ↔ ∃ d zc, o.dst = some d ∧ Nat.blt d E.N = true ∧ zc.all nameless = true ∧ (∃ t ti, o.op = .alloc t ∧ E.τ.get t = some ti ∧ ti.z0 = some zc) ∧ s1 = ((s.drop [d, 0]).setO [d, 0] (.box zc)).put (some d) (.c (.pb [d, 0] 0)) := by
  unfold easyA at h
  cases hd : o.dst with
  | none => rw [hd] at h; cases h
  | some d =>
    rw [hd] at h
    dsimp only at h
    cases hop : o.op with
    | alloc t =>
      rw [hop] at h
      dsimp only at h
      cases ht : E.τ.get t with
      | none => rw [ht] at h; cases h
      | some ti =>
        rw [ht] at h
        dsimp only at h
        cases hz : ti.z0 with
        | none => rw [hz] at h; cases h
        | some zc =>
          rw [hz] at h
          have h : zc.all nameless = true := h
          unfold stp
          rw [opK_tail (by rw [hop]; rfl), hop]
          unfold tailK
          have hv : vop E.τ (.alloc t) s.ev s.o = none := rfl
          have hm : mop E.τ (.alloc t) (s.drop [d, 0]).ev [d, 0] = some (true, .box zc, .c (.pb [d, 0] 0)) := by
            unfold mop
            dsimp only
            rw [ht]; dsimp only
            rw [hz]
          rw [hv, hd]
          dsimp only
          rw [hm]
          constructor
          · intro hq
            cases hb : Nat.blt d E.N with
            | false => rw [hb] at hq; cases hq
            | true =>
              rw [hb] at hq
              exact ⟨d, zc, rfl, hb, h, ⟨t, ti, rfl, ht, hz⟩, (Option.some.inj hq).symm⟩
          · rintro ⟨d', zc', h1, h2, _, ⟨t', ti', h3, h4, h5⟩, rfl⟩
            obtain rfl := Option.some.inj h1
            injection h3 with h3
            subst h3
            rw [ht] at h4
            obtain rfl := Option.some.inj h4
            rw [hz] at h5
            obtain rfl := Option.some.inj h5
            rw [h2]; rfl
    | _ => rw [hop] at h; cases h
end

/-! ### What a dropped name leaves -/
theorem nameless_drop {n : Nm} : ∀ {c : CV}, nameless c = true → c.drop n = c
  | .own _, h => by cases h
  | .pb _ _, h => by cases h
  | .pa _ _ _ _, h => by cases h
  | .clo _ _, h => by cases h
  | .mp _, h => by cases h
  | .dead, _ => rfl
  | .v _ _, _ => rfl
  | .nil, _ => rfl
  | .raw _, _ => rfl
  | .pe _ _ _, _ => rfl
  | .er _, _ => rfl
  | .hd _, _ => rfl
theorem namelesss_drop {n : Nm} : ∀ {cs : List CV}, cs.all nameless = true → cs.map (CV.drop n) = cs
  | [], _ => rfl
  | c :: cs, h => by
    rw [List.all_cons, Bool.and_eq_true] at h
    rw [List.map_cons, nameless_drop h.1, namelesss_drop h.2]
theorem split_nameless (t : Ty) (x : t.den) : (split t x).all nameless = true := by
  rw [← dvs_split]
  rw [List.all_map]
  exact List.all_eq_true.2 fun _ _ => rfl
theorem ofConst_drop (n : Nm) (v : Value) : (ofConst v).drop n = ofConst v := by
  unfold ofConst
  split <;> try rfl
  rename_i cs
  show AV.g (List.map (CV.drop n) _) = _
  rw [List.map_map]
  congr 1
  refine List.map_congr_left fun u _ => nameless_drop ?_
  dsimp only
  split <;> rfl
theorem CV.drop_comm (n m : Nm) (c : CV) : (c.drop n).drop m = (c.drop m).drop n := by
  cases c <;> try rfl
  all_goals
    unfold CV.drop
    dsimp only
  case own k => cases h1 : Nm.eqb k n <;> cases h2 : Nm.eqb k m <;> simp [h1, h2]
  case pb k i => cases h1 : Nm.eqb k n <;> cases h2 : Nm.eqb k m <;> simp [h1, h2]
  case pa k s i j => cases h1 : Nm.eqb k n <;> cases h2 : Nm.eqb k m <;> simp [h1, h2]
  case clo f cs => cases h1 : (cs.any fun p => Nm.eqb p.1 n) <;> cases h2 : (cs.any fun p => Nm.eqb p.1 m) <;> simp [h1, h2]
  case mp k => cases h1 : Nm.eqb k n <;> cases h2 : Nm.eqb k m <;> simp [h1, h2]
theorem AV.drop_comm (n m : Nm) (v : AV) : (v.drop n).drop m = (v.drop m).drop n := by
  have hl : ∀ cs : List CV, (cs.map (CV.drop n)).map (CV.drop m) = (cs.map (CV.drop m)).map (CV.drop n) := fun cs => by
    rw [List.map_map, List.map_map]
    exact List.map_congr_left fun c _ => CV.drop_comm n m c
  cases v with
  | c x => exact congrArg AV.c (CV.drop_comm n m x)
  | g cs => exact congrArg AV.g (hl cs)
  | tup cs =>
    show AV.tup (List.map _ (List.map _ cs)) = AV.tup (List.map _ (List.map _ cs))
    rw [List.map_map, List.map_map]
    congr 1
    refine List.map_congr_left fun p _ => ?_
    exact congrArg (Prod.mk p.1) (hl p.2)
theorem Ob.drop_comm (n m : Nm) (x : Ob) : (x.drop n).drop m = (x.drop m).drop n := by
  cases x with
  | box cs =>
    show Ob.box _ = Ob.box _
    rw [List.map_map, List.map_map]
    exact congrArg Ob.box (List.map_congr_left fun c _ => CV.drop_comm n m c)
  | arr _ _ _ => rfl
  | mp _ _ _ _ => rfl

/-- What stands in the objects behind the making of a box, but for the box itself. -/
def Past (n : Nm) (o o' : Nm → Option Ob) : Prop := ∀ m, Nm.eqb m n = false → o' m = (o m).map (Ob.drop n)

theorem ofCells_drop {n : Nm} {agg : Bool} {cs : List CV} {v : AV} (h : ofCells agg (cs.map (CV.drop n)) = some v) : ∃ v', ofCells agg cs = some v' ∧ v'.drop n = v := by
  cases agg with
  | true => exact ⟨_, rfl, Option.some.inj h⟩
  | false =>
    match cs, h with
    | [c], h => exact ⟨_, rfl, Option.some.inj h⟩
    | [], h => cases h
    | _ :: _ :: _, h => cases h
theorem part_drop {n : Nm} {cs : List CV} {off k : Nat} {agg : Bool} {v : AV} (h : part (cs.map (CV.drop n)) off k agg = some v) : ∃ v', part cs off k agg = some v' ∧ v'.drop n = v := by
  unfold part at h ⊢
  rw [List.length_map] at h
  cases hb : Nat.ble (off + k) cs.length with
  | false => rw [hb] at h; cases h
  | true =>
    rw [hb, cond_true, ← List.map_drop, ← List.map_take] at h
    rw [cond_true]
    exact ofCells_drop h
theorem part_nameless {n : Nm} {cs : List CV} (hc : cs.all nameless = true) {off k : Nat} {agg : Bool} {v : AV} (h : part cs off k agg = some v) : v.drop n = v := by
  have h2 := h
  rw [← namelesss_drop (n := n) hc] at h2
  obtain ⟨v', h3, h4⟩ := part_drop h2
  rw [h] at h3
  obtain rfl := Option.some.inj h3
  exact h4

theorem loadCells_drop {n : Nm} {o o' : Nm → Option Ob} (ho : Past n o o') {k : Nat} {agg : Bool} {p : CV} {v : AV} (h : loadCells o' k agg (p.drop n) = some v) : ∃ v', loadCells o k agg p = some v' ∧ v'.drop n = v := by
  cases p with
  | pb m i =>
    unfold CV.drop at h
    dsimp only at h
    cases hm : Nm.eqb m n with
    | true => rw [hm] at h; cases h
    | false =>
      rw [hm, cond_false] at h
      unfold loadCells at h ⊢
      dsimp only at h ⊢
      rw [ho m hm] at h
      cases hq : o m with
      | none => rw [hq] at h; cases h
      | some ob =>
        rw [hq] at h
        cases ob with
        | box cs => exact part_drop h
        | arr _ _ _ => cases h
        | mp _ _ _ _ => cases h
  | pa m s i j =>
    unfold CV.drop at h
    dsimp only at h
    cases hm : Nm.eqb m n with
    | true => rw [hm] at h; cases h
    | false =>
      rw [hm, cond_false] at h
      unfold loadCells at h ⊢
      dsimp only at h ⊢
      rw [ho m hm] at h
      cases hq : o m with
      | none => rw [hq] at h; cases h
      | some ob =>
        rw [hq] at h
        cases ob with
        | box cs => cases h
        | arr e t xs => exact ⟨v, h, part_nameless (split_nameless _ _) h⟩
        | mp _ _ _ _ => cases h
  | pe t x j => exact ⟨v, h, part_nameless (split_nameless _ _) h⟩
  | own m =>
    unfold CV.drop at h
    dsimp only at h
    cases hm : Nm.eqb m n <;> (rw [hm] at h; cases h)
  | clo f cs =>
    unfold CV.drop at h
    dsimp only at h
    cases hm : (cs.any fun p => Nm.eqb p.1 n) <;> (rw [hm] at h; cases h)
  | mp m =>
    unfold CV.drop at h
    dsimp only at h
    cases hm : Nm.eqb m n <;> (rw [hm] at h; cases h)
  | _ => cases h
theorem place_drop {n : Nm} {i : Nat} {p q : CV} (h : place i (p.drop n) = some q) : ∃ q', place i p = some q' ∧ q'.drop n = q := by
  cases p with
  | pb m k =>
    unfold CV.drop at h
    dsimp only at h
    cases hm : Nm.eqb m n with
    | true => rw [hm] at h; cases h
    | false =>
      rw [hm, cond_false] at h
      obtain rfl := Option.some.inj h
      refine ⟨_, rfl, ?_⟩
      unfold CV.drop
      dsimp only
      rw [hm]; rfl
  | pa m s k j =>
    unfold CV.drop at h
    dsimp only at h
    cases hm : Nm.eqb m n with
    | true => rw [hm] at h; cases h
    | false =>
      rw [hm, cond_false] at h
      obtain rfl := Option.some.inj h
      refine ⟨_, rfl, ?_⟩
      unfold CV.drop
      dsimp only
      rw [hm]; rfl
  | pe t x j => obtain rfl := Option.some.inj h; exact ⟨_, rfl, rfl⟩
  | own m =>
    unfold CV.drop at h
    dsimp only at h
    cases hm : Nm.eqb m n <;> (rw [hm] at h; cases h)
  | clo f cs =>
    unfold CV.drop at h
    dsimp only at h
    cases hm : (cs.any fun p => Nm.eqb p.1 n) <;> (rw [hm] at h; cases h)
  | mp m =>
    unfold CV.drop at h
    dsimp only at h
    cases hm : Nm.eqb m n <;> (rw [hm] at h; cases h)
  | _ => cases h
theorem idxAddr_drop {n : Nm} {o o' : Nm → Option Ob} (ho : Past n o o') {k : Nat} {i : Int} {p : CV} {c : Bool} {v : AV} (h : idxAddr o' k i (p.drop n) = some (c, v)) : ∃ v', idxAddr o k i p = some (c, v') ∧ v'.drop n = v := by
  cases p with
  | v t xs =>
    cases t with
    | sl t =>
      refine ⟨v, h, ?_⟩
      have h : (bif Nat.beq k t.sz then some (inb i (List.length xs), AV.c (.pe t (List.getD xs i.toNat t.zero) 0)) else none) = some (c, v) := h
      cases hb : Nat.beq k t.sz with
      | false => rw [hb] at h; cases h
      | true =>
        rw [hb] at h
        obtain ⟨_, rfl⟩ := Prod.mk.inj (Option.some.inj h)
        rfl
    | _ => cases h
  | own m =>
    unfold CV.drop at h
    dsimp only at h
    cases hm : Nm.eqb m n with
    | true => rw [hm] at h; cases h
    | false =>
      rw [hm, cond_false] at h
      unfold idxAddr at h ⊢
      dsimp only at h ⊢
      rw [ho m hm] at h
      cases hq : o m with
      | none => rw [hq] at h; cases h
      | some ob =>
        rw [hq] at h
        cases ob with
        | box cs => cases h
        | arr e t xs =>
          refine ⟨v, h, ?_⟩
          have h : (bif Nat.beq k t.sz then some (inb i xs.length, AV.c (.pa m t.sz i.toNat 0)) else none) = some (c, v) := h
          cases hb : Nat.beq k t.sz with
          | false => rw [hb] at h; cases h
          | true =>
            rw [hb] at h
            obtain ⟨_, rfl⟩ := Prod.mk.inj (Option.some.inj h)
            show AV.c (CV.drop n (.pa m t.sz i.toNat 0)) = _
            unfold CV.drop
            dsimp only
            rw [hm]; rfl
        | mp _ _ _ _ => cases h
  | pb m i =>
    unfold CV.drop at h
    dsimp only at h
    cases hm : Nm.eqb m n <;> (rw [hm] at h; cases h)
  | pa m s i j =>
    unfold CV.drop at h
    dsimp only at h
    cases hm : Nm.eqb m n <;> (rw [hm] at h; cases h)
  | clo f cs =>
    unfold CV.drop at h
    dsimp only at h
    cases hm : (cs.any fun p => Nm.eqb p.1 n) <;> (rw [hm] at h; cases h)
  | mp m =>
    unfold CV.drop at h
    dsimp only at h
    cases hm : Nm.eqb m n <;> (rw [hm] at h; cases h)
  | _ => cases h

theorem av_c {n : Nm} {v : AV} {p : CV} (h : v.drop n = .c p) : ∃ q, v = .c q ∧ q.drop n = p := by
  cases v with
  | c q => exact ⟨q, rfl, AV.c.inj h⟩
  | g cs => cases h
  | tup cs => cases h

theorem vop_drop {τ : Tab} {o : Oper} (hP : easyP o = true) {n : Nm} {e e' : Operand → AV} {ob ob' : Nm → Option Ob} (he : ∀ t, t ∈ slots o.op → e' (.tmp t) = (e (.tmp t)).drop n) (hc : ∀ x, (∀ t, x ≠ .tmp t) → e' x = (e x).drop n) (ho : Past n ob ob') {u : AV}
    (h : vop τ o.op e' ob' = some (true, u)) : ∃ u', vop τ o.op e ob = some (true, u') ∧ u'.drop n = u := by
  have look : ∀ x, (∀ t, x = .tmp t → t ∈ slots o.op) → e' x = (e x).drop n := fun x hx => by
    cases x with
    | tmp t => exact he t (hx t rfl)
    | _ => exact hc _ (fun t q => by cases q)
  unfold easyP at hP
  cases hd : o.dst with
  | none => rw [hd] at hP; cases hP
  | some d =>
    rw [hd] at hP
    dsimp only at hP
    cases hop : o.op with
    | move x =>
      rw [hop] at h look
      have hx := look x (fun t q => by subst q; exact List.mem_singleton.2 rfl)
      have h : some (true, e' x) = some (true, u) := h
      obtain ⟨_, rfl⟩ := Prod.mk.inj (Option.some.inj h)
      exact ⟨e x, rfl, hx.symm⟩
    | assign x =>
      rw [hop] at h look
      have hx := look x (fun t q => by subst q; exact List.mem_singleton.2 rfl)
      have h : some (true, e' x) = some (true, u) := h
      obtain ⟨_, rfl⟩ := Prod.mk.inj (Option.some.inj h)
      exact ⟨e x, rfl, hx.symm⟩
    | load t a =>
      rw [hop] at h look
      have hx := look a (fun t q => by subst q; exact List.mem_singleton.2 rfl)
      unfold vop at h ⊢
      dsimp only at h ⊢
      rw [hx] at h
      cases ht : τ.get t with
      | none => rw [ht] at h; cases h
      | some ti =>
        rw [ht] at h
        cases hv : e a with
        | g cs => rw [hv] at h; cases h
        | tup cs => rw [hv] at h; cases h
        | c p =>
          rw [hv] at h
          have h : (match loadCells ob' ti.size ti.agg (p.drop n) with | some v => some (true, v) | none => none) = some (true, u) := h
          cases hl : loadCells ob' ti.size ti.agg (p.drop n) with
          | none => rw [hl] at h; cases h
          | some w =>
            rw [hl] at h
            obtain ⟨_, rfl⟩ := Prod.mk.inj (Option.some.inj h)
            obtain ⟨v', h1, h2⟩ := loadCells_drop ho hl
            refine ⟨v', ?_, h2⟩
            show (match loadCells ob ti.size ti.agg p with | some v => some (true, v) | none => none) = _
            rw [h1]
    | fieldAddr st x f =>
      rw [hop] at h look
      have hx := look x (fun t q => by subst q; exact List.mem_singleton.2 rfl)
      unfold vop at h ⊢
      dsimp only at h ⊢
      rw [hx] at h
      cases ht : τ.get st with
      | none => rw [ht] at h; cases h
      | some ti =>
        rw [ht] at h
        cases hv : e x with
        | g cs => rw [hv] at h; cases h
        | tup cs => rw [hv] at h; cases h
        | c p =>
          rw [hv] at h
          have h : (bif Nat.beq ti.kind 2 then (match ti.fs[f]? with | some fd => (match place fd.1 (p.drop n) with | some q => some (true, AV.c q) | none => none) | none => none) else none) = some (true, u) := h
          show ∃ u', (bif Nat.beq ti.kind 2 then (match ti.fs[f]? with | some fd => (match place fd.1 p with | some q => some (true, AV.c q) | none => none) | none => none) else none) = some (true, u') ∧ u'.drop n = u
          cases hk : Nat.beq ti.kind 2 with
          | false => rw [hk] at h; cases h
          | true =>
            rw [hk, cond_true] at h
            rw [cond_true]
            cases hf : ti.fs[f]? with
            | none => rw [hf] at h; cases h
            | some fd =>
              rw [hf] at h
              dsimp only at h ⊢
              cases hl : place fd.1 (p.drop n) with
              | none => rw [hl] at h; cases h
              | some w =>
                rw [hl] at h
                obtain ⟨_, rfl⟩ := Prod.mk.inj (Option.some.inj h)
                obtain ⟨q', h1, h2⟩ := place_drop hl
                rw [h1]
                exact ⟨.c q', rfl, congrArg AV.c h2⟩
    | indexAddr t x i =>
      rw [hop] at h look
      have hx := look x (fun t q => by subst q; exact List.mem_append_left _ (List.mem_singleton.2 rfl))
      have hi := look i (fun t q => by subst q; exact List.mem_append_right _ (List.mem_singleton.2 rfl))
      unfold vop at h ⊢
      dsimp only at h ⊢
      rw [hx, hi] at h
      cases ht : τ.get t with
      | none => rw [ht] at h; cases h
      | some ti =>
        rw [ht] at h
        cases hv : e x with
        | g cs => rw [hv] at h; cases h
        | tup cs => rw [hv] at h; cases h
        | c p =>
          rw [hv] at h
          cases hw : e i with
          | g cs => rw [hw] at h; cases h
          | tup cs => rw [hw] at h; cases h
          | c r =>
            rw [hw] at h
            cases r with
            | v rt y =>
              cases rt with
              | int k =>
                have h : (bif Nat.beq ti.kind 3 then (match τ.get ti.el with | some te => idxAddr ob' te.size y (p.drop n) | none => none) else none) = some (true, u) := h
                show ∃ u', (bif Nat.beq ti.kind 3 then (match τ.get ti.el with | some te => idxAddr ob te.size y p | none => none) else none) = some (true, u') ∧ u'.drop n = u
                cases hk : Nat.beq ti.kind 3 with
                | false => rw [hk] at h; cases h
                | true =>
                  rw [hk, cond_true] at h
                  rw [cond_true]
                  cases hf : τ.get ti.el with
                  | none => rw [hf] at h; cases h
                  | some te =>
                    rw [hf] at h
                    exact idxAddr_drop ho h
              | _ => cases h
            | own m => unfold AV.drop CV.drop at h; dsimp only at h; cases hm : Nm.eqb m n <;> (rw [hm] at h; cases h)
            | pb m _ => unfold AV.drop CV.drop at h; dsimp only at h; cases hm : Nm.eqb m n <;> (rw [hm] at h; cases h)
            | pa m _ _ _ => unfold AV.drop CV.drop at h; dsimp only at h; cases hm : Nm.eqb m n <;> (rw [hm] at h; cases h)
            | clo f cs => unfold AV.drop CV.drop at h; dsimp only at h; cases hm : (cs.any fun p => Nm.eqb p.1 n) <;> (rw [hm] at h; cases h)
            | mp m => unfold AV.drop CV.drop at h; dsimp only at h; cases hm : Nm.eqb m n <;> (rw [hm] at h; cases h)
            | _ => cases h
    | _ => rw [hop] at hP; cases hP
/-! ### The three cases -/
theorem vop_same {τ : Tab} {o : Oper} (hP : easyP o = true) {e e' : Operand → AV} {ob : Nm → Option Ob} (he : ∀ t, t ∈ slots o.op → e' (.tmp t) = e (.tmp t)) (hc : ∀ x, (∀ t, x ≠ .tmp t) → e' x = e x) : vop τ o.op e' ob = vop τ o.op e ob := by
  have look : ∀ x, (∀ t, x = .tmp t → t ∈ slots o.op) → e' x = e x := fun x hx => by
    cases x with
    | tmp t => exact he t (hx t rfl)
    | _ => exact hc _ (fun t q => by cases q)
  unfold easyP at hP
  cases hd : o.dst with
  | none => rw [hd] at hP; cases hP
  | some d =>
    rw [hd] at hP
    dsimp only at hP
    cases hop : o.op with
    | move x =>
      rw [hop] at look
      show some (true, e' x) = some (true, e x)
      rw [look x (fun t q => by subst q; exact List.mem_singleton.2 rfl)]
    | assign x =>
      rw [hop] at look
      show some (true, e' x) = some (true, e x)
      rw [look x (fun t q => by subst q; exact List.mem_singleton.2 rfl)]
    | load t a =>
      rw [hop] at look
      unfold vop
      dsimp only
      rw [look a (fun t q => by subst q; exact List.mem_singleton.2 rfl)]
    | fieldAddr st x f =>
      rw [hop] at look
      unfold vop
      dsimp only
      rw [look x (fun t q => by subst q; exact List.mem_singleton.2 rfl)]
    | indexAddr t x i =>
      rw [hop] at look
      unfold vop
      dsimp only
      rw [look x (fun t q => by subst q; exact List.mem_append_left _ (List.mem_singleton.2 rfl)), look i (fun t q => by subst q; exact List.mem_append_right _ (List.mem_singleton.2 rfl))]
    | _ => rw [hop] at hP; cases hP

theorem memNat_false {n : Nat} {l : List Nat} (h : memNat n l = false) : n ∉ l := fun q => by
  rw [memNat_iff.2 q] at h; cases h
theorem dstNe_iff {a b : Oper} (h : dstNe a b = true) {d e : Nat} (hd : a.dst = some d) (he : b.dst = some e) : d ≠ e := by
  unfold dstNe at h
  rw [hd, he] at h
  intro q
  subst q
  have h : (!Nat.beq d d) = true := h
  rw [Nat.beq_refl] at h
  cases h
theorem noLook_iff {a b : Oper} (h : noLook a b = true) {d : Nat} (hd : a.dst = some d) : d ∉ slots b.op := by
  unfold noLook at h
  rw [hd] at h
  have h : (!memNat d (slots b.op)) = true := h
  exact memNat_false (by simpa using h)

theorem sw_PP {E : Env} {a b : Oper} (ha : easyP a = true) (hb : easyP b = true) (hn : dstNe a b = true) (h1 : noLook a b = true) (h2 : noLook b a = true) : Sw E a b := by
  intro s s1 s2 g1 g2
  obtain ⟨d, v, p1, p2, p3, rfl⟩ := (stpP ha).1 g1
  obtain ⟨e, u, q1, q2, q3, rfl⟩ := (stpP hb).1 g2
  have hde := dstNe_iff hn p1 q1
  have hl1 := noLook_iff h1 p1
  have hl2 := noLook_iff h2 q1
  have e1 : vop E.τ b.op (s.put (some d) v).ev (s.put (some d) v).o = vop E.τ b.op s.ev s.o := vop_same hb (fun t ht => by
    show (bif Nat.beq t d then v else s.t t) = s.t t
    rw [beq_ne (fun (q : t = d) => hl1 (q ▸ ht))]; rfl) (fun x hx => by cases x with | tmp t => exact absurd rfl (hx t) | _ => rfl)
  have e2 : vop E.τ a.op (s.put (some e) u).ev (s.put (some e) u).o = vop E.τ a.op s.ev s.o := vop_same ha (fun t ht => by
    show (bif Nat.beq t e then u else s.t t) = s.t t
    rw [beq_ne (fun (q : t = e) => hl2 (q ▸ ht))]; rfl) (fun x hx => by cases x with | tmp t => exact absurd rfl (hx t) | _ => rfl)
  rw [e1] at q3
  refine ⟨s.put (some e) u, (stpP hb).2 ⟨e, u, q1, q2, q3, rfl⟩, (stpP ha).2 ⟨d, v, p1, p2, e2.trans p3, ?_⟩⟩
  show St.mk _ _ = St.mk _ _
  congr 1
  funext i
  show (bif Nat.beq i e then u else bif Nat.beq i d then v else s.t i) = (bif Nat.beq i d then v else bif Nat.beq i e then u else s.t i)
  cases hi : Nat.beq i e with
  | false => rfl
  | true =>
    have := Nat.eq_of_beq_eq_true hi
    subst this
    rw [beq_ne (fun q => hde q.symm)]; rfl

theorem nm_ne {d e : Nat} (h : d ≠ e) : Nm.eqb [d, 0] [e, 0] = false := by
  unfold Nm.eqb
  rw [beq_ne h]; rfl
theorem sw_AP {E : Env} {a b : Oper} (ha : easyA E.τ a = true) (hb : easyP b = true) (hn : dstNe a b = true) (h1 : noLook a b = true) : Sw E a b := by
  intro s s1 s2 g1 g2
  obtain ⟨d, zc, p1, p2, p3, p4, rfl⟩ := (stpA ha).1 g1
  obtain ⟨e, u, q1, q2, q3, rfl⟩ := (stpP hb).1 g2
  have hde := dstNe_iff hn p1 q1
  have hl1 := noLook_iff h1 p1
  obtain ⟨u', r1, r2⟩ := vop_drop (n := [d, 0]) (e := s.ev) (ob := s.o) hb (fun t ht => by
    show (bif Nat.beq t d then AV.c (.pb [d, 0] 0) else (s.t t).drop [d, 0]) = (s.t t).drop [d, 0]
    rw [beq_ne (fun (q : t = d) => hl1 (q ▸ ht))]; rfl) (fun x hx => by
    cases x with
    | tmp t => exact absurd rfl (hx t)
    | const v => exact (ofConst_drop _ v).symm
    | global g => rfl
    | func f => rfl) (fun m hm => by
    show (bif Nm.eqb m [d, 0] then some (Ob.box zc) else bif Nm.eqb m [d, 0] then none else (s.o m).map (Ob.drop [d, 0])) = _
    rw [hm]; rfl) q3
  refine ⟨s.put (some e) u', (stpP hb).2 ⟨e, u', q1, q2, r1, rfl⟩, (stpA ha).2 ⟨d, zc, p1, p2, p3, p4, ?_⟩⟩
  show St.mk _ _ = St.mk _ _
  congr 1
  funext i
  show (bif Nat.beq i e then u else bif Nat.beq i d then AV.c (.pb [d, 0] 0) else (s.t i).drop [d, 0]) = (bif Nat.beq i d then AV.c (.pb [d, 0] 0) else AV.drop [d, 0] (bif Nat.beq i e then u' else s.t i))
  cases hi : Nat.beq i e with
  | false => rfl
  | true =>
    have := Nat.eq_of_beq_eq_true hi
    subst this
    rw [beq_ne (fun q => hde q.symm)]
    exact r2.symm

theorem sw_AA {E : Env} {a b : Oper} (ha : easyA E.τ a = true) (hb : easyA E.τ b = true) (hn : dstNe a b = true) : Sw E a b := by
  intro s s1 s2 g1 g2
  obtain ⟨d, zc, p1, p2, p3, p4, rfl⟩ := (stpA ha).1 g1
  obtain ⟨e, ze, q1, q2, q3, q4, rfl⟩ := (stpA hb).1 g2
  have hde := dstNe_iff hn p1 q1
  refine ⟨_, (stpA hb).2 ⟨e, ze, q1, q2, q3, q4, rfl⟩, (stpA ha).2 ⟨d, zc, p1, p2, p3, p4, ?_⟩⟩
  have dd : ∀ {x y : Nat}, x ≠ y → AV.drop [y, 0] (.c (.pb [x, 0] 0)) = .c (.pb [x, 0] 0) := fun {x y} h => by
    show AV.c (CV.drop [y, 0] (.pb [x, 0] 0)) = _
    unfold CV.drop
    dsimp only
    rw [nm_ne h]; rfl
  have ob : ∀ {z : List CV} (y : Nm), z.all nameless = true → Ob.drop y (.box z) = .box z := fun {z} y h => congrArg Ob.box (namelesss_drop h)
  show St.mk _ _ = St.mk _ _
  congr 1
  · funext i
    show (bif Nat.beq i e then AV.c (.pb [e, 0] 0) else AV.drop [e, 0] (bif Nat.beq i d then AV.c (.pb [d, 0] 0) else AV.drop [d, 0] (s.t i))) = (bif Nat.beq i d then AV.c (.pb [d, 0] 0) else AV.drop [d, 0] (bif Nat.beq i e then AV.c (.pb [e, 0] 0) else AV.drop [e, 0] (s.t i)))
    cases hi : Nat.beq i e with
    | true =>
      have := Nat.eq_of_beq_eq_true hi
      subst this
      rw [beq_ne (fun q => hde q.symm)]
      exact (dd (fun q => hde q.symm)).symm
    | false =>
      cases hj : Nat.beq i d with
      | true =>
        have := Nat.eq_of_beq_eq_true hj
        subst this
        exact dd hde
      | false => exact AV.drop_comm _ _ _
  · funext m
    show (bif Nm.eqb m [e, 0] then some (Ob.box ze) else bif Nm.eqb m [e, 0] then none else Option.map (Ob.drop [e, 0]) (bif Nm.eqb m [d, 0] then some (Ob.box zc) else bif Nm.eqb m [d, 0] then none else (s.o m).map (Ob.drop [d, 0]))) =
      (bif Nm.eqb m [d, 0] then some (Ob.box zc) else bif Nm.eqb m [d, 0] then none else Option.map (Ob.drop [d, 0]) (bif Nm.eqb m [e, 0] then some (Ob.box ze) else bif Nm.eqb m [e, 0] then none else (s.o m).map (Ob.drop [e, 0])))
    cases hi : Nm.eqb m [e, 0] with
    | true =>
      have := eqb_iff.1 hi
      subst this
      rw [nm_ne (fun q => hde q.symm)]
      exact congrArg some (ob _ q3).symm
    | false =>
      cases hj : Nm.eqb m [d, 0] with
      | true => exact congrArg some (ob _ p3)
      | false =>
        show Option.map _ (Option.map _ _) = Option.map _ (Option.map _ _)
        rw [Option.map_map, Option.map_map]
        cases s.o m with
        | none => rfl
        | some x => exact congrArg some (Ob.drop_comm _ _ _)

theorem sw_of {E : Env} {a b : Oper} (h : swB E.τ a b = true) : Sw E a b := by
  unfold swB at h
  rw [Bool.and_eq_true, Bool.or_eq_true, Bool.or_eq_true] at h
  obtain ⟨hn, h | h | h⟩ := h
  · rw [Bool.and_eq_true, Bool.and_eq_true, Bool.and_eq_true] at h
    exact sw_PP h.1 h.2.1 hn h.2.2.1 h.2.2.2
  · rw [Bool.and_eq_true, Bool.and_eq_true] at h
    exact sw_AP h.1 h.2.1 hn h.2.2
  · rw [Bool.and_eq_true] at h
    exact sw_AA h.1 h.2 hn

/-! ### A store into a box just made: it may stand ahead of what looks elsewhere -/
/-- The box that an alloc has made: its slot alone leads to it. -/
def Inv (d : Nat) (s : St) : Prop :=
  s.t d = .c (.pb [d, 0] 0) ∧ (∀ t, t ≠ d → (s.t t).drop [d, 0] = s.t t) ∧ (∀ m, Nm.eqb m [d, 0] = false → (s.o m).map (Ob.drop [d, 0]) = s.o m)

theorem CV.drop_idem (n : Nm) (c : CV) : (c.drop n).drop n = c.drop n := by
  cases c <;> try rfl
  all_goals
    unfold CV.drop
    dsimp only
  case own k => cases h1 : Nm.eqb k n <;> simp [h1]
  case pb k i => cases h1 : Nm.eqb k n <;> simp [h1]
  case pa k s i j => cases h1 : Nm.eqb k n <;> simp [h1]
  case clo f cs => cases h1 : (cs.any fun p => Nm.eqb p.1 n) <;> simp [h1]
  case mp k => cases h1 : Nm.eqb k n <;> simp [h1]
theorem AV.drop_idem (n : Nm) (v : AV) : (v.drop n).drop n = v.drop n := by
  have hl : ∀ cs : List CV, (cs.map (CV.drop n)).map (CV.drop n) = cs.map (CV.drop n) := fun cs => by
    rw [List.map_map]
    exact List.map_congr_left fun c _ => CV.drop_idem n c
  cases v with
  | c x => exact congrArg AV.c (CV.drop_idem n x)
  | g cs => exact congrArg AV.g (hl cs)
  | tup cs =>
    show AV.tup (List.map _ (List.map _ cs)) = AV.tup _
    rw [List.map_map]
    congr 1
    refine List.map_congr_left fun p _ => ?_
    exact congrArg (Prod.mk p.1) (hl p.2)
theorem Ob.drop_idem (n : Nm) (x : Ob) : (x.drop n).drop n = x.drop n := by
  cases x with
  | box cs =>
    show Ob.box _ = Ob.box _
    rw [List.map_map]
    exact congrArg Ob.box (List.map_congr_left fun c _ => CV.drop_idem n c)
  | arr _ _ _ => rfl
  | mp _ _ _ _ => rfl

section
variable {E : Env} {o : Oper} {s s1 : St} {d : Nat}

theorem ev_const (s s' : St) (x : Operand) (hx : ∀ t, x ≠ .tmp t) : s.ev x = s'.ev x := by
  cases x with
  | tmp t => exact absurd rfl (hx t)
  | _ => rfl
theorem ev_const_drop (s : St) (n : Nm) (x : Operand) (hx : ∀ t, x ≠ .tmp t) : s.ev x = (s.ev x).drop n := by
  cases x with
  | tmp t => exact absurd rfl (hx t)
  | const v => exact (ofConst_drop _ v).symm
  | global g => rfl
  | func f => rfl

theorem inv_alloc (h : easyA E.τ o = true) (hd : o.dst = some d) (hs : stp E o s = some s1) : Inv d s1 := by
  obtain ⟨d', zc, p1, p2, p3, p4, rfl⟩ := (stpA h).1 hs
  rw [hd] at p1
  obtain rfl := Option.some.inj p1
  refine ⟨?_, fun t ht => ?_, fun m hm => ?_⟩
  · show (bif Nat.beq d d then _ else _) = _
    rw [Nat.beq_refl]; rfl
  · show AV.drop [d, 0] (bif Nat.beq t d then _ else (s.t t).drop [d, 0]) = (bif Nat.beq t d then _ else (s.t t).drop [d, 0])
    rw [beq_ne ht]
    exact AV.drop_idem _ _
  · show Option.map _ (bif Nm.eqb m [d, 0] then some (Ob.box zc) else bif Nm.eqb m [d, 0] then none else (s.o m).map (Ob.drop [d, 0])) = (bif Nm.eqb m [d, 0] then some (Ob.box zc) else bif Nm.eqb m [d, 0] then none else (s.o m).map (Ob.drop [d, 0]))
    rw [hm]
    show Option.map _ (Option.map _ _) = Option.map _ _
    rw [Option.map_map]
    cases s.o m with
    | none => rfl
    | some x => exact congrArg some (Ob.drop_idem _ _)

theorem inv_alloc_ne (hi : Inv d s) (h : easyA E.τ o = true) {e : Nat} (he : o.dst = some e) (hne : d ≠ e) (hs : stp E o s = some s1) : Inv d s1 := by
  obtain ⟨e', zc, p1, p2, p3, p4, rfl⟩ := (stpA h).1 hs
  rw [he] at p1
  obtain rfl := Option.some.inj p1
  have dd : ∀ {x y : Nat}, x ≠ y → AV.drop [y, 0] (.c (.pb [x, 0] 0)) = .c (.pb [x, 0] 0) := fun {x y} h => by
    show AV.c (CV.drop [y, 0] (.pb [x, 0] 0)) = _
    unfold CV.drop
    dsimp only
    rw [nm_ne h]; rfl
  refine ⟨?_, fun t ht => ?_, fun m hm => ?_⟩
  · show (bif Nat.beq d e then _ else (s.t d).drop [e, 0]) = _
    rw [beq_ne hne, hi.1]
    exact dd hne
  · show AV.drop [d, 0] (bif Nat.beq t e then AV.c (.pb [e, 0] 0) else (s.t t).drop [e, 0]) = (bif Nat.beq t e then AV.c (.pb [e, 0] 0) else (s.t t).drop [e, 0])
    cases hj : Nat.beq t e with
    | true => exact dd (fun q => hne q.symm)
    | false =>
      show AV.drop [d, 0] ((s.t t).drop [e, 0]) = (s.t t).drop [e, 0]
      rw [AV.drop_comm, hi.2.1 t ht]
  · show Option.map _ (bif Nm.eqb m [e, 0] then some (Ob.box zc) else bif Nm.eqb m [e, 0] then none else (s.o m).map (Ob.drop [e, 0])) = (bif Nm.eqb m [e, 0] then some (Ob.box zc) else bif Nm.eqb m [e, 0] then none else (s.o m).map (Ob.drop [e, 0]))
    cases hj : Nm.eqb m [e, 0] with
    | true => exact congrArg some (congrArg Ob.box (namelesss_drop p3))
    | false =>
      show Option.map (Ob.drop [d, 0]) (Option.map (Ob.drop [e, 0]) (s.o m)) = Option.map (Ob.drop [e, 0]) (s.o m)
      have := hi.2.2 m hm
      cases hq : s.o m with
      | none => rfl
      | some x =>
        rw [hq] at this
        have this : Ob.drop [d, 0] x = x := Option.some.inj this
        show some (Ob.drop [d, 0] (Ob.drop [e, 0] x)) = some (Ob.drop [e, 0] x)
        rw [Ob.drop_comm, this]

/-- What looks elsewhere finds nothing that leads to the box, and finds the same whatever stands in the box. -/
theorem vop_inv (hi : Inv d s) (hP : easyP o = true) (hl : d ∉ slots o.op) {u : AV} (h : vop E.τ o.op s.ev s.o = some (true, u)) : u.drop [d, 0] = u ∧ ∀ ob, vop E.τ o.op s.ev (fun m => bif Nm.eqb m [d, 0] then some ob else s.o m) = some (true, u) := by
  have he : ∀ t, t ∈ slots o.op → s.ev (.tmp t) = (s.ev (.tmp t)).drop [d, 0] := fun t ht => (hi.2.1 t (fun (q : t = d) => hl (q ▸ ht))).symm
  have hc : ∀ x, (∀ t, x ≠ .tmp t) → s.ev x = (s.ev x).drop [d, 0] := fun x hx => ev_const_drop s _ x hx
  have h1 : u.drop [d, 0] = u := by
    obtain ⟨u', g1, g2⟩ := vop_drop (n := [d, 0]) (e := s.ev) (e' := s.ev) (ob := s.o) (ob' := s.o) hP he hc (fun m hm => (hi.2.2 m hm).symm) h
    rw [h] at g1
    obtain ⟨_, rfl⟩ := Prod.mk.inj (Option.some.inj g1)
    exact g2
  refine ⟨h1, fun ob => ?_⟩
  obtain ⟨u', g1, g2⟩ := vop_drop (n := [d, 0]) (e := s.ev) (e' := s.ev) (ob := fun m => bif Nm.eqb m [d, 0] then some ob else s.o m) (ob' := s.o) hP he hc (fun m hm => by
    show s.o m = Option.map _ (bif Nm.eqb m [d, 0] then some ob else s.o m)
    rw [hm]
    exact (hi.2.2 m hm).symm) h
  obtain ⟨u'', g3, g4⟩ := vop_drop (n := [d, 0]) (e := s.ev) (e' := s.ev) (ob := s.o) (ob' := fun m => bif Nm.eqb m [d, 0] then some ob else s.o m) hP he hc (fun m hm => by
    show (bif Nm.eqb m [d, 0] then some ob else s.o m) = _
    rw [hm]
    exact (hi.2.2 m hm).symm) g1
  rw [h] at g3
  obtain ⟨_, rfl⟩ := Prod.mk.inj (Option.some.inj g3)
  rw [g1, ← g4, h1]

theorem inv_P (hi : Inv d s) (hP : easyP o = true) (hl : d ∉ slots o.op) {e : Nat} (he : o.dst = some e) (hne : d ≠ e) (hs : stp E o s = some s1) : Inv d s1 := by
  obtain ⟨e', u, p1, p2, p3, rfl⟩ := (stpP hP).1 hs
  rw [he] at p1
  obtain rfl := Option.some.inj p1
  have hu := (vop_inv hi hP hl p3).1
  refine ⟨?_, fun t ht => ?_, fun m hm => hi.2.2 m hm⟩
  · show (bif Nat.beq d e then _ else s.t d) = _
    rw [beq_ne hne]; exact hi.1
  · show AV.drop [d, 0] (bif Nat.beq t e then u else s.t t) = (bif Nat.beq t e then u else s.t t)
    cases hj : Nat.beq t e with
    | true => exact hu
    | false => exact hi.2.1 t ht

/-- A store through a slot. -/
def storeB (o : Oper) (d : Nat) : Bool := match o.dst, o.op with
  | none, .store _ (.tmp a) _ => Nat.beq a d
  | _, _ => false
def stored : Op → List Nat
  | .store _ _ x => slotOf x
  | _ => []
theorem stpS (h : storeB o d = true) (hi : s.t d = .c (.pb [d, 0] 0)) (hs : stp E o s = some s1) : ∃ ob, s1 = s.setO [d, 0] ob ∧ ∀ s2 : St, s2.t d = .c (.pb [d, 0] 0) → s2.o [d, 0] = s.o [d, 0] → (∀ t ∈ stored o.op, s2.t t = s.t t) → stp E o s2 = some (s2.setO [d, 0] ob) := by
  unfold storeB at h
  cases hd : o.dst with
  | some e => rw [hd] at h; cases h
  | none =>
    rw [hd] at h
    cases hop : o.op with
    | store T a x =>
      rw [hop] at h
      cases a with
      | tmp a =>
        have h : Nat.beq a d = true := h
        have := Nat.eq_of_beq_eq_true h
        subst this
        have hx : ∀ s2 : St, (∀ t ∈ stored o.op, s2.t t = s.t t) → s2.ev x = s.ev x := fun s2 h2 => by
          cases x with
          | tmp t => exact h2 t (by rw [hop]; exact List.mem_singleton.2 rfl)
          | _ => rfl
        have form : ∀ s2 : St, s2.t a = .c (.pb [a, 0] 0) → stp E o s2 = (match E.τ.get T, asCells (s2.ev x) with
            | some ti, some new => bif (Nat.beq new.length ti.size && new.all CV.fine) then (match s2.o [a, 0] with
              | some (.box cs) => bif Nat.ble (0 + new.length) cs.length then some (s2.setO [a, 0] (.box (spl cs 0 new))) else none
              | _ => none) else none
            | _, _ => none) := by
          intro s2 h2
          unfold stp
          rw [opK_tail (by rw [hop]; rfl), hop]
          unfold tailK
          rw [hd]
          have hv : vop E.τ (.store T (.tmp a) x) s2.ev s2.o = none := rfl
          rw [hv]
          dsimp only
          have hw : wop E.τ (.store T (.tmp a) x) none s2 = (match E.τ.get T, s2.ev (.tmp a), asCells (s2.ev x) with
            | some ti, .c p, some new => bif (Nat.beq new.length ti.size && new.all CV.fine) then (match storeTo s2.o new p with
              | some (nm, ob) => some (true, (s2.setO nm ob).put none (.c .dead))
              | none => none) else none
            | _, _, _ => none) := rfl
          rw [hw, show s2.ev (.tmp a) = .c (.pb [a, 0] 0) from h2]
          cases E.τ.get T with
          | none => rfl
          | some ti =>
            cases asCells (s2.ev x) with
            | none => rfl
            | some new =>
              dsimp only
              cases (Nat.beq new.length ti.size && new.all CV.fine) with
              | false => rfl
              | true =>
                dsimp only [cond_true]
                unfold storeTo
                dsimp only
                cases s2.o [a, 0] with
                | none => rfl
                | some ob =>
                  cases ob with
                  | box cs => dsimp only; cases Nat.ble (0 + new.length) cs.length <;> rfl
                  | arr _ _ _ => rfl
                  | mp _ _ _ _ => rfl
        rw [form s hi] at hs
        cases hT : E.τ.get T with
        | none => rw [hT] at hs; cases hs
        | some ti =>
          rw [hT] at hs
          cases hn : asCells (s.ev x) with
          | none => rw [hn] at hs; cases hs
          | some new =>
            rw [hn] at hs
            dsimp only at hs
            cases hz : (Nat.beq new.length ti.size && new.all CV.fine) with
            | false => rw [hz] at hs; cases hs
            | true =>
              rw [hz, cond_true] at hs
              cases ho : s.o [a, 0] with
              | none => rw [ho] at hs; cases hs
              | some ob =>
                rw [ho] at hs
                cases ob with
                | arr _ _ _ => cases hs
                | mp _ _ _ _ => cases hs
                | box cs =>
                  dsimp only at hs
                  cases hb : Nat.ble (0 + new.length) cs.length with
                  | false => rw [hb] at hs; cases hs
                  | true =>
                    rw [hb, cond_true] at hs
                    refine ⟨.box (spl cs 0 new), (Option.some.inj hs).symm, fun s2 g1 g2 g3 => ?_⟩
                    rw [form s2 g1, hx s2 (by rw [hop]; exact g3), hn, hT, g2]
                    dsimp only
                    rw [hz, hb]; rfl
      | _ => cases h
    | _ => rw [hop] at h; cases h
end

/-- What may be overtaken by the store. -/
def overB (d : Nat) (p q : Oper) : Bool := easyP p && (match p.dst with
  | some e => !Nat.beq d e && !memNat e (stored q.op)
  | none => false) && !memNat d (slots p.op)
theorem sw_PS {E : Env} {p q : Oper} {d : Nat} (ho : overB d p q = true) (hq : storeB q d = true) {s s1 s2 : St} (hi : Inv d s) (g1 : stp E p s = some s1) (g2 : stp E q s1 = some s2) : Inv d s1 ∧ ∃ s1', stp E q s = some s1' ∧ stp E p s1' = some s2 := by
  unfold overB at ho
  rw [Bool.and_eq_true, Bool.and_eq_true] at ho
  obtain ⟨⟨hP, he⟩, hl⟩ := ho
  have hl : d ∉ slots p.op := memNat_false (by simpa using hl)
  obtain ⟨e, u, p1, p2, p3, rfl⟩ := (stpP hP).1 g1
  rw [p1] at he
  have he : (!Nat.beq d e && !memNat e (stored q.op)) = true := he
  rw [Bool.and_eq_true] at he
  have hne : d ≠ e := fun h => by
    subst h
    have := he.1
    rw [Nat.beq_refl] at this
    cases this
  have hns : e ∉ stored q.op := memNat_false (by simpa using he.2)
  have hi1 := inv_P hi hP hl p1 hne g1
  refine ⟨hi1, ?_⟩
  obtain ⟨ob, rfl, h2⟩ := stpS hq hi1.1 g2
  have h3 := h2 s hi.1 rfl (fun t ht => by
    show s.t t = (bif Nat.beq t e then u else s.t t)
    rw [beq_ne (fun (x : t = e) => hns (x ▸ ht))]; rfl)
  refine ⟨_, h3, (stpP hP).2 ⟨e, u, p1, p2, ?_, rfl⟩⟩
  exact (vop_inv hi hP hl p3).2 ob

theorem bubbleS {E : Env} {q : Oper} {d : Nat} (hq : storeB q d = true) {rest : List Oper} : ∀ {pre : List Oper} {s y : St}, Inv d s → (∀ a ∈ pre, overB d a q = true) → run E (pre ++ q :: rest) s = some y → run E (q :: (pre ++ rest)) s = some y
  | [], s, y, _, _, h => h
  | a :: pre, s, y, hi, hs, h => by
    have h : (stp E a s).bind (run E (pre ++ q :: rest)) = some y := h
    obtain ⟨s1, h1, h2⟩ := Option.bind_eq_some_iff.1 h
    have ha := hs a (List.mem_cons_self ..)
    have hi1 : Inv d s1 := by
      have ha' := ha
      unfold overB at ha'
      rw [Bool.and_eq_true, Bool.and_eq_true] at ha'
      obtain ⟨⟨hP, he⟩, hl⟩ := ha'
      obtain ⟨e, u, p1, _⟩ := (stpP hP).1 h1
      rw [p1] at he
      have he : (!Nat.beq d e && !memNat e (stored q.op)) = true := he
      rw [Bool.and_eq_true] at he
      refine inv_P hi hP (memNat_false (by simpa using hl)) p1 (fun h => ?_) h1
      subst h
      have := he.1
      rw [Nat.beq_refl] at this
      cases this
    have h3 := bubbleS hq hi1 (fun b hb => hs b (List.mem_cons_of_mem _ hb)) h2
    have h3 : (stp E q s1).bind (run E (pre ++ rest)) = some y := h3
    obtain ⟨s2, h4, h5⟩ := Option.bind_eq_some_iff.1 h3
    obtain ⟨_, s1', h6, h7⟩ := sw_PS ha hq hi h1 h4
    show (stp E q s).bind (fun t => (stp E a t).bind (run E (pre ++ rest))) = some y
    rw [h6, Option.bind_some, h7, Option.bind_some]
    exact h5

/-! ### All orders -/
/-- One alloc and the first store into its box: their places and the slot. -/
structure Sto where
  a : Nat
  s : Nat
  d : Nat
def pairAt (τ : Tab) (l : List Oper) (z : Sto) (i j : Nat) : Bool := match l[i]?, l[j]? with
  | some a, some b => memNat i (afters b) || (swB τ a b || (Nat.beq j z.s && overB z.d a b))
  | _, _ => false
def pairs (τ : Tab) (l : List Oper) (z : Sto) : List Nat → Bool
  | [] => true
  | i :: r => r.all (pairAt τ l z i) && pairs τ l z r
/-- What may be done ahead of the store. -/
def aheadB (τ : Tab) (l : List Oper) (z : Sto) (i : Nat) : Bool := Nat.beq i z.s || (Nat.beq i z.a || (match l[i]? with
  | some o => memNat z.s (afters o) || ((easyP o && ((match o.dst with | some e => !Nat.beq z.d e | none => false) && !memNat z.d (slots o.op))) || (easyA τ o && (match o.dst with | some e => !Nat.beq z.d e | none => false)))
  | none => true))
/-- The alloc is one, the store is one, and stands behind it; or there is none. -/
def stoB (τ : Tab) (l : List Oper) (z : Sto) : Bool := match l[z.s]? with
  | some q => storeB q z.d && (memNat z.a (afters q) && (match l[z.a]? with
    | some o => easyA τ o && (match o.dst with | some e => Nat.beq z.d e | none => false)
    | none => false))
  | none => true

theorem pairs_at {τ : Tab} {l : List Oper} {z : Sto} : ∀ {pre post : List Nat} {i : Nat}, pairs τ l z (pre ++ i :: post) = true → (∀ a ∈ pre, pairAt τ l z a i = true) ∧ pairs τ l z (pre ++ post) = true
  | [], post, i, h => by
    have h : (post.all (pairAt τ l z i) && pairs τ l z post) = true := h
    rw [Bool.and_eq_true] at h
    exact ⟨fun a ha => (by cases ha), h.2⟩
  | b :: pre, post, i, h => by
    have h : ((pre ++ i :: post).all (pairAt τ l z b) && pairs τ l z (pre ++ i :: post)) = true := h
    rw [Bool.and_eq_true] at h
    obtain ⟨h1, h2⟩ := pairs_at h.2
    have h3 := List.all_eq_true.1 h.1
    refine ⟨fun a ha => ?_, ?_⟩
    · rcases List.mem_cons.1 ha with q | q
      · subst q; exact h3 i (by simp)
      · exact h1 a q
    · show ((pre ++ post).all (pairAt τ l z b) && pairs τ l z (pre ++ post)) = true
      rw [Bool.and_eq_true]
      refine ⟨List.all_eq_true.2 fun x hx => h3 x ?_, h2⟩
      rcases List.mem_append.1 hx with q | q
      · exact List.mem_append_left _ q
      · exact List.mem_append_right _ (List.mem_cons_of_mem _ q)

theorem opsOf_app (l : List Oper) (a b : List Nat) : opsOf l (a ++ b) = opsOf l a ++ opsOf l b := List.filterMap_append
theorem inv_step {E : Env} {l : List Oper} {z : Sto} {i : Nat} {o : Oper} {s s1 : St} (ho : l[i]? = some o) (ha : aheadB E.τ l z i = true) (h1 : i ≠ z.s) (h2 : i ≠ z.a) (h3 : memNat z.s (afters o) = false) (hi : Inv z.d s) (hs : stp E o s = some s1) : Inv z.d s1 := by
  unfold aheadB at ha
  rw [beq_ne h1, beq_ne h2, ho] at ha
  have ha : (memNat z.s (afters o) || ((easyP o && ((match o.dst with | some e => !Nat.beq z.d e | none => false) && !memNat z.d (slots o.op))) || (easyA E.τ o && (match o.dst with | some e => !Nat.beq z.d e | none => false)))) = true := ha
  rw [h3, Bool.false_or, Bool.or_eq_true, Bool.and_eq_true, Bool.and_eq_true, Bool.and_eq_true] at ha
  have ne : ∀ {e : Nat}, (!Nat.beq z.d e) = true → z.d ≠ e := fun {e} h q => by
    rw [← q, Nat.beq_refl] at h
    cases h
  rcases ha with ⟨g1, g2, g3⟩ | ⟨g1, g2⟩
  · obtain ⟨e, u, p1, _⟩ := (stpP g1).1 hs
    rw [p1] at g2
    exact inv_P hi g1 (memNat_false (by simpa using g3)) p1 (ne g2) hs
  · obtain ⟨e, zc, p1, _⟩ := (stpA g1).1 hs
    rw [p1] at g2
    exact inv_alloc_ne hi g1 p1 (ne g2) hs

theorem exts_run {E : Env} {l : List Oper} {z : Sto} (hz : stoB E.τ l z = true) : ∀ (n : Nat) (rem L : List Nat) (s y : St), L.Nodup → (∀ i, i ∈ L ↔ i ∈ rem) → L.length = n → pairs E.τ l z L = true → (∀ i ∈ L, aheadB E.τ l z i = true) → (z.s ∈ rem → z.a ∉ rem → (∃ o, l[z.s]? = some o) → Inv z.d s) → run E (opsOf l L) s = some y → ∀ π ∈ extsN l n rem, run E (opsOf l π) s = some y
  | 0, rem, L, s, y, _, _, hl, _, _, _, h, π, hπ => by
    obtain rfl := List.eq_nil_of_length_eq_zero hl
    obtain rfl := List.mem_singleton.1 hπ
    exact h
  | n + 1, rem, L, s, y, hnd, hm, hl, hp, hah, hinv, h, π, hπ => by
    obtain ⟨i, hi, hπ⟩ := List.mem_flatMap.1 hπ
    cases hf : freeOf l rem i with
    | false => rw [hf] at hπ; cases hπ
    | true =>
      rw [hf] at hπ
      obtain ⟨π', hπ', rfl⟩ := List.mem_map.1 hπ
      obtain ⟨pre, post, rfl⟩ := List.append_of_mem ((hm i).2 hi)
      obtain ⟨h1, h2⟩ := pairs_at hp
      obtain ⟨o, ho⟩ : ∃ o, l[i]? = some o := by
        unfold freeOf at hf
        cases hq : l[i]? with
        | none => rw [hq] at hf; cases hf
        | some o => exact ⟨o, rfl⟩
      have hfr : ∀ a, a ∈ rem → memNat a (afters o) = false := fun a ha => by
        unfold freeOf at hf
        rw [ho] at hf
        cases hq : memNat a (afters o) with
        | false => rfl
        | true =>
          have := List.all_eq_true.1 hf a (memNat_iff.1 hq)
          rw [memNat_iff.2 ha] at this
          cases this
      have hfree : ∀ a ∈ pre, memNat a (afters o) = false := fun a ha => hfr a ((hm a).1 (List.mem_append_left _ ha))
      have e1 : opsOf l (pre ++ i :: post) = opsOf l pre ++ o :: opsOf l post := by
        rw [opsOf_app]
        congr 1
        show List.filterMap _ (i :: post) = _
        rw [List.filterMap_cons, ho]; rfl
      rw [e1] at h
      have hb : run E (o :: (opsOf l pre ++ opsOf l post)) s = some y := by
        by_cases his : i = z.s
        · have hzs : storeB o z.d = true ∧ memNat z.a (afters o) = true := by
            have := hz
            unfold stoB at this
            rw [← his, ho] at this
            have this : (storeB o z.d && (memNat z.a (afters o) && _)) = true := this
            rw [Bool.and_eq_true, Bool.and_eq_true] at this
            exact ⟨this.1, this.2.1⟩
          have hza : z.a ∉ rem := fun q => by
            rw [hfr z.a q] at hzs
            exact absurd hzs.2 (by decide)
          refine bubbleS hzs.1 (hinv (his ▸ hi) hza ⟨o, his ▸ ho⟩) (fun a ha => ?_) h
          obtain ⟨k, hk, hka⟩ := List.mem_filterMap.1 ha
          have := h1 k hk
          unfold pairAt at this
          rw [hka, ho] at this
          have this : (memNat k (afters o) || (swB E.τ a o || (Nat.beq i z.s && overB z.d a o))) = true := this
          rw [hfree k hk, Bool.false_or, Bool.or_eq_true] at this
          rcases this with q | q
          · exfalso
            have hno : o.dst = none := by
              have := hzs.1
              unfold storeB at this
              cases hd : o.dst with
              | none => rfl
              | some e => rw [hd] at this; cases this
            unfold swB dstNe at q
            rw [hno] at q
            cases hd : a.dst with
            | none => rw [hd] at q; cases q
            | some e => rw [hd] at q; cases q
          · rw [Bool.and_eq_true] at q
            exact q.2
        · refine bubbleSw (x := o) (rest := opsOf l post) (pre := opsOf l pre) (fun a ha => ?_) h
          obtain ⟨k, hk, hka⟩ := List.mem_filterMap.1 ha
          have := h1 k hk
          unfold pairAt at this
          rw [hka, ho] at this
          have this : (memNat k (afters o) || (swB E.τ a o || (Nat.beq i z.s && overB z.d a o))) = true := this
          rw [hfree k hk, Bool.false_or, beq_ne his, Bool.false_and, Bool.or_false] at this
          exact sw_of this
      rw [← opsOf_app] at hb
      have hb : (stp E o s).bind (run E (opsOf l (pre ++ post))) = some y := hb
      obtain ⟨s1, g1, g2⟩ := Option.bind_eq_some_iff.1 hb
      have hnd' : (pre ++ post).Nodup ∧ i ∉ pre ++ post := by
        have := (List.perm_middle (a := i) (l₁ := pre) (l₂ := post)).nodup_iff.1 hnd
        exact ⟨(List.nodup_cons.1 this).2, (List.nodup_cons.1 this).1⟩
      have hrem : ∀ j, j ∈ remNat i rem ↔ j ∈ rem ∧ j ≠ i := fun j => by
        unfold remNat
        rw [List.mem_filter]
        constructor
        · rintro ⟨q1, q2⟩
          refine ⟨q1, fun e => ?_⟩
          rw [e, Nat.beq_refl] at q2
          cases q2
        · rintro ⟨q1, q2⟩
          refine ⟨q1, ?_⟩
          rw [beq_ne (fun e => q2 e.symm)]; rfl
      have ih := exts_run hz n (remNat i rem) (pre ++ post) s1 y hnd'.1 (fun j => by
        rw [hrem, ← hm j, List.mem_append, List.mem_append, List.mem_cons]
        constructor
        · intro q
          have hne : j ≠ i := fun e => hnd'.2 (by rw [← e]; exact List.mem_append.2 q)
          exact ⟨q.imp id .inr, hne⟩
        · rintro ⟨q, hne⟩
          rcases q with q | q | q
          · exact .inl q
          · exact absurd q hne
          · exact .inr q) (by simp at hl ⊢; omega) h2 (fun j hj => hah j (by
        rcases List.mem_append.1 hj with q | q
        · exact List.mem_append_left _ q
        · exact List.mem_append_right _ (List.mem_cons_of_mem _ q))) (fun q1 q2 q3 => by
        rw [hrem] at q1
        by_cases hia : i = z.a
        · have := hz
          unfold stoB at this
          obtain ⟨q, hq⟩ := q3
          rw [hq, ← hia, ho] at this
          have this : (storeB q z.d && (memNat i (afters q) && (easyA E.τ o && (match o.dst with | some e => Nat.beq z.d e | none => false)))) = true := this
          rw [Bool.and_eq_true, Bool.and_eq_true, Bool.and_eq_true] at this
          have ha := this.2.2.1
          have hd := this.2.2.2
          cases ho2 : o.dst with
          | none => rw [ho2] at hd; cases hd
          | some e =>
            rw [ho2] at hd
            have := Nat.eq_of_beq_eq_true hd
            subst this
            exact inv_alloc ha ho2 g1
        · have hza : z.a ∉ rem := fun q => q2 ((hrem _).2 ⟨q, fun e => hia e.symm⟩)
          exact inv_step ho (hah i (by simp)) (fun e => q1.2 e.symm) hia (hfr _ q1.1) (hinv q1.1 hza q3) g1) g2 π' hπ'
      have e2 : opsOf l (i :: π') = o :: opsOf l π' := by
        show List.filterMap _ (i :: π') = _
        rw [List.filterMap_cons, ho]; rfl
      rw [e2]
      show (stp E o s).bind (run E (opsOf l π')) = some y
      rw [g1, Option.bind_some]
      exact ih

/-- What one order comes to, all orders come to. -/
theorem exts_all {R : Type} {E : Env} {l : List Oper} {L : List Nat} (z : Sto) (hz : stoB E.τ l z = true) (hza : (L.all (aheadB E.τ l z) && (memNat z.a L || !Nat.blt z.s l.length)) = true) (he : l.all easy = true) (hnd : L.Nodup) (hb : (L.all (fun i => Nat.blt i l.length) && (List.range l.length).all (fun i => memNat i L)) = true) (hl : L.length = l.length) (hp : pairs E.τ l z L = true) {s : St} {k : St → Option R} {y : R} (h : opsK E l (opsOf l L) s k = some y) : ∀ π ∈ exts l, opsK E l (opsOf l π) s k = some y := by
  rw [Bool.and_eq_true] at hb hza
  have hm : ∀ i, i ∈ L ↔ i ∈ List.range l.length := fun i => ⟨fun hi => List.mem_range.2 (Nat.le_of_ble_eq_true (List.all_eq_true.1 hb.1 i hi)), fun hi => memNat_iff.1 (List.all_eq_true.1 hb.2 i hi)⟩
  have hes : ∀ {π : List Nat}, ∀ o ∈ opsOf l π, easy o = true := fun {π} o ho => by
    obtain ⟨i, _, hi⟩ := List.mem_filterMap.1 ho
    exact List.all_eq_true.1 he o (List.mem_of_getElem? hi)
  rw [opsK_run hes] at h
  obtain ⟨s1, h1, h2⟩ := Option.bind_eq_some_iff.1 h
  intro π hπ
  rw [opsK_run hes, exts_run hz l.length (List.range l.length) L s s1 hnd hm hl hp (List.all_eq_true.1 hza.1) (fun q1 q2 q3 => by
    have h3 := hza.2
    rw [Bool.or_eq_true] at h3
    rcases h3 with q | q
    · exact absurd ((hm _).1 (memNat_iff.1 q)) q2
    · obtain ⟨o, ho⟩ := q3
      have hlt : z.s < l.length := (List.getElem?_eq_some_iff.1 ho).1
      have hb : Nat.blt z.s l.length = true := Nat.ble_eq_true_of_le hlt
      rw [hb] at q
      cases q) h1 π hπ]
  exact h2
end AM
end Go.Proofs.YtpcdcnmmkfhliaaGreatDoor
