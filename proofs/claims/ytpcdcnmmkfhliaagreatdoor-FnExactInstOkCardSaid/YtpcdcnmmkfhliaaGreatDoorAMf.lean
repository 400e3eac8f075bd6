/- The relation between a state of plain data and a frame in memory. No condition. -/
import Derived.Test.YtpcdcnmmkfhliaaGreatDoorAMe
namespace Go.Proofs.YtpcdcnmmkfhliaaGreatDoor
namespace AM
open Go

section
variable (L : Nm → Value) (I : Nat → Prop) (w : World) (A : Nm → Option (Nat × Nat))

def RP (p : Bool × List CV) (u : Value) : Prop :=
  match p with
  | (true, cs) => ∃ vs : List Value, u = .agg vs.toArray ∧ All2 (RC L I w A) cs vs
  | (false, cs) => All2 (RC L I w A) cs [u]

def RA : AV → Value → Prop
  | .c x, u => RC L I w A x u
  | .g cs, u => RP L I w A (true, cs) u
  | .tup l, u => ∃ us : List Value, u = .tuple us.toArray ∧ All2 (RP L I w A) l us
end

def CMent (cs : List CV) (n : Nm) : Prop := ∃ c ∈ cs, Ment c n
def AMent : AV → Nm → Prop
  | .c x, n => Ment x n
  | .g cs, n => CMent cs n
  | .tup l, n => ∃ p ∈ l, CMent p.2 n

section
variable {L L' : Nm → Value} {I I' : Nat → Prop} {w w' : World} {A A' : Nm → Option (Nat × Nat)}

theorem RCs.mono (hI : ∀ b, I b → I' b) (hw : Same I w w') {cs : List CV} {vs : List Value} (e : ∀ m, CMent cs m → L' m = L m ∧ A' m = A m)
    (h : All2 (RC L I w A) cs vs) : All2 (RC L' I' w' A') cs vs :=
  All2.monoM (fun c hc _ r => RC.mono hI hw (fun m hm => e m ⟨c, hc, hm⟩) r) h

theorem RP.mono (hI : ∀ b, I b → I' b) (hw : Same I w w') {p : Bool × List CV} {u : Value} (e : ∀ m, CMent p.2 m → L' m = L m ∧ A' m = A m)
    (h : RP L I w A p u) : RP L' I' w' A' p u := by
  obtain ⟨b, cs⟩ := p
  cases b with
  | true => obtain ⟨vs, rfl, h⟩ := h; exact ⟨vs, rfl, RCs.mono hI hw e h⟩
  | false => exact RCs.mono hI hw e h

theorem RA.mono (hI : ∀ b, I b → I' b) (hw : Same I w w') : ∀ {v : AV} {u : Value}, (∀ m, AMent v m → L' m = L m ∧ A' m = A m) → RA L I w A v u → RA L' I' w' A' v u
  | .c _, _, e, h => RC.mono hI hw e h
  | .g cs, _, e, h => RP.mono (p := (true, cs)) hI hw e h
  | .tup _, _, e, h => by
    obtain ⟨us, rfl, h⟩ := h
    exact ⟨us, rfl, All2.monoM (fun p hp _ r => RP.mono hI hw (fun m hm => e m ⟨p, hp, hm⟩) r) h⟩

theorem RCs.drop (n : Nm) {cs : List CV} {vs : List Value} (h : All2 (RC L I w A) cs vs) : All2 (RC L I w A) (cs.map (CV.drop n)) vs :=
  All2.map _ (fun _ _ r => RC.drop n r) h

theorem CMent.drop {n m : Nm} {cs : List CV} (h : CMent (cs.map (CV.drop n)) m) : CMent cs m ∧ m ≠ n := by
  obtain ⟨c, hc, hm⟩ := h
  obtain ⟨d, hd, rfl⟩ := List.mem_map.1 hc
  exact ⟨⟨d, hd, (Ment.drop hm).1⟩, (Ment.drop hm).2⟩

theorem RA.drop (n : Nm) : ∀ {v : AV} {u : Value}, RA L I w A v u → RA L I w A (v.drop n) u
  | .c _, _, h => RC.drop n h
  | .g _, _, h => by obtain ⟨vs, rfl, h⟩ := h; exact ⟨vs, rfl, RCs.drop n h⟩
  | .tup _, _, h => by
    obtain ⟨us, rfl, h⟩ := h
    refine ⟨us, rfl, All2.map _ (fun p u r => ?_) h⟩
    obtain ⟨b, cs⟩ := p
    cases b with
    | true => obtain ⟨vs, rfl, r⟩ := r; exact ⟨vs, rfl, RCs.drop n r⟩
    | false => exact RCs.drop n r

theorem AMent.drop {n m : Nm} : ∀ {v : AV}, AMent (v.drop n) m → AMent v m ∧ m ≠ n
  | .c _, h => Ment.drop h
  | .g _, h => CMent.drop h
  | .tup l, h => by
    obtain ⟨p, hp, hm⟩ := h
    obtain ⟨q, hq, rfl⟩ := List.mem_map.1 hp
    exact ⟨⟨q, hq, (CMent.drop hm).1⟩, (CMent.drop hm).2⟩
end

/-! ## Objects -/
/-- The cells of a key or of what stands at one: numbers, bools, strings alone. -/
def kvals : (t : Ty) → t.den → List Value
  | .int k, x => [.int k x]
  | .bool, x => [.bool x]
  | .str, x => [.string x]
  | .sl _, _ => []
  | .pr a b, x => kvals a x.1 ++ kvals b x.2
def KVal (ka : Bool) (t : Ty) (x : t.den) (v : Value) : Prop := match ka with
  | true => v = .agg (kvals t x).toArray
  | false => kvals t x = [v]
/-- The entries of a map, in the order in which they came. -/
def MRow (kt vt : Ty) (ka : Bool) : Nat → List (kt.den × vt.den) → List MapEntry → Prop
  | _, [], [] => True
  | i, kv :: kvs, e :: es => (KVal ka kt kv.1 e.key ∧ kvals vt kv.2 = [e.val] ∧ e.born = i) ∧ MRow kt vt ka (i + 1) kvs es
  | _, _, _ => False

def BoxIn (w : World) (b off : Nat) (vs : List Value) : Prop := ∃ c T, w.heap[b]? = some (.cells c T (0, 0)) ∧ off + vs.length ≤ c.size ∧ ∀ j u, vs[j]? = some u → c[off + j]? = some u
theorem BoxIn.cells {w : World} {b off : Nat} {vs : List Value} (h : BoxIn w b off vs) : Cells w b off vs := by
  obtain ⟨c, T, h1, _, h2⟩ := h
  intro j u hu
  simp only [World.cell?, h1]
  simpa using h2 j u hu
theorem BoxIn.lt {w : World} {b off : Nat} {vs : List Value} (h : BoxIn w b off vs) : b < w.heap.size := by
  obtain ⟨c, T, h1, _, _⟩ := h
  rcases Nat.lt_or_ge b w.heap.size with q | q
  · exact q
  · rw [Array.getElem?_eq_none q] at h1; cases h1

def RO (L : Nm → Value) (I : Nat → Prop) (w : World) (A : Nm → Option (Nat × Nat)) (n : Nm) : Ob → Prop
  | .box cs => ∃ b off vs, L n = .pointer (some ⟨b, off, none⟩) ∧ All2 (RC L I w A) cs vs ∧ BoxIn w b off vs
  | .arr e t xs => ∃ vs, w.ownsRow 0 e t.sz (L n) xs.length vs ∧ FRep I w t xs vs
  | .mp kt vt ka kvs => ∃ b es, L n = .map (some b) ∧ w.heap[b]? = some (.map es es.size) ∧ MRow kt vt ka 0 kvs es.toList

/-- The cells that an object is of. -/
def fp (L : Nm → Value) (n : Nm) : Ob → Nat → Nat → Prop
  | .box cs, b, o => ∃ off, L n = .pointer (some ⟨b, off, none⟩) ∧ off ≤ o ∧ o < off + cs.length
  | .arr _ _ _, b, _ => (L n).ownBlock = some b
  | .mp _ _ _ _, b, _ => L n = .map (some b)

/-- What is known of the program's own variables: their blocks, and what holds of a world as long as these are as they were. -/
structure Glob where
  blk : Nat → Prop
  ok : World → Prop
  keep : ∀ w w', ok w → (∀ b, blk b → b < w.heap.size ∧ w'.heap[b]? = w.heap[b]?) → ok w'

structure Ctx where
  K : Glob
  N : Nat
  w0 : World
  E : Nat → Nat → Prop
  I0 : Nat → Prop

structure Rel (X : Ctx) (L : Nm → Value) (I : Nat → Prop) (s : St) (a : Act) (w : World) : Prop where
  defers : a.defers = []
  size : a.tmps.size = X.N
  tmp : ∀ i, i < X.N → RA L I w (AL s.o) (s.t i) (a.tmps.getD i undef)
  hi : ∀ i, X.N ≤ i → s.t i = .c .dead
  obj : ∀ n ob, s.o n = some ob → RO L I w (AL s.o) n ob
  sep : ∀ n m ob ob', s.o n = some ob → s.o m = some ob' → ∀ b o, fp L n ob b o → fp L m ob' b o → n = m
  own : ∀ n ob, s.o n = some ob → ∀ b o, fp L n ob b o → b < w.heap.size ∧ ¬ I b ∧ (b < X.w0.heap.size → X.E b o)
  imm : ∀ b, I b → b < w.heap.size ∧ (X.I0 b ∨ X.w0.heap.size ≤ b ∨ ∀ o, X.E b o)
  sub : ∀ b, X.I0 b → I b
  step : Step X.E X.w0 w
  glob : X.K.ok w ∧ ∀ b, X.K.blk b → I b

section
variable {X : Ctx} {L : Nm → Value} {I : Nat → Prop} {s : St} {a : Act} {w : World}

theorem getD_tmps_lt {a : Act} {i : Nat} (h : ¬ i < a.tmps.size) : a.tmps.getD i undef = undef := by
  rw [Array.getD_eq_getD_getElem?, Array.getElem?_eq_none (by omega)]; rfl

theorem Rel.slot (h : Rel X L I s a w) (i : Nat) : RA L I w (AL s.o) (s.t i) (a.tmps.getD i undef) := by
  by_cases q : i < X.N
  · exact h.tmp i q
  · rw [h.hi i (by omega)]; trivial

theorem ofConst_sound (L : Nm → Value) (I : Nat → Prop) (w : World) (A : Nm → Option (Nat × Nat)) (v : Value) : RA L I w A (ofConst v) v := by
  unfold ofConst
  split
  · rfl
  · rfl
  · rfl
  · rfl
  · rename_i cs
    refine ⟨cs.toList, by simp, ?_⟩
    generalize cs.toList = l
    induction l with
    | nil => trivial
    | cons x l ih =>
      refine ⟨?_, ih⟩
      dsimp only
      split <;> first | rfl | trivial
  · rfl

theorem Rel.ev (h : Rel X L I s a w) (x : Operand) : RA L I w (AL s.o) (s.ev x) (a.eval x) := by
  cases x with
  | tmp t => exact h.slot t
  | const v => exact ofConst_sound L I w _ v
  | global g => rfl
  | func f => rfl

/-- A slot is written. -/
theorem Rel.put (h : Rel X L I s a w) (d : Option Nat) (hd : ∀ i, d = some i → i < X.N) {v : AV} {u : Value} (r : RA L I w (AL s.o) v u) :
    Rel X L I (s.put d v) (a.put d u) w := by
  cases d with
  | none => exact h
  | some d =>
    have hd' := hd d rfl
    refine ⟨h.defers, by simpa [Act.put] using h.size, fun i hi => ?_, fun i hi => ?_, h.obj, h.sep, h.own, h.imm, h.sub, h.step, h.glob⟩
    · show RA L I w (AL s.o) (bif Nat.beq i d then v else s.t i) ((a.tmps.setIfInBounds d u).getD i undef)
      rw [Array.getD_eq_getD_getElem?, Array.getElem?_setIfInBounds]
      cases q : Nat.beq i d with
      | true =>
        have := Nat.eq_of_beq_eq_true q; subst this
        rw [if_pos rfl, if_pos (by rw [h.size]; exact hd')]; exact r
      | false =>
        have := Nat.ne_of_beq_eq_false q
        rw [if_neg (fun e => this e.symm), ← Array.getD_eq_getD_getElem?]; exact h.tmp i hi
    · show (bif Nat.beq i d then v else s.t i) = _
      cases q : Nat.beq i d with
      | true => have := Nat.eq_of_beq_eq_true q; subst this; omega
      | false => exact h.hi i hi

/-- What is known of memory can be forgotten: fewer objects, slots that are dead. -/
theorem AL_drop {o : Nm → Option Ob} {n m : Nm} (h : m ≠ n) : AL (fun m => bif Nm.eqb m n then none else (o m).map (Ob.drop n)) m = AL o m := by
  show (match (bif Nm.eqb m n then none else (o m).map (Ob.drop n)) with | some (.arr _ t xs) => some (t.sz, xs.length) | _ => none) = AL o m
  rw [eqb_false.2 h]
  unfold AL
  cases o m with
  | none => rfl
  | some x => cases x <;> rfl

theorem fp_drop {n m : Nm} {ob : Ob} {b o : Nat} : fp L m (ob.drop n) b o ↔ fp L m ob b o := by
  cases ob with
  | box cs => simp [fp, Ob.drop]
  | arr e t xs => exact Iff.rfl
  | mp _ _ _ _ => exact Iff.rfl

theorem drop_o {n m : Nm} {s : St} {ob : Ob} (h : (s.drop n).o m = some ob) : m ≠ n ∧ ∃ ob', s.o m = some ob' ∧ ob = ob'.drop n := by
  unfold St.drop at h
  dsimp only at h
  cases q : Nm.eqb m n with
  | true => rw [q] at h; cases h
  | false =>
    rw [q] at h
    cases e : s.o m with
    | none => rw [e] at h; cases h
    | some ob' => rw [e] at h; exact ⟨eqb_false.1 q, ob', rfl, (Option.some.inj h).symm⟩

/-- A name goes: whatever it stands for from now on, nothing speaks of it. -/
theorem Rel.drop (h : Rel X L I s a w) (n : Nm) {L' : Nm → Value} (hL : ∀ m, m ≠ n → L' m = L m) : Rel X L' I (s.drop n) a w := by
  have hw : Same I w w := fun _ _ => rfl
  have hI : ∀ b, I b → I b := fun _ q => q
  have hfp : ∀ {m : Nm} {ob : Ob} {b o : Nat}, m ≠ n → fp L' m ob b o → fp L m ob b o := by
    intro m ob b o hm q
    cases ob with
    | box cs => obtain ⟨off, e, r⟩ := q; exact ⟨off, by rw [← hL m hm]; exact e, r⟩
    | arr e t xs => rw [show fp L' m _ b o = _ from rfl] at q; rw [show fp L m (.arr e t xs) b o = ((L m).ownBlock = some b) from rfl, ← hL m hm]; exact q
    | mp _ _ _ _ => show L m = _; rw [← hL m hm]; exact q
  refine ⟨h.defers, h.size, fun i hi => ?_, fun i hi => ?_, fun m ob e => ?_, fun m k ob ob' e e' b o q q' => ?_, fun m ob e b o q => ?_, h.imm, h.sub, h.step, h.glob⟩
  · refine RA.mono hI hw (fun m hm => ?_) ((h.tmp i hi).drop n)
    exact ⟨hL m (AMent.drop hm).2, AL_drop (AMent.drop hm).2⟩
  · show (s.t i).drop n = _
    rw [h.hi i hi]; rfl
  · obtain ⟨hm, ob', e', rfl⟩ := drop_o e
    have r := h.obj m ob' e'
    cases ob' with
    | box cs =>
      obtain ⟨b, off, vs, h1, h2, h3⟩ := r
      refine ⟨b, off, vs, by rw [hL m hm]; exact h1, ?_, h3⟩
      exact RCs.mono hI hw (fun k hk => ⟨hL k (CMent.drop hk).2, AL_drop (CMent.drop hk).2⟩) (RCs.drop n h2)
    | arr e t xs =>
      obtain ⟨vs, h1, h2⟩ := r
      exact ⟨vs, by rw [hL m hm]; exact h1, h2⟩
    | mp kt vt ka kvs =>
      obtain ⟨b, es, h1, h2⟩ := r
      exact ⟨b, es, by rw [hL m hm]; exact h1, h2⟩
  · obtain ⟨hm, x, ex, rfl⟩ := drop_o e
    obtain ⟨hk, y, ey, rfl⟩ := drop_o e'
    exact h.sep m k x y ex ey b o (hfp hm (fp_drop.1 q)) (hfp hk (fp_drop.1 q'))
  · obtain ⟨hm, x, ex, rfl⟩ := drop_o e
    exact h.own m x ex b o (hfp hm (fp_drop.1 q))

/-! ### A name goes, its old headers keep their length -/
theorem CMent.past {n m : Nm} {k : Nat} {cs : List CV} (h : CMent (cs.map (CV.past n k)) m) : CMent cs m ∧ m ≠ n := by
  obtain ⟨c, hc, hm⟩ := h
  obtain ⟨d, hd, rfl⟩ := List.mem_map.1 hc
  exact ⟨⟨d, hd, (Ment.past hm).1⟩, (Ment.past hm).2⟩
theorem AMent.past {n m : Nm} {k : Nat} : ∀ {v : AV}, AMent (v.past n k) m → AMent v m ∧ m ≠ n
  | .c _, h => Ment.past h
  | .g _, h => CMent.past h
  | .tup l, h => by
    obtain ⟨p, hp, hm⟩ := h
    obtain ⟨q, hq, rfl⟩ := List.mem_map.1 hp
    exact ⟨⟨q, hq, (CMent.past hm).1⟩, (CMent.past hm).2⟩
theorem RA.past {A : Nm → Option (Nat × Nat)} {n : Nm} {k : Nat} (hk : ∀ a l c, L n = .slice a l c → l = k) : ∀ {v : AV} {u : Value}, RA L I w A v u → RA L I w A (v.past n k) u
  | .c _, _, h => RC.past hk h
  | .g _, _, h => by obtain ⟨vs, rfl, h⟩ := h; exact ⟨vs, rfl, All2.map _ (fun _ _ r => RC.past hk r) h⟩
  | .tup _, _, h => by
    obtain ⟨us, rfl, h⟩ := h
    refine ⟨us, rfl, All2.map _ (fun p u r => ?_) h⟩
    obtain ⟨b, cs⟩ := p
    cases b with
    | true => obtain ⟨vs, rfl, r⟩ := r; exact ⟨vs, rfl, All2.map _ (fun _ _ r => RC.past hk r) r⟩
    | false => exact All2.map _ (fun _ _ r => RC.past hk r) r
theorem past_o {n m : Nm} {k : Nat} {s : St} {ob : Ob} (h : (s.past n k).o m = some ob) : m ≠ n ∧ ∃ ob', s.o m = some ob' ∧ ob = ob'.past n k := by
  have h' : (bif Nm.eqb m n then none else (s.o m).map (Ob.past n k)) = some ob := h
  cases q : Nm.eqb m n with
  | true => rw [q] at h'; cases h'
  | false =>
    rw [q] at h'
    cases e : s.o m with
    | none => rw [e] at h'; cases h'
    | some ob' => rw [e] at h'; exact ⟨eqb_false.1 q, ob', rfl, (Option.some.inj h').symm⟩
theorem fp_past {n m : Nm} {k : Nat} {ob : Ob} {b o : Nat} : fp L m (ob.past n k) b o ↔ fp L m ob b o := by
  cases ob with
  | box cs => simp [fp, Ob.past]
  | arr e t xs => exact Iff.rfl
  | mp _ _ _ _ => exact Iff.rfl
theorem AL_past {s : St} {n m : Nm} {k : Nat} (h : m ≠ n) : AL (s.past n k).o m = AL s.o m := by
  show (match (bif Nm.eqb m n then none else (s.o m).map (Ob.past n k)) with | some (.arr _ t xs) => some (t.sz, xs.length) | _ => none) = AL s.o m
  rw [eqb_false.2 h]
  unfold AL
  cases s.o m with
  | none => rfl
  | some x => cases x <;> rfl
theorem Rel.past (h : Rel X L I s a w) (n : Nm) {k : Nat} (hk : ∀ a l c, L n = .slice a l c → l = k) : Rel X L I (s.past n k) a w := by
  have hw : Same I w w := fun _ _ => rfl
  have hI : ∀ b, I b → I b := fun _ q => q
  refine ⟨h.defers, h.size, fun i hi => ?_, fun i hi => ?_, fun m ob e => ?_, fun m j ob ob' e e' b o q q' => ?_, fun m ob e b o q => ?_, h.imm, h.sub, h.step, h.glob⟩
  · exact RA.mono hI hw (fun m hm => ⟨rfl, AL_past (AMent.past hm).2⟩) (RA.past hk (h.tmp i hi))
  · show (s.t i).past n k = _
    rw [h.hi i hi]; rfl
  · obtain ⟨hm, ob', e', rfl⟩ := past_o e
    have r := h.obj m ob' e'
    cases ob' with
    | box cs =>
      obtain ⟨b, off, vs, h1, h2, h3⟩ := r
      exact ⟨b, off, vs, h1, RCs.mono hI hw (fun j hj => ⟨rfl, AL_past (CMent.past hj).2⟩) (All2.map _ (fun _ _ r => RC.past hk r) h2), h3⟩
    | arr e t xs => exact r
    | mp _ _ _ _ => exact r
  · obtain ⟨hm, x, ex, rfl⟩ := past_o e
    obtain ⟨hj, y, ey, rfl⟩ := past_o e'
    exact h.sep m j x y ex ey b o (fp_past.1 q) (fp_past.1 q')
  · obtain ⟨hm, x, ex, rfl⟩ := past_o e
    exact h.own m x ex b o (fp_past.1 q)

end
end AM
end Go.Proofs.YtpcdcnmmkfhliaaGreatDoor
