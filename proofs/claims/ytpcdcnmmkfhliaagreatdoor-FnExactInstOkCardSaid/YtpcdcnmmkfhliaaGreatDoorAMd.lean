/- What a state of plain data says of memory, and the facts that hold of it. No condition. -/
import Derived.Test.YtpcdcnmmkfhliaaGreatDoorAMc
import Derived.Laws.AppendOwn
import Derived.Laws.IdiomCopy
import Derived.Laws.MakeOwn
import Derived.Laws.OwnMore
import Derived.Laws.BytesArg
import Derived.Laws.Slices
namespace Go.Proofs.YtpcdcnmmkfhliaaGreatDoor
namespace AM
open Go

/-! ## Lists side by side -/
def All2 {α β : Type} (R : α → β → Prop) : List α → List β → Prop
  | [], [] => True
  | a :: as, b :: bs => R a b ∧ All2 R as bs
  | _, _ => False

theorem All2.len {α β : Type} {R : α → β → Prop} : ∀ {as : List α} {bs : List β}, All2 R as bs → as.length = bs.length
  | [], [], _ => rfl
  | _ :: _, _ :: _, h => by simp only [List.length_cons]; rw [All2.len h.2]
  | [], _ :: _, h => h.elim
  | _ :: _, [], h => h.elim

theorem All2.mono {α β : Type} {R S : α → β → Prop} (h : ∀ a b, R a b → S a b) : ∀ {as : List α} {bs : List β}, All2 R as bs → All2 S as bs
  | [], [], _ => trivial
  | _ :: _, _ :: _, g => ⟨h _ _ g.1, All2.mono h g.2⟩
  | [], _ :: _, g => g.elim
  | _ :: _, [], g => g.elim

theorem All2.monoM {α β : Type} {R S : α → β → Prop} : ∀ {as : List α} {bs : List β}, (∀ a ∈ as, ∀ b, R a b → S a b) → All2 R as bs → All2 S as bs
  | [], [], _, _ => trivial
  | _ :: _, _ :: _, h, g => ⟨h _ (List.mem_cons_self ..) _ g.1, All2.monoM (fun a m => h a (List.mem_cons_of_mem _ m)) g.2⟩
  | [], _ :: _, _, g => g.elim
  | _ :: _, [], _, g => g.elim

theorem All2.map {α α' β : Type} {R : α → β → Prop} {S : α' → β → Prop} (f : α → α') (h : ∀ a b, R a b → S (f a) b) :
    ∀ {as : List α} {bs : List β}, All2 R as bs → All2 S (as.map f) bs
  | [], [], _ => trivial
  | _ :: _, _ :: _, g => ⟨h _ _ g.1, All2.map f h g.2⟩
  | [], _ :: _, g => g.elim
  | _ :: _, [], g => g.elim

theorem All2.append {α β : Type} {R : α → β → Prop} : ∀ {as : List α} {bs : List β} {cs : List α} {ds : List β}, All2 R as bs → All2 R cs ds → All2 R (as ++ cs) (bs ++ ds)
  | [], [], _, _, _, g => g
  | _ :: _, _ :: _, _, _, h, g => ⟨h.1, All2.append h.2 g⟩
  | [], _ :: _, _, _, h, _ => h.elim
  | _ :: _, [], _, _, h, _ => h.elim

theorem All2.parts {α β : Type} {R : α → β → Prop} : ∀ {as cs : List α} {bs : List β}, All2 R (as ++ cs) bs → ∃ b d, bs = b ++ d ∧ All2 R as b ∧ All2 R cs d
  | [], _, bs, h => ⟨[], bs, rfl, trivial, h⟩
  | _ :: _, _, [], h => h.elim
  | a :: as, cs, b :: bs, h => by
    obtain ⟨x, y, rfl, h1, h2⟩ := All2.parts h.2
    exact ⟨b :: x, y, rfl, ⟨h.1, h1⟩, h2⟩

theorem All2.take {α β : Type} {R : α → β → Prop} : ∀ (n : Nat) {as : List α} {bs : List β}, All2 R as bs → All2 R (as.take n) (bs.take n)
  | 0, _, _, _ => by simp [All2]
  | _ + 1, [], [], _ => trivial
  | n + 1, _ :: _, _ :: _, h => ⟨h.1, All2.take n h.2⟩
  | _ + 1, [], _ :: _, h => h.elim
  | _ + 1, _ :: _, [], h => h.elim

theorem All2.drop {α β : Type} {R : α → β → Prop} : ∀ (n : Nat) {as : List α} {bs : List β}, All2 R as bs → All2 R (as.drop n) (bs.drop n)
  | 0, _, _, h => h
  | _ + 1, [], [], _ => trivial
  | n + 1, _ :: _, _ :: _, h => All2.drop n h.2
  | _ + 1, [], _ :: _, h => h.elim
  | _ + 1, _ :: _, [], h => h.elim

theorem All2.get {α β : Type} {R : α → β → Prop} : ∀ {as : List α} {bs : List β}, All2 R as bs → ∀ {i : Nat} {a : α}, as[i]? = some a → ∃ b, bs[i]? = some b ∧ R a b
  | [], [], _, _, _, e => by simp at e
  | _ :: _, b :: _, h, 0, _, e => by simp at e; subst e; exact ⟨b, by simp, h.1⟩
  | _ :: _, _ :: _, h, i + 1, _, e => by simp at e; obtain ⟨b, hb, r⟩ := All2.get h.2 e; exact ⟨b, by simpa using hb, r⟩
  | [], _ :: _, h, _, _, _ => h.elim
  | _ :: _, [], h, _, _, _ => h.elim

theorem All2.set {α β : Type} {R : α → β → Prop} {a : α} {b : β} (r : R a b) : ∀ {as : List α} {bs : List β} (i : Nat), All2 R as bs → All2 R (as.set i a) (bs.set i b)
  | [], [], _, _ => trivial
  | _ :: _, _ :: _, 0, h => ⟨r, h.2⟩
  | _ :: _, _ :: _, i + 1, h => ⟨h.1, All2.set r i h.2⟩
  | [], _ :: _, _, h => h.elim
  | _ :: _, [], _, h => h.elim

/-! ## Values that nobody writes -/
def Cells (w : World) (b off : Nat) (vs : List Value) : Prop := ∀ j u, vs[j]? = some u → w.cell? ⟨b, off + j, none⟩ = some u

def Rep (I : Nat → Prop) (w : World) : (t : Ty) → t.den → List Value → Prop
  | .int k, x, vs => vs = [.int k x]
  | .bool, x, vs => vs = [.bool x]
  | .str, x, vs => vs = [.string x]
  | .sl t, xs, vs => ∃ a c css, vs = [.slice a (List.length xs) c] ∧ List.length xs ≤ c ∧ All2 (fun x cs => Rep I w t x cs) xs css ∧
      (xs = [] ∨ ∃ b off, a = some ⟨b, off, none⟩ ∧ I b ∧ Cells w b off css.flatten)
  | .pr a b, x, vs => ∃ va vb, vs = va ++ vb ∧ Rep I w a x.1 va ∧ Rep I w b x.2 vb

def FRep (I : Nat → Prop) (w : World) (t : Ty) (xs : List t.den) (vs : List Value) : Prop := ∃ css, All2 (Rep I w t) xs css ∧ vs = css.flatten

theorem Rep.len {I : Nat → Prop} {w : World} : ∀ (t : Ty) {x : t.den} {vs : List Value}, Rep I w t x vs → vs.length = t.sz
  | .int _, _, _, h => by rw [show _ = _ from h]; rfl
  | .bool, _, _, h => by rw [show _ = _ from h]; rfl
  | .str, _, _, h => by rw [show _ = _ from h]; rfl
  | .sl _, _, _, h => by obtain ⟨a, c, css, rfl, _⟩ := h; rfl
  | .pr a b, _, _, h => by
    obtain ⟨va, vb, rfl, h1, h2⟩ := h
    simp only [List.length_append, Ty.sz, Rep.len a h1, Rep.len b h2]

theorem Ty.sz_pos : ∀ t : Ty, 0 < t.sz
  | .int _ => Nat.one_pos
  | .bool => Nat.one_pos
  | .str => Nat.one_pos
  | .sl _ => Nat.one_pos
  | .pr a b => by have := Ty.sz_pos a; simp only [Ty.sz]; omega

/-- The blocks of I in w read the same in w'. -/
def Same (I : Nat → Prop) (w w' : World) : Prop := ∀ b, I b → w'.heap[b]? = w.heap[b]?

theorem Cells.same {w w' : World} {b off : Nat} {vs : List Value} (h : Cells w b off vs) (e : w'.heap[b]? = w.heap[b]?) : Cells w' b off vs :=
  fun j u hu => by rw [World.cell?_of_block (w := w) (a := ⟨b, off + j, none⟩) e]; exact h j u hu

theorem Rep.mono {I I' : Nat → Prop} {w w' : World} (hI : ∀ b, I b → I' b) (hw : Same I w w') : ∀ (t : Ty) {x : t.den} {vs : List Value}, Rep I w t x vs → Rep I' w' t x vs
  | .int _, _, _, h => h
  | .bool, _, _, h => h
  | .str, _, _, h => h
  | .sl t, _, _, h => by
    obtain ⟨a, c, css, rfl, hc, h1, h2⟩ := h
    refine ⟨a, c, css, rfl, hc, All2.mono (fun x cs => Rep.mono hI hw t) h1, ?_⟩
    rcases h2 with h2 | ⟨b, off, e, hb, h2⟩
    · exact .inl h2
    · exact .inr ⟨b, off, e, hI b hb, h2.same (hw b hb)⟩
  | .pr a b, _, _, h => by
    obtain ⟨va, vb, rfl, h1, h2⟩ := h
    exact ⟨va, vb, rfl, Rep.mono hI hw a h1, Rep.mono hI hw b h2⟩

/-- A value without slices in it needs no memory. -/
theorem Rep.plain {I I' : Nat → Prop} {w w' : World} : ∀ (t : Ty), t.hasSl = false → ∀ {x : t.den} {vs : List Value}, Rep I w t x vs → Rep I' w' t x vs
  | .int _, _, _, _, h => h
  | .bool, _, _, _, h => h
  | .str, _, _, _, h => h
  | .sl _, e, _, _, _ => by cases e
  | .pr a b, e, _, _, h => by
    obtain ⟨va, vb, rfl, h1, h2⟩ := h
    have ea : a.hasSl = false := by cases q : a.hasSl <;> simp_all [Ty.hasSl]
    have eb : b.hasSl = false := by cases q : b.hasSl <;> simp_all [Ty.hasSl]
    exact ⟨va, vb, rfl, Rep.plain a ea h1, Rep.plain b eb h2⟩

theorem Rep.cast {I : Nat → Prop} {w : World} {t u : Ty} (h : t = u) {x : t.den} {vs : List Value} (r : Rep I w t x vs) : Rep I w u (Ty.cast h x) vs := by
  subst h; exact r

theorem FRep.mono {I I' : Nat → Prop} {w w' : World} {t : Ty} {xs : List t.den} {vs : List Value} (hI : ∀ b, I b → I' b) (hw : Same I w w') (h : FRep I w t xs vs) : FRep I' w' t xs vs := by
  obtain ⟨css, h1, rfl⟩ := h
  exact ⟨css, All2.mono (fun _ _ => Rep.mono hI hw t) h1, rfl⟩

theorem FRep.plain {I I' : Nat → Prop} {w w' : World} {t : Ty} (e : t.hasSl = false) {xs : List t.den} {vs : List Value} (h : FRep I w t xs vs) : FRep I' w' t xs vs := by
  obtain ⟨css, h1, rfl⟩ := h
  exact ⟨css, All2.mono (fun _ _ => Rep.plain t e) h1, rfl⟩

theorem FRep.nil {I : Nat → Prop} {w : World} {t : Ty} : FRep I w t [] [] := ⟨[], trivial, rfl⟩

theorem FRep.cons {I : Nat → Prop} {w : World} {t : Ty} {x : t.den} {xs : List t.den} {cs vs : List Value} (h : Rep I w t x cs) (g : FRep I w t xs vs) : FRep I w t (x :: xs) (cs ++ vs) := by
  obtain ⟨css, h1, rfl⟩ := g
  exact ⟨cs :: css, ⟨h, h1⟩, by simp⟩

theorem FRep.append {I : Nat → Prop} {w : World} {t : Ty} {xs ys : List t.den} {us vs : List Value} (h : FRep I w t xs us) (g : FRep I w t ys vs) : FRep I w t (xs ++ ys) (us ++ vs) := by
  obtain ⟨c1, h1, rfl⟩ := h
  obtain ⟨c2, h2, rfl⟩ := g
  exact ⟨c1 ++ c2, h1.append h2, by simp⟩

theorem FRep.un {I : Nat → Prop} {w : World} {t : Ty} {x : t.den} {xs : List t.den} {vs : List Value} (h : FRep I w t (x :: xs) vs) :
    ∃ cs us, vs = cs ++ us ∧ Rep I w t x cs ∧ FRep I w t xs us := by
  obtain ⟨css, h1, rfl⟩ := h
  cases css with
  | nil => exact h1.elim
  | cons c css => exact ⟨c, css.flatten, by simp, h1.1, css, h1.2, rfl⟩

theorem FRep.len {I : Nat → Prop} {w : World} {t : Ty} : ∀ {xs : List t.den} {vs : List Value}, FRep I w t xs vs → vs.length = xs.length * t.sz
  | [], vs, h => by
    obtain ⟨css, h1, rfl⟩ := h
    cases css with
    | nil => simp
    | cons => exact h1.elim
  | x :: xs, vs, h => by
    obtain ⟨cs, us, rfl, h1, h2⟩ := h.un
    rw [List.length_append, Rep.len t h1, FRep.len h2, List.length_cons, Nat.add_mul, Nat.one_mul, Nat.add_comm]

theorem FRep.split {I : Nat → Prop} {w : World} {t : Ty} {xs ys : List t.den} {vs : List Value} (h : FRep I w t (xs ++ ys) vs) :
    ∃ us ws, vs = us ++ ws ∧ FRep I w t xs us ∧ FRep I w t ys ws := by
  obtain ⟨css, h1, rfl⟩ := h
  obtain ⟨a, b, rfl, h2, h3⟩ := h1.parts
  exact ⟨a.flatten, b.flatten, by simp, ⟨a, h2, rfl⟩, ⟨b, h3, rfl⟩⟩

theorem FRep.get {I : Nat → Prop} {w : World} {t : Ty} : ∀ {xs : List t.den} {vs : List Value}, FRep I w t xs vs → ∀ (i : Nat), i < xs.length →
    ∃ cs, Rep I w t (xs.getD i t.zero) cs ∧ ∀ j u, cs[j]? = some u → vs[i * t.sz + j]? = some u
  | [], _, _, i, h => by simp at h
  | x :: xs, _, h, 0, _ => by
    obtain ⟨cs, us, rfl, h1, h2⟩ := h.un
    refine ⟨cs, by simpa using h1, fun j u hu => ?_⟩
    rw [Nat.zero_mul, Nat.zero_add, List.getElem?_append_left (by rcases Nat.lt_or_ge j cs.length with q | q; exact q; rw [List.getElem?_eq_none q] at hu; cases hu)]
    exact hu
  | x :: xs, _, h, i + 1, hi => by
    obtain ⟨cs, us, rfl, h1, h2⟩ := h.un
    obtain ⟨ds, g1, g2⟩ := FRep.get h2 i (by simpa using hi)
    refine ⟨ds, by simpa using g1, fun j u hu => ?_⟩
    have e := Rep.len t h1
    rw [List.getElem?_append_right (by rw [e, Nat.add_mul]; omega), e]
    rw [show (i + 1) * t.sz + j - t.sz = i * t.sz + j by rw [Nat.add_mul]; omega]
    exact g2 j u hu

theorem FRep.set {I : Nat → Prop} {w : World} {t : Ty} {x : t.den} {cs : List Value} (r : Rep I w t x cs) : ∀ {xs : List t.den} {vs : List Value}, FRep I w t xs vs → ∀ (i : Nat), i < xs.length →
    FRep I w t (xs.set i x) (vs.take (i * t.sz) ++ cs ++ vs.drop (i * t.sz + t.sz))
  | [], _, _, i, h => by simp at h
  | y :: xs, _, h, 0, _ => by
    obtain ⟨ds, us, rfl, h1, h2⟩ := h.un
    have e := Rep.len t h1
    simp only [Nat.zero_mul, List.take_zero, List.nil_append, Nat.zero_add, List.set_cons_zero]
    rw [← e, List.drop_left]
    exact FRep.cons r h2
  | y :: xs, _, h, i + 1, hi => by
    obtain ⟨ds, us, rfl, h1, h2⟩ := h.un
    have e := Rep.len t h1
    have g := FRep.set r h2 i (by simpa using hi)
    have : (i + 1) * t.sz = ds.length + i * t.sz := by rw [e, Nat.add_mul]; omega
    rw [this, List.take_length_add_append, Nat.add_assoc, List.drop_length_add_append, List.set_cons_succ, List.append_assoc, List.append_assoc, ← List.append_assoc (us.take _)]
    exact FRep.cons h1 g

theorem FRep.replicate {I : Nat → Prop} {w : World} {t : Ty} {x : t.den} {cs : List Value} (r : Rep I w t x cs) : ∀ n, FRep I w t (List.replicate n x) (List.replicate n cs).flatten
  | 0 => FRep.nil
  | n + 1 => by rw [List.replicate_succ, List.replicate_succ, List.flatten_cons]; exact FRep.cons r (FRep.replicate r n)

/-! ## Cells -/
def AL (o : Nm → Option Ob) (n : Nm) : Option (Nat × Nat) := match o n with
  | some (.arr _ t xs) => some (t.sz, xs.length)
  | _ => none

/-- What a closure has captured: pointers. -/
def Caps (L : Nm → Value) : List (Nm × Nat) → List Value → Prop
  | [], [] => True
  | p :: ps, u :: us => (∃ b off, L p.1 = .pointer (some ⟨b, off, none⟩) ∧ u = .pointer (some ⟨b, off + p.2, none⟩)) ∧ Caps L ps us
  | _, _ => False

theorem Caps.mono {L L' : Nm → Value} : ∀ {cs : List (Nm × Nat)} {us : List Value}, (∀ p ∈ cs, L' p.1 = L p.1) → Caps L cs us → Caps L' cs us
  | [], [], _, _ => trivial
  | p :: ps, u :: us, e, h => by
    obtain ⟨⟨b, off, h1, h2⟩, h3⟩ := h
    exact ⟨⟨b, off, by rw [e p (List.mem_cons_self ..)]; exact h1, h2⟩, Caps.mono (fun q hq => e q (List.mem_cons_of_mem _ hq)) h3⟩
  | [], _ :: _, _, h => h.elim
  | _ :: _, [], _, h => h.elim

def RC (L : Nm → Value) (I : Nat → Prop) (w : World) (A : Nm → Option (Nat × Nat)) : CV → Value → Prop
  | .v t x, u => Rep I w t x [u]
  | .nil, u => u = .slice none 0 0
  | .own n, u => ∃ a l c, u = .slice a l c ∧ L n = u
  | .pb n i, u => ∃ b off, L n = .pointer (some ⟨b, off, none⟩) ∧ u = .pointer (some ⟨b, off + i, none⟩)
  | .pa n sz i j, u => ∃ b len cap, L n = .slice (some ⟨b, 0, none⟩) len cap ∧ A n = some (sz, len) ∧ i < len ∧ u = .pointer (some ⟨b, i * sz + j, none⟩)
  | .pe t x j, u => ∃ b off cs, u = .pointer (some ⟨b, off + j, none⟩) ∧ I b ∧ Rep I w t x cs ∧ Cells w b off cs
  | .clo f cs, u => ∃ us, u = .func (.func f) #[] us.toArray ∧ Caps L cs us
  | .er e, u => match e with
    | true => ∃ t v, u = .iface t v
    | false => u = .nilIface
  | .mp n, u => ∃ b, u = .map (some b) ∧ L n = u
  | .hd k, u => ∃ a c, u = .slice a k c
  | .raw y, u => u = y
  | .dead, _ => True

def Ment : CV → Nm → Prop
  | .own m, n => m = n
  | .pb m _, n => m = n
  | .pa m _ _ _, n => m = n
  | .clo _ cs, n => ∃ p ∈ cs, p.1 = n
  | .mp m, n => m = n
  | _, _ => False

theorem RC.mono {L L' : Nm → Value} {I I' : Nat → Prop} {w w' : World} {A A' : Nm → Option (Nat × Nat)} (hI : ∀ b, I b → I' b) (hw : Same I w w') :
    ∀ {c : CV} {u : Value}, (∀ m, Ment c m → L' m = L m ∧ A' m = A m) → RC L I w A c u → RC L' I' w' A' c u
  | .v t _, _, _, h => Rep.mono hI hw t h
  | .nil, _, _, h => h
  | .own m, _, e, h => by
    obtain ⟨a, l, c, h1, h2⟩ := h
    exact ⟨a, l, c, h1, by rw [(e m rfl).1]; exact h2⟩
  | .pb m i, _, e, h => by
    obtain ⟨b, off, h1, h2⟩ := h
    exact ⟨b, off, by rw [(e m rfl).1]; exact h1, h2⟩
  | .pa m sz i j, _, e, h => by
    obtain ⟨b, len, cap, h1, h2, h3, h4⟩ := h
    exact ⟨b, len, cap, by rw [(e m rfl).1]; exact h1, by rw [(e m rfl).2]; exact h2, h3, h4⟩
  | .pe t x j, _, _, h => by
    obtain ⟨b, off, cs, h1, h2, h3, h4⟩ := h
    exact ⟨b, off, cs, h1, hI b h2, Rep.mono hI hw t h3, h4.same (hw b h2)⟩
  | .clo f cs, _, e, h => by
    obtain ⟨us, h1, h2⟩ := h
    exact ⟨us, h1, h2.mono fun p hp => (e p.1 ⟨p, hp, rfl⟩).1⟩
  | .er _, _, _, h => h
  | .mp m, _, e, h => by
    obtain ⟨b, h1, h2⟩ := h
    exact ⟨b, h1, by rw [(e m rfl).1]; exact h2⟩
  | .hd _, _, _, h => h
  | .raw _, _, _, h => h
  | .dead, _, _, _ => trivial

theorem eqb_iff : ∀ {a b : Nm}, Nm.eqb a b = true ↔ a = b
  | [], [] => by simp [Nm.eqb]
  | [], _ :: _ => by simp [Nm.eqb]
  | _ :: _, [] => by simp [Nm.eqb]
  | x :: as, y :: bs => by
    unfold Nm.eqb
    cases h : Nat.beq x y with
    | true => have := Nat.eq_of_beq_eq_true h; subst this; simp [eqb_iff (a := as) (b := bs)]
    | false => have := Nat.ne_of_beq_eq_false h; simp [this]

theorem eqb_false {a b : Nm} : Nm.eqb a b = false ↔ a ≠ b := by
  rw [← Bool.not_eq_true, eqb_iff]

theorem eqb_self (a : Nm) : Nm.eqb a a = true := eqb_iff.2 rfl

theorem RC.drop {L : Nm → Value} {I : Nat → Prop} {w : World} {A : Nm → Option (Nat × Nat)} (n : Nm) : ∀ {c : CV} {u : Value}, RC L I w A c u → RC L I w A (c.drop n) u
  | .own m, _, h => by
    show RC L I w A (bif Nm.eqb m n then .dead else .own m) _
    cases Nm.eqb m n
    · exact h
    · trivial
  | .pb m i, _, h => by
    show RC L I w A (bif Nm.eqb m n then .dead else .pb m i) _
    cases Nm.eqb m n
    · exact h
    · trivial
  | .pa m sz i j, _, h => by
    show RC L I w A (bif Nm.eqb m n then .dead else .pa m sz i j) _
    cases Nm.eqb m n
    · exact h
    · trivial
  | .clo f cs, _, h => by
    show RC L I w A (bif cs.any (fun p => Nm.eqb p.1 n) then .dead else .clo f cs) _
    cases cs.any (fun p => Nm.eqb p.1 n)
    · exact h
    · trivial
  | .er _, _, h => h
  | .mp m, _, h => by
    show RC L I w A (bif Nm.eqb m n then .dead else .mp m) _
    cases Nm.eqb m n
    · exact h
    · trivial
  | .hd _, _, h => h
  | .v _ _, _, h => h
  | .nil, _, h => h
  | .pe _ _ _, _, h => h
  | .raw _, _, h => h
  | .dead, _, h => h

theorem Ment.drop {n m : Nm} : ∀ {c : CV}, Ment (c.drop n) m → Ment c m ∧ m ≠ n
  | .own k, h => by
    have h' : Ment (bif Nm.eqb k n then .dead else .own k) m := h
    cases e : Nm.eqb k n with
    | true => rw [e] at h'; exact h'.elim
    | false => rw [e] at h'; exact ⟨h', fun q => eqb_false.1 e ((show k = m from h').trans q)⟩
  | .pb k i, h => by
    have h' : Ment (bif Nm.eqb k n then .dead else .pb k i) m := h
    cases e : Nm.eqb k n with
    | true => rw [e] at h'; exact h'.elim
    | false => rw [e] at h'; exact ⟨h', fun q => eqb_false.1 e ((show k = m from h').trans q)⟩
  | .pa k s i j, h => by
    have h' : Ment (bif Nm.eqb k n then .dead else .pa k s i j) m := h
    cases e : Nm.eqb k n with
    | true => rw [e] at h'; exact h'.elim
    | false => rw [e] at h'; exact ⟨h', fun q => eqb_false.1 e ((show k = m from h').trans q)⟩
  | .clo f cs, h => by
    have h' : Ment (bif cs.any (fun p => Nm.eqb p.1 n) then .dead else .clo f cs) m := h
    cases e : cs.any (fun p => Nm.eqb p.1 n) with
    | true => rw [e] at h'; exact h'.elim
    | false =>
      rw [e] at h'
      obtain ⟨p, hp, hm⟩ := h'
      refine ⟨⟨p, hp, hm⟩, fun q => ?_⟩
      have : cs.any (fun p => Nm.eqb p.1 n) = true := List.any_eq_true.2 ⟨p, hp, eqb_iff.2 (hm.trans q)⟩
      rw [e] at this; cases this
  | .er _, h => h.elim
  | .mp k, h => by
    have h' : Ment (bif Nm.eqb k n then .dead else .mp k) m := h
    cases e : Nm.eqb k n with
    | true => rw [e] at h'; exact h'.elim
    | false => rw [e] at h'; exact ⟨h', fun q => eqb_false.1 e ((show k = m from h').trans q)⟩
  | .hd _, h => h.elim
  | .v _ _, h => h.elim
  | .nil, h => h.elim
  | .pe _ _ _, h => h.elim
  | .raw _, h => h.elim
  | .dead, h => h.elim

theorem RC.past {L : Nm → Value} {I : Nat → Prop} {w : World} {A : Nm → Option (Nat × Nat)} {n : Nm} {k : Nat} (hk : ∀ a l c, L n = .slice a l c → l = k) {c : CV} {u : Value} (h : RC L I w A c u) : RC L I w A (c.past n k) u := by
  cases c with
  | own m =>
    show RC L I w A (bif Nm.eqb m n then .hd k else .own m) _
    cases q : Nm.eqb m n with
    | true =>
      obtain ⟨a, l, c, rfl, h2⟩ := h
      rw [eqb_iff.1 q] at h2
      exact ⟨a, c, by rw [hk a l c h2]⟩
    | false => exact h
  | _ => exact RC.drop n h

theorem Ment.past {n m : Nm} {k : Nat} {c : CV} (h : Ment (c.past n k) m) : Ment c m ∧ m ≠ n := by
  cases c with
  | own j =>
    have h' : Ment (bif Nm.eqb j n then .hd k else .own j) m := h
    cases e : Nm.eqb j n with
    | true => rw [e] at h'; exact h'.elim
    | false => rw [e] at h'; exact ⟨h', fun q => eqb_false.1 e ((show j = m from h').trans q)⟩
  | _ => exact Ment.drop h

section
variable {L : Nm → Value} {I : Nat → Prop} {w : World} {A : Nm → Option (Nat × Nat)}

theorem as_sound {t : Ty} {x : t.den} : ∀ {c : CV} {u : Value}, c.as t = some x → RC L I w A c u → Rep I w t x [u]
  | .v s y, u, h, r => by
    simp only [CV.as] at h
    split at h
    · rename_i e q
      obtain rfl := Option.some.inj h
      exact Rep.cast e r
    · cases h
  | .nil, u, h, r => by
    cases t with
    | sl t =>
      obtain rfl := Option.some.inj (show some [] = some x from h)
      rw [show u = .slice none 0 0 from r]
      exact ⟨none, 0, [], rfl, Nat.le_refl _, trivial, .inl rfl⟩
    | _ => simp [CV.as] at h
  | .own _, _, h, _ => by simp [CV.as] at h
  | .pb _ _, _, h, _ => by simp [CV.as] at h
  | .pa _ _ _ _, _, h, _ => by simp [CV.as] at h
  | .pe _ _ _, _, h, _ => by simp [CV.as] at h
  | .clo _ _, _, h, _ => by simp [CV.as] at h
  | .er _, _, h, _ => by simp [CV.as] at h
  | .mp _, _, h, _ => by simp [CV.as] at h
  | .hd _, _, h, _ => by simp [CV.as] at h
  | .raw _, _, h, _ => by simp [CV.as] at h
  | .dead, _, h, _ => by simp [CV.as] at h

theorem split_sound : ∀ (t : Ty) {x : t.den} {vs : List Value}, Rep I w t x vs → All2 (RC L I w A) (split t x) vs
  | .int k, _, _, h => by rw [show _ = _ from h]; exact ⟨rfl, trivial⟩
  | .bool, _, _, h => by rw [show _ = _ from h]; exact ⟨rfl, trivial⟩
  | .str, _, _, h => by rw [show _ = _ from h]; exact ⟨rfl, trivial⟩
  | .sl t, x, vs, h => by
    have h' := h
    obtain ⟨a, c, css, rfl, _⟩ := h
    exact ⟨h', trivial⟩
  | .pr a b, _, _, h => by
    obtain ⟨va, vb, rfl, h1, h2⟩ := h
    exact (split_sound a h1).append (split_sound b h2)

theorem split_len : ∀ (t : Ty) (x : t.den), (split t x).length = t.sz
  | .int _, _ => rfl
  | .bool, _ => rfl
  | .str, _ => rfl
  | .sl _, _ => rfl
  | .pr a b, x => by simp only [split, List.length_append, Ty.sz, split_len a, split_len b]

theorem join1_sound {t : Ty} {x : t.den} {cs r : List CV} {vs : List Value} (h : join1 t cs = some (x, r)) (a : All2 (RC L I w A) cs vs) :
    ∃ va vb, vs = va ++ vb ∧ Rep I w t x va ∧ All2 (RC L I w A) r vb := by
  cases cs with
  | nil => cases h
  | cons c cs =>
    cases vs with
    | nil => exact a.elim
    | cons v vs =>
      simp only [join1] at h
      split at h
      · rename_i y e
        obtain ⟨rfl, rfl⟩ := Prod.mk.inj (Option.some.inj h)
        exact ⟨[v], vs, rfl, as_sound e a.1, a.2⟩
      · cases h

theorem join_sound : ∀ (t : Ty) {x : t.den} {cs r : List CV} {vs : List Value}, join t cs = some (x, r) → All2 (RC L I w A) cs vs →
    ∃ va vb, vs = va ++ vb ∧ Rep I w t x va ∧ All2 (RC L I w A) r vb
  | .int _, _, _, _, _, h, a => join1_sound h a
  | .bool, _, _, _, _, h, a => join1_sound h a
  | .str, _, _, _, _, h, a => join1_sound h a
  | .sl _, _, _, _, _, h, a => join1_sound h a
  | .pr p q, x, cs, r, vs, h, a => by
    unfold join at h
    split at h
    · rename_i y r1 e1
      split at h
      · rename_i z r2 e2
        obtain ⟨rfl, rfl⟩ := Prod.mk.inj (Option.some.inj h)
        obtain ⟨va, vb, rfl, h1, h2⟩ := join_sound p e1 a
        obtain ⟨vc, vd, rfl, h3, h4⟩ := join_sound q e2 h2
        exact ⟨va ++ vc, vd, by simp, ⟨va, vc, rfl, h1, h3⟩, h4⟩
      · cases h
    · cases h

theorem joinAll_sound {t : Ty} {x : t.den} {cs : List CV} {vs : List Value} (h : joinAll t cs = some x) (a : All2 (RC L I w A) cs vs) : Rep I w t x vs := by
  unfold joinAll at h
  split at h
  · rename_i y e
    obtain rfl := Option.some.inj h
    obtain ⟨va, vb, rfl, h1, h2⟩ := join_sound t e a
    cases vb with
    | nil => simpa using h1
    | cons => exact h2.elim
  · cases h

theorem zcells_sound : ∀ (t : Ty) , ∃ vs, All2 (RC L I w A) (zcells t) vs ∧ Rep I w t t.zero vs
  | .int k => ⟨[.int k 0], ⟨rfl, trivial⟩, rfl⟩
  | .bool => ⟨[.bool false], ⟨rfl, trivial⟩, rfl⟩
  | .str => ⟨[.string ⟨#[]⟩], ⟨rfl, trivial⟩, rfl⟩
  | .sl t => ⟨[.slice none 0 0], ⟨rfl, trivial⟩, none, 0, [], rfl, Nat.le_refl _, trivial, .inl rfl⟩
  | .pr a b => by
    obtain ⟨va, h1, h2⟩ := zcells_sound a
    obtain ⟨vb, h3, h4⟩ := zcells_sound b
    exact ⟨va ++ vb, h1.append h3, va, vb, rfl, h2, h4⟩
end

/-- The cells of a zero value. -/
def zvals : Ty → List Value
  | .int k => [.int k 0]
  | .bool => [.bool false]
  | .str => [.string ⟨#[]⟩]
  | .sl _ => [.slice none 0 0]
  | .pr a b => zvals a ++ zvals b
theorem zvals_cells {L : Nm → Value} {I : Nat → Prop} {w : World} {A : Nm → Option (Nat × Nat)} : ∀ (t : Ty), All2 (RC L I w A) (zcells t) (zvals t)
  | .int _ => ⟨rfl, trivial⟩
  | .bool => ⟨rfl, trivial⟩
  | .str => ⟨rfl, trivial⟩
  | .sl _ => ⟨rfl, trivial⟩
  | .pr a b => (zvals_cells a).append (zvals_cells b)
def Z.vals : Z → List Value
  | .t x => zvals x
  | .ptr => [.pointer none]
  | .fn => [.nilFunc]
  | .ifc => [.nilIface]
theorem zs_cells {L : Nm → Value} {I : Nat → Prop} {w : World} {A : Nm → Option (Nat × Nat)} : ∀ (zs : List Z), All2 (RC L I w A) (zs.flatMap Z.cells) (zs.flatMap Z.vals)
  | [] => trivial
  | z :: zs => by
    rw [List.flatMap_cons, List.flatMap_cons]
    refine All2.append ?_ (zs_cells zs)
    cases z with
    | t x => exact zvals_cells x
    | ptr => exact ⟨rfl, trivial⟩
    | fn => exact ⟨rfl, trivial⟩
    | ifc => exact ⟨rfl, trivial⟩
theorem zvals_rep {I : Nat → Prop} {w : World} : ∀ (t : Ty), Rep I w t t.zero (zvals t)
  | .int _ => rfl
  | .bool => rfl
  | .str => rfl
  | .sl _ => ⟨none, 0, [], rfl, Nat.le_refl _, trivial, .inl rfl⟩
  | .pr a b => ⟨zvals a, zvals b, rfl, zvals_rep a, zvals_rep b⟩

end AM
end Go.Proofs.YtpcdcnmmkfhliaaGreatDoor
