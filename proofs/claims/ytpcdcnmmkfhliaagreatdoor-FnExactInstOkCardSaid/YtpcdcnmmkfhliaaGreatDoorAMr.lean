/- Calls. No condition. -/
import Derived.Test.YtpcdcnmmkfhliaaGreatDoorAMq
namespace Go.Proofs.YtpcdcnmmkfhliaaGreatDoor
namespace AM
open Go
set_option linter.unusedSimpArgs false
set_option linter.unusedVariables false

def resV (a : Act) (np : Nat) : Nat → Value
  | 1 => a.tmps.getD np undef
  | n => .tuple ((List.range n).map fun j => a.tmps.getD (np + j) undef).toArray

/-- The first of the slots: what Go itself hands over. -/
def first (n : Nat) (xs : Array Value) : Array Value := (xs.toList.take n).toArray

/-- The function comes to what its summary says. -/
def Obeys (P : Program) (K : Glob) (f : FuncId) (S : FSum) : Prop :=
  ∀ (Y : Ctx) (L : Nm → Value) (I : Nat → Prop) (a : Act) (w : World) (x : TD (entys (parEns 0 S.pars))) (r : TD (entys (endEns S.pars S.res S.nb))), S.g x = some r →
    Rel Y L I (mkSt (parEns 0 S.pars) x) a w → Y.K = K → Y.N = S.pars.length → Y.w0 = w →
    Calls P f (first S.real a.tmps) w fun e w' => ∃ v L' I' a', e = .returned v ∧ Rel { Y with N := S.pars.length + (S.res.length + S.nb.length) } L' I' (mkSt S.ens r) a' w' ∧
      (∀ n, kept n = true → L' n = L n) ∧ v = resV a' S.pars.length S.res.length

section
variable {P : Program} {X : Ctx} {L : Nm → Value} {I : Nat → Prop} {s : St} {a : Act} {w : World}

theorem parEns_get : ∀ {ps : List Par} {k i : Nat} {e : En}, (parEns k ps)[i]? = some e → e.slot = k + i
  | [], _, _, _, h => by cases h
  | p :: ps, k, 0, e, h => by cases p <;> (obtain rfl := Option.some.inj h; rfl)
  | p :: ps, k, i + 1, e, h => by
    have h : (parEns (k + 1) ps)[i]? = some e := by cases p <;> exact h
    rw [parEns_get h]; omega

theorem parEns_len : ∀ (ps : List Par) (k : Nat), (parEns k ps).length = ps.length
  | [], _ => rfl
  | p :: ps, k => by cases p <;> simp [parEns, parEns_len ps]

theorem parEns_ptr : ∀ (ps : List Par) (k i : Nat) (n : Nm) (o : Nat), En.ptr i n o ∉ parEns k ps
  | [], _, _, _, _ => by simp [parEns]
  | p :: ps, k, i, n, o => by cases p <;> simp [parEns, parEns_ptr ps]

theorem getVs_len {o : Nm → Option Ob} : ∀ {es : List En} {vs : List AV} {ds : List DV} {ts : List Tag}, getVs o es vs = some (ds, ts) → vs.length = es.length
  | [], [], _, _, _ => rfl
  | [], _ :: _, _, _, e => by cases e
  | _ :: _, [], _, _, e => by cases e
  | en :: es, v :: vs, _, _, e => by
    simp only [getVs] at e
    split at e
    · rename_i d t ds ts e1 e2
      simp [getVs_len e2]
    · cases e

theorem evs_sound (h : Rel X L I s a w) : ∀ xs : List Operand, All2 (RA L I w (AL s.o)) (xs.map s.ev) (xs.map a.eval)
  | [] => trivial
  | x :: xs => ⟨h.ev x, evs_sound h xs⟩

theorem upOf_inv {d : Nat} {o : Nm → Option Ob} {ts : List Tag} {names : List Nm} {m n : Nm} {ob ob' : Ob} (h : upOf d o ts names m ob = some (n, ob')) :
    (∃ k e t xs e' u xs', findTag m ts = .bw k n ∧ ob = .arr e t xs ∧ o n = some (.arr e' u xs') ∧ u.sz = t.sz ∧ kept m = true ∧ ob' = .arr e t xs) ∨
    (∃ k off len cells cs, findTag m ts = .pb k n off len ∧ ob = .box cells ∧ o n = some (.box cs) ∧ off + len ≤ cs.length ∧ cells.length = len ∧ kept m = true ∧ ob' = .box (spl cs off (cells.map (renC d ts names)))) ∨
    (∃ e t xs, ob = .arr e t xs ∧ n = d :: m ∧ ob' = ob) ∨
    (∃ cells, ob = .box cells ∧ n = d :: m ∧ ob' = .box (cells.map (renC d ts names))) := by
  unfold upOf at h
  cases ht : findTag m ts with
  | bw k n' =>
    rw [ht] at h
    cases ob with
    | box _ => cases h
    | mp _ _ _ _ => cases h
    | arr e t xs =>
      dsimp only at h
      split at h
      · rename_i e' u xs' en
        cases q : (kept m && Nat.beq u.sz t.sz) with
        | false => rw [q] at h; cases h
        | true =>
          rw [q] at h
          obtain ⟨rfl, rfl⟩ := Prod.mk.inj (Option.some.inj h)
          rw [Bool.and_eq_true] at q
          exact .inl ⟨k, e, t, xs, e', u, xs', rfl, rfl, en, Nat.eq_of_beq_eq_true q.2, q.1, rfl⟩
      · cases h
  | pb k n' off len =>
    rw [ht] at h
    cases ob with
    | arr _ _ _ => cases h
    | mp _ _ _ _ => cases h
    | box cells =>
      dsimp only at h
      split at h
      · rename_i cs en
        cases q : (kept m && (Nat.ble (off + len) cs.length && Nat.beq cells.length len)) with
        | false => rw [q] at h; cases h
        | true =>
          rw [q] at h
          obtain ⟨rfl, rfl⟩ := Prod.mk.inj (Option.some.inj h)
          rw [Bool.and_eq_true, Bool.and_eq_true] at q
          exact .inr (.inl ⟨k, off, len, cells, cs, rfl, rfl, en, Nat.le_of_ble_eq_true q.2.1, Nat.eq_of_beq_eq_true q.2.2, q.1, rfl⟩)
      · cases h
  | pa _ _ _ _ _ => rw [ht] at h; cases h
  | mx _ _ _ => rw [ht] at h; cases h
  | no =>
    rw [ht] at h
    cases ob with
    | mp _ _ _ _ => cases h
    | box cells => obtain ⟨rfl, rfl⟩ := Prod.mk.inj (Option.some.inj h); exact .inr (.inr (.inr ⟨cells, rfl, rfl, rfl⟩))
    | arr e t xs => obtain ⟨rfl, rfl⟩ := Prod.mk.inj (Option.some.inj h); exact .inr (.inr (.inl ⟨e, t, xs, rfl, rfl, rfl⟩))
  | ln _ =>
    rw [ht] at h
    cases ob with
    | mp _ _ _ _ => cases h
    | box cells => obtain ⟨rfl, rfl⟩ := Prod.mk.inj (Option.some.inj h); exact .inr (.inr (.inr ⟨cells, rfl, rfl, rfl⟩))
    | arr e t xs => obtain ⟨rfl, rfl⟩ := Prod.mk.inj (Option.some.inj h); exact .inr (.inr (.inl ⟨e, t, xs, rfl, rfl, rfl⟩))
  | mv _ _ =>
    rw [ht] at h
    cases ob with
    | mp _ _ _ _ => cases h
    | box cells => obtain ⟨rfl, rfl⟩ := Prod.mk.inj (Option.some.inj h); exact .inr (.inr (.inr ⟨cells, rfl, rfl, rfl⟩))
    | arr e t xs => obtain ⟨rfl, rfl⟩ := Prod.mk.inj (Option.some.inj h); exact .inr (.inr (.inl ⟨e, t, xs, rfl, rfl, rfl⟩))
  | pt _ =>
    rw [ht] at h
    cases ob with
    | mp _ _ _ _ => cases h
    | box cells => obtain ⟨rfl, rfl⟩ := Prod.mk.inj (Option.some.inj h); exact .inr (.inr (.inr ⟨cells, rfl, rfl, rfl⟩))
    | arr e t xs => obtain ⟨rfl, rfl⟩ := Prod.mk.inj (Option.some.inj h); exact .inr (.inr (.inl ⟨e, t, xs, rfl, rfl, rfl⟩))
  | mm _ _ =>
    rw [ht] at h
    cases ob with
    | mp _ _ _ _ => cases h
    | box cells => obtain ⟨rfl, rfl⟩ := Prod.mk.inj (Option.some.inj h); exact .inr (.inr (.inr ⟨cells, rfl, rfl, rfl⟩))
    | arr e t xs => obtain ⟨rfl, rfl⟩ := Prod.mk.inj (Option.some.inj h); exact .inr (.inr (.inl ⟨e, t, xs, rfl, rfl, rfl⟩))

theorem tag_uniq : ∀ {ts : List Tag}, ((ts.flatMap Tag.pair).map Prod.snd).Nodup → ∀ {t t' : Tag} {a b n : Nm}, t ∈ ts → t' ∈ ts → t.pair = [(a, n)] → t'.pair = [(b, n)] → t = t'
  | [], _, _, _, _, _, _, h, _, _, _ => by cases h
  | q :: ts, hn, t, t', a, b, n, h, h', e, e' => by
    rw [List.flatMap_cons, List.map_append] at hn
    have hd := List.nodup_append.1 hn
    have inn : ∀ {x : Tag} {c : Nm}, x ∈ ts → x.pair = [(c, n)] → n ∈ (ts.flatMap Tag.pair).map Prod.snd := fun {x c} h e => List.mem_map.2 ⟨(c, n), List.mem_flatMap.2 ⟨x, h, by rw [e]; exact List.mem_singleton.2 rfl⟩, rfl⟩
    rcases List.mem_cons.1 h with h1 | h1
    · rcases List.mem_cons.1 h' with h2 | h2
      · rw [h1, h2]
      · exact absurd rfl (hd.2.2 n (by rw [← h1, e]; exact List.mem_singleton.2 rfl) n (inn h2 e'))
    · rcases List.mem_cons.1 h' with h2 | h2
      · exact absurd rfl (hd.2.2 n (by rw [← h2, e']; exact List.mem_singleton.2 rfl) n (inn h1 e))
      · exact tag_uniq hd.2.1 h1 h2 e e'

/-! ### Renaming -/
section
variable {L' L2 : Nm → Value} {I' I2 : Nat → Prop} {A' A2 : Nm → Option (Nat × Nat)} {d : Nat} {ts : List Tag} {names : List Nm}

structure Ren (L' L2 : Nm → Value) (I' I2 : Nat → Prop) (w : World) (d : Nat) (ts : List Tag) (names : List Nm) (fl : Bool) : Prop where
  nm : ∀ m ∈ names, L2 (d :: m) = L' m
  pt : ∀ p q, renP d ts names p = some q → ∀ b o, L' p.1 = .pointer (some ⟨b, o, none⟩) → ∃ o', L2 q.1 = .pointer (some ⟨b, o', none⟩) ∧ o' + q.2 = o + p.2
  im : fl = false → ∀ b, I' b → I2 b

variable {fl : Bool}

theorem Ren.rep (h : Ren L' L2 I' I2 w d ts names fl) {t : Ty} {x : t.den} {us : List Value} (hf : fl = true → t.hasSl = false) (r : Rep I' w t x us) : Rep I2 w t x us := by
  cases e : fl with
  | true => exact Rep.plain t (hf e) r
  | false => exact Rep.mono (h.im e) (fun _ _ => rfl) t r

theorem Ren.frep (h : Ren L' L2 I' I2 w d ts names fl) {t : Ty} {xs : List t.den} {us : List Value} (hf : fl = true → t.hasSl = false) (r : FRep I' w t xs us) : FRep I2 w t xs us := by
  cases e : fl with
  | true => exact FRep.plain (hf e) r
  | false => exact FRep.mono (h.im e) (fun _ _ => rfl) r

theorem Ren.caps (h : Ren L' L2 I' I2 w d ts names fl) : ∀ {cs ds : List (Nm × Nat)} {us : List Value}, renPs d ts names cs = some ds → Caps L' cs us → Caps L2 ds us
  | [], ds, us, e, r => by
    obtain rfl := Option.some.inj e
    cases us with
    | nil => trivial
    | cons _ _ => exact r.elim
  | c :: cs, ds, us, e, r => by
    simp only [renPs] at e
    split at e
    · rename_i q l e1 e2
      obtain rfl := Option.some.inj e
      cases us with
      | nil => exact r.elim
      | cons u us =>
        obtain ⟨⟨b, o, r1, r2⟩, r3⟩ := r
        obtain ⟨o', g1, g2⟩ := h.pt c q e1 b o r1
        exact ⟨⟨b, o', g1, by rw [r2, ← g2]⟩, h.caps e2 r3⟩
    · cases e

theorem Ren.rc (h : Ren L' L2 I' I2 w d ts names fl) {c : CV} {u : Value} (hn : ∀ m, c = .own m → m ∈ names) (hf : fl = true → c.flat = true) (r : RC L' I' w A' c u) : RC L2 I2 w A2 (renC d ts names c) u := by
  cases c with
  | own m =>
    obtain ⟨x1, x2, x3, rfl, r⟩ := r
    exact ⟨x1, x2, x3, rfl, by rw [h.nm m (hn m rfl), r]⟩
  | v t x => exact h.rep (fun q => by simpa [CV.flat] using hf q) r
  | er b => exact r
  | pb n i =>
    obtain ⟨b, o, r1, r2⟩ := r
    simp only [renC]
    cases e : renP d ts names (n, i) with
    | none => trivial
    | some q =>
      obtain ⟨o', g1, g2⟩ := h.pt _ q e b o r1
      exact ⟨b, o', g1, by rw [r2, g2]⟩
  | clo f cs =>
    obtain ⟨us, r1, r2⟩ := r
    simp only [renC]
    cases e : renPs d ts names cs with
    | none => trivial
    | some l => exact ⟨us, r1, h.caps e r2⟩
  | _ => trivial

theorem Ren.rcs (h : Ren L' L2 I' I2 w d ts names fl) : ∀ {cs : List CV} {us : List Value}, (∀ m, CV.own m ∈ cs → m ∈ names) → (fl = true → cs.all CV.flat = true) → All2 (RC L' I' w A') cs us → All2 (RC L2 I2 w A2) (cs.map (renC d ts names)) us
  | [], [], _, _, _ => trivial
  | [], _ :: _, _, _, r => r.elim
  | _ :: _, [], _, _, r => r.elim
  | c :: cs, u :: us, hn, hf, ⟨r1, r2⟩ => by
    have hf' : fl = true → c.flat = true ∧ cs.all CV.flat = true := fun q => by simpa using hf q
    exact ⟨h.rc (fun m e => hn m (e ▸ List.mem_cons_self ..)) (fun q => (hf' q).1) r1, h.rcs (fun m e => hn m (List.mem_cons_of_mem _ e)) (fun q => (hf' q).2) r2⟩

theorem Ren.ra (h : Ren L' L2 I' I2 w d ts names fl) {v : AV} {u : Value} (hn : ∀ m, CV.own m ∈ v.cellsOf → m ∈ names) (hf : fl = true → v.flat = true) (r : RA L' I' w A' v u) : RA L2 I2 w A2 (v.ren d ts names) u := by
  cases v with
  | c x => exact h.rc (fun m e => hn m (e ▸ List.mem_singleton.2 rfl)) hf r
  | g cs => obtain ⟨vs, rfl, r⟩ := r; exact ⟨vs, rfl, h.rcs hn hf r⟩
  | tup l =>
    cases e : fl with
    | true => cases hf e
    | false =>
      obtain ⟨us, rfl, r⟩ := r
      refine ⟨us, rfl, ?_⟩
      clear hf
      induction l generalizing us with
      | nil => cases us with
        | nil => trivial
        | cons _ _ => exact r.elim
      | cons p l ih =>
        cases us with
        | nil => exact r.elim
        | cons u us =>
          obtain ⟨r1, r2⟩ := r
          refine ⟨?_, ih (fun m hm => hn m (List.mem_append_right _ hm)) us r2⟩
          obtain ⟨b, cs⟩ := p
          have hn' : ∀ m, CV.own m ∈ cs → m ∈ names := fun m hm => hn m (List.mem_append_left _ hm)
          cases b with
          | true => obtain ⟨vs, rfl, r⟩ := r1; exact ⟨vs, rfl, h.rcs hn' (fun q => by rw [e] at q; cases q) r⟩
          | false => exact h.rcs hn' (fun q => by rw [e] at q; cases q) r1

theorem part_rp {v : AV} {u : Value} (r : RA L' I' w A' v u) : RP L' I' w A' v.part u := by
  cases v with
  | c x => exact ⟨r, trivial⟩
  | g cs => exact r
  | tup l => exact ⟨trivial, trivial⟩

theorem Ren.rp (h : Ren L' L2 I' I2 w d ts names fl) {v : AV} {u : Value} (hn : ∀ m, CV.own m ∈ v.cellsOf → m ∈ names) (hf : fl = true → v.flat = true) (r : RA L' I' w A' v u) : RP L2 I2 w A2 (v.part.1, v.part.2.map (renC d ts names)) u := by
  cases v with
  | c x => exact ⟨h.ra hn hf r, trivial⟩
  | g cs => exact h.ra hn hf r
  | tup l => exact ⟨trivial, trivial⟩

/-- The results of a call. -/
theorem Ren.res (h : Ren L' L2 I' I2 w d ts names fl) {te : List (Nat × AV)} {a' : Act} {np : Nat} (hn : ∀ i m, CV.own m ∈ (look te i).cellsOf → m ∈ names) (hf : fl = true → ∀ i, (look te i).flat = true)
    (r : ∀ i, RA L' I' w A' (look te i) (a'.tmps.getD i undef)) (n : Nat) : RA L2 I2 w A2 ((resAV te np n).ren d ts names) (resV a' np n) := by
  have many : ∀ l : List Nat, RA L2 I2 w A2 ((AV.tup (l.map fun j => (look te (np + j)).part)).ren d ts names) (.tuple (l.map fun j => a'.tmps.getD (np + j) undef).toArray) := by
    intro l
    refine ⟨l.map fun j => a'.tmps.getD (np + j) undef, rfl, ?_⟩
    induction l with
    | nil => trivial
    | cons j l ih => exact ⟨h.rp (hn _) (fun q => hf q _) (r _), ih⟩
  unfold resAV resV
  split
  · exact h.ra (hn np) (fun q => hf q np) (r np)
  · rename_i h1
    split
    · exact absurd rfl h1
    · exact many _
end
end
end AM
end Go.Proofs.YtpcdcnmmkfhliaaGreatDoor
