/- Each operation that only computes, continued: conversions, cuts, lengths, structs put together. Under: the table of types tells the program's types. -/
import Derived.Test.YtpcdcnmmkfhliaaGreatDoorAMi
import Derived.Laws.DeepStrings4
namespace Go.Proofs.YtpcdcnmmkfhliaaGreatDoor
namespace AM
open Go
set_option linter.unusedSimpArgs false
set_option linter.unusedVariables false

section
variable {P : Program} {τ : Tab} {X : Ctx} {L : Nm → Value} {I : Nat → Prop} {s : St} {a : Act} {w : World}

theorem bytes_run {src dst el : Nat} (hs : P.underlying src = some (.slice el)) (he : P.underlying el = some (.int .u8)) (hd : P.underlying dst = some .string) {xs : List Int} {u : Value}
    (r : Rep I w (.sl (.int .u8)) xs [u]) : (convert src dst u).run P w = .ok (.string (bytesOf xs)) w := by
  obtain ⟨ad, c, css, e, hc, h1, h2⟩ := r
  obtain rfl := List.head_eq_of_cons_eq e
  rcases h2 with rfl | ⟨b, off, rfl, hb, h2⟩
  · cases ad with
    | none =>
      rw [run_convert_bytes_nil w src el hs he _ _ dst hd]; rfl
    | some ad =>
      rw [run_convert_bytes_string w src dst el _ _ _ hs he hd]
      exact run_bytesToString (P := P) w ad 0 c [] (by simp [Go.loadCells, loadCellsFrom])
  · have key : ∀ {xs : List Int} {css : List (List Value)}, All2 (fun x cs => Rep I w (.int .u8) x cs) xs css → css.flatten = xs.map (Value.int .u8) := by
      intro xs
      induction xs with
      | nil => intro css h; cases css; rfl; exact h.elim
      | cons x xs ih =>
        intro css h
        cases css with
        | nil => exact h.elim
        | cons cs css => rw [List.flatten_cons, ih h.2, show cs = _ from h.1]; rfl
    have := run_convert_bytes_arg (P := P) w src el hs he b off xs.length c xs rfl (fun i hi => h2 i _ (by
      rw [key h1, List.getElem?_map, List.getElem?_eq_getElem hi, List.getD_eq_getElem?_getD, List.getElem?_eq_getElem hi]; rfl)) dst hd
    simpa [strOfNums, bytesOf] using this

theorem isBytes_spec (hτ : TabOk P τ) {q : Nat} {tq : TI} (hq : τ.get q = some tq) (h : isBytes τ tq = true) : P.underlying q = some (.slice tq.el) ∧ P.underlying tq.el = some (.int .u8) := by
  unfold isBytes at h
  rw [Bool.and_eq_true] at h
  obtain ⟨h1, h2⟩ := h
  split at h2
  · rename_i te e
    rw [Bool.and_eq_true] at h2
    refine ⟨(hτ q tq hq).slice (Nat.eq_of_beq_eq_true h1), ?_⟩
    have := (hτ _ te e).int (Nat.eq_of_beq_eq_true h2.1)
    have k : te.ik = .u8 := by
      cases hk : te.ik <;> rw [hk] at h2 <;> first | rfl | (exact absurd h2.2 (by decide))
    rw [this, k]
  · cases h2

theorem vop_convert (h : Rel X L I s a w) (hτ : TabOk P τ) {o : Oper} {q d : Nat} {x : Operand} (ho : o.op = .convert q d x) {c : Bool} {v : AV} (e : vop τ (.convert q d x) s.ev s.o = some (c, v)) :
    ∃ u, Gives P w a.eval o u ∧ RA L I w (AL s.o) v u := by
  simp only [vop] at e
  have r := h.ev x
  have fin : ∀ u, (convert q d (a.eval x)).run P w = .ok u w → Gives P w a.eval o u := fun u hu => gives_v (e := convert q d (a.eval x)) (by simp [execOp, ho]) hu
  split at e
  · cases e
  · rename_i tq e0
    obtain ⟨sq, hsq⟩ := Option.isSome_iff_exists.1 (hτ q tq e0).und
    split at e
    · rename_i ti k n e1 e2
      cases k1 : Nat.beq ti.kind 1 with
      | false => rw [k1] at e; cases e
      | true =>
        rw [k1] at e
        obtain ⟨_, rfl⟩ := Prod.mk.inj (Option.some.inj e)
        rw [e2] at r
        refine ⟨.int ti.ik (ti.ik.wrap n), fin _ ?_, rfl⟩
        rw [isInt r]
        have hd := (hτ d ti e1).int (Nat.eq_of_beq_eq_true k1)
        simp only [convert, Sem.run_bind, run_underlying hsq, run_underlying hd, Result.andThen]
        cases sq <;> rfl
    · rename_i ti n e1 e2
      cases k1 : Nat.beq ti.kind 5 with
      | false => rw [k1] at e; cases e
      | true =>
        rw [k1] at e
        obtain ⟨_, rfl⟩ := Prod.mk.inj (Option.some.inj e)
        rw [e2] at r
        refine ⟨.string n, fin _ ?_, rfl⟩
        rw [isStr r]
        have hd := (hτ d ti e1).str (Nat.eq_of_beq_eq_true k1)
        simp only [convert, Sem.run_bind, run_underlying hsq, run_underlying hd, Result.andThen]
        cases sq <;> rfl
    · rename_i ti n e1 e2
      cases k1 : (Nat.beq ti.kind 5 && isBytes τ tq) with
      | false => rw [k1] at e; cases e
      | true =>
        rw [k1] at e
        obtain ⟨_, rfl⟩ := Prod.mk.inj (Option.some.inj e)
        rw [e2] at r
        rw [Bool.and_eq_true] at k1
        obtain ⟨g1, g2⟩ := isBytes_spec hτ e0 k1.2
        exact ⟨_, fin _ (bytes_run g1 g2 ((hτ d ti e1).str (Nat.eq_of_beq_eq_true k1.1)) r), rfl⟩
    · rename_i ti e1 e2
      cases k1 : (Nat.beq ti.kind 5 && isBytes τ tq) with
      | false => rw [k1] at e; cases e
      | true =>
        rw [k1] at e
        obtain ⟨_, rfl⟩ := Prod.mk.inj (Option.some.inj e)
        rw [e2] at r
        rw [Bool.and_eq_true] at k1
        obtain ⟨g1, g2⟩ := isBytes_spec hτ e0 k1.2
        exact ⟨_, fin _ (bytes_run (I := I) g1 g2 ((hτ d ti e1).str (Nat.eq_of_beq_eq_true k1.1)) (by rw [show a.eval x = .slice none 0 0 from r]; exact ⟨none, 0, [], rfl, Nat.le_refl _, trivial, .inl rfl⟩)), rfl⟩
    · rename_i ti n e1 e2
      split at e
      · rename_i el xs en
        cases k1 : (Nat.beq ti.kind 5 && isBytes τ tq) with
        | false => rw [k1] at e; cases e
        | true =>
          rw [k1] at e
          obtain ⟨_, rfl⟩ := Prod.mk.inj (Option.some.inj e)
          rw [e2] at r
          rw [Bool.and_eq_true] at k1
          obtain ⟨g1, g2⟩ := isBytes_spec hτ e0 k1.2
          obtain ⟨vs, h1, h2⟩ := h.obj n _ en
          obtain ⟨_, _, _, _, r⟩ := r
          have := own_rep (I' := fun _ => True) h1 (FRep.mono (fun _ _ => trivial) (fun _ _ => rfl) h2) (fun _ _ => trivial)
          rw [r] at this
          exact ⟨_, fin _ (bytes_run g1 g2 ((hτ d ti e1).str (Nat.eq_of_beq_eq_true k1.1)) this), rfl⟩
      · cases e
    · cases e

/-! ### cuts -/
theorem flat_take {t : Ty} : ∀ {xs : List t.den} {css : List (List Value)} (n : Nat), All2 (Rep I w t) xs css → (css.take n).flatten = css.flatten.take (n * t.sz)
  | _, [], n, _ => by simp
  | [], _ :: _, _, h => h.elim
  | x :: xs, c :: cs, 0, _ => by simp
  | x :: xs, c :: cs, n + 1, h => by
    rw [List.take_succ_cons, List.flatten_cons, List.flatten_cons, flat_take n h.2]
    have := Rep.len t h.1
    rw [show (n + 1) * t.sz = c.length + n * t.sz by rw [this, Nat.add_mul]; omega, List.take_length_add_append]
theorem flat_drop {t : Ty} : ∀ {xs : List t.den} {css : List (List Value)} (n : Nat), All2 (Rep I w t) xs css → (css.drop n).flatten = css.flatten.drop (n * t.sz)
  | _, [], n, _ => by simp
  | [], _ :: _, _, h => h.elim
  | x :: xs, c :: cs, 0, _ => by simp
  | x :: xs, c :: cs, n + 1, h => by
    rw [List.drop_succ_cons, List.flatten_cons, flat_drop n h.2]
    have := Rep.len t h.1
    rw [show (n + 1) * t.sz = c.length + n * t.sz by rw [this, Nat.add_mul]; omega, List.drop_length_add_append]

/-- A cut of a slice that nobody writes. -/
theorem rep_cut {t : Ty} {xs : List t.den} {ad : Option Addr} {len c : Nat} (r : Rep I w (.sl t) xs [.slice ad len c]) {l h : Nat} (hl : l ≤ h) (hh : h ≤ xs.length) :
    Rep I w (.sl t) ((xs.take h).drop l) [sliced ad l h c t.sz] := by
  obtain ⟨a', c', css, e, hc, h1, h2⟩ := r
  have e := List.head_eq_of_cons_eq e
  injection e with e1 e2 e3
  subst e1; subst e2; subst e3
  have hlen : ((xs.take h).drop l).length = h - l := by simp; omega
  refine ⟨_, _, (css.take h).drop l, by rw [hlen]; rfl, by omega, (h1.take h).drop l, ?_⟩
  rcases h2 with rfl | ⟨b, off, rfl, hb, h2⟩
  · left; simp
  · by_cases k : c = l
    · left
      have : h - l = 0 := by omega
      exact List.length_eq_zero_iff.1 (by omega)
    · right
      refine ⟨b, off + l * t.sz, by rw [if_neg k]; simp [Addr.add_lit], hb, fun j u hu => ?_⟩
      rw [flat_drop l (h1.take h), flat_take h h1, List.getElem?_drop, List.getElem?_take] at hu
      split at hu
      · rw [Nat.add_assoc]; exact h2 _ u hu
      · cases hu

theorem slice_run {t : Nat} {ti te : TI} (hτ : TabOk P τ) (e1 : τ.get t = some ti) (k : ti.kind = 3) (e2 : τ.get ti.el = some te) (lo hi : Option Value) (ad : Option Addr) (len c : Nat) (l h : Int)
    (hlo : (lo = none ∧ l = 0) ∨ ∃ k, lo = some (.int k l)) (hhi : (hi = none ∧ h = len) ∨ ∃ k, hi = some (.int k h)) (h0 : 0 ≤ l) (h1 : l ≤ h) (h2 : h ≤ (len : Int)) (hc : len ≤ c) :
    (Instr.sliceAt t (.slice ad len c) lo hi none).run P w = .ok (sliced ad l.toNat h.toNat c te.size) w := by
  have hu := (hτ t ti e1).slice k
  have hel : P.elem t = ti.el := by simp [Program.elem, hu]
  have hu' : P.underlying t = some (.slice (P.elem t)) := by rw [hel]; exact hu
  have hs := (hτ _ te e2).sizeOf w
  rw [run_sliceAt_slice w t _ lo hi none hu']
  rcases hlo with ⟨rfl, rfl⟩ | ⟨kl, rfl⟩ <;> rcases hhi with ⟨rfl, rfl⟩ | ⟨kh, rfl⟩
  · rw [run_slice_all w t ad len c hu', hel, hs]; rfl
  · rw [run_slice_h w t ad len c hu' kh h (by omega) (by omega), hel, hs]; rfl
  · rw [run_slice_l w t ad len c hu' kl l h0 (by omega), hel, hs]; rfl
  · rw [run_slice_lh w t ad len c hu' kl kh l h h0 h1 (by omega), hel, hs]; rfl

theorem optInt (h : Rel X L I s a w) {x : Operand} {k : IntKind} {l : Int} {lo : Option Operand} (e : lo.map s.ev = some (.c (.v (.int k) l))) : ∃ k, lo.map a.eval = some (.int k l) := by
  cases lo with
  | none => cases e
  | some y =>
    have e := Option.some.inj e
    have r := h.ev y
    rw [e] at r
    exact ⟨k, by rw [Option.map_some, isInt r]⟩
theorem optNone {lo : Option Operand} (e : lo.map s.ev = none) : lo.map a.eval = none := by
  cases lo with
  | none => rfl
  | some y => cases e

theorem str_slice_run {t : Nat} (ht : P.underlying t = some .string) (x : ByteArray) (lo hi : Option Value) (l h : Int)
    (hlo : (lo = none ∧ l = 0) ∨ ∃ k, lo = some (.int k l)) (hhi : (hi = none ∧ h = x.size) ∨ ∃ k, hi = some (.int k h)) (h0 : 0 ≤ l) (h1 : l ≤ h) (h2 : h ≤ (x.size : Int)) :
    (Instr.sliceAt t (.string x) lo hi none).run P w = .ok (.string (sub x l h)) w := by
  rw [run_sliceAt_string w t _ lo hi none ht]
  have eh : (h.toNat : Int) = h := Int.toNat_of_nonneg (by omega)
  have h3 : 0 ≤ h := by omega
  unfold sub
  rcases hlo with ⟨rfl, rfl⟩ | ⟨kl, rfl⟩ <;> rcases hhi with ⟨rfl, rfl⟩ | ⟨kh, rfl⟩
  · simp [Instr.slice, run_underlying ht, Instr.sliceBounds, Result.andThen]
  · simp [Instr.slice, run_underlying ht, Instr.sliceBounds, run_sliceBound, Result.andThen, h3, h2]
  · simp [Instr.slice, run_underlying ht, Instr.sliceBounds, run_sliceBound, Result.andThen, h0, h1]
  · simp [Instr.slice, run_underlying ht, Instr.sliceBounds, run_sliceBound, Result.andThen, h0, h1, h2, h3, eh]

theorem vop_slice (h : Rel X L I s a w) (hτ : TabOk P τ) {o : Oper} {t : Nat} {x : Operand} {lo hi mx : Option Operand} (ho : o.op = .slice t x lo hi mx) {v : AV} (e : vop τ (.slice t x lo hi mx) s.ev s.o = some (true, v)) :
    ∃ u, Gives P w a.eval o u ∧ RA L I w (AL s.o) v u := by
  cases mx with
  | some m => simp [vop] at e
  | none =>
  simp only [vop] at e
  have r := h.ev x
  have fin : ∀ u, (Instr.sliceAt t (a.eval x) (lo.map a.eval) (hi.map a.eval) none).run P w = .ok u w → Gives P w a.eval o u := fun u hu =>
    gives_v (e := Instr.sliceAt t (a.eval x) (lo.map a.eval) (hi.map a.eval) none) (by simp [execOp, ho]) hu
  split at e
  · rename_i ti z e1 e2
    cases k : Nat.beq ti.kind 5 with
    | false => rw [k] at e; cases e
    | true =>
      rw [k] at e
      simp only [cond_true] at e
      rw [e2] at r
      have ht := (hτ t ti e1).str (Nat.eq_of_beq_eq_true k)
      have hz := isStr r
      split at e
      · rename_i e3 e4
        obtain ⟨_, rfl⟩ := Prod.mk.inj (Option.some.inj e)
        refine ⟨.string (sub z 0 (ByteArray.size z)), fin _ (by rw [hz]; exact str_slice_run ht z _ _ 0 _ (.inl ⟨optNone e3, rfl⟩) (.inl ⟨optNone e4, rfl⟩) (Int.le_refl _) (by omega) (Int.le_refl _)), ?_⟩
        show [Value.string (sub z 0 (ByteArray.size z))] = [Value.string z]
        rw [show sub z 0 (ByteArray.size z) = z by unfold sub; simp]
      · rename_i kl l e3 e4
        obtain ⟨hc, rfl⟩ := Prod.mk.inj (Option.some.inj e)
        obtain ⟨c1, c2, c3⟩ := rng_iff.1 hc
        exact ⟨_, fin _ (by rw [hz]; exact str_slice_run ht z _ _ l _ (.inr (optInt h (x := x) e3)) (.inl ⟨optNone e4, rfl⟩) c1 c2 c3), rfl⟩
      · rename_i kh q e3 e4
        obtain ⟨hc, rfl⟩ := Prod.mk.inj (Option.some.inj e)
        obtain ⟨c1, c2, c3⟩ := rng_iff.1 hc
        exact ⟨_, fin _ (by rw [hz]; exact str_slice_run ht z _ _ 0 q (.inl ⟨optNone e3, rfl⟩) (.inr (optInt h (x := x) e4)) c1 c2 c3), rfl⟩
      · rename_i kl l kh q e3 e4
        obtain ⟨hc, rfl⟩ := Prod.mk.inj (Option.some.inj e)
        obtain ⟨c1, c2, c3⟩ := rng_iff.1 hc
        exact ⟨_, fin _ (by rw [hz]; exact str_slice_run ht z _ _ l q (.inr (optInt h (x := x) e3)) (.inr (optInt h (x := x) e4)) c1 c2 c3), rfl⟩
      · cases e
  · rename_i ti ty xs e1 e2
    cases k : Nat.beq ti.kind 3 with
    | false => rw [k] at e; cases e
    | true =>
      rw [k] at e
      simp only [cond_true] at e
      split at e
      · rename_i te e5
        cases k2 : Nat.beq te.size ty.sz with
        | false => rw [k2] at e; cases e
        | true =>
          rw [k2] at e
          simp only [cond_true] at e
          rw [e2] at r
          have hk := Nat.eq_of_beq_eq_true k
          have hsz := Nat.eq_of_beq_eq_true k2
          have r' := r
          obtain ⟨ad, c, css, e6, hc, _, _⟩ := r
          have e6 := List.head_eq_of_cons_eq e6
          have r' : Rep I w (.sl ty) xs [.slice ad (List.length xs) c] := by rw [← e6]; exact r'
          split at e
          · rename_i e3 e4
            obtain ⟨_, rfl⟩ := Prod.mk.inj (Option.some.inj e)
            refine ⟨_, fin _ (by rw [e6]; exact slice_run hτ e1 hk e5 _ _ ad (List.length xs) c 0 _ (.inl ⟨optNone e3, rfl⟩) (.inl ⟨optNone e4, rfl⟩) (Int.le_refl _) (by omega) (Int.le_refl _) hc), ?_⟩
            have := rep_cut r' (l := 0) (h := List.length xs) (Nat.zero_le _) (Nat.le_refl _)
            rw [List.take_length, List.drop_zero, ← hsz] at this
            exact this
          · rename_i kl l e3 e4
            obtain ⟨hq, rfl⟩ := Prod.mk.inj (Option.some.inj e)
            obtain ⟨c1, c2, c3⟩ := rng_iff.1 hq
            refine ⟨_, fin _ (by rw [e6]; exact slice_run hτ e1 hk e5 _ _ ad (List.length xs) c l _ (.inr (optInt h (x := x) e3)) (.inl ⟨optNone e4, rfl⟩) c1 c2 c3 hc), ?_⟩
            rw [hsz]; exact rep_cut r' (by omega) (by omega)
          · rename_i kh q e3 e4
            obtain ⟨hq, rfl⟩ := Prod.mk.inj (Option.some.inj e)
            obtain ⟨c1, c2, c3⟩ := rng_iff.1 hq
            refine ⟨_, fin _ (by rw [e6]; exact slice_run hτ e1 hk e5 _ _ ad (List.length xs) c 0 q (.inl ⟨optNone e3, rfl⟩) (.inr (optInt h (x := x) e4)) c1 c2 c3 hc), ?_⟩
            rw [hsz]; exact rep_cut r' (by omega) (by omega)
          · rename_i kl l kh q e3 e4
            obtain ⟨hq, rfl⟩ := Prod.mk.inj (Option.some.inj e)
            obtain ⟨c1, c2, c3⟩ := rng_iff.1 hq
            refine ⟨_, fin _ (by rw [e6]; exact slice_run hτ e1 hk e5 _ _ ad (List.length xs) c l q (.inr (optInt h (x := x) e3)) (.inr (optInt h (x := x) e4)) c1 c2 c3 hc), ?_⟩
            rw [hsz]; exact rep_cut r' (by omega) (by omega)
          · cases e
      · cases e
  · cases e

end
end AM
end Go.Proofs.YtpcdcnmmkfhliaaGreatDoor
