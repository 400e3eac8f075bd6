/- Appends, and stores, appends and cuts all together. Under: the table of types tells the program's types. -/
import Derived.Test.YtpcdcnmmkfhliaaGreatDoorAMm
namespace Go.Proofs.YtpcdcnmmkfhliaaGreatDoor
namespace AM
open Go
set_option linter.unusedSimpArgs false
set_option linter.unusedVariables false

section
variable {P : Program} {τ : Tab} {X : Ctx} {L : Nm → Value} {I : Nat → Prop} {s : St} {a : Act} {w : World}

/-- Nobody speaks of the block of this header. -/
def Free (X : Ctx) (L : Nm → Value) (I : Nat → Prop) (s : St) (w : World) (u : Value) : Prop :=
  ∀ b, u.ownBlock = some b → b < w.heap.size ∧ ¬ I b ∧ (∀ o, b < X.w0.heap.size → X.E b o) ∧ ∀ m ob, s.o m = some ob → ∀ o, ¬ fp L m ob b o

theorem run_append_zero {q el : TypeId} {ty : TypeId} {te : TI} (hu : P.underlying q = some (.slice el)) (hs : ∀ w, (sizeOf el).run P w = .ok te.size w)
    (base : Option Addr) (n cap : Nat) (hn : n ≤ cap) (ad : Option Addr) (c : Nat) :
    (Builtin.append_ #[q, q] ty #[.slice base n cap, .slice ad 0 c]).run P w = .ok (.slice base n cap) w := by
  have h0 : (Builtin.firstCells te.size 0 (.slice ad 0 c)).run P w = .ok #[] w := by
    cases ad <;> simp [Builtin.firstCells, Go.loadCells, loadCellsFrom]
  cases base <;> simp [Builtin.append_, run_underlying hu, hs, Builtin.lenOf, hn, h0, Result.andThen, storeCells]

theorem append_any (h : Rel X L I s a w) {nm : Nm} {q el ty : TypeId} {te : TI} {t : Ty} {xs ys : List t.den} {vs news : List Value} {u : Value} {ad : Option Addr} {c : Nat}
    (hu : P.underlying q = some (.slice el)) (hte : TIok P el te) (hty : te.ty = some t) (hby : te.bytes ≤ 4096) (hown : w.ownsRow 0 el t.sz u xs.length vs) (hf : FRep I w t xs vs) (free : Free X L I s w u)
    (hys : FRep I w t ys news) (hc : ys = [] ∨ ∃ b off, ad = some ⟨b, off, none⟩ ∧ Cells w b off news) (hroom : xs.length + ys.length ≤ 4294967296) :
    ∃ u' w', (Builtin.append_ #[q, q] ty #[u, .slice ad ys.length c]).run P w = .ok u' w' ∧ Rel X (upd L nm u') I ((s.drop nm).setO nm (.arr el t (xs ++ ys))) a w' ∧ ∃ x l y, u' = .slice x l y := by
  obtain ⟨i, i1, i2, i3, i4⟩ := hte.info
  obtain ⟨hsz, z, z1, z2⟩ := i4 t hty
  have hsi : i.size = t.sz := by rw [i2, hsz]
  have hpos := t.sz_pos
  have hzl : z.cells.size = t.sz := by rw [z2]; simpa using Rep.len (I := I) (w := w) t (zvals_rep t)
  have hnl : news.length = ys.length * t.sz := hys.len
  have hvl : vs.length = xs.length * t.sz := hown.1
  have hbytes : (xs.length + ys.length) * i.bytes ≤ 140737488355328 := by
    have : (xs.length + ys.length) * i.bytes ≤ 4294967296 * 4096 := Nat.mul_le_mul hroom (by omega)
    omega
  have hcat : (vs ++ news).length = (xs.length + ys.length) * t.sz := by rw [List.length_append, hvl, hnl, Nat.add_mul]
  rcases hc with rfl | ⟨b, off, rfl, hc⟩
  · -- nothing to append
    have hn0 : news = [] := List.eq_nil_of_length_eq_zero (by simpa using hnl)
    subst hn0
    have hslice : ∃ x l y, u = .slice x l y ∧ l = xs.length ∧ l ≤ y := by
      rcases hown.2 with ⟨rfl, h0⟩ | ⟨g, cap, cur, rfl, _, _, h5, _⟩
      · exact ⟨_, _, _, rfl, h0.symm, Nat.le_refl _⟩
      · exact ⟨_, _, _, rfl, rfl, h5⟩
    obtain ⟨x, l, y, rfl, rfl, hly⟩ := hslice
    refine ⟨_, w, run_append_zero hu hte.sizeOf x _ y hly ad c, ?_, _, _, _, rfl⟩
    simp only [List.append_nil]
    refine h.add nm _ _ ⟨vs, by rw [upd_same]; exact hown, hf⟩ fun b o e => ?_
    have e : (upd L nm (.slice x xs.length y) nm).ownBlock = some b := e
    rw [upd_same] at e
    obtain ⟨f1, f2, f3, f4⟩ := free b e
    exact ⟨f1, f2, f3 o, fun m ob _ em => f4 m ob em o⟩
  · by_cases hy0 : ys.length = 0
    · -- an empty list with an address: as above
      have : ys = [] := List.length_eq_zero_iff.1 hy0
      subst this
      have hn0 : news = [] := List.eq_nil_of_length_eq_zero (by simpa using hnl)
      subst hn0
      have hslice : ∃ x l y, u = .slice x l y ∧ l = xs.length ∧ l ≤ y := by
        rcases hown.2 with ⟨rfl, h0⟩ | ⟨g, cap, cur, rfl, _, _, h5, _⟩
        · exact ⟨_, _, _, rfl, h0.symm, Nat.le_refl _⟩
        · exact ⟨_, _, _, rfl, rfl, h5⟩
      obtain ⟨x, l, y, rfl, rfl, hly⟩ := hslice
      refine ⟨_, w, run_append_zero hu hte.sizeOf x _ y hly _ c, ?_, _, _, _, rfl⟩
      simp only [List.append_nil]
      refine h.add nm _ _ ⟨vs, by rw [upd_same]; exact hown, hf⟩ fun b o e => ?_
      have e : (upd L nm (.slice x xs.length y) nm).ownBlock = some b := e
      rw [upd_same] at e
      obtain ⟨f1, f2, f3, f4⟩ := free b e
      exact ⟨f1, f2, f3 o, fun m ob _ em => f4 m ob em o⟩
    · have hcell : ∀ j v, news[j]? = some v → w.cell? ((⟨b, off, none⟩ : Addr).add j) = some v := fun j v hv => by rw [Addr.add_lit]; exact hc j v hv
      have fresh : ∀ (old : Nat) (cells : Array Value), cells.size = grownCap w (xs.length + ys.length) old el * t.sz → cells.toList.take ((xs.length + ys.length) * t.sz) = vs ++ news →
          Rel X (upd L nm (.slice (some ⟨w.heap.size, 0, none⟩) (xs.length + ys.length) (grownCap w (xs.length + ys.length) old el))) I ((s.drop nm).setO nm (.arr el t (xs ++ ys))) a (w.drew.alloc (.cells cells el)) := by
        intro old cells h1 h2
        have hs : Step (fun _ _ => False) w (w.drew.alloc (.cells cells el)) := (Step.drew _ w).trans (Step.alloc _ w.drew _) (fun _ _ (q : False) _ => q.elim)
        have hI : Same I w (w.drew.alloc (.cells cells el)) := fun b hb => hs.same (h.imm b hb).1 (fun _ q => q)
        refine h.new hs nm _ _ ⟨vs ++ news, ⟨by rw [List.length_append (as := xs)]; exact hcat, .inr ⟨w.heap.size, _, cells, by rw [upd_same, List.length_append], Nat.zero_le _, heap_new w.drew _, ?_, ?_, h1, ?_⟩⟩, (hf.append hys).mono (fun _ q => q) hI⟩ ?_
        · rw [List.length_append]; exact grownCap_ge w _ old el
        · exact grownCap_le_maxLen w _ old el (by unfold maxLen; omega)
        · rw [List.length_append]; exact h2
        · intro b o e
          have e : (upd L nm (.slice (some ⟨w.heap.size, 0, none⟩) (xs.length + ys.length) (grownCap w (xs.length + ys.length) old el)) nm).ownBlock = some b := e
          rw [upd_same] at e
          have : w.heap.size = b := Option.some.inj e
          have h3 : (w.drew.alloc (.cells cells el)).heap.size = w.heap.size + 1 := heap_new_size w.drew _
          omega
      have zsize : ∀ k, (Builtin.zeroCells z.cells k).size = k * t.sz := fun k => by rw [size_zeroCells, hzl]
      have hcells : ∀ old, ((vs.toArray ++ news.toArray ++ Builtin.zeroCells z.cells (grownCap w (xs.length + ys.length) old el - (xs.length + ys.length))).size = grownCap w (xs.length + ys.length) old el * t.sz) ∧
          (vs.toArray ++ news.toArray ++ Builtin.zeroCells z.cells (grownCap w (xs.length + ys.length) old el - (xs.length + ys.length))).toList.take ((xs.length + ys.length) * t.sz) = vs ++ news := by
        intro old
        have hge := grownCap_ge w (xs.length + ys.length) old el
        constructor
        · simp only [Array.size_append, List.size_toArray, zsize, hvl, hnl, ← Nat.add_mul]
          congr 1
          omega
        · simp only [Array.toList_append]
          rw [← hcat]
          exact List.take_left
      rcases hown.2 with ⟨rfl, h0⟩ | ⟨g, cap, cur, rfl, _, hg, hnc, hcm, hcs, htake⟩
      · have hx : xs = [] := List.length_eq_zero_iff.1 h0
        subst hx
        have hv0 : vs = [] := List.eq_nil_of_length_eq_zero (by simpa using hvl)
        subst hv0
        have hr := run_append_nil (P := P) w q ty el i z hu i1 z1 ⟨b, off, none⟩ ys.length c news (by rw [hsi]; exact hnl) hcell (by omega) (by omega) (by
          simp only [List.length_nil, Nat.zero_add] at hbytes; omega)
        have hf2 := fresh 0 _ (hcells 0).1 (hcells 0).2
        simp only [List.length_nil, Nat.zero_add, List.nil_append, Array.empty_append] at hf2 ⊢
        exact ⟨_, _, hr, hf2, _, _, _, rfl⟩
      · by_cases hfit : xs.length + ys.length ≤ cap
        · have hlen : xs.length * i.size + news.length ≤ cur.size := by rw [hsi, hnl, hcs, ← Nat.add_mul]; exact Nat.mul_le_mul_right _ hfit
          have hr := run_append_room (P := P) w q ty el i hu i1 g xs.length cap cur hg ⟨b, off, none⟩ ys.length c news (by rw [hsi]; exact hnl) hcell (FRep.one hys) hfit hlen
          refine ⟨_, _, hr, ?_, _, _, _, rfl⟩
          have hst := step_setRow hg hlen
          obtain ⟨f1, f2, f3, f4⟩ := free g rfl
          have hw := h.world hst (fun b' j hb' q => f2 (q.1 ▸ hb')) (fun m ob em b' o q r => f4 m ob em o (r.1 ▸ q)) (fun b' j q hb' => by rw [q.1] at hb' ⊢; exact f3 j hb')
          have hI : Same I w (w.setRow g (cur.toList.take (xs.length * i.size) ++ news ++ cur.toList.drop (xs.length * i.size + news.length)).toArray) := fun b' hb' =>
            hst.same (h.imm b' hb').1 (fun j q => f2 (q.1 ▸ hb'))
          refine hw.add nm _ _ ⟨vs ++ news, ⟨by rw [List.length_append (as := xs)]; exact hcat, .inr ⟨g, cap, _, by rw [upd_same, List.length_append], Nat.zero_le _, setRow_heap w g cur _ el (0, 0) hg, by rw [List.length_append]; exact hfit, hcm, ?_, ?_⟩⟩, (hf.append hys).mono (fun _ q => q) hI⟩ ?_
          · rw [← hcs]; simp; omega
          · rw [List.length_append]
            simp only [hsi, List.toList_toArray]
            rw [htake, ← hcat]
            exact List.take_left
          · intro b' o e
            have e : (upd L nm (.slice (some ⟨g, 0, none⟩) (xs.length + ys.length) cap) nm).ownBlock = some b' := e
            rw [upd_same] at e
            have : g = b' := Option.some.inj e
            subst this
            exact ⟨Nat.lt_of_lt_of_le f1 hst.size, f2, f3 o, fun m ob _ em => f4 m ob em o⟩
        · have holds : ∀ j v, vs[j]? = some v → w.cell? ((⟨g, 0, none⟩ : Addr).add j) = some v := hown.cells (g := g) rfl
          have hr := run_append_grow (P := P) w q ty el i z hu i1 z1 ⟨g, 0, none⟩ xs.length cap vs (by rw [hsi]; exact hvl) holds ⟨b, off, none⟩ ys.length c news (by rw [hsi]; exact hnl) hcell (by omega) (by omega) (growslice_fits (by omega) hbytes)
          exact ⟨_, _, hr, fresh cap _ (hcells cap).1 (hcells cap).2, _, _, _, rfl⟩

theorem own_src {e : Nat} {t : Ty} {ys : List t.den} {vs : List Value} {u : Value} (h1 : w.ownsRow 0 e t.sz u ys.length vs) (h2 : FRep I w t ys vs) :
    ∃ ad c, u = .slice ad ys.length c ∧ (ys = [] ∨ ∃ b off, ad = some ⟨b, off, none⟩ ∧ Cells w b off vs) := by
  rcases h1.2 with ⟨rfl, h0⟩ | ⟨g, cap, cur, rfl, _, hg, _, _, _, ht⟩
  · exact ⟨none, 0, by rw [h0], .inl (List.length_eq_zero_iff.1 h0)⟩
  · refine ⟨_, _, rfl, .inr ⟨g, 0, rfl, fun j v hv => ?_⟩⟩
    rw [← ht, List.getElem?_take] at hv
    split at hv
    · rw [Nat.zero_add]
      simp only [World.cell?, hg]
      simpa using hv
    · cases hv

theorem source_sound (h : Rel X L I s a w) {t : Ty} {y : CV} {ys : List t.den} {u : Value} (e : source s.o t y = some ys) (r : RC L I w (AL s.o) y u) :
    ∃ ad c news, u = .slice ad ys.length c ∧ FRep I w t ys news ∧ (ys = [] ∨ ∃ b off, ad = some ⟨b, off, none⟩ ∧ Cells w b off news) := by
  have plain : ∀ {y : CV}, y.as (.sl t) = some ys → RC L I w (AL s.o) y u → ∃ ad c news, u = .slice ad ys.length c ∧ FRep I w t ys news ∧ (ys = [] ∨ ∃ b off, ad = some ⟨b, off, none⟩ ∧ Cells w b off news) := by
    intro y e r
    obtain ⟨ad, c, css, e1, _, h1, h2⟩ := as_sound e r
    refine ⟨ad, c, css.flatten, List.head_eq_of_cons_eq e1, ⟨css, h1, rfl⟩, ?_⟩
    rcases h2 with h2 | ⟨b, off, e2, _, h2⟩
    · exact .inl h2
    · exact .inr ⟨b, off, e2, h2⟩
  cases y with
  | own m =>
    simp only [source] at e
    split at e
    · rename_i q v zs em
      split at e
      · rename_i hq eq
        obtain rfl := Option.some.inj e
        subst hq
        obtain ⟨vs, g1, g2⟩ := h.obj m _ em
        obtain ⟨_, _, _, _, r⟩ := r
        obtain ⟨ad, c, e1, e2⟩ := own_src g1 g2
        exact ⟨ad, c, vs, r ▸ e1, g2, e2⟩
      · cases e
    · cases e
  | v q x => exact plain (by simpa only [source] using e) r
  | nil => exact plain (by simpa only [source] using e) r
  | pb n i => exact plain (by simpa only [source] using e) r
  | pa n sz i j => exact plain (by simpa only [source] using e) r
  | pe q x i => exact plain (by simpa only [source] using e) r
  | clo f x => exact plain (by simpa only [source] using e) r
  | mp x => exact plain (by simpa only [source] using e) r
  | hd x => exact plain (by simpa only [source] using e) r
  | er x => exact plain (by simpa only [source] using e) r
  | raw x => exact plain (by simpa only [source] using e) r
  | dead => exact plain (by simpa only [source] using e) r

theorem free_drop (h : Rel X L I s a w) {n : Nm} {e : Nat} {t : Ty} {xs : List t.den} (en : s.o n = some (.arr e t xs)) : Free X L I (s.drop n) w (L n) := by
  intro b hb
  have fpn : ∀ o, fp L n (.arr e t xs) b o := fun o => hb
  obtain ⟨h1, h2, _⟩ := h.own n _ en b 0 (fpn 0)
  refine ⟨h1, h2, fun o => (h.own n _ en b o (fpn o)).2.2, fun m ob em o q => ?_⟩
  obtain ⟨hm, ob', e', rfl⟩ := drop_o em
  exact hm (h.sep m n ob' _ e' en b o (fp_drop.1 q) (fpn o))

theorem free_past (h : Rel X L I s a w) {n : Nm} {k e : Nat} {t : Ty} {xs : List t.den} (en : s.o n = some (.arr e t xs)) : Free X L I (s.past n k) w (L n) := by
  intro b hb
  have fpn : ∀ o, fp L n (.arr e t xs) b o := fun o => hb
  obtain ⟨h1, h2, _⟩ := h.own n _ en b 0 (fpn 0)
  refine ⟨h1, h2, fun o => (h.own n _ en b o (fpn o)).2.2, fun m ob em o q => ?_⟩
  obtain ⟨hm, ob', e', rfl⟩ := past_o em
  exact hm (h.sep m n ob' _ e' en b o (fp_past.1 q) (fpn o))

theorem own_len {e sz n : Nat} {u : Value} {vs : List Value} (h : w.ownsRow 0 e sz u n vs) : ∀ a l c, u = .slice a l c → l = n := by
  intro a l c hu
  rcases h.2 with ⟨h1, h0⟩ | ⟨g, cap, cur, h1, _⟩
  · rw [h1] at hu; injection hu with _ hu; omega
  · rw [h1] at hu; injection hu with _ hu; omega

theorem free_nil : Free X L I s w (.slice none 0 0) := fun b hb => by cases hb

/-- What a writing operation does. -/
def Does (P : Program) (X : Ctx) (L : Nm → Value) (o : Oper) (a : Act) (w : World) (s' : St) : Prop :=
  ∃ nx w' L' I', (execOp a.eval o).run P w = .ok nx w' ∧ (∀ m, kept m = true → L' m = L m) ∧ ((∃ u, nx = .value u ∧ Rel X L' I' s' (a.put o.dst u) w') ∨ (nx = .skip ∧ Rel X L' I' s' (a.put o.dst undef) w'))

theorem wop_store (h : Rel X L I s a w) (hτ : TabOk P τ) {o : Oper} {t : Nat} {x y : Operand} (ho : o.op = .store t x y) (hd : ∀ d, o.dst = some d → d < X.N) {s' : St}
    (e : wop τ (.store t x y) o.dst s = some (true, s')) : Does P X L o a w s' := by
  simp only [wop] at e
  split at e
  · rename_i ti p new e1 e2 e3
    cases k : (Nat.beq new.length ti.size && new.all CV.fine) with
    | false => rw [k] at e; cases e
    | true =>
      rw [k] at e
      simp only [cond_true] at e
      rw [Bool.and_eq_true] at k
      split at e
      · rename_i nm ob e4
        obtain ⟨_, rfl⟩ := Prod.mk.inj (Option.some.inj e)
        have rx := h.ev x
        rw [e2] at rx
        have rv := asCells_sound e3 (h.ev y)
        have hlen : (a.eval y).cells.size = ti.size := by
          have := rv.len
          rw [← Nat.eq_of_beq_eq_true k.1, this]; simp
        refine (?_ : ∃ ad w', a.eval x = .pointer (some ad) ∧ (storeCells ad (a.eval y).cells.toList).run P w = .ok () w' ∧ Rel X L I (s.setO nm ob) a w').elim ?_
        · cases p with
          | pb n off =>
            simp only [storeTo] at e4
            split at e4
            · rename_i cs en
              cases k2 : Nat.ble (off + new.length) cs.length with
              | false => rw [k2] at e4; cases e4
              | true =>
                rw [k2] at e4
                obtain ⟨rfl, rfl⟩ := Prod.mk.inj (Option.some.inj e4)
                exact store_box h en rx (Nat.le_of_ble_eq_true k2) rv k.2
            · cases e4
          | pa n sz i j =>
            simp only [storeTo] at e4
            split at e4
            · rename_i el q xs en
              cases k2 : Nat.ble (j + new.length) q.sz with
              | false => rw [k2] at e4; cases e4
              | true =>
                rw [k2] at e4
                simp only [cond_true] at e4
                split at e4
                · rename_i z e5
                  obtain ⟨rfl, rfl⟩ := Prod.mk.inj (Option.some.inj e4)
                  exact store_arr h en rx (Nat.le_of_ble_eq_true k2) e5 rv k.2
                · cases e4
            · cases e4
          | _ => cases e4
        · rintro ad ⟨w', g1, g2, g3⟩
          refine ⟨.skip, w', L, I, ?_, fun _ _ => rfl, .inr ⟨rfl, g3.put o.dst hd (v := .c .dead) trivial⟩⟩
          have hn : ¬ (a.eval y).cells.size ≠ ti.size := fun q => q hlen
          simp [execOp, ho, Instr.storeAt, Instr.sureAddr, g1, storeVar, (hτ t ti e1).sizeOf, hn, if_pos hlen, g2, Result.andThen]
      · cases e
  · cases e

theorem wop_append (h : Rel X L I s a w) (hτ : TabOk P τ) {o : Oper} {xs : Array Operand} {ts : Array TypeId} (ho : o.op = .call { callee := .builtin .append, args := xs, argTypes := ts }) (hd : ∀ d, o.dst = some d → d < X.N) {s' : St}
    (e : wop τ (.call { callee := .builtin .append, args := xs, argTypes := ts }) o.dst s = some (true, s')) : Does P X L o a w s' := by
  simp only [wop] at e
  split at e
  · rename_i d x y at_ bt_ e1 e2 e3
    split at e
    · rename_i ti e4
      cases k : (Nat.beq ti.kind 3 && Nat.beq at_ bt_) with
      | false => rw [k] at e; cases e
      | true =>
        rw [k] at e
        simp only [cond_true] at e
        rw [Bool.and_eq_true] at k
        split at e
        · rename_i te e5
          split at e
          · rename_i ty e6
            cases k2 : Nat.ble te.bytes 4096 with
            | false => rw [k2] at e; cases e
            | true =>
              rw [k2] at e
              simp only [cond_true] at e
              have hk := Nat.le_of_ble_eq_true k2
              have hu := (hτ at_ ti e4).slice (Nat.eq_of_beq_eq_true k.1)
              have hte := hτ _ te e5
              obtain ⟨p, q, rfl, f1, f2⟩ := map_two e2
              have hts : ts = #[at_, at_] := by
                obtain ⟨l⟩ := ts
                obtain rfl : l = [at_, bt_] := e3
                rw [← Nat.eq_of_beq_eq_true k.2]
              subst hts
              have rp := h.ev p
              have rq := h.ev q
              rw [f1] at rp
              rw [f2] at rq
              have hd' : d < X.N := hd d e1
              have fin : ∀ {u' : Value} {w' : World} {u2 : Value} {s'' : St}, (Builtin.append_ #[at_, at_] o.type #[a.eval p, a.eval q]).run P w = .ok u' w' → Rel X (upd L [d, 0] u2) I s'' a w' → RA (upd L [d, 0] u2) I w' (AL s''.o) (.c (.own [d, 0])) u' →
                  Does P X L o a w (s''.put o.dst (.c (.own [d, 0]))) := by
                intro u' w' u2 s'' hr hR hA
                refine ⟨.value u', w', _, I, ?_, fun m hm => upd_ne L u2 (fun q => by rw [q] at hm; cases hm), .inl ⟨u', rfl, hR.put o.dst hd hA⟩⟩
                simp [execOp, ho, resolve, invoke, builtin, hr, Result.andThen]
              split at e
              · rename_i n
                split at e
                · rename_i el t zs en
                  cases k3 : Nat.beq el ti.el with
                  | false => rw [k3] at e; cases e
                  | true =>
                    rw [k3] at e
                    simp only [cond_true] at e
                    have hel := Nat.eq_of_beq_eq_true k3
                    subst hel
                    split at e
                    · rename_i hq eq
                      subst hq
                      split at e
                      · rename_i ys e7
                        obtain ⟨hc, rfl⟩ := Prod.mk.inj (Option.some.inj e)
                        obtain ⟨ad, c, news, g1, g2, g3⟩ := source_sound h e7 rq
                        obtain ⟨vs, g4, g5⟩ := h.obj n _ en
                        obtain ⟨_, _, _, _, rp⟩ := rp
                        obtain ⟨u', w', h1, h2, x', l', y', h3⟩ := append_any (P := P) (h.past n (own_len g4)) (nm := [d, 0]) (ty := o.type) hu hte e6 hk g4 g5 (free_past h en) g2 g3 (of_decide_eq_true hc)
                        rw [← g1, rp] at h1
                        exact fin h1 h2 ⟨x', l', y', h3, upd_same _ _ _⟩
                      · cases e
                    · cases e
                · cases e
              · split at e
                · rename_i ys e7
                  obtain ⟨hc, rfl⟩ := Prod.mk.inj (Option.some.inj e)
                  obtain ⟨ad, c, news, g1, g2, g3⟩ := source_sound h e7 rq
                  obtain ⟨u', w', h1, h2, x', l', y', h3⟩ := append_any (P := P) h (nm := [d, 0]) (ty := o.type) (xs := []) (vs := []) hu hte e6 hk (World.ownsRow_nil w 0 ti.el ty.sz) FRep.nil free_nil g2 g3 (by simpa using of_decide_eq_true hc)
                  rw [← g1, ← show a.eval p = .slice none 0 0 from rp] at h1
                  exact fin h1 h2 ⟨x', l', y', h3, upd_same _ _ _⟩
                · cases e
              · cases e
          · cases e
        · cases e
    · cases e
  · cases e

theorem wop_slice (h : Rel X L I s a w) (hτ : TabOk P τ) {o : Oper} {t : Nat} {x : Operand} {lo hi mx : Option Operand} (ho : o.op = .slice t x lo hi mx) (hd : ∀ d, o.dst = some d → d < X.N) {s' : St}
    (e : wop τ (.slice t x lo hi mx) o.dst s = some (true, s')) : Does P X L o a w s' := by
  cases mx with
  | some m => simp [wop] at e
  | none =>
  simp only [wop] at e
  split at e
  · rename_i ti n e1 e2
    cases k : Nat.beq ti.kind 3 with
    | false => rw [k] at e; cases e
    | true =>
      rw [k] at e
      simp only [cond_true] at e
      split at e
      · rename_i el ty xs te en e5
        cases k2 : Nat.beq te.size ty.sz with
        | false => rw [k2] at e; cases e
        | true =>
          rw [k2] at e
          simp only [cond_true] at e
          have r := h.ev x
          rw [e2] at r
          have hk := Nat.eq_of_beq_eq_true k
          have hsz := Nat.eq_of_beq_eq_true k2
          obtain ⟨_, _, _, _, r⟩ := r
          have fin : ∀ {u' : Value} {I' : Nat → Prop} {s'' : St} {v : AV}, (Instr.sliceAt t (a.eval x) (lo.map a.eval) (hi.map a.eval) none).run P w = .ok u' w → Rel X L I' s'' a w → RA L I' w (AL s''.o) v u' → Does P X L o a w (s''.put o.dst v) := by
            intro u' I' s'' v hr hR hA
            refine ⟨.value u', w, L, I', ?_, fun _ _ => rfl, .inl ⟨u', rfl, hR.put o.dst hd hA⟩⟩
            exact gives_v (e := Instr.sliceAt t (a.eval x) (lo.map a.eval) (hi.map a.eval) none) (by simp [execOp, ho]) hr
          obtain ⟨I', hI, hR, hr⟩ := h.freeze en
          have hr' := hr
          obtain ⟨ad, c, css, e6, hc, _, _⟩ := hr
          have e6 := List.head_eq_of_cons_eq e6
          rw [e6] at hr'
          rw [← r, e6] at fin
          split at e
          · rename_i e3 e4
            obtain ⟨_, rfl⟩ := Prod.mk.inj (Option.some.inj e)
            refine fin (slice_run hτ e1 hk e5 _ _ ad xs.length c 0 _ (.inl ⟨optNone e3, rfl⟩) (.inl ⟨optNone e4, rfl⟩) (Int.le_refl _) (by omega) (Int.le_refl _) hc) h ?_
            refine ⟨_, _, _, rfl, ?_⟩
            rw [e6]
            obtain ⟨vs, ⟨_, g⟩, _⟩ := h.obj n _ en
            rcases g with ⟨g1, g2⟩ | ⟨g0, cap, cur, g1, _⟩
            · rw [e6] at g1
              injection g1 with g1 g3 g4
              subst g1; subst g4
              simp [sliced]; try omega
            · rw [e6] at g1
              injection g1 with g1 g3 g4
              subst g1; subst g4
              simp [sliced, Addr.add]
          · rename_i kl l e3 e4
            obtain ⟨hq, rfl⟩ := Prod.mk.inj (Option.some.inj e)
            obtain ⟨c1, c2, c3⟩ := rng_iff.1 hq
            refine fin (slice_run hτ e1 hk e5 _ _ ad xs.length c l _ (.inr (optInt h (x := x) e3)) (.inl ⟨optNone e4, rfl⟩) c1 c2 c3 hc) hR ?_
            rw [hsz]; exact rep_cut hr' (by omega) (by omega)
          · rename_i kh q e3 e4
            obtain ⟨hq, rfl⟩ := Prod.mk.inj (Option.some.inj e)
            obtain ⟨c1, c2, c3⟩ := rng_iff.1 hq
            refine fin (slice_run hτ e1 hk e5 _ _ ad xs.length c 0 q (.inl ⟨optNone e3, rfl⟩) (.inr (optInt h (x := x) e4)) c1 c2 c3 hc) hR ?_
            rw [hsz]; exact rep_cut hr' (by omega) (by omega)
          · rename_i kl l kh q e3 e4
            obtain ⟨hq, rfl⟩ := Prod.mk.inj (Option.some.inj e)
            obtain ⟨c1, c2, c3⟩ := rng_iff.1 hq
            refine fin (slice_run hτ e1 hk e5 _ _ ad xs.length c l q (.inr (optInt h (x := x) e3)) (.inr (optInt h (x := x) e4)) c1 c2 c3 hc) hR ?_
            rw [hsz]; exact rep_cut hr' (by omega) (by omega)
          · cases e
      · cases e
  · cases e

theorem does_map (h : Rel X L I s a w) {n : Nm} {kt : Ty} {vk : IntKind} {ka : Bool} {kvs : List (kt.den × Int)} (en : s.o n = some (.mp kt (.int vk) ka kvs)) {b : Nat} (hL : L n = .map (some b)) {es : Array MapEntry} {ck : Nat} (hb : w.heap[b]? = some (.map es ck))
    {kvs' : List (kt.den × Int)} {es' : Array MapEntry} (hr : MRow kt (.int vk) ka 0 kvs' es'.toList) {o : Oper} (hd : ∀ d, o.dst = some d → d < X.N) {nx : Next} (hx : (execOp a.eval o).run P w = .ok nx { w with heap := w.heap.setIfInBounds b (.map es' es'.size) })
    {v : AV} (hv : (∃ u, nx = .value u ∧ ∀ L I w A, RA L I w A v u) ∨ (nx = .skip ∧ v = .c .dead)) : Does P X L o a w ((s.setO n (.mp kt (.int vk) ka kvs')).put o.dst v) := by
  have hR := h.setMap (vt := .int vk) (kvs := kvs) (kvs' := kvs') en hL hb hr
  refine ⟨nx, _, L, I, hx, fun _ _ => rfl, ?_⟩
  rcases hv with ⟨u, rfl, hv⟩ | ⟨rfl, rfl⟩
  · exact .inl ⟨u, rfl, hR.put o.dst hd (hv _ _ _ _)⟩
  · exact .inr ⟨rfl, hR.put o.dst hd trivial⟩

/-- The entries, one of them put. -/
theorem put_row {kt : Ty} {vk : IntKind} {ka : Bool} {kvs : List (kt.den × Int)} {es : Array MapEntry} (h : MRow kt (.int vk) ka 0 kvs es.toList) {key : kt.den} {u : Value} (hu : KVal ka kt key u) (x : Int) :
    (∀ i v, mfind kt key kvs 0 = some (i, v) → ∃ e, es[i]? = some e ∧ KVal ka kt key e.key ∧ e.val = .int vk v ∧ e.born = i ∧ MRow kt (.int vk) ka 0 (mput kt key x kvs) (es.modify i fun e => { e with key := u, val := .int vk x }).toList) ∧
    (mfind kt key kvs 0 = none → MRow kt (.int vk) ka 0 (mput kt key x kvs) (es.push { key := u, val := .int vk x, born := es.size }).toList) := by
  constructor
  · intro i v hf
    obtain ⟨_, h2⟩ := mfind_spec hf
    obtain ⟨e, h3, h4, h5, h6⟩ := h.get h2
    rw [Nat.sub_zero] at h3
    refine ⟨e, by simpa using h3, h4, (List.head_eq_of_cons_eq h5).symm, by omega, ?_⟩
    unfold mput
    rw [hf]
    rw [Array.toList_modify]
    exact h.upd fun e' _ => ⟨hu, rfl, rfl⟩
  · intro hf
    unfold mput
    rw [hf]
    rw [Array.toList_push]
    exact h.push hu rfl (by simp)

theorem wop_mapUpdate (h : Rel X L I s a w) (hτ : TabOk P τ) {o : Oper} {t : Nat} {m k x : Operand} (ho : o.op = .mapUpdate t m k x) (hd : ∀ d, o.dst = some d → d < X.N) {s' : St}
    (e : wop τ (.mapUpdate t m k x) o.dst s = some (true, s')) : Does P X L o a w s' := by
  simp only [wop] at e
  split at e
  · rename_i ti n vk' y e1 e2 e3
    split at e
    · rename_i kt vk ka kvs en
      split at e
      · rename_i key e4
        cases q : (Nat.beq ti.kind 9 && (decide (vk' = vk) && keyOk τ ti.ky kt ka)) with
        | false => rw [q] at e; cases e
        | true =>
          rw [q] at e
          obtain ⟨_, rfl⟩ := Prod.mk.inj (Option.some.inj e)
          simp only [Bool.and_eq_true] at q
          obtain ⟨q1, q2, q3⟩ := q
          have q2 := of_decide_eq_true q2
          subst q2
          have hk := keyOk_fit hτ q3
          have rm := h.ev m
          rw [e2] at rm
          obtain ⟨b, es, g1, gL, g2, g3⟩ := map_block h en rm
          have hkv := key_val hk.flat e4 (h.ev k)
          have rx := h.ev x
          rw [e3] at rx
          have hu := (hτ t ti e1).map (Nat.eq_of_beq_eq_true q1)
          obtain ⟨p1, p2⟩ := put_row g3 hkv y
          cases hf : mfind kt key kvs 0 with
          | some p =>
            obtain ⟨i, v⟩ := p
            obtain ⟨e0, z1, z2, z3, z4, z5⟩ := p1 i v hf
            refine does_map h en gL g2 z5 hd (nx := .skip) ?_ (.inr ⟨rfl, rfl⟩)
            have : (Instr.mapUpdate t (a.eval m) (a.eval k) (a.eval x)).run P w = .ok () { w with heap := w.heap.setIfInBounds b (.map (es.modify i fun e => { e with key := a.eval k, val := .int vk' y }) es.size) } := by
              rw [g1, isInt rx]
              unfold Instr.mapUpdate
              simp only [Sem.run_bind, run_underlying hu, Result.andThen_ok, run_getObj_map w b es es.size g2, checkKey_run hk hkv, find_run hk hkv g3, hf, foundV, z1, Option.map_some, Option.getD_some, stays_run z2 hkv, run_setMap _ g2]
            rw [Array.size_modify]
            simp [execOp, ho, this, Result.andThen]
          | none =>
            refine does_map h en gL g2 (p2 hf) hd (nx := .skip) ?_ (.inr ⟨rfl, rfl⟩)
            have : (Instr.mapUpdate t (a.eval m) (a.eval k) (a.eval x)).run P w = .ok () { w with heap := w.heap.setIfInBounds b (.map (es.push { key := a.eval k, val := .int vk' y, born := es.size }) (es.size + 1)) } := by
              rw [g1, isInt rx]
              unfold Instr.mapUpdate
              simp only [Sem.run_bind, run_underlying hu, Result.andThen_ok, run_getObj_map w b es es.size g2, checkKey_run hk hkv, find_run hk hkv g3, hf, foundV, run_setMap _ g2]
            rw [Array.size_push]
            simp [execOp, ho, this, Result.andThen]
      · cases e
    · cases e
  · cases e

theorem wop_mapEntry (h : Rel X L I s a w) (hτ : TabOk P τ) {o : Oper} {t : Nat} {m k : Operand} (ho : o.op = .mapEntry t m k) (hd : ∀ d, o.dst = some d → d < X.N) {s' : St}
    (e : wop τ (.mapEntry t m k) o.dst s = some (true, s')) : Does P X L o a w s' := by
  simp only [wop] at e
  split at e
  · rename_i ti n e1 e2
    split at e
    · rename_i kt vk ka kvs en
      split at e
      · rename_i te key e3 e4
        cases q : (Nat.beq ti.kind 9 && (Nat.beq te.kind 1 && (decide (te.ik = vk) && keyOk τ ti.ky kt ka))) with
        | false => rw [q] at e; cases e
        | true =>
          rw [q] at e
          obtain ⟨_, rfl⟩ := Prod.mk.inj (Option.some.inj e)
          simp only [Bool.and_eq_true] at q
          obtain ⟨q1, qt, q2, q3⟩ := q
          have hk := keyOk_fit hτ q3
          have rm := h.ev m
          rw [e2] at rm
          obtain ⟨b, es, g1, gL, g2, g3⟩ := map_block h en rm
          have hkv := key_val hk.flat e4 (h.ev k)
          have hu := (hτ t ti e1).map (Nat.eq_of_beq_eq_true q1)
          obtain ⟨i0, z1, z2⟩ := (hτ _ te e3).z1 (Nat.eq_of_beq_eq_true qt)
          have hz : ∀ w, (zeroValue ti.el).run P w = .ok (.int vk 0) w := fun w => by
            rw [← of_decide_eq_true q2]; simp [zeroValue, typeInfo, z1, z2]
          obtain ⟨p1, p2⟩ := put_row g3 hkv (mget kt key kvs)
          have fin : ∀ p : Nat, mpos kt key kvs = (p : Int) → ∀ L I w A, RA L I w A (.tup [(false, [.v (.int vk) (mget kt key kvs)]), (false, [.v (.int .i64) (mpos kt key kvs)])]) (.tuple #[.int vk (mget kt key kvs), goInt p]) := fun p hp L I w A =>
            ⟨[_, _], rfl, ⟨rfl, trivial⟩, ⟨by rw [hp]; rfl, trivial⟩, trivial⟩
          cases hf : mfind kt key kvs 0 with
          | some p =>
            obtain ⟨i, v⟩ := p
            obtain ⟨e0, y1, y2, y3, y4, y5⟩ := p1 i v hf
            have hmg : mget kt key kvs = v := by unfold mget; rw [hf]
            have hmp : mpos kt key kvs = (i : Int) := by unfold mpos; rw [hf]
            refine does_map h en gL g2 y5 hd (nx := .value (.tuple #[.int vk (mget kt key kvs), goInt i])) ?_ (.inl ⟨_, rfl, fin i hmp⟩)
            have hsame : (es.modify i fun e => { e with key := a.eval k }) = es.modify i fun e => { e with key := a.eval k, val := .int vk (mget kt key kvs) } := by
              apply Array.ext_getElem?
              intro j
              rw [Array.getElem?_modify, Array.getElem?_modify]
              split
              · rename_i hj
                subst hj
                rw [y1, hmg, ← y3]; rfl
              · rfl
            have : (Instr.mapEntry t (a.eval m) (a.eval k)).run P w = .ok (.tuple #[.int vk (mget kt key kvs), goInt i]) { w with heap := w.heap.setIfInBounds b (.map (es.modify i fun e => { e with key := a.eval k, val := .int vk (mget kt key kvs) }) es.size) } := by
              rw [g1, ← hsame]
              unfold Instr.mapEntry
              simp only [Sem.run_bind, run_underlying hu, Result.andThen_ok, run_getObj_map w b es es.size g2, checkKey_run hk hkv, find_run hk hkv g3, hf, foundV, y1, Option.map_some, Option.getD_some, stays_run y2 hkv, run_setMap _ g2, Sem.run_pure, y4, hmg]
            rw [Array.size_modify]
            simp [execOp, ho, this, Result.andThen]
          | none =>
            have hmg : mget kt key kvs = 0 := by unfold mget; rw [hf]
            have hmp : mpos kt key kvs = ((es.size : Nat) : Int) := by unfold mpos; rw [hf]; show ((kvs.length : Nat) : Int) = _; rw [g3.len]; simp
            refine does_map h en gL g2 (p2 hf) hd (nx := .value (.tuple #[.int vk (mget kt key kvs), goInt es.size])) ?_ (.inl ⟨_, rfl, fin es.size hmp⟩)
            have : (Instr.mapEntry t (a.eval m) (a.eval k)).run P w = .ok (.tuple #[.int vk (mget kt key kvs), goInt es.size]) { w with heap := w.heap.setIfInBounds b (.map (es.push { key := a.eval k, val := .int vk (mget kt key kvs), born := es.size }) (es.size + 1)) } := by
              rw [g1, hmg]
              unfold Instr.mapEntry
              simp only [Sem.run_bind, run_underlying hu, Result.andThen_ok, run_getObj_map w b es es.size g2, checkKey_run hk hkv, find_run hk hkv g3, hf, foundV, hz, run_setMap _ g2, Sem.run_pure]
            rw [Array.size_push]
            simp [execOp, ho, this, Result.andThen]
      · cases e
    · cases e
  · cases e

theorem msetG_row {kt : Ty} {vk : IntKind} {ka : Bool} {x : Int} : ∀ {kvs : List (kt.den × Int)} {es : List MapEntry} {i : Nat}, MRow kt (.int vk) ka i kvs es → ∀ j, MRow kt (.int vk) ka i (msetG x kvs j) (es.modify j fun e => { e with val := .int vk x })
  | [], [], _, _, j => by simp [msetG, MRow]
  | [], _ :: _, _, h, _ => h.elim
  | _ :: _, [], _, h, _ => h.elim
  | _ :: _, e0 :: _, _, h, 0 => ⟨⟨h.1.1, rfl, h.1.2.2⟩, h.2⟩
  | _ :: _, _ :: _, i, h, j + 1 => ⟨h.1, msetG_row h.2 j⟩

theorem born_idx {kt vt : Ty} {ka : Bool} : ∀ {kvs : List (kt.den × vt.den)} {es : List MapEntry} {i : Nat}, MRow kt vt ka i kvs es → ∀ j : Nat, j < es.length → es.findIdx? (fun e => (e.born : Int) == ((i + j : Nat) : Int)) = some j
  | [], [], _, _, j, h => by simp at h
  | [], _ :: _, _, h, _, _ => h.elim
  | _ :: _, [], _, h, _, _ => h.elim
  | _ :: _, e0 :: es, i, h, 0, _ => by
    rw [List.findIdx?_cons]
    have : e0.born = i := h.1.2.2
    simp [this]
  | _ :: _, e0 :: es, i, h, j + 1, hj => by
    rw [List.findIdx?_cons]
    have hb : e0.born = i := h.1.2.2
    have : ((e0.born : Int) == ((i + (j + 1) : Nat) : Int)) = false := by
      rw [hb]; simp; omega
    rw [this]
    have ih := born_idx h.2 j (by simpa using hj)
    rw [show i + (j + 1) = i + 1 + j by omega, ih]; rfl

theorem wop_entryStore (h : Rel X L I s a w) (hτ : TabOk P τ) {o : Oper} {t : Nat} {m j x : Operand} (ho : o.op = .entryStore t m j x) (hd : ∀ d, o.dst = some d → d < X.N) {s' : St}
    (e : wop τ (.entryStore t m j x) o.dst s = some (true, s')) : Does P X L o a w s' := by
  simp only [wop] at e
  split at e
  · rename_i n i vk' y e1 e2 e3
    split at e
    · rename_i kt vk ka kvs en
      split at e
      · rename_i hvk
        subst hvk
        obtain ⟨hin, rfl⟩ := Prod.mk.inj (Option.some.inj e)
        obtain ⟨h0, h1⟩ := inb_iff.1 hin
        have rm := h.ev m
        rw [e1] at rm
        obtain ⟨b, es, g1, gL, g2, g3⟩ := map_block h en rm
        have rj := h.ev j
        rw [e2] at rj
        have rx := h.ev x
        rw [e3] at rx
        have hl := g3.len
        have hrow := msetG_row (x := y) g3 i.toNat
        have hrow : MRow kt (.int vk') ka 0 (mset i y kvs) (es.modify i.toNat fun e => { e with val := .int vk' y }).toList := by
          rw [Array.toList_modify]; exact hrow
        refine does_map h en gL g2 hrow hd (nx := .skip) ?_ (.inr ⟨rfl, rfl⟩)
        have hlt : i.toNat < es.toList.length := by rw [← hl]; omega
        have hfi : es.findIdx? (fun e => (e.born : Int) == i) = some i.toNat := by
          have := born_idx g3 i.toNat hlt
          rw [Nat.zero_add, Int.toNat_of_nonneg h0] at this
          clear rm g2 g3 hl hrow hlt
          cases es
          simpa using this
        have : (Instr.entryStore t (a.eval m) (a.eval j) (a.eval x)).run P w = .ok () { w with heap := w.heap.setIfInBounds b (.map (es.modify i.toNat fun e => { e with val := .int vk' y }) es.size) } := by
          rw [g1, isInt rj, isInt rx]
          unfold Instr.entryStore
          simp only [Sem.run_bind, Result.andThen_ok, run_getObj_map w b es es.size g2, asInt, asIntOf, Sem.run_map, Sem.run_pure, Result.andThen_ok, hfi, run_setMap _ g2]
        rw [Array.size_modify]
        simp [execOp, ho, this, Result.andThen]
      · cases e
    · cases e
  · cases e

theorem wop_sound (h : Rel X L I s a w) (hτ : TabOk P τ) {o : Oper} (hd : ∀ d, o.dst = some d → d < X.N) {s' : St} (e : wop τ o.op o.dst s = some (true, s')) : Does P X L o a w s' := by
  cases ho : o.op with
  | store t x y => rw [ho] at e; exact wop_store h hτ ho hd e
  | mapUpdate t m k x => rw [ho] at e; exact wop_mapUpdate h hτ ho hd e
  | mapEntry t m k => rw [ho] at e; exact wop_mapEntry h hτ ho hd e
  | entryStore t m j x => rw [ho] at e; exact wop_entryStore h hτ ho hd e
  | slice t x lo hi mx => rw [ho] at e; exact wop_slice h hτ ho hd e
  | call c =>
    obtain ⟨cl, xs, ts⟩ := c
    cases cl with
    | builtin b =>
      cases b with
      | append => rw [ho] at e; exact wop_append h hτ ho hd e
      | _ => rw [ho] at e; simp [wop] at e
    | _ => rw [ho] at e; simp [wop] at e
  | _ => rw [ho] at e; simp [wop] at e

end
end AM
end Go.Proofs.YtpcdcnmmkfhliaaGreatDoor
