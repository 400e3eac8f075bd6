/- Stores, appends and cuts of own arrays. Under: the table of types tells the program's types. -/
import Derived.Test.YtpcdcnmmkfhliaaGreatDoorAMl
namespace Go.Proofs.YtpcdcnmmkfhliaaGreatDoor
namespace AM
open Go
set_option linter.unusedSimpArgs false
set_option linter.unusedVariables false

section
variable {P : Program} {τ : Tab} {X : Ctx} {L : Nm → Value} {I : Nat → Prop} {s : St} {a : Act} {w : World}

theorem Rep.one : ∀ (t : Ty) {x : t.den} {vs : List Value}, Rep I w t x vs → ∀ u ∈ vs, u.oneCell' = true
  | .int _, _, _, h, u, hu => by rw [show _ = _ from h] at hu; cases List.mem_singleton.1 hu; rfl
  | .bool, _, _, h, u, hu => by rw [show _ = _ from h] at hu; cases List.mem_singleton.1 hu; rfl
  | .str, _, _, h, u, hu => by rw [show _ = _ from h] at hu; cases List.mem_singleton.1 hu; rfl
  | .sl _, _, _, h, u, hu => by obtain ⟨_, _, _, rfl, _⟩ := h; cases List.mem_singleton.1 hu; rfl
  | .pr a b, _, _, h, u, hu => by
    obtain ⟨va, vb, rfl, h1, h2⟩ := h
    rcases List.mem_append.1 hu with q | q
    · exact Rep.one a h1 u q
    · exact Rep.one b h2 u q

theorem FRep.one {t : Ty} : ∀ {xs : List t.den} {vs : List Value}, FRep I w t xs vs → ∀ u ∈ vs, u.oneCell' = true
  | [], vs, h, u, hu => by
    have := h.len
    simp at this
    subst this
    cases hu
  | x :: xs, vs, h, u, hu => by
    obtain ⟨cs, us, rfl, h1, h2⟩ := h.un
    rcases List.mem_append.1 hu with q | q
    · exact Rep.one t h1 u q
    · exact FRep.one h2 u q

theorem fine_one {A : Nm → Option (Nat × Nat)} {c : CV} {u : Value} (h : c.fine = true) (r : RC L I w A c u) : u.oneCell' = true := by
  cases c with
  | v t x => exact Rep.one t (show Rep I w t x [u] from r) u (List.mem_singleton.2 rfl)
  | nil => rw [show u = _ from r]; rfl
  | own n => obtain ⟨_, _, _, rfl, _⟩ := r; rfl
  | pb n i => obtain ⟨_, _, _, rfl⟩ := r; rfl
  | pa n sz i j => obtain ⟨_, _, _, _, _, _, rfl⟩ := r; rfl
  | pe t x j => obtain ⟨_, _, _, rfl, _⟩ := r; rfl
  | clo f cs => obtain ⟨_, rfl, _⟩ := r; rfl
  | mp n => obtain ⟨_, rfl, _⟩ := r; rfl
  | hd k => obtain ⟨_, _, rfl⟩ := r; rfl
  | er e =>
    cases e with
    | true => obtain ⟨_, _, rfl⟩ := r; rfl
    | false => rw [show u = .nilIface from r]; rfl
  | raw y => rw [show u = y from r]; cases y <;> first | rfl | cases h
  | dead => cases h

theorem fines_one {A : Nm → Option (Nat × Nat)} : ∀ {cs : List CV} {us : List Value}, cs.all CV.fine = true → All2 (RC L I w A) cs us → ∀ u ∈ us, u.oneCell' = true
  | [], [], _, _, u, hu => by cases hu
  | c :: cs, v :: vs, h, r, u, hu => by
    rw [List.all_cons, Bool.and_eq_true] at h
    rcases List.mem_cons.1 hu with rfl | hu
    · exact fine_one h.1 r.1
    · exact fines_one h.2 r.2 u hu
  | [], _ :: _, _, r, _, _ => r.elim
  | _ :: _, [], _, r, _, _ => r.elim

theorem spl_len {cs new : List CV} {off : Nat} (h : off + new.length ≤ cs.length) : (spl cs off new).length = cs.length := by
  unfold spl; simp; omega

/-- A row of cells that is written in its middle. -/
theorem step_setRow {b T : Nat} {c : Array Value} {off : Nat} {news : List Value} (hg : w.heap[b]? = some (.cells c T (0, 0))) (hl : off + news.length ≤ c.size) :
    Step (fun b' o => b' = b ∧ off ≤ o ∧ o < off + news.length) w (w.setRow b (c.toList.take off ++ news ++ c.toList.drop (off + news.length)).toArray) := by
  refine ⟨rfl, rfl, rfl, by simp [World.setRow], fun k hk => ?_⟩
  by_cases q : k = b
  · subst q
    rw [hg, setRow_heap w k c _ T (0, 0) hg]
    refine ⟨_, rfl, by simp; omega, fun j hj => ?_⟩
    simp only [true_and, not_and, Nat.not_lt] at hj
    rw [List.getElem?_toArray, ← Array.getElem?_toList]
    by_cases q1 : j < off
    · rw [List.append_assoc, List.getElem?_append_left (by simp; omega), List.getElem?_take, if_pos q1]
    · have q2 := hj (by omega)
      rw [List.getElem?_append_right (by simp; omega), List.getElem?_drop]
      congr 1
      simp; omega
  · exact BlkEq.of_eq (setRow_other w b k _ q)

theorem setRow_get {c : Array Value} {off : Nat} {news : List Value} (hl : off + news.length ≤ c.size) (j : Nat) :
    (c.toList.take off ++ news ++ c.toList.drop (off + news.length)).toArray[j]? = if off ≤ j ∧ j < off + news.length then news[j - off]? else c[j]? := by
  rw [List.getElem?_toArray]
  by_cases q1 : j < off
  · rw [List.append_assoc, List.getElem?_append_left (by simp; omega), List.getElem?_take, if_pos q1, if_neg (by omega), ← Array.getElem?_toList]
  · by_cases q2 : j < off + news.length
    · rw [if_pos (by omega), List.append_assoc, List.getElem?_append_right (by simp; omega), List.getElem?_append_left (by simp; omega)]
      congr 1
      simp; omega
    · rw [if_neg (by omega), List.getElem?_append_right (by simp; omega), List.getElem?_drop, ← Array.getElem?_toList]
      congr 1
      simp; omega

theorem FRep.at {t : Ty} : ∀ {xs : List t.den} {vs : List Value}, FRep I w t xs vs → ∀ (i : Nat), i < xs.length →
    ∃ A cs B, vs = A ++ cs ++ B ∧ A.length = i * t.sz ∧ Rep I w t (xs.getD i t.zero) cs ∧ ∀ {x : t.den} {cs' : List Value}, Rep I w t x cs' → FRep I w t (xs.set i x) (A ++ cs' ++ B)
  | [], _, _, i, h => by simp at h
  | y :: xs, _, h, 0, _ => by
    obtain ⟨cs, us, rfl, h1, h2⟩ := h.un
    exact ⟨[], cs, us, rfl, by simp, h1, fun r => FRep.cons r h2⟩
  | y :: xs, _, h, i + 1, hi => by
    obtain ⟨cs, us, rfl, h1, h2⟩ := h.un
    obtain ⟨A, ds, B, rfl, g1, g2, g3⟩ := FRep.at h2 i (by simpa using hi)
    refine ⟨cs ++ A, ds, B, by simp, by rw [List.length_append, g1, Rep.len t h1, Nat.add_mul]; omega, by simpa using g2, fun r => ?_⟩
    have := FRep.cons h1 (g3 r)
    simpa using this

theorem store_box (h : Rel X L I s a w) {n : Nm} {off : Nat} {cs new : List CV} {u v : Value} (en : s.o n = some (.box cs)) (r : RC L I w (AL s.o) (.pb n off) u) (hle : off + new.length ≤ cs.length)
    (rv : All2 (RC L I w (AL s.o)) new v.cells.toList) (hf : new.all CV.fine = true) :
    ∃ ad w', u = .pointer (some ad) ∧ (storeCells ad v.cells.toList).run P w = .ok () w' ∧ Rel X L I (s.setO n (.box (spl cs off new))) a w' := by
  generalize v.cells.toList = news at rv ⊢
  obtain ⟨b, o0, h1, rfl⟩ := r
  obtain ⟨b', o0', vs, g1, g2, c, T, g3, g0, g4⟩ := h.obj n _ en
  rw [h1] at g1
  injection g1 with g1; injection g1 with g1; injection g1 with g1 g1' _
  subst g1; subst g1'
  have hl := g2.len
  have hl2 := rv.len
  have hfit : o0 + off + news.length ≤ c.size := by rw [← hl2]; omega
  have hrun := run_storeCells_at P b (o0 + off) T news 0 c w g3 (by simpa using hfit) (fines_one hf rv)
  simp only [Nat.add_zero] at hrun
  have hst := step_setRow g3 hfit
  refine ⟨⟨b, o0 + off, none⟩, _, rfl, hrun, ?_⟩
  refine h.modify hst n _ _ en ?_ ?_ ?_ ?_
  · rintro b' o ⟨rfl, q1, q2⟩
    exact ⟨o0, h1, by omega, by omega⟩
  · unfold AL; rw [setO_same, en]
  · rintro b' o ⟨off', e, q1, q2⟩
    rw [spl_len hle] at q2
    exact ⟨off', e, q1, q2⟩
  · refine ⟨b, o0, vs.take off ++ news ++ vs.drop (off + news.length), h1, ?_, _, T, setRow_heap w b c _ T (0, 0) g3, ?_, ?_⟩
    · have hI : Same I w (w.setRow b (c.toList.take (o0 + off) ++ news ++ c.toList.drop (o0 + off + news.length)).toArray) := fun b' hb' => by
        refine hst.same (h.imm b' hb').1 fun j q => ?_
        exact (h.own n _ en b (o0 + off) ⟨o0, h1, by omega, by omega⟩).2.1 (q.1 ▸ hb')
      refine RCs.mono (fun _ q => q) hI (fun _ _ => ⟨rfl, rfl⟩) ?_
      unfold spl
      rw [hl2]
      exact ((g2.take off).append rv).append (g2.drop _)
    · simp; omega
    · intro j u hu
      rw [setRow_get hfit]
      by_cases q1 : j < off
      · rw [if_neg (by omega)]
        rw [List.append_assoc, List.getElem?_append_left (by simp; omega), List.getElem?_take, if_pos q1] at hu
        exact g4 j u hu
      · by_cases q2 : j < off + news.length
        · rw [if_pos (by omega)]
          rw [List.append_assoc, List.getElem?_append_right (by simp; omega), List.getElem?_append_left (by simp; omega)] at hu
          rw [← hu]
          congr 1
          simp; omega
        · rw [if_neg (by omega)]
          rw [List.getElem?_append_right (by simp; omega), List.getElem?_drop] at hu
          have := g4 _ u hu
          rw [← this]
          congr 1
          simp; omega

theorem store_arr (h : Rel X L I s a w) {n : Nm} {sz i j e : Nat} {t : Ty} {xs : List t.den} {x : t.den} {new : List CV} {u v : Value} (en : s.o n = some (.arr e t xs)) (r : RC L I w (AL s.o) (.pa n sz i j) u)
    (hle : j + new.length ≤ t.sz) (hx : joinAll t (spl (split t (xs.getD i t.zero)) j new) = some x) (rv : All2 (RC L I w (AL s.o)) new v.cells.toList) (hf : new.all CV.fine = true) :
    ∃ ad w', u = .pointer (some ad) ∧ (storeCells ad v.cells.toList).run P w = .ok () w' ∧ Rel X L I (s.setO n (.arr e t (xs.set i x))) a w' := by
  generalize v.cells.toList = news at rv ⊢
  obtain ⟨b, len, cap, h1, h2, h3, rfl⟩ := r
  have hA : (t.sz, xs.length) = (sz, len) := by
    have : AL s.o n = some (t.sz, xs.length) := by unfold AL; rw [en]
    rw [this] at h2; exact Option.some.inj h2
  obtain ⟨rfl, rfl⟩ := Prod.mk.inj hA
  obtain ⟨vs, ⟨k1, k2⟩, k3⟩ := h.obj n _ en
  rcases k2 with ⟨k2, _⟩ | ⟨g, cap', cur, k2, _, k4, k5, k6, k7, k8⟩
  · rw [k2] at h1; cases h1
  · have hL := k2
    rw [h1] at k2
    injection k2 with k2 _ k2'; injection k2 with k2; injection k2 with k2 _ _
    subst k2; subst k2'
    obtain ⟨A, cs, B, rfl, hA1, hcs, hset⟩ := k3.at i h3
    have hcl := Rep.len t hcs
    have hl2 := rv.len
    have hvl : (A ++ cs ++ B).length = xs.length * t.sz := k1
    have hcur : cur.toList = A ++ cs ++ B ++ cur.toList.drop (xs.length * t.sz) := by rw [← k8]; simp
    have hcz : xs.length * t.sz ≤ cur.size := by rw [k7]; exact Nat.mul_le_mul_right _ k5
    have hfit : i * t.sz + j + news.length ≤ cur.size := by
      rw [← hl2]
      have : A.length + cs.length + B.length = xs.length * t.sz := by rw [← hvl]; simp; omega
      omega
    have hrun := run_storeCells_at P b (i * t.sz + j) e news 0 cur w k4 (by simpa using hfit) (fines_one hf rv)
    simp only [Nat.add_zero] at hrun
    have hst := step_setRow k4 hfit
    have hfp : ∀ o, fp L n (.arr e t xs) b o := fun o => by show (L n).ownBlock = some b; rw [hL]; rfl
    have hI : Same I w (w.setRow b (cur.toList.take (i * t.sz + j) ++ news ++ cur.toList.drop (i * t.sz + j + news.length)).toArray) := fun b' hb' => by
      refine hst.same (h.imm b' hb').1 fun q r => ?_
      exact (h.own n _ en b 0 (hfp 0)).2.1 (r.1 ▸ hb')
    refine ⟨⟨b, i * t.sz + j, none⟩, _, rfl, hrun, ?_⟩
    have hrow : Rep I w t x (cs.take j ++ news ++ cs.drop (j + news.length)) := by
      refine joinAll_sound (L := L) (A := AL s.o) hx ?_
      unfold spl
      rw [hl2]
      have := split_sound (L := L) (A := AL s.o) t hcs
      exact ((this.take j).append rv).append (this.drop _)
    refine h.modify hst n _ _ en ?_ ?_ (fun _ _ q => q) ?_
    · rintro b' o ⟨rfl, _, _⟩; exact hfp o
    · unfold AL; rw [setO_same, en]; simp
    · refine ⟨A ++ (cs.take j ++ news ++ cs.drop (j + news.length)) ++ B, ⟨?_, .inr ⟨b, cap, _, ?_, Nat.zero_le _, setRow_heap w b cur _ e (0, 0) k4, ?_, k6, ?_, ?_⟩⟩, (hset hrow).mono (fun _ q => q) hI⟩
      · rw [List.length_set, ← hvl]; simp; omega
      · rw [List.length_set]; exact h1
      · rw [List.length_set]; exact k5
      · rw [← k7]; simp; omega
      · rw [List.length_set]
        have e1 : cur.toList.take (i * t.sz + j) = A ++ cs.take j := by
          rw [hcur, List.append_assoc, List.append_assoc, ← hA1, List.take_length_add_append, List.take_append_of_le_length (by omega)]
        have e2 : cur.toList.drop (i * t.sz + j + news.length) = cs.drop (j + news.length) ++ (B ++ cur.toList.drop (xs.length * t.sz)) := by
          conv => lhs; rw [hcur, List.append_assoc, List.append_assoc, ← hA1, Nat.add_assoc, List.drop_length_add_append, List.drop_append_of_le_length (by omega)]
        simp only [List.toList_toArray]
        rw [e1, e2]
        have : (A ++ (cs.take j ++ news ++ cs.drop (j + news.length)) ++ B).length = xs.length * t.sz := by rw [← hvl]; simp; omega
        generalize cur.toList.drop (xs.length * t.sz) = rest
        have e3 : A ++ cs.take j ++ news ++ (cs.drop (j + news.length) ++ (B ++ rest)) = (A ++ (cs.take j ++ news ++ cs.drop (j + news.length)) ++ B) ++ rest := by simp
        rw [← this, e3]
        exact List.take_left

end
end AM
end Go.Proofs.YtpcdcnmmkfhliaaGreatDoor
