/- A state is laid anew by a shape. No condition. -/
import Derived.Test.YtpcdcnmmkfhliaaGreatDoorAMo
namespace Go.Proofs.YtpcdcnmmkfhliaaGreatDoor
namespace AM
open Go
set_option linter.unusedSimpArgs false
set_option linter.unusedVariables false

section
variable {X : Ctx} {L : Nm → Value} {I : Nat → Prop} {s : St} {a : Act} {w : World}

theorem mkCells_len (nm : Nat → PS → Nm) : ∀ (k : Nat) (ps : List PS) (ds : List DV), ds.length = ps.length → (mkCells nm k ps ds).length = ps.length
  | _, [], [], _ => rfl
  | _, [], _ :: _, h => by cases h
  | _, _ :: _, [], h => by cases h
  | k, p :: ps, d :: ds, h => by
    show (mkCells nm (k + 1) ps ds).length + 1 = _
    rw [mkCells_len nm (k + 1) ps ds (by simpa using h)]; rfl

theorem BoxIn.part {b off : Nat} {vs : List Value} (h : BoxIn w b off vs) (k n : Nat) (hk : k + n ≤ vs.length) : BoxIn w b (off + k) ((vs.drop k).take n) := by
  obtain ⟨c, T, h1, h2, h3⟩ := h
  refine ⟨c, T, h1, ?_, fun j u hu => ?_⟩
  · rw [List.length_take, List.length_drop]; omega
  · rw [List.getElem?_take] at hu
    split at hu
    · rw [List.getElem?_drop] at hu
      rw [Nat.add_assoc]
      exact h3 (k + j) u hu
    · cases hu

/-- What a pointer to a part of an object points to. -/
theorem point_box (h : Rel X L I s a w) {m : Nm} {off len : Nat} {cs : List CV} {u : Value} (em : s.o m = some (.box cs)) (r : RC L I w (AL s.o) (.pb m off) u) (hl : off + len ≤ cs.length) :
    ∃ b o us, u = .pointer (some ⟨b, o + off, none⟩) ∧ L m = .pointer (some ⟨b, o, none⟩) ∧ All2 (RC L I w (AL s.o)) ((cs.drop off).take len) us ∧ us.length = len ∧ BoxIn w b (o + off) us ∧
      ∀ j, o + off ≤ j → j < o + off + len → fp L m (.box cs) b j := by
  obtain ⟨b, o, h1, rfl⟩ := r
  obtain ⟨b', o', vs, h2, h3, h4⟩ := h.obj m _ em
  rw [h1] at h2
  injection h2 with h2; injection h2 with h2; injection h2 with h2 h2' _
  subst h2; subst h2'
  have hl2 := h3.len
  refine ⟨b, o, (vs.drop off).take len, rfl, h1, (h3.drop off).take len, ?_, h4.part off len (by omega), fun j g1 g2 => ⟨o, h1, by omega, by omega⟩⟩
  rw [List.length_take, List.length_drop]; omega

theorem point_arr (h : Rel X L I s a w) {m : Nm} {sz i j len e : Nat} {t : Ty} {xs : List t.den} {u : Value} (em : s.o m = some (.arr e t xs)) (r : RC L I w (AL s.o) (.pa m sz i j) u) (hl : j + len ≤ t.sz) :
    ∃ b o us, u = .pointer (some ⟨b, o, none⟩) ∧ All2 (RC L I w (AL s.o)) (((split t (xs.getD i t.zero)).drop j).take len) us ∧ us.length = len ∧ BoxIn w b o us ∧
      (∀ k, fp L m (.arr e t xs) b k) ∧ i < xs.length ∧ o = i * t.sz + j ∧ ∃ l c, L m = .slice (some ⟨b, 0, none⟩) l c := by
  obtain ⟨b, ln, cap, h1, h2, h3, rfl⟩ := r
  have hA : (t.sz, xs.length) = (sz, ln) := by
    have : AL s.o m = some (t.sz, xs.length) := by unfold AL; rw [em]
    rw [this] at h2; exact Option.some.inj h2
  obtain ⟨rfl, rfl⟩ := Prod.mk.inj hA
  obtain ⟨vs, ⟨k1, k2⟩, k3⟩ := h.obj m _ em
  rcases k2 with ⟨k2, _⟩ | ⟨g, cap', cur, k2, _, k4, k5, k6, k7, k8⟩
  · rw [k2] at h1; cases h1
  · have hL := k2
    rw [h1] at k2
    injection k2 with k2 _ k2'; injection k2 with k2; injection k2 with k2 _ _
    subst k2; subst k2'
    obtain ⟨A, cs, B, rfl, hA1, hcs, _⟩ := k3.at i h3
    have hcl := Rep.len t hcs
    have hvl : (A ++ cs ++ B).length = xs.length * t.sz := k1
    have hal : A.length + cs.length + B.length = xs.length * t.sz := by rw [← hvl]; simp; omega
    have hcz : xs.length * t.sz ≤ cur.size := by rw [k7]; exact Nat.mul_le_mul_right _ k5
    have hlen : ((cs.drop j).take len).length = len := by rw [List.length_take, List.length_drop]; omega
    refine ⟨b, i * t.sz + j, (cs.drop j).take len, rfl, ((split_sound t hcs).drop j).take len, hlen, ⟨cur, e, k4, by omega, fun q v hq => ?_⟩, fun o => ?_, h3, rfl, _, _, h1⟩
    · rw [List.getElem?_take] at hq
      split at hq
      · rw [List.getElem?_drop] at hq
        have hj : j + q < cs.length := by rcases Nat.lt_or_ge (j + q) cs.length with z | z; exact z; rw [List.getElem?_eq_none z] at hq; cases hq
        have : (cur.toList.take (xs.length * t.sz))[i * t.sz + j + q]? = some v := by
          rw [k8, List.append_assoc, List.getElem?_append_right (by omega), List.getElem?_append_left (by omega)]
          rw [show i * t.sz + j + q - A.length = j + q by omega]
          exact hq
        rw [List.getElem?_take] at this
        split at this
        · simpa using this
        · cases this
      · cases hq
    · show (L m).ownBlock = some b
      rw [hL]; rfl

theorem enGet_sound (h : Rel X L I s a w) {I' : Nat → Prop} (hI : ∀ b, I b → I' b) {en : En} {v : AV} {ds : List DV} {ts : List Tag} {u : Value} (e : enGet s.o en v = some (ds, ts)) (r : RA L I w (AL s.o) v u)
    (hl : ∀ m ∈ ts.flatMap Tag.lent, ∀ b, (L m).ownBlock = some b → I' b) :
    ds.length = en.cells.length ∧ ∃ lv, Got L s w I' en.names en.new lv (mkB en ds) ts ∧
      (∀ L' A', (∀ q ∈ lv, L' q.1 = q.2) → PtsAt L L' ts → (∀ i n k, en = .ptr i n k → L' n = L n) → RA L' I' w A' (mkV en ds) u) := by
  have box : ∀ {i : Nat} {n m : Nm} {ps : List PS} {cs : List CV} {ds : List DV} {ts : List Tag} {tag : Tag} {ob : Ob} {b o : Nat} {us : List Value}, psGets s.o (nmBox n) 0 ps cs = some (ds, ts) → All2 (RC L I w (AL s.o)) cs us →
      (∀ m ∈ ts.flatMap Tag.lent, ∀ b, (L m).ownBlock = some b → I' b) → us.length = ps.length → BoxIn w b o us → s.o m = some ob → (∀ j, o ≤ j → j < o + ps.length → fp L m ob b j) → tag.pair = [(n, m)] → (∀ L', L' n = .pointer (some ⟨b, o, none⟩) → TagAt L L' s tag) → (∀ j, o ≤ j → j < o + ps.length → TagFp L tag b j) →
      ∀ {new : List Nm}, (∀ x ∈ (En.box i n ps).new, x ∈ new) → (tag.stays = true → n ∈ new ∨ L n = .pointer (some ⟨b, o, none⟩)) →
      ds.length = ps.length ∧ ∃ lv, Got L s w I' (En.box i n ps).names new lv (mkB (.box i n ps) ds) (tag :: ts) ∧
        (∀ L' A', (∀ q ∈ lv, L' q.1 = q.2) → RA L' I' w A' (mkV (.box i n ps) ds) (.pointer (some ⟨b, o, none⟩))) := by
    intro i n m ps cs ds ts tag ob b o us e r hl hul hb em hf ht htg htf new hnew hst
    obtain ⟨lv, g1, g2⟩ := psGets_sound h hI e r hl
    have hdl := (psGets_len e).1
    refine ⟨hdl, (n, .pointer (some ⟨b, o, none⟩)) :: lv, ?_, fun L' A' hL => ⟨b, o, hL _ (List.mem_cons_self ..), rfl⟩⟩
    have hc := mkCells_len (nmBox n) 0 ps ds hdl
    refine ⟨by show _ :: lv.map Prod.fst = _; rw [g1.nm]; rfl, by show _ :: (mkOs (nmBox n) 0 ps ds).map Prod.fst = _; rw [g1.om]; rfl, fun L' A' hL hpt q hq => ?_, fun L' hL q hq b' o' hb' => ?_, fun hst' p hp => ?_, fun L' hL t ht' => ?_⟩
    · have hpt' : PtsAt L L' ts := fun t ht => hpt t (List.mem_cons_of_mem _ ht)
      rcases List.mem_cons.1 hq with rfl | hq
      · exact ⟨b, o, us, hL _ (List.mem_cons_self ..), g2 L' A' (fun q hq => hL q (List.mem_cons_of_mem _ hq)) hpt', hb⟩
      · exact g1.ro L' A' (fun p hp => hL p (List.mem_cons_of_mem _ hp)) hpt' q hq
    · rcases List.mem_cons.1 hq with rfl | hq
      · obtain ⟨o2, q1, q2, q3⟩ := hb'
        have q0 : L' n = .pointer (some ⟨b, o, none⟩) := hL _ (List.mem_cons_self ..)
        rw [show (n, Ob.box (mkCells (nmBox n) 0 ps ds)).1 = n from rfl, q0] at q1
        injection q1 with q1; injection q1 with q1; injection q1 with q1 q1' _
        subst q1; subst q1'
        rw [hc] at q3
        exact ⟨tag, List.mem_cons_self .., m, ob, ht, em, hf o' q2 q3, htf o' q2 q3⟩
      · obtain ⟨t, e1, e2⟩ := g1.fp L' (fun p hp => hL p (List.mem_cons_of_mem _ hp)) q hq b' o' hb'
        exact ⟨t, List.mem_cons_of_mem _ e1, e2⟩
    · rw [List.all_cons, Bool.and_eq_true] at hst'
      rcases List.mem_cons.1 hp with rfl | hp
      · exact (hst hst'.1).imp id Eq.symm
      · exact (g1.st hst'.2 p hp).imp (hnew _) id
    · rcases List.mem_cons.1 ht' with rfl | ht'
      · exact htg L' (hL (n, _) (List.mem_cons_self ..))
      · exact g1.tg L' (fun p hp => hL p (List.mem_cons_of_mem _ hp)) t ht'
  cases en with
  | val i p =>
    cases v with
    | c x =>
      have e : psGets s.o (nmOf i) 0 [p] [x] = some (ds, ts) := e
      obtain ⟨lv, g1, g2⟩ := psGets_sound h hI (us := [u]) e ⟨r, trivial⟩ hl
      have hdl := (psGets_len e).1
      refine ⟨hdl, lv, g1, fun L' A' hL hpt _ => ?_⟩
      have := g2 L' A' hL hpt
      cases ds with
      | nil => cases hdl
      | cons d ds => exact this.1
    | g _ => cases e
    | tup _ => cases e
  | agg i ps =>
    cases v with
    | g cs =>
      have e : psGets s.o (nmOf i) 0 ps cs = some (ds, ts) := e
      obtain ⟨vs, rfl, r⟩ := r
      obtain ⟨lv, g1, g2⟩ := psGets_sound h hI e r hl
      exact ⟨(psGets_len e).1, lv, g1, fun L' A' hL hpt _ => ⟨vs, rfl, g2 L' A' hL hpt⟩⟩
    | c _ => cases e
    | tup _ => cases e
  | box i n ps =>
    cases v with
    | c x =>
      cases x with
      | pb m off =>
        simp only [enGet] at e
        split at e
        · rename_i cs em
          cases k : (Nat.ble (off + ps.length) cs.length && (Nat.blt 0 ps.length && noB ps)) with
          | false => rw [k] at e; cases e
          | true =>
            rw [k] at e
            simp only [cond_true] at e
            rw [Bool.and_eq_true] at k
            split at e
            · rename_i ds' ts' e1
              obtain ⟨rfl, rfl⟩ := Prod.mk.inj (Option.some.inj e)
              obtain ⟨b, o, us, rfl, q1, q2, q3, q4, q5⟩ := point_box h em r (Nat.le_of_ble_eq_true k.1)
              obtain ⟨g0, lv, g1, g2⟩ := box (i := i) e1 q2 (fun m hm => hl m hm) q3 q4 em q5 (tag := .pb n m off ps.length) rfl (fun L' q => ⟨b, o, cs, em, Nat.le_of_ble_eq_true k.1, Nat.le_of_ble_eq_true (Bool.and_eq_true_iff.1 k.2).1, q1, q⟩) (fun j p1 p2 => ⟨o, q1, p1, p2⟩) (fun _ q => q) (fun hs => by
                simp only [Tag.stays, Bool.and_eq_true] at hs
                exact .inr (by rw [eqb_iff.1 hs.1, q1, Nat.eq_of_beq_eq_true hs.2]; rfl))
              exact ⟨g0, lv, g1, fun L' A' hL _ _ => g2 L' A' hL⟩
            · cases e
        · cases e
      | pa m sz k j =>
        simp only [enGet] at e
        split at e
        · rename_i q t xs em
          cases k2 : (Nat.ble (j + ps.length) t.sz && (Nat.blt 0 ps.length && allI ps)) with
          | false => rw [k2] at e; cases e
          | true =>
            rw [k2] at e
            simp only [cond_true] at e
            rw [Bool.and_eq_true] at k2
            split at e
            · rename_i ds' ts' e1
              obtain ⟨rfl, rfl⟩ := Prod.mk.inj (Option.some.inj e)
              obtain ⟨b, o, us, rfl, q2, q3, q4, q5, q6, rfl, l, c, q7⟩ := point_arr h em r (Nat.le_of_ble_eq_true k2.1)
              obtain ⟨g0, lv, g1, g2⟩ := box (i := i) e1 q2 (fun m hm => hl m hm) q3 q4 em (fun j _ _ => q5 j) (tag := .pa n m k j ps.length) rfl (fun L' q8 => ⟨b, q, t, xs, l, c, em, Nat.le_of_ble_eq_true k2.1, Nat.le_of_ble_eq_true (Bool.and_eq_true_iff.1 k2.2).1, q6, q7, q8⟩) (fun _ _ _ => q5 0) (fun _ q => q) (fun hs => by cases hs)
              exact ⟨g0, lv, g1, fun L' A' hL _ _ => g2 L' A' hL⟩
            · cases e
        · cases e
      | _ => cases e
    | g _ => cases e
    | tup _ => cases e
  | ptr i n off =>
    cases v with
    | c x =>
      cases x with
      | pb m k =>
        simp only [enGet] at e
        cases k2 : (Nm.eqb m n && Nat.beq k off) with
        | false => rw [k2] at e; cases e
        | true =>
          rw [k2] at e
          obtain ⟨rfl, rfl⟩ := Prod.mk.inj (Option.some.inj e)
          rw [Bool.and_eq_true] at k2
          have h1 := eqb_iff.1 k2.1
          have h2 := Nat.eq_of_beq_eq_true k2.2
          subst h1; subst h2
          refine ⟨rfl, [], Got.nil, fun L' A' _ _ hp => ?_⟩
          obtain ⟨b, o, r1, r2⟩ := r
          exact ⟨b, o, by rw [hp i m k rfl]; exact r1, r2⟩
      | _ => cases e
    | g _ => cases e
    | tup _ => cases e
  | nbox i n ps =>
    cases v with
    | c x =>
      cases x with
      | pb m off =>
        cases off with
        | succ _ => cases e
        | zero =>
        simp only [enGet] at e
        split at e
        · rename_i cs em
          cases k : (Nat.beq ps.length cs.length && (Nat.blt 0 ps.length && noB ps)) with
          | false => rw [k] at e; cases e
          | true =>
            rw [k] at e
            simp only [cond_true] at e
            rw [Bool.and_eq_true] at k
            have kl := Nat.eq_of_beq_eq_true k.1
            split at e
            · rename_i ds' ts' e1
              obtain ⟨rfl, rfl⟩ := Prod.mk.inj (Option.some.inj e)
              obtain ⟨b, o, us, rfl, q1, q2, q3, q4, q5⟩ := point_box h (len := cs.length) em r (by omega)
              rw [List.drop_zero, List.take_length] at q2
              obtain ⟨g0, lv, g1, g2⟩ := box (i := i) e1 q2 (fun m hm => hl m hm) (by rw [q3, kl]) q4 em (fun j z1 z2 => q5 j z1 (by rw [← kl]; exact z2)) (tag := .mx n m ps.length) rfl (fun L' q => ⟨b, o, cs, em, by omega, Nat.le_of_ble_eq_true (Bool.and_eq_true_iff.1 k.2).1, q1, q⟩) (fun j p1 p2 => ⟨o, q1, p1, p2⟩) (new := En.new (.nbox i n ps)) (fun _ q => List.mem_cons_of_mem _ q) (fun _ => .inl (List.mem_cons_self ..))
              exact ⟨g0, lv, g1, fun L' A' hL _ _ => g2 L' A' hL⟩
            · cases e
        · cases e
      | _ => cases e
    | g _ => cases e
    | tup _ => cases e
  | hid n ps =>
    have e : (match s.o n with
      | some (.box cs) => bif Nat.beq ps.length cs.length && (Nat.blt 0 ps.length && noB ps) then (match psGets s.o (nmBox n) 0 ps cs with
        | some (ds, ts) => some (ds, Tag.pb n n 0 ps.length :: ts)
        | none => none) else none
      | _ => none) = some (ds, ts) := by cases v <;> exact e
    split at e
    · rename_i cs em
      cases k : (Nat.beq ps.length cs.length && (Nat.blt 0 ps.length && noB ps)) with
      | false => rw [k] at e; cases e
      | true =>
        rw [k] at e
        simp only [cond_true] at e
        rw [Bool.and_eq_true] at k
        have kl := Nat.eq_of_beq_eq_true k.1
        split at e
        · rename_i ds' ts' e1
          obtain ⟨rfl, rfl⟩ := Prod.mk.inj (Option.some.inj e)
          obtain ⟨b0, o0, vs0, hb0, _, _⟩ := h.obj n _ em
          obtain ⟨b, o, us, _, q1, q2, q3, q4, q5⟩ := point_box h (u := .pointer (some ⟨b0, o0 + 0, none⟩)) (len := cs.length) em ⟨b0, o0, hb0, rfl⟩ (by omega)
          rw [List.drop_zero, List.take_length] at q2
          obtain ⟨g0, lv, g1, g2⟩ := box (i := 0) e1 q2 (fun m hm => hl m hm) (by rw [q3, kl]) q4 em (fun j z1 z2 => q5 j z1 (by rw [← kl]; exact z2)) (tag := .pb n n 0 ps.length) rfl (fun L' q => ⟨b, o, cs, em, by omega, Nat.le_of_ble_eq_true (Bool.and_eq_true_iff.1 k.2).1, q1, q⟩) (fun j p1 p2 => ⟨o, q1, p1, p2⟩) (new := En.new (.hid n ps)) (fun _ q => q) (fun _ => .inr q1)
          exact ⟨g0, lv, g1, fun L' A' hL _ _ => trivial⟩
        · cases e
    · cases e

theorem getVs_sound (h : Rel X L I s a w) {I' : Nat → Prop} (hI : ∀ b, I b → I' b) : ∀ {es : List En} {vs : List AV} {ds : List DV} {ts : List Tag} {us : List Value}, getVs s.o es vs = some (ds, ts) → All2 (RA L I w (AL s.o)) vs us →
    (∀ m ∈ ts.flatMap Tag.lent, ∀ b, (L m).ownBlock = some b → I' b) →
    ∃ lv, Got L s w I' (es.flatMap En.names) (es.flatMap En.new) lv (mkBs es ds) ts ∧
      (∀ L' A', (∀ q ∈ lv, L' q.1 = q.2) → PtsAt L L' ts → (∀ i n k, En.ptr i n k ∈ es → L' n = L n) → All2 (fun (p : Nat × AV) u => RA L' I' w A' p.2 u) (mkVs es ds) us)
  | [], [], _, _, us, e, r, _ => by
    obtain ⟨rfl, rfl⟩ := Prod.mk.inj (Option.some.inj e)
    cases us with
    | nil => exact ⟨[], Got.nil, fun _ _ _ _ _ => trivial⟩
    | cons _ _ => exact r.elim
  | [], _ :: _, _, _, _, e, _, _ => by cases e
  | _ :: _, [], _, _, _, e, _, _ => by cases e
  | en :: es, v :: vs, _, _, us, e, r, hl => by
    simp only [getVs] at e
    split at e
    · rename_i d t ds ts e1 e2
      obtain ⟨rfl, rfl⟩ := Prod.mk.inj (Option.some.inj e)
      cases us with
      | nil => exact r.elim
      | cons u us =>
        obtain ⟨r1, r2⟩ := r
        rw [List.flatMap_append] at hl
        obtain ⟨g0, l1, g1, g2⟩ := enGet_sound h hI e1 r1 (fun m hm => hl m (List.mem_append_left _ hm))
        obtain ⟨l2, g3, g4⟩ := getVs_sound h hI e2 r2 (fun m hm => hl m (List.mem_append_right _ hm))
        refine ⟨l1 ++ l2, ?_, fun L' A' hL hpt hp => ⟨?_, ?_⟩⟩
        · show Got L s w I' (en.names ++ es.flatMap En.names) (en.new ++ es.flatMap En.new) _ (mkB en ((d ++ ds).take en.cells.length) ++ mkBs es ((d ++ ds).drop en.cells.length)) _
          rw [← g0, List.take_left, List.drop_left]
          exact g1.append g3
        · show RA L' I' w A' (mkV en ((d ++ ds).take en.cells.length)) u
          rw [← g0, List.take_left]
          exact g2 L' A' (fun q hq => hL q (List.mem_append_left _ hq)) (fun t ht => hpt t (List.mem_append_left _ ht)) (fun i n k q => hp i n k (q ▸ List.mem_cons_self ..))
        · show All2 (fun (p : Nat × AV) u => RA L' I' w A' p.2 u) (mkVs es ((d ++ ds).drop en.cells.length)) us
          rw [← g0, List.drop_left]
          exact g4 L' A' (fun q hq => hL q (List.mem_append_right _ hq)) (fun t ht => hpt t (List.mem_append_right _ ht)) (fun i n k q => hp i n k (List.mem_cons_of_mem _ q))
    · cases e

/-! ### The new state -/
def lookL (l : List (Nm × Value)) (L : Nm → Value) (n : Nm) : Value := match l with
  | [] => L n
  | p :: r => bif Nm.eqb p.1 n then p.2 else lookL r L n

theorem lookL_mem {L : Nm → Value} : ∀ {l : List (Nm × Value)}, (l.map Prod.fst).Nodup → ∀ p ∈ l, lookL l L p.1 = p.2
  | [], _, _, h => by cases h
  | q :: l, hn, p, h => by
    rw [List.map_cons, List.nodup_cons] at hn
    unfold lookL
    rcases List.mem_cons.1 h with rfl | h
    · rw [eqb_self]; rfl
    · have : q.1 ≠ p.1 := fun e => hn.1 (e ▸ List.mem_map.2 ⟨p, h, rfl⟩)
      rw [eqb_false.2 this]
      exact lookL_mem hn.2 p h

theorem lookL_not {L : Nm → Value} {n : Nm} : ∀ {l : List (Nm × Value)}, n ∉ l.map Prod.fst → lookL l L n = L n
  | [], _ => rfl
  | q :: l, h => by
    rw [List.map_cons, List.mem_cons] at h
    have : q.1 ≠ n := fun e => h (.inl e.symm)
    unfold lookL
    rw [eqb_false.2 this]
    exact lookL_not fun e => h (.inr e)

theorem lookO_mem {n : Nm} {ob : Ob} : ∀ {l : List (Nm × Ob)}, lookO l n = some ob → (n, ob) ∈ l
  | [], h => by cases h
  | q :: l, h => by
    unfold lookO at h
    cases e : Nm.eqb q.1 n with
    | true =>
      rw [e] at h
      obtain rfl := Option.some.inj h
      rw [← eqb_iff.1 e]
      exact List.mem_cons_self ..
    | false => rw [e] at h; exact List.mem_cons_of_mem _ (lookO_mem h)

theorem look_or (l : List (Nat × AV)) (i : Nat) : (∃ p ∈ l, p.1 = i ∧ look l i = p.2) ∨ ((∀ p ∈ l, p.1 ≠ i) ∧ look l i = .c .dead) := by
  induction l with
  | nil => exact .inr ⟨fun _ h => (by cases h), rfl⟩
  | cons q l ih =>
    unfold look
    cases e : Nat.beq q.1 i with
    | true => exact .inl ⟨q, List.mem_cons_self .., Nat.eq_of_beq_eq_true e, rfl⟩
    | false =>
      rcases ih with ⟨p, h1, h2⟩ | ⟨h1, h2⟩
      · exact .inl ⟨p, List.mem_cons_of_mem _ h1, h2⟩
      · refine .inr ⟨fun p hp => ?_, h2⟩
        rcases List.mem_cons.1 hp with rfl | hp
        · exact Nat.ne_of_beq_eq_false e
        · exact h1 p hp

theorem pair_uniq : ∀ {l : List (Nm × Nm)}, (l.map Prod.snd).Nodup → ∀ {a b n : Nm}, (a, n) ∈ l → (b, n) ∈ l → a = b
  | [], _, _, _, _, h, _ => by cases h
  | q :: l, hn, a, b, n, h, g => by
    rw [List.map_cons, List.nodup_cons] at hn
    rcases List.mem_cons.1 h with h1 | h1
    · rcases List.mem_cons.1 g with g1 | g1
      · rw [← h1] at g1; exact (Prod.mk.inj g1).1.symm
      · rw [← h1] at hn; exact absurd (show n ∈ l.map Prod.snd from List.mem_map.2 ⟨(b, n), g1, rfl⟩) hn.1
    · rcases List.mem_cons.1 g with g1 | g1
      · rw [← g1] at hn; exact absurd (show n ∈ l.map Prod.snd from List.mem_map.2 ⟨(a, n), h1, rfl⟩) hn.1
      · exact pair_uniq hn.2 h1 g1

theorem mkVs_slots : ∀ {es : List En} {ds : List DV} {p : Nat × AV}, p ∈ mkVs es ds → ∃ e ∈ es, p.1 = e.slot
  | [], _, _, h => by cases h
  | e :: es, ds, p, h => by
    rcases List.mem_cons.1 h with rfl | h
    · exact ⟨e, List.mem_cons_self .., rfl⟩
    · obtain ⟨e', h1, h2⟩ := mkVs_slots h
      exact ⟨e', List.mem_cons_of_mem _ h1, h2⟩

theorem All2.mem {α β : Type} {R : α → β → Prop} : ∀ {as : List α} {bs : List β}, All2 R as bs → ∀ {a : α}, a ∈ as → ∃ (i : Nat) (b : β), as[i]? = some a ∧ bs[i]? = some b ∧ R a b
  | [], _, _, _, h => by cases h
  | x :: as, [], h, _, _ => h.elim
  | x :: as, y :: bs, ⟨h1, h2⟩, a, h => by
    rcases List.mem_cons.1 h with rfl | h
    · exact ⟨0, y, rfl, rfl, h1⟩
    · obtain ⟨i, b, g1, g2, g3⟩ := All2.mem h2 h
      exact ⟨i + 1, b, g1, g2, g3⟩

theorem mkVs_get : ∀ {es : List En} {ds : List DV} {i : Nat} {p : Nat × AV}, (mkVs es ds)[i]? = some p → ∃ e, es[i]? = some e ∧ p.1 = e.slot
  | [], _, _, _, h => by cases h
  | e :: es, ds, 0, p, h => by obtain rfl := Option.some.inj h; exact ⟨e, rfl, rfl⟩
  | e :: es, ds, i + 1, p, h => mkVs_get (es := es) (ds := ds.drop e.cells.length) (i := i) h

theorem findTag_sound {m : Nm} : ∀ {ts : List Tag}, findTag m ts = .no ∨ (findTag m ts ∈ ts ∧ (findTag m ts).new = some m)
  | [] => .inl rfl
  | t :: r => by
    unfold findTag
    cases e : t.new with
    | none =>
      dsimp only
      rcases findTag_sound (m := m) (ts := r) with h | ⟨h1, h2⟩
      · exact .inl h
      · exact .inr ⟨List.mem_cons_of_mem _ h1, h2⟩
    | some k =>
      dsimp only
      cases e2 : Nm.eqb k m with
      | true => have := eqb_iff.1 e2; subst this; exact .inr ⟨List.mem_cons_self .., e⟩
      | false =>
        rcases findTag_sound (m := m) (ts := r) with h | ⟨h1, h2⟩
        · exact .inl h
        · exact .inr ⟨List.mem_cons_of_mem _ h1, h2⟩

theorem pts_at {L' : Nm → Value} {ts : List Tag} (ht : (ts.flatMap Tag.pts).all (ptOk ts) = true) (htg : ∀ t ∈ ts, TagAt L L' s t) : PtsAt L L' ts := by
  intro t h1 p hp
  rw [List.all_eq_true] at ht
  have k := ht p (List.mem_flatMap.2 ⟨t, h1, hp⟩)
  unfold ptOk at k
  have fs := findTag_sound (m := p.1.1) (ts := ts)
  split at k
  · rename_i k0 m off len e
    rw [Bool.and_eq_true] at k
    rw [e] at fs
    rcases fs with fs | ⟨f1, f2⟩
    · cases fs
    · obtain ⟨b, o, cs, _, _, _, g1, g2⟩ := htg _ f1
      have : k0 = p.1.1 := Option.some.inj f2
      rw [this] at g2
      have k1 := eqb_iff.1 k.1
      subst k1
      exact ⟨b, o, _, g1, g2, by have := Nat.eq_of_beq_eq_true k.2; omega⟩
  · rename_i k0 m len e
    rw [Bool.and_eq_true] at k
    rw [e] at fs
    rcases fs with fs | ⟨f1, f2⟩
    · cases fs
    · obtain ⟨b, o, cs, _, _, _, g1, g2⟩ := htg _ f1
      have : k0 = p.1.1 := Option.some.inj f2
      rw [this] at g2
      have k1 := eqb_iff.1 k.1
      subst k1
      exact ⟨b, o, _, g1, g2, by have := Nat.eq_of_beq_eq_true k.2; omega⟩
  · cases k

theorem Rel.reshape (h : Rel X L I s a w) {I' : Nat → Prop} (hI : ∀ b, I b → I' b) {N : Nat} {es : List En} {vs : List AV} {ds : List DV} {ts : List Tag} {us : List Value} (e : getVs s.o es vs = some (ds, ts)) (r : All2 (RA L I w (AL s.o)) vs us)
    (hl : ∀ b, I' b ↔ I b ∨ ∃ m ∈ ts.flatMap Tag.lent, (L m).ownBlock = some b)
    (hs : shapeOk N es = true) (ht : tagsOk ts = true) {Y : Ctx} (hK : Y.K = X.K) (hN : Y.N = N) {a' : Act} (ha : a'.defers = []) (hz : a'.tmps.size = N) (hu : ∀ (i : Nat) (e : En) (u : Value), es[i]? = some e → us[i]? = some u → a'.tmps.getD e.slot undef = u)
    (hown : ∀ t n ob b o, t ∈ ts → (∃ m, t.pair = [(m, n)]) → s.o n = some ob → fp L n ob b o → TagFp L t b o → b < Y.w0.heap.size → Y.E b o)
    (himm : ∀ b, I' b → Y.I0 b ∨ Y.w0.heap.size ≤ b ∨ ∀ o, Y.E b o) (hsub : ∀ b, Y.I0 b → I' b) (hstep : Step Y.E Y.w0 w)
    (hptr : ts.all Tag.stays = true ∨ ∀ i n k, En.ptr i n k ∉ es) :
    ∃ L', Rel Y L' I' (mkD es ds) a' w ∧ (ts.all Tag.stays = true → ∀ n, kept n = true → L' n = L n) ∧ (∀ t ∈ ts, TagAt L L' s t) := by
  unfold shapeOk at hs
  rw [Bool.and_eq_true, Bool.and_eq_true, nodupN_iff, List.all_eq_true, List.all_eq_true] at hs
  obtain ⟨hs1, hs2, hs3⟩ := hs
  unfold tagsOk at ht
  rw [Bool.and_eq_true, Bool.and_eq_true, nodupN_iff, apartN_iff] at ht
  obtain ⟨ht1, ht2, ht3⟩ := ht
  obtain ⟨lv, g, gv⟩ := getVs_sound h hI e r (fun m hm b hb => (hl b).2 (.inr ⟨m, hm, hb⟩))
  have hnd : (lv.map Prod.fst).Nodup := by rw [g.nm]; exact hs1
  have hL : ∀ p ∈ lv, lookL lv L p.1 = p.2 := lookL_mem hnd
  have same : ts.all Tag.stays = true → ∀ n, n ∉ es.flatMap En.new → lookL lv L n = L n := by
    intro hst n hn
    by_cases q : n ∈ lv.map Prod.fst
    · obtain ⟨p, hp, rfl⟩ := List.mem_map.1 q
      rcases g.st hst p hp with q1 | q1
      · exact absurd q1 hn
      · rw [hL p hp, q1]
    · exact lookL_not q
  have htg := g.tg _ hL
  have hpts : PtsAt L (lookL lv L) ts := pts_at ht3 htg
  have hlt : ∀ m ∈ ts.flatMap Tag.lent, ∃ e t xs, s.o m = some (.arr e t xs) := by
    intro m hm
    obtain ⟨t, h1, h2⟩ := List.mem_flatMap.1 hm
    have h3 := htg t h1
    cases t <;> simp only [Tag.lent, List.mem_singleton, List.not_mem_nil] at h2
    subst h2
    exact h3
  have hptr' : ∀ i n k, En.ptr i n k ∈ es → lookL lv L n = L n := by
    intro i n k hm
    rcases hptr with hst | hno
    · refine same hst n fun q => ?_
      have h5 := hs3 _ hm
      simp only [Bool.and_eq_true] at h5
      rw [memN_iff.2 q] at h5
      cases h5.2
    · exact absurd hm (hno i n k)
  refine ⟨lookL lv L, ⟨ha, by rw [hz, hN], fun i _ => ?_, fun i hi => ?_, fun n ob q => ?_, fun n m x y ex ey b o qx qy => ?_, fun n ob q b o qf => ?_, fun b hb => ⟨?_, himm b hb⟩, hsub, hstep, hK ▸ h.glob.1, fun b q => hI b (h.glob.2 b (hK ▸ q))⟩, fun hst n hn => same hst n fun q => ?_, htg⟩
  · rcases look_or (mkVs es ds) i with ⟨p, hp, rfl, h2⟩ | ⟨_, h2⟩
    · have h3 := gv (lookL lv L) (AL (mkD es ds).o) hL hpts hptr'
      obtain ⟨j, u, j1, j2, j3⟩ := h3.mem hp
      obtain ⟨en, e1, e2⟩ := mkVs_get j1
      show RA _ I' w _ (look (mkVs es ds) p.1) _
      rw [h2, e2, hu j en u e1 j2]
      exact j3
    · show RA _ I' w _ (look (mkVs es ds) i) _
      rw [h2]; trivial
  · show look (mkVs es ds) i = _
    rcases look_or (mkVs es ds) i with ⟨p, hp, rfl, h2⟩ | ⟨_, h2⟩
    · obtain ⟨en, e1, e2⟩ := mkVs_slots hp
      have h5 := hs3 _ e1
      simp only [Bool.and_eq_true] at h5
      have h6 : en.slot + 1 ≤ N := Nat.le_of_ble_eq_true h5.1
      omega
    · exact h2
  · exact g.ro _ _ hL hpts (n, ob) (lookO_mem q)
  · obtain ⟨t1, p0, n', ob', p1, p2, p3, _⟩ := g.fp _ hL _ (lookO_mem ex) b o qx
    obtain ⟨t2, q0, m', ob2, q1, q2, q3, _⟩ := g.fp _ hL _ (lookO_mem ey) b o qy
    obtain rfl := h.sep n' m' ob' ob2 p2 q2 b o p3 q3
    exact pair_uniq ht1 (List.mem_flatMap.2 ⟨t1, p0, by rw [p1]; exact List.mem_singleton.2 rfl⟩) (List.mem_flatMap.2 ⟨t2, q0, by rw [q1]; exact List.mem_singleton.2 rfl⟩)
  · obtain ⟨t1, p0, n', ob', p1, p2, p3, p4⟩ := g.fp _ hL _ (lookO_mem q) b o qf
    obtain ⟨h1, h2, h3⟩ := h.own n' ob' p2 b o p3
    have hex : n' ∈ (ts.flatMap Tag.pair).map Prod.snd := List.mem_map.2 ⟨(n, n'), List.mem_flatMap.2 ⟨t1, p0, by rw [p1]; exact List.mem_singleton.2 rfl⟩, rfl⟩
    refine ⟨h1, fun q2 => ?_, hown t1 n' ob' b o p0 ⟨_, p1⟩ p2 p3 p4⟩
    rcases (hl b).1 q2 with q2 | ⟨m, hm, hb⟩
    · exact h2 q2
    · obtain ⟨e', t', xs', em⟩ := hlt m hm
      obtain rfl := h.sep n' m ob' _ p2 em b o p3 hb
      exact ht2 n' hm hex
  · rcases (hl b).1 hb with hb | ⟨m, hm, hb⟩
    · exact (h.imm b hb).1
    · obtain ⟨e', t', xs', em⟩ := hlt m hm
      exact (h.own m _ em b 0 hb).1
  · have := hs2 n q
    rw [hn] at this
    cases this

theorem own_of_tag (h : Rel X L I s a w) : ∀ n ob b o, s.o n = some ob → fp L n ob b o → b < X.w0.heap.size → X.E b o := fun n ob b o e q => (h.own n ob e b o q).2.2

def Lent (L : Nm → Value) (I : Nat → Prop) (ts : List Tag) (b : Nat) : Prop := I b ∨ ∃ m ∈ ts.flatMap Tag.lent, (L m).ownBlock = some b

theorem lent_imm (h : Rel X L I s a w) {ts : List Tag} (hlt : ∀ m ∈ ts.flatMap Tag.lent, ∃ e t xs, s.o m = some (.arr e t xs)) : ∀ b, Lent L I ts b → X.I0 b ∨ X.w0.heap.size ≤ b ∨ ∀ o, X.E b o := by
  intro b hb
  rcases hb with hb | ⟨m, hm, hb⟩
  · exact (h.imm b hb).2
  · obtain ⟨e, t, xs, em⟩ := hlt m hm
    rcases Nat.lt_or_ge b X.w0.heap.size with q | q
    · exact .inr (.inr fun o => (h.own m _ em b o hb).2.2 q)
    · exact .inr (.inl q)

def IsArr (o : Nm → Option Ob) (m : Nm) : Prop := ∃ e t xs, o m = some (.arr e t xs)

theorem psGet_lent {o : Nm → Option Ob} {n : Nm} {p : PS} {c : CV} {d : DV} {tag : Tag} (e : psGet o n p c = some (d, tag)) : ∀ m ∈ tag.lent, IsArr o m := by
  cases p with
  | i t =>
    simp only [psGet] at e
    split at e
    · split at e
      · split at e
        · rename_i xs eo
          obtain ⟨rfl, rfl⟩ := Prod.mk.inj (Option.some.inj e)
          obtain ⟨q, em, _⟩ := getO_sound eo
          intro m hm
          obtain rfl := List.mem_singleton.1 hm
          exact ⟨_, _, _, em⟩
        · cases e
      · cases e
    · split at e
      · obtain ⟨rfl, rfl⟩ := Prod.mk.inj (Option.some.inj e); intro m hm; cases hm
      · cases e
  | o q t =>
    simp only [psGet] at e
    split at e
    · split at e
      · obtain ⟨rfl, rfl⟩ := Prod.mk.inj (Option.some.inj e); intro m hm; cases hm
      · cases e
    · obtain ⟨rfl, rfl⟩ := Prod.mk.inj (Option.some.inj e); intro m hm; cases hm
    · cases e
  | b q t =>
    simp only [psGet] at e
    split at e
    · split at e
      · obtain ⟨rfl, rfl⟩ := Prod.mk.inj (Option.some.inj e); intro m hm; cases hm
      · cases e
    · cases e
  | q m0 off =>
    simp only [psGet] at e
    split at e
    · obtain ⟨rfl, rfl⟩ := Prod.mk.inj (Option.some.inj e); intro m hm; cases hm
    · cases e
  | f g cs =>
    simp only [psGet] at e
    split at e
    · rename_i h' ds
      cases k : (Nat.beq g h' && Nat.beq cs.length ds.length) with
      | false => rw [k] at e; cases e
      | true => rw [k] at e; obtain ⟨rfl, rfl⟩ := Prod.mk.inj (Option.some.inj e); intro m hm; cases hm
    · cases e
  | e =>
    simp only [psGet] at e
    split at e
    · obtain ⟨rfl, rfl⟩ := Prod.mk.inj (Option.some.inj e); intro m hm; cases hm
    · obtain ⟨rfl, rfl⟩ := Prod.mk.inj (Option.some.inj e); intro m hm; cases hm
    · cases e
  | m kt vt ka =>
    simp only [psGet] at e
    split at e
    · split at e
      · obtain ⟨rfl, rfl⟩ := Prod.mk.inj (Option.some.inj e); intro m hm; cases hm
      · cases e
    · cases e

theorem psGets_lent {o : Nm → Option Ob} {nm : Nat → PS → Nm} : ∀ {ps : List PS} {cs : List CV} {k : Nat} {ds : List DV} {ts : List Tag}, psGets o nm k ps cs = some (ds, ts) → ∀ m ∈ ts.flatMap Tag.lent, IsArr o m
  | [], [], _, _, _, e => by obtain ⟨rfl, rfl⟩ := Prod.mk.inj (Option.some.inj e); intro m hm; cases hm
  | [], _ :: _, _, _, _, e => by cases e
  | _ :: _, [], _, _, _, e => by cases e
  | p :: ps, c :: cs, k, _, _, e => by
    simp only [psGets] at e
    split at e
    · rename_i d t ds ts e1 e2
      obtain ⟨rfl, rfl⟩ := Prod.mk.inj (Option.some.inj e)
      intro m hm
      rw [List.flatMap_cons] at hm
      rcases List.mem_append.1 hm with hm | hm
      · exact psGet_lent e1 m hm
      · exact psGets_lent e2 m hm
    · cases e

theorem enGet_lent {o : Nm → Option Ob} {en : En} {v : AV} {ds : List DV} {ts : List Tag} (e : enGet o en v = some (ds, ts)) : ∀ m ∈ ts.flatMap Tag.lent, IsArr o m := by
  have two : ∀ {q : Option (List DV × List Tag)} {k : Bool} {tag : Tag}, tag.lent = [] → (∀ ds ts, q = some (ds, ts) → ∀ m ∈ ts.flatMap Tag.lent, IsArr o m) →
      (bif k then (match q with | some (ds, ts) => some (ds, tag :: ts) | none => none) else none) = some (ds, ts) → ∀ m ∈ ts.flatMap Tag.lent, IsArr o m := by
    intro q k tag ht hq e
    cases k with
    | false => cases e
    | true =>
      rw [cond_true] at e
      cases q with
      | none => cases e
      | some p =>
        obtain ⟨ds', ts'⟩ := p
        obtain ⟨rfl, rfl⟩ := Prod.mk.inj (Option.some.inj e)
        intro m hm
        rw [List.flatMap_cons, ht] at hm
        exact hq _ _ rfl m hm
  cases en with
  | val i p =>
    cases v with
    | c x => exact psGets_lent e
    | g _ => cases e
    | tup _ => cases e
  | agg i ps =>
    cases v with
    | g cs => exact psGets_lent e
    | c _ => cases e
    | tup _ => cases e
  | box i n ps =>
    cases v with
    | c x =>
      cases x with
      | pb m off =>
        simp only [enGet] at e
        split at e
        · exact two (tag := .pb n m off ps.length) rfl (fun _ _ q => psGets_lent q) e
        · cases e
      | pa m sz k j =>
        simp only [enGet] at e
        split at e
        · exact two (tag := .pa n m k j ps.length) rfl (fun _ _ q => psGets_lent q) e
        · cases e
      | _ => cases e
    | g _ => cases e
    | tup _ => cases e
  | ptr i n off =>
    cases v with
    | c x =>
      cases x with
      | pb m k =>
        simp only [enGet] at e
        cases k2 : (Nm.eqb m n && Nat.beq k off) with
        | false => rw [k2] at e; cases e
        | true =>
          rw [k2] at e
          obtain ⟨rfl, rfl⟩ := Prod.mk.inj (Option.some.inj e)
          intro m hm; cases hm
      | _ => cases e
    | g _ => cases e
    | tup _ => cases e
  | nbox i n ps =>
    cases v with
    | c x =>
      cases x with
      | pb m off =>
        cases off with
        | succ _ => cases e
        | zero =>
        simp only [enGet] at e
        split at e
        · exact two (tag := .mx n m ps.length) rfl (fun _ _ q => psGets_lent q) e
        · cases e
      | _ => cases e
    | g _ => cases e
    | tup _ => cases e
  | hid n ps =>
    have e : (match o n with
      | some (.box cs) => bif Nat.beq ps.length cs.length && (Nat.blt 0 ps.length && noB ps) then (match psGets o (nmBox n) 0 ps cs with
        | some (ds, ts) => some (ds, Tag.pb n n 0 ps.length :: ts)
        | none => none) else none
      | _ => none) = some (ds, ts) := by cases v <;> exact e
    split at e
    · exact two (tag := .pb n n 0 ps.length) rfl (fun _ _ q => psGets_lent q) e
    · cases e

theorem getVs_lent {o : Nm → Option Ob} : ∀ {es : List En} {vs : List AV} {ds : List DV} {ts : List Tag}, getVs o es vs = some (ds, ts) → ∀ m ∈ ts.flatMap Tag.lent, IsArr o m
  | [], [], _, _, e => by obtain ⟨rfl, rfl⟩ := Prod.mk.inj (Option.some.inj e); intro m hm; cases hm
  | [], _ :: _, _, _, e => by cases e
  | _ :: _, [], _, _, e => by cases e
  | en :: es, v :: vs, _, _, e => by
    simp only [getVs] at e
    split at e
    · rename_i d t ds ts e1 e2
      obtain ⟨rfl, rfl⟩ := Prod.mk.inj (Option.some.inj e)
      intro m hm
      rw [List.flatMap_append] at hm
      rcases List.mem_append.1 hm with hm | hm
      · exact enGet_lent e1 m hm
      · exact getVs_lent e2 m hm
    · cases e

/-- The state at a loop's ends, or at a function's end, by its shape. -/
theorem shut_sound (h : Rel X L I s a w) {N : Nat} {es : List En} {vs : List AV} {us : List Value} {x : TD (entys es)} (e : shut N es vs s.o = some x) (r : All2 (RA L I w (AL s.o)) vs us) {a' : Act} (ha : a'.defers = []) (hz : a'.tmps.size = N)
    (hu : ∀ (i : Nat) (e : En) (u : Value), es[i]? = some e → us[i]? = some u → a'.tmps.getD e.slot undef = u) :
    ∃ L' I', Rel { X with N := N } L' I' (mkSt es x) a' w ∧ (∀ b, I b → I' b) ∧ ∀ n, kept n = true → L' n = L n := by
  unfold shut at e
  split at e
  · rename_i ds ts e1
    cases k : (shapeOk N es && (tagsOk ts && ts.all Tag.stays)) with
    | false => rw [k] at e; cases e
    | true =>
      rw [k] at e
      simp only [cond_true] at e
      rw [Bool.and_eq_true, Bool.and_eq_true] at k
      have hlt := getVs_lent e1
      obtain ⟨L', h1, h2, _⟩ := h.reshape (I' := Lent L I ts) (Y := { X with N := N }) (fun b q => Or.inl q) e1 r (fun _ => Iff.rfl) k.1 k.2.1 rfl rfl ha hz hu (fun _ n ob b o _ _ en q _ => (h.own n ob en b o q).2.2) (lent_imm h hlt) (fun b q => Or.inl (h.sub b q)) h.step (.inl k.2.2)
      refine ⟨L', Lent L I ts, ?_, fun b q => Or.inl q, h2 k.2.2⟩
      unfold mkSt
      rw [unpack_pack e]
      exact h1
  · cases e
end
end AM
end Go.Proofs.YtpcdcnmmkfhliaaGreatDoor
