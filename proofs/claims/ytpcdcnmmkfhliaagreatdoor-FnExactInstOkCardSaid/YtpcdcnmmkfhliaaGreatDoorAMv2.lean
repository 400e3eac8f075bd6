/- Regions whose order is drawn: all orders. Under: the callees obey their summaries. -/
import Derived.Test.YtpcdcnmmkfhliaaGreatDoorAMv
namespace Go.Proofs.YtpcdcnmmkfhliaaGreatDoor
namespace AM
open Go
set_option linter.unusedSimpArgs false
set_option linter.unusedVariables false

theorem memNat_iff {n : Nat} : ∀ {l : List Nat}, memNat n l = true ↔ n ∈ l
  | [] => by simp [memNat]
  | m :: r => by
    unfold memNat
    cases h : Nat.beq n m with
    | true => have := Nat.eq_of_beq_eq_true h; subst this; simp
    | false => have := Nat.ne_of_beq_eq_false h; simp [this, memNat_iff (l := r)]

theorem addNat_mem {n m : Nat} {l : List Nat} : m ∈ addNat n l ↔ m = n ∨ m ∈ l := by
  unfold addNat
  cases h : memNat n l with
  | true =>
    simp only [cond_true]
    exact ⟨.inr, fun q => q.elim (fun e => e ▸ memNat_iff.1 h) id⟩
  | false => simp

theorem addNats_mem {m : Nat} : ∀ {xs l : List Nat}, m ∈ addNats xs l ↔ m ∈ xs ∨ m ∈ l
  | [], l => by simp [addNats]
  | n :: r, l => by
    unfold addNats
    rw [addNats_mem (xs := r), addNat_mem, List.mem_cons]
    constructor
    · rintro (h | h | h)
      · exact .inl (.inr h)
      · exact .inl (.inl h)
      · exact .inr h
    · rintro ((h | h) | h)
      · exact .inr (.inl h)
      · exact .inl h
      · exact .inr (.inr h)

theorem reachOf_mem {acc : List (List Nat)} {i : Nat} : ∀ {as : List Nat}, i ∈ reachOf acc as → ∃ a ∈ as, i = a ∨ i ∈ acc.getD a []
  | [], h => by cases h
  | a :: r, h => by
    unfold reachOf at h
    rw [addNat_mem, addNats_mem] at h
    rcases h with h | h | h
    · exact ⟨a, List.mem_cons_self .., .inl h⟩
    · exact ⟨a, List.mem_cons_self .., .inr h⟩
    · obtain ⟨b, h1, h2⟩ := reachOf_mem h
      exact ⟨b, List.mem_cons_of_mem _ h1, h2⟩

def ReachOk (l0 : List Oper) (acc : List (List Nat)) : Prop :=
  ∀ j, j < acc.length → ∀ i ∈ acc.getD j [], ∃ o, l0[j]? = some o ∧ ∃ a ∈ afters o, i = a ∨ (a < j ∧ i ∈ acc.getD a [])

theorem reachs_ok {l0 : List Oper} : ∀ (l pre : List Oper) (acc : List (List Nat)), l0 = pre ++ l → acc.length = pre.length → ReachOk l0 acc → ReachOk l0 (reachs l acc)
  | [], pre, acc, _, _, h => h
  | o :: r, pre, acc, he, hl, h => by
    refine reachs_ok r (pre ++ [o]) (acc ++ [reachOf acc (afters o)]) (by simp [he]) (by simp [hl]) ?_
    intro j hj i hi
    have get : ∀ a, a < acc.length → (acc ++ [reachOf acc (afters o)]).getD a [] = acc.getD a [] := fun a ha => by
      rw [List.getD_eq_getElem?_getD, List.getD_eq_getElem?_getD, List.getElem?_append_left ha]
    rcases Nat.lt_or_ge j acc.length with q | q
    · rw [get j q] at hi
      obtain ⟨o', h1, a, h2, h3⟩ := h j q i hi
      refine ⟨o', h1, a, h2, h3.imp id fun ⟨h4, h5⟩ => ⟨h4, ?_⟩⟩
      rw [get a (by omega)]; exact h5
    · have hjj : j = acc.length := by simp at hj; omega
      subst hjj
      rw [List.getD_eq_getElem?_getD, List.getElem?_append_right (Nat.le_refl _)] at hi
      simp only [Nat.sub_self, List.getElem?_cons_zero, Option.getD_some] at hi
      obtain ⟨a, h1, h2⟩ := reachOf_mem hi
      refine ⟨o, by rw [he, hl]; simp, a, h1, h2.imp id fun h3 => ?_⟩
      have ha : a < acc.length := by
        rcases Nat.lt_or_ge a acc.length with z | z
        · exact z
        · rw [List.getD_eq_getElem?_getD, List.getElem?_eq_none z] at h3; cases h3
      exact ⟨ha, by rw [get a ha]; exact h3⟩

def Reach (l : List Oper) (i j : Nat) : Prop := i ∈ (reachs l []).getD j []

theorem reach_listed {l : List Oper} {D : Nat → Prop} (hD : ∀ j o, D j → l[j]? = some o → ∀ i ∈ afters o, D i) : ∀ (j : Nat) {i : Nat} {o : Oper}, l[j]? = some o → (∀ i ∈ afters o, D i) → Reach l i j → D i := by
  have ok : ReachOk l (reachs l []) := reachs_ok l [] [] rfl rfl (fun j hj => by simp at hj)
  intro j
  induction j using Nat.strongRecOn with
  | _ j ih =>
    intro i o ho ha hr
    have hj : j < (reachs l []).length := by
      rcases Nat.lt_or_ge j (reachs l []).length with z | z
      · exact z
      · unfold Reach at hr
        rw [List.getD_eq_getElem?_getD, List.getElem?_eq_none z] at hr; cases hr
    obtain ⟨o', h1, a, h2, h3⟩ := ok j hj i hr
    rw [ho] at h1
    obtain rfl := Option.some.inj h1
    rcases h3 with rfl | ⟨h3, h4⟩
    · exact ha i h2
    · have hda := ha a h2
      cases hoa : l[a]? with
      | none =>
        have hl : (reachs l []).length ≤ l.length + 0 := by
          have : ∀ (l : List Oper) (acc : List (List Nat)), (reachs l acc).length = acc.length + l.length := by
            intro l
            induction l with
            | nil => intro acc; simp [reachs]
            | cons x r ihl => intro acc; simp [reachs, ihl]; omega
          rw [this]; simp
        rw [List.getElem?_eq_none_iff] at hoa
        rw [List.getD_eq_getElem?_getD, List.getElem?_eq_none (by omega)] at h4; cases h4
      | some oa => exact ih a h3 hoa (hD a oa hda hoa) h4

section
variable {P : Program} {X : Ctx} {L : Nm → Value} {I : Nat → Prop} {s : St} {a : Act} {w : World} {R : Type}

theorem opsK_cons (E : Env) (all : List Oper) (o : Oper) (r : List Oper) (s : St) (k : St → Option R) : opsK E all (o :: r) s k = opsK E all [o] s (fun s' => opsK E all r s' k) := by
  simp only [opsK]

theorem opsK_float {E : Env} {all : List Oper} {o : Oper} {df : Nat} {v : AV} (hv : Still v) (h1 : df ∉ o.looksAt all.toArray) (h2 : ∀ d, o.dst = some d → d ≠ df) (k : St → Option R) :
    opsK E all [o] (s.put (some df) v) k = opsK E all [o] s (fun s' => k (s'.put (some df) v)) := by
  have hop : ∀ x ∈ o.op.operands, x ≠ .tmp df := fun x hx q => h1 (List.mem_append_left _ (List.mem_filterMap.2 ⟨.tmp df, by rw [← q]; simpa using hx, rfl⟩))
  have hp : ∀ s1 (u : AV), (St.put (some df) v s1).put o.dst u = (St.put o.dst u s1).put (some df) v := fun s1 u =>
    put_comm (s := s1) (fun e he q => h2 _ q (Option.some.inj he).symm)
  simp only [opsK]
  cases hg : o.guard with
  | none => exact opK_float hv hop h2 k
  | some gw =>
    obtain ⟨j, want⟩ := gw
    dsimp only
    cases ht : (all[j]?).bind (·.dst) with
    | none => rfl
    | some t =>
      dsimp only
      have htd : t ≠ df := fun q => h1 (List.mem_append_right _ (by
        rw [hg]
        have ht' : (all.toArray[j]?).bind (·.dst) = some t := by simpa using ht
        simp only [ht', q]
        simp))
      have hst : (s.put (some df) v).t t = s.t t := by
        show (bif Nat.beq t df then v else s.t t) = s.t t
        rw [beq_ne htd]; rfl
      rw [hst]
      have skip0 : (bif isGone (s.t t) && dstOk E.N o.dst then k ((s.put (some df) v).put o.dst gone) else none) = bif isGone (s.t t) && dstOk E.N o.dst then k ((s.put o.dst gone).put (some df) v) else none := by rw [hp]
      cases hb : isTmp (s.t t) with
      | none => exact skip0
      | some b =>
        dsimp only
        have hk1 : ∀ c, c = b → s.know (.tmp t) c = s := fun c q => by subst q; exact know_eq (c := .tmp t) hb
        have hk2 : ∀ c, c = b → (s.put (some df) v).know (.tmp t) c = s.put (some df) v := fun c q => by subst q; exact know_eq (c := .tmp t) (by rw [show (s.put (some df) v).ev (.tmp t) = s.t t from hst]; exact hb)
        have skip : (bif dstOk E.N o.dst then k ((s.put (some df) v).put o.dst gone) else none) = bif dstOk E.N o.dst then k ((s.put o.dst gone).put (some df) v) else none := by rw [hp]
        cases b with
        | true =>
          simp only [hk1 true rfl, hk2 true rfl]
          cases want with
          | true => exact opK_float hv hop h2 k
          | false => exact skip
        | false =>
          simp only [hk1 false rfl, hk2 false rfl]
          cases want with
          | false => exact opK_float hv hop h2 k
          | true => exact skip

theorem float_val {o : Oper} (h : isFloat o = true) : o.guard = none ∧ ∃ c, o.op = .assign (.const c) ∨ o.op = .move (.const c) := by
  unfold isFloat at h
  split at h
  · rename_i hg
    split at h
    · rename_i c hc; exact ⟨hg, c, .inl hc⟩
    · rename_i c hc; exact ⟨hg, c, .inr hc⟩
    · cases h
  · cases h

theorem opsP_float {E : Env} {all : List Oper} {o : Oper} {r : List Oper} (h : isFloat o = true) : ∃ v, Still v ∧ ∀ (s : St) (k : St → Option R), opsP E all (o :: r) s k = bif dstOk E.N o.dst then opsP E all r (s.put o.dst v) k else none := by
  obtain ⟨hg, c, hc⟩ := float_val h
  refine ⟨ofConst c, still_const c, fun s k => ?_⟩
  simp only [opsP]
  rw [hg]
  dsimp only
  congr 1
  unfold opPK
  rcases hc with hc | hc <;> rw [hc] <;> rfl

theorem float_over {E : Env} {all : List Oper} {o : Oper} {r : List Oper} {k : St → Option R} : ∀ {Rl : List Oper} {s : St}, (∀ x ∈ Rl, isFloat x = true ∧ x.apart all.toArray o = true) →
    opsP E all Rl s (fun s' => opsK E all (o :: r) s' k) = opsK E all [o] s (fun s1 => opsP E all Rl s1 (fun s' => opsK E all r s' k)) ∨ opsP E all Rl s (fun s' => opsK E all (o :: r) s' k) = none
  | [], s, _ => .inl (by simp only [opsP]; exact opsK_cons E all o r s k)
  | x :: Rl, s, h => by
    obtain ⟨h1, h2⟩ := h x (List.mem_cons_self ..)
    obtain ⟨g1, g2, g3⟩ := Oper.apart_spec h2
    obtain ⟨v, hv, e⟩ := opsP_float (R := R) (E := E) (all := all) (r := Rl) h1
    have e2 : ∀ s1, opsP E all (x :: Rl) s1 (fun s' => opsK E all r s' k) = bif dstOk E.N x.dst then opsP E all Rl (s1.put x.dst v) (fun s' => opsK E all r s' k) else none := fun s1 => e s1 _
    rw [e]
    simp only [e2]
    cases q : dstOk E.N x.dst with
    | false => exact .inr rfl
    | true =>
      simp only [cond_true]
      rcases float_over (E := E) (all := all) (o := o) (r := r) (k := k) (Rl := Rl) (s := s.put x.dst v) (fun y hy => h y (List.mem_cons_of_mem _ hy)) with q2 | q2
      · refine .inl (q2.trans ?_)
        cases hx : x.dst with
        | none => rfl
        | some df => exact opsK_float hv (fun z => g1 df hx z) (fun d hd z => g2 df hx (z ▸ hd)) _
      · exact .inr q2

theorem getD_true_set {listed : Array Bool} {i j : Nat} (h : i < listed.size) : (listed.setIfInBounds i true).getD j true = (if j = i then true else listed.getD j true) := by
  by_cases q : j = i
  · subst q; simp [h]
  · rw [getD_set_ne true (Ne.symm q), if_neg q]

theorem mem_afters {o : Oper} {i : Nat} : i ∈ afters o ↔ ∃ e ∈ o.after, Region.binds .any e = true ∧ e.on = i := by
  unfold afters
  rw [List.mem_filterMap]
  constructor
  · rintro ⟨e, h1, h2⟩
    refine ⟨e, by simpa using h1, ?_⟩
    cases q : Region.binds .any e with
    | false => rw [q] at h2; cases h2
    | true => rw [q] at h2; exact ⟨rfl, Option.some.inj h2⟩
  · rintro ⟨e, h1, h2, h3⟩
    exact ⟨e, by simpa using h1, by rw [h2, h3]; rfl⟩

theorem pairsOk_iff {R : Nat → Nat → Bool} : ∀ {l : List Nat}, pairsOk R l = true → l.Pairwise (fun x y => R x y = true)
  | [], _ => List.Pairwise.nil
  | x :: r, h => by
    unfold pairsOk at h
    rw [Bool.and_eq_true, List.all_eq_true] at h
    exact List.pairwise_cons.2 ⟨h.1, pairsOk_iff h.2⟩

/-- Which operations are left, and how they stand to each other. -/
structure Left (l : List Oper) (RP TP : List Nat) (listed : Array Bool) : Prop where
  sz : listed.size = l.length
  ltP : ∀ i ∈ RP, i < l.length
  ltT : ∀ i ∈ TP, i < l.length
  nd : (RP ++ TP).Nodup
  un : ∀ i, i < l.length → (listed.getD i true = false ↔ i ∈ RP ∨ i ∈ TP)
  cl : ∀ j o, listed.getD j false = true → l[j]? = some o → ∀ i ∈ afters o, listed.getD i false = true
  aft : ∀ j o, l[j]? = some o → ∀ i ∈ afters o, i < j
  pp : RP.Pairwise (fun x y => Reach l x y ∨ apartAt l x y = true)
  tt : TP.Pairwise (Reach l)
  pt : ∀ x ∈ RP, ∀ y ∈ TP, Reach l x y ∨ (floatAt l x = true ∧ apartAt l x y = true)

theorem Left.unl {l : List Oper} {RP TP : List Nat} {listed : Array Bool} (h : Left l RP TP listed) {i : Nat} (hi : i ∈ RP ∨ i ∈ TP) : listed.getD i false = false := by
  have hl : i < l.length := hi.elim (h.ltP i) (h.ltT i)
  have q := (h.un i hl).2 hi
  have hs := h.sz
  rw [Array.getD_eq_getD_getElem?] at q ⊢
  rw [Array.getElem?_eq_getElem (by omega)] at q ⊢
  exact q

theorem Left.lis {l : List Oper} {RP TP : List Nat} {listed : Array Bool} (h : Left l RP TP listed) {i : Nat} (hl : i < l.length) (hi : ¬ (i ∈ RP ∨ i ∈ TP)) : listed.getD i false = true := by
  have hs := h.sz
  have q : listed.getD i true ≠ false := fun z => hi ((h.un i hl).1 z)
  rw [Array.getD_eq_getD_getElem?] at q ⊢
  rw [Array.getElem?_eq_getElem (by omega)] at q ⊢
  simpa using q

/-- Some operation that is left may come next. -/
theorem Left.next {l : List Oper} {RP TP : List Nat} {listed : Array Bool} (h : Left l RP TP listed) : ∀ i, i ∈ RP ∨ i ∈ TP → ∃ j, j ∈ Region.ready .any l.toArray listed := by
  intro i
  induction i using Nat.strongRecOn with
  | _ i ih =>
    intro hi
    have hl : i < l.length := hi.elim (h.ltP i) (h.ltT i)
    have ho : l[i]? = some l[i] := List.getElem?_eq_getElem hl
    by_cases q : ∀ a ∈ afters l[i], listed.getD a false = true
    · refine ⟨i, mem_ready.2 ⟨(h.un i hl).2 hi, l[i], by simp [hl], fun ed he hb => q ed.on (mem_afters.2 ⟨ed, he, hb, rfl⟩)⟩⟩
    · have : ∃ a, a ∈ afters l[i] ∧ listed.getD a false ≠ true := by
        refine Classical.byContradiction fun z => q fun a ha => Classical.byContradiction fun z2 => z ⟨a, ha, z2⟩
      obtain ⟨a, h1, h2⟩ := this
      have ha := h.aft i _ ho a h1
      refine ih a ha (Classical.byContradiction fun z => h2 (h.lis (by omega) z))

theorem Left.ready {l : List Oper} {RP TP : List Nat} {listed : Array Bool} (h : Left l RP TP listed) {i : Nat} (hi : i ∈ Region.ready .any l.toArray listed) :
    i < l.length ∧ (i ∈ RP ∨ i ∈ TP) ∧ (∀ o, l[i]? = some o → ∀ a ∈ afters o, listed.getD a false = true) ∧ ∀ x, x ∈ RP ∨ x ∈ TP → ¬ Reach l x i := by
  obtain ⟨h0, o, ho, hall⟩ := mem_ready.1 hi
  have hil : i < l.length := by
    rcases Nat.lt_or_ge i l.length with q | q
    · exact q
    · rw [Array.getElem?_eq_none (by simpa using q)] at ho; cases ho
  have hol : l[i]? = some o := by simpa using ho
  have hA : ∀ a ∈ afters o, listed.getD a false = true := fun a ha => by
    obtain ⟨e, h1, h2, rfl⟩ := mem_afters.1 ha
    exact hall e h1 h2
  refine ⟨hil, (h.un i hil).1 h0, fun o' ho' => by rw [hol] at ho'; obtain rfl := Option.some.inj ho'; exact hA, fun x hx hr => ?_⟩
  have := reach_listed (D := fun j => listed.getD j false = true) (fun j o hj ho => h.cl j o hj ho) i hol hA hr
  rw [h.unl hx] at this
  cases this

theorem Left.rest {l : List Oper} {RP TP RP' TP' : List Nat} {listed : Array Bool} (h : Left l RP TP listed) {i : Nat} (hi : i ∈ Region.ready .any l.toArray listed)
    (h1 : RP'.Sublist RP) (h2 : TP'.Sublist TP) (hm : ∀ x, x ∈ RP' ∨ x ∈ TP' ↔ (x ∈ RP ∨ x ∈ TP) ∧ x ≠ i) : Left l RP' TP' (listed.setIfInBounds i true) := by
  obtain ⟨g1, g2, g3, _⟩ := h.ready hi
  have hs := h.sz
  refine ⟨by simpa using h.sz, fun x hx => h.ltP x (h1.subset hx), fun x hx => h.ltT x (h2.subset hx), h.nd.sublist (h1.append h2), fun x hx => ?_, fun j o hj ho a ha => ?_, h.aft, h.pp.sublist h1, h.tt.sublist h2,
    fun x hx y hy => h.pt x (h1.subset hx) y (h2.subset hy)⟩
  · rw [getD_true_set (by omega), hm x]
    by_cases q : x = i
    · simp [q]
    · rw [if_neg q, h.un x hx]; simp [q]
  · refine getD_set_true ?_
    by_cases q : i = j
    · subst q; exact g3 o ho a ha
    · rw [getD_set_ne false q] at hj; exact h.cl j o hj ho a ha

theorem apartAt_spec {l : List Oper} {i j : Nat} {x y : Oper} (h : apartAt l i j = true) (hx : l[i]? = some x) (hy : l[j]? = some y) : x.apart l.toArray y = true := by
  unfold apartAt at h
  rw [hx, hy] at h
  exact h

theorem filterMap_mid {l : List Oper} {A B : List Nat} {i : Nat} {o : Oper} (h : l[i]? = some o) : (A ++ i :: B).filterMap (fun i => l[i]?) = A.filterMap (fun i => l[i]?) ++ o :: B.filterMap (fun i => l[i]?) := by
  rw [List.filterMap_append, List.filterMap_cons, h]

/-- All orders: the plain ones that are left, then the tail. -/
theorem draw_any {E : Env} (hE : EnvOk P X.K E) (hN : E.N = X.N) {l : List Oper} {k : St → Option R} {y : R} {Q : Exit → Act → World → Prop} (hQ : ∀ a w, Post X L k y a w → Q .normal a w) :
    ∀ (n : Nat) (RP TP : List Nat) (listed : Array Bool) {L1 : Nm → Value} {I : Nat → Prop} {s : St} {a : Act} {w : World}, n = RP.length + TP.length → Left l RP TP listed → Rel X L1 I s a w → (∀ n, kept n = true → L1 n = L n) →
      opsP E l (RP.filterMap fun i => l[i]?) s (fun s' => opsK E l (TP.filterMap fun i => l[i]?) s' k) = some y → wpAny P .any l.toArray Q n listed a w := by
  intro n
  induction n with
  | zero =>
    intro RP TP listed L1 I s a w hn hl h hk e
    obtain rfl : RP = [] := List.eq_nil_of_length_eq_zero (by omega)
    obtain rfl : TP = [] := List.eq_nil_of_length_eq_zero (by omega)
    refine ⟨?_, hQ _ _ ⟨s, L1, I, h, hk, e⟩⟩
    rcases hr : Region.ready .any l.toArray listed with _ | ⟨i, r⟩
    · rfl
    · obtain ⟨_, g, _⟩ := hl.ready (show i ∈ Region.ready .any l.toArray listed by rw [hr]; exact List.mem_cons_self ..)
      rcases g with g | g <;> cases g
  | succ n ih =>
    intro RP TP listed L1 I s a w hn hl h hk e
    refine ⟨fun hr => ?_, fun i hi => ?_⟩
    · have : ∃ i, i ∈ RP ∨ i ∈ TP := by
        cases RP with
        | cons x r => exact ⟨x, .inl (List.mem_cons_self ..)⟩
        | nil =>
          cases TP with
          | cons x r => exact ⟨x, .inr (List.mem_cons_self ..)⟩
          | nil => simp at hn
      obtain ⟨i, hi⟩ := this
      obtain ⟨j, hj⟩ := hl.next i hi
      rw [hr] at hj; cases hj
    obtain ⟨hil, hmem, hA, hno⟩ := hl.ready hi
    have hol : l[i]? = some l[i] := List.getElem?_eq_getElem hil
    generalize l[i] = o at hol
    have step : ∀ {K : Act → World → Prop}, (if Region.wanted o (yielded l.toArray a.tmps) then o.wp P a w K Q else K (a.put o.dst undef) w) → wpOp P l.toArray Q i K a w := by
      intro K q
      have ho : l.toArray[i]? = some o := by simpa using hol
      unfold wpOp
      simp only [ho]
      split
      · rename_i hw; rw [if_pos hw] at q; exact .inl q
      · rename_i hw; rw [if_neg hw] at q; exact q
    have mono : ∀ {K K' : Act → World → Prop}, (∀ a w, K a w → K' a w) → (if Region.wanted o (yielded l.toArray a.tmps) then o.wp P a w K Q else K (a.put o.dst undef) w) → (if Region.wanted o (yielded l.toArray a.tmps) then o.wp P a w K' Q else K' (a.put o.dst undef) w) := by
      intro K K' hK q
      split
      · rename_i hw; rw [if_pos hw] at q; exact Oper.wp_mono hK q
      · rename_i hw; rw [if_neg hw] at q; exact hK _ _ q
    have hnd := List.nodup_append.1 hl.nd
    rcases hmem with hiR | hiT
    · -- a plain one
      obtain ⟨A, B, rfl⟩ := List.append_of_mem hiR
      rw [filterMap_mid hol] at e
      have hpA := List.pairwise_append.1 hl.pp
      obtain ⟨g1, v, g2, g3⟩ := bubble e (fun oi hoi => by
        obtain ⟨i', h1, h2⟩ := List.mem_filterMap.1 hoi
        rcases hpA.2.2 i' h1 i (List.mem_cons_self ..) with q | q
        · exact absurd q (hno i' (.inl (List.mem_append_left _ h1)))
        · exact apartAt_spec q h2 hol)
      have hnR := List.nodup_append.1 hnd.1
      have hAi : i ∉ A := fun q => hnR.2.2 i q i (List.mem_cons_self ..) rfl
      have hBi : i ∉ B := (List.nodup_cons.1 hnR.2.1).1
      have hTi : i ∉ TP := fun q => hnd.2.2 i hiR i q rfl
      refine step (mono (fun a' w' hp' => ?_) (valP_step h hE hN g1 g2 Q))
      obtain ⟨s', L', I', r1, r2, r3⟩ := hp'
      obtain rfl := Option.some.inj r3
      refine ih (A ++ B) TP (listed.setIfInBounds i true) (by simp at hn ⊢; omega) (hl.rest hi (List.Sublist.append (List.Sublist.refl _) (List.sublist_cons_self ..)) (List.Sublist.refl _) fun x => ?_) r1 (fun n hn => (r2 n hn).trans (hk n hn)) (by rw [List.filterMap_append]; exact g3)
      simp only [List.mem_append, List.mem_cons]
      constructor
      · rintro ((q | q) | q)
        · exact ⟨.inl (.inl q), fun z => hAi (z ▸ q)⟩
        · exact ⟨.inl (.inr (.inr q)), fun z => hBi (z ▸ q)⟩
        · exact ⟨.inr q, fun z => hTi (z ▸ q)⟩
      · rintro ⟨(q | q | q) | q, z⟩
        · exact .inl (.inl q)
        · exact absurd q z
        · exact .inl (.inr q)
        · exact .inr q
    · -- one of the tail
      obtain ⟨A, B, rfl⟩ := List.append_of_mem hiT
      have hA0 : A = [] := by
        cases A with
        | nil => rfl
        | cons x A =>
          refine absurd ((List.pairwise_append.1 hl.tt).2.2 x (List.mem_cons_self ..) i (List.mem_cons_self ..)) (hno x (.inr (List.mem_append_left _ (List.mem_cons_self ..))))
      subst hA0
      have hfl : ∀ x ∈ RP.filterMap (fun i => l[i]?), isFloat x = true ∧ x.apart l.toArray o = true := by
        intro x hx
        obtain ⟨i', h1, h2⟩ := List.mem_filterMap.1 hx
        rcases hl.pt i' h1 i (List.mem_cons_self ..) with q | ⟨q1, q2⟩
        · exact absurd q (hno i' (.inl h1))
        · refine ⟨?_, apartAt_spec q2 h2 hol⟩
          unfold floatAt at q1
          rw [h2] at q1
          exact q1
      have e : opsP E l (RP.filterMap fun i => l[i]?) s (fun s' => opsK E l (o :: B.filterMap fun i => l[i]?) s' k) = some y := by
        rw [List.nil_append, List.filterMap_cons, hol] at e
        exact e
      have e2 : opsK E l [o] s (fun s1 => opsP E l (RP.filterMap fun i => l[i]?) s1 (fun s' => opsK E l (B.filterMap fun i => l[i]?) s' k)) = some y := by
        rcases float_over (E := E) (all := l) (o := o) (r := B.filterMap fun i => l[i]?) (k := k) hfl with q | q
        · rw [← q]; exact e
        · rw [q] at e; cases e
      refine step (mono (fun a' w' hp' => ?_) (opsK_one h hE hN e2 Q))
      obtain ⟨s', L', I', r1, r2, r3⟩ := hp'
      have r3 : opsP E l (RP.filterMap fun i => l[i]?) s' (fun s' => opsK E l (B.filterMap fun i => l[i]?) s' k) = some y := r3
      have hBi : i ∉ B := (List.nodup_cons.1 hnd.2.1).1
      have hRi : i ∉ RP := fun q => hnd.2.2 i q i (List.mem_cons_self ..) rfl
      refine ih RP B (listed.setIfInBounds i true) (by simp at hn ⊢; omega) (hl.rest hi (List.Sublist.refl _) (List.sublist_cons_self ..) fun x => ?_) r1 (fun n hn => (r2 n hn).trans (hk n hn)) r3
      simp only [List.nil_append, List.mem_cons]
      constructor
      · rintro (q | q)
        · exact ⟨.inl q, fun z => hRi (z ▸ q)⟩
        · exact ⟨.inr (.inr q), fun z => hBi (z ▸ q)⟩
      · rintro ⟨q | q | q, z⟩
        · exact .inl q
        · exact absurd q z
        · exact .inr q

theorem reachB {l : List Oper} {i j : Nat} (h : memNat i ((reachs l []).getD j []) = true) : Reach l i j := memNat_iff.1 h

theorem left_start {l : List Oper} {m : Nat} (hm : m ≤ l.length) (h : drawOk l m = true) : Left l (plainIdx l m) (tailIdx l m) (Array.replicate l.length false) ∧ (plainIdx l m).length + (tailIdx l m).length = l.length := by
  unfold drawOk at h
  simp only [Bool.and_eq_true] at h
  obtain ⟨h1, h2, h3, h4⟩ := h
  have memP : ∀ i, i ∈ plainIdx l m → i < l.length := by
    intro i hi
    unfold plainIdx at hi
    rcases List.mem_append.1 hi with q | q
    · have := List.mem_range.1 q; omega
    · obtain ⟨x, hx, rfl⟩ := List.mem_map.1 (List.mem_filter.1 q).1
      have := List.mem_range.1 hx; omega
  have memT : ∀ i, i ∈ tailIdx l m → i < l.length := by
    intro i hi
    unfold tailIdx at hi
    obtain ⟨x, hx, rfl⟩ := List.mem_map.1 (List.mem_filter.1 hi).1
    have := List.mem_range.1 hx; omega
  have all : ∀ i, i < l.length → i ∈ plainIdx l m ∨ i ∈ tailIdx l m := by
    intro i hi
    unfold plainIdx tailIdx
    rcases Nat.lt_or_ge i m with q | q
    · exact .inl (List.mem_append_left _ (List.mem_range.2 q))
    · have hx : i ∈ (List.range (l.length - m)).map (· + m) := List.mem_map.2 ⟨i - m, List.mem_range.2 (by omega), by show i - m + m = i; omega⟩
      cases qf : floatAt l i with
      | true => exact .inl (List.mem_append_right _ (List.mem_filter.2 ⟨hx, qf⟩))
      | false => exact .inr (List.mem_filter.2 ⟨hx, by simp [qf]⟩)
  have ndr : ((List.range (l.length - m)).map (· + m)).Nodup := by
    refine List.Pairwise.map _ (fun a b hab => ?_) List.nodup_range
    show a + m ≠ b + m
    omega
  refine ⟨⟨by simp, memP, memT, ?_, fun i hi => ?_, fun j o hj _ => ?_, fun j o hj a ha => ?_, ?_, ?_, fun x hx y hy => ?_⟩, ?_⟩
  · refine List.nodup_append.2 ⟨?_, ndr.sublist (List.filter_sublist ..), fun a ha b hb hab => ?_⟩
    · refine List.nodup_append.2 ⟨List.nodup_range, ndr.sublist (List.filter_sublist ..), fun a ha b hb hab => ?_⟩
      subst hab
      obtain ⟨x, hx, rfl⟩ := List.mem_map.1 (List.mem_filter.1 hb).1
      have := List.mem_range.1 ha
      omega
    · subst hab
      have h5 := List.mem_filter.1 hb
      rcases List.mem_append.1 ha with q | q
      · obtain ⟨x, hx, rfl⟩ := List.mem_map.1 h5.1
        have := List.mem_range.1 q
        omega
      · have := (List.mem_filter.1 q).2
        rw [this] at h5
        simp at h5
  · simp [hi, all i hi]
  · exfalso
    rw [Array.getD_eq_getD_getElem?] at hj
    rcases Nat.lt_or_ge j l.length with q | q
    · rw [Array.getElem?_eq_getElem (by simpa using q)] at hj; simp at hj
    · rw [Array.getElem?_eq_none (by simpa using q)] at hj; cases hj
  · rw [List.all_eq_true] at h1
    have hl : j < l.length := by
      rcases Nat.lt_or_ge j l.length with q | q
      · exact q
      · rw [List.getElem?_eq_none q] at hj; cases hj
    have := h1 j (List.mem_range.2 hl)
    rw [hj] at this
    simp only [List.all_eq_true] at this
    exact Nat.le_of_ble_eq_true (this a ha)
  · refine (pairsOk_iff h2).imp fun {x y} q => ?_
    rw [Bool.or_eq_true] at q
    exact q.imp reachB id
  · exact (pairsOk_iff h3).imp fun {x y} q => reachB q
  · rw [List.all_eq_true] at h4
    have := h4 x hx
    rw [List.all_eq_true] at this
    have := this y hy
    rw [Bool.or_eq_true, Bool.and_eq_true] at this
    exact this.imp reachB id
  · unfold plainIdx tailIdx
    have : ∀ (p : Nat → Bool) (xs : List Nat), (xs.filter p).length + (xs.filter (fun i => !p i)).length = xs.length := by
      intro p xs
      induction xs with
      | nil => rfl
      | cons x xs ih =>
        cases q : p x <;> simp [List.filter_cons, q] <;> omega
    have h6 := this (floatAt l) ((List.range (l.length - m)).map (· + m))
    rw [List.length_map, List.length_range] at h6
    rw [List.length_append, List.length_range]
    omega

theorem plains_le (E : Env) : ∀ l : List Oper, plains E l ≤ l.length
  | [] => Nat.le_refl _
  | o :: r => by
    unfold plains
    cases plainOp E o with
    | true => simpa using plains_le E r
    | false => simp
end
end AM
end Go.Proofs.YtpcdcnmmkfhliaaGreatDoor
