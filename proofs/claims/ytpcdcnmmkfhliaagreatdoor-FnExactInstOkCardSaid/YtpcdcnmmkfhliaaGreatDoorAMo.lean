/- A state is read by a shape, and laid anew by it. No condition. -/
import Derived.Test.YtpcdcnmmkfhliaaGreatDoorAMn
namespace Go.Proofs.YtpcdcnmmkfhliaaGreatDoor
namespace AM
open Go
set_option linter.unusedSimpArgs false
set_option linter.unusedVariables false

theorem memN_iff {n : Nm} : ∀ {l : List Nm}, memN n l = true ↔ n ∈ l
  | [] => by simp [memN]
  | m :: r => by
    unfold memN
    cases h : Nm.eqb n m with
    | true => have := eqb_iff.1 h; subst this; simp
    | false => have := eqb_false.1 h; simp [this, memN_iff (l := r)]

theorem nodupN_iff : ∀ {l : List Nm}, nodupN l = true ↔ l.Nodup
  | [] => by simp [nodupN]
  | n :: r => by
    unfold nodupN
    rw [Bool.and_eq_true, Bool.not_eq_true', List.nodup_cons, nodupN_iff (l := r), ← Bool.not_eq_true, memN_iff]

theorem apartN_iff {xs ys : List Nm} : apartN xs ys = true ↔ ∀ n ∈ xs, n ∉ ys := by
  unfold apartN
  rw [List.all_eq_true]
  constructor
  · intro h n hn q
    have := h n hn
    rw [memN_iff.2 q] at this
    cases this
  · intro h n hn
    have := h n hn
    cases q : memN n ys with
    | true => exact absurd (memN_iff.1 q) this
    | false => rfl

theorem as_cast {t : Ty} {d : DV} {x : t.den} (h : d.as t = some x) : d = ⟨t, x⟩ := by
  unfold DV.as at h
  split at h
  · rename_i q e
    obtain rfl := Option.some.inj h
    cases d
    dsimp only at q
    subst q
    rfl
  · cases h

theorem as_self {t : Ty} (x : t.den) : (DV.mk t x).as t = some x := by
  unfold DV.as
  have : Ty.same t t = some ⟨rfl⟩ := by
    induction t with
    | int k => simp [Ty.same]
    | bool => rfl
    | str => rfl
    | sl t ih => simp only [Ty.same]; rw [ih (Ty.zero t)]
    | pr a b iha ihb => simp only [Ty.same]; rw [iha (Ty.zero a), ihb (Ty.zero b)]
  rw [this]
  rfl

theorem unpack_pack : ∀ {ts : List Ty} {ds : List DV} {x : TD ts}, pack ts ds = some x → unpack ts x = ds
  | [], [], _, _ => rfl
  | [], _ :: _, _, h => by cases h
  | [t], [], _, h => by cases h
  | [t], [d], x, h => by
    have := as_cast (show d.as t = some x from h)
    subst this; rfl
  | [t], _ :: _ :: _, _, h => by cases h
  | t :: u :: r, [], _, h => by cases h
  | t :: u :: r, d :: ds, x, h => by
    simp only [pack] at h
    split at h
    · rename_i y z e1 e2
      obtain rfl := Option.some.inj h
      rw [as_cast e1]
      show _ :: unpack (u :: r) z = _
      rw [unpack_pack e2]
    · cases h

section
variable {X : Ctx} {L : Nm → Value} {I : Nat → Prop} {s : St} {a : Act} {w : World}

theorem getO_sound {o : Nm → Option Ob} {e : Option Nat} {t : Ty} {n : Nm} {xs : List t.den} (h : getO o e t n = some xs) : ∃ q, o n = some (.arr q t xs) ∧ ∀ p, e = some p → q = p := by
  unfold getO at h
  split at h
  · rename_i q u ys en
    cases k : eqOpt q e with
    | false => rw [k] at h; cases h
    | true =>
      rw [k] at h
      simp only [cond_true] at h
      split at h
      · rename_i hu eu
        obtain rfl := Option.some.inj h
        subst hu
        refine ⟨q, en, fun p hp => ?_⟩
        subst hp
        exact Nat.eq_of_beq_eq_true k
      · cases h
  · cases h

/-- Where the things stand that are lent to be written. -/
def TagAt (L L' : Nm → Value) (s : St) : Tag → Prop
  | .ln n => ∃ e t xs, s.o n = some (.arr e t xs)
  | .bw new n => L' new = L n
  | .pb new n off len => ∃ b o cs, s.o n = some (.box cs) ∧ off + len ≤ cs.length ∧ 0 < len ∧ L n = .pointer (some ⟨b, o, none⟩) ∧ L' new = .pointer (some ⟨b, o + off, none⟩)
  | .pa new n i j len => ∃ b e t xs l c, s.o n = some (.arr e t xs) ∧ j + len ≤ t.sz ∧ 0 < len ∧ i < List.length xs ∧ L n = .slice (some ⟨b, 0, none⟩) l c ∧ L' new = .pointer (some ⟨b, i * t.sz + j, none⟩)
  | .mx new n len => ∃ b o cs, s.o n = some (.box cs) ∧ 0 + len ≤ cs.length ∧ 0 < len ∧ L n = .pointer (some ⟨b, o, none⟩) ∧ L' new = .pointer (some ⟨b, o + 0, none⟩)
  | _ => True

/-- Where the pointers lead that stand in cells. -/
def PtAt (L L' : Nm → Value) (p : (Nm × Nat) × (Nm × Nat)) : Prop := ∃ b o o', L p.2.1 = .pointer (some ⟨b, o, none⟩) ∧ L' p.1.1 = .pointer (some ⟨b, o', none⟩) ∧ o + p.2.2 = o' + p.1.2
def PtsAt (L L' : Nm → Value) (ts : List Tag) : Prop := ∀ t ∈ ts, ∀ p ∈ t.pts, PtAt L L' p

theorem caps_pt {L L' : Nm → Value} : ∀ {cs ds : List (Nm × Nat)} {us : List Value}, cs.length = ds.length → (∀ p ∈ cs.zip ds, PtAt L L' p) → Caps L ds us → Caps L' cs us
  | [], [], us, _, _, h => by
    cases us with
    | nil => trivial
    | cons _ _ => exact h.elim
  | c :: cs, d :: ds, us, hl, hp, h => by
    cases us with
    | nil => exact h.elim
    | cons u us =>
      obtain ⟨⟨b, o, h1, h2⟩, h3⟩ := h
      obtain ⟨b', o1, o2, g1, g2, g3⟩ := hp (c, d) (List.mem_cons_self ..)
      rw [h1] at g1
      injection g1 with g1; injection g1 with g1; injection g1 with g1 g1' _
      subst g1; subst g1'
      exact ⟨⟨_, _, g2, by rw [h2]; exact congrArg (fun z => Value.pointer (some ⟨b, z, none⟩)) g3⟩, caps_pt (by simpa using hl) (fun p hp' => hp p (List.mem_cons_of_mem _ hp')) h3⟩
  | [], _ :: _, _, hl, _, _ => by cases hl
  | _ :: _, [], _, hl, _, _ => by cases hl

/-- The cells that are lent. -/
def TagFp (L : Nm → Value) : Tag → Nat → Nat → Prop
  | .mv _ n, b, _ => (L n).ownBlock = some b
  | .bw _ n, b, _ => (L n).ownBlock = some b
  | .pb _ n off len, b, o => ∃ o0, L n = .pointer (some ⟨b, o0, none⟩) ∧ o0 + off ≤ o ∧ o < o0 + off + len
  | .pa _ n _ _ _, b, _ => (L n).ownBlock = some b
  | .mm _ n, b, _ => L n = .map (some b)
  | .mx _ n len, b, o => ∃ o0, L n = .pointer (some ⟨b, o0, none⟩) ∧ o0 + 0 ≤ o ∧ o < o0 + 0 + len
  | _, _, _ => False

/-- What has been read off a state: the names and headers of the objects that it is of. -/
structure Got (L : Nm → Value) (s : St) (w : World) (I' : Nat → Prop) (names new : List Nm) (lv : List (Nm × Value)) (os : List (Nm × Ob)) (ts : List Tag) : Prop where
  nm : lv.map Prod.fst = names
  om : os.map Prod.fst = names
  ro : ∀ L' A', (∀ p ∈ lv, L' p.1 = p.2) → PtsAt L L' ts → ∀ q ∈ os, RO L' I' w A' q.1 q.2
  fp : ∀ L', (∀ p ∈ lv, L' p.1 = p.2) → ∀ q ∈ os, ∀ b o, AM.fp L' q.1 q.2 b o → ∃ t ∈ ts, ∃ n ob, t.pair = [(q.1, n)] ∧ s.o n = some ob ∧ AM.fp L n ob b o ∧ TagFp L t b o
  st : ts.all Tag.stays = true → ∀ p ∈ lv, p.1 ∈ new ∨ p.2 = L p.1
  tg : ∀ L', (∀ p ∈ lv, L' p.1 = p.2) → ∀ t ∈ ts, TagAt L L' s t

theorem Got.nil {I' : Nat → Prop} : Got L s w I' [] [] [] [] [] :=
  ⟨rfl, rfl, fun _ _ _ _ _ h => (by cases h), fun _ _ _ h => (by cases h), fun _ _ h => (by cases h), fun _ _ _ h => (by cases h)⟩

theorem Got.append {I' : Nat → Prop} {n1 n2 w1 w2 : List Nm} {l1 l2 : List (Nm × Value)} {o1 o2 : List (Nm × Ob)} {t1 t2 : List Tag} (h : Got L s w I' n1 w1 l1 o1 t1) (g : Got L s w I' n2 w2 l2 o2 t2) :
    Got L s w I' (n1 ++ n2) (w1 ++ w2) (l1 ++ l2) (o1 ++ o2) (t1 ++ t2) := by
  refine ⟨by rw [List.map_append, h.nm, g.nm], by rw [List.map_append, h.om, g.om], fun L' A' hL hpt q hq => ?_, fun L' hL q hq b o hb => ?_, fun ht p hp => ?_, fun L' hL t ht => ?_⟩
  · rcases List.mem_append.1 hq with hq | hq
    · exact h.ro L' A' (fun p hp => hL p (List.mem_append_left _ hp)) (fun t ht => hpt t (List.mem_append_left _ ht)) q hq
    · exact g.ro L' A' (fun p hp => hL p (List.mem_append_right _ hp)) (fun t ht => hpt t (List.mem_append_right _ ht)) q hq
  · rcases List.mem_append.1 hq with hq | hq
    · obtain ⟨t, e1, e2⟩ := h.fp L' (fun p hp => hL p (List.mem_append_left _ hp)) q hq b o hb
      exact ⟨t, List.mem_append_left _ e1, e2⟩
    · obtain ⟨t, e1, e2⟩ := g.fp L' (fun p hp => hL p (List.mem_append_right _ hp)) q hq b o hb
      exact ⟨t, List.mem_append_right _ e1, e2⟩
  · rw [List.all_append, Bool.and_eq_true] at ht
    rcases List.mem_append.1 hp with hp | hp
    · exact (h.st ht.1 p hp).imp (List.mem_append_left _) id
    · exact (g.st ht.2 p hp).imp (List.mem_append_right _) id
  · rcases List.mem_append.1 ht with ht | ht
    · exact h.tg L' (fun p hp => hL p (List.mem_append_left _ hp)) t ht
    · exact g.tg L' (fun p hp => hL p (List.mem_append_right _ hp)) t ht

def lv1 (n : Nm) (p : PS) (u : Value) : List (Nm × Value) := match p with
  | .o _ _ => [(n, u)]
  | .b _ _ => [(n, u)]
  | .m _ _ _ => [(n, u)]
  | _ => []
def nm1 (n : Nm) (p : PS) : List Nm := match p with
  | .o _ _ => [n]
  | .b _ _ => [n]
  | .m _ _ _ => [n]
  | _ => []
def new1 (n : Nm) (p : PS) : List Nm := match p with
  | .o _ _ => [n]
  | .m _ _ _ => [n]
  | _ => []

theorem psGet_sound (h : Rel X L I s a w) {n : Nm} {p : PS} {c : CV} {d : DV} {tag : Tag} {u : Value} {I' : Nat → Prop} (e : psGet s.o n p c = some (d, tag)) (r : RC L I w (AL s.o) c u)
    (hI : ∀ b, I b → I' b) (hl : ∀ m ∈ tag.lent, ∀ b, (L m).ownBlock = some b → I' b) :
    Got L s w I' (nm1 n p) (new1 n p) (lv1 n p u) (mkO n p d) [tag] ∧ (∀ L' A', (∀ q ∈ lv1 n p u, L' q.1 = q.2) → PtsAt L L' [tag] → RC L' I' w A' (mkCell n p d) u) := by
  have hw : Same I w w := fun _ _ => rfl
  have arr : ∀ {m : Nm} {q : Nat} {t : Ty} {xs : List t.den}, s.o m = some (.arr q t xs) → L m = u → ∀ {tag : Tag}, tag.pair = [(n, m)] → (tag.stays = true → new1 n p = [n] ∨ n = m) → (∀ L', L' n = L m → TagAt L L' s tag) → (∀ b o, (L m).ownBlock = some b → TagFp L tag b o) → lv1 n p u = [(n, u)] → nm1 n p = [n] → mkO n p d = [(n, .arr q t xs)] →
      Got L s w I' (nm1 n p) (new1 n p) (lv1 n p u) (mkO n p d) [tag] := by
    intro m q t xs em eu tag ht hs htg htf h1 h2 h3
    rw [h1, h2, h3]
    refine ⟨rfl, rfl, fun L' A' hL _ q' hq => ?_, fun L' hL q' hq b o hb => ?_, fun hst p' hp => ?_, fun L' hL t ht => ?_⟩
    · obtain rfl := List.mem_singleton.1 hq
      obtain ⟨vs, g1, g2⟩ := h.obj m _ em
      refine ⟨vs, ?_, g2.mono hI hw⟩
      rw [hL _ (List.mem_singleton.2 rfl), ← eu]
      exact g1
    · obtain rfl := List.mem_singleton.1 hq
      have hb : (L' n).ownBlock = some b := hb
      rw [hL _ (List.mem_singleton.2 rfl), ← eu] at hb
      exact ⟨tag, List.mem_singleton.2 rfl, m, _, ht, em, hb, htf b o hb⟩
    · obtain rfl := List.mem_singleton.1 hp
      have hst : tag.stays = true := by simpa using hst
      rcases hs hst with h5 | h5
      · exact .inl (by rw [h5]; exact List.mem_singleton.2 rfl)
      · exact .inr (by rw [← eu, h5])
    · obtain rfl := List.mem_singleton.1 ht
      exact htg L' (by rw [hL (n, u) (List.mem_singleton.2 rfl), eu])
  cases p with
  | i t =>
    have plain : (∀ L', TagAt L L' s tag) → Got L s w I' (nm1 n (.i t)) (new1 n (.i t)) (lv1 n (.i t) u) (mkO n (.i t) d) [tag] := fun ht =>
      ⟨rfl, rfl, fun _ _ _ _ _ q => (by cases q), fun _ _ _ q => (by cases q), fun _ _ q => (by cases q), fun L' _ t q => (List.mem_singleton.1 q) ▸ ht L'⟩
    have val : ∀ {x : t.den}, c.as t = some x → d = ⟨t, x⟩ → ∀ L' A', RC L' I' w A' (mkCell n (.i t) d) u := by
      intro x ec ed L' A'
      subst ed
      exact Rep.mono hI hw t (as_sound ec r)
    simp only [psGet] at e
    split at e
    · rename_i m
      split at e
      · rename_i v
        split at e
        · rename_i xs eo
          obtain ⟨rfl, rfl⟩ := Prod.mk.inj (Option.some.inj e)
          obtain ⟨q, em, _⟩ := getO_sound eo
          refine ⟨plain (fun _ => ⟨_, _, _, em⟩), fun L' A' _ _ => ?_⟩
          obtain ⟨_, _, _, _, r⟩ := r
          obtain ⟨vs, g1, g2⟩ := h.obj m _ em
          show Rep I' w (.sl v) xs [u]
          rw [← r]
          exact own_rep g1 (g2.mono hI hw) (hl m (List.mem_singleton.2 rfl))
        · cases e
      · cases e
    · split at e
      · rename_i x ec
        obtain ⟨rfl, rfl⟩ := Prod.mk.inj (Option.some.inj e)
        exact ⟨plain (fun _ => trivial), fun L' A' _ _ => val ec rfl L' A'⟩
      · cases e
  | o q t =>
    simp only [psGet] at e
    split at e
    · rename_i m
      split at e
      · rename_i xs eo
        obtain ⟨rfl, rfl⟩ := Prod.mk.inj (Option.some.inj e)
        obtain ⟨q', em, eq⟩ := getO_sound eo
        obtain rfl := eq q rfl
        obtain ⟨x1, x2, x3, x4, r⟩ := r
        refine ⟨arr em r rfl (fun _ => .inl rfl) (fun _ _ => trivial) (fun _ _ q => q) rfl rfl ?_, fun L' A' hL _ => ⟨x1, x2, x3, x4, hL (n, u) (List.mem_singleton.2 rfl)⟩⟩
        simp [mkO, arrO, as_self]
      · cases e
    · obtain ⟨rfl, rfl⟩ := Prod.mk.inj (Option.some.inj e)
      obtain rfl : u = .slice none 0 0 := r
      have ho : mkO n (.o q t) ⟨.sl t, []⟩ = [(n, .arr q t [])] := by simp [mkO, arrO, as_self (t := .sl t) []]
      refine ⟨?_, fun L' A' hL _ => ⟨_, _, _, rfl, hL (n, _) (List.mem_singleton.2 rfl)⟩⟩
      rw [ho]
      refine ⟨rfl, rfl, fun L' A' hL _ q' hq => ?_, fun L' hL q' hq b o hb => ?_, fun hst p' hp => ?_, fun L' hL t ht => (List.mem_singleton.1 ht) ▸ trivial⟩
      · obtain rfl := List.mem_singleton.1 hq
        refine ⟨[], ?_, FRep.nil⟩
        rw [hL (n, _) (List.mem_singleton.2 rfl)]
        exact World.ownsRow_nil w 0 q t.sz
      · obtain rfl := List.mem_singleton.1 hq
        have hb : (L' n).ownBlock = some b := hb
        rw [hL (n, _) (List.mem_singleton.2 rfl)] at hb
        cases hb
      · obtain rfl := List.mem_singleton.1 hp
        exact .inl (List.mem_singleton.2 rfl)
    · cases e
  | b q t =>
    simp only [psGet] at e
    split at e
    · rename_i m
      split at e
      · rename_i xs eo
        obtain ⟨rfl, rfl⟩ := Prod.mk.inj (Option.some.inj e)
        obtain ⟨q', em, eq⟩ := getO_sound eo
        obtain rfl := eq q rfl
        obtain ⟨x1, x2, x3, x4, r⟩ := r
        refine ⟨arr em r rfl (fun hs => .inr (eqb_iff.1 hs)) (fun _ q => q) (fun _ _ q => q) rfl rfl ?_, fun L' A' hL _ => ⟨x1, x2, x3, x4, hL (n, u) (List.mem_singleton.2 rfl)⟩⟩
        simp [mkO, arrO, as_self]
      · cases e
    · cases e
  | q m0 off =>
    simp only [psGet] at e
    split at e
    · rename_i m k
      obtain ⟨rfl, rfl⟩ := Prod.mk.inj (Option.some.inj e)
      refine ⟨⟨rfl, rfl, fun _ _ _ _ _ q => (by cases q), fun _ _ _ q => (by cases q), fun _ _ q => (by cases q), fun L' _ t q => (List.mem_singleton.1 q) ▸ trivial⟩, fun L' A' _ hpt => ?_⟩
      obtain ⟨b, o, o', g1, g2, g3⟩ := hpt _ (List.mem_singleton.2 rfl) ((m0, off), (m, k)) (List.mem_singleton.2 rfl)
      obtain ⟨b', o2, r1, r2⟩ := r
      rw [r1] at g1
      injection g1 with g1; injection g1 with g1; injection g1 with g1 g1' _
      subst g1; subst g1'
      exact ⟨_, _, g2, by rw [r2]; exact congrArg (fun z => Value.pointer (some ⟨b', z, none⟩)) g3⟩
    · cases e
  | f g cs =>
    simp only [psGet] at e
    split at e
    · rename_i h' ds
      cases k : (Nat.beq g h' && Nat.beq cs.length ds.length) with
      | false => rw [k] at e; cases e
      | true =>
        rw [k] at e
        simp only [cond_true] at e
        obtain ⟨rfl, rfl⟩ := Prod.mk.inj (Option.some.inj e)
        rw [Bool.and_eq_true] at k
        have k1 := Nat.eq_of_beq_eq_true k.1
        subst k1
        refine ⟨⟨rfl, rfl, fun _ _ _ _ _ q => (by cases q), fun _ _ _ q => (by cases q), fun _ _ q => (by cases q), fun L' _ t q => (List.mem_singleton.1 q) ▸ trivial⟩, fun L' A' _ hpt => ?_⟩
        obtain ⟨us, r1, r2⟩ := r
        exact ⟨us, r1, caps_pt (Nat.eq_of_beq_eq_true k.2) (fun p hp => hpt _ (List.mem_singleton.2 rfl) p hp) r2⟩
    · cases e
  | e =>
    have plain : Got L s w I' (nm1 n .e) (new1 n .e) (lv1 n .e u) (mkO n .e d) [tag] → Got L s w I' (nm1 n .e) (new1 n .e) (lv1 n .e u) (mkO n .e d) [tag] := fun q => q
    simp only [psGet] at e
    split at e
    · rename_i b
      obtain ⟨rfl, rfl⟩ := Prod.mk.inj (Option.some.inj e)
      refine ⟨⟨rfl, rfl, fun _ _ _ _ _ q => (by cases q), fun _ _ _ q => (by cases q), fun _ _ q => (by cases q), fun L' _ t q => (List.mem_singleton.1 q) ▸ trivial⟩, fun L' A' _ _ => ?_⟩
      simp only [mkCell, as_self]
      exact r
    · obtain ⟨rfl, rfl⟩ := Prod.mk.inj (Option.some.inj e)
      refine ⟨⟨rfl, rfl, fun _ _ _ _ _ q => (by cases q), fun _ _ _ q => (by cases q), fun _ _ q => (by cases q), fun L' _ t q => (List.mem_singleton.1 q) ▸ trivial⟩, fun L' A' _ _ => ?_⟩
      simp only [mkCell, as_self]
      exact r
    · cases e
  | m kt vt ka =>
    simp only [psGet] at e
    split at e
    · rename_i m'
      split at e
      · rename_i xs eo
        obtain ⟨rfl, rfl⟩ := Prod.mk.inj (Option.some.inj e)
        unfold getM at eo
        split at eo
        · rename_i k v a' kvs em
          cases q : (a' == ka) with
          | false => rw [q] at eo; cases eo
          | true =>
            rw [q] at eo
            simp only [cond_true] at eo
            split at eo
            · rename_i hty ety
              obtain rfl := Option.some.inj eo
              injection hty with hty
              injection hty with hk hv
              subst hk; subst hv
              have ha : a' = ka := by simpa using q
              subst ha
              obtain ⟨b, r1, r2⟩ := r
              have hmk : mkO n (.m k v a') ⟨.sl (.pr k v), Ty.cast (rfl : (Ty.sl (.pr k v)) = .sl (.pr k v)) kvs⟩ = [(n, .mp k v a' kvs)] := by
                show mapO n k v a' _ = _
                unfold mapO
                rw [as_self]; rfl
              have hmk2 : ∀ h : (Ty.sl (.pr k v)) = .sl (.pr k v), mkO n (.m k v a') ⟨.sl (.pr k v), Ty.cast h kvs⟩ = [(n, .mp k v a' kvs)] := fun _ => hmk
              rw [hmk2]
              refine ⟨⟨rfl, rfl, fun L' A' hL _ q' hq => ?_, fun L' hL q' hq b' o hb => ?_, fun hst p' hp => ?_, fun L' hL t ht => (List.mem_singleton.1 ht) ▸ trivial⟩, fun L' A' hL _ => ⟨b, r1, hL (n, u) (List.mem_singleton.2 rfl)⟩⟩
              · obtain rfl := List.mem_singleton.1 hq
                obtain ⟨b2, es, g1, g2⟩ := h.obj m' _ em
                exact ⟨b2, es, by rw [hL (n, u) (List.mem_singleton.2 rfl), ← r2]; exact g1, g2⟩
              · obtain rfl := List.mem_singleton.1 hq
                have hb : L' n = .map (some b') := hb
                rw [hL (n, u) (List.mem_singleton.2 rfl), ← r2] at hb
                exact ⟨_, List.mem_singleton.2 rfl, m', _, rfl, em, hb, hb⟩
              · obtain rfl := List.mem_singleton.1 hp
                exact .inl (List.mem_singleton.2 rfl)
            · cases eo
        · cases eo
      · cases e
    · cases e

theorem psNames_cons (nm : Nat → PS → Nm) (k : Nat) (p : PS) (ps : List PS) : psNames nm k (p :: ps) = nm1 (nm k p) p ++ psNames nm (k + 1) ps := by cases p <;> rfl
theorem psNew_cons (nm : Nat → PS → Nm) (k : Nat) (p : PS) (ps : List PS) : psNew nm k (p :: ps) = new1 (nm k p) p ++ psNew nm (k + 1) ps := by cases p <;> rfl

theorem psGets_len {o : Nm → Option Ob} {nm : Nat → PS → Nm} : ∀ {ps : List PS} {cs : List CV} {k : Nat} {ds : List DV} {ts : List Tag}, psGets o nm k ps cs = some (ds, ts) → ds.length = ps.length ∧ cs.length = ps.length
  | [], [], _, _, _, e => by obtain ⟨rfl, rfl⟩ := Prod.mk.inj (Option.some.inj e); exact ⟨rfl, rfl⟩
  | [], _ :: _, _, _, _, e => by cases e
  | _ :: _, [], _, _, _, e => by cases e
  | p :: ps, c :: cs, k, _, _, e => by
    simp only [psGets] at e
    split at e
    · rename_i d t ds ts e1 e2
      obtain ⟨rfl, rfl⟩ := Prod.mk.inj (Option.some.inj e)
      obtain ⟨g1, g2⟩ := psGets_len e2
      exact ⟨by simp [g1], by simp [g2]⟩
    · cases e

theorem psGets_sound (h : Rel X L I s a w) {nm : Nat → PS → Nm} {I' : Nat → Prop} (hI : ∀ b, I b → I' b) : ∀ {ps : List PS} {cs : List CV} {k : Nat} {ds : List DV} {ts : List Tag} {us : List Value}, psGets s.o nm k ps cs = some (ds, ts) →
    All2 (RC L I w (AL s.o)) cs us → (∀ m ∈ ts.flatMap Tag.lent, ∀ b, (L m).ownBlock = some b → I' b) →
    ∃ lv, Got L s w I' (psNames nm k ps) (psNew nm k ps) lv (mkOs nm k ps ds) ts ∧ (∀ L' A', (∀ q ∈ lv, L' q.1 = q.2) → PtsAt L L' ts → All2 (RC L' I' w A') (mkCells nm k ps ds) us)
  | [], [], _, _, _, us, e, r, _ => by
    obtain ⟨rfl, rfl⟩ := Prod.mk.inj (Option.some.inj e)
    cases us with
    | nil => exact ⟨[], Got.nil, fun _ _ _ _ => trivial⟩
    | cons _ _ => exact r.elim
  | [], _ :: _, _, _, _, _, e, _, _ => by cases e
  | _ :: _, [], _, _, _, _, e, _, _ => by cases e
  | p :: ps, c :: cs, k, _, _, us, e, r, hl => by
    simp only [psGets] at e
    split at e
    · rename_i d t ds ts e1 e2
      obtain ⟨rfl, rfl⟩ := Prod.mk.inj (Option.some.inj e)
      cases us with
      | nil => exact r.elim
      | cons u us =>
        obtain ⟨r1, r2⟩ := r
        rw [List.flatMap_cons] at hl
        obtain ⟨g1, g2⟩ := psGet_sound h e1 r1 hI (fun m hm => hl m (List.mem_append_left _ hm))
        obtain ⟨lv, g3, g4⟩ := psGets_sound h hI e2 r2 (fun m hm => hl m (List.mem_append_right _ hm))
        refine ⟨lv1 (nm k p) p u ++ lv, ?_, fun L' A' hL hpt => ⟨g2 L' A' (fun q hq => hL q (List.mem_append_left _ hq)) (fun t ht => hpt t ((List.mem_singleton.1 ht) ▸ List.mem_cons_self ..)), g4 L' A' (fun q hq => hL q (List.mem_append_right _ hq)) (fun t ht => hpt t (List.mem_cons_of_mem _ ht))⟩⟩
        rw [psNames_cons, psNew_cons]
        exact g1.append g3
    · cases e
end
end AM
end Go.Proofs.YtpcdcnmmkfhliaaGreatDoor
