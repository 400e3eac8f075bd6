/- A law that has been evaluated, called with what comes in. No condition. -/
import Derived.Test.YtpcdcnmmkfhliaaGreatDoorAMx
namespace Go.Proofs.YtpcdcnmmkfhliaaGreatDoor
namespace AM
open Go
set_option linter.unusedSimpArgs false
set_option linter.unusedVariables false

def flat : Ty → List Ty
  | .pr a b => flat a ++ flat b
  | .int k => [.int k]
  | .bool => [.bool]
  | .str => [.str]
  | .sl t => [.sl t]
def dvs : (t : Ty) → t.den → List DV
  | .pr a b, x => dvs a x.1 ++ dvs b x.2
  | .int k, x => [⟨.int k, x⟩]
  | .bool, x => [⟨.bool, x⟩]
  | .str, x => [⟨.str, x⟩]
  | .sl t, x => [⟨.sl t, x⟩]
def DV.cv (d : DV) : CV := .v d.t d.x

theorem dvs_t : ∀ (t : Ty) (x : t.den), (dvs t x).map DV.t = flat t
  | .pr a b, x => by simp only [dvs, flat, List.map_append, dvs_t a, dvs_t b]
  | .int k, x => rfl
  | .bool, x => rfl
  | .str, x => rfl
  | .sl t, x => rfl
theorem dvs_split : ∀ (t : Ty) (x : t.den), (dvs t x).map DV.cv = split t x
  | .pr a b, x => by simp only [dvs, split, List.map_append, dvs_split a, dvs_split b]
  | .int k, x => rfl
  | .bool, x => rfl
  | .str, x => rfl
  | .sl t, x => rfl
theorem dvs_fits : ∀ (t : Ty) (x : t.den), Fits t x → ∀ d ∈ dvs t x, Fits d.t d.x
  | .pr a b, x, h, d, hd => by
    rcases List.mem_append.1 hd with q | q
    · exact dvs_fits a _ h.1 d q
    · exact dvs_fits b _ h.2 d q
  | .int k, x, h, d, hd => by obtain rfl := List.mem_singleton.1 hd; exact h
  | .bool, x, h, d, hd => by obtain rfl := List.mem_singleton.1 hd; exact h
  | .str, x, h, d, hd => by obtain rfl := List.mem_singleton.1 hd; exact h
  | .sl t, x, h, d, hd => by obtain rfl := List.mem_singleton.1 hd; exact h

theorem pack_cons {t u : Ty} {r : List Ty} {d : DV} {ds : List DV} {x : t.den} {y : TD (u :: r)} (h1 : d.as t = some x) (h2 : pack (u :: r) ds = some y) : pack (t :: u :: r) (d :: ds) = some (x, y) := by
  unfold pack
  rw [h1, h2]
theorem pack_self : ∀ ds : List DV, ∃ x, pack (ds.map DV.t) ds = some x
  | [] => ⟨(), rfl⟩
  | [d] => ⟨d.x, as_self d.x⟩
  | d :: e :: r => by
    obtain ⟨x, hx⟩ := pack_self (e :: r)
    exact ⟨(d.x, x), pack_cons (as_self d.x) hx⟩

/-- What comes in: a value, how it reads, the value of the model. -/
structure Arg where
  t : Ty
  agg : Bool
  x : t.den
  u : Value

def Arg.par (a : Arg) : Par := bif a.agg then .g ((flat a.t).map .i) else .c (.i a.t)
def Arg.dv (a : Arg) : List DV := bif a.agg then dvs a.t a.x else [⟨a.t, a.x⟩]
def Arg.av (a : Arg) : AV := bif a.agg then .g (split a.t a.x) else .c (.v a.t a.x)
def Arg.ok (w : World) (a : Arg) : Prop := Fits a.t a.x ∧ (a.agg = true → ∃ vs, a.u = .agg vs.toArray ∧ Rep (fun b => b < w.heap.size) w a.t a.x vs) ∧ (a.agg = false → Rep (fun b => b < w.heap.size) w a.t a.x [a.u])

theorem mkCells_i (nm : Nat → PS → Nm) : ∀ (ts : List Ty) (k : Nat) (ds : List DV), ds.length = ts.length → mkCells nm k (ts.map .i) ds = ds.map DV.cv ∧ mkOs nm k (ts.map .i) ds = []
  | [], _, [], _ => ⟨rfl, rfl⟩
  | [], _, _ :: _, h => by cases h
  | _ :: _, _, [], h => by cases h
  | t :: ts, k, d :: ds, h => by
    obtain ⟨h1, h2⟩ := mkCells_i nm ts (k + 1) ds (by simpa using h)
    constructor
    · show mkCell _ (.i t) d :: mkCells nm (k + 1) (ts.map .i) ds = _
      rw [h1]; rfl
    · show mkO _ (.i t) d ++ mkOs nm (k + 1) (ts.map .i) ds = _
      rw [h2]; rfl

theorem arg_len (a : Arg) : (match parEns 0 [a.par] with | e :: _ => e.cells.length | [] => 0) = a.dv.length := by
  obtain ⟨t, agg, x, u⟩ := a
  cases agg with
  | true =>
    show ((flat t).map PS.i).length = (dvs t x).length
    rw [List.length_map, ← dvs_t t x, List.length_map]
  | false => rfl

def argVs : Nat → List Arg → List (Nat × AV)
  | _, [] => []
  | k, a :: r => (k, a.av) :: argVs (k + 1) r

theorem mk_args : ∀ (l : List Arg) (k : Nat), mkVs (parEns k (l.map Arg.par)) (l.flatMap Arg.dv) = argVs k l ∧ mkBs (parEns k (l.map Arg.par)) (l.flatMap Arg.dv) = [] ∧ entys (parEns k (l.map Arg.par)) = (l.flatMap Arg.dv).map DV.t
  | [], _ => ⟨rfl, rfl, rfl⟩
  | a :: r, k => by
    obtain ⟨h1, h2, h3⟩ := mk_args r (k + 1)
    obtain ⟨t, agg, x, u⟩ := a
    cases agg with
    | true =>
      have hl : (dvs t x).length = (flat t).length := by rw [← dvs_t t x, List.length_map]
      have hl2 : (dvs t x).length = ((flat t).map PS.i).length := by rw [List.length_map]; exact hl
      obtain ⟨c1, c2⟩ := mkCells_i (nmOf k) (flat t) 0 (dvs t x) hl
      refine ⟨?_, ?_, ?_⟩
      · show (k, AV.g (mkCells (nmOf k) 0 ((flat t).map PS.i) ((dvs t x ++ r.flatMap Arg.dv).take ((flat t).map PS.i).length))) :: mkVs (parEns (k + 1) (r.map Arg.par)) ((dvs t x ++ r.flatMap Arg.dv).drop ((flat t).map PS.i).length) = _
        rw [← hl2, List.take_left, List.drop_left, h1, c1, dvs_split]; rfl
      · show mkOs (nmOf k) 0 ((flat t).map PS.i) ((dvs t x ++ r.flatMap Arg.dv).take ((flat t).map PS.i).length) ++ mkBs (parEns (k + 1) (r.map Arg.par)) ((dvs t x ++ r.flatMap Arg.dv).drop ((flat t).map PS.i).length) = _
        rw [← hl2, List.take_left, List.drop_left, h2, c2]; rfl
      · show ((flat t).map PS.i).map PS.ty ++ entys (parEns (k + 1) (r.map Arg.par)) = (dvs t x ++ r.flatMap Arg.dv).map DV.t
        rw [h3, List.map_append, dvs_t, List.map_map]
        congr 1
        exact (List.map_congr_left fun _ _ => rfl).trans (List.map_id _)
    | false =>
      refine ⟨?_, ?_, ?_⟩
      · show (k, AV.c (.v t x)) :: mkVs (parEns (k + 1) (r.map Arg.par)) (r.flatMap Arg.dv) = _
        rw [h1]; rfl
      · show [] ++ mkBs (parEns (k + 1) (r.map Arg.par)) (r.flatMap Arg.dv) = _
        rw [h2]; rfl
      · show t :: entys (parEns (k + 1) (r.map Arg.par)) = t :: (r.flatMap Arg.dv).map DV.t
        rw [h3]

theorem look_args {L : Nm → Value} {I : Nat → Prop} {w : World} {A : Nm → Option (Nat × Nat)} : ∀ (l : List Arg) (k i : Nat), (∀ a ∈ l, RA L I w A a.av a.u) → RA L I w A (look (argVs k l) (k + i)) ((l.map Arg.u).getD i undef)
  | [], _, _, _ => trivial
  | a :: r, k, 0, h => by
    show RA L I w A (bif Nat.beq k k then a.av else _) _
    rw [Nat.beq_refl]; exact h a (List.mem_cons_self ..)
  | a :: r, k, i + 1, h => by
    show RA L I w A (bif Nat.beq k (k + (i + 1)) then a.av else look (argVs (k + 1) r) (k + (i + 1))) _
    rw [beq_ne (by omega : k ≠ k + (i + 1)), show k + (i + 1) = (k + 1) + i by omega]
    exact look_args r (k + 1) i (fun b hb => h b (List.mem_cons_of_mem _ hb))

theorem look_hi : ∀ (l : List Arg) (k i : Nat), k + l.length ≤ i → look (argVs k l) i = .c .dead
  | [], _, _, _ => rfl
  | a :: r, k, i, h => by
    show (bif Nat.beq k i then a.av else look (argVs (k + 1) r) i) = _
    have h : k + (r.length + 1) ≤ i := h
    rw [beq_ne (by omega : k ≠ i)]
    exact look_hi r (k + 1) i (by omega)

theorem outEns_args : ∀ (l : List Arg) (k : Nat), outEns k (l.map Arg.par) = []
  | [], _ => rfl
  | a :: r, k => by
    obtain ⟨t, agg, x, u⟩ := a
    have := outEns_args r (k + 1)
    cases agg <;> exact this

def FitsTD (ts : List Ty) (x : TD ts) : Prop := ∀ d ∈ unpack ts x, Fits d.t d.x

theorem first_all {n : Nat} {xs : Array Value} (h : xs.size ≤ n) : first n xs = xs := by
  unfold first
  rw [List.take_of_length_le (by simpa using h)]

/-- The law is called. -/
theorem law_calls {P : Program} {K : Glob} {f : FuncId} {pars : List Par} {g : Nat → TD (entys (parEns 0 pars)) → Option (TD (entys (endEns pars [(false, [.i .bool])] [])))}
    (obs : ∀ n, Obeys P K f { pars := pars, res := [(false, [.i .bool])], g := g n }) (pure : ∀ x, FitsTD _ x → ∃ n r, g n x = some r ∧ unpack _ r = [⟨.bool, true⟩])
    {W : World} (hK : K.ok W) (hKb : ∀ b, K.blk b → b < W.heap.size) {l : List Arg} (hl : l.map Arg.par = pars) (hok : ∀ a ∈ l, a.ok W) :
    Calls P f (l.map Arg.u).toArray W fun e w' => e = .returned (.bool true) ∧ RowKit.Below W.heap.size W w' := by
  subst hl
  obtain ⟨m1, m2, m3⟩ := mk_args l 0
  obtain ⟨x, hx⟩ : ∃ x, pack (entys (parEns 0 (l.map Arg.par))) (l.flatMap Arg.dv) = some x := by
    rw [m3]; exact pack_self _
  have hux := unpack_pack hx
  obtain ⟨n, r, hr, hur⟩ := pure x (fun d hd => by
    rw [hux] at hd
    obtain ⟨a, ha, hd⟩ := List.mem_flatMap.1 hd
    have hf := (hok a ha).1
    obtain ⟨t, agg, y, u⟩ := a
    cases agg with
    | true => exact dvs_fits t y hf d hd
    | false => obtain rfl := List.mem_singleton.1 hd; exact hf)
  let Y : Ctx := { K := K, N := l.length, w0 := W, E := fun _ _ => False, I0 := fun b => b < W.heap.size }
  have hst : mkSt (parEns 0 (l.map Arg.par)) x = ⟨look (argVs 0 l), fun _ => none⟩ := by
    unfold mkSt mkD
    rw [hux, m1, m2]
    rfl
  have hrel : Rel Y (fun _ => undef) (fun b => b < W.heap.size) (mkSt (parEns 0 (l.map Arg.par)) x) ⟨(l.map Arg.u).toArray, []⟩ W := by
    rw [hst]
    refine ⟨rfl, by simp [Y], fun i hi => ?_, fun i hi => look_hi l 0 i (by show 0 + l.length ≤ i; have : l.length ≤ i := hi; omega), fun _ _ h => (by cases h), fun _ _ _ _ h => (by cases h), fun _ _ h => (by cases h), fun b hb => ⟨hb, .inl hb⟩, fun b hb => hb, Step.refl _ _, hK, hKb⟩
    have := look_args (L := fun _ => undef) (I := fun b => b < W.heap.size) (w := W) (A := AL (fun _ => none)) l 0 i (fun a ha => by
      obtain ⟨_, h2, h3⟩ := hok a ha
      obtain ⟨t, agg, y, u⟩ := a
      cases agg with
      | true => obtain ⟨vs, h4, h5⟩ := h2 rfl; exact ⟨vs, h4, split_sound t h5⟩
      | false => exact h3 rfl)
    rw [Nat.zero_add] at this
    simpa using this
  have hc := obs n Y _ _ ⟨(l.map Arg.u).toArray, []⟩ W x r hr hrel rfl (by simp [Y]) rfl
  rw [show first (FSum.real { pars := l.map Arg.par, res := [(false, [.i .bool])], g := g n }) (⟨(l.map Arg.u).toArray, []⟩ : Act).tmps = (l.map Arg.u).toArray from first_all (by unfold FSum.real; simp)] at hc
  refine hc.mono fun e w' h => ?_
  obtain ⟨v, L', I', a', rfl, hR, _, rfl⟩ := h
  have hs := hR.slot (l.map Arg.par).length
  have hlk : (mkSt (FSum.ens { pars := l.map Arg.par, res := [(false, [.i .bool])], g := g n }) r).t (l.map Arg.par).length = .c (.v .bool true) := by
    unfold mkSt mkD
    rw [show unpack (entys (FSum.ens { pars := l.map Arg.par, res := [(false, [.i .bool])], g := g n })) r = [⟨.bool, true⟩] from hur]
    show look (mkVs (outEns 0 (l.map Arg.par) ++ _) _) _ = _
    rw [outEns_args]
    show (bif Nat.beq (l.map Arg.par).length (l.map Arg.par).length then _ else _) = _
    rw [Nat.beq_refl]; rfl
  rw [hlk] at hs
  have hs : a'.tmps.getD (l.map Arg.par).length undef = .bool true := List.head_eq_of_cons_eq hs
  exact ⟨congrArg Ending.returned hs, Step.below hR.step⟩
end AM
end Go.Proofs.YtpcdcnmmkfhliaaGreatDoor
