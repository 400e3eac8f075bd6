/- Library functions over numbers, bools and strings, by their contracts. Under: the contract. -/
import Derived.Test.YtpcdcnmmkfhliaaGreatDoorAMy
namespace Go.Proofs.YtpcdcnmmkfhliaaGreatDoor
namespace AM
open Go
set_option linter.unusedSimpArgs false
set_option linter.unusedVariables false

def DV.val : DV → Value
  | ⟨.int k, n⟩ => .int k n
  | ⟨.bool, b⟩ => .bool b
  | ⟨.str, s⟩ => .string s
  | _ => undef
def retVal : List Value → Value
  | [v] => v
  | vs => .tuple vs.toArray
def Ty.one : Ty → Bool
  | .int _ => true
  | .bool => true
  | .str => true
  | _ => false
def parsOf (ts : List Ty) : List Par := ts.map fun t => .c (.i t)
def ressOf (ts : List PS) : List (Bool × List PS) := ts.map fun p => (false, [p])
/-- What comes out: single values, errors. -/
def PS.outs : PS → Bool
  | .i t => t.one
  | .e => true
  | _ => false
def Out (p : PS) (d : DV) (v : Value) : Prop := match p with
  | .e => ∃ b, d.as .bool = some b ∧ match b with
    | true => ∃ t x, v = .iface t x
    | false => v = .nilIface
  | _ => v = DV.val d
def Outs : List PS → List DV → List Value → Prop
  | [], [], [] => True
  | p :: ps, d :: ds, v :: vs => Out p d v ∧ Outs ps ds vs
  | _, _, _ => False
theorem Outs.len : ∀ {ps : List PS} {ds : List DV} {vs : List Value}, Outs ps ds vs → ds.length = ps.length ∧ vs.length = ps.length
  | [], [], [], _ => ⟨rfl, rfl⟩
  | _ :: _, _ :: _, _ :: _, h => by obtain ⟨g1, g2⟩ := Outs.len h.2; exact ⟨by simp [g1], by simp [g2]⟩
  | [], [], _ :: _, h => h.elim
  | [], _ :: _, _, h => h.elim
  | _ :: _, [], _, h => h.elim
  | _ :: _, _ :: _, [], h => h.elim
theorem Outs.get : ∀ {ps : List PS} {ds : List DV} {vs : List Value}, Outs ps ds vs → ∀ {i : Nat} {p : PS} {d : DV}, ps[i]? = some p → ds[i]? = some d → ∃ v, vs[i]? = some v ∧ Out p d v
  | [], _, _, _, _, _, _, h, _ => by cases h
  | _ :: _, _ :: _, v :: _, h, 0, _, _, e, e2 => by obtain rfl := Option.some.inj e; obtain rfl := Option.some.inj e2; exact ⟨v, rfl, h.1⟩
  | _ :: _, _ :: _, _ :: _, h, i + 1, _, _, e, e2 => Outs.get h.2 (i := i) e e2
  | _ :: _, [], _, h, _, _, _, _, _ => h.elim
  | _ :: _, _ :: _, [], h, _, _, _, _, _ => h.elim

theorem one_val {t : Ty} (h : t.one = true) {x : t.den} {u : Value} {I : Nat → Prop} {w : World} : Rep I w t x [u] ↔ u = DV.val ⟨t, x⟩ := by
  cases t with
  | int k => exact ⟨fun r => List.head_eq_of_cons_eq r, fun e => congrArg (fun v => [v]) e⟩
  | bool => exact ⟨fun r => List.head_eq_of_cons_eq r, fun e => congrArg (fun v => [v]) e⟩
  | str => exact ⟨fun r => List.head_eq_of_cons_eq r, fun e => congrArg (fun v => [v]) e⟩
  | sl t => cases h
  | pr a b => cases h

theorem entys_pars : ∀ (ts : List Ty) (k : Nat), entys (parEns k (parsOf ts)) = ts
  | [], _ => rfl
  | t :: ts, k => congrArg (t :: ·) (entys_pars ts (k + 1))
theorem entys_ress : ∀ (ts : List PS) (k : Nat), entys (resEns k (ressOf ts)) = ts.map PS.ty
  | [], _ => rfl
  | t :: ts, k => congrArg (t.ty :: ·) (entys_ress ts (k + 1))
theorem outEns_pars : ∀ (ts : List Ty) (k : Nat), outEns k (parsOf ts) = []
  | [], _ => rfl
  | t :: ts, k => outEns_pars ts (k + 1)
theorem endEns_pars (ps : List Ty) (rs : List PS) : endEns (parsOf ps) (ressOf rs) [] = resEns ps.length (ressOf rs) := by
  unfold endEns
  rw [outEns_pars, List.nil_append, show (parsOf ps).length = ps.length from List.length_map .., show nbEns (ps.length + (ressOf rs).length) [] = [] from rfl, List.append_nil]

def valsVs : Nat → List DV → List (Nat × AV)
  | _, [] => []
  | k, d :: r => (k, .c (.v d.t d.x)) :: valsVs (k + 1) r
theorem mk_pars : ∀ (ts : List Ty) (k : Nat) (ds : List DV), ds.length = ts.length → mkVs (parEns k (parsOf ts)) ds = valsVs k ds ∧ mkBs (parEns k (parsOf ts)) ds = []
  | [], _, [], _ => ⟨rfl, rfl⟩
  | [], _, _ :: _, h => by cases h
  | _ :: _, _, [], h => by cases h
  | t :: ts, k, d :: ds, h => by
    obtain ⟨h1, h2⟩ := mk_pars ts (k + 1) ds (by simpa using h)
    exact ⟨congrArg ((k, AV.c (.v d.t d.x)) :: ·) h1, h2⟩
def outC : PS → DV → CV
  | .e, d => match d.as .bool with
    | some b => .er b
    | none => .dead
  | _, d => .v d.t d.x
def outVs : Nat → List PS → List DV → List (Nat × AV)
  | k, p :: ps, d :: r => (k, .c (outC p d)) :: outVs (k + 1) ps r
  | _, _, _ => []
theorem mk_ress : ∀ (ts : List PS) (k : Nat) (ds : List DV), ts.all PS.outs = true → ds.length = ts.length → mkVs (resEns k (ressOf ts)) ds = outVs k ts ds ∧ mkBs (resEns k (ressOf ts)) ds = []
  | [], _, [], _, _ => ⟨rfl, rfl⟩
  | [], _, _ :: _, _, h => by cases h
  | _ :: _, _, [], _, h => by cases h
  | t :: ts, k, d :: ds, ho, h => by
    rw [List.all_cons, Bool.and_eq_true] at ho
    obtain ⟨h1, h2⟩ := mk_ress ts (k + 1) ds ho.2 (by simpa using h)
    have hc : ∀ nm, mkCell nm t d = outC t d ∧ mkO nm t d = [] := fun nm => by
      cases t with
      | i t => exact ⟨rfl, rfl⟩
      | e => exact ⟨rfl, rfl⟩
      | _ => cases ho.1
    constructor
    · show (k, mkV (.val k t) (d :: ds.take 0)) :: mkVs (resEns (k + 1) (ressOf ts)) ds = (k, .c (outC t d)) :: outVs (k + 1) ts ds
      rw [h1]
      congr 2
      exact congrArg AV.c (hc _).1
    · show (mkO _ t d ++ []) ++ mkBs (resEns (k + 1) (ressOf ts)) ds = []
      rw [h2, (hc _).2]; rfl

theorem look_outs : ∀ (ps : List PS) (ds : List DV) (k i : Nat), look (outVs k ps ds) (k + i) = match ps[i]?, ds[i]? with | some p, some d => .c (outC p d) | _, _ => .c .dead
  | [], _, _, _ => rfl
  | p :: ps, [], k, i => by cases (p :: ps)[i]? <;> rfl
  | p :: ps, d :: ds, k, 0 => by
    show (bif Nat.beq k k then _ else _) = _
    rw [Nat.beq_refl]; rfl
  | p :: ps, d :: ds, k, i + 1 => by
    show (bif Nat.beq k (k + (i + 1)) then _ else look (outVs (k + 1) ps ds) (k + (i + 1))) = _
    rw [beq_ne (by omega : k ≠ k + (i + 1)), show k + (i + 1) = (k + 1) + i by omega]
    exact look_outs ps ds (k + 1) i
theorem look_lo' : ∀ (ps : List PS) (ds : List DV) (k i : Nat), i < k → look (outVs k ps ds) i = .c .dead
  | [], _, _, _, _ => rfl
  | _ :: _, [], _, _, _ => rfl
  | p :: ps, d :: ds, k, i, h => by
    show (bif Nat.beq k i then _ else look (outVs (k + 1) ps ds) i) = _
    rw [beq_ne (by omega : k ≠ i)]
    exact look_lo' ps ds (k + 1) i (by omega)

theorem look_vals : ∀ (ds : List DV) (k i : Nat), look (valsVs k ds) (k + i) = match ds[i]? with | some d => .c (.v d.t d.x) | none => .c .dead
  | [], _, _ => rfl
  | d :: ds, k, 0 => by
    show (bif Nat.beq k k then _ else _) = _
    rw [Nat.beq_refl]; rfl
  | d :: ds, k, i + 1 => by
    show (bif Nat.beq k (k + (i + 1)) then _ else look (valsVs (k + 1) ds) (k + (i + 1))) = _
    rw [beq_ne (by omega : k ≠ k + (i + 1)), show k + (i + 1) = (k + 1) + i by omega]
    exact look_vals ds (k + 1) i
theorem look_lo : ∀ (ds : List DV) (k i : Nat), i < k → look (valsVs k ds) i = .c .dead
  | [], _, _, _ => rfl
  | d :: ds, k, i, h => by
    show (bif Nat.beq k i then _ else look (valsVs (k + 1) ds) i) = _
    rw [beq_ne (by omega : k ≠ i)]
    exact look_lo ds (k + 1) i (by omega)

theorem unpack_len : ∀ (ts : List Ty) (x : TD ts), (unpack ts x).length = ts.length
  | [], _ => rfl
  | [t], _ => rfl
  | t :: u :: r, x => congrArg (· + 1) (unpack_len (u :: r) x.2)
theorem unpack_t : ∀ (ts : List Ty) (x : TD ts) (i : Nat) (d : DV), (unpack ts x)[i]? = some d → ts[i]? = some d.t
  | [], _, _, _, h => by cases h
  | [t], x, 0, d, h => by obtain rfl := Option.some.inj h; rfl
  | [t], x, i + 1, d, h => by cases h
  | t :: u :: r, x, 0, d, h => by obtain rfl := Option.some.inj h; rfl
  | t :: u :: r, x, i + 1, d, h => unpack_t (u :: r) x.2 i d h

/-- A function over single values, by its contract. -/
theorem obeys_prim {P : Program} {K : Glob} {f : FuncId} {ps : List Ty} {rs : List PS} (hp : ps.all Ty.one = true) (hr : rs.all PS.outs = true) {g : TD (entys (parEns 0 (parsOf ps))) → Option (TD (entys (endEns (parsOf ps) (ressOf rs) [])))}
    (h : ∀ w x r, g x = some r → K.ok w → Calls P f ((unpack _ x).map DV.val).toArray w fun e w' => ∃ vs, e = .returned (retVal vs) ∧ Outs rs (unpack _ r) vs ∧ Step (fun _ _ => False) w w') :
    Obeys P K f { pars := parsOf ps, res := ressOf rs, g := g } := by
  intro Y L I a w x r hx hR hK hY hw
  have hxl : (unpack _ x).length = ps.length := by rw [unpack_len, entys_pars]
  have hrl : (unpack _ r).length = rs.length := by rw [unpack_len, endEns_pars, entys_ress, List.length_map]
  have hN : Y.N = ps.length := hY.trans (List.length_map ..)
  have hxo : ∀ (i : Nat) (d : DV), (unpack _ x)[i]? = some d → d.t.one = true := fun i d hd => by
    have := unpack_t _ x i d hd
    rw [entys_pars] at this
    exact List.all_eq_true.1 hp _ (List.mem_of_getElem? this)
  have hro : ∀ (i : Nat) (d : DV), (unpack _ r)[i]? = some d → ∃ p, rs[i]? = some p ∧ p.ty = d.t ∧ p.outs = true := fun i d hd => by
    have := unpack_t _ r i d hd
    rw [endEns_pars, entys_ress, List.getElem?_map] at this
    cases e : rs[i]? with
    | none => rw [e] at this; cases this
    | some p => rw [e] at this; exact ⟨p, rfl, Option.some.inj this, List.all_eq_true.1 hr _ (List.mem_of_getElem? e)⟩
  obtain ⟨m1, m2⟩ := mk_pars ps 0 (unpack _ x) hxl
  have htm : a.tmps = ((unpack _ x).map DV.val).toArray := by
    refine Array.ext (by rw [hR.size, hN]; simp [hxl]) fun i hi _ => ?_
    have hi' : i < ps.length := by rw [hR.size, hN] at hi; exact hi
    have hs := hR.slot i
    have hd : (unpack _ x)[i]? = some (unpack _ x)[i] := List.getElem?_eq_getElem (by omega)
    have hlk : (mkSt (parEns 0 (parsOf ps)) x).t i = .c (.v ((unpack _ x)[i]).t ((unpack _ x)[i]).x) := by
      show look (mkVs _ _) i = _
      rw [m1]
      have := look_vals (unpack _ x) 0 i
      rw [Nat.zero_add, hd] at this
      exact this
    have hs : RA L I w (AL (mkSt (parEns 0 (parsOf ps)) x).o) ((mkSt (parEns 0 (parsOf ps)) x).t i) (a.tmps.getD i undef) := hs
    rw [hlk] at hs
    have := (one_val (hxo i _ hd)).1 hs
    rw [Array.getD_eq_getD_getElem?, Array.getElem?_eq_getElem hi] at this
    simp only [Option.getD_some] at this
    rw [this]
    simp
  rw [show first (FSum.real { pars := parsOf ps, res := ressOf rs, g := g }) a.tmps = a.tmps from first_all (by unfold FSum.real; rw [hR.size, hY]; exact Nat.le_refl _), htm]
  subst hK
  refine (h w x r hx hR.glob.1).mono fun e w' hp' => ?_
  obtain ⟨vs, rfl, hov, hst⟩ := hp'
  have h1 := hR.grows hst
  have hvl := hov.len.2
  refine ⟨_, L, I, ⟨((unpack _ x).map DV.val ++ vs).toArray, []⟩, rfl, ?_, fun _ _ => rfl, ?_⟩
  · obtain ⟨k1, k2⟩ := mk_ress rs ps.length (unpack _ r) hr hrl
    have hst2 : mkSt (FSum.ens { pars := parsOf ps, res := ressOf rs, g := g }) r = ⟨look (outVs ps.length rs (unpack _ r)), fun _ => none⟩ := by
      show mkD (endEns (parsOf ps) (ressOf rs) []) (unpack _ r) = _
      unfold mkD
      rw [show mkVs (endEns (parsOf ps) (ressOf rs) []) (unpack (entys (endEns (parsOf ps) (ressOf rs) [])) r) = outVs ps.length rs (unpack _ r) by rw [← k1]; congr 1; exact endEns_pars ps rs]
      rw [show mkBs (endEns (parsOf ps) (ressOf rs) []) (unpack (entys (endEns (parsOf ps) (ressOf rs) [])) r) = [] by rw [← k2]; congr 1; exact endEns_pars ps rs]
      rfl
    have hlen : (parsOf ps).length + ((ressOf rs).length + 0) = ps.length + rs.length := by rw [show (parsOf ps).length = ps.length from List.length_map .., show (ressOf rs).length = rs.length from List.length_map ..]; rfl
    rw [hst2]
    refine ⟨rfl, by simp [hxl, hvl]; exact hlen.symm, fun i hi => ?_, fun i hi => ?_, fun _ _ q => (by cases q), fun _ _ _ _ q => (by cases q), fun _ _ q => (by cases q), h1.imm, h1.sub, h1.step, h1.glob⟩
    · have hi : i < ps.length + rs.length := by rw [← hlen]; exact hi
      rcases Nat.lt_or_ge i ps.length with q | q
      · have hd := look_lo' rs (unpack (entys (endEns (parsOf ps) (ressOf rs) [])) r) ps.length i q
        show RA L I w' _ (look (outVs ps.length rs (unpack (entys (endEns (parsOf ps) (ressOf rs) [])) r)) i) _
        rw [hd]; trivial
      · have hd : (unpack _ r)[i - ps.length]? = some (unpack _ r)[i - ps.length] := List.getElem?_eq_getElem (by omega)
        have := look_outs rs (unpack _ r) ps.length (i - ps.length)
        obtain ⟨p, hp1, hp2, hp3⟩ := hro _ _ hd
        rw [hd, hp1, show ps.length + (i - ps.length) = i by omega] at this
        show RA L I w' _ (look (outVs ps.length rs (unpack (entys (endEns (parsOf ps) (ressOf rs) [])) r)) i) _
        rw [this]
        obtain ⟨v, hv1, hv2⟩ := hov.get hp1 hd
        have hval : (((unpack _ x).map DV.val ++ vs).toArray).getD i undef = v := by
          have hxl' : ((unpack (entys (parEns 0 (parsOf ps))) x).map DV.val).length = ps.length := (List.length_map ..).trans hxl
          rw [Array.getD_eq_getD_getElem?, List.getElem?_toArray, List.getElem?_append_right (by rw [hxl']; exact q), hxl', hv1]; rfl
        rw [hval]
        cases p with
        | i t =>
          have ht : (unpack _ r)[i - ps.length].t.one = true := by rw [← hp2]; exact hp3
          exact (one_val ht).2 hv2
        | e =>
          obtain ⟨b, hb1, hb2⟩ := hv2
          show RC L I w' _ (match DV.as .bool _ with | some b => .er b | none => .dead) v
          rw [hb1]; exact hb2
        | _ => cases hp3
    · have hi : ps.length + rs.length ≤ i := by rw [← hlen]; exact hi
      show look (outVs ps.length rs (unpack _ r)) i = _
      have := look_outs rs (unpack _ r) ps.length (i - ps.length)
      rw [show ps.length + (i - ps.length) = i by omega, List.getElem?_eq_none (by omega : rs.length ≤ i - ps.length)] at this
      exact this
  · have hl : (parsOf ps).length = ps.length := List.length_map ..
    have hl2 : (ressOf rs).length = rs.length := List.length_map ..
    have at_ : ∀ j, j < rs.length → (((unpack _ x).map DV.val ++ vs).toArray).getD (ps.length + j) undef = vs.getD j undef := by
      intro j hj
      have hxl' : ((unpack (entys (parEns 0 (parsOf ps))) x).map DV.val).length = ps.length := (List.length_map ..).trans hxl
      rw [Array.getD_eq_getD_getElem?, List.getElem?_toArray, List.getElem?_append_right (by rw [hxl']; exact Nat.le_add_right ..), List.getD_eq_getElem?_getD, hxl', Nat.add_sub_cancel_left]
    show _ = resV ⟨_, []⟩ (parsOf ps).length (ressOf rs).length
    rw [hl, hl2]
    clear hov
    match vs, hvl with
    | [], hml =>
      have : rs.length = 0 := hml.symm
      rw [this]; rfl
    | [v], hml =>
      have : rs.length = 1 := hml.symm
      rw [this]
      exact (at_ 0 (by omega)).symm
    | v :: u :: t, hml =>
      have hz : rs.length = t.length + 1 + 1 := hml.symm
      rw [hz]
      show Value.tuple (v :: u :: t).toArray = Value.tuple ((List.range (t.length + 1 + 1)).map fun j => Array.getD _ (ps.length + j) undef).toArray
      congr 2
      refine List.ext_getElem (by simp) fun i h1 h2 => ?_
      rw [List.getElem_map, List.getElem_range]
      have h1' : i < rs.length := by simp at h1; omega
      rw [at_ i h1', List.getD_eq_getElem?_getD, List.getElem?_eq_getElem h1]; rfl

theorem outs_i : ∀ {rs : List Ty} {ds : List DV}, ds.length = rs.length → Outs (rs.map .i) ds (ds.map DV.val)
  | [], [], _ => trivial
  | [], _ :: _, h => by cases h
  | _ :: _, [], h => by cases h
  | _ :: rs, _ :: ds, h => ⟨rfl, outs_i (rs := rs) (ds := ds) (by simpa using h)⟩

/-- ... where no error comes out. -/
theorem obeys_plain {P : Program} {K : Glob} {f : FuncId} {ps rs : List Ty} (hp : ps.all Ty.one = true) (hr : rs.all Ty.one = true) {g : TD (entys (parEns 0 (parsOf ps))) → Option (TD (entys (endEns (parsOf ps) (ressOf (rs.map .i)) [])))}
    (h : ∀ w x r, g x = some r → K.ok w → Calls P f ((unpack _ x).map DV.val).toArray w fun e w' => e = .returned (retVal ((unpack _ r).map DV.val)) ∧ Step (fun _ _ => False) w w') :
    Obeys P K f { pars := parsOf ps, res := ressOf (rs.map .i), g := g } := by
  refine obeys_prim hp (by rw [List.all_map]; exact hr) fun w x r hx hw => (h w x r hx hw).mono fun e w' hq => ⟨_, hq.1, ?_, hq.2⟩
  exact outs_i (by rw [unpack_len, endEns_pars, entys_ress, List.length_map, List.length_map])
end AM
end Go.Proofs.YtpcdcnmmkfhliaaGreatDoor
