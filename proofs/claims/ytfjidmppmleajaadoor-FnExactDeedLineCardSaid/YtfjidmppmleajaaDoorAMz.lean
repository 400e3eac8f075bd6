/- Library functions over numbers, bools and strings, by their contracts. Under: the contract. -/
import Derived.Test.YtfjidmppmleajaaDoorAMy
namespace Go.Proofs.YtfjidmppmleajaaDoor
namespace AM
open Go
set_option linter.unusedSimpArgs false
set_option linter.unusedVariables false

def DV.val : DV → Value
  | ⟨.int k, n⟩ => .int k n
  | ⟨.bool, b⟩ => .bool b
  | ⟨.str, s⟩ => .string s
  | _ => undef
def retVal : List Value → Value
  | [v] => v
  | vs => .tuple vs.toArray
def Ty.one : Ty → Bool
  | .int _ => true
  | .bool => true
  | .str => true
  | _ => false
def parsOf (ts : List Ty) : List Par := ts.map fun t => .c (.i t)
def ressOf (ts : List Ty) : List (Bool × List PS) := ts.map fun t => (false, [.i t])

theorem one_val {t : Ty} (h : t.one = true) {x : t.den} {u : Value} {I : Nat → Prop} {w : World} : Rep I w t x [u] ↔ u = DV.val ⟨t, x⟩ := by
  cases t with
  | int k => exact ⟨fun r => List.head_eq_of_cons_eq r, fun e => congrArg (fun v => [v]) e⟩
  | bool => exact ⟨fun r => List.head_eq_of_cons_eq r, fun e => congrArg (fun v => [v]) e⟩
  | str => exact ⟨fun r => List.head_eq_of_cons_eq r, fun e => congrArg (fun v => [v]) e⟩
  | sl t => cases h
  | pr a b => cases h

theorem entys_pars : ∀ (ts : List Ty) (k : Nat), entys (parEns k (parsOf ts)) = ts
  | [], _ => rfl
  | t :: ts, k => congrArg (t :: ·) (entys_pars ts (k + 1))
theorem entys_ress : ∀ (ts : List Ty) (k : Nat), entys (resEns k (ressOf ts)) = ts
  | [], _ => rfl
  | t :: ts, k => congrArg (t :: ·) (entys_ress ts (k + 1))
theorem outEns_pars : ∀ (ts : List Ty) (k : Nat), outEns k (parsOf ts) = []
  | [], _ => rfl
  | t :: ts, k => outEns_pars ts (k + 1)
theorem endEns_pars (ps rs : List Ty) : endEns (parsOf ps) (ressOf rs) = resEns ps.length (ressOf rs) := by
  unfold endEns
  rw [outEns_pars, List.nil_append, show (parsOf ps).length = ps.length from List.length_map ..]

def valsVs : Nat → List DV → List (Nat × AV)
  | _, [] => []
  | k, d :: r => (k, .c (.v d.t d.x)) :: valsVs (k + 1) r
theorem mk_pars : ∀ (ts : List Ty) (k : Nat) (ds : List DV), ds.length = ts.length → mkVs (parEns k (parsOf ts)) ds = valsVs k ds ∧ mkBs (parEns k (parsOf ts)) ds = []
  | [], _, [], _ => ⟨rfl, rfl⟩
  | [], _, _ :: _, h => by cases h
  | _ :: _, _, [], h => by cases h
  | t :: ts, k, d :: ds, h => by
    obtain ⟨h1, h2⟩ := mk_pars ts (k + 1) ds (by simpa using h)
    exact ⟨congrArg ((k, AV.c (.v d.t d.x)) :: ·) h1, h2⟩
theorem mk_ress : ∀ (ts : List Ty) (k : Nat) (ds : List DV), ds.length = ts.length → mkVs (resEns k (ressOf ts)) ds = valsVs k ds ∧ mkBs (resEns k (ressOf ts)) ds = []
  | [], _, [], _ => ⟨rfl, rfl⟩
  | [], _, _ :: _, h => by cases h
  | _ :: _, _, [], h => by cases h
  | t :: ts, k, d :: ds, h => by
    obtain ⟨h1, h2⟩ := mk_ress ts (k + 1) ds (by simpa using h)
    exact ⟨congrArg ((k, AV.c (.v d.t d.x)) :: ·) h1, h2⟩

theorem look_vals : ∀ (ds : List DV) (k i : Nat), look (valsVs k ds) (k + i) = match ds[i]? with | some d => .c (.v d.t d.x) | none => .c .dead
  | [], _, _ => rfl
  | d :: ds, k, 0 => by
    show (bif Nat.beq k k then _ else _) = _
    rw [Nat.beq_refl]; rfl
  | d :: ds, k, i + 1 => by
    show (bif Nat.beq k (k + (i + 1)) then _ else look (valsVs (k + 1) ds) (k + (i + 1))) = _
    rw [beq_ne (by omega : k ≠ k + (i + 1)), show k + (i + 1) = (k + 1) + i by omega]
    exact look_vals ds (k + 1) i
theorem look_lo : ∀ (ds : List DV) (k i : Nat), i < k → look (valsVs k ds) i = .c .dead
  | [], _, _, _ => rfl
  | d :: ds, k, i, h => by
    show (bif Nat.beq k i then _ else look (valsVs (k + 1) ds) i) = _
    rw [beq_ne (by omega : k ≠ i)]
    exact look_lo ds (k + 1) i (by omega)

theorem unpack_len : ∀ (ts : List Ty) (x : TD ts), (unpack ts x).length = ts.length
  | [], _ => rfl
  | [t], _ => rfl
  | t :: u :: r, x => congrArg (· + 1) (unpack_len (u :: r) x.2)
theorem unpack_t : ∀ (ts : List Ty) (x : TD ts) (i : Nat) (d : DV), (unpack ts x)[i]? = some d → ts[i]? = some d.t
  | [], _, _, _, h => by cases h
  | [t], x, 0, d, h => by obtain rfl := Option.some.inj h; rfl
  | [t], x, i + 1, d, h => by cases h
  | t :: u :: r, x, 0, d, h => by obtain rfl := Option.some.inj h; rfl
  | t :: u :: r, x, i + 1, d, h => unpack_t (u :: r) x.2 i d h

/-- A function over single values, by its contract. -/
theorem obeys_plain {P : Program} {K : Glob} {f : FuncId} {ps rs : List Ty} (hp : ps.all Ty.one = true) (hr : rs.all Ty.one = true) {g : TD (entys (parEns 0 (parsOf ps))) → Option (TD (entys (endEns (parsOf ps) (ressOf rs))))}
    (h : ∀ w x r, g x = some r → K.ok w → Calls P f ((unpack _ x).map DV.val).toArray w fun e w' => e = .returned (retVal ((unpack _ r).map DV.val)) ∧ Step (fun _ _ => False) w w') :
    Obeys P K f ⟨parsOf ps, ressOf rs, g⟩ := by
  intro Y L I a w x r hx hR hK hY hw
  have hxl : (unpack _ x).length = ps.length := by rw [unpack_len, entys_pars]
  have hrl : (unpack _ r).length = rs.length := by rw [unpack_len, endEns_pars, entys_ress]
  have hN : Y.N = ps.length := hY.trans (List.length_map ..)
  have hxo : ∀ (i : Nat) (d : DV), (unpack _ x)[i]? = some d → d.t.one = true := fun i d hd => by
    have := unpack_t _ x i d hd
    rw [entys_pars] at this
    exact List.all_eq_true.1 hp _ (List.mem_of_getElem? this)
  have hro : ∀ (i : Nat) (d : DV), (unpack _ r)[i]? = some d → d.t.one = true := fun i d hd => by
    have := unpack_t _ r i d hd
    rw [endEns_pars, entys_ress] at this
    exact List.all_eq_true.1 hr _ (List.mem_of_getElem? this)
  obtain ⟨m1, m2⟩ := mk_pars ps 0 (unpack _ x) hxl
  have htm : a.tmps = ((unpack _ x).map DV.val).toArray := by
    refine Array.ext (by rw [hR.size, hN]; simp [hxl]) fun i hi _ => ?_
    have hi' : i < ps.length := by rw [hR.size, hN] at hi; exact hi
    have hs := hR.slot i
    have hd : (unpack _ x)[i]? = some (unpack _ x)[i] := List.getElem?_eq_getElem (by omega)
    have hlk : (mkSt (parEns 0 (parsOf ps)) x).t i = .c (.v ((unpack _ x)[i]).t ((unpack _ x)[i]).x) := by
      show look (mkVs _ _) i = _
      rw [m1]
      have := look_vals (unpack _ x) 0 i
      rw [Nat.zero_add, hd] at this
      exact this
    have hs : RA L I w (AL (mkSt (parEns 0 (parsOf ps)) x).o) ((mkSt (parEns 0 (parsOf ps)) x).t i) (a.tmps.getD i undef) := hs
    rw [hlk] at hs
    have := (one_val (hxo i _ hd)).1 hs
    rw [Array.getD_eq_getD_getElem?, Array.getElem?_eq_getElem hi] at this
    simp only [Option.getD_some] at this
    rw [this]
    simp
  rw [htm]
  subst hK
  refine (h w x r hx hR.glob.1).mono fun e w' hp' => ?_
  obtain ⟨rfl, hst⟩ := hp'
  have h1 := hR.grows hst
  refine ⟨_, L, I, ⟨((unpack _ x).map DV.val ++ (unpack _ r).map DV.val).toArray, []⟩, rfl, ?_, fun _ _ => rfl, ?_⟩
  · obtain ⟨k1, k2⟩ := mk_ress rs ps.length (unpack _ r) hrl
    have hst2 : mkSt (FSum.ens ⟨parsOf ps, ressOf rs, g⟩) r = ⟨look (valsVs ps.length (unpack _ r)), fun _ => none⟩ := by
      show mkD (endEns (parsOf ps) (ressOf rs)) (unpack _ r) = _
      unfold mkD
      rw [show mkVs (endEns (parsOf ps) (ressOf rs)) (unpack (entys (endEns (parsOf ps) (ressOf rs))) r) = valsVs ps.length (unpack _ r) by rw [← k1]; congr 1; exact endEns_pars ps rs]
      rw [show mkBs (endEns (parsOf ps) (ressOf rs)) (unpack (entys (endEns (parsOf ps) (ressOf rs))) r) = [] by rw [← k2]; congr 1; exact endEns_pars ps rs]
      rfl
    have hlen : (parsOf ps).length + (ressOf rs).length = ps.length + rs.length := by rw [show (parsOf ps).length = ps.length from List.length_map .., show (ressOf rs).length = rs.length from List.length_map ..]
    rw [hst2]
    refine ⟨rfl, by simp [hxl, hrl, hlen], fun i hi => ?_, fun i hi => ?_, fun _ _ q => (by cases q), fun _ _ _ _ q => (by cases q), fun _ _ q => (by cases q), h1.imm, h1.sub, h1.step, h1.glob⟩
    · have hi : i < ps.length + rs.length := by rw [← hlen]; exact hi
      rcases Nat.lt_or_ge i ps.length with q | q
      · have hd := look_lo (unpack (entys (endEns (parsOf ps) (ressOf rs))) r) ps.length i q
        show RA L I w' _ (look (valsVs ps.length (unpack (entys (endEns (parsOf ps) (ressOf rs))) r)) i) _
        rw [hd]; trivial
      · have hd : (unpack _ r)[i - ps.length]? = some (unpack _ r)[i - ps.length] := List.getElem?_eq_getElem (by omega)
        have := look_vals (unpack _ r) ps.length (i - ps.length)
        rw [hd, show ps.length + (i - ps.length) = i by omega] at this
        show RA L I w' _ (look (valsVs ps.length (unpack (entys (endEns (parsOf ps) (ressOf rs))) r)) i) _
        rw [this]
        refine (one_val (hro _ _ hd)).2 ?_
        rw [Array.getD_eq_getD_getElem?]
        have hxl' : ((unpack (entys (parEns 0 (parsOf ps))) x).map DV.val).length = ps.length := (List.length_map ..).trans hxl
        rw [List.getElem?_toArray, List.getElem?_append_right (by rw [hxl']; exact q), hxl']
        simp [hd]
    · have hi : ps.length + rs.length ≤ i := by rw [← hlen]; exact hi
      show look (valsVs ps.length (unpack _ r)) i = _
      have := look_vals (unpack _ r) ps.length (i - ps.length)
      rw [show ps.length + (i - ps.length) = i by omega, List.getElem?_eq_none (by omega)] at this
      exact this
  · have hl : (parsOf ps).length = ps.length := List.length_map ..
    have hl2 : (ressOf rs).length = rs.length := List.length_map ..
    have at_ : ∀ j, j < rs.length → (((unpack _ x).map DV.val ++ (unpack _ r).map DV.val).toArray).getD (ps.length + j) undef = ((unpack _ r).map DV.val).getD j undef := by
      intro j hj
      have hxl' : ((unpack (entys (parEns 0 (parsOf ps))) x).map DV.val).length = ps.length := (List.length_map ..).trans hxl
      rw [Array.getD_eq_getD_getElem?, List.getElem?_toArray, List.getElem?_append_right (by rw [hxl']; exact Nat.le_add_right ..), List.getD_eq_getElem?_getD, hxl', Nat.add_sub_cancel_left]
    show _ = resV ⟨_, []⟩ (parsOf ps).length (ressOf rs).length
    rw [hl, hl2]
    have hml : ((unpack _ r).map DV.val).length = rs.length := by simp [hrl]
    generalize (unpack _ r).map DV.val = vs at at_ hml
    match vs, hml with
    | [], hml =>
      have : rs.length = 0 := hml.symm
      rw [this]; rfl
    | [v], hml =>
      have : rs.length = 1 := hml.symm
      rw [this]
      exact (at_ 0 (by omega)).symm
    | v :: u :: t, hml =>
      have hz : rs.length = t.length + 1 + 1 := hml.symm
      rw [hz]
      show Value.tuple (v :: u :: t).toArray = Value.tuple ((List.range (t.length + 1 + 1)).map fun j => Array.getD _ (ps.length + j) undef).toArray
      congr 2
      refine List.ext_getElem (by simp) fun i h1 h2 => ?_
      rw [List.getElem_map, List.getElem_range]
      have h1' : i < rs.length := by simp at h1; omega
      rw [at_ i h1', List.getD_eq_getElem?_getD, List.getElem?_eq_getElem h1]; rfl
end AM
end Go.Proofs.YtfjidmppmleajaaDoor
