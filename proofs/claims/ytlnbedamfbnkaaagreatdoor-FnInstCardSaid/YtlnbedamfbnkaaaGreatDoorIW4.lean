/- Library functions over numbers, bools and strings, by their contracts. Under: the contract. And what follows it: see the remarks. -/
import Derived.Test.YtlnbedamfbnkaaaGreatDoorIW3
import Derived.Laws.StructEq
import Derived.WideShapes
import Derived.RowKit
import Derived.WideKeyArgs
import Derived.ChangeOld
import Derived.Lib.LaidTab
import Derived.Sort.Grow
import Derived.Deep.Draws
import Derived.ChangeCalls
namespace Go.Proofs.YtlnbedamfbnkaaaGreatDoor
namespace AM
open Go
set_option linter.unusedSimpArgs false
set_option linter.unusedVariables false
def DV.val:DV → Value
 | ⟨.int k,n⟩ => .int k n
 | ⟨.bool,b⟩ => .bool b
 | ⟨.str,s⟩ => .string s
 | _ => undef
def retVal:List Value → Value
 | [v] => v
 | vs => .tuple vs.toArray
def Ty.one:Ty → Bool
 | .int _ => true
 | .bool => true
 | .str => true
 | _ => false
def parsOf (ts:List Ty):List Par := ts.map fun t => .c (.i t)
def ressOf (ts:List PS):List (Bool×List PS) := ts.map fun p => (false,[p])
def PS.outs:PS → Bool
 | .i t => t.one
 | .e => true
 | _ => false
def Out (p:PS) (d:DV) (v:Value):Prop := match p with
 | .e => ∃ b,d.as .bool = some b ∧ match b with
  | true => ∃ t x,v = .iface t x
  | false => v = .nilIface
 | _ => v = DV.val d
def Outs:List PS → List DV → List Value → Prop
 | [],[],[] => True
 | p :: ps,d :: ds,v :: vs => Out p d v ∧ Outs ps ds vs
 | _,_,_ => False
theorem Outs.len:∀ {ps:List PS} {ds:List DV} {vs:List Value},Outs ps ds vs → ds.length = ps.length ∧ vs.length = ps.length
 | [],[],[],_ => ⟨rfl,rfl⟩
 | _ :: _,_ :: _,_ :: _,h => by obtain ⟨g1,g2⟩ := Outs.len h.2; exact ⟨by simp [g1],by simp [g2]⟩
 | [],[],_ :: _,h => h.elim
 | [],_ :: _,_,h => h.elim
 | _ :: _,[],_,h => h.elim
 | _ :: _,_ :: _,[],h => h.elim
theorem Outs.get:∀ {ps:List PS} {ds:List DV} {vs:List Value},Outs ps ds vs → ∀ {i:Nat} {p:PS} {d:DV},ps[i]? = some p → ds[i]? = some d → ∃ v,vs[i]? = some v ∧ Out p d v
 | [],_,_,_,_,_,_,h,_ => by cases h
 | _ :: _,_ :: _,v :: _,h,0,_,_,e,e2 => by obtain rfl := Option.some.inj e; obtain rfl := Option.some.inj e2; exact ⟨v,rfl,h.1⟩
 | _ :: _,_ :: _,_ :: _,h,i + 1,_,_,e,e2 => Outs.get h.2 (i := i) e e2
 | _ :: _,[],_,h,_,_,_,_,_ => h.elim
 | _ :: _,_ :: _,[],h,_,_,_,_,_ => h.elim
theorem one_val {t:Ty} (h:t.one = true) {x:t.den} {u:Value} {I:Nat → Prop} {w:World}:Rep I w t x [u] ↔ u = DV.val ⟨t,x⟩ := by
 cases t with
 | int k => exact ⟨fun r => List.head_eq_of_cons_eq r,fun e => congrArg (fun v => [v]) e⟩
 | bool => exact ⟨fun r => List.head_eq_of_cons_eq r,fun e => congrArg (fun v => [v]) e⟩
 | str => exact ⟨fun r => List.head_eq_of_cons_eq r,fun e => congrArg (fun v => [v]) e⟩
 | sl t => cases h
 | pr a b => cases h
theorem entys_pars:∀ (ts:List Ty) (k:Nat),entys (parEns k (parsOf ts)) = ts
 | [],_ => rfl
 | t :: ts,k => congrArg (t :: ·) (entys_pars ts (k + 1))
theorem entys_ress:∀ (ts:List PS) (k:Nat),entys (resEns k (ressOf ts)) = ts.map PS.ty
 | [],_ => rfl
 | t :: ts,k => congrArg (t.ty :: ·) (entys_ress ts (k + 1))
theorem outEns_pars:∀ (ts:List Ty) (k:Nat),outEns k (parsOf ts) = []
 | [],_ => rfl
 | t :: ts,k => outEns_pars ts (k + 1)
theorem endEns_pars (ps:List Ty) (rs:List PS):endEns (parsOf ps) (ressOf rs) [] = resEns ps.length (ressOf rs) := by
 unfold endEns
 rw [outEns_pars,List.nil_append,show (parsOf ps).length = ps.length from List.length_map ..,show nbEns (ps.length + (ressOf rs).length) [] = [] from rfl,List.append_nil]
def valsVs:Nat → List DV → List (Nat×AV)
 | _,[] => []
 | k,d :: r => (k, .c (.v d.t d.x)) :: valsVs (k + 1) r
theorem mk_pars:∀ (ts:List Ty) (k:Nat) (ds:List DV),ds.length = ts.length → mkVs (parEns k (parsOf ts)) ds = valsVs k ds ∧ mkBs (parEns k (parsOf ts)) ds = []
 | [],_,[],_ => ⟨rfl,rfl⟩
 | [],_,_ :: _,h => by cases h
 | _ :: _,_,[],h => by cases h
 | t :: ts,k,d :: ds,h => by
  obtain ⟨h1,h2⟩ := mk_pars ts (k + 1) ds (by simpa using h)
  exact ⟨congrArg ((k,AV.c (.v d.t d.x)) :: ·) h1,h2⟩
def outC:PS → DV → CV
 | .e,d => match d.as .bool with
  | some b => .er b
  | none => .dead
 | _,d => .v d.t d.x
def outVs:Nat → List PS → List DV → List (Nat×AV)
 | k,p :: ps,d :: r => (k, .c (outC p d)) :: outVs (k + 1) ps r
 | _,_,_ => []
theorem mk_ress:∀ (ts:List PS) (k:Nat) (ds:List DV),ts.all PS.outs = true → ds.length = ts.length → mkVs (resEns k (ressOf ts)) ds = outVs k ts ds ∧ mkBs (resEns k (ressOf ts)) ds = []
 | [],_,[],_,_ => ⟨rfl,rfl⟩
 | [],_,_ :: _,_,h => by cases h
 | _ :: _,_,[],_,h => by cases h
 | t :: ts,k,d :: ds,ho,h => by
  rw [List.all_cons,Bool.and_eq_true] at ho
  obtain ⟨h1,h2⟩ := mk_ress ts (k + 1) ds ho.2 (by simpa using h)
  have hc:∀ nm,mkCell nm t d = outC t d ∧ mkO nm t d = [] := fun nm => by
   cases t with
   | i t => exact ⟨rfl,rfl⟩
   | e => exact ⟨rfl,rfl⟩
   | _ => cases ho.1
  constructor
  ·show (k,mkV (.val k t) (d :: ds.take 0)) :: mkVs (resEns (k + 1) (ressOf ts)) ds = (k, .c (outC t d)) :: outVs (k + 1) ts ds
   rw [h1]
   congr 2
   exact congrArg AV.c (hc _).1
  ·show (mkO _ t d ++ []) ++ mkBs (resEns (k + 1) (ressOf ts)) ds = []
   rw [h2,(hc _).2]; rfl
theorem look_outs:∀ (ps:List PS) (ds:List DV) (k i:Nat),look (outVs k ps ds) (k + i) = match ps[i]?,ds[i]? with | some p,some d => .c (outC p d) | _,_ => .c .dead
 | [],_,_,_ => rfl
 | p :: ps,[],k,i => by cases (p :: ps)[i]? <;> rfl
 | p :: ps,d :: ds,k,0 => by
  show (bif Nat.beq k k then _ else _) = _
  rw [Nat.beq_refl]; rfl
 | p :: ps,d :: ds,k,i + 1 => by
  show (bif Nat.beq k (k + (i + 1)) then _ else look (outVs (k + 1) ps ds) (k + (i + 1))) = _
  rw [beq_ne (by omega:k ≠ k + (i + 1)),show k + (i + 1) = (k + 1) + i by omega]
  exact look_outs ps ds (k + 1) i
theorem look_lo':∀ (ps:List PS) (ds:List DV) (k i:Nat),i < k → look (outVs k ps ds) i = .c .dead
 | [],_,_,_,_ => rfl
 | _ :: _,[],_,_,_ => rfl
 | p :: ps,d :: ds,k,i,h => by
  show (bif Nat.beq k i then _ else look (outVs (k + 1) ps ds) i) = _
  rw [beq_ne (by omega:k ≠ i)]
  exact look_lo' ps ds (k + 1) i (by omega)
theorem look_vals:∀ (ds:List DV) (k i:Nat),look (valsVs k ds) (k + i) = match ds[i]? with | some d => .c (.v d.t d.x) | none => .c .dead
 | [],_,_ => rfl
 | d :: ds,k,0 => by
  show (bif Nat.beq k k then _ else _) = _
  rw [Nat.beq_refl]; rfl
 | d :: ds,k,i + 1 => by
  show (bif Nat.beq k (k + (i + 1)) then _ else look (valsVs (k + 1) ds) (k + (i + 1))) = _
  rw [beq_ne (by omega:k ≠ k + (i + 1)),show k + (i + 1) = (k + 1) + i by omega]
  exact look_vals ds (k + 1) i
theorem unpack_len:∀ (ts:List Ty) (x:TD ts),(unpack ts x).length = ts.length
 | [],_ => rfl
 | [t],_ => rfl
 | t :: u :: r,x => congrArg (· + 1) (unpack_len (u :: r) x.2)
theorem unpack_t:∀ (ts:List Ty) (x:TD ts) (i:Nat) (d:DV),(unpack ts x)[i]? = some d → ts[i]? = some d.t
 | [],_,_,_,h => by cases h
 | [t],x,0,d,h => by obtain rfl := Option.some.inj h; rfl
 | [t],x,i + 1,d,h => by cases h
 | t :: u :: r,x,0,d,h => by obtain rfl := Option.some.inj h; rfl
 | t :: u :: r,x,i + 1,d,h => unpack_t (u :: r) x.2 i d h
theorem obeys_prim {P:Program} {K:Glob} {f:FuncId} {ps:List Ty} {rs:List PS} (hp:ps.all Ty.one = true) (hr:rs.all PS.outs = true) {g:TD (entys (parEns 0 (parsOf ps))) → Option (TD (entys (endEns (parsOf ps) (ressOf rs) [])))}
  (h:∀ w x r,g x = some r → K.ok w → Calls P f ((unpack _ x).map DV.val).toArray w fun e w' => ∃ vs,e = .returned (retVal vs) ∧ Outs rs (unpack _ r) vs ∧ Step (fun _ _ => False) w w') :
  Obeys P K f { pars := parsOf ps,res := ressOf rs,g := g } := by
 intro Y L I a w x r hx hR hK hY hw
 have hxl:(unpack _ x).length = ps.length := by rw [unpack_len,entys_pars]
 have hrl:(unpack _ r).length = rs.length := by rw [unpack_len,endEns_pars,entys_ress,List.length_map]
 have hN:Y.N = ps.length := hY.trans (List.length_map ..)
 have hxo:∀ (i:Nat) (d:DV),(unpack _ x)[i]? = some d → d.t.one = true := fun i d hd => by
  have := unpack_t _ x i d hd
  rw [entys_pars] at this
  exact List.all_eq_true.1 hp _ (List.mem_of_getElem? this)
 have hro:∀ (i:Nat) (d:DV),(unpack _ r)[i]? = some d → ∃ p,rs[i]? = some p ∧ p.ty = d.t ∧ p.outs = true := fun i d hd => by
  have := unpack_t _ r i d hd
  rw [endEns_pars,entys_ress,List.getElem?_map] at this
  cases e:rs[i]? with
  | none => rw [e] at this; cases this
  | some p => rw [e] at this; exact ⟨p,rfl,Option.some.inj this,List.all_eq_true.1 hr _ (List.mem_of_getElem? e)⟩
 obtain ⟨m1,m2⟩ := mk_pars ps 0 (unpack _ x) hxl
 have htm:a.tmps = ((unpack _ x).map DV.val).toArray := by
  refine Array.ext (by rw [hR.size,hN]; simp [hxl]) fun i hi _ => ?_
  have hi':i < ps.length := by rw [hR.size,hN] at hi; exact hi
  have hs := hR.slot i
  have hd:(unpack _ x)[i]? = some (unpack _ x)[i] := List.getElem?_eq_getElem (by omega)
  have hlk:(mkSt (parEns 0 (parsOf ps)) x).t i = .c (.v ((unpack _ x)[i]).t ((unpack _ x)[i]).x) := by
   show look (mkVs _ _) i = _
   rw [m1]
   have := look_vals (unpack _ x) 0 i
   rw [Nat.zero_add,hd] at this
   exact this
  have hs:RA L I w (AL (mkSt (parEns 0 (parsOf ps)) x).o) ((mkSt (parEns 0 (parsOf ps)) x).t i) (a.tmps.getD i undef) := hs
  rw [hlk] at hs
  have := (one_val (hxo i _ hd)).1 hs
  rw [Array.getD_eq_getD_getElem?,Array.getElem?_eq_getElem hi] at this
  simp only [Option.getD_some] at this
  rw [this]
  simp
 rw [show first (FSum.real { pars := parsOf ps,res := ressOf rs,g := g }) a.tmps = a.tmps from first_all (by unfold FSum.real; rw [hR.size,hY]; exact Nat.le_refl _),htm]
 subst hK
 refine (h w x r hx hR.glob.1).mono fun e w' hp' => ?_
 obtain ⟨vs,rfl,hov,hst⟩ := hp'
 have h1 := hR.grows hst
 have hvl := hov.len.2
 refine ⟨_,L,I,⟨((unpack _ x).map DV.val ++ vs).toArray,[]⟩,rfl, ?_,fun _ _ => rfl, ?_⟩
 ·obtain ⟨k1,k2⟩ := mk_ress rs ps.length (unpack _ r) hr hrl
  have hst2:mkSt (FSum.ens { pars := parsOf ps,res := ressOf rs,g := g }) r = ⟨look (outVs ps.length rs (unpack _ r)),fun _ => none⟩ := by
   show mkD (endEns (parsOf ps) (ressOf rs) []) (unpack _ r) = _
   unfold mkD
   rw [show mkVs (endEns (parsOf ps) (ressOf rs) []) (unpack (entys (endEns (parsOf ps) (ressOf rs) [])) r) = outVs ps.length rs (unpack _ r) by rw [← k1]; congr 1; exact endEns_pars ps rs]
   rw [show mkBs (endEns (parsOf ps) (ressOf rs) []) (unpack (entys (endEns (parsOf ps) (ressOf rs) [])) r) = [] by rw [← k2]; congr 1; exact endEns_pars ps rs]
   rfl
  have hlen:(parsOf ps).length + ((ressOf rs).length + 0) = ps.length + rs.length := by rw [show (parsOf ps).length = ps.length from List.length_map ..,show (ressOf rs).length = rs.length from List.length_map ..]; rfl
  rw [hst2]
  refine ⟨rfl,by simp [hxl,hvl]; exact hlen.symm,fun i hi => ?_,fun i hi => ?_,fun _ _ q => (by cases q),fun _ _ _ _ q => (by cases q),fun _ _ q => (by cases q),h1.imm,h1.sub,h1.step,h1.glob⟩
  ·have hi:i < ps.length + rs.length := by rw [← hlen]; exact hi
   rcases Nat.lt_or_ge i ps.length with q | q
   ·have hd := look_lo' rs (unpack (entys (endEns (parsOf ps) (ressOf rs) [])) r) ps.length i q
    show RA L I w' _ (look (outVs ps.length rs (unpack (entys (endEns (parsOf ps) (ressOf rs) [])) r)) i) _
    rw [hd]; trivial
   ·have hd:(unpack _ r)[i - ps.length]? = some (unpack _ r)[i - ps.length] := List.getElem?_eq_getElem (by omega)
    have := look_outs rs (unpack _ r) ps.length (i - ps.length)
    obtain ⟨p,hp1,hp2,hp3⟩ := hro _ _ hd
    rw [hd,hp1,show ps.length + (i - ps.length) = i by omega] at this
    show RA L I w' _ (look (outVs ps.length rs (unpack (entys (endEns (parsOf ps) (ressOf rs) [])) r)) i) _
    rw [this]
    obtain ⟨v,hv1,hv2⟩ := hov.get hp1 hd
    have hval:(((unpack _ x).map DV.val ++ vs).toArray).getD i undef = v := by
     have hxl':((unpack (entys (parEns 0 (parsOf ps))) x).map DV.val).length = ps.length := (List.length_map ..).trans hxl
     rw [Array.getD_eq_getD_getElem?,List.getElem?_toArray,List.getElem?_append_right (by rw [hxl']; exact q),hxl',hv1]; rfl
    rw [hval]
    cases p with
    | i t =>
     have ht:(unpack _ r)[i - ps.length].t.one = true := by rw [← hp2]; exact hp3
     exact (one_val ht).2 hv2
    | e =>
     obtain ⟨b,hb1,hb2⟩ := hv2
     show RC L I w' _ (match DV.as .bool _ with | some b => .er b | none => .dead) v
     rw [hb1]; exact hb2
    | _ => cases hp3
  ·have hi:ps.length + rs.length ≤ i := by rw [← hlen]; exact hi
   show look (outVs ps.length rs (unpack _ r)) i = _
   have := look_outs rs (unpack _ r) ps.length (i - ps.length)
   rw [show ps.length + (i - ps.length) = i by omega,List.getElem?_eq_none (by omega:rs.length ≤ i - ps.length)] at this
   exact this
 ·have hl:(parsOf ps).length = ps.length := List.length_map ..
  have hl2:(ressOf rs).length = rs.length := List.length_map ..
  have at_:∀ j,j < rs.length → (((unpack _ x).map DV.val ++ vs).toArray).getD (ps.length + j) undef = vs.getD j undef := by
   intro j hj
   have hxl':((unpack (entys (parEns 0 (parsOf ps))) x).map DV.val).length = ps.length := (List.length_map ..).trans hxl
   rw [Array.getD_eq_getD_getElem?,List.getElem?_toArray,List.getElem?_append_right (by rw [hxl']; exact Nat.le_add_right ..),List.getD_eq_getElem?_getD,hxl',Nat.add_sub_cancel_left]
  show _ = resV ⟨_,[]⟩ (parsOf ps).length (ressOf rs).length
  rw [hl,hl2]
  clear hov
  match vs,hvl with
  | [],hml =>
   have:rs.length = 0 := hml.symm
   rw [this]; rfl
  | [v],hml =>
   have:rs.length = 1 := hml.symm
   rw [this]
   exact (at_ 0 (by omega)).symm
  | v :: u :: t,hml =>
   have hz:rs.length = t.length + 1 + 1 := hml.symm
   rw [hz]
   show Value.tuple (v :: u :: t).toArray = Value.tuple ((List.range (t.length + 1 + 1)).map fun j => Array.getD _ (ps.length + j) undef).toArray
   congr 2
   refine List.ext_getElem (by simp) fun i h1 h2 => ?_
   rw [List.getElem_map,List.getElem_range]
   have h1':i < rs.length := by simp at h1; omega
   rw [at_ i h1',List.getD_eq_getElem?_getD,List.getElem?_eq_getElem h1]; rfl
theorem outs_i:∀ {rs:List Ty} {ds:List DV},ds.length = rs.length → Outs (rs.map .i) ds (ds.map DV.val)
 | [],[],_ => trivial
 | [],_ :: _,h => by cases h
 | _ :: _,[],h => by cases h
 | _ :: rs,_ :: ds,h => ⟨rfl,outs_i (rs := rs) (ds := ds) (by simpa using h)⟩
theorem obeys_plain {P:Program} {K:Glob} {f:FuncId} {ps rs:List Ty} (hp:ps.all Ty.one = true) (hr:rs.all Ty.one = true) {g:TD (entys (parEns 0 (parsOf ps))) → Option (TD (entys (endEns (parsOf ps) (ressOf (rs.map .i)) [])))}
  (h:∀ w x r,g x = some r → K.ok w → Calls P f ((unpack _ x).map DV.val).toArray w fun e w' => e = .returned (retVal ((unpack _ r).map DV.val)) ∧ Step (fun _ _ => False) w w') :
  Obeys P K f { pars := parsOf ps,res := ressOf (rs.map .i),g := g } := by
 refine obeys_prim hp (by rw [List.all_map]; exact hr) fun w x r hx hw => (h w x r hx hw).mono fun e w' hq => ⟨_,hq.1, ?_,hq.2⟩
 exact outs_i (by rw [unpack_len,endEns_pars,entys_ress,List.length_map,List.length_map])
def zvB:Ty → List Value → Option (List Value)
 | .int k,vs => match vs with
  | .int l n :: r => if l = k ∧ n = 0 then some r else none
  | _ => none
 | .bool,vs => match vs with
  | .bool false :: r => some r
  | _ => none
 | .str,vs => match vs with
  | .string s :: r => bif Nat.beq s.size 0 then some r else none
  | _ => none
 | .sl _,vs => match vs with
  | .slice none 0 0 :: r => some r
  | _ => none
 | .pr a b,vs => match zvB a vs with
  | some r => zvB b r
  | none => none
theorem zvB_sound:∀ (t:Ty) {vs r:List Value},zvB t vs = some r → vs = zvals t ++ r
 | .int k,vs,r,h => by
  simp only [zvB] at h
  split at h
  ·split at h
   ·rename_i e; obtain ⟨rfl,rfl⟩ := e; obtain rfl := Option.some.inj h; rfl
   ·cases h
  ·cases h
 | .bool,vs,r,h => by
  simp only [zvB] at h
  split at h
  ·obtain rfl := Option.some.inj h; rfl
  ·cases h
 | .str,vs,r,h => by
  simp only [zvB] at h
  split at h
  ·rename_i s r'
   cases q:Nat.beq s.size 0 with
   | false => rw [q] at h; cases h
   | true =>
    rw [q] at h
    obtain rfl := Option.some.inj h
    have:s = ⟨#[]⟩ := by
     have := Nat.eq_of_beq_eq_true q
     obtain ⟨d⟩ := s
     obtain ⟨l⟩ := d
     cases l with
     | nil => rfl
     | cons x l => simp [ByteArray.size] at this
    rw [this]; rfl
  ·cases h
 | .sl t,vs,r,h => by
  simp only [zvB] at h
  split at h
  ·obtain rfl := Option.some.inj h; rfl
  ·cases h
 | .pr a b,vs,r,h => by
  simp only [zvB] at h
  split at h
  ·rename_i r1 h1
   rw [zvB_sound a h1,zvB_sound b h]
   simp [zvals]
  ·cases h
def zsB:List Z → List Value → Bool
 | [],[] => true
 | .t x :: zs,vs => match zvB x vs with
  | some r => zsB zs r
  | none => false
 | .ptr :: zs, .pointer none :: vs => zsB zs vs
 | .fn :: zs, .nilFunc :: vs => zsB zs vs
 | .ifc :: zs, .nilIface :: vs => zsB zs vs
 | _,_ => false
theorem zsB_sound:∀ {zs:List Z} {vs:List Value},zsB zs vs = true → vs = zs.flatMap Z.vals
 | [],[],_ => rfl
 | [],_ :: _,h => by cases h
 | .t x :: zs,vs,h => by
  unfold zsB at h
  split at h
  ·rename_i r e
   rw [zvB_sound x e,zsB_sound h]; rfl
  ·cases h
 | .ptr :: zs,[],h => by cases h
 | .fn :: zs,[],h => by cases h
 | .ifc :: zs,[],h => by cases h
 | .ptr :: zs,v :: vs,h => by
  cases v <;> try (simp [zsB] at h; done)
  rename_i q
  cases q <;> first | (simp [zsB] at h; done) | (rw [zsB_sound (show zsB zs vs = true from h)]; rfl)
 | .fn :: zs,v :: vs,h => by
  cases v <;> first | (simp [zsB] at h; done) | (rw [zsB_sound (show zsB zs vs = true from h)]; rfl)
 | .ifc :: zs,v :: vs,h => by
  cases v <;> first | (simp [zsB] at h; done) | (rw [zsB_sound (show zsB zs vs = true from h)]; rfl)
def isAggD:TypeDesc → Bool
 | .struct _ => true
 | .array _ _ => true
 | _ => false
def aggB (P:Program) (t:TypeId) (b:Bool):Bool := match P.underlying t with
 | some d => bif isAggD d then b else !b
 | none => false
theorem aggB_sound {P:Program} {t:TypeId} {b:Bool} (h:aggB P t b = true) (w:World):(isAgg t).run P w = .ok b w := by
 unfold aggB at h
 split at h
 ·rename_i d hd
  simp only [isAgg,Sem.run_bind,run_underlying hd,Result.andThen_ok]
  cases d <;> cases b <;> first | rfl | (cases h; done)
 ·cases h
def fieldsB (P:Program):List Field → List (Nat×Nat×Bool) → Bool
 | [],[] => true
 | f :: fs,x :: xs => Nat.beq f.offset x.1 && (Nat.blt 0 x.2.1 && ((match P.info? f.type with | some i => Nat.beq i.size x.2.1 | none => false) && (aggB P f.type x.2.2 && fieldsB P fs xs)))
 | _,_ => false
theorem fieldsB_sound {P:Program}:∀ {fs:List Field} {xs:List (Nat×Nat×Bool)},fieldsB P fs xs = true → fs.length = xs.length ∧ ∀ (i:Nat) (x:Nat×Nat×Bool),xs[i]? = some x → ∃ fd:Field,fs[i]? = some fd ∧ fd.offset = x.1 ∧ x.2.1 ≠ 0 ∧
  (∀ w,(sizeOf fd.type).run P w = .ok x.2.1 w) ∧ (∀ w,(isAgg fd.type).run P w = .ok x.2.2 w)
 | [],[],_ => ⟨rfl,fun _ _ h => by cases h⟩
 | [],_ :: _,h => by cases h
 | _ :: _,[],h => by cases h
 | f :: fs,x :: xs,h => by
  unfold fieldsB at h
  simp only [Bool.and_eq_true] at h
  obtain ⟨h1,h2,h3,h4,h5⟩ := h
  obtain ⟨g1,g2⟩ := fieldsB_sound h5
  refine ⟨by simp [g1],fun i y hy => ?_⟩
  cases i with
  | zero =>
   obtain rfl := Option.some.inj hy
   refine ⟨f,rfl,Nat.eq_of_beq_eq_true h1,by have := Nat.le_of_ble_eq_true h2; omega,fun w => ?_,aggB_sound h4⟩
   split at h3
   ·rename_i i hi
    rw [← Nat.eq_of_beq_eq_true h3]
    simp [sizeOf,typeInfo,hi]
   ·cases h3
  | succ i => exact g2 i y hy
def eqB (P:Program):Nat → List Field → List Ty → Bool
 | _,[],[] => true
 | k,f :: fs,t :: ts => Nat.beq f.offset k && ((f.name != "_") && ((match P.info? f.type with | some i => Nat.beq i.size 1 | none => false) && (aggB P f.type false && ((match P.underlying f.type,t with
   | some (.int k1), .int k2 => decide (k1 = k2)
   | some .bool, .bool => true
   | some .string, .str => true
   | _,_ => false) && eqB P (k + 1) fs ts))))
 | _,_,_ => false
theorem run_part1 {P:Program} {w:World} {t:TypeId} {i:TypeInfo} (hi:P.info? t = some i) (hs:i.size = 1) (ha:aggB P t false = true) {xs:Array Value} {off:Nat} {v:Value} (hx:xs[off]? = some v):(Go.part t xs off).run P w = .ok v w := by
 have h1:∀ w,(sizeOf t).run P w = .ok 1 w := fun w => by simp [sizeOf,typeInfo,hi,hs]
 have h2 := aggB_sound ha
 have hlt := (Array.getElem?_eq_some_iff.1 hx).1
 obtain ⟨hlt,hv⟩ := Array.getElem?_eq_some_iff.1 hx
 unfold Go.part
 simp [h1,h2,Result.andThen]
 simp [hx,hlt,hv]
theorem eqB_sound {P:Program} {d:Nat} {w:World} {xs ys:Array Value}:∀ {k:Nat} {fs:List Field} {ts:List Ty} {us vs:List Value} {e:Bool},eqB P k fs ts = true → eqVals ts us vs = some e → xs.toList.drop k = us → ys.toList.drop k = vs →
  (Op.eqFields (d + 1) xs ys fs).run P w = .ok e w
 | _,[],[],us,vs,e,_,he,_,_ => by
  cases us with
  | nil => cases vs with
   | nil => obtain rfl := Option.some.inj he; simp [Op.eqFields]
   | cons _ _ => cases he
  | cons _ _ => cases he
 | _,[],_ :: _,_,_,_,h,_,_,_ => by cases h
 | _,_ :: _,[],_,_,_,h,_,_,_ => by cases h
 | k,f :: fs,t :: ts,us,vs,e,h,he,hu,hv => by
  unfold eqB at h
  simp only [Bool.and_eq_true] at h
  obtain ⟨h1,h2,h3,h4,h5,h6⟩ := h
  have h1 := Nat.eq_of_beq_eq_true h1
  have hname:f.name ≠ "_" := by simpa using h2
  split at h3
  case h_2 => cases h3
  rename_i i hi
  have hs := Nat.eq_of_beq_eq_true h3
  have next:∀ {zs:Array Value} {z:Value} {zl:List Value},zs.toList.drop k = z :: zl → zs[f.offset]? = some z ∧ zs.toList.drop (k + 1) = zl := by
   intro zs z zl q
   have g := congrArg (fun l => l[0]?) q
   simp at g
   refine ⟨by rw [h1]; simpa using g, ?_⟩
   rw [← List.drop_drop,q]; rfl
  have fin:∀ {u v:Value} {ul vl:List Value} {b e':Bool},us = u :: ul → vs = v :: vl → (Op.equalIn (d + 1) f.type u v).run P w = .ok b w → eqVals ts ul vl = some e' → e = (b && e') → (Op.eqFields (d + 1) xs ys (f :: fs)).run P w = .ok e w := by
   intro u v ul vl b e' eu ev hb hr hE
   obtain ⟨n1,n2⟩ := next (hu.trans eu)
   obtain ⟨n3,n4⟩ := next (hv.trans ev)
   have ih := eqB_sound (d := d) (w := w) h6 hr n2 n4
   have p1 := run_part1 (P := P) (w := w) hi hs h4 n1
   have p2 := run_part1 (P := P) (w := w) hi hs h4 n3
   unfold Op.eqFields
   rw [if_pos hname]
   simp only [Sem.run_bind,p1,Result.andThen_ok,p2,hb]
   cases b with
   | true => simp [ih,hE]
   | false => simp [hE]
  cases us with
  | nil => cases t <;> simp [eqVals] at he
  | cons u ul =>
   cases vs with
   | nil => cases t <;> cases u <;> simp [eqVals] at he
   | cons v vl =>
    cases t with
    | int q =>
     cases u <;> try (simp [eqVals] at he; done)
     cases v <;> try (simp [eqVals] at he; done)
     simp only [eqVals] at he
     split at he
     ·rename_i hk
      obtain ⟨rfl,rfl⟩ := hk
      split at he
      ·rename_i e' hr
       split at h5
       ·exact fin rfl rfl (run_equalIn_int _ _ _ _ _ _ _ ‹_›) hr (Option.some.inj he).symm
       ·rename_i q1; cases q1
       ·rename_i q1; cases q1
       ·cases h5
      ·cases he
     ·cases he
    | bool =>
     cases u <;> try (simp [eqVals] at he; done)
     cases v <;> try (simp [eqVals] at he; done)
     simp only [eqVals] at he
     split at he
     ·rename_i e' hr
      split at h5
      ·rename_i q1; cases q1
      ·exact fin rfl rfl (run_equalIn_bool' _ _ _ _ _ ‹_›) hr (Option.some.inj he).symm
      ·rename_i q1; cases q1
      ·cases h5
     ·cases he
    | str =>
     cases u <;> try (simp [eqVals] at he; done)
     cases v <;> try (simp [eqVals] at he; done)
     simp only [eqVals] at he
     split at he
     ·rename_i e' hr
      split at h5
      ·rename_i q1; cases q1
      ·rename_i q1; cases q1
      ·rename_i hu5 _
       have key:∀ a b,(Op.equalIn (d + 1) f.type (.string a) (.string b)).run P w = .ok (strEq a b) w := fun a b => by rw [← strEq_toList]; exact run_equalIn_string w d f.type a b hu5
       exact fin rfl rfl (key _ _) hr (Option.some.inj he).symm
      ·cases h5
     ·cases he
    | sl _ => simp [eqVals] at he
    | pr _ _ => simp [eqVals] at he
def ckLoop (e:Bool) (d:Nat) (xs:Array Value) (fs:List Field):Sem PUnit :=
 forIn (m := Sem) fs PUnit.unit (fun f _ => do
   if f.name ≠ "_" then do
    let __do_lift ← Go.part f.type xs f.offset
    Instr.checkKey e (d + 1) f.type __do_lift
    pure (ForInStep.yield PUnit.unit)
   else pure (ForInStep.yield PUnit.unit))
theorem ckF_sound {P:Program} {d:Nat} {e:Bool} {w:World} {xs:Array Value}:∀ {k:Nat} {fs:List Field} {ts:List Ty} {us vs:List Value} {b:Bool},eqB P k fs ts = true → eqVals ts us vs = some b → xs.toList.drop k = us →
  (ckLoop e d xs fs).run P w = .ok PUnit.unit w
 | _,[],_,_,_,_,_,_,_ => by simp [ckLoop]
 | _,_ :: _,[],_,_,_,h,_,_ => by cases h
 | k,f :: fs,t :: ts,us,vs,b,h,he,hu => by
  unfold eqB at h
  simp only [Bool.and_eq_true] at h
  obtain ⟨h1,h2,h3,h4,h5,h6⟩ := h
  have h1 := Nat.eq_of_beq_eq_true h1
  have hname:f.name ≠ "_" := by simpa using h2
  split at h3
  case h_2 => cases h3
  rename_i i hi
  have hs := Nat.eq_of_beq_eq_true h3
  have fin:∀ {u:Value} {ul vl:List Value} {b':Bool} {D:TypeDesc},us = u :: ul → eqVals ts ul vl = some b' → P.underlying f.type = some D → (∀ w,(Instr.checkKey e (d + 1) f.type u).run P w = .ok () w) → (ckLoop e d xs (f :: fs)).run P w = .ok PUnit.unit w := by
   intro u ul vl b' D eu hr _ hck
   have hu' := hu.trans eu
   have g:xs[f.offset]? = some u ∧ xs.toList.drop (k + 1) = ul := by
    have g := congrArg (fun l => l[0]?) hu'
    simp at g
    refine ⟨by rw [h1]; simpa using g, ?_⟩
    rw [← List.drop_drop,hu']; rfl
   have ih := ckF_sound (d := d) (e := e) (w := w) h6 hr g.2
   have p1 := run_part1 (P := P) (w := w) hi hs h4 g.1
   unfold ckLoop at ih ⊢
   rw [List.forIn_cons]
   simp only [Sem.run_bind,if_pos hname,p1,Result.andThen_ok,hck,Sem.run_pure]
   exact ih
  cases us with
  | nil => cases t <;> simp [eqVals] at he
  | cons u ul =>
   cases vs with
   | nil => cases t <;> cases u <;> simp [eqVals] at he
   | cons v vl =>
    have ckp:∀ {D:TypeDesc},P.underlying f.type = some D → (D = .bool ∨ D = .string ∨ ∃ q,D = .int q) → ∀ w,(Instr.checkKey e (d + 1) f.type u).run P w = .ok () w := by
     intro D hD hc w
     rcases hc with rfl | rfl | ⟨q,rfl⟩ <;> simp [Instr.checkKey,run_underlying hD]
    cases t with
    | int q =>
     cases u <;> try (simp [eqVals] at he; done)
     cases v <;> try (simp [eqVals] at he; done)
     simp only [eqVals] at he
     split at he
     ·split at he
      ·rename_i e' hr
       split at h5
       ·exact fin rfl hr ‹_› (ckp ‹_› (.inr (.inr ⟨_,rfl⟩)))
       ·rename_i q1; cases q1
       ·rename_i q1; cases q1
       ·cases h5
      ·cases he
     ·cases he
    | bool =>
     cases u <;> try (simp [eqVals] at he; done)
     cases v <;> try (simp [eqVals] at he; done)
     simp only [eqVals] at he
     split at he
     ·rename_i e' hr
      split at h5
      ·rename_i q1; cases q1
      ·exact fin rfl hr ‹_› (ckp ‹_› (.inl rfl))
      ·rename_i q1; cases q1
      ·cases h5
     ·cases he
    | str =>
     cases u <;> try (simp [eqVals] at he; done)
     cases v <;> try (simp [eqVals] at he; done)
     simp only [eqVals] at he
     split at he
     ·rename_i e' hr
      split at h5
      ·rename_i q1; cases q1
      ·rename_i q1; cases q1
      ·exact fin rfl hr ‹_› (ckp ‹_› (.inr (.inl rfl)))
      ·cases h5
     ·cases he
    | sl _ => simp [eqVals] at he
    | pr _ _ => simp [eqVals] at he
def tiB (P:Program) (t:Nat) (ti:TI):Bool :=
 (match P.info? t with
  | some i => Nat.beq i.size ti.size && (Nat.beq i.bytes ti.bytes && (match ti.ty with
   | some ty => Nat.beq ty.sz ti.size && (match i.zero with
    | some z => (match zvB ty z.cells.toList with | some [] => true | _ => false)
    | none => false)
   | none => true))
  | none => false) &&
 (aggB P t ti.agg &&
 ((match P.underlying t with
  | some (.int k) => !Nat.beq ti.kind 1 || decide (k = ti.ik)
  | _ => !Nat.beq ti.kind 1) &&
 ((match P.underlying t with
  | some (.struct fs) => !Nat.beq ti.kind 2 || fieldsB P fs.toList ti.fs
  | _ => !Nat.beq ti.kind 2) &&
 ((match P.underlying t with
  | some (.slice e) => !Nat.beq ti.kind 3 || Nat.beq e ti.el
  | _ => !Nat.beq ti.kind 3) &&
 ((match P.underlying t with
  | some (.array n e) => !Nat.beq ti.kind 4 || (Nat.beq e ti.el && (match P.info? e with | some i => Nat.beq ti.size (n * i.size) | none => true))
  | _ => !Nat.beq ti.kind 4) &&
 ((match P.underlying t with
  | some .string => true
  | _ => !Nat.beq ti.kind 5) &&
 ((match P.underlying t with
  | some .bool => true
  | _ => !Nat.beq ti.kind 6) &&
 ((match P.underlying t with
  | some (.interface _) => true
  | _ => !Nat.beq ti.kind 7) &&
 ((match P.underlying t with
  | some (.pointer _) => true
  | _ => !Nat.beq ti.kind 8) &&
 ((match P.underlying t with
  | some (.map ky e) => !Nat.beq ti.kind 9 || (Nat.beq ky ti.ky && Nat.beq e ti.el)
  | _ => !Nat.beq ti.kind 9) &&
 ((!Nat.beq ti.kind 1 || (match P.info? t with
   | some i => (match i.zero with
    | some (.int k n) => decide (k = ti.ik ∧ n = 0)
    | _ => false)
   | none => false)) &&
 ((match ti.zs with
  | none => true
  | some zs => (match P.info? t with
   | some i => (match i.zero with
    | some z => zsB zs z.cells.toList
    | none => false)
   | none => false)) &&
 (match ti.eqs with
  | none => true
  | some ts => !P.stoodInHeld t && (!P.eqGuardType P.depth t && (match P.underlying t with
   | some (.struct fs) => eqB P 0 fs.toList ts
   | _ => false)))))))))))))))
theorem tiB_sound {P:Program} {t:Nat} {ti:TI} (h:tiB P t ti = true):TIok P t ti := by
 unfold tiB at h
 simp only [Bool.and_eq_true] at h
 obtain ⟨h1,h2,h3,h4,h5,h6,h7,h8,hi7,hi8,hi9,hz1,hzs,h9⟩ := h
 have nk:∀ {k:Nat},ti.kind = k → (!Nat.beq ti.kind k) = true → False := by
  intro k e q; rw [e] at q; simp [Nat.beq_refl] at q
 refine ⟨?_,fun zs e => ?_,aggB_sound h2, ?_,fun e => ?_,fun e => ?_,fun e => ?_,fun e => ?_,fun e => ?_,fun e => ?_,fun e => ?_,fun e => ?_,fun e => ?_,fun e => ?_,fun ts e em w xs ys b hb => ?_,fun ts e w xs ys b hb => ?_⟩
 ·split at h1
  ·rename_i i hi
   simp only [Bool.and_eq_true] at h1
   obtain ⟨g1,g2,g3⟩ := h1
   refine ⟨i,hi,Nat.eq_of_beq_eq_true g1,Nat.eq_of_beq_eq_true g2,fun ty hty => ?_⟩
   rw [hty] at g3
   dsimp only at g3
   rw [Bool.and_eq_true] at g3
   refine ⟨Nat.eq_of_beq_eq_true g3.1, ?_⟩
   have g4 := g3.2
   split at g4
   ·rename_i z hz
    refine ⟨z,hz, ?_⟩
    split at g4
    ·rename_i hzv
     have := zvB_sound ty hzv
     rw [List.append_nil] at this
     rw [← this]
    ·cases g4
   ·cases g4
  ·cases h1
 ·rw [e] at hzs
  dsimp only at hzs
  split at hzs
  ·rename_i i hi
   split at hzs
   ·rename_i z hz
    exact ⟨i,z,hi,hz,by rw [← zsB_sound hzs]⟩
   ·cases hzs
  ·cases hzs
 ·unfold aggB at h2
  split at h2
  ·rename_i d hd; rw [hd]; rfl
  ·cases h2
 ·split at h3
  ·rename_i k hk
   rcases Bool.or_eq_true _ _ |>.mp h3 with q | q
   ·exact (nk e q).elim
   ·rw [hk,of_decide_eq_true q]
  ·exact (nk e h3).elim
 ·split at h4
  ·rename_i fs hfs
   rcases Bool.or_eq_true _ _ |>.mp h4 with q | q
   ·exact (nk e q).elim
   ·obtain ⟨g1,g2⟩ := fieldsB_sound q
    refine ⟨fs,hfs,by simpa using g1,fun f x hx => ?_⟩
    obtain ⟨fd,k1,k2⟩ := g2 f x hx
    exact ⟨fd,by simpa using k1,k2⟩
  ·exact (nk e h4).elim
 ·split at h5
  ·rename_i el hel
   rcases Bool.or_eq_true _ _ |>.mp h5 with q | q
   ·exact (nk e q).elim
   ·rw [hel,Nat.eq_of_beq_eq_true q]
  ·exact (nk e h5).elim
 ·split at h6
  ·rename_i n el hel
   rcases Bool.or_eq_true _ _ |>.mp h6 with q | q
   ·exact (nk e q).elim
   ·rw [Bool.and_eq_true] at q
    have q1 := Nat.eq_of_beq_eq_true q.1
    refine ⟨n,by rw [hel,q1],fun i hi => ?_⟩
    have q2 := q.2
    rw [q1,hi] at q2
    exact Nat.eq_of_beq_eq_true q2
  ·exact (nk e h6).elim
 ·split at h7
  ·assumption
  ·exact (nk e h7).elim
 ·split at h8
  ·assumption
  ·exact (nk e h8).elim
 ·split at hi7
  ·rename_i ms hms; exact ⟨ms,hms⟩
  ·exact (nk e hi7).elim
 ·split at hi8
  ·rename_i ms hms; exact ⟨ms,hms⟩
  ·exact (nk e hi8).elim
 ·split at hi9
  ·rename_i ky el hel
   rcases Bool.or_eq_true _ _ |>.mp hi9 with q | q
   ·exact (nk e q).elim
   ·rw [Bool.and_eq_true] at q
    rw [hel,Nat.eq_of_beq_eq_true q.1,Nat.eq_of_beq_eq_true q.2]
  ·exact (nk e hi9).elim
 ·rcases Bool.or_eq_true _ _ |>.mp hz1 with q | q
  ·exact (nk e q).elim
  ·split at q
   ·rename_i i hi
    split at q
    ·rename_i k n hz
     obtain ⟨rfl,rfl⟩ := of_decide_eq_true q
     exact ⟨i,hi,hz⟩
    ·cases q
   ·cases q
 ·rw [e] at h9
  dsimp only at h9
  simp only [Bool.and_eq_true,Bool.not_eq_true'] at h9
  obtain ⟨g1,g2,g3⟩ := h9
  split at g3
  ·rename_i fs hfs
   show (Instr.checkKey em (9999 + 1) t (.agg xs.toArray)).run P w = _
   unfold Instr.checkKey
   simp only [Sem.run_bind,run_underlying hfs,Result.andThen_ok]
   rw [← Array.forIn_toList]
   have hck := ckF_sound (d := 9998) (e := em) (w := w) (xs := xs.toArray) g3 hb (by simp)
   unfold ckLoop at hck
   rw [hck]; rfl
  ·cases g3
 ·rw [e] at h9
  dsimp only at h9
  simp only [Bool.and_eq_true,Bool.not_eq_true'] at h9
  obtain ⟨g1,g2,g3⟩ := h9
  split at g3
  ·rename_i fs hfs
   have hfo:P.fieldsOf t = fs := by simp [Program.fieldsOf,hfs]
   refine ⟨?_,fun op x y => run_eqGuard_agg _ op t x y _ _ g2⟩
   show (Op.equalIn (9999 + 1) t (.agg xs.toArray) (.agg ys.toArray)).run P w = _
   rw [run_equalIn_struct w 9999 t _ _ (by rw [hfo]; exact hfs) g1,hfo]
   exact eqB_sound (d := 9998) g3 hb (by simp) (by simp)
  ·cases g3
def tabB (P:Program):Tab → Bool
 | [] => true
 | p :: r => tiB P p.1 p.2 && tabB P r
theorem tabB_sound {P:Program}:∀ {τ:Tab},tabB P τ = true → TabOk P τ
 | [],_,_,_,e => by cases e
 | p :: r,h,t,ti,e => by
  unfold tabB at h
  rw [Bool.and_eq_true] at h
  unfold Tab.get at e
  cases q:Nat.beq p.1 t with
  | true =>
   rw [q] at e
   have := Nat.eq_of_beq_eq_true q
   obtain rfl := Option.some.inj e
   rw [← this]; exact tiB_sound h.1
  | false => rw [q] at e; exact tabB_sound h.2 t ti e
def loopsIn:Code → List Code
 | .seq a b => loopsIn a ++ loopsIn b
 | .cond _ a b => loopsIn a ++ loopsIn b
 | .block _ c => loopsIn c
 | .loop c => c :: loopsIn c
 | _ => []
def Looped (E:Env) (c:Code):Prop := ∀ S,E.Λ (key c) = some S → ∃ f:Nat → TD (entys S.ent) → Option (EX S.exs),(∀ x,f 0 x = none) ∧ (∃ n,S.g = f n) ∧ ∀ n x,f (n + 1) x = runL E c S (f n) x
def regsIn:Code → List (Nat×Array Oper)
 | .region id ops _ => [(id,ops)]
 | .seq a b => regsIn a ++ regsIn b
 | .cond _ a b => regsIn a ++ regsIn b
 | .block _ c => regsIn c
 | .loop c => regsIn c
 | _ => []
theorem loopsOk_mem {E:Env}:∀ c:Code,(∀ b ∈ loopsIn c,Looped E b) → (∀ p ∈ regsIn c,RegOk E p.1 p.2) → LoopsOk E c := by
 intro c
 induction c with
 | seq a b iha ihb => exact fun h g => ⟨iha (fun x hx => h x (List.mem_append_left _ hx)) fun x hx => g x (List.mem_append_left _ hx),ihb (fun x hx => h x (List.mem_append_right _ hx)) fun x hx => g x (List.mem_append_right _ hx)⟩
 | cond _ a b iha ihb => exact fun h g => ⟨iha (fun x hx => h x (List.mem_append_left _ hx)) fun x hx => g x (List.mem_append_left _ hx),ihb (fun x hx => h x (List.mem_append_right _ hx)) fun x hx => g x (List.mem_append_right _ hx)⟩
 | block _ c ih => exact fun h g => ih h g
 | loop c ih => exact fun h g => ⟨ih (fun x hx => h x (List.mem_cons_of_mem _ hx)) g,h c (List.mem_cons_self ..)⟩
 | region id ops d => exact fun _ g => g (id,ops) (List.mem_singleton.2 rfl)
 | _ => exact fun _ _ => trivial
def regAt (c:Code) (id:Nat):List Oper := match (regsIn c).find? (fun p => Nat.beq p.1 id) with
 | some p => p.2.toList
 | none => []
def nodupNat:List Nat → Bool
 | [] => true
 | n :: r => !memNat n r && nodupNat r
theorem find_uniq {β:Type}:∀ {l:List (Nat×β)},nodupNat (l.map Prod.fst) = true → ∀ p ∈ l,l.find? (fun q => Nat.beq q.1 p.1) = some p
 | [],_,_,h => by cases h
 | q :: l,hn,p,h => by
  unfold nodupNat at hn
  simp only [List.map_cons,Bool.and_eq_true,Bool.not_eq_true'] at hn
  rcases List.mem_cons.1 h with rfl | h
  ·rw [List.find?_cons,Nat.beq_refl]
  ·have:Nat.beq q.1 p.1 = false := by
    cases z:Nat.beq q.1 p.1 with
    | false => rfl
    | true =>
     have hm:memNat q.1 (l.map Prod.fst) = true := memNat_iff.2 (by rw [Nat.eq_of_beq_eq_true z]; exact List.mem_map.2 ⟨p,h,rfl⟩)
     rw [hn.1] at hm; cases hm
   rw [List.find?_cons,this]
   exact find_uniq hn.2 p h
theorem regs_at {E:Env} {c:Code} (hn:nodupNat ((regsIn c).map Prod.fst) = true) (h:∀ id S,E.Ω id = some S → aftOk (regAt c id) = true ∧ ∀ x y,S.g x = some y → ∀ π ∈ exts (regAt c id),opsK E (regAt c id) (opsOf (regAt c id) π) (mkSt S.ent x) (fun s' => getEns E.N S.out s') = some y):∀ p ∈ regsIn c,RegOk E p.1 p.2 := by
 intro p hp S hS
 have hr:regAt c p.1 = p.2.toList := by unfold regAt; rw [find_uniq hn p hp]
 rw [← hr]
 exact h p.1 S hS
def loopAt (c:Code) (i:Nat):Code := (loopsIn c).getD i .skip
def bodyOf (fn:Func):Code := fn.body.getD .skip
theorem loopsOk_of {E:Env} {c:Code} (k:Nat) (hk:(loopsIn c).length = k) (h:∀ i,i < k → Looped E (loopAt c i)) (hR:∀ p ∈ regsIn c,RegOk E p.1 p.2):LoopsOk E c := by
 refine loopsOk_mem c (fun b hb => ?_) hR
 obtain ⟨i,hi⟩ := List.getElem?_of_mem hb
 have hlt:i < k := by rw [← hk]; exact (List.getElem?_eq_some_iff.1 hi).1
 have := h i hlt
 unfold loopAt at this
 rw [List.getD_eq_getElem?_getD,hi] at this
 exact this
theorem looped {E:Env} {c:Code} {S:LSum} (hS:E.Λ (key c) = some S) (f:Nat → TD (entys S.ent) → Option (EX S.exs)) (h0:∀ x,f 0 x = none) (n:Nat) (hn:S.g = f n) (hs:∀ m x,f (m + 1) x = runL E c S (f m) x):Looped E c := by
 intro S' hS'
 rw [hS] at hS'
 obtain rfl := Option.some.inj hS'
 exact ⟨f,h0,⟨n,hn⟩,hs⟩
def gl1:List (Nat×FSum) → Nat → Option FSum
 | [],_ => none
 | p :: r,f => bif Nat.beq p.1 f then some p.2 else gl1 r f
def gl2:List ((Nat×Nat)×FSum) → Nat → Nat → Option FSum
 | [],_,_ => none
 | p :: r,f,d => bif Nat.beq p.1.1 f && Nat.beq p.1.2 d then some p.2 else gl2 r f d
def gl (l:List (Nat×FSum)) (l2:List ((Nat×Nat)×FSum)) (f d:Nat):Option FSum :=
 match gl2 l2 f d with
 | some S => some S
 | none => gl1 l f
def Good (P:Program) (K:Glob) (p:Nat×FSum):Prop := Plain P p.1 ∧ Obeys P K p.1 p.2
def Goods (P:Program) (K:Glob):List (Nat×FSum) → Prop
 | [] => True
 | p :: r => Good P K p ∧ Goods P K r
def Goods2 (P:Program) (K:Glob):List ((Nat×Nat)×FSum) → Prop
 | [] => True
 | p :: r => Good P K (p.1.1,p.2) ∧ Goods2 P K r
theorem gl1_good {P:Program} {K:Glob}:∀ {l:List (Nat×FSum)},Goods P K l → ∀ f S,gl1 l f = some S → Plain P f ∧ Obeys P K f S
 | [],_,_,_,h => by cases h
 | p :: r,⟨h1,h2⟩,f,S,h => by
  unfold gl1 at h
  cases q:Nat.beq p.1 f with
  | true =>
   rw [q] at h
   obtain rfl := Option.some.inj h
   rw [← Nat.eq_of_beq_eq_true q]
   exact h1
  | false => rw [q] at h; exact gl1_good h2 f S h
theorem gl2_good {P:Program} {K:Glob}:∀ {l:List ((Nat×Nat)×FSum)},Goods2 P K l → ∀ f d S,gl2 l f d = some S → Plain P f ∧ Obeys P K f S
 | [],_,_,_,_,h => by cases h
 | p :: r,⟨h1,h2⟩,f,d,S,h => by
  unfold gl2 at h
  cases q:(Nat.beq p.1.1 f && Nat.beq p.1.2 d) with
  | true =>
   rw [q] at h
   obtain rfl := Option.some.inj h
   rw [Bool.and_eq_true] at q
   rw [← Nat.eq_of_beq_eq_true q.1]
   exact h1
  | false => rw [q] at h; exact gl2_good h2 f d S h
theorem gl_good {P:Program} {K:Glob} {l:List (Nat×FSum)} {l2:List ((Nat×Nat)×FSum)} (h1:Goods P K l) (h2:Goods2 P K l2) (f d:Nat) (S:FSum) (h:gl l l2 f d = some S):Plain P f ∧ Obeys P K f S := by
 unfold gl at h
 split at h
 ·rename_i S' e
  obtain rfl := Option.some.inj h
  exact gl2_good h2 f d S' e
 ·exact gl1_good h1 f S h
theorem plain_of {P:Program} {f:FuncId} {fn:Func} (h:P.funcs[f]? = some fn) (hn:(fn.name == "runtime.NumGoroutine") = false) (hb:fn.body.isNone = false):Plain P f := ⟨fn,h,hn,hb⟩
theorem body_of {fn:Func} (h:fn.body.isSome = true):fn.body = some (bodyOf fn) := by
 unfold bodyOf
 cases q:fn.body with
 | none => rw [q] at h; cases h
 | some c => rfl
theorem all_of {α β:Type} {xs:List α} {F:α → β} {vs:List β} (h:xs.map F = vs) {r:β} (hv:∀ v ∈ vs,v = r):∀ x ∈ xs,F x = r := fun x hx => hv _ (h ▸ List.mem_map.2 ⟨x,hx,rfl⟩)
theorem obeys_of {P:Program} {K:Glob} {f:FuncId} {fn:Func} {S:FSum} {E:Env} {l:List (Nat×FSum)} {l2:List ((Nat×Nat)×FSum)} (hf:P.funcs[f]? = some fn) (hmo:P.follows .mixedOrders = true) (hτ:TabOk P E.τ) (hΓ:E.Γ = gl l l2) (hl:Goods P K l) (hl2:Goods2 P K l2)
  (hb:fn.body.isSome = true) (hN:E.N = fn.ntmps) (hn:S.pars.length ≤ fn.ntmps) (hr:fn.results.size = S.res.length) (hloops:LoopsOk E (bodyOf fn)) (hg:∀ x,S.g x = runF E fn S x):Obeys P K f S :=
 obeys ⟨hτ,fun f d S h => by rw [hΓ] at h; exact gl_good hl hl2 f d S h,hmo⟩ hf (body_of hb) hN hn hr hloops (fun x r h => by rw [← hg]; exact h)
end AM
end Go.Proofs.YtlnbedamfbnkaaaGreatDoor
namespace Go.Proofs.YtlnbedamfbnkaaaGreatDoor
namespace AM
open Go
set_option linter.unusedVariables false
def rgl:List (Nat×RSum) → Nat → Option RSum
 | [],_ => none
 | p :: r,i => bif Nat.beq p.1 i then some p.2 else rgl r i
abbrev RegAt1 (E:Env) (c:Code) (id:Nat) (S:RSum):Prop := aftOk (regAt c id) = true ∧ ∀ x y,S.g x = some y → ∀ π ∈ exts (regAt c id),opsK E (regAt c id) (opsOf (regAt c id) π) (mkSt S.ent x) (fun s' => getEns E.N S.out s') = some y
def RgsAt (E:Env) (c:Code):List (Nat×RSum) → Prop
 | [] => True
 | p :: r => RegAt1 E c p.1 p.2 ∧ RgsAt E c r
theorem rgs_at {E:Env} {c:Code}:∀ {l:List (Nat×RSum)},RgsAt E c l → ∀ id S,rgl l id = some S → RegAt1 E c id S
 | [],_,_,_,h => by cases h
 | p :: r,h,id,S,hS => by
  unfold rgl at hS
  cases q:Nat.beq p.1 id with
  | true => rw [q] at hS; obtain rfl := Option.some.inj hS; obtain rfl := Nat.eq_of_beq_eq_true q; exact h.1
  | false => rw [q] at hS; exact rgs_at h.2 id S hS
abbrev Ex6 (b:Bool) (E:Env) (c:Code) (r:Nat) (L:List Nat) (S:RSum):Prop := ∀ x,opsmK b E (regAt c r) (opsOf (regAt c r) L) (mkSt S.ent x) (fun s => getEns E.N S.out s) = S.g x
abbrev Ex7 (W:WL) (E:Env) (c:Code) (r:Nat) (L:List Nat) (S:RSum):Prop := ∀ x,ops7K W E (regAt c r) (opsOf (regAt c r) L) (mkSt S.ent x) (fun s => getEns E.N S.out s) = S.g x
abbrev ExN (E:Env) (c:Code) (r n:Nat) (S:RSum):Prop := ∀ x,(exts (regAt c r)).map (fun π => opsK E (regAt c r) (opsOf (regAt c r) π) (mkSt S.ent x) (fun s => getEns E.N S.out s)) = List.replicate n (S.g x)
theorem reg6 {b:Bool} {E:Env} {c:Code} {r:Nat} {L:List Nat} {S:RSum} (h:Ex6 b E c r L S) (zs:List (Nat×Nat)) (hb:(L.all (fun i => Nat.blt i (regAt c r).length) && (List.range (regAt c r).length).all (fun i => memNat i L)) = true := by kernel_rfl) (hnd:L.Nodup := by decide) (ha:aftOk (regAt c r) = true := by kernel_rfl)
  (hp:pairsOk (pairB E (regAt c r) (reachs (regAt c r) []) b) L = true := by kernel_rfl) (ho:pairsOk (ordB (regAt c r)) L = true := by kernel_rfl) (hok:(!b || L.all (fun j => okB E (regAt c r) (reachs (regAt c r) []) zs j || lastB E (regAt c r) (reachs (regAt c r) []) j)) = true := by kernel_rfl) (hs:∀ x:TD (entys S.ent),(!b || startB (regAt c r) zs L (mkVs S.ent (unpack (entys S.ent) x)) (mkBs S.ent (unpack (entys S.ent) x))) = true := by intro x; kernel_rfl):RegAt1 E c r S :=
 ⟨ha,fun x y hy => exts_all6 b zs L hb hnd ha hp ho hok (hs x) ((h x).trans hy)⟩
theorem reg7 {W:WL} {E:Env} {c:Code} {r:Nat} {L:List Nat} {S:RSum} (h:Ex7 W E c r L S) (T:List (Nat×Nm)) (hb:(L.all (fun i => Nat.blt i (regAt c r).length) && (List.range (regAt c r).length).all (fun i => memNat i L)) = true := by kernel_rfl) (hnd:L.Nodup := by decide) (ha:aftOk (regAt c r) = true := by kernel_rfl)
  (hp:pairsOk (pair7 E (regAt c r) W T (reachs (regAt c r) [])) L = true := by kernel_rfl) (ho:pairsOk (ordB (regAt c r)) L = true := by kernel_rfl) (hok:L.all (fun j => ok7 E (regAt c r) W T (reachs (regAt c r) []) j || last7 W E (regAt c r) (reachs (regAt c r) []) j) = true := by kernel_rfl) (hs:∀ x:TD (entys S.ent),start7 E (regAt c r) W T L (mkVs S.ent (unpack (entys S.ent) x)) (mkBs S.ent (unpack (entys S.ent) x)) = true := by intro x; kernel_rfl):RegAt1 E c r S :=
 ⟨ha,fun x y hy => exts_all7 W T L hb hnd ha hp ho hok (hs x) ((h x).trans hy)⟩
theorem regN {E:Env} {c:Code} {r n:Nat} {S:RSum} (h:ExN E c r n S) (ha:aftOk (regAt c r) = true := by kernel_rfl):RegAt1 E c r S :=
 ⟨ha,fun x y hy => all_of (h x) (fun v hv => (List.eq_of_mem_replicate hv).trans hy)⟩
theorem nor {E:Env} {c:Code} (h:∀ id,E.Ω id = none):∀ p ∈ regsIn c,RegOk E p.1 p.2 := fun p _ S hS => by rw [h] at hS; cases hS
theorem lo0 {E:Env} {c:Code} (hk:(loopsIn c).length = 0 := by kernel_rfl) (hΩ:∀ id,E.Ω id = none := by intro id; rfl):LoopsOk E c := loopsOk_of 0 hk (fun i hi => absurd hi (Nat.not_lt_zero i)) (nor hΩ)
theorem lor {E:Env} {c:Code} {l:List (Nat×RSum)} (h:RgsAt E c l) (hk:(loopsIn c).length = 0 := by kernel_rfl) (hΩ:E.Ω = rgl l := by rfl) (hn:nodupNat ((regsIn c).map Prod.fst) = true := by kernel_rfl):LoopsOk E c :=
 loopsOk_of 0 hk (fun i hi => absurd hi (Nat.not_lt_zero i)) (regs_at hn (fun id S hS => rgs_at h id S (by rw [← hΩ]; exact hS)))
theorem lol {E:Env} {c:Code} (k:Nat) (h:∀ i,i < k → Looped E (loopAt c i)) (hk:(loopsIn c).length = k := by kernel_rfl) (hΩ:∀ id,E.Ω id = none := by intro id; rfl):LoopsOk E c := loopsOk_of k hk h (nor hΩ)
theorem lolr {E:Env} {c:Code} {l:List (Nat×RSum)} (k:Nat) (h:∀ i,i < k → Looped E (loopAt c i)) (hr:RgsAt E c l) (hk:(loopsIn c).length = k := by kernel_rfl) (hΩ:E.Ω = rgl l := by rfl) (hn:nodupNat ((regsIn c).map Prod.fst) = true := by kernel_rfl):LoopsOk E c :=
 loopsOk_of k hk h (regs_at hn (fun id S hS => rgs_at hr id S (by rw [← hΩ]; exact hS)))
theorem lpd {E:Env} {c:Code} (n:Nat) (S:LSum) (f:Nat → TD (entys S.ent) → Option (EX S.exs)) (hs:∀ m x,f (m + 1) x = runL E c S (f m) x) (hS:E.Λ (key c) = some S := by kernel_rfl) (h0:∀ x,f 0 x = none := by intro x; rfl) (hn:S.g = f n := by rfl):Looped E c := looped hS f h0 n hn hs
theorem goodOf {P:Program} {K:Glob} {f:FuncId} {fn:Func} {S:FSum} (hmo:P.follows .mixedOrders = true) {t:Tab} (hτ:TabOk P t) (hf:P.funcs[f]? = some fn) (E:Env) (l:List (Nat×FSum)) (l2:List ((Nat×Nat)×FSum)) (hl:Goods P K l) (hl2:Goods2 P K l2)
  (hloops:LoopsOk E (bodyOf fn)) (hg:∀ x,S.g x = runF E fn S x) (ht:E.τ = t := by rfl) (hΓ:E.Γ = gl l l2 := by rfl) (h1:(fn.name == "runtime.NumGoroutine") = false := by kernel_rfl) (hb:fn.body.isSome = true := by kernel_rfl) (hN:E.N = fn.ntmps := by kernel_rfl) (hn:Nat.ble S.pars.length fn.ntmps = true := by kernel_rfl) (hr:fn.results.size = S.res.length := by kernel_rfl):Good P K (f,S) :=
 ⟨plain_of hf h1 (by cases q:fn.body with
  | none => rw [q] at hb; cases hb
  | some c => rfl),obeys_of (S := S) (E := E) hf hmo (by rw [ht]; exact hτ) hΓ hl hl2 hb hN (Nat.le_of_ble_eq_true hn) hr hloops hg⟩
end AM
end Go.Proofs.YtlnbedamfbnkaaaGreatDoor
namespace Go.Proofs.YtlnbedamfbnkaaaGreatDoor
namespace AM
open Go
set_option linter.unusedSimpArgs false
set_option linter.unusedVariables false
def Glob.of (W:World):Glob where
 blk := fun b => b < W.heap.size
 ok := fun w => ∀ b,b < W.heap.size → w.heap[b]? = W.heap[b]?
 keep := fun w w' h k b hb => ((k b hb).2).trans (h b hb)
theorem Glob.of_cell {W w:World} (h:(Glob.of W).ok w) {b off:Nat} {u:Value} (hu:W.cell? ⟨b,off,none⟩ = some u):w.cell? ⟨b,off,none⟩ = some u := by
 have hb := World.block_lt_of_cell? W ⟨b,off,none⟩ hu
 rw [World.cell?_of_block (w := W) (a := ⟨b,off,none⟩) (h b hb)]; exact hu
theorem Glob.of_tab {P:Program} {W w:World} (h:(Glob.of W).ok w) {name:String} {k:IntKind} {zs:List Int} (ht:Lib.TabIs P W name k zs):Lib.TabIs P w name k zs := by
 unfold Lib.TabIs World.var? at ht ⊢
 cases hg:P.globalNamed name with
 | none => rw [hg] at ht; cases ht
 | some g =>
  rw [hg] at ht
  simp only [Option.bind_some] at ht ⊢
  have hb:g < W.heap.size := by
   rcases Nat.lt_or_ge g W.heap.size with q | q
   ·exact q
   ·rw [Array.getElem?_eq_none q] at ht; cases ht
  rw [h g hb]; exact ht
theorem Step.drewN (w:World) (n:Nat):Step (fun _ _ => False) w (w.drewN n) := ⟨rfl,rfl,rfl,Nat.le_refl _,fun _ _ => BlkEq.refl _ _⟩
theorem Step.grow (w:World) (os:Array Go.Obj):Step (fun _ _ => False) w (Sort.grow w os) :=
 ⟨rfl,rfl,rfl,by show w.heap.size ≤ (w.heap ++ os).size; simp,fun b hb => BlkEq.of_eq (by show (w.heap ++ os)[b]? = w.heap[b]?; rw [Array.getElem?_append_left hb])⟩
def sigs (P:Program) (n:Nat):List TypeId → Option (List (Ty×Bool))
 | [] => some []
 | T :: r => match tyOf P n T,P.underlying T,sigs P n r with
  | some t,some d,some l => some ((t,isAggD d) :: l)
  | _,_,_ => none
section
variable {H:Type} {enc:TypeId×Value → H} {P:Program} {W:World} {sp:Nat → Bool} {held:Bool}
theorem arg_of {n T:Nat} {t:Ty} {d:TypeDesc} (ht:tyOf P n T = some t) (hd:P.underlying T = some d) {base:Nat} {v:Value} (hv:Value.okWide P W .any base T v) {x:DataW H} {ps:List MemPlace} (h:DataW.Trod enc P W 0 sp held T v x ps) :
  ∃ a:Arg,a.t = t ∧ a.agg = isAggD d ∧ a.u = v ∧ a.ok W := by
 obtain ⟨fuel,hf⟩ := h
 obtain ⟨y,hr,hfit⟩ := read_of_trod n T t ht fuel _ _ hf
 refine ⟨⟨t,isAggD d,y,v⟩,rfl,rfl,rfl,hfit,fun q => ?_,fun q => ?_⟩
 ·have q:isAggD d = true := q
  cases d with
  | struct fs =>
   obtain ⟨cs,rfl,_⟩ := WideShapes.okWide_struct hd hv
   exact ⟨cs.toList,by simp,hr⟩
  | array m e =>
   exfalso
   cases n with
   | zero => cases ht
   | succ n => unfold tyOf at ht; rw [hd] at ht; cases ht
  | _ => cases q
 ·have q:isAggD d = false := q
  have hc:v.cells.toList = [v] := by
   cases n with
   | zero => cases ht
   | succ n =>
    unfold tyOf at ht
    rw [hd] at ht
    cases d with
    | bool => obtain ⟨b,rfl⟩ := WideShapes.okWide_bool hd hv; rfl
    | int k => obtain ⟨m,rfl⟩ := WideShapes.okWide_int hd hv; rfl
    | string => obtain ⟨s,rfl⟩ := WideShapes.okWide_string hd hv; rfl
    | slice e => obtain ⟨a,l,c,rfl⟩ := WideShapes.okWide_slice hd hv; rfl
    | struct fs => cases q
    | _ => cases ht
  rw [hc] at hr
  exact hr
theorem args_of {n base:Nat}:∀ {Ts:List TypeId} {vs:List Value} {ds:List (DataW H)} {ps:List MemPlace} {l:List (Ty×Bool)},sigs P n Ts = some l → DataW.TrodAll enc P W 0 sp held Ts vs ds ps →
  (∀ (j:Nat) t v,Ts[j]? = some t → vs[j]? = some v → Value.okWide P W .any base t v) → ∃ as:List Arg,as.map (fun a => (a.t,a.agg)) = l ∧ as.map Arg.u = vs ∧ ∀ a ∈ as,a.ok W
 | [],vs,ds,ps,l,hs,h,_ => by
  obtain rfl := Option.some.inj hs
  obtain ⟨rfl,_,_⟩ := ChangeShapes.trodAll_nil h
  exact ⟨[],rfl,rfl,fun a ha => by cases ha⟩
 | T :: Ts,vs,ds,ps,l,hs,h,hv => by
  obtain ⟨v,vs',d,ds',p,q,rfl,rfl,rfl,h0,h1⟩ := ChangeShapes.trodAll_cons h
  simp only [sigs] at hs
  split at hs
  ·rename_i t dd l' e1 e2 e3
   obtain rfl := Option.some.inj hs
   obtain ⟨a,a1,a2,a3,a4⟩ := arg_of e1 e2 (hv 0 T v rfl rfl) h0
   obtain ⟨as,b1,b2,b3⟩ := args_of e3 h1 (fun j t v ht hv' => hv (j + 1) t v ht hv')
   refine ⟨a :: as, ?_, ?_,fun x hx => ?_⟩
   ·rw [List.map_cons,b1,a1,a2]
   ·rw [List.map_cons,b2,a3]
   ·rcases List.mem_cons.1 hx with rfl | hx
    ·exact a4
    ·exact b3 x hx
  ·cases hs
theorem trodAll_stays {W':World} (hl:laidOutB P = true) (hb:RowKit.Below W.heap.size W W') {sp':Nat → Bool}:∀ {Ts:List TypeId} {vs:List Value} {ds:List (DataW H)} {ps:List MemPlace},Ts.all (fun t => P.readableRec t && decide (t < P.types.size)) = true →
  DataW.TrodAll enc P W 0 (fun _ => true) true Ts vs ds ps → (∀ p ∈ ps,p.block < W.heap.size) → (∀ p ∈ ps,sp' p.block = true) → DataW.TrodAll enc P W' 0 sp' true Ts vs ds ps
 | [],_,_,_,_,h,_,_ => by
  obtain ⟨rfl,rfl,rfl⟩ := ChangeShapes.trodAll_nil h
  exact ChangeShapes.trodAll_mk0
 | T :: Ts,_,_,_,hr,h,hlt,hsp => by
  obtain ⟨v,vs',d,ds',p,q,rfl,rfl,rfl,h0,h1⟩ := ChangeShapes.trodAll_cons h
  rw [List.all_cons,Bool.and_eq_true,Bool.and_eq_true] at hr
  obtain ⟨⟨hr1,hr2⟩,hr3⟩ := hr
  refine ⟨p,q,WideElems.Trod_stays hl hr1 (of_decide_eq_true hr2) h0 (fun x hx => hb.same (hlt x (List.mem_append_left _ hx))) (fun x hx => hsp x (List.mem_append_left _ hx)), ?_,rfl⟩
  exact trodAll_stays hl hb hr3 h1 (fun x hx => hlt x (List.mem_append_right _ hx)) (fun x hx => hsp x (List.mem_append_right _ hx))
theorem law_post {f:Func} {s:ChangeSpec} {B:TypeId} {W':World} {args:Array Value} {ds gs:List (DataW H)} {before:List MemPlace} (hvars:s.vars = []) (hfn:∀ l:List (DataW H),l.length = f.params.size → s.fn H l = { results := [.lit (.bool true)],args := l })
  (hrt:f.resultTypes = #[B]) (hB:P.underlying B = some .bool) (hl:laidOutB P = true) (hrd:f.params.toList.all (fun t => P.readableRec t && decide (t < P.types.size)) = true)
  (hW:DataW.Whole enc P f.params.toList s.vars false W args.toList ds gs before) (hb:RowKit.Below W.heap.size W W'):s.post enc P f false true false false W args (.bool true) W' := by
 have hlt := hW.lt
 have hW0 := hW
 obtain ⟨p,q,hA,hV,rfl,hz,_⟩ := hW
 rw [hvars] at hV
 obtain ⟨rfl,rfl⟩ := ChangeShapes.trodVars_none hV
 have hlen:ds.length = f.params.size := by
  have := (trodAll_length hA).2
  simpa using this
 have hfn' := hfn (ds ++ []) (by simpa using hlen)
 refine ⟨ds,[],p ++ [],[],p,[],hW0, ?_, ?_, ?_,⟨hb.os,hb.output,fun i hi => ?_⟩,fun h => by cases h⟩
 ·rw [hfn',hrt]
  exact ChangeShapes.trodAll_mk1 (RowKit.shut_bool hB true)
 ·rw [hfn']
  show DataW.TrodAll enc P W' 0 _ true f.params.toList args.toList (ds ++ []) p
  rw [List.append_nil]
  have hlt':∀ x ∈ p,x.block < W.heap.size := fun x hx => hlt x (List.mem_append_left _ hx)
  exact trodAll_stays hl hb hrd hA hlt' (fun x hx => by simpa using hlt' x hx)
 ·rw [hfn',hvars]; rfl
 ·rw [hb.block i hi]
  cases W.heap[i]? with
  | none => trivial
  | some o => cases o <;> first | exact ⟨rfl,rfl,rfl,fun _ _ => rfl⟩ | exact .inr ⟨rfl,rfl⟩ | rfl
end
theorem laidMet_mem {P:Program} {w:World}:∀ {laid:List (String×DataW Unit)} {name:String} {d:DataW Unit},laidMet P laid w → (name,d) ∈ laid → laidMet P [(name,d)] w := by
 have vars:∀ {laid:List (String×DataW Unit)} {ps:List MemPlace} {name:String} {d:DataW Unit},DataW.LaidVars P w laid ps → (name,d) ∈ laid → ∃ qs,DataW.LaidVars P w [(name,d)] qs ∧ qs.Sublist ps := by
  intro laid
  induction laid with
  | nil => intro ps name d _ hm; cases hm
  | cons x r ih =>
   intro ps name d h hm
   obtain ⟨g,t,cs,fuel,p,q,h1,h2,h3,h4,h5,h6⟩ := h
   rcases List.mem_cons.1 hm with rfl | hm
   ·refine ⟨_,⟨g,t,cs,fuel,p,[],h1,h2,h3,h4,rfl,rfl⟩, ?_⟩
    rw [h6]
    rw [List.append_nil]
    exact List.sublist_append_left ..
   ·obtain ⟨qs,k1,k2⟩ := ih h5 hm
    exact ⟨qs,k1,k2.trans (by rw [h6]; exact List.sublist_append_right ..)⟩
 intro laid name d h hm
 obtain ⟨ps,h1,h2,h3⟩ := h
 obtain ⟨qs,k1,k2⟩ := vars h1 hm
 exact ⟨qs,k1,h2.sublist k2,fun b off hq => h3 b off (k2.subset hq)⟩
end AM
end Go.Proofs.YtlnbedamfbnkaaaGreatDoor
namespace Go.Proofs.YtlnbedamfbnkaaaGreatDoor
namespace AM
open Go
set_option linter.unusedVariables false
set_option linter.unusedSimpArgs false
def ownSum (t:Ty) (el:Nat) (g:List t.den → Option (List t.den)):FSum := { pars := [.c (.i (.sl t))],gh := [],nb := [],res := [(false,[.o el t])],g := g }
theorem obeys_own {P:Program} {K:Glob} {f:FuncId} {t:Ty} {el:Nat} {g:List t.den → Option (List t.den)}
  (h:∀ (w:World) (I:Nat → Prop) (xs r:List t.den) (u:Value),g xs = some r → K.ok w → (∀ b,I b → b < w.heap.size) → Rep I w (.sl t) xs [u] →
   Calls P f #[u] w fun e w' => ∃ v' vs,e = .returned v' ∧ w'.ownsRow w.heap.size el t.sz v' r.length vs ∧ FRep I w t r vs ∧ Step (fun _ _ => False) w w') :
  Obeys P K f (ownSum t el g) := by
 intro Y L I a w x r hx hR hK hY hw
 have hN:Y.N = 1 := hY
 have hsz:a.tmps.size = 1 := hR.size.trans hN
 have hu:Rep I w (.sl t) x [a.tmps.getD 0 undef] := hR.slot 0
 have hI:∀ b,I b → b < w.heap.size := fun b hb => (hR.imm b hb).1
 have htm:a.tmps = #[a.tmps.getD 0 undef] := by
  refine Array.ext (by simp [hsz]) fun i hi _ => ?_
  obtain rfl:i = 0 := by omega
  rw [Array.getD_eq_getD_getElem?,Array.getElem?_eq_getElem hi]; rfl
 subst hK
 rw [show first (FSum.real (ownSum t el g)) a.tmps = a.tmps from first_all (by rw [hsz]; exact Nat.le_refl _),htm]
 refine (h w I x r _ hx hR.glob.1 hI hu).mono fun e w' hp => ?_
 obtain ⟨v',vs,rfl,hown,hf,hst⟩ := hp
 have g1 := hR.grows hst
 have hsm:Same I w w' := fun b hb => hst.same (hI b hb) (fun _ q => q)
 have hsl:∃ a l c,v' = .slice a l c := by
  rcases hown.2 with ⟨e,_⟩ | ⟨g,cap,cur,e,_⟩
  ·exact ⟨_,_,_,e⟩
  ·exact ⟨_,_,_,e⟩
 have hmk:mkSt (FSum.ens (ownSum t el g)) r = ⟨look [(1, .c (.own [1,0]))],lookO [([1,0], .arr el t r)]⟩ := by
  have ha:arrO [1,0] el t ⟨.sl t,r⟩ = [([1,0], .arr el t r)] := by
   unfold arrO
   rw [show DV.as (.sl t) ⟨.sl t,r⟩ = some r from as_self (t := .sl t) r]
  show St.mk _ (lookO ((arrO [1,0] el t ⟨.sl t,r⟩ ++ []) ++ [])) = _
  rw [ha]; rfl
 refine ⟨_,fun n => bif Nm.eqb n [1,0] then v' else L n,I,⟨#[a.tmps.getD 0 undef,v'],[]⟩,rfl, ?_,fun n hn => ?_,rfl⟩
 ·rw [hmk]
  have one:∀ {n:Nm} {ob:Ob},lookO [([1,0],Ob.arr el t r)] n = some ob → n = [1,0] ∧ ob = .arr el t r := fun {n ob} hq => by
   have hq:(bif Nm.eqb [1,0] n then some (Ob.arr el t r) else none) = some ob := hq
   cases hn:Nm.eqb [1,0] n with
   | false => rw [hn] at hq; cases hq
   | true =>
    rw [hn] at hq
    exact ⟨(eqb_iff.1 hn).symm,(Option.some.inj hq).symm⟩
  refine ⟨rfl,rfl,fun i hi => ?_,fun i hi => ?_,fun n ob hob => ?_,fun n m ob ob' h1 h2 b o q1 q2 => ?_,fun n ob hob b o hq => ?_,g1.imm,g1.sub,g1.step,g1.glob⟩
  ·have hi:i < 2 := hi
   match i,hi with
   | 0,_ => trivial
   | 1,_ =>
    obtain ⟨sa,l,c,e⟩ := hsl
    exact ⟨sa,l,c,e,rfl⟩
  ·have hi:2 ≤ i := hi
   match i,hi with
   | i + 2,_ => rfl
  ·obtain ⟨rfl,rfl⟩ := one hob
   refine ⟨vs,⟨hown.1,hown.2.imp id ?_⟩,FRep.mono (fun _ q => q) hsm hf⟩
   rintro ⟨g,cap,cur,k1,k2,k3⟩
   exact ⟨g,cap,cur,k1,Nat.zero_le _,k3⟩
  ·exact (one h1).1.trans (one h2).1.symm
  ·obtain ⟨rfl,rfl⟩ := one hob
   have hq:v'.ownBlock = some b := hq
   have hlt := hown.lt b hq
   refine ⟨hlt.2,fun q => ?_,fun q => ?_⟩
   ·have := hI b q
    omega
   ·exfalso
    have q:b < Y.w0.heap.size := q
    rw [hw] at q
    omega
 ·show (bif Nm.eqb n [1,0] then v' else L n) = L n
  have hne:Nm.eqb n [1,0] = false := by
   rw [eqb_false]
   intro e
   subst e
   cases hn
  rw [hne]; rfl
def own0Sum (t:Ty) (el:Nat) (g:Unit → Option (List t.den)):FSum := { pars := [],gh := [],nb := [],res := [(false,[.o el t])],g := g }
theorem obeys_own0 {P:Program} {K:Glob} {f:FuncId} {t:Ty} {el:Nat} {g:Unit → Option (List t.den)}
  (h:∀ (w:World) (r:List t.den),g () = some r → K.ok w →
   Calls P f #[] w fun e w' => ∃ v' vs,e = .returned v' ∧ w'.ownsRow w.heap.size el t.sz v' r.length vs ∧ (∀ I,FRep I w t r vs) ∧ Step (fun _ _ => False) w w') :
  Obeys P K f (own0Sum t el g) := by
 intro Y L I a w x r hx hR hK hY hw
 have hN:Y.N = 0 := hY
 have hsz:a.tmps.size = 0 := hR.size.trans hN
 have hI:∀ b,I b → b < w.heap.size := fun b hb => (hR.imm b hb).1
 have htm:a.tmps = #[] := Array.eq_empty_of_size_eq_zero hsz
 subst hK
 rw [show first (FSum.real (own0Sum t el g)) a.tmps = a.tmps from first_all (by rw [hsz]; exact Nat.le_refl _),htm]
 refine (h w r hx hR.glob.1).mono fun e w' hp => ?_
 obtain ⟨v',vs,rfl,hown,hf,hst⟩ := hp
 have g1 := hR.grows hst
 have hsm:Same I w w' := fun b hb => hst.same (hI b hb) (fun _ q => q)
 have hsl:∃ a l c,v' = .slice a l c := by
  rcases hown.2 with ⟨e,_⟩ | ⟨g,cap,cur,e,_⟩
  ·exact ⟨_,_,_,e⟩
  ·exact ⟨_,_,_,e⟩
 have hmk:mkSt (FSum.ens (own0Sum t el g)) r = ⟨look [(0, .c (.own [0,0]))],lookO [([0,0], .arr el t r)]⟩ := by
  have ha:arrO [0,0] el t ⟨.sl t,r⟩ = [([0,0], .arr el t r)] := by
   unfold arrO
   rw [show DV.as (.sl t) ⟨.sl t,r⟩ = some r from as_self (t := .sl t) r]
  show St.mk _ (lookO ((arrO [0,0] el t ⟨.sl t,r⟩ ++ []) ++ [])) = _
  rw [ha]; rfl
 refine ⟨_,fun n => bif Nm.eqb n [0,0] then v' else L n,I,⟨#[v'],[]⟩,rfl, ?_,fun n hn => ?_,rfl⟩
 ·rw [hmk]
  have one:∀ {n:Nm} {ob:Ob},lookO [([0,0],Ob.arr el t r)] n = some ob → n = [0,0] ∧ ob = .arr el t r := fun {n ob} hq => by
   have hq:(bif Nm.eqb [0,0] n then some (Ob.arr el t r) else none) = some ob := hq
   cases hn:Nm.eqb [0,0] n with
   | false => rw [hn] at hq; cases hq
   | true =>
    rw [hn] at hq
    exact ⟨(eqb_iff.1 hn).symm,(Option.some.inj hq).symm⟩
  refine ⟨rfl,rfl,fun i hi => ?_,fun i hi => ?_,fun n ob hob => ?_,fun n m ob ob' h1 h2 b o q1 q2 => ?_,fun n ob hob b o hq => ?_,g1.imm,g1.sub,g1.step,g1.glob⟩
  ·have hi:i < 1 := hi
   match i,hi with
   | 0,_ =>
    obtain ⟨sa,l,c,e⟩ := hsl
    exact ⟨sa,l,c,e,rfl⟩
  ·have hi:1 ≤ i := hi
   match i,hi with
   | i + 1,_ => rfl
  ·obtain ⟨rfl,rfl⟩ := one hob
   refine ⟨vs,⟨hown.1,hown.2.imp id ?_⟩,FRep.mono (fun _ q => q) hsm (hf I)⟩
   rintro ⟨g,cap,cur,k1,k2,k3⟩
   exact ⟨g,cap,cur,k1,Nat.zero_le _,k3⟩
  ·exact (one h1).1.trans (one h2).1.symm
  ·obtain ⟨rfl,rfl⟩ := one hob
   have hq:v'.ownBlock = some b := hq
   have hlt := hown.lt b hq
   refine ⟨hlt.2,fun q => ?_,fun q => ?_⟩
   ·have := hI b q
    omega
   ·exfalso
    have q:b < Y.w0.heap.size := q
    rw [hw] at q
    omega
 ·show (bif Nm.eqb n [0,0] then v' else L n) = L n
  have hne:Nm.eqb n [0,0] = false := by
   rw [eqb_false]
   intro e
   subst e
   cases hn
  rw [hne]; rfl
end AM
end Go.Proofs.YtlnbedamfbnkaaaGreatDoor
