/- Regions of which the orders are too many to list: what only makes (a value, a box, what a call hands back) may stand on either side of its like, a store into a box that one slot alone leads to may be overtaken. No condition. And what follows it: see the remarks. -/
import Derived.Test.YtobpcllkonomlabGreatDoorSW2
import Derived.ChangeArms
import Derived.Carry
import Derived.ChangeShapes
import Derived.Laws.StructEq
namespace Go.Proofs.YtobpcllkonomlabGreatDoor
namespace AM
open Go
set_option linter.unusedVariables false
set_option linter.unusedSimpArgs false
def stg (E:Env) (l:List Oper) (o:Oper) (s:St):Option St := opsK E l [o] s some
def runG (E:Env) (l:List Oper):List Oper → St → Option St
 | [],s => some s
 | o :: r,s => (stg E l o s).bind (runG E l r)
theorem opsK_runG {R:Type} {E:Env} {all:List Oper}:∀ {l:List Oper} {s:St} (k:St → Option R),opsK E all l s k = (runG E all l s).bind k
 | [],s,k => rfl
 | o :: r,s,k => by
  show _ = ((stg E all o s).bind (runG E all r)).bind k
  rw [opsK_fun]
  unfold stg
  cases opsK E all [o] s some with
  | none => rfl
  | some s1 => exact opsK_runG k
def gslot (l:List Oper) (o:Oper):Option (Option Nat×Bool) := match o.guard with
 | none => none
 | some (j,w) => some ((l[j]?).bind (·.dst),w)
def gd (l:List Oper) (o:Oper) (s:St):Option Bool := match gslot l o with
 | none => some true
 | some (none,_) => none
 | some (some t,w) => match isTmp (s.t t) with
  | some b => some (b == w)
  | none => bif isGone (s.t t) then some false else none
theorem know_same {s:St} {t:Nat} {b:Bool} (h:isTmp (s.t t) = some b):s.know (.tmp t) b = s := by
 have e:s.t t = .c (.v .bool b) := by
  cases q:s.t t with
  | c x =>
   rw [q] at h
   cases x with
   | v ty y =>
    cases ty with
    | bool => exact congrArg (fun z => AV.c (.v .bool z)) (Option.some.inj h)
    | _ => cases h
   | _ => cases h
  | _ => rw [q] at h; cases h
 show St.mk _ _ = s
 cases s with
 | mk ts os =>
  congr 1
  funext i
  show (bif Nat.beq i t then _ else ts i) = ts i
  cases q:Nat.beq i t with
  | false => rfl
  | true => obtain rfl := Nat.eq_of_beq_eq_true q; exact e.symm
theorem stg_eq {E:Env} {l:List Oper} {o:Oper} {s:St}:stg E l o s = match gd l o s with
  | some true => opK E o s some
  | some false => bif dstOk E.N o.dst then some (s.put o.dst gone) else none
  | none => none := by
 unfold stg gd gslot
 simp only [opsK]
 cases hg:o.guard with
 | none => rfl
 | some gw =>
  obtain ⟨j,w⟩ := gw
  dsimp only
  cases ht:(l[j]?).bind (·.dst) with
  | none => rfl
  | some t =>
   dsimp only
   cases hb:isTmp (s.t t) with
   | none => cases q:isGone (s.t t) <;> cases q2:dstOk E.N o.dst <;> rfl
   | some b =>
    have hk := know_same hb
    dsimp only
    cases b <;> cases w <;> (dsimp only; rw [hk]; rfl)
def tmpOf:Operand → List Nat
 | .tmp t => [t]
 | _ => []
def gOf (l:List Oper) (o:Oper):List Nat := match gslot l o with
 | some (some t,_) => [t]
 | _ => []
def rds (l:List Oper) (o:Oper):List Nat := o.op.operands.toList.flatMap tmpOf ++ gOf l o
theorem gd_same {l:List Oper} {o:Oper} {s s':St} (h:∀ t ∈ rds l o,s'.t t = s.t t):gd l o s' = gd l o s := by
 have h:∀ t ∈ gOf l o,s'.t t = s.t t := fun t ht => h t (List.mem_append_right _ ht)
 unfold gd
 unfold gOf at h
 cases hg:gslot l o with
 | none => rfl
 | some p =>
  obtain ⟨a,w⟩ := p
  cases a with
  | none => rfl
  | some t =>
   rw [hg] at h
   dsimp only
   rw [h t (List.mem_singleton.2 rfl)]
theorem ev_same {l:List Oper} {o:Oper} {s s':St} (h:∀ t ∈ rds l o,s'.t t = s.t t):∀ x ∈ o.op.operands,s.ev x = s'.ev x := fun x hx => by
 cases x with
 | tmp t => exact (h t (List.mem_append_left _ (List.mem_flatMap.2 ⟨_,Array.mem_toList_iff.2 hx,List.mem_singleton.2 rfl⟩))).symm
 | _ => rfl
theorem rds_ev {l:List Oper} {o:Oper} {s:St} {x:Operand} {n:Nm} (hx:x ∈ o.op.operands) (hm:AMent (s.ev x) n):∃ t ∈ rds l o,AMent (s.t t) n := by
 cases x with
 | tmp t => exact ⟨t,List.mem_append_left _ (List.mem_flatMap.2 ⟨_,Array.mem_toList_iff.2 hx,List.mem_singleton.2 rfl⟩),hm⟩
 | const v => exact absurd hm (ofConst_ment v n)
 | global g => exact hm.elim
 | func f => exact hm.elim
def OMent:Ob → Nm → Prop
 | .box cs,n => CMent cs n
 | _,_ => False
def headed (d:Nat):Nm → Bool
 | [] => false
 | x :: _ => Nat.beq x d
theorem headed_ne {d e:Nat} (h:d ≠ e) {n:Nm} (hd:headed d n = true):headed e n = false := by
 cases n with
 | nil => cases hd
 | cons x r =>
  obtain rfl := Nat.eq_of_beq_eq_true hd
  exact beq_ne h
def vKind (τ:Tab) (o:Oper):Bool := match o.op with
 | .move _ => true
 | .assign _ => true
 | .load _ _ => true
 | .fieldAddr _ _ _ => true
 | .field _ _ _ => true
 | .nilCheck _ => true
 | .extract _ _ => true
 | .binOp _ _ _ _ _ => true
 | .unOp _ _ _ => true
 | .pick _ _ _ => true
 | .convert q d _ => !Nat.beq q d
 | .call { callee := .builtin .len, .. } => true
 | .indexAddr _ _ _ => true
 | .build _ _ => true
 | .slice t _ _ _ none => (match τ.get t with
  | some ti => Nat.beq ti.kind 5
  | none => false)
 | _ => false
def idxV (n:Nm) (off sz:Nat) (j:Int):Nat → Nat → Option AV
 | _,0 => none
 | c,m + 1 => bif decide (j = (c:Int)) then some (.c (.pb n (off + c * sz))) else idxV n off sz j (c + 1) m
def arrV (τ:Tab) (op:Op) (e:Operand → AV):Option AV := match op with
 | .indexAddr t x i => match τ.get t,e x,e i with
  | some ti, .c (.pb n off), .c (.v (.int _) j) => bif Nat.beq ti.kind 4 then (match τ.get ti.el with
   | some te => bif Nat.blt 0 te.size then idxV n off te.size j 0 (ti.size / te.size) else none
   | none => none) else none
  | _,_,_ => none
 | _ => none
def vopX (τ:Tab) (op:Op) (e:Operand → AV) (o:Nm → Option Ob):Option (Bool×AV) := match vop τ op e o with
 | some r => some r
 | none => match arrV τ op e with
  | some v => some (true,v)
  | none => none
theorem idxK_V {R:Type} {s:St} {d:Nat} {n:Nm} {off sz:Nat} {j:Int} {k:St → Option R}:∀ (m c:Nat),idxK s d n off sz j k c m = (idxV n off sz j c m).bind fun v => k (s.put (some d) v)
 | 0,c => rfl
 | m + 1,c => by
  show (bif decide (j = (c:Int)) then _ else idxK s d n off sz j k (c + 1) m) = (bif decide (j = (c:Int)) then _ else idxV n off sz j (c + 1) m).bind _
  rw [idxK_V m (c + 1)]
  cases decide (j = (c:Int)) <;> rfl
theorem arrK_V {R:Type} {τ:Tab} {op:Op} {d:Nat} {s:St} {k:St → Option R}:arrK τ op d s k = (arrV τ op s.ev).bind fun v => k (s.put (some d) v) := by
 cases op with
 | indexAddr t x i =>
  show (match τ.get t,s.ev x,s.ev i with
   | some ti, .c (.pb n off), .c (.v (.int _) j) => bif Nat.beq ti.kind 4 then (match τ.get ti.el with
    | some te => bif Nat.blt 0 te.size then idxK s d n off te.size j k 0 (ti.size / te.size) else none
    | none => none) else none
   | _,_,_ => none) = (match τ.get t,s.ev x,s.ev i with
   | some ti, .c (.pb n off), .c (.v (.int _) j) => bif Nat.beq ti.kind 4 then (match τ.get ti.el with
    | some te => bif Nat.blt 0 te.size then idxV n off te.size j 0 (ti.size / te.size) else none
    | none => none) else none
   | _,_,_ => none).bind _
  split
  ·rename_i ti n off ik j e1 e2 e3
   cases Nat.beq ti.kind 4 with
   | false => rfl
   | true =>
    simp only [cond_true]
    split
    ·rename_i te e4
     cases Nat.blt 0 te.size with
     | false => rfl
     | true => exact idxK_V _ _
    ·rfl
  ·rfl
 | _ => rfl
theorem idxV_ment {n:Nm} {off sz:Nat} {j:Int} {v:AV}:∀ {m c:Nat},idxV n off sz j c m = some v → ∃ k,v = .c (.pb n k)
 | 0,c,h => by cases h
 | m + 1,c,h => by
  have h:(bif decide (j = (c:Int)) then some (AV.c (.pb n (off + c * sz))) else idxV n off sz j (c + 1) m) = some v := h
  cases q:decide (j = (c:Int)) with
  | true => rw [q] at h; exact ⟨_,(Option.some.inj h).symm⟩
  | false => rw [q] at h; exact idxV_ment h
theorem arrV_ment {τ:Tab} {op:Op} {e:Operand → AV} {v:AV} (h:arrV τ op e = some v) {n:Nm} (hm:AMent v n):∃ x ∈ op.operands,AMent (e x) n := by
 cases op with
 | indexAddr t x i =>
  unfold arrV at h
  dsimp only at h
  split at h
  ·rename_i ti m off ik j e1 e2 e3
   refine ⟨x,by simp [Op.operands], ?_⟩
   rw [e2]
   generalize Nat.beq ti.kind 4 = q at h
   cases q with
   | false => cases h
   | true =>
    dsimp only [cond_true] at h
    split at h
    ·rename_i te e4
     generalize Nat.blt 0 te.size = q2 at h
     cases q2 with
     | false => cases h
     | true =>
      obtain ⟨k,rfl⟩ := idxV_ment (show idxV m off te.size j 0 (ti.size / te.size) = some v from h)
      exact hm
    ·cases h
  ·cases h
 | _ => cases h
theorem arrV_congr {τ:Tab} {op:Op} {e e':Operand → AV} (h:∀ x ∈ op.operands,e x = e' x):arrV τ op e = arrV τ op e' := by
 cases op with
 | indexAddr t x i =>
  unfold arrV
  dsimp only
  rw [h x (by simp [Op.operands]),h i (by simp [Op.operands])]
 | _ => rfl
theorem vopX_congr {τ:Tab} {op:Op} {e e':Operand → AV} {o:Nm → Option Ob} (h:∀ x ∈ op.operands,e x = e' x):vopX τ op e o = vopX τ op e' o := by
 unfold vopX
 rw [vop_congr h,arrV_congr h]
section
variable {E:Env} {l:List Oper} {o:Oper} {s s1:St}
theorem vstep (h:vKind E.τ o = true) {d:Nat} (hd:o.dst = some d):opK (R := St) E o s some = match vopX E.τ o.op s.ev s.o with
  | some (c,v) => bif Nat.blt d E.N then (match c with | true => some (s.put (some d) v) | false => none) else none
  | none => none := by
 have hc:∀ (op:Op),o.op = op → (∀ e nm,mop E.τ op e nm = none) → (∀ d s,wop E.τ op d s = none) →
   (match vop E.τ op s.ev s.o with
    | some (c,v) => bif dstOk E.N o.dst then (match c with | true => some (s.put o.dst v) | false => none) else none
    | none => match o.dst with
     | some d => bif Nat.blt d E.N then (match mop E.τ op (s.drop [d,0]).ev [d,0] with
      | some (c,ob,v) => (match c with | true => some (((s.drop [d,0]).setO [d,0] ob).put (some d) v) | false => none)
      | none => match wop E.τ op (some d) s with
       | some (c,s') => (match c with | true => some s' | false => none)
       | none => arrK (R := St) E.τ op d s some) else none
     | none => match wop E.τ op none s with
      | some (c,s') => (match c with | true => some s' | false => none)
      | none => none) = (match vopX E.τ op s.ev s.o with
    | some (c,v) => bif Nat.blt d E.N then (match c with | true => some (s.put (some d) v) | false => none) else none
    | none => none) := by
  intro op _ hm hw
  rw [hd]
  unfold vopX
  cases vop E.τ op s.ev s.o with
  | some p => rfl
  | none =>
   dsimp only
   rw [hm,hw]
   dsimp only
   rw [arrK_V]
   cases arrV E.τ op s.ev <;> cases Nat.blt d E.N <;> rfl
 unfold vKind at h
 unfold opK
 cases hop:o.op with
 | indexAddr t x i => exact hc _ hop (fun _ _ => rfl) fun _ _ => rfl
 | slice t x lo hi mx =>
  rw [hop] at h
  cases mx with
  | some y => cases h
  | none =>
   refine hc _ hop (fun _ _ => rfl) fun d' s' => ?_
   dsimp only at h
   unfold wop
   dsimp only
   cases hti:E.τ.get t with
   | none => rfl
   | some ti =>
    rw [hti] at h
    have h5:ti.kind = 5 := Nat.eq_of_beq_eq_true h
    have h3:Nat.beq ti.kind 3 = false := by rw [h5]; rfl
    split
    ·rename_i ti' n e1 e2
     obtain rfl := Option.some.inj e1
     rw [h3]; rfl
    ·rfl
 | move x => exact hc _ hop (fun _ _ => rfl) fun _ _ => rfl
 | assign x => exact hc _ hop (fun _ _ => rfl) fun _ _ => rfl
 | load t x => exact hc _ hop (fun _ _ => rfl) fun _ _ => rfl
 | build t ps => exact hc _ hop (fun _ _ => rfl) fun _ _ => rfl
 | fieldAddr t x f => exact hc _ hop (fun _ _ => rfl) fun _ _ => rfl
 | field t x f => exact hc _ hop (fun _ _ => rfl) fun _ _ => rfl
 | nilCheck x => exact hc _ hop (fun _ _ => rfl) fun _ _ => rfl
 | extract x i => exact hc _ hop (fun _ _ => rfl) fun _ _ => rfl
 | binOp a b c d e => exact hc _ hop (fun _ _ => rfl) fun _ _ => rfl
 | unOp a b c => exact hc _ hop (fun _ _ => rfl) fun _ _ => rfl
 | pick a b c => exact hc _ hop (fun _ _ => rfl) fun _ _ => rfl
 | convert a b c =>
  rw [hop] at h
  have h3:Nat.beq a b = false := by simpa using h
  refine hc _ hop (fun _ _ => rfl) fun d' s' => ?_
  unfold wop
  dsimp only
  split
  ·rw [h3]; rfl
  ·rfl
 | call c =>
  obtain ⟨cl,xs,ts⟩ := c
  rw [hop] at h
  cases cl with
  | builtin b => cases b <;> first | exact hc _ hop (fun _ _ => rfl) (fun _ _ => rfl) | cases h
  | _ => cases h
 | _ => rw [hop] at h; cases h
theorem bin_ment {τ:Tab} {op:BinOp} {xt:Nat} {x y:AV} {c:Bool} {v:AV} (h:bin τ op xt x y = some (c,v)) (n:Nm):¬ AMent v n := by
 have one:∀ {k:IntKind} {a b:Int} {op:BinOp} {r:Bool×CV},ibin op k a b = some r → ¬ Ment r.2 n := by
  intro k a b op r hr
  unfold ibin at hr
  cases op <;> first | (cases hr; done) | (obtain rfl := Option.some.inj hr; exact fun q => q)
 have two:∀ {a b:ByteArray} {op:BinOp} {r:Bool×CV},sbin op a b = some r → ¬ Ment r.2 n := by
  intro a b op r hr
  unfold sbin at hr
  cases op <;> first | (cases hr; done) | (obtain rfl := Option.some.inj hr; exact fun q => q)
 have three:∀ {a b:Bool} {op:BinOp} {r:Bool×CV},bbin op a b = some r → ¬ Ment r.2 n := by
  intro a b op r hr
  unfold bbin at hr
  cases op <;> first | (cases hr; done) | (obtain rfl := Option.some.inj hr; exact fun q => q)
 unfold bin at h
 split at h
 ·split at h
  ·obtain ⟨rfl,rfl⟩ := Prod.mk.inj (Option.some.inj h); exact fun q => q
  ·obtain ⟨rfl,rfl⟩ := Prod.mk.inj (Option.some.inj h); exact fun q => q
  ·split at h
   ·split at h
    ·rename_i r e
     obtain ⟨rfl,rfl⟩ := Prod.mk.inj (Option.some.inj h)
     exact one e
    ·cases h
   ·cases h
 ·split at h
  ·rename_i r e
   obtain ⟨rfl,rfl⟩ := Prod.mk.inj (Option.some.inj h)
   exact two e
  ·cases h
 ·split at h
  ·rename_i ti e
   cases q:Nat.beq ti.kind 6 with
   | false => rw [q] at h; cases h
   | true =>
    rw [q] at h
    dsimp only [cond_true] at h
    split at h
    ·rename_i r e
     obtain ⟨rfl,rfl⟩ := Prod.mk.inj (Option.some.inj h)
     exact three e
    ·cases h
  ·cases h
 ·split at h
  ·split at h
   ·split at h
    ·obtain ⟨rfl,rfl⟩ := Prod.mk.inj (Option.some.inj h); exact fun q => q
    ·obtain ⟨rfl,rfl⟩ := Prod.mk.inj (Option.some.inj h); exact fun q => q
    ·cases h
   ·cases h
  ·cases h
 ·cases h
theorem part_ment {cs:List CV} {off k:Nat} {agg:Bool} {v:AV} (h:part cs off k agg = some v) {n:Nm} (hm:AMent v n):CMent cs n := by
 unfold part at h
 cases q:Nat.ble (off + k) cs.length with
 | false => rw [q] at h; cases h
 | true =>
  rw [q] at h
  have h:ofCells agg ((cs.drop off).take k) = some v := h
  have sub:∀ {c:CV},c ∈ (cs.drop off).take k → c ∈ cs := fun hc => List.mem_of_mem_drop (List.mem_of_mem_take hc)
  unfold ofCells at h
  split at h
  ·obtain rfl := Option.some.inj h
   obtain ⟨c,hc,hm⟩ := hm
   exact ⟨c,sub hc,hm⟩
  ·rename_i c e _
   obtain rfl := Option.some.inj h
   exact ⟨c,sub (by rw [e]; exact List.mem_singleton.2 rfl),hm⟩
  ·cases h
theorem loadCells_ment {ob:Nm → Option Ob} {k:Nat} {agg:Bool} {p:CV} {v:AV} (h:loadCells ob k agg p = some v) {n:Nm} (hm:AMent v n):∃ m x,Ment p m ∧ ob m = some x ∧ OMent x n := by
 cases p with
 | pb m off =>
  unfold loadCells at h
  dsimp only at h
  split at h
  ·rename_i cs e
   exact ⟨m,_,rfl,e,part_ment h hm⟩
  ·cases h
 | pa m z i j =>
  unfold loadCells at h
  dsimp only at h
  split at h
  ·exact absurd (part_ment h hm) (split_ment _ _ _)
  ·cases h
 | pe t x j => exact absurd (part_ment (show part (split t x) j k agg = some v from h) hm) (split_ment _ _ _)
 | _ => cases h
theorem fillC_ment {pl:Nat → Option (Nat×Nat)}:∀ {ps:List (Nat×AV)} {cs out:List CV},fillC pl cs ps = some out → ∀ {n:Nm},CMent out n → CMent cs n ∨ ∃ p ∈ ps,AMent p.2 n
 | [],cs,out,h,n,hm => by
  obtain rfl := Option.some.inj (show some cs = some out from h)
  exact .inl hm
 | p :: ps,cs,out,h,n,hm => by
  simp only [fillC] at h
  split at h
  ·rename_i off k new _ hn
   cases q:(Nat.beq new.length k && Nat.ble (off + k) cs.length) with
   | false => rw [q] at h; cases h
   | true =>
    rw [q,cond_true] at h
    rcases fillC_ment h hm with g | ⟨p',hp,g⟩
    ·have:CMent cs n ∨ CMent new n := by
      obtain ⟨c,hc,hm⟩ := g
      unfold spl at hc
      rcases List.mem_append.1 hc with hc | hc
      ·rcases List.mem_append.1 hc with hc | hc
       ·exact .inl ⟨c,List.mem_of_mem_take hc,hm⟩
       ·exact .inr ⟨c,hc,hm⟩
      ·exact .inl ⟨c,List.mem_of_mem_drop hc,hm⟩
     rcases this with g | g
     ·exact .inl g
     ·exact .inr ⟨p,List.mem_cons_self ..,asCells_ment hn g⟩
    ·exact .inr ⟨p',List.mem_cons_of_mem _ hp,g⟩
  ·cases h
theorem vop_see {τ:Tab} (hv:vKind τ o = true) {e:Operand → AV} {ob ob':Nm → Option Ob} (ho:∀ x ∈ o.op.operands, ∀ n,AMent (e x) n → ob' n = ob n):vop τ o.op e ob' = vop τ o.op e ob := by
 unfold vKind at hv
 cases hop:o.op with
 | build t ps => rfl
 | load t a =>
  rw [hop] at ho
  unfold vop
  dsimp only
  cases τ.get t with
  | none => rfl
  | some ti =>
   cases he:e a with
   | c p =>
    have h1:∀ n,Ment p n → ob' n = ob n := fun n hn => ho a (by simp [Op.operands]) n (by rw [he]; exact hn)
    dsimp only
    have:loadCells ob' ti.size ti.agg p = loadCells ob ti.size ti.agg p := by
     cases p with
     | pb m off => unfold loadCells; dsimp only; rw [h1 m rfl]
     | pa m z i j => unfold loadCells; dsimp only; rw [h1 m rfl]
     | _ => rfl
    rw [this]
   | _ => rfl
 | indexAddr t a i =>
  rw [hop] at ho
  unfold vop
  dsimp only
  cases τ.get t with
  | none => rfl
  | some ti =>
   cases he:e a with
   | c p =>
    have h1:∀ n,Ment p n → ob' n = ob n := fun n hn => ho a (by simp [Op.operands]) n (by rw [he]; exact hn)
    have:∀ k j,idxAddr ob' k j p = idxAddr ob k j p := by
     intro k j
     cases p with
     | own m => unfold idxAddr; dsimp only; rw [h1 m rfl]
     | v t x => cases t <;> rfl
     | _ => rfl
    cases hi:e i with
    | c q =>
     cases q with
     | v t x =>
      cases t with
      | int k =>
       dsimp only
       cases τ.get ti.el with
       | none => rfl
       | some te => dsimp only; rw [this]
      | _ => rfl
     | _ => rfl
    | _ => rfl
   | _ => rfl
 | convert q d a =>
  rw [hop] at ho
  unfold vop
  dsimp only
  cases τ.get q with
  | none => rfl
  | some tq =>
   dsimp only
   cases τ.get d with
   | none => rfl
   | some ti =>
    cases he:e a with
    | c p =>
     cases p with
     | own m => dsimp only; rw [ho a (by simp [Op.operands]) m (by rw [he]; exact rfl)]
     | v t x =>
      cases t with
      | sl u => cases u <;> first | rfl | (rename_i ik; cases ik <;> rfl)
      | _ => rfl
     | _ => rfl
    | _ => rfl
 | slice t x lo hi mx => cases mx <;> rfl
 | move x => rfl
 | assign x => rfl
 | fieldAddr t x f => rfl
 | field t x f => rfl
 | nilCheck x => rfl
 | extract x i => rfl
 | binOp a b c d e => rfl
 | unOp a b c => rfl
 | pick a b c => rfl
 | call c =>
  obtain ⟨cl,xs,ts⟩ := c
  rw [hop] at hv ho
  cases cl with
  | builtin b =>
   cases b <;> try (cases hv; done)
   have one:∀ x ∈ xs.toList, ∀ p,e x = .c p → lenOf ob' p = lenOf ob p := by
    intro x hx p he
    have h1:∀ n,Ment p n → ob' n = ob n := fun n hn => ho x (by simp [Op.operands,Call.operands]; simpa using hx) n (by rw [he]; exact hn)
    cases p with
    | own m => unfold lenOf; dsimp only; rw [h1 m rfl]
    | v t x => cases t <;> rfl
    | _ => rfl
   unfold vop
   dsimp only
   cases hl:xs.toList with
   | nil => rfl
   | cons x r =>
    cases r with
    | nil =>
     cases he:e x with
     | c p =>
      simp only [List.map_cons,List.map_nil,he]
      rw [one x (by rw [hl]; exact List.mem_cons_self ..) p he]
     | _ => simp only [List.map_cons,List.map_nil,he]
    | cons y r =>
     simp only [List.map_cons]
     cases e x with
     | c p => rfl
     | _ => rfl
  | _ => cases hv
 | _ => rw [hop] at hv; cases hv
theorem vop_ment {τ:Tab} (hv:vKind τ o = true) {e:Operand → AV} {ob:Nm → Option Ob} {c:Bool} {v:AV} (h:vop τ o.op e ob = some (c,v)) {n:Nm} (hm:AMent v n) :
  (∃ x ∈ o.op.operands,AMent (e x) n) ∨ ∃ x ∈ o.op.operands, ∃ m y,AMent (e x) m ∧ ob m = some y ∧ OMent y n := by
 unfold vKind at hv
 cases hop:o.op with
 | build t ps =>
  rw [hop] at h
  left
  unfold vop at h
  dsimp only at h
  have key:∀ {pl:Nat → Option (Nat×Nat)} {zc cs:List CV},(∀ n, ¬ CMent zc n) → fillC pl zc (ps.toList.map fun p => (p.1,e p.2)) = some cs → CMent cs n → ∃ x ∈ (Op.build t ps).operands,AMent (e x) n := fun hz hf hc => by
   rcases fillC_ment hf hc with q | ⟨p,hp,q⟩
   ·exact absurd q (hz n)
   ·obtain ⟨p',hp',rfl⟩ := List.mem_map.1 hp
    exact ⟨p'.2,Array.mem_def.2 (List.mem_map.2 ⟨p',hp',rfl⟩),q⟩
  split at h
  ·rename_i ti _
   split at h
   ·rename_i zc hz
    have zm := fun n => z0_ment hz n
    cases q1:Nat.beq ti.kind 2 with
    | true =>
     rw [q1,cond_true] at h
     split at h
     ·rename_i cs hf
      obtain ⟨_,rfl⟩ := Prod.mk.inj (Option.some.inj h)
      exact key zm hf hm
     ·cases h
    | false =>
     rw [q1,cond_false] at h
     cases q2:Nat.beq ti.kind 4 with
     | false => rw [q2] at h; cases h
     | true =>
      rw [q2,cond_true] at h
      split at h
      ·split at h
       ·rename_i cs hf
        obtain ⟨_,rfl⟩ := Prod.mk.inj (Option.some.inj h)
        exact key zm hf hm
       ·cases h
      ·cases h
   ·cases h
  ·cases h
 | move x => rw [hop] at h; obtain ⟨_,rfl⟩ := Prod.mk.inj (Option.some.inj h); exact .inl ⟨x,by simp [Op.operands],hm⟩
 | assign x => rw [hop] at h; obtain ⟨_,rfl⟩ := Prod.mk.inj (Option.some.inj h); exact .inl ⟨x,by simp [Op.operands],hm⟩
 | slice t x lo hi mx =>
  rw [hop] at h hv
  cases mx with
  | some y => cases hv
  | none =>
   dsimp only at hv
   unfold vop at h
   dsimp only at h
   split at h
   ·generalize Nat.beq _ 5 = q at h
    cases q with
    | false => cases h
    | true =>
     dsimp only [cond_true] at h
     split at h <;> first | (cases h; done) | (obtain ⟨_,rfl⟩ := Prod.mk.inj (Option.some.inj h); exact hm.elim)
   ·rename_i ti t' xs e1 e2
    rw [e1] at hv
    have h5:ti.kind = 5 := Nat.eq_of_beq_eq_true hv
    have h3:Nat.beq ti.kind 3 = false := by rw [h5]; rfl
    rw [h3] at h
    cases h
   ·cases h
 | load t a =>
  rw [hop] at h
  unfold vop at h
  dsimp only at h
  split at h
  ·rename_i ti p e1 e2
   split at h
   ·rename_i v' e3
    obtain ⟨_,rfl⟩ := Prod.mk.inj (Option.some.inj h)
    obtain ⟨m,y,h1,h2,h3⟩ := loadCells_ment e3 hm
    exact .inr ⟨a,by simp [Op.operands],m,y,by rw [e2]; exact h1,h2,h3⟩
   ·cases h
  ·cases h
 | indexAddr t a i =>
  rw [hop] at h
  unfold vop at h
  dsimp only at h
  split at h
  ·rename_i ti p ik j e1 e2 e3
   cases q:Nat.beq ti.kind 3 with
   | false => rw [q] at h; cases h
   | true =>
    rw [q] at h
    dsimp only [cond_true] at h
    split at h
    ·refine .inl ⟨a,by simp [Op.operands], ?_⟩
     rw [e2]
     cases p with
     | own m =>
      unfold idxAddr at h
      dsimp only at h
      split at h
      ·rename_i u xs _
       cases q:Nat.beq _ u.sz with
       | false => rw [q] at h; cases h
       | true => rw [q] at h; obtain ⟨_,rfl⟩ := Prod.mk.inj (Option.some.inj h); exact hm
      ·cases h
     | v t x =>
      cases t with
      | sl u =>
       unfold idxAddr at h
       dsimp only at h
       cases q:Nat.beq _ u.sz with
       | false => rw [q] at h; cases h
       | true => rw [q] at h; obtain ⟨_,rfl⟩ := Prod.mk.inj (Option.some.inj h); exact hm.elim
      | _ => cases h
     | _ => cases h
    ·cases h
  ·cases h
 | convert q d a =>
  rw [hop] at h
  exfalso
  unfold vop at h
  dsimp only at h
  have fin:∀ {b:Bool} {w:CV},(¬ Ment w n) → (bif b then some (true,AV.c w) else none) = some (c,v) → False := fun {b w} hw q => by
   cases b with
   | false => cases q
   | true => obtain ⟨_,rfl⟩ := Prod.mk.inj (Option.some.inj q); exact hw hm
  split at h
  ·cases h
  ·split at h
   ·exact fin (w := .v _ _) (fun q => q) h
   ·exact fin (w := .v _ _) (fun q => q) h
   ·exact fin (w := .v _ _) (fun q => q) h
   ·exact fin (w := .v _ _) (fun q => q) h
   ·split at h
    ·exact fin (w := .v _ _) (fun q => q) h
    ·cases h
   ·cases h
 | fieldAddr t x f =>
  rw [hop] at h
  unfold vop at h
  dsimp only at h
  split at h
  ·rename_i ti p e1 e2
   cases q:Nat.beq ti.kind 2 with
   | false => rw [q] at h; cases h
   | true =>
    rw [q] at h
    dsimp only [cond_true] at h
    split at h
    ·split at h
     ·rename_i fd _ _ q' e4
      obtain ⟨_,rfl⟩ := Prod.mk.inj (Option.some.inj h)
      refine .inl ⟨x,by simp [Op.operands], ?_⟩
      rw [e2]
      cases p with
      | pb m k => obtain rfl := Option.some.inj (show some (CV.pb m (k + fd.1)) = some q' from e4); exact hm
      | pa m z k j => obtain rfl := Option.some.inj (show some (CV.pa m z k (j + fd.1)) = some q' from e4); exact hm
      | pe u y j => obtain rfl := Option.some.inj (show some (CV.pe u y (j + fd.1)) = some q' from e4); exact hm
      | _ => cases e4
     ·cases h
    ·cases h
  ·cases h
 | field t x f =>
  rw [hop] at h
  unfold vop at h
  dsimp only at h
  split at h
  ·rename_i ti cs e1 e2
   cases q:Nat.beq ti.kind 2 with
   | false => rw [q] at h; cases h
   | true =>
    rw [q] at h
    dsimp only [cond_true] at h
    split at h
    ·split at h
     ·rename_i fd _ v' e4
      obtain ⟨_,rfl⟩ := Prod.mk.inj (Option.some.inj h)
      refine .inl ⟨x,by simp [Op.operands], ?_⟩
      rw [e2]
      exact part_ment e4 hm
     ·cases h
    ·cases h
  ·cases h
 | nilCheck x =>
  rw [hop] at h
  unfold vop at h
  dsimp only at h
  refine .inl ⟨x,by simp [Op.operands], ?_⟩
  split at h
  ·rename_i e2; rw [e2]; obtain ⟨_,rfl⟩ := Prod.mk.inj (Option.some.inj h); exact hm
  ·rename_i e2; rw [e2]; obtain ⟨_,rfl⟩ := Prod.mk.inj (Option.some.inj h); exact hm
  ·rename_i e2; rw [e2]; obtain ⟨_,rfl⟩ := Prod.mk.inj (Option.some.inj h); exact hm
  ·cases h
 | extract x i =>
  rw [hop] at h
  unfold vop at h
  dsimp only at h
  split at h
  ·rename_i cs e2
   split at h
   ·rename_i p e3
    split at h
    ·rename_i v' e4
     obtain ⟨_,rfl⟩ := Prod.mk.inj (Option.some.inj h)
     refine .inl ⟨x,by simp [Op.operands], ?_⟩
     rw [e2]
     refine ⟨p,List.mem_of_getElem? e3, ?_⟩
     unfold ofCells at e4
     split at e4
     ·rename_i e5 _; obtain rfl := Option.some.inj e4; exact hm
     ·rename_i cc e5 e6; obtain rfl := Option.some.inj e4; rw [e6]; exact ⟨cc,List.mem_singleton.2 rfl,hm⟩
     ·cases e4
    ·cases h
   ·cases h
  ·cases h
 | binOp a b x y z =>
  rw [hop] at h
  unfold vop at h
  dsimp only at h
  split at h
  ·exfalso
   unfold nilBin at h
   split at h
   ·cases h
   ·split at h
    ·rename_i ti _ k b' _
     generalize Nat.beq _ (nilKind _) = q at h
     cases q with
     | false => cases h
     | true =>
      dsimp only [cond_true] at h
      unfold nilRes at h
      split at h
      ·obtain ⟨_,rfl⟩ := Prod.mk.inj (Option.some.inj h); exact hm
      ·obtain ⟨_,rfl⟩ := Prod.mk.inj (Option.some.inj h); exact hm
      ·cases h
    ·cases h
  ·exact absurd hm (bin_ment h n)
 | unOp a b x =>
  rw [hop] at h
  exfalso
  unfold vop at h
  dsimp only at h
  split at h
  ·obtain ⟨_,rfl⟩ := Prod.mk.inj (Option.some.inj h); exact hm
  ·obtain ⟨_,rfl⟩ := Prod.mk.inj (Option.some.inj h); exact hm
  ·cases h
 | pick x a b =>
  rw [hop] at h
  unfold vop at h
  dsimp only at h
  split at h
  ·rename_i y e2
   obtain ⟨_,rfl⟩ := Prod.mk.inj (Option.some.inj h)
   unfold pickAV at hm
   split at hm
   ·exact hm.elim
   ·cases y with
    | true => exact .inl ⟨a,by simp [Op.operands],hm⟩
    | false => exact .inl ⟨b,by simp [Op.operands],hm⟩
  ·cases h
 | call c =>
  obtain ⟨cl,xs,ts⟩ := c
  rw [hop] at hv h
  exfalso
  cases cl with
  | builtin b =>
   cases b <;> try (cases hv; done)
   unfold vop at h
   dsimp only at h
   split at h
   ·split at h
    ·split at h
     ·rename_i ti _
      generalize (Nat.beq ti.kind (lenKind _) && !Nat.beq ti.kind 0) = q at h
      cases q with
      | false => cases h
      | true => obtain ⟨_,rfl⟩ := Prod.mk.inj (Option.some.inj h); exact hm
     ·cases h
    ·cases h
   ·rename_i e1 _; cases e1
   ·rename_i e1 _; cases e1
   ·cases h
  | _ => cases hv
 | _ => rw [hop] at hv; cases hv
theorem vopX_see {τ:Tab} (hv:vKind τ o = true) {e:Operand → AV} {ob ob':Nm → Option Ob} (ho:∀ x ∈ o.op.operands, ∀ n,AMent (e x) n → ob' n = ob n):vopX τ o.op e ob' = vopX τ o.op e ob := by
 unfold vopX
 rw [vop_see hv ho]
theorem vopX_ment {τ:Tab} (hv:vKind τ o = true) {e:Operand → AV} {ob:Nm → Option Ob} {c:Bool} {v:AV} (h:vopX τ o.op e ob = some (c,v)) {n:Nm} (hm:AMent v n) :
  (∃ x ∈ o.op.operands,AMent (e x) n) ∨ ∃ x ∈ o.op.operands, ∃ m y,AMent (e x) m ∧ ob m = some y ∧ OMent y n := by
 unfold vopX at h
 cases hq:vop τ o.op e ob with
 | some r =>
  rw [hq] at h
  obtain rfl := Option.some.inj h
  exact vop_ment hv hq hm
 | none =>
  rw [hq] at h
  cases ha:arrV τ o.op e with
  | none => rw [ha] at h; cases h
  | some u =>
   rw [ha] at h
   obtain ⟨_,rfl⟩ := Prod.mk.inj (Option.some.inj h)
   exact .inl (arrV_ment ha hm)
end
def Fresh (d:Nat) (s:St):Prop := (∀ t,t ≠ d → ∀ n,headed d n = true → ¬ AMent (s.t t) n) ∧ ∀ m ob,s.o m = some ob → headed d m = false ∧ ∀ n,headed d n = true → ¬ OMent ob n
def Clean (d:Nat) (s:St):Prop := s.t d = .c (.pb [d,0] 0) ∧ (∀ t,t ≠ d → ¬ AMent (s.t t) [d,0]) ∧ ∀ m ob,s.o m = some ob → ¬ OMent ob [d,0]
theorem CV.drop_id {n:Nm} {c:CV} (h:¬ Ment c n):c.drop n = c := by
 cases c with
 | own m => show (bif Nm.eqb m n then CV.dead else .own m) = _; rw [eqb_false.2 h]; rfl
 | pb m k => show (bif Nm.eqb m n then CV.dead else .pb m k) = _; rw [eqb_false.2 h]; rfl
 | pa m z i j => show (bif Nm.eqb m n then CV.dead else .pa m z i j) = _; rw [eqb_false.2 h]; rfl
 | mp m => show (bif Nm.eqb m n then CV.dead else .mp m) = _; rw [eqb_false.2 h]; rfl
 | clo f cs =>
  have:(cs.any fun p => Nm.eqb p.1 n) = false := by
   rw [List.any_eq_false]
   intro p hp
   rw [eqb_false.2 (fun e => h ⟨p,hp,e⟩)]
   exact Bool.noConfusion
  show (bif (cs.any fun p => Nm.eqb p.1 n) then CV.dead else .clo f cs) = _
  rw [this]; rfl
 | _ => rfl
theorem CVs.drop_id {n:Nm} {cs:List CV} (h:¬ CMent cs n):cs.map (CV.drop n) = cs := by
 induction cs with
 | nil => rfl
 | cons c cs ih =>
  rw [List.map_cons,CV.drop_id (fun q => h ⟨c,List.mem_cons_self ..,q⟩),ih (fun ⟨x,hx,q⟩ => h ⟨x,List.mem_cons_of_mem _ hx,q⟩)]
theorem AV.drop_id {n:Nm} {v:AV} (h:¬ AMent v n):v.drop n = v := by
 cases v with
 | c x => exact congrArg AV.c (CV.drop_id h)
 | g cs => exact congrArg AV.g (CVs.drop_id h)
 | tup l =>
  refine congrArg AV.tup ?_
  induction l with
  | nil => rfl
  | cons p l ih =>
   rw [List.map_cons,ih (fun ⟨x,hx,q⟩ => h ⟨x,List.mem_cons_of_mem _ hx,q⟩),CVs.drop_id (fun q => h ⟨p,List.mem_cons_self ..,q⟩)]
theorem Ob.drop_id {n:Nm} {x:Ob} (h:¬ OMent x n):x.drop n = x := by
 cases x with
 | box cs => exact congrArg Ob.box (CVs.drop_id h)
 | _ => rfl
theorem Fresh.o_none {d:Nat} {s:St} (h:Fresh d s) {n:Nm} (hn:headed d n = true):s.o n = none := by
 cases q:s.o n with
 | none => rfl
 | some ob => rw [(h.2 n ob q).1] at hn; cases hn
theorem Fresh.drops {d:Nat} {s:St} (h:Fresh d s):∀ (ns:List Nm),(∀ n ∈ ns,headed d n = true) → (∀ t,t ≠ d → (s.drops ns).t t = s.t t) ∧ (s.drops ns).o = s.o
 | [],_ => ⟨fun _ _ => rfl,rfl⟩
 | n :: ns,hn => by
  have h0 := hn n (List.mem_cons_self ..)
  have e1:∀ t,t ≠ d → (s.drop n).t t = s.t t := fun t ht => AV.drop_id (h.1 t ht n h0)
  have e2:(s.drop n).o = s.o := by
   funext m
   show (bif Nm.eqb m n then none else (s.o m).map (Ob.drop n)) = s.o m
   cases q:Nm.eqb m n with
   | true => rw [eqb_iff.1 q,h.o_none h0]; rfl
   | false =>
    cases q2:s.o m with
    | none => rfl
    | some ob => exact congrArg some (Ob.drop_id ((h.2 m ob q2).2 n h0))
  have h':Fresh d (s.drop n) := ⟨fun t ht k hk => by rw [e1 t ht]; exact h.1 t ht k hk,fun m ob hm => by rw [e2] at hm; exact h.2 m ob hm⟩
  obtain ⟨g1,g2⟩ := h'.drops ns (fun k hk => hn k (List.mem_cons_of_mem _ hk))
  exact ⟨fun t ht => (g1 t ht).trans (e1 t ht),g2.trans e2⟩
theorem Fresh.ev {d:Nat} {s:St} (h:Fresh d s) {n:Nm} (hn:headed d n = true) {x:Operand} (hx:x ≠ .tmp d):(s.drop n).ev x = s.ev x := by
 cases x with
 | tmp t => exact ((h.drops [n] (fun k hk => by rw [List.mem_singleton.1 hk]; exact hn)).1 t (fun e => hx (by rw [e])))
 | _ => rfl
def lax:Tag → Bool
 | .no => true
 | .ln _ => true
 | _ => false
def noBox:Par → Bool
 | .p _ => false
 | _ => true
def callMK {R:Type} (S:FSum) (vs:List AV) (d:Nat) (o:Nm → Option Ob) (k:AV → List (Nm×Ob) → Option R):Option R :=
 bif Nat.beq (vs.length + S.gh.length) S.pars.length && (isNilG S.gh && S.pars.all noBox) then (match getVs o (parEns 0 S.pars) vs with
  | some (ds,ts) => bif shapeOk S.pars.length (parEns 0 S.pars) && (tagsOk ts && ((bif S.shares then isNil (ts.flatMap Tag.lent) else true) && (isNil ((ts.flatMap Tag.pair).map Prod.snd) && ts.all lax))) then (match pack (entys (parEns 0 S.pars)) ds with
   | some x => match S.g x with
    | some r => match upsOf d (fun _ => none) ts (S.ens.flatMap En.names) (mkBs S.ens (unpack _ r)) with
     | some ups => bif callOk S d (fun _ => none) ts (mkVs S.ens (unpack _ r)) (mkBs S.ens (unpack _ r)) ups then k ((resAV (mkVs S.ens (unpack _ r)) S.pars.length S.res.length).ren d ts (S.ens.flatMap En.names)) ups else none
     | none => none
    | none => none
   | none => none) else none
  | none => none) else none
def isAlloc:Op → Bool
 | .alloc _ => true
 | _ => false
def isBS:Op → Bool
 | .buildSlice _ _ ⟨[]⟩ => true
 | _ => false
def appSrc (o:Oper):Option Nat := match o.op,o.dst with
 | .call { callee := .builtin .append,args := ⟨[.tmp t,_]⟩, .. },some _ => some t
 | _,_ => none
def noGuard (o:Oper):Bool := match o.guard with
 | none => true
 | some _ => false
def kindOf (E:Env) (o:Oper):Nat := bif vKind E.τ o && (match o.dst with | some _ => true | none => false) then 0 else bif noGuard o then (match o.op,o.dst with
 | .call { callee := .value (.func f), .. },some d => (match E.Γ f d with
  | some S => bif isNil (S.ens.flatMap En.names) then 4 else 1
  | none => 3)
 | .alloc _,some _ => 1
 | .buildSlice _ _ ⟨[]⟩,some _ => 1
 | .store _ (.tmp _) _,none => 2
 | .call { callee := .builtin .append,args := ⟨[.tmp _,_]⟩, .. },some _ => 6
 | _,_ => 3) else 3
def makK {R:Type} (E:Env) (o:Oper) (s:St) (k:St → Option R):Option R := match o.dst with
 | none => none
 | some d => bif Nat.blt d E.N then (match o.op with
  | .call { callee := .value (.func f),args, .. } => (match E.Γ f d with
   | some S => callMK S (args.toList.map s.ev) d s.o (fun v ups => k ((s.over ups).put (some d) v))
   | none => none)
  | op => (match mop E.τ op s.ev [d,0] with
   | some (c,ob,v) => (match c with | true => k ((s.over [([d,0],ob)]).put (some d) v) | false => none)
   | none => none)) else none
def opmK {R:Type} (fr:Bool) (E:Env) (o:Oper) (s:St) (k:St → Option R):Option R := match kindOf E o with
 | 1 => (match fr with | true => makK E o s k | false => opK E o s k)
 | 4 => makK E o s k
 | _ => opK E o s k
def opsmK {R:Type} (fr:Bool) (E:Env) (all:List Oper):List Oper → St → (St → Option R) → Option R
 | [],s,k => k s
 | o :: r,s,k => match o.guard with
  | none => opmK fr E o s (fun s' => opsmK fr E all r s' k)
  | some _ => opsK E all [o] s (fun s' => opsmK fr E all r s' k)
structure Makes (E:Env) (l:List Oper) (o:Oper) (q:Bool) (s:St) (d:Nat) (v:AV) (ups:List (Nm×Ob)):Prop where
 dst:o.dst = some d
 step:∀ s':St,(∀ t ∈ rds l o,s'.t t = s.t t) → (∀ t ∈ rds l o, ∀ n,AMent (s.t t) n → s'.o n = s.o n) → (q = true → Fresh d s') → stg E l o s' = some ((s'.over ups).put (some d) v)
 hd:∀ p ∈ ups,headed d p.1 = true
 ment:∀ n,(AMent v n ∨ ∃ p ∈ ups,OMent p.2 n) → headed d n = true ∨ (∃ t ∈ rds l o,AMent (s.t t) n) ∨ ∃ t ∈ rds l o, ∃ m y,AMent (s.t t) m ∧ s.o m = some y ∧ OMent y n
section
variable {E:Env} {l:List Oper} {o:Oper} {s s1:St}
theorem makes_P (hk:kindOf E o = 0) (h:stg E l o s = some s1):∃ d v,Makes E l o false s d v [] ∧ s1 = (s.over []).put (some d) v := by
 obtain ⟨hv,d,hd⟩:vKind E.τ o = true ∧ ∃ d,o.dst = some d := by
  unfold kindOf at hk
  cases q:(vKind E.τ o && (match o.dst with | some _ => true | none => false)) with
  | false =>
   rw [q] at hk
   dsimp only [cond_false] at hk
   cases hn:noGuard o with
   | false => rw [hn] at hk; cases hk
   | true =>
    rw [hn] at hk
    dsimp only [cond_true] at hk
    split at hk
    ·split at hk
     ·rename_i S _
      cases hs:isNil (S.ens.flatMap En.names) <;> (rw [hs] at hk; cases hk)
     ·cases hk
    all_goals cases hk
  | true =>
   rw [Bool.and_eq_true] at q
   refine ⟨q.1, ?_⟩
   cases hd:o.dst with
   | none => rw [hd] at q; exact absurd q.2 (by decide)
   | some d => exact ⟨d,rfl⟩
 rw [stg_eq] at h
 cases hg:gd l o s with
 | none => rw [hg] at h; cases h
 | some b =>
  rw [hg] at h
  cases b with
  | false =>
   have h:(bif dstOk E.N o.dst then some (s.put o.dst gone) else none) = some s1 := h
   cases hN:dstOk E.N o.dst with
   | false => rw [hN] at h; cases h
   | true =>
    rw [hN,hd] at h
    refine ⟨d,gone,⟨hd,fun s' h1 _ _ => ?_,fun p hp => (by cases hp),fun n hn => ?_⟩,(Option.some.inj h).symm⟩
    ·rw [stg_eq,gd_same h1,hg]
     dsimp only
     rw [hN,hd]; rfl
    ·rcases hn with hn | ⟨p,hp,_⟩
     ·exact hn.elim
     ·cases hp
  | true =>
   have h:opK (R := St) E o s some = some s1 := h
   rw [vstep hv hd] at h
   cases hq:vopX E.τ o.op s.ev s.o with
   | none => rw [hq] at h; cases h
   | some r =>
    obtain ⟨c,v⟩ := r
    rw [hq] at h
    dsimp only at h
    cases hN:Nat.blt d E.N with
    | false => rw [hN] at h; cases h
    | true =>
     rw [hN] at h
     cases c with
     | false => cases h
     | true =>
      refine ⟨d,v,⟨hd,fun s' h1 h2 _ => ?_,fun p hp => (by cases hp),fun n hn => ?_⟩,(Option.some.inj h).symm⟩
      ·rw [stg_eq,gd_same h1,hg]
       dsimp only
       rw [vstep hv hd, ← vopX_congr (ev_same h1),vopX_see hv (ob := s.o) (fun x hx n hn => by
        obtain ⟨t,ht,hm⟩ := rds_ev (l := l) hx hn
        exact h2 t ht n hm),hq]
       dsimp only
       rw [hN]; rfl
      ·rcases hn with hn | ⟨p,hp,_⟩
       ·rcases vopX_ment hv hq hn with ⟨x,hx,hm⟩ | ⟨x,hx,m,y,hm,g1,g2⟩
        ·exact .inr (.inl (rds_ev hx hm))
        ·obtain ⟨t,ht,hm⟩ := rds_ev (l := l) hx hm
         exact .inr (.inr ⟨t,ht,m,y,hm,g1,g2⟩)
       ·cases hp
theorem callMK_fun {R:Type} {S:FSum} {vs:List AV} {d:Nat} {ob:Nm → Option Ob} (k:AV → List (Nm×Ob) → Option R):callMK S vs d ob k = (callMK S vs d ob (fun v ups => some (v,ups))).bind fun p => k p.1 p.2 := by
 unfold callMK
 simp only [bif_bind,Option.bind_none]
 split
 ·simp only [bif_bind,Option.bind_none]
  split
  ·split
   ·split
    ·simp only [bif_bind,Option.bind_none,Option.bind_some]
    ·rfl
   ·rfl
  ·rfl
 ·rfl
theorem lax_find {n:Nm} {ts:List Tag} (h:ts.all lax = true):findTag n ts = .no := by
 induction ts with
 | nil => rfl
 | cons t ts ih =>
  rw [List.all_cons,Bool.and_eq_true] at h
  cases t with
  | no => exact ih h.2
  | ln m => exact ih h.2
  | _ => cases h.1
theorem lax_moved {ts:List Tag} (h:ts.all lax = true):ts.flatMap Tag.moved = [] ∧ ts.flatMap Tag.pair = [] := by
 induction ts with
 | nil => exact ⟨rfl,rfl⟩
 | cons t ts ih =>
  rw [List.all_cons,Bool.and_eq_true] at h
  obtain ⟨g1,g2⟩ := ih h.2
  rw [List.flatMap_cons,List.flatMap_cons,g1,g2]
  cases t with
  | no => exact ⟨rfl,rfl⟩
  | ln m => exact ⟨rfl,rfl⟩
  | _ => cases h.1
theorem upsOf_lax {d:Nat} {ob ob':Nm → Option Ob} {ts:List Tag} {names:List Nm} (h:ts.all lax = true):∀ (oe:List (Nm×Ob)),upsOf d ob ts names oe = upsOf d ob' ts names oe
 | [] => rfl
 | (m,x) :: r => by
  unfold upsOf
  rw [upsOf_lax (ob := ob) (ob' := ob') h r]
  have:upOf d ob ts names m x = upOf d ob' ts names m x := by
   unfold upOf
   rw [lax_find h]
  rw [this]
theorem callOk_lax {S:FSum} {d:Nat} {ob ob':Nm → Option Ob} {ts:List Tag} {te:List (Nat×AV)} {oe ups:List (Nm×Ob)} (h:ts.all lax = true):callOk S d ob ts te oe ups = callOk S d ob' ts te oe ups := by
 unfold callOk
 rw [(lax_moved h).2]; rfl
theorem ren_lax {d:Nat} {ts:List Tag} {names:List Nm} (h:ts.all lax = true) {c:CV} {n:Nm} (hm:Ment (renC d ts names c) n):headed d n = true := by
 have one:∀ {p q:Nm×Nat},renP d ts names p = some q → headed d q.1 = true := by
  intro p q e
  unfold renP at e
  rw [lax_find h] at e
  dsimp only at e
  cases k:memN p.1 names with
  | false => rw [k] at e; cases e
  | true => rw [k] at e; obtain rfl := Option.some.inj e; exact Nat.beq_refl d
 cases c with
 | own m => obtain rfl:d :: m = n := hm; exact Nat.beq_refl d
 | pb m k =>
  have hm:Ment (match renP d ts names (m,k) with | some q => CV.pb q.1 q.2 | none => .dead) n := hm
  cases e:renP d ts names (m,k) with
  | none => rw [e] at hm; exact hm.elim
  | some q => rw [e] at hm; obtain rfl:q.1 = n := hm; exact one e
 | clo f cs =>
  have hm:Ment (match renPs d ts names cs with | some q => CV.clo f q | none => .dead) n := hm
  cases e:renPs d ts names cs with
  | none => rw [e] at hm; exact hm.elim
  | some q =>
   rw [e] at hm
   have all:∀ {cs:List (Nm×Nat)} {q:List (Nm×Nat)},renPs d ts names cs = some q → ∀ p ∈ q,headed d p.1 = true := by
    intro cs
    induction cs with
    | nil => intro q e p hp; obtain rfl := Option.some.inj e; cases hp
    | cons c cs ih =>
     intro q e p hp
     unfold renPs at e
     cases e1:renP d ts names c with
     | none => rw [e1] at e; cases e
     | some a =>
      cases e2:renPs d ts names cs with
      | none => rw [e1,e2] at e; cases e
      | some b =>
       rw [e1,e2] at e
       obtain rfl := Option.some.inj e
       rcases List.mem_cons.1 hp with rfl | hp
       ·exact one e1
       ·exact ih e2 p hp
   obtain ⟨p,hp,rfl⟩ := hm
   exact all e p hp
 | v t x => exact hm.elim
 | er b => exact hm.elim
 | _ => exact hm.elim
theorem renV_lax {d:Nat} {ts:List Tag} {names:List Nm} (h:ts.all lax = true) {v:AV} {n:Nm} (hm:AMent (v.ren d ts names) n):headed d n = true := by
 cases v with
 | c x => exact ren_lax h hm
 | g cs =>
  obtain ⟨c,hc,hm⟩ := hm
  obtain ⟨x,_,rfl⟩ := List.mem_map.1 hc
  exact ren_lax h hm
 | tup ps =>
  obtain ⟨p,hp,c,hc,hm⟩ := hm
  obtain ⟨x,_,rfl⟩ := List.mem_map.1 hp
  obtain ⟨y,_,rfl⟩ := List.mem_map.1 hc
  exact ren_lax h hm
theorem ups_lax {d:Nat} {ob:Nm → Option Ob} {ts:List Tag} {names:List Nm} (h:ts.all lax = true):∀ {oe ups:List (Nm×Ob)},upsOf d ob ts names oe = some ups → ∀ p ∈ ups,headed d p.1 = true ∧ ∀ n,OMent p.2 n → headed d n = true
 | [],ups,e,p,hp => by obtain rfl := Option.some.inj e; cases hp
 | (m,x) :: r,ups,e,p,hp => by
  unfold upsOf at e
  cases e1:upOf d ob ts names m x with
  | none => rw [e1] at e; cases e
  | some a =>
   cases e2:upsOf d ob ts names r with
   | none => rw [e1,e2] at e; cases e
   | some b =>
    rw [e1,e2] at e
    obtain rfl := Option.some.inj e
    rcases List.mem_cons.1 hp with rfl | hp
    ·unfold upOf at e1
     rw [lax_find h] at e1
     dsimp only at e1
     cases x with
     | arr z t xs => obtain rfl := Option.some.inj e1; exact ⟨Nat.beq_refl d,fun n q => q.elim⟩
     | box cells =>
      obtain rfl := Option.some.inj e1
      refine ⟨Nat.beq_refl d,fun n q => ?_⟩
      obtain ⟨c,hc,hm⟩ := q
      obtain ⟨y,_,rfl⟩ := List.mem_map.1 hc
      exact ren_lax h hm
     | mp _ _ _ _ => cases e1
    ·exact ups_lax h e2 p hp
theorem psGet_see {ob ob':Nm → Option Ob} {nm:Nm} {p:PS} {c:CV} (h:∀ n,Ment c n → ob' n = ob n):psGet ob' nm p c = psGet ob nm p c := by
 cases c with
 | own m =>
  have e := h m rfl
  have g:∀ e0 t,getO ob' e0 t m = getO ob e0 t m := fun e0 t => by unfold getO; rw [e]
  cases p with
  | i t => cases t with
   | sl u =>
    show (match getO ob' none u m with | some xs => some (DV.mk (.sl u) xs,Tag.ln m) | none => none) = _
    rw [g]; rfl
   | _ => rfl
  | o e0 t =>
   show (match getO ob' (some e0) t m with | some xs => some (DV.mk (.sl t) xs,Tag.mv nm m) | none => none) = _
   rw [g]; rfl
  | b e0 t =>
   show (match getO ob' (some e0) t m with | some xs => some (DV.mk (.sl t) xs,Tag.bw nm m) | none => none) = _
   rw [g]; rfl
  | l =>
   show (match headLen ob' (.own m) with | some k => some (DV.mk (.int .i64) (k:Int),Tag.no) | none => none) = _
   have:headLen ob' (.own m) = headLen ob (.own m) := by
    show (match ob' m with | some (.arr _ _ xs) => some xs.length | _ => none) = (match ob m with | some (.arr _ _ xs) => some xs.length | _ => none)
    rw [e]
   rw [this]; rfl
  | _ => rfl
 | mp m =>
  have e := h m rfl
  cases p with
  | m kt vt ka =>
   show (match getM ob' kt vt ka m with | some xs => some (DV.mk (.sl (.pr kt vt)) xs,Tag.mm nm m) | none => none) = _
   have:getM ob' kt vt ka m = getM ob kt vt ka m := by unfold getM; rw [e]
   rw [this]; rfl
  | i t => cases t <;> rfl
  | _ => rfl
 | v ty x => cases p <;> first | rfl | (cases ty <;> rfl) | (rename_i t; cases t <;> rfl)
 | _ => cases p <;> first | rfl | (rename_i t; cases t <;> rfl)
theorem psGets_see {ob ob':Nm → Option Ob} {nm:Nat → PS → Nm}:∀ {k:Nat} {ps:List PS} {cs:List CV},(∀ n,CMent cs n → ob' n = ob n) → psGets ob' nm k ps cs = psGets ob nm k ps cs
 | _,[],[],_ => rfl
 | _,[],_ :: _,_ => rfl
 | _,_ :: _,[],_ => rfl
 | k,p :: ps,c :: cs,h => by
  unfold psGets
  rw [psGet_see (fun n hn => h n ⟨c,List.mem_cons_self ..,hn⟩),psGets_see (fun n ⟨x,hx,hn⟩ => h n ⟨x,List.mem_cons_of_mem _ hx,hn⟩)]
theorem enGet_see {ob ob':Nm → Option Ob} {e:En} {v:AV} (h:∀ n,AMent v n → ob' n = ob n) (hp:(∃ i p,e = .val i p) ∨ ∃ i ps,e = .agg i ps):enGet ob' e v = enGet ob e v := by
 rcases hp with ⟨i,p,rfl⟩ | ⟨i,ps,rfl⟩
 ·cases v with
  | c x => exact psGets_see (fun n ⟨y,hy,hn⟩ => h n (by rw [List.mem_singleton.1 hy] at hn; exact hn))
  | _ => rfl
 ·cases v with
  | g cs => exact psGets_see h
  | _ => rfl
theorem getVs_see {ob ob':Nm → Option Ob}:∀ {ps:List Par} {k:Nat} {vs:List AV},ps.all noBox = true → (∀ v ∈ vs, ∀ n,AMent v n → ob' n = ob n) → getVs ob' (parEns k ps) vs = getVs ob (parEns k ps) vs
 | [],_,[],_,_ => rfl
 | [],_,_ :: _,_,_ => rfl
 | p :: ps,k,[],_,_ => by cases p <;> rfl
 | p :: ps,k,v :: vs,hb,h => by
  rw [List.all_cons,Bool.and_eq_true] at hb
  have ih := getVs_see (k := k + 1) hb.2 (fun u hu => h u (List.mem_cons_of_mem _ hu))
  have hv := h v (List.mem_cons_self ..)
  cases p with
  | p ps => cases hb.1
  | c q =>
   show (match enGet ob' (.val k q) v,getVs ob' (parEns (k + 1) ps) vs with | some (ds,ts),some (ds',ts') => some (ds ++ ds',ts ++ ts') | _,_ => none) = _
   rw [ih,enGet_see hv (.inl ⟨_,_,rfl⟩)]; rfl
  | g q =>
   show (match enGet ob' (.agg k q) v,getVs ob' (parEns (k + 1) ps) vs with | some (ds,ts),some (ds',ts') => some (ds ++ ds',ts ++ ts') | _,_ => none) = _
   rw [ih,enGet_see hv (.inr ⟨_,_,rfl⟩)]; rfl
  | h q =>
   show (match enGet ob' (.agg k q) v,getVs ob' (parEns (k + 1) ps) vs with | some (ds,ts),some (ds',ts') => some (ds ++ ds',ts ++ ts') | _,_ => none) = _
   rw [ih,enGet_see hv (.inr ⟨_,_,rfl⟩)]; rfl
theorem callMK_iff {S:FSum} {vs:List AV} {d:Nat} {ob:Nm → Option Ob} {v:AV} {ups:List (Nm×Ob)}:callMK S vs d ob (fun v ups => some (v,ups)) = some (v,ups) ↔
  (vs.length + S.gh.length = S.pars.length ∧ S.gh = [] ∧ S.pars.all noBox = true) ∧ ∃ ds ts x r,getVs ob (parEns 0 S.pars) vs = some (ds,ts) ∧ (shapeOk S.pars.length (parEns 0 S.pars) = true ∧ tagsOk ts = true ∧ (bif S.shares then isNil (ts.flatMap Tag.lent) else true) = true ∧ ts.all lax = true) ∧
   pack (entys (parEns 0 S.pars)) ds = some x ∧ S.g x = some r ∧ upsOf d (fun _ => none) ts (S.ens.flatMap En.names) (mkBs S.ens (unpack _ r)) = some ups ∧ callOk S d (fun _ => none) ts (mkVs S.ens (unpack _ r)) (mkBs S.ens (unpack _ r)) ups = true ∧
   v = (resAV (mkVs S.ens (unpack _ r)) S.pars.length S.res.length).ren d ts (S.ens.flatMap En.names) := by
 have nilG:∀ {g:List (Nat×Nat×Option Nat)},isNilG g = true ↔ g = [] := fun {g} => by cases g <;> simp [isNilG]
 have nilP:∀ {ts:List Tag},ts.all lax = true → isNil ((ts.flatMap Tag.pair).map Prod.snd) = true := fun {ts} h => by rw [(lax_moved h).2]; rfl
 unfold callMK
 constructor
 ·intro h
  cases hc:(Nat.beq (vs.length + S.gh.length) S.pars.length && (isNilG S.gh && S.pars.all noBox)) with
  | false => rw [hc] at h; cases h
  | true =>
   rw [hc] at h
   rw [Bool.and_eq_true,Bool.and_eq_true] at hc
   refine ⟨⟨Nat.eq_of_beq_eq_true hc.1,nilG.1 hc.2.1,hc.2.2⟩, ?_⟩
   dsimp only [cond_true] at h
   split at h
   ·rename_i ds ts e1
    cases hk:(shapeOk S.pars.length (parEns 0 S.pars) && (tagsOk ts && ((bif S.shares then isNil (ts.flatMap Tag.lent) else true) && (isNil ((ts.flatMap Tag.pair).map Prod.snd) && ts.all lax)))) with
    | false => rw [hk] at h; cases h
    | true =>
     rw [hk] at h
     dsimp only [cond_true] at h
     rw [Bool.and_eq_true,Bool.and_eq_true,Bool.and_eq_true,Bool.and_eq_true] at hk
     split at h
     ·rename_i x e2
      split at h
      ·rename_i r e3
       split at h
       ·rename_i u e4
        cases ho:callOk S d (fun _ => none) ts (mkVs S.ens (unpack _ r)) (mkBs S.ens (unpack _ r)) u with
        | false => rw [ho] at h; cases h
        | true =>
         rw [ho] at h
         obtain ⟨g1,g2⟩ := Prod.mk.inj (Option.some.inj h)
         subst g2
         exact ⟨ds,ts,x,r,e1,⟨hk.1,hk.2.1,hk.2.2.1,hk.2.2.2.2⟩,e2,e3,e4,ho,g1.symm⟩
       ·cases h
      ·cases h
     ·cases h
   ·cases h
 ·rintro ⟨⟨h1,h2,h3⟩,ds,ts,x,r,e1,⟨k1,k2,k3,k4⟩,e2,e3,e4,e5,rfl⟩
  rw [show Nat.beq (vs.length + S.gh.length) S.pars.length = true from by rw [h1]; exact Nat.beq_refl _,nilG.2 h2,h3]
  simp only [Bool.true_and,cond_true,e1,k1,k2,k3,nilP k4,k4,e2,e3,e4,e5]
theorem callMK_see {S:FSum} {vs:List AV} {d:Nat} {ob ob':Nm → Option Ob} (h:∀ v ∈ vs, ∀ n,AMent v n → ob' n = ob n) {v:AV} {ups:List (Nm×Ob)} (he:callMK S vs d ob (fun v ups => some (v,ups)) = some (v,ups)):callMK S vs d ob' (fun v ups => some (v,ups)) = some (v,ups) := by
 obtain ⟨g1,ds,ts,x,r,e1,e2⟩ := callMK_iff.1 he
 exact callMK_iff.2 ⟨g1,ds,ts,x,r,(getVs_see g1.2.2 h).trans e1,e2⟩
theorem callMK_ment {S:FSum} {vs:List AV} {d:Nat} {ob:Nm → Option Ob} {v:AV} {ups:List (Nm×Ob)} (he:callMK S vs d ob (fun v ups => some (v,ups)) = some (v,ups)):(∀ n,AMent v n → headed d n = true) ∧ ∀ p ∈ ups,headed d p.1 = true ∧ ∀ n,OMent p.2 n → headed d n = true := by
 obtain ⟨_,ds,ts,x,r,_,⟨_,_,_,k4⟩,_,_,e4,_,rfl⟩ := callMK_iff.1 he
 exact ⟨fun n hn => renV_lax k4 hn,ups_lax k4 e4⟩
theorem St.ext' {s s':St} (h1:∀ i,s.t i = s'.t i) (h2:∀ n,s.o n = s'.o n):s = s' := by
 cases s; cases s'
 congr 1
 ·funext i; exact h1 i
 ·funext n; exact h2 n
theorem put_t (s:St) (d i:Nat) (v:AV):(s.put (some d) v).t i = if i = d then v else s.t i := by
 show (bif Nat.beq i d then v else s.t i) = _
 by_cases h:i = d
 ·rw [if_pos h,h,Nat.beq_refl]; rfl
 ·rw [if_neg h,beq_ne h]; rfl
theorem Fresh.drops0 {d:Nat} {s:St} {ns:List Nm} (h:ns ≠ [] → Fresh d s) (hn:∀ n ∈ ns,headed d n = true):(∀ t,t ≠ d → (s.drops ns).t t = s.t t) ∧ (s.drops ns).o = s.o := by
 cases ns with
 | nil => exact ⟨fun _ _ => rfl,rfl⟩
 | cons n ns => exact (h (fun q => by cases q)).drops _ hn
theorem callMK_nil {S:FSum} {vs:List AV} {d:Nat} {ob:Nm → Option Ob} {v:AV} {ups:List (Nm×Ob)} (hn:S.ens.flatMap En.names = []) (he:callMK S vs d ob (fun v ups => some (v,ups)) = some (v,ups)):ups = [] := by
 obtain ⟨_,ds,ts,x,r,_,_,_,_,e4,_,rfl⟩ := callMK_iff.1 he
 have:mkBs S.ens (unpack (entys (endEns S.pars S.res S.nb)) r) = [] := by
  rcases hmb:mkBs S.ens (unpack (entys (endEns S.pars S.res S.nb)) r) with _ | ⟨z,l⟩
  ·rfl
  ·have := mkBs_names (q := z) (by rw [hmb]; exact List.mem_cons_self ..)
   rw [hn] at this; cases this
 rw [this] at e4
 exact (Option.some.inj e4).symm
theorem callMK_K {S:FSum} {f:Nat} {xs:List Operand} {d:Nat} {v:AV} {ups:List (Nm×Ob)} (hf:S.ens.flatMap En.names ≠ [] → Fresh d s) (he:callMK S (xs.map s.ev) d s.o (fun v ups => some (v,ups)) = some (v,ups)):callK (R := St) S f .fn xs d s some = some ((s.over ups).put (some d) v) := by
 obtain ⟨⟨h1,h2,h3⟩,ds,ts,x,r,e1,⟨k1,k2,k3,k4⟩,e2,e3,e4,e5,rfl⟩ := callMK_iff.1 he
 have hm := (lax_moved k4).1
 have gh:ghosts s.o (xs.map s.ev) S.gh = xs.map s.ev := by rw [h2]; rfl
 have fz:(bif S.shares then s.frzs (ts.flatMap Tag.lent) else s) = s := by
  cases q:S.shares with
  | false => rfl
  | true =>
   rw [q] at k3
   have k3:isNil (ts.flatMap Tag.lent) = true := k3
   cases q2:ts.flatMap Tag.lent with
   | nil => rfl
   | cons a b => rw [q2] at k3; cases k3
 obtain ⟨d1,d2⟩ := Fresh.drops0 (ns := (S.ens.flatMap En.names).map (fun m => d :: m)) (fun q => hf (fun e => q (by rw [e]; rfl))) (fun n hn => by
  obtain ⟨m,_,rfl⟩ := List.mem_map.1 hn
  exact Nat.beq_refl d)
 unfold callK
 rw [show s.argsOf f .fn xs = some (xs.map s.ev) from rfl]
 dsimp only
 rw [gh,e1]
 dsimp only
 rw [fz]
 unfold callAt
 rw [show s.argsOf f .fn xs = some (xs.map s.ev) from rfl]
 dsimp only
 rw [show Nat.beq ((xs.map s.ev).length + S.gh.length) S.pars.length = true from by rw [h1]; exact Nat.beq_refl _]
 simp only [cond_true,gh,e1,k1,k2,k3,Bool.true_and,e2,e3,hm,List.nil_append,upsOf_lax (ob := (s.drops ((S.ens.flatMap En.names).map (fun m => d :: m))).o) (ob' := fun _ => none) k4,e4,callOk_lax (ob := (s.drops ((S.ens.flatMap En.names).map (fun m => d :: m))).o) (ob' := fun _ => none) k4,e5]
 refine congrArg some (St.ext' (fun i => ?_) fun n => ?_)
 ·rw [put_t,put_t]
  by_cases q:i = d
  ·rw [if_pos q,if_pos q]
  ·rw [if_neg q,if_neg q]
   exact d1 i q
 ·show (match lookO ups n with | some ob => some ob | none => _) = (match lookO ups n with | some ob => some ob | none => _)
  rw [d2]
end
def stm (fr:Bool) (E:Env) (l:List Oper) (o:Oper) (s:St):Option St := opsmK fr E l [o] s some
def runM (fr:Bool) (E:Env) (l:List Oper):List Oper → St → Option St
 | [],s => some s
 | o :: r,s => (stm fr E l o s).bind (runM fr E l r)
section
variable {fr:Bool} {E:Env} {l:List Oper} {o:Oper} {s s1:St}
theorem makK_fun {R:Type} (k:St → Option R):makK E o s k = (makK E o s some).bind k := by
 unfold makK
 cases o.dst with
 | none => rfl
 | some d =>
  dsimp only
  cases Nat.blt d E.N with
  | false => rfl
  | true =>
   dsimp only [cond_true]
   split
   ·cases E.Γ _ d with
    | none => rfl
    | some S =>
     dsimp only
     rw [callMK_fun,callMK_fun (k := fun v ups => some ((s.over ups).put (some d) v))]
     rename_i args _ _
     cases callMK S (List.map s.ev args.toList) d s.o (fun v ups => some (v,ups)) <;> rfl
   ·split
    ·rename_i c ob v e; cases c <;> rfl
    ·rfl
theorem opmK_fun {R:Type} (k:St → Option R):opmK fr E o s k = (opmK fr E o s some).bind k := by
 unfold opmK
 split
 ·cases fr
  ·exact opK_fun k
  ·exact makK_fun k
 ·exact makK_fun k
 ·exact opK_fun k
theorem opsmK_run {R:Type}:∀ {r:List Oper} {s:St} (k:St → Option R),opsmK fr E l r s k = (runM fr E l r s).bind k
 | [],s,k => rfl
 | o :: r,s,k => by
  show opsmK fr E l (o :: r) s k = ((stm fr E l o s).bind (runM fr E l r)).bind k
  unfold stm
  unfold opsmK
  cases hg:o.guard with
  | none =>
   dsimp only
   rw [opmK_fun,opmK_fun (k := fun s' => opsmK fr E l [] s' some)]
   cases opmK fr E o s some with
   | none => rfl
   | some s1 => exact opsmK_run k
  | some g =>
   dsimp only
   rw [opsK_fun,opsK_fun (k := fun s' => opsmK fr E l [] s' some)]
   cases opsK E l [o] s some with
   | none => rfl
   | some s1 => exact opsmK_run k
theorem stm_stg (h:(kindOf E o = 1 → fr = false) ∧ kindOf E o ≠ 4):stm fr E l o s = stg E l o s := by
 unfold stm stg opsmK
 cases hg:o.guard with
 | none =>
  dsimp only
  have e:opmK fr E o s (fun s' => opsmK fr E l [] s' some) = opK E o s (fun s' => some s') := by
   unfold opmK
   split
   ·rename_i q
    rw [h.1 q]; rfl
   ·rename_i q; exact absurd q h.2
   ·rfl
  rw [e]
  show opK E o s (fun s' => some s') = opsK E l [o] s some
  unfold opsK
  rw [hg]; rfl
 | some g => rfl
theorem kind_guard (h:kindOf E o ≠ 0) (h2:kindOf E o ≠ 3):o.guard = none := by
 unfold kindOf at h h2
 cases q:(vKind E.τ o && (match o.dst with | some _ => true | none => false)) with
 | true => rw [q] at h; exact absurd rfl h
 | false =>
  rw [q] at h2
  dsimp only [cond_false] at h2
  cases hg:o.guard with
  | none => rfl
  | some g =>
   have:noGuard o = false := by unfold noGuard; rw [hg]
   rw [this] at h2
   exact absurd rfl h2
theorem stm_mak (h:(kindOf E o = 1 ∧ fr = true) ∨ kindOf E o = 4):stm fr E l o s = makK E o s some := by
 have hg:o.guard = none := kind_guard (E := E) (o := o) (by rcases h with h | h <;> omega) (by rcases h with h | h <;> omega)
 unfold stm opsmK
 rw [hg]
 dsimp only
 unfold opmK
 rcases h with ⟨h,rfl⟩ | h
 ·rw [h]; rfl
 ·rw [h]; rfl
theorem stg_none (hg:o.guard = none):stg E l o s = opK E o s some := by
 rw [stg_eq]
 unfold gd gslot
 rw [hg]
structure Mk6 (fr:Bool) (E:Env) (l:List Oper) (o:Oper) (q:Bool) (s:St) (d:Nat) (v:AV) (ups:List (Nm×Ob)):Prop where
 m:Makes E l o q s d v ups
 stm:∀ s':St,(∀ t ∈ rds l o,s'.t t = s.t t) → (∀ t ∈ rds l o, ∀ n,AMent (s.t t) n → s'.o n = s.o n) → (q = true → Fresh d s') → stm fr E l o s' = some ((s'.over ups).put (some d) v)
theorem mk6_P (hk:kindOf E o = 0) (h:stm fr E l o s = some s1):∃ d v,Mk6 fr E l o false s d v [] ∧ s1 = (s.over []).put (some d) v := by
 have e:∀ s,stm fr E l o s = stg E l o s := fun s => stm_stg ⟨fun q => (by rw [hk] at q; cases q),by rw [hk]; decide⟩
 rw [e] at h
 obtain ⟨d,v,h1,h2⟩ := makes_P hk h
 exact ⟨d,v,⟨h1,fun s' a b c => (e s').trans (h1.step s' a b c)⟩,h2⟩
theorem mk6_M (hk:(kindOf E o = 1 ∧ fr = true) ∨ kindOf E o = 4) {d:Nat} (hd:o.dst = some d) (h:stm fr E l o s = some s1):∃ v ups q,Mk6 fr E l o q s d v ups ∧ (kindOf E o = 4 → q = false ∧ ups = []) ∧ s1 = (s.over ups).put (some d) v ∧ (∀ t,o.op = .alloc t → ∃ zc,v = .c (.pb [d,0] 0) ∧ ups = [([d,0], .box zc)] ∧ ∀ n, ¬ CMent zc n) ∧ (isBS o.op = true → ∃ el ty xs,v = .c (.own [d,0]) ∧ ups = [([d,0], .arr el ty xs)]) := by
 have hg:o.guard = none := kind_guard (E := E) (o := o) (by rcases hk with h | h <;> omega) (by rcases hk with h | h <;> omega)
 rw [stm_mak hk] at h
 unfold makK at h
 rw [hd] at h
 dsimp only at h
 cases hN:Nat.blt d E.N with
 | false => rw [hN] at h; cases h
 | true =>
  rw [hN] at h
  dsimp only [cond_true] at h
  split at h
  ·rename_i f args ts hop
   cases hS:E.Γ f d with
   | none => rw [hS] at h; cases h
   | some S =>
    rw [hS] at h
    dsimp only at h
    rw [callMK_fun] at h
    cases hc:callMK S (args.toList.map s.ev) d s.o (fun v ups => some (v,ups)) with
    | none => rw [hc] at h; cases h
    | some r =>
     obtain ⟨v,ups⟩ := r
     rw [hc] at h
     obtain rfl := (Option.some.inj h).symm
     have ops:∀ x ∈ args.toList,x ∈ o.op.operands := fun x hx => by
      rw [hop]; simp [Op.operands,Call.operands]; exact .inr (by simpa using hx)
     have key:∀ s':St,(∀ t ∈ rds l o,s'.t t = s.t t) → (∀ t ∈ rds l o, ∀ n,AMent (s.t t) n → s'.o n = s.o n) → callMK S (args.toList.map s'.ev) d s'.o (fun v ups => some (v,ups)) = some (v,ups) := by
      intro s' h1 h2
      have e1:args.toList.map s'.ev = args.toList.map s.ev := List.map_congr_left fun x hx => (ev_same h1 x (ops x hx)).symm
      rw [e1]
      refine callMK_see (ob := s.o) (fun u hu n hn => ?_) hc
      obtain ⟨x,hx,rfl⟩ := List.mem_map.1 hu
      obtain ⟨t,ht,hm⟩ := rds_ev (l := l) (ops x hx) hn
      exact h2 t ht n hm
     have mt := callMK_ment hc
     have knd:isNil (S.ens.flatMap En.names) = true ∧ kindOf E o = 4 ∨ isNil (S.ens.flatMap En.names) = false ∧ kindOf E o ≠ 4 := by
      have e:kindOf E o = bif isNil (S.ens.flatMap En.names) then 4 else 1 := by
       have hv:vKind E.τ o = false := by unfold vKind; rw [hop]
       have hn:noGuard o = true := by unfold noGuard; rw [hg]
       unfold kindOf
       rw [hv,hn,hop,hd]
       dsimp only [Bool.false_and,cond_false,cond_true]
       rw [hS]; rfl
      cases q:isNil (S.ens.flatMap En.names) with
      | true => rw [q] at e; exact .inl ⟨rfl,e⟩
      | false => rw [q] at e; exact .inr ⟨rfl,by rw [e]; decide⟩
     have nilN:isNil (S.ens.flatMap En.names) = true → S.ens.flatMap En.names = [] := fun q => by
      cases w:S.ens.flatMap En.names with
      | nil => rfl
      | cons a b => rw [w] at q; cases q
     refine ⟨v,ups, !isNil (S.ens.flatMap En.names),⟨⟨hd,fun s' h1 h2 h3 => ?_,fun p hp => (mt.2 p hp).1,fun n hn => .inl ?_⟩,fun s' h1 h2 h3 => ?_⟩,fun h4 => ?_,rfl,fun t ht => ?_,fun hb => (by rw [hop] at hb; cases hb)⟩
     ·rw [stg_none hg]
      have := callMK_K (s := s') (fun w => h3 (by
       cases q:isNil (S.ens.flatMap En.names) with
       | true => exact absurd (nilN q) w
       | false => rfl)) (f := f) (xs := args.toList) (key s' h1 h2)
      unfold opK
      rw [hop,hd]
      dsimp only
      rw [hS]
      dsimp only
      rw [hN]
      exact this
     ·rcases hn with hn | ⟨p,hp,hn⟩
      ·exact mt.1 n hn
      ·exact (mt.2 p hp).2 n hn
     ·rw [stm_mak hk]
      unfold makK
      rw [hd,hop]
      dsimp only
      rw [hN,hS]
      dsimp only [cond_true]
      rw [callMK_fun,key s' h1 h2]; rfl
     ·rcases knd with ⟨q,_⟩ | ⟨_,q⟩
      ·exact ⟨by rw [q]; rfl,callMK_nil (nilN q) hc⟩
      ·exact absurd h4 q
     ·rw [hop] at ht; cases ht
  ·rename_i hno
   have hal:(∃ t,o.op = .alloc t) ∨ ∃ t n,o.op = .buildSlice t n ⟨[]⟩ := by
    have hk0:kindOf E o ≠ 0 ∧ kindOf E o ≠ 2 ∧ kindOf E o ≠ 3 ∧ kindOf E o ≠ 6 := by rcases hk with h | h <;> omega
    unfold kindOf at hk0
    cases q:(vKind E.τ o && (match o.dst with | some _ => true | none => false)) with
    | true => rw [q] at hk0; exact absurd rfl hk0.1
    | false =>
     rw [q] at hk0
     dsimp only [cond_false] at hk0
     have hn:noGuard o = true := by unfold noGuard; rw [hg]
     rw [hn] at hk0
     dsimp only [cond_true] at hk0
     split at hk0
     ·rename_i f args ts e hq _; exact absurd hq (hno _ _ _)
     ·rename_i t e hq _; exact .inl ⟨t,hq⟩
     ·rename_i t n e hq _; exact .inr ⟨t,n,hq⟩
     ·exact absurd rfl hk0.2.1
     ·exact absurd rfl hk0.2.2.2
     ·exact absurd rfl hk0.2.2.1
   have hn:noGuard o = true := by unfold noGuard; rw [hg]
   have hvv:vKind E.τ o = false := by unfold vKind; rcases hal with ⟨t,hop⟩ | ⟨t,n,hop⟩ <;> rw [hop]
   have k4:kindOf E o ≠ 4 := by
    unfold kindOf
    rw [hvv,hn,hd]
    rcases hal with ⟨t,hop⟩ | ⟨t,n,hop⟩ <;> rw [hop] <;> (show (1:Nat) ≠ 4; decide)
   have hvo:∀ s':St,vop E.τ o.op s'.ev s'.o = none := fun s' => by rcases hal with ⟨t,hop⟩ | ⟨t,n,hop⟩ <;> rw [hop] <;> rfl
   have hmo:∀ e e':Operand → AV,mop E.τ o.op e [d,0] = mop E.τ o.op e' [d,0] := fun e e' => by rcases hal with ⟨t,hop⟩ | ⟨t,n,hop⟩ <;> rw [hop] <;> rfl
   have hK:∀ s':St,opK (R := St) E o s' some = (match vop E.τ o.op s'.ev s'.o with
        | some (c,v) => bif dstOk E.N (some d) then (match c with | true => some (s'.put (some d) v) | false => none) else none
        | none => bif Nat.blt d E.N then (match mop E.τ o.op (s'.drop [d,0]).ev [d,0] with
         | some (c,ob,v) => (match c with | true => some (((s'.drop [d,0]).setO [d,0] ob).put (some d) v) | false => none)
         | none => match wop E.τ o.op (some d) s' with
          | some (c,s'') => (match c with | true => some s'' | false => none)
          | none => arrK E.τ o.op d s' some) else none) := fun s' => by
    unfold opK
    rw [hd]
    rcases hal with ⟨t,hop⟩ | ⟨t,n,hop⟩ <;> rw [hop] <;> rfl
   have hM:∀ c ob v,mop E.τ o.op s.ev [d,0] = some (c,ob,v) → (isAlloc o.op = true ∧ v = .c (.pb [d,0] 0) ∧ ∃ zc,ob = .box zc ∧ ∀ n, ¬ CMent zc n) ∨ (isBS o.op = true ∧ v = .c (.own [d,0]) ∧ ∃ el ty xs,ob = .arr el ty xs) := fun c ob v hm => by
    rcases hal with ⟨t,hop⟩ | ⟨t,n,hop⟩
    ·left
     rw [hop] at hm ⊢
     have hm:(match E.τ.get t with
      | some ti => match ti.z0 with
       | some zc => some (true,Ob.box zc,AV.c (.pb [d,0] 0))
       | none => none
      | none => none) = some (c,ob,v) := hm
     cases ht:E.τ.get t with
     | none => rw [ht] at hm; cases hm
     | some ti =>
      cases hz:ti.z0 with
      | none => rw [ht] at hm; dsimp only at hm; rw [hz] at hm; cases hm
      | some zc =>
       rw [ht] at hm
       dsimp only at hm
       rw [hz] at hm
       obtain ⟨_,h2⟩ := Prod.mk.inj (Option.some.inj hm)
       obtain ⟨h2,h3⟩ := Prod.mk.inj h2
       exact ⟨rfl,h3.symm,zc,h2.symm,fun n => z0_ment hz n⟩
    ·right
     rw [hop] at hm ⊢
     refine ⟨rfl, ?_⟩
     have hm:(match E.τ.get t with
      | some ti => bif Nat.beq ti.kind 3 then (match E.τ.get ti.el with
       | some te => match te.ty with
        | some ty => bif Nat.ble (n * te.size) 65536 then (match rows ty (List.replicate n ty.zero) [] with
         | some xs => some (true,Ob.arr ti.el ty xs,AV.c (.own [d,0]))
         | none => none) else none
        | none => none
       | none => none) else none
      | none => none) = some (c,ob,v) := hm
     split at hm
     ·rename_i ti _
      cases q1:Nat.beq ti.kind 3 with
      | false => rw [q1] at hm; cases hm
      | true =>
       rw [q1,cond_true] at hm
       split at hm
       ·rename_i te _
        split at hm
        ·rename_i ty _
         cases q2:Nat.ble (n * te.size) 65536 with
         | false => rw [q2] at hm; cases hm
         | true =>
          rw [q2,cond_true] at hm
          split at hm
          ·rename_i xs _
           obtain ⟨_,h2⟩ := Prod.mk.inj (Option.some.inj hm)
           obtain ⟨h2,h3⟩ := Prod.mk.inj h2
           exact ⟨h3.symm,_,_,_,h2.symm⟩
          ·cases hm
        ·cases hm
       ·cases hm
     ·cases hm
   cases hmm:mop E.τ o.op s.ev [d,0] with
   | none => rw [hmm] at h; cases h
   | some r =>
    obtain ⟨c,ob,v⟩ := r
    rw [hmm] at h
    dsimp only at h
    cases c with
    | false => cases h
    | true =>
     obtain rfl := (Option.some.inj h).symm
     have hM := hM _ _ _ hmm
     have vm:∀ n,AMent v n → n = [d,0] := fun n hn => by
      rcases hM with ⟨_,rfl,_⟩ | ⟨_,rfl,_⟩
      ·exact (show [d,0] = n from hn).symm
      ·exact (show [d,0] = n from hn).symm
     have om:∀ n, ¬ OMent ob n := fun n hn => by
      rcases hM with ⟨_,_,zc,rfl,zm⟩ | ⟨_,_,el,ty,xs,rfl⟩
      ·exact zm n hn
      ·exact hn
     refine ⟨_,_,true,⟨⟨hd,fun s' h1 h2 h3 => ?_,fun p hp => ?_,fun n hn => ?_⟩,fun s' h1 h2 h3 => ?_⟩,fun h4 => absurd h4 k4,rfl,fun t ht => ?_,fun hb => ?_⟩
     ·rw [stg_none hg]
      have hf' := h3 rfl
      obtain ⟨d1,d2⟩ := hf'.drops [[d,0]] (fun n hn => by rw [List.mem_singleton.1 hn]; exact Nat.beq_refl d)
      have e1:opK (R := St) E o s' some = some (((s'.drop [d,0]).setO [d,0] ob).put (some d) v) := by
       rw [hK,hvo]
       dsimp only
       rw [hN,hmo _ s.ev,hmm]
       rfl
      rw [e1]
      refine congrArg some (St.ext' (fun i => ?_) fun n => ?_)
      ·rw [put_t,put_t]
       by_cases q:i = d
       ·rw [if_pos q,if_pos q]
       ·rw [if_neg q,if_neg q]; exact d1 i q
      ·show (bif Nm.eqb n [d,0] then some ob else (s'.drop [d,0]).o n) = (match (bif Nm.eqb [d,0] n then some ob else none) with | some ob => some ob | none => s'.o n)
       rw [show (s'.drop [d,0]).o n = s'.o n from congrFun d2 n]
       cases q:Nm.eqb n [d,0] with
       | true => rw [eqb_iff.1 q]; simp [Nm.eqb]
       | false =>
        rw [show Nm.eqb [d,0] n = false from eqb_false.2 (fun e => (eqb_false.1 q) e.symm)]; rfl
     ·rw [List.mem_singleton.1 hp]; exact Nat.beq_refl d
     ·rcases hn with hn | ⟨p,hp,hn⟩
      ·rw [vm n hn]
       exact .inl (Nat.beq_refl d)
      ·rw [List.mem_singleton.1 hp] at hn
       exact absurd hn (om n)
     ·rw [stm_mak hk]
      unfold makK
      rw [hd]
      dsimp only
      rw [hN,cond_true]
      have:(match mop E.τ o.op s'.ev [d,0] with
       | some (c,ob,v) => (match c with | true => some ((s'.over [([d,0],ob)]).put (some d) v) | false => none)
       | none => (none:Option St)) = some ((s'.over [([d,0],ob)]).put (some d) v) := by
       rw [hmo _ s.ev,hmm]
      rw [← this]
      rcases hal with ⟨t,hop⟩ | ⟨t,n,hop⟩ <;> rw [hop]
     ·rcases hM with ⟨_,rfl,zc,rfl,zm⟩ | ⟨hb,_⟩
      ·exact ⟨zc,rfl,rfl,zm⟩
      ·rw [ht] at hb; cases hb
     ·rcases hM with ⟨ha,_⟩ | ⟨_,rfl,el,ty,xs,rfl⟩
      ·exfalso
       rcases hal with ⟨t,hop⟩ | ⟨t,n,hop⟩
       ·rw [hop] at hb; cases hb
       ·rw [hop] at ha; cases ha
      ·exact ⟨el,ty,xs,rfl,rfl⟩
end
def storeSlot (o:Oper):Option Nat := match o.dst,o.op with
 | none, .store _ (.tmp a) _ => some a
 | _,_ => none
section
variable {fr:Bool} {E:Env} {l:List Oper} {o:Oper} {s s1:St}
theorem spl_ment {cs new:List CV} {off:Nat} {n:Nm} (h:CMent (spl cs off new) n):CMent cs n ∨ CMent new n := by
 obtain ⟨c,hc,hm⟩ := h
 unfold spl at hc
 rcases List.mem_append.1 hc with hc | hc
 ·rcases List.mem_append.1 hc with hc | hc
  ·exact .inl ⟨c,List.mem_of_mem_take hc,hm⟩
  ·exact .inr ⟨c,hc,hm⟩
 ·exact .inl ⟨c,List.mem_of_mem_drop hc,hm⟩
theorem st6 {d:Nat} (hs:storeSlot o = some d) (hg:o.guard = none) (hk:kindOf E o = 2) (hi:s.t d = .c (.pb [d,0] 0)) (h:stm fr E l o s = some s1) :
  ∃ ob0 ob,s.o [d,0] = some ob0 ∧ s1 = s.setO [d,0] ob ∧ stg E l o s = some s1 ∧ (∀ s':St,(∀ t ∈ rds l o,s'.t t = s.t t) → s'.o [d,0] = s.o [d,0] → stm fr E l o s' = some (s'.setO [d,0] ob)) ∧ ∀ n,OMent ob n → OMent ob0 n ∨ ∃ t ∈ rds l o,AMent (s.t t) n := by
 have hss:∀ s,stm fr E l o s = stg E l o s := fun s => stm_stg ⟨fun q => (by rw [hk] at q; cases q),by rw [hk]; decide⟩
 obtain ⟨T,x,hd,hop⟩:∃ T x,o.dst = none ∧ o.op = .store T (.tmp d) x := by
  unfold storeSlot at hs
  split at hs
  ·rename_i T a x h1 h2
   obtain rfl := Option.some.inj hs
   exact ⟨T,x,h1,h2⟩
  ·cases hs
 have form:∀ s2:St,s2.t d = .c (.pb [d,0] 0) → stg E l o s2 = (match E.τ.get T,asCells (s2.ev x) with
   | some ti,some new => bif (Nat.beq new.length ti.size && new.all CV.fine) then (match s2.o [d,0] with
    | some (.box cs) => bif Nat.ble (0 + new.length) cs.length then some (s2.setO [d,0] (.box (spl cs 0 new))) else none
    | _ => none) else none
   | _,_ => none) := by
  intro s2 h2
  rw [stg_none hg]
  unfold opK
  rw [hop,hd]
  show (match vop E.τ (.store T (.tmp d) x) s2.ev s2.o with
   | some (c,v) => bif dstOk E.N none then (match c with | true => some (s2.put none v) | false => none) else none
   | none => match wop E.τ (.store T (.tmp d) x) none s2 with
    | some (c,s') => (match c with | true => some s' | false => none)
    | none => none) = _
  have hv:vop E.τ (.store T (.tmp d) x) s2.ev s2.o = none := rfl
  rw [hv]
  dsimp only
  have hw:wop E.τ (.store T (.tmp d) x) none s2 = (match E.τ.get T,s2.ev (.tmp d),asCells (s2.ev x) with
   | some ti, .c p,some new => bif (Nat.beq new.length ti.size && new.all CV.fine) then (match storeTo s2.o new p with
    | some (nm,ob) => some (true,(s2.setO nm ob).put none (.c .dead))
    | none => none) else none
   | _,_,_ => none) := rfl
  rw [hw,show s2.ev (.tmp d) = .c (.pb [d,0] 0) from h2]
  cases E.τ.get T with
  | none => rfl
  | some ti =>
   cases asCells (s2.ev x) with
   | none => rfl
   | some new =>
    dsimp only
    cases (Nat.beq new.length ti.size && new.all CV.fine) with
    | false => rfl
    | true =>
     dsimp only [cond_true]
     unfold storeTo
     dsimp only
     cases s2.o [d,0] with
     | none => rfl
     | some ob =>
      cases ob with
      | box cs =>
       dsimp only
       cases Nat.ble (0 + new.length) cs.length <;> rfl
      | _ => rfl
 have hx:x ∈ o.op.operands := by rw [hop]; simp [Op.operands]
 have hdr:d ∈ rds l o := List.mem_append_left _ (List.mem_flatMap.2 ⟨.tmp d,by rw [hop]; simp [Op.operands],List.mem_singleton.2 rfl⟩)
 rw [hss] at h
 have hsg := h
 rw [form s hi] at h
 cases hT:E.τ.get T with
 | none => rw [hT] at h; cases h
 | some ti =>
  cases hc:asCells (s.ev x) with
  | none => rw [hT,hc] at h; cases h
  | some new =>
   rw [hT,hc] at h
   dsimp only at h
   cases hf:(Nat.beq new.length ti.size && new.all CV.fine) with
   | false => rw [hf] at h; cases h
   | true =>
    rw [hf] at h
    dsimp only [cond_true] at h
    cases ho:s.o [d,0] with
    | none => rw [ho] at h; cases h
    | some ob =>
     rw [ho] at h
     cases ob with
     | box cs =>
      dsimp only at h
      cases hl:Nat.ble (0 + new.length) cs.length with
      | false => rw [hl] at h; cases h
      | true =>
       rw [hl] at h
       refine ⟨_, .box (spl cs 0 new),rfl,(Option.some.inj h).symm,hsg,fun s' h1 h2 => ?_,fun n hn => ?_⟩
       ·rw [hss,form s' ((h1 d hdr).trans hi),hT, ← ev_same h1 x hx,hc]
        dsimp only
        rw [hf,h2]
        dsimp only [cond_true]
        rw [hl]; rfl
       ·rcases spl_ment hn with hn | hn
        ·exact .inl hn
        ·exact .inr (rds_ev hx (asCells_ment hc hn))
     | _ => cases h
end
def CleanA (t:Nat) (s:St):Prop := s.t t = .c (.own [t,0]) ∧ (∀ i,i ≠ t → ¬ AMent (s.t i) [t,0]) ∧ ∀ m ob,s.o m = some ob → ¬ OMent ob [t,0]
def eat (t k d:Nat) (ob:Ob) (s:St):St := ⟨fun i => if i = d then .c (.own [d,0]) else if i = t then .c (.hd k) else s.t i,fun m => if m = [d,0] then some ob else if m = [t,0] then none else s.o m⟩
theorem CV.past_id {n:Nm} {k:Nat} {c:CV} (h:¬ Ment c n):c.past n k = c := by
 cases c with
 | own m =>
  show (bif Nm.eqb m n then CV.hd k else CV.own m) = _
  rw [eqb_false.2 (fun q => h (show m = n from q))]; rfl
 | _ => exact CV.drop_id h
theorem CVs.past_id {n:Nm} {k:Nat} {cs:List CV} (h:¬ CMent cs n):cs.map (CV.past n k) = cs := by
 have e:cs.map (CV.past n k) = cs.map (fun c => c) := List.map_congr_left fun c hc => CV.past_id (fun q => h ⟨c,hc,q⟩)
 rw [e,List.map_id']
theorem AV.past_id {n:Nm} {k:Nat} {v:AV} (h:¬ AMent v n):v.past n k = v := by
 cases v with
 | c x => exact congrArg AV.c (CV.past_id h)
 | g cs => exact congrArg AV.g (CVs.past_id h)
 | tup l =>
  refine congrArg AV.tup ?_
  have e:l.map (fun p => (p.1,p.2.map (CV.past n k))) = l.map (fun p => p) := List.map_congr_left fun p hp => Prod.ext rfl (CVs.past_id (fun q => h ⟨p,hp,q⟩))
  rw [e,List.map_id']
theorem Ob.past_id {n:Nm} {k:Nat} {x:Ob} (h:¬ OMent x n):x.past n k = x := by
 cases x with
 | box cs => exact congrArg Ob.box (CVs.past_id h)
 | arr => rfl
 | mp => rfl
theorem eat_eq {t k d:Nat} {s:St} {ob:Ob} (hc:CleanA t s) (hf:Fresh d s) (hne:d ≠ t):(((s.past [t,0] k).drop [d,0]).setO [d,0] ob).put (some d) (.c (.own [d,0])) = eat t k d ob s := by
 have hdt:([d,0]:Nm) ≠ [t,0] := fun q => hne (by injection q)
 refine St.ext' (fun i => ?_) fun m => ?_
 ·rw [put_t]
  show (if i = d then _ else ((s.t i).past [t,0] k).drop [d,0]) = (if i = d then _ else if i = t then _ else _)
  by_cases q:i = d
  ·rw [if_pos q,if_pos q]
  ·rw [if_neg q,if_neg q]
   by_cases q2:i = t
   ·rw [if_pos q2,q2,hc.1]
    show AV.c (CV.drop [d,0] (bif Nm.eqb [t,0] [t,0] then CV.hd k else CV.own [t,0])) = _
    rw [eqb_self]; rfl
   ·rw [if_neg q2,AV.past_id (hc.2.1 i q2)]
    exact AV.drop_id (hf.1 i q [d,0] (Nat.beq_refl d))
 ·show (bif Nm.eqb m [d,0] then some ob else bif Nm.eqb m [d,0] then none else (bif Nm.eqb m [t,0] then none else (s.o m).map (Ob.past [t,0] k)).map (Ob.drop [d,0])) = (if m = [d,0] then some ob else if m = [t,0] then none else s.o m)
  cases q:Nm.eqb m [d,0] with
  | true => rw [if_pos (eqb_iff.1 q)]; rfl
  | false =>
   rw [if_neg (eqb_false.1 q)]
   cases q2:Nm.eqb m [t,0] with
   | true => rw [if_pos (eqb_iff.1 q2)]; rfl
   | false =>
    rw [if_neg (eqb_false.1 q2)]
    cases ho:s.o m with
    | none => rfl
    | some x =>
     show some ((x.past [t,0] k).drop [d,0]) = some x
     rw [Ob.past_id (hc.2.2 m x ho),Ob.drop_id ((hf.2 m x ho).2 [d,0] (Nat.beq_refl d))]
def srcOf (o:Nm → Option Ob):AV → Option ((t:Ty) → Option (List t.den))
 | .c y => some fun t => source o t y
 | _ => none
def appR (τ:Tab) (ats:List TypeId) (ob0:Option Ob) (f:Option ((t:Ty) → Option (List t.den))):Option (Bool×Nat×Ob) := match f,ats with
 | some f,[at_,bt_] => match τ.get at_ with
  | some ti => bif (Nat.beq ti.kind 3 && Nat.beq at_ bt_) then (match τ.get ti.el with
   | some te => match te.ty with
    | some ty => bif Nat.ble te.bytes 4096 then (match ob0 with
     | some (.arr q u xs) => bif Nat.beq q ti.el then (match Ty.same u ty with
      | some ⟨h⟩ => match f ty with
       | some ys => some (room ((Ty.cast (congrArg Ty.sl h) xs).length + ys.length),(Ty.cast (congrArg Ty.sl h) xs).length, .arr ti.el ty (Ty.cast (congrArg Ty.sl h) xs ++ ys))
       | none => none
      | none => none) else none
     | _ => none) else none
    | none => none
   | none => none) else none
  | none => none
 | _,_ => none
theorem wop_app {τ:Tab} {c:Call} {d t:Nat} {y:Operand} {s:St} (hc:c.callee = .builtin .append) (ha:c.args.toList = [.tmp t,y]) (ht:s.t t = .c (.own [t,0])) :
  wop τ (.call c) (some d) s = (appR τ c.argTypes.toList (s.o [t,0]) (srcOf s.o (s.ev y))).map fun r => (r.1,(((s.past [t,0] r.2.1).drop [d,0]).setO [d,0] r.2.2).put (some d) (.c (.own [d,0]))) := by
 obtain ⟨callee,args,argTypes⟩ := c
 obtain rfl := hc
 have ha:args.toList = [.tmp t,y] := ha
 unfold wop
 dsimp only
 rw [ha]
 show (match (some d:Option Nat),[s.t t,s.ev y],argTypes.toList with
  | some d,[.c x, .c y],[at_,bt_] => _
  | _,_,_ => none) = _
 rw [ht]
 unfold appR
 generalize s.ev y = Y
 generalize argTypes.toList = ats
 cases Y with
 | g => cases ats <;> rfl
 | tup => cases ats <;> rfl
 | c Y =>
  match ats with
  | [] => rfl
  | [_] => rfl
  | _ :: _ :: _ :: _ => rfl
  | [at_,bt_] =>
   unfold srcOf
   dsimp only
   cases τ.get at_ with
   | none => rfl
   | some ti =>
    dsimp only
    cases (Nat.beq ti.kind 3 && Nat.beq at_ bt_) with
    | false => rfl
    | true =>
     dsimp only [cond_true]
     cases τ.get ti.el with
     | none => rfl
     | some te =>
      dsimp only
      cases te.ty with
      | none => rfl
      | some ty =>
       dsimp only
       cases Nat.ble te.bytes 4096 with
       | false => rfl
       | true =>
        dsimp only [cond_true]
        cases s.o [t,0] with
        | none => rfl
        | some ob =>
         cases ob with
         | box => rfl
         | mp => rfl
         | arr q u xs =>
          dsimp only
          cases Nat.beq q ti.el with
          | false => rfl
          | true =>
           dsimp only [cond_true]
           cases Ty.same u ty with
           | none => rfl
           | some h =>
            dsimp only
            cases source s.o ty Y <;> rfl
theorem source_see {o o':Nm → Option Ob} {t:Ty} {c:CV} (h:∀ n,Ment c n → o' n = o n):source o' t c = source o t c := by
 cases c with
 | own m => unfold source; dsimp only; rw [h m rfl]
 | _ => rfl
theorem srcOf_see {o o':Nm → Option Ob} {y:AV} (h:∀ n,AMent y n → o' n = o n):srcOf o' y = srcOf o y := by
 cases y with
 | g => rfl
 | tup => rfl
 | c y => exact congrArg some (funext fun t => source_see h)
theorem appR_arr {τ:Tab} {ats:List TypeId} {ob0:Option Ob} {f:Option ((t:Ty) → Option (List t.den))}:∀ r,appR τ ats ob0 f = some r → ∀ n, ¬ OMent r.2.2 n := by
 have key:∀ x:Option (Bool×Nat×Ob),(match x with | some r => (match r.2.2 with | .arr _ _ _ => true | _ => false) | none => true) = true → ∀ r,x = some r → ∀ n, ¬ OMent r.2.2 n := fun x hx r hr n hn => by
  subst hr
  obtain ⟨b,k,ob⟩ := r
  cases ob with
  | arr => exact hn
  | box => cases hx
  | mp => cases hx
 refine key _ ?_
 unfold appR
 match f,ats with
 | none,_ => rfl
 | some f,[] => rfl
 | some f,[_] => rfl
 | some f,_ :: _ :: _ :: _ => rfl
 | some f,[at_,bt_] =>
   dsimp only
   cases τ.get at_ with
   | none => rfl
   | some ti =>
    dsimp only
    cases (Nat.beq ti.kind 3 && Nat.beq at_ bt_) with
    | false => rfl
    | true =>
     dsimp only [cond_true]
     cases τ.get ti.el with
     | none => rfl
     | some te =>
      dsimp only
      cases te.ty with
      | none => rfl
      | some ty =>
       dsimp only
       cases Nat.ble te.bytes 4096 with
       | false => rfl
       | true =>
        dsimp only [cond_true]
        cases ob0 with
        | none => rfl
        | some ob =>
         cases ob with
         | box => rfl
         | mp => rfl
         | arr q u xs =>
          dsimp only
          cases Nat.beq q ti.el with
          | false => rfl
          | true =>
           dsimp only [cond_true]
           cases Ty.same u ty with
           | none => rfl
           | some h =>
            dsimp only
            cases f ty <;> rfl
section
variable {fr:Bool} {E:Env} {l:List Oper} {o:Oper} {s s1:St}
theorem appSrc_op {t:Nat} (h:appSrc o = some t):∃ c y d,o.op = .call c ∧ c.callee = .builtin .append ∧ c.args.toList = [.tmp t,y] ∧ o.dst = some d := by
 unfold appSrc at h
 split at h
 ·rename_i t' y ats d hop hd
  obtain rfl := Option.some.inj h
  exact ⟨_,y,d,hop,rfl,rfl,hd⟩
 ·cases h
theorem ap6 {t d:Nat} (ha:appSrc o = some t) (hd:o.dst = some d) (hk:kindOf E o = 6) (hc:CleanA t s) (hf:Fresh d s) (hne:d ≠ t) (h:stm fr E l o s = some s1) :
  ∃ k ob,s1 = eat t k d ob s ∧ (∀ n, ¬ OMent ob n) ∧ stg E l o s = some s1 ∧ ∀ s':St,(∀ i ∈ rds l o,s'.t i = s.t i) → (∀ i ∈ rds l o, ∀ n,AMent (s.t i) n → s'.o n = s.o n) → CleanA t s' → Fresh d s' → stm fr E l o s' = some (eat t k d ob s') := by
 have hss:∀ s,stm fr E l o s = stg E l o s := fun s => stm_stg ⟨fun q => (by rw [hk] at q; cases q),by rw [hk]; decide⟩
 have hg:o.guard = none := kind_guard (E := E) (o := o) (by omega) (by omega)
 obtain ⟨c,y,d',hop,hcc,hca,hd'⟩ := appSrc_op ha
 obtain rfl:d = d' := Option.some.inj (hd.symm.trans hd')
 have hyo:y ∈ o.op.operands := by
  rw [hop]
  simp only [Op.operands,Call.operands,Array.mem_append]
  right
  rw [← Array.mem_toList_iff,hca]
  exact .tail _ (.head _)
 have hto:t ∈ rds l o := List.mem_append_left _ (List.mem_flatMap.2 ⟨.tmp t,by
  rw [hop]
  simp only [Op.operands,Call.operands,Array.toList_append,List.mem_append]
  right
  rw [hca]
  exact .head _,List.mem_singleton.2 rfl⟩)
 have form:∀ s2:St,CleanA t s2 → Fresh d s2 → stg E l o s2 = (match appR E.τ c.argTypes.toList (s2.o [t,0]) (srcOf s2.o (s2.ev y)) with
   | some r => bif Nat.blt d E.N then (match r.1 with | true => some (eat t r.2.1 d r.2.2 s2) | false => none) else none
   | none => none) := by
  intro s2 h2 h3
  rw [stg_none hg]
  have hvo:vop E.τ (.call c) s2.ev s2.o = none := by
   obtain ⟨callee,args,argTypes⟩ := c
   obtain rfl := hcc
   rfl
  have hmo:mop E.τ (.call c) (s2.drop [d,0]).ev [d,0] = none := rfl
  have e1:opK (R := St) E o s2 some = (match vop E.τ (.call c) s2.ev s2.o with
        | some (c,v) => bif dstOk E.N (some d) then (match c with | true => some (s2.put (some d) v) | false => none) else none
        | none => bif Nat.blt d E.N then (match mop E.τ (.call c) (s2.drop [d,0]).ev [d,0] with
         | some (c,ob,v) => (match c with | true => some (((s2.drop [d,0]).setO [d,0] ob).put (some d) v) | false => none)
         | none => match wop E.τ (.call c) (some d) s2 with
          | some (c,s'') => (match c with | true => some s'' | false => none)
          | none => arrK E.τ (.call c) d s2 some) else none) := by
   unfold opK
   rw [hd,hop]
   obtain ⟨callee,args,argTypes⟩ := c
   obtain rfl := hcc
   rfl
  rw [e1,hvo,hmo,wop_app hcc hca h2.1]
  dsimp only
  cases appR E.τ c.argTypes.toList (s2.o [t,0]) (srcOf s2.o (s2.ev y)) with
  | none => cases Nat.blt d E.N <;> rfl
  | some r =>
   cases Nat.blt d E.N with
   | false => rfl
   | true =>
    dsimp only [cond_true,Option.map_some]
    rw [eat_eq h2 h3 hne]
 rw [hss] at h
 have hsg := h
 rw [form s hc hf] at h
 cases hr:appR E.τ c.argTypes.toList (s.o [t,0]) (srcOf s.o (s.ev y)) with
 | none => rw [hr] at h; cases h
 | some r =>
  rw [hr] at h
  obtain ⟨b,k,ob⟩ := r
  dsimp only at h
  cases hN:Nat.blt d E.N with
  | false => rw [hN] at h; cases h
  | true =>
   rw [hN,cond_true] at h
   cases b with
   | false => cases h
   | true =>
    refine ⟨k,ob,(Option.some.inj h).symm,appR_arr _ hr,hsg,fun s' h1 h2 h3 h4 => ?_⟩
    rw [hss,form s' h3 h4, ← ev_same h1 y hyo,h2 t hto [t,0] (by rw [hc.1]; exact rfl),srcOf_see (o := s.o) (fun n hn => by
     obtain ⟨i,hi,hm⟩ := rds_ev (l := l) hyo hn
     exact h2 i hi n hm),hr]
    dsimp only
    rw [hN]; rfl
end
def isApp (l:List Oper) (i:Nat):Bool := match l[i]? with
 | some o => (match appSrc o with | some _ => true | none => false)
 | none => false
def mkOk (l:List Oper) (z:Nat×Nat) (o:Oper):Bool := bif isApp l z.1 then isBS o.op else isAlloc o.op
def okB (E:Env) (l:List Oper) (rs:List (List Nat)) (zs:List (Nat×Nat)) (i:Nat):Bool := match l[i]? with
  | none => false
  | some o =>
    (match kindOf E o with
      | 0 => true
      | 1 => true
      | 4 => true
      | 2 => (match storeSlot o with | some d => zs.any (fun z => Nat.beq z.1 i && Nat.beq z.2 d) | none => false)
      | 6 => (match appSrc o,o.dst with | some t,some d => !Nat.beq d t && zs.any (fun z => Nat.beq z.1 i && Nat.beq z.2 t) | _,_ => false)
      | _ => false) &&
    ((List.range l.length).all (fun j => Nat.beq j i || (match l[j]? with
      | some p => (match p.dst with
        | some e => (memNat j (rs.getD i []) || !memNat e (rds l o)) && (match o.dst with | some d => !Nat.beq d e | none => true)
        | none => true)
      | none => true)) &&
     zs.all (fun z => Nat.beq z.1 i || (memNat z.1 (rs.getD i []) || (!memNat z.2 (rds l o) && (match o.dst with | some d => !Nat.beq d z.2 || mkOk l z o | none => true)))))
def mkind (fr:Bool):Nat → Bool
 | 0 => true
 | 4 => true
 | 1 => fr
 | _ => false
def eats (l:List Oper) (a b:Oper):Bool := match appSrc a with
 | some t => !memNat t (rds l b) && (match b.dst with | some e => !Nat.beq e t | none => false)
 | none => false
def pairB (E:Env) (l:List Oper) (rs:List (List Nat)) (fr:Bool) (i j:Nat):Bool := match l[i]?,l[j]? with
 | some a,some b => memNat i (rs.getD j []) || (match a.dst with
  | some d => (mkind fr (kindOf E a) || (fr && Nat.beq (kindOf E a) 6 && eats l a b)) && (!memNat d (rds l b) && (match b.dst with
   | some e => (mkind fr (kindOf E b) || (fr && Nat.beq (kindOf E b) 6 && (mkind fr (kindOf E a) && eats l b a))) && (!Nat.beq d e && !memNat e (rds l a))
   | none => fr && (match storeSlot b with
    | some z => Nat.beq (kindOf E b) 2 && (!Nat.beq d z && !memNat z (rds l a))
    | none => false)))
  | none => false)
 | _,_ => false
def ordB (l:List Oper) (i j:Nat):Bool := match l[i]? with
 | some a => !memNat j (afters a)
 | none => false
def CleanZ (l:List Oper) (z:Nat×Nat) (s:St):Prop := match isApp l z.1 with
 | true => CleanA z.2 s
 | false => Clean z.2 s
def Inv6 (fr:Bool) (l:List Oper) (zs:List (Nat×Nat)) (L:List Nat) (s:St):Prop := fr = true →
 (∀ i ∈ L, ∀ o d,l[i]? = some o → o.dst = some d → Fresh d s) ∧ ∀ z ∈ zs,z.1 ∈ L → (∃ i ∈ L, ∃ o,l[i]? = some o ∧ o.dst = some z.2) ∨ CleanZ l z s
theorem lookO_in {n:Nm} {x:Ob}:∀ {ups:List (Nm×Ob)},lookO ups n = some x → (n,x) ∈ ups
 | [],h => by cases h
 | p :: r,h => by
  have h:(bif Nm.eqb p.1 n then some p.2 else lookO r n) = some x := h
  cases q:Nm.eqb p.1 n with
  | true =>
   rw [q] at h
   obtain rfl := Option.some.inj h
   obtain rfl := eqb_iff.1 q
   exact List.mem_cons_self ..
  | false => rw [q] at h; exact List.mem_cons_of_mem _ (lookO_in h)
theorem over_o (s:St) (ups:List (Nm×Ob)) (d:Nat) (v:AV) {n:Nm} {x:Ob} (h:((s.over ups).put (some d) v).o n = some x):(n,x) ∈ ups ∨ (lookO ups n = none ∧ s.o n = some x) := by
 have h:(match lookO ups n with | some ob => some ob | none => s.o n) = some x := h
 cases q:lookO ups n with
 | some y => rw [q] at h; obtain rfl := Option.some.inj h; exact .inl (lookO_in q)
 | none => rw [q] at h; exact .inr ⟨rfl,h⟩
theorem over_no {s:St} {ups:List (Nm×Ob)} {d:Nat} {v:AV} {n:Nm} (h:∀ p ∈ ups,p.1 ≠ n):lookO ups n = none ∧ ((s.over ups).put (some d) v).o n = s.o n := by
 have:lookO ups n = none := by
  cases q:lookO ups n with
  | none => rfl
  | some x => exact absurd rfl (h _ (lookO_in q))
 refine ⟨this, ?_⟩
 show (match lookO ups n with | some ob => some ob | none => s.o n) = s.o n
 rw [this]
section
variable {fr:Bool} {E:Env} {l:List Oper} {s s1:St}
theorem fresh_M {o:Oper} {q:Bool} {d e:Nat} {v:AV} {ups:List (Nm×Ob)} (hm:Mk6 fr E l o q s d v ups) (hne:d ≠ e) (hr:e ∉ rds l o) (hf:Fresh e s):Fresh e ((s.over ups).put (some d) v) := by
 have key:∀ n,headed e n = true → ¬ (AMent v n ∨ ∃ p ∈ ups,OMent p.2 n) := by
  intro n hn hc
  rcases hm.m.ment n hc with h | ⟨t,ht,h⟩ | ⟨t,ht,m,y,h1,h2,h3⟩
  ·rw [headed_ne hne h] at hn; cases hn
  ·exact hf.1 t (fun q => hr (q ▸ ht)) n hn h
  ·exact (hf.2 m y h2).2 n hn h3
 refine ⟨fun t ht n hn h => ?_,fun m x hx => ?_⟩
 ·rw [put_t] at h
  by_cases q:t = d
  ·rw [if_pos q] at h; exact key n hn (.inl h)
  ·rw [if_neg q] at h; exact hf.1 t ht n hn h
 ·rcases over_o s ups d v hx with h | ⟨_,h⟩
  ·exact ⟨headed_ne hne (hm.m.hd _ h),fun n hn h2 => key n hn (.inr ⟨_,h,h2⟩)⟩
  ·exact hf.2 m x h
theorem clean_M {o:Oper} {q:Bool} {d z:Nat} {v:AV} {ups:List (Nm×Ob)} (hm:Mk6 fr E l o q s d v ups) (hne:d ≠ z) (hr:z ∉ rds l o) (hf:Clean z s):Clean z ((s.over ups).put (some d) v) := by
 have key:¬ (AMent v [z,0] ∨ ∃ p ∈ ups,OMent p.2 [z,0]) := by
  intro hc
  rcases hm.m.ment _ hc with h | ⟨t,ht,h⟩ | ⟨t,ht,m,y,h1,h2,h3⟩
  ·exact hne (Nat.eq_of_beq_eq_true h).symm
  ·exact hf.2.1 t (fun q => hr (q ▸ ht)) h
  ·exact hf.2.2 m y h2 h3
 refine ⟨?_,fun t ht h => ?_,fun m x hx h2 => ?_⟩
 ·rw [put_t,if_neg (Ne.symm hne)]; exact hf.1
 ·rw [put_t] at h
  by_cases q:t = d
  ·rw [if_pos q] at h; exact key (.inl h)
  ·rw [if_neg q] at h; exact hf.2.1 t ht h
 ·rcases over_o s ups d v hx with h | ⟨_,h⟩
  ·exact key (.inr ⟨_,h,h2⟩)
  ·exact hf.2.2 m x h h2
theorem cleanA_M {o:Oper} {q:Bool} {d z:Nat} {v:AV} {ups:List (Nm×Ob)} (hm:Mk6 fr E l o q s d v ups) (hne:d ≠ z) (hr:z ∉ rds l o) (hf:CleanA z s):CleanA z ((s.over ups).put (some d) v) := by
 have key:¬ (AMent v [z,0] ∨ ∃ p ∈ ups,OMent p.2 [z,0]) := by
  intro hc
  rcases hm.m.ment _ hc with h | ⟨t,ht,h⟩ | ⟨t,ht,m,y,h1,h2,h3⟩
  ·exact hne (Nat.eq_of_beq_eq_true h).symm
  ·exact hf.2.1 t (fun q => hr (q ▸ ht)) h
  ·exact hf.2.2 m y h2 h3
 refine ⟨?_,fun t ht h => ?_,fun m x hx h2 => ?_⟩
 ·rw [put_t,if_neg (Ne.symm hne)]; exact hf.1
 ·rw [put_t] at h
  by_cases q:t = d
  ·rw [if_pos q] at h; exact key (.inl h)
  ·rw [if_neg q] at h; exact hf.2.1 t ht h
 ·rcases over_o s ups d v hx with h | ⟨_,h⟩
  ·exact key (.inr ⟨_,h,h2⟩)
  ·exact hf.2.2 m x h h2
theorem cleanZ_M {z:Nat×Nat} {o:Oper} {q:Bool} {d:Nat} {v:AV} {ups:List (Nm×Ob)} (hm:Mk6 fr E l o q s d v ups) (hne:d ≠ z.2) (hr:z.2 ∉ rds l o) (hf:CleanZ l z s):CleanZ l z ((s.over ups).put (some d) v) := by
 unfold CleanZ at hf ⊢
 cases w:isApp l z.1 with
 | true => rw [w] at hf; exact cleanA_M hm hne hr hf
 | false => rw [w] at hf; exact clean_M hm hne hr hf
theorem fresh_E {t k d e:Nat} {ob:Ob} (ho:∀ n, ¬ OMent ob n) (hne:d ≠ e) (hf:Fresh e s):Fresh e (eat t k d ob s) := by
 refine ⟨fun i hi n hn h => ?_,fun m x hx => ?_⟩
 ·have h:AMent (if i = d then .c (.own [d,0]) else if i = t then .c (.hd k) else s.t i) n := h
  by_cases q:i = d
  ·rw [if_pos q] at h
   have h:[d,0] = n := h
   rw [← h] at hn
   exact hne (Nat.eq_of_beq_eq_true hn)
  ·rw [if_neg q] at h
   by_cases q2:i = t
   ·rw [if_pos q2] at h; exact h
   ·rw [if_neg q2] at h; exact hf.1 i hi n hn h
 ·have hx:(if m = [d,0] then some ob else if m = [t,0] then none else s.o m) = some x := hx
  by_cases q:m = [d,0]
  ·rw [if_pos q] at hx
   obtain rfl := Option.some.inj hx
   rw [q]
   refine ⟨?_,fun n _ => ho n⟩
   show Nat.beq d e = false
   cases w:Nat.beq d e with
   | false => rfl
   | true => exact absurd (Nat.eq_of_beq_eq_true w) hne
  ·rw [if_neg q] at hx
   by_cases q2:m = [t,0]
   ·rw [if_pos q2] at hx; cases hx
   ·rw [if_neg q2] at hx; exact hf.2 m x hx
theorem ments_E {t k d z:Nat} {ob:Ob} (ho:∀ n, ¬ OMent ob n) (hne:d ≠ z) (h1:∀ i,i ≠ z → ¬ AMent (s.t i) [z,0]) (h2:∀ m x,s.o m = some x → ¬ OMent x [z,0]):(∀ i,i ≠ z → ¬ AMent ((eat t k d ob s).t i) [z,0]) ∧ ∀ m x,(eat t k d ob s).o m = some x → ¬ OMent x [z,0] := by
 refine ⟨fun i hi h => ?_,fun m x hx h => ?_⟩
 ·have h:AMent (if i = d then .c (.own [d,0]) else if i = t then .c (.hd k) else s.t i) [z,0] := h
  by_cases q:i = d
  ·rw [if_pos q] at h
   have h:[d,0] = [z,0] := h
   injection h with h _
   exact hne h
  ·rw [if_neg q] at h
   by_cases q2:i = t
   ·rw [if_pos q2] at h; exact h
   ·rw [if_neg q2] at h; exact h1 i hi h
 ·have hx:(if m = [d,0] then some ob else if m = [t,0] then none else s.o m) = some x := hx
  by_cases q:m = [d,0]
  ·rw [if_pos q] at hx
   obtain rfl := Option.some.inj hx
   exact ho _ h
  ·rw [if_neg q] at hx
   by_cases q2:m = [t,0]
   ·rw [if_pos q2] at hx; cases hx
   ·rw [if_neg q2] at hx; exact h2 m x hx h
theorem eat_t {t k d z:Nat} {ob:Ob} (h1:z ≠ d) (h2:z ≠ t):(eat t k d ob s).t z = s.t z := by
 show (if z = d then _ else if z = t then _ else s.t z) = s.t z
 rw [if_neg h1,if_neg h2]
theorem cleanZ_E {z:Nat×Nat} {t k d:Nat} {ob:Ob} (ho:∀ n, ¬ OMent ob n) (hne:d ≠ z.2) (hzt:z.2 ≠ t) (hf:CleanZ l z s):CleanZ l z (eat t k d ob s) := by
 unfold CleanZ at hf ⊢
 cases w:isApp l z.1 with
 | true =>
  rw [w] at hf
  exact ⟨by rw [eat_t (Ne.symm hne) hzt]; exact hf.1,ments_E ho hne hf.2.1 hf.2.2⟩
 | false =>
  rw [w] at hf
  exact ⟨by rw [eat_t (Ne.symm hne) hzt]; exact hf.1,ments_E ho hne hf.2.1 hf.2.2⟩
theorem eat_M {t k d db:Nat} {ob:Ob} {vb:AV} {ub:List (Nm×Ob)} (hub:∀ p ∈ ub,headed db p.1 = true) (h1:db ≠ d) (h2:db ≠ t):((eat t k d ob s).over ub).put (some db) vb = eat t k d ob ((s.over ub).put (some db) vb) := by
 refine St.ext' (fun i => ?_) fun m => ?_
 ·rw [put_t]
  show (if i = db then vb else if i = d then _ else if i = t then _ else s.t i) = (if i = d then _ else if i = t then _ else ((s.over ub).put (some db) vb).t i)
  rw [put_t]
  by_cases q:i = db
  ·rw [if_pos q,if_neg (fun e => h1 (q.symm.trans e)),if_neg (fun e => h2 (q.symm.trans e)),if_pos q]
  ·rw [if_neg q,if_neg q]; rfl
 ·show (match lookO ub m with | some x => some x | none => (if m = [d,0] then some ob else if m = [t,0] then none else s.o m)) = (if m = [d,0] then some ob else if m = [t,0] then none else (match lookO ub m with | some x => some x | none => s.o m))
  cases w:lookO ub m with
  | none => rfl
  | some x =>
   have hh := hub _ (lookO_in w)
   have n1:m ≠ [d,0] := fun e => by
    have hh:headed db m = true := hh
    rw [e] at hh
    exact h1 (Nat.eq_of_beq_eq_true (show Nat.beq d db = true from hh)).symm
   have n2:m ≠ [t,0] := fun e => by
    have hh:headed db m = true := hh
    rw [e] at hh
    exact h2 (Nat.eq_of_beq_eq_true (show Nat.beq t db = true from hh)).symm
   simp only [if_neg n1,if_neg n2]
theorem swap_MM {a b:Oper} {qa qb:Bool} {da db:Nat} {va vb:AV} {ua ub:List (Nm×Ob)} (ha:Mk6 fr E l a qa s da va ua) (hb:Mk6 fr E l b qb ((s.over ua).put (some da) va) db vb ub) (hne:da ≠ db) (h1:da ∉ rds l b) (h2:db ∉ rds l a)
  (hcase:(ua = [] ∧ ub = [] ∧ qa = false ∧ qb = false) ∨ (Fresh da s ∧ Fresh db s)) :
  stm fr E l b s = some ((s.over ub).put (some db) vb) ∧ stm fr E l a ((s.over ub).put (some db) vb) = some ((((s.over ua).put (some da) va).over ub).put (some db) vb) := by
 have st:∀ t,t ≠ da → ((s.over ua).put (some da) va).t t = s.t t := fun t ht => by rw [put_t,if_neg ht]; rfl
 have st2:∀ t,t ≠ db → ((s.over ub).put (some db) vb).t t = s.t t := fun t ht => by rw [put_t,if_neg ht]; rfl
 have eb:stm fr E l b s = some ((s.over ub).put (some db) vb) := by
  refine hb.stm s (fun t ht => (st t (fun q => h1 (q ▸ ht))).symm) (fun t ht n hn => ?_) (fun q => ?_)
  ·rcases hcase with ⟨rfl,_⟩ | ⟨f1,_⟩
   ·rfl
   ·rw [st t (fun q => h1 (q ▸ ht))] at hn
    exact (over_no (fun p hp e => f1.1 t (fun q => h1 (q ▸ ht)) n (by rw [← e]; exact ha.m.hd p hp) hn)).2.symm
  ·rcases hcase with ⟨_,_,_,q'⟩ | ⟨_,f2⟩
   ·rw [q'] at q; cases q
   ·exact f2
 refine ⟨eb, ?_⟩
 have ea:stm fr E l a ((s.over ub).put (some db) vb) = some ((((s.over ub).put (some db) vb).over ua).put (some da) va) := by
  refine ha.stm _ (fun t ht => st2 t (fun q => h2 (q ▸ ht))) (fun t ht n hn => ?_) (fun q => ?_)
  ·rcases hcase with ⟨_,rfl,_⟩ | ⟨_,f2⟩
   ·rfl
   ·exact (over_no (fun p hp e => f2.1 t (fun q => h2 (q ▸ ht)) n (by rw [← e]; exact hb.m.hd p hp) hn)).2
  ·rcases hcase with ⟨_,_,q',_⟩ | ⟨f1,f2⟩
   ·rw [q'] at q; cases q
   ·have hb0:Mk6 fr E l b qb s db vb ub := ⟨⟨hb.m.dst,fun s' g1 g2 g3 => hb.m.step s' (fun t ht => (g1 t ht).trans (st t (fun q => h1 (q ▸ ht))).symm) (fun t ht n hn => by
      rw [st t (fun q => h1 (q ▸ ht))] at hn
      rw [g2 t ht n hn]
      exact (over_no (fun p hp e => f1.1 t (fun q => h1 (q ▸ ht)) n (by rw [← e]; exact ha.m.hd p hp) hn)).2.symm) g3,hb.m.hd,fun n hn => by
       rcases hb.m.ment n hn with h | ⟨t,ht,h⟩ | ⟨t,ht,m,y,g1,g2,g3⟩
       ·exact .inl h
       ·rw [st t (fun q => h1 (q ▸ ht))] at h; exact .inr (.inl ⟨t,ht,h⟩)
       ·rw [st t (fun q => h1 (q ▸ ht))] at g1
        rw [(over_no (fun p hp e => f1.1 t (fun q => h1 (q ▸ ht)) m (by rw [← e]; exact ha.m.hd p hp) g1)).2] at g2
        exact .inr (.inr ⟨t,ht,m,y,g1,g2,g3⟩)⟩,fun s' g1 g2 g3 => hb.stm s' (fun t ht => (g1 t ht).trans (st t (fun q => h1 (q ▸ ht))).symm) (fun t ht n hn => by
      rw [st t (fun q => h1 (q ▸ ht))] at hn
      rw [g2 t ht n hn]
      exact (over_no (fun p hp e => f1.1 t (fun q => h1 (q ▸ ht)) n (by rw [← e]; exact ha.m.hd p hp) hn)).2.symm) g3⟩
    exact fresh_M hb0 (Ne.symm hne) h1 f1
 rw [ea]
 refine congrArg some (St.ext' (fun i => ?_) fun n => ?_)
 ·rw [put_t,put_t]
  show (if i = da then va else ((s.over ub).put (some db) vb).t i) = (if i = db then vb else ((s.over ua).put (some da) va).t i)
  rw [put_t,put_t]
  by_cases q:i = da
  ·rw [if_pos q,if_pos q,if_neg (fun q2 => hne (q.symm.trans q2))]
  ·rw [if_neg q,if_neg q]; rfl
 ·show (match lookO ua n with | some ob => some ob | none => (match lookO ub n with | some ob => some ob | none => s.o n)) = (match lookO ub n with | some ob => some ob | none => (match lookO ua n with | some ob => some ob | none => s.o n))
  cases q1:lookO ua n with
  | none => rfl
  | some x =>
   cases q2:lookO ub n with
   | none => rfl
   | some y =>
    exfalso
    have g1 := ha.m.hd _ (lookO_in q1)
    have g2 := hb.m.hd _ (lookO_in q2)
    rw [headed_ne hne g1] at g2; cases g2
theorem swap_MS {a b:Oper} {q:Bool} {da z:Nat} {va:AV} {ua:List (Nm×Ob)} (ha:Mk6 fr E l a q s da va ua) (hs:storeSlot b = some z) (hg:b.guard = none) (hk:kindOf E b = 2) (hc:Clean z s) (hf:Fresh da s) (hne:da ≠ z) (hra:z ∉ rds l a) (hrb:da ∉ rds l b) {s2:St} (h:stm fr E l b ((s.over ua).put (some da) va) = some s2) :
  ∃ s1',stm fr E l b s = some s1' ∧ stm fr E l a s1' = some s2 := by
 have st:∀ t,t ≠ da → ((s.over ua).put (some da) va).t t = s.t t := fun t ht => by rw [put_t,if_neg ht]; rfl
 have hzd:∀ p ∈ ua,p.1 ≠ [z,0] := fun p hp e => hne (Nat.eq_of_beq_eq_true (show Nat.beq z da = true from by
  have := ha.m.hd p hp
  rw [e] at this; exact this)).symm
 obtain ⟨ob0,ob,g1,g2,_,g4,g5⟩ := st6 hs hg hk (by rw [st z (Ne.symm hne)]; exact hc.1) h
 rw [(over_no hzd).2] at g1
 have e1:stm fr E l b s = some (s.setO [z,0] ob) := g4 s (fun t ht => (st t (fun q => hrb (q ▸ ht))).symm) (over_no hzd).2.symm
 refine ⟨_,e1, ?_⟩
 have mo:∀ n,headed da n = true → ¬ OMent ob n := fun n hn hm => by
  rcases g5 n hm with h | ⟨t,ht,h⟩
  ·exact (hf.2 _ ob0 g1).2 n hn h
  ·rw [st t (fun q => hrb (q ▸ ht))] at h
   exact hf.1 t (fun q => hrb (q ▸ ht)) n hn h
 have hf':Fresh da (s.setO [z,0] ob) := by
  refine ⟨hf.1,fun m x hx => ?_⟩
  have hx:(bif Nm.eqb m [z,0] then some ob else s.o m) = some x := hx
  cases w:Nm.eqb m [z,0] with
  | true =>
   rw [w] at hx
   obtain rfl := Option.some.inj hx
   rw [eqb_iff.1 w]
   exact ⟨(hf.2 _ ob0 g1).1,mo⟩
  | false => rw [w] at hx; exact hf.2 m x hx
 have e2 := ha.stm (s.setO [z,0] ob) (fun _ _ => rfl) (fun t ht n hn => by
  show (bif Nm.eqb n [z,0] then some ob else s.o n) = s.o n
  cases w:Nm.eqb n [z,0] with
  | true =>
   rw [eqb_iff.1 w] at hn
   exact absurd hn (hc.2.1 t (fun q => hra (q ▸ ht)))
  | false => rfl) (fun _ => hf')
 rw [e2,g2]
 refine congrArg some (St.ext' (fun i => ?_) fun n => ?_)
 ·show _ = ((s.over ua).put (some da) va).t i
  rw [put_t,put_t]
  rfl
 ·show (match lookO ua n with | some ob => some ob | none => (bif Nm.eqb n [z,0] then some ob else s.o n)) = (bif Nm.eqb n [z,0] then some ob else (match lookO ua n with | some ob => some ob | none => s.o n))
  cases w:Nm.eqb n [z,0] with
  | false => rfl
  | true => rw [eqb_iff.1 w,(over_no (s := s) (d := da) (v := va) hzd).1]
end
section
variable {fr:Bool} {E:Env} {l:List Oper}
theorem mkind_cases {o:Oper} {s s1:St} {d:Nat} (hd:o.dst = some d) (hk:mkind fr (kindOf E o) = true) (h:stm fr E l o s = some s1):∃ v ups q,Mk6 fr E l o q s d v ups ∧ (kindOf E o ≠ 1 → q = false ∧ ups = []) ∧ s1 = (s.over ups).put (some d) v ∧ (∀ t,o.op = .alloc t → kindOf E o = 1 → ∃ zc,v = .c (.pb [d,0] 0) ∧ ups = [([d,0], .box zc)] ∧ ∀ n, ¬ CMent zc n) ∧ (isBS o.op = true → kindOf E o = 1 → ∃ el ty xs,v = .c (.own [d,0]) ∧ ups = [([d,0], .arr el ty xs)]) := by
 have three:kindOf E o = 0 ∨ (kindOf E o = 1 ∧ fr = true) ∨ kindOf E o = 4 := by
  unfold mkind at hk
  split at hk
  ·rename_i q; exact .inl q
  ·rename_i q; exact .inr (.inr q)
  ·rename_i q; exact .inr (.inl ⟨q,hk⟩)
  ·cases hk
 rcases three with h0 | h1
 ·obtain ⟨d',v,m,rfl⟩ := mk6_P (fr := fr) h0 h
  have:d' = d := by
   have := m.m.dst
   rw [hd] at this
   exact (Option.some.inj this).symm
  subst this
  exact ⟨v,[],false,m,fun _ => ⟨rfl,rfl⟩,rfl,fun t _ q => (by rw [h0] at q; cases q),fun _ q => (by rw [h0] at q; cases q)⟩
 ·obtain ⟨v,ups,q,m,m2,m3,m4,m5⟩ := mk6_M h1 hd h
  exact ⟨v,ups,q,m,fun w => m2 (by rcases h1 with h | h; exact absurd h.1 w; exact h),m3,fun t ht _ => m4 t ht,fun hb _ => m5 hb⟩
theorem memNat_no {n:Nat} {l:List Nat} (h:(!memNat n l) = true):n ∉ l := fun q => by rw [memNat_iff.2 q] at h; cases h
theorem beq_no {a b:Nat} (h:(!Nat.beq a b) = true):a ≠ b := fun q => by rw [q,Nat.beq_refl] at h; cases h
theorem app_clean {zs:List (Nat×Nat)} {L:List Nat} {s:St} {i:Nat} {o:Oper} {t d:Nat} (hI:Inv6 true l zs L s) (hi:i ∈ L) (ho:l[i]? = some o) (hok:okB E l (reachs l []) zs i = true) (hfree:∀ a ∈ L,memNat a ((reachs l []).getD i []) = false) (hat:appSrc o = some t) (hd:o.dst = some d) (k6:kindOf E o = 6):d ≠ t ∧ CleanA t s := by
 obtain ⟨I1,I2⟩ := hI rfl
 unfold okB at hok
 rw [ho] at hok
 dsimp only at hok
 rw [Bool.and_eq_true,Bool.and_eq_true,k6] at hok
 obtain ⟨hk,hB,hC⟩ := hok
 have hk:(match appSrc o,o.dst with | some t,some d => !Nat.beq d t && zs.any (fun z => Nat.beq z.1 i && Nat.beq z.2 t) | _,_ => false) = true := hk
 rw [hat,hd] at hk
 dsimp only at hk
 rw [Bool.and_eq_true,List.any_eq_true] at hk
 obtain ⟨hdt,z,hz,hze⟩ := hk
 have hdt := beq_no hdt
 rw [Bool.and_eq_true] at hze
 have z1 := Nat.eq_of_beq_eq_true hze.1
 have z2 := Nat.eq_of_beq_eq_true hze.2
 have htr:t ∈ rds l o := by
  obtain ⟨c,y,_,hop,_,hca,_⟩ := appSrc_op hat
  refine List.mem_append_left _ (List.mem_flatMap.2 ⟨.tmp t, ?_,List.mem_singleton.2 rfl⟩)
  rw [hop]
  simp only [Op.operands,Call.operands,Array.toList_append,List.mem_append]
  right
  rw [hca]
  exact .head _
 refine ⟨hdt, ?_⟩
 rcases I2 z hz (z1 ▸ hi) with ⟨j,hj,p,hp,he⟩ | h
 ·exfalso
  rw [z2] at he
  by_cases q:j = i
  ·subst q
   rw [ho] at hp
   obtain rfl := Option.some.inj hp
   rw [hd] at he
   exact hdt (Option.some.inj he)
  ·have := List.all_eq_true.1 hB j (List.mem_range.2 (List.getElem?_eq_some_iff.1 hp).1)
   rw [beq_ne q,hp] at this
   dsimp only [Bool.false_or] at this
   rw [he] at this
   dsimp only at this
   rw [Bool.false_or,Bool.and_eq_true,hfree j hj,Bool.false_or] at this
   exact memNat_no this.1 htr
 ·have hna:isApp l z.1 = true := by
   unfold isApp
   rw [z1,ho]
   dsimp only
   rw [hat]
  unfold CleanZ at h
  rw [hna,z2] at h; exact h
theorem inv6 {zs:List (Nat×Nat)} {L L':List Nat} {s s1:St} {i:Nat} {o:Oper} (hI:Inv6 true l zs L s) (hi:i ∈ L) (ho:l[i]? = some o) (hok:okB E l (reachs l []) zs i = true) (hfree:∀ a ∈ L,memNat a ((reachs l []).getD i []) = false) (hlt:∀ j ∈ L,j < l.length) (hs:stm true E l o s = some s1)
  (h1:∀ j ∈ L',j ∈ L ∧ j ≠ i) (h2:∀ j ∈ L,j ≠ i → j ∈ L'):stg E l o s = some s1 ∧ Inv6 true l zs L' s1 := by
 obtain ⟨I1,I2⟩ := hI rfl
 unfold okB at hok
 rw [ho] at hok
 dsimp only at hok
 rw [Bool.and_eq_true,Bool.and_eq_true] at hok
 obtain ⟨hk,hB,hC⟩ := hok
 have B:∀ j ∈ L,j ≠ i → ∀ p e,l[j]? = some p → p.dst = some e → e ∉ rds l o ∧ ∀ d,o.dst = some d → d ≠ e := by
  intro j hj hne p e hp he
  have := List.all_eq_true.1 hB j (List.mem_range.2 (hlt j hj))
  rw [beq_ne hne,hp] at this
  dsimp only [Bool.false_or] at this
  rw [he] at this
  dsimp only at this
  rw [Bool.false_or,Bool.and_eq_true,hfree j hj,Bool.false_or] at this
  refine ⟨memNat_no this.1,fun d hd => ?_⟩
  have h3 := this.2
  rw [hd] at h3
  exact beq_no h3
 have C:∀ z ∈ zs,z.1 ∈ L → z.1 ≠ i → z.2 ∉ rds l o ∧ ∀ d,o.dst = some d → d ≠ z.2 ∨ mkOk l z o = true := by
  intro z hz hzL hne
  have := List.all_eq_true.1 hC z hz
  rw [beq_ne hne,hfree _ hzL,Bool.false_or,Bool.false_or,Bool.and_eq_true] at this
  refine ⟨memNat_no this.1,fun d hd => ?_⟩
  have h3 := this.2
  rw [hd] at h3
  dsimp only at h3
  rw [Bool.or_eq_true] at h3
  exact h3.imp beq_no id
 by_cases k2:kindOf E o = 2
 ·-- a store
  rw [k2] at hk
  have hk:(match storeSlot o with | some d => zs.any (fun z => Nat.beq z.1 i && Nat.beq z.2 d) | none => false) = true := hk
  have hg:o.guard = none := kind_guard (E := E) (o := o) (by omega) (by omega)
  cases hss:storeSlot o with
  | none => rw [hss] at hk; cases hk
  | some d =>
   rw [hss] at hk
   dsimp only at hk
   rw [List.any_eq_true] at hk
   obtain ⟨z,hz,hze⟩ := hk
   rw [Bool.and_eq_true] at hze
   have z1 := Nat.eq_of_beq_eq_true hze.1
   have z2 := Nat.eq_of_beq_eq_true hze.2
   have hdn:o.dst = none := by
    unfold storeSlot at hss
    split at hss
    ·assumption
    ·cases hss
   have hdr:d ∈ rds l o := by
    unfold storeSlot at hss
    split at hss
    ·rename_i T a x _ hop
     obtain rfl := Option.some.inj hss
     exact List.mem_append_left _ (List.mem_flatMap.2 ⟨.tmp a,by rw [hop]; simp [Op.operands],List.mem_singleton.2 rfl⟩)
    ·cases hss
   have hcl:Clean d s := by
    rcases I2 z hz (z1 ▸ hi) with ⟨j,hj,p,hp,he⟩ | h
    ·exfalso
     rw [z2] at he
     by_cases q:j = i
     ·subst q
      rw [ho] at hp
      obtain rfl := Option.some.inj hp
      rw [hdn] at he; cases he
     ·exact (B j hj q p d hp he).1 hdr
    ·have hna:isApp l z.1 = false := by
      unfold isApp
      rw [z1,ho]
      dsimp only
      cases w:appSrc o with
      | none => rfl
      | some t =>
       obtain ⟨_,_,_,_,_,_,w2⟩ := appSrc_op w
       rw [hdn] at w2; cases w2
     unfold CleanZ at h
     rw [hna,z2] at h; exact h
   obtain ⟨ob0,ob,g1,rfl,g3,_,g5⟩ := st6 hss hg k2 hcl.1 hs
   refine ⟨g3,fun _ => ⟨fun j hj p e hp he => ?_,fun z' hz' hzL => ?_⟩⟩
   ·obtain ⟨hjL,hji⟩ := h1 j hj
    have hf := I1 j hjL p e hp he
    have hb := (B j hjL hji p e hp he).1
    refine ⟨hf.1,fun m x hx => ?_⟩
    have hx:(bif Nm.eqb m [d,0] then some ob else s.o m) = some x := hx
    cases w:Nm.eqb m [d,0] with
    | true =>
     rw [w] at hx
     obtain rfl := Option.some.inj hx
     rw [eqb_iff.1 w]
     refine ⟨(hf.2 _ ob0 g1).1,fun n hn hm => ?_⟩
     rcases g5 n hm with h | ⟨t,ht,h⟩
     ·exact (hf.2 _ ob0 g1).2 n hn h
     ·exact hf.1 t (fun q => hb (q ▸ ht)) n hn h
    | false => rw [w] at hx; exact hf.2 m x hx
   ·obtain ⟨hzL0,hzi⟩ := h1 _ hzL
    rcases I2 z' hz' hzL0 with ⟨j,hj,p,hp,he⟩ | h
    ·refine .inl ⟨j,h2 j hj (fun q => ?_),p,hp,he⟩
     subst q
     rw [ho] at hp
     obtain rfl := Option.some.inj hp
     rw [hdn] at he; cases he
    ·have hcr := (C z' hz' hzL0 hzi).1
     have key:(∀ i,i ≠ z'.2 → ¬ AMent (s.t i) [z'.2,0]) → (∀ m x,s.o m = some x → ¬ OMent x [z'.2,0]) → ∀ m x,(s.setO [d,0] ob).o m = some x → ¬ OMent x [z'.2,0] := fun k1 k2 m x hx hm => by
      have hx:(bif Nm.eqb m [d,0] then some ob else s.o m) = some x := hx
      cases w:Nm.eqb m [d,0] with
      | true =>
       rw [w] at hx
       obtain rfl := Option.some.inj hx
       rcases g5 _ hm with h3 | ⟨t,ht,h3⟩
       ·exact k2 _ ob0 g1 h3
       ·exact k1 t (fun q => hcr (q ▸ ht)) h3
      | false => rw [w] at hx; exact k2 m x hx hm
     right
     unfold CleanZ at h ⊢
     cases w:isApp l z'.1 with
     | true => rw [w] at h; exact ⟨h.1,h.2.1,key h.2.1 h.2.2⟩
     | false => rw [w] at h; exact ⟨h.1,h.2.1,key h.2.1 h.2.2⟩
 ·by_cases k6:kindOf E o = 6
  ·-- an append
   rw [k6] at hk
   have hk:(match appSrc o,o.dst with | some t,some d => !Nat.beq d t && zs.any (fun z => Nat.beq z.1 i && Nat.beq z.2 t) | _,_ => false) = true := hk
   cases hat:appSrc o with
   | none => rw [hat] at hk; cases hk
   | some t =>
    cases hd:o.dst with
    | none => rw [hat,hd] at hk; cases hk
    | some d =>
     rw [hat,hd] at hk
     dsimp only at hk
     rw [Bool.and_eq_true,List.any_eq_true] at hk
     obtain ⟨hdt,z,hz,hze⟩ := hk
     have hdt := beq_no hdt
     rw [Bool.and_eq_true] at hze
     have z1 := Nat.eq_of_beq_eq_true hze.1
     have z2 := Nat.eq_of_beq_eq_true hze.2
     have htr:t ∈ rds l o := by
      obtain ⟨c,y,_,hop,_,hca,_⟩ := appSrc_op hat
      refine List.mem_append_left _ (List.mem_flatMap.2 ⟨.tmp t, ?_,List.mem_singleton.2 rfl⟩)
      rw [hop]
      simp only [Op.operands,Call.operands,Array.toList_append,List.mem_append]
      right
      rw [hca]
      exact .head _
     have hcl:CleanA t s := by
      rcases I2 z hz (z1 ▸ hi) with ⟨j,hj,p,hp,he⟩ | h
      ·exfalso
       rw [z2] at he
       by_cases q:j = i
       ·subst q
        rw [ho] at hp
        obtain rfl := Option.some.inj hp
        rw [hd] at he
        exact hdt (Option.some.inj he)
       ·exact (B j hj q p t hp he).1 htr
      ·have hna:isApp l z.1 = true := by
        unfold isApp
        rw [z1,ho]
        dsimp only
        rw [hat]
       unfold CleanZ at h
       rw [hna,z2] at h; exact h
     obtain ⟨k,ob,rfl,hom,g3,_⟩ := ap6 hat hd k6 hcl (I1 i hi o d ho hd) hdt hs
     refine ⟨g3,fun _ => ⟨fun j hj p e hp he => ?_,fun z' hz' hzL => ?_⟩⟩
     ·obtain ⟨hjL,hji⟩ := h1 j hj
      exact fresh_E hom ((B j hjL hji p e hp he).2 d hd) (I1 j hjL p e hp he)
     ·obtain ⟨hzL0,hzi⟩ := h1 _ hzL
      obtain ⟨c1,c2⟩ := C z' hz' hzL0 hzi
      have hdz:d ≠ z'.2 := by
       rcases c2 d hd with h | h
       ·exact h
       ·exfalso
        obtain ⟨c,y,_,hop,_,_,_⟩ := appSrc_op hat
        unfold mkOk at h
        rw [hop] at h
        cases w:isApp l z'.1 <;> (rw [w] at h; cases h)
      rcases I2 z' hz' hzL0 with ⟨j,hj,p,hp,he⟩ | h
      ·refine .inl ⟨j,h2 j hj (fun q => ?_),p,hp,he⟩
       subst q
       rw [ho] at hp
       obtain rfl := Option.some.inj hp
       rw [hd] at he
       exact hdz (Option.some.inj he)
      ·exact .inr (cleanZ_E hom hdz (fun q => c1 (q ▸ htr)) h)
  -- what makes
  have hmk:mkind true (kindOf E o) = true := by
   split at hk
   ·rename_i q; rw [q]; rfl
   ·rename_i q; rw [q]; rfl
   ·rename_i q; rw [q]; rfl
   ·rename_i q; exact absurd q k2
   ·rename_i q; exact absurd q k6
   ·cases hk
  obtain ⟨d,hd⟩:∃ d,o.dst = some d := by
   have hk0:kindOf E o = 0 ∨ kindOf E o = 1 ∨ kindOf E o = 4 := by
    unfold mkind at hmk
    split at hmk
    ·rename_i q; exact .inl q
    ·rename_i q; exact .inr (.inr q)
    ·rename_i q; exact .inr (.inl q)
    ·cases hmk
   cases hd:o.dst with
   | some d => exact ⟨d,rfl⟩
   | none =>
    exfalso
    unfold kindOf at hk0
    rw [hd] at hk0
    dsimp only at hk0
    rw [Bool.and_false] at hk0
    dsimp only [cond_false] at hk0
    cases q:noGuard o with
    | false => rw [q] at hk0; rcases hk0 with h | h | h <;> cases h
    | true =>
     rw [q] at hk0
     dsimp only [cond_true] at hk0
     split at hk0 <;> first | (rename_i w; cases w; done) | (rename_i w _; cases w; done) | (rcases hk0 with h | h | h <;> cases h)
  obtain ⟨v,ups,q,m,m2,rfl,m4,m5⟩ := mkind_cases hd hmk hs
  have hfd := I1 i hi o d ho hd
  refine ⟨m.m.step s (fun _ _ => rfl) (fun _ _ _ _ => rfl) (fun _ => hfd),fun _ => ⟨fun j hj p e hp he => ?_,fun z hz hzL => ?_⟩⟩
  ·obtain ⟨hjL,hji⟩ := h1 j hj
   obtain ⟨b1,b2⟩ := B j hjL hji p e hp he
   exact fresh_M m (b2 d hd) b1 (I1 j hjL p e hp he)
  ·obtain ⟨hzL0,hzi⟩ := h1 _ hzL
   obtain ⟨c1,c2⟩ := C z hz hzL0 hzi
   by_cases hdz:d = z.2
   ·rcases c2 d hd with h | h
    ·exact absurd hdz h
    ·refine .inr ?_
     have h1:isBS o.op = true ∨ isAlloc o.op = true := by
      unfold mkOk at h
      cases w:isApp l z.1 with
      | true => rw [w] at h; exact .inl h
      | false => rw [w] at h; exact .inr h
     have hv:vKind E.τ o = false := by
      unfold vKind
      rcases h1 with h1 | h1
      ·unfold isBS at h1
       split at h1
       ·rename_i w; rw [w]
       ·cases h1
      ·unfold isAlloc at h1
       split at h1
       ·rename_i w; rw [w]
       ·cases h1
     have hk1:kindOf E o = 1 := by
      unfold mkind at hmk
      split at hmk
      ·rename_i q
       exfalso
       unfold kindOf at q
       rw [hv,Bool.false_and,cond_false,hd] at q
       rcases h1 with h1 | h1
       ·unfold isBS at h1
        split at h1
        ·rename_i w; rw [w] at q; cases e:noGuard o <;> (rw [e] at q; cases q)
        ·cases h1
       ·unfold isAlloc at h1
        split at h1
        ·rename_i w; rw [w] at q; cases e:noGuard o <;> (rw [e] at q; cases q)
        ·cases h1
      ·rename_i q
       exfalso
       unfold kindOf at q
       rw [hv,Bool.false_and,cond_false,hd] at q
       rcases h1 with h1 | h1
       ·unfold isBS at h1
        split at h1
        ·rename_i w; rw [w] at q; cases e:noGuard o <;> (rw [e] at q; cases q)
        ·cases h1
       ·unfold isAlloc at h1
        split at h1
        ·rename_i w; rw [w] at q; cases e:noGuard o <;> (rw [e] at q; cases q)
        ·cases h1
      ·assumption
      ·cases hmk
     unfold CleanZ
     unfold mkOk at h
     cases w:isApp l z.1 with
     | true =>
      rw [w] at h
      obtain ⟨el,ty,xs,rfl,rfl⟩ := m5 h hk1
      dsimp only
      rw [← hdz]
      refine ⟨by rw [put_t,if_pos rfl],fun t ht => ?_,fun m x hx hm => ?_⟩
      ·rw [put_t,if_neg ht]
       exact hfd.1 t ht _ (Nat.beq_refl _)
      ·rcases over_o _ _ _ _ hx with h | ⟨_,h⟩
       ·have := Prod.mk.inj (List.mem_singleton.1 h)
        rw [this.2] at hm
        exact hm
       ·exact (hfd.2 m x h).2 [d,0] (Nat.beq_refl d) hm
     | false =>
      rw [w] at h
      obtain ⟨t,ht⟩:∃ t,o.op = .alloc t := by
       have h:isAlloc o.op = true := h
       unfold isAlloc at h
       split at h
       ·exact ⟨_,by assumption⟩
       ·cases h
      obtain ⟨zc,rfl,rfl,zm⟩ := m4 t ht hk1
      dsimp only
      rw [← hdz]
      refine ⟨by rw [put_t,if_pos rfl],fun t ht => ?_,fun m x hx hm => ?_⟩
      ·rw [put_t,if_neg ht]
       exact hfd.1 t ht _ (Nat.beq_refl _)
      ·rcases over_o _ _ _ _ hx with h | ⟨_,h⟩
       ·have := Prod.mk.inj (List.mem_singleton.1 h)
        rw [this.2] at hm
        exact zm _ hm
       ·exact (hfd.2 m x h).2 [d,0] (Nat.beq_refl d) hm
   ·rcases I2 z hz hzL0 with ⟨j,hj,p,hp,he⟩ | h
    ·refine .inl ⟨j,h2 j hj (fun q => ?_),p,hp,he⟩
     subst q
     rw [ho] at hp
     obtain rfl := Option.some.inj hp
     rw [hd] at he
     exact hdz (Option.some.inj he)
    ·exact .inr (cleanZ_M m hdz c1 h)
theorem swap6 {zs:List (Nat×Nat)} {L:List Nat} {s sa sb:St} {i j:Nat} {a b:Oper} (hI:Inv6 fr l zs L s) (hi:i ∈ L) (hj:j ∈ L) (ha:l[i]? = some a) (hb:l[j]? = some b) (hok:fr = true → okB E l (reachs l []) zs j = true)
  (hok2:fr = true → okB E l (reachs l []) zs i = true) (hfree2:∀ x ∈ L,memNat x ((reachs l []).getD i []) = false) (hfree:∀ x ∈ L,memNat x ((reachs l []).getD j []) = false) (hp:pairB E l (reachs l []) fr i j = true) (g1:stm fr E l a s = some sa) (g2:stm fr E l b sa = some sb) (hji:i ≠ j) :
  ∃ s1,stm fr E l b s = some s1 ∧ stm fr E l a s1 = some sb := by
 unfold pairB at hp
 rw [ha,hb] at hp
 dsimp only at hp
 rw [hfree i hi,Bool.false_or] at hp
 cases hda:a.dst with
 | none => rw [hda] at hp; cases hp
 | some da =>
  rw [hda] at hp
  dsimp only at hp
  rw [Bool.and_eq_true,Bool.and_eq_true,Bool.or_eq_true] at hp
  obtain ⟨k1,n1,hp⟩ := hp
  rcases k1 with k1 | k1
  case inr =>
   -- an append ahead of a maker
   rw [Bool.and_eq_true,Bool.and_eq_true] at k1
   obtain ⟨⟨hfr,k6⟩,he⟩ := k1
   subst hfr
   have k6 := Nat.eq_of_beq_eq_true k6
   obtain ⟨I1,I2⟩ := hI rfl
   unfold eats at he
   cases hat:appSrc a with
   | none => rw [hat] at he; cases he
   | some t =>
    rw [hat] at he
    dsimp only at he
    rw [Bool.and_eq_true] at he
    cases hdb:b.dst with
    | none => rw [hdb] at he; cases he.2
    | some db =>
     rw [hdb] at hp he
     dsimp only at hp he
     rw [Bool.and_eq_true,Bool.and_eq_true,Bool.or_eq_true] at hp
     obtain ⟨k2,n2,n3⟩ := hp
     have nt := memNat_no he.1
     have nt2 := beq_no he.2
     rcases k2 with k2 | k2
     case inr =>
      rw [Bool.and_eq_true,Bool.and_eq_true,Bool.and_eq_true,k6] at k2
      cases k2.2.1
     obtain ⟨hdt,hcl⟩ := app_clean hI hi ha (hok2 rfl) hfree2 hat hda k6
     obtain ⟨k,ob,rfl,hom,_,g5⟩ := ap6 hat hda k6 hcl (I1 i hi a da ha hda) hdt g1
     obtain ⟨vb,ub,qb,mb,mb2,rfl,_⟩ := mkind_cases hdb k2 g2
     have fb := I1 j hj b db hb hdb
     have est:∀ x ∈ rds l b,(eat t k da ob s).t x = s.t x := fun x hx => eat_t (fun q => memNat_no n1 (q ▸ hx)) (fun q => nt (q ▸ hx))
     have eso:∀ x ∈ rds l b, ∀ n,AMent (s.t x) n → s.o n = (eat t k da ob s).o n := fun x hx n hn => by
      have q1:n ≠ [da,0] := fun q => (I1 i hi a da ha hda).1 x (fun q => memNat_no n1 (q ▸ hx)) n (by rw [q]; exact Nat.beq_refl da) hn
      have q2:n ≠ [t,0] := fun q => hcl.2.1 x (fun q => nt (q ▸ hx)) (by rw [← q]; exact hn)
      show s.o n = (if n = [da,0] then some ob else if n = [t,0] then none else s.o n)
      rw [if_neg q1,if_neg q2]
     have eb:stm true E l b s = some ((s.over ub).put (some db) vb) := mb.stm s (fun x hx => (est x hx).symm) (fun x hx n hn => by
      rw [est x hx] at hn
      exact eso x hx n hn) (fun _ => fb)
     refine ⟨_,eb, ?_⟩
     have hub := mb.m.hd
     have hdb1:db ≠ da := Ne.symm (beq_no n2)
     have mb0:Mk6 true E l b qb s db vb ub := ⟨⟨mb.m.dst,fun s' g1 g2 g3 => mb.m.step s' (fun x hx => (g1 x hx).trans (est x hx).symm) (fun x hx n hn => by
       rw [est x hx] at hn
       rw [g2 x hx n hn]; exact eso x hx n hn) g3,hub,fun n hn => by
        rcases mb.m.ment n hn with h | ⟨x,hx,h⟩ | ⟨x,hx,m,y,q1,q2,q3⟩
        ·exact .inl h
        ·rw [est x hx] at h; exact .inr (.inl ⟨x,hx,h⟩)
        ·rw [est x hx] at q1
         rw [← eso x hx m q1] at q2
         exact .inr (.inr ⟨x,hx,m,y,q1,q2,q3⟩)⟩,fun s' g1 g2 g3 => mb.stm s' (fun x hx => (g1 x hx).trans (est x hx).symm) (fun x hx n hn => by
       rw [est x hx] at hn
       rw [g2 x hx n hn]; exact eso x hx n hn) g3⟩
     rw [g5 _ (fun x hx => by rw [put_t,if_neg (fun (q:x = db) => memNat_no n3 (q ▸ hx))]; rfl) (fun x hx n hn => (over_no (fun p hp e => fb.1 x (fun q => memNat_no n3 (q ▸ hx)) n (by rw [← e]; exact hub p hp) hn)).2) (cleanA_M mb0 nt2 nt hcl) (fresh_M mb0 hdb1 (memNat_no n1) (I1 i hi a da ha hda))]
     rw [eat_M hub hdb1 nt2]
  obtain ⟨va,ua,qa,ma,ma2,rfl,_⟩ := mkind_cases hda k1 g1
  cases hdb:b.dst with
  | some db =>
   rw [hdb] at hp
   dsimp only at hp
   rw [Bool.and_eq_true,Bool.and_eq_true,Bool.or_eq_true] at hp
   obtain ⟨k2,n2,n3⟩ := hp
   rcases k2 with k2 | k2
   case inr =>
    -- a maker ahead of an append
    rw [Bool.and_eq_true,Bool.and_eq_true,Bool.and_eq_true] at k2
    obtain ⟨⟨hfr,k6⟩,_,he⟩ := k2
    subst hfr
    have k6 := Nat.eq_of_beq_eq_true k6
    obtain ⟨I1,I2⟩ := hI rfl
    unfold eats at he
    cases hat:appSrc b with
    | none => rw [hat] at he; cases he
    | some t =>
     rw [hat,hda] at he
     dsimp only at he
     rw [Bool.and_eq_true] at he
     have nt := memNat_no he.1
     have nt2 := beq_no he.2
     have fa := I1 i hi a da ha hda
     have fb := I1 j hj b db hb hdb
     obtain ⟨hdt,hcl⟩ := app_clean hI hj hb (hok rfl) hfree hat hdb k6
     have hua := ma.m.hd
     have hab := beq_no n2
     obtain ⟨k,ob,rfl,hom,_,g5⟩ := ap6 hat hdb k6 (cleanA_M ma nt2 nt hcl) (fresh_M ma hab (memNat_no n3) fb) hdt g2
     have est:∀ x ∈ rds l b,s.t x = ((s.over ua).put (some da) va).t x := fun x hx => by rw [put_t,if_neg (fun (q:x = da) => memNat_no n1 (q ▸ hx))]; rfl
     refine ⟨_,g5 s est (fun x hx n hn => by
      rw [← est x hx] at hn
      exact (over_no (fun p hp e => fa.1 x (fun q => memNat_no n1 (q ▸ hx)) n (by rw [← e]; exact hua p hp) hn)).2.symm) hcl fb, ?_⟩
     rw [ma.stm (eat t k db ob s) (fun x hx => eat_t (fun (q:x = db) => memNat_no n3 (q ▸ hx)) (fun (q:x = t) => nt (q ▸ hx))) (fun x hx n hn => by
      have q1:n ≠ [db,0] := fun q => fb.1 x (fun q => memNat_no n3 (q ▸ hx)) n (by rw [q]; exact Nat.beq_refl db) hn
      have q2:n ≠ [t,0] := fun q => hcl.2.1 x (fun q => nt (q ▸ hx)) (by rw [← q]; exact hn)
      show (if n = [db,0] then some ob else if n = [t,0] then none else s.o n) = s.o n
      rw [if_neg q1,if_neg q2]) (fun _ => fresh_E hom (Ne.symm hab) fa)]
     rw [eat_M hua hab nt2]
   obtain ⟨vb,ub,qb,mb,mb2,rfl,_⟩ := mkind_cases hdb k2 g2
   refine ⟨_,swap_MM ma mb (beq_no n2) (memNat_no n1) (memNat_no n3) ?_⟩
   cases fr with
   | true =>
    obtain ⟨I1,_⟩ := hI rfl
    exact .inr ⟨I1 i hi a da ha hda,I1 j hj b db hb hdb⟩
   | false =>
    have no1:∀ {k:Nat},mkind false k = true → k ≠ 1 := fun h q => by rw [q] at h; cases h
    obtain ⟨x1,x2⟩ := ma2 (no1 k1)
    obtain ⟨y1,y2⟩ := mb2 (no1 k2)
    exact .inl ⟨x2,y2,x1,y1⟩
  | none =>
   rw [hdb] at hp
   dsimp only at hp
   rw [Bool.and_eq_true] at hp
   obtain ⟨hfr,hp⟩ := hp
   subst hfr
   cases hss:storeSlot b with
   | none => rw [hss] at hp; cases hp
   | some z =>
    rw [hss] at hp
    dsimp only at hp
    rw [Bool.and_eq_true,Bool.and_eq_true] at hp
    obtain ⟨k2,n2,n3⟩ := hp
    have k2 := Nat.eq_of_beq_eq_true k2
    have hg:b.guard = none := kind_guard (E := E) (o := b) (by omega) (by omega)
    obtain ⟨I1,I2⟩ := hI rfl
    have hzr:z ∈ rds l b := by
     unfold storeSlot at hss
     split at hss
     ·rename_i T x y _ hop
      obtain rfl := Option.some.inj hss
      exact List.mem_append_left _ (List.mem_flatMap.2 ⟨.tmp x,by rw [hop]; simp [Op.operands],List.mem_singleton.2 rfl⟩)
     ·cases hss
    have hcl:Clean z s := by
     have hok := hok rfl
     unfold okB at hok
     rw [hb] at hok
     dsimp only at hok
     rw [Bool.and_eq_true,Bool.and_eq_true,k2] at hok
     obtain ⟨h1,h2,_⟩ := hok
     have h1:(match storeSlot b with | some d => zs.any (fun z => Nat.beq z.1 j && Nat.beq z.2 d) | none => false) = true := h1
     rw [hss] at h1
     dsimp only at h1
     rw [List.any_eq_true] at h1
     obtain ⟨w,hw,hwe⟩ := h1
     rw [Bool.and_eq_true] at hwe
     have w1 := Nat.eq_of_beq_eq_true hwe.1
     have w2 := Nat.eq_of_beq_eq_true hwe.2
     rcases I2 w hw (w1 ▸ hj) with ⟨x,hx,p,hp,he⟩ | h
     ·exfalso
      have hxl:x < l.length := (List.getElem?_eq_some_iff.1 hp).1
      have := List.all_eq_true.1 h2 x (List.mem_range.2 hxl)
      by_cases q:x = j
      ·subst q
       rw [hb] at hp
       obtain rfl := Option.some.inj hp
       rw [hdb] at he; cases he
      ·rw [beq_ne q,hp] at this
       dsimp only at this
       rw [he] at this
       dsimp only at this
       rw [Bool.false_or,Bool.and_eq_true,hfree x hx,Bool.false_or,w2] at this
       exact memNat_no this.1 hzr
     ·have hna:isApp l w.1 = false := by
       unfold isApp
       rw [w1,hb]
       dsimp only
       cases v:appSrc b with
       | none => rfl
       | some t =>
        obtain ⟨_,_,_,_,_,_,v2⟩ := appSrc_op v
        rw [hdb] at v2; cases v2
      unfold CleanZ at h
      rw [hna,w2] at h; exact h
    exact swap_MS ma hss hg k2 hcl (I1 i hi a da ha hda) (beq_no n2) (memNat_no n3) (memNat_no n1) g2
theorem opsOf_cons (l:List Oper) {i:Nat} {o:Oper} (ho:l[i]? = some o) (L:List Nat):opsOf l (i :: L) = o :: opsOf l L := by
 unfold opsOf
 rw [List.filterMap_cons,ho]
def lastB (E:Env) (l:List Oper) (rs:List (List Nat)) (j:Nat):Bool := (match l[j]? with
 | some o => !Nat.beq (kindOf E o) 1 && !Nat.beq (kindOf E o) 4
 | none => false) && (List.range l.length).all (fun x => Nat.beq x j || memNat x (rs.getD j []))
structure Ord6 (fr:Bool) (E:Env) (l:List Oper) (zs:List (Nat×Nat)) (L:List Nat):Prop where
 nd:L.Nodup
 lt:∀ j ∈ L,j < l.length
 pr:pairsOk (pairB E l (reachs l []) fr) L = true
 or:pairsOk (ordB l) L = true
 ok:fr = true → ∀ j ∈ L,(okB E l (reachs l []) zs j || lastB E l (reachs l []) j) = true
 down:∀ j o,j ∉ L → l[j]? = some o → ∀ a ∈ afters o,a ∉ L
theorem pairsOk_del {R:Nat → Nat → Bool}:∀ {pre post:List Nat} {i:Nat},pairsOk R (pre ++ i :: post) = true → pairsOk R (pre ++ post) = true ∧ (∀ x ∈ pre,R x i = true) ∧ ∀ x ∈ post,R i x = true
 | [],post,i,h => by
  have h:(post.all (R i) && pairsOk R post) = true := h
  rw [Bool.and_eq_true] at h
  exact ⟨h.2,fun x hx => (by cases hx),fun x hx => List.all_eq_true.1 h.1 x hx⟩
 | y :: pre,post,i,h => by
  have h:((pre ++ i :: post).all (R y) && pairsOk R (pre ++ i :: post)) = true := h
  rw [Bool.and_eq_true] at h
  obtain ⟨g1,g2,g3⟩ := pairsOk_del h.2
  have ha := List.all_eq_true.1 h.1
  refine ⟨?_,fun x hx => ?_,g3⟩
  ·show ((pre ++ post).all (R y) && pairsOk R (pre ++ post)) = true
   rw [Bool.and_eq_true]
   refine ⟨List.all_eq_true.2 fun x hx => ha x ?_,g1⟩
   rcases List.mem_append.1 hx with q | q
   ·exact List.mem_append_left _ q
   ·exact List.mem_append_right _ (List.mem_cons_of_mem _ q)
  ·rcases List.mem_cons.1 hx with rfl | hx
   ·exact ha i (List.mem_append_right _ (List.mem_cons_self ..))
   ·exact g2 x hx
theorem Ord6.del {zs:List (Nat×Nat)} {pre post:List Nat} {i:Nat} (h:Ord6 fr E l zs (pre ++ i :: post)) (hfree:∀ o,l[i]? = some o → ∀ a ∈ afters o,a ∉ pre ++ i :: post):Ord6 fr E l zs (pre ++ post) ∧ (∀ j,j ∈ pre ++ post ↔ j ∈ pre ++ i :: post ∧ j ≠ i) := by
 have mem:∀ j,j ∈ pre ++ post ↔ j ∈ pre ++ i :: post ∧ j ≠ i := by
  have hnd := (List.perm_middle (a := i) (l₁ := pre) (l₂ := post)).nodup_iff.1 h.nd
  have hi := (List.nodup_cons.1 hnd).1
  intro j
  rw [List.mem_append,List.mem_append,List.mem_cons]
  constructor
  ·intro q
   refine ⟨q.imp id .inr,fun e => ?_⟩
   subst e
   exact hi (List.mem_append.2 q)
  ·rintro ⟨q,hne⟩
   rcases q with q | q | q
   ·exact .inl q
   ·exact absurd q hne
   ·exact .inr q
 refine ⟨⟨?_,fun j hj => h.lt j ((mem j).1 hj).1,(pairsOk_del h.pr).1,(pairsOk_del h.or).1,fun e j hj => h.ok e j ((mem j).1 hj).1,fun j o hj ho a ha q => ?_⟩,mem⟩
 ·have hnd := (List.perm_middle (a := i) (l₁ := pre) (l₂ := post)).nodup_iff.1 h.nd
  exact (List.nodup_cons.1 hnd).2
 ·have q := ((mem a).1 q).1
  by_cases e:j = i
  ·subst e; exact hfree o ho a ha q
  ·exact h.down j o (fun w => hj ((mem j).2 ⟨w,e⟩)) ho a ha q
theorem Ord6.reach {zs:List (Nat×Nat)} {L:List Nat} (h:Ord6 fr E l zs L) {i:Nat} {o:Oper} (ho:l[i]? = some o) (hfree:∀ a ∈ afters o,a ∉ L):∀ x ∈ L,memNat x ((reachs l []).getD i []) = false := by
 intro x hx
 cases q:memNat x ((reachs l []).getD i []) with
 | false => rfl
 | true => exact absurd hx (reach_listed (l := l) (D := fun j => j ∉ L) h.down i ho hfree (memNat_iff.1 q))
theorem Ord6.head {zs:List (Nat×Nat)} {L:List Nat} {i:Nat} {o:Oper} (h:Ord6 fr E l zs (i :: L)) (ho:l[i]? = some o) (hna:i ∉ afters o):∀ a ∈ afters o,a ∉ i :: L := by
 intro a ha hm
 rcases List.mem_cons.1 hm with rfl | hm
 ·exact hna ha
 ·have := (pairsOk_del (pre := []) h.or).2.2 a hm
  unfold ordB at this
  rw [ho] at this
  exact memNat_no this ha
theorem last_all {i x:Nat} (h:lastB E l (reachs l []) i = true) (hx:x < l.length) (hne:x ≠ i):memNat x ((reachs l []).getD i []) = true := by
 unfold lastB at h
 rw [Bool.and_eq_true] at h
 have := List.all_eq_true.1 h.2 x (List.mem_range.2 hx)
 rw [beq_ne hne,Bool.false_or] at this
 exact this
theorem Ord6.okx {zs:List (Nat×Nat)} {L:List Nat} (h:Ord6 fr E l zs L) {i x:Nat} (e:fr = true) (hi:i ∈ L) (hx:x ∈ L) (hne:x ≠ i) (hf:∀ y ∈ L,memNat y ((reachs l []).getD i []) = false):okB E l (reachs l []) zs i = true := by
 have := h.ok e i hi
 rw [Bool.or_eq_true] at this
 rcases this with q | q
 ·exact q
 ·have := last_all q (h.lt x hx) hne
  rw [hf x hx] at this
  cases this
theorem bubble6 {zs:List (Nat×Nat)} (hself:∀ j o,l[j]? = some o → j ∉ afters o) {post:List Nat} {i:Nat} {b:Oper} (hb:l[i]? = some b):∀ {pre:List Nat} {s y:St},Ord6 fr E l zs (pre ++ i :: post) → Inv6 fr l zs (pre ++ i :: post) s → (∀ a ∈ afters b,a ∉ pre ++ i :: post) →
  runM fr E l (opsOf l (pre ++ i :: post)) s = some y → runM fr E l (opsOf l (i :: (pre ++ post))) s = some y
 | [],s,y,_,_,_,h => h
 | x :: pre,s,y,ho,hI,hf,h => by
  obtain ⟨a,ha⟩:∃ a,l[x]? = some a := ⟨_,List.getElem?_eq_getElem (ho.lt x (List.mem_cons_self ..))⟩
  rw [List.cons_append,opsOf_cons l ha] at h
  have h:(stm fr E l a s).bind (runM fr E l (opsOf l (pre ++ i :: post))) = some y := h
  obtain ⟨sa,g1,g2⟩ := Option.bind_eq_some_iff.1 h
  have hfa := ho.head ha (hself x a ha)
  obtain ⟨o2,mem2⟩ := Ord6.del (pre := []) ho (fun o e => by rw [ha] at e; obtain rfl := Option.some.inj e; exact hfa)
  have hI2:Inv6 fr l zs (pre ++ i :: post) sa := by
   cases fr with
   | false => intro e; cases e
   | true => exact (inv6 hI (List.mem_cons_self ..) ha (ho.okx rfl (List.mem_cons_self ..) (x := i) (List.mem_append_right _ (List.mem_cons_self ..)) (fun e => (List.nodup_cons.1 ho.nd).1 (by rw [← e]; exact List.mem_append_right _ (List.mem_cons_self ..))) (ho.reach ha hfa)) (ho.reach ha hfa) ho.lt g1 (fun j hj => (mem2 j).1 hj) (fun j hj hne => (mem2 j).2 ⟨hj,hne⟩)).2
  have h3 := bubble6 hself hb (pre := pre) o2 hI2 (fun a ha q => hf a ha (List.mem_cons_of_mem _ q)) g2
  rw [opsOf_cons l hb] at h3
  have h3:(stm fr E l b sa).bind (runM fr E l (opsOf l (pre ++ post))) = some y := h3
  obtain ⟨sb,g4,g5⟩ := Option.bind_eq_some_iff.1 h3
  have him:i ∈ (x :: pre) ++ i :: post := List.mem_append_right _ (List.mem_cons_self ..)
  have hxi:x ≠ i := fun e => by
   subst e
   exact (List.nodup_cons.1 ho.nd).1 (List.mem_append_right _ (List.mem_cons_self ..))
  obtain ⟨s1,g6,g7⟩ := swap6 hI (List.mem_cons_self ..) him ha hb (fun e => ho.okx e him (List.mem_cons_self ..) hxi (ho.reach hb hf)) (fun e => ho.okx e (List.mem_cons_self ..) him (Ne.symm hxi) (ho.reach ha hfa)) (ho.reach ha hfa) (ho.reach hb hf) ((pairsOk_del (pre := x :: pre) ho.pr).2.1 x (List.mem_cons_self ..)) g1 g4 hxi
  rw [opsOf_cons l hb,List.cons_append,opsOf_cons l ha]
  show (stm fr E l b s).bind (fun t => (stm fr E l a t).bind (runM fr E l (opsOf l (pre ++ post)))) = some y
  rw [g6,Option.bind_some,g7,Option.bind_some]
  exact g5
theorem exts6 {zs:List (Nat×Nat)} (hself:∀ j o,l[j]? = some o → j ∉ afters o) (hst:fr = false → ∀ (o:Oper) (s s1:St),o ∈ l → stm fr E l o s = some s1 → stg E l o s = some s1):∀ (n:Nat) (rem L:List Nat) (s y:St),Ord6 fr E l zs L → (∀ i,i ∈ L ↔ i ∈ rem) → L.length = n → Inv6 fr l zs L s → runM fr E l (opsOf l L) s = some y → ∀ π ∈ extsN l n rem,runG E l (opsOf l π) s = some y
 | 0,rem,L,s,y,_,_,hl,_,h,π,hπ => by
  obtain rfl := List.eq_nil_of_length_eq_zero hl
  obtain rfl := List.mem_singleton.1 hπ
  exact h
 | n + 1,rem,L,s,y,ho,hm,hl,hI,h,π,hπ => by
  obtain ⟨i,hi,hπ⟩ := List.mem_flatMap.1 hπ
  cases hf:freeOf l rem i with
  | false => rw [hf] at hπ; cases hπ
  | true =>
   rw [hf] at hπ
   obtain ⟨π',hπ',rfl⟩ := List.mem_map.1 hπ
   obtain ⟨pre,post,rfl⟩ := List.append_of_mem ((hm i).2 hi)
   obtain ⟨b,hb⟩:∃ b,l[i]? = some b := ⟨_,List.getElem?_eq_getElem (ho.lt i ((hm i).2 hi))⟩
   have hfr:∀ a ∈ afters b,a ∉ pre ++ i :: post := fun a ha q => by
    unfold freeOf at hf
    rw [hb] at hf
    have := List.all_eq_true.1 hf a ha
    exact memNat_no this ((hm a).1 q)
   have h2 := bubble6 hself hb ho hI hfr h
   rw [opsOf_cons l hb] at h2
   have h2:(stm fr E l b s).bind (runM fr E l (opsOf l (pre ++ post))) = some y := h2
   obtain ⟨s1,g1,g2⟩ := Option.bind_eq_some_iff.1 h2
   obtain ⟨o2,mem2⟩ := Ord6.del ho (fun o e => by rw [hb] at e; obtain rfl := Option.some.inj e; exact hfr)
   have him:i ∈ pre ++ i :: post := List.mem_append_right _ (List.mem_cons_self ..)
   have both:stg E l b s = some s1 ∧ Inv6 fr l zs (pre ++ post) s1 := by
    cases fr with
    | false => exact ⟨hst rfl b s s1 (List.mem_of_getElem? hb) g1,fun e => by cases e⟩
    | true =>
     have hq := ho.ok rfl i him
     rw [Bool.or_eq_true] at hq
     rcases hq with hq | hq
     ·exact inv6 hI him hb hq (ho.reach hb hfr) ho.lt g1 (fun j hj => (mem2 j).1 hj) (fun j hj hne => (mem2 j).2 ⟨hj,hne⟩)
     ·have hn:∀ j,j ∉ pre ++ post := fun j hj => by
       obtain ⟨q1,q2⟩ := (mem2 j).1 hj
       have := last_all hq (ho.lt j q1) q2
       rw [ho.reach hb hfr j q1] at this
       cases this
      have hk:kindOf E b ≠ 1 ∧ kindOf E b ≠ 4 := by
       unfold lastB at hq
       rw [hb] at hq
       dsimp only at hq
       rw [Bool.and_eq_true,Bool.and_eq_true] at hq
       refine ⟨fun e => ?_,fun e => ?_⟩
       ·rw [e] at hq; cases hq.1.1
       ·rw [e] at hq; cases hq.1.2
      rw [stm_stg ⟨fun e => absurd e hk.1,hk.2⟩] at g1
      exact ⟨g1,fun _ => ⟨fun j hj => absurd hj (hn j),fun z _ hz => absurd hz (hn z.1)⟩⟩
   have ih := exts6 hself hst n (remNat i rem) (pre ++ post) s1 y o2 (fun j => by rw [mem2,remNat_mem,hm]) (by simp at hl ⊢; omega) both.2 g2 π' hπ'
   rw [opsOf_cons l hb]
   show (stg E l b s).bind (runG E l (opsOf l π')) = some y
   rw [both.1,Option.bind_some]
   exact ih
end
def mentC (p:Nm → Bool):CV → Bool
 | .own m => p m
 | .pb m _ => p m
 | .pa m _ _ _ => p m
 | .clo _ cs => cs.any (fun q => p q.1)
 | .mp m => p m
 | _ => false
def mentV (p:Nm → Bool):AV → Bool
 | .c x => mentC p x
 | .g cs => cs.any (mentC p)
 | .tup l => l.any (fun q => q.2.any (mentC p))
def mentO (p:Nm → Bool):Ob → Bool
 | .box cs => cs.any (mentC p)
 | _ => false
theorem mentC_of {p:Nm → Bool} {n:Nm} (hp:p n = true) {c:CV} (h:Ment c n):mentC p c = true := by
 cases c with
 | own m => obtain rfl:m = n := h; exact hp
 | pb m k => obtain rfl:m = n := h; exact hp
 | pa m z i j => obtain rfl:m = n := h; exact hp
 | mp m => obtain rfl:m = n := h; exact hp
 | clo f cs => obtain ⟨q,hq,rfl⟩ := h; exact List.any_eq_true.2 ⟨q,hq,hp⟩
 | _ => exact h.elim
theorem mentCs_of {p:Nm → Bool} {n:Nm} (hp:p n = true) {cs:List CV} (h:CMent cs n):cs.any (mentC p) = true := by
 obtain ⟨c,hc,hm⟩ := h
 exact List.any_eq_true.2 ⟨c,hc,mentC_of hp hm⟩
theorem mentV_of {p:Nm → Bool} {n:Nm} (hp:p n = true) {v:AV} (h:AMent v n):mentV p v = true := by
 cases v with
 | c x => exact mentC_of hp h
 | g cs => exact mentCs_of hp h
 | tup l =>
  obtain ⟨q,hq,hm⟩ := h
  exact List.any_eq_true.2 ⟨q,hq,mentCs_of hp hm⟩
theorem mentO_of {p:Nm → Bool} {n:Nm} (hp:p n = true) {x:Ob} (h:OMent x n):mentO p x = true := by
 cases x with
 | box cs => exact mentCs_of hp h
 | _ => exact h.elim
def freshB (d:Nat) (vs:List (Nat×AV)) (bs:List (Nm×Ob)):Bool :=
 vs.all (fun q => Nat.beq q.1 d || !mentV (headed d) q.2) && bs.all (fun q => !headed d q.1 && !mentO (headed d) q.2)
def cleanB (d:Nat) (vs:List (Nat×AV)) (bs:List (Nm×Ob)):Bool :=
 (match look vs d with | .c (.pb n 0) => Nm.eqb n [d,0] | _ => false) && (vs.all (fun q => Nat.beq q.1 d || !mentV (Nm.eqb [d,0]) q.2) && bs.all (fun q => !mentO (Nm.eqb [d,0]) q.2))
def cleanAB (d:Nat) (vs:List (Nat×AV)) (bs:List (Nm×Ob)):Bool :=
 (match look vs d with | .c (.own n) => Nm.eqb n [d,0] | _ => false) && (vs.all (fun q => Nat.beq q.1 d || !mentV (Nm.eqb [d,0]) q.2) && bs.all (fun q => !mentO (Nm.eqb [d,0]) q.2))
def startB (l:List Oper) (zs:List (Nat×Nat)) (L:List Nat) (vs:List (Nat×AV)) (bs:List (Nm×Ob)):Bool :=
 L.all (fun i => match l[i]? with
  | some o => (match o.dst with | some d => freshB d vs bs | none => true)
  | none => true) && zs.all (fun z => L.any (fun i => match l[i]? with
  | some o => (match o.dst with | some d => Nat.beq d z.2 | none => false)
  | none => false) || bif isApp l z.1 then cleanAB z.2 vs bs else cleanB z.2 vs bs)
theorem look_in:∀ {vs:List (Nat×AV)} {t:Nat},look vs t = .c .dead ∨ ∃ q ∈ vs,q.1 = t ∧ q.2 = look vs t
 | [],t => .inl rfl
 | p :: r,t => by
  show (bif Nat.beq p.1 t then p.2 else look r t) = _ ∨ ∃ q ∈ p :: r,q.1 = t ∧ q.2 = (bif Nat.beq p.1 t then p.2 else look r t)
  cases w:Nat.beq p.1 t with
  | true => exact .inr ⟨p,List.mem_cons_self ..,Nat.eq_of_beq_eq_true w,rfl⟩
  | false =>
   rcases look_in (vs := r) (t := t) with h | ⟨q,hq,h1,h2⟩
   ·exact .inl h
   ·exact .inr ⟨q,List.mem_cons_of_mem _ hq,h1,h2⟩
theorem not_true {b:Bool} (h:(!b) = true):b ≠ true := by cases b <;> simp_all
theorem freshB_of {d:Nat} {es:List En} {ds:List DV} (h:freshB d (mkVs es ds) (mkBs es ds) = true):Fresh d (mkD es ds) := by
 unfold freshB at h
 rw [Bool.and_eq_true] at h
 refine ⟨fun t ht n hn hm => ?_,fun m x hx => ?_⟩
 ·have hm:AMent (look (mkVs es ds) t) n := hm
  rcases look_in (vs := mkVs es ds) (t := t) with q | ⟨q,hq,h1,h2⟩
  ·rw [q] at hm; exact hm
  ·have := List.all_eq_true.1 h.1 q hq
   rw [h1,beq_ne ht,Bool.false_or,h2] at this
   exact not_true this (mentV_of hn hm)
 ·have := List.all_eq_true.1 h.2 (m,x) (lookO_in hx)
  rw [Bool.and_eq_true] at this
  refine ⟨?_,fun n hn hm => not_true this.2 (mentO_of hn hm)⟩
  cases w:headed d m with
  | false => rfl
  | true => exact absurd w (not_true this.1)
theorem cleanB_of {d:Nat} {es:List En} {ds:List DV} (h:cleanB d (mkVs es ds) (mkBs es ds) = true):Clean d (mkD es ds) := by
 unfold cleanB at h
 rw [Bool.and_eq_true,Bool.and_eq_true] at h
 have self:Nm.eqb [d,0] [d,0] = true := eqb_iff.2 rfl
 refine ⟨?_,fun t ht hm => ?_,fun m x hx hm => ?_⟩
 ·show look (mkVs es ds) d = _
  have h1 := h.1
  split at h1
  ·rename_i n e
   rw [e,eqb_iff.1 h1]
  ·cases h1
 ·have hm:AMent (look (mkVs es ds) t) [d,0] := hm
  rcases look_in (vs := mkVs es ds) (t := t) with q | ⟨q,hq,h1,h2⟩
  ·rw [q] at hm; exact hm
  ·have := List.all_eq_true.1 h.2.1 q hq
   rw [h1,beq_ne ht,Bool.false_or,h2] at this
   exact not_true this (mentV_of self hm)
 ·exact not_true (List.all_eq_true.1 h.2.2 (m,x) (lookO_in hx)) (mentO_of self hm)
theorem cleanAB_of {d:Nat} {es:List En} {ds:List DV} (h:cleanAB d (mkVs es ds) (mkBs es ds) = true):CleanA d (mkD es ds) := by
 unfold cleanAB at h
 rw [Bool.and_eq_true,Bool.and_eq_true] at h
 have self:Nm.eqb [d,0] [d,0] = true := eqb_iff.2 rfl
 refine ⟨?_,fun t ht hm => ?_,fun m x hx hm => ?_⟩
 ·show look (mkVs es ds) d = _
  have h1 := h.1
  split at h1
  ·rename_i n e
   rw [e,eqb_iff.1 h1]
  ·cases h1
 ·have hm:AMent (look (mkVs es ds) t) [d,0] := hm
  rcases look_in (vs := mkVs es ds) (t := t) with q | ⟨q,hq,h1,h2⟩
  ·rw [q] at hm; exact hm
  ·have := List.all_eq_true.1 h.2.1 q hq
   rw [h1,beq_ne ht,Bool.false_or,h2] at this
   exact not_true this (mentV_of self hm)
 ·exact not_true (List.all_eq_true.1 h.2.2 (m,x) (lookO_in hx)) (mentO_of self hm)
theorem start_of {l:List Oper} {zs:List (Nat×Nat)} {L:List Nat} {es:List En} {ds:List DV} (h:startB l zs L (mkVs es ds) (mkBs es ds) = true) {fr:Bool}:Inv6 fr l zs L (mkD es ds) := fun _ => by
 unfold startB at h
 rw [Bool.and_eq_true] at h
 refine ⟨fun i hi o d ho hd => ?_,fun z hz _ => ?_⟩
 ·have := List.all_eq_true.1 h.1 i hi
  rw [ho] at this
  dsimp only at this
  rw [hd] at this
  exact freshB_of this
 ·have := List.all_eq_true.1 h.2 z hz
  rw [Bool.or_eq_true] at this
  refine this.imp (fun w => ?_) (fun w => by
   unfold CleanZ
   cases q:isApp l z.1 with
   | true => rw [q] at w; exact cleanAB_of w
   | false => rw [q] at w; exact cleanB_of w)
  rw [List.any_eq_true] at w
  obtain ⟨i,hi,w⟩ := w
  cases ho:l[i]? with
  | none => rw [ho] at w; cases w
  | some o =>
   rw [ho] at w
   dsimp only at w
   cases hd:o.dst with
   | none => rw [hd] at w; cases w
   | some d =>
    rw [hd] at w
    exact ⟨i,hi,o,ho,by rw [hd,Nat.eq_of_beq_eq_true w]⟩
theorem exts_all6 {R:Type} {E:Env} {l:List Oper} (fr:Bool) (zs:List (Nat×Nat)) (L:List Nat) (hb:(L.all (fun i => Nat.blt i l.length) && (List.range l.length).all (fun i => memNat i L)) = true) (hnd:L.Nodup) (ha:aftOk l = true)
  (hp:pairsOk (pairB E l (reachs l []) fr) L = true) (ho:pairsOk (ordB l) L = true) (hok:(!fr || L.all (fun j => okB E l (reachs l []) zs j || lastB E l (reachs l []) j)) = true) {es:List En} {x:TD (entys es)} (hs:(!fr || startB l zs L (mkVs es (unpack _ x)) (mkBs es (unpack _ x))) = true)
  {k:St → Option R} {y:R} (h:opsmK fr E l (opsOf l L) (mkSt es x) k = some y):∀ π ∈ exts l,opsK E l (opsOf l π) (mkSt es x) k = some y := by
 rw [Bool.and_eq_true] at hb
 have hm:∀ i,i ∈ L ↔ i ∈ List.range l.length := fun i => ⟨fun hi => List.mem_range.2 (Nat.le_of_ble_eq_true (List.all_eq_true.1 hb.1 i hi)),fun hi => memNat_iff.1 (List.all_eq_true.1 hb.2 i hi)⟩
 have hlen:L.length = l.length := by
  have:L.Perm (List.range l.length) := (List.perm_ext_iff_of_nodup hnd List.nodup_range).2 hm
  rw [this.length_eq,List.length_range]
 have hself:∀ j o,l[j]? = some o → j ∉ afters o := fun j o hj q => by
  have := aft_of ha j o hj j q
  omega
 rw [opsmK_run] at h
 obtain ⟨s1,h1,h2⟩ := Option.bind_eq_some_iff.1 h
 intro π hπ
 have hI:Inv6 fr l zs L (mkSt es x) := by
  cases fr with
  | false => intro e; cases e
  | true => exact start_of hs
 have hst:fr = false → ∀ (o:Oper) (s s1:St),o ∈ l → stm fr E l o s = some s1 → stg E l o s = some s1 := fun e o s s1 _ hq => by
  subst e
  by_cases k4:kindOf E o = 4
  ·cases hd:o.dst with
   | none =>
    exfalso
    unfold kindOf at k4
    rw [hd] at k4
    dsimp only at k4
    rw [Bool.and_false] at k4
    dsimp only [cond_false] at k4
    cases q:noGuard o with
    | false => rw [q] at k4; cases k4
    | true =>
     rw [q] at k4
     dsimp only [cond_true] at k4
     split at k4 <;> first | (rename_i w; cases w; done) | (rename_i w _; cases w; done) | cases k4
   | some d =>
    obtain ⟨v,ups,q,m,m2,rfl,_⟩ := mk6_M (.inr k4) hd hq
    exact m.m.step s (fun _ _ => rfl) (fun _ _ _ _ => rfl) (fun w => by rw [(m2 k4).1] at w; cases w)
  ·rw [stm_stg ⟨fun _ => rfl,k4⟩] at hq
   exact hq
 have := exts6 hself hst l.length (List.range l.length) L (mkSt es x) s1 ⟨hnd,fun j hj => List.mem_range.1 ((hm j).1 hj),hp,ho,fun e j hj => by
  subst e
  exact List.all_eq_true.1 hok j hj,fun j o hj hjo a ha2 q => by
   have:j < l.length := (List.getElem?_eq_some_iff.1 hjo).1
   exact hj ((hm j).2 (List.mem_range.2 this))⟩ hm hlen hI h1 π hπ
 rw [opsK_runG,this]
 exact h2
def isC (E:Env) (o:Oper):Bool := noGuard o && (match o.op,o.dst with
 | .call { callee := .value (.func f), .. },some d => (match E.Γ f d with
  | some S => !S.pars.all noBox
  | none => false)
 | _,_ => false)
abbrev WL := List (Nat×List Nm)
def wkey (o:Oper):Nat := match o.dst with
 | some d => d
 | none => (match storeSlot o with | some a => a + 1000000 | none => 0)
def wAt (k:Nat):WL → List Nm
 | [] => []
 | p :: r => bif Nat.beq p.1 k then p.2 else wAt k r
def wOf (W:WL) (o:Oper):List Nm := wAt (wkey o) W
def wAll (W:WL):List Nm := W.flatMap Prod.snd
def isS (W:WL) (o:Oper):Bool := noGuard o && ((match storeSlot o with | some _ => true | none => false) && W.any fun q => Nat.beq q.1 (wkey o))
def isW (W:WL) (E:Env) (o:Oper):Bool := isC E o || isS W o
section
variable {W:WL} {T:List (Nat×Nm)} {E:Env} {l:List Oper} {o:Oper} {s s1:St}
def vslots (o:Oper):List Nat := match o.op with
 | .store _ _ x => tmpOf x
 | _ => []
def pk (W:WL) (E:Env) (o:Oper):Bool := !isW W E o && (Nat.beq (kindOf E o) 0 || Nat.beq (kindOf E o) 4)
def mvB (o:Oper):Bool := noGuard o && (match o.op with
 | .move _ => true
 | .assign _ => true
 | _ => false)
def ldB (o:Oper):Bool := noGuard o && (match o.op with
 | .load _ _ => true
 | _ => false)
def memT (t:Nat) (n:Nm) (T:List (Nat×Nm)):Bool := T.any fun q => Nat.beq q.1 t && Nm.eqb q.2 n
def clear (ns:List Nm) (T:List (Nat×Nm)) (l:List Oper) (o:Oper):Bool := mvB o || (rds l o).all fun t => ns.all fun n => !memT t n T
def ndst (d:Option Nat) (l:List Nat):Bool := match d with
 | some d => !memNat d l
 | none => true
def dne:Option Nat → Option Nat → Bool
 | some d,some e => !Nat.beq d e
 | _,_ => true
def pair7 (E:Env) (l:List Oper) (W:WL) (T:List (Nat×Nm)) (rs:List (List Nat)) (i j:Nat):Bool := match l[i]?,l[j]? with
 | some a,some b => memNat i (rs.getD j []) || (ndst a.dst (rds l b) && (dne a.dst b.dst && (ndst b.dst (rds l a) && ((pk W E a && pk W E b) || ((pk W E a && (isW W E b && clear (wOf W b) T l a)) || (isW W E a && (pk W E b && clear (wOf W a) T l b)))))))
 | _,_ => false
def ok7 (E:Env) (l:List Oper) (W:WL) (T:List (Nat×Nm)) (rs:List (List Nat)) (i:Nat):Bool := match l[i]? with
 | none => false
 | some o => (isW W E o || pk W E o) && ((List.range l.length).all (fun j => Nat.beq j i || (match l[j]? with
    | some p => !isW W E p || (match p.dst with
     | some e => (memNat j (rs.getD i []) || !memNat e (rds l o)) && (dne o.dst (some e) && (wAll W).all (fun n => !headed e n))
     | none => true)
    | none => true)) && (match o.dst with
   | some d => (isW W E o || (ldB o || (rds l o).all (fun t => (wAll W).all fun n => !memT t n T || memT d n T))) && (wAll W).all (fun n => !headed d n)
   | none => isW W E o) && (vslots o).all (fun t => (wAll W).all fun n => !memT t n T))
def last7 (W:WL) (E:Env) (l:List Oper) (rs:List (List Nat)) (j:Nat):Bool := (match l[j]? with
 | some o => !isW W E o && !Nat.beq (kindOf E o) 4
 | none => false) && (List.range l.length).all (fun x => Nat.beq x j || memNat x (rs.getD j []))
structure Ord7 (E:Env) (W:WL) (T:List (Nat×Nm)) (l:List Oper) (L:List Nat):Prop where
 nd:L.Nodup
 lt:∀ j ∈ L,j < l.length
 pr:pairsOk (pair7 E l W T (reachs l [])) L = true
 or:pairsOk (ordB l) L = true
 ok:∀ j ∈ L,(ok7 E l W T (reachs l []) j || last7 W E l (reachs l []) j) = true
 down:∀ j o,j ∉ L → l[j]? = some o → ∀ a ∈ afters o,a ∉ L
theorem Ord7.del {pre post:List Nat} {i:Nat} (h:Ord7 E W T l (pre ++ i :: post)) (hfree:∀ o,l[i]? = some o → ∀ a ∈ afters o,a ∉ pre ++ i :: post):Ord7 E W T l (pre ++ post) ∧ (∀ j,j ∈ pre ++ post ↔ j ∈ pre ++ i :: post ∧ j ≠ i) := by
 have mem:∀ j,j ∈ pre ++ post ↔ j ∈ pre ++ i :: post ∧ j ≠ i := by
  have hnd := (List.perm_middle (a := i) (l₁ := pre) (l₂ := post)).nodup_iff.1 h.nd
  have hi := (List.nodup_cons.1 hnd).1
  intro j
  rw [List.mem_append,List.mem_append,List.mem_cons]
  constructor
  ·intro q
   refine ⟨q.imp id .inr,fun e => ?_⟩
   subst e
   exact hi (List.mem_append.2 q)
  ·rintro ⟨q,hne⟩
   rcases q with q | q | q
   ·exact .inl q
   ·exact absurd q hne
   ·exact .inr q
 refine ⟨⟨?_,fun j hj => h.lt j ((mem j).1 hj).1,(pairsOk_del h.pr).1,(pairsOk_del h.or).1,fun j hj => h.ok j ((mem j).1 hj).1,fun j o hj ho a ha q => ?_⟩,mem⟩
 ·have hnd := (List.perm_middle (a := i) (l₁ := pre) (l₂ := post)).nodup_iff.1 h.nd
  exact (List.nodup_cons.1 hnd).2
 ·have q := ((mem a).1 q).1
  by_cases e:j = i
  ·subst e; exact hfree o ho a ha q
  ·exact h.down j o (fun w => hj ((mem j).2 ⟨w,e⟩)) ho a ha q
theorem Ord7.reach {L:List Nat} (h:Ord7 E W T l L) {i:Nat} {o:Oper} (ho:l[i]? = some o) (hfree:∀ a ∈ afters o,a ∉ L):∀ x ∈ L,memNat x ((reachs l []).getD i []) = false := by
 intro x hx
 cases q:memNat x ((reachs l []).getD i []) with
 | false => rfl
 | true => exact absurd hx (reach_listed (l := l) (D := fun j => j ∉ L) h.down i ho hfree (memNat_iff.1 q))
theorem Ord7.head {L:List Nat} {i:Nat} {o:Oper} (h:Ord7 E W T l (i :: L)) (ho:l[i]? = some o) (hna:i ∉ afters o):∀ a ∈ afters o,a ∉ i :: L := by
 intro a ha hm
 rcases List.mem_cons.1 hm with rfl | hm
 ·exact hna ha
 ·have := (pairsOk_del (pre := []) h.or).2.2 a hm
  unfold ordB at this
  rw [ho] at this
  exact memNat_no this ha
theorem last7_all {i x:Nat} (h:last7 W E l (reachs l []) i = true) (hx:x < l.length) (hne:x ≠ i):memNat x ((reachs l []).getD i []) = true := by
 unfold last7 at h
 rw [Bool.and_eq_true] at h
 have := List.all_eq_true.1 h.2 x (List.mem_range.2 hx)
 rw [beq_ne hne,Bool.false_or] at this
 exact this
theorem Ord7.okx {L:List Nat} (h:Ord7 E W T l L) {i x:Nat} (hi:i ∈ L) (hx:x ∈ L) (hne:x ≠ i) (hf:∀ y ∈ L,memNat y ((reachs l []).getD i []) = false):ok7 E l W T (reachs l []) i = true := by
 have := h.ok i hi
 rw [Bool.or_eq_true] at this
 rcases this with q | q
 ·exact q
 ·have := last7_all q (h.lt x hx) hne
  rw [hf x hx] at this
  cases this
end
end AM
end Go.Proofs.YtobpcllkonomlabGreatDoor
namespace Go.Proofs.YtobpcllkonomlabGreatDoor
namespace AM
open Go
set_option linter.unusedSimpArgs false
set_option linter.unusedVariables false
section
variable {E:Env} {l:List Oper}
end
section
variable {P:Program} {X:Ctx} {L:Nm → Value} {I:Nat → Prop} {s:St} {a:Act} {w:World} {R:Type}
def ExIs:Ex → Exit → Prop
 | .normal, .normal => True
 | .exit i, .exit j => i = j
 | .ret, .ret => True
 | _,_ => False
def PostX (X:Ctx) (L:Nm → Value) (k:Ex → St → Option R) (y:R) (e:Exit) (a:Act) (w:World):Prop :=
 ∃ x s' L' I',ExIs x e ∧ Rel X L' I' s' a w ∧ (∀ n,kept n = true → L' n = L n) ∧ k x s' = some y
def RegOk (E:Env) (id:Nat) (ops:Array Oper):Prop := ∀ S,E.Ω id = some S → aftOk ops.toList = true ∧ ∀ x y,S.g x = some y → ∀ π ∈ exts ops.toList,opsK E ops.toList (opsOf ops.toList π) (mkSt S.ent x) (fun s' => getEns E.N S.out s') = some y
def LoopsOk (E:Env):Code → Prop
 | .region id ops _ => RegOk E id ops
 | .seq a b => LoopsOk E a ∧ LoopsOk E b
 | .cond _ a b => LoopsOk E a ∧ LoopsOk E b
 | .block _ c => LoopsOk E c
 | .loop c => LoopsOk E c ∧ ∀ S,E.Λ (key c) = some S → ∃ f:Nat → TD (entys S.ent) → Option (EX S.exs),(∀ x,f 0 x = none) ∧ (∃ n,S.g = f n) ∧ ∀ n x,f (n + 1) x = runL E c S (f n) x
 | _ => True
theorem eqbX {x y:Ex} (h:Ex.eqb x y = true):x = y := by
 cases x <;> cases y <;> first | rfl | (cases h; done) | exact congrArg Ex.exit (Nat.eq_of_beq_eq_true h)
theorem exIn_sound {N:Nat}:∀ {l:List (Ex×List En)} {x:Ex} {s:St} {y:EX l},exIn N l x s = some y → ∃ es, ∃ z:TD (entys es),getEns N es s = some z ∧ ∀ (R:Type) (k:Ex → St → Option R),exOut l y k = k x (mkSt es z)
 | [],_,_,_,h => by cases h
 | [e],x,s,y,h => by
  unfold exIn at h
  cases q:Ex.eqb e.1 x with
  | false => rw [q] at h; cases h
  | true =>
   rw [q] at h
   have := eqbX q
   exact ⟨e.2,y,h,fun R k => by show k e.1 _ = _; rw [this]⟩
 | e :: f :: r,x,s,y,h => by
  unfold exIn at h
  cases q:Ex.eqb e.1 x with
  | false =>
   rw [q] at h
   simp only [cond_false] at h
   split at h
   ·rename_i y' e1
    obtain rfl := Option.some.inj h
    obtain ⟨es,z,g1,g2⟩ := exIn_sound e1
    exact ⟨es,z,g1,fun R k => g2 R k⟩
   ·cases h
  | true =>
   rw [q] at h
   simp only [cond_true] at h
   split at h
   ·rename_i y' e1
    obtain rfl := Option.some.inj h
    exact ⟨e.2,y',e1,fun R k => by show k e.1 _ = _; rw [eqbX q]⟩
   ·cases h
theorem getEns_sound (h:Rel X L I s a w) {es:List En} {x:TD (entys es)} (e:getEns X.N es s = some x):∃ L' I',Rel X L' I' (mkSt es x) a w ∧ ∀ n,kept n = true → L' n = L n := by
 obtain ⟨L',I',h1,_,h2⟩ := shut_sound h e (us := es.map fun e => a.tmps.getD e.slot undef) (by
  clear e x
  induction es with
  | nil => trivial
  | cons en es ih => exact ⟨h.slot en.slot,ih⟩) (a' := a) h.defers h.size (fun i en u z1 z2 => by
   rw [List.getElem?_map,z1] at z2
   exact Option.some.inj z2)
 exact ⟨L',I',h1,h2⟩
theorem PostX.trans {k:Ex → St → Option R} {y:R} {L1:Nm → Value} {e:Exit} (hk:∀ n,kept n = true → L1 n = L n) (h:PostX X L1 k y e a w):PostX X L k y e a w := by
 obtain ⟨x,s',L',I',h1,h2,h3,h4⟩ := h
 exact ⟨x,s',L',I',h1,h2,fun n hn => (h3 n hn).trans (hk n hn),h4⟩
theorem draw_sound {E:Env} (hE:EnvOk P X.K E) (hN:E.N = X.N) (h:Rel X L I s a w) {id:Nat} {ops:Array Oper} (hr:RegOk E id ops) {k:Ex → St → Option R} {y:R} (e:exec E (.region id ops true) s k = some y) :
  (Code.region id ops true).wp P (PostX X L k y) a w := by
 simp only [exec] at e
 cases q:drawOk ops.toList (plains E ops.toList) with
 | false =>
  rw [q] at e
  simp only [cond_false] at e
  unfold exReg at e
  split at e
  ·rename_i S hS
   split at e
   ·rename_i x hx
    split at e
    ·rename_i z hz
     obtain ⟨ha,hall⟩ := hr S hS
     have hall := hall x z hz
     rw [hN] at hx
     obtain ⟨L1,I1,h1,hk1⟩ := getEns_sound h hx
     refine wp_region_any hE.mo ?_
     have hg:Rel X L1 I1 (mkSt S.ent x) a { w with drawn := w.drawn + 1 } := h1.grows (Step.drew _ w)
     have := draw_enum (L := L) (k := fun s' => getEns E.N S.out s') (y := z) (Q := PostX X L k y) (l := ops.toList) hE hN (aft_of ha) (fun a' w' hp => by
      obtain ⟨s',L',I',r1,r2,r3⟩ := hp
      rw [hN] at r3
      obtain ⟨L2,I2,h2,hk2⟩ := getEns_sound r1 r3
      exact ⟨.normal,_,L2,I2,trivial,h2,fun n hn => (hk2 n hn).trans (r2 n hn),e⟩) ops.toList.length (List.range ops.toList.length) (Array.replicate ops.size false) (by simp) ⟨by simp,fun i hi => List.mem_range.1 hi,List.nodup_range,fun i hi => by
       have hi':i < ops.size := by simpa using hi
       simp [hi']⟩ hg hk1 hall
     rw [Array.length_toList] at this
     exact this
    ·cases e
   ·cases e
  ·cases e
 | true =>
  rw [q] at e
  simp only [cond_true] at e
  refine wp_region_any hE.mo ?_
  have hg:Rel X L I s a { w with drawn := w.drawn + 1 } := h.grows (Step.drew _ w)
  have hle := plains_le E ops.toList
  obtain ⟨hl,hlen⟩ := left_start hle q
  have := draw_any (L := L) (k := k .normal) (y := y) (Q := PostX X L k y) (l := ops.toList) hE hN (fun a' w' hp => by
   obtain ⟨s',L',I',r1,r2,r3⟩ := hp
   exact ⟨.normal,s',L',I',trivial,r1,r2,r3⟩) ops.size (plainIdx ops.toList (plains E ops.toList)) (tailIdx ops.toList (plains E ops.toList)) (Array.replicate ops.size false) (by
    rw [hlen,Array.length_toList]) (by rw [← Array.length_toList]; exact hl) hg (fun _ _ => rfl) e
  exact this
theorem exec_sound {E:Env} (hE:EnvOk P X.K E) (hN:E.N = X.N):∀ (c:Code),LoopsOk E c → ∀ {R:Type} {k:Ex → St → Option R} {y:R} {L:Nm → Value} {I:Nat → Prop} {s:St} {a:Act} {w:World},Rel X L I s a w → exec E c s k = some y →
  c.wp P (PostX X L k y) a w := by
 intro c
 induction c with
 | skip => intro _ R k y L I s a w h e; exact wp_skip ⟨.normal,s,L,I,trivial,h,fun _ _ => rfl,e⟩
 | exit id => intro _ R k y L I s a w h e; exact wp_exit ⟨.exit id,s,L,I,rfl,h,fun _ _ => rfl,e⟩
 | ret => intro _ R k y L I s a w h e; exact wp_ret ⟨.ret,s,L,I,trivial,h,fun _ _ => rfl,e⟩
 | region id ops draw =>
  intro hl R k y L I s a w h e
  cases draw with
  | true => exact draw_sound hE hN h hl e
  | false =>
   refine wp_region_list ?_
   refine opsK_sound (L := L) (k := k .normal) (y := y) (all := ops.toList) hE hN (fun a' w' hp => ?_) h (fun _ _ => rfl) e
   obtain ⟨s',L',I',r1,r2,r3⟩ := hp
   exact ⟨.normal,s',L',I',trivial,r1,r2,r3⟩
 | seq x z ihx ihz =>
  intro hl R k y L I s a w h e
  refine wp_seq (Go.wp_mono (ihx hl.1 h e) fun en a' w' hp => ?_)
  obtain ⟨x',s',L',I',h1,r1,r2,r3⟩ := hp
  cases x' with
  | normal =>
   cases en <;> try exact h1.elim
   exact Go.wp_mono (ihz hl.2 r1 r3) fun _ _ _ q => PostX.trans r2 q
  | exit i =>
   cases en <;> try exact h1.elim
   exact ⟨.exit i,s',L',I',h1,r1,r2,r3⟩
  | ret =>
   cases en <;> try exact h1.elim
   exact ⟨.ret,s',L',I',h1,r1,r2,r3⟩
 | cond c x z ihx ihz =>
  intro hl R k y L I s a w h e
  simp only [exec] at e
  split at e
  ·rename_i b hb
   have hv := h.ev c
   rw [isTmp_eq hb] at hv
   have hv:a.eval c = .bool b := List.head_eq_of_cons_eq hv
   cases b with
   | true => simp only [know_eq hb] at e; exact wp_cond_true hv (ihx hl.1 h e)
   | false => simp only [know_eq hb] at e; exact wp_cond_false hv (ihz hl.2 h e)
  ·cases e
 | block id c ih =>
  intro hl R k y L I s a w h e
  refine wp_block (Go.wp_mono (ih hl h e) fun en a' w' hp => ?_)
  obtain ⟨x',s',L',I',h1,r1,r2,r3⟩ := hp
  cases x' with
  | normal =>
   cases en <;> try exact h1.elim
   exact ⟨.normal,s',L',I',trivial,r1,r2,r3⟩
  | exit i =>
   cases en with
   | exit j =>
    obtain rfl:i = j := h1
    dsimp only at r3
    show if i = id then PostX X L k y .normal a' w' else PostX X L k y (.exit i) a' w'
    cases q:Nat.beq i id with
    | true =>
     rw [q] at r3
     rw [if_pos (Nat.eq_of_beq_eq_true q)]
     exact ⟨.normal,s',L',I',trivial,r1,r2,r3⟩
    | false =>
     rw [q] at r3
     rw [if_neg (Nat.ne_of_beq_eq_false q)]
     exact ⟨.exit i,s',L',I',rfl,r1,r2,r3⟩
   | _ => exact h1.elim
  | ret =>
   cases en <;> try exact h1.elim
   exact ⟨.ret,s',L',I',trivial,r1,r2,r3⟩
 | loop c ih =>
  intro hl R k y L I s a w h e
  simp only [exec] at e
  split at e
  ·rename_i S hS
   split at e
   ·rename_i x hx
    split at e
    ·rename_i z hz
     obtain ⟨f,f0,⟨n,hn⟩,fs⟩ := hl.2 S hS
     rw [hn] at hz
     rw [hN] at hx
     obtain ⟨L1,I1,h1,hk1⟩ := getEns_sound h hx
     refine wp_loop_rounds n ?_
     have main:∀ n x,f n x = some z → ∀ {L1:Nm → Value} {I1:Nat → Prop} {a:Act} {w:World},Rel X L1 I1 (mkSt S.ent x) a w → (∀ n,kept n = true → L1 n = L n) → Code.rounds P c (PostX X L k y) n a w := by
      intro n
      induction n with
      | zero => intro x hx; rw [f0] at hx; cases hx
      | succ n ihn =>
       intro x hx L1 I1 a w h1 hk1
       rw [fs] at hx
       rw [rounds_succ]
       refine Go.wp_mono (ih hl.1 h1 hx) fun en a' w' hp => ?_
       obtain ⟨x',s',L',I',g1,r1,r2,r3⟩ := hp
       have ends:∀ {ex:Ex},ExIs ex en → exIn E.N S.exs ex s' = some z → PostX X L k y en a' w' := by
        intro ex g1 r3
        obtain ⟨es,z',g2,g3⟩ := exIn_sound r3
        rw [hN] at g2
        obtain ⟨L2,I2,h2,hk2⟩ := getEns_sound r1 g2
        refine ⟨ex,_,L2,I2,g1,h2,fun n hn => (hk2 n hn).trans ((r2 n hn).trans (hk1 n hn)), ?_⟩
        rw [← g3 R k]; exact e
       cases x' with
       | normal =>
        cases en <;> try exact g1.elim
        dsimp only at r3
        split at r3
        ·rename_i x2 hx2
         rw [hN] at hx2
         obtain ⟨L2,I2,h2,hk2⟩ := getEns_sound r1 hx2
         exact ihn x2 r3 h2 (fun n hn => (hk2 n hn).trans ((r2 n hn).trans (hk1 n hn)))
        ·cases r3
       | exit i =>
        cases en <;> try exact g1.elim
        exact ends (ex := .exit i) g1 r3
       | ret =>
        cases en <;> try exact g1.elim
        exact ends (ex := .ret) g1 r3
     exact main n x hz h1 hk1
    ·cases e
   ·cases e
  ·cases e
 | _ => intro _ R k y L I s a w h e; cases e
end
section
variable {P:Program} {X:Ctx} {L:Nm → Value} {I:Nat → Prop} {s:St} {a:Act} {w:World}
theorem Rel.extend (h:Rel X L I s a w) {N r:Nat} (hr:r ≤ X.N) (hN:r ≤ N):Rel { X with N := N } L I (s.cut r) { tmps := first r a.tmps ++ Array.replicate (N - (first r a.tmps).size) undef,defers := [] } w := by
 have hs := h.size
 have hfs:(first r a.tmps).size = r := by unfold first; simp; omega
 refine ⟨rfl, ?_,fun i hi => ?_,fun i hi => ?_,h.obj,h.sep,h.own,h.imm,h.sub,h.step,h.glob⟩
 ·show (first r a.tmps ++ Array.replicate (N - (first r a.tmps).size) undef).size = N
  simp [hfs]; omega
 ·by_cases q:i < r
  ·have e1:(s.cut r).t i = s.t i := by
    show (bif Nat.blt i r then s.t i else .c .dead) = _
    rw [show Nat.blt i r = true from Nat.ble_eq_true_of_le q]; rfl
   have e2:(first r a.tmps ++ Array.replicate (N - (first r a.tmps).size) undef).getD i undef = a.tmps.getD i undef := by
    rw [Array.getD_eq_getD_getElem?,Array.getD_eq_getD_getElem?,Array.getElem?_append_left (by rw [hfs]; exact q)]
    unfold first
    rw [List.getElem?_toArray,List.getElem?_take,if_pos q]
    simp
   rw [e1,e2]; exact h.tmp i (by omega)
  ·have e1:(s.cut r).t i = .c .dead := by
    show (bif Nat.blt i r then s.t i else .c .dead) = _
    rw [show Nat.blt i r = false from by cases z:Nat.blt i r with | false => rfl | true => exact absurd (Nat.le_of_ble_eq_true z) q]; rfl
   rw [e1]; trivial
 ·have hi:N ≤ i := hi
  show (bif Nat.blt i r then s.t i else .c .dead) = _
  rw [show Nat.blt i r = false from by cases z:Nat.blt i r with | false => rfl | true => exact absurd (Nat.le_of_ble_eq_true z) (by show ¬ (i < r); omega)]; rfl
def readVar (a:Act):ResultVar → Sem Value
 | .tmp t => pure (a.tmps.getD t undef)
 | .cell b t => do loadVar t (← asAddr (a.tmps.getD b undef))
theorem resVar_sound (h:Rel X L I s a w) {τ:Tab} (hτ:TabOk P τ) {v:ResultVar} {x:AV} (e:resVar τ s v = some x) :
  ∃ u,(readVar a v).run P w = .ok u w ∧ RA L I w (AL s.o) x u := by
 cases v with
 | tmp t => obtain rfl := Option.some.inj e; exact ⟨_,by simp [readVar],h.slot t⟩
 | cell b t =>
  simp only [resVar] at e
  split at e
  ·rename_i ti p e1 e2
   have r := h.slot b
   rw [e2] at r
   obtain ⟨b',off,vs,e4,hl,hc,hr,h1⟩ := loadCells_sound h e r
   refine ⟨_, ?_,hr⟩
   have := run_loadVar' (P := P) (hτ t ti e1) hl hc h1
   show (do loadVar t (← asAddr (a.tmps.getD b undef))).run P w = _
   rw [e4]
   simp [asAddr,this,Result.andThen]
  ·cases e
theorem resVars_sound (h:Rel X L I s a w) {τ:Tab} (hτ:TabOk P τ):∀ {vs:List ResultVar} {xs:List AV},resVars τ s vs = some xs →
  ∃ us,(vs.mapM (readVar a)).run P w = .ok us w ∧ All2 (RA L I w (AL s.o)) xs us
 | [],_,e => by obtain rfl := Option.some.inj e; exact ⟨[],by simp,trivial⟩
 | v :: vs,_,e => by
  simp only [resVars] at e
  split at e
  ·rename_i x xs e1 e2
   obtain rfl := Option.some.inj e
   obtain ⟨u,g1,g2⟩ := resVar_sound h hτ e1
   obtain ⟨us,g3,g4⟩ := resVars_sound h hτ e2
   exact ⟨u :: us,by simp [List.mapM_cons,g1,g3,Result.andThen],g2,g4⟩
  ·cases e
theorem resVars_len {τ:Tab}:∀ {vs:List ResultVar} {xs:List AV},resVars τ s vs = some xs → xs.length = vs.length
 | [],_,e => by obtain rfl := Option.some.inj e; rfl
 | v :: vs,_,e => by
  simp only [resVars] at e
  split at e
  ·rename_i x xs e1 e2
   obtain rfl := Option.some.inj e
   simp [resVars_len e2]
  ·cases e
theorem run_results {fn:Func} {us:List Value} (h:(fn.results.toList.mapM (readVar a)).run P w = .ok us w) :
  (results fn a.tmps).run P w = .ok (if h:us.toArray.size = 1 then us.toArray[0] else .tuple us.toArray) w := by
 show (do
  let vs ← fn.results.mapM (readVar a)
  pure (if h:vs.size = 1 then vs[0] else Value.tuple vs)).run P w = _
 rw [Array.mapM_eq_mapM_toList]
 simp [h,Result.andThen]
def outVals (f:Nat → Value):Nat → List Par → List Value
 | _,[] => []
 | i, .c (.b _ _) :: r => f i :: outVals f (i + 1) r
 | i, .p _ :: r => f i :: outVals f (i + 1) r
 | i, .h _ :: r => f i :: outVals f (i + 1) r
 | i,_ :: r => outVals f (i + 1) r
theorem keptCs_sound {L':Nm → Value} {I':Nat → Prop} {w':World} {A A':Nm → Option (Nat×Nat)} (hk:∀ n,kept n = true → L' n = L n):∀ {cs:List CV} {us:List Value},cs.all keptC = true → All2 (RC L I w A) cs us → All2 (RC L' I' w' A') cs us
 | [],[],_,_ => trivial
 | [],_ :: _,_,r => r.elim
 | _ :: _,[],_,r => r.elim
 | c :: cs,u :: us,q,r => by
  rw [List.all_cons,Bool.and_eq_true] at q
  refine ⟨?_,keptCs_sound hk q.2 r.2⟩
  have q := q.1
  have r := r.1
  cases c with
  | own n =>
   obtain ⟨x1,x2,x3,r1,r2⟩ := r
   exact ⟨x1,x2,x3,r1,by rw [hk n q]; exact r2⟩
  | v ty x => exact Rep.plain ty (by simpa [keptC] using q) r
  | _ => cases q
theorem outAVs_sound {L':Nm → Value} {I':Nat → Prop} {w':World} {A A':Nm → Option (Nat×Nat)} {f:Nat → AV} {g:Nat → Value} (h:∀ i,RA L I w A (f i) (g i)) (hk:∀ n,kept n = true → L' n = L n):∀ {ps:List Par} {k:Nat} {l:List AV},
  outAVs f k ps = some l → All2 (RA L' I' w' A') l (outVals g k ps)
 | [],_,_,e => by obtain rfl := Option.some.inj e; trivial
 | p :: ps,k,_,e => by
  simp only [outAVs] at e
  split at e
  ·rename_i l e1
   have ih := outAVs_sound (L' := L') (I' := I') (w' := w') (A' := A') h hk e1
   have one:keptAV (f k) = true → RA L' I' w' A' (f k) (g k) := by
    intro q
    have r := h k
    unfold keptAV at q
    split at q
    ·rename_i n o en
     rw [en] at r ⊢
     obtain ⟨b,off,r1,r2⟩ := r
     exact ⟨b,off,by rw [hk n q]; exact r1,r2⟩
    ·rename_i n en
     rw [en] at r ⊢
     obtain ⟨x1,x2,x3,r1,r2⟩ := r
     exact ⟨x1,x2,x3,r1,by rw [hk n q]; exact r2⟩
    ·rename_i cs en
     rw [en] at r ⊢
     obtain ⟨vs,r1,r⟩ := r
     exact ⟨vs,r1,keptCs_sound hk q r⟩
    ·cases q
   have two:∀ {l2:List AV},(bif keptAV (f k) then some (f k :: l) else none) = some l2 → All2 (RA L' I' w' A') l2 (g k :: outVals g (k + 1) ps) := by
    intro l2 e
    cases q:keptAV (f k) with
    | false => rw [q] at e; cases e
    | true => rw [q] at e; obtain rfl := Option.some.inj e; exact ⟨one q,ih⟩
   cases p with
   | c q =>
    cases q with
    | i t => obtain rfl := Option.some.inj e; exact ih
    | o _ t => obtain rfl := Option.some.inj e; exact ih
    | b _ t => exact two e
    | q _ _ => obtain rfl := Option.some.inj e; exact ih
    | m _ _ _ => obtain rfl := Option.some.inj e; exact ih
    | f _ _ => obtain rfl := Option.some.inj e; exact ih
    | e => obtain rfl := Option.some.inj e; exact ih
    | l => obtain rfl := Option.some.inj e; exact ih
   | g ps' => obtain rfl := Option.some.inj e; exact ih
   | p ps' => exact two e
   | h ps' => exact two e
  ·cases e
theorem outEns_get {g:Nat → Value}:∀ {ps:List Par} {k i:Nat} {e:En} {u:Value},(outEns k ps)[i]? = some e → (outVals g k ps)[i]? = some u → u = g e.slot ∧ e.slot < k + ps.length
 | [],_,_,_,_,h,_ => by cases h
 | p :: ps,k,i,e,u,h,h' => by
  have rest:(outEns (k + 1) ps)[i]? = some e → (outVals g (k + 1) ps)[i]? = some u → u = g e.slot ∧ e.slot < k + (ps.length + 1) := fun h h' => by
   obtain ⟨g1,g2⟩ := outEns_get h h'; exact ⟨g1,by omega⟩
  have cons:∀ {en:En},en.slot = k → (en :: outEns (k + 1) ps)[i]? = some e → (g k :: outVals g (k + 1) ps)[i]? = some u → u = g e.slot ∧ e.slot < k + (ps.length + 1) := by
   intro en he h h'
   cases i with
   | zero => obtain rfl := Option.some.inj h; obtain rfl := Option.some.inj h'; exact ⟨by rw [he],by omega⟩
   | succ i => obtain ⟨g1,g2⟩ := outEns_get (i := i) h h'; exact ⟨g1,by omega⟩
  cases p with
  | c q =>
   cases q with
   | i t => exact rest h h'
   | o _ t => exact rest h h'
   | b _ t => exact cons rfl h h'
   | q _ _ => exact rest h h'
   | m _ _ _ => exact rest h h'
   | f _ _ => exact rest h h'
   | e => exact rest h h'
   | l => exact rest h h'
  | g ps' => exact rest h h'
  | p ps' => exact cons rfl h h'
  | h ps' => exact cons rfl h h'
theorem outEns_len {g:Nat → Value}:∀ (ps:List Par) (k:Nat),(outEns k ps).length = (outVals g k ps).length
 | [],_ => rfl
 | p :: ps,k => by
  cases p with
  | c q => cases q <;> simp [outEns,outVals,outEns_len (g := g) ps (k + 1)]
  | g ps' => simp [outEns,outVals,outEns_len (g := g) ps (k + 1)]
  | p ps' => simp [outEns,outVals,outEns_len (g := g) ps (k + 1)]
  | h ps' => simp [outEns,outVals,outEns_len (g := g) ps (k + 1)]
theorem resEns_get:∀ {rs:List (Bool×List PS)} {k i:Nat} {e:En},(resEns k rs)[i]? = some e → e.slot = k + i
 | [],_,_,_,h => by cases h
 | (b,ps) :: rs,k,0,e,h => by
  obtain rfl := Option.some.inj (show some (resEn k b ps) = some e from h)
  cases b <;> (cases ps <;> rfl)
 | (b,ps) :: rs,k,i + 1,e,h => by
  have h:(resEns (k + 1) rs)[i]? = some e := h
  rw [resEns_get h]; omega
theorem resEns_len:∀ (rs:List (Bool×List PS)) (k:Nat),(resEns k rs).length = rs.length
 | [],_ => rfl
 | (b,ps) :: rs,k => by simp [resEns,resEns_len rs]
theorem nbEns_get:∀ {rs:List (Nat×Nm×List PS)} {k i:Nat} {e:En},(nbEns k rs)[i]? = some e → e.slot = k + i
 | [],_,_,_,h => by cases h
 | p :: rs,k,0,e,h => by obtain rfl := Option.some.inj h; rfl
 | p :: rs,k,i + 1,e,h => by
  have h:(nbEns (k + 1) rs)[i]? = some e := h
  rw [nbEns_get h]; omega
theorem RA.getD {A:Nm → Option (Nat×Nat)} {xs:List AV} {us:List Value} (h:All2 (RA L I w A) xs us) (i:Nat):RA L I w A (xs.getD i (.c .dead)) (us.getD i undef) := by
 rw [List.getD_eq_getElem?_getD,List.getD_eq_getElem?_getD]
 cases e:xs[i]? with
 | none => exact trivial
 | some x => obtain ⟨u,e2,r⟩ := h.get e; rw [e2]; exact r
theorem nb_sound {A:Nm → Option (Nat×Nat)} {xs:List AV} {us:List Value} (h:All2 (RA L I w A) xs us):∀ nb:List (Nat×Nm×List PS),All2 (RA L I w A) (nb.map fun p => xs.getD p.1 (.c .dead)) (nb.map fun p => us.getD p.1 undef)
 | [] => trivial
 | p :: nb => ⟨RA.getD h p.1,nb_sound h nb⟩
theorem resV_eq {a'':Act} {np:Nat} {us:List Value} (h:∀ j u,us[j]? = some u → a''.tmps.getD (np + j) undef = u):(if h:us.toArray.size = 1 then us.toArray[0] else .tuple us.toArray) = resV a'' np us.length := by
 match us with
 | [u] => rw [dif_pos (show #[u].size = 1 from rfl)]; exact (h 0 u rfl).symm
 | [] => simp [resV]
 | u :: v :: r =>
  have:∀ l:List Value,(∀ j u,l[j]? = some u → a''.tmps.getD (np + j) undef = u) → (List.range l.length).map (fun j => a''.tmps.getD (np + j) undef) = l := by
   intro l hl
   apply List.ext_getElem?
   intro i
   rw [List.getElem?_map]
   rcases Nat.lt_or_ge i l.length with q | q
   ·rw [List.getElem?_range q]
    exact (congrArg some (hl i _ (List.getElem?_eq_getElem q))).trans (List.getElem?_eq_getElem q).symm
   ·rw [List.getElem?_eq_none (by simpa using q),List.getElem?_eq_none q]; rfl
  have := this _ h
  rw [dif_neg (by simp)]
  show _ = Value.tuple ((List.range (u :: v :: r).length).map fun j => a''.tmps.getD (np + j) undef).toArray
  rw [this]
theorem obeys {E:Env} {K:Glob} (hE:EnvOk P K E) {f:FuncId} {fn:Func} {c:Code} {S:FSum} (hf:P.funcs[f]? = some fn) (hb:fn.body = some c) (hN:E.N = fn.ntmps) (hn:S.pars.length ≤ fn.ntmps) (hr:fn.results.size = S.res.length)
  (hl:LoopsOk E c) (hg:∀ x r,S.g x = some r → runF E fn S x = some r):Obeys P K f S := by
 intro Y L I a w x r hx h hK hY hw
 subst hK
 refine calls_of_wp hf hb ?_
 have hreal:S.real ≤ S.pars.length := by unfold FSum.real; omega
 have h1 := h.extend (N := fn.ntmps) (r := S.real) (by rw [hY]; exact hreal) (by omega)
 have e := hg x r hx
 unfold runF at e
 rw [hb] at e
 dsimp only at e
 refine Go.wp_mono (exec_sound hE (X := { Y with N := fn.ntmps }) hN c hl h1 e) fun en a' w' hp => ?_
 obtain ⟨ex,s',L',I',hx',r1,r2,r3⟩ := hp
 have fin:retK E fn S (mkSt (parEns 0 S.pars) x) s' = some r → a'.defers = [] ∧ ∃ v,(results fn a'.tmps).run P w' = .ok v w' ∧
   ∃ v' L2 I2 a2,Ending.returned v = .returned v' ∧ Rel { Y with N := S.pars.length + (S.res.length + S.nb.length) } L2 I2 (mkSt S.ens r) a2 w' ∧ (∀ n,kept n = true → L2 n = L n) ∧ v' = resV a2 S.pars.length S.res.length := by
  intro e
  refine ⟨r1.defers, ?_⟩
  unfold retK at e
  split at e
  ·rename_i rs os e1 e2
   obtain ⟨us,g1,g2⟩ := resVars_sound r1 hE.τ e1
   have hul:us.length = S.res.length := by
    rw [← g2.len,resVars_len e1, ← hr]; simp
   have hos := outAVs_sound (L' := L') (I' := I') (w' := w') (A' := AL s'.o) (g := fun i => a.tmps.getD i undef) (fun i => h.slot i) r2 e2
   have hsz:a.tmps.size = S.pars.length := by rw [h.size,hY]
   let bs := S.nb.map fun p => us.getD p.1 undef
   have hbl:bs.length = S.nb.length := List.length_map ..
   have hat:∀ j u,us[j]? = some u → (a.tmps ++ us.toArray ++ bs.toArray).getD (S.pars.length + j) undef = u := by
    intro j u hj
    have hjl:j < us.length := (List.getElem?_eq_some_iff.1 hj).1
    rw [Array.getD_eq_getD_getElem?,Array.getElem?_append_left (by simp; omega),Array.getElem?_append_right (by omega),hsz,Nat.add_sub_cancel_left]
    simp [hj]
   have hat2:∀ j u,bs[j]? = some u → (a.tmps ++ us.toArray ++ bs.toArray).getD (S.pars.length + S.res.length + j) undef = u := by
    intro j u hj
    have:(a.tmps ++ us.toArray).size = S.pars.length + S.res.length := by simp [hsz,hul]
    rw [Array.getD_eq_getD_getElem?,Array.getElem?_append_right (by omega),this,Nat.add_sub_cancel_left,List.getElem?_toArray,hj]; rfl
   obtain ⟨L2,I2,k1,_,k3⟩ := shut_sound r1 e (hos.append (g2.append (nb_sound g2 S.nb))) (a' := ⟨a.tmps ++ us.toArray ++ bs.toArray,[]⟩) rfl (by simp [hsz,hul,hbl]) (fun i en u z1 z2 => by
    unfold endEns at z1
    rcases Nat.lt_or_ge i (outEns 0 S.pars).length with q | q
    ·rw [List.getElem?_append_left q] at z1
     rw [List.getElem?_append_left (by rw [← outEns_len]; exact q)] at z2
     obtain ⟨y1,y2⟩ := outEns_get z1 z2
     rw [y1,Array.getD_eq_getD_getElem?,Array.append_assoc,Array.getElem?_append_left (by omega), ← Array.getD_eq_getD_getElem?]
    ·rw [List.getElem?_append_right q] at z1
     rw [List.getElem?_append_right (by rw [← outEns_len]; exact q), ← outEns_len] at z2
     generalize i - (outEns 0 S.pars).length = m at z1 z2
     rcases Nat.lt_or_ge m S.res.length with q2 | q2
     ·rw [List.getElem?_append_left (by rw [resEns_len]; exact q2)] at z1
      rw [List.getElem?_append_left (by omega)] at z2
      rw [resEns_get z1]
      exact hat _ u z2
     ·rw [List.getElem?_append_right (by rw [resEns_len]; exact q2),resEns_len] at z1
      rw [List.getElem?_append_right (by omega),hul] at z2
      rw [nbEns_get z1]
      exact hat2 _ u z2)
   refine ⟨_,run_results g1,_,L2,I2,⟨a.tmps ++ us.toArray ++ bs.toArray,[]⟩,rfl,k1,fun n hn => (k3 n hn).trans (r2 n hn), ?_⟩
   rw [← hul]
   exact resV_eq (a'' := ⟨a.tmps ++ us.toArray ++ bs.toArray,[]⟩) hat
  ·cases e
 cases ex with
 | normal =>
  cases en <;> try exact hx'.elim
  exact fin r3
 | exit i => cases r3
 | ret =>
  cases en <;> try exact hx'.elim
  exact fin r3
end
def tyFs (sz:TypeId → Nat) (r:TypeId → Option Ty):Nat → List Field → Option Ty
 | _,[] => none
 | off,[f] => match r f.type with
  | some t => bif Nat.beq f.offset off && Nat.beq (sz f.type) t.sz then some t else none
  | none => none
 | off,f :: g :: l => match r f.type with
  | some t => bif Nat.beq f.offset off && Nat.beq (sz f.type) t.sz then (match tyFs sz r (off + t.sz) (g :: l) with
   | some u => some (.pr t u)
   | none => none) else none
  | none => none
def tyOf (P:Program):Nat → TypeId → Option Ty
 | 0,_ => none
 | n + 1,T => match P.underlying T with
  | some (.int k) => some (.int k)
  | some .bool => some .bool
  | some .string => some .str
  | some (.slice e) => match tyOf P n e with
   | some t => bif Nat.beq (P.cellsOf e) t.sz then some (.sl t) else none
   | none => none
  | some (.struct fs) => match tyFs P.cellsOf (tyOf P n) 0 fs.toList with
   | some t => bif Nat.beq (P.cellsOf T) t.sz then some t else none
   | none => none
  | _ => none
def Fits:(t:Ty) → t.den → Prop
 | .int k,n => (Lit.int k n).wf = true
 | .bool,_ => True
 | .str,s => ByteArray.size s ≤ maxLen
 | .sl t,xs => List.length xs ≤ maxLen ∧ ∀ x ∈ (show List t.den from xs),Fits t x
 | .pr a b,x => Fits a x.1 ∧ Fits b x.2
section
variable {H:Type} {enc:TypeId×Value → H} {P:Program} {w:World} {sp:Nat → Bool} {held:Bool}
theorem cells?_at {a:Addr} {n:Nat} {cs:List Value} (h:w.cells? 0 a n = some cs):cs.length = n ∧ ∀ j u,cs[j]? = some u → w.cell? (a.add j) = some u := by
 unfold World.cells? at h
 split at h
 ·have hl := mapM_some_length h
  refine ⟨by simpa using hl,fun j u hu => ?_⟩
  have hj:j < n := by
   rcases Nat.lt_or_ge j n with q | q
   ·exact q
   ·rw [List.getElem?_eq_none (by simp at hl; omega)] at hu; cases hu
  have := mapM_some_get h j j (by simp [hj])
  rw [this,hu]
 ·cases h
theorem cell_spot {a:Addr} {u:Value} (h:w.cell? a = some u):a = ⟨a.block,a.off,none⟩ ∧ a.block < w.heap.size := by
 have hspot:a.spot = none := by
  cases hsp:a.spot with
  | none => rfl
  | some s =>
   simp only [World.cell?] at h
   split at h
   ·simp [hsp] at h
   ·cases h
 exact ⟨by cases a; simp_all,World.block_lt_of_cell? w a h⟩
theorem add_plain (b off j:Nat):(⟨b,off,none⟩:Addr).add j = ⟨b,off + j,none⟩ := by
 unfold Addr.add
 by_cases h:j = 0
 ·subst h; rfl
 ·rw [if_neg h]
def Read (w:World) (t:Ty) (cs:List Value):Prop := ∃ d:t.den,Rep (fun b => b < w.heap.size) w t d cs ∧ Fits t d
theorem choose_list {α β:Type} {R:Nat → α → β → Prop}:∀ {n:Nat},(∀ i,i < n → ∃ a b,R i a b) → ∃ (xs:List α) (ys:List β),xs.length = n ∧ ys.length = n ∧ ∀ (i:Nat) (x:α) (y:β),xs[i]? = some x → ys[i]? = some y → R i x y
 | 0,_ => ⟨[],[],rfl,rfl,fun _ _ _ h => by cases h⟩
 | n + 1,h => by
  obtain ⟨xs,ys,h1,h2,h3⟩ := choose_list (n := n) (fun i hi => h i (by omega))
  obtain ⟨a,b,hab⟩ := h n (by omega)
  refine ⟨xs ++ [a],ys ++ [b],by simp [h1],by simp [h2],fun i x y hx hy => ?_⟩
  rcases Nat.lt_or_ge i n with q | q
  ·rw [List.getElem?_append_left (by omega)] at hx hy
   exact h3 i x y hx hy
  ·have hi:i = n := by
    have := List.getElem?_eq_some_iff.1 hx
    obtain ⟨q2,_⟩ := this
    simp at q2; omega
   subst hi
   rw [List.getElem?_append_right (by omega)] at hx hy
   simp [h1,h2] at hx hy
   subst hx; subst hy
   exact hab
theorem all2_of_get {α β:Type} {R:α → β → Prop}:∀ {xs:List α} {ys:List β},xs.length = ys.length → (∀ (i:Nat) (x:α) (y:β),xs[i]? = some x → ys[i]? = some y → R x y) → All2 R xs ys
 | [],[],_,_ => trivial
 | x :: xs,y :: ys,h,g => ⟨g 0 x y rfl rfl,all2_of_get (by simpa using h) (fun i a b ha hb => g (i + 1) a b ha hb)⟩
 | [],_ :: _,h,_ => by cases h
 | _ :: _,[],h,_ => by cases h
theorem flatten_get {sz:Nat}:∀ {css:List (List Value)},(∀ cs ∈ css,cs.length = sz) → ∀ {j:Nat} {u:Value},css.flatten[j]? = some u → ∃ i k cs,j = i * sz + k ∧ css[i]? = some cs ∧ cs[k]? = some u
 | [],_,_,_,h => by simp at h
 | c :: css,hl,j,u,h => by
  rw [List.flatten_cons] at h
  have hc := hl c (List.mem_cons_self ..)
  rcases Nat.lt_or_ge j c.length with q | q
  ·rw [List.getElem?_append_left q] at h
   exact ⟨0,j,c,by omega,rfl,h⟩
  ·rw [List.getElem?_append_right q] at h
   obtain ⟨i,k,cs,h1,h2,h3⟩ := flatten_get (fun x hx => hl x (List.mem_cons_of_mem _ hx)) h
   exact ⟨i + 1,k,cs,by rw [Nat.add_mul]; omega,h2,h3⟩
theorem read_sl {e:Nat} {t:Ty} {n:Nat} (ih:∀ cs (x:DataW H×List MemPlace),DataW.trod enc P w 0 sp held n e cs = some x → Read w t cs) (hsz:P.cellsOf e = t.sz) {a:Addr} {len cap:Nat} (hl:len ≤ cap) (hc:cap ≤ maxLen)
  {el:Nat → Option (DataW H×List MemPlace)} (hel:∀ i,i < len → (w.cells? 0 (a.add (i * P.cellsOf e)) (P.cellsOf e)).bind (DataW.trod enc P w 0 sp held n e) = el i) (hs:∀ i,i < len → (el i).isSome = true):Read w (.sl t) [.slice (some a) len cap] := by
 have each:∀ i,i < len → ∃ (d:t.den) (cs:List Value),(Rep (fun b => b < w.heap.size) w t d cs ∧ Fits t d) ∧ (∀ k u,cs[k]? = some u → w.cell? ((a.add (i * t.sz)).add k) = some u) ∧ cs.length = t.sz := by
  intro i hi
  have h1 := hel i hi
  have h2 := hs i hi
  cases he:el i with
  | none => rw [he] at h2; cases h2
  | some y =>
   rw [he,Option.bind_eq_some_iff] at h1
   obtain ⟨cs,h3,h4⟩ := h1
   obtain ⟨d,h5⟩ := ih cs y h4
   rw [hsz] at h3
   obtain ⟨h6,h7⟩ := cells?_at h3
   exact ⟨d,cs,h5,h7,h6⟩
 obtain ⟨xs,css,g1,g2,g3⟩ := choose_list each
 have add2:∀ (i k:Nat),(a.add i).add k = a.add (i + k) := by
  intro i k
  unfold Addr.add
  by_cases hi:i = 0
  ·subst hi; simp
  ·by_cases hk:k = 0
   ·subst hk; simp [hi]
   ·have:i + k ≠ 0 := by omega
    simp [hi,hk,this,Nat.add_assoc]
 have hcl:∀ cs ∈ css,cs.length = t.sz := by
  intro cs hcs
  obtain ⟨i,hi⟩ := List.getElem?_of_mem hcs
  have hlt:i < xs.length := by have := (List.getElem?_eq_some_iff.1 hi).1; omega
  exact (g3 i _ cs (List.getElem?_eq_getElem hlt) hi).2.2
 refine ⟨xs,⟨some a,cap,css,by rw [g1],by rw [g1]; exact hl,all2_of_get (by omega) (fun i x cs hx hcs => (g3 i x cs hx hcs).1.1), ?_⟩,by rw [g1]; omega,fun x hx => ?_⟩
 ·cases hxs:xs with
  | nil => exact .inl rfl
  | cons x0 r =>
   refine .inr ?_
   have h0:0 < len := by rw [← g1,hxs]; simp
   have hcss:0 < css.length := by omega
   have e0 := g3 0 xs[0] css[0] (List.getElem?_eq_getElem (by omega)) (List.getElem?_eq_getElem hcss)
   have hp := t.sz_pos
   have hk0:0 < css[0].length := by rw [e0.2.2]; exact hp
   have c0 := e0.2.1 0 css[0][0] (List.getElem?_eq_getElem hk0)
   rw [add2,show 0 * t.sz + 0 = 0 by omega] at c0
   obtain ⟨hsp,s3⟩ := cell_spot (show w.cell? a = _ from c0)
   refine ⟨a.block,a.off,by rw [← hsp],s3,fun j u hu => ?_⟩
   obtain ⟨i,k,cs,q1,q2,q3⟩ := flatten_get hcl hu
   have hlt:i < xs.length := by have := (List.getElem?_eq_some_iff.1 q2).1; omega
   have c1 := (g3 i _ cs (List.getElem?_eq_getElem hlt) q2).2.1 k u q3
   rw [add2,hsp,add_plain] at c1
   rw [q1]
   exact c1
 ·obtain ⟨i,hi⟩ := List.getElem?_of_mem hx
  have hlt:i < css.length := by have:i < xs.length := (List.getElem?_eq_some_iff.1 hi).1; omega
  exact (g3 i x _ hi (List.getElem?_eq_getElem hlt)).1.2
theorem read_fs {n:Nat} {r:TypeId → Option Ty} (ih:∀ T t,r T = some t → ∀ cs (x:DataW H×List MemPlace),DataW.trod enc P w 0 sp held n T cs = some x → Read w t cs) {cs:List Value}:∀ (fs:List Field) (off:Nat) (t:Ty),tyFs P.cellsOf r off fs = some t →
  (∀ f ∈ fs, ∃ x,DataW.trod enc P w 0 sp held n f.type ((cs.drop f.offset).take (P.cellsOf f.type)) = some x) → (cs.drop off).length = t.sz → Read w t (cs.drop off)
 | [],_,_,h,_,_ => by cases h
 | [f],off,t,h,hf,hl => by
  simp only [tyFs] at h
  split at h
  ·rename_i u hu
   cases q:(Nat.beq f.offset off && Nat.beq (P.cellsOf f.type) u.sz) with
   | false => rw [q] at h; cases h
   | true =>
    rw [q] at h
    obtain rfl := Option.some.inj h
    rw [Bool.and_eq_true] at q
    obtain ⟨x,hx⟩ := hf f (List.mem_cons_self ..)
    rw [Nat.eq_of_beq_eq_true q.1,Nat.eq_of_beq_eq_true q.2,List.take_of_length_le (by omega)] at hx
    exact ih _ _ hu _ x hx
  ·cases h
 | f :: g :: l,off,t,h,hf,hl => by
  simp only [tyFs] at h
  split at h
  ·rename_i u hu
   cases q:(Nat.beq f.offset off && Nat.beq (P.cellsOf f.type) u.sz) with
   | false => rw [q] at h; cases h
   | true =>
    rw [q] at h
    simp only [cond_true] at h
    rw [Bool.and_eq_true] at q
    split at h
    ·rename_i v hv
     obtain rfl := Option.some.inj h
     obtain ⟨x,hx⟩ := hf f (List.mem_cons_self ..)
     rw [Nat.eq_of_beq_eq_true q.1,Nat.eq_of_beq_eq_true q.2] at hx
     obtain ⟨d1,r1,f1⟩ := ih _ _ hu _ x hx
     have hl2:(cs.drop (off + u.sz)).length = v.sz := by
      rw [← List.drop_drop,List.length_drop,hl]
      show u.sz + v.sz - u.sz = _
      omega
     obtain ⟨d2,r2,f2⟩ := read_fs ih (g :: l) (off + u.sz) v hv (fun y hy => hf y (List.mem_cons_of_mem _ hy)) hl2
     refine ⟨(d1,d2),⟨_,_, ?_,r1,r2⟩,f1,f2⟩
     rw [← List.drop_drop,List.take_append_drop]
    ·cases h
  ·cases h
theorem read_of_trod:∀ (n:Nat) (T:TypeId) (t:Ty),tyOf P n T = some t → ∀ (fuel:Nat) (cs:List Value) (x:DataW H×List MemPlace),DataW.trod enc P w 0 sp held fuel T cs = some x → Read w t cs
 | 0,_,_,h,_,_,_,_ => by cases h
 | n + 1,T,t,h,fuel,cs,x,hx => by
  unfold tyOf at h
  split at h
  ·rename_i k hu
   obtain rfl := Option.some.inj h
   obtain ⟨m,rfl,_,hw⟩ := DataW.trod_int hu hx
   exact ⟨m,rfl,hw⟩
  ·rename_i hu
   obtain rfl := Option.some.inj h
   obtain ⟨m,rfl,_⟩ := DataW.trod_bool hu hx
   exact ⟨m,rfl,trivial⟩
  ·rename_i hu
   obtain rfl := Option.some.inj h
   obtain ⟨s,rfl,_,hs⟩ := DataW.trod_string hu hx
   exact ⟨s,rfl,hs⟩
  ·rename_i e hu
   split at h
   ·rename_i u he
    cases q:Nat.beq (P.cellsOf e) u.sz with
    | false => rw [q] at h; cases h
    | true =>
     rw [q] at h
     obtain rfl := Option.some.inj h
     rcases DataW.trod_slice hu hx with ⟨rfl,_⟩ | ⟨a,len,cap,elems,rest,m,rfl,rfl,rfl,_,hl,hm,hlen,hel,_,_⟩
     ·exact ⟨[],⟨none,0,[],rfl,Nat.le_refl _,trivial, .inl rfl⟩,Nat.zero_le _,fun x hx => by cases hx⟩
     ·exact read_sl (fun cs y hy => read_of_trod n e u he m cs y hy) (Nat.eq_of_beq_eq_true q) hl hm hel (fun i hi => by rw [List.getElem?_eq_getElem (by omega)]; rfl)
   ·cases h
  ·rename_i fs hu
   split at h
   ·rename_i u hf
    cases q:Nat.beq (P.cellsOf T) u.sz with
    | false => rw [q] at h; cases h
    | true =>
     rw [q] at h
     obtain rfl := Option.some.inj h
     obtain ⟨xs,m,rfl,rfl,hcl,hxl,hel⟩ := DataW.trod_struct hu hx
     have := read_fs (P := P) (fun T t ht cs y hy => read_of_trod n T t ht m cs y hy) (cs := cs) fs.toList 0 u hf (fun f hfm => by
      obtain ⟨i,hi⟩ := List.getElem?_of_mem hfm
      have hi':fs[i]? = some f := by simpa using hi
      have hlt:i < xs.length := by rw [hxl]; exact (Array.getElem?_eq_some_iff.1 hi').1
      refine ⟨xs[i], ?_⟩
      rw [hel i f hi',List.getElem?_eq_getElem hlt]) (by rw [List.drop_zero,hcl]; exact Nat.eq_of_beq_eq_true q)
     simpa using this
   ·cases h
  ·cases h
end
def flat:Ty → List Ty
 | .pr a b => flat a ++ flat b
 | .int k => [.int k]
 | .bool => [.bool]
 | .str => [.str]
 | .sl t => [.sl t]
def dvs:(t:Ty) → t.den → List DV
 | .pr a b,x => dvs a x.1 ++ dvs b x.2
 | .int k,x => [⟨.int k,x⟩]
 | .bool,x => [⟨.bool,x⟩]
 | .str,x => [⟨.str,x⟩]
 | .sl t,x => [⟨.sl t,x⟩]
def DV.cv (d:DV):CV := .v d.t d.x
theorem dvs_t:∀ (t:Ty) (x:t.den),(dvs t x).map DV.t = flat t
 | .pr a b,x => by simp only [dvs,flat,List.map_append,dvs_t a,dvs_t b]
 | .int k,x => rfl
 | .bool,x => rfl
 | .str,x => rfl
 | .sl t,x => rfl
theorem dvs_split:∀ (t:Ty) (x:t.den),(dvs t x).map DV.cv = split t x
 | .pr a b,x => by simp only [dvs,split,List.map_append,dvs_split a,dvs_split b]
 | .int k,x => rfl
 | .bool,x => rfl
 | .str,x => rfl
 | .sl t,x => rfl
theorem dvs_fits:∀ (t:Ty) (x:t.den),Fits t x → ∀ d ∈ dvs t x,Fits d.t d.x
 | .pr a b,x,h,d,hd => by
  rcases List.mem_append.1 hd with q | q
  ·exact dvs_fits a _ h.1 d q
  ·exact dvs_fits b _ h.2 d q
 | .int k,x,h,d,hd => by obtain rfl := List.mem_singleton.1 hd; exact h
 | .bool,x,h,d,hd => by obtain rfl := List.mem_singleton.1 hd; exact h
 | .str,x,h,d,hd => by obtain rfl := List.mem_singleton.1 hd; exact h
 | .sl t,x,h,d,hd => by obtain rfl := List.mem_singleton.1 hd; exact h
theorem pack_cons {t u:Ty} {r:List Ty} {d:DV} {ds:List DV} {x:t.den} {y:TD (u :: r)} (h1:d.as t = some x) (h2:pack (u :: r) ds = some y):pack (t :: u :: r) (d :: ds) = some (x,y) := by
 unfold pack
 rw [h1,h2]
theorem pack_self:∀ ds:List DV, ∃ x,pack (ds.map DV.t) ds = some x
 | [] => ⟨(),rfl⟩
 | [d] => ⟨d.x,as_self d.x⟩
 | d :: e :: r => by
  obtain ⟨x,hx⟩ := pack_self (e :: r)
  exact ⟨(d.x,x),pack_cons (as_self d.x) hx⟩
structure Arg where
 t:Ty
 agg:Bool
 x:t.den
 u:Value
def Arg.par (a:Arg):Par := bif a.agg then .g ((flat a.t).map .i) else .c (.i a.t)
def Arg.dv (a:Arg):List DV := bif a.agg then dvs a.t a.x else [⟨a.t,a.x⟩]
def Arg.av (a:Arg):AV := bif a.agg then .g (split a.t a.x) else .c (.v a.t a.x)
def Arg.ok (w:World) (a:Arg):Prop := Fits a.t a.x ∧ (a.agg = true → ∃ vs,a.u = .agg vs.toArray ∧ Rep (fun b => b < w.heap.size) w a.t a.x vs) ∧ (a.agg = false → Rep (fun b => b < w.heap.size) w a.t a.x [a.u])
theorem mkCells_i (nm:Nat → PS → Nm):∀ (ts:List Ty) (k:Nat) (ds:List DV),ds.length = ts.length → mkCells nm k (ts.map .i) ds = ds.map DV.cv ∧ mkOs nm k (ts.map .i) ds = []
 | [],_,[],_ => ⟨rfl,rfl⟩
 | [],_,_ :: _,h => by cases h
 | _ :: _,_,[],h => by cases h
 | t :: ts,k,d :: ds,h => by
  obtain ⟨h1,h2⟩ := mkCells_i nm ts (k + 1) ds (by simpa using h)
  constructor
  ·show mkCell _ (.i t) d :: mkCells nm (k + 1) (ts.map .i) ds = _
   rw [h1]; rfl
  ·show mkO _ (.i t) d ++ mkOs nm (k + 1) (ts.map .i) ds = _
   rw [h2]; rfl
def argVs:Nat → List Arg → List (Nat×AV)
 | _,[] => []
 | k,a :: r => (k,a.av) :: argVs (k + 1) r
theorem mk_args:∀ (l:List Arg) (k:Nat),mkVs (parEns k (l.map Arg.par)) (l.flatMap Arg.dv) = argVs k l ∧ mkBs (parEns k (l.map Arg.par)) (l.flatMap Arg.dv) = [] ∧ entys (parEns k (l.map Arg.par)) = (l.flatMap Arg.dv).map DV.t
 | [],_ => ⟨rfl,rfl,rfl⟩
 | a :: r,k => by
  obtain ⟨h1,h2,h3⟩ := mk_args r (k + 1)
  obtain ⟨t,agg,x,u⟩ := a
  cases agg with
  | true =>
   have hl:(dvs t x).length = (flat t).length := by rw [← dvs_t t x,List.length_map]
   have hl2:(dvs t x).length = ((flat t).map PS.i).length := by rw [List.length_map]; exact hl
   obtain ⟨c1,c2⟩ := mkCells_i (nmOf k) (flat t) 0 (dvs t x) hl
   refine ⟨?_, ?_, ?_⟩
   ·show (k,AV.g (mkCells (nmOf k) 0 ((flat t).map PS.i) ((dvs t x ++ r.flatMap Arg.dv).take ((flat t).map PS.i).length))) :: mkVs (parEns (k + 1) (r.map Arg.par)) ((dvs t x ++ r.flatMap Arg.dv).drop ((flat t).map PS.i).length) = _
    rw [← hl2,List.take_left,List.drop_left,h1,c1,dvs_split]; rfl
   ·show mkOs (nmOf k) 0 ((flat t).map PS.i) ((dvs t x ++ r.flatMap Arg.dv).take ((flat t).map PS.i).length) ++ mkBs (parEns (k + 1) (r.map Arg.par)) ((dvs t x ++ r.flatMap Arg.dv).drop ((flat t).map PS.i).length) = _
    rw [← hl2,List.take_left,List.drop_left,h2,c2]; rfl
   ·show ((flat t).map PS.i).map PS.ty ++ entys (parEns (k + 1) (r.map Arg.par)) = (dvs t x ++ r.flatMap Arg.dv).map DV.t
    rw [h3,List.map_append,dvs_t,List.map_map]
    congr 1
    exact (List.map_congr_left fun _ _ => rfl).trans (List.map_id _)
  | false =>
   refine ⟨?_, ?_, ?_⟩
   ·show (k,AV.c (.v t x)) :: mkVs (parEns (k + 1) (r.map Arg.par)) (r.flatMap Arg.dv) = _
    rw [h1]; rfl
   ·show [] ++ mkBs (parEns (k + 1) (r.map Arg.par)) (r.flatMap Arg.dv) = _
    rw [h2]; rfl
   ·show t :: entys (parEns (k + 1) (r.map Arg.par)) = t :: (r.flatMap Arg.dv).map DV.t
    rw [h3]
theorem look_args {L:Nm → Value} {I:Nat → Prop} {w:World} {A:Nm → Option (Nat×Nat)}:∀ (l:List Arg) (k i:Nat),(∀ a ∈ l,RA L I w A a.av a.u) → RA L I w A (look (argVs k l) (k + i)) ((l.map Arg.u).getD i undef)
 | [],_,_,_ => trivial
 | a :: r,k,0,h => by
  show RA L I w A (bif Nat.beq k k then a.av else _) _
  rw [Nat.beq_refl]; exact h a (List.mem_cons_self ..)
 | a :: r,k,i + 1,h => by
  show RA L I w A (bif Nat.beq k (k + (i + 1)) then a.av else look (argVs (k + 1) r) (k + (i + 1))) _
  rw [beq_ne (by omega:k ≠ k + (i + 1)),show k + (i + 1) = (k + 1) + i by omega]
  exact look_args r (k + 1) i (fun b hb => h b (List.mem_cons_of_mem _ hb))
theorem look_hi:∀ (l:List Arg) (k i:Nat),k + l.length ≤ i → look (argVs k l) i = .c .dead
 | [],_,_,_ => rfl
 | a :: r,k,i,h => by
  show (bif Nat.beq k i then a.av else look (argVs (k + 1) r) i) = _
  have h:k + (r.length + 1) ≤ i := h
  rw [beq_ne (by omega:k ≠ i)]
  exact look_hi r (k + 1) i (by omega)
theorem outEns_args:∀ (l:List Arg) (k:Nat),outEns k (l.map Arg.par) = []
 | [],_ => rfl
 | a :: r,k => by
  obtain ⟨t,agg,x,u⟩ := a
  have := outEns_args r (k + 1)
  cases agg <;> exact this
def FitsTD (ts:List Ty) (x:TD ts):Prop := ∀ d ∈ unpack ts x,Fits d.t d.x
theorem first_all {n:Nat} {xs:Array Value} (h:xs.size ≤ n):first n xs = xs := by
 unfold first
 rw [List.take_of_length_le (by simpa using h)]
theorem law_calls {P:Program} {K:Glob} {f:FuncId} {pars:List Par} {g:Nat → TD (entys (parEns 0 pars)) → Option (TD (entys (endEns pars [(false,[.i .bool])] [])))}
  (obs:∀ n,Obeys P K f { pars := pars,res := [(false,[.i .bool])],g := g n }) (pure:∀ x,FitsTD _ x → ∃ n r,g n x = some r ∧ unpack _ r = [⟨.bool,true⟩])
  {W:World} (hK:K.ok W) (hKb:∀ b,K.blk b → b < W.heap.size) {l:List Arg} (hl:l.map Arg.par = pars) (hok:∀ a ∈ l,a.ok W) :
  Calls P f (l.map Arg.u).toArray W fun e w' => e = .returned (.bool true) ∧ RowKit.Below W.heap.size W w' := by
 subst hl
 obtain ⟨m1,m2,m3⟩ := mk_args l 0
 obtain ⟨x,hx⟩:∃ x,pack (entys (parEns 0 (l.map Arg.par))) (l.flatMap Arg.dv) = some x := by
  rw [m3]; exact pack_self _
 have hux := unpack_pack hx
 obtain ⟨n,r,hr,hur⟩ := pure x (fun d hd => by
  rw [hux] at hd
  obtain ⟨a,ha,hd⟩ := List.mem_flatMap.1 hd
  have hf := (hok a ha).1
  obtain ⟨t,agg,y,u⟩ := a
  cases agg with
  | true => exact dvs_fits t y hf d hd
  | false => obtain rfl := List.mem_singleton.1 hd; exact hf)
 let Y:Ctx := { K := K,N := l.length,w0 := W,E := fun _ _ => False,I0 := fun b => b < W.heap.size }
 have hst:mkSt (parEns 0 (l.map Arg.par)) x = ⟨look (argVs 0 l),fun _ => none⟩ := by
  unfold mkSt mkD
  rw [hux,m1,m2]
  rfl
 have hrel:Rel Y (fun _ => undef) (fun b => b < W.heap.size) (mkSt (parEns 0 (l.map Arg.par)) x) ⟨(l.map Arg.u).toArray,[]⟩ W := by
  rw [hst]
  refine ⟨rfl,by simp [Y],fun i hi => ?_,fun i hi => look_hi l 0 i (by show 0 + l.length ≤ i; have:l.length ≤ i := hi; omega),fun _ _ h => (by cases h),fun _ _ _ _ h => (by cases h),fun _ _ h => (by cases h),fun b hb => ⟨hb, .inl hb⟩,fun b hb => hb,Step.refl _ _,hK,hKb⟩
  have := look_args (L := fun _ => undef) (I := fun b => b < W.heap.size) (w := W) (A := AL (fun _ => none)) l 0 i (fun a ha => by
   obtain ⟨_,h2,h3⟩ := hok a ha
   obtain ⟨t,agg,y,u⟩ := a
   cases agg with
   | true => obtain ⟨vs,h4,h5⟩ := h2 rfl; exact ⟨vs,h4,split_sound t h5⟩
   | false => exact h3 rfl)
  rw [Nat.zero_add] at this
  simpa using this
 have hc := obs n Y _ _ ⟨(l.map Arg.u).toArray,[]⟩ W x r hr hrel rfl (by simp [Y]) rfl
 rw [show first (FSum.real { pars := l.map Arg.par,res := [(false,[.i .bool])],g := g n }) (⟨(l.map Arg.u).toArray,[]⟩:Act).tmps = (l.map Arg.u).toArray from first_all (by unfold FSum.real; simp)] at hc
 refine hc.mono fun e w' h => ?_
 obtain ⟨v,L',I',a',rfl,hR,_,rfl⟩ := h
 have hs := hR.slot (l.map Arg.par).length
 have hlk:(mkSt (FSum.ens { pars := l.map Arg.par,res := [(false,[.i .bool])],g := g n }) r).t (l.map Arg.par).length = .c (.v .bool true) := by
  unfold mkSt mkD
  rw [show unpack (entys (FSum.ens { pars := l.map Arg.par,res := [(false,[.i .bool])],g := g n })) r = [⟨.bool,true⟩] from hur]
  show look (mkVs (outEns 0 (l.map Arg.par) ++ _) _) _ = _
  rw [outEns_args]
  show (bif Nat.beq (l.map Arg.par).length (l.map Arg.par).length then _ else _) = _
  rw [Nat.beq_refl]; rfl
 rw [hlk] at hs
 have hs:a'.tmps.getD (l.map Arg.par).length undef = .bool true := List.head_eq_of_cons_eq hs
 exact ⟨congrArg Ending.returned hs,Step.below hR.step⟩
def DV.val:DV → Value
 | ⟨.int k,n⟩ => .int k n
 | ⟨.bool,b⟩ => .bool b
 | ⟨.str,s⟩ => .string s
 | _ => undef
def retVal:List Value → Value
 | [v] => v
 | vs => .tuple vs.toArray
def Ty.one:Ty → Bool
 | .int _ => true
 | .bool => true
 | .str => true
 | _ => false
def parsOf (ts:List Ty):List Par := ts.map fun t => .c (.i t)
def ressOf (ts:List PS):List (Bool×List PS) := ts.map fun p => (false,[p])
def PS.outs:PS → Bool
 | .i t => t.one
 | .e => true
 | _ => false
def Out (p:PS) (d:DV) (v:Value):Prop := match p with
 | .e => ∃ b,d.as .bool = some b ∧ match b with
  | true => ∃ t x,v = .iface t x
  | false => v = .nilIface
 | _ => v = DV.val d
def Outs:List PS → List DV → List Value → Prop
 | [],[],[] => True
 | p :: ps,d :: ds,v :: vs => Out p d v ∧ Outs ps ds vs
 | _,_,_ => False
theorem Outs.len:∀ {ps:List PS} {ds:List DV} {vs:List Value},Outs ps ds vs → ds.length = ps.length ∧ vs.length = ps.length
 | [],[],[],_ => ⟨rfl,rfl⟩
 | _ :: _,_ :: _,_ :: _,h => by obtain ⟨g1,g2⟩ := Outs.len h.2; exact ⟨by simp [g1],by simp [g2]⟩
 | [],[],_ :: _,h => h.elim
 | [],_ :: _,_,h => h.elim
 | _ :: _,[],_,h => h.elim
 | _ :: _,_ :: _,[],h => h.elim
theorem Outs.get:∀ {ps:List PS} {ds:List DV} {vs:List Value},Outs ps ds vs → ∀ {i:Nat} {p:PS} {d:DV},ps[i]? = some p → ds[i]? = some d → ∃ v,vs[i]? = some v ∧ Out p d v
 | [],_,_,_,_,_,_,h,_ => by cases h
 | _ :: _,_ :: _,v :: _,h,0,_,_,e,e2 => by obtain rfl := Option.some.inj e; obtain rfl := Option.some.inj e2; exact ⟨v,rfl,h.1⟩
 | _ :: _,_ :: _,_ :: _,h,i + 1,_,_,e,e2 => Outs.get h.2 (i := i) e e2
 | _ :: _,[],_,h,_,_,_,_,_ => h.elim
 | _ :: _,_ :: _,[],h,_,_,_,_,_ => h.elim
theorem one_val {t:Ty} (h:t.one = true) {x:t.den} {u:Value} {I:Nat → Prop} {w:World}:Rep I w t x [u] ↔ u = DV.val ⟨t,x⟩ := by
 cases t with
 | int k => exact ⟨fun r => List.head_eq_of_cons_eq r,fun e => congrArg (fun v => [v]) e⟩
 | bool => exact ⟨fun r => List.head_eq_of_cons_eq r,fun e => congrArg (fun v => [v]) e⟩
 | str => exact ⟨fun r => List.head_eq_of_cons_eq r,fun e => congrArg (fun v => [v]) e⟩
 | sl t => cases h
 | pr a b => cases h
theorem entys_pars:∀ (ts:List Ty) (k:Nat),entys (parEns k (parsOf ts)) = ts
 | [],_ => rfl
 | t :: ts,k => congrArg (t :: ·) (entys_pars ts (k + 1))
theorem entys_ress:∀ (ts:List PS) (k:Nat),entys (resEns k (ressOf ts)) = ts.map PS.ty
 | [],_ => rfl
 | t :: ts,k => congrArg (t.ty :: ·) (entys_ress ts (k + 1))
theorem outEns_pars:∀ (ts:List Ty) (k:Nat),outEns k (parsOf ts) = []
 | [],_ => rfl
 | t :: ts,k => outEns_pars ts (k + 1)
theorem endEns_pars (ps:List Ty) (rs:List PS):endEns (parsOf ps) (ressOf rs) [] = resEns ps.length (ressOf rs) := by
 unfold endEns
 rw [outEns_pars,List.nil_append,show (parsOf ps).length = ps.length from List.length_map ..,show nbEns (ps.length + (ressOf rs).length) [] = [] from rfl,List.append_nil]
def valsVs:Nat → List DV → List (Nat×AV)
 | _,[] => []
 | k,d :: r => (k, .c (.v d.t d.x)) :: valsVs (k + 1) r
theorem mk_pars:∀ (ts:List Ty) (k:Nat) (ds:List DV),ds.length = ts.length → mkVs (parEns k (parsOf ts)) ds = valsVs k ds ∧ mkBs (parEns k (parsOf ts)) ds = []
 | [],_,[],_ => ⟨rfl,rfl⟩
 | [],_,_ :: _,h => by cases h
 | _ :: _,_,[],h => by cases h
 | t :: ts,k,d :: ds,h => by
  obtain ⟨h1,h2⟩ := mk_pars ts (k + 1) ds (by simpa using h)
  exact ⟨congrArg ((k,AV.c (.v d.t d.x)) :: ·) h1,h2⟩
def outC:PS → DV → CV
 | .e,d => match d.as .bool with
  | some b => .er b
  | none => .dead
 | _,d => .v d.t d.x
def outVs:Nat → List PS → List DV → List (Nat×AV)
 | k,p :: ps,d :: r => (k, .c (outC p d)) :: outVs (k + 1) ps r
 | _,_,_ => []
theorem mk_ress:∀ (ts:List PS) (k:Nat) (ds:List DV),ts.all PS.outs = true → ds.length = ts.length → mkVs (resEns k (ressOf ts)) ds = outVs k ts ds ∧ mkBs (resEns k (ressOf ts)) ds = []
 | [],_,[],_,_ => ⟨rfl,rfl⟩
 | [],_,_ :: _,_,h => by cases h
 | _ :: _,_,[],_,h => by cases h
 | t :: ts,k,d :: ds,ho,h => by
  rw [List.all_cons,Bool.and_eq_true] at ho
  obtain ⟨h1,h2⟩ := mk_ress ts (k + 1) ds ho.2 (by simpa using h)
  have hc:∀ nm,mkCell nm t d = outC t d ∧ mkO nm t d = [] := fun nm => by
   cases t with
   | i t => exact ⟨rfl,rfl⟩
   | e => exact ⟨rfl,rfl⟩
   | _ => cases ho.1
  constructor
  ·show (k,mkV (.val k t) (d :: ds.take 0)) :: mkVs (resEns (k + 1) (ressOf ts)) ds = (k, .c (outC t d)) :: outVs (k + 1) ts ds
   rw [h1]
   congr 2
   exact congrArg AV.c (hc _).1
  ·show (mkO _ t d ++ []) ++ mkBs (resEns (k + 1) (ressOf ts)) ds = []
   rw [h2,(hc _).2]; rfl
theorem look_outs:∀ (ps:List PS) (ds:List DV) (k i:Nat),look (outVs k ps ds) (k + i) = match ps[i]?,ds[i]? with | some p,some d => .c (outC p d) | _,_ => .c .dead
 | [],_,_,_ => rfl
 | p :: ps,[],k,i => by cases (p :: ps)[i]? <;> rfl
 | p :: ps,d :: ds,k,0 => by
  show (bif Nat.beq k k then _ else _) = _
  rw [Nat.beq_refl]; rfl
 | p :: ps,d :: ds,k,i + 1 => by
  show (bif Nat.beq k (k + (i + 1)) then _ else look (outVs (k + 1) ps ds) (k + (i + 1))) = _
  rw [beq_ne (by omega:k ≠ k + (i + 1)),show k + (i + 1) = (k + 1) + i by omega]
  exact look_outs ps ds (k + 1) i
theorem look_lo':∀ (ps:List PS) (ds:List DV) (k i:Nat),i < k → look (outVs k ps ds) i = .c .dead
 | [],_,_,_,_ => rfl
 | _ :: _,[],_,_,_ => rfl
 | p :: ps,d :: ds,k,i,h => by
  show (bif Nat.beq k i then _ else look (outVs (k + 1) ps ds) i) = _
  rw [beq_ne (by omega:k ≠ i)]
  exact look_lo' ps ds (k + 1) i (by omega)
theorem look_vals:∀ (ds:List DV) (k i:Nat),look (valsVs k ds) (k + i) = match ds[i]? with | some d => .c (.v d.t d.x) | none => .c .dead
 | [],_,_ => rfl
 | d :: ds,k,0 => by
  show (bif Nat.beq k k then _ else _) = _
  rw [Nat.beq_refl]; rfl
 | d :: ds,k,i + 1 => by
  show (bif Nat.beq k (k + (i + 1)) then _ else look (valsVs (k + 1) ds) (k + (i + 1))) = _
  rw [beq_ne (by omega:k ≠ k + (i + 1)),show k + (i + 1) = (k + 1) + i by omega]
  exact look_vals ds (k + 1) i
theorem unpack_len:∀ (ts:List Ty) (x:TD ts),(unpack ts x).length = ts.length
 | [],_ => rfl
 | [t],_ => rfl
 | t :: u :: r,x => congrArg (· + 1) (unpack_len (u :: r) x.2)
theorem unpack_t:∀ (ts:List Ty) (x:TD ts) (i:Nat) (d:DV),(unpack ts x)[i]? = some d → ts[i]? = some d.t
 | [],_,_,_,h => by cases h
 | [t],x,0,d,h => by obtain rfl := Option.some.inj h; rfl
 | [t],x,i + 1,d,h => by cases h
 | t :: u :: r,x,0,d,h => by obtain rfl := Option.some.inj h; rfl
 | t :: u :: r,x,i + 1,d,h => unpack_t (u :: r) x.2 i d h
theorem obeys_prim {P:Program} {K:Glob} {f:FuncId} {ps:List Ty} {rs:List PS} (hp:ps.all Ty.one = true) (hr:rs.all PS.outs = true) {g:TD (entys (parEns 0 (parsOf ps))) → Option (TD (entys (endEns (parsOf ps) (ressOf rs) [])))}
  (h:∀ w x r,g x = some r → K.ok w → Calls P f ((unpack _ x).map DV.val).toArray w fun e w' => ∃ vs,e = .returned (retVal vs) ∧ Outs rs (unpack _ r) vs ∧ Step (fun _ _ => False) w w') :
  Obeys P K f { pars := parsOf ps,res := ressOf rs,g := g } := by
 intro Y L I a w x r hx hR hK hY hw
 have hxl:(unpack _ x).length = ps.length := by rw [unpack_len,entys_pars]
 have hrl:(unpack _ r).length = rs.length := by rw [unpack_len,endEns_pars,entys_ress,List.length_map]
 have hN:Y.N = ps.length := hY.trans (List.length_map ..)
 have hxo:∀ (i:Nat) (d:DV),(unpack _ x)[i]? = some d → d.t.one = true := fun i d hd => by
  have := unpack_t _ x i d hd
  rw [entys_pars] at this
  exact List.all_eq_true.1 hp _ (List.mem_of_getElem? this)
 have hro:∀ (i:Nat) (d:DV),(unpack _ r)[i]? = some d → ∃ p,rs[i]? = some p ∧ p.ty = d.t ∧ p.outs = true := fun i d hd => by
  have := unpack_t _ r i d hd
  rw [endEns_pars,entys_ress,List.getElem?_map] at this
  cases e:rs[i]? with
  | none => rw [e] at this; cases this
  | some p => rw [e] at this; exact ⟨p,rfl,Option.some.inj this,List.all_eq_true.1 hr _ (List.mem_of_getElem? e)⟩
 obtain ⟨m1,m2⟩ := mk_pars ps 0 (unpack _ x) hxl
 have htm:a.tmps = ((unpack _ x).map DV.val).toArray := by
  refine Array.ext (by rw [hR.size,hN]; simp [hxl]) fun i hi _ => ?_
  have hi':i < ps.length := by rw [hR.size,hN] at hi; exact hi
  have hs := hR.slot i
  have hd:(unpack _ x)[i]? = some (unpack _ x)[i] := List.getElem?_eq_getElem (by omega)
  have hlk:(mkSt (parEns 0 (parsOf ps)) x).t i = .c (.v ((unpack _ x)[i]).t ((unpack _ x)[i]).x) := by
   show look (mkVs _ _) i = _
   rw [m1]
   have := look_vals (unpack _ x) 0 i
   rw [Nat.zero_add,hd] at this
   exact this
  have hs:RA L I w (AL (mkSt (parEns 0 (parsOf ps)) x).o) ((mkSt (parEns 0 (parsOf ps)) x).t i) (a.tmps.getD i undef) := hs
  rw [hlk] at hs
  have := (one_val (hxo i _ hd)).1 hs
  rw [Array.getD_eq_getD_getElem?,Array.getElem?_eq_getElem hi] at this
  simp only [Option.getD_some] at this
  rw [this]
  simp
 rw [show first (FSum.real { pars := parsOf ps,res := ressOf rs,g := g }) a.tmps = a.tmps from first_all (by unfold FSum.real; rw [hR.size,hY]; exact Nat.le_refl _),htm]
 subst hK
 refine (h w x r hx hR.glob.1).mono fun e w' hp' => ?_
 obtain ⟨vs,rfl,hov,hst⟩ := hp'
 have h1 := hR.grows hst
 have hvl := hov.len.2
 refine ⟨_,L,I,⟨((unpack _ x).map DV.val ++ vs).toArray,[]⟩,rfl, ?_,fun _ _ => rfl, ?_⟩
 ·obtain ⟨k1,k2⟩ := mk_ress rs ps.length (unpack _ r) hr hrl
  have hst2:mkSt (FSum.ens { pars := parsOf ps,res := ressOf rs,g := g }) r = ⟨look (outVs ps.length rs (unpack _ r)),fun _ => none⟩ := by
   show mkD (endEns (parsOf ps) (ressOf rs) []) (unpack _ r) = _
   unfold mkD
   rw [show mkVs (endEns (parsOf ps) (ressOf rs) []) (unpack (entys (endEns (parsOf ps) (ressOf rs) [])) r) = outVs ps.length rs (unpack _ r) by rw [← k1]; congr 1; exact endEns_pars ps rs]
   rw [show mkBs (endEns (parsOf ps) (ressOf rs) []) (unpack (entys (endEns (parsOf ps) (ressOf rs) [])) r) = [] by rw [← k2]; congr 1; exact endEns_pars ps rs]
   rfl
  have hlen:(parsOf ps).length + ((ressOf rs).length + 0) = ps.length + rs.length := by rw [show (parsOf ps).length = ps.length from List.length_map ..,show (ressOf rs).length = rs.length from List.length_map ..]; rfl
  rw [hst2]
  refine ⟨rfl,by simp [hxl,hvl]; exact hlen.symm,fun i hi => ?_,fun i hi => ?_,fun _ _ q => (by cases q),fun _ _ _ _ q => (by cases q),fun _ _ q => (by cases q),h1.imm,h1.sub,h1.step,h1.glob⟩
  ·have hi:i < ps.length + rs.length := by rw [← hlen]; exact hi
   rcases Nat.lt_or_ge i ps.length with q | q
   ·have hd := look_lo' rs (unpack (entys (endEns (parsOf ps) (ressOf rs) [])) r) ps.length i q
    show RA L I w' _ (look (outVs ps.length rs (unpack (entys (endEns (parsOf ps) (ressOf rs) [])) r)) i) _
    rw [hd]; trivial
   ·have hd:(unpack _ r)[i - ps.length]? = some (unpack _ r)[i - ps.length] := List.getElem?_eq_getElem (by omega)
    have := look_outs rs (unpack _ r) ps.length (i - ps.length)
    obtain ⟨p,hp1,hp2,hp3⟩ := hro _ _ hd
    rw [hd,hp1,show ps.length + (i - ps.length) = i by omega] at this
    show RA L I w' _ (look (outVs ps.length rs (unpack (entys (endEns (parsOf ps) (ressOf rs) [])) r)) i) _
    rw [this]
    obtain ⟨v,hv1,hv2⟩ := hov.get hp1 hd
    have hval:(((unpack _ x).map DV.val ++ vs).toArray).getD i undef = v := by
     have hxl':((unpack (entys (parEns 0 (parsOf ps))) x).map DV.val).length = ps.length := (List.length_map ..).trans hxl
     rw [Array.getD_eq_getD_getElem?,List.getElem?_toArray,List.getElem?_append_right (by rw [hxl']; exact q),hxl',hv1]; rfl
    rw [hval]
    cases p with
    | i t =>
     have ht:(unpack _ r)[i - ps.length].t.one = true := by rw [← hp2]; exact hp3
     exact (one_val ht).2 hv2
    | e =>
     obtain ⟨b,hb1,hb2⟩ := hv2
     show RC L I w' _ (match DV.as .bool _ with | some b => .er b | none => .dead) v
     rw [hb1]; exact hb2
    | _ => cases hp3
  ·have hi:ps.length + rs.length ≤ i := by rw [← hlen]; exact hi
   show look (outVs ps.length rs (unpack _ r)) i = _
   have := look_outs rs (unpack _ r) ps.length (i - ps.length)
   rw [show ps.length + (i - ps.length) = i by omega,List.getElem?_eq_none (by omega:rs.length ≤ i - ps.length)] at this
   exact this
 ·have hl:(parsOf ps).length = ps.length := List.length_map ..
  have hl2:(ressOf rs).length = rs.length := List.length_map ..
  have at_:∀ j,j < rs.length → (((unpack _ x).map DV.val ++ vs).toArray).getD (ps.length + j) undef = vs.getD j undef := by
   intro j hj
   have hxl':((unpack (entys (parEns 0 (parsOf ps))) x).map DV.val).length = ps.length := (List.length_map ..).trans hxl
   rw [Array.getD_eq_getD_getElem?,List.getElem?_toArray,List.getElem?_append_right (by rw [hxl']; exact Nat.le_add_right ..),List.getD_eq_getElem?_getD,hxl',Nat.add_sub_cancel_left]
  show _ = resV ⟨_,[]⟩ (parsOf ps).length (ressOf rs).length
  rw [hl,hl2]
  clear hov
  match vs,hvl with
  | [],hml =>
   have:rs.length = 0 := hml.symm
   rw [this]; rfl
  | [v],hml =>
   have:rs.length = 1 := hml.symm
   rw [this]
   exact (at_ 0 (by omega)).symm
  | v :: u :: t,hml =>
   have hz:rs.length = t.length + 1 + 1 := hml.symm
   rw [hz]
   show Value.tuple (v :: u :: t).toArray = Value.tuple ((List.range (t.length + 1 + 1)).map fun j => Array.getD _ (ps.length + j) undef).toArray
   congr 2
   refine List.ext_getElem (by simp) fun i h1 h2 => ?_
   rw [List.getElem_map,List.getElem_range]
   have h1':i < rs.length := by simp at h1; omega
   rw [at_ i h1',List.getD_eq_getElem?_getD,List.getElem?_eq_getElem h1]; rfl
theorem outs_i:∀ {rs:List Ty} {ds:List DV},ds.length = rs.length → Outs (rs.map .i) ds (ds.map DV.val)
 | [],[],_ => trivial
 | [],_ :: _,h => by cases h
 | _ :: _,[],h => by cases h
 | _ :: rs,_ :: ds,h => ⟨rfl,outs_i (rs := rs) (ds := ds) (by simpa using h)⟩
theorem obeys_plain {P:Program} {K:Glob} {f:FuncId} {ps rs:List Ty} (hp:ps.all Ty.one = true) (hr:rs.all Ty.one = true) {g:TD (entys (parEns 0 (parsOf ps))) → Option (TD (entys (endEns (parsOf ps) (ressOf (rs.map .i)) [])))}
  (h:∀ w x r,g x = some r → K.ok w → Calls P f ((unpack _ x).map DV.val).toArray w fun e w' => e = .returned (retVal ((unpack _ r).map DV.val)) ∧ Step (fun _ _ => False) w w') :
  Obeys P K f { pars := parsOf ps,res := ressOf (rs.map .i),g := g } := by
 refine obeys_prim hp (by rw [List.all_map]; exact hr) fun w x r hx hw => (h w x r hx hw).mono fun e w' hq => ⟨_,hq.1, ?_,hq.2⟩
 exact outs_i (by rw [unpack_len,endEns_pars,entys_ress,List.length_map,List.length_map])
def zvB:Ty → List Value → Option (List Value)
 | .int k,vs => match vs with
  | .int l n :: r => if l = k ∧ n = 0 then some r else none
  | _ => none
 | .bool,vs => match vs with
  | .bool false :: r => some r
  | _ => none
 | .str,vs => match vs with
  | .string s :: r => bif Nat.beq s.size 0 then some r else none
  | _ => none
 | .sl _,vs => match vs with
  | .slice none 0 0 :: r => some r
  | _ => none
 | .pr a b,vs => match zvB a vs with
  | some r => zvB b r
  | none => none
theorem zvB_sound:∀ (t:Ty) {vs r:List Value},zvB t vs = some r → vs = zvals t ++ r
 | .int k,vs,r,h => by
  simp only [zvB] at h
  split at h
  ·split at h
   ·rename_i e; obtain ⟨rfl,rfl⟩ := e; obtain rfl := Option.some.inj h; rfl
   ·cases h
  ·cases h
 | .bool,vs,r,h => by
  simp only [zvB] at h
  split at h
  ·obtain rfl := Option.some.inj h; rfl
  ·cases h
 | .str,vs,r,h => by
  simp only [zvB] at h
  split at h
  ·rename_i s r'
   cases q:Nat.beq s.size 0 with
   | false => rw [q] at h; cases h
   | true =>
    rw [q] at h
    obtain rfl := Option.some.inj h
    have:s = ⟨#[]⟩ := by
     have := Nat.eq_of_beq_eq_true q
     obtain ⟨d⟩ := s
     obtain ⟨l⟩ := d
     cases l with
     | nil => rfl
     | cons x l => simp [ByteArray.size] at this
    rw [this]; rfl
  ·cases h
 | .sl t,vs,r,h => by
  simp only [zvB] at h
  split at h
  ·obtain rfl := Option.some.inj h; rfl
  ·cases h
 | .pr a b,vs,r,h => by
  simp only [zvB] at h
  split at h
  ·rename_i r1 h1
   rw [zvB_sound a h1,zvB_sound b h]
   simp [zvals]
  ·cases h
def zsB:List Z → List Value → Bool
 | [],[] => true
 | .t x :: zs,vs => match zvB x vs with
  | some r => zsB zs r
  | none => false
 | .ptr :: zs, .pointer none :: vs => zsB zs vs
 | .fn :: zs, .nilFunc :: vs => zsB zs vs
 | .ifc :: zs, .nilIface :: vs => zsB zs vs
 | _,_ => false
theorem zsB_sound:∀ {zs:List Z} {vs:List Value},zsB zs vs = true → vs = zs.flatMap Z.vals
 | [],[],_ => rfl
 | [],_ :: _,h => by cases h
 | .t x :: zs,vs,h => by
  unfold zsB at h
  split at h
  ·rename_i r e
   rw [zvB_sound x e,zsB_sound h]; rfl
  ·cases h
 | .ptr :: zs,[],h => by cases h
 | .fn :: zs,[],h => by cases h
 | .ifc :: zs,[],h => by cases h
 | .ptr :: zs,v :: vs,h => by
  cases v <;> try (simp [zsB] at h; done)
  rename_i q
  cases q <;> first | (simp [zsB] at h; done) | (rw [zsB_sound (show zsB zs vs = true from h)]; rfl)
 | .fn :: zs,v :: vs,h => by
  cases v <;> first | (simp [zsB] at h; done) | (rw [zsB_sound (show zsB zs vs = true from h)]; rfl)
 | .ifc :: zs,v :: vs,h => by
  cases v <;> first | (simp [zsB] at h; done) | (rw [zsB_sound (show zsB zs vs = true from h)]; rfl)
def isAggD:TypeDesc → Bool
 | .struct _ => true
 | .array _ _ => true
 | _ => false
def aggB (P:Program) (t:TypeId) (b:Bool):Bool := match P.underlying t with
 | some d => bif isAggD d then b else !b
 | none => false
theorem aggB_sound {P:Program} {t:TypeId} {b:Bool} (h:aggB P t b = true) (w:World):(isAgg t).run P w = .ok b w := by
 unfold aggB at h
 split at h
 ·rename_i d hd
  simp only [isAgg,Sem.run_bind,run_underlying hd,Result.andThen_ok]
  cases d <;> cases b <;> first | rfl | (cases h; done)
 ·cases h
def fieldsB (P:Program):List Field → List (Nat×Nat×Bool) → Bool
 | [],[] => true
 | f :: fs,x :: xs => Nat.beq f.offset x.1 && (Nat.blt 0 x.2.1 && ((match P.info? f.type with | some i => Nat.beq i.size x.2.1 | none => false) && (aggB P f.type x.2.2 && fieldsB P fs xs)))
 | _,_ => false
theorem fieldsB_sound {P:Program}:∀ {fs:List Field} {xs:List (Nat×Nat×Bool)},fieldsB P fs xs = true → fs.length = xs.length ∧ ∀ (i:Nat) (x:Nat×Nat×Bool),xs[i]? = some x → ∃ fd:Field,fs[i]? = some fd ∧ fd.offset = x.1 ∧ x.2.1 ≠ 0 ∧
  (∀ w,(sizeOf fd.type).run P w = .ok x.2.1 w) ∧ (∀ w,(isAgg fd.type).run P w = .ok x.2.2 w)
 | [],[],_ => ⟨rfl,fun _ _ h => by cases h⟩
 | [],_ :: _,h => by cases h
 | _ :: _,[],h => by cases h
 | f :: fs,x :: xs,h => by
  unfold fieldsB at h
  simp only [Bool.and_eq_true] at h
  obtain ⟨h1,h2,h3,h4,h5⟩ := h
  obtain ⟨g1,g2⟩ := fieldsB_sound h5
  refine ⟨by simp [g1],fun i y hy => ?_⟩
  cases i with
  | zero =>
   obtain rfl := Option.some.inj hy
   refine ⟨f,rfl,Nat.eq_of_beq_eq_true h1,by have := Nat.le_of_ble_eq_true h2; omega,fun w => ?_,aggB_sound h4⟩
   split at h3
   ·rename_i i hi
    rw [← Nat.eq_of_beq_eq_true h3]
    simp [sizeOf,typeInfo,hi]
   ·cases h3
  | succ i => exact g2 i y hy
def eqB (P:Program):Nat → List Field → List Ty → Bool
 | _,[],[] => true
 | k,f :: fs,t :: ts => Nat.beq f.offset k && ((f.name != "_") && ((match P.info? f.type with | some i => Nat.beq i.size 1 | none => false) && (aggB P f.type false && ((match P.underlying f.type,t with
   | some (.int k1), .int k2 => decide (k1 = k2)
   | some .bool, .bool => true
   | some .string, .str => true
   | _,_ => false) && eqB P (k + 1) fs ts))))
 | _,_,_ => false
theorem run_part1 {P:Program} {w:World} {t:TypeId} {i:TypeInfo} (hi:P.info? t = some i) (hs:i.size = 1) (ha:aggB P t false = true) {xs:Array Value} {off:Nat} {v:Value} (hx:xs[off]? = some v):(Go.part t xs off).run P w = .ok v w := by
 have h1:∀ w,(sizeOf t).run P w = .ok 1 w := fun w => by simp [sizeOf,typeInfo,hi,hs]
 have h2 := aggB_sound ha
 have hlt := (Array.getElem?_eq_some_iff.1 hx).1
 obtain ⟨hlt,hv⟩ := Array.getElem?_eq_some_iff.1 hx
 unfold Go.part
 simp [h1,h2,Result.andThen]
 simp [hx,hlt,hv]
theorem eqB_sound {P:Program} {d:Nat} {w:World} {xs ys:Array Value}:∀ {k:Nat} {fs:List Field} {ts:List Ty} {us vs:List Value} {e:Bool},eqB P k fs ts = true → eqVals ts us vs = some e → xs.toList.drop k = us → ys.toList.drop k = vs →
  (Op.eqFields (d + 1) xs ys fs).run P w = .ok e w
 | _,[],[],us,vs,e,_,he,_,_ => by
  cases us with
  | nil => cases vs with
   | nil => obtain rfl := Option.some.inj he; simp [Op.eqFields]
   | cons _ _ => cases he
  | cons _ _ => cases he
 | _,[],_ :: _,_,_,_,h,_,_,_ => by cases h
 | _,_ :: _,[],_,_,_,h,_,_,_ => by cases h
 | k,f :: fs,t :: ts,us,vs,e,h,he,hu,hv => by
  unfold eqB at h
  simp only [Bool.and_eq_true] at h
  obtain ⟨h1,h2,h3,h4,h5,h6⟩ := h
  have h1 := Nat.eq_of_beq_eq_true h1
  have hname:f.name ≠ "_" := by simpa using h2
  split at h3
  case h_2 => cases h3
  rename_i i hi
  have hs := Nat.eq_of_beq_eq_true h3
  have next:∀ {zs:Array Value} {z:Value} {zl:List Value},zs.toList.drop k = z :: zl → zs[f.offset]? = some z ∧ zs.toList.drop (k + 1) = zl := by
   intro zs z zl q
   have g := congrArg (fun l => l[0]?) q
   simp at g
   refine ⟨by rw [h1]; simpa using g, ?_⟩
   rw [← List.drop_drop,q]; rfl
  have fin:∀ {u v:Value} {ul vl:List Value} {b e':Bool},us = u :: ul → vs = v :: vl → (Op.equalIn (d + 1) f.type u v).run P w = .ok b w → eqVals ts ul vl = some e' → e = (b && e') → (Op.eqFields (d + 1) xs ys (f :: fs)).run P w = .ok e w := by
   intro u v ul vl b e' eu ev hb hr hE
   obtain ⟨n1,n2⟩ := next (hu.trans eu)
   obtain ⟨n3,n4⟩ := next (hv.trans ev)
   have ih := eqB_sound (d := d) (w := w) h6 hr n2 n4
   have p1 := run_part1 (P := P) (w := w) hi hs h4 n1
   have p2 := run_part1 (P := P) (w := w) hi hs h4 n3
   unfold Op.eqFields
   rw [if_pos hname]
   simp only [Sem.run_bind,p1,Result.andThen_ok,p2,hb]
   cases b with
   | true => simp [ih,hE]
   | false => simp [hE]
  cases us with
  | nil => cases t <;> simp [eqVals] at he
  | cons u ul =>
   cases vs with
   | nil => cases t <;> cases u <;> simp [eqVals] at he
   | cons v vl =>
    cases t with
    | int q =>
     cases u <;> try (simp [eqVals] at he; done)
     cases v <;> try (simp [eqVals] at he; done)
     simp only [eqVals] at he
     split at he
     ·rename_i hk
      obtain ⟨rfl,rfl⟩ := hk
      split at he
      ·rename_i e' hr
       split at h5
       ·exact fin rfl rfl (run_equalIn_int _ _ _ _ _ _ _ ‹_›) hr (Option.some.inj he).symm
       ·rename_i q1; cases q1
       ·rename_i q1; cases q1
       ·cases h5
      ·cases he
     ·cases he
    | bool =>
     cases u <;> try (simp [eqVals] at he; done)
     cases v <;> try (simp [eqVals] at he; done)
     simp only [eqVals] at he
     split at he
     ·rename_i e' hr
      split at h5
      ·rename_i q1; cases q1
      ·exact fin rfl rfl (run_equalIn_bool' _ _ _ _ _ ‹_›) hr (Option.some.inj he).symm
      ·rename_i q1; cases q1
      ·cases h5
     ·cases he
    | str =>
     cases u <;> try (simp [eqVals] at he; done)
     cases v <;> try (simp [eqVals] at he; done)
     simp only [eqVals] at he
     split at he
     ·rename_i e' hr
      split at h5
      ·rename_i q1; cases q1
      ·rename_i q1; cases q1
      ·rename_i hu5 _
       have key:∀ a b,(Op.equalIn (d + 1) f.type (.string a) (.string b)).run P w = .ok (strEq a b) w := fun a b => by rw [← strEq_toList]; exact run_equalIn_string w d f.type a b hu5
       exact fin rfl rfl (key _ _) hr (Option.some.inj he).symm
      ·cases h5
     ·cases he
    | sl _ => simp [eqVals] at he
    | pr _ _ => simp [eqVals] at he
def ckLoop (e:Bool) (d:Nat) (xs:Array Value) (fs:List Field):Sem PUnit :=
 forIn (m := Sem) fs PUnit.unit (fun f _ => do
   if f.name ≠ "_" then do
    let __do_lift ← Go.part f.type xs f.offset
    Instr.checkKey e (d + 1) f.type __do_lift
    pure (ForInStep.yield PUnit.unit)
   else pure (ForInStep.yield PUnit.unit))
theorem ckF_sound {P:Program} {d:Nat} {e:Bool} {w:World} {xs:Array Value}:∀ {k:Nat} {fs:List Field} {ts:List Ty} {us vs:List Value} {b:Bool},eqB P k fs ts = true → eqVals ts us vs = some b → xs.toList.drop k = us →
  (ckLoop e d xs fs).run P w = .ok PUnit.unit w
 | _,[],_,_,_,_,_,_,_ => by simp [ckLoop]
 | _,_ :: _,[],_,_,_,h,_,_ => by cases h
 | k,f :: fs,t :: ts,us,vs,b,h,he,hu => by
  unfold eqB at h
  simp only [Bool.and_eq_true] at h
  obtain ⟨h1,h2,h3,h4,h5,h6⟩ := h
  have h1 := Nat.eq_of_beq_eq_true h1
  have hname:f.name ≠ "_" := by simpa using h2
  split at h3
  case h_2 => cases h3
  rename_i i hi
  have hs := Nat.eq_of_beq_eq_true h3
  have fin:∀ {u:Value} {ul vl:List Value} {b':Bool} {D:TypeDesc},us = u :: ul → eqVals ts ul vl = some b' → P.underlying f.type = some D → (∀ w,(Instr.checkKey e (d + 1) f.type u).run P w = .ok () w) → (ckLoop e d xs (f :: fs)).run P w = .ok PUnit.unit w := by
   intro u ul vl b' D eu hr _ hck
   have hu' := hu.trans eu
   have g:xs[f.offset]? = some u ∧ xs.toList.drop (k + 1) = ul := by
    have g := congrArg (fun l => l[0]?) hu'
    simp at g
    refine ⟨by rw [h1]; simpa using g, ?_⟩
    rw [← List.drop_drop,hu']; rfl
   have ih := ckF_sound (d := d) (e := e) (w := w) h6 hr g.2
   have p1 := run_part1 (P := P) (w := w) hi hs h4 g.1
   unfold ckLoop at ih ⊢
   rw [List.forIn_cons]
   simp only [Sem.run_bind,if_pos hname,p1,Result.andThen_ok,hck,Sem.run_pure]
   exact ih
  cases us with
  | nil => cases t <;> simp [eqVals] at he
  | cons u ul =>
   cases vs with
   | nil => cases t <;> cases u <;> simp [eqVals] at he
   | cons v vl =>
    have ckp:∀ {D:TypeDesc},P.underlying f.type = some D → (D = .bool ∨ D = .string ∨ ∃ q,D = .int q) → ∀ w,(Instr.checkKey e (d + 1) f.type u).run P w = .ok () w := by
     intro D hD hc w
     rcases hc with rfl | rfl | ⟨q,rfl⟩ <;> simp [Instr.checkKey,run_underlying hD]
    cases t with
    | int q =>
     cases u <;> try (simp [eqVals] at he; done)
     cases v <;> try (simp [eqVals] at he; done)
     simp only [eqVals] at he
     split at he
     ·split at he
      ·rename_i e' hr
       split at h5
       ·exact fin rfl hr ‹_› (ckp ‹_› (.inr (.inr ⟨_,rfl⟩)))
       ·rename_i q1; cases q1
       ·rename_i q1; cases q1
       ·cases h5
      ·cases he
     ·cases he
    | bool =>
     cases u <;> try (simp [eqVals] at he; done)
     cases v <;> try (simp [eqVals] at he; done)
     simp only [eqVals] at he
     split at he
     ·rename_i e' hr
      split at h5
      ·rename_i q1; cases q1
      ·exact fin rfl hr ‹_› (ckp ‹_› (.inl rfl))
      ·rename_i q1; cases q1
      ·cases h5
     ·cases he
    | str =>
     cases u <;> try (simp [eqVals] at he; done)
     cases v <;> try (simp [eqVals] at he; done)
     simp only [eqVals] at he
     split at he
     ·rename_i e' hr
      split at h5
      ·rename_i q1; cases q1
      ·rename_i q1; cases q1
      ·exact fin rfl hr ‹_› (ckp ‹_› (.inr (.inl rfl)))
      ·cases h5
     ·cases he
    | sl _ => simp [eqVals] at he
    | pr _ _ => simp [eqVals] at he
def tiB (P:Program) (t:Nat) (ti:TI):Bool :=
 (match P.info? t with
  | some i => Nat.beq i.size ti.size && (Nat.beq i.bytes ti.bytes && (match ti.ty with
   | some ty => Nat.beq ty.sz ti.size && (match i.zero with
    | some z => (match zvB ty z.cells.toList with | some [] => true | _ => false)
    | none => false)
   | none => true))
  | none => false) &&
 (aggB P t ti.agg &&
 ((match P.underlying t with
  | some (.int k) => !Nat.beq ti.kind 1 || decide (k = ti.ik)
  | _ => !Nat.beq ti.kind 1) &&
 ((match P.underlying t with
  | some (.struct fs) => !Nat.beq ti.kind 2 || fieldsB P fs.toList ti.fs
  | _ => !Nat.beq ti.kind 2) &&
 ((match P.underlying t with
  | some (.slice e) => !Nat.beq ti.kind 3 || Nat.beq e ti.el
  | _ => !Nat.beq ti.kind 3) &&
 ((match P.underlying t with
  | some (.array n e) => !Nat.beq ti.kind 4 || (Nat.beq e ti.el && (match P.info? e with | some i => Nat.beq ti.size (n * i.size) | none => true))
  | _ => !Nat.beq ti.kind 4) &&
 ((match P.underlying t with
  | some .string => true
  | _ => !Nat.beq ti.kind 5) &&
 ((match P.underlying t with
  | some .bool => true
  | _ => !Nat.beq ti.kind 6) &&
 ((match P.underlying t with
  | some (.interface _) => true
  | _ => !Nat.beq ti.kind 7) &&
 ((match P.underlying t with
  | some (.pointer _) => true
  | _ => !Nat.beq ti.kind 8) &&
 ((match P.underlying t with
  | some (.map ky e) => !Nat.beq ti.kind 9 || (Nat.beq ky ti.ky && Nat.beq e ti.el)
  | _ => !Nat.beq ti.kind 9) &&
 ((!Nat.beq ti.kind 1 || (match P.info? t with
   | some i => (match i.zero with
    | some (.int k n) => decide (k = ti.ik ∧ n = 0)
    | _ => false)
   | none => false)) &&
 ((match ti.zs with
  | none => true
  | some zs => (match P.info? t with
   | some i => (match i.zero with
    | some z => zsB zs z.cells.toList
    | none => false)
   | none => false)) &&
 (match ti.eqs with
  | none => true
  | some ts => !P.stoodInHeld t && (!P.eqGuardType P.depth t && (match P.underlying t with
   | some (.struct fs) => eqB P 0 fs.toList ts
   | _ => false)))))))))))))))
theorem tiB_sound {P:Program} {t:Nat} {ti:TI} (h:tiB P t ti = true):TIok P t ti := by
 unfold tiB at h
 simp only [Bool.and_eq_true] at h
 obtain ⟨h1,h2,h3,h4,h5,h6,h7,h8,hi7,hi8,hi9,hz1,hzs,h9⟩ := h
 have nk:∀ {k:Nat},ti.kind = k → (!Nat.beq ti.kind k) = true → False := by
  intro k e q; rw [e] at q; simp [Nat.beq_refl] at q
 refine ⟨?_,fun zs e => ?_,aggB_sound h2, ?_,fun e => ?_,fun e => ?_,fun e => ?_,fun e => ?_,fun e => ?_,fun e => ?_,fun e => ?_,fun e => ?_,fun e => ?_,fun e => ?_,fun ts e em w xs ys b hb => ?_,fun ts e w xs ys b hb => ?_⟩
 ·split at h1
  ·rename_i i hi
   simp only [Bool.and_eq_true] at h1
   obtain ⟨g1,g2,g3⟩ := h1
   refine ⟨i,hi,Nat.eq_of_beq_eq_true g1,Nat.eq_of_beq_eq_true g2,fun ty hty => ?_⟩
   rw [hty] at g3
   dsimp only at g3
   rw [Bool.and_eq_true] at g3
   refine ⟨Nat.eq_of_beq_eq_true g3.1, ?_⟩
   have g4 := g3.2
   split at g4
   ·rename_i z hz
    refine ⟨z,hz, ?_⟩
    split at g4
    ·rename_i hzv
     have := zvB_sound ty hzv
     rw [List.append_nil] at this
     rw [← this]
    ·cases g4
   ·cases g4
  ·cases h1
 ·rw [e] at hzs
  dsimp only at hzs
  split at hzs
  ·rename_i i hi
   split at hzs
   ·rename_i z hz
    exact ⟨i,z,hi,hz,by rw [← zsB_sound hzs]⟩
   ·cases hzs
  ·cases hzs
 ·unfold aggB at h2
  split at h2
  ·rename_i d hd; rw [hd]; rfl
  ·cases h2
 ·split at h3
  ·rename_i k hk
   rcases Bool.or_eq_true _ _ |>.mp h3 with q | q
   ·exact (nk e q).elim
   ·rw [hk,of_decide_eq_true q]
  ·exact (nk e h3).elim
 ·split at h4
  ·rename_i fs hfs
   rcases Bool.or_eq_true _ _ |>.mp h4 with q | q
   ·exact (nk e q).elim
   ·obtain ⟨g1,g2⟩ := fieldsB_sound q
    refine ⟨fs,hfs,by simpa using g1,fun f x hx => ?_⟩
    obtain ⟨fd,k1,k2⟩ := g2 f x hx
    exact ⟨fd,by simpa using k1,k2⟩
  ·exact (nk e h4).elim
 ·split at h5
  ·rename_i el hel
   rcases Bool.or_eq_true _ _ |>.mp h5 with q | q
   ·exact (nk e q).elim
   ·rw [hel,Nat.eq_of_beq_eq_true q]
  ·exact (nk e h5).elim
 ·split at h6
  ·rename_i n el hel
   rcases Bool.or_eq_true _ _ |>.mp h6 with q | q
   ·exact (nk e q).elim
   ·rw [Bool.and_eq_true] at q
    have q1 := Nat.eq_of_beq_eq_true q.1
    refine ⟨n,by rw [hel,q1],fun i hi => ?_⟩
    have q2 := q.2
    rw [q1,hi] at q2
    exact Nat.eq_of_beq_eq_true q2
  ·exact (nk e h6).elim
 ·split at h7
  ·assumption
  ·exact (nk e h7).elim
 ·split at h8
  ·assumption
  ·exact (nk e h8).elim
 ·split at hi7
  ·rename_i ms hms; exact ⟨ms,hms⟩
  ·exact (nk e hi7).elim
 ·split at hi8
  ·rename_i ms hms; exact ⟨ms,hms⟩
  ·exact (nk e hi8).elim
 ·split at hi9
  ·rename_i ky el hel
   rcases Bool.or_eq_true _ _ |>.mp hi9 with q | q
   ·exact (nk e q).elim
   ·rw [Bool.and_eq_true] at q
    rw [hel,Nat.eq_of_beq_eq_true q.1,Nat.eq_of_beq_eq_true q.2]
  ·exact (nk e hi9).elim
 ·rcases Bool.or_eq_true _ _ |>.mp hz1 with q | q
  ·exact (nk e q).elim
  ·split at q
   ·rename_i i hi
    split at q
    ·rename_i k n hz
     obtain ⟨rfl,rfl⟩ := of_decide_eq_true q
     exact ⟨i,hi,hz⟩
    ·cases q
   ·cases q
 ·rw [e] at h9
  dsimp only at h9
  simp only [Bool.and_eq_true,Bool.not_eq_true'] at h9
  obtain ⟨g1,g2,g3⟩ := h9
  split at g3
  ·rename_i fs hfs
   show (Instr.checkKey em (9999 + 1) t (.agg xs.toArray)).run P w = _
   unfold Instr.checkKey
   simp only [Sem.run_bind,run_underlying hfs,Result.andThen_ok]
   rw [← Array.forIn_toList]
   have hck := ckF_sound (d := 9998) (e := em) (w := w) (xs := xs.toArray) g3 hb (by simp)
   unfold ckLoop at hck
   rw [hck]; rfl
  ·cases g3
 ·rw [e] at h9
  dsimp only at h9
  simp only [Bool.and_eq_true,Bool.not_eq_true'] at h9
  obtain ⟨g1,g2,g3⟩ := h9
  split at g3
  ·rename_i fs hfs
   have hfo:P.fieldsOf t = fs := by simp [Program.fieldsOf,hfs]
   refine ⟨?_,fun op x y => run_eqGuard_agg _ op t x y _ _ g2⟩
   show (Op.equalIn (9999 + 1) t (.agg xs.toArray) (.agg ys.toArray)).run P w = _
   rw [run_equalIn_struct w 9999 t _ _ (by rw [hfo]; exact hfs) g1,hfo]
   exact eqB_sound (d := 9998) g3 hb (by simp) (by simp)
  ·cases g3
def tabB (P:Program):Tab → Bool
 | [] => true
 | p :: r => tiB P p.1 p.2 && tabB P r
theorem tabB_sound {P:Program}:∀ {τ:Tab},tabB P τ = true → TabOk P τ
 | [],_,_,_,e => by cases e
 | p :: r,h,t,ti,e => by
  unfold tabB at h
  rw [Bool.and_eq_true] at h
  unfold Tab.get at e
  cases q:Nat.beq p.1 t with
  | true =>
   rw [q] at e
   have := Nat.eq_of_beq_eq_true q
   obtain rfl := Option.some.inj e
   rw [← this]; exact tiB_sound h.1
  | false => rw [q] at e; exact tabB_sound h.2 t ti e
def loopsIn:Code → List Code
 | .seq a b => loopsIn a ++ loopsIn b
 | .cond _ a b => loopsIn a ++ loopsIn b
 | .block _ c => loopsIn c
 | .loop c => c :: loopsIn c
 | _ => []
def Looped (E:Env) (c:Code):Prop := ∀ S,E.Λ (key c) = some S → ∃ f:Nat → TD (entys S.ent) → Option (EX S.exs),(∀ x,f 0 x = none) ∧ (∃ n,S.g = f n) ∧ ∀ n x,f (n + 1) x = runL E c S (f n) x
def regsIn:Code → List (Nat×Array Oper)
 | .region id ops _ => [(id,ops)]
 | .seq a b => regsIn a ++ regsIn b
 | .cond _ a b => regsIn a ++ regsIn b
 | .block _ c => regsIn c
 | .loop c => regsIn c
 | _ => []
theorem loopsOk_mem {E:Env}:∀ c:Code,(∀ b ∈ loopsIn c,Looped E b) → (∀ p ∈ regsIn c,RegOk E p.1 p.2) → LoopsOk E c := by
 intro c
 induction c with
 | seq a b iha ihb => exact fun h g => ⟨iha (fun x hx => h x (List.mem_append_left _ hx)) fun x hx => g x (List.mem_append_left _ hx),ihb (fun x hx => h x (List.mem_append_right _ hx)) fun x hx => g x (List.mem_append_right _ hx)⟩
 | cond _ a b iha ihb => exact fun h g => ⟨iha (fun x hx => h x (List.mem_append_left _ hx)) fun x hx => g x (List.mem_append_left _ hx),ihb (fun x hx => h x (List.mem_append_right _ hx)) fun x hx => g x (List.mem_append_right _ hx)⟩
 | block _ c ih => exact fun h g => ih h g
 | loop c ih => exact fun h g => ⟨ih (fun x hx => h x (List.mem_cons_of_mem _ hx)) g,h c (List.mem_cons_self ..)⟩
 | region id ops d => exact fun _ g => g (id,ops) (List.mem_singleton.2 rfl)
 | _ => exact fun _ _ => trivial
def regAt (c:Code) (id:Nat):List Oper := match (regsIn c).find? (fun p => Nat.beq p.1 id) with
 | some p => p.2.toList
 | none => []
def nodupNat:List Nat → Bool
 | [] => true
 | n :: r => !memNat n r && nodupNat r
theorem find_uniq {β:Type}:∀ {l:List (Nat×β)},nodupNat (l.map Prod.fst) = true → ∀ p ∈ l,l.find? (fun q => Nat.beq q.1 p.1) = some p
 | [],_,_,h => by cases h
 | q :: l,hn,p,h => by
  unfold nodupNat at hn
  simp only [List.map_cons,Bool.and_eq_true,Bool.not_eq_true'] at hn
  rcases List.mem_cons.1 h with rfl | h
  ·rw [List.find?_cons,Nat.beq_refl]
  ·have:Nat.beq q.1 p.1 = false := by
    cases z:Nat.beq q.1 p.1 with
    | false => rfl
    | true =>
     have hm:memNat q.1 (l.map Prod.fst) = true := memNat_iff.2 (by rw [Nat.eq_of_beq_eq_true z]; exact List.mem_map.2 ⟨p,h,rfl⟩)
     rw [hn.1] at hm; cases hm
   rw [List.find?_cons,this]
   exact find_uniq hn.2 p h
theorem regs_at {E:Env} {c:Code} (hn:nodupNat ((regsIn c).map Prod.fst) = true) (h:∀ id S,E.Ω id = some S → aftOk (regAt c id) = true ∧ ∀ x y,S.g x = some y → ∀ π ∈ exts (regAt c id),opsK E (regAt c id) (opsOf (regAt c id) π) (mkSt S.ent x) (fun s' => getEns E.N S.out s') = some y):∀ p ∈ regsIn c,RegOk E p.1 p.2 := by
 intro p hp S hS
 have hr:regAt c p.1 = p.2.toList := by unfold regAt; rw [find_uniq hn p hp]
 rw [← hr]
 exact h p.1 S hS
def loopAt (c:Code) (i:Nat):Code := (loopsIn c).getD i .skip
def bodyOf (fn:Func):Code := fn.body.getD .skip
theorem loopsOk_of {E:Env} {c:Code} (k:Nat) (hk:(loopsIn c).length = k) (h:∀ i,i < k → Looped E (loopAt c i)) (hR:∀ p ∈ regsIn c,RegOk E p.1 p.2):LoopsOk E c := by
 refine loopsOk_mem c (fun b hb => ?_) hR
 obtain ⟨i,hi⟩ := List.getElem?_of_mem hb
 have hlt:i < k := by rw [← hk]; exact (List.getElem?_eq_some_iff.1 hi).1
 have := h i hlt
 unfold loopAt at this
 rw [List.getD_eq_getElem?_getD,hi] at this
 exact this
theorem looped {E:Env} {c:Code} {S:LSum} (hS:E.Λ (key c) = some S) (f:Nat → TD (entys S.ent) → Option (EX S.exs)) (h0:∀ x,f 0 x = none) (n:Nat) (hn:S.g = f n) (hs:∀ m x,f (m + 1) x = runL E c S (f m) x):Looped E c := by
 intro S' hS'
 rw [hS] at hS'
 obtain rfl := Option.some.inj hS'
 exact ⟨f,h0,⟨n,hn⟩,hs⟩
def gl1:List (Nat×FSum) → Nat → Option FSum
 | [],_ => none
 | p :: r,f => bif Nat.beq p.1 f then some p.2 else gl1 r f
def gl2:List ((Nat×Nat)×FSum) → Nat → Nat → Option FSum
 | [],_,_ => none
 | p :: r,f,d => bif Nat.beq p.1.1 f && Nat.beq p.1.2 d then some p.2 else gl2 r f d
def gl (l:List (Nat×FSum)) (l2:List ((Nat×Nat)×FSum)) (f d:Nat):Option FSum :=
 match gl2 l2 f d with
 | some S => some S
 | none => gl1 l f
def Good (P:Program) (K:Glob) (p:Nat×FSum):Prop := Plain P p.1 ∧ Obeys P K p.1 p.2
def Goods (P:Program) (K:Glob):List (Nat×FSum) → Prop
 | [] => True
 | p :: r => Good P K p ∧ Goods P K r
def Goods2 (P:Program) (K:Glob):List ((Nat×Nat)×FSum) → Prop
 | [] => True
 | p :: r => Good P K (p.1.1,p.2) ∧ Goods2 P K r
theorem gl1_good {P:Program} {K:Glob}:∀ {l:List (Nat×FSum)},Goods P K l → ∀ f S,gl1 l f = some S → Plain P f ∧ Obeys P K f S
 | [],_,_,_,h => by cases h
 | p :: r,⟨h1,h2⟩,f,S,h => by
  unfold gl1 at h
  cases q:Nat.beq p.1 f with
  | true =>
   rw [q] at h
   obtain rfl := Option.some.inj h
   rw [← Nat.eq_of_beq_eq_true q]
   exact h1
  | false => rw [q] at h; exact gl1_good h2 f S h
theorem gl2_good {P:Program} {K:Glob}:∀ {l:List ((Nat×Nat)×FSum)},Goods2 P K l → ∀ f d S,gl2 l f d = some S → Plain P f ∧ Obeys P K f S
 | [],_,_,_,_,h => by cases h
 | p :: r,⟨h1,h2⟩,f,d,S,h => by
  unfold gl2 at h
  cases q:(Nat.beq p.1.1 f && Nat.beq p.1.2 d) with
  | true =>
   rw [q] at h
   obtain rfl := Option.some.inj h
   rw [Bool.and_eq_true] at q
   rw [← Nat.eq_of_beq_eq_true q.1]
   exact h1
  | false => rw [q] at h; exact gl2_good h2 f d S h
theorem gl_good {P:Program} {K:Glob} {l:List (Nat×FSum)} {l2:List ((Nat×Nat)×FSum)} (h1:Goods P K l) (h2:Goods2 P K l2) (f d:Nat) (S:FSum) (h:gl l l2 f d = some S):Plain P f ∧ Obeys P K f S := by
 unfold gl at h
 split at h
 ·rename_i S' e
  obtain rfl := Option.some.inj h
  exact gl2_good h2 f d S' e
 ·exact gl1_good h1 f S h
theorem plain_of {P:Program} {f:FuncId} {fn:Func} (h:P.funcs[f]? = some fn) (hn:(fn.name == "runtime.NumGoroutine") = false) (hb:fn.body.isNone = false):Plain P f := ⟨fn,h,hn,hb⟩
theorem body_of {fn:Func} (h:fn.body.isSome = true):fn.body = some (bodyOf fn) := by
 unfold bodyOf
 cases q:fn.body with
 | none => rw [q] at h; cases h
 | some c => rfl
theorem all_of {α β:Type} {xs:List α} {F:α → β} {vs:List β} (h:xs.map F = vs) {r:β} (hv:∀ v ∈ vs,v = r):∀ x ∈ xs,F x = r := fun x hx => hv _ (h ▸ List.mem_map.2 ⟨x,hx,rfl⟩)
theorem obeys_of {P:Program} {K:Glob} {f:FuncId} {fn:Func} {S:FSum} {E:Env} {l:List (Nat×FSum)} {l2:List ((Nat×Nat)×FSum)} (hf:P.funcs[f]? = some fn) (hmo:P.follows .mixedOrders = true) (hτ:TabOk P E.τ) (hΓ:E.Γ = gl l l2) (hl:Goods P K l) (hl2:Goods2 P K l2)
  (hb:fn.body.isSome = true) (hN:E.N = fn.ntmps) (hn:S.pars.length ≤ fn.ntmps) (hr:fn.results.size = S.res.length) (hloops:LoopsOk E (bodyOf fn)) (hg:∀ x,S.g x = runF E fn S x):Obeys P K f S :=
 obeys ⟨hτ,fun f d S h => by rw [hΓ] at h; exact gl_good hl hl2 f d S h,hmo⟩ hf (body_of hb) hN hn hr hloops (fun x r h => by rw [← hg]; exact h)
end AM
end Go.Proofs.YtobpcllkonomlabGreatDoor
