/- The types of the evaluator's data and its states: what a value, a slice, a struct and an own array is, as plain Lean data. No condition. -/
import Derived.WalkKit
import Derived.KernelRfl
namespace Go.Proofs.YtpcdcnmmkfhliaaGreatDoor
namespace AM
open Go

/-- The types of one cell, and rows of cells. -/
inductive Ty where
  | int (k : IntKind)
  | bool
  | str
  | sl (t : Ty)
  | pr (a b : Ty)

@[reducible] def Ty.den : Ty → Type
  | .int _ => Int
  | .bool => Bool
  | .str => ByteArray
  | .sl t => List t.den
  | .pr a b => a.den × b.den

def Ty.sz : Ty → Nat
  | .pr a b => a.sz + b.sz
  | _ => 1

def Ty.zero : (t : Ty) → t.den
  | .int _ => (0 : Int)
  | .bool => false
  | .str => (⟨#[]⟩ : ByteArray)
  | .sl _ => []
  | .pr a b => (a.zero, b.zero)

def Ty.same : (a b : Ty) → Option (PLift (a = b))
  | .int k, .int l => if h : k = l then some ⟨congrArg Ty.int h⟩ else none
  | .bool, .bool => some ⟨rfl⟩
  | .str, .str => some ⟨rfl⟩
  | .sl a, .sl b => match Ty.same a b with
    | some ⟨h⟩ => some ⟨congrArg Ty.sl h⟩
    | none => none
  | .pr a b, .pr c d => match Ty.same a c, Ty.same b d with
    | some ⟨h⟩, some ⟨g⟩ => some ⟨by rw [h, g]⟩
    | _, _ => none
  | _, _ => none

def Ty.cast {a b : Ty} (h : a = b) (x : a.den) : b.den := h ▸ x

/-- Does the type hold a slice? -/
def Ty.hasSl : Ty → Bool
  | .sl _ => true
  | .pr a b => a.hasSl || b.hasSl
  | _ => false

abbrev Nm := List Nat
def Nm.eqb : Nm → Nm → Bool
  | [], [] => true
  | a :: as, b :: bs => bif Nat.beq a b then Nm.eqb as bs else false
  | _, _ => false

/-- What one cell holds. -/
inductive CV where
  | v (t : Ty) (x : t.den)
  | nil
  | own (n : Nm)
  | pb (n : Nm) (off : Nat)
  | pa (n : Nm) (sz i j : Nat)
  | pe (t : Ty) (x : t.den) (j : Nat)
  | clo (f : Nat) (cs : List (Nm × Nat))
  | er (b : Bool)
  | mp (n : Nm)
  | hd (k : Nat)
  | raw (u : Value)
  | dead

/-- What a slot holds: one cell, a struct (an array) by its cells, several results. -/
inductive AV where
  | c (x : CV)
  | g (cs : List CV)
  | tup (cs : List (Bool × List CV))

inductive Ob where
  | box (cs : List CV)
  | arr (e : Nat) (t : Ty) (xs : List t.den)
  | mp (kt vt : Ty) (ka : Bool) (kvs : List (kt.den × vt.den))

structure St where
  t : Nat → AV
  o : Nm → Option Ob

def CV.as (t : Ty) : CV → Option t.den
  | .v u x => match Ty.same u t with
    | some ⟨h⟩ => some (Ty.cast h x)
    | none => none
  | .nil => match t with
    | .sl _ => some []
    | _ => none
  | _ => none

def split : (t : Ty) → t.den → List CV
  | .int k, x => [.v (.int k) x]
  | .bool, x => [.v .bool x]
  | .str, x => [.v .str x]
  | .sl t, x => [.v (.sl t) x]
  | .pr a b, x => split a x.1 ++ split b x.2

def join1 (t : Ty) : List CV → Option (t.den × List CV)
  | c :: r => match c.as t with
    | some x => some (x, r)
    | none => none
  | [] => none

def join : (t : Ty) → List CV → Option (t.den × List CV)
  | .int k, cs => join1 (.int k) cs
  | .bool, cs => join1 .bool cs
  | .str, cs => join1 .str cs
  | .sl t, cs => join1 (.sl t) cs
  | .pr a b, cs => match join a cs with
    | some (x, r) => match join b r with
      | some (y, q) => some ((x, y), q)
      | none => none
    | none => none

def joinAll (t : Ty) (cs : List CV) : Option t.den :=
  match join t cs with
  | some (x, []) => some x
  | _ => none

/-! ### names that go -/
def CV.drop (n : Nm) : CV → CV
  | .own m => bif Nm.eqb m n then .dead else .own m
  | .pb m i => bif Nm.eqb m n then .dead else .pb m i
  | .pa m s i j => bif Nm.eqb m n then .dead else .pa m s i j
  | .clo f cs => bif cs.any (fun p => Nm.eqb p.1 n) then .dead else .clo f cs
  | .mp m => bif Nm.eqb m n then .dead else .mp m
  | x => x
def AV.drop (n : Nm) : AV → AV
  | .c x => .c (x.drop n)
  | .g cs => .g (cs.map (CV.drop n))
  | .tup cs => .tup (cs.map fun p => (p.1, p.2.map (CV.drop n)))
def Ob.drop (n : Nm) : Ob → Ob
  | .box cs => .box (cs.map (CV.drop n))
  | .arr e t xs => .arr e t xs
  | .mp k v a kvs => .mp k v a kvs
def St.drop (n : Nm) (s : St) : St :=
  ⟨fun i => (s.t i).drop n, fun m => bif Nm.eqb m n then none else (s.o m).map (Ob.drop n)⟩

/-- An own array goes on under another name; its old headers keep their length. -/
def CV.past (n : Nm) (k : Nat) : CV → CV
  | .own m => bif Nm.eqb m n then .hd k else .own m
  | x => x.drop n
def AV.past (n : Nm) (k : Nat) : AV → AV
  | .c x => .c (x.past n k)
  | .g cs => .g (cs.map (CV.past n k))
  | .tup cs => .tup (cs.map fun p => (p.1, p.2.map (CV.past n k)))
def Ob.past (n : Nm) (k : Nat) : Ob → Ob
  | .box cs => .box (cs.map (CV.past n k))
  | .arr e t xs => .arr e t xs
  | .mp kt v a kvs => .mp kt v a kvs
def St.past (n : Nm) (k : Nat) (s : St) : St :=
  ⟨fun i => (s.t i).past n k, fun m => bif Nm.eqb m n then none else (s.o m).map (Ob.past n k)⟩

/-- An own array becomes a value that nobody writes any more. -/
def CV.frz (n : Nm) (t : Ty) (xs : List t.den) : CV → CV
  | .own m => bif Nm.eqb m n then .v (.sl t) xs else .own m
  | .pa m s i j => bif Nm.eqb m n then .dead else .pa m s i j
  | .pb m i => bif Nm.eqb m n then .dead else .pb m i
  | .clo f cs => bif cs.any (fun p => Nm.eqb p.1 n) then .dead else .clo f cs
  | .mp m => bif Nm.eqb m n then .dead else .mp m
  | x => x
def AV.frz (n : Nm) (t : Ty) (xs : List t.den) : AV → AV
  | .c x => .c (x.frz n t xs)
  | .g cs => .g (cs.map (CV.frz n t xs))
  | .tup cs => .tup (cs.map fun p => (p.1, p.2.map (CV.frz n t xs)))
def Ob.frz (n : Nm) (t : Ty) (xs : List t.den) : Ob → Ob
  | .box cs => .box (cs.map (CV.frz n t xs))
  | .arr e u ys => .arr e u ys
  | .mp k v a kvs => .mp k v a kvs
def St.freeze (n : Nm) (t : Ty) (xs : List t.den) (s : St) : St :=
  ⟨fun i => (s.t i).frz n t xs, fun m => bif Nm.eqb m n then none else (s.o m).map (Ob.frz n t xs)⟩

def St.put (d : Option Nat) (x : AV) (s : St) : St :=
  match d with
  | none => s
  | some d => ⟨fun i => bif Nat.beq i d then x else s.t i, s.o⟩
def St.setO (n : Nm) (x : Ob) (s : St) : St := ⟨s.t, fun m => bif Nm.eqb m n then some x else s.o m⟩

/-! ### several values of known types -/
@[reducible] def TD : List Ty → Type
  | [] => Unit
  | [t] => t.den
  | t :: u :: r => t.den × TD (u :: r)

structure DV where
  t : Ty
  x : t.den

def DV.as (t : Ty) (d : DV) : Option t.den :=
  match Ty.same d.t t with
  | some ⟨h⟩ => some (Ty.cast h d.x)
  | none => none

def pack : (ts : List Ty) → List DV → Option (TD ts)
  | [], [] => some ()
  | [t], [d] => d.as t
  | t :: u :: r, d :: ds => match d.as t, pack (u :: r) ds with
    | some x, some y => some (x, y)
    | _, _ => none
  | _, _ => none

def unpack : (ts : List Ty) → TD ts → List DV
  | [], _ => []
  | [t], x => [⟨t, x⟩]
  | t :: u :: r, x => ⟨t, x.1⟩ :: unpack (u :: r) x.2

end AM
end Go.Proofs.YtpcdcnmmkfhliaaGreatDoor
