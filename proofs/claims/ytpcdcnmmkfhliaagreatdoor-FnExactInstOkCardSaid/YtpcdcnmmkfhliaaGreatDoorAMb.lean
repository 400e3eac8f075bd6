/- The evaluator: what each operation of the model's code does to a state of plain data, as a Lean function that the kernel runs. No condition. -/
import Derived.Test.YtpcdcnmmkfhliaaGreatDoorAMa
namespace Go.Proofs.YtpcdcnmmkfhliaaGreatDoor
namespace AM
open Go

/-! ## Tables of types -/
/-- The zero of a part of a type that holds pointers, functions or interfaces. -/
inductive Z where
  | t (x : Ty)
  | ptr
  | fn
  | ifc

structure TI where
  ty : Option Ty := none
  agg : Bool := false
  size : Nat := 1
  bytes : Nat := 8
  kind : Nat := 0
  fs : List (Nat × Nat × Bool) := []
  el : Nat := 0
  ik : IntKind := .i64
  eqs : Option (List Ty) := none
  zs : Option (List Z) := none
  ky : Nat := 0

abbrev Tab := List (Nat × TI)
def Tab.get : Tab → Nat → Option TI
  | [], _ => none
  | p :: r, t => bif Nat.beq p.1 t then some p.2 else Tab.get r t

def zcells (t : Ty) : List CV := match t with
  | .sl _ => [.nil]
  | .pr a b => zcells a ++ zcells b
  | t => [.v t t.zero]

def Z.cells : Z → List CV
  | .t x => zcells x
  | .ptr => [.raw (.pointer none)]
  | .fn => [.raw .nilFunc]
  | .ifc => [.raw .nilIface]
def TI.z0 (ti : TI) : Option (List CV) := match ti.ty with
  | some ty => some (zcells ty)
  | none => match ti.zs with
    | some zs => some (zs.flatMap Z.cells)
    | none => none

/-! ## Small words of the plain functions -/
def inb (i : Int) (n : Nat) : Bool := decide (0 ≤ i ∧ i < (n : Int))
def rng (l h : Int) (n : Nat) : Bool := decide (0 ≤ l ∧ l ≤ h ∧ h ≤ (n : Int))
def bt (s : ByteArray) (i : Int) : Int := ((s.data.toList.getD i.toNat 0).toNat : Int)
def sub (s : ByteArray) (l h : Int) : ByteArray := s.extract l.toNat h.toNat
def sl {α : Type} (xs : List α) (l h : Int) : List α := (xs.take h.toNat).drop l.toNat
def strEq (a b : ByteArray) : Bool := decide (a = b)
def strRoom (a b : ByteArray) : Bool := decide (a.size + b.size ≤ 4611686018427387904)
def room (n : Nat) : Bool := decide (n ≤ 4294967296)
def bytesOf (xs : List Int) : ByteArray := ⟨(xs.map fun n => UInt8.ofNat n.toNat).toArray⟩
def toBytes (s : ByteArray) : List Int := s.data.toList.map fun b => (b.toNat : Int)
def mx (a b : Int) : Int := if b > a then b else a
def mn (a b : Int) : Int := if b < a then b else a

/-! ## Maps, as lists of what stands at the keys, in the order in which they came -/
def Ty.eqv : (t : Ty) → t.den → t.den → Bool
  | .int _, a, b => (show Int from a) == (show Int from b)
  | .bool, a, b => (show Bool from a) == (show Bool from b)
  | .str, a, b => strEq a b
  | .sl _, _, _ => false
  | .pr a b, x, y => Ty.eqv a x.1 y.1 && Ty.eqv b x.2 y.2
def mfind (kt : Ty) (k : kt.den) : List (kt.den × Int) → Nat → Option (Nat × Int)
  | [], _ => none
  | p :: r, i => bif kt.eqv k p.1 then some (i, p.2) else mfind kt k r (i + 1)
def mget (kt : Ty) (k : kt.den) (kvs : List (kt.den × Int)) : Int := match mfind kt k kvs 0 with
  | some p => p.2
  | none => 0
def mpos (kt : Ty) (k : kt.den) (kvs : List (kt.den × Int)) : Int := match mfind kt k kvs 0 with
  | some p => (p.1 : Int)
  | none => (kvs.length : Int)
def mput (kt : Ty) (k : kt.den) (x : Int) (kvs : List (kt.den × Int)) : List (kt.den × Int) := match mfind kt k kvs 0 with
  | some p => kvs.set p.1 (k, x)
  | none => kvs ++ [(k, x)]
def msetG {α : Type} (x : Int) : List (α × Int) → Nat → List (α × Int)
  | [], _ => []
  | p :: r, 0 => (p.1, x) :: r
  | p :: r, n + 1 => p :: msetG x r n
def mset {α : Type} (j : Int) (x : Int) (kvs : List (α × Int)) : List (α × Int) := msetG x kvs j.toNat

def Ty.cellTys : Ty → List Ty
  | .pr a b => a.cellTys ++ b.cellTys
  | t => [t]
def tyEqs : List Ty → List Ty → Bool
  | [], [] => true
  | a :: r, b :: q => (match Ty.same a b with | some _ => true | none => false) && tyEqs r q
  | _, _ => false
/-- May values of the type be keys, and how do they stand there? -/
def keyOk (τ : Tab) (ky : Nat) (kt : Ty) (ka : Bool) : Bool := match τ.get ky with
  | none => false
  | some tk => match ka with
    | true => !kt.hasSl && (match tk.eqs with
      | some ts => tyEqs ts kt.cellTys
      | none => false)
    | false => match kt with
      | .int k => Nat.beq tk.kind 1 && decide (tk.ik = k)
      | _ => false

/-! ## Operands -/
def ofConst : Value → AV
  | .int k n => .c (.v (.int k) n)
  | .bool b => .c (.v .bool b)
  | .string s => .c (.v .str s)
  | .slice none 0 0 => .c .nil
  | .agg cs => .g (cs.toList.map fun
    | .int k n => .v (.int k) n
    | .bool b => .v .bool b
    | .string s => .v .str s
    | .slice none 0 0 => .nil
    | u => .raw u)
  | u => .c (.raw u)

def St.ev (s : St) : Operand → AV
  | .tmp t => s.t t
  | .const v => ofConst v
  | .global g => .c (.raw (.pointer (some ⟨g, 0, none⟩)))
  | .func f => .c (.raw (.func (.func f) #[] #[]))

def asCells : AV → Option (List CV)
  | .c .dead => none
  | .c (.raw (.agg _)) => none
  | .c x => some [x]
  | .g cs => some cs
  | .tup _ => none

def ofCells (agg : Bool) (cs : List CV) : Option AV :=
  match agg, cs with
  | true, cs => some (.g cs)
  | false, [c] => some (.c c)
  | false, _ => none

def part (cs : List CV) (off n : Nat) (agg : Bool) : Option AV :=
  bif Nat.ble (off + n) cs.length then ofCells agg ((cs.drop off).take n) else none

def spl (cs : List CV) (off : Nat) (new : List CV) : List CV := cs.take off ++ new ++ cs.drop (off + new.length)

/-! ## Operations that only compute -/
def ibin (op : BinOp) (k : IntKind) (a b : Int) : Option (Bool × CV) :=
  match op with
  | .add => some (true, .v (.int k) (k.wrap (a + b)))
  | .sub => some (true, .v (.int k) (k.wrap (a - b)))
  | .mul => some (true, .v (.int k) (k.wrap (a * b)))
  | .quo => some (b != 0, .v (.int k) (k.wrap (a.tdiv b)))
  | .rem => some (b != 0, .v (.int k) (a.tmod b))
  | .and => some (true, .v (.int k) (bits .and k a b))
  | .or => some (true, .v (.int k) (bits .or k a b))
  | .xor => some (true, .v (.int k) (bits .xor k a b))
  | .andNot => some (true, .v (.int k) (bits .andNot k a b))
  | .eql => some (true, .v .bool (a == b))
  | .neq => some (true, .v .bool (a != b))
  | .lss => some (true, .v .bool (decide (a < b)))
  | .leq => some (true, .v .bool (decide (a ≤ b)))
  | .gtr => some (true, .v .bool (decide (a > b)))
  | .geq => some (true, .v .bool (decide (a ≥ b)))
  | _ => none

def sbin (op : BinOp) (a b : ByteArray) : Option (Bool × CV) :=
  match op with
  | .add => some (strRoom a b, .v .str (a ++ b))
  | .eql => some (true, .v .bool (strEq a b))
  | .neq => some (true, .v .bool (!strEq a b))
  | _ => none

def bbin (op : BinOp) (a b : Bool) : Option (Bool × CV) :=
  match op with
  | .eql => some (true, .v .bool (a == b))
  | .neq => some (true, .v .bool (a != b))
  | _ => none

/-- Two structs, cell by cell (whole numbers, bools and strings alone). -/
def eqCells : List Ty → List CV → List CV → Option Bool
  | [], [], [] => some true
  | .int k :: r, x :: xs, y :: ys => match x.as (.int k), y.as (.int k), eqCells r xs ys with
    | some a, some b, some e => some ((show Int from a) == (show Int from b) && e)
    | _, _, _ => none
  | .bool :: r, x :: xs, y :: ys => match x.as .bool, y.as .bool, eqCells r xs ys with
    | some a, some b, some e => some ((show Bool from a) == (show Bool from b) && e)
    | _, _, _ => none
  | .str :: r, x :: xs, y :: ys => match x.as .str, y.as .str, eqCells r xs ys with
    | some a, some b, some e => some (strEq a b && e)
    | _, _, _ => none
  | _, _, _ => none

def bin (τ : Tab) (op : BinOp) (xt : Nat) (x y : AV) : Option (Bool × AV) :=
  match x, y with
  | .c (.v (.int k) a), .c (.v (.int l) b) =>
    match op with
    | .shl => some (decide (0 ≤ b), .c (.v (.int k) (k.wrap (a * 2 ^ (min b.toNat k.bits)))))
    | .shr => some (decide (0 ≤ b), .c (.v (.int k) (a.fdiv (2 ^ (min b.toNat k.bits)))))
    | op => if k = l then (match ibin op k a b with | some (c, r) => some (c, .c r) | none => none) else none
  | .c (.v .str a), .c (.v .str b) => match sbin op a b with | some (c, r) => some (c, .c r) | none => none
  | .c (.v .bool a), .c (.v .bool b) =>
    match τ.get xt with
    | some ti => bif Nat.beq ti.kind 6 then (match bbin op a b with | some (c, r) => some (c, .c r) | none => none) else none
    | none => none
  | .g xs, .g ys =>
    match τ.get xt with
    | some ti => match ti.eqs with
      | some ts => match eqCells ts xs ys, op with
        | some e, .eql => some (true, .c (.v .bool e))
        | some e, .neq => some (true, .c (.v .bool (!e)))
        | _, _ => none
      | none => none
    | none => none
  | _, _ => none

def pickAV (x : Bool) : AV → AV → AV
  | .c (.v .bool a), .c (.v .bool b) => .c (.v .bool (bif x then a else b))
  | a, b => bif x then a else b

def place (i : Nat) : CV → Option CV
  | .pb n off => some (.pb n (off + i))
  | .pa n s k j => some (.pa n s k (j + i))
  | .pe t x j => some (.pe t x (j + i))
  | _ => none

def loadCells (o : Nm → Option Ob) (n : Nat) (agg : Bool) : CV → Option AV
  | .pb nm off => match o nm with
    | some (.box cs) => part cs off n agg
    | _ => none
  | .pa nm _ i j => match o nm with
    | some (.arr _ t xs) => part (split t (xs.getD i t.zero)) j n agg
    | _ => none
  | .pe t x j => part (split t x) j n agg
  | _ => none

def idxAddr (o : Nm → Option Ob) (n : Nat) (i : Int) : CV → Option (Bool × AV)
  | .v (.sl t) xs => bif Nat.beq n t.sz then some (inb i (List.length xs), .c (.pe t (List.getD xs i.toNat t.zero) 0)) else none
  | .own nm => match o nm with
    | some (.arr _ t xs) => bif Nat.beq n t.sz then some (inb i xs.length, .c (.pa nm t.sz i.toNat 0)) else none
    | _ => none
  | _ => none

def lenOf (o : Nm → Option Ob) : CV → Option Int
  | .v .str s => some (ByteArray.size s : Int)
  | .v (.sl _) xs => some (List.length xs : Int)
  | .nil => some 0
  | .hd k => some (k : Int)
  | .own n => match o n with
    | some (.arr _ _ xs) => some (xs.length : Int)
    | _ => none
  | _ => none

/-- All cells of an array of one type. -/
def allAs (t : Ty) : List CV → Option (List t.den)
  | [] => some []
  | c :: r => match c.as t, allAs t r with
    | some x, some xs => some (x :: xs)
    | _, _ => none

/-- A row of so many elements. -/
def rowAs (t : Ty) : Nat → List CV → Option (List t.den)
  | 0, [] => some []
  | 0, _ => none
  | n + 1, cs => match join t cs with
    | some (x, r) => match rowAs t n r with
      | some xs => some (x :: xs)
      | none => none
    | none => none

def fillC (place : Nat → Option (Nat × Nat)) (cs : List CV) : List (Nat × AV) → Option (List CV)
  | [] => some cs
  | (i, v) :: r => match place i, asCells v with
    | some (off, n), some new => bif (Nat.beq new.length n && Nat.ble (off + n) cs.length) then fillC place (spl cs off new) r else none
    | _, _ => none

def isU8 : IntKind → Bool
  | .u8 => true
  | _ => false
/-- A slice of bytes. -/
def isBytes (τ : Tab) (tq : TI) : Bool := Nat.beq tq.kind 3 && (match τ.get tq.el with | some te => Nat.beq te.kind 1 && isU8 te.ik | none => false)
def lenKind : CV → Nat
  | .v .str _ => 5
  | .v (.sl _) _ => 3
  | .nil => 3
  | .hd _ => 3
  | .own _ => 3
  | _ => 0

def mkey (ka : Bool) (kt : Ty) : AV → Option kt.den
  | .c x => bif ka then none else x.as kt
  | .g cs => bif ka then joinAll kt cs else none
  | .tup _ => none

def capsOf : List AV → Option (List (Nm × Nat))
  | [] => some []
  | v :: r => match v, capsOf r with
    | .c (.pb n i), some l => some ((n, i) :: l)
    | _, _ => none

/-- What is compared with nil. -/
inductive NilK where
  | ifc
  | ptr
def nilOp : Operand → Option NilK
  | .const .nilIface => some .ifc
  | .const (.pointer none) => some .ptr
  | _ => none
def nilRes (op : BinOp) (b : Bool) : Option (Bool × AV) := match op with
  | .eql => some (true, .c (.v .bool b))
  | .neq => some (true, .c (.v .bool (!b)))
  | _ => none
def nilIs : NilK → AV → Option Bool
  | .ifc, .c (.er b) => some (!b)
  | .ifc, .c (.raw .nilIface) => some true
  | .ptr, .c (.pb _ _) => some false
  | .ptr, .c (.raw (.pointer none)) => some true
  | _, _ => none
def nilKind : NilK → Nat
  | .ifc => 7
  | .ptr => 8
def nilBin (τ : Tab) (op : BinOp) (xt : Nat) (k : NilK) (v : AV) : Option (Bool × AV) :=
  match τ.get xt with
  | none => none
  | some ti => match nilIs k v with
    | some b => bif Nat.beq ti.kind (nilKind k) then nilRes op b else none
    | none => none

def vop (τ : Tab) (op : Op) (e : Operand → AV) (o : Nm → Option Ob) : Option (Bool × AV) :=
  match op with
  | .move x => some (true, e x)
  | .assign x => some (true, e x)
  | .pick c a b => match e c with
    | .c (.v .bool x) => some (true, pickAV x (e a) (e b))
    | _ => none
  | .build t parts => match τ.get t with
    | some ti => match ti.z0 with
      | some zc => bif Nat.beq ti.kind 2 then (match fillC (fun i => (ti.fs[i]?).map fun f => (f.1, f.2.1)) zc (parts.toList.map fun p => (p.1, e p.2)) with
          | some cs => some (true, .g cs)
          | none => none)
        else bif Nat.beq ti.kind 4 then (match τ.get ti.el with
          | some te => match fillC (fun i => some (i * te.size, te.size)) zc (parts.toList.map fun p => (p.1, e p.2)) with
            | some cs => some (true, .g cs)
            | none => none
          | none => none)
        else none
      | none => none
    | none => none
  | .load t a => match τ.get t, e a with
    | some ti, .c p => match loadCells o ti.size ti.agg p with
      | some v => some (true, v)
      | none => none
    | _, _ => none
  | .nilCheck x => match e x with
    | .c (.pb n i) => some (true, .c (.pb n i))
    | .c (.pa n s i j) => some (true, .c (.pa n s i j))
    | .c (.pe t y j) => some (true, .c (.pe t y j))
    | _ => none
  | .binOp op xt x y _ => match nilOp y with
    | some k => nilBin τ op xt k (e x)
    | none => bin τ op xt (e x) (e y)
  | .makeFunc (.func f) first captured => match first.toList, capsOf (captured.toList.map e) with
    | [], some cs => some (true, .c (.clo f cs))
    | _, _ => none
  | .lookup t m k false => match τ.get t, e m with
    | some ti, .c (.mp n) => match o n with
      | some (.mp kt (.int vk) ka kvs) => match τ.get ti.el, mkey ka kt (e k) with
        | some te, some key => bif Nat.beq ti.kind 9 && (Nat.beq te.kind 1 && (decide (te.ik = vk) && keyOk τ ti.ky kt ka)) then some (true, .c (.v (.int vk) (mget kt key kvs))) else none
        | _, _ => none
      | _ => none
    | _, _ => none
  | .unOp op _ x => match op, e x with
    | .not, .c (.v .bool b) => some (true, .c (.v .bool (!b)))
    | .neg, .c (.v (.int k) n) => some (true, .c (.v (.int k) (k.wrap (0 - n))))
    | _, _ => none
  | .convert q d x => match τ.get q with
   | none => none
   | some tq => match τ.get d, e x with
    | some ti, .c (.v (.int _) n) => bif Nat.beq ti.kind 1 then some (true, .c (.v (.int ti.ik) (ti.ik.wrap n))) else none
    | some ti, .c (.v .str s) => bif Nat.beq ti.kind 5 then some (true, .c (.v .str s)) else none
    | some ti, .c (.v (.sl (.int .u8)) xs) => bif (Nat.beq ti.kind 5 && isBytes τ tq) then some (true, .c (.v .str (bytesOf xs))) else none
    | some ti, .c .nil => bif (Nat.beq ti.kind 5 && isBytes τ tq) then some (true, .c (.v .str (bytesOf []))) else none
    | some ti, .c (.own n) => match o n with
      | some (.arr _ (.int .u8) xs) => bif (Nat.beq ti.kind 5 && isBytes τ tq) then some (true, .c (.v .str (bytesOf xs))) else none
      | _ => none
    | _, _ => none
  | .slice ty x lo hi none => match τ.get ty, e x with
    | some ti, .c (.v .str s) => bif Nat.beq ti.kind 5 then (match lo.map e, hi.map e with
      | none, none => some (true, .c (.v .str s))
      | some (.c (.v (.int _) l)), none => some (rng l s.size s.size, .c (.v .str (sub s l s.size)))
      | none, some (.c (.v (.int _) h)) => some (rng 0 h s.size, .c (.v .str (sub s 0 h)))
      | some (.c (.v (.int _) l)), some (.c (.v (.int _) h)) => some (rng l h s.size, .c (.v .str (sub s l h)))
      | _, _ => none) else none
    | some ti, .c (.v (.sl t) xs) => bif Nat.beq ti.kind 3 then (match τ.get ti.el with
      | some te => bif Nat.beq te.size t.sz then (match lo.map e, hi.map e with
        | none, none => some (true, .c (.v (.sl t) xs))
        | some (.c (.v (.int _) l)), none => some (rng l (List.length xs) (List.length xs), .c (.v (.sl t) (sl xs l (List.length xs))))
        | none, some (.c (.v (.int _) h)) => some (rng 0 h (List.length xs), .c (.v (.sl t) (sl xs 0 h)))
        | some (.c (.v (.int _) l)), some (.c (.v (.int _) h)) => some (rng l h (List.length xs), .c (.v (.sl t) (sl xs l h)))
        | _, _ => none) else none
      | none => none) else none
    | _, _ => none
  | .fieldAddr s x f => match τ.get s, e x with
    | some ti, .c p => bif Nat.beq ti.kind 2 then (match ti.fs[f]? with
        | some fd => (match place fd.1 p with
          | some q => some (true, .c q)
          | none => none)
        | none => none) else none
    | _, _ => none
  | .field s x f => match τ.get s, e x with
    | some ti, .g cs => bif Nat.beq ti.kind 2 then (match ti.fs[f]? with
        | some fd => (match part cs fd.1 fd.2.1 fd.2.2 with
          | some v => some (true, v)
          | none => none)
        | none => none) else none
    | _, _ => none
  | .indexAddr t x i => match τ.get t, e x, e i with
    | some ti, .c p, .c (.v (.int _) j) => bif Nat.beq ti.kind 3 then (match τ.get ti.el with
      | some te => idxAddr o te.size j p
      | none => none) else none
    | _, _, _ => none
  | .index t x i => match τ.get t, e x, e i with
    | some ti, .c (.v .str s), .c (.v (.int _) j) => bif Nat.beq ti.kind 5 then some (inb j (ByteArray.size s), .c (.v (.int .u8) (bt s j))) else none
    | some ti, .g cs, .c (.v (.int _) j) => bif Nat.beq ti.kind 4 then (match τ.get ti.el with
        | some te => match te.ty with
          | some ty => bif te.agg then (match rowAs ty (cs.length / te.size) cs with
            | some xs => bif Nat.beq (xs.length * te.size) ti.size then some (inb j xs.length, .g (split ty (xs.getD j.toNat ty.zero))) else none
            | none => none)
            else bif (Nat.beq te.size 1 && !te.agg && Nat.beq cs.length ti.size) then (match allAs ty cs with
            | some xs => some (inb j xs.length, .c (.v ty (xs.getD j.toNat ty.zero)))
            | none => none) else none
          | none => none
        | none => none) else none
    | _, _, _ => none
  | .extract x i => match e x with
    | .tup cs => match cs[i]? with
      | some p => match ofCells p.1 p.2 with
        | some v => some (true, v)
        | none => none
      | none => none
    | _ => none
  | .call { callee := .builtin b, args, argTypes } => match b, args.toList.map e with
    | .len, [.c x] => match lenOf o x, argTypes.toList with
      | some n, at_ :: _ => match τ.get at_ with
        | some ti => bif (Nat.beq ti.kind (lenKind x) && !Nat.beq ti.kind 0) then some (true, .c (.v (.int .i64) n)) else none
        | none => none
      | _, _ => none
    | .min, [.c (.v (.int k) a), .c (.v (.int l) b)] => if k = l then some (true, .c (.v (.int k) (mn a b))) else none
    | .max, [.c (.v (.int k) a), .c (.v (.int l) b)] => if k = l then some (true, .c (.v (.int k) (mx a b))) else none
    | _, _ => none
  | _ => none

/-! ## Operations that make an object: it, and what points to it -/
def rows (t : Ty) (xs : List t.den) : List (Nat × AV) → Option (List t.den)
  | [] => some xs
  | (i, v) :: r => match asCells v with
    | some cs => match joinAll t cs with
      | some x => bif Nat.blt i xs.length then rows t (xs.set i x) r else none
      | none => none
    | none => none

def mop (τ : Tab) (op : Op) (e : Operand → AV) (nm : Nm) : Option (Bool × Ob × AV) :=
  match op with
  | .alloc t => match τ.get t with
    | some ti => match ti.z0 with
      | some zc => some (true, .box zc, .c (.pb nm 0))
      | none => none
    | none => none
  | .makeMap t none => match τ.get t with
    | some ti => match τ.get ti.ky, τ.get ti.el with
      | some tk, some te => match tk.ty with
        | some kt => bif Nat.beq ti.kind 9 && (Nat.beq te.kind 1 && keyOk τ ti.ky kt tk.agg) then some (true, .mp kt (.int te.ik) tk.agg [], .c (.mp nm)) else none
        | none => none
      | _, _ => none
    | none => none
  | .box t x => match τ.get t, asCells (e x) with
    | some _, some cs => some (true, .box cs, .c (.pb nm 0))
    | _, _ => none
  | .buildSlice t n ps => match τ.get t with
    | some ti => bif Nat.beq ti.kind 3 then (match τ.get ti.el with
      | some te => match te.ty with
        | some ty => bif Nat.ble (n * te.size) 65536 then (match rows ty (List.replicate n ty.zero) (ps.toList.map fun p => (p.1, e p.2)) with
          | some xs => some (true, .arr ti.el ty xs, .c (.own nm))
          | none => none) else none
        | none => none
      | none => none) else none
    | none => none
  | .makeSlice t l c => match τ.get t, e l, e c with
    | some ti, .c (.v (.int .i64) n), .c (.v (.int .i64) m) => bif Nat.beq ti.kind 3 then (match τ.get ti.el with
      | some te => match te.ty with
        | some ty => bif Nat.ble te.bytes 65536 then some (decide (0 ≤ n ∧ n ≤ m ∧ m ≤ 4294967296), .arr ti.el ty (List.replicate n.toNat ty.zero), .c (.own nm)) else none
        | none => none
      | none => none) else none
    | _, _, _ => none
  | _ => none

/-! ## Stores, appends, cuts of own arrays -/
def storeTo (o : Nm → Option Ob) (new : List CV) : CV → Option (Nm × Ob)
  | .pb nm off => match o nm with
    | some (.box cs) => bif Nat.ble (off + new.length) cs.length then some (nm, .box (spl cs off new)) else none
    | _ => none
  | .pa nm _ i j => match o nm with
    | some (.arr e t xs) => bif Nat.ble (j + new.length) t.sz then (match joinAll t (spl (split t (xs.getD i t.zero)) j new) with
      | some x => some (nm, .arr e t (xs.set i x))
      | none => none) else none
    | _ => none
  | _ => none

/-- What is appended: its elements. -/
def source (o : Nm → Option Ob) (t : Ty) : CV → Option (List t.den)
  | .own m => match o m with
    | some (.arr _ u ys) => match Ty.same u t with
      | some ⟨h⟩ => some (Ty.cast (congrArg Ty.sl h) ys)
      | none => none
    | _ => none
  | c => c.as (.sl t)

/-- May it be laid into a cell? -/
def CV.fine : CV → Bool
  | .dead => false
  | .raw (.agg _) => false
  | .raw (.tuple _) => false
  | _ => true

def wop (τ : Tab) (op : Op) (dst : Option Nat) (s : St) : Option (Bool × St) :=
  match op with
  | .store t a x => match τ.get t, s.ev a, asCells (s.ev x) with
    | some ti, .c p, some new => bif (Nat.beq new.length ti.size && new.all CV.fine) then (match storeTo s.o new p with
      | some (nm, ob) => some (true, (s.setO nm ob).put dst (.c .dead))
      | none => none) else none
    | _, _, _ => none
  | .mapUpdate t m k v => match τ.get t, s.ev m, s.ev v with
    | some ti, .c (.mp n), .c (.v (.int vk') x) => match s.o n with
      | some (.mp kt (.int vk) ka kvs) => match mkey ka kt (s.ev k) with
        | some key => bif Nat.beq ti.kind 9 && (decide (vk' = vk) && keyOk τ ti.ky kt ka) then some (true, (s.setO n (.mp kt (.int vk) ka (mput kt key x kvs))).put dst (.c .dead)) else none
        | none => none
      | _ => none
    | _, _, _ => none
  | .mapEntry t m k => match τ.get t, s.ev m with
    | some ti, .c (.mp n) => match s.o n with
      | some (.mp kt (.int vk) ka kvs) => match τ.get ti.el, mkey ka kt (s.ev k) with
        | some te, some key => bif Nat.beq ti.kind 9 && (Nat.beq te.kind 1 && (decide (te.ik = vk) && keyOk τ ti.ky kt ka)) then some (true, (s.setO n (.mp kt (.int vk) ka (mput kt key (mget kt key kvs) kvs))).put dst (.tup [(false, [.v (.int vk) (mget kt key kvs)]), (false, [.v (.int .i64) (mpos kt key kvs)])])) else none
        | _, _ => none
      | _ => none
    | _, _ => none
  | .entryStore _ m j v => match s.ev m, s.ev j, s.ev v with
    | .c (.mp n), .c (.v (.int .i64) i), .c (.v (.int vk') x) => match s.o n with
      | some (.mp kt (.int vk) ka kvs) => if vk' = vk then some (inb i (List.length kvs), (s.setO n (.mp kt (.int vk) ka (mset i x kvs))).put dst (.c .dead)) else none
      | _ => none
    | _, _, _ => none
  | .call { callee := .builtin .append, args, argTypes } => match dst, args.toList.map s.ev, argTypes.toList with
    | some d, [.c x, .c y], [at_, bt_] => match τ.get at_ with
      | some ti => bif (Nat.beq ti.kind 3 && Nat.beq at_ bt_) then (match τ.get ti.el with
        | some te => match te.ty with
          | some ty => bif Nat.ble te.bytes 4096 then
            (match x with
              | .own n => match s.o n with
                | some (.arr q u xs) => bif Nat.beq q ti.el then (match Ty.same u ty with
                  | some ⟨h⟩ => match source s.o ty y with
                    | some ys => some (room ((Ty.cast (congrArg Ty.sl h) xs).length + ys.length), (((s.past n (Ty.cast (congrArg Ty.sl h) xs).length).drop [d, 0]).setO [d, 0] (.arr ti.el ty (Ty.cast (congrArg Ty.sl h) xs ++ ys))).put dst (.c (.own [d, 0])))
                    | none => none
                  | none => none) else none
                | _ => none
              | .nil => match source s.o ty y with
                | some ys => some (room ys.length, ((s.drop [d, 0]).setO [d, 0] (.arr ti.el ty ys)).put dst (.c (.own [d, 0])))
                | none => none
              | _ => none) else none
          | none => none
        | none => none) else none
      | none => none
    | _, _, _ => none
  | .slice ty x lo hi none => match τ.get ty, s.ev x with
   | some ti, .c (.own n) => bif Nat.beq ti.kind 3 then (match s.o n, τ.get ti.el with
      | some (.arr _ t xs), some te => bif Nat.beq te.size t.sz then (match lo.map s.ev, hi.map s.ev with
        | none, none => some (true, s.put dst (.c (.own n)))
        | some (.c (.v (.int _) l)), none => some (rng l xs.length xs.length, (s.freeze n t xs).put dst (.c (.v (.sl t) (sl xs l xs.length))))
        | none, some (.c (.v (.int _) h)) => some (rng 0 h xs.length, (s.freeze n t xs).put dst (.c (.v (.sl t) (sl xs 0 h))))
        | some (.c (.v (.int _) l)), some (.c (.v (.int _) h)) => some (rng l h xs.length, (s.freeze n t xs).put dst (.c (.v (.sl t) (sl xs l h))))
        | _, _ => none) else none
      | _, _ => none) else none
   | _, _ => none
  | _ => none

end AM
end Go.Proofs.YtpcdcnmmkfhliaaGreatDoor
