/- The evaluator: calls, loops, the code of a function. No condition. -/
import Derived.Test.YtpcdcnmmkfhliaaGreatDoorAMb
namespace Go.Proofs.YtpcdcnmmkfhliaaGreatDoor
namespace AM
open Go

/-- One cell that goes in or comes out: a value (i), an own array that is handed over (o), an own array that is lent to be written (b). -/
inductive PS where
  | i (t : Ty)
  | o (e : Nat) (t : Ty)
  | b (e : Nat) (t : Ty)
  | q (n : Nm) (off : Nat)
  | f (g : Nat) (cs : List (Nm × Nat))
  | e
  | m (kt vt : Ty) (ka : Bool)

def PS.ty : PS → Ty
  | .i t => t
  | .o _ t => .sl t
  | .b _ t => .sl t
  | .m kt vt _ => .sl (.pr kt vt)
  | _ => .bool

/-- Does what stands there lead to memory that others may share? -/
def PS.shares : PS → Bool
  | .i t => t.hasSl
  | .o _ t => t.hasSl
  | .b _ t => t.hasSl
  | _ => false

/-- A parameter: one cell, a struct by value, a pointer to cells. -/
inductive Par where
  | c (p : PS)
  | g (ps : List PS)
  | p (ps : List PS)

/-! ## The shape of a state: what stands in which slot -/
inductive En where
  | val (slot : Nat) (p : PS)
  | agg (slot : Nat) (ps : List PS)
  | box (slot : Nat) (n : Nm) (ps : List PS)
  | ptr (slot : Nat) (n : Nm) (off : Nat)
  | nbox (slot : Nat) (n : Nm) (ps : List PS)
  | hid (n : Nm) (ps : List PS)

def En.slot : En → Nat
  | .val i _ => i
  | .agg i _ => i
  | .box i _ _ => i
  | .ptr i _ _ => i
  | .nbox i _ _ => i
  | .hid _ _ => 0
def En.cells : En → List PS
  | .val _ p => [p]
  | .agg _ ps => ps
  | .box _ _ ps => ps
  | .ptr _ _ _ => []
  | .nbox _ _ ps => ps
  | .hid _ ps => ps
def entys (l : List En) : List Ty := l.flatMap fun e => e.cells.map PS.ty

/-- The name that an array has in a shape. -/
def nmOf (slot k : Nat) : PS → Nm
  | .b _ _ => [slot, k, 99]
  | _ => [slot, k]
def nmBox (n : Nm) (k : Nat) (_ : PS) : Nm := n ++ [k]

/-- The names whose headers stay while a function runs. -/
def kept : Nm → Bool
  | [_] => true
  | [_, _, k] => Nat.beq k 99
  | _ => false

def psNames (nm : Nat → PS → Nm) : Nat → List PS → List Nm
  | _, [] => []
  | k, .o e t :: ps => nm k (.o e t) :: psNames nm (k + 1) ps
  | k, .b e t :: ps => nm k (.b e t) :: psNames nm (k + 1) ps
  | k, .m kt vt ka :: ps => nm k (.m kt vt ka) :: psNames nm (k + 1) ps
  | k, _ :: ps => psNames nm (k + 1) ps
def En.names : En → List Nm
  | .val i p => psNames (nmOf i) 0 [p]
  | .agg i ps => psNames (nmOf i) 0 ps
  | .box _ n ps => n :: psNames (nmBox n) 0 ps
  | .ptr _ _ _ => []
  | .nbox _ n ps => n :: psNames (nmBox n) 0 ps
  | .hid n ps => n :: psNames (nmBox n) 0 ps
/-- The names that arrays get that are handed over. -/
def psNew (nm : Nat → PS → Nm) : Nat → List PS → List Nm
  | _, [] => []
  | k, .o e t :: ps => nm k (.o e t) :: psNew nm (k + 1) ps
  | k, .m kt vt ka :: ps => nm k (.m kt vt ka) :: psNew nm (k + 1) ps
  | k, _ :: ps => psNew nm (k + 1) ps
def En.new : En → List Nm
  | .val i p => psNew (nmOf i) 0 [p]
  | .agg i ps => psNew (nmOf i) 0 ps
  | .box _ n ps => psNew (nmBox n) 0 ps
  | .ptr _ _ _ => []
  | .nbox _ n ps => n :: psNew (nmBox n) 0 ps
  | .hid n ps => psNew (nmBox n) 0 ps

def memN (n : Nm) : List Nm → Bool
  | [] => false
  | m :: r => bif Nm.eqb n m then true else memN n r
def nodupN : List Nm → Bool
  | [] => true
  | n :: r => !memN n r && nodupN r
def apartN (xs ys : List Nm) : Bool := xs.all fun x => !memN x ys

def shapeOk (N : Nat) (es : List En) : Bool :=
  nodupN (es.flatMap En.names) && ((es.flatMap En.new).all (fun n => !kept n) && es.all fun e => Nat.blt e.slot N && (match e with
    | .ptr _ n _ => !memN n (es.flatMap En.new)
    | _ => true))

/-! ### A shape is filled -/
def mkCell (n : Nm) : PS → DV → CV
  | .i _, d => .v d.t d.x
  | .o _ _, _ => .own n
  | .b _ _, _ => .own n
  | .q m off, _ => .pb m off
  | .f g cs, _ => .clo g cs
  | .e, d => match d.as .bool with
    | some b => .er b
    | none => .dead
  | .m _ _ _, _ => .mp n
def arrO (n : Nm) (e : Nat) (t : Ty) (d : DV) : List (Nm × Ob) := match d.as (.sl t) with
  | some xs => [(n, .arr e t xs)]
  | none => []
def mapO (n : Nm) (kt vt : Ty) (ka : Bool) (d : DV) : List (Nm × Ob) := match d.as (.sl (.pr kt vt)) with
  | some xs => [(n, .mp kt vt ka xs)]
  | none => []
def mkO (n : Nm) : PS → DV → List (Nm × Ob)
  | .i _, _ => []
  | .o e t, d => arrO n e t d
  | .b e t, d => arrO n e t d
  | .m kt vt ka, d => mapO n kt vt ka d
  | _, _ => []
def mkCells (nm : Nat → PS → Nm) : Nat → List PS → List DV → List CV
  | k, p :: ps, d :: ds => mkCell (nm k p) p d :: mkCells nm (k + 1) ps ds
  | _, _, _ => []
def mkOs (nm : Nat → PS → Nm) : Nat → List PS → List DV → List (Nm × Ob)
  | k, p :: ps, d :: ds => mkO (nm k p) p d ++ mkOs nm (k + 1) ps ds
  | _, _, _ => []

def mkV : En → List DV → AV
  | .val i p, ds => match mkCells (nmOf i) 0 [p] ds with
    | c :: _ => .c c
    | [] => .c .dead
  | .agg i ps, ds => .g (mkCells (nmOf i) 0 ps ds)
  | .box _ n _, _ => .c (.pb n 0)
  | .ptr _ n off, _ => .c (.pb n off)
  | .nbox _ n _, _ => .c (.pb n 0)
  | .hid _ _, _ => .c .dead
def mkB : En → List DV → List (Nm × Ob)
  | .val i p, ds => mkOs (nmOf i) 0 [p] ds
  | .agg i ps, ds => mkOs (nmOf i) 0 ps ds
  | .box _ n ps, ds => (n, .box (mkCells (nmBox n) 0 ps ds)) :: mkOs (nmBox n) 0 ps ds
  | .ptr _ _ _, _ => []
  | .nbox _ n ps, ds => (n, .box (mkCells (nmBox n) 0 ps ds)) :: mkOs (nmBox n) 0 ps ds
  | .hid n ps, ds => (n, .box (mkCells (nmBox n) 0 ps ds)) :: mkOs (nmBox n) 0 ps ds
def mkVs : List En → List DV → List (Nat × AV)
  | [], _ => []
  | e :: r, ds => (e.slot, mkV e (ds.take e.cells.length)) :: mkVs r (ds.drop e.cells.length)
def mkBs : List En → List DV → List (Nm × Ob)
  | [], _ => []
  | e :: r, ds => mkB e (ds.take e.cells.length) ++ mkBs r (ds.drop e.cells.length)

def look (l : List (Nat × AV)) (i : Nat) : AV :=
  match l with
  | [] => .c .dead
  | p :: r => bif Nat.beq p.1 i then p.2 else look r i
def lookO (l : List (Nm × Ob)) (n : Nm) : Option Ob :=
  match l with
  | [] => none
  | p :: r => bif Nm.eqb p.1 n then some p.2 else lookO r n

def mkD (es : List En) (ds : List DV) : St := ⟨look (mkVs es ds), lookO (mkBs es ds)⟩
def mkSt (es : List En) (x : TD (entys es)) : St := mkD es (unpack _ x)

/-! ### A shape is read -/
inductive Tag where
  | no
  | ln (n : Nm)
  | mv (new n : Nm)
  | bw (new n : Nm)
  | pb (new n : Nm) (off len : Nat)
  | pa (new n : Nm) (i j len : Nat)
  | mx (new n : Nm) (len : Nat)
  | pt (l : List ((Nm × Nat) × (Nm × Nat)))
  | mm (new n : Nm)

def eqOpt (q : Nat) : Option Nat → Bool
  | some p => Nat.beq q p
  | none => true
def getO (o : Nm → Option Ob) (e : Option Nat) (t : Ty) (n : Nm) : Option (List t.den) :=
  match o n with
  | some (.arr q u xs) => bif eqOpt q e then (match Ty.same u t with
    | some ⟨h⟩ => some (Ty.cast (congrArg Ty.sl h) xs)
    | none => none) else none
  | _ => none

def getM (o : Nm → Option Ob) (kt vt : Ty) (ka : Bool) (n : Nm) : Option (List (kt.den × vt.den)) :=
  match o n with
  | some (.mp k v a kvs) => bif a == ka then (match Ty.same (.sl (.pr k v)) (.sl (.pr kt vt)) with
    | some ⟨h⟩ => some (Ty.cast h kvs)
    | none => none) else none
  | _ => none
def psGet (o : Nm → Option Ob) (new : Nm) : PS → CV → Option (DV × Tag)
  | .i t, c => match c with
    | .own n => match t with
      | .sl u => match getO o none u n with
        | some xs => some (⟨.sl u, xs⟩, .ln n)
        | none => none
      | _ => none
    | c => match c.as t with
      | some x => some (⟨t, x⟩, .no)
      | none => none
  | .o e t, c => match c with
    | .own n => match getO o (some e) t n with
      | some xs => some (⟨.sl t, xs⟩, .mv new n)
      | none => none
    | .nil => some (⟨.sl t, []⟩, .no)
    | _ => none
  | .b e t, c => match c with
    | .own n => match getO o (some e) t n with
      | some xs => some (⟨.sl t, xs⟩, .bw new n)
      | none => none
    | _ => none
  | .q n off, c => match c with
    | .pb m k => some (⟨.bool, false⟩, .pt [((n, off), (m, k))])
    | _ => none
  | .f g cs, c => match c with
    | .clo h ds => bif Nat.beq g h && Nat.beq cs.length ds.length then some (⟨.bool, false⟩, .pt (cs.zip ds)) else none
    | _ => none
  | .e, c => match c with
    | .er b => some (⟨.bool, b⟩, .no)
    | .raw .nilIface => some (⟨.bool, false⟩, .no)
    | _ => none
  | .m kt vt ka, c => match c with
    | .mp n => match getM o kt vt ka n with
      | some xs => some (⟨.sl (.pr kt vt), xs⟩, .mm new n)
      | none => none
    | _ => none

def psGets (o : Nm → Option Ob) (nm : Nat → PS → Nm) : Nat → List PS → List CV → Option (List DV × List Tag)
  | _, [], [] => some ([], [])
  | k, p :: ps, c :: cs => match psGet o (nm k p) p c, psGets o nm (k + 1) ps cs with
    | some (d, t), some (ds, ts) => some (d :: ds, t :: ts)
    | _, _ => none
  | _, _, _ => none

def noB : List PS → Bool
  | [] => true
  | .b _ _ :: _ => false
  | _ :: r => noB r
def allI : List PS → Bool
  | [] => true
  | .i _ :: r => allI r
  | _ :: _ => false

def enGet (o : Nm → Option Ob) : En → AV → Option (List DV × List Tag)
  | .val i p, .c x => psGets o (nmOf i) 0 [p] [x]
  | .agg i ps, .g cs => psGets o (nmOf i) 0 ps cs
  | .box _ n ps, .c (.pb m off) => match o m with
    | some (.box cs) => bif Nat.ble (off + ps.length) cs.length && (Nat.blt 0 ps.length && noB ps) then (match psGets o (nmBox n) 0 ps ((cs.drop off).take ps.length) with
      | some (ds, ts) => some (ds, .pb n m off ps.length :: ts)
      | none => none) else none
    | _ => none
  | .box _ n ps, .c (.pa m _ i j) => match o m with
    | some (.arr _ t xs) => bif Nat.ble (j + ps.length) t.sz && (Nat.blt 0 ps.length && allI ps) then (match psGets o (nmBox n) 0 ps (((split t (xs.getD i t.zero)).drop j).take ps.length) with
      | some (ds, ts) => some (ds, .pa n m i j ps.length :: ts)
      | none => none) else none
    | _ => none
  | .ptr _ n off, .c (.pb m k) => bif Nm.eqb m n && Nat.beq k off then some ([], []) else none
  | .nbox _ n ps, .c (.pb m 0) => match o m with
    | some (.box cs) => bif Nat.beq ps.length cs.length && (Nat.blt 0 ps.length && noB ps) then (match psGets o (nmBox n) 0 ps cs with
      | some (ds, ts) => some (ds, .mx n m ps.length :: ts)
      | none => none) else none
    | _ => none
  | .hid n ps, _ => match o n with
    | some (.box cs) => bif Nat.beq ps.length cs.length && (Nat.blt 0 ps.length && noB ps) then (match psGets o (nmBox n) 0 ps cs with
      | some (ds, ts) => some (ds, .pb n n 0 ps.length :: ts)
      | none => none) else none
    | _ => none
  | _, _ => none
def getVs (o : Nm → Option Ob) : List En → List AV → Option (List DV × List Tag)
  | [], [] => some ([], [])
  | e :: es, v :: vs => match enGet o e v, getVs o es vs with
    | some (ds, ts), some (ds', ts') => some (ds ++ ds', ts ++ ts')
    | _, _ => none
  | _, _ => none

/-- The names that are written or go: no two alike; none of them only lent. -/
def Tag.pair : Tag → List (Nm × Nm)
  | .mv new n => [(new, n)]
  | .bw new n => [(new, n)]
  | .pb new n _ _ => [(new, n)]
  | .pa new n _ _ _ => [(new, n)]
  | .mx new n _ => [(new, n)]
  | .mm new n => [(new, n)]
  | _ => []
def Tag.lent : Tag → List Nm
  | .ln n => [n]
  | _ => []
def Tag.moved : Tag → List Nm
  | .mv _ n => [n]
  | _ => []
def Tag.new : Tag → Option Nm
  | .bw new _ => some new
  | .pb new _ _ _ => some new
  | .pa new _ _ _ _ => some new
  | .mx new _ _ => some new
  | _ => none
def findTag (n : Nm) : List Tag → Tag
  | [] => .no
  | t :: r => match t.new with
    | some m => bif Nm.eqb m n then t else findTag n r
    | none => findTag n r
def Tag.pts : Tag → List ((Nm × Nat) × (Nm × Nat))
  | .pt l => l
  | _ => []
/-- A pointer that stands in a cell leads to a box that is handed over, too. -/
def ptOk (ts : List Tag) (p : (Nm × Nat) × (Nm × Nat)) : Bool := match findTag p.1.1 ts with
  | .pb _ m off _ => Nm.eqb m p.2.1 && Nat.beq (off + p.1.2) p.2.2
  | .mx _ m _ => Nm.eqb m p.2.1 && Nat.beq p.1.2 p.2.2
  | _ => false
def tagsOk (ts : List Tag) : Bool :=
  nodupN ((ts.flatMap Tag.pair).map Prod.snd) && (apartN (ts.flatMap Tag.lent) ((ts.flatMap Tag.pair).map Prod.snd) && (ts.flatMap Tag.pts).all (ptOk ts))
/-- What is lent within a function keeps its name. -/
def Tag.stays : Tag → Bool
  | .bw new n => Nm.eqb new n
  | .pb new n off _ => Nm.eqb new n && Nat.beq off 0
  | .pa _ _ _ _ _ => false
  | _ => true

def shut (N : Nat) (es : List En) (vs : List AV) (o : Nm → Option Ob) : Option (TD (entys es)) :=
  match getVs o es vs with
  | some (ds, ts) => bif shapeOk N es && (tagsOk ts && ts.all Tag.stays) then pack (entys es) ds else none
  | none => none
def getEns (N : Nat) (es : List En) (s : St) : Option (TD (entys es)) := shut N es (es.map fun e => s.t e.slot) s.o

/-! ## Functions -/
def parEns : Nat → List Par → List En
  | _, [] => []
  | i, .c p :: r => .val i p :: parEns (i + 1) r
  | i, .g ps :: r => .agg i ps :: parEns (i + 1) r
  | i, .p ps :: r => .box i [i] ps :: parEns (i + 1) r
/-- What the parameters give back. -/
def outEns : Nat → List Par → List En
  | _, [] => []
  | i, .c (.b e t) :: r => .val i (.b e t) :: outEns (i + 1) r
  | i, .p ps :: r => .box i [i] ps :: outEns (i + 1) r
  | i, _ :: r => outEns (i + 1) r
def keptAV : AV → Bool
  | .c (.pb n _) => kept n
  | .c (.own n) => kept n
  | _ => false
def outAVs (f : Nat → AV) : Nat → List Par → Option (List AV)
  | _, [] => some []
  | i, p :: r => match outAVs f (i + 1) r with
    | some l => match p with
      | .c (.b _ _) => bif keptAV (f i) then some (f i :: l) else none
      | .p _ => bif keptAV (f i) then some (f i :: l) else none
      | _ => some l
    | none => none
def resEns : Nat → List (Bool × List PS) → List En
  | _, [] => []
  | k, (true, ps) :: r => .agg k ps :: resEns (k + 1) r
  | k, (false, ps) :: r => .val k (ps.headD (.i .bool)) :: resEns (k + 1) r
def nbEns : Nat → List (Nat × Nm × List PS) → List En
  | _, [] => []
  | k, p :: r => .nbox k p.2.1 p.2.2 :: nbEns (k + 1) r
def endEns (pars : List Par) (res : List (Bool × List PS)) (nb : List (Nat × Nm × List PS)) : List En := outEns 0 pars ++ (resEns pars.length res ++ nbEns (pars.length + res.length) nb)

structure FSum where
  pars : List Par
  /-- the last parameters are none of Go's: a pointer that stands in a cell of an earlier one, or that a closure has captured -/
  gh : List (Nat × Nat × Option Nat) := []
  /-- new boxes that come out: to which result, the name, the cells -/
  nb : List (Nat × Nm × List PS) := []
  /-- the results: a struct or not, its cells -/
  res : List (Bool × List PS)
  g : TD (entys (parEns 0 pars)) → Option (TD (entys (endEns pars res nb)))

def FSum.ens (S : FSum) : List En := endEns S.pars S.res S.nb
def FSum.real (S : FSum) : Nat := S.pars.length - S.gh.length
def FSum.shares (S : FSum) : Bool := S.ens.any fun e => e.cells.any PS.shares

def St.frz1 (s : St) (n : Nm) : St := match s.o n with
  | some (.arr _ t xs) => s.freeze n t xs
  | _ => s
def St.frzs (s : St) : List Nm → St
  | [] => s
  | n :: r => (s.frz1 n).frzs r
def St.drops (s : St) : List Nm → St
  | [] => s
  | n :: r => (s.drop n).drops r

/-! ### What a call gives back is laid where it came from; the rest gets names of the call -/
def isF (d : Nat) (names : List Nm) : Nm → Bool
  | [] => false
  | x :: m => Nat.beq x d && memN m names
def renP (d : Nat) (ts : List Tag) (names : List Nm) (p : Nm × Nat) : Option (Nm × Nat) := match findTag p.1 ts with
  | .pb _ m off _ => bif kept p.1 && !isF d names m then some (m, off + p.2) else none
  | .no => bif memN p.1 names then some (d :: p.1, p.2) else none
  | _ => none
def renPs (d : Nat) (ts : List Tag) (names : List Nm) : List (Nm × Nat) → Option (List (Nm × Nat))
  | [] => some []
  | p :: r => match renP d ts names p, renPs d ts names r with
    | some q, some l => some (q :: l)
    | _, _ => none
def renC (d : Nat) (ts : List Tag) (names : List Nm) : CV → CV
  | .own n => .own (d :: n)
  | .v t x => .v t x
  | .er b => .er b
  | .pb n i => match renP d ts names (n, i) with
    | some q => .pb q.1 q.2
    | none => .dead
  | .clo f cs => match renPs d ts names cs with
    | some l => .clo f l
    | none => .dead
  | _ => .dead
def AV.ren (d : Nat) (ts : List Tag) (names : List Nm) : AV → AV
  | .c x => .c (renC d ts names x)
  | .g cs => .g (cs.map (renC d ts names))
  | .tup l => .tup (l.map fun p => (p.1, p.2.map (renC d ts names)))
def AV.part : AV → Bool × List CV
  | .c x => (false, [x])
  | .g cs => (true, cs)
  | .tup _ => (false, [.dead])
def resAV (ts : List (Nat × AV)) (np : Nat) : Nat → AV
  | 1 => look ts np
  | n => .tup ((List.range n).map fun j => (look ts (np + j)).part)

def upOf (d : Nat) (o : Nm → Option Ob) (ts : List Tag) (names : List Nm) (m : Nm) (ob : Ob) : Option (Nm × Ob) :=
  match findTag m ts with
  | .bw _ n => match ob with
    | .arr e t xs => match o n with
      | some (.arr _ u _) => bif kept m && Nat.beq u.sz t.sz then some (n, .arr e t xs) else none
      | _ => none
    | _ => none
  | .pb _ n off len => match ob with
    | .box cells => match o n with
      | some (.box cs) => bif kept m && (Nat.ble (off + len) cs.length && Nat.beq cells.length len) then some (n, .box (spl cs off (cells.map (renC d ts names)))) else none
      | _ => none
    | _ => none
  | .pa _ _ _ _ _ => none
  | .mx _ _ _ => none
  | _ => match ob with
    | .arr e t xs => some (d :: m, .arr e t xs)
    | .box cells => some (d :: m, .box (cells.map (renC d ts names)))
    | .mp _ _ _ _ => none
def upsOf (d : Nat) (o : Nm → Option Ob) (ts : List Tag) (names : List Nm) : List (Nm × Ob) → Option (List (Nm × Ob))
  | [] => some []
  | (m, ob) :: r => match upOf d o ts names m ob, upsOf d o ts names r with
    | some q, some l => some (q :: l)
    | _, _ => none
def St.over (ups : List (Nm × Ob)) (s : St) : St := ⟨s.t, fun n => match lookO ups n with
  | some ob => some ob
  | none => s.o n⟩
def CV.flat : CV → Bool
  | .v t _ => !t.hasSl
  | _ => true
def AV.flat : AV → Bool
  | .c x => x.flat
  | .g cs => cs.all CV.flat
  | .tup _ => false
def Ob.flat : Ob → Bool
  | .box cs => cs.all CV.flat
  | .arr _ t _ => !t.hasSl
  | .mp _ _ _ _ => false
def isNil : List Nm → Bool
  | [] => true
  | _ => false
def isNilG : List (Nat × Nat × Option Nat) → Bool
  | [] => true
  | _ => false
def isNilP : List ((Nm × Nat) × (Nm × Nat)) → Bool
  | [] => true
  | _ => false
def callOk (S : FSum) (d : Nat) (o : Nm → Option Ob) (ts : List Tag) (te : List (Nat × AV)) (oe ups : List (Nm × Ob)) : Bool :=
  nodupN (ups.map Prod.fst) && (nodupN (oe.map Prod.fst) && ((bif S.shares then true else te.all (fun p => p.2.flat) && oe.all (fun q => q.2.flat)) &&
    ((S.ens.flatMap En.names).all (fun m => !kept (d :: m)) && ((ts.flatMap Tag.pair).map Prod.snd).all (fun n => match o n with
      | some _ => memN n (ups.map Prod.fst)
      | none => true))))

section
variable {R : Type}

/-! ### Pointers that are no parameters of Go's -/
def capAt : CV → Option Nat → AV
  | .pb m k, none => .c (.pb m k)
  | .clo _ cs, some i => match cs[i]? with
    | some p => .c (.pb p.1 p.2)
    | none => .c .dead
  | _, _ => .c .dead
def ghost1 (o : Nm → Option Ob) (vs : List AV) (g : Nat × Nat × Option Nat) : AV :=
  match vs[g.1]? with
  | some (.c (.pb m off)) => match o m with
    | some (.box cs) => capAt (cs.getD (off + g.2.1) .dead) g.2.2
    | _ => .c .dead
  | some (.c (.clo f cs)) => capAt (.clo f cs) g.2.2
  | some (.g cs) => capAt (cs.getD g.2.1 .dead) g.2.2
  | _ => .c .dead
def ghosts (o : Nm → Option Ob) : List AV → List (Nat × Nat × Option Nat) → List AV
  | vs, [] => vs
  | vs, g :: r => ghosts o (vs ++ [ghost1 o vs g]) r

/-- What is handed over: to a function by its name, to a closure. -/
inductive Target where
  | fn
  | tmp (t : Nat)
def St.argsOf (s : St) (f : Nat) (c : Target) (xs : List Operand) : Option (List AV) :=
  match c with
  | .fn => some (xs.map s.ev)
  | .tmp t => match s.t t with
    | .c (.clo g cs) => bif Nat.beq f g then some (xs.map s.ev ++ cs.map fun p => .c (.pb p.1 p.2)) else none
    | _ => none

/-- A call, what is lent having become values where it must. -/
def callAt (S : FSum) (f : Nat) (c : Target) (xs : List Operand) (d : Nat) (s : St) (k : St → Option R) : Option R :=
  match s.argsOf f c xs with
  | some vs => bif Nat.beq (vs.length + S.gh.length) S.pars.length then (match getVs s.o (parEns 0 S.pars) (ghosts s.o vs S.gh) with
    | some (ds, ts) => bif shapeOk S.pars.length (parEns 0 S.pars) && (tagsOk ts && (bif S.shares then isNil (ts.flatMap Tag.lent) else true)) then (match pack (entys (parEns 0 S.pars)) ds with
      | some x => match S.g x with
        | some r =>
          match upsOf d (s.drops (ts.flatMap Tag.moved ++ (S.ens.flatMap En.names).map (fun m => d :: m))).o ts (S.ens.flatMap En.names) (mkBs S.ens (unpack _ r)) with
          | some ups => bif callOk S d (s.drops (ts.flatMap Tag.moved ++ (S.ens.flatMap En.names).map (fun m => d :: m))).o ts (mkVs S.ens (unpack _ r)) (mkBs S.ens (unpack _ r)) ups then
              k (((s.drops (ts.flatMap Tag.moved ++ (S.ens.flatMap En.names).map (fun m => d :: m))).over ups).put (some d) ((resAV (mkVs S.ens (unpack _ r)) S.pars.length S.res.length).ren d ts (S.ens.flatMap En.names))) else none
          | none => none
        | none => none
      | none => none) else none
    | none => none) else none
  | none => none
def callK (S : FSum) (f : Nat) (c : Target) (xs : List Operand) (d : Nat) (s0 : St) (k : St → Option R) : Option R :=
  match s0.argsOf f c xs with
  | some vs => match getVs s0.o (parEns 0 S.pars) (ghosts s0.o vs S.gh) with
    | some (_, ts0) => callAt S f c xs d (bif S.shares then s0.frzs (ts0.flatMap Tag.lent) else s0) k
    | none => none
  | none => none

/-! ## Loops -/
inductive Ex where
  | normal
  | exit (id : Nat)
  | ret
def Ex.eqb : Ex → Ex → Bool
  | .normal, .normal => true
  | .exit a, .exit b => Nat.beq a b
  | .ret, .ret => true
  | _, _ => false

def EX : List (Ex × List En) → Type
  | [] => Empty
  | [e] => TD (entys e.2)
  | e :: f :: r => TD (entys e.2) ⊕ EX (f :: r)

def exIn (N : Nat) : (l : List (Ex × List En)) → Ex → St → Option (EX l)
  | [], _, _ => none
  | [e], x, s => bif Ex.eqb e.1 x then getEns N e.2 s else none
  | e :: f :: r, x, s => bif Ex.eqb e.1 x then (match getEns N e.2 s with
      | some y => some (Sum.inl y)
      | none => none)
    else match exIn N (f :: r) x s with
      | some y => some (Sum.inr y)
      | none => none

def exOut : (l : List (Ex × List En)) → EX l → (Ex → St → Option R) → Option R
  | [], _, _ => none
  | [e], y, k => k e.1 (mkSt e.2 y)
  | e :: f :: r, y, k => match y with
    | Sum.inl y => k e.1 (mkSt e.2 y)
    | Sum.inr y => exOut (f :: r) y k

structure LSum where
  ent : List En
  exs : List (Ex × List En)
  g : TD (entys ent) → Option (EX exs)

/-- A region whose order is drawn: what all its orders come to. -/
structure RSum where
  ent : List En
  out : List En
  g : TD (entys ent) → Option (TD (entys out))

/-! ## Code -/
structure Env where
  τ : Tab
  N : Nat
  Γ : Nat → Nat → Option FSum
  Λ : Nat → Option LSum
  Ω : Nat → Option RSum := fun _ => none

def dstOk (N : Nat) : Option Nat → Bool
  | some d => Nat.blt d N
  | none => true

def opK (E : Env) (o : Oper) (s : St) (k : St → Option R) : Option R :=
  match o.op with
  | .call { callee := .value (.func f), args, .. } => match o.dst with
    | some d => match E.Γ f d with
      | some S => bif Nat.blt d E.N then callK S f .fn args.toList d s k else none
      | none => none
    | none => none
  | .call { callee := .value (.tmp t), args, .. } => match o.dst, s.t t with
    | some d, .c (.clo f _) => match E.Γ f d with
      | some S => bif Nat.blt d E.N then callK S f (.tmp t) args.toList d s k else none
      | none => none
    | _, _ => none
  | op =>
    match vop E.τ op s.ev s.o with
    | some (c, v) => bif dstOk E.N o.dst then (match c with | true => k (s.put o.dst v) | false => none) else none
    | none => match o.dst with
      | some d => bif Nat.blt d E.N then (match mop E.τ op (s.drop [d, 0]).ev [d, 0] with
        | some (c, ob, v) => (match c with | true => k (((s.drop [d, 0]).setO [d, 0] ob).put (some d) v) | false => none)
        | none => match wop E.τ op (some d) s with
          | some (c, s') => (match c with | true => k s' | false => none)
          | none => none) else none
      | none => match wop E.τ op none s with
        | some (c, s') => (match c with | true => k s' | false => none)
        | none => none

/-- What an operation leaves that was not wanted. -/
def gone : AV := .c (.raw (.tuple #[]))
def isGone : AV → Bool
  | .c (.raw (.tuple ⟨[]⟩)) => true
  | _ => false
def isTmp : AV → Option Bool
  | .c (.v .bool b) => some b
  | _ => none

/-- A slot that was asked is known behind the ways. -/
def St.know (s : St) (c : Operand) (b : Bool) : St :=
  match c with
  | .tmp t => s.put (some t) (.c (.v .bool b))
  | _ => s

def opsK (E : Env) (all : List Oper) : List Oper → St → (St → Option R) → Option R
  | [], s, k => k s
  | o :: r, s, k => match o.guard with
    | none => opK E o s (fun s' => opsK E all r s' k)
    | some (j, want) => match (all[j]?).bind (·.dst) with
      | some t => match isTmp (s.t t) with
        | some b => match b with
          | true => match want with
            | true => opK E o (s.know (.tmp t) true) (fun s' => opsK E all r s' k)
            | false => bif dstOk E.N o.dst then opsK E all r ((s.know (.tmp t) true).put o.dst gone) k else none
          | false => match want with
            | false => opK E o (s.know (.tmp t) false) (fun s' => opsK E all r s' k)
            | true => bif dstOk E.N o.dst then opsK E all r ((s.know (.tmp t) false).put o.dst gone) k else none
        | none => bif isGone (s.t t) && dstOk E.N o.dst then opsK E all r (s.put o.dst gone) k else none
      | none => none

/-! ### Regions whose order is drawn -/
def pOk (S : FSum) (ts : List Tag) : Bool :=
  isNilG S.gh && (isNilP (ts.flatMap Tag.pts) && (shapeOk S.pars.length (parEns 0 S.pars) && (isNil ((ts.flatMap Tag.pair).map Prod.snd) && ((bif S.shares then isNil (ts.flatMap Tag.lent) else true) && isNil (S.ens.flatMap En.names)))))
/-- A call that lays nothing into memory that the caller speaks of. -/
def callP (S : FSum) (vs : List AV) (d : Nat) (o : Nm → Option Ob) : Option AV :=
  match getVs o (parEns 0 S.pars) vs with
  | some (ds, ts) => bif pOk S ts then (match pack (entys (parEns 0 S.pars)) ds with
    | some x => match S.g x with
      | some r => bif (bif S.shares then true else (mkVs S.ens (unpack _ r)).all (fun p => p.2.flat)) then some ((resAV (mkVs S.ens (unpack _ r)) S.pars.length S.res.length).ren d ts []) else none
      | none => none
    | none => none) else none
  | none => none

/-- What an operation lays into its slot, where it does nothing else. -/
def opP (E : Env) (o : Oper) (e : Operand → AV) (ob : Nm → Option Ob) : Option (Bool × AV) :=
  match o.op with
  | .call { callee := .value (.func f), args, .. } => match o.dst with
    | some d => match E.Γ f d with
      | some S => match callP S (args.toList.map e) d ob with
        | some v => some (true, v)
        | none => none
      | none => none
    | none => none
  | op => vop E.τ op e ob

def callPK (S : FSum) (vs : List AV) (d : Nat) (o : Nm → Option Ob) (k : AV → Option R) : Option R :=
  match getVs o (parEns 0 S.pars) vs with
  | some (ds, ts) => bif pOk S ts then (match pack (entys (parEns 0 S.pars)) ds with
    | some x => match S.g x with
      | some r => bif (bif S.shares then true else (mkVs S.ens (unpack _ r)).all (fun p => p.2.flat)) then k ((resAV (mkVs S.ens (unpack _ r)) S.pars.length S.res.length).ren d ts []) else none
      | none => none
    | none => none) else none
  | none => none
def opPK (E : Env) (o : Oper) (e : Operand → AV) (ob : Nm → Option Ob) (k : AV → Option R) : Option R :=
  match o.op with
  | .call { callee := .value (.func f), args, .. } => match o.dst with
    | some d => match E.Γ f d with
      | some S => callPK S (args.toList.map e) d ob k
      | none => none
    | none => none
  | op => match vop E.τ op e ob with
    | some (c, v) => (match c with | true => k v | false => none)
    | none => none

def opsP (E : Env) (all : List Oper) : List Oper → St → (St → Option R) → Option R
  | [], s, k => k s
  | o :: r, s, k => bif dstOk E.N o.dst then (match o.guard with
    | none => opPK E o s.ev s.o (fun v => opsP E all r (s.put o.dst v) k)
    | some (j, want) => match (all[j]?).bind (·.dst) with
      | some t => match isTmp (s.t t) with
        | some b => match b with
          | true => match want with
            | true => opPK E o (s.know (.tmp t) true).ev s.o (fun v => opsP E all r ((s.know (.tmp t) true).put o.dst v) k)
            | false => opsP E all r ((s.know (.tmp t) true).put o.dst gone) k
          | false => match want with
            | false => opPK E o (s.know (.tmp t) false).ev s.o (fun v => opsP E all r ((s.know (.tmp t) false).put o.dst v) k)
            | true => opsP E all r ((s.know (.tmp t) false).put o.dst gone) k
        | none => bif isGone (s.t t) then opsP E all r (s.put o.dst gone) k else none
      | none => none) else none

/-- How many operations, from the first on, only lay something into a slot. -/
def plainOp (E : Env) (o : Oper) : Bool :=
  match o.op with
  | .alloc _ | .box _ _ | .buildSlice _ _ _ | .makeSlice _ _ _ | .makeMap _ _ | .store _ _ _ | .mapUpdate _ _ _ _ | .mapEntry _ _ _ | .entryStore _ _ _ _ => false
  | .call { callee := .value (.func f), .. } => match E.Γ f (o.dst.getD 0) with
    | some S => isNil (S.ens.flatMap En.names) && S.pars.all (fun p => match p with | .p _ => false | .c (.f _ _) => false | .c (.q _ _) => false | _ => true)
    | none => false
  | .call { callee := .value _, .. } => false
  | .call { callee := .builtin b, .. } => (match b with | .append => false | _ => true)
  | _ => true
def plains (E : Env) : List Oper → Nat
  | [] => 0
  | o :: r => bif plainOp E o then plains E r + 1 else 0
def memNat (n : Nat) : List Nat → Bool
  | [] => false
  | m :: r => bif Nat.beq n m then true else memNat n r
def addNat (n : Nat) (l : List Nat) : List Nat := bif memNat n l then l else n :: l
def addNats : List Nat → List Nat → List Nat
  | [], l => l
  | n :: r, l => addNats r (addNat n l)
/-- What an operation must stand behind, as the text says it. -/
def afters (o : Oper) : List Nat := o.after.toList.filterMap fun e => bif Region.binds .any e then some e.on else none
def reachOf (acc : List (List Nat)) : List Nat → List Nat
  | [] => []
  | i :: r => addNat i (addNats (acc.getD i []) (reachOf acc r))
/-- ... and all that these stand behind. -/
def reachs : List Oper → List (List Nat) → List (List Nat)
  | [], acc => acc
  | o :: r, acc => reachs r (acc ++ [reachOf acc (afters o)])
/-- An operation that lays a constant into a slot: it may stand anywhere. -/
def isFloat (o : Oper) : Bool := match o.guard with
  | none => (match o.op with
    | .assign (.const _) => true
    | .move (.const _) => true
    | _ => false)
  | some _ => false
def floatAt (l : List Oper) (i : Nat) : Bool := match l[i]? with
  | some o => isFloat o
  | none => false
/-- The plain ones: the first m, and the floats behind. -/
def plainIdx (l : List Oper) (m : Nat) : List Nat := List.range m ++ ((List.range (l.length - m)).map (· + m)).filter (floatAt l)
def tailIdx (l : List Oper) (m : Nat) : List Nat := ((List.range (l.length - m)).map (· + m)).filter (fun i => !floatAt l i)
def apartAt (l : List Oper) (i j : Nat) : Bool := match l[i]?, l[j]? with
  | some x, some y => x.apart l.toArray y
  | _, _ => false
def pairsOk (R : Nat → Nat → Bool) : List Nat → Bool
  | [] => true
  | x :: r => r.all (R x) && pairsOk R r
/-- The order of the text is one of the orders; the plain ones stand apart; the others come each behind all others that stand before. -/
def drawOk (l : List Oper) (m : Nat) : Bool :=
  let rs := reachs l []
  let reach := fun i j => memNat i (rs.getD j [])
  (List.range l.length).all (fun j => match l[j]? with
    | some o => (afters o).all (fun i => Nat.blt i j)
    | none => false) &&
  (pairsOk (fun x y => reach x y || apartAt l x y) (plainIdx l m) &&
  (pairsOk reach (tailIdx l m) &&
   (plainIdx l m).all fun x => (tailIdx l m).all fun y => reach x y || (floatAt l x && apartAt l x y)))

/-- A loop's number: the first region in it. -/
def key : Code → Nat
  | .region id _ _ => id
  | .seq a b => match key a with
    | 0 => key b
    | n + 1 => n + 1
  | .block _ c => key c
  | .loop c => key c
  | .cond _ a b => match key a with
    | 0 => key b
    | n + 1 => n + 1
  | .scope c => key c
  | _ => 0

/-- The orders that the text's edges allow. -/
def freeOf (l : List Oper) (rem : List Nat) (i : Nat) : Bool := match l[i]? with
  | some o => (afters o).all (fun a => !memNat a rem)
  | none => false
def remNat (i : Nat) (rem : List Nat) : List Nat := rem.filter (fun j => !Nat.beq i j)
def extsN (l : List Oper) : Nat → List Nat → List (List Nat)
  | 0, _ => [[]]
  | n + 1, rem => rem.flatMap fun i => bif freeOf l rem i then (extsN l n (remNat i rem)).map (fun π => i :: π) else []
def exts (l : List Oper) : List (List Nat) := extsN l l.length (List.range l.length)
def aftOk (l : List Oper) : Bool := (List.range l.length).all fun j => match l[j]? with
  | some o => (afters o).all (fun i => Nat.blt i j)
  | none => false
def opsOf (l : List Oper) (π : List Nat) : List Oper := π.filterMap fun i => l[i]?
def exReg (E : Env) (id : Nat) (s : St) (k : St → Option R) : Option R :=
  match E.Ω id with
  | some S => match getEns E.N S.ent s with
    | some x => match S.g x with
      | some y => k (mkSt S.out y)
      | none => none
    | none => none
  | none => none

def exec (E : Env) : Code → St → (Ex → St → Option R) → Option R
  | .skip, s, k => k .normal s
  | .region id ops draw, s, k => match draw with
    | true => bif drawOk ops.toList (plains E ops.toList) then opsP E ops.toList ((plainIdx ops.toList (plains E ops.toList)).filterMap (fun i => ops.toList[i]?)) s (fun s' => opsK E ops.toList ((tailIdx ops.toList (plains E ops.toList)).filterMap (fun i => ops.toList[i]?)) s' (k .normal)) else exReg E id s (k .normal)
    | false => opsK E ops.toList ops.toList s (k .normal)
  | .seq a b, s, k => exec E a s (fun e s' => match e with
    | .normal => exec E b s' k
    | .exit i => k (.exit i) s'
    | .ret => k .ret s')
  | .cond c a b, s, k => match isTmp (s.ev c) with
    | some x => match x with
      | true => exec E a (s.know c true) k
      | false => exec E b (s.know c false) k
    | none => none
  | .block id c, s, k => exec E c s (fun e s' => match e with
    | .exit i => bif Nat.beq i id then k .normal s' else k (.exit i) s'
    | .normal => k .normal s'
    | .ret => k .ret s')
  | .loop c, s, k => match E.Λ (key c) with
    | some S => match getEns E.N S.ent s with
      | some x => match S.g x with
        | some y => exOut S.exs y k
        | none => none
      | none => none
    | none => none
  | .exit id, s, k => k (.exit id) s
  | .ret, s, k => k .ret s
  | _, _, _ => none

/-! ## A function -/
def resVar (τ : Tab) (s : St) : ResultVar → Option AV
  | .tmp t => some (s.t t)
  | .cell a t => match τ.get t, s.t a with
    | some ti, .c p => loadCells s.o ti.size ti.agg p
    | _, _ => none
def resVars (τ : Tab) (s : St) : List ResultVar → Option (List AV)
  | [] => some []
  | v :: r => match resVar τ s v, resVars τ s r with
    | some a, some as => some (a :: as)
    | _, _ => none

def retK (E : Env) (fn : Func) (S : FSum) (s0 s : St) : Option (TD (entys (endEns S.pars S.res S.nb))) :=
  match resVars E.τ s fn.results.toList, outAVs s0.t 0 S.pars with
  | some rs, some os => shut (S.pars.length + (S.res.length + S.nb.length)) (endEns S.pars S.res S.nb) (os ++ (rs ++ S.nb.map (fun p => rs.getD p.1 (.c .dead)))) s.o
  | _, _ => none

/-- The parameters that are none of Go's stand in no slot. -/
def St.cut (r : Nat) (s : St) : St := ⟨fun i => bif Nat.blt i r then s.t i else .c .dead, s.o⟩

def runF (E : Env) (fn : Func) (S : FSum) (x : TD (entys (parEns 0 S.pars))) : Option (TD (entys (endEns S.pars S.res S.nb))) :=
  match fn.body with
  | some c => exec E c ((mkSt (parEns 0 S.pars) x).cut S.real) (fun e s => match e with
    | .normal => retK E fn S (mkSt (parEns 0 S.pars) x) s
    | .ret => retK E fn S (mkSt (parEns 0 S.pars) x) s
    | .exit _ => none)
  | none => none

/-- One round of a loop: what its function comes to, by the function itself for the rounds behind. -/
def runL (E : Env) (body : Code) (S : LSum) (self : TD (entys S.ent) → Option (EX S.exs)) (x : TD (entys S.ent)) : Option (EX S.exs) :=
  exec E body (mkSt S.ent x) (fun e s => match e with
    | .normal => match getEns E.N S.ent s with
      | some y => self y
      | none => none
    | .exit i => exIn E.N S.exs (.exit i) s
    | .ret => exIn E.N S.exs .ret s)
end
end AM
end Go.Proofs.YtpcdcnmmkfhliaaGreatDoor
