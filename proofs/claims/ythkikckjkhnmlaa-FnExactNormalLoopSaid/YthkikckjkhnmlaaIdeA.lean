/-
  An ideal machine over plain data: types, cells, chunks, states, and what each operation does to them.
-/
import Derived.WalkKit
namespace Go.Ide

/-- The types of plain data. 'st' marks a struct: its cells lie side by side. -/
inductive Ty where
  | int (k : IntKind)
  | flt (k : FloatKind)
  | bool
  | str
  | sl (t : Ty)
  | pair (a b : Ty)
  | st (t : Ty)
  deriving DecidableEq

@[reducible] def Ty.D : Ty → Type
  | .int _ => Int
  | .flt _ => Nat
  | .bool => Bool
  | .str => List UInt8
  | .sl t => List t.D
  | .pair a b => a.D × b.D
  | .st t => t.D

def Ty.dflt : (t : Ty) → t.D
  | .int _ => (0 : Int)
  | .flt _ => (0 : Nat)
  | .bool => false
  | .str => ([] : List UInt8)
  | .sl t => ([] : List t.D)
  | .pair a b => (a.dflt, b.dflt)
  | .st t => t.dflt

def Ty.size : Ty → Nat
  | .pair a b => a.size + b.size
  | .st t => t.size
  | _ => 1

def Ty.isSt : Ty → Bool
  | .st _ => true
  | _ => false

/-- A type of one cell. -/
def Ty.isOne : Ty → Bool
  | .st _ => false
  | .pair _ _ => false
  | _ => true

/-- A cell. 'ptr': into a chunk, at a cell; 'elp': at element i of a chunk whose elements have sz cells; 'ip': into data that nobody changes;
'all': a slice that is the whole of a chunk; 'ref': a slice that is a part of one; 'nilS': an empty slice without room; 'junk': some value of one cell; 'bad': whatever. -/
inductive ICell where
  | dat (t : Ty) (x : t.D)
  | ptr (c off : Nat)
  | elp (c i sz : Nat)
  | ip (t : Ty) (x : t.D) (off : Nat)
  | all (c : Nat)
  | ref (c off len : Nat)
  | nilS
  | fn (f : FuncId)
  | junk
  | bad

inductive IVal where
  | one (c : ICell)
  | agg (cs : List ICell)
  | tup (vs : List (Bool × List ICell))
  | und
  | junk

inductive Chunk where
  | box (cs : List ICell)
  | seq (t : Ty) (xs : List t.D)
  | gone

abbrev Mem := List (Nat × Chunk)
abbrev Fr := List (Nat × IVal)

def lk {α : Type} (k : Nat) : List (Nat × α) → Option α
  | [] => none
  | p :: r => bif Nat.beq k p.1 then some p.2 else lk k r

structure St where
  fr : Fr
  mem : Mem
  nx : Nat

def castD {a b : Ty} (h : a = b) (x : a.D) : b.D := h ▸ x

/-- A cell as data of a type. -/
def cdat (m : Mem) (t : Ty) : ICell → Option t.D
  | .dat t' x => if h : t' = t then some (castD h x) else none
  | .all c => match t with
    | .sl e => (match lk c m with
      | some (.seq e' xs) => if h : e' = e then some (castD (congrArg Ty.sl h) xs) else none
      | _ => none)
    | _ => none
  | .ref c off len => match t with
    | .sl e => (match lk c m with
      | some (.seq e' xs) => if h : e' = e then some (castD (congrArg Ty.sl h) ((xs.drop off).take len)) else none
      | _ => none)
    | _ => none
  | .nilS => match t with
    | .sl e => some ([] : List e.D)
    | _ => none
  | _ => none

def impl1 (m : Mem) (t : Ty) : List ICell → Option (t.D × List ICell)
  | c :: r => (match cdat m t c with
    | some x => some (x, r)
    | none => none)
  | [] => none

/-- Cells as data of a type; what is left of the cells. -/
def impl (m : Mem) : (t : Ty) → List ICell → Option (t.D × List ICell)
  | .pair a b, cs => match impl m a cs with
    | some (x, r) => (match impl m b r with
      | some (y, r') => some ((x, y), r')
      | none => none)
    | none => none
  | .st t, cs => impl m t cs
  | .int k, cs => impl1 m (.int k) cs
  | .flt k, cs => impl1 m (.flt k) cs
  | .bool, cs => impl1 m .bool cs
  | .str, cs => impl1 m .str cs
  | .sl t, cs => impl1 m (.sl t) cs

def IVal.cells : IVal → List ICell
  | .one c => [c]
  | .agg cs => cs
  | _ => []

/-- A value as data of a type. -/
def vdat (m : Mem) (t : Ty) (v : IVal) : Option t.D :=
  match v, t.isSt with
  | .one c, false => (match impl m t [c] with | some (x, []) => some x | _ => none)
  | .agg cs, true => (match impl m t cs with | some (x, []) => some x | _ => none)
  | _, _ => none

/-- Data as cells. -/
def expl : (t : Ty) → t.D → List ICell
  | .pair a b, x => expl a x.1 ++ expl b x.2
  | .st t, x => expl t x
  | .int k, x => [.dat (.int k) x]
  | .flt k, x => [.dat (.flt k) x]
  | .bool, x => [.dat .bool x]
  | .str, x => [.dat .str x]
  | .sl t, x => [.dat (.sl t) x]

/-- The zero value's cells. -/
def zcells : Ty → List ICell
  | .pair a b => zcells a ++ zcells b
  | .st t => zcells t
  | .int k => [.dat (.int k) (0 : Int)]
  | .flt k => [.dat (.flt k) (0 : Nat)]
  | .bool => [.dat .bool false]
  | .str => [.dat .str ([] : List UInt8)]
  | .sl _ => [.nilS]

def ofCells (t : Ty) (cs : List ICell) : IVal :=
  if t.isSt then .agg cs else match cs with | [c] => .one c | _ => .junk

/-- Data that is new, as cells: each slice a chunk of its own; the chunks, numbered from n on. -/
def explF : (t : Ty) → t.D → Nat → List ICell × List Chunk
  | .pair a b, x, n => ((explF a x.1 n).1 ++ (explF b x.2 (n + (explF a x.1 n).2.length)).1, (explF a x.1 n).2 ++ (explF b x.2 (n + (explF a x.1 n).2.length)).2)
  | .st t, x, n => explF t x n
  | .int k, x, _ => ([.dat (.int k) x], [])
  | .flt k, x, _ => ([.dat (.flt k) x], [])
  | .bool, x, _ => ([.dat .bool x], [])
  | .str, x, _ => ([.dat .str x], [])
  | .sl t, x, n => ([.all n], [.seq t x])

def keysFrom : Nat → List Chunk → Mem
  | _, [] => []
  | n, c :: r => (n, c) :: keysFrom (n + 1) r

def ICell.ok : ICell → Bool
  | .bad => false
  | _ => true

def IVal.ok : IVal → Bool
  | .one c => c.ok
  | .agg cs => cs.all ICell.ok
  | _ => false

end Go.Ide
