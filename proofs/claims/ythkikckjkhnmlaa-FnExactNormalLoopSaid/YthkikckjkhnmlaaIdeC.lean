/-
  What an operation does in the ideal machine.
-/
import Derived.Test.YthkikckjkhnmlaaIdeB
namespace Go.Ide

inductive Mode where
  | imm (t : Ty)
  | pimm (t : Ty)
  | own (t : Ty)
  | fn

inductive Arg where
  | imm (t : Ty) (x : t.D)
  | pimm (t : Ty) (x : t.D)
  | own (t : Ty) (x : t.D)
  | fn (f : FuncId)

structure TD where
  t : Ty
  x : t.D

/-- A result: new memory ('fresh'), or data that may lie anywhere where nobody writes. -/
structure RV where
  fresh : Bool
  t : Ty
  x : t.D

inductive Hint where
  | no
  | tv (b : Bool)
  | ty (t : Ty)
  | call (ms : List Mode) (rs : List RV) (outs : List TD)

/-- Types without slices. -/
def Ty.flat : Ty → Bool
  | .sl _ => false
  | .pair a b => a.flat && b.flat
  | .st t => t.flat
  | _ => true

/-- Types whose slices have elements without slices. -/
def Ty.flat1 : Ty → Bool
  | .sl t => t.flat
  | .pair a b => a.flat1 && b.flat1
  | .st t => t.flat1
  | _ => true

def RV.okAlone (r : RV) : Bool := if r.fresh then r.t.flat1 else r.t.flat

/-- Cells that hold a slice of the call's own: whole, in its own chunk; the chunks. -/
def ownKeys (m : Mem) : (t : Ty) → List ICell → Option (List Nat × List ICell)
  | .pair a b, cs => match ownKeys m a cs with
    | some (x, r) => (match ownKeys m b r with
      | some (y, r') => some (x ++ y, r')
      | none => none)
    | none => none
  | .st t, cs => ownKeys m t cs
  | .sl _, cs => match cs with
    | .all c :: r => some ([c], r)
    | .nilS :: r => some ([], r)
    | _ => none
  | _, cs => match cs with
    | .dat _ _ :: r => some ([], r)
    | _ => none

structure Eff where
  val : IVal
  new : Mem
  upd : Mem
  cond : List Prop

def AllP : List Prop → Prop
  | [] => True
  | p :: r => p ∧ AllP r

theorem AllP.append : ∀ {a b : List Prop}, AllP (a ++ b) → AllP a ∧ AllP b
  | [], _, h => ⟨trivial, h⟩
  | _ :: _, _, h => ⟨⟨h.1, (AllP.append h.2).1⟩, (AllP.append h.2).2⟩

def pureE (v : IVal) : Option Eff := some ⟨v, [], [], []⟩
def pureC (v : IVal) (cs : List Prop) : Option Eff := some ⟨v, [], [], cs⟩

def cst : Value → ICell
  | .int k n => .dat (.int k) n
  | .bool b => .dat .bool b
  | .float k b => .dat (.flt k) (fcanon k b)
  | .string s => .dat .str s.data.toList
  | .slice none 0 0 => .nilS
  | .agg _ => .bad
  | .tuple _ => .bad
  | _ => .junk

def cstV : Value → IVal
  | .agg cs => .agg (cs.toList.map cst)
  | .tuple _ => .junk
  | v => .one (cst v)

def ev (fr : Fr) : Operand → Option IVal
  | .tmp t => lk t fr
  | .const v => some (cstV v)
  | .func f => some (.one (.fn f))
  | .global _ => none

def isAggT (P : Program) (T : TypeId) : Option Bool :=
  match P.underlying T with
  | some (.struct _) => some true
  | some (.array _ _) => some true
  | some _ => some false
  | none => none

def sizeT (P : Program) (T : TypeId) : Option Nat := (P.info? T).map (·.size)

def mkV (ag : Bool) (cs : List ICell) : Option IVal :=
  match ag, cs with
  | true, cs => some (.agg cs)
  | false, [c] => some (.one c)
  | _, _ => none

/-- The cells that a pointer points to: n of them. -/
def cellsAt (m : Mem) (n : Nat) : ICell → Option (List ICell × List Prop)
  | .ptr c off => match lk c m with
    | some (.box cs) => bif Nat.ble (off + n) cs.length then some ((cs.drop off).take n, []) else none
    | _ => none
  | .elp c i sz => none
  | .ip t x off => bif Nat.ble (off + n) (expl t x).length then some (((expl t x).drop off).take n, []) else none
  | _ => none

def iLoad (P : Program) (m : Mem) (T : TypeId) (v : IVal) : Option Eff :=
  match v, sizeT P T, isAggT P T with
  | .one (.elp c i sz), some n, some ag => (match lk c m with
    | some (.seq t xs) => bif (Nat.beq n t.size && Nat.beq sz t.size) && (ag == t.isSt) then
        (match mkV ag (expl t (xs.getD i t.dflt)) with
        | some r => pureC r [i < xs.length]
        | none => none) else none
    | _ => none)
  | .one c, some n, some ag => (match cellsAt m n c with
    | some (cs, _) => (match mkV ag cs with
      | some r => pureE r
      | none => none)
    | none => none)
  | _, _, _ => none

def iStore (P : Program) (m : Mem) (T : TypeId) (a v : IVal) : Option Eff :=
  match a, sizeT P T with
  | .one (.ptr c off), some n => (match lk c m with
    | some (.box cs) => bif (Nat.beq v.cells.length n && Nat.ble (off + n) cs.length) && v.ok then some ⟨.junk, [], [(c, .box (cs.take off ++ v.cells ++ cs.drop (off + n)))], []⟩ else none
    | _ => none)
  | .one (.elp c i sz), some n => (match lk c m with
    | some (.seq t xs) => bif Nat.beq n t.size && Nat.beq sz t.size then
        (match vdat [] t v with
        | some x => some ⟨.junk, [], [(c, .seq t (xs.set i x))], [i < xs.length]⟩
        | none => none) else none
    | _ => none)
  | _, _ => none

def iIndexAddr (P : Program) (m : Mem) (T : TypeId) (x i : IVal) : Option Eff :=
  match P.underlying T, i with
  | some (.slice e), .one (.dat (.int _) n) => (match x, sizeT P e with
    | .one (.dat (.sl t) xs), some k => bif Nat.beq k t.size then pureC (.one (.ip t (xs.getD (Int.toNat n) t.dflt) 0)) [(0 : Int) ≤ n ∧ n < ((List.length xs : Nat) : Int)] else none
    | .one (.all c), some k => (match lk c m with
      | some (.seq t xs) => bif Nat.beq k t.size then pureC (.one (.elp c (Int.toNat n) k)) [(0 : Int) ≤ n ∧ n < ((List.length xs : Nat) : Int)] else none
      | _ => none)
    | .one (.ref c off len), some k => (match lk c m with
      | some (.seq t _) => bif Nat.beq k t.size then pureC (.one (.elp c (off + Int.toNat n) k)) [(0 : Int) ≤ n ∧ n < (len : Int)] else none
      | _ => none)
    | _, _ => none)
  | _, _ => none

def iFieldAddr (P : Program) (T : TypeId) (x : IVal) (f : Nat) : Option Eff :=
  match P.underlying T with
  | some (.struct fs) => (match fs[f]? with
    | some fd => (match x, sizeT P fd.type with
      | .one (.ptr c off), some (_ + 1) => pureE (.one (.ptr c (off + fd.offset)))
      | .one (.ip t y off), some (_ + 1) => pureE (.one (.ip t y (off + fd.offset)))
      | _, _ => none)
    | none => none)
  | _ => none

def iLen (m : Mem) : IVal → Option Eff
  | .one (.dat (.sl _) xs) => pureE (.one (.dat (.int .i64) ((List.length xs : Nat) : Int)))
  | .one (.dat .str xs) => pureE (.one (.dat (.int .i64) ((List.length xs : Nat) : Int)))
  | .one (.all c) => match lk c m with
    | some (.seq _ xs) => pureE (.one (.dat (.int .i64) ((List.length xs : Nat) : Int)))
    | _ => none
  | .one (.ref c _ len) => match lk c m with
    | some (.seq _ _) => pureE (.one (.dat (.int .i64) ((len : Nat) : Int)))
    | _ => none
  | .one .nilS => pureE (.one (.dat (.int .i64) (0 : Int)))
  | _ => none

/-- What a slice that is appended to holds; its chunk. -/
def appBase (m : Mem) (t : Ty) : IVal → Option (List t.D × List (Nat × Chunk))
  | .one .nilS => some ([], [])
  | .one (.all c) => match lk c m with
    | some (.seq t' xs) => if h : t' = t then some (castD (congrArg Ty.sl h) xs, [(c, .gone)]) else none
    | _ => none
  | .one (.ref c 0 len) => match lk c m with
    | some (.seq t' xs) => if h : t' = t then some (castD (congrArg Ty.sl h) (xs.take len), [(c, .gone)]) else none
    | _ => none
  | _ => none

def appMax : Nat := 4294967296

def iAppend (P : Program) (m : Mem) (nx : Nat) (T T' : TypeId) (t : Ty) (s x : IVal) : Option Eff :=
  match P.underlying T with
  | some (.slice e) => (match P.info? e with
    | some i => bif (Nat.beq T T' && Nat.beq i.size t.size) && (Nat.ble i.bytes 32768 && i.zero.isSome) && (i.zero.map fun z => Nat.beq z.cells.size t.size).getD false then
        (match appBase m t s, vdat m (.sl t) x with
        | some (xs, up), some ys => some ⟨.one (.all nx), [(nx, .seq t (xs ++ ys))], up, [List.length xs + List.length ys ≤ appMax]⟩
        | _, _ => none) else none
    | none => none)
  | _ => none

def iAlloc (P : Program) (nx : Nat) (T : TypeId) : Option Eff :=
  match P.info? T with
  | some i => (match i.zero with
    | some z => bif (cstV z).ok then some ⟨.one (.ptr nx 0), [(nx, .box (cstV z).cells)], [], []⟩ else none
    | none => none)
  | none => none

def iBox (nx : Nat) (v : IVal) : Option Eff :=
  match v with
  | .one c => bif c.ok then some ⟨.one (.ptr nx 0), [(nx, .box [c])], [], []⟩ else none
  | .agg cs => bif cs.all ICell.ok then some ⟨.one (.ptr nx 0), [(nx, .box cs)], [], []⟩ else none
  | _ => none

/-- The parts of a literal laid into its cells. -/
def fillI (place : Nat → Option (Nat × Nat)) (cells : List ICell) : List (Nat × IVal) → Option (List ICell)
  | [] => some cells
  | (i, v) :: rest => match place i with
    | none => none
    | some (off, size) => bif (Nat.beq v.cells.length size && Nat.ble (off + v.cells.length) cells.length) && v.ok then
        fillI place (cells.take off ++ v.cells ++ cells.drop (off + v.cells.length)) rest else none

def evs (fr : Fr) : List (Nat × Operand) → Option (List (Nat × IVal))
  | [] => some []
  | (i, x) :: r => match ev fr x, evs fr r with
    | some v, some l => some ((i, v) :: l)
    | _, _ => none

def placesT (P : Program) : List Field → Option (List (Nat × Nat))
  | [] => some []
  | f :: r => match sizeT P f.type, placesT P r with
    | some n, some l => some ((f.offset, n) :: l)
    | _, _ => none

def iBuild (P : Program) (T : TypeId) (parts : List (Nat × IVal)) : Option Eff :=
  match P.info? T, P.underlying T with
  | some i, some (.struct fs) => (match i.zero, placesT P fs.toList with
    | some z, some pl => bif (cstV z).ok then (match fillI (fun j => pl[j]?) (cstV z).cells parts with
      | some cs => pureE (.agg cs)
      | none => none) else none
    | _, _ => none)
  | _, _ => none

/-- The parts of a slice's literal, all there, in their order. -/
def partsD (t : Ty) : Nat → List (Nat × IVal) → Option (List t.D)
  | _, [] => some []
  | i, (j, v) :: r => bif Nat.beq i j then (match vdat [] t v, partsD t (i + 1) r with
    | some x, some l => some (x :: l)
    | _, _ => none) else none

def iBuildSlice (P : Program) (nx : Nat) (T : TypeId) (t : Ty) (len : Nat) (parts : List (Nat × IVal)) : Option Eff :=
  match P.underlying T with
  | some (.slice e) => bif (sizeT P e == some t.size && (((P.info? e).bind (·.zero)).map fun z => Nat.beq z.cells.size t.size) == some true) && (Nat.beq parts.length len && Nat.ble (len * t.size) 65536) then
      (match partsD t 0 parts with
      | some xs => some ⟨.one (.all nx), [(nx, .seq t xs)], [], []⟩
      | none => none) else none
  | _ => none

/-- A slice's literal without parts. -/
def iEmpty (P : Program) (T : TypeId) (len : Nat) (parts : List (Nat × IVal)) : Option Eff :=
  match P.underlying T with
  | some (.slice e) => bif ((sizeT P e).isSome && Nat.beq len 0) && parts.isEmpty then pureE (.one .nilS) else none
  | _ => none

def zeroD (P : Program) (T : TypeId) (t : Ty) : Option t.D :=
  match P.info? T with
  | some i => (match i.zero with
    | some z => vdat [] t (cstV z)
    | none => none)
  | none => none

def iMakeSlice (P : Program) (nx : Nat) (T : TypeId) (t : Ty) (len cap : IVal) : Option Eff :=
  match P.underlying T, len, cap with
  | some (.slice e), .one (.dat (.int _) n), .one (.dat (.int _) c) => (match P.info? e, zeroD P e t with
    | some i, some z => bif Nat.beq i.size t.size && Nat.ble i.bytes 32768 then
        some ⟨.one (.all nx), [(nx, .seq t (List.replicate (Int.toNat n) z))], [], [(0 : Int) ≤ n ∧ n ≤ 4294967296 ∧ (c : Int) = n]⟩ else none
    | _, _ => none)
  | _, _, _ => none

/-- The bounds of a slice expression. -/
def loI : Option IVal → Option Int
  | none => some 0
  | some (.one (.dat (.int _) n)) => some n
  | _ => none
def hiI (len : Nat) : Option IVal → Option Int
  | none => some (len : Int)
  | some (.one (.dat (.int _) n)) => some n
  | _ => none

def cut {α : Type} (xs : List α) (lo hi : Int) : List α := (xs.drop lo.toNat).take (hi.toNat - lo.toNat)

def iSlice (P : Program) (m : Mem) (T : TypeId) (x : IVal) (lo hi : Option IVal) : Option Eff :=
  match P.underlying T, x with
  | some .string, .one (.dat .str xs) => (match loI lo, hiI (List.length xs) hi with
    | some l, some h => pureC (.one (.dat .str (cut xs l h))) [(0 : Int) ≤ l ∧ l ≤ h ∧ h ≤ ((List.length xs : Nat) : Int)]
    | _, _ => none)
  | some (.slice e), .one (.dat (.sl t) xs) => (match loI lo, hiI (List.length xs) hi with
    | some l, some h => bif sizeT P e == some t.size then pureC (.one (.dat (.sl t) (cut xs l h))) [(0 : Int) ≤ l ∧ l ≤ h ∧ h ≤ ((List.length xs : Nat) : Int)] else none
    | _, _ => none)
  | some (.slice e), .one (.all c) => (match lk c m with
    | some (.seq t xs) => (match loI lo, hiI (List.length xs) hi with
      | some l, some h => bif sizeT P e == some t.size then pureC (.one (.ref c l.toNat (h.toNat - l.toNat))) [(0 : Int) ≤ l ∧ l ≤ h ∧ h ≤ ((List.length xs : Nat) : Int)] else none
      | _, _ => none)
    | _ => none)
  | some (.slice e), .one (.ref c off len) => (match lk c m with
    | some (.seq t _) => (match loI lo, hiI len hi with
      | some l, some h => bif sizeT P e == some t.size then pureC (.one (.ref c (off + l.toNat) (h.toNat - l.toNat))) [(0 : Int) ≤ l ∧ l ≤ h ∧ h ≤ (len : Int)] else none
      | _, _ => none)
    | _ => none)
  | _, _ => none

def bitsI (op : BinOp) (k : IntKind) (x y : Int) : Option Int :=
  match op with
  | .and => some (k.wrap (BitVec.ofInt k.bits x &&& BitVec.ofInt k.bits y).toNat)
  | .or => some (k.wrap (BitVec.ofInt k.bits x ||| BitVec.ofInt k.bits y).toNat)
  | .xor => some (k.wrap (BitVec.ofInt k.bits x ^^^ BitVec.ofInt k.bits y).toNat)
  | .andNot => some (k.wrap (BitVec.ofInt k.bits x &&& ~~~(BitVec.ofInt k.bits y)).toNat)
  | _ => none

def iInt (op : BinOp) (k : IntKind) (x y : Int) : Option Eff :=
  match op with
  | .add => pureE (.one (.dat (.int k) (k.wrap (x + y))))
  | .sub => pureE (.one (.dat (.int k) (k.wrap (x - y))))
  | .mul => pureE (.one (.dat (.int k) (k.wrap (x * y))))
  | .quo => pureC (.one (.dat (.int k) (k.wrap (x.tdiv y)))) [y ≠ 0]
  | .rem => pureC (.one (.dat (.int k) (x.tmod y))) [y ≠ 0]
  | .eql => pureE (.one (.dat .bool (x == y)))
  | .neq => pureE (.one (.dat .bool (x != y)))
  | .lss => pureE (.one (.dat .bool (decide (x < y))))
  | .leq => pureE (.one (.dat .bool (decide (x ≤ y))))
  | .gtr => pureE (.one (.dat .bool (decide (x > y))))
  | .geq => pureE (.one (.dat .bool (decide (x ≥ y))))
  | op => match bitsI op k x y with
    | some r => pureE (.one (.dat (.int k) r))
    | none => none

def iShift (op : BinOp) (k : IntKind) (x y : Int) : Option Eff :=
  match op with
  | .shl => pureC (.one (.dat (.int k) (k.wrap (x * 2 ^ (min y.toNat k.bits))))) [(0 : Int) ≤ y]
  | .shr => pureC (.one (.dat (.int k) (x.fdiv (2 ^ (min y.toNat k.bits))))) [(0 : Int) ≤ y]
  | _ => none

def iStr (op : BinOp) (x y : List UInt8) : Option Eff :=
  match op with
  | .eql => pureE (.one (.dat .bool (x == y)))
  | .neq => pureE (.one (.dat .bool (x != y)))
  | .add => pureC (.one (.dat .str (x ++ y))) [x.length + y.length ≤ appMax]
  | .lss => pureE (.one (.dat .bool (Op.bytesLess x y)))
  | _ => none

def isShift : BinOp → Bool
  | .shl => true
  | .shr => true
  | _ => false

def iBin (P : Program) (T : TypeId) (op : BinOp) (x y : IVal) : Option Eff :=
  match x, y with
  | .one (.dat (.int k) a), .one (.dat (.int k') b) => if isShift op then iShift op k a b else if k = k' then iInt op k a b else none
  | .one (.dat .str a), .one (.dat .str b) => iStr op a b
  | .one (.dat .bool a), .one (.dat .bool b) => (match op, P.underlying T with
    | .eql, some .bool => pureE (.one (.dat .bool (a == b)))
    | .neq, some .bool => pureE (.one (.dat .bool (a != b)))
    | _, _ => none)
  | _, _ => none

def iUn (op : UnOp) (x : IVal) : Option Eff :=
  match op, x with
  | .not, .one (.dat .bool b) => pureE (.one (.dat .bool (!b)))
  | .neg, .one (.dat (.int k) n) => pureE (.one (.dat (.int k) (k.wrap (0 - n))))
  | _, _ => none

def iConvert (P : Program) (T U : TypeId) (x : IVal) : Option Eff :=
  match P.underlying T, P.underlying U, x with
  | some (.int _), some (.int k), .one (.dat (.int _) n) => pureE (.one (.dat (.int k) (k.wrap n)))
  | some .string, some .string, .one (.dat .str s) => pureE (.one (.dat .str s))
  | _, _, _ => none

def iExtract (x : IVal) (i : Nat) : Option Eff :=
  match x with
  | .tup ts => (match ts[i]? with
    | some (ag, cs) => (match mkV ag cs with
      | some v => pureE v
      | none => none)
    | none => none)
  | _ => none

def iPick (b : Bool) (c x y : IVal) : Option Eff :=
  match c with
  | .one (.dat .bool t) => pureC (if b then x else y) [t = b]
  | _ => none

def iMin (x y : IVal) : Option Eff :=
  match x, y with
  | .one (.dat (.int k) a), .one (.dat (.int k') b) => if k = k' then pureE (.one (.dat (.int k) (if b < a then b else a))) else none
  | _, _ => none
def iMax (x y : IVal) : Option Eff :=
  match x, y with
  | .one (.dat (.int k) a), .one (.dat (.int k') b) => if k = k' then pureE (.one (.dat (.int k) (if b > a then b else a))) else none
  | _, _ => none

end Go.Ide
