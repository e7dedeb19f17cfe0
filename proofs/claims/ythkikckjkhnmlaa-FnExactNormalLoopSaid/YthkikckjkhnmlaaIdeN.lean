/-
  Contracts of functions; what a call does in the ideal machine.
-/
import Derived.Test.YthkikckjkhnmlaaIdeM
namespace Go.Ide

/-- Data whose slices lie each in a block of its own; the blocks. -/
def OwnRep (S : Nat → Prop) (w : World) : (t : Ty) → List Value → t.D → List Nat → Prop
  | .pair a b, cs, x, F => ∃ c1 c2 F1 F2, cs = c1 ++ c2 ∧ F = F1 ++ F2 ∧ OwnRep S w a c1 x.1 F1 ∧ OwnRep S w b c2 x.2 F2
  | .st t, cs, x, F => OwnRep S w t cs x F
  | .sl t, cs, xs, F => (F = [] ∧ xs = [] ∧ ∃ a, cs = [.slice a 0 0]) ∨
      ∃ b cap arr, F = [b] ∧ cs = [.slice (some ⟨b, 0, none⟩) (List.length xs) cap] ∧ List.length xs ≤ cap ∧ 0 < cap ∧ blk w b arr ∧ cap * t.size ≤ arr.size ∧ cap ≤ maxLen ∧ ElsR S w t xs arr
  | .int k, cs, x, F => F = [] ∧ Rep S w (.int k) cs x
  | .flt k, cs, x, F => F = [] ∧ Rep S w (.flt k) cs x
  | .bool, cs, x, F => F = [] ∧ Rep S w .bool cs x
  | .str, cs, x, F => F = [] ∧ Rep S w .str cs x

def ArgR (S : Nat → Prop) (w : World) : Arg → Value → List Nat → Prop
  | .imm t x, v, F => F = [] ∧ ∃ cs, ValOf t cs v ∧ Rep S w t cs x
  | .pimm t x, v, F => F = [] ∧ ∃ (ad : Addr) (es : List Value), v = .pointer (some ad) ∧ S ad.block ∧ (∀ j u, es[j]? = some u → w.cell? (ad.add j) = some u) ∧ Rep S w t es x
  | .own t x, v, F => ∃ cs, ValOf t cs v ∧ OwnRep S w t cs x F
  | .fn f, v, F => F = [] ∧ v = .func (.func f) #[] #[]

def ArgsR (S : Nat → Prop) (w : World) : List Arg → List Value → List (List Nat) → Prop
  | [], [], [] => True
  | a :: as, v :: vs, F :: Fs => ArgR S w a v F ∧ ArgsR S w as vs Fs
  | _, _, _ => False

def OutsR (S : Nat → Prop) (w : World) : List Arg → List Value → List (List Nat) → List TD → Prop
  | [], [], [], [] => True
  | .own t _ :: as, v :: vs, F :: Fs, o :: os => (∃ (h : o.t = t) (cs : List Value), ValOf t cs v ∧ OwnRep S w t cs (castD h o.x) F) ∧ OutsR S w as vs Fs os
  | .imm _ _ :: as, _ :: vs, _ :: Fs, os => OutsR S w as vs Fs os
  | .pimm _ _ :: as, _ :: vs, _ :: Fs, os => OutsR S w as vs Fs os
  | .fn _ :: as, _ :: vs, _ :: Fs, os => OutsR S w as vs Fs os
  | _, _, _, _ => False

def RVR (S : Nat → Prop) (w : World) (r : RV) (v : Value) (F : List Nat) : Prop :=
  if r.fresh then ∃ cs, ValOf r.t cs v ∧ OwnRep S w r.t cs r.x F else F = [] ∧ ∃ cs, ValOf r.t cs v ∧ Rep S w r.t cs r.x

def RVsR (S : Nat → Prop) (w : World) : List RV → List Value → List Nat → Prop
  | [], [], F => F = []
  | r :: rs, v :: vs, F => ∃ F1 F2, F = F1 ++ F2 ∧ RVR S w r v F1 ∧ RVsR S w rs vs F2
  | _, _, _ => False

/-- A function's value, of its results. -/
def ResOf : List Value → Value → Prop
  | [u], v => v = u
  | vs, v => v = .tuple vs.toArray

def ResR (S : Nat → Prop) (w : World) (rs : List RV) (v : Value) (F : List Nat) : Prop :=
  ∃ vs, RVsR S w rs vs F ∧ ResOf vs v

def CanCall (P : Program) (f : FuncId) : Prop := ∃ fn, P.funcs[f]? = some fn ∧ (fn.name == "runtime.NumGoroutine") = false ∧ fn.body.isNone = false

/-- The blocks that may be read behind a call. -/
def Behind (S : Nat → Prop) (w w' : World) (F' : List Nat) (b : Nat) : Prop := b < w'.heap.size ∧ (b < w.heap.size → S b) ∧ b ∉ F'

/-- Called with data, a function gives data. -/
def CallOK (P : Program) (f : FuncId) (args : List Arg) (rs : List RV) (outs : List TD) : Prop :=
  CanCall P f ∧ ∀ (w : World) (S : Nat → Prop) (vals : List Value) (Fs : List (List Nat)),
    (∀ b, S b → b < w.heap.size ∧ b ∉ Fs.flatten) → Fs.flatten.Nodup → (∀ b, b ∈ Fs.flatten → b < w.heap.size) → ArgsR S w args vals Fs →
    Calls P f vals.toArray w fun e w' => ∃ v F', e = .returned v ∧ ResR (Behind S w w' F') w' rs v F' ∧ F'.Nodup ∧ (∀ b, b ∈ F' → w.heap.size ≤ b ∧ b < w'.heap.size) ∧
      KeepF Fs.flatten w w' ∧ OutsR (Behind S w w' F') w' args vals Fs outs

/-- A value as an argument: of cells that are data; 'ms' is where else may be looked. -/
def argOf (m : Mem) : Mode → IVal → Option Arg
  | .imm t, v => match vdat m t v with
    | some x => some (.imm t x)
    | none => none
  | .own t, v => match vdat m t v with
    | some x => some (.own t x)
    | none => none
  | .pimm t, .one (.ip t' x off) => match impl m t (((expl t' x).drop off).take t.size) with
    | some (y, []) => some (.pimm t y)
    | _ => none
  | .fn, .one (.fn f) => some (.fn f)
  | _, _ => none

/-- A pointer to a box of the call's own, as an argument that is read. -/
def argP (mp m : Mem) : Mode → IVal → Option Arg
  | .pimm t, .one (.ptr c off) => match lk c mp with
    | some (.box cs) => (match impl m t ((cs.drop off).take t.size) with
      | some (y, []) => some (.pimm t y)
      | _ => none)
    | _ => none
  | md, v => argOf m md v

/-- Arguments: what is the call's own by 'm', the others by 'm2'. -/
def argsOf (m m2 : Mem) : List Mode → List IVal → Option (List Arg)
  | [], [] => some []
  | .own t :: ms, v :: vs => match argOf m (.own t) v, argsOf m m2 ms vs with
    | some a, some as => some (a :: as)
    | _, _ => none
  | md :: ms, v :: vs => match argP m m2 md v, argsOf m m2 ms vs with
    | some a, some as => some (a :: as)
    | _, _ => none
  | _, _ => none

def ownKeysAll (m : Mem) : List Mode → List IVal → Option (List Nat)
  | [], [] => some []
  | .own t :: ms, v :: vs => match ownKeys m t v.cells, ownKeysAll m ms vs with
    | some (ks, []), some l => some (ks ++ l)
    | _, _ => none
  | _ :: ms, _ :: vs => ownKeysAll m ms vs
  | _, _ => none

/-- The chunks of the call's own behind a call that has written them. -/
def ownUpd : (t : Ty) → List ICell → t.D → Option (Mem × List ICell)
  | .pair a b, cs, x => match ownUpd a cs x.1 with
    | some (u1, r) => (match ownUpd b r x.2 with
      | some (u2, r') => some (u1 ++ u2, r')
      | none => none)
    | none => none
  | .st t, cs, x => ownUpd t cs x
  | .sl t, cs, xs => match cs with
    | .all c :: r => some ([(c, .seq t xs)], r)
    | .nilS :: r => some ([], r)
    | _ => none
  | .int _, cs, _ => match cs with
    | .dat _ _ :: r => some ([], r)
    | _ => none
  | .flt _, cs, _ => match cs with
    | .dat _ _ :: r => some ([], r)
    | _ => none
  | .bool, cs, _ => match cs with
    | .dat _ _ :: r => some ([], r)
    | _ => none
  | .str, cs, _ => match cs with
    | .dat _ _ :: r => some ([], r)
    | _ => none

def ownUpdAll : List Mode → List IVal → List TD → Option Mem
  | [], [], [] => some []
  | .own t :: ms, v :: vs, o :: os => if h : o.t = t then (match ownUpd t v.cells (castD h o.x), ownUpdAll ms vs os with
      | some (u, []), some l => some (u ++ l)
      | _, _ => none) else none
  | .imm _ :: ms, _ :: vs, os => ownUpdAll ms vs os
  | .pimm _ :: ms, _ :: vs, os => ownUpdAll ms vs os
  | .fn :: ms, _ :: vs, os => ownUpdAll ms vs os
  | _, _, _ => none

def explR : List RV → Nat → List (Bool × List ICell) × List Chunk
  | [], _ => ([], [])
  | r :: rs, n =>
    let p : List ICell × List Chunk := if r.fresh then explF r.t r.x n else (expl r.t r.x, [])
    let q := explR rs (n + p.2.length)
    ((r.t.isSt, p.1) :: q.1, p.2 ++ q.2)

def resV : List (Bool × List ICell) → IVal
  | [(true, cs)] => .agg cs
  | [(false, [c])] => .one c
  | [_] => .junk
  | l => .tup l

def nodupB : List Nat → Bool
  | [] => true
  | a :: l => !(l.any fun b => Nat.beq a b) && nodupB l

def modesFlat : List Mode → Bool
  | [] => true
  | .own t :: ms => t.flat1 && modesFlat ms
  | _ :: ms => modesFlat ms

def noOwn : List Mode → Bool
  | [] => true
  | .own _ :: _ => false
  | _ :: ms => noOwn ms

def iCall (P : Program) (m : Mem) (nx : Nat) (ms : List Mode) (rs : List RV) (outs : List TD) (f : FuncId) (vs : List IVal) : Option Eff :=
  match ownKeysAll m ms vs, ownUpdAll ms vs outs with
  | some ks, some up => (match argsOf [] [] ms vs with
    | some as => bif ks.isEmpty && noOwn ms then some ⟨resV (explR rs nx).1, keysFrom nx (explR rs nx).2, up, [CallOK P f as rs outs]⟩ else none
    | none => bif (rs.all RV.okAlone && modesFlat ms) && nodupB ks then (match argsOf m ((ks.map fun k => (k, Chunk.gone)) ++ m) ms vs with
      | some as => some ⟨resV (explR rs nx).1, keysFrom nx (explR rs nx).2, up, [CallOK P f as rs outs]⟩
      | none => none) else none)
  | _, _ => none

end Go.Ide
