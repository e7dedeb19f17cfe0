import Derived.Test.YtjekgiabgglokaaLibB
import Derived.RangeFuncWrites
import Derived.ProofKit
import Derived.Deep.Slices
import Derived.IntWalk
set_option linter.unusedVariables false
set_option linter.unusedSimpArgs false
set_option linter.unusedSectionVars false

/-
 The world grows, and blocks that hold no cells turn: what is simulated stays. A call seen from its middle.
-/
namespace Go.Ide

section
variable {w w' : World} {D : Nat} {S : Nat → Prop}

theorem no_cell {o : Obj} (hD : w.heap[D]? = some o) (hn : o.isCells = false) {a : Addr} {v : Value} (h : w.cell? a = some v) : a.block ≠ D := fun e => by
 obtain ⟨o', h1, h2⟩ := cells_of_cell h
 rw [e, hD] at h1
 injection h1 with h1
 subst h1
 rw [hn] at h2
 cases h2

theorem els_block {o : Obj} (hD : w.heap[D]? = some o) (hn : o.isCells = false) {ad : Addr} {es : List Value} {n k : Nat} (hl : es.length = n) (h0 : 0 < n) (hc : ∀ j v, es[j]? = some v → w.cell? (ad.add (k + j)) = some v) : ad.block ≠ D := by
 obtain ⟨v, hv⟩ : ∃ v, es[0]? = some v := ⟨es[0], List.getElem?_eq_getElem (by omega)⟩
 have := no_cell hD hn (hc 0 v hv)
 rwa [add_block] at this

theorem Rep.avoid {o : Obj} (hD : w.heap[D]? = some o) (hn : o.isCells = false) : ∀ (t : Ty) (cs : List Value) (x : t.D), Rep S w t cs x → Rep (fun b => S b ∧ b ≠ D) w t cs x
 | .int _, _, _, hr => hr
 | .flt _, _, _, hr => hr
 | .bool, _, _, hr => hr
 | .str, _, _, hr => hr
 | .pair a b, _, x, ⟨c1, c2, e, h1, h2⟩ => ⟨c1, c2, e, Rep.avoid hD hn a c1 x.1 h1, Rep.avoid hD hn b c2 x.2 h2⟩
 | .st t, cs, x, hr => Rep.avoid hD hn t cs x hr
 | .sl t, _, xs, ⟨a, cap, e, hc, hr⟩ => ⟨a, cap, e, hc, fun i hi => by
   obtain ⟨ad, es, ea, hs, hcell, hrep⟩ := hr i hi
   exact ⟨ad, es, ea, ⟨hs, els_block hD hn (Rep.len t es _ hrep) t.size_pos hcell⟩, hcell, Rep.avoid hD hn t es _ hrep⟩⟩
 | .own t, _, xs, ⟨a, cap, e, hc, hr⟩ => ⟨a, cap, e, hc, fun i hi => by
   obtain ⟨ad, es, ea, hs, hcell, hrep⟩ := hr i hi
   exact ⟨ad, es, ea, ⟨hs, els_block hD hn (Rep.len t es _ hrep) t.size_pos hcell⟩, hcell, Rep.avoid hD hn t es _ hrep⟩⟩
 | .bx t, _, xs, ⟨ad, e, hr⟩ => ⟨ad, e, fun i hi => by
   obtain ⟨es, hs, hcell, hrep⟩ := hr i hi
   exact ⟨es, ⟨hs, els_block hD hn (Rep.len t es _ hrep) t.size_pos hcell⟩, hcell, Rep.avoid hD hn t es _ hrep⟩⟩

variable {g : GM} {m : Mem}

theorem CR.avoid {o : Obj} (hD : w.heap[D]? = some o) (hn : o.isCells = false) {c : ICell} {v : Value} (hr : CR g m S w c v) : CR g m (fun b => S b ∧ b ≠ D) w c v := by
 cases c with
 | dat t x => exact Rep.avoid hD hn t [v] x hr
 | ip t x off =>
  obtain ⟨ad, es, e, hs, hcell, hrep⟩ := hr
  exact ⟨ad, es, e, ⟨hs, els_block (k := 0) hD hn (Rep.len t es _ hrep) t.size_pos (fun j u hu => by rw [Nat.zero_add]; exact hcell j u hu)⟩, hcell, Rep.avoid hD hn t es x hrep⟩
 | clo f t x =>
  obtain ⟨ad, es, e, hs, hcell, hrep⟩ := hr
  exact ⟨ad, es, e, ⟨hs, els_block (k := 0) hD hn (Rep.len t es _ hrep) t.size_pos (fun j u hu => by rw [Nat.zero_add]; exact hcell j u hu)⟩, hcell, Rep.avoid hD hn t es x hrep⟩
 | ptr => exact hr
 | elp => exact hr
 | all => exact hr
 | ref => exact hr
 | row => exact hr
 | rlp => exact hr
 | nilS => exact hr
 | fn => exact hr
 | junk => exact hr
 | bad => trivial

theorem VR.avoid {o : Obj} (hD : w.heap[D]? = some o) (hn : o.isCells = false) : ∀ {c : IVal} {v : Value}, VR g m S w c v → VR g m (fun b => S b ∧ b ≠ D) w c v
 | .one _, _, hr => CR.avoid hD hn hr
 | .agg _, _, ⟨vs, e, hr⟩ => ⟨vs, e, hr.mono fun _ _ => CR.avoid hD hn⟩
 | .tup _, _, ⟨vs, e, hr⟩ => ⟨vs, e, hr.mono fun t v hc => by
   unfold CV at hc ⊢
   split at hc
   ·obtain ⟨us, e', hu⟩ := hc; exact ⟨us, e', hu.mono fun _ _ => CR.avoid hD hn⟩
   ·exact CR.avoid hD hn hc
   ·exact hc.elim⟩
 | .und, _, h => h
 | .junk, _, _ => trivial

theorem ElR.avoid {ob : Obj} (hD : w.heap[D]? = some ob) (hn : ob.isCells = false) : ∀ (t : Ty) {γ : List Nat → Option Nat} {o : Nat} {cs : List Value} {x : t.D}, ElR S w t γ o cs x → ElR (fun b => S b ∧ b ≠ D) w t γ o cs x
 | .own t, γ, o, cs, xs, ⟨v, e, ha, hr⟩ => by
  refine ⟨v, e, ha, ?_⟩
  cases hg : γ [o] with
  | none => rw [hg] at hr; exact hr
  | some b =>
   rw [hg] at hr
   obtain ⟨arr, hb, hi⟩ := hr
   exact ⟨arr, hb, fun i hl => let ⟨es, h1, h2⟩ := hi i hl; ⟨es, h1, ElR.avoid hD hn t h2⟩⟩
 | .pair a b, γ, o, cs, x, ⟨c1, c2, e, h1, h2⟩ => ⟨c1, c2, e, ElR.avoid hD hn a h1, ElR.avoid hD hn b h2⟩
 | .st t, γ, o, cs, x, hr => ElR.avoid hD hn t (o := o) (cs := cs) (x := x) hr
 | .int k, _, _, cs, x, hr => Rep.avoid hD hn (.int k) cs x hr
 | .flt k, _, _, cs, x, hr => Rep.avoid hD hn (.flt k) cs x hr
 | .bool, _, _, cs, x, hr => Rep.avoid hD hn .bool cs x hr
 | .str, _, _, cs, x, hr => Rep.avoid hD hn .str cs x hr
 | .sl t, _, _, cs, x, hr => Rep.avoid hD hn (.sl t) cs x hr
 | .bx t, _, _, cs, x, hr => Rep.avoid hD hn (.bx t) cs x hr

theorem ChR.avoid {o : Obj} (hD : w.heap[D]? = some o) (hn : o.isCells = false) {γ : List Nat → Option Nat} {ch : Chunk} (hr : ChR g m S w γ ch) : ChR g m (fun b => S b ∧ b ≠ D) w γ ch := by
 cases ch with
 | gone => trivial
 | box cs =>
  obtain ⟨b, arr, e, hbl, hc⟩ := hr
  exact ⟨b, arr, e, hbl, hc.mono fun _ _ => CR.avoid hD hn⟩
 | seq t xs =>
  cases hγ : γ [] with
  | none => simp only [ChR, hγ] at hr ⊢; exact hr
  | some b =>
   simp only [ChR, hγ] at hr ⊢
   obtain ⟨arr, hbl, he⟩ := hr
   exact ⟨arr, hbl, fun i hi => let ⟨es, h1, h2⟩ := he i hi; ⟨es, h1, ElR.avoid hD hn t h2⟩⟩
 | opn t xs i cs ks =>
  obtain ⟨hks, b, arr, e, hbl, hi, hj, es, h1, h2, h3⟩ := hr
  refine ⟨hks, b, arr, e, hbl, hi, fun j hl hne => ?_, es, h1, h2, h3.mono fun _ _ => CR.avoid hD hn⟩
  obtain ⟨es, k1, k2⟩ := hj j hl hne
  exact ⟨es, k1, ElR.avoid hD hn t k2⟩

end

section
variable {cx : Cx} {g : GM} {st : St} {a : Act} {w w' : World}

theorem Sim.turnD {D : Nat} {o : Obj} (h : Sim cx g st a w) (hD : w.heap[D]? = some o) (hn : o.isCells = false) (hw : cx.w0.heap.size ≤ D)
  (hos : w'.os = w.os) (htp : w'.tape = w.tape) (hou : w'.output = w.output) (hsz : w.heap.size ≤ w'.heap.size) (hb : ∀ b, b < w.heap.size → b ≠ D → w'.heap[b]? = w.heap[b]?)
  {a' : Act} (ht : a'.tmps = a.tmps) (hd : DefR cx g st.mem w' a'.defers) : Sim cx g st a' w' := by
 have hDl : D < w.heap.size := (Array.getElem?_eq_some_iff.1 hD).1
 have hblk : ∀ b arr, blk w b arr → blk w' b arr := fun b arr hbb => hbb.keep (hb b hbb.lt (fun e => by
  obtain ⟨T, lo, hi, h1, _⟩ := hbb
  rw [e, hD] at h1
  injection h1 with h1
  subst h1
  cases hn))
 have hsafe : ∀ b, (cx.safe g st.mem w b ∧ b ≠ D) → cx.safe g st.mem w' b ∧ w'.heap[b]? = w.heap[b]? := fun b ⟨⟨h1, h2, h3⟩, h4⟩ => ⟨⟨Nat.lt_of_lt_of_le h1 hsz, h2, h3⟩, hb b h1 h4⟩
 have hst : Stays g g st.mem st.mem (fun b => cx.safe g st.mem w b ∧ b ≠ D) (cx.safe g st.mem w') w w' := {
  safe := hsafe
  pres := fun c hc => ⟨hc, rfl⟩
  old := fun c t xs _ hs => ⟨xs, hs, rfl⟩
  blk := fun c t xs b arr _ _ _ hb' => ⟨arr, hblk b arr hb', rfl⟩
  presp := fun c _ => rfl
  rows := fun c t xs' _ hc => ⟨xs', hc, ShapeEq.refl _ _, fun i o b arr _ hb' => ⟨arr, hblk b arr hb', rfl⟩⟩ }
 refine ⟨hd, by rw [ht]; exact h.size, fun t v hlk => by rw [ht]; exact VR.stays hst (VR.avoid hD hn (h.fr t v hlk)), fun k ch hk => ?_, h.injp, h.basep, fun k p ch b h1 h2 h3 => Nat.lt_of_lt_of_le (h.lt k p ch b h1 h2 h3) hsz, ?_, h.own, h.gl⟩
 ·have hch := ChR.avoid hD hn (h.mem k ch hk)
  -- a chunk's blocks hold cells
  revert hch
  generalize hγ : g.f k = γ
  intro hch
  have hel : ∀ (t : Ty) {γ : List Nat → Option Nat} {o : Nat} {cs : List Value} {x : t.D}, ElR (fun b => cx.safe g st.mem w b ∧ b ≠ D) w t γ o cs x → ElR (cx.safe g st.mem w') w' t γ o cs x := by
   intro t
   induction t with
   | own t ih =>
    intro γ o cs xs ⟨v, e, ha, hr⟩
    refine ⟨v, e, ha.stays fun b arr _ hb' => ⟨arr, hblk b arr hb', rfl⟩, ?_⟩
    cases hg : γ [o] with
    | none => rw [hg] at hr; exact hr
    | some b =>
     rw [hg] at hr
     obtain ⟨arr, hb', hi⟩ := hr
     exact ⟨arr, hblk b arr hb', fun i hl => let ⟨es, h1, h2⟩ := hi i hl; ⟨es, h1, ih h2⟩⟩
   | pair a b iha ihb => exact fun ⟨c1, c2, e, h1, h2⟩ => ⟨c1, c2, e, iha h1, ihb h2⟩
   | st t ih => exact fun {γ o cs x} hr => ih (γ := γ) (o := o) (cs := cs) (x := x) hr
   | int k => exact fun {γ o cs x} hr => Rep.keep hsafe (.int k) cs x hr
   | flt k => exact fun {γ o cs x} hr => Rep.keep hsafe (.flt k) cs x hr
   | bool => exact fun {γ o cs x} hr => Rep.keep hsafe .bool cs x hr
   | str => exact fun {γ o cs x} hr => Rep.keep hsafe .str cs x hr
   | sl t _ => exact fun {γ o cs x} hr => Rep.keep hsafe (.sl t) cs x hr
   | bx t _ => exact fun {γ o cs x} hr => Rep.keep hsafe (.bx t) cs x hr
  cases ch with
  | gone => trivial
  | box cs =>
   obtain ⟨b, arr, e, hbl, hc⟩ := hch
   exact ⟨b, arr, e, hblk b arr hbl, hc.mono fun _ _ => CR.stays hst⟩
  | seq t xs =>
   cases hγ2 : γ [] with
   | none => simp only [ChR, hγ2] at hch ⊢; exact hch
   | some b =>
    simp only [ChR, hγ2] at hch ⊢
    obtain ⟨arr, hbl, he⟩ := hch
    exact ⟨arr, hblk b arr hbl, fun i hi => let ⟨es, h1, h2⟩ := he i hi; ⟨es, h1, hel t h2⟩⟩
  | opn t xs i cs ks =>
   obtain ⟨hks, b, arr, e, hbl, hi, hj, es, h1, h2, h3⟩ := hch
   refine ⟨hks, b, arr, e, hblk b arr hbl, hi, fun j hl hne => ?_, es, h1, h2, h3.mono fun _ _ => CR.stays hst⟩
   obtain ⟨es, k1, k2⟩ := hj j hl hne
   exact ⟨es, k1, hel t k2⟩
 ·refine ⟨hos.trans h.keep.os, htp.trans h.keep.tape, hou.trans h.keep.output, Nat.le_trans h.keep.size hsz, fun b h1 h2 => ?_, fun b arr hbb => ?_⟩
  ·rw [hb b (Nat.lt_of_lt_of_le h1 h.keep.size) (by omega)]
   exact h.keep.block b h1 h2
  ·obtain ⟨arr', h1, h2⟩ := h.keep.sz b arr hbb
   exact ⟨arr', hblk b arr' h1, h2⟩

theorem Sim.grown {row : Option Nat} (h : Sim cx g st a w) (hg : w.grownBy w' row) (hr : ∀ r, row = some r → cx.w0.heap.size ≤ r ∧ ∃ o : Obj, w.heap[r]? = some o ∧ o.isCells = false ∧ o ≠ .deferred (some [])) : Sim cx g st a w' := by
 cases row with
 | some r =>
  obtain ⟨h1, o, h2, h3, h4⟩ := hr r rfl
  refine h.turnD h2 h3 h1 hg.os hg.tape hg.output hg.size (fun b hb hne => hg.block b hb (fun e => hne (by injection e))) rfl ?_
  obtain ⟨Ds, e, hn, hD⟩ := h.defers
  refine ⟨Ds, e, hn, fun D hm => ?_⟩
  obtain ⟨k1, k2, k3⟩ := hD D hm
  refine ⟨(hg.block D (Array.getElem?_eq_some_iff.1 k1).1 (fun e => ?_)).trans k1, k2, k3⟩
  injection e with e
  subst e
  rw [h2] at k1
  injection k1 with k1
  exact h4 k1
 | none =>
  have k : KeepF [] w w' := ⟨hg.os, hg.tape, hg.output, hg.size, fun b hb _ => hg.block b hb (fun e => by cases e), fun b arr hb => ⟨arr, hb.keep (hg.block b hb.lt (fun e => by cases e)), rfl⟩⟩
  exact h.turn (nx' := st.nx) ⟨k, fun b hb => by simp at hb, fun _ _ => rfl, fun k ch hk => .inl ⟨hk, fun _ _ _ _ hb => by simp at hb⟩, fun k ch hk hk' => by rw [hk] at hk'; cases hk'⟩

end
end Go.Ide


/-
 A function: from its body's run to its contract.
-/
namespace Go.Ide

def toIV (t : Ty) (cs : List ICell) : IVal := if t.isSt then .agg cs else (match cs with | [c] => .one c | _ => .junk)

def argSt : List Arg → Nat → Nat → Fr × List Chunk
 | [], _, _ => ([], [])
 | .imm t x :: r, i, n => ((i, toIV t (expl t x)) :: (argSt r (i + 1) n).1, (argSt r (i + 1) n).2)
 | .pimm t x :: r, i, n => ((i, .one (.ip t x 0)) :: (argSt r (i + 1) n).1, (argSt r (i + 1) n).2)
 | .fn f :: r, i, n => ((i, .one (.fn f)) :: (argSt r (i + 1) n).1, (argSt r (i + 1) n).2)
 | .clo f t x :: r, i, n => ((i, .one (.clo f t x)) :: (argSt r (i + 1) n).1, (argSt r (i + 1) n).2)
 | .nl :: r, i, n => ((i, .one .nilS) :: (argSt r (i + 1) n).1, (argSt r (i + 1) n).2)
 | .mv t x :: r, i, n =>
  ((i, toIV t (explF t x n).1) :: (argSt r (i + 1) (n + (explF t x n).2.length)).1, (explF t x n).2 ++ (argSt r (i + 1) (n + (explF t x n).2.length)).2)
 | .own t x :: r, i, n =>
  ((i, toIV t (explF t x n).1) :: (argSt r (i + 1) (n + (explF t x n).2.length)).1, (explF t x n).2 ++ (argSt r (i + 1) (n + (explF t x n).2.length)).2)

def memK (j : Nat) : List Nat → Bool
 | [] => false
 | a :: l => Nat.beq j a || memK j l

theorem memK_iff {j : Nat} : ∀ {l : List Nat}, memK j l = true ↔ j ∈ l
 | [] => by simp [memK]
 | a :: l => by simp [memK, memK_iff (l := l)]

def ownKs : List Arg → Nat → List Nat
 | [], _ => []
 | .own t x :: r, n => List.range' n (explF t x n).2.length ++ ownKs r (n + (explF t x n).2.length)
 | .mv t x :: r, n => ownKs r (n + (explF t x n).2.length)
 | .imm _ _ :: r, n => ownKs r n
 | .pimm _ _ :: r, n => ownKs r n
 | .fn _ :: r, n => ownKs r n
 | .clo _ _ _ :: r, n => ownKs r n
 | .nl :: r, n => ownKs r n

def st0 (args : List Arg) : St := ⟨(argSt args 0 0).1, keysFrom 0 (argSt args 0 0).2, (argSt args 0 0).2.length⟩

def resI (P : Program) (m : Mem) (fr : Fr) : List ResultVar → Option (List IVal)
 | [] => some []
 | .tmp t :: r => match lk t fr, resI P m fr r with
  | some v, some l => some (v :: l)
  | _, _ => none
 | .cell t T :: r => match lk t fr, resI P m fr r with
  | some (.one (.ptr c off)), some l => (match iLoad P m T (.one (.ptr c off)) with
   | some e => some (e.val :: l)
   | none => none)
  | _, _ => none

def retI (m : Mem) : List (Bool × Ty) → List IVal → Option (List RV × List Nat)
 | [], [] => some ([], [])
 | (fresh, t) :: ts, v :: vs => match retI m ts vs with
  | some (rs, ks) => if fresh then (match vdat m t v, ownKeys m t v.cells with
    | some x, some (k, []) => some (⟨true, t, x⟩ :: rs, k ++ ks)
    | _, _ => none) else (match vdat [] t v with
    | some x => some (⟨false, t, x⟩ :: rs, ks)
    | none => none)
  | none => none
 | _, _ => none

def ownOut (m : Mem) : (t : Ty) → t.D → Nat → Option (t.D × Nat × List Prop)
 | .pair a b, x, n => match ownOut m a x.1 n with
  | some (y, n1, c1) => (match ownOut m b x.2 n1 with
   | some (z, n2, c2) => some ((y, z), n2, c1 ++ c2)
   | none => none)
  | none => none
 | .st t, x, n => ownOut m t x n
 | .sl t, xs, n => match lk n m with
  | some (.seq t' ys) => if h : t' = t then some (castD (congrArg Ty.sl h) ys, n + 1, bif t.top then [List.length ys = List.length xs] else [ShapeEq t xs (castD (a := .sl t') (b := .sl t) (congrArg Ty.sl h) ys)]) else none
  | _ => none
 | .own t, xs, n => match lk n m with
  | some (.seq t' ys) => if h : t' = t then some ((castD (a := .sl t') (b := .sl t) (congrArg Ty.sl h) ys : List t.D), n + 1, bif t.top then [List.length ys = List.length xs] else [ShapeEq t xs (castD (a := .sl t') (b := .sl t) (congrArg Ty.sl h) ys)]) else none
  | _ => none
 | .bx t, xs, n => match lk n m with
  | some (.seq t' ys) => if h : t' = t then some ((castD (a := .sl t') (b := .sl t) (congrArg Ty.sl h) ys : List t.D), n + 1, bif t.top then [List.length ys = List.length xs] else [ShapeEq t xs (castD (a := .sl t') (b := .sl t) (congrArg Ty.sl h) ys)]) else none
  | _ => none
 | .int _, x, n => some (x, n, [])
 | .flt _, x, n => some (x, n, [])
 | .bool, x, n => some (x, n, [])
 | .str, x, n => some (x, n, [])

def ownOuts (m : Mem) : List Arg → Nat → Option (List TD × List Prop)
 | [], _ => some ([], [])
 | .own t x :: r, n => match ownOut m t x n with
  | some (y, n1, c1) => (match ownOuts m r n1 with
   | some (l, c2) => some (⟨t, y⟩ :: l, c1 ++ c2)
   | none => none)
  | none => none
 | .mv t x :: r, n => ownOuts m r (n + (explF t x n).2.length)
 | .imm _ _ :: r, n => ownOuts m r n
 | .pimm _ _ :: r, n => ownOuts m r n
 | .fn _ :: r, n => ownOuts m r n
 | .clo _ _ _ :: r, n => ownOuts m r n
 | .nl :: r, n => ownOuts m r n

def RetOK (P : Program) (fn : Func) (args : List Arg) (ts : List (Bool × Ty)) (rs : List RV) (outs : List TD) (st : St) : Prop :=
 ∃ vs ks cs, resI P st.mem st.fr fn.results.toList = some vs ∧ retI st.mem ts vs = some (rs, ks) ∧ nodupB ks = true ∧ ks.all (fun k => !(memK k (ownKs args 0))) = true ∧ ownOuts st.mem args 0 = some (outs, cs) ∧ AllP cs

def retQ (P : Program) (fn : Func) (args : List Arg) (ts : List (Bool × Ty)) (rs : List RV) (outs : List TD) : Exit → St → Prop
 | .normal, st => RetOK P fn args ts rs outs st
 | .ret, st => RetOK P fn args ts rs outs st
 | _, _ => False

section
variable {S : Nat → Prop} {w : World}

theorem toIV_VR {g : GM} {m : Mem} {t : Ty} {cs : List Value} {ics : List ICell} {v : Value} (h : ValOf t cs v) (ha : All2 (CR g m S w) ics cs) : VR g m S w (toIV t ics) v := by
 unfold ValOf at h
 unfold toIV
 split
 ·rename_i hst
  rw [if_pos hst] at h
  exact ⟨cs, h, ha⟩
 ·rename_i hst
  rw [if_neg hst] at h
  subst h
  cases ics with
  | nil => exact ha.elim
  | cons c r =>
   cases r with
   | nil => exact ha.1
   | cons => exact ha.2.elim

theorem argSt_rel {S2 : Nat → Prop} (hS : ∀ b, S b → S2 b) : ∀ {args : List Arg} {vals : List Value} {As : List (List (List Nat → Option Nat))} (i n : Nat), ArgsR S w args vals As → As.flatten.length = (argSt args i n).2.length ∧ ArgsR S2 w args vals As ∧
  ∀ (g' : GM) (m' : Mem), (∀ j ch, (argSt args i n).2[j]? = some ch → lk (n + j) m' = some ch) → (∀ j o, As.flatten[j]? = some o → g'.f (n + j) = o) →
   (∀ t v, lk t (argSt args i n).1 = some v → i ≤ t ∧ ∃ u, vals[t - i]? = some u ∧ VR g' m' S2 w v u) ∧ Laid g' m' S2 w n (argSt args i n).2 As.flatten
 | [], [], [], i, n, _ => ⟨rfl, trivial, fun g' m' _ _ => ⟨fun t v h => by simp [argSt, lk_nil] at h, rfl, fun j ch hj => by simp [argSt] at hj⟩⟩
 | arg :: args, v :: vals, F :: Fs, i, n, ⟨h1, h2⟩ => by
  -- an argument that brings no chunk
  have plain : ∀ (iv : IVal), F = [] → argSt (arg :: args) i n = ((i, iv) :: (argSt args (i + 1) n).1, (argSt args (i + 1) n).2) → (∀ (g' : GM) (m' : Mem), VR g' m' S2 w iv v) → ArgR S2 w arg v F →
    (F :: Fs).flatten.length = (argSt (arg :: args) i n).2.length ∧ ArgsR S2 w (arg :: args) (v :: vals) (F :: Fs) ∧
    ∀ (g' : GM) (m' : Mem), (∀ j ch, (argSt (arg :: args) i n).2[j]? = some ch → lk (n + j) m' = some ch) → (∀ j o, (F :: Fs).flatten[j]? = some o → g'.f (n + j) = o) →
     (∀ t u, lk t (argSt (arg :: args) i n).1 = some u → i ≤ t ∧ ∃ x, (v :: vals)[t - i]? = some x ∧ VR g' m' S2 w u x) ∧ Laid g' m' S2 w n (argSt (arg :: args) i n).2 (F :: Fs).flatten := by
   intro iv hF he hv hA
   obtain ⟨k1, k2, k3⟩ := argSt_rel hS (i + 1) n h2
   have hfl : (F :: Fs).flatten = Fs.flatten := by rw [hF]; rfl
   rw [hfl]
   refine ⟨by rw [he]; exact k1, ⟨hA, k2⟩, fun g' m' hm hg => ?_⟩
   rw [he] at hm ⊢
   obtain ⟨q1, q2⟩ := k3 g' m' hm hg
   refine ⟨fun t u hl => ?_, q2⟩
   simp only at hl
   rw [lk_cons] at hl
   split at hl
   ·rename_i e
    subst e
    injection hl with hl
    subst hl
    exact ⟨Nat.le_refl _, v, by simp, hv g' m'⟩
   ·obtain ⟨a1, x, a2, a3⟩ := q1 t u hl
    refine ⟨by omega, x, ?_, a3⟩
    rw [show t - i = (t - (i + 1)) + 1 from by omega]
    simpa using a2
  -- an argument of the call's own
  have owned : ∀ (t : Ty) (x : t.D), argSt (arg :: args) i n = ((i, toIV t (explF t x n).1) :: (argSt args (i + 1) (n + (explF t x n).2.length)).1, (explF t x n).2 ++ (argSt args (i + 1) (n + (explF t x n).2.length)).2) →
    (∃ cs, ValOf t cs v ∧ OwnA S w t cs x F) → ((∃ cs, ValOf t cs v ∧ OwnA S2 w t cs x F) → ArgR S2 w arg v F) →
    (F :: Fs).flatten.length = (argSt (arg :: args) i n).2.length ∧ ArgsR S2 w (arg :: args) (v :: vals) (F :: Fs) ∧
    ∀ (g' : GM) (m' : Mem), (∀ j ch, (argSt (arg :: args) i n).2[j]? = some ch → lk (n + j) m' = some ch) → (∀ j o, (F :: Fs).flatten[j]? = some o → g'.f (n + j) = o) →
     (∀ t u, lk t (argSt (arg :: args) i n).1 = some u → i ≤ t ∧ ∃ x, (v :: vals)[t - i]? = some x ∧ VR g' m' S2 w u x) ∧ Laid g' m' S2 w n (argSt (arg :: args) i n).2 (F :: Fs).flatten := by
   intro t x he ⟨cs, hv, ho⟩ hA
   have ho := OwnA.mono hS t ho
   obtain ⟨l2, b2, k2⟩ := argSt_rel hS (i + 1) (n + (explF t x n).2.length) h2
   have l1 : F.length = (explF t x n).2.length := by rw [explF_slots, OwnA.alen t ho]
   rw [List.flatten_cons]
   refine ⟨by rw [he]; simp only [List.length_append, l1, l2], ⟨hA ⟨cs, hv, ho⟩, b2⟩, fun g' m' hm hg => ?_⟩
   rw [he] at hm ⊢
   obtain ⟨p1, q1⟩ := explF_rel t n ho g' m' (fun j ch hj => hm j ch (by
     simp only
     rw [List.getElem?_append_left (List.getElem?_eq_some_iff.1 hj).1]; exact hj)) (fun j o hj => hg j o (by
     rw [List.getElem?_append_left (List.getElem?_eq_some_iff.1 hj).1]; exact hj))
   obtain ⟨p2, q2⟩ := k2 g' m' (fun j ch hj => by
     rw [Nat.add_assoc]
     refine hm _ ch ?_
     simp only
     rw [List.getElem?_append_right (by omega)]
     simpa using hj) (fun j o hj => by
     rw [Nat.add_assoc]
     refine hg _ o ?_
     rw [List.getElem?_append_right (by omega), l1]
     simpa using hj)
   refine ⟨fun t' u hl => ?_, q1.app q2⟩
   simp only at hl
   rw [lk_cons] at hl
   split at hl
   ·rename_i e
    subst e
    injection hl with hl
    subst hl
    exact ⟨Nat.le_refl _, v, by simp, toIV_VR hv p1⟩
   ·obtain ⟨a1, x, a2, a3⟩ := p2 t' u hl
    refine ⟨by omega, x, ?_, a3⟩
    rw [show t' - i = (t' - (i + 1)) + 1 from by omega]
    simpa using a2
  cases arg with
  | imm t x =>
   obtain ⟨hF, cs, hv, hr⟩ := h1
   have hr2 := Rep.keep (fun b hb => ⟨hS b hb, rfl⟩) t cs x hr
   exact plain _ hF rfl (fun g' m' => toIV_VR hv (expl_rel t hr2)) ⟨hF, cs, hv, hr2⟩
  | pimm t x =>
   obtain ⟨hF, ad, es, e, hs, hcell, hr⟩ := h1
   have hr2 := Rep.keep (fun b hb => ⟨hS b hb, rfl⟩) t es x hr
   exact plain _ hF rfl (fun g' m' => ⟨ad, es, by rw [e]; simp [Addr.add], hS _ hs, hcell, hr2⟩) ⟨hF, ad, es, e, hS _ hs, hcell, hr2⟩
  | fn f =>
   obtain ⟨hF, e⟩ := h1
   exact plain _ hF rfl (fun g' m' => e) ⟨hF, e⟩
  | clo f t x =>
   obtain ⟨hF, ad, es, e, hs, hcell, hr⟩ := h1
   have hr2 := Rep.keep (fun b hb => ⟨hS b hb, rfl⟩) t es x hr
   exact plain _ hF rfl (fun g' m' => ⟨ad, es, e, hS _ hs, hcell, hr2⟩) ⟨hF, ad, es, e, hS _ hs, hcell, hr2⟩
  | nl =>
   obtain ⟨hF, e⟩ := h1
   exact plain _ hF rfl (fun g' m' => e) ⟨hF, e⟩
  | own t x => exact owned t x rfl h1 fun h => h
  | mv t x => exact owned t x rfl h1 fun h => h
 | [], [], _ :: _, _, _, h => h.elim
 | [], _ :: _, _, _, _, h => h.elim
 | _ :: _, [], _, _, _, h => h.elim
 | _ :: _, _ :: _, [], _, _, h => h.elim

end

section
variable {cx : Cx} {g : GM} {st : St} {a : Act} {w : World}

def resS (tmps : Array Value) : ResultVar → Sem Value
 | .tmp t => pure (tmps.getD t undef)
 | .cell x t => do loadVar t (← asAddr (tmps.getD x undef))

theorem resI_run (h : Sim cx g st a w) : ∀ {rl : List ResultVar} {vs : List IVal}, resI cx.P st.mem st.fr rl = some vs →
  ∃ vals : List Value, (rl.mapM (resS a.tmps)).run cx.P w = .ok vals w ∧ All2 (VR g st.mem (cx.safe g st.mem w) w) vs vals
 | [], vs, he => by simp only [resI] at he; injection he with he; subst he; exact ⟨[], rfl, trivial⟩
 | .tmp t :: rl, vs, he => by
  simp only [resI] at he
  split at he
  ·rename_i v l hv hl
   injection he with he
   subst he
   obtain ⟨vals, h1, h2⟩ := resI_run h hl
   exact ⟨a.tmps.getD t undef :: vals, by simp [List.mapM_cons, resS, h1], h.fr t v hv, h2⟩
  ·cases he
 | .cell t T :: rl, vs, he => by
  simp only [resI] at he
  split at he
  ·rename_i c off l hv hl
   split at he
   ·rename_i e hld
    injection he with he
    subst he
    obtain ⟨vals, h1, h2⟩ := resI_run h hl
    have hv' := h.fr t _ hv
    have hcond : e.cond = [] := by
     unfold iLoad at hld
     split at hld
     ·rename_i e1 _ _; cases e1
     ·rename_i e1 _ _; cases e1
     ·split at hld
      ·split at hld
       ·unfold pureE at hld; injection hld with hld; rw [← hld]
       ·cases hld
      ·cases hld
     ·cases hld
    obtain ⟨_, _, r, h3, h4⟩ := iLoad_sound h.mem hld (by rw [hcond]; trivial) hv'
    obtain ⟨_, b, _, e1⟩ := hv'
    rw [e1] at h3
    simp only [Instr.loadAt, Instr.sureAddr, Sem.run_bind, Sem.run_pure, Result.andThen_ok] at h3
    exact ⟨r :: vals, by simp [List.mapM_cons, resS, e1, asAddr, h3, h1], h4, h2⟩
   ·cases he
  ·cases he

theorem vdat_own (hm : ChAll g st.mem (cx.safe g st.mem w) w) {t : Ty} {v : IVal} {x : t.D} {ks : List Nat} {u : Value} (hx : vdat st.mem t v = some x) (hk : ownKeys st.mem t v.cells = some (ks, [])) (hv : VR g st.mem (cx.safe g st.mem w) w v u) :
  ∃ cs A, ValOf t cs u ∧ OwnA (cx.safe g st.mem w) w t cs x A ∧ KeysA g st.mem ks A := by
 have hcells : ∃ vcs, ValOf t vcs u ∧ All2 (CR g st.mem (cx.safe g st.mem w) w) v.cells vcs ∧ impl st.mem t v.cells = some (x, []) := by
  unfold vdat at hx
  split at hx
  ·rename_i c hst
   split at hx
   ·rename_i y hy
    injection hx with hx
    subst hx
    exact ⟨[u], by simp [ValOf, hst], ⟨hv, trivial⟩, hy⟩
   ·cases hx
  ·rename_i cs hst
   split at hx
   ·rename_i y hy
    injection hx with hx
    subst hx
    obtain ⟨vs', e, hvs⟩ := hv
    exact ⟨vs', by simp [ValOf, hst, e], hvs, hy⟩
   ·cases hx
  ·cases hx
 obtain ⟨vcs, hval, hall, himp⟩ := hcells
 obtain ⟨v1, v2, A, e1, o1, a1, q1, s1, _⟩ := own_rel hm (fun _ h => h) t himp hk hall
 have : v2 = [] := by cases v2 with | nil => rfl | cons => exact a1.elim
 subst this
 rw [List.append_nil] at e1
 subst e1
 exact ⟨vcs, A, hval, o1, s1⟩

theorem retI_rel (h : Sim cx g st a w) : ∀ {ts : List (Bool × Ty)} {vs : List IVal} {vals : List Value} {rs : List RV} {ks : List Nat}, retI st.mem ts vs = some (rs, ks) → All2 (VR g st.mem (cx.safe g st.mem w) w) vs vals →
  ∃ A, RVsR (cx.safe g st.mem w) w rs vals A ∧ KeysA g st.mem ks A
 | [], [], vals, rs, ks, he, hv => by
  simp only [retI] at he
  injection he with he
  injection he with e1 e2
  subst e1
  subst e2
  cases vals with
  | nil => exact ⟨[], rfl, KeysA.nil⟩
  | cons => exact hv.elim
 | (fresh, t) :: ts, v :: vs, [], rs, ks, he, hv => hv.elim
 | (fresh, t) :: ts, v :: vs, u :: vals, rs, ks, he, hv => by
  simp only [retI] at he
  split at he
  ·rename_i rs1 ks1 h1
   obtain ⟨A, k1, k2⟩ := retI_rel h h1 hv.2
   split at he
   ·rename_i hf
    split at he
    ·rename_i x k hx hk
     injection he with he
     injection he with e1 e2
     subst e1
     subst e2
     obtain ⟨cs, A1, q1, q2, q3⟩ := vdat_own h.mem hx hk hv.1
     refine ⟨A1 ++ A, ⟨A1, A, rfl, ?_, k1⟩, q3.app k2⟩
     unfold RVR; rw [if_pos rfl]; exact ⟨cs, q1, q2⟩
    ·cases he
   ·rename_i hf
    split at he
    ·rename_i x hx
     injection he with he
     injection he with e1 e2
     subst e1
     subst e2
     obtain ⟨cs, q1, q2⟩ := vdat_rep (S2 := cx.safe g st.mem w) (fun _ h => h) ReadM.nil hx hv.1
     refine ⟨A, ⟨[], A, rfl, ?_, k1⟩, k2⟩
     unfold RVR
     rw [if_neg (by simp)]
     exact ⟨rfl, cs, q1, q2⟩
    ·cases he
  ·cases he
 | [], _ :: _, _, _, _, he, _ => by simp [retI] at he
 | _ :: _, [], _, _, _, he, _ => by cases he

end

theorem ownS_out {S S' : Nat → Prop} {w0 w : World} {g : GM} {m : Mem} (hm : ChAll g m S' w) (hk : ∀ b arr, blk w0 b arr → ∃ arr', blk w b arr' ∧ arr'.size = arr.size) {t : Ty} {cs : List Value} {xs ys : List t.D} {A : List (List Nat → Option Nat)} {n : Nat}
  (ho : OwnSA S w0 t cs xs A) (hl : lk n m = some (.seq t ys)) (hc : AllP (bif t.top then [List.length ys = List.length xs] else [ShapeEq t xs ys])) (h3 : ∀ j o, A[j]? = some o → g.f (n + j) = o) : A.length = 1 ∧ OwnSA S' w t cs ys A ∧ ShapeEq t xs ys := by
 have hsh : ShapeEq t xs ys := by
  cases ht : t.top with
  | true => rw [ht] at hc; exact ShapeEq.top ht hc.1.symm
  | false => rw [ht] at hc; exact hc.1
 have hlen : ys.length = xs.length := hsh.1.symm
 have hch := hm n _ hl
 rcases ho with ⟨hF, hx, a, e⟩ | ⟨v, γ, hF, e, b, cap, arr, h0, ev, q1, q2, q3, q4, q5, q6⟩
 ·subst hF
  refine ⟨rfl, .inl ⟨rfl, ?_, a, e⟩, hsh⟩
  rw [hx] at hlen
  exact List.eq_nil_of_length_eq_zero hlen
 ·subst hF
  have hg := h3 0 γ rfl
  rw [Nat.add_zero] at hg
  unfold ChR at hch
  rw [hg, h0] at hch
  obtain ⟨arr', r1, r2⟩ := hch
  obtain ⟨arr2, s1, s2⟩ := hk b arr q3
  have := s1.eq r1
  subst this
  exact ⟨rfl, .inr ⟨v, γ, rfl, e, b, cap, arr2, h0, by rw [hlen]; exact ev, by rw [hlen]; exact q1, q2, r1, by rw [s2]; exact q4, q5, r2⟩, hsh⟩

theorem ownB_out {S S' : Nat → Prop} {w0 w : World} {g : GM} {m : Mem} (hm : ChAll g m S' w) (hk : ∀ b arr, blk w0 b arr → ∃ arr', blk w b arr' ∧ arr'.size = arr.size) {t : Ty} {cs : List Value} {xs ys : List t.D} {A : List (List Nat → Option Nat)} {n : Nat}
  (ho : OwnBx S w0 t cs xs A) (hl : lk n m = some (.seq t ys)) (hc : AllP (bif t.top then [List.length ys = List.length xs] else [ShapeEq t xs ys])) (h3 : ∀ j o, A[j]? = some o → g.f (n + j) = o) : A.length = 1 ∧ OwnBx S' w t cs ys A ∧ ShapeEq t xs ys := by
 have hsh : ShapeEq t xs ys := by
  cases ht : t.top with
  | true => rw [ht] at hc; exact ShapeEq.top ht hc.1.symm
  | false => rw [ht] at hc; exact hc.1
 have hch := hm n _ hl
 obtain ⟨γ, b, arr, hF, e, h0, q3, q6⟩ := ho
 subst hF
 have hg := h3 0 γ rfl
 rw [Nat.add_zero] at hg
 unfold ChR at hch
 rw [hg, h0] at hch
 obtain ⟨arr', r1, r2⟩ := hch
 exact ⟨rfl, ⟨γ, b, arr', rfl, e, h0, r1, r2⟩, hsh⟩

theorem ownOut_rel {S S' : Nat → Prop} {w0 w : World} {g : GM} {m : Mem} (hm : ChAll g m S' w) (hk : ∀ b arr, blk w0 b arr → ∃ arr', blk w b arr' ∧ arr'.size = arr.size) : ∀ (t : Ty) {cs : List Value} {x y : t.D} {A : List (List Nat → Option Nat)} {n n' : Nat} {cd : List Prop},
  OwnA S w0 t cs x A → ownOut m t x n = some (y, n', cd) → AllP cd → (∀ j o, A[j]? = some o → g.f (n + j) = o) → n' = n + A.length ∧ OwnA S' w t cs y A ∧ ShapeT t x y
 | .int k, cs, x, y, A, n, n', cd, ⟨hF, hr⟩, h, hc, h3 => by simp only [ownOut] at h; injection h with h; injection h with e1 h; injection h with e2 e3; subst e1; subst e2; subst hF; exact ⟨rfl, ⟨rfl, hr⟩, trivial⟩
 | .flt k, cs, x, y, A, n, n', cd, ⟨hF, hr⟩, h, hc, h3 => by simp only [ownOut] at h; injection h with h; injection h with e1 h; injection h with e2 e3; subst e1; subst e2; subst hF; exact ⟨rfl, ⟨rfl, hr⟩, trivial⟩
 | .bool, cs, x, y, A, n, n', cd, ⟨hF, hr⟩, h, hc, h3 => by simp only [ownOut] at h; injection h with h; injection h with e1 h; injection h with e2 e3; subst e1; subst e2; subst hF; exact ⟨rfl, ⟨rfl, hr⟩, trivial⟩
 | .str, cs, x, y, A, n, n', cd, ⟨hF, hr⟩, h, hc, h3 => by simp only [ownOut] at h; injection h with h; injection h with e1 h; injection h with e2 e3; subst e1; subst e2; subst hF; exact ⟨rfl, ⟨rfl, hr⟩, trivial⟩
 | .st t, cs, x, y, A, n, n', cd, ho, h, hc, h3 => ownOut_rel hm hk t (cs := cs) (x := x) (y := y) ho h hc h3
 | .pair a b, cs, x, y, A, n, n', cd, ⟨c1, c2, A1, A2, e1, e2, o1, o2⟩, h, hc, h3 => by
  subst e2
  simp only [ownOut] at h
  split at h
  ·rename_i y1 n1 cd1 hy1
   split at h
   ·rename_i y2 n2 cd2 hy2
    injection h with h
    injection h with k1 h
    injection h with k2 k3
    subst k1
    subst k2
    subst k3
    obtain ⟨hc1, hc2⟩ := hc.append
    obtain ⟨r1, r2, r5⟩ := ownOut_rel hm hk a o1 hy1 hc1 (fun j o hj => h3 j o (by rw [List.getElem?_append_left (List.getElem?_eq_some_iff.1 hj).1]; exact hj))
    subst r1
    obtain ⟨r3, r4, r6⟩ := ownOut_rel hm hk b o2 hy2 hc2 (fun j o hj => by
     rw [Nat.add_assoc]
     refine h3 _ o ?_
     rw [List.getElem?_append_right (by omega)]
     simpa using hj)
    exact ⟨by rw [r3, List.length_append]; omega, ⟨c1, c2, A1, A2, e1, rfl, r2, r4⟩, r5, r6⟩
   ·cases h
  ·cases h
 | .sl t, cs, xs, y, A, n, n', cd, ho, h, hc, h3 => by
  simp only [ownOut] at h
  split at h
  ·rename_i t' ys hl
   split at h
   ·rename_i he
    subst he
    injection h with h
    injection h with k1 h
    injection h with k2 k3
    subst k1
    subst k2
    subst k3
    obtain ⟨r1, r2, r3⟩ := ownS_out hm hk ho hl hc h3
    exact ⟨by rw [r1], r2, r3⟩
   ·cases h
  ·cases h
 | .own t, cs, xs, y, A, n, n', cd, ho, h, hc, h3 => by
  simp only [ownOut] at h
  split at h
  ·rename_i t' ys hl
   split at h
   ·rename_i he
    subst he
    injection h with h
    injection h with k1 h
    injection h with k2 k3
    subst k1
    subst k2
    subst k3
    obtain ⟨r1, r2, r3⟩ := ownS_out hm hk ho hl hc h3
    exact ⟨by rw [r1], r2, r3⟩
   ·cases h
  ·cases h
 | .bx t, cs, xs, y, A, n, n', cd, ho, h, hc, h3 => by
  simp only [ownOut] at h
  split at h
  ·rename_i t' ys hl
   split at h
   ·rename_i he
    subst he
    injection h with h
    injection h with k1 h
    injection h with k2 k3
    subst k1
    subst k2
    subst k3
    obtain ⟨r1, r2, r3⟩ := ownB_out hm hk ho hl hc h3
    exact ⟨by rw [r1], r2, r3⟩
   ·cases h
  ·cases h

theorem ownOuts_rel {S S' : Nat → Prop} {w0 w : World} {g : GM} {m : Mem} (hm : ChAll g m S' w) (hk : ∀ b arr, blk w0 b arr → ∃ arr', blk w b arr' ∧ arr'.size = arr.size) : ∀ {args : List Arg} {vals : List Value} {As : List (List (List Nat → Option Nat))} {n : Nat} {outs : List TD} {cd : List Prop},
  ArgsR S w0 args vals As → ownOuts m args n = some (outs, cd) → AllP cd → (∀ j o, As.flatten[j]? = some o → n + j ∈ ownKs args n → g.f (n + j) = o) → OutsR S' w args vals As outs
 | [], [], [], n, outs, cd, _, h, _, _ => by
  simp only [ownOuts] at h; injection h with h; injection h with e1 e2; subst e1; trivial
 | .imm t x :: as, v :: vs, F :: Fs, n, outs, cd, ha, h, hc, h3 => ownOuts_rel hm hk (args := as) (vals := vs) (As := Fs) ha.2 h hc (by have e : F = [] := ha.1.1; rw [e] at h3; exact h3)
 | .pimm t x :: as, v :: vs, F :: Fs, n, outs, cd, ha, h, hc, h3 => ownOuts_rel hm hk (args := as) (vals := vs) (As := Fs) ha.2 h hc (by have e : F = [] := ha.1.1; rw [e] at h3; exact h3)
 | .fn f :: as, v :: vs, F :: Fs, n, outs, cd, ha, h, hc, h3 => ownOuts_rel hm hk (args := as) (vals := vs) (As := Fs) ha.2 h hc (by have e : F = [] := ha.1.1; rw [e] at h3; exact h3)
 | .clo f t x :: as, v :: vs, F :: Fs, n, outs, cd, ha, h, hc, h3 => ownOuts_rel hm hk (args := as) (vals := vs) (As := Fs) ha.2 h hc (by have e : F = [] := ha.1.1; rw [e] at h3; exact h3)
 | .nl :: as, v :: vs, F :: Fs, n, outs, cd, ha, h, hc, h3 => ownOuts_rel hm hk (args := as) (vals := vs) (As := Fs) ha.2 h hc (by have e : F = [] := ha.1.1; rw [e] at h3; exact h3)
 | .mv t x :: as, v :: vs, F :: Fs, n, outs, cd, ⟨⟨cs, hv, ho⟩, ha⟩, h, hc, h3 => by
  have hl : F.length = (explF t x n).2.length := by rw [explF_slots, OwnA.alen t ho]
  refine ownOuts_rel hm hk (args := as) (vals := vs) (As := Fs) (n := n + (explF t x n).2.length) ha h hc fun j o hj hmem => ?_
  rw [Nat.add_assoc] at hmem ⊢
  refine h3 _ o ?_ hmem
  rw [List.flatten_cons, List.getElem?_append_right (by omega), hl]
  simpa using hj
 | .own t x :: as, v :: vs, F :: Fs, n, outs, cd, ⟨⟨cs, hv, ho⟩, ha⟩, h, hc, h3 => by
  simp only [ownOuts] at h
  split at h
  ·rename_i y n1 c1 hy
   split at h
   ·rename_i l c2 hl
    injection h with h
    injection h with k1 k2
    subst k1
    subst k2
    obtain ⟨hc1, hc2⟩ := hc.append
    have hlen : F.length = (explF t x n).2.length := by rw [explF_slots, OwnA.alen t ho]
    obtain ⟨r1, r2, r3⟩ := ownOut_rel hm hk t ho hy hc1 (fun j o hj => h3 j o (by rw [List.flatten_cons, List.getElem?_append_left (List.getElem?_eq_some_iff.1 hj).1]; exact hj) (by
     have := (List.getElem?_eq_some_iff.1 hj).1
     simp only [ownKs, List.mem_append, List.mem_range'_1]
     left
     omega))
    subst r1
    have := ownOuts_rel hm hk ha hl hc2 (fun j o hj hmem => by
     rw [Nat.add_assoc] at hmem ⊢
     refine h3 _ o ?_ ?_
     ·rw [List.flatten_cons, List.getElem?_append_right (by omega)]
      simpa using hj
     ·simp only [ownKs, List.mem_append]
      right
      rw [← hlen]
      exact hmem)
    exact ⟨⟨rfl, cs, hv, r2, r3⟩, this⟩
   ·cases h
  ·cases h

theorem own_or_mv {S : Nat → Prop} {w : World} : ∀ {args : List Arg} {vals : List Value} {As : List (List (List Nat → Option Nat))} (n : Nat), ArgsR S w args vals As → ∀ j γ p b, As.flatten[j]? = some γ → γ p = some b → n + j ∈ ownKs args n ∨ MvB b args As
 | [], [], [], n, h, j, γ, p, b, hj, _ => by simp at hj
 | .imm _ _ :: as, _ :: vs, F :: Fs, n, h, j, γ, p, b, hj, hp => by have e : F = [] := h.1.1; subst e; exact own_or_mv (args := as) (vals := vs) (As := Fs) n h.2 j γ p b hj hp
 | .pimm _ _ :: as, _ :: vs, F :: Fs, n, h, j, γ, p, b, hj, hp => by have e : F = [] := h.1.1; subst e; exact own_or_mv (args := as) (vals := vs) (As := Fs) n h.2 j γ p b hj hp
 | .fn _ :: as, _ :: vs, F :: Fs, n, h, j, γ, p, b, hj, hp => by have e : F = [] := h.1.1; subst e; exact own_or_mv (args := as) (vals := vs) (As := Fs) n h.2 j γ p b hj hp
 | .clo _ _ _ :: as, _ :: vs, F :: Fs, n, h, j, γ, p, b, hj, hp => by have e : F = [] := h.1.1; subst e; exact own_or_mv (args := as) (vals := vs) (As := Fs) n h.2 j γ p b hj hp
 | .nl :: as, _ :: vs, F :: Fs, n, h, j, γ, p, b, hj, hp => by have e : F = [] := h.1.1; subst e; exact own_or_mv (args := as) (vals := vs) (As := Fs) n h.2 j γ p b hj hp
 | .mv t x :: as, v :: vs, F :: Fs, n, ⟨⟨cs, hv, ho⟩, ha⟩, j, γ, p, b, hj, hp => by
  have hl : F.length = (explF t x n).2.length := by rw [explF_slots, OwnA.alen t ho]
  rw [List.flatten_cons] at hj
  by_cases hlt : j < F.length
  ·rw [List.getElem?_append_left hlt] at hj
   exact .inr (.inl ⟨γ, List.mem_of_getElem? hj, p, hp⟩)
  ·rw [List.getElem?_append_right (by omega)] at hj
   rcases own_or_mv (args := as) (vals := vs) (As := Fs) (n + (explF t x n).2.length) ha _ γ p b hj hp with h | h
   ·left
    simp only [ownKs]
    rwa [show n + (explF t x n).2.length + (j - F.length) = n + j by omega] at h
   ·exact .inr (.inr h)
 | .own t x :: as, v :: vs, F :: Fs, n, ⟨⟨cs, hv, ho⟩, ha⟩, j, γ, p, b, hj, hp => by
  have hl : F.length = (explF t x n).2.length := by rw [explF_slots, OwnA.alen t ho]
  rw [List.flatten_cons] at hj
  by_cases hlt : j < F.length
  ·left
   simp only [ownKs, List.mem_append, List.mem_range'_1]
   left
   omega
  ·rw [List.getElem?_append_right (by omega)] at hj
   rcases own_or_mv (args := as) (vals := vs) (As := Fs) (n + (explF t x n).2.length) ha _ γ p b hj hp with h | h
   ·left
    simp only [ownKs, List.mem_append]
    right
    rwa [show n + (explF t x n).2.length + (j - F.length) = n + j by omega] at h
   ·exact .inr h

theorem ownOut_seq {m : Mem} : ∀ (t : Ty) {x y : t.D} {n n' : Nat} {cd : List Prop}, ownOut m t x n = some (y, n', cd) → n' = n + (explF t x n).2.length ∧ ∀ k, n ≤ k → k < n' → ∃ t ys, lk k m = some (.seq t ys)
 | .int _, _, _, _, _, _, h => by simp only [ownOut] at h; injection h with h; injection h with _ h; injection h with h _; subst h; exact ⟨rfl, fun k h1 h2 => by omega⟩
 | .flt _, _, _, _, _, _, h => by simp only [ownOut] at h; injection h with h; injection h with _ h; injection h with h _; subst h; exact ⟨rfl, fun k h1 h2 => by omega⟩
 | .bool, _, _, _, _, _, h => by simp only [ownOut] at h; injection h with h; injection h with _ h; injection h with h _; subst h; exact ⟨rfl, fun k h1 h2 => by omega⟩
 | .str, _, _, _, _, _, h => by simp only [ownOut] at h; injection h with h; injection h with _ h; injection h with h _; subst h; exact ⟨rfl, fun k h1 h2 => by omega⟩
 | .st t, x, y, _, _, _, h => ownOut_seq t (x := x) (y := y) h
 | .pair a b, x, _, n, n', cd, h => by
  simp only [ownOut] at h
  split at h
  ·rename_i y1 n1 c1 h1
   split at h
   ·rename_i z1 n2 c2 h2
    injection h with h; injection h with _ h; injection h with h _
    subst h
    obtain ⟨e1, k1⟩ := ownOut_seq a h1
    obtain ⟨e2, k2⟩ := ownOut_seq b h2
    subst e1
    refine ⟨by rw [e2]; simp [explF, Nat.add_assoc], fun k h1 h2 => ?_⟩
    by_cases hlt : k < n + (explF a x.1 n).2.length
    ·exact k1 k h1 hlt
    ·exact k2 k (by omega) h2
   ·cases h
  ·cases h
 | .sl t, xs, _, n, n', cd, h => by
  simp only [ownOut] at h
  split at h
  ·rename_i t' ys hl
   split at h
   ·injection h with h; injection h with _ h; injection h with h _
    subst h
    refine ⟨rfl, fun k h1 h2 => ?_⟩
    have : k = n := by omega
    subst this
    exact ⟨_, _, hl⟩
   ·cases h
  ·cases h
 | .own t, xs, _, n, n', cd, h => by
  simp only [ownOut] at h
  split at h
  ·rename_i t' ys hl
   split at h
   ·injection h with h; injection h with _ h; injection h with h _
    subst h
    refine ⟨rfl, fun k h1 h2 => ?_⟩
    have : k = n := by omega
    subst this
    exact ⟨_, _, hl⟩
   ·cases h
  ·cases h
 | .bx t, xs, _, n, n', cd, h => by
  simp only [ownOut] at h
  split at h
  ·rename_i t' ys hl
   split at h
   ·injection h with h; injection h with _ h; injection h with h _
    subst h
    refine ⟨rfl, fun k h1 h2 => ?_⟩
    have : k = n := by omega
    subst this
    exact ⟨_, _, hl⟩
   ·cases h
  ·cases h

theorem ownOuts_seq {m : Mem} : ∀ {args : List Arg} {n : Nat} {outs : List TD} {cd : List Prop}, ownOuts m args n = some (outs, cd) → ∀ k, k ∈ ownKs args n → ∃ t ys, lk k m = some (.seq t ys)
 | [], _, _, _, _, k, hk => by simp [ownKs] at hk
 | .imm _ _ :: as, n, outs, cd, h, k, hk => ownOuts_seq (args := as) (n := n) (outs := outs) (cd := cd) h k hk
 | .pimm _ _ :: as, n, outs, cd, h, k, hk => ownOuts_seq (args := as) (n := n) (outs := outs) (cd := cd) h k hk
 | .fn _ :: as, n, outs, cd, h, k, hk => ownOuts_seq (args := as) (n := n) (outs := outs) (cd := cd) h k hk
 | .clo _ _ _ :: as, n, outs, cd, h, k, hk => ownOuts_seq (args := as) (n := n) (outs := outs) (cd := cd) h k hk
 | .nl :: as, n, outs, cd, h, k, hk => ownOuts_seq (args := as) (n := n) (outs := outs) (cd := cd) h k hk
 | .mv t x :: as, n, outs, cd, h, k, hk => ownOuts_seq (args := as) (n := n + (explF t x n).2.length) (outs := outs) (cd := cd) h k hk
 | .own t x :: as, n, outs, cd, h, k, hk => by
  simp only [ownOuts] at h
  split at h
  ·rename_i y n1 c1 hy
   split at h
   ·rename_i l c2 hl
    obtain ⟨e1, h1⟩ := ownOut_seq t hy
    simp only [ownKs, List.mem_append, List.mem_range'_1] at hk
    rcases hk with hk | hk
    ·exact h1 k hk.1 (by omega)
    ·exact ownOuts_seq hl k (by rw [e1]; exact hk)
   ·cases h
  ·cases h

theorem resOf_mk : ∀ (l : List Value), ResOf l (if h : l.toArray.size = 1 then l.toArray[0] else .tuple l.toArray)
 | [] => rfl
 | [_] => rfl
 | _ :: _ :: _ => rfl

theorem ownKs_lt : ∀ {args : List Arg} {i n k : Nat}, k ∈ ownKs args n → k < n + (argSt args i n).2.length
 | [], _, _, _, h => by simp [ownKs] at h
 | .imm _ _ :: as, i, n, k, h => ownKs_lt (args := as) (i := i + 1) h
 | .pimm _ _ :: as, i, n, k, h => ownKs_lt (args := as) (i := i + 1) h
 | .fn _ :: as, i, n, k, h => ownKs_lt (args := as) (i := i + 1) h
 | .clo _ _ _ :: as, i, n, k, h => ownKs_lt (args := as) (i := i + 1) h
 | .nl :: as, i, n, k, h => ownKs_lt (args := as) (i := i + 1) h
 | .mv t x :: as, i, n, k, h => by
  have := ownKs_lt (args := as) (i := i + 1) (n := n + (explF t x n).2.length) h
  simp only [argSt, List.length_append]
  omega
 | .own t x :: as, i, n, k, h => by
  simp only [ownKs, List.mem_append, List.mem_range'_1] at h
  simp only [argSt, List.length_append]
  rcases h with h | h
  ·omega
  ·have := ownKs_lt (args := as) (i := i + 1) h
   omega

theorem CallOK.of_body {P : Program} {f : FuncId} {fn : Func} {c : Code} {args : List Arg} {ts : List (Bool × Ty)} {rs : List RV} {outs : List TD} (hf : P.funcs[f]? = some fn) (hb : fn.body = some c)
  (hname : (fn.name == "runtime.NumGoroutine") = false) (hn : args.length ≤ fn.ntmps)
  (h : ∀ cx : Cx, cx.P = P → cx.N = fn.ntmps → cx.own.map Prod.fst = ownKs args 0 → (noMv args = true → cx.FOK) → HT cx (st0 args) c (retQ P fn args ts rs outs)) : CallOK P f args rs outs := by
 refine ⟨⟨fn, hf, hname, by rw [hb]; rfl⟩, fun w S vals As F hB hI hS hFl ha hgl0 => callsIn_wide.1 (callsIn_of_wp_marks (F := Fence.wide) (n := 0) hf hb trivial (wpIn_wide.2 ?_))⟩
 have hS2 : ∀ b, S b → (b < w.heap.size ∧ S b ∧ b ∉ F) := fun b hb => ⟨(hS b hb).1, hb, (hS b hb).2⟩
 obtain ⟨l1, hA, k1⟩ := argSt_rel (S2 := fun b => b < w.heap.size ∧ S b ∧ b ∉ F) hS2 0 0 ha
 let chs := (argSt args 0 0).2
 let asg := As.flatten
 let g : GM := ⟨fun k => (asg[k]?).getD fun _ => none⟩
 have hgv : ∀ j o, asg[j]? = some o → g.f (0 + j) = o := fun j o hj => by
  show (asg[0 + j]?).getD _ = o
  rw [Nat.zero_add, hj]; rfl
 have hmem : ∀ j ch, chs[j]? = some ch → lk (0 + j) (keysFrom 0 chs) = some ch := fun j ch hj => by
  rw [lk_keysFrom, if_pos (by omega)]; simpa using hj
 obtain ⟨hfr, hld⟩ := k1 g (keysFrom 0 chs) hmem hgv
 let cx : Cx := ⟨P, fn.ntmps, w, S, F, (ownKs args 0).map fun k => (k, g.f k)⟩
 have hasgF : ∀ (j : Nat) (γ : List Nat → Option Nat) (p : List Nat) (b : Nat), asg[j]? = some γ → γ p = some b → b ∈ F := fun j γ p b hj hp => (hB b).2 ⟨γ, List.mem_of_getElem? hj, p, hp⟩
 have hlkc : ∀ k ch, lk k (keysFrom 0 chs) = some ch → chs[k]? = some ch := fun k ch hk => by
  rw [lk_keysFrom, if_pos (by omega)] at hk; simpa using hk
 have hlive : ∀ k p b, g.f k p = some b → b ∈ F ∧ ∃ γ, asg[k]? = some γ ∧ γ p = some b := fun k p b hg => by
  have hg : (asg[k]?).getD (fun _ => none) p = some b := hg
  cases hx : asg[k]? with
  | none => rw [hx] at hg; simp at hg
  | some γ =>
   rw [hx] at hg
   exact ⟨hasgF k γ p b hx hg, γ, rfl, hg⟩
 have hsafe : ∀ b, (b < w.heap.size ∧ S b ∧ b ∉ F) → cx.safe g (keysFrom 0 chs) w b := fun b ⟨h1, h2, h3⟩ => ⟨h1, fun _ => h2, fun ⟨k, p, ch, q1, q2, q3⟩ => h3 (hlive k p b q3).1⟩
 have hlen : args.length = vals.length := by
  have : ∀ {as : List Arg} {vs : List Value} {Fs : List (List (List Nat → Option Nat))}, ArgsR S w as vs Fs → as.length = vs.length := by
   intro as
   induction as with
   | nil => intro vs Fs h; cases vs <;> cases Fs <;> first | rfl | exact h.elim
   | cons a as ih =>
    intro vs Fs h
    cases vs with
    | nil => exact h.elim
    | cons v vs =>
     cases Fs with
     | nil => exact h.elim
     | cons F Fs => simp [ih h.2]
  exact this ha
 have hsim : Sim cx g (st0 args) { tmps := vals.toArray ++ Array.replicate (fn.ntmps - vals.toArray.size) undef, defers := [] } w := by
  refine ⟨.nil, ?_, fun t v hl => ?_, fun k ch hk => ?_, ?_, fun k p ch b hk hn' hg => ?_, fun k p ch b hk hn' hg => ?_, KeepF.refl _ _, fun p hp => ?_, ⟨hgl0, hS⟩⟩
  ·show (vals.toArray ++ Array.replicate (fn.ntmps - vals.toArray.size) undef).size = fn.ntmps
   simp; omega
  ·obtain ⟨_, u, hu, hv⟩ := hfr t v hl
   rw [Nat.sub_zero] at hu
   have hu' := (List.getElem?_eq_some_iff.1 hu)
   have : (vals.toArray ++ Array.replicate (fn.ntmps - vals.toArray.size) undef).getD t undef = u := by
    rw [Array.getD_eq_getD_getElem?, Array.getElem?_append_left (by simpa using hu'.1)]
    simp [hu]
   show VR _ _ _ _ _ ((vals.toArray ++ Array.replicate (fn.ntmps - vals.toArray.size) undef).getD t undef)
   rw [this]
   exact VR.stays (Stays.mono hsafe) hv
  ·obtain ⟨_, o, ho, hch⟩ := hld.chunk k ch (hlkc k ch hk)
   have := hgv k o ho
   rw [Nat.zero_add] at this
   rw [this]
   exact ChR.stays (Stays.mono hsafe) (fun _ _ _ _ => rfl) hch
  ·intro k k' p p' ch ch' b hk _ hk' _ hg hg'
   obtain ⟨_, γ, h1, h2⟩ := hlive k p b hg
   obtain ⟨_, γ', h3, h4⟩ := hlive k' p' b hg'
   exact hI.at h1 h3 h2 h4
  ·exact .inr (hlive k p b hg).1
  ·exact hFl b (hlive k p b hg).1
  ·obtain ⟨k, hk, e⟩ := List.mem_map.1 hp
   subst e
   refine ⟨rfl, ?_⟩
   have hk : k < chs.length := by have := ownKs_lt (i := 0) hk; simpa [chs] using this
   show lk k (keysFrom 0 chs) ≠ none
   rw [lk_keysFrom, if_pos (by omega)]
   simp [hk]
 have hF0 : noMv args = true → cx.FOK := fun hm b hb => by
  obtain ⟨γ, hγ, p, hp⟩ := (hB b).1 hb
  obtain ⟨j, hj⟩ := List.getElem?_of_mem hγ
  rcases own_or_mv 0 hA j γ p b hj hp with hk | hk
  ·rw [Nat.zero_add] at hk
   refine ⟨(j, g.f j), List.mem_map.2 ⟨j, hk, rfl⟩, p, ?_⟩
   have := hgv j _ hj
   rw [Nat.zero_add] at this
   show g.f j p = some b
   rw [this]; exact hp
  ·exact absurd hk (MvB.none hm)
 have hbody := h cx rfl rfl (by simp [cx, List.map_map, Function.comp_def]) hF0 g _ w hsim
 refine wp_mono hbody fun e a' w' ⟨st', g', hq, hs'⟩ => ?_
 have ret : ∀ (a' : Act) (w' : World), Sim cx g' st' a' w' → RetOK P fn args ts rs outs st' → ∃ v, (results fn a'.tmps).run P w' = .ok v w' ∧ ∃ v' A' F', Ending.returned v = .returned v' ∧ BlkA A' F' ∧ InjA A' ∧ ResR (Behind S w w' F') w' rs v' A' ∧ (∀ b, b ∈ F' → (w.heap.size ≤ b ∨ MvB b args As) ∧ b < w'.heap.size) ∧
   KeepF F w w' ∧ OutsR (Behind S w w' F') w' args vals As outs := by
  clear hs' hq
  intro a' w' hs'
  rintro ⟨vs, ks, cs, r1, r2, r3, r4, r5, r6⟩
  obtain ⟨rvals, q1, q2⟩ := resI_run hs' r1
  obtain ⟨A', p1, p2⟩ := retI_rel hs' r2 q2
  have hres : (results fn a'.tmps).run P w' = .ok (if h : rvals.toArray.size = 1 then rvals.toArray[0] else .tuple rvals.toArray) w' := by
   have e : results fn a'.tmps = (do
     let vs ← fn.results.mapM (resS a'.tmps)
     pure (if h : vs.size = 1 then vs[0] else .tuple vs)) := by
    have hm : (fun r : ResultVar => (match r with | .tmp t => (pure (a'.tmps.getD t undef) : Sem Value) | .cell x t => do loadVar t (← asAddr (a'.tmps.getD x undef)))) = resS a'.tmps := by
     funext r; cases r <;> rfl
    rw [← hm]
    rfl
   have q1 : (fn.results.toList.mapM (resS a'.tmps)).run P w' = .ok rvals w' := q1
   rw [e, Array.mapM_eq_mapM_toList]
   simp only [Sem.run_bind, Sem.run_map, q1, Result.andThen_ok, Sem.run_pure]
  obtain ⟨F', hbl⟩ := blkA_exists (n := w'.heap.size) (A := A') (fun γ hγ p b hp => by
   obtain ⟨k, _, p', t, xs, a1, a2⟩ := p2.blk hγ hp
   exact hs'.lt k p' _ b a2 trivial a1)
  have hFk : ∀ b, b ∈ F' → ∃ k, k ∈ ks ∧ ∃ p t xs, g'.f k p = some b ∧ lk k st'.mem = some (.seq t xs) := fun b hb => by
   obtain ⟨γ, hγ, p, hp⟩ := (hbl b).1 hb
   exact p2.blk hγ hp
  have hnew : ∀ b, b ∈ F' → (w.heap.size ≤ b ∨ MvB b args As) ∧ b < w'.heap.size := fun b hb => by
   obtain ⟨k, hk, p, t, xs, a1, a2⟩ := hFk b hb
   refine ⟨?_, hs'.lt k p _ b a2 trivial a1⟩
   rcases hs'.basep k p _ b a2 trivial a1 with hx | hx
   ·exact .inl hx
   ·right
    obtain ⟨γ, hγ, q, hq⟩ := (hB b).1 hx
    obtain ⟨j, hj⟩ := List.getElem?_of_mem hγ
    rcases own_or_mv 0 hA j γ q b hj hq with hko | hko
    ·exfalso
     rw [Nat.zero_add] at hko
     obtain ⟨t', ys, hl'⟩ := ownOuts_seq r5 j hko
     have hgj : g'.f j q = some b := by
      have := (hs'.own (j, g.f j) (List.mem_map.2 ⟨j, hko, rfl⟩)).1
      simp only at this
      rw [this]
      have := hgv j _ hj
      rw [Nat.zero_add] at this
      rw [this]; exact hq
     have := (hs'.injp k j p q _ _ b a2 trivial hl' trivial a1 hgj).1
     have hno := List.all_eq_true.1 r4 _ hk
     rw [this, memK_iff.2 hko] at hno
     cases hno
    ·exact hko
  have hbeh : ∀ b, cx.safe g' st'.mem w' b → Behind S w w' F' b := fun b ⟨h1, h2, h3⟩ => ⟨h1, h2, fun hb => by
   obtain ⟨k, _, p, t, xs, a1, a2⟩ := hFk b hb
   exact h3 ⟨k, p, _, a2, trivial, a1⟩⟩
  refine ⟨_, hres, _, A', F', rfl, hbl, p2.inj hs'.memI (nodupB_spec r3), ⟨rvals, RVsR.mono hbeh p1, ?_⟩, hnew, hs'.keep, ?_⟩
  ·exact resOf_mk rvals
  ·refine ownOuts_rel (S := fun b => b < w.heap.size ∧ S b ∧ b ∉ F) (g := g') (m := st'.mem) (w := w') (n := 0) (fun k ch hk => ChR.stays (Stays.mono hbeh) (fun _ _ _ _ => rfl) (hs'.mem k ch hk)) hs'.keep.sz hA r5 r6 fun j o hj hmem => ?_
   rw [Nat.zero_add] at hmem ⊢
   have := (hs'.own (j, g.f j) (List.mem_map.2 ⟨j, hmem, rfl⟩)).1
   simp only at this
   rw [this]
   have := hgv j o hj
   rw [Nat.zero_add] at this
   exact this
 have fin : RetOK P fn args ts rs outs st' → LeavesInM Fence.wide 0 P fn a'.tmps (fun e w' => ∃ v A' F', e = .returned v ∧ BlkA A' F' ∧ InjA A' ∧ ResR (Behind S w w' F') w' rs v A' ∧ (∀ b, b ∈ F' → (w.heap.size ≤ b ∨ MvB b args As) ∧ b < w'.heap.size) ∧
   KeepF F w w' ∧ OutsR (Behind S w w' F') w' args vals As outs) a'.defers .returning w' := fun hq => by
  obtain ⟨Ds, e, hn, hD⟩ := hs'.defers
  rw [e]
  clear e
  have key : ∀ (Ds : List Nat) (w' : World), Sim cx g' st' { a' with defers := [] } w' → Ds.Nodup → (∀ D ∈ Ds, w'.heap[D]? = some (.deferred (some [])) ∧ cx.w0.heap.size ≤ D) →
    LeavesInM Fence.wide 0 P fn a'.tmps (fun e w' => ∃ v A' F', e = .returned v ∧ BlkA A' F' ∧ InjA A' ∧ ResR (Behind S w w' F') w' rs v A' ∧ (∀ b, b ∈ F' → (w.heap.size ≤ b ∨ MvB b args As) ∧ b < w'.heap.size) ∧
     KeepF F w w' ∧ OutsR (Behind S w w' F') w' args vals As outs) (Ds.map (fun D => { target := .collected D, args := #[] })) .returning w' := by
   intro Ds
   induction Ds with
   | nil => exact fun w' hs _ _ => by have hr := ret _ w' hs hq; exact hr
   | cons D Ds ih =>
    intro w' hs hn hD
    have hn := List.nodup_cons.1 hn
    obtain ⟨h1, h2⟩ := hD D List.mem_cons_self
    refine ⟨by simp, .inl ⟨D, _, rfl, run_takeDeferred h1, ih _ ?_ hn.2 fun E hE => ?_⟩⟩
    ·exact hs.turnD (w' := w'.putObj D (.deferred none)) (a' := { a' with defers := [] }) h1 rfl h2 rfl rfl rfl (by simp) (fun b _ hne => World.putObj_heap_other hne) rfl .nil
    ·obtain ⟨k1, k2⟩ := hD E (List.mem_cons_of_mem _ hE)
     exact ⟨(World.putObj_heap_other (fun e : E = D => hn.1 (e ▸ hE))).trans k1, k2⟩
  exact key Ds w' ⟨.nil, hs'.size, hs'.fr, hs'.mem, hs'.injp, hs'.basep, hs'.lt, hs'.keep, hs'.own, hs'.gl⟩ hn fun D hm => ⟨(hD D hm).1, (hD D hm).2.1⟩
 cases e with
 | normal => exact fin hq
 | ret => exact fin hq
 | _ => exact hq.elim

end Go.Ide


/-
 An operation's effect hangs only on what it looks at.
-/
namespace Go.Ide

def MM (m m' : Mem) : Prop := ∀ k ch, lk k m = some ch → lk k m' = some ch

section
variable {P : Program} {m m' : Mem}

theorem cdat_mono (h : MM m m') {t : Ty} {c : ICell} {x : t.D} (he : cdat m t c = some x) : cdat m' t c = some x := by
 cases c with
 | all c =>
  simp only [cdat] at he ⊢
  split at he
  ·cases hx : lk c m with
   | none => simp [hx] at he
   | some ch => rw [hx] at he; rw [h _ _ hx]; exact he
  ·cases he
 | elp c i sz off =>
  simp only [cdat] at he ⊢
  split at he
  ·cases hx : lk c m with
   | none => simp [hx] at he
   | some ch => rw [hx] at he; rw [h _ _ hx]; exact he
  ·cases he
 | ref c off len =>
  simp only [cdat] at he ⊢
  split at he
  ·cases hx : lk c m with
   | none => simp [hx] at he
   | some ch => rw [hx] at he; rw [h _ _ hx]; exact he
  ·cases he
 | row c i o =>
  simp only [cdat] at he ⊢
  split at he
  ·cases hx : lk c m with
   | none => simp [hx] at he
   | some ch => rw [hx] at he; rw [h _ _ hx]; exact he
  ·cases he
 | _ => exact he

theorem impl1_mono (h : MM m m') {t : Ty} {cs : List ICell} {x : t.D × List ICell} (he : impl1 m t cs = some x) : impl1 m' t cs = some x := by
 cases cs with
 | nil => exact he
 | cons c r =>
  simp only [impl1] at he ⊢
  cases hx : cdat m t c with
  | none => simp [hx] at he
  | some y => rw [hx] at he; rw [cdat_mono h hx]; exact he

theorem impl_mono (h : MM m m') : ∀ (t : Ty) {cs : List ICell} {x : t.D × List ICell}, impl m t cs = some x → impl m' t cs = some x
 | .int _, _, _, he => impl1_mono h he
 | .flt _, _, _, he => impl1_mono h he
 | .bool, _, _, he => impl1_mono h he
 | .str, _, _, he => impl1_mono h he
 | .sl _, _, _, he => impl1_mono h he
 | .bx _, _, _, he => impl1_mono h he
 | .own _, _, _, he => impl1_mono h he
 | .st t, _, _, he => impl_mono h t he
 | .pair a b, cs, x, he => by
  simp only [impl] at he ⊢
  cases h1 : impl m a cs with
  | none => simp [h1] at he
  | some p =>
   obtain ⟨y, r⟩ := p
   rw [h1] at he
   rw [impl_mono h a h1]
   simp only at he ⊢
   cases h2 : impl m b r with
   | none => simp [h2] at he
   | some q =>
    rw [h2] at he
    rw [impl_mono h b h2]
    exact he

theorem vdat_mono (h : MM m m') {t : Ty} {v : IVal} {x : t.D} (he : vdat m t v = some x) : vdat m' t v = some x := by
 unfold vdat at he ⊢
 split at he
 ·rename_i c hst
  cases h1 : impl m t [c] with
  | none => simp [h1] at he
  | some p => rw [h1] at he; (try simp only [hst]); rw [impl_mono h t h1]; exact he
 ·rename_i cs hst
  cases h1 : impl m t cs with
  | none => simp [h1] at he
  | some p => rw [h1] at he; (try simp only [hst]); rw [impl_mono h t h1]; exact he
 ·cases he

theorem iLoad_mono (h : MM m m') {T : TypeId} {v : IVal} {e : Eff} (he : iLoad P m T v = some e) : iLoad P m' T v = some e := by
 unfold iLoad at he ⊢
 split at he
 ·rename_i c i sz off n ag hs ha
  try simp only [hs, ha]
  cases hx : lk c m with
  | none => simp [hx] at he
  | some ch => rw [hx] at he; rw [h _ _ hx]; exact he
 ·rename_i c i o j sz off n ag hs ha
  try simp only [hs, ha]
  cases hx : lk c m with
  | none => simp [hx] at he
  | some ch => rw [hx] at he; rw [h _ _ hx]; exact he
 ·rename_i c n ag hne1 hne2 hs ha
  try simp only [hs, ha]
  have key : ∀ r, cellsAt m n c = some r → cellsAt m' n c = some r := by
   intro r hr
   cases c with
   | ptr k off =>
    simp only [cellsAt] at hr ⊢
    cases hx : lk k m with
    | none => simp [hx] at hr
    | some ch => rw [hx] at hr; rw [h _ _ hx]; exact hr
   | _ => exact hr
  cases hc : cellsAt m n c with
  | none => simp [hc] at he
  | some r =>
   rw [hc] at he
   cases c with
   | elp k i sz off => first | exact absurd rfl (hne1 k i sz off) | exact absurd rfl (hne2 k i sz off)
   | rlp k i o j sz off => first | exact absurd rfl (hne1 k i o j sz off) | exact absurd rfl (hne2 k i o j sz off)
   | _ => simp only [key _ hc]; exact he
 ·cases he

theorem iStore_mono (h : MM m m') {T : TypeId} {a v : IVal} {e : Eff} (he : iStore P m T a v = some e) : iStore P m' T a v = some e := by
 unfold iStore at he ⊢
 split at he
 ·rename_i c off n hs
  try simp only [hs]
  cases hx : lk c m with
  | none => simp [hx] at he
  | some ch => rw [hx] at he; rw [h _ _ hx]; exact he
 ·rename_i c i sz off n hs
  try simp only [hs]
  cases hx : lk c m with
  | none => simp [hx] at he
  | some ch => rw [hx] at he; rw [h _ _ hx]; exact he
 ·rename_i c i o j sz off n hs
  try simp only [hs]
  cases hx : lk c m with
  | none => simp [hx] at he
  | some ch => rw [hx] at he; rw [h _ _ hx]; exact he
 ·cases he

theorem iIndexAddr_mono (h : MM m m') {T : TypeId} {x i : IVal} {e : Eff} (he : iIndexAddr P m T x i = some e) : iIndexAddr P m' T x i = some e := by
 unfold iIndexAddr at he ⊢
 split at he
 ·rename_i el k n hu
  try simp only [hu]
  split at he
  ·rename_i t xs kz hs
   try simp only [hs]
   exact he
  ·rename_i c kz hs
   try simp only [hs]
   cases hx : lk c m with
   | none => simp [hx] at he
   | some ch => rw [hx] at he; rw [h _ _ hx]; exact he
  ·rename_i c i o kz hs
   try simp only [hs]
   cases hx : lk c m with
   | none => simp [hx] at he
   | some ch => rw [hx] at he; rw [h _ _ hx]; exact he
  ·rename_i c off len kz hs
   try simp only [hs]
   cases hx : lk c m with
   | none => simp [hx] at he
   | some ch => rw [hx] at he; rw [h _ _ hx]; exact he
  ·cases he
 ·cases he

theorem iLen_mono (h : MM m m') {x : IVal} {e : Eff} (he : iLen m x = some e) : iLen m' x = some e := by
 unfold iLen at he ⊢
 split at he
 ·exact he
 ·exact he
 ·rename_i c
  try simp only
  cases hx : lk c m with
  | none => simp [hx] at he
  | some ch => rw [hx] at he; rw [h _ _ hx]; exact he
 ·rename_i c i o
  try simp only
  cases hx : lk c m with
  | none => simp [hx] at he
  | some ch => rw [hx] at he; rw [h _ _ hx]; exact he
 ·rename_i c off len
  try simp only
  cases hx : lk c m with
  | none => simp [hx] at he
  | some ch => rw [hx] at he; rw [h _ _ hx]; exact he
 ·exact he
 ·cases he

theorem srcOK_mono (h : MM m m') {x : IVal} (he : srcOK m x = true) : srcOK m' x = true := by
 unfold srcOK at he ⊢
 split at he
 ·rename_i c
  split at he
  ·rename_i t xs hl; rw [h _ _ hl]; exact he
  ·cases he
 ·cases he
 ·exact he

theorem iLenT_mono (h : MM m m') {T : TypeId} {x : IVal} {e : Eff} (he : iLenT P m T x = some e) : iLenT P m' T x = some e := by
 unfold iLenT at he ⊢
 split at he
 all_goals first
  | (rename_i hu; (try simp only [hu]); exact iLen_mono h he)
  | cases he

theorem appBase_mono (h : MM m m') {t : Ty} {x : IVal} {r : List t.D × List (Nat × Chunk)} (he : appBase m t x = some r) : appBase m' t x = some r := by
 unfold appBase at he ⊢
 split at he
 ·exact he
 ·rename_i c
  try simp only
  cases hx : lk c m with
  | none => simp [hx] at he
  | some ch => rw [hx] at he; rw [h _ _ hx]; exact he
 ·rename_i c len
  try simp only
  cases hx : lk c m with
  | none => simp [hx] at he
  | some ch => rw [hx] at he; rw [h _ _ hx]; exact he
 ·cases he

theorem iAppend_mono (h : MM m m') {nx : Nat} {T T' : TypeId} {t : Ty} {s x : IVal} {e : Eff} (he : iAppend P m nx T T' t s x = some e) : iAppend P m' nx T T' t s x = some e := by
 unfold iAppend at he ⊢
 split at he
 ·rename_i el hu
  split at he
  ·rename_i i hi
   try simp only [hi]
   cases hb : (((Nat.beq T T' && Nat.beq i.size t.size) && (Nat.ble i.bytes 32768 && i.zero.isSome) && (i.zero.map fun z => Nat.beq z.cells.size t.size).getD false) && (t.top && srcOK m x)) with
   | false => rw [hb] at he; cases he
   | true =>
    rw [hb] at he
    have hb' := hb
    simp only [Bool.and_eq_true] at hb'
    have hb2 : (((Nat.beq T T' && Nat.beq i.size t.size) && (Nat.ble i.bytes 32768 && i.zero.isSome) && (i.zero.map fun z => Nat.beq z.cells.size t.size).getD false) && (t.top && srcOK m' x)) = true := by
     rw [hb'.2.2] at hb
     rw [srcOK_mono h hb'.2.2]; exact hb
    rw [hb2]
    simp only [cond_true] at he ⊢
    cases h1 : appBase m t s with
    | none => simp [h1] at he
    | some r =>
     cases h2 : vdat m (.sl t) x with
     | none => simp [h1, h2] at he
     | some ys =>
      rw [h1, h2] at he
      rw [appBase_mono h h1, vdat_mono h h2]
      exact he
  ·cases he
 ·cases he

theorem implO_mono (h : MM m m') : ∀ (t : Ty) {cs : List ICell} {p : (t.D × List Nat) × List ICell}, implO m t cs = some p → implO m' t cs = some p
 | .pair a b, cs, p, he => by
  simp only [implO] at he ⊢
  split at he
  ·rename_i y k1 r1 h1
   rw [implO_mono h a h1]
   simp only
   split at he
   ·rename_i z k2 r2 h2
    rw [implO_mono h b h2]
    exact he
   ·cases he
  ·cases he
 | .st t, cs, p, he => implO_mono h t (cs := cs) (p := p) he
 | .own t, cs, p, he => by
  simp only [implO] at he ⊢
  split at he
  ·exact he
  ·rename_i c r
   split at he
   ·rename_i e xs hl
    rw [h _ _ hl]
    exact he
   ·cases he
  ·cases he
 | .int _, _, _, he => he
 | .flt _, _, _, he => he
 | .bool, _, _, he => he
 | .str, _, _, he => he
 | .sl _, _, _, he => he
 | .bx _, _, _, he => he

theorem iBuildO_mono (h : MM m m') {nx : Nat} {T : TypeId} {t : Ty} {len : Nat} {parts : List (Nat × IVal)} {e : Eff} (he : iBuildO P m nx T t len parts = some e) : iBuildO P m' nx T t len parts = some e := by
 unfold iBuildO at he ⊢
 split at he
 ·rename_i el v hu
  try simp only [hu]
  cases hb : ((sizeT P el == some t.size && (((P.info? el).bind (·.zero)).map fun z => Nat.beq z.cells.size t.size) == some true) && (Nat.beq len 1 && Nat.ble t.size 65536) && v.ok) with
  | false => rw [hb] at he; cases he
  | true =>
   rw [hb] at he
   simp only [cond_true] at he ⊢
   split at he
   ·rename_i x ks hio
    rw [implO_mono h t hio]
    exact he
   ·cases he
 ·cases he

theorem iBuildX_mono (h : MM m m') {nx : Nat} {T : TypeId} {t : Ty} {len : Nat} {parts : List (Nat × IVal)} {e : Eff} (he : iBuildX P m nx T t len parts = some e) : iBuildX P m' nx T t len parts = some e := by
 unfold iBuildX at he ⊢
 cases ht : t.top with
 | true => rw [ht] at he; exact he
 | false => rw [ht] at he; exact iBuildO_mono h he

theorem iAppO_mono (h : MM m m') {nx : Nat} {T T' : TypeId} {t : Ty} {s x : IVal} {e : Eff} (he : iAppO P m nx T T' t s x = some e) : iAppO P m' nx T T' t s x = some e := by
 unfold iAppO at he ⊢
 split at he
 ·rename_i el s c2 hu
  try simp only [hu]
  split at he
  ·rename_i i t2 ys hi hl2
   rw [h _ _ hl2]
   try simp only [hi]
   cases hb : (((Nat.beq T T' && Nat.beq i.size t.size) && (Nat.ble i.bytes 32768 && i.zero.isSome)) && (i.zero.map fun z => Nat.beq z.cells.size t.size).getD false) with
   | false => rw [hb] at he; cases he
   | true =>
    rw [hb] at he
    simp only [cond_true] at he ⊢
    split at he
    ·rename_i ht
     rw [dif_pos ht]
     split at he
     ·exact he
     ·rename_i c
      try simp only
      split at he
      ·rename_i t1 xs hl1
       rw [h _ _ hl1]
       exact he
      ·cases he
     ·cases he
    ·cases he
  ·cases he
 ·cases he

theorem iAppendX_mono (h : MM m m') {nx : Nat} {T T' : TypeId} {t : Ty} {s x : IVal} {e : Eff} (he : iAppendX P m nx T T' t s x = some e) : iAppendX P m' nx T T' t s x = some e := by
 unfold iAppendX at he ⊢
 cases ht : t.top with
 | true => rw [ht] at he; exact iAppend_mono h he
 | false => rw [ht] at he; exact iAppO_mono h he

theorem iSlice_mono (h : MM m m') {T : TypeId} {x : IVal} {lo hi : Option IVal} {e : Eff} (he : iSlice P m T x lo hi = some e) : iSlice P m' T x lo hi = some e := by
 unfold iSlice at he ⊢
 split at he
 ·rename_i xs hu; (try simp only [hu]); exact he
 ·rename_i el hu; (try simp only [hu]); exact he
 ·rename_i el t xs hu; (try simp only [hu]); exact he
 ·rename_i el c hu
  try simp only [hu]
  cases hx : lk c m with
  | none => simp [hx] at he
  | some ch => rw [hx] at he; rw [h _ _ hx]; exact he
 ·rename_i el c off len hu
  try simp only [hu]
  cases hx : lk c m with
  | none => simp [hx] at he
  | some ch => rw [hx] at he; rw [h _ _ hx]; exact he
 ·cases he

theorem ownKeys_mono (h : MM m m') : ∀ (t : Ty) (cs : List ICell) {p : List Nat × List ICell}, ownKeys m t cs = some p → ownKeys m' t cs = some p
 | .int _, _, _, he => he
 | .flt _, _, _, he => he
 | .bool, _, _, he => he
 | .str, _, _, he => he
 | .sl t, cs, p, he => by
  simp only [ownKeys] at he ⊢
  split at he
  ·split at he
   ·rename_i hl; rw [h _ _ hl]; exact he
   ·cases he
  ·exact he
  ·cases he
 | .own t, cs, p, he => by
  simp only [ownKeys] at he ⊢
  split at he
  ·split at he
   ·rename_i hl; rw [h _ _ hl]; exact he
   ·cases he
  ·exact he
  ·cases he
 | .bx t, cs, p, he => by
  simp only [ownKeys] at he ⊢
  split at he
  ·split at he
   ·rename_i hl; rw [h _ _ hl]; exact he
   ·cases he
  ·cases he
 | .st t, cs, p, he => ownKeys_mono h t cs he
 | .pair a b, cs, p, he => by
  simp only [ownKeys] at he ⊢
  split at he
  ·rename_i x r e1
   rw [ownKeys_mono h a cs e1]
   simp only
   split at he
   ·rename_i y r' e2
    rw [ownKeys_mono h b r e2]
    exact he
   ·cases he
  ·cases he

theorem ownKeysAll_mono (h : MM m m') : ∀ (ms : List Mode) (vs : List IVal) {ks : List Nat}, ownKeysAll m ms vs = some ks → ownKeysAll m' ms vs = some ks
 | [], [], _, he => he
 | [], _ :: _, _, he => he
 | .own t :: ms, v :: vs, ks, he => by
  simp only [ownKeysAll] at he ⊢
  split at he
  ·rename_i k1 l1 e1 e2
   rw [ownKeys_mono h t _ e1, ownKeysAll_mono h ms vs e2]
   exact he
  ·cases he
 | .mv t :: ms, v :: vs, ks, he => by
  simp only [ownKeysAll] at he ⊢
  split at he
  ·rename_i k1 l1 e1 e2
   rw [ownKeys_mono h t _ e1, ownKeysAll_mono h ms vs e2]
   exact he
  ·cases he
 | .imm _ :: ms, _ :: vs, ks, he => ownKeysAll_mono h ms vs (ks := ks) he
 | .pimm _ :: ms, _ :: vs, ks, he => ownKeysAll_mono h ms vs (ks := ks) he
 | .fn :: ms, _ :: vs, ks, he => ownKeysAll_mono h ms vs (ks := ks) he
 | .clo _ :: ms, _ :: vs, ks, he => ownKeysAll_mono h ms vs (ks := ks) he
 | .nl :: ms, _ :: vs, ks, he => ownKeysAll_mono h ms vs (ks := ks) he
 | .own _ :: _, [], _, he => he
 | .mv _ :: _, [], _, he => he
 | .nl :: _, [], _, he => he
 | .imm _ :: _, [], _, he => he
 | .pimm _ :: _, [], _, he => he
 | .fn :: _, [], _, he => he
 | .clo _ :: _, [], _, he => he

theorem argOf_mono (h : MM m m') {md : Mode} {v : IVal} {a : Arg} (he : argOf m md v = some a) : argOf m' md v = some a := by
 unfold argOf at he ⊢
 split at he
 ·rename_i v1 t
  try simp only
  cases h1 : vdat m t v with
  | none => simp [h1] at he
  | some x => rw [h1] at he; rw [vdat_mono h h1]; exact he
 ·rename_i v1 t
  try simp only
  cases h1 : vdat m t v with
  | none => simp [h1] at he
  | some x => rw [h1] at he; rw [vdat_mono h h1]; exact he
 ·rename_i v1 t
  try simp only
  cases h1 : vdat m t v with
  | none => simp [h1] at he
  | some x => rw [h1] at he; rw [vdat_mono h h1]; exact he
 ·rename_i t t' x off
  try simp only
  cases h1 : impl m t (((expl t' x).drop off).take t.size) with
  | none => simp [h1] at he
  | some p => rw [h1] at he; rw [impl_mono h t h1]; exact he
 ·exact he
 ·exact he
 ·exact he
 ·cases he

theorem argP_mono {m2 m2' : Mem} (h : MM m m') (h2 : MM m2 m2') {md : Mode} {v : IVal} {a : Arg} (he : argP m m2 md v = some a) : argP m' m2' md v = some a := by
 unfold argP at he ⊢
 split at he
 ·rename_i t c off
  try simp only
  cases hx : lk c m with
  | none => simp [hx] at he
  | some ch =>
   rw [hx] at he
   rw [h _ _ hx]
   cases ch with
   | box cs =>
    simp only at he ⊢
    cases h1 : impl m2 t ((cs.drop off).take t.size) with
    | none => simp [h1] at he
    | some p => rw [h1] at he; rw [impl_mono h2 t h1]; exact he
   | seq t' xs => cases he
   | opn t' xs i cs ks => cases he
   | gone => cases he
 ·exact argOf_mono h2 he

theorem argsOf_mono {mp mp' m2 m2' : Mem} (h : MM m m') (hp : MM mp mp') (h2 : MM m2 m2') : ∀ {ms : List Mode} {vs : List IVal} {as : List Arg}, argsOf m mp m2 ms vs = some as → argsOf m' mp' m2' ms vs = some as := by
 intro ms
 induction ms with
 | nil => intro vs as he; cases vs <;> exact he
 | cons md ms ih =>
  intro vs as he
  cases vs with
  | nil => cases md <;> exact he
  | cons v vs =>
   cases md with
   | own t =>
    simp only [argsOf] at he ⊢
    cases h1 : argOf m (.own t) v with
    | none => simp [h1] at he
    | some a =>
     cases h3 : argsOf m mp m2 ms vs with
     | none => simp [h1, h3] at he
     | some l => rw [h1, h3] at he; rw [argOf_mono h h1, ih h3]; exact he
   | mv t =>
    simp only [argsOf] at he ⊢
    cases h1 : argOf m (.mv t) v with
    | none => simp [h1] at he
    | some a =>
     cases h3 : argsOf m mp m2 ms vs with
     | none => simp [h1, h3] at he
     | some l => rw [h1, h3] at he; rw [argOf_mono h h1, ih h3]; exact he
   | nl =>
    simp only [argsOf] at he ⊢
    cases h1 : argP mp m2 .nl v with
    | none => simp [h1] at he
    | some a =>
     cases h3 : argsOf m mp m2 ms vs with
     | none => simp [h1, h3] at he
     | some l => rw [h1, h3] at he; rw [argP_mono hp h2 h1, ih h3]; exact he
   | imm t =>
    simp only [argsOf] at he ⊢
    cases h1 : argP mp m2 (.imm t) v with
    | none => simp [h1] at he
    | some a =>
     cases h3 : argsOf m mp m2 ms vs with
     | none => simp [h1, h3] at he
     | some l => rw [h1, h3] at he; rw [argP_mono hp h2 h1, ih h3]; exact he
   | pimm t =>
    simp only [argsOf] at he ⊢
    cases h1 : argP mp m2 (.pimm t) v with
    | none => simp [h1] at he
    | some a =>
     cases h3 : argsOf m mp m2 ms vs with
     | none => simp [h1, h3] at he
     | some l => rw [h1, h3] at he; rw [argP_mono hp h2 h1, ih h3]; exact he
   | fn =>
    simp only [argsOf] at he ⊢
    cases h1 : argP mp m2 .fn v with
    | none => simp [h1] at he
    | some a =>
     cases h3 : argsOf m mp m2 ms vs with
     | none => simp [h1, h3] at he
     | some l => rw [h1, h3] at he; rw [argP_mono hp h2 h1, ih h3]; exact he
   | clo t =>
    simp only [argsOf] at he ⊢
    cases h1 : argP mp m2 (.clo t) v with
    | none => simp [h1] at he
    | some a =>
     cases h3 : argsOf m mp m2 ms vs with
     | none => simp [h1, h3] at he
     | some l => rw [h1, h3] at he; rw [argP_mono hp h2 h1, ih h3]; exact he

theorem MM.app {l : Mem} (h : MM m m') : MM (l ++ m) (l ++ m') := fun k ch hk => by
 rw [lk_append] at hk ⊢
 cases hx : lk k l with
 | none => rw [hx] at hk; exact h k ch (by simpa using hk)
 | some c => rw [hx] at hk; simpa using hk

theorem iCall_mono (h : MM m m') {nx : Nat} {ms : List Mode} {rs : List RV} {outs : List TD} {f : FuncId} {vs : List IVal} {e : Eff} (he : iCall P m nx ms rs outs f vs = some e) : iCall P m' nx ms rs outs f vs = some e := by
 unfold iCall at he ⊢
 split at he
 ·rename_i ks up hk hu
  rw [ownKeysAll_mono h ms vs hk, hu]
  try simp only
  split at he
  ·rename_i as has
   try simp only [has]
   exact he
  ·rename_i has
   try simp only [has]
   cases hb : nodupB ks with
   | false => rw [hb] at he; cases he
   | true =>
    rw [hb] at he
    simp only [cond_true] at he ⊢
    cases hb2 : (rs.all RV.okAlone && modesFlat ms) with
    | true =>
     rw [hb2] at he
     simp only [cond_true] at he ⊢
     cases h3 : argsOf m m ((ks.map fun k => (k, Chunk.gone)) ++ m) ms vs with
     | none => simp [h3] at he
     | some as => rw [h3] at he; rw [argsOf_mono h h (MM.app h) h3]; exact he
    | false =>
     rw [hb2] at he
     simp only [cond_false] at he ⊢
     cases h3 : argsOf m [] [] ms vs with
     | none => simp [h3] at he
     | some as => rw [h3] at he; rw [argsOf_mono h (fun _ _ h => h) (fun _ _ h => h) h3]; exact he
 ·cases he

theorem iAppendS_mono (h : MM m m') {nx : Nat} {T T' : TypeId} {s x : IVal} {e : Eff} (he : iAppendS P m nx T T' s x = some e) : iAppendS P m' nx T T' s x = some e := by
 unfold iAppendS at he ⊢
 split at he
 ·rename_i el y hu hu'
  try simp only
  split at he
  ·rename_i i hi
   try simp only [hi]
   cases hb : ((isByteSlice P T && Nat.beq i.size 1) && (Nat.ble i.bytes 32768 && i.zero.isSome) && (i.zero.map fun z => Nat.beq z.cells.size 1).getD false) with
   | false => rw [hb] at he; cases he
   | true =>
    rw [hb] at he
    simp only [cond_true] at he ⊢
    cases h1 : appBase m (.int .u8) s with
    | none => simp [h1] at he
    | some r =>
     rw [h1] at he
     rw [appBase_mono h h1]
     exact he
  ·cases he
 ·cases he

theorem iConvertM_mono (h : MM m m') {nx : Nat} {T U : TypeId} {x : IVal} {e : Eff} (he : iConvertM P m nx T U x = some e) : iConvertM P m' nx T U x = some e := by
 unfold iConvertM at he ⊢
 split at he
 ·exact he
 ·exact he
 ·exact he
 ·rename_i c _ _
  try simp only
  cases hb : (Nat.beq T U && isByteSlice P T) with
  | false => rw [hb] at he; cases he
  | true =>
   rw [hb] at he
   simp only [cond_true] at he ⊢
   cases hx : lk c m with
   | none => simp [hx] at he
   | some ch => rw [hx] at he; rw [h _ _ hx]; exact he
 ·rename_i x _ _ _ _ _ _
  try simp only
  cases hb : (isByteSlice P T && srcOK m x) with
  | false => rw [hb] at he; cases he
  | true =>
   rw [hb] at he
   simp only [Bool.and_eq_true] at hb
   rw [hb.1, srcOK_mono h hb.2]
   simp only [cond_true, Bool.and_self] at he ⊢
   split at he
   ·rename_i l hl; rw [vdat_mono h hl]; exact he
   ·cases he
 ·exact he

theorem opnOf_mono (h : MM m m') {nx : Nat} {v : IVal} {r : Mem × Mem × Prop} (he : opnOf m nx v = some r) : opnOf m' nx v = some r := by
 unfold opnOf at he ⊢
 split at he
 ·rename_i c i sz off
  try simp only
  cases hx : lk c m with
  | none => simp [hx] at he
  | some ch => rw [hx] at he; rw [h _ _ hx]; exact he
 ·cases he

theorem iLoadH_mono (h : MM m m') {nx : Nat} {hh : Hint} {T : TypeId} {v : IVal} {e : Eff} (he : iLoadH P m nx hh T v = some e) : iLoadH P m' nx hh T v = some e := by
 unfold iLoadH at he ⊢
 cases hb : hh.isOpn with
 | false => rw [hb] at he; exact iLoad_mono h he
 | true =>
  rw [hb] at he
  simp only [cond_true, iOpenL] at he ⊢
  split at he
  ·rename_i u n p hp
   rw [opnOf_mono h hp]
   simp only
   split at he
   ·rename_i e1 hl
    rw [iLoad_mono (MM.app h) hl]
    exact he
   ·cases he
  ·cases he

theorem iStoreH_mono (h : MM m m') {nx : Nat} {hh : Hint} {T : TypeId} {v x : IVal} {e : Eff} (he : iStoreH P m nx hh T v x = some e) : iStoreH P m' nx hh T v x = some e := by
 unfold iStoreH at he ⊢
 cases hb : hh.isOpn with
 | false => rw [hb] at he; exact iStore_mono h he
 | true =>
  rw [hb] at he
  simp only [cond_true, iStoreO] at he ⊢
  split at he
  ·rename_i u n p hp
   rw [opnOf_mono h hp]
   simp only
   split at he
   ·rename_i e1 hl
    rw [iStore_mono (MM.app h) hl]
    exact he
   ·cases he
  ·cases he

theorem iCopy_mono (h : MM m m') {T : TypeId} {x y : IVal} {e : Eff} (he : iCopy P m T x y = some e) : iCopy P m' T x y = some e := by
 unfold iCopy at he ⊢
 have hd : ∀ r, cpDst m x = some r → cpDst m' x = some r := fun r hr => by
  unfold cpDst at hr ⊢
  split at hr
  ·rename_i c
   try simp only
   cases hx : lk c m with
   | none => simp [hx] at hr
   | some ch => rw [hx] at hr; rw [h _ _ hx]; exact hr
  ·exact hr
  ·cases hr
 split at he
 ·rename_i el c off len hu hc
  rw [hd _ hc, hu]
  try simp only
  split at he
  ·rename_i t xs hl
   rw [h _ _ hl]
   simp only
   cases hb : ((sizeT P el == some t.size && t.top) && srcOK m y) with
   | false => rw [hb] at he; cases he
   | true =>
    rw [hb] at he
    simp only [Bool.and_eq_true] at hb
    rw [show ((sizeT P el == some t.size && t.top) && srcOK m' y) = true from by simp only [Bool.and_eq_true]; exact ⟨hb.1, srcOK_mono h hb.2⟩]
    simp only [cond_true] at he ⊢
    split at he
    ·rename_i ys hys
     rw [vdat_mono h hys]
     exact he
    ·cases he
  ·cases he
 ·cases he

theorem iBuiltin_mono (h : MM m m') {fr : Fr} {nx : Nat} {hh : Hint} {b : Builtin} {args : List Operand} {ts : List TypeId} {e : Eff} (he : iBuiltin P fr m nx hh b args ts = some e) : iBuiltin P fr m' nx hh b args ts = some e := by
 unfold iBuiltin at he ⊢
 split at he
 ·rename_i x T
  try simp only
  split at he
  ·rename_i v hv; (try simp only [hv]); exact iLenT_mono h he
  ·cases he
 ·rename_i s x T T'
  try simp only
  split at he
  ·rename_i t sv xv hs hx; (try simp only [hs, hx]); exact iAppendX_mono h he
  ·rename_i sv xv hs hx; (try simp only [hs, hx]); exact iAppendS_mono h he
  ·rename_i t sv xv hs hx; (try simp only [hs, hx]); exact he
  ·cases he
 ·exact he
 ·exact he
 ·rename_i x y T T'
  try simp only
  split at he
  ·rename_i xv yv hx hy; (try simp only [hx, hy]); exact iCopy_mono h he
  ·cases he
 ·exact he
 ·cases he

theorem iop_mono (h : MM m m') {fr : Fr} {nx : Nat} {hh : Hint} {o : Oper} {e : Eff} (he : iop P fr m nx hh o = some e) : iop P fr m' nx hh o = some e := by
 unfold iop at he ⊢
 split at he
 case h_8 T x ho =>
  try simp only
  split at he
  ·rename_i v hv; (try simp only [hv]); exact iLoadH_mono h he
  ·cases he
 case h_9 T x y ho =>
  try simp only
  split at he
  ·rename_i xv yv hx hy; (try simp only [hx, hy]); exact iStoreH_mono h he
  ·cases he
 case h_13 T U x ho =>
  try simp only
  split at he
  ·rename_i v hv; (try simp only [hv]); exact iConvertM_mono h he
  ·cases he
 case h_7 T len parts ho =>
  try simp only
  split at he
  ·rename_i t vs hv; (try simp only [hv]); exact iBuildX_mono h he
  ·rename_i t vs hv; (try simp only [hv]); exact he
  ·rename_i vs hv; (try simp only [hv]); exact he
  ·cases he
 case h_15 T x lo hi ho =>
  try simp only
  split at he
  ·rename_i v l h' hv hl hh; (try simp only [hv, hl, hh]); exact iSlice_mono h he
  ·cases he
 case h_18 T x i ho =>
  try simp only
  split at he
  ·rename_i v j hv hj; (try simp only [hv, hj]); exact iIndexAddr_mono h he
  ·cases he
 case h_22 c ho =>
  try simp only
  split at he
  ·rename_i b hb; (try simp only [hb]); exact iBuiltin_mono h he
  ·rename_i f hf
   try simp only [hf]
   split at he
   ·rename_i ms rs outs k vs hk hvs; (try simp only [hk, hvs]); exact iCall_mono h he
   ·rename_i ms rs outs k t x vs hk hvs; (try simp only [hk, hvs]); exact iCall_mono h he
   ·cases he
  ·cases he
 all_goals first
  | exact he
  | cases he

end
end Go.Ide


/-
 Regions whose order is drawn.
-/
namespace Go.Ide

abbrev ER := Option Tmp × Eff

def effM (e : Eff) : Mem := e.upd ++ e.new

def blindB (o : Oper) : Bool :=
 match o.op with
 | .move _ => true
 | .assign _ => true
 | .pick _ _ _ => true
 | .binOp _ _ _ _ _ => true
 | .unOp _ _ _ => true
 | .fieldAddr _ _ _ => true
 | .index _ _ _ => true
 | .extract _ _ => true
 | .nilCheck _ => true
 | _ => false

def selFr (sel : Nat → Bool) : Nat → List ER → Fr → Fr
 | _, [], fr => fr
 | i, (d, e) :: r, fr => selFr sel (i + 1) r (bif sel i then (match d with | some t => (t, e.val) :: fr | none => fr) else fr)

def selMem (sel : Nat → Bool) : Nat → List ER → Mem → Mem
 | _, [], m => m
 | i, (_, e) :: r, m => selMem sel (i + 1) r (bif sel i then effM e ++ m else m)

def lastW (sel : Nat → Bool) (t : Tmp) : Nat → List ER → Option IVal
 | _, [] => none
 | i, (d, e) :: r => (lastW sel t (i + 1) r).or (if sel i = true ∧ d = some t then some e.val else none)

def lastN (sel : Nat → Bool) (k : Nat) : Nat → List ER → Option Chunk
 | _, [] => none
 | i, (_, e) :: r => (lastN sel k (i + 1) r).or (if sel i = true then lk k (effM e) else none)

theorem lk_selFr {sel : Nat → Bool} {t : Tmp} : ∀ {l : List ER} {n : Nat} {fr : Fr}, lk t (selFr sel n l fr) = (lastW sel t n l).or (lk t fr)
 | [], _, _ => by simp [selFr, lastW]
 | (d, e) :: r, n, fr => by
  simp only [selFr, lastW]
  rw [lk_selFr, Option.or_assoc]
  congr 1
  cases hs : sel n with
  | false => simp
  | true =>
   simp only [cond_true, true_and]
   cases d with
   | none => simp
   | some t' =>
    rw [lk_cons]
    by_cases h : t = t'
    ·subst h; simp
    ·rw [if_neg h, if_neg (fun e => h (by injection e with e; exact e.symm))]; rfl

theorem lk_selMem {sel : Nat → Bool} {k : Nat} : ∀ {l : List ER} {n : Nat} {m : Mem}, lk k (selMem sel n l m) = (lastN sel k n l).or (lk k m)
 | [], _, _ => by simp [selMem, lastN]
 | (d, e) :: r, n, m => by
  simp only [selMem, lastN]
  rw [lk_selMem, Option.or_assoc]
  congr 1
  cases hs : sel n with
  | false => simp
  | true => simp only [cond_true, if_true]; rw [lk_append]

theorem lastW_congr {sel sel' : Nat → Bool} {t : Tmp} : ∀ {l : List ER} {n : Nat}, (∀ (j : Nat) (d : Option Tmp) (e : Eff), l[j]? = some (d, e) → d = some t → sel (n + j) = sel' (n + j)) → lastW sel t n l = lastW sel' t n l
 | [], _, _ => rfl
 | (d, e) :: r, n, h => by
  simp only [lastW]
  have ih : lastW sel t (n + 1) r = lastW sel' t (n + 1) r := lastW_congr fun j d e hj hd => by
   have := h (j + 1) d e (by simpa using hj) hd
   have e1 : n + (j + 1) = n + 1 + j := by omega
   rw [e1] at this
   exact this
  have hh : (if sel n = true ∧ d = some t then some e.val else none) = if sel' n = true ∧ d = some t then some e.val else none := by
   by_cases hd : d = some t
   ·have h0 : sel n = sel' n := by simpa using h 0 d e rfl hd
    rw [h0]
   ·rw [if_neg (fun x => hd x.2), if_neg (fun x => hd x.2)]
  rw [ih, hh]

theorem lastW_at {sel : Nat → Bool} {t : Tmp} {v : Eff} : ∀ {l : List ER} {n i : Nat}, l[i]? = some (some t, v) → sel (n + i) = true → (∀ (j : Nat) (d : Option Tmp) (e : Eff), i < j → l[j]? = some (d, e) → d = some t → sel (n + j) = false) → lastW sel t n l = some v.val
 | [], n, i, h, _, _ => by simp at h
 | (d, e) :: r, n, 0, h, hs, hn => by
  simp at h
  obtain ⟨rfl, rfl⟩ := h
  have hz : lastW sel t (n + 1) r = lastW (fun _ => false) t (n + 1) r := lastW_congr fun j d e hj hd => by
   have := hn (j + 1) d e (by omega) (by simpa using hj) hd
   rwa [show n + (j + 1) = n + 1 + j from by omega] at this
  have hf : ∀ (l : List ER) (n : Nat), lastW (fun _ => false) t n l = none := by
   intro l
   induction l with
   | nil => intro _; rfl
   | cons p l ih => intro n; obtain ⟨d, e⟩ := p; simp [lastW, ih]
  simp only [lastW]
  rw [hz, hf]
  have hs : sel n = true := by simpa using hs
  simp [hs]
 | (d, e) :: r, n, i + 1, h, hs, hn => by
  simp only [lastW]
  have := lastW_at (l := r) (n := n + 1) (i := i) (by simpa using h) (by rwa [show n + (i + 1) = n + 1 + i from by omega] at hs) (fun j d e hlt hj hd => by
   have := hn (j + 1) d e (by omega) (by simpa using hj) hd
   rwa [show n + (j + 1) = n + 1 + j from by omega] at this)
  rw [this]
  rfl

theorem lastN_some {sel : Nat → Bool} {k : Nat} {ch : Chunk} : ∀ {l : List ER} {n : Nat}, lastN sel k n l = some ch → ∃ (j : Nat) (d : Option Tmp) (e : Eff), l[j]? = some (d, e) ∧ sel (n + j) = true ∧ lk k (effM e) = some ch
 | [], _, h => by simp [lastN] at h
 | (d, e) :: r, n, h => by
  simp only [lastN] at h
  cases hx : lastN sel k (n + 1) r with
  | some c =>
   rw [hx] at h
   have h : c = ch := by simpa using h
   subst h
   obtain ⟨j, d', e', h1, h2, h3⟩ := lastN_some hx
   exact ⟨j + 1, d', e', by simpa using h1, by rwa [show n + (j + 1) = n + 1 + j from by omega], h3⟩
  | none =>
   rw [hx] at h
   simp only [Option.none_or] at h
   split at h
   ·rename_i hs; exact ⟨0, d, e, rfl, by simpa using hs, h⟩
   ·cases h

theorem lastN_none {sel : Nat → Bool} {k : Nat} : ∀ {l : List ER} {n : Nat}, lastN sel k n l = none → ∀ (j : Nat) (d : Option Tmp) (e : Eff), l[j]? = some (d, e) → sel (n + j) = true → lk k (effM e) = none
 | [], _, _, j, d, e, hj, _ => by simp at hj
 | (d0, e0) :: r, n, h, j, d, e, hj, hs => by
  simp only [lastN, Option.or_eq_none_iff] at h
  cases j with
  | zero =>
   simp at hj
   obtain ⟨rfl, rfl⟩ := hj
   have hs : sel n = true := by simpa using hs
   have := h.2
   rwa [if_pos hs] at this
  | succ j => exact lastN_none h.1 j d e (by simpa using hj) (by rwa [show n + (j + 1) = n + 1 + j from by omega] at hs)

def memN (j : Nat) : List Nat → Bool
 | [] => false
 | a :: l => Nat.beq j a || memN j l

theorem memN_iff {j : Nat} : ∀ {l : List Nat}, memN j l = true ↔ j ∈ l
 | [] => by simp [memN]
 | a :: l => by
  simp only [memN, Bool.or_eq_true, memN_iff, List.mem_cons]
  constructor
  ·rintro (h | h)
   ·exact .inl (beq_of h)
   ·exact .inr h
  ·rintro (h | h)
   ·subst h; exact .inl (Nat.beq_refl _)
   ·exact .inr h

def looksO (all : List Oper) (o : Oper) : List Tmp :=
 (o.op.operands.toList.filterMap fun | .tmp t => some t | _ => none) ++ (match o.guard with
  | some (j, _) => (gslot all j).toList
  | none => [])

def directs (o : Oper) : List Nat := (o.after.toList.filter fun e => Region.binds .any e).map (·.on)

def conflictB (all : List Oper) (x y : Oper) : Bool :=
 (match x.dst with
 | some t => memN t (looksO all y) || (match y.dst with | some u => Nat.beq t u | none => false)
 | none => false) ||
 (match y.dst with
 | some t => memN t (looksO all x)
 | none => false)

def okFrom (all : List Oper) (Ds : List (List Nat)) (h : Nat) : Nat → List Oper → Bool
 | _, [] => true
 | i, o :: os =>
  ((directs o).all fun d => Nat.blt d i) &&
  (((Ds.getD i []).all fun j => memN j (directs o) || (directs o).any fun d => memN j (Ds.getD d []))) &&
  ((List.range i).all fun j => memN j (Ds.getD i []) || (Nat.blt i h && !(conflictB all (all.getD j default) o))) &&
  okFrom all Ds h (i + 1) os

theorem okFrom_spec {all : List Oper} {Ds : List (List Nat)} {h : Nat} : ∀ {os : List Oper} {n : Nat}, okFrom all Ds h n os = true → ∀ (i : Nat) (o : Oper), os[i]? = some o →
  (∀ d ∈ directs o, d < n + i) ∧ (∀ j ∈ Ds.getD (n + i) [], j ∈ directs o ∨ ∃ d ∈ directs o, j ∈ Ds.getD d []) ∧ (∀ j, j < n + i → j ∈ Ds.getD (n + i) [] ∨ (n + i < h ∧ conflictB all (all.getD j default) o = false))
 | [], _, _, i, o, ho => by simp at ho
 | o0 :: os, n, hk, i, o, ho => by
  simp only [okFrom, Bool.and_eq_true] at hk
  obtain ⟨⟨⟨h1, h2⟩, h3⟩, h4⟩ := hk
  cases i with
  | succ i =>
   have := okFrom_spec h4 i o (by simpa using ho)
   rwa [show n + 1 + i = n + (i + 1) from by omega] at this
  | zero =>
   simp at ho
   subst ho
   refine ⟨fun d hd => ?_, fun j hj => ?_, fun j hj => ?_⟩
   ·have := List.all_eq_true.1 h1 d hd
    exact Nat.lt_of_succ_le (by simpa [Nat.blt] using this)
   ·have := List.all_eq_true.1 h2 j hj
    simp only [Bool.or_eq_true] at this
    rcases this with h | h
    ·exact .inl (memN_iff.1 h)
    ·obtain ⟨d, hd, hm⟩ := List.any_eq_true.1 h
     exact .inr ⟨d, hd, memN_iff.1 hm⟩
   ·have := List.all_eq_true.1 h3 j (by simpa using hj)
    simp only [Bool.or_eq_true, Bool.and_eq_true, Bool.not_eq_true'] at this
    rcases this with h | ⟨h, h'⟩
    ·exact .inl (memN_iff.1 h)
    ·exact .inr ⟨Nat.lt_of_succ_le (by simpa [Nat.blt] using h), h'⟩

theorem conflict_look {all : List Oper} {x y : Oper} (h : conflictB all x y = false) : (∀ t, x.dst = some t → t ∉ looksO all y) ∧ (∀ t, x.dst = some t → y.dst ≠ some t) ∧ (∀ t, y.dst = some t → t ∉ looksO all x) := by
 unfold conflictB at h
 simp only [Bool.or_eq_false_iff] at h
 obtain ⟨h1, h2⟩ := h
 refine ⟨fun t ht hm => ?_, fun t ht hy => ?_, fun t ht hm => ?_⟩
 ·simp only [ht, Bool.or_eq_false_iff] at h1
  rw [memN_iff.2 hm] at h1
  cases h1.1
 ·simp [ht, hy] at h1
 ·simp only [ht] at h2
  rw [memN_iff.2 hm] at h2
  cases h2

structure HR where
 r : OH
 D : List Nat

def presB (m : Mem) (l : Mem) : Bool := l.all fun p => (lk p.1 m).isSome

def awayB (m l : Mem) : Bool := l.all fun p => (lk p.1 m).isNone

theorem awayB_spec {m l : Mem} (h : awayB m l = true) (k : Nat) (hk : lk k l ≠ none) : lk k m = none := by
 obtain ⟨c, hc⟩ := Option.ne_none_iff_exists'.1 hk
 have := List.all_eq_true.1 h _ (lk_mem hc)
 simpa using this

def keyB (o : Oper) (h : Hint) (fr : Fr) : Option Nat :=
 match o.op, h with
 | .load _ x, .no => (match ev fr x with
  | some (.one (.ptr c _)) => some c
  | some (.one (.elp c _ _ _)) => some c
  | _ => none)
 | .indexAddr _ x _, .no => (match ev fr x with
  | some (.one (.all c)) => some c
  | _ => none)
 | _, _ => none

def offB (k : Option Nat) (u : Mem) : Bool :=
 match k with
 | some c => (lk c u).isNone
 | none => false

def pairsB (all : List Oper) (o : Oper) (D : List Nat) (e : Eff) (m : Mem) (done : List ER) (ks : List (Option Nat)) (ko : Option Nat) : Nat → List ER → Bool
 | _, [] => true
 | j, p :: r => (memN j D || ((e.upd.isEmpty || (blindB (all.getD j default) || awayB (selMem (fun _ => true) 0 (done.take j) m) e.upd || offB (ks.getD j none) e.upd)) && (p.2.upd.isEmpty || (blindB o || offB ko p.2.upd)))) && pairsB all o D e m done ks ko (j + 1) r

def iheadK (P : Program) (N : Nat) (all : List Oper) (st : St) : List Oper → List HR → List ER → List (Option Nat) → Nat → Option (List ER × List Prop × Nat)
 | [], _, done, _, nx => some (done, [], nx)
 | o :: os, r :: rs, done, ks, nx =>
  (match igop P all o r.r (selFr (fun j => memN j r.D) 0 done st.fr) (selMem (fun j => memN j r.D) 0 done st.mem) nx with
  | some (e, cs) => bif ((dOK N o.dst && pairsB all o r.D e st.mem done ks (keyB o r.r.h (selFr (fun j => memN j r.D) 0 done st.fr)) 0 done) && presB (selMem (fun j => memN j r.D) 0 done st.mem) e.upd) && freshB (selMem (fun _ => true) 0 done st.mem) e.new then
    (match iheadK P N all st os rs (done ++ [(o.dst, e)]) (ks ++ [keyB o r.r.h (selFr (fun j => memN j r.D) 0 done st.fr)]) (nx + e.new.length) with
    | some (l, cs', n) => some (l, cs ++ cs', n)
    | none => none) else none
  | none => none)
 | _ :: _, [], _, _, _ => none

def ihead (P : Program) (N : Nat) (all : List Oper) (st : St) (os : List Oper) (rs : List HR) (done : List ER) (nx : Nat) : Option (List ER × List Prop × Nat) := iheadK P N all st os rs done [] nx

structure HeadOK (P : Program) (N : Nat) (all : List Oper) (st : St) (ers : List ER) (K : Nat → Option Nat) (i : Nat) (o : Oper) (D : List Nat) : Prop where
 got : ∃ (r : OH) (nx : Nat) (e : Eff) (cs : List Prop), ers[i]? = some (o.dst, e) ∧ igop P all o r (selFr (fun j => memN j D) 0 (ers.take i) st.fr) (selMem (fun j => memN j D) 0 (ers.take i) st.mem) nx = some (e, cs) ∧ AllP cs ∧
  dOK N o.dst = true ∧ (∀ k, lk k e.upd ≠ none → lk k (selMem (fun j => memN j D) 0 (ers.take i) st.mem) ≠ none) ∧ Fresh (selMem (fun _ => true) 0 (ers.take i) st.mem) e.new ∧
  K i = keyB o r.h (selFr (fun j => memN j D) 0 (ers.take i) st.fr) ∧
  (∀ j d e', j < i → ers[j]? = some (d, e') → j ∈ D ∨ ((e.upd = [] ∨ blindB (all.getD j default) = true ∨ (∀ k, lk k e.upd ≠ none → lk k (selMem (fun _ => true) 0 (ers.take j) st.mem) = none) ∨ ∃ c, K j = some c ∧ lk c e.upd = none) ∧ (e'.upd = [] ∨ blindB o = true ∨ ∃ c, K i = some c ∧ lk c e'.upd = none)))

theorem offB_spec {k : Option Nat} {u : Mem} (h : offB k u = true) : ∃ c, k = some c ∧ lk c u = none := by
 unfold offB at h
 cases k with
 | none => cases h
 | some c => exact ⟨c, rfl, by simpa using h⟩

theorem pairsB_spec {all : List Oper} {o : Oper} {D : List Nat} {e : Eff} {m : Mem} {done : List ER} {ks : List (Option Nat)} {ko : Option Nat} : ∀ {l : List ER} {n : Nat}, pairsB all o D e m done ks ko n l = true → ∀ j d e', l[j]? = some (d, e') → (n + j) ∈ D ∨ ((e.upd = [] ∨ blindB (all.getD (n + j) default) = true ∨ (∀ k, lk k e.upd ≠ none → lk k (selMem (fun _ => true) 0 (done.take (n + j)) m) = none) ∨ ∃ c, ks.getD (n + j) none = some c ∧ lk c e.upd = none) ∧ (e'.upd = [] ∨ blindB o = true ∨ ∃ c, ko = some c ∧ lk c e'.upd = none))
 | [], _, _, j, d, e', hj => by simp at hj
 | p :: r, n, h, 0, d, e', hj => by
  simp only [List.getElem?_cons_zero, Option.some.injEq] at hj
  subst hj
  simp only [pairsB, Bool.and_eq_true, Bool.or_eq_true, List.isEmpty_iff] at h
  rcases h.1 with h | ⟨h, h2⟩
  ·exact .inl (memN_iff.1 h)
  ·refine .inr ⟨?_, h2.imp id fun h => h.imp id offB_spec⟩
   rcases h with h | (h | h) | h
   ·exact .inl h
   ·exact .inr (.inl h)
   ·exact .inr (.inr (.inl (awayB_spec h)))
   ·exact .inr (.inr (.inr (offB_spec h)))
 | p :: r, n, h, j + 1, d, e', hj => by
  simp only [pairsB, Bool.and_eq_true] at h
  have := pairsB_spec h.2 j d e' (by simpa using hj)
  rwa [show n + 1 + j = n + (j + 1) from by omega] at this

theorem presB_spec {m l : Mem} (h : presB m l = true) (k : Nat) (hk : lk k l ≠ none) : lk k m ≠ none := by
 obtain ⟨c, hc⟩ := Option.ne_none_iff_exists'.1 hk
 have := List.all_eq_true.1 h _ (lk_mem hc)
 intro e
 rw [e] at this
 cases this

theorem iheadK_spec {P : Program} {N : Nat} {all : List Oper} {st : St} : ∀ {os : List Oper} {rs : List HR} {done ers : List ER} {ks : List (Option Nat)} {cs : List Prop} {nx nx' : Nat}, ks.length = done.length → iheadK P N all st os rs done ks nx = some (ers, cs, nx') → AllP cs →
  (∃ l, ers = done ++ l ∧ l.length = os.length) ∧ ∃ K : Nat → Option Nat, (∀ j, j < done.length → K j = ks.getD j none) ∧ ∀ (i : Nat) (o : Oper), os[i]? = some o → HeadOK P N all st ers K (done.length + i) o ((rs.map HR.D).getD i [])
 | [], rs, done, ers, ks, cs, nx, nx', _, h, _ => by
  simp only [iheadK] at h
  injection h with h
  injection h with h1 h
  subst h1
  exact ⟨⟨[], by simp, rfl⟩, fun j => ks.getD j none, fun _ _ => rfl, fun i o ho => by simp at ho⟩
 | o :: os, [], done, ers, ks, cs, nx, nx', _, h, _ => by cases h
 | o :: os, r :: rs, done, ers, ks, cs, nx, nx', hkl, h, hc => by
  simp only [iheadK] at h
  split at h
  ·rename_i e cs0 hi
   cases hb : (((dOK N o.dst && pairsB all o r.D e st.mem done ks (keyB o r.r.h (selFr (fun j => memN j r.D) 0 done st.fr)) 0 done) && presB (selMem (fun j => memN j r.D) 0 done st.mem) e.upd) && freshB (selMem (fun _ => true) 0 done st.mem) e.new) with
   | false => rw [hb] at h; cases h
   | true =>
    rw [hb] at h
    simp only [cond_true] at h
    simp only [Bool.and_eq_true] at hb
    obtain ⟨⟨⟨hd, hp⟩, hu⟩, hf⟩ := hb
    split at h
    ·rename_i l cs' n hr
     injection h with h
     injection h with h1 h
     injection h with h2 h3
     subst h1
     subst h2
     obtain ⟨hc1, hc2⟩ := hc.append
     obtain ⟨⟨l', e1, e2⟩, K, hK, hrest⟩ := iheadK_spec (by simp [hkl]) hr hc2
     have hK0 : ∀ j, j < done.length → K j = ks.getD j none := fun j hj => by
      rw [hK j (by simp; omega), List.getD_eq_getElem?_getD, List.getElem?_append_left (by omega), ← List.getD_eq_getElem?_getD]
     have hK1 : K done.length = keyB o r.r.h (selFr (fun j => memN j r.D) 0 done st.fr) := by
      rw [hK done.length (by simp), List.getD_eq_getElem?_getD, List.getElem?_append_right (by omega), hkl, Nat.sub_self]
      rfl
     refine ⟨⟨(o.dst, e) :: l', by rw [e1]; simp, by simp [e2]⟩, K, hK0, fun i o' ho' => ?_⟩
     cases i with
     | zero =>
      simp at ho'
      subst ho'
      have ht : l.take done.length = done := by rw [e1]; simp
      refine ⟨⟨r.r, nx, e, cs0, ?_, ?_, hc1, hd, ?_, ?_, ?_, ?_⟩⟩
      ·rw [e1]; simp
      ·simp only [Nat.add_zero, ht, List.map_cons]; exact hi
      ·simp only [Nat.add_zero, ht, List.map_cons]; exact presB_spec hu
      ·simp only [Nat.add_zero, ht]; exact freshB_spec hf
      ·simp only [Nat.add_zero, ht, List.map_cons]; exact hK1
      ·intro j d e' hj hje
       have hj' : j < done.length := by simpa using hj
       have hje' : done[j]? = some (d, e') := by
        rw [e1, List.append_assoc, List.getElem?_append_left hj'] at hje; exact hje
       have := pairsB_spec hp j d e' hje'
       rw [Nat.zero_add] at this
       have e5 : l.take j = done.take j := by rw [e1, List.append_assoc, List.take_append_of_le_length (by omega)]
       rw [e5, hK0 j hj', Nat.add_zero, hK1]
       exact this
     | succ i =>
      have := hrest i o' (by simpa using ho')
      have hlen : (done ++ [(o.dst, e)]).length + i = done.length + (i + 1) := by simp; omega
      rw [hlen] at this
      simpa using this
    ·cases h
  ·cases h

theorem ihead_spec {P : Program} {N : Nat} {all : List Oper} {st : St} {os : List Oper} {rs : List HR} {ers : List ER} {cs : List Prop} {nx nx' : Nat} (h : ihead P N all st os rs [] nx = some (ers, cs, nx')) (hc : AllP cs) :
  (∃ l, ers = [] ++ l ∧ l.length = os.length) ∧ ∃ K : Nat → Option Nat, ∀ (i : Nat) (o : Oper), os[i]? = some o → HeadOK P N all st ers K (([] : List ER).length + i) o ((rs.map HR.D).getD i []) := by
 obtain ⟨h1, K, _, h2⟩ := iheadK_spec (done := []) (ks := []) rfl h hc
 exact ⟨h1, K, h2⟩

theorem lastW_take {sel : Nat → Bool} {t : Tmp} : ∀ {l : List ER} {n i : Nat}, (∀ j, i ≤ j → sel (n + j) = false) → lastW sel t n (l.take i) = lastW sel t n l
 | [], _, _, _ => by simp
 | (d, e) :: r, n, 0, h => by
  have : lastW sel t n ((d, e) :: r) = lastW (fun _ => false) t n ((d, e) :: r) := lastW_congr fun j _ _ _ _ => h j (Nat.zero_le _)
  rw [this]
  have hf : ∀ (l : List ER) (n : Nat), lastW (fun _ => false) t n l = none := by
   intro l
   induction l with
   | nil => intro _; rfl
   | cons p l ih => intro n; obtain ⟨d, e⟩ := p; simp [lastW, ih]
  rw [hf]
  rfl
 | (d, e) :: r, n, i + 1, h => by
  simp only [List.take_succ_cons, lastW]
  rw [lastW_take (fun j hj => by have := h (j + 1) (by omega); rwa [show n + (j + 1) = n + 1 + j from by omega] at this)]

theorem getElem_take_er {l : List ER} {i j : Nat} {p : ER} (h : (l.take i)[j]? = some p) : j < i ∧ l[j]? = some p := by
 rw [List.getElem?_take] at h
 split at h
 ·rename_i hlt; exact ⟨hlt, h⟩
 ·cases h

theorem ev_congr {fr fr' : Fr} {x : Operand} (h : ∀ t, x = .tmp t → lk t fr' = lk t fr) : ev fr' x = ev fr x := by
 cases x with
 | tmp t => exact h t rfl
 | _ => rfl

theorem evl_congr {fr fr' : Fr} : ∀ {xs : List Operand}, (∀ x ∈ xs, ev fr' x = ev fr x) → evl fr' xs = evl fr xs
 | [], _ => rfl
 | x :: xs, h => by simp only [evl]; rw [h x (by simp), evl_congr fun y hy => h y (by simp [hy])]

theorem evs_congr {fr fr' : Fr} : ∀ {xs : List (Nat × Operand)}, (∀ x ∈ xs.map (·.2), ev fr' x = ev fr x) → evs fr' xs = evs fr xs
 | [], _ => rfl
 | (i, x) :: xs, h => by simp only [evs]; rw [h x (by simp), evs_congr fun y hy => h y (by simp only [List.map_cons, List.mem_cons]; exact .inr hy)]

theorem evo_congr {fr fr' : Fr} {x : Option Operand} (h : ∀ y, x = some y → ev fr' y = ev fr y) : evo fr' x = evo fr x := by
 cases x with
 | none => rfl
 | some y => simp only [evo]; rw [h y rfl]

theorem iop_congr {P : Program} {fr fr' : Fr} {m : Mem} {nx : Nat} {h : Hint} {o : Oper} (hk : ∀ x ∈ o.op.operands.toList, ev fr' x = ev fr x) : iop P fr' m nx h o = iop P fr m nx h o := by
 unfold iop
 cases ho : o.op <;> rw [ho] at hk <;> simp only [Op.operands] at hk <;> try simp only
 case move x => rw [hk x (by simp)]
 case assign x => rw [hk x (by simp)]
 case pick c x y =>
  cases h with
  | tv b => simp only; rw [hk c (by simp), hk (if b then x else y) (by cases b <;> simp)]
  | _ => rfl
 case box T x => rw [hk x (by simp)]
 case build T ps => rw [evs_congr fun x hx => hk x (by simpa using hx)]
 case buildSlice T n ps => rw [evs_congr fun x hx => hk x (by simpa using hx)]
 case load T x => rw [hk x (by simp)]
 case store T x y => rw [hk x (by simp), hk y (by simp)]
 case nilCheck x => rw [hk x (by simp)]
 case binOp op T x y T' => rw [hk x (by simp), hk y (by simp)]
 case unOp op T x => rw [hk x (by simp)]
 case convert T U x => rw [hk x (by simp)]
 case makeSlice T l c => rw [hk l (by simp), hk c (by simp)]
 case slice T x lo hi mx =>
  cases mx with
  | some q =>
   try simp only
   rw [hk x (by simp), hk q (by simp), evo_congr fun y hy => hk y (by subst hy; simp), evo_congr (x := hi) fun y hy => hk y (by subst hy; simp)]
  | none =>
   try simp only
   rw [hk x (by simp), evo_congr fun y hy => hk y (by subst hy; simp), evo_congr (x := hi) fun y hy => hk y (by subst hy; simp)]
 case fieldAddr T x f => rw [hk x (by simp)]
 case indexAddr T x i => rw [hk x (by simp), hk i (by simp)]
 case index T x i => rw [hk x (by simp), hk i (by simp)]
 case extract x i => rw [hk x (by simp)]
 case makeFunc fn first captured =>
  have hk2 : ∀ x ∈ captured.toList, ev fr' x = ev fr x := fun x hx => hk x (by simp only [Array.toList_append, List.mem_append]; exact .inr hx)
  cases fn with
  | func f =>
   try simp only
   rw [evl_congr hk2]
  | _ => rfl
 case call c =>
  cases hc : c.callee with
  | builtin b =>
   simp only
   have ha : ∀ x ∈ c.args.toList, ev fr' x = ev fr x := fun x hx => hk x (by simp [Call.operands, hc]; simpa using hx)
   unfold iBuiltin
   split
   ·rename_i x T hal _; rw [ha x (by rw [hal]; simp)]
   ·rename_i s x T T' hal _; rw [ha s (by rw [hal]; simp), ha x (by rw [hal]; simp)]
   ·rename_i _ x y hal; rw [ha x (by rw [hal]; simp), ha y (by rw [hal]; simp)]
   ·rename_i _ x y hal; rw [ha x (by rw [hal]; simp), ha y (by rw [hal]; simp)]
   ·rename_i x y T T' hal _; rw [ha x (by rw [hal]; simp), ha y (by rw [hal]; simp)]
   ·rename_i x T hal _; rw [ha x (by rw [hal]; simp)]
   ·rfl
  | value f =>
   simp only
   rw [hk f (by simp [Call.operands, hc]), evl_congr fun x hx => hk x (by simp [Call.operands, hc]; exact .inr (by simpa using hx))]
  | invoke r n => rfl

theorem key_iop {P : Program} {fr : Fr} {m m' : Mem} {nx c : Nat} {h : Hint} {o : Oper} {e : Eff} (hk : keyB o h fr = some c) (hm : ∀ ch, lk c m = some ch → lk c m' = some ch) (he : iop P fr m nx h o = some e) : iop P fr m' nx h o = some e ∧ e.new = [] ∧ e.upd = [] := by
 have pur : ∀ {v : IVal} {e : Eff}, pureE v = some e → e.new = [] ∧ e.upd = [] := by
  intro v e h; injection h with h; subst h; exact ⟨rfl, rfl⟩
 have puc : ∀ {v : IVal} {c : List Prop} {e : Eff}, pureC v c = some e → e.new = [] ∧ e.upd = [] := by
  intro v c e h; injection h with h; subst h; exact ⟨rfl, rfl⟩
 unfold keyB at hk
 unfold iop at he ⊢
 cases ho : o.op <;> rw [ho] at hk he <;> (try simp only at he ⊢) <;> try (simp only at hk; cases hk; done)
 case load T x =>
  cases h <;> simp only at hk <;> try (cases hk; done)
  split at hk
  ·rename_i c' off hv
   injection hk with hk
   subst hk
   rw [hv] at he ⊢
   simp only [iLoadH, Hint.isOpn, cond_false] at he ⊢
   unfold iLoad at he ⊢
   split at he
   ·rename_i heq _ _; cases heq
   ·rename_i heq _ _; cases heq
   ·rename_i c0 n ag hne1 hne2 heq hs ha
    injection heq with heq
    subst heq
    (try simp only [hs, ha])
    simp only [cellsAt] at he ⊢
    cases hx : lk c' m with
    | none => rw [hx] at he; simp at he
    | some ch =>
     rw [hx] at he
     rw [hm ch hx]
     refine ⟨he, ?_⟩
     split at he
     ·split at he
      ·exact pur he
      ·cases he
     ·cases he
   ·cases he
  ·rename_i c' i sz off hv
   injection hk with hk
   subst hk
   rw [hv] at he ⊢
   simp only [iLoadH, Hint.isOpn, cond_false] at he ⊢
   unfold iLoad at he ⊢
   split at he
   ·rename_i c0 i0 sz0 off0 n ag heq hs ha
    injection heq with heq
    injection heq with q1 q2 q3 q4
    subst q1; subst q2; subst q3; subst q4
    (try simp only [hs, ha])
    cases hx : lk c' m with
    | none => rw [hx] at he; simp at he
    | some ch =>
     rw [hx] at he
     rw [hm ch hx]
     refine ⟨he, ?_⟩
     cases ch with
     | seq t xs =>
      simp only at he
      revert he
      generalize (_ && _ : Bool) = q
      intro he
      cases q
      ·cases he
      ·simp only [cond_true] at he
       split at he
       ·exact puc he
       ·cases he
     | opn t xs j cs ks =>
      simp only at he
      revert he
      generalize (_ && _ : Bool) = q
      intro he
      cases q
      ·cases he
      ·simp only [cond_true] at he
       split at he
       ·exact puc he
       ·cases he
     | box cs => cases he
     | gone => cases he
   ·rename_i heq _ _; cases heq
   ·rename_i c0 n ag hne1 hne2 heq hs ha
    injection heq with heq
    exact absurd heq.symm (hne1 _ _ _ _)
   ·cases he
  ·cases hk
 case indexAddr T x i =>
  cases h <;> simp only at hk <;> try (cases hk; done)
  split at hk
  ·rename_i c' hv
   injection hk with hk
   subst hk
   rw [hv] at he ⊢
   cases hi : ev fr i with
   | none => rw [hi] at he; cases he
   | some j =>
    rw [hi] at he
    simp only at he ⊢
    unfold iIndexAddr at he ⊢
    split at he
    ·rename_i el k n hu
     (try simp only [hu])
     split at he
     ·rename_i heq _; cases heq
     ·rename_i c0 kz heq hs
      injection heq with heq
      injection heq with heq
      subst heq
      (try simp only [hs])
      cases hx : lk c' m with
      | none => rw [hx] at he; simp at he
      | some ch =>
       rw [hx] at he
       rw [hm ch hx]
       refine ⟨he, ?_⟩
       cases ch with
       | seq t xs =>
        simp only at he
        revert he
        generalize (Nat.beq _ _ : Bool) = q
        intro he
        cases q
        ·cases he
        ·exact puc he
       | opn t xs j cs ks =>
        simp only at he
        revert he
        generalize (Nat.beq _ _ : Bool) = q
        intro he
        cases q
        ·cases he
        ·exact puc he
       | box cs => cases he
       | gone => cases he
     ·rename_i heq _; cases heq
     ·rename_i heq _; cases heq
     ·cases he
    ·cases he
  ·cases hk

theorem igop_congr {P : Program} {all : List Oper} {fr fr' : Fr} {m m' : Mem} {nx : Nat} {o : Oper} {r : OH} {x : Eff × List Prop} (hf : ∀ t ∈ looksO all o, lk t fr' = lk t fr) (hm : MM m m') (h : igop P all o r fr m nx = some x) : igop P all o r fr' m' nx = some x := by
 have hk : ∀ x ∈ o.op.operands.toList, ev fr' x = ev fr x := fun x hx => ev_congr fun t ht => hf t (by
  unfold looksO
  refine List.mem_append.2 (.inl (List.mem_filterMap.2 ⟨x, hx, ?_⟩))
  rw [ht])
 have hi : ∀ e, iop P fr m nx r.h o = some e → iop P fr' m' nx r.h o = some e := fun e he => by
  rw [iop_congr hk]; exact iop_mono hm he
 unfold igop at h ⊢
 cases hg : o.guard with
 | none =>
  rw [hg] at h
  simp only at h ⊢
  cases hx : iop P fr m nx r.h o with
  | none => simp [hx] at h
  | some e => rw [hx] at h; rw [hi e hx]; exact h
 | some p =>
  obtain ⟨j, want⟩ := p
  rw [hg] at h
  simp only at h ⊢
  have hgs : (gslot all j).bind (fun t => lk t fr') = (gslot all j).bind (fun t => lk t fr) := by
   cases hs : gslot all j with
   | none => rfl
   | some t =>
    simp only [Option.bind_some]
    exact hf t (by unfold looksO; simp [hg, hs])
  rw [hgs]
  split at h
  ·rename_i tv b htv hb
   cases hcond : (tv == want) with
   | false => rw [hcond] at h; exact h
   | true =>
    rw [hcond] at h
    simp only [cond_true] at h ⊢
    cases hx : iop P fr m nx r.h o with
    | none => simp [hx] at h
    | some e => rw [hx] at h; rw [hi e hx]; exact h
  ·exact h
  ·cases h

theorem key_igop {P : Program} {all : List Oper} {fr fr' : Fr} {m m' : Mem} {nx c : Nat} {o : Oper} {r : OH} {e : Eff} {cs : List Prop} (hk : keyB o r.h fr = some c) (hf : ∀ t ∈ looksO all o, lk t fr' = lk t fr) (hm : ∀ ch, lk c m = some ch → lk c m' = some ch) (h : igop P all o r fr m nx = some (e, cs)) :
  igop P all o r fr' m' nx = some (e, cs) ∧ e.new = [] ∧ e.upd = [] := by
 have h1 : igop P all o r fr m' nx = some (e, cs) ∧ e.new = [] ∧ e.upd = [] := by
  unfold igop at h ⊢
  cases hg : o.guard with
  | none =>
   rw [hg] at h
   simp only at h ⊢
   cases hx : iop P fr m nx r.h o with
   | none => simp [hx] at h
   | some e' =>
    rw [hx] at h
    obtain ⟨k1, k2, k3⟩ := key_iop hk hm hx
    rw [k1]
    injection h with h
    injection h with h1 h2
    subst h1
    exact ⟨by simp only [h2], k2, k3⟩
  | some p =>
   obtain ⟨j, want⟩ := p
   rw [hg] at h
   simp only at h ⊢
   split at h
   ·rename_i tv b htv hb
    cases hcond : (tv == want) with
    | false =>
     rw [hcond] at h
     simp only [cond_false] at h ⊢
     injection h with h
     injection h with h1 h2
     subst h1
     exact ⟨by rw [h2], rfl, rfl⟩
    | true =>
     rw [hcond] at h
     simp only [cond_true] at h ⊢
     cases hx : iop P fr m nx r.h o with
     | none => simp [hx] at h
     | some e' =>
      rw [hx] at h
      obtain ⟨k1, k2, k3⟩ := key_iop hk hm hx
      rw [k1]
      injection h with h
      injection h with h1 h2
      subst h1
      exact ⟨by simp only [h2], k2, k3⟩
   ·injection h with h
    injection h with h1 h2
    subst h1
    exact ⟨by rw [h2], rfl, rfl⟩
   ·cases h
 exact ⟨igop_congr hf (fun _ _ h => h) h1.1, h1.2⟩

end Go.Ide


/-
 Regions whose order is drawn, run.
-/
namespace Go.Ide

section
variable {cx : Cx} {g : GM} {st : St} {a : Act} {w : World}

theorem Sim.congr {fr' : Fr} {m' : Mem} {nx' : Nat} (h : Sim cx g st a w) (hf : ∀ t v, lk t fr' = some v → lk t st.fr = some v) (hm : ∀ k, lk k m' = lk k st.mem) : Sim cx g ⟨fr', m', nx'⟩ a w := by
 have h1 : Sim cx g (st.setMem m' nx') a w := h.turn (G := []) ⟨KeepF.refl _ _, fun b hb => (by simp at hb), fun _ _ => rfl, fun k ch hk => .inl ⟨(hm k).trans hk, fun _ b _ _ hb => by simp at hb⟩, fun k ch hk hk' => by
  rw [hm, hk] at hk'; cases hk'⟩
 exact ⟨h1.defers, h1.size, fun t v hl => h1.fr t v (hf t v hl), h1.mem, h1.injp, h1.basep, h1.lt, h1.keep, h1.own, h1.gl⟩

theorem Sim.drew (h : Sim cx g st a w) : Sim cx g st a w.drew := by
 have h1 : Sim cx g (st.setMem st.mem st.nx) a w.drew := h.turn (G := []) ⟨KeepF.drew _ _, fun b hb => (by simp at hb), fun _ _ => rfl, fun k ch hk => .inl ⟨hk, fun _ b _ _ hb => by simp at hb⟩, fun k ch hk hk' => by
  rw [hk] at hk'; cases hk'⟩
 exact h1

theorem lk_ne_none {α : Type} : ∀ {l : List (Nat × α)} {p : Nat × α}, p ∈ l → lk p.1 l ≠ none
 | q :: l, p, h => by
  obtain ⟨k, x⟩ := q
  rw [lk_cons]
  split
  ·simp
  ·rename_i hne
   rcases List.mem_cons.1 h with e | h
   ·subst e; exact absurd rfl hne
   ·exact lk_ne_none h

theorem lastN_congr {sel sel' : Nat → Bool} {k : Nat} : ∀ {l : List ER} {n : Nat}, (∀ (j : Nat) (d : Option Tmp) (e : Eff), l[j]? = some (d, e) → lk k (effM e) ≠ none → sel (n + j) = sel' (n + j)) → lastN sel k n l = lastN sel' k n l
 | [], _, _ => rfl
 | (d, e) :: r, n, h => by
  simp only [lastN]
  have ih : lastN sel k (n + 1) r = lastN sel' k (n + 1) r := lastN_congr fun j d e hj hd => by
   have := h (j + 1) d e (by simpa using hj) hd
   have e1 : n + (j + 1) = n + 1 + j := by omega
   rw [e1] at this
   exact this
  have hh : (if sel n = true then lk k (effM e) else none) = if sel' n = true then lk k (effM e) else none := by
   cases hk : lk k (effM e) with
   | none => simp
   | some c =>
    have h0 : sel n = sel' n := by simpa using h 0 d e rfl (by rw [hk]; simp)
    rw [h0]
  rw [ih, hh]

structure Heads (P : Program) (N : Nat) (all : List Oper) (st : St) (h : Nat) (Ds : List (List Nat)) (ers : List ER) (K : Nat → Option Nat) : Prop where
 len : ers.length = h
 ok : ∀ i, i < h → ∃ o, all[i]? = some o ∧ HeadOK P N all st ers K i o (Ds.getD i [])
 deps : ∀ i o, all[i]? = some o → (∀ d ∈ directs o, d < i) ∧ (∀ j ∈ Ds.getD i [], j ∈ directs o ∨ ∃ d ∈ directs o, j ∈ Ds.getD d []) ∧ (∀ j, j < i → j ∈ Ds.getD i [] ∨ (i < h ∧ conflictB all (all.getD j default) o = false))

variable {P : Program} {N : Nat} {all : List Oper} {h : Nat} {Ds : List (List Nat)} {ers : List ER} {K : Nat → Option Nat}

theorem Heads.lt (H : Heads P N all st h Ds ers K) : ∀ (i j : Nat) (o : Oper), all[i]? = some o → j ∈ Ds.getD i [] → j < i := by
 intro i
 induction i using Nat.strongRecOn with
 | _ i ih =>
  intro j o ho hj
  obtain ⟨h1, h2, _⟩ := H.deps i o ho
  rcases h2 j hj with hd | ⟨d, hd, hj⟩
  ·exact h1 j hd
  ·have hdi := h1 d hd
   have hlt : i < all.length := (List.getElem?_eq_some_iff.1 ho).1
   exact Nat.lt_trans (ih d hdi j all[d] (List.getElem?_eq_getElem (Nat.lt_trans hdi hlt)) hj) hdi

theorem Heads.er (H : Heads P N all st h Ds ers K) {i : Nat} {d : Option Tmp} {e : Eff} (he : ers[i]? = some (d, e)) : i < h ∧ ∃ o, all[i]? = some o ∧ d = o.dst ∧ all.getD i default = o := by
 have hlt : i < h := by rw [← H.len]; exact (List.getElem?_eq_some_iff.1 he).1
 obtain ⟨o, ho, ⟨⟨r, nx, e', cs, h1, _⟩⟩⟩ := H.ok i hlt
 rw [he] at h1
 injection h1 with h1
 injection h1 with h1 h2
 refine ⟨hlt, o, ho, h1, ?_⟩
 rw [List.getD_eq_getElem?_getD, ho]
 rfl

theorem effM_new {k : Nat} {e : Eff} (h : lk k (effM e) = none) : lk k e.new = none := by
 unfold effM at h
 rw [lk_append, Option.or_eq_none_iff] at h
 exact h.2

theorem Heads.uniq (H : Heads P N all st h Ds ers K) {i j : Nat} {d d' : Option Tmp} {e e' : Eff} {k : Nat} (hi : ers[i]? = some (d, e)) (hj : ers[j]? = some (d', e')) (hk : lk k e.new ≠ none) (hk' : lk k e'.new ≠ none) : i = j := by
 have aux : ∀ {i j : Nat} {d d' : Option Tmp} {e e' : Eff}, ers[i]? = some (d, e) → ers[j]? = some (d', e') → lk k e.new ≠ none → lk k e'.new ≠ none → ¬ i < j := by
  intro i j d d' e e' hi hj hk hk' hlt
  obtain ⟨_, o, ho, _⟩ := H.er hj
  obtain ⟨o', _, ⟨⟨r, nx, e1, cs, h1, _, _, _, _, hf, _⟩⟩⟩ := H.ok j (H.er hj).1
  rw [hj] at h1
  injection h1 with h1
  injection h1 with _ h1
  subst h1
  obtain ⟨c, hc⟩ := Option.ne_none_iff_exists'.1 hk'
  have hz := hf _ (lk_mem hc)
  rw [lk_selMem, Option.or_eq_none_iff] at hz
  exact hk (effM_new (lastN_none hz.1 i d e (by rw [List.getElem?_take, if_pos hlt]; exact hi) rfl))
 rcases Nat.lt_trichotomy i j with h | h | h
 ·exact absurd h (aux hi hj hk hk')
 ·exact h
 ·exact absurd h (aux hj hi hk' hk)

theorem Heads.notold (H : Heads P N all st h Ds ers K) {i : Nat} {d : Option Tmp} {e : Eff} {k : Nat} (hi : ers[i]? = some (d, e)) (hk : lk k e.new ≠ none) : lk k st.mem = none := by
 obtain ⟨o', _, ⟨⟨r, nx, e1, cs, h1, _, _, _, _, hf, _⟩⟩⟩ := H.ok i (H.er hi).1
 rw [hi] at h1
 injection h1 with h1
 injection h1 with _ h1
 subst h1
 obtain ⟨c, hc⟩ := Option.ne_none_iff_exists'.1 hk
 have hz := hf _ (lk_mem hc)
 rw [lk_selMem, Option.or_eq_none_iff] at hz
 exact hz.2

theorem blind_iop {m : Mem} {nx : Nat} {hh : Hint} {fr : Fr} {o : Oper} {e : Eff} (hb : blindB o = true) (he : iop P fr m nx hh o = some e) : e.new = [] ∧ e.upd = [] := by
 unfold iop at he
 unfold blindB at hb
 have pur : ∀ {v : IVal} {e : Eff}, pureE v = some e → e.new = [] ∧ e.upd = [] := by
  intro v e h; injection h with h; subst h; exact ⟨rfl, rfl⟩
 have puc : ∀ {v : IVal} {c : List Prop} {e : Eff}, pureC v c = some e → e.new = [] ∧ e.upd = [] := by
  intro v c e h; injection h with h; subst h; exact ⟨rfl, rfl⟩
 cases ho : o.op <;> rw [ho] at hb he <;> try (cases hb; done)
 all_goals simp only at he
 case move => split at he; exact pur he; cases he
 case assign => split at he; exact pur he; cases he
 case pick =>
  split at he
  ·split at he
   ·unfold iPick at he; split at he; exact puc he; cases he
   ·cases he
  ·cases he
 case binOp =>
  split at he
  ·unfold iBinF at he
   split at he
   ·split at he
    ·split at he
     ·exact pur he
     ·unfold iFCmp at he; split at he <;> first | exact pur he | cases he
    ·cases he
   ·unfold iStructEq at he
    split at he
    ·rename_i T _ _ _ _ _ _ _ _ _
     revert he
     generalize (_ || _ : Bool) = q
     intro he
     cases q
     ·simp only [cond_false] at he
      split at he <;> first | exact pur he | cases he
     ·cases he
    ·cases he
   ·unfold iBin at he
    split at he
    ·split at he
     ·unfold iShift at he; split at he <;> first | exact puc he | cases he
     ·split at he
      ·unfold iInt at he
       split at he <;> first | exact pur he | exact puc he | (split at he <;> first | exact pur he | cases he)
      ·cases he
    ·unfold iStr at he; split at he <;> first | exact pur he | exact puc he | cases he
    ·split at he <;> first | exact pur he | cases he
    ·cases he
  ·cases he
 case unOp =>
  split at he
  ·unfold iUnF at he
   split at he
   ·exact pur he
   ·unfold iUn at he; split at he <;> first | exact pur he | cases he
  ·cases he
 case fieldAddr =>
  split at he
  ·unfold iFieldAddr at he
   split at he
   ·split at he
    ·split at he <;> first | exact pur he | cases he
    ·cases he
   ·cases he
  ·cases he
 case index =>
  split at he
  ·unfold iIndex at he; split at he <;> first | exact puc he | cases he
  ·cases he
 case extract =>
  split at he
  ·unfold iExtract at he
   split at he
   ·split at he
    ·split at he <;> first | exact pur he | cases he
    ·cases he
   ·cases he
  ·cases he
 case nilCheck =>
  split at he
  ·unfold iNil at he; split at he <;> first | exact pur he | cases he
  ·cases he

theorem blind_igop {m : Mem} {nx : Nat} {r : OH} {fr : Fr} {o : Oper} {e : Eff} {cs : List Prop} (hb : blindB o = true) (he : igop P all o r fr m nx = some (e, cs)) : e.new = [] ∧ e.upd = [] := by
 unfold igop at he
 split at he
 ·split at he
  ·rename_i e' hi
   injection he with he; injection he with e1 _; subst e1
   exact blind_iop hb hi
  ·cases he
 ·split at he
  ·rename_i tv b _ _
   cases hc : (tv == _) with
   | true =>
    rw [hc] at he
    simp only [cond_true] at he
    split at he
    ·rename_i e' hi
     injection he with he; injection he with e1 _; subst e1
     exact blind_iop hb hi
    ·cases he
   | false =>
    rw [hc] at he
    injection he with he; injection he with e1 _; subst e1
    exact ⟨rfl, rfl⟩
  ·injection he with he; injection he with e1 _; subst e1
   exact ⟨rfl, rfl⟩
  ·cases he

theorem iop_blind {m m' : Mem} {nx : Nat} {hh : Hint} {fr : Fr} {o : Oper} (hb : blindB o = true) : iop P fr m nx hh o = iop P fr m' nx hh o := by
 unfold iop
 unfold blindB at hb
 cases ho : o.op <;> rw [ho] at hb <;> first | rfl | (cases hb; done)

theorem igop_blind {fr fr' : Fr} {m m' : Mem} {nx : Nat} {o : Oper} {r : OH} {x : Eff × List Prop} (hb : blindB o = true) (hf : ∀ t ∈ looksO all o, lk t fr' = lk t fr) (h : igop P all o r fr m nx = some x) : igop P all o r fr' m' nx = some x := by
 have e : igop P all o r fr m nx = igop P all o r fr m' nx := by
  unfold igop
  rw [iop_blind (P := P) (m := m) (m' := m') hb]
 rw [e] at h
 exact igop_congr hf (fun _ _ hk => hk) h

theorem Heads.blind (H : Heads P N all st h Ds ers K) {i : Nat} {d : Option Tmp} {e : Eff} (hi : ers[i]? = some (d, e)) (hb : blindB (all.getD i default) = true) : effM e = [] := by
 obtain ⟨hlt, o, ho, _, hg⟩ := H.er hi
 obtain ⟨o', ho', ⟨⟨r, nx, e1, cs, h1, h2, _⟩⟩⟩ := H.ok i hlt
 rw [hi] at h1
 injection h1 with h1
 injection h1 with _ h1
 subst h1
 rw [ho] at ho'
 injection ho' with ho'
 subst ho'
 rw [hg] at hb
 obtain ⟨h3, h4⟩ := blind_igop hb h2
 unfold effM
 rw [h3, h4]
 rfl

theorem effM_cases {k : Nat} {e : Eff} (hk : lk k (effM e) ≠ none) : lk k e.upd ≠ none ∨ lk k e.new ≠ none := by
 unfold effM at hk
 rw [lk_append] at hk
 by_cases h1 : lk k e.upd = none
 ·right; intro h2; rw [h1, h2] at hk; exact hk rfl
 ·exact .inl h1

theorem Heads.maker (H : Heads P N all st h Ds ers K) {k : Nat} : ∀ (j : Nat) (d : Option Tmp) (e : Eff), ers[j]? = some (d, e) → lk k (effM e) ≠ none → lk k st.mem ≠ none ∨ ∃ j2 d2 e2, j2 ≤ j ∧ ers[j2]? = some (d2, e2) ∧ lk k e2.new ≠ none := by
 intro j
 induction j using Nat.strongRecOn with
 | _ j ih =>
  intro d e hj hk
  rcases effM_cases hk with hu | hn
  ·obtain ⟨o', _, ⟨⟨r, nx, e1, cs, h1, _, _, _, hp, _⟩⟩⟩ := H.ok j (H.er hj).1
   rw [hj] at h1
   injection h1 with h1
   injection h1 with _ h1
   subst h1
   have := hp k hu
   rw [lk_selMem] at this
   cases hx : lastN (fun q => memN q (Ds.getD j [])) k 0 (ers.take j) with
   | none => rw [hx, Option.none_or] at this; exact .inl this
   | some c =>
    obtain ⟨q, d2, e2, g1, _, g3⟩ := lastN_some hx
    obtain ⟨hq, g1⟩ := getElem_take_er g1
    rcases ih q hq d2 e2 g1 (by rw [g3]; simp) with h0 | ⟨j2, d3, e3, h1, h2, h3⟩
    ·exact .inl h0
    ·exact .inr ⟨j2, d3, e3, by omega, h2, h3⟩
  ·exact .inr ⟨j, d, e, Nat.le_refl _, hj, hn⟩

theorem Heads.pair (H : Heads P N all st h Ds ers K) {i j : Nat} {d d' : Option Tmp} {e e' : Eff} (hi : ers[i]? = some (d, e)) (hj : ers[j]? = some (d', e')) (hlt : j < i) (hn : j ∉ Ds.getD i []) : e'.upd = [] ∨ effM e = [] := by
 obtain ⟨o', ho', ⟨⟨r, nx, e1, cs, h1, hgo, _, _, _, _, hK, hp⟩⟩⟩ := H.ok i (H.er hi).1
 rw [hi] at h1
 injection h1 with h1
 injection h1 with _ h1
 subst h1
 have hg : all.getD i default = o' := by rw [List.getD_eq_getElem?_getD, ho']; rfl
 rcases hp j d' e' hlt hj with h | ⟨h1, h2⟩
 ·exact absurd h hn
 ·rcases h2 with h2 | h2 | ⟨c, h2, _⟩
  ·exact .inl h2
  ·exact .inr (H.blind hi (by rw [hg]; exact h2))
  ·obtain ⟨_, k1, k2⟩ := key_igop (hK.symm.trans h2) (fun _ _ => rfl) (fun _ h => h) hgo
   right
   unfold effM
   rw [k1, k2]; rfl

theorem effM_nil {k : Nat} {e : Eff} (h : effM e = []) : lk k (effM e) = none := by rw [h]; rfl

theorem lastN_at {sel : Nat → Bool} {k : Nat} {ch : Chunk} {v : Eff} : ∀ {l : List ER} {n i : Nat} {d : Option Tmp}, l[i]? = some (d, v) → sel (n + i) = true → lk k (effM v) = some ch → (∀ (j : Nat) (d : Option Tmp) (e : Eff), i < j → l[j]? = some (d, e) → lk k (effM e) ≠ none → sel (n + j) = false) → lastN sel k n l = some ch
 | [], n, i, _, h, _, _, _ => by simp at h
 | (d, e) :: r, n, 0, d', h, hs, hk, hn => by
  simp at h
  obtain ⟨rfl, rfl⟩ := h
  have hz : lastN sel k (n + 1) r = none := by
   cases hx : lastN sel k (n + 1) r with
   | none => rfl
   | some c =>
    obtain ⟨j, d2, e2, g1, g2, g3⟩ := lastN_some hx
    have := hn (j + 1) d2 e2 (by omega) (by simpa using g1) (by rw [g3]; simp)
    rw [show n + (j + 1) = n + 1 + j from by omega, g2] at this
    cases this
  simp only [lastN]
  have hs : sel n = true := by simpa using hs
  rw [hz, if_pos hs, hk]
  rfl
 | (d, e) :: r, n, i + 1, d', h, hs, hk, hn => by
  simp only [lastN]
  have := lastN_at (l := r) (n := n + 1) (i := i) (d := d') (by simpa using h) (by rwa [show n + (i + 1) = n + 1 + i from by omega] at hs) hk (fun j d e hlt hj hd => by
   have := hn (j + 1) d e (by omega) (by simpa using hj) hd
   rwa [show n + (j + 1) = n + 1 + j from by omega] at this)
  rw [this]
  rfl

theorem lastN_last {sel : Nat → Bool} {k : Nat} {ch : Chunk} : ∀ {l : List ER} {n : Nat}, lastN sel k n l = some ch → ∃ (j : Nat) (d : Option Tmp) (e : Eff), l[j]? = some (d, e) ∧ sel (n + j) = true ∧ lk k (effM e) = some ch ∧ ∀ (q : Nat) (d : Option Tmp) (e : Eff), j < q → l[q]? = some (d, e) → lk k (effM e) ≠ none → sel (n + q) = false
 | [], _, h => by simp [lastN] at h
 | (d, e) :: r, n, h => by
  simp only [lastN] at h
  cases hx : lastN sel k (n + 1) r with
  | some c =>
   rw [hx] at h
   have h : c = ch := by simpa using h
   subst h
   obtain ⟨j, d', e', h1, h2, h3, h4⟩ := lastN_last hx
   refine ⟨j + 1, d', e', by simpa using h1, by rwa [show n + (j + 1) = n + 1 + j from by omega], h3, fun q d2 e2 hq hq2 hk => ?_⟩
   cases q with
   | zero => omega
   | succ q =>
    have := h4 q d2 e2 (by omega) (by simpa using hq2) hk
    rwa [show n + (q + 1) = n + 1 + q from by omega]
  | none =>
   rw [hx] at h
   simp only [Option.none_or] at h
   split at h
   ·rename_i hs
    refine ⟨0, d, e, rfl, by simpa using hs, h, fun q d2 e2 hq hq2 hk => ?_⟩
    cases q with
    | zero => omega
    | succ q =>
     cases hsq : sel (n + (q + 1)) with
     | false => rfl
     | true => exact absurd (lastN_none hx q d2 e2 (by simpa using hq2) (by rwa [show n + 1 + q = n + (q + 1) from by omega])) hk
   ·cases h

def headSt (st : St) (ers : List ER) (sel : Nat → Bool) (nx : Nat) : St := ⟨selFr sel 0 ers st.fr, selMem sel 0 ers st.mem, nx⟩

theorem Heads.step (H : Heads P N all st h Ds ers K) {sel : Nat → Bool} {i : Nat} {o : Oper} (hi : i < h) (ho : all[i]? = some o) (hn : sel i = false) (hd : ∀ j ∈ Ds.getD i [], sel j = true) (hc : ∀ j, j < h → sel j = true → ∀ k ∈ Ds.getD j [], sel k = true) :
  ∃ (r : OH) (nx : Nat) (e : Eff) (cs : List Prop), igop P all o r (selFr sel 0 ers st.fr) (selMem sel 0 ers st.mem) nx = some (e, cs) ∧ AllP cs ∧ dOK N o.dst = true ∧ Fresh (selMem sel 0 ers st.mem) e.new ∧
   (∀ t, lk t (selFr (fun j => sel j || Nat.beq j i) 0 ers st.fr) = lk t (match o.dst with | some t' => (t', e.val) :: selFr sel 0 ers st.fr | none => selFr sel 0 ers st.fr)) ∧
   (∀ k, lk k (selMem (fun j => sel j || Nat.beq j i) 0 ers st.mem) = lk k (e.upd ++ e.new ++ selMem sel 0 ers st.mem)) := by
 obtain ⟨o', ho', ⟨⟨r, nx, e, cs, h1, h2, h3, h4, h5, h6, hKi, h7⟩⟩⟩ := H.ok i hi
 rw [ho] at ho'
 injection ho' with ho'
 subst ho'
 have hnb : ∀ j, j ≠ i → Nat.beq j i = false := fun j hj => by
  cases hb : Nat.beq j i with
  | false => rfl
  | true => exact absurd (beq_of hb) hj
 have hge : ∀ j, i ≤ j → memN (0 + j) (Ds.getD i []) = false := fun j hj => by
  cases hb : memN (0 + j) (Ds.getD i []) with
  | false => rfl
  | true =>
   have := H.lt i _ o ho (memN_iff.1 hb)
   omega
 -- which of the others differ
 have hpair : ∀ j d e', ers[j]? = some (d, e') → j ≠ i → (sel j = memN j (Ds.getD i [])) ∨ ((∀ t, d = some t → t ∉ looksO all o) ∧ (∀ t, d = some t → o.dst ≠ some t)) := by
  intro j d e' hj hne
  obtain ⟨hjh, oj, hoj, hdj, hgj⟩ := H.er hj
  rcases Nat.lt_or_ge j i with hlt | hgt
  ·rcases (H.deps i o ho).2.2 j hlt with hm | ⟨_, hcf⟩
   ·left; rw [hd j hm, memN_iff.2 hm]
   ·right
    rw [hgj] at hcf
    have := conflict_look hcf
    subst hdj
    exact ⟨this.1, this.2.1⟩
  ·rcases (H.deps j oj hoj).2.2 i (by omega) with hm | ⟨_, hcf⟩
   ·left
    have e1 := hge j hgt
    rw [Nat.zero_add] at e1
    rw [e1]
    cases hs : sel j with
    | false => rfl
    | true => rw [hc j hjh hs i hm] at hn; cases hn
   ·right
    rw [show all.getD i default = o from by rw [List.getD_eq_getElem?_getD, ho]; rfl] at hcf
    have := conflict_look hcf
    subst hdj
    exact ⟨this.2.2, fun t ht he => this.2.1 t he ht⟩
 have hlook : ∀ t ∈ looksO all o, lk t (selFr sel 0 ers st.fr) = lk t (selFr (fun j => memN j (Ds.getD i [])) 0 (ers.take i) st.fr) := by
  intro t ht
  rw [lk_selFr, lk_selFr, lastW_take hge]
  congr 1
  refine lastW_congr fun j d e' hj hdt => ?_
  rw [Nat.zero_add]
  by_cases hji : j = i
  ·subst hji
   have e1 := hge j (Nat.le_refl _)
   rw [Nat.zero_add] at e1
   rw [hn, e1]
  ·rcases hpair j d e' hj hji with hp | ⟨hp, _⟩
   ·exact hp
   ·exact absurd ht (hp t hdt)
 have hgi : all.getD i default = o := by rw [List.getD_eq_getElem?_getD, ho]; rfl
 -- of the others, those that are listed and not waited for leave what is there, or this one is blind
 have hextra : ∀ j d e', ers[j]? = some (d, e') → i < j → sel j = true → e.upd = [] ∨ effM e' = [] := by
  intro j d e' hj hij hs
  have hjh := (H.er hj).1
  have hni : i ∉ Ds.getD j [] := fun hx => by rw [hc j hjh hs i hx] at hn; cases hn
  exact H.pair hj h1 hij hni
 -- who is listed changes nothing that this one makes
 have hmade : ∀ j, sel j = true → ∀ d e' k, ers[j]? = some (d, e') → lk k e'.upd ≠ none → lk k e.new ≠ none → False := by
  intro j
  induction j using Nat.strongRecOn with
  | _ j ihj =>
   intro hs d e' k hj hu hnew
   obtain ⟨hjh, _⟩ := H.er hj
   obtain ⟨oj', _, ⟨⟨r2, nx2, e2, cs2, p1, _, _, _, p5, _, _⟩⟩⟩ := H.ok j hjh
   rw [hj] at p1
   injection p1 with p1
   injection p1 with _ p1
   subst p1
   have := p5 k hu
   rw [lk_selMem, H.notold h1 hnew, Option.or_none] at this
   cases hx : lastN (fun q => memN q (Ds.getD j [])) k 0 (ers.take j) with
   | none => exact this hx
   | some c =>
    obtain ⟨q, d3, e3, g1, g2, g3⟩ := lastN_some hx
    obtain ⟨hq, g1⟩ := getElem_take_er g1
    rw [Nat.zero_add] at g2
    have hsq := hc j hjh hs q (memN_iff.1 g2)
    rcases effM_cases (k := k) (e := e3) (by rw [g3]; simp) with hy | hy
    ·exact ihj q hq hsq d3 e3 k g1 hy hnew
    ·have := H.uniq g1 h1 hy hnew
     subst this
     rw [hsq] at hn; cases hn
 have hsub : ∀ k, lk k (selMem (fun j => memN j (Ds.getD i [])) 0 (ers.take i) st.mem) ≠ none → lk k (selMem (fun _ => true) 0 (ers.take i) st.mem) ≠ none := by
  intro k hk hx
  rw [lk_selMem, Option.or_eq_none_iff] at hx
  rw [lk_selMem, hx.2, Option.or_none] at hk
  cases hy : lastN (fun j => memN j (Ds.getD i [])) k 0 (ers.take i) with
  | none => exact hk hy
  | some c =>
   obtain ⟨q, d3, e3, g1, _, g3⟩ := lastN_some hy
   have := lastN_none hx.1 q d3 e3 g1 rfl
   rw [g3] at this; cases this
 have core : ∀ k ch, lk k (selMem (fun j => memN j (Ds.getD i [])) 0 (ers.take i) st.mem) = some ch → (∀ j d e', ers[j]? = some (d, e') → j ≠ i → sel j = true → memN j (Ds.getD i []) = false → lk k e'.upd = none) → lk k (selMem sel 0 ers st.mem) = some ch := by
  intro k ch hk hpairx
  rw [lk_selMem] at hk ⊢
  cases hx : lastN (fun j => memN j (Ds.getD i [])) k 0 (ers.take i) with
  | some c =>
   rw [hx] at hk
   have hk : c = ch := by simpa using hk
   subst hk
   obtain ⟨j, d, e', g1, g2, g3, g4⟩ := lastN_last hx
   obtain ⟨hji, g1⟩ := getElem_take_er g1
   rw [Nat.zero_add] at g2
   rw [lastN_at (i := j) (d := d) (v := e') g1 (by rw [Nat.zero_add]; exact hd j (memN_iff.1 g2)) g3 (fun q d2 e2 hq hq2 hk2 => by
    rw [Nat.zero_add]
    cases hs : sel q with
    | false => rfl
    | true =>
     exfalso
     have hqi : q ≠ i := by rintro rfl; rw [hs] at hn; cases hn
     cases hm : memN q (Ds.getD i []) with
     | true =>
      have hlt := H.lt i q o ho (memN_iff.1 hm)
      have := g4 q d2 e2 hq (by rw [List.getElem?_take, if_pos hlt]; exact hq2) hk2
      rw [Nat.zero_add, hm] at this
      cases this
     | false =>
      have hu := hpairx q d2 e2 hq2 hqi hs hm
      have hnew : lk k e2.new ≠ none := by
       rcases effM_cases hk2 with hx | hx
       ·exact absurd hu hx
       ·exact hx
      rcases H.maker j d e' g1 (by rw [g3]; simp) with h0 | ⟨j2, d3, e3, p1, p2, p3⟩
      ·exact h0 (H.notold hq2 hnew)
      ·have := H.uniq p2 hq2 p3 hnew
       omega)]
   rfl
  | none =>
   rw [hx, Option.none_or] at hk
   cases hy : lastN sel k 0 ers with
   | none => rw [Option.none_or]; exact hk
   | some c =>
    exfalso
    obtain ⟨j, d, e', g1, g2, g3⟩ := lastN_some hy
    rw [Nat.zero_add] at g2
    have hji : j ≠ i := by rintro rfl; rw [g2] at hn; cases hn
    cases hm : memN j (Ds.getD i []) with
    | true =>
     have hlt := H.lt i j o ho (memN_iff.1 hm)
     have := lastN_none hx j d e' (by rw [List.getElem?_take, if_pos hlt]; exact g1) (by rw [Nat.zero_add]; exact hm)
     rw [g3] at this; cases this
    | false =>
     have hu := hpairx j d e' g1 hji g2 hm
     have hnew : lk k e'.new ≠ none := by
      rcases effM_cases (k := k) (e := e') (by rw [g3]; simp) with hx | hx
      ·exact absurd hu hx
      ·exact hx
     rw [H.notold g1 hnew] at hk
     cases hk
 have hpairs : ∀ k, lk k (selMem (fun j => memN j (Ds.getD i [])) 0 (ers.take i) st.mem) ≠ none → blindB o = false → (K i = none ∨ K i = some k) → ∀ j d e', ers[j]? = some (d, e') → j ≠ i → sel j = true → memN j (Ds.getD i []) = false → lk k e'.upd = none := by
  intro k hk0 hbl hKk j d e' hj hne hs hm
  obtain ⟨hjh, oj, hoj, _, _⟩ := H.er hj
  have hkey : ∀ {u : Mem}, (∃ c, K i = some c ∧ lk c u = none) → lk k u = none := fun {u} ⟨c, q1, q2⟩ => by
   rcases hKk with q | q
   ·rw [q] at q1; cases q1
   ·rw [q] at q1; injection q1 with q1; rw [q1]; exact q2
  rcases Nat.lt_or_ge j i with hlt | hge'
  ·rcases h7 j d e' hlt hj with hx | hx
   ·rw [memN_iff.2 hx] at hm; cases hm
   ·rcases hx.2 with hx | hx | hx
    ·rw [hx]; rfl
    ·rw [hbl] at hx; cases hx
    ·exact hkey hx
  ·have hni : i ∉ Ds.getD j [] := fun hx => by rw [hc j hjh hs i hx] at hn; cases hn
   obtain ⟨oj', _, ⟨⟨r2, nx2, e2, cs2, p1, _, _, _, _, _, _, p7⟩⟩⟩ := H.ok j hjh
   rw [hj] at p1
   injection p1 with p1
   injection p1 with _ p1
   subst p1
   rcases p7 i o.dst e (by omega) h1 with hx | hx
   ·exact absurd hx hni
   ·rcases hx.1 with hx | hx | hx | hx
    ·rw [hx]; rfl
    ·rw [hgi, hbl] at hx; cases hx
    ·cases hy : lk k e'.upd with
     | none => rfl
     | some c => exact absurd (hx k (by rw [hy]; simp)) (hsub k hk0)
    ·exact hkey hx
 have hgo : igop P all o r (selFr sel 0 ers st.fr) (selMem sel 0 ers st.mem) nx = some (e, cs) := by
  cases hbl : blindB o with
  | false =>
   cases hKc : K i with
   | none => exact igop_congr hlook (fun k ch hk => core k ch hk (hpairs k (by rw [hk]; simp) hbl (.inl hKc))) h2
   | some c => exact (key_igop (hKi.symm.trans hKc) hlook (fun ch hk => core c ch hk (hpairs c (by rw [hk]; simp) hbl (.inr hKc))) h2).1
  | true => exact igop_blind hbl hlook h2
 refine ⟨r, nx, e, cs, hgo, h3, h4, fun p hp => ?_, fun t => ?_, fun k => ?_⟩
 ·have hpk : lk p.1 e.new ≠ none := lk_ne_none hp
  rw [lk_selMem, H.notold h1 hpk, Option.or_none]
  cases hx : lastN sel p.1 0 ers with
  | none => rfl
  | some c =>
   exfalso
   obtain ⟨j, d, e', g1, g2, g3⟩ := lastN_some hx
   rw [Nat.zero_add] at g2
   have hji : j ≠ i := by rintro rfl; rw [g2] at hn; cases hn
   rcases effM_cases (k := p.1) (e := e') (by rw [g3]; simp) with hu | hnew
   ·exact hmade j g2 d e' p.1 g1 hu hpk
   ·exact hji (H.uniq g1 h1 hnew hpk)
 ·have hsame : (∀ t', o.dst = some t' → t ≠ t') → lk t (selFr (fun j => sel j || Nat.beq j i) 0 ers st.fr) = lk t (selFr sel 0 ers st.fr) := by
   intro hne
   rw [lk_selFr, lk_selFr]
   congr 1
   refine lastW_congr fun j d e' hj hdt => ?_
   rw [Nat.zero_add]
   have hji : j ≠ i := by
    rintro rfl
    rw [h1] at hj
    injection hj with hj
    injection hj with hj _
    exact hne t (hj.trans hdt) rfl
   rw [hnb j hji, Bool.or_false]
  cases hdst : o.dst with
  | none => exact hsame fun t' ht' => by rw [hdst] at ht'; cases ht'
  | some t' =>
   simp only
   rw [lk_cons]
   by_cases htt : t = t'
   ·subst htt
    rw [if_pos rfl, lk_selFr]
    rw [lastW_at (i := i) (v := e) (by rw [h1, hdst]) (by rw [Nat.zero_add]; simp) (fun j d e' hij hj hdt => by
     rw [Nat.zero_add, hnb j (by omega), Bool.or_false]
     rcases hpair j d e' hj (by omega) with hp | ⟨_, hp⟩
     ·rw [hp]
      have := hge j (by omega)
      rwa [Nat.zero_add] at this
     ·exact absurd hdst (hp t hdt))]
    rfl
   ·rw [if_neg htt]
    exact hsame fun t'' ht'' => by rw [hdst] at ht''; injection ht'' with ht''; subst ht''; exact htt
 ·show _ = lk k (effM e ++ selMem sel 0 ers st.mem)
  rw [lk_append, lk_selMem, lk_selMem, ← Option.or_assoc]
  congr 1
  cases hk : lk k (effM e) with
  | some c =>
   rw [lastN_at (i := i) (d := o.dst) (v := e) h1 (by simp) hk (fun j d e' hij hj hkj => by
    rw [Nat.zero_add, hnb j (by omega), Bool.or_false]
    cases hs : sel j with
    | false => rfl
    | true =>
     exfalso
     have hji : j ≠ i := by omega
     have hen' : effM e' ≠ [] := fun hx => hkj (effM_nil hx)
     have u2 := (hextra j d e' hj hij hs).resolve_right hen'
     have n1 : lk k e.new ≠ none := by
      rcases effM_cases (k := k) (e := e) (by rw [hk]; simp) with hx | hx
      ·rw [u2] at hx; exact absurd rfl hx
      ·exact hx
     rcases effM_cases hkj with hx | hx
     ·exact hmade j hs d e' k hj hx n1
     ·exact hji (H.uniq hj h1 hx n1))]
   rfl
  | none =>
   rw [Option.none_or]
   refine lastN_congr fun j d e' hj hkj => ?_
   rw [Nat.zero_add]
   have hji : j ≠ i := by
    rintro rfl
    rw [h1] at hj
    injection hj with hj
    injection hj with _ hj
    subst hj
    exact hkj hk
   rw [hnb j hji, Bool.or_false]

theorem wp_op {ops : Array Oper} {Q : Exit → Act → World → Prop} {K : Act → World → Prop} {i : Nat} {o : Oper} (ho : ops[i]? = some o) (h : if Region.wanted o (yielded ops a.tmps) then o.wp P a w K Q else K (a.put o.dst undef) w) : wpOp P ops Q i K a w := by
 unfold wpOp
 rw [ho]
 simp only
 by_cases hw : Region.wanted o (yielded ops a.tmps) = true
 ·rw [if_pos hw] at h ⊢; exact .inl h
 ·rw [if_neg hw] at h ⊢; exact h

def lsel (listed : Array Bool) (j : Nat) : Bool := listed.getD j false

theorem ready_spec {ops : List Oper} {listed : Array Bool} (hs : listed.size = ops.length) {i : Nat} (hi : i ∈ Region.ready .any ops.toArray listed) :
  ∃ o, ops[i]? = some o ∧ lsel listed i = false ∧ ∀ d ∈ directs o, lsel listed d = true := by
 obtain ⟨h0, o, ho, hall⟩ := mem_ready.1 hi
 have ho : ops[i]? = some o := by simpa using ho
 have hlt : i < listed.size := by rw [hs]; exact (List.getElem?_eq_some_iff.1 ho).1
 refine ⟨o, ho, ?_, fun d hd => ?_⟩
 ·unfold lsel
  simp [Array.getD, hlt] at h0 ⊢
  exact h0
 ·unfold directs at hd
  obtain ⟨e, he, rfl⟩ := List.mem_map.1 hd
  obtain ⟨he, hb⟩ := List.mem_filter.1 he
  exact hall e (by simpa using he) hb

theorem ready_nil {ops : List Oper} {listed : Array Bool} (hs : listed.size = ops.length) (hd : ∀ i o, ops[i]? = some o → ∀ d ∈ directs o, d < i) (hr : Region.ready .any ops.toArray listed = []) : ∀ i, i < ops.length → lsel listed i = true := by
 intro i
 induction i using Nat.strongRecOn with
 | _ i ih =>
  intro hi
  cases hl : lsel listed i with
  | true => rfl
  | false =>
   have : i ∈ Region.ready .any ops.toArray listed := by
    refine mem_ready.2 ⟨?_, ops[i], by simp [hi], fun e he hb => ?_⟩
    ·unfold lsel at hl
     have hlt : i < listed.size := by omega
     simp [Array.getD, hlt] at hl ⊢
     exact hl
    ·have hdi : e.on ∈ directs ops[i] := List.mem_map.2 ⟨e, List.mem_filter.2 ⟨by simpa using he, hb⟩, rfl⟩
     have hlt := hd i ops[i] (List.getElem?_eq_getElem hi) e.on hdi
     exact ih e.on hlt (by omega)
   rw [hr] at this
   simp at this

theorem lsel_set {listed : Array Bool} {i j : Nat} (hi : i < listed.size) : lsel (listed.setIfInBounds i true) j = (lsel listed j || Nat.beq j i) := by
 unfold lsel
 by_cases hij : j = i
 ·subst hij
  have : Nat.beq j j = true := Nat.beq_refl j
  rw [this]
  simp [hi]
 ·have : Nat.beq j i = false := by
   cases hb : Nat.beq j i with
   | false => rfl
   | true => exact absurd (beq_of hb) hij
  rw [this, getD_set_ne false (fun e => hij e.symm)]
  simp

def todo (listed : Array Bool) (n : Nat) : Nat := ((List.range n).filter fun j => !lsel listed j).length

theorem todo_set {listed : Array Bool} {i n : Nat} (hi : i < listed.size) (hn : i < n) (hl : lsel listed i = false) : todo (listed.setIfInBounds i true) n + 1 ≤ todo listed n := by
 unfold todo
 have aux : ∀ l : List Nat, l.Nodup → i ∈ l → (l.filter fun j => !lsel (listed.setIfInBounds i true) j).length + 1 ≤ (l.filter fun j => !lsel listed j).length := by
  intro l
  induction l with
  | nil => intro _ h; simp at h
  | cons x l ih =>
   intro hnd hm
   simp only [List.nodup_cons] at hnd
   by_cases hx : x = i
   ·subst hx
    have e1 : (!lsel (listed.setIfInBounds x true) x) = false := by rw [lsel_set hi]; simp
    have e2 : (!lsel listed x) = true := by rw [hl]; rfl
    rw [List.filter_cons_of_neg (by simp [e1]), List.filter_cons_of_pos (by simp [hl])]
    simp only [List.length_cons, Nat.add_le_add_iff_right]
    refine Nat.le_of_eq ?_
    congr 1
    refine List.filter_congr fun y hy => ?_
    rw [lsel_set hi]
    have : Nat.beq y x = false := by
     cases hb : Nat.beq y x with
     | false => rfl
     | true => have := beq_of hb; subst this; exact absurd hy hnd.1
    rw [this, Bool.or_false]
   ·have hm : i ∈ l := by
     rcases List.mem_cons.1 hm with e | hm
     ·exact absurd e.symm hx
     ·exact hm
    have := ih hnd.2 hm
    have e : lsel (listed.setIfInBounds i true) x = lsel listed x := by
     rw [lsel_set hi]
     have : Nat.beq x i = false := by
      cases hb : Nat.beq x i with
      | false => rfl
      | true => exact absurd (beq_of hb) hx
     rw [this, Bool.or_false]
    cases hs : lsel listed x with
    | true =>
     rw [hs] at e
     rw [List.filter_cons_of_neg (by simp [e]), List.filter_cons_of_neg (by simp [hs])]
     exact this
    | false =>
     rw [hs] at e
     rw [List.filter_cons_of_pos (by simp [e]), List.filter_cons_of_pos (by simp [hs])]
     simp only [List.length_cons]
     omega
 exact aux _ List.nodup_range (List.mem_range.2 hn)

theorem tails_list {Q : Exit → Act → World → Prop} (hd : ∀ i o, all[i]? = some o → (∀ d ∈ directs o, d < i) ∧ (∀ j ∈ Ds.getD i [], j ∈ directs o ∨ ∃ d ∈ directs o, j ∈ Ds.getD d []) ∧ (∀ j, h ≤ j → j < i → j ∈ Ds.getD i [])) :
  ∀ (fuel : Nat) {listed : Array Bool} {i : Nat} {a : Act} {w : World}, listed.size = all.length → h ≤ i → (∀ j, j < all.length → (lsel listed j = true ↔ j < i)) → i ≤ all.length → todo listed all.length ≤ fuel →
   wpList cx.P all.toArray Q (all.drop i) a w → wpAny cx.P .any all.toArray Q fuel listed a w := by
 intro fuel
 have hend : ∀ {listed : Array Bool} {i : Nat} {a : Act} {w : World}, (∀ j, j < all.length → (lsel listed j = true ↔ j < i)) → i ≤ all.length → (∀ j, j < all.length → lsel listed j = true) → wpList cx.P all.toArray Q (all.drop i) a w → Q .normal a w := by
  intro listed i a w hl hi hal he
  have hdrop : all.drop i = [] := by
   rcases Nat.lt_or_ge i all.length with hlt | hge
   ·have := (hl i hlt).1 (hal i hlt); omega
   ·exact List.drop_eq_nil_of_le hge
  rw [hdrop] at he
  exact he
 induction fuel with
 | zero =>
  intro listed i a w hsz hhi hl hi hto he
  have hal : ∀ j, j < all.length → lsel listed j = true := fun j hj => by
   cases hx : lsel listed j with
   | true => rfl
   | false =>
    have : j ∈ (List.range all.length).filter fun j => !lsel listed j := List.mem_filter.2 ⟨List.mem_range.2 hj, by rw [hx]; rfl⟩
    have := List.length_pos_of_mem this
    unfold todo at hto
    omega
  refine ⟨?_, hend hl hi hal he⟩
  cases hr : Region.ready .any all.toArray listed with
  | nil => rfl
  | cons x xs =>
   obtain ⟨o, ho, h1, _⟩ := ready_spec hsz (i := x) (by rw [hr]; simp)
   rw [hal x (List.getElem?_eq_some_iff.1 ho).1] at h1
   cases h1
 | succ fuel ih =>
  intro listed i a w hsz hhi hl hi hto he
  refine ⟨fun hr => hend hl hi (ready_nil hsz (fun i o ho => (hd i o ho).1) hr) he, fun j hj => ?_⟩
  obtain ⟨o, ho, h1, h2⟩ := ready_spec hsz hj
  have hjl : j < all.length := (List.getElem?_eq_some_iff.1 ho).1
  have hji : j = i := by
   have hge : i ≤ j := by
    rcases Nat.lt_or_ge j i with hlt | hge
    ·rw [(hl j hjl).2 hlt] at h1; cases h1
    ·exact hge
   rcases Nat.lt_or_ge i j with hlt | hle
   ·have hm := (hd j o ho).2.2 i hhi hlt
    -- everything that it waits for is listed
    have hcl : ∀ (n : Nat) (o : Oper), all[n]? = some o → (∀ d ∈ directs o, lsel listed d = true) → ∀ k ∈ Ds.getD n [], lsel listed k = true := by
     intro n
     induction n using Nat.strongRecOn with
     | _ n ihn =>
      intro o ho hdl k hk
      have hlt : n < all.length := (List.getElem?_eq_some_iff.1 ho).1
      rcases (hd n o ho).2.1 k hk with hkd | ⟨d, hkd, hkk⟩
      ·exact hdl k hkd
      ·have hdn := (hd n o ho).1 d hkd
       have hdlt : d < all.length := by omega
       refine ihn d hdn all[d] (List.getElem?_eq_getElem hdlt) (fun d' hd' => ?_) k hkk
       have hdi := (hl d hdlt).1 (hdl d hkd)
       have := (hd d all[d] (List.getElem?_eq_getElem hdlt)).1 d' hd'
       exact (hl d' (by omega)).2 (by omega)
    have := (hl i (by omega)).1 (hcl j o ho h2 i hm)
    omega
   ·omega
  subst hji
  have hdrop : all.drop j = o :: all.drop (j + 1) := by
   rw [List.drop_eq_getElem_cons hjl]
   congr 1
   exact (List.getElem?_eq_some_iff.1 ho).2
  rw [hdrop] at he
  simp only [wpList] at he
  unfold wpOp
  rw [show all.toArray[j]? = some o by simpa using ho]
  simp only
  have nxt : ∀ a' w', wpList cx.P all.toArray Q (all.drop (j + 1)) a' w' → wpAny cx.P .any all.toArray Q fuel (listed.setIfInBounds j true) a' w' := fun a' w' h' => by
   refine ih (i := j + 1) (by simp [hsz]) (by omega) (fun k hk => ?_) (by omega) ?_ h'
   ·rw [lsel_set (by omega)]
    simp only [Bool.or_eq_true]
    rw [hl k hk]
    constructor
    ·rintro (hk' | hk')
     ·omega
     ·have := beq_of hk'; omega
    ·intro hk'
     rcases Nat.lt_or_ge k j with hlt | hge
     ·exact .inl hlt
     ·right
      have : k = j := by omega
      subst this
      exact Nat.beq_refl _
   ·have := todo_set (listed := listed) (i := j) (n := all.length) (by omega) hjl h1
    omega
  split
  ·rename_i hw
   rw [if_pos hw] at he
   exact he.imp (Oper.wp_mono nxt) id
  ·rename_i hw
   rw [if_neg hw] at he
   exact nxt _ _ he

theorem selFr_congr {sel sel' : Nat → Bool} (H : ∀ j, j < ers.length → sel j = sel' j) (fr : Fr) (t : Tmp) : lk t (selFr sel 0 ers fr) = lk t (selFr sel' 0 ers fr) := by
 rw [lk_selFr, lk_selFr]
 congr 1
 exact lastW_congr fun j d e hj _ => by
  rw [Nat.zero_add]
  exact H j (List.getElem?_eq_some_iff.1 hj).1

theorem selMem_congr {sel sel' : Nat → Bool} (H : ∀ j, j < ers.length → sel j = sel' j) (m : Mem) (k : Nat) : lk k (selMem sel 0 ers m) = lk k (selMem sel' 0 ers m) := by
 rw [lk_selMem, lk_selMem]
 congr 1
 exact lastN_congr fun j d e hj _ => by
  rw [Nat.zero_add]
  exact H j (List.getElem?_eq_some_iff.1 hj).1

theorem heads_sound {Q : Exit → Act → World → Prop} {st : St} {nx0 : Nat} (H : Heads cx.P cx.N all st h Ds ers K) (hh : h ≤ all.length) (hT : ∀ g' a' w', Sim cx g' (headSt st ers (fun _ => true) nx0) a' w' → wpList cx.P all.toArray Q (all.drop h) a' w') :
  ∀ (fuel : Nat) {listed : Array Bool} {nx : Nat} {g : GM} {a : Act} {w : World}, listed.size = all.length → (∀ j, lsel listed j = true → j < h) → (∀ j, j < h → lsel listed j = true → ∀ k ∈ Ds.getD j [], lsel listed k = true) → todo listed all.length ≤ fuel →
   Sim cx g (headSt st ers (lsel listed) nx) a w → wpAny cx.P .any all.toArray Q fuel listed a w := by
 intro fuel
 have hend : ∀ (fuel : Nat) {listed : Array Bool} {nx : Nat} {g : GM} {a : Act} {w : World}, listed.size = all.length → (∀ j, lsel listed j = true → j < h) → todo listed all.length ≤ fuel → (∀ j, j < h → lsel listed j = true) → Sim cx g (headSt st ers (lsel listed) nx) a w → wpAny cx.P .any all.toArray Q fuel listed a w := by
  intro fuel listed nx g a w hsz hl hto hal hs
  have hs' : Sim cx g (headSt st ers (fun _ => true) nx0) a w := hs.congr (fun t v hv => by
   rw [← hv]
   exact selFr_congr (sel' := fun _ => true) (fun j hj => hal j (by rw [← H.len]; exact hj)) _ _) (fun k => (selMem_congr (sel' := fun _ => true) (fun j hj => hal j (by rw [← H.len]; exact hj)) _ _).symm)
  exact tails_list (h := h) (Ds := Ds) (fun i o ho => ⟨(H.deps i o ho).1, (H.deps i o ho).2.1, fun j hj hi => ((H.deps i o ho).2.2 j hi).resolve_right fun x => by omega⟩) fuel hsz (Nat.le_refl h) (fun j hj => ⟨hl j, hal j⟩) hh hto (hT _ _ _ hs')
 induction fuel with
 | zero =>
  intro listed nx g a w hsz hl hcl hto hs
  refine hend 0 hsz hl hto (fun j hj => ?_) hs
  cases hx : lsel listed j with
  | true => rfl
  | false =>
   have : j ∈ (List.range all.length).filter fun j => !lsel listed j := List.mem_filter.2 ⟨List.mem_range.2 (by omega), by rw [hx]; rfl⟩
   have := List.length_pos_of_mem this
   unfold todo at hto
   omega
 | succ fuel ih =>
  intro listed nx g a w hsz hl hcl hto hs
  by_cases hal : ∀ j, j < h → lsel listed j = true
  ·exact hend (fuel + 1) hsz hl hto hal hs
  refine ⟨fun hr => absurd (fun j hj => ready_nil hsz (fun i o ho => (H.deps i o ho).1) hr j (by omega)) hal, fun i hi => ?_⟩
  obtain ⟨o, ho, h1, h2⟩ := ready_spec hsz hi
  have hil : i < all.length := (List.getElem?_eq_some_iff.1 ho).1
  have hdi : ∀ j ∈ Ds.getD i [], lsel listed j = true := fun j hj => by
   rcases (H.deps i o ho).2.1 j hj with hd | ⟨d, hd, hj⟩
   ·exact h2 j hd
   ·exact hcl d (hl d (h2 d hd)) (h2 d hd) j hj
  have hih : i < h := by
   rcases Nat.lt_or_ge i h with hlt | hge
   ·exact hlt
   ·exact absurd (fun j hj => hdi j (((H.deps i o ho).2.2 j (by omega)).resolve_right fun x => by omega)) hal
  obtain ⟨r, nx', e, cs', g1, g2, g3, g5, g6, g7⟩ := H.step hih ho h1 hdi hcl
  have hsel : lsel (listed.setIfInBounds i true) = fun j => lsel listed j || Nat.beq j i := funext fun j => lsel_set (by omega)
  have hs1 : Sim cx g ⟨selFr (lsel listed) 0 ers st.fr, selMem (lsel listed) 0 ers st.mem, nx'⟩ a w := hs.congr (fun _ _ hv => hv) (fun _ => rfl)
  refine wp_op (by simpa using ho) (igop_sound hs1 g1 g5 g3 g2 fun g' a' w' hs' => ?_)
  refine ih (nx := 0) (by simp [hsz]) (fun j hj => ?_) (fun j hj hlj k hk => ?_) ?_ (hs'.congr (fun t v hv => ?_) fun k => ?_)
  ·rw [hsel] at hj
   simp only [Bool.or_eq_true] at hj
   rcases hj with hj | hj
   ·exact hl j hj
   ·rw [beq_of hj]; exact hih
  ·rw [hsel] at hlj ⊢
   simp only [Bool.or_eq_true] at hlj ⊢
   rcases hlj with hlj | hlj
   ·exact .inl (hcl j hj hlj k hk)
   ·have := beq_of hlj
    subst this
    exact .inl (hdi k hk)
  ·have := todo_set (listed := listed) (i := i) (n := all.length) (by omega) hil h1
   omega
  ·change lk t (selFr (lsel (listed.setIfInBounds i true)) 0 ers st.fr) = some v at hv
   rw [hsel, g6] at hv
   cases hdst : o.dst with
   | none => rw [hdst] at hv; exact hv
   | some t' => rw [hdst] at hv; exact hv
  ·change lk k (selMem (lsel (listed.setIfInBounds i true)) 0 ers st.mem) = _
   rw [hsel, g7]
   unfold St.app
   cases o.dst <;> rfl

theorem Sim.anyDrawT {QQ : Exit → Act → World → Prop} {h : Nat} {ops : List Oper} {hrs : List HR} {tds : List (List Nat)} {ers : List ER} {st : St} {cs : List Prop} {nx : Nat} (hs : Sim cx g st a w)
  (hn : (hrs.length == h && Nat.ble h ops.length) = true) (hok : okFrom ops (hrs.map HR.D ++ tds) h 0 ops = true) (hh : ihead cx.P cx.N ops st (ops.take h) hrs [] st.nx = some (ers, cs, nx)) (hc : AllP cs)
  (hT : ∀ g' a' w', Sim cx g' (headSt st ers (fun _ => true) nx) a' w' → wpList cx.P ops.toArray QQ (ops.drop h) a' w') : wpAny cx.P .any ops.toArray QQ ops.toArray.size (Array.replicate ops.toArray.size false) a { w with drawn := w.drawn + 1 } := by
 simp only [Bool.and_eq_true, beq_iff_eq] at hn
 obtain ⟨hn, hl⟩ := hn
 have hl : h ≤ ops.length := Nat.le_of_ble_eq_true hl
 obtain ⟨⟨l, e1, e2⟩, K, hsp⟩ := ihead_spec hh hc
 have hlen : ers.length = h := by rw [e1]; simp [e2, hl]
 have hDs : ∀ i, i < h → (hrs.map HR.D ++ tds).getD i [] = (hrs.map HR.D).getD i [] := fun i hi => by
  rw [List.getD_eq_getElem?_getD, List.getD_eq_getElem?_getD, List.getElem?_append_left (by simp [hn, hi])]
 have H : Heads cx.P cx.N ops st h (hrs.map HR.D ++ tds) ers K := by
  refine ⟨hlen, fun i hi => ?_, fun i o ho => ?_⟩
  ·have ho : ops[i]? = some ops[i] := List.getElem?_eq_getElem (by omega)
   refine ⟨ops[i], ho, ?_⟩
   have := hsp i ops[i] (by rw [List.getElem?_take, if_pos hi]; exact ho)
   rw [hDs i hi]
   simpa using this
  ·have := okFrom_spec hok i o ho
   simpa using this
 have hz : ∀ j, lsel (Array.replicate ops.length false) j = false := fun j => by
  unfold lsel
  rw [Array.getD_eq_getD_getElem?]
  by_cases hj : j < ops.length
  ·simp [hj]
  ·rw [Array.getElem?_eq_none (by simpa using Nat.le_of_not_lt hj)]; rfl
 have hto : todo (Array.replicate ops.length false) ops.length ≤ ops.length := by
  unfold todo
  exact Nat.le_trans (List.length_filter_le _ _) (by simp)
 have hs0 : Sim cx g (headSt st ers (lsel (Array.replicate ops.length false)) 0) a w.drew := by
  have hz' : lsel (Array.replicate ops.length false) = fun _ => false := funext hz
  refine hs.drew.congr (fun t v hv => ?_) fun k => ?_
  ·rw [hz'] at hv
   change lk t (selFr (fun _ => false) 0 ers st.fr) = some v at hv
   rw [lk_selFr] at hv
   have : lastW (fun _ => false) t 0 ers = none := by
    have := lastW_take (sel := fun _ => false) (t := t) (l := ers) (n := 0) (i := 0) (fun _ _ => rfl)
    simpa [lastW] using this.symm
   rw [this] at hv
   exact hv
  ·rw [hz']
   change lk k (selMem (fun _ => false) 0 ers st.mem) = _
   rw [lk_selMem]
   cases hx : lastN (fun _ => false) k 0 ers with
   | none => rfl
   | some c => obtain ⟨_, _, _, _, h2, _⟩ := lastN_some hx; cases h2
 have := heads_sound (Q := QQ) (nx0 := nx) H hl hT ops.length (listed := Array.replicate ops.length false) (by simp) (fun j hj => by rw [hz j] at hj; cases hj) (fun j _ hj => by rw [hz j] at hj; cases hj) hto hs0
 simpa using this

theorem Sim.anyDraw {QQ : Exit → Act → World → Prop} {h : Nat} {ops : List Oper} {hrs : List HR} {tds : List (List Nat)} {rs : List OH} {ers : List ER} {st st' : St} {cs cs' : List Prop} {nx : Nat} (hs : Sim cx g st a w)
  (hn : (hrs.length == h && Nat.ble h ops.length) = true) (hok : okFrom ops (hrs.map HR.D ++ tds) h 0 ops = true) (hh : ihead cx.P cx.N ops st (ops.take h) hrs [] st.nx = some (ers, cs, nx))
  (he : ireg cx.P cx.N ops (ops.drop h) rs (headSt st ers (fun _ => true) nx) = some (st', cs')) (hc : AllP cs) (hc' : AllP cs')
  (hq : ∀ g' a' w', Sim cx g' st' a' w' → QQ .normal a' w') : wpAny cx.P .any ops.toArray QQ ops.toArray.size (Array.replicate ops.toArray.size false) a { w with drawn := w.drawn + 1 } :=
 hs.anyDrawT hn hok hh hc fun _ _ _ hs' => ireg_sound hs' he hc' hq

theorem HT.draw {Q : Exit → St → Prop} {id h : Nat} {ops : List Oper} {hrs : List HR} {tds : List (List Nat)} {rs : List OH} {ers : List ER} {st st' : St} {cs cs' : List Prop} {nx : Nat} (hm : cx.P.follows .mixedOrders = true)
  (hn : (hrs.length == h && Nat.ble h ops.length) = true) (hok : okFrom ops (hrs.map HR.D ++ tds) h 0 ops = true) (hh : ihead cx.P cx.N ops st (ops.take h) hrs [] st.nx = some (ers, cs, nx))
  (he : ireg cx.P cx.N ops (ops.drop h) rs (headSt st ers (fun _ => true) nx) = some (st', cs')) (hc : AllP cs) (hc' : AllP cs') (hq : Q .normal st') : HT cx st (.region id ops.toArray true) Q :=
 fun _ _ _ hs => wp_region_any hm (hs.anyDraw hn hok hh he hc hc' fun g' _ _ hs' => ⟨st', g', hq, hs'⟩)

end
end Go.Ide


/-
 A state in other words, said by the other state: what is equal is said by conditions.
-/
namespace Go.Ide

structure CvS where
 ch : List (Nat × Nat)
 vs : List Nat
 tr : List Nat
 fz : Bool

def lkB (k k' : Nat) (ch : List (Nat × Nat)) : Bool :=
 match lk k ch with
 | some q => Nat.beq q k'
 | none => false

theorem lkB_iff {k k' : Nat} {ch : List (Nat × Nat)} (h : lkB k k' ch = true) : lk k ch = some k' := by
 unfold lkB at h
 split at h
 ·rename_i q hq; rw [hq, beq_of h]
 ·cases h

def hasK (k : Nat) (ch : List (Nat × Nat)) : Bool := match lk k ch with | some _ => true | none => false

def CvS.m0 (s : CvS) (m : Mem) : Mem := bif s.fz then m.filter (fun p => !(hasK p.1 s.ch)) else []

def cvC (s : CvS) (m0 m' : Mem) (c c' : ICell) : Option (List Prop) :=
 match c' with
 | .dat t x' => (match cdat m0 t c with
  | some x => some [x' = x]
  | none => none)
 | .ptr k' off' => (match c with
  | .ptr k off => bif lkB k k' s.ch && Nat.beq off off' then some [] else none
  | _ => none)
 | .elp k' i' sz' off' => (match c with
  | .elp k i sz off => bif lkB k k' s.ch && (Nat.beq sz sz' && Nat.beq off off') then some [i' = i] else none
  | _ => none)
 | .ip t' x' off' => (match c with
  | .ip t x off => bif Nat.beq off off' then (if h : t' = t then some [castD h x' = x] else none) else none
  | .ptr k off => (match lk k m0 with
   | some (.box cs) => bif Nat.beq off off' then (match impl m0 t' cs with
    | some (x, []) => some [x' = x]
    | _ => none) else none
   | _ => none)
  | _ => none)
 | .all k' => (match c with
  | .all k => bif lkB k k' s.ch && !(memN k s.tr) then some [] else none
  | .nilS => bif memN k' s.vs then some [] else none
  | .ref k off len => bif lkB k k' s.ch && memN k s.tr then (match lk k' m' with
   | some (.seq _ xs') => some [off = 0, List.length xs' = len]
   | _ => none) else none
  | _ => none)
 | .ref k' off' len' => (match c with
  | .ref k off len => bif lkB k k' s.ch && !(memN k s.tr) then some [off' = off, len' = len] else none
  | _ => none)
 | .row _ _ _ => none
 | .rlp _ _ _ _ _ _ => none
 | .nilS => (match c with
  | .nilS => some []
  | _ => none)
 | .fn f' => (match c with
  | .fn f => if f' = f then some [] else none
  | _ => none)
 | .clo f' t' x' => (match c with
  | .clo f t x => if f' = f then (if h : t' = t then some [castD h x' = x] else none) else none
  | _ => none)
 | .junk => bif c.ok then some [] else none
 | .bad => none

def cvCs (s : CvS) (m0 m' : Mem) : List ICell → List ICell → Option (List Prop)
 | [], [] => some []
 | c :: r, c' :: r' => (match cvC s m0 m' c c', cvCs s m0 m' r r' with
  | some p, some q => some (p ++ q)
  | _, _ => none)
 | _, _ => none

def cvV (s : CvS) (m0 m' : Mem) (v v' : IVal) : Option (List Prop) :=
 match v' with
 | .one c' => (match v with
  | .one c => cvC s m0 m' c c'
  | _ => none)
 | .agg cs' => (match v with
  | .agg cs => cvCs s m0 m' cs cs'
  | _ => none)
 | .tup _ => none
 | .und => none
 | .junk => some []

def cvFr (s : CvS) (m0 m' : Mem) (fr : Fr) : Fr → Option (List Prop)
 | [] => some []
 | (t, v') :: r => (match lk t fr with
  | some v => (match cvV s m0 m' v v', cvFr s m0 m' fr r with
   | some p, some q => some (p ++ q)
   | _, _ => none)
  | none => none)

def cvCh (s : CvS) (m0 m' : Mem) (k : Nat) (c c' : Chunk) : Option (List Prop) :=
 match c' with
 | .box cs' => (match c with
  | .box cs => cvCs s m0 m' cs cs'
  | _ => none)
 | .seq t' xs' => (match c with
  | .seq t xs => if h : t' = t then (bif memN k s.tr then some [castD (congrArg Ty.sl h) xs' = List.take (List.length xs') xs] else some [castD (congrArg Ty.sl h) xs' = xs]) else none
  | _ => none)
 | .opn _ _ _ _ _ => none
 | .gone => none

def cvM (s : CvS) (m m0 m' : Mem) : Mem → Option (List Prop)
 | [] => some []
 | (k', c') :: r => (match lk k' (inv s.ch) with
  | some k => (match lk k m with
   | some c => (match cvCh s m0 m' k c c', cvM s m m0 m' r with
    | some p, some q => some (p ++ q)
    | _, _ => none)
   | none => none)
  | none => bif memN k' s.vs then (match c' with
   | .seq _ xs' => (match cvM s m m0 m' r with
    | some q => some ((xs' = []) :: q)
    | none => none)
   | _ => none) else none)

def hasM (k : Nat) (m : Mem) : Bool := match lk k m with | some _ => true | none => false

def CvS.okB (s : CvS) (m' : Mem) (own : List Nat) : Bool :=
 (nodupB (s.ch.map Prod.fst) && nodupB (s.ch.map Prod.snd)) && ((s.ch.all fun p => hasM p.2 m') && ((s.vs.all fun k => hasM k m' && !(memN k (s.ch.map Prod.snd))) && (own.all fun k => lkB k k s.ch)))

def St.cv (s : CvS) (own : List Nat) (st st' : St) : Option (List Prop) :=
 bif s.okB st'.mem own then (match cvFr s (s.m0 st.mem) st'.mem st.fr st'.fr, cvM s st.mem (s.m0 st.mem) st'.mem st'.mem with
  | some p, some q => some (p ++ q)
  | _, _ => none) else none

theorem hasM_iff {k : Nat} {m : Mem} (h : hasM k m = true) : lk k m ≠ none := by
 unfold hasM at h
 split at h
 ·rename_i c hc; rw [hc]; simp
 ·cases h

theorem hasK_iff {k : Nat} {ch : List (Nat × Nat)} : hasK k ch = true ↔ ∃ k', lk k ch = some k' := by
 unfold hasK
 cases lk k ch with
 | some q => exact ⟨fun _ => ⟨q, rfl⟩, fun _ => rfl⟩
 | none => exact ⟨fun h => (by cases h), fun h => (by obtain ⟨k', h⟩ := h; cases h)⟩

theorem lk_filter {p : Nat → Bool} : ∀ {m : Mem} {k : Nat} {c : Chunk}, lk k (m.filter fun q => p q.1) = some c → lk k m = some c ∧ p k = true
 | [], k, c, h => by simp [lk_nil] at h
 | (q, d) :: m, k, c, h => by
  cases hp : p q with
  | false =>
   rw [List.filter_cons_of_neg (by simp [hp])] at h
   obtain ⟨h1, h2⟩ := lk_filter h
   rw [lk_cons]
   have hne : k ≠ q := by rintro rfl; rw [hp] at h2; cases h2
   rw [if_neg hne]
   exact ⟨h1, h2⟩
  | true =>
   rw [List.filter_cons_of_pos (by simp [hp])] at h
   rw [lk_cons] at h ⊢
   split at h
   ·rename_i e; subst e; rw [if_pos rfl]; exact ⟨h, hp⟩
   ·rename_i e; rw [if_neg e]; exact lk_filter h

theorem lk_cvFr {s : CvS} {m0 m' : Mem} {fr : Fr} : ∀ {fr' : Fr} {ps : List Prop} {t : Nat} {v' : IVal}, cvFr s m0 m' fr fr' = some ps → AllP ps → lk t fr' = some v' → ∃ v p, lk t fr = some v ∧ cvV s m0 m' v v' = some p ∧ AllP p
 | [], ps, t, v', h, _, hl => by simp [lk_nil] at hl
 | (q, u') :: r, ps, t, v', h, hp, hl => by
  simp only [cvFr] at h
  split at h
  ·rename_i v hv
   split at h
   ·rename_i p q' h1 h2
    injection h with h
    subst h
    obtain ⟨hp1, hp2⟩ := hp.append
    rw [lk_cons] at hl
    split at hl
    ·rename_i e; subst e; injection hl with hl; subst hl; exact ⟨v, p, hv, h1, hp1⟩
    ·exact lk_cvFr h2 hp2 hl
   ·cases h
  ·cases h

theorem lk_cvM {s : CvS} {m m0 m' : Mem} : ∀ {l : Mem} {ps : List Prop} {k' : Nat} {c' : Chunk}, cvM s m m0 m' l = some ps → AllP ps → lk k' l = some c' →
  (∃ k c p, lk k' (inv s.ch) = some k ∧ lk k m = some c ∧ cvCh s m0 m' k c c' = some p ∧ AllP p) ∨ (lk k' (inv s.ch) = none ∧ ∃ t, c' = .seq t [])
 | [], ps, k', c', h, _, hl => by simp [lk_nil] at hl
 | (q, d) :: r, ps, k', c', h, hp, hl => by
  simp only [cvM] at h
  split at h
  ·rename_i k hk
   split at h
   ·rename_i c hc
    split at h
    ·rename_i p q' h1 h2
     injection h with h
     subst h
     obtain ⟨hp1, hp2⟩ := hp.append
     rw [lk_cons] at hl
     split at hl
     ·rename_i e; subst e; injection hl with hl; subst hl; exact .inl ⟨k, c, p, hk, hc, h1, hp1⟩
     ·exact lk_cvM h2 hp2 hl
    ·cases h
   ·cases h
  ·rename_i hk
   cases hb : memN q s.vs with
   | false => rw [hb] at h; cases h
   | true =>
    rw [hb] at h
    simp only [cond_true] at h
    split at h
    ·rename_i t xs'
     split at h
     ·rename_i q' h2
      injection h with h
      subst h
      rw [lk_cons] at hl
      split at hl
      ·rename_i e; subst e; injection hl with hl; subst hl; exact .inr ⟨hk, t, by rw [hp.1]⟩
      ·exact lk_cvM h2 hp.2 hl
     ·cases h
    ·cases h

section
variable {cx : Cx} {g : GM} {st st' : St} {a : Act} {w : World}

theorem Sim.cv {s : CvS} {own : List Nat} {ps : List Prop} (h : Sim cx g st a w) (he : st.cv s own st' = some ps) (hp : AllP ps) (ho : cx.own.map Prod.fst = own) (hF : s.fz = true → cx.FOK) : ∃ g', Sim cx g' st' a w := by
 unfold St.cv at he
 cases hb : s.okB st'.mem own with
 | false => rw [hb] at he; cases he
 | true =>
  rw [hb] at he
  simp only [cond_true] at he
  unfold CvS.okB at hb
  simp only [Bool.and_eq_true] at hb
  obtain ⟨⟨hn1, hn2⟩, hch, hvs, hown⟩ := hb
  have hn1 := nodupB_spec hn1
  have hn2 := nodupB_spec hn2
  split at he
  ·rename_i p q hfr hmem
   injection he with he
   subst he
   obtain ⟨hp1, hp2⟩ := hp.append
   let g' : GM := ⟨fun k' => match lk k' (inv s.ch) with | some k => g.f k | none => fun _ => none⟩
   have hgf : ∀ k k', lk k s.ch = some k' → g'.f k' = g.f k := fun k k' hk => by
    show (match lk k' (inv s.ch) with | some k => g.f k | none => fun _ => none) = g.f k
    rw [(lk_inv hn1 hn2).1 hk]
   have hg' : ∀ k k', lk k s.ch = some k' → g' k' = g k := fun k k' hk => congrFun (hgf k k' hk) []
   have hgn : ∀ k', lk k' (inv s.ch) = none → g'.f k' = fun _ => none := fun k' hk => by
    show (match lk k' (inv s.ch) with | some k => g.f k | none => fun _ => none) = _
    rw [hk]
   have hpres : ∀ k k', lk k s.ch = some k' → lk k' st'.mem ≠ none := fun k k' hk => hasM_iff (List.all_eq_true.1 hch _ (lk_mem hk))
   have hlive : ∀ k' c', lk k' st'.mem = some c' → (∃ k c p, lk k s.ch = some k' ∧ lk k st.mem = some c ∧ cvCh s (s.m0 st.mem) st'.mem k c c' = some p ∧ AllP p ∧ (∀ p, c.owns p) ∧ g'.f k' = g.f k) ∨ (g'.f k' = (fun _ => none) ∧ ∃ t, c' = .seq t []) := fun k' c' hk => by
    rcases lk_cvM hmem hp2 hk with ⟨k, c, p, h1, h2, h3, h4⟩ | ⟨h1, h2⟩
    ·have h5 := (lk_inv hn1 hn2).2 h1
     refine .inl ⟨k, c, p, h5, h2, h3, h4, fun q => ?_, hgf k k' h5⟩
     cases c with
     | box cs => trivial
     | seq t xs => trivial
     | gone => unfold cvCh at h3; split at h3 <;> cases h3
     | opn t xs i cs ks => unfold cvCh at h3; split at h3 <;> cases h3
    ·exact .inr ⟨hgn k' h1, h2⟩
   have hlv : ∀ b, Live g' st'.mem b → ∃ k k' q c, lk k s.ch = some k' ∧ lk k st.mem = some c ∧ c.owns q ∧ g.f k q = some b := by
    rintro b ⟨k', q, c', hk, _, hgk⟩
    rcases hlive k' c' hk with ⟨k, c, p, q1, q2, _, _, q5, q6⟩ | ⟨q1, _⟩
    ·exact ⟨k, k', q, c, q1, q2, q5 q, by rw [← q6]; exact hgk⟩
    ·rw [q1] at hgk; cases hgk
   have hsafe : ∀ b, cx.safe g st.mem w b → cx.safe g' st'.mem w b := fun b ⟨h1, h2, h3⟩ => by
    refine ⟨h1, h2, fun hl => ?_⟩
    obtain ⟨k, k', q, c, q1, q2, q3, q4⟩ := hlv b hl
    exact h3 ⟨k, q, c, q2, q3, q4⟩
   have hbase : ∀ k q ch b, lk k st.mem = some ch → ch.owns q → g.f k q = some b → s.fz = true → (!(hasK k s.ch)) = true → ¬ b < cx.w0.heap.size := fun k q ch b h1 hn hgk hz h2 hlt => by
    rcases h.basep k q ch b h1 hn hgk with hge | hf
    ·omega
    ·obtain ⟨p, hpo, q', hpb⟩ := hF hz b hf
     have hmem' : p.1 ∈ own := by rw [← ho]; exact List.mem_map.2 ⟨p, hpo, rfl⟩
     have hlk := lkB_iff (List.all_eq_true.1 hown _ hmem')
     obtain ⟨k', hk'⟩ : ∃ c', lk p.1 st'.mem = some c' := Option.ne_none_iff_exists'.1 (hpres _ _ hlk)
     rcases hlive p.1 k' hk' with ⟨k2, c2, q2, a1, a2, _, _, a5, _⟩ | ⟨a1, _⟩
     ·have : k2 = p.1 := by
       have b1 := (lk_inv hn1 hn2).1 a1
       have b2 := (lk_inv hn1 hn2).1 hlk
       rw [b1] at b2
       injection b2
      subst this
      have := (h.injp k p.1 q q' ch c2 b h1 hn a2 (a5 q') hgk (by rw [(h.own p hpo).1, hpb])).1
      subst this
      rw [hasK_iff.2 ⟨_, hlk⟩] at h2
      cases h2
     ·rw [hgf _ _ hlk, (h.own p hpo).1] at a1
      rw [a1] at hpb
      cases hpb
   have haway : ∀ k q ch b, lk k st.mem = some ch → ch.owns q → g.f k q = some b → (!(hasK k s.ch)) = true → ¬ Live g' st'.mem b := fun k q ch b h1 hn hgk h2 hl => by
    obtain ⟨k1, k1', q', c1, q1, q2, q3, q4⟩ := hlv b hl
    have := (h.injp k k1 q q' _ c1 b h1 hn q2 q3 hgk q4).1
    subst this
    rw [hasK_iff.2 ⟨_, q1⟩] at h2
    cases h2
   have hbox : ∀ k cs, lk k (s.m0 st.mem) = some (.box cs) → ∃ b arr, g k = some b ∧ cx.safe g' st'.mem w b ∧ blk w b arr ∧ All2 (CR g st.mem (cx.safe g st.mem w) w) cs arr.toList := by
    intro k cs hl
    unfold CvS.m0 at hl
    cases hz : s.fz with
    | false => rw [hz] at hl; simp [lk_nil] at hl
    | true =>
     rw [hz] at hl
     simp only [cond_true] at hl
     obtain ⟨h1, h2⟩ := lk_filter (p := fun k => !(hasK k s.ch)) hl
     obtain ⟨b, arr, hgk, hb, hall⟩ := h.mem k _ h1
     exact ⟨b, arr, hgk, ⟨hb.lt, fun hlt => absurd hlt (hbase k [] _ b h1 trivial hgk hz h2), haway k [] _ b h1 trivial hgk h2⟩, hb, hall⟩
   have hread : ReadM g st.mem (s.m0 st.mem) (cx.safe g' st'.mem w) w := by
    intro k t xs hl
    unfold CvS.m0 at hl
    cases hz : s.fz with
    | false => rw [hz] at hl; simp [lk_nil] at hl
    | true =>
     rw [hz] at hl
     simp only [cond_true] at hl
     obtain ⟨h1, h2⟩ := lk_filter (p := fun k => !(hasK k s.ch)) hl
     have hap : ∀ p b, g.f k p = some b → cx.safe g' st'.mem w b := fun p b hgk =>
      ⟨h.lt k p _ b h1 trivial hgk, fun hlt => absurd hlt (hbase k p _ b h1 trivial hgk hz h2), haway k p _ b h1 trivial hgk h2⟩
     refine ⟨h1, hap, ?_⟩
     have hc := h.mem k _ h1
     unfold ChR at hc
     cases hgk : g.f k [] with
     | none => rw [show g k = none from hgk]; rw [hgk] at hc; exact hc
     | some b =>
      rw [show g k = some b from hgk]
      rw [hgk] at hc
      obtain ⟨arr, hb, hel⟩ := hc
      exact ⟨arr, hb, hel.keep (fun b hb => ⟨hsafe b hb, rfl⟩) fun _ _ _ => rfl⟩
   have hseq : ∀ k k' t xs', lk k s.ch = some k' → SeqAt st'.mem k' t xs' → memN k s.tr = false → SeqAt st.mem k t xs' := fun k k' t xs' hk hl htr => by
    refine .inl ?_
    have hl : lk k' st'.mem = some (.seq t xs') := by
     rcases hl with hl | ⟨i, cs, ks, hl⟩
     ·exact hl
     ·rcases hlive k' _ hl with ⟨_, _, _, _, _, q3, _⟩ | ⟨_, _, q2⟩
      ·cases q3
      ·cases q2
    rcases hlive k' _ hl with ⟨k1, c, p, q1, q2, q3, q4, _⟩ | ⟨q1, _⟩
    ·have : k1 = k := by
      have a1 := (lk_inv hn1 hn2).1 q1
      have a2 := (lk_inv hn1 hn2).1 hk
      rw [a1] at a2
      injection a2
     subst this
     cases c with
     | seq t1 xs1 =>
      simp only [cvCh] at q3
      split at q3
      ·rename_i ht
       subst ht
       rw [htr] at q3
       simp only [cond_false] at q3
       injection q3 with q3
       subst q3
       have := q4.1
       simp only [castD] at this
       rw [q2, this]
      ·cases q3
     | box cs => cases q3
     | opn => cases q3
     | gone => cases q3
    ·have : lk k' (inv s.ch) = some k := (lk_inv hn1 hn2).1 hk
     rcases lk_cvM hmem hp2 hl with ⟨k1, c, p, h1, h2, h3, h4⟩ | ⟨h1, _⟩
     ·have : k1 = k := by rw [this] at h1; injection h1 with h1; exact h1.symm
      subst this
      cases c with
      | seq t1 xs1 =>
       simp only [cvCh] at h3
       split at h3
       ·rename_i ht
        subst ht
        rw [htr] at h3
        simp only [cond_false] at h3
        injection h3 with h3
        subst h3
        have := h4.1
        simp only [castD] at this
        rw [h2, this]
       ·cases h3
      | box cs => cases h3
      | opn => cases h3
      | gone => cases h3
     ·rw [this] at h1; cases h1
   have hcr : ∀ c c' p v, cvC s (s.m0 st.mem) st'.mem c c' = some p → AllP p → CR g st.mem (cx.safe g st.mem w) w c v → CR g' st'.mem (cx.safe g' st'.mem w) w c' v := by
    intro c c' p v hc hp hr
    cases c' with
    | dat t x' =>
     simp only [cvC] at hc
     split at hc
     ·rename_i x hx
      injection hc with hc
      subst hc
      rw [hp.1]
      exact cdat_rep hsafe hread hx hr
     ·cases hc
    | ptr k' off' =>
     cases c with
     | ptr k off =>
      simp only [cvC] at hc
      cases hb : (lkB k k' s.ch && Nat.beq off off') with
      | false => rw [hb] at hc; cases hc
      | true =>
       simp only [Bool.and_eq_true] at hb
       have hk := lkB_iff hb.1
       obtain ⟨_, b, h1, h2⟩ := hr
       exact ⟨hpres k k' hk, b, by rw [hg' k k' hk]; exact h1, by rw [← beq_of hb.2]; exact h2⟩
     | _ => cases hc
    | elp k' i' sz' off' =>
     cases c with
     | elp k i sz off =>
      simp only [cvC] at hc
      cases hb : (lkB k k' s.ch && (Nat.beq sz sz' && Nat.beq off off')) with
      | false => rw [hb] at hc; cases hc
      | true =>
       rw [hb] at hc
       simp only [cond_true] at hc
       injection hc with hc
       subst hc
       simp only [Bool.and_eq_true] at hb
       have hk := lkB_iff hb.1
       obtain ⟨_, b, h1, h2⟩ := hr
       exact ⟨hpres k k' hk, b, by rw [hg' k k' hk]; exact h1, by rw [← beq_of hb.2.1, ← beq_of hb.2.2, hp.1]; exact h2⟩
     | _ => cases hc
    | ip t' x' off' =>
     cases c with
     | ip t x off =>
      simp only [cvC] at hc
      cases hb : Nat.beq off off' with
      | false => rw [hb] at hc; cases hc
      | true =>
       rw [hb] at hc
       simp only [cond_true] at hc
       split at hc
       ·rename_i ht
        subst ht
        injection hc with hc
        subst hc
        have := beq_of hb
        subst this
        have hx : x' = x := hp.1
        subst hx
        obtain ⟨ad, es, e, hs, hcell, hrep⟩ := hr
        exact ⟨ad, es, e, hsafe _ hs, hcell, Rep.keep (fun b hb => ⟨hsafe b hb, rfl⟩) t' es x' hrep⟩
       ·cases hc
     | ptr k off =>
      simp only [cvC] at hc
      split at hc
      ·rename_i cs hl
       cases hb : Nat.beq off off' with
       | false => rw [hb] at hc; cases hc
       | true =>
        rw [hb] at hc
        simp only [cond_true] at hc
        split at hc
        ·rename_i x hx
         injection hc with hc
         subst hc
         have := beq_of hb
         subst this
         have hxx : x' = x := hp.1
         subst hxx
         obtain ⟨b, arr, hgk, hsb, hbl, hall⟩ := hbox k cs hl
         obtain ⟨_, b', hg1, e⟩ := hr
         rw [hgk] at hg1
         injection hg1 with hg1
         subst hg1
         obtain ⟨v1, v2, e2, r1, r2⟩ := impl_rep hsafe hread t' hx hall
         have : v2 = [] := by cases v2 with | nil => rfl | cons => exact r2.elim
         subst this
         rw [List.append_nil] at e2
         refine ⟨⟨b, 0, none⟩, arr.toList, by rw [add_none, Nat.zero_add]; exact e, hsb, fun j u hu => ?_, by rw [e2]; exact r1⟩
         rw [add_none, Nat.zero_add, hbl.cell, ← Array.getElem?_toList]
         exact hu
        ·cases hc
      ·cases hc
     | _ => cases hc
    | all k' =>
     cases c with
     | all k =>
      simp only [cvC] at hc
      cases hb : (lkB k k' s.ch && !(memN k s.tr)) with
      | false => rw [hb] at hc; cases hc
      | true =>
       simp only [Bool.and_eq_true, Bool.not_eq_true'] at hb
       have hk := lkB_iff hb.1
       obtain ⟨_, h1, h2⟩ := hr
       exact ⟨hpres k k' hk, h1, fun t xs hl => by rw [hg' k k' hk]; exact h2 t xs (hseq k k' t xs hk hl hb.2)⟩
     | nilS =>
      simp only [cvC] at hc
      cases hb : memN k' s.vs with
      | false => rw [hb] at hc; cases hc
      | true =>
       have hv := List.all_eq_true.1 hvs _ (memN_iff.1 hb)
       simp only [Bool.and_eq_true, Bool.not_eq_true'] at hv
       obtain ⟨b, hr⟩ := hr
       refine ⟨hasM_iff hv.1, by subst hr; rfl, fun t xs hl => ?_⟩
       have : g' k' = none := by
        cases hi : lk k' (inv s.ch) with
        | none => exact congrFun (hgn k' hi) []
        | some k =>
         have := lk_map_snd ((lk_inv hn1 hn2).2 hi)
         rw [memN_iff.2 this] at hv
         cases hv.2
       rw [this]
       exact ⟨b, hr⟩
     | ref k off len =>
      simp only [cvC] at hc
      cases hb : (lkB k k' s.ch && memN k s.tr) with
      | false => rw [hb] at hc; cases hc
      | true =>
       rw [hb] at hc
       simp only [cond_true] at hc
       simp only [Bool.and_eq_true] at hb
       have hk := lkB_iff hb.1
       split at hc
       ·rename_i t0 xs0 hl0
        injection hc with hc
        subst hc
        obtain ⟨ho0, hlen, _⟩ := hp
        subst ho0
        subst hlen
        obtain ⟨_, h1, h2⟩ := hr
        refine ⟨hpres k k' hk, h1, fun t xs hl => ?_⟩
        have hl := SeqAt.toSeq hl0 hl
        rw [hl0] at hl
        injection hl with hl
        injection hl with e1 e2
        subst e1
        have e2 := eq_of_heq e2
        subst e2
        rw [hg' k k' hk]
        rcases lk_cvM hmem hp2 hl0 with ⟨k1, c, p, q1, q2, q3, q4⟩ | ⟨q1, _⟩
        ·have : k1 = k := by
          have a2 := (lk_inv hn1 hn2).1 hk
          rw [q1] at a2
          injection a2
         subst this
         cases c with
         | seq t1 xs1 =>
          simp only [cvCh] at q3
          split at q3
          ·rename_i ht
           subst ht
           obtain ⟨_, hx⟩ := h2 _ xs1 (.inl q2)
           rcases hx with ⟨hz, hn, a, ha⟩ | ⟨b, cap, arr, hg, e, k1, k2, k3, k4⟩
           ·rw [hn rfl, hz.symm.symm]; exact ⟨a, by rw [ha]⟩
           ·rw [hg]
            exact ⟨cap, arr, by rw [e, Nat.zero_mul], k1, k2, by rw [Nat.zero_add] at k3; exact k3, k4⟩
          ·cases q3
         | box cs => cases q3
         | opn => cases q3
         | gone => cases q3
        ·rw [(lk_inv hn1 hn2).1 hk] at q1; cases q1
       ·cases hc
     | _ => cases hc
    | ref k' off' len' =>
     cases c with
     | ref k off len =>
      simp only [cvC] at hc
      cases hb : (lkB k k' s.ch && !(memN k s.tr)) with
      | false => rw [hb] at hc; cases hc
      | true =>
       rw [hb] at hc
       simp only [cond_true] at hc
       injection hc with hc
       subst hc
       obtain ⟨e1, e2, _⟩ := hp
       subst e1
       subst e2
       simp only [Bool.and_eq_true, Bool.not_eq_true'] at hb
       have hk := lkB_iff hb.1
       obtain ⟨_, h1, h2⟩ := hr
       exact ⟨hpres k k' hk, h1, fun t xs hl => by rw [hg' k k' hk]; exact h2 t xs (hseq k k' t xs hk hl hb.2)⟩
     | _ => cases hc
    | row => cases hc
    | rlp => cases hc
    | nilS =>
     cases c with
     | nilS => exact hr
     | _ => cases hc
    | fn f' =>
     cases c with
     | fn f =>
      simp only [cvC] at hc
      split at hc
      ·rename_i hf; subst hf; exact hr
      ·cases hc
     | _ => cases hc
    | clo f' t' x' =>
     cases c with
     | clo f t x =>
      simp only [cvC] at hc
      split at hc
      ·rename_i hf
       subst hf
       split at hc
       ·rename_i ht
        subst ht
        injection hc with hc
        subst hc
        have hx : x' = x := hp.1
        subst hx
        obtain ⟨ad, es, e, hs, hcell, hrep⟩ := hr
        exact ⟨ad, es, e, hsafe _ hs, hcell, Rep.keep (fun b hb => ⟨hsafe b hb, rfl⟩) t' es x' hrep⟩
       ·cases hc
      ·cases hc
     | _ => cases hc
    | junk =>
     simp only [cvC] at hc
     cases hb : c.ok with
     | false => rw [hb] at hc; cases hc
     | true => exact CR_one hb hr
    | bad => cases hc
   have hcrs : ∀ cs cs' p vs, cvCs s (s.m0 st.mem) st'.mem cs cs' = some p → AllP p → All2 (CR g st.mem (cx.safe g st.mem w) w) cs vs → All2 (CR g' st'.mem (cx.safe g' st'.mem w) w) cs' vs := by
    intro cs
    induction cs with
    | nil =>
     intro cs' p vs hc hp hr
     cases cs' with
     | cons => cases hc
     | nil => cases vs with
      | nil => trivial
      | cons => exact hr.elim
    | cons c cs ih =>
     intro cs' p vs hc hp hr
     cases cs' with
     | nil => cases hc
     | cons c' cs' =>
      simp only [cvCs] at hc
      split at hc
      ·rename_i p1 p2 h1 h2
       injection hc with hc
       subst hc
       obtain ⟨hp1, hp2⟩ := hp.append
       cases vs with
       | nil => exact hr.elim
       | cons v vs => exact ⟨hcr c c' p1 v h1 hp1 hr.1, ih cs' p2 vs h2 hp2 hr.2⟩
      ·cases hc
   refine ⟨g', h.defers.keep (fun b hb => ⟨hsafe b hb, rfl⟩), h.size, fun t v' hl => ?_, fun k' c' hk => ?_, ?_, fun k' r' c' b hk hn hg => ?_, fun k' r' c' b hk hn hg => ?_, h.keep, fun p hp => ?_, h.gl⟩
   ·obtain ⟨v, p, h1, h2, h3⟩ := lk_cvFr hfr hp1 hl
    have hv := h.fr t v h1
    unfold cvV at h2
    split at h2
    ·split at h2
     ·exact hcr _ _ p _ h2 h3 hv
     ·cases h2
    ·split at h2
     ·obtain ⟨vs, e, hvs⟩ := hv
      exact ⟨vs, e, hcrs _ _ p vs h2 h3 hvs⟩
     ·cases h2
    ·cases h2
    ·cases h2
    ·trivial
   ·rcases hlive k' c' hk with ⟨k, c, p, q1, q2, q3, q4, q5, q6⟩ | ⟨q1, t, q2⟩
    ·have hch := h.mem k c q2
     rw [q6]
     cases c' with
     | box cs' =>
      cases c with
      | box cs =>
       obtain ⟨b, arr, e, hb, hall⟩ := hch
       exact ⟨b, arr, e, hb, hcrs cs cs' _ _ q3 q4 hall⟩
      | seq t xs => cases q3
      | opn => cases q3
      | gone => cases q3
     | opn => cases q3
     | gone => cases q3
     | seq t' xs' =>
      cases c with
      | box cs => cases q3
      | opn => cases q3
      | gone => cases q3
      | seq t xs =>
       simp only [cvCh] at q3
       split at q3
       ·rename_i ht
        subst ht
        have hsub : ∃ n, xs' = xs.take n := by
         cases htr : memN k s.tr with
         | true =>
          rw [htr] at q3
          simp only [cond_true] at q3
          injection q3 with q3
          subst q3
          exact ⟨_, q4.1⟩
         | false =>
          rw [htr] at q3
          simp only [cond_false] at q3
          injection q3 with q3
          subst q3
          have : xs' = xs := q4.1
          exact ⟨xs.length, by rw [this, List.take_length]⟩
        obtain ⟨n, hn⟩ := hsub
        unfold ChR at hch ⊢
        cases hgk : g.f k [] with
        | none =>
         rw [hgk] at hch
         have : xs = [] := hch
         subst this
         show xs' = []
         rw [hn]; simp
        | some b =>
         rw [hgk] at hch
         obtain ⟨arr, hb, hel⟩ := hch
         refine ⟨arr, hb, fun i hi => ?_⟩
         subst hn
         have hi' : i < xs.length := by
          have := List.length_take_le' n xs
          omega
         obtain ⟨es, k1, k2⟩ := (hel.keep (fun b hb => ⟨hsafe b hb, rfl⟩) (fun _ _ _ => rfl) : ElsO (cx.safe g' st'.mem w) w (g.f k) t' xs arr) i hi'
         refine ⟨es, k1, ?_⟩
         rw [List.getElem_take]
         exact k2
       ·cases q3
    ·subst q2
     rw [q1]
     rfl
   ·intro k1 k2 r1 r2 c1 c2 b hk1 hn1' hk2 hn2' hg1 hg2
    rcases hlive k1 c1 hk1 with ⟨q, d, p, a1, a2, a3, a4, a5, a6⟩ | ⟨a1, _⟩
    ·rcases hlive k2 c2 hk2 with ⟨q', d', p', b1, b2, b3, b4, b5, b6⟩ | ⟨b1, _⟩
     ·obtain ⟨e1, e2⟩ := h.injp q q' r1 r2 d d' b a2 (a5 r1) b2 (b5 r2) (by rw [← a6]; exact hg1) (by rw [← b6]; exact hg2)
      subst e1
      rw [a1] at b1
      injection b1 with b1
      exact ⟨b1, e2⟩
     ·rw [b1] at hg2; cases hg2
    ·rw [a1] at hg1; cases hg1
   ·rcases hlive k' c' hk with ⟨q, d, p, a1, a2, a3, a4, a5, a6⟩ | ⟨a1, _⟩
    ·exact h.basep q r' d b a2 (a5 r') (by rw [← a6]; exact hg)
    ·rw [a1] at hg; cases hg
   ·rcases hlive k' c' hk with ⟨q, d, p, a1, a2, a3, a4, a5, a6⟩ | ⟨a1, _⟩
    ·exact h.lt q r' d b a2 (a5 r') (by rw [← a6]; exact hg)
    ·rw [a1] at hg; cases hg
   ·have hmem' : p.1 ∈ own := by rw [← ho]; exact List.mem_map.2 ⟨p, hp, rfl⟩
    have hlk := lkB_iff (List.all_eq_true.1 hown _ hmem')
    exact ⟨by rw [hgf _ _ hlk]; exact (h.own p hp).1, hpres _ _ hlk⟩
  ·cases he

theorem HT.cv {Q : Exit → St → Prop} {c : Code} {s : CvS} {own : List Nat} {ps : List Prop} (st' : St) (ho : cx.own.map Prod.fst = own) (hF : s.fz = true → cx.FOK) (he : st.cv s own st' = some ps) (hp : AllP ps) (h : HT cx st' c Q) : HT cx st c Q :=
 fun _ a w hs => let ⟨g', hs'⟩ := hs.cv he hp ho hF; h g' a w hs'

end
end Go.Ide


/-
 Told by plain functions: rules for proofs that a program prints.
-/
namespace Go.Ide

def runN {σ ρ : Type} (f : σ → Option (σ ⊕ ρ)) : Nat → σ → Option ρ
 | 0, _ => none
 | n + 1, s => match f s with
  | some (.inl s') => runN f n s'
  | some (.inr r) => some r
  | none => none

theorem runN_mono {σ ρ : Type} {f : σ → Option (σ ⊕ ρ)} : ∀ {n m : Nat} {s : σ} {r : ρ}, n ≤ m → runN f n s = some r → runN f m s = some r
 | 0, _, _, _, _, h => by cases h
 | n + 1, 0, _, _, hle, _ => by omega
 | n + 1, m + 1, s, r, hle, h => by
  simp only [runN] at h ⊢
  cases hf : f s with
  | none => simp [hf] at h
  | some x =>
   cases x with
   | inr r' => rw [hf] at h; exact h
   | inl s' => rw [hf] at h; exact runN_mono (Nat.le_of_succ_le_succ hle) h

noncomputable def rounds {σ ρ : Type} (f : σ → Option (σ ⊕ ρ)) (s : σ) : Option ρ :=
 @dite (Option ρ) (∃ r, ∃ n, runN f n s = some r) (Classical.propDecidable _) (fun h => some (Classical.choose h)) (fun _ => none)

theorem rounds_iff {σ ρ : Type} {f : σ → Option (σ ⊕ ρ)} {s : σ} {r : ρ} : rounds f s = some r ↔ ∃ n, runN f n s = some r := by
 unfold rounds
 constructor
 ·intro h
  split at h
  ·rename_i hx
   injection h with h
   subst h
   exact Classical.choose_spec hx
  ·cases h
 ·rintro ⟨n, hn⟩
  have hx : ∃ r, ∃ n, runN f n s = some r := ⟨r, n, hn⟩
  rw [dif_pos hx]
  obtain ⟨m, hm⟩ := Classical.choose_spec hx
  have h1 := runN_mono (Nat.le_max_left n m) hn
  have h2 := runN_mono (Nat.le_max_right n m) hm
  rw [h1] at h2
  injection h2 with h2
  rw [h2]

theorem rounds_eq {σ ρ : Type} (f : σ → Option (σ ⊕ ρ)) (s : σ) : rounds f s = match f s with
  | some (.inl s') => rounds f s'
  | some (.inr r) => some r
  | none => none := by
 have key : ∀ r, rounds f s = some r ↔ (match f s with
  | some (.inl s') => rounds f s'
  | some (.inr r) => some r
  | none => none) = some r := by
  intro r
  rw [rounds_iff]
  constructor
  ·rintro ⟨n, hn⟩
   cases n with
   | zero => cases hn
   | succ n =>
    simp only [runN] at hn
    cases hf : f s with
    | none => rw [hf] at hn; cases hn
    | some x =>
     rw [hf] at hn
     cases x with
     | inl s' => exact rounds_iff.2 ⟨n, hn⟩
     | inr r' => exact hn
  ·intro h
   split at h
   ·rename_i s' hf
    obtain ⟨n, hn⟩ := rounds_iff.1 h
    exact ⟨n + 1, by simp only [runN]; rw [hf]; exact hn⟩
   ·rename_i r' hf
    exact ⟨1, by simp only [runN]; rw [hf]; exact h⟩
   ·cases h
 cases h1 : rounds f s with
 | some r => exact ((key r).1 h1).symm
 | none =>
  cases h2 : (match f s with
  | some (.inl s') => rounds f s'
  | some (.inr r) => some r
  | none => none) with
  | none => rfl
  | some r =>
   have := (key r).2 h2
   rw [h1] at this
   cases this

theorem of_bind {α β : Type} {o : Option α} {k : α → Option β} {r : β} (h : o.bind k = some r) : ∃ y, o = some y ∧ k y = some r := by
 cases o with
 | none => cases h
 | some y => exact ⟨y, rfl, h⟩

def guardP {β : Type} (p : Prop) [Decidable p] (k : Option β) : Option β := if p then k else none

theorem of_guard {β : Type} {p : Prop} [Decidable p] {k : Option β} {r : β} (h : guardP p k = some r) : p ∧ k = some r := by
 unfold guardP at h
 split at h
 ·rename_i hp; exact ⟨hp, h⟩
 ·cases h

theorem guard_pos {β : Type} {p : Prop} [Decidable p] {k : Option β} (h : p) : guardP p k = k := if_pos h

theorem of_bif {β : Type} {b : Bool} {x y : Option β} {r : β} (h : (bif b then x else y) = some r) : (b = true ∧ x = some r) ∨ (b = false ∧ y = some r) := by
 cases b with
 | true => exact .inl ⟨rfl, h⟩
 | false => exact .inr ⟨rfl, h⟩

abbrev wadd (k : IntKind) (a b : Int) : Int := k.wrap (a + b)
abbrev wsub (k : IntKind) (a b : Int) : Int := k.wrap (a - b)
abbrev wmul (k : IntKind) (a b : Int) : Int := k.wrap (a * b)
abbrev lenI {α : Type} (xs : List α) : Int := ((List.length xs : Nat) : Int)

section
variable {cx : Cx} {st : St} {P : Program} {N : Nat} {Q : Exit → St → Prop} {x y c : Code}

theorem HT.reg {id : Nat} {ops : List Oper} {rs : List OH} {st' : St} {cs : List Prop} (hP : cx.P = P) (hN : cx.N = N) (he : ireg P N ops ops rs st = some (st', cs)) (hc : AllP cs) (hq : Q .normal st') : HT cx st (.region id ops.toArray false) Q := by
 subst hP; subst hN; exact HT.region he hc hq

theorem HT.drw {id h : Nat} {ops : List Oper} {hrs : List HR} {tds : List (List Nat)} {rs : List OH} {ers : List ER} {st' : St} {cs cs' : List Prop} {nx : Nat} (hP : cx.P = P) (hN : cx.N = N) (hm : P.follows .mixedOrders = true)
  (hn : (hrs.length == h && Nat.ble h ops.length) = true) (hok : okFrom ops (hrs.map HR.D ++ tds) h 0 ops = true) (hh : ihead P N ops st (ops.take h) hrs [] st.nx = some (ers, cs, nx))
  (he : ireg P N ops (ops.drop h) rs (headSt st ers (fun _ => true) nx) = some (st', cs')) (hc : AllP cs) (hc' : AllP cs') (hq : Q .normal st') : HT cx st (.region id ops.toArray true) Q := by
 subst hP; subst hN; exact HT.draw hm hn hok hh he hc hc' hq

def Le (cx : Cx) (st st' : St) : Prop := ∀ g a w, Sim cx g st a w → ∃ g', Sim cx g' st' a w

theorem Le.cv {s : CvS} {own : List Nat} {ps : List Prop} {st' : St} (ho : cx.own.map Prod.fst = own) (hF : s.fz = true → cx.FOK) (he : st.cv s own st' = some ps) (hp : AllP ps) : Le cx st st' :=
 fun _ _ _ hs => hs.cv he hp ho hF

theorem Le.ht {st' : St} (h : Le cx st st') (hc : HT cx st' c Q) : HT cx st c Q := fun g a w hs => let ⟨g', hs'⟩ := h g a w hs; hc g' a w hs'

theorem Le.trans {st1 st2 st3 : St} (h1 : Le cx st1 st2) (h2 : Le cx st2 st3) : Le cx st1 st3 := fun g a w hs => let ⟨g1, h⟩ := h1 g a w hs; h2 g1 a w h

theorem HT.leQ (h : HT cx st c (fun e s => ∃ s', Le cx s s' ∧ Q e s')) : HT cx st c Q := fun g a w hs => by
 refine wp_mono (h g a w hs) fun e a' w' ⟨s, g', ⟨s', hle, hq⟩, hs'⟩ => ?_
 obtain ⟨g2, h2⟩ := hle g' a' w' hs'
 exact ⟨s', g2, hq, h2⟩

theorem Le.refl : Le cx st st := fun g _ _ hs => ⟨g, hs⟩

theorem HT.loopE {σ ρ : Type} {f : σ → Option (σ ⊕ ρ)} {s : σ} {r : ρ} (S : σ → St) (E : ρ → Exit × St) (h : rounds f s = some r) (hc : Q (E r).1 (E r).2)
  (round : ∀ s x, f s = some x → (∀ r', x = .inr r' → Q (E r').1 (E r').2) → HT cx (S s) c (loopQ (fun st' => ∃ s', x = .inl s' ∧ Le cx st' (S s')) Q)) : HT cx (S s) (.loop c) Q := by
 obtain ⟨n, hn⟩ := rounds_iff.1 h
 -- states that are as good as S s
 let I : Nat → St → Prop := fun n st' => ∃ s, Le cx st' (S s) ∧ runN f n s = some r
 have := HT.loop (cx := cx) (c := c) (Q := Q) (α := St) (I := I) (S := id) (n := n) (s := S s) ⟨s, Le.refl, hn⟩ (fun st' ⟨s, _, h0⟩ => by cases h0) (fun n st' ⟨s, hle, hr⟩ => by
  simp only [runN] at hr
  have hx : ∃ x, f s = some x ∧ (∀ r', x = .inr r' → r' = r) ∧ ∀ s', x = .inl s' → runN f n s' = some r := by
   split at hr
   ·rename_i s' hf; exact ⟨.inl s', hf, fun r' e => (by cases e), fun s'' e => (by injection e with e; subst e; exact hr)⟩
   ·rename_i r' hf; injection hr with hr; exact ⟨.inr r', hf, fun r'' e => (by injection e with e; rw [← e]; exact hr), fun s'' e => (by cases e)⟩
   ·cases hr
  obtain ⟨x, hf, h1, h2⟩ := hx
  refine hle.ht ((round s x hf fun r' e => by rw [h1 r' e]; exact hc).mono fun e st1 hq => ?_)
  cases e with
  | normal =>
   obtain ⟨s', e1, hle'⟩ := hq
   exact ⟨st1, rfl, s', hle', h2 s' e1⟩
  | _ => exact hq)
 exact this

theorem nil_test (g : GM) (m : Mem) (S : Nat → Prop) (w : World) {v : IVal} {val : Value} {t : Ty} {xs : List t.D} (hv : vdat m (.sl t) v = some xs) (hm : ReadM g m m (fun _ => True) w) (h : VR g m S w v val) : ∃ a n cap, val = .slice a n cap ∧ (a = none → xs = []) := by
 obtain ⟨cs, h1, h2⟩ := vdat_rep (S2 := fun _ => True) (fun _ _ => trivial) hm hv h
 obtain ⟨a, cap, e, _, hel⟩ := h2
 have : val = .slice a (List.length xs) cap := by
  unfold ValOf at h1
  rw [e] at h1
  simpa [Ty.isSt] using h1.symm
 refine ⟨a, _, cap, this, fun ha => ?_⟩
 cases xs with
 | nil => rfl
 | cons x xs =>
  obtain ⟨ad, es, e1, _⟩ := hel 0 (by simp)
  rw [ha] at e1; cases e1

end
end Go.Ide


/-
 A slice that is compared with nil: a test that nothing tells of, but that an empty slice's data are known.
-/
namespace Go.Ide

theorem run_equal_nil {P : Program} {w : World} {T e : TypeId} {a : Option Addr} {n cap : Nat} (hT : P.underlying T = some (.slice e)) :
  (Op.equal T (.slice a n cap) (.slice none 0 0)).run P w = .ok a.isNone w := by
 have h : ∀ d : Nat, (Op.equalIn (d + 1) T (.slice a n cap) (.slice none 0 0)).run P w = .ok a.isNone w := fun d => by
  rw [Op.equalIn]
  cases a <;> simp [run_underlying hT]
 exact h 9999

theorem run_guardNil {P : Program} {w : World} {T : TypeId} {x y : Operand} {a : Option Addr} {n cap : Nat} : (Go.eqGuard .eql T x y (.slice a n cap) (.slice none 0 0)).run P w = .ok () w := rfl

theorem run_eqlNil {P : Program} {w : World} {T e : TypeId} {a : Option Addr} {n cap : Nat} (hT : P.underlying T = some (.slice e)) : (Go.binOp .eql T (.slice a n cap) (.slice none 0 0)).run P w = .ok (.bool a.isNone) w := by
 have h2 : Go.binOp .eql T (.slice a n cap) (.slice none 0 0) = (do pure (.bool (← Op.equal T (.slice a n cap) (.slice none 0 0)))) := rfl
 rw [h2]
 simp only [Sem.run_bind, Result.andThen_ok, run_equal_nil hT, Sem.run_pure]

section
variable {cx : Cx} {st : St} {P : Program} {N : Nat} {Q : Exit → St → Prop} {y : Code}

theorem HT.isNil {id : Nat} {o1 o2 : Oper} {T T' e : TypeId} {t3 t4 : Tmp} {v : IVal} {t : Ty} {xs : List t.D} {st1 : St} (hP : cx.P = P) (hN : cx.N = N) (h1 : istep P N [o1, o2] o1 ⟨none, .no⟩ st = some (st1, [])) (hg : o2.guard = none)
  (hop : o2.op = .binOp .eql T (.tmp t3) (.const (.slice none 0 0)) T') (hd : o2.dst = some t4) (hlt : Nat.blt t4 N = true) (hT : P.underlying T = some (.slice e)) (hv : lk t3 st1.fr = some v) (hx : vdat st1.mem (.sl t) v = some xs)
  (k : ∀ b, (b = true → xs = []) → HT cx (st1.put (some t4) (.one (.dat .bool b))) y Q) : HT cx st (.seq (.region id [o1, o2].toArray false) y) Q := by
 subst hP; subst hN
 refine HT.seq fun g a w hs => wp_region_lit ?_
 refine wpList_step fun K hK => istep_sound hs h1 trivial fun g' a' w' hs' => hK a' w' ?_
 refine wpList_step fun K' hK' => ?_
 have hw : Region.wanted o2 (yielded [o1, o2].toArray a'.tmps) = true := by simp only [Region.wanted, hg]
 rw [if_pos hw]
 have hr : ReadM g' st1.mem st1.mem (fun _ => True) w' := fun k t xs hl => by
  refine ⟨hl, fun _ _ _ => trivial, ?_⟩
  have hc := hs'.mem k _ hl
  unfold ChR at hc
  cases hgk : g'.f k [] with
  | none => rw [show g' k = none from hgk]; rw [hgk] at hc; exact hc
  | some b =>
   rw [show g' k = some b from hgk]
   rw [hgk] at hc
   obtain ⟨arr, hb, hel⟩ := hc
   exact ⟨arr, hb, hel.keep (fun b _ => ⟨trivial, rfl⟩) fun _ _ _ => rfl⟩
 obtain ⟨ad, n, cap, e1, e2⟩ := nil_test _ _ _ _ hx hr (hs'.fr t3 v hv)
 unfold Oper.wp
 have he : (execOp a'.eval o2).run cx.P w' = .ok (.value (.bool ad.isNone)) w' := by
  have e3 : a'.eval (.tmp t3) = .slice ad n cap := e1
  have e4 : a'.eval (.const (.slice none 0 0)) = .slice none 0 0 := rfl
  simp only [execOp, hop, e3, e4, Sem.run_bind, run_guardNil, Result.andThen_ok, run_eqlNil hT, Sem.run_pure]
 rw [he]
 refine hK' _ _ ?_
 have hsim := hs'.put (v := .one (.dat .bool ad.isNone)) (val := .bool ad.isNone) (show CR g' st1.mem (cx.safe g' st1.mem w') w' (.dat .bool ad.isNone) (.bool ad.isNone) from rfl) (some t4) (fun t e => by injection e with e; subst e; exact Nat.lt_of_succ_le (by simpa [Nat.blt] using hlt))
 rw [hd]
 exact ⟨_, g', k ad.isNone (fun hb => e2 (by simpa using hb)), hsim⟩

end
end Go.Ide


/-
 The rules that printed proofs use.
-/
namespace Go.Ide

def St.keep (ks : List Nat) (st : St) : St := ⟨(ks.filterMap fun t => match lk t st.fr with
 | some v => some (t, v)
 | none => none), st.mem, st.nx⟩

theorem lk_keep {fr : Fr} {t : Nat} {v : IVal} : ∀ {ks : List Nat}, lk t (ks.filterMap fun t => match lk t fr with | some v => some (t, v) | none => none) = some v → lk t fr = some v
 | [], h => by simp [lk_nil] at h
 | k :: ks, h => by
  rw [List.filterMap_cons] at h
  split at h
  ·exact lk_keep h
  ·rename_i b hb
   split at hb
   ·rename_i v' hv'
    injection hb with hb
    subst hb
    rw [lk_cons] at h
    split at h
    ·rename_i e; subst e; rw [hv']; exact h
    ·exact lk_keep h
   ·cases hb

theorem Sim.keepS {cx : Cx} {g : GM} {st : St} {a : Act} {w : World} (ks : List Nat) (h : Sim cx g st a w) : Sim cx g (st.keep ks) a w :=
 h.congr (fun _ _ hv => lk_keep hv) fun _ => rfl

def keepO (ks : List Nat) : Option (St × List Prop) → Option (St × List Prop)
 | some (st, cs) => some (st.keep ks, cs)
 | none => none

theorem keepO_some {ks : List Nat} {o : Option (St × List Prop)} {st' : St} {cs : List Prop} (h : keepO ks o = some (st', cs)) : ∃ st1, o = some (st1, cs) ∧ st' = st1.keep ks := by
 unfold keepO at h
 split at h
 ·rename_i st1 cs1
  injection h with h
  injection h with h1 h2
  subst h2
  exact ⟨st1, rfl, h1.symm⟩
 ·cases h

def idraw (P : Program) (N : Nat) (ops : List Oper) (h : Nat) (hrs : List HR) (tds : List (List Nat)) (rs : List OH) (st : St) : Option (St × List Prop) :=
 bif (Nat.beq hrs.length h && Nat.ble h ops.length) && okFrom ops (hrs.map HR.D ++ tds) h 0 ops then (match ihead P N ops st (ops.take h) hrs [] st.nx with
  | some (ers, cs, nx) => (match ireg P N ops (ops.drop h) rs (headSt st ers (fun _ => true) nx) with
   | some (st', cs') => some (st', cs ++ cs')
   | none => none)
  | none => none) else none

theorem of_some {α : Type} {a b : α} (h : some a = some b) : a = b := by injection h
theorem of_some2 {α : Type} {a b : α} (h : some a = some b) : b = a := by injection h with h; exact h.symm

theorem allNil : AllP [] := trivial
theorem allCons {p : Prop} {r : List Prop} (h : p) (hr : AllP r) : AllP (p :: r) := ⟨h, hr⟩

noncomputable instance {t : Ty} {xs ys : List t.D} : Decidable (ShapeEq t xs ys) := Classical.propDecidable _

theorem natLt {α : Type} {xs : List α} {n : Int} (h : (0 : Int) ≤ n ∧ n < lenI xs) : Int.toNat n < List.length xs := by
 obtain ⟨h1, h2⟩ := h
 simp only [lenI] at h2
 omega

theorem trunc1 {α : Type} {xs : List α} {n : Int} (h : (0 : Int) ≤ n ∧ n ≤ lenI xs) : List.length (List.take (Int.toNat n) xs) = Int.toNat n := by
 obtain ⟨h1, h2⟩ := h
 simp only [lenI] at h2
 rw [List.length_take]
 omega

theorem trunc2 {α : Type} (n : Nat) (xs : List α) : List.take n xs = List.take (List.length (List.take n xs)) xs := by
 rw [List.length_take]
 rcases Nat.le_total n xs.length with h | h
 ·rw [Nat.min_eq_left h]
 ·rw [Nat.min_eq_right h, List.take_length, List.take_of_length_le h]

abbrev tI : Ty := .int .i64
abbrev tF : Ty := .flt .f32
abbrev tLI : Ty := .sl (.int .i64)
abbrev tLF : Ty := .sl (.flt .f32)
abbrev iV (x : Int) : IVal := .one (.dat (.int .i64) x)
abbrev iC (x : Int) : ICell := .dat (.int .i64) x
abbrev bV (x : Bool) : IVal := .one (.dat .bool x)
abbrev fV (x : Nat) : IVal := .one (.dat (.flt .f32) x)
abbrev lV (x : List Nat) : IVal := .one (.dat (.sl (.flt .f32)) x)
abbrev lC (x : List Nat) : ICell := .dat (.sl (.flt .f32)) x
abbrev nV (x : List Int) : IVal := .one (.dat (.sl (.int .i64)) x)
abbrev nC (x : List Int) : ICell := .dat (.sl (.int .i64)) x
abbrev oH : OH := ⟨none, .no⟩
abbrev oHs (n : Nat) : List OH := List.replicate n ⟨none, .no⟩
abbrev aV (c : Nat) : IVal := .one (.all c)
abbrev pV (c o : Nat) : IVal := .one (.ptr c o)

def slices_Clone {α : Type} (xs : List α) : Option (List α) := guardP (0 + List.length xs ≤ appMax) (some xs)

section
variable {cx : Cx} {st st' : St} {P : Program} {N : Nat} {Q : Exit → St → Prop} {x y c : Code}

theorem HT.keep (ks : List Nat) (h : HT cx (st.keep ks) c Q) : HT cx st c Q := fun g a w hs => h g a w (hs.keepS ks)

theorem drawS {id h : Nat} {ops : List Oper} {hrs : List HR} {tds : List (List Nat)} {rs : List OH} {cs : List Prop} (hP : cx.P = P) (hN : cx.N = N) (hm : P.follows .mixedOrders = true)
  (he : idraw P N ops h hrs tds rs st = some (st', cs)) (hc : AllP cs) (hq : Q .normal st') : HT cx st (.region id ops.toArray true) Q := by
 unfold idraw at he
 cases hb : ((Nat.beq hrs.length h && Nat.ble h ops.length) && okFrom ops (hrs.map HR.D ++ tds) h 0 ops) with
 | false => rw [hb] at he; cases he
 | true =>
  rw [hb] at he
  simp only [cond_true] at he
  simp only [Bool.and_eq_true] at hb
  split at he
  ·rename_i ers cs1 nx h1
   split at he
   ·rename_i st1 cs2 h2
    injection he with he
    injection he with e1 e2
    subst e1
    subst e2
    obtain ⟨hc1, hc2⟩ := hc.append
    exact HT.drw hP hN hm (by simp only [Bool.and_eq_true, beq_iff_eq]; exact ⟨beq_of hb.1.1, hb.1.2⟩) hb.2 h1 h2 hc1 hc2 hq
   ·cases he
  ·cases he

theorem HT.reg1 {id : Nat} {ops : List Oper} (ks : List Nat) (rs : List OH) (st' : St) {cs : List Prop} (hP : cx.P = P) (hN : cx.N = N) (he : keepO ks (ireg P N ops ops rs st) = some (st', cs)) (hc : AllP cs) (hq : HT cx st' y Q) : HT cx st (.seq (.region id ops.toArray false) y) Q := by
 obtain ⟨st1, h1, h2⟩ := keepO_some he
 subst h2
 exact HT.seq (HT.reg hP hN h1 hc (HT.keep ks hq))

def refsC : ICell → List Nat
 | .ptr c _ => [c]
 | .elp c _ _ _ => [c]
 | .all c => [c]
 | .ref c _ _ => [c]
 | .row c _ _ => [c]
 | .rlp c _ _ _ _ _ => [c]
 | _ => []

def refsV : IVal → List Nat
 | .one c => refsC c
 | .agg cs => cs.flatMap refsC
 | .tup ts => ts.flatMap fun t => t.2.flatMap refsC
 | _ => []

def refsH : Chunk → List Nat
 | .box cs => cs.flatMap refsC
 | .opn _ _ _ cs ks => cs.flatMap refsC ++ ks
 | _ => []

def gcM (m : Mem) : List Nat → Mem
 | [] => []
 | k :: ks => (match lk k m with
  | some c => (k, c) :: gcM m ks
  | none => gcM m ks)

def gcB (own ks ms : List Nat) (st : St) : Bool :=
 ((nodupB ms && (st.keep ks).fr.all fun p => (refsV p.2).all fun k => inL k ms) && ms.all fun k => match lk k st.mem with
  | some c => (refsH c).all fun q => inL q ms
  | none => false) && own.all fun k => inL k ms

def gcO (own ks ms : List Nat) : Option (St × List Prop) → Option (St × List Prop)
 | some (st, cs) => bif gcB own ks ms st then some (⟨(st.keep ks).fr, gcM st.mem ms, st.nx⟩, cs) else none
 | none => none

theorem gcO_some {own ks ms : List Nat} {st st' : St} {cs cs' : List Prop} (h : gcO own ks ms (some (st, cs)) = some (st', cs')) : gcB own ks ms st = true ∧ st' = ⟨(st.keep ks).fr, gcM st.mem ms, st.nx⟩ ∧ cs' = cs := by
 simp only [gcO] at h
 cases hb : gcB own ks ms st with
 | false => rw [hb] at h; cases h
 | true =>
  rw [hb] at h
  simp only [cond_true] at h
  injection h with h
  injection h with h1 h2
  exact ⟨rfl, h1.symm, h2.symm⟩

theorem lk_gcM {m : Mem} {k : Nat} : ∀ {ms : List Nat}, ms.Nodup → lk k (gcM m ms) = if k ∈ ms then lk k m else none
 | [], _ => by simp [gcM, lk_nil]
 | q :: ms, hn => by
  simp only [List.nodup_cons] at hn
  have ih := lk_gcM (m := m) (k := k) hn.2
  simp only [gcM]
  cases hq : lk q m with
  | none =>
   simp only
   rw [ih]
   by_cases e : k = q
   ·subst e; rw [if_neg hn.1, if_pos (by simp), hq]
   ·simp [e]
  | some c =>
   simp only
   rw [lk_cons, ih]
   by_cases e : k = q
   ·subst e; rw [if_pos rfl, if_pos (by simp), hq]
   ·rw [if_neg e]; simp [e]

theorem CR.sub {g : GM} {m m' : Mem} {S S' : Nat → Prop} {w : World} (hS : ∀ b, S b → S' b) {c : ICell} (hk : ∀ k, k ∈ refsC c → lk k m' = lk k m) {v : Value} (hr : CR g m S w c v) : CR g m' S' w c v := by
 have sq : ∀ k, lk k m' = lk k m → ∀ t xs, SeqAt m' k t xs → SeqAt m k t xs := fun k e t xs h => by unfold SeqAt at h ⊢; rw [e] at h; exact h
 cases c with
 | ptr k off => have e := hk k (by simp [refsC]); exact ⟨by rw [e]; exact hr.1, hr.2⟩
 | elp k i sz off => have e := hk k (by simp [refsC]); exact ⟨by rw [e]; exact hr.1, hr.2⟩
 | all k => have e := hk k (by simp [refsC]); exact ⟨by rw [e]; exact hr.1, hr.2.1, fun t xs h => hr.2.2 t xs (sq k e t xs h)⟩
 | ref k off len => have e := hk k (by simp [refsC]); exact ⟨by rw [e]; exact hr.1, hr.2.1, fun t xs h => hr.2.2 t xs (sq k e t xs h)⟩
 | row k i o => have e := hk k (by simp [refsC]); exact ⟨by rw [e]; exact hr.1, hr.2.1, fun t xs h => hr.2.2 t xs (by rw [← e]; exact h)⟩
 | rlp k i o j sz off =>
  have e := hk k (by simp [refsC])
  obtain ⟨h1, b, h2, h3⟩ := hr
  exact ⟨by rw [e]; exact h1, b, h2, fun t xs h => h3 t xs (by rw [← e]; exact h)⟩
 | dat t x => exact Rep.keep (fun b hb => ⟨hS b hb, rfl⟩) t [v] x hr
 | ip t x off =>
  obtain ⟨ad, es, e, hs, hcell, hrep⟩ := hr
  exact ⟨ad, es, e, hS _ hs, hcell, Rep.keep (fun b hb => ⟨hS b hb, rfl⟩) t es x hrep⟩
 | nilS => exact hr
 | fn f => exact hr
 | clo f t x =>
  obtain ⟨ad, es, e, hs, hcell, hrep⟩ := hr
  exact ⟨ad, es, e, hS _ hs, hcell, Rep.keep (fun b hb => ⟨hS b hb, rfl⟩) t es x hrep⟩
 | junk => exact hr
 | bad => trivial

theorem Sim.gc {cx : Cx} {g : GM} {st0 : St} {a : Act} {w : World} {own ks ms : List Nat} (h : Sim cx g st0 a w) (ho : cx.own.map Prod.fst = own) (hb : gcB own ks ms st0 = true) : Sim cx g ⟨(st0.keep ks).fr, gcM st0.mem ms, st0.nx⟩ a w := by
   have h := h.keepS ks
   unfold gcB at hb
   simp only [Bool.and_eq_true] at hb
   obtain ⟨⟨⟨hn, hfr⟩, hms⟩, hown⟩ := hb
   have hn := nodupB_spec hn
   have hin : ∀ k, k ∈ ms → lk k (gcM st0.mem ms) = lk k st0.mem := fun k hk => by rw [lk_gcM hn, if_pos hk]
   have hof : ∀ k ch, lk k (gcM st0.mem ms) = some ch → k ∈ ms ∧ lk k st0.mem = some ch := fun k ch hk => by
    rw [lk_gcM hn] at hk
    split at hk
    ·rename_i hm; exact ⟨hm, hk⟩
    ·cases hk
   have hsafe : ∀ b, cx.safe g st0.mem w b → cx.safe g (gcM st0.mem ms) w b := fun b ⟨h1, h2, h3⟩ => ⟨h1, h2, fun ⟨k, p, ch, q1, q2, q3⟩ => h3 ⟨k, p, ch, (hof k ch q1).2, q2, q3⟩⟩
   have hcr : ∀ c v, (∀ k, k ∈ refsC c → k ∈ ms) → CR g st0.mem (cx.safe g st0.mem w) w c v → CR g (gcM st0.mem ms) (cx.safe g (gcM st0.mem ms) w) w c v := fun c v hk hr => CR.sub hsafe (fun k hkk => hin k (hk k hkk)) hr
   have hcrs : ∀ cs vs, (∀ k, k ∈ cs.flatMap refsC → k ∈ ms) → All2 (CR g st0.mem (cx.safe g st0.mem w) w) cs vs → All2 (CR g (gcM st0.mem ms) (cx.safe g (gcM st0.mem ms) w) w) cs vs := fun cs vs hk hr =>
    hr.imp_mem fun c hc v hv => hcr c v (fun k hkk => hk k (List.mem_flatMap.2 ⟨c, hc, hkk⟩)) hv
   refine ⟨h.defers.keep (fun b hb => ⟨hsafe b hb, rfl⟩), h.size, fun t v hl => ?_, fun k ch hk => ?_, fun k k' p p' ch ch' b h1 h2 h3 h4 => h.injp k k' p p' ch ch' b (hof k ch h1).2 h2 (hof k' ch' h3).2 h4, fun k p ch b h1 => h.basep k p ch b (hof k ch h1).2, fun k p ch b h1 => h.lt k p ch b (hof k ch h1).2, h.keep, fun p hp => ?_, h.gl⟩
   ·have hv := h.fr t v hl
    have hk : ∀ k, k ∈ refsV v → k ∈ ms := fun k hk => inL_iff.1 (List.all_eq_true.1 (List.all_eq_true.1 hfr _ (lk_mem hl)) k hk)
    cases v with
    | one c => exact hcr c _ hk hv
    | agg cs => obtain ⟨vs, e, hvs⟩ := hv; exact ⟨vs, e, hcrs cs vs hk hvs⟩
    | tup ts =>
     obtain ⟨vs, e, hvs⟩ := hv
     refine ⟨vs, e, hvs.imp_mem fun t ht u hc => ?_⟩
     have hk2 : ∀ k, k ∈ t.2.flatMap refsC → k ∈ ms := fun k hkk => hk k (List.mem_flatMap.2 ⟨t, ht, hkk⟩)
     unfold CV at hc ⊢
     split at hc
     ·obtain ⟨us, e', hu⟩ := hc
      exact ⟨us, e', hcrs _ us hk2 hu⟩
     ·rename_i c e1 e2
      rw [e2] at hk2
      exact hcr _ _ (fun k hkk => hk2 k (by simpa using hkk)) hc
     ·exact hc.elim
    | und => exact hv
    | junk => trivial
   ·obtain ⟨hkm, hk0⟩ := hof k ch hk
    have hr := h.mem k ch hk0
    have hrf := List.all_eq_true.1 hms k hkm
    rw [hk0] at hrf
    have hrf : ∀ q, q ∈ refsH ch → q ∈ ms := fun q hq => inL_iff.1 (List.all_eq_true.1 hrf q hq)
    cases ch with
    | gone => trivial
    | box cs => obtain ⟨b, arr, e, hb, hall⟩ := hr; exact ⟨b, arr, e, hb, hcrs cs _ hrf hall⟩
    | seq t xs =>
     show ChR g (gcM st0.mem ms) (cx.safe g (gcM st0.mem ms) w) w (g.f k) _
     unfold ChR at hr ⊢
     cases hγ : g.f k [] with
     | none => rw [hγ] at hr; exact hr
     | some b =>
      rw [hγ] at hr
      obtain ⟨arr, q1, q2⟩ := hr
      exact ⟨arr, q1, q2.keep (fun b hb => ⟨hsafe b hb, rfl⟩) fun _ _ _ => rfl⟩
    | opn t xs i cs ks =>
     obtain ⟨hks, b, arr, q1, q2, q3, q4, es, q5, q6, q7⟩ := hr
     refine ⟨?_, b, arr, q1, q2, q3, fun j hj hne => ?_, es, q5, q6, hcrs cs es (fun q hq => hrf q (List.mem_append.2 (.inl hq))) q7⟩
     ·refine All2.of_get hks.length fun j o k1 hj hk1 => ?_
      obtain ⟨k1', hk1', r1, r2⟩ := All2.get j hks o hj
      rw [hk1] at hk1'
      injection hk1' with hk1'
      subst hk1'
      exact ⟨by show lk k1 (gcM st0.mem ms) ≠ none; rw [hin k1 (hrf k1 (List.mem_append.2 (.inr (List.mem_of_getElem? hk1))))]; exact r1, r2⟩
     ·obtain ⟨es2, r1, r2⟩ := q4 j hj hne
      exact ⟨es2, r1, ElR.keep (fun b hb => ⟨hsafe b hb, rfl⟩) t (fun _ _ _ => rfl) r2⟩
   ·refine ⟨(h.own p hp).1, ?_⟩
    show lk p.1 (gcM st0.mem ms) ≠ none
    rw [hin p.1 (inL_iff.1 (List.all_eq_true.1 hown p.1 (by rw [← ho]; exact List.mem_map.2 ⟨p, hp, rfl⟩)))]
    exact (h.own p hp).2

structure CxIs (cx : Cx) (P : Program) (N : Nat) (own : List Nat) : Prop where
 P : cx.P = P
 N : cx.N = N
 own : cx.own.map Prod.fst = own

theorem HT.rg2 {id : Nat} {ops : List Oper} {own : List Nat} (rs : List OH) (st' : St) {cs : List Prop} (hX : CxIs cx P N own) (he : gcO own (st'.fr.map Prod.fst) (st'.mem.map Prod.fst) (ireg P N ops ops rs st) = some (st', cs)) (hc : AllP cs) (hq : HT cx st' y Q) : HT cx st (.seq (.region id ops.toArray false) y) Q := by
 cases hi : ireg P N ops ops rs st with
 | none => rw [hi] at he; cases he
 | some p =>
  obtain ⟨st1, cs1⟩ := p
  rw [hi] at he
  obtain ⟨h1, h2, h3⟩ := gcO_some he
  subst h3
  refine HT.seq (HT.reg hX.P hX.N hi hc (show HT cx st1 y Q from fun g a w hs => hq g a w ?_))
  rw [h2]
  exact hs.gc hX.own h1

theorem Le.gc {own ks ms : List Nat} {o : Option (St × List Prop)} {st1 : St} {cs cs1 : List Prop} (hX : CxIs cx P N own) (ho : o = some (st1, cs1)) (he : gcO own ks ms o = some (st', cs)) : cs = cs1 ∧ Le cx st1 st' := by
 subst ho
 obtain ⟨h1, h2, h3⟩ := gcO_some he
 refine ⟨h3, fun g a w hs => ⟨g, ?_⟩⟩
 rw [h2]
 exact hs.gc hX.own h1

theorem HT.rgL {id : Nat} {ops : List Oper} {own : List Nat} (rs : List OH) (st' : St) {cs : List Prop} (hX : CxIs cx P N own) (he : gcO own (st'.fr.map Prod.fst) (st'.mem.map Prod.fst) (ireg P N ops ops rs st) = some (st', cs)) (hc : AllP cs) (hq : Q .normal st') : HT cx st (.region id ops.toArray false) Q := by
 cases hi : ireg P N ops ops rs st with
 | none => rw [hi] at he; cases he
 | some p =>
  obtain ⟨st1, cs1⟩ := p
  obtain ⟨h1, h2⟩ := Le.gc hX hi he
  subst h1
  exact HT.leQ (HT.reg hX.P hX.N hi hc ⟨st', h2, hq⟩)

theorem HT.drL {id : Nat} {ops : List Oper} {own : List Nat} (h : Nat) (hrs : List HR) (tds : List (List Nat)) (rs : List OH) (st' : St) {cs : List Prop} (hX : CxIs cx P N own) (hm : P.follows .mixedOrders = true)
  (he : gcO own (st'.fr.map Prod.fst) (st'.mem.map Prod.fst) (idraw P N ops h hrs tds rs st) = some (st', cs)) (hc : AllP cs) (hq : Q .normal st') : HT cx st (.region id ops.toArray true) Q := by
 cases hi : idraw P N ops h hrs tds rs st with
 | none => rw [hi] at he; cases he
 | some p =>
  obtain ⟨st1, cs1⟩ := p
  obtain ⟨h1, h2⟩ := Le.gc hX hi he
  subst h1
  exact HT.leQ (drawS hX.P hX.N hm hi hc ⟨st', h2, hq⟩)

theorem HT.dr2 {id : Nat} {ops : List Oper} {own : List Nat} (h : Nat) (hrs : List HR) (tds : List (List Nat)) (rs : List OH) (st' : St) {cs : List Prop} (hX : CxIs cx P N own) (hm : P.follows .mixedOrders = true)
  (he : gcO own (st'.fr.map Prod.fst) (st'.mem.map Prod.fst) (idraw P N ops h hrs tds rs st) = some (st', cs)) (hc : AllP cs) (hq : HT cx st' y Q) : HT cx st (.seq (.region id ops.toArray true) y) Q := by
 cases hi : idraw P N ops h hrs tds rs st with
 | none => rw [hi] at he; cases he
 | some p =>
  obtain ⟨st1, cs1⟩ := p
  rw [hi] at he
  obtain ⟨h1, h2, h3⟩ := gcO_some he
  subst h3
  refine HT.seq (drawS hX.P hX.N hm hi hc (show HT cx st1 y Q from fun g a w hs => hq g a w ?_))
  rw [h2]
  exact hs.gc hX.own h1

theorem HT.join {α : Type} (J : α → St) (C : α → Prop) (h1 : ∀ v, C v → HT cx (J v) y Q) (h2 : (∀ v, C v → HT cx (J v) y Q) → HT cx st x (thenQ cx y Q)) : HT cx st (.seq x y) Q := HT.seq (h2 h1)

theorem qThen (h : HT cx st y Q) : thenQ cx y Q .normal st := h
theorem qThenE {k : Nat} (h : Q (.exit k) st) : thenQ cx y Q (.exit k) st := h
theorem qThenR (h : Q .ret st) : thenQ cx y Q .ret st := h
theorem qBlock {id : Nat} (h : Q .normal st) : blockQ id Q .normal st := h
theorem qBlockX {id : Nat} (h : Q .normal st) : blockQ id Q (.exit id) st := by
 show if id = id then Q .normal st else Q (.exit id) st
 rw [if_pos rfl]; exact h
theorem qBlockR {id : Nat} (h : Q .ret st) : blockQ id Q .ret st := h
theorem qLoopE {J : St → Prop} {k : Nat} (h : Q (.exit k) st) : loopQ J Q (.exit k) st := h
theorem qLoopR {J : St → Prop} (h : Q .ret st) : loopQ J Q .ret st := h
theorem qLoopN {J : St → Prop} (h : J st) : loopQ J Q .normal st := h

theorem HT.cond1 {o : Operand} {b : Bool} (he : ev st.fr o = some (.one (.dat .bool b))) (hb : b = true) (h1 : HT cx st x Q) : HT cx st (.cond o x y) Q := HT.cond he (fun _ => h1) (fun h => by rw [hb] at h; cases h)
theorem HT.cond0 {o : Operand} {b : Bool} (he : ev st.fr o = some (.one (.dat .bool b))) (hb : b = false) (h1 : HT cx st y Q) : HT cx st (.cond o x y) Q := HT.cond he (fun h => by rw [hb] at h; cases h) (fun _ => h1)

end
end Go.Ide


/-
 What the statements' reading of arguments gives.
-/
namespace Go.Ide

mutual
def tyB (P : Program) : Nat → Ty → TypeId → Bool
 | 0, _, _ => false
 | n + 1, t, T => match t with
  | .int k => (match P.underlying T with
   | some (.int k') => k == k'
   | _ => false)
  | .flt k => (match P.underlying T with
   | some (.float k') => k == k'
   | _ => false)
  | .bool => (match P.underlying T with
   | some .bool => true
   | _ => false)
  | .str => (match P.underlying T with
   | some .string => true
   | _ => false)
  | .sl t => (match P.underlying T with
   | some (.slice e) => tyB P n t e && Nat.beq (P.cellsOf e) t.size
   | _ => false)
  | .st t => (match P.underlying T with
   | some (.struct fs) => fdB P n t 0 fs.toList && Nat.beq (P.cellsOf T) t.size
   | _ => false)
  | .pair _ _ => false
  | .own _ => false
  | .bx _ => false
def fdB (P : Program) : Nat → Ty → Nat → List Field → Bool
 | 0, _, _, _ => false
 | n + 1, t, off, fs => match fs with
  | [] => false
  | [f] => (tyB P n t f.type && Nat.beq f.offset off) && Nat.beq (P.cellsOf f.type) t.size
  | f :: fs => match t with
   | .pair a b => ((tyB P n a f.type && Nat.beq f.offset off) && Nat.beq (P.cellsOf f.type) a.size) && fdB P n b (off + a.size) fs
   | _ => false
end

section
variable {H : Type} {enc : TypeId × Value → H} {P : Program} {w : World} {base : Nat} {spare : Nat → Bool} {held : Bool}

def There (w : World) (b : Nat) : Prop := b < w.heap.size

def WfD : (t : Ty) → t.D → Prop
 | .int k, n => (Lit.int k n).wf = true
 | .flt k, b => ∃ b', fcanon k b' = b ∧ (Lit.float k b').wf = true
 | .bool, _ => True
 | .str, s => List.length s ≤ maxLen
 | .pair a b, x => WfD a x.1 ∧ WfD b x.2
 | .st t, x => WfD t x
 | .sl t, xs => List.length xs ≤ maxLen ∧ ∀ i (h : i < List.length xs), WfD t xs[i]
 | .bx t, xs => List.length xs ≤ maxLen ∧ ∀ i (h : i < List.length xs), WfD t xs[i]
 | .own t, xs => List.length xs ≤ maxLen ∧ ∀ i (h : i < List.length xs), WfD t xs[i]

theorem pick_list {α : Type} {R : Nat → α → Prop} : ∀ (n : Nat), (∀ i, i < n → ∃ x, R i x) → ∃ l : List α, l.length = n ∧ ∀ i (h : i < l.length), R i l[i]
 | 0, _ => ⟨[], rfl, fun i h => by simp at h⟩
 | n + 1, h => by
  obtain ⟨l, h1, h2⟩ := pick_list n fun i hi => h i (by omega)
  obtain ⟨x, hx⟩ := h n (by omega)
  refine ⟨l ++ [x], by simp [h1], fun i hi => ?_⟩
  simp at hi
  rcases Nat.lt_or_ge i n with hlt | hge
  ·rw [List.getElem_append_left (by omega)]; exact h2 i (by omega)
  ·have : i = n := by omega
   subst this
   rw [List.getElem_append_right (by omega)]
   simpa [h1] using hx

theorem kind_eq {k k' : IntKind} (h : (k == k') = true) : k = k' := by cases k <;> cases k' <;> first | rfl | cases h
theorem fkind_eq {k k' : FloatKind} (h : (k == k') = true) : k = k' := by cases k <;> cases k' <;> first | rfl | cases h

theorem rep_of_trod : ∀ (n : Nat),
  (∀ (t : Ty) (T : TypeId) (fuel : Nat) (cs : List Value) (y : DataW H × List MemPlace), tyB P n t T = true → DataW.trod enc P w base spare held fuel T cs = some y → ∃ x, Rep (There w) w t cs x ∧ WfD t x) ∧
  (∀ (t : Ty) (off : Nat) (fs : List Field) (fuel : Nat) (cs : List Value), fdB P n t off fs = true → (∀ f ∈ fs, ∃ y, DataW.trod enc P w base spare held fuel f.type ((cs.drop f.offset).take (P.cellsOf f.type)) = some y) → cs.length = off + t.size → ∃ x, Rep (There w) w t (cs.drop off) x ∧ WfD t x)
 | 0 => ⟨fun _ _ _ _ _ h _ => by simp [tyB] at h, fun _ _ _ _ _ h _ _ => by simp [fdB] at h⟩
 | n + 1 => by
  obtain ⟨ih1, ih2⟩ := rep_of_trod n
  refine ⟨fun t T fuel cs y h hy => ?_, fun t off fs fuel cs h hf hl => ?_⟩
  ·cases t with
   | int k =>
    simp only [tyB] at h
    split at h
    ·rename_i k' e3
     have hk := kind_eq h
     subst hk
     obtain ⟨m, rfl, _, hwf⟩ := DataW.trod_int e3 hy
     exact ⟨m, rfl, hwf⟩
    ·cases h
   | flt k =>
    simp only [tyB] at h
    split at h
    ·rename_i k' e3
     have hk := fkind_eq h
     subst hk
     cases fuel with
     | zero => simp [DataW.trod] at hy
     | succ fuel =>
      unfold DataW.trod at hy
      rw [e3] at hy
      split at hy
      case h_3 =>
       rename_i k1 k2 b1 h1
       injection h1 with h1
       injection h1 with h1
       subst h1
       split at hy
       ·rename_i hk
        obtain ⟨hk1, hk2⟩ := hk
        subst hk1
        exact ⟨_, ⟨b1, rfl, rfl⟩, b1, rfl, hk2⟩
       ·cases hy
      all_goals first | (rename_i h1; cases h1; done) | (rename_i h1 _; cases h1; done) | (rename_i h1 _ _; cases h1; done) | cases hy
    ·cases h
   | bool =>
    simp only [tyB] at h
    split at h
    ·rename_i e3
     obtain ⟨m, rfl, _⟩ := DataW.trod_bool e3 hy
     exact ⟨m, rfl, trivial⟩
    ·cases h
   | str =>
    simp only [tyB] at h
    split at h
    ·rename_i e3
     obtain ⟨m, rfl, _, hm⟩ := DataW.trod_string e3 hy
     exact ⟨m.data.toList, by simp [Rep], by simpa [WfD] using hm⟩
    ·cases h
   | sl t =>
    simp only [tyB] at h
    split at h
    ·rename_i e2 e3
     simp only [Bool.and_eq_true] at h
     obtain ⟨h1, h2⟩ := h
     have h2 := beq_of h2
     rcases Go.Deep.open_slice e3 hy with ⟨rfl, _⟩ | ⟨a, len, cap, m, f2, D, Pl, rfl, hb, hlc, hcm, hm, _, hel⟩
     ·exact ⟨[], ⟨none, 0, rfl, Nat.le_refl _, fun i hi => by simp at hi⟩, by simp [WfD]⟩
     ·have hlm : len ≤ m := by rw [hm]; split <;> omega
      obtain ⟨xs, hx1, hx2⟩ := pick_list (R := fun i (x : t.D) => There w a.block ∧ ∃ es, (∀ j v, es[j]? = some v → w.cell? (a.add (i * t.size + j)) = some v) ∧ Rep (There w) w t es x ∧ WfD t x) len fun i hi => by
       obtain ⟨cs', k1, k2⟩ := hel i (by omega)
       obtain ⟨x, k3, k4⟩ := ih1 t _ _ _ _ h1 k2
       obtain ⟨_, k5, k6⟩ := World.cells?_some k1
       have hpos : 0 < P.cellsOf e2 := by rw [h2]; exact t.size_pos
       refine ⟨x, World.cells?_block k1 hpos |> fun q => by simpa [There, add_block] using q, cs', fun j v hv => ?_, k3, k4⟩
       have hj : j < P.cellsOf e2 := by rw [← k5]; exact (List.getElem?_eq_some_iff.1 hv).1
       rw [← add_add, ← h2, k6 j hj]
       exact hv
      refine ⟨xs, ⟨some a, cap, by rw [hx1], by omega, fun i hi => ?_⟩, by rw [hx1]; omega, fun i hi => ?_⟩
      ·obtain ⟨q1, es, q2, q3, _⟩ := hx2 i hi
       exact ⟨a, es, rfl, q1, q2, q3⟩
      ·obtain ⟨_, _, _, _, q4⟩ := hx2 i hi
       exact q4
    ·cases h
   | pair a b => simp [tyB] at h
   | own t => simp [tyB] at h
   | bx t => simp [tyB] at h
   | st t =>
    simp only [tyB] at h
    split at h
    ·rename_i e2 e3
     simp only [Bool.and_eq_true] at h
     obtain ⟨h1, h2⟩ := h
     have h2 := beq_of h2
     obtain ⟨xs, f2, _, _, hl, hxs, hel⟩ := DataW.trod_struct e3 hy
     have := ih2 t 0 _ f2 cs h1 (fun f hf => by
      obtain ⟨i, hi⟩ := List.getElem?_of_mem hf
      have hi' : e2[i]? = some f := by rw [← Array.getElem?_toList]; exact hi
      have hlt : i < xs.length := by rw [hxs]; exact (Array.getElem?_eq_some_iff.1 hi').1
      exact ⟨xs[i], by rw [hel i f hi']; exact List.getElem?_eq_getElem hlt⟩) (by rw [hl, h2, Nat.zero_add])
     obtain ⟨x, k1, k2⟩ := this
     rw [List.drop_zero] at k1
     exact ⟨x, k1, k2⟩
    ·cases h
  ·cases fs with
   | nil => simp [fdB] at h
   | cons f fs =>
    cases fs with
    | nil =>
     simp only [fdB, Bool.and_eq_true] at h
     obtain ⟨⟨h1, h2⟩, h3⟩ := h
     have h2 := beq_of h2
     have h3 := beq_of h3
     obtain ⟨y, hy⟩ := hf f (by simp)
     obtain ⟨x, k1, k2⟩ := ih1 t _ _ _ _ h1 hy
     refine ⟨x, ?_, k2⟩
     rw [h2, h3, List.take_of_length_le (by rw [List.length_drop]; omega)] at k1
     exact k1
    | cons f2 fs =>
     cases t with
     | pair a b =>
      simp only [fdB, Bool.and_eq_true] at h
      obtain ⟨⟨⟨h1, h2⟩, h3⟩, h4⟩ := h
      have h2 := beq_of h2
      have h3 := beq_of h3
      obtain ⟨y, hy⟩ := hf f (by simp)
      obtain ⟨x, k1, k2⟩ := ih1 a _ _ _ _ h1 hy
      obtain ⟨z, k3, k4⟩ := ih2 b (off + a.size) _ fuel cs h4 (fun g hg => hf g (by simp only [List.mem_cons] at hg ⊢; exact .inr hg)) (by rw [hl]; simp [Ty.size]; omega)
      rw [h2, h3] at k1
      refine ⟨(x, z), ⟨_, _, ?_, k1, k3⟩, k2, k4⟩
      rw [← List.drop_drop]
      exact (List.take_append_drop _ _).symm
     | _ => simp [fdB] at h

end
end Go.Ide


/-
 From a contract to a statement.
-/
namespace Go.Ide
open Go.ChangeShapes Go.WideShapes Go.RowKit

section
variable {H : Type} {enc : TypeId × Value → H} {P : Program}

def parB (P : Program) (ts : List TypeId) : Bool := ts.all fun t => P.readableRec t && Nat.blt t P.types.size

theorem trodAll_below (hl : laidOutB P = true) {W W' : World} (hb : Below W.heap.size W W') : ∀ {ts : List TypeId} {vs : List Value} {ds : List (DataW H)} {p : List MemPlace}, parB P ts = true → DataW.TrodAll enc P W 0 (fun _ => true) true ts vs ds p → (∀ x ∈ p, x.block < W.heap.size) →
  DataW.TrodAll enc P W' 0 (fun b => decide (b < W.heap.size)) true ts vs ds p
 | [], [], [], p, _, h, _ => h
 | t :: ts, v :: vs, d :: ds, p, hp, h, hlt => by
  obtain ⟨p1, p2, h1, h2, rfl⟩ := h
  simp only [parB, List.all_cons, Bool.and_eq_true] at hp
  refine ⟨p1, p2, Below.trod hl hp.1.1 (Nat.lt_of_succ_le (by simpa [Nat.blt] using hp.1.2)) h1 hb (fun x hx => hlt x (by simp [hx])), trodAll_below hl hb (by simpa [parB] using hp.2) h2 (fun x hx => hlt x (by simp [hx])), rfl⟩

theorem law_post {f : Func} {s : ChangeSpec} {T : TypeId} {W W' : World} {args : Array Value} {ds gs : List (DataW H)} {before : List MemPlace} (hl : laidOutB P = true) (hpar : parB P f.params.toList = true) (hv : s.vars = []) (hr : f.resultTypes = #[T]) (hT : P.underlying T = some .bool)
  (hfn : s.fn H ds = { results := [.lit (.bool true)], args := ds }) (hW : DataW.Whole enc P f.params.toList s.vars false W args.toList ds gs before) (hb : Below W.heap.size W W') : s.post enc P f false true false false W args (.bool true) W' := by
 have hW' := hW
 obtain ⟨p, q, hA, hV, rfl, hfz, hnd⟩ := hW
 rw [hv] at hV
 obtain ⟨rfl, rfl⟩ := trodVars_none hV
 have hfn' : s.fn H (ds ++ []) = { results := [.lit (.bool true)], args := ds } := by rw [List.append_nil]; exact hfn
 refine ⟨ds, [], p ++ [], [], p, [], hW', ?_, ?_, ?_, hb.frame _, fun h => by cases h⟩
 ·rw [hfn', hr]
  exact trodAll_mk1 ⟨1, by simp [DataW.trod, hT, Value.cells]⟩
 ·rw [hfn']
  exact trodAll_below hl hb hpar hA fun x hx => hW'.lt x (by simp [hx])
 ·rw [hv, hfn']
  rfl

theorem valOf_ok {n : Nat} {t : Ty} {T : TypeId} {W : World} {r : Reach} {base : Nat} {v : Value} (hc : tyB P n t T = true) (h : Value.okWide P W r base T v) : ValOf t v.cells.toList v := by
 cases n with
 | zero => simp [tyB] at hc
 | succ n =>
  cases t <;> simp only [tyB] at hc
  case pair => cases hc
  case own => cases hc
  case bx => cases hc
  case st t =>
   split at hc
   ·rename_i fs e
    unfold Value.okWide at h
    rw [e] at h
    obtain ⟨cs, rfl, _⟩ := h
    simp [ValOf, Ty.isSt, Value.cells]
   ·cases hc
  all_goals
   split at hc
   ·rename_i e
    simp only [Value.okWide, e, Cell.okWide, Cell.ok] at h
    cases v <;> first | (simp [ValOf, Ty.isSt, Value.cells]; done) | (simp at h; done) | exact h.elim
   ·cases hc

def immArgs (l : List TD) : List Arg := l.map fun d => .imm d.t d.x

def tysB (P : Program) : List Ty → List TypeId → Bool
 | [], [] => true
 | t :: ts, T :: Ts => tyB P 40 t T && tysB P ts Ts
 | _, _ => false

theorem args_of_trod {W : World} {base : Nat} {spare : Nat → Bool} {held : Bool} {r : Reach} {b0 : Nat} : ∀ {ts : List Ty} {Ts : List TypeId} {vs : List Value} {ds : List (DataW H)} {p : List MemPlace}, tysB P ts Ts = true → DataW.TrodAll enc P W base spare held Ts vs ds p →
  (∀ (j : Nat) t v, Ts[j]? = some t → vs[j]? = some v → Value.okWide P W r b0 t v) → ∃ l : List TD, l.map TD.t = ts ∧ (∀ d ∈ l, WfD d.t d.x) ∧ ArgsR (There W) W (immArgs l) vs (l.map fun _ => [])
 | [], [], [], [], p, _, _, _ => ⟨[], rfl, fun d hd => by simp at hd, trivial⟩
 | t :: ts, T :: Ts, v :: vs, d :: ds, p, hc, h, hok => by
  obtain ⟨p1, p2, ⟨fuel, h1⟩, h2, rfl⟩ := h
  simp only [tysB, Bool.and_eq_true] at hc
  obtain ⟨x, k1, k2⟩ := (rep_of_trod 40).1 t T fuel _ _ hc.1 h1
  obtain ⟨l, k3, k4, k5⟩ := args_of_trod hc.2 h2 fun j t v hj hv => hok (j + 1) t v (by simpa using hj) (by simpa using hv)
  refine ⟨⟨t, x⟩ :: l, by simp [k3], fun d hd => ?_, ⟨rfl, _, valOf_ok hc.1 (hok 0 T v rfl rfl), k1⟩, k5⟩
  rcases List.mem_cons.1 hd with e | hd
  ·subst e; exact k2
  ·exact k4 d hd
 | [], _ :: _, _, _, _, hc, _, _ => by simp [tysB] at hc
 | _ :: _, [], _, _, _, hc, _, _ => by simp [tysB] at hc

theorem flat_nil {α β : Type} : ∀ (l : List α), (l.map fun _ => ([] : List β)).flatten = []
 | [] => rfl
 | _ :: l => by simp

theorem res_true {S : Nat → Prop} {w : World} {v : Value} {F : List (List Nat → Option Nat)} (h : ResR S w [⟨false, .bool, true⟩] v F) : v = .bool true := by
 obtain ⟨vs, h1, h2⟩ := h
 cases vs with
 | nil => exact h1.elim
 | cons u vs =>
  obtain ⟨F1, F2, _, h3, h4⟩ := h1
  cases vs with
  | cons => exact h4.elim
  | nil =>
   have h2 : v = u := h2
   subst h2
   simp only [RVR] at h3
   obtain ⟨_, cs, h5, h6⟩ := h3
   have h6 : cs = [.bool true] := h6
   subst h6
   have h5 : [Value.bool true] = [v] := h5
   simpa using h5.symm

theorem law_run {f : FuncId} {fn : Func} {s : ChangeSpec} {T : TypeId} {ts : List Ty} {W : World} {base : Nat} {args : Array Value} {ds gs : List (DataW H)} {before : List MemPlace} (hl : laidOutB P = true) (hpar : parB P fn.params.toList = true) (hv : s.vars = []) (hr : fn.resultTypes = #[T]) (hT : P.underlying T = some .bool)
  (hts : tysB P ts fn.params.toList = true) (hfn : ds.length = ts.length → s.fn H ds = { results := [.lit (.bool true)], args := ds })
  (hall : ∀ l : List TD, l.map TD.t = ts → (∀ d ∈ l, WfD d.t d.x) → CallOK P f (immArgs l) [⟨false, .bool, true⟩] [])
  (hval : ∀ (j : Nat) t v, fn.params[j]? = some t → args[j]? = some v → Value.okWide P W .any base t v) (hgl : Glob.ok W (There W)) (hW : DataW.Whole enc P fn.params.toList s.vars false W args.toList ds gs before) :
  Calls P f args W fun e W' => ∃ v, e = .returned v ∧ s.post enc P fn false true false false W args v W' := by
 have hW' := hW
 obtain ⟨p, q, hA, hV, rfl, hfz, hnd⟩ := hW
 obtain ⟨l, k1, k2, k3⟩ := args_of_trod (r := .any) (b0 := base) hts hA fun j t v hj hv => hval j t v (by simpa using hj) (by simpa using hv)
 have hds : ds.length = ts.length := by
  have aux : ∀ {Ts : List TypeId} {vs : List Value} {ds : List (DataW H)} {p : List MemPlace}, DataW.TrodAll enc P W 0 (fun _ => true) true Ts vs ds p → ds.length = Ts.length := by
   intro Ts
   induction Ts with
   | nil => intro vs ds p h; obtain ⟨_, rfl, _⟩ := trodAll_nil h; rfl
   | cons T Ts ih =>
    intro vs ds p h
    obtain ⟨v, vs', d, ds', p, q, rfl, rfl, rfl, _, h2⟩ := trodAll_cons h
    simp [ih h2]
  have aux2 : ∀ {ts : List Ty} {Ts : List TypeId}, tysB P ts Ts = true → ts.length = Ts.length := by
   intro ts
   induction ts with
   | nil => intro Ts h; cases Ts with
    | nil => rfl
    | cons => simp [tysB] at h
   | cons t ts ih => intro Ts h; cases Ts with
    | nil => simp [tysB] at h
    | cons T Ts => simp only [tysB, Bool.and_eq_true] at h; simp [ih h.2]
  rw [aux hA, aux2 hts]
 obtain ⟨_, hcall⟩ := hall l k1 k2
 have hflat := flat_nil (β := List Nat → Option Nat) l
 have := hcall W (There W) args.toList (l.map fun _ => []) [] (by rw [hflat]; exact BlkA.nil) (by rw [hflat]; exact InjA.nil) (fun b hb => ⟨hb, by simp⟩) (fun b hb => by simp at hb) k3 hgl
 rw [show args.toList.toArray = args from by simp] at this
 refine this.mono fun e W' ⟨v, A', F', e1, _, _, h1, _, h4, _⟩ => ?_
 have hvt := res_true h1
 subst hvt
 exact ⟨_, e1, law_post hl hpar hv hr hT (hfn hds) hW' ⟨h4.os, h4.tape, h4.output, h4.size, fun k hk => h4.block k hk (by simp)⟩⟩

end
end Go.Ide


/-
 Laws of loops that plain functions tell.
-/
namespace Go.Ide

section
variable {σ ρ : Type} {f g : σ → Option (σ ⊕ ρ)}

end
end Go.Ide


/-
 Loops that count; two loops side by side; sums in range.
-/
namespace Go.Ide
open Go.IntWalk

def forS {σ : Type} (g : Nat → σ → σ) : Nat → Nat → σ → σ
 | 0, _, s => s
 | k + 1, i, s => forS g k (i + 1) (g i s)

section
variable {σ τ ρ : Type}

theorem rounds_forS {f : τ → Option (τ ⊕ ρ)} (mk : Nat → σ → τ) (g : Nat → σ → σ) (e : σ → ρ) {n : Nat} (I : Nat → σ → Prop)
  (hstep : ∀ i s, i < n → I i s → f (mk i s) = some (.inl (mk (i + 1) (g i s))) ∧ I (i + 1) (g i s))
  (hend : ∀ s, I n s → f (mk n s) = some (.inr (e s))) : ∀ (k i : Nat) (s : σ), i + k = n → I i s → rounds f (mk i s) = some (e (forS g k i s)) ∧ I n (forS g k i s)
 | 0, i, s, hi, h => by
  have : i = n := by omega
  subst this
  rw [rounds_eq, hend s h]
  exact ⟨rfl, h⟩
 | k + 1, i, s, hi, h => by
  obtain ⟨h1, h2⟩ := hstep i s (by omega) h
  rw [rounds_eq, h1]
  exact rounds_forS mk g e I hstep hend k (i + 1) (g i s) (by omega) h2

def allN (p : Nat → Bool) : Nat → Nat → Bool
 | 0, _ => true
 | k + 1, i => p i && allN p k (i + 1)

theorem allN_iff {p : Nat → Bool} : ∀ {k i : Nat}, allN p k i = true ↔ ∀ j, i ≤ j → j < i + k → p j = true
 | 0, i => by simp only [allN, true_iff]; intro j h1 h2; omega
 | k + 1, i => by
  simp only [allN, Bool.and_eq_true, allN_iff (k := k)]
  constructor
  ·rintro ⟨h1, h2⟩ j hj hj2
   by_cases e : j = i
   ·rw [e]; exact h1
   ·exact h2 j (by omega) (by omega)
  ·intro h
   exact ⟨h i (Nat.le_refl _) (by omega), fun j hj hj2 => h j (by omega) (by omega)⟩

theorem rounds_all {f : τ → Option (τ ⊕ ρ)} (mk : Nat → τ) (p : Nat → Bool) (a b : ρ) {n : Nat}
  (hstep : ∀ i, i < n → f (mk i) = some (bif p i then .inl (mk (i + 1)) else .inr b)) (hend : f (mk n) = some (.inr a)) : ∀ (k i : Nat), i + k = n → rounds f (mk i) = some (bif allN p k i then a else b)
 | 0, i, hi => by
  have : i = n := by omega
  subst this
  rw [rounds_eq, hend]
  rfl
 | k + 1, i, hi => by
  rw [rounds_eq, hstep i (by omega)]
  simp only [allN]
  cases p i with
  | true => simp only [cond_true, Bool.true_and]; exact rounds_all mk p a b hstep hend k (i + 1) (by omega)
  | false => rfl

theorem rounds_inv {f : σ → Option (σ ⊕ ρ)} (R : Nat → σ → Prop) (Q : ρ → Prop)
  (step : ∀ n s, R n s → (∃ n' s', n' < n ∧ f s = some (.inl s') ∧ R n' s') ∨ (∃ r, f s = some (.inr r) ∧ Q r)) :
  ∀ (n : Nat) (s : σ), R n s → ∃ r, rounds f s = some r ∧ Q r := by
 intro n
 induction n using Nat.strongRecOn with
 | _ n ih =>
  intro s h
  rw [rounds_eq f s]
  rcases step n s h with ⟨n', s', hn, h1, h3⟩ | ⟨r, h1, h3⟩
  ·rw [h1]
   exact ih n' hn s' h3
  ·rw [h1]
   exact ⟨r, rfl, h3⟩

end

theorem waddI {a b : Int} (h : -9223372036854775808 ≤ a + b ∧ a + b ≤ 9223372036854775807) : wadd .i64 a b = a + b := i64_in _ h
theorem wsubI {a b : Int} (h : -9223372036854775808 ≤ a - b ∧ a - b ≤ 9223372036854775807) : wsub .i64 a b = a - b := i64_in _ h
theorem wmulI {a b : Int} (h : -9223372036854775808 ≤ a * b ∧ a * b ≤ 9223372036854775807) : wmul .i64 a b = a * b := i64_in _ h

theorem nextN {i n : Nat} (h : i < n) (hn : n ≤ 4294967296) : wadd .i64 (i : Int) 1 = ((i + 1 : Nat) : Int) := by
 rw [show ((i + 1 : Nat) : Int) = (i : Int) + 1 from by omega]; exact i64_in _ (by omega)

theorem ltN {i n : Nat} (h : i < n) : decide ((i : Int) < (n : Int)) = true := by simp; omega
theorem geN {i n : Nat} (h : n ≤ i) : decide ((i : Int) < (n : Int)) = false := by simp; omega

theorem idxN {i n : Nat} (h : i < n) : (0 : Int) ≤ (i : Int) ∧ (i : Int) < (n : Int) := ⟨by omega, by omega⟩

theorem cellN {c i k : Nat} (hc : c ≤ 1000) (hi : i < 1000) (hk : k < 1000) : wadd .i64 (wmul .i64 (i : Int) (c : Int)) (k : Int) = ((i * c + k : Nat) : Int) := by
 have h : i * c ≤ 1000 * 1000 := Nat.mul_le_mul (by omega) hc
 rw [wmulI (by rw [← Int.natCast_mul]; omega), ← Int.natCast_mul, waddI (by omega)]
 omega

theorem cell_lt {c i k : Nat} (hi : i < c) (hk : k < c) : i * c + k < c * c := by
 have : i * c + c ≤ c * c := by
  rw [← Nat.succ_mul]
  exact Nat.mul_le_mul_right c hi
 omega

end Go.Ide


/-
 Loops over slices that copy, compare, mark.
-/
namespace Go.Ide
open Go.IntWalk

section
variable {α : Type}

theorem drop_cons {xs : List α} {i : Nat} (h : i < xs.length) (d : α) : xs.drop i = xs.getD i d :: xs.drop (i + 1) := by
 rw [List.drop_eq_getElem_cons h, List.getD_eq_getElem?_getD, List.getElem?_eq_getElem h]; rfl

theorem set_at {l r : List α} {a b : α} {i : Nat} (h : l.length = i) : (l ++ a :: r).set i b = l ++ b :: r := by
 subst h
 induction l with
 | nil => rfl
 | cons x l ih => simp [ih]

theorem take_snoc {xs : List α} {i : Nat} (h : i < xs.length) (d : α) : xs.take (i + 1) = xs.take i ++ [xs.getD i d] := by
 rw [List.take_add_one, List.getD_eq_getElem?_getD, List.getElem?_eq_getElem h]; rfl

end

end Go.Ide


/-
 Loops that append.
-/
namespace Go.Ide
open Go.IntWalk

section
variable {α : Type}

theorem loop_app {f : Int × List α → Option ((Int × List α) ⊕ List α)} (h : Nat → α) (n : Nat) (base : List α)
  (hstep : ∀ (i : Nat) (out : List α), i < n → out.length = base.length + i → f ((i : Int), out) = some (.inl (((i + 1 : Nat) : Int), out ++ [h i])))
  (hend : ∀ out : List α, f ((n : Int), out) = some (.inr out)) : rounds f ((0 : Int), base) = some (base ++ (List.range n).map h) := by
 have := rounds_forS (f := f) (fun i out => (((i : Nat) : Int), out)) (fun i out => out ++ [h i]) id (n := n) (fun i out => out = base ++ (List.range i).map h)
  (fun i out hi ho => ⟨hstep i out hi (by rw [ho]; simp), by rw [ho]; simp [List.range_succ]⟩)
  (fun out _ => hend out) n 0 base (by omega) (by simp)
 simp only [Int.natCast_zero] at this
 rw [this.1, show id (forS _ n 0 base) = forS _ n 0 base from rfl, this.2]

end

end Go.Ide


/-
 Facts about floats.
-/
namespace Go.Ide

theorem nearest_word32 (neg : Bool) (m : Nat) (p : Int) : ∃ r, r ≤ 2139095040 ∧ Ieee.single.nearest neg m p = Ieee.single.word neg r := by
 have e3 : Ieee.single.infRung = 2139095040 := by decide
 unfold Ieee.Format.nearest
 split
 ·exact ⟨0, by omega, rfl⟩
 ·exact ⟨_, by rw [e3]; exact Nat.min_le_right _ _, rfl⟩

end Go.Ide


/-
 Bounds of floats of 32 bits.
-/
namespace Go.Ide

def bd (x K : Nat) : Prop := x % 2147483648 ≤ K * 8388608

theorem bd.mono {x K L : Nat} (h : bd x K) (hl : K ≤ L) : bd x L := Nat.le_trans h (Nat.mul_le_mul_right _ hl)

theorem sw32 : Ieee.single.signWeight = 2147483648 := by decide
theorem bi32 : Ieee.single.binade = 8388608 := by decide
theorem ir32 : Ieee.single.infRung = 2139095040 := by decide
theorem lp32 : Ieee.single.leastPlace = -149 := by decide

theorem read_lo {x : Nat} (h : x % 2147483648 < 8388608) : Ieee.single.read x = .number (x / 2147483648 % 2 == 1) (x % 2147483648) (-149 + ((0 : Nat) : Int)) := by
 unfold Ieee.Format.read
 simp only [sw32, bi32, ir32, lp32]
 rw [if_pos h]
 rfl

theorem read_hi {x : Nat} (h : 8388608 ≤ x % 2147483648) (h2 : x % 2147483648 < 2139095040) : Ieee.single.read x = .number (x / 2147483648 % 2 == 1) (8388608 + x % 2147483648 % 8388608) (-149 + ((x % 2147483648 / 8388608 - 1 : Nat) : Int)) := by
 unfold Ieee.Format.read
 simp only [sw32, bi32, ir32, lp32]
 rw [if_neg (by omega), if_pos h2]

theorem read_bd {x K : Nat} (h : bd x K) (h2 : 2 ≤ K) (h3 : K ≤ 254) : ∃ s m j, Ieee.single.read x = .number s m (-149 + ((j : Nat) : Int)) ∧ m * 2 ^ j ≤ 2 ^ (K + 22) := by
 unfold bd at h
 by_cases hlo : x % 2147483648 < 8388608
 ·refine ⟨_, _, _, read_lo hlo, ?_⟩
  have : 2 ^ 24 ≤ 2 ^ (K + 22) := Nat.pow_le_pow_right (by omega) (by omega)
  omega
 ·refine ⟨_, _, _, read_hi (by omega) (by omega), ?_⟩
  generalize x % 2147483648 = r at *
  have hq : r / 8388608 ≤ K := by omega
  by_cases he : r / 8388608 = K
  ·have h0 : r % 8388608 = 0 := by omega
   rw [h0, he, show K + 22 = 23 + (K - 1) by omega, Nat.pow_add 2 23 (K - 1)]
   exact Nat.le_refl _
  ·have e : K + 22 = 24 + (K - 2) := by omega
   have h1 : 2 ^ (r / 8388608 - 1) ≤ 2 ^ (K - 2) := Nat.pow_le_pow_right (by omega) (by omega)
   rw [e, Nat.pow_add 2 24 (K - 2)]
   refine Nat.mul_le_mul ?_ h1
   omega

theorem cut_le {neg : Bool} {n drop B : Nat} (h : n ≤ B * 2 ^ drop) : Ieee.Toward.cut .even neg n drop ≤ B := by
 unfold Ieee.Toward.cut
 simp only [Nat.one_shiftLeft]
 by_cases hd : drop ≤ n.log2 + 2
 ·rw [Nat.min_eq_left hd]
  have hp : 0 < 2 ^ drop := Nat.pos_of_ne_zero (by simp)
  generalize 2 ^ drop = g at *
  have hdm := Nat.div_add_mod n g
  have hml := Nat.mod_lt n hp
  have hB : n / g ≤ B := by
   rw [Nat.div_le_iff_le_mul_add_pred hp]
   have : B * g = g * B := Nat.mul_comm _ _
   omega
  by_cases he : n / g = B
  ·have : n % g = 0 := by
    rw [he] at hdm
    have : B * g = g * B := Nat.mul_comm _ _
    omega
   rw [this, he]
   have hg : (g == 0) = false := beq_eq_false_iff_ne.2 (by omega)
   simp [hg]
  ·have : ∀ b : Bool, b.toNat ≤ 1 := by decide
   have := this (decide (g < 2 * (n % g)) || g == 2 * (n % g) && n / g % 2 == 1)
   omega
 ·rw [Nat.min_eq_right (by omega)]
  have hlt : n < 2 ^ (n.log2 + 1) := Nat.lt_log2_self
  have hg : 2 ^ (n.log2 + 2) = 2 * 2 ^ (n.log2 + 1) := by rw [Nat.pow_succ]; omega
  rw [Nat.div_eq_of_lt (by omega), Nat.mod_eq_of_lt (by omega)]
  simp [show ¬ (2 ^ (n.log2 + 2) < 2 * n) by omega, show ¬ (2 ^ (n.log2 + 2) = 2 * n) by omega]

theorem word_mod32 {s : Bool} {r : Nat} (h : r ≤ 2139095040) : Ieee.single.word s r % 2147483648 = r := by
 unfold Ieee.Format.word
 cases s with
 | true => simp only [if_true, sw32]; omega
 | false => simp only [Bool.false_eq_true, if_false]; omega

theorem nearest_bd {neg : Bool} {mag j K : Nat} (h : mag * 2 ^ j ≤ 2 ^ (K + 171)) (hK : 2 ≤ K) : bd (Ieee.single.nearest neg mag (-298 + (j : Int))) K := by
 unfold bd Ieee.Format.nearest
 by_cases h0 : mag = 0
 ·rw [if_pos h0, word_mod32 (by omega)]; omega
 rw [if_neg h0]
 simp only [lp32, bi32, ir32]
 have hf : Ieee.single.fractionBits = 23 := rfl
 simp only [hf]
 have hlo : 2 ^ mag.log2 ≤ mag := Nat.log2_self_le h0
 have hhi : mag < 2 ^ (mag.log2 + 1) := Nat.lt_log2_self
 generalize mag.log2 = L at *
 have hLj : L + j ≤ K + 171 := by
  have : 2 ^ (L + j) ≤ 2 ^ (K + 171) := by
   rw [Nat.pow_add]
   exact Nat.le_trans (Nat.mul_le_mul_right _ hlo) h
  exact (Nat.pow_le_pow_iff_right (by omega)).1 this
 rw [word_mod32 (Nat.min_le_right _ _)]
 refine Nat.le_trans (Nat.min_le_left _ _) ?_
 by_cases hA : j + L ≤ 172
 ·have el : max (-298 + (j : Int) + L - ((23 : Nat) : Int)) (-149) = -149 := by omega
  rw [el]
  have e1 : ((-149 : Int) - -149).toNat = 0 := rfl
  have e2 : (-298 + (j : Int) - -149).toNat = j - 149 := by omega
  have e3 : ((-149 : Int) - (-298 + (j : Int))).toNat = 149 - j := by omega
  rw [e1, e2, e3]
  have hc : Ieee.Toward.cut .even neg (mag <<< (j - 149)) (149 - j) ≤ 16777216 := by
   apply cut_le
   rw [Nat.shiftLeft_eq]
   have : mag ≤ 2 ^ (173 - j) := by
    refine Nat.le_trans (Nat.le_of_lt hhi) (Nat.pow_le_pow_right (by omega) (by omega))
   by_cases hj : j ≤ 149
   ·rw [show j - 149 = 0 by omega]
    have e : 16777216 * 2 ^ (149 - j) = 2 ^ (173 - j) := by
     rw [show 173 - j = 24 + (149 - j) by omega, Nat.pow_add 2 24]
    rw [e]; simpa using this
   ·rw [show 149 - j = 0 by omega]
    have e : mag * 2 ^ (j - 149) ≤ 2 ^ (173 - j) * 2 ^ (j - 149) := Nat.mul_le_mul_right _ this
    rw [← Nat.pow_add, show 173 - j + (j - 149) = 24 by omega] at e
    simpa using e
  refine Nat.le_trans (Nat.add_le_add_left hc _) ?_
  rw [Nat.zero_mul, Nat.zero_add]
  exact Nat.mul_le_mul_right 8388608 hK
 ·have el : max (-298 + (j : Int) + L - ((23 : Nat) : Int)) (-149) = ((j + L : Nat) : Int) - 321 := by omega
  rw [el]
  have e1 : (((j + L : Nat) : Int) - 321 - -149).toNat = j + L - 172 := by omega
  have e2 : (-298 + (j : Int) - (((j + L : Nat) : Int) - 321)).toNat = 23 - L := by omega
  have e3 : (((j + L : Nat) : Int) - 321 - (-298 + (j : Int))).toNat = L - 23 := by omega
  rw [e1, e2, e3]
  by_cases hB : j + L ≤ K + 170
  ·have hc : Ieee.Toward.cut .even neg (mag <<< (23 - L)) (L - 23) ≤ 16777216 := by
    apply cut_le
    rw [Nat.shiftLeft_eq]
    by_cases hj : L ≤ 23
    ·rw [show L - 23 = 0 by omega]
     have e : mag * 2 ^ (23 - L) ≤ 2 ^ (L + 1) * 2 ^ (23 - L) := Nat.mul_le_mul_right _ (Nat.le_of_lt hhi)
     rw [← Nat.pow_add, show L + 1 + (23 - L) = 24 by omega] at e
     simpa using e
    ·rw [show 23 - L = 0 by omega]
     have e : 16777216 * 2 ^ (L - 23) = 2 ^ (L + 1) := by
      rw [show L + 1 = 24 + (L - 23) by omega, Nat.pow_add 2 24]
     rw [e]
     simpa using Nat.le_of_lt hhi
   omega
  ·have hm : mag ≤ 2 ^ L := by
    have e : 2 ^ (K + 171) = 2 ^ L * 2 ^ j := by rw [← Nat.pow_add, show L + j = K + 171 by omega]
    rw [e] at h
    exact Nat.le_of_mul_le_mul_right h (Nat.pos_of_ne_zero (by simp))
   have hc : Ieee.Toward.cut .even neg (mag <<< (23 - L)) (L - 23) ≤ 8388608 := by
    apply cut_le
    rw [Nat.shiftLeft_eq]
    by_cases hj : L ≤ 23
    ·rw [show L - 23 = 0 by omega]
     have e : mag * 2 ^ (23 - L) ≤ 2 ^ L * 2 ^ (23 - L) := Nat.mul_le_mul_right _ hm
     rw [← Nat.pow_add, show L + (23 - L) = 23 by omega] at e
     simpa using e
    ·rw [show 23 - L = 0 by omega]
     have e : 8388608 * 2 ^ (L - 23) = 2 ^ L := by
      conv => rhs; rw [show L = 23 + (L - 23) by omega, Nat.pow_add 2 23]
     rw [e]
     simpa using hm
   omega

theorem canon_bd {x K : Nat} (h : bd x K) (hK : K ≤ 255) : fcanon .f32 x = x := by
 unfold bd at h
 rw [fc32, if_neg (by omega)]

theorem nearest_le255 (neg : Bool) (mag : Nat) (p : Int) : bd (Ieee.single.nearest neg mag p) 255 := by
 obtain ⟨r, hr, e⟩ := nearest_word32 neg mag p
 unfold bd
 rw [e, word_mod32 hr]; omega

theorem bd_mul {x y a b K : Nat} (hx : bd x a) (hy : bd y b) (ha : 2 ≤ a) (ha2 : a ≤ 254) (hb : 2 ≤ b) (hb2 : b ≤ 254) (hK : 2 ≤ K) (h : a + b ≤ K + 127) : bd (fop .mul .f32 x y) K := by
 obtain ⟨s, m, i, e1, h1⟩ := read_bd hx ha ha2
 obtain ⟨t, n, j, e2, h2⟩ := read_bd hy hb hb2
 have e : fop .mul .f32 x y = fcanon .f32 (Ieee.single.nearest (s ^^ t) (m * n) (-298 + ((i + j : Nat) : Int))) := by
  have : floatBits .mul .f32 x y = some (Ieee.single.nearest (s ^^ t) (m * n) (-298 + ((i + j : Nat) : Int))) := by
   show Ieee.single.mul x y = _
   unfold Ieee.Format.mul
   rw [e1, e2]
   show some (Ieee.single.nearest (s ^^ t) (m * n) (-149 + (i : Int) + (-149 + (j : Int)))) = _
   congr 2
   omega
  unfold fop
  rw [this]
 rw [e, canon_bd (nearest_le255 _ _ _) (Nat.le_refl _)]
 refine nearest_bd ?_ hK
 have : m * n * 2 ^ (i + j) = (m * 2 ^ i) * (n * 2 ^ j) := by rw [Nat.pow_add]; ac_rfl
 rw [this]
 refine Nat.le_trans (Nat.mul_le_mul h1 h2) ?_
 rw [← Nat.pow_add]
 exact Nat.pow_le_pow_right (by omega) (by omega)

theorem signed_abs (s : Bool) (m u : Nat) : (Ieee.signed s m u).natAbs = m * 2 ^ u := by
 unfold Ieee.signed
 rw [Nat.shiftLeft_eq]
 cases s <;> simp [Int.natAbs_mul, Int.natAbs_pow]

theorem sum_bd {s t : Bool} {m n i j K : Nat} (h1 : m * 2 ^ i ≤ 2 ^ (K + 22)) (h2 : n * 2 ^ j ≤ 2 ^ (K + 22)) :
  ∃ g mag p, Ieee.Datum.sum (.number s m (-149 + (i : Int))) (.number t n (-149 + (j : Int))) = some (.number g mag (-298 + ((p : Nat) : Int))) ∧ mag * 2 ^ p ≤ 2 ^ (K + 1 + 171) := by
 have hb : (min (-149 + (i : Int)) (-149 + (j : Int))) = -298 + ((149 + min i j : Nat) : Int) := by omega
 refine ⟨if Ieee.signed s m (-149 + (i : Int) - (-298 + ((149 + min i j : Nat) : Int))).toNat + Ieee.signed t n (-149 + (j : Int) - (-298 + ((149 + min i j : Nat) : Int))).toNat = 0 then s && t else Ieee.signed s m (-149 + (i : Int) - (-298 + ((149 + min i j : Nat) : Int))).toNat + Ieee.signed t n (-149 + (j : Int) - (-298 + ((149 + min i j : Nat) : Int))).toNat < 0, (Ieee.signed s m (-149 + (i : Int) - (-298 + ((149 + min i j : Nat) : Int))).toNat + Ieee.signed t n (-149 + (j : Int) - (-298 + ((149 + min i j : Nat) : Int))).toNat).natAbs, 149 + min i j, ?_, ?_⟩
 ·unfold Ieee.Datum.sum
  simp only [hb]
 ·have e1 : (-149 + (i : Int) - (-298 + ((149 + min i j : Nat) : Int))).toNat = i - min i j := by omega
  have e2 : (-149 + (j : Int) - (-298 + ((149 + min i j : Nat) : Int))).toNat = j - min i j := by omega
  rw [e1, e2]
  refine Nat.le_trans (Nat.mul_le_mul_right _ (Int.natAbs_add_le _ _)) ?_
  rw [signed_abs, signed_abs, Nat.add_mul]
  have e3 : m * 2 ^ (i - min i j) * 2 ^ (149 + min i j) = 2 ^ 149 * (m * 2 ^ i) := by
   rw [Nat.mul_assoc, ← Nat.pow_add, show i - min i j + (149 + min i j) = 149 + i by omega, Nat.pow_add]; ac_rfl
  have e4 : n * 2 ^ (j - min i j) * 2 ^ (149 + min i j) = 2 ^ 149 * (n * 2 ^ j) := by
   rw [Nat.mul_assoc, ← Nat.pow_add, show j - min i j + (149 + min i j) = 149 + j by omega, Nat.pow_add]; ac_rfl
  rw [e3, e4, ← Nat.mul_add, show K + 1 + 171 = 149 + (K + 22 + 1) by omega, Nat.pow_add 2 149, Nat.pow_succ]
  exact Nat.mul_le_mul_left _ (by omega)

theorem bd_add {x y a : Nat} (hx : bd x a) (hy : bd y a) (ha : 2 ≤ a) (ha2 : a ≤ 254) : bd (fop .add .f32 x y) (a + 1) := by
 obtain ⟨s, m, i, e1, h1⟩ := read_bd hx ha ha2
 obtain ⟨t, n, j, e2, h2⟩ := read_bd hy ha ha2
 obtain ⟨g, mag, p, e3, h3⟩ := sum_bd (s := s) (t := t) h1 h2
 have e : fop .add .f32 x y = fcanon .f32 (Ieee.single.nearest g mag (-298 + ((p : Nat) : Int))) := by
  have : floatBits .add .f32 x y = some (Ieee.single.nearest g mag (-298 + ((p : Nat) : Int))) := by
   show Ieee.single.add x y = _
   unfold Ieee.Format.add
   rw [e1, e2, e3]
   rfl
  unfold fop
  rw [this]
 rw [e, canon_bd (nearest_le255 _ _ _) (Nat.le_refl _)]
 exact nearest_bd h3 (by omega)

theorem sub_self32 {x K : Nat} (h : bd x K) (h2 : 2 ≤ K) (h3 : K ≤ 254) : fop .sub .f32 x x = 0 := by
 obtain ⟨s, m, i, e1, h1⟩ := read_bd h h2 h3
 have : floatBits .sub .f32 x x = some 0 := by
  show Ieee.single.sub x x = _
  unfold Ieee.Format.sub
  rw [e1]
  show Option.map _ (some (Ieee.Datum.number _ _ _)) = _
  have e0 : Ieee.signed s m ((-149 + (i : Int)) - min (-149 + (i : Int)) (-149 + (i : Int))).toNat + Ieee.signed (!s) m ((-149 + (i : Int)) - min (-149 + (i : Int)) (-149 + (i : Int))).toNat = 0 := by
   unfold Ieee.signed
   cases s <;> simp <;> omega
  rw [e0]
  simp only [Option.map]
  cases s <;> rfl
 unfold fop
 rw [this]
 rfl

end Go.Ide


/-
 Floats of 32 bits compared: shares, and numbers without their signs.
-/
namespace Go.Ide

theorem cmp_le (a b : Int) : (some (compare a b) == some Ordering.lt || some (compare a b) == some Ordering.eq) = decide (a ≤ b) := by
 simp only [compare, compareOfLessAndEq]
 by_cases h : a < b
 ·rw [if_pos h]; simp; omega
 ·rw [if_neg h]
  by_cases h2 : a = b
  ·rw [if_pos h2]; simp [h2]
  ·rw [if_neg h2]; simp; omega

theorem cmp_ge (a b : Int) : (some (compare a b) == some Ordering.gt || some (compare a b) == some Ordering.eq) = decide (b ≤ a) := by
 simp only [compare, compareOfLessAndEq]
 by_cases h : a < b
 ·rw [if_pos h]; simp; omega
 ·rw [if_neg h]
  by_cases h2 : a = b
  ·rw [if_pos h2]; simp [h2]
  ·rw [if_neg h2]; simp; omega

theorem cmp_lt (a b : Int) : (some (compare a b) == some Ordering.lt) = decide (a < b) := by
 simp only [compare, compareOfLessAndEq]
 by_cases h : a < b
 ·rw [if_pos h]; simp [h]
 ·rw [if_neg h]
  by_cases h2 : a = b
  ·rw [if_pos h2]; simp [h2]
  ·rw [if_neg h2]; simp; omega

theorem fle_num {x y m n : Nat} {s t : Bool} {p q : Int} (hx : Ieee.single.read x = .number s m p) (hy : Ieee.single.read y = .number t n q) :
  fle .f32 x y = decide (Ieee.signed s m (p - min p q).toNat ≤ Ieee.signed t n (q - min p q).toNat) := by
 unfold fle
 have : FloatKind.f32.format.order x y = some (compare (Ieee.signed s m (p - min p q).toNat) (Ieee.signed t n (q - min p q).toNat)) := by
  show Ieee.Datum.order (Ieee.single.read x) (Ieee.single.read y) = _
  rw [hx, hy]; rfl
 rw [this]; exact cmp_le _ _

theorem fge_num {x y m n : Nat} {s t : Bool} {p q : Int} (hx : Ieee.single.read x = .number s m p) (hy : Ieee.single.read y = .number t n q) :
  fge .f32 x y = decide (Ieee.signed t n (q - min p q).toNat ≤ Ieee.signed s m (p - min p q).toNat) := by
 unfold fge
 have : FloatKind.f32.format.order x y = some (compare (Ieee.signed s m (p - min p q).toNat) (Ieee.signed t n (q - min p q).toNat)) := by
  show Ieee.Datum.order (Ieee.single.read x) (Ieee.single.read y) = _
  rw [hx, hy]; rfl
 rw [this]; exact cmp_ge _ _

theorem flt_num {x y m n : Nat} {s t : Bool} {p q : Int} (hx : Ieee.single.read x = .number s m p) (hy : Ieee.single.read y = .number t n q) :
  flt .f32 x y = decide (Ieee.signed s m (p - min p q).toNat < Ieee.signed t n (q - min p q).toNat) := by
 unfold flt
 have : FloatKind.f32.format.order x y = some (compare (Ieee.signed s m (p - min p q).toNat) (Ieee.signed t n (q - min p q).toNat)) := by
  show Ieee.Datum.order (Ieee.single.read x) (Ieee.single.read y) = _
  rw [hx, hy]; rfl
 rw [this]; exact cmp_lt _ _

theorem read_zero : Ieee.single.read 0 = .number false 0 (-149) := by decide
theorem read_one : Ieee.single.read 1065353216 = .number false 8388608 (-149 + ((126 : Nat) : Int)) := by decide

theorem signed_false (m u : Nat) : Ieee.signed false m u = ((m * 2 ^ u : Nat) : Int) := by
 unfold Ieee.signed; rw [Nat.shiftLeft_eq]; rfl
theorem signed_true (m u : Nat) : Ieee.signed true m u = -((m * 2 ^ u : Nat) : Int) := by
 unfold Ieee.signed; rw [Nat.shiftLeft_eq]; rfl

theorem share_bd {x : Nat} (h0 : fge .f32 x 0 = true) (h1 : fle .f32 x 1065353216 = true) : bd x 127 := by
 unfold bd
 by_cases hlo : x % 2147483648 < 8388608
 ·omega
 by_cases hhi : x % 2147483648 < 2139095040
 ·have hr := read_hi (by omega) hhi
  by_cases hb : x % 2147483648 ≤ 127 * 8388608
  ·exact hb
  exfalso
  rw [fge_num hr read_zero] at h0
  rw [fle_num hr read_one] at h1
  generalize x % 2147483648 = r at *
  have hm : min (-149 + ((r / 8388608 - 1 : Nat) : Int)) (-149 + ((126 : Nat) : Int)) = -149 + ((126 : Nat) : Int) := by omega
  rw [hm] at h1
  have e1 : (-149 + ((r / 8388608 - 1 : Nat) : Int) - (-149 + ((126 : Nat) : Int))).toNat = r / 8388608 - 127 := by omega
  have e2 : (-149 + ((126 : Nat) : Int) - (-149 + ((126 : Nat) : Int))).toNat = 0 := by omega
  rw [e1, e2, signed_false] at h1
  have hp : ∀ u : Nat, 1 ≤ 2 ^ u := fun u => Nat.pos_of_ne_zero (by simp)
  cases hs : (x / 2147483648 % 2 == 1) with
  | false =>
   rw [hs, signed_false] at h1
   have h1 := of_decide_eq_true h1
   have h1 : (8388608 + r % 8388608) * 2 ^ (r / 8388608 - 127) ≤ 8388608 * 2 ^ 0 := Int.ofNat_le.1 h1
   by_cases hq : r / 8388608 = 127
   ·rw [hq] at h1; omega
   ·have : 2 ^ (r / 8388608 - 127) = 2 * 2 ^ (r / 8388608 - 128) := by
     rw [show r / 8388608 - 127 = (r / 8388608 - 128) + 1 by omega, Nat.pow_succ]; omega
    rw [this] at h1
    have h2 : (8388608 + r % 8388608) * (2 * 1) ≤ (8388608 + r % 8388608) * (2 * 2 ^ (r / 8388608 - 128)) := Nat.mul_le_mul_left _ (Nat.mul_le_mul_left _ (hp _))
    omega
  | true =>
   rw [hs, signed_true, signed_false] at h0
   have h0 := of_decide_eq_true h0
   have : 1 ≤ (8388608 + r % 8388608) * 2 ^ ((-149 + ((r / 8388608 - 1 : Nat) : Int) - min (-149 + ((r / 8388608 - 1 : Nat) : Int)) (-149))).toNat := Nat.mul_pos (by omega) (hp _)
   omega
 ·exfalso
  by_cases hi : x % 2147483648 = 2139095040
  ·have hr : Ieee.single.read x = .infinity (x / 2147483648 % 2 == 1) := by
    unfold Ieee.Format.read
    simp only [sw32, bi32, ir32]
    rw [if_neg hlo, if_neg hhi, if_pos hi]
   have o0 : FloatKind.f32.format.order x 0 = some (if (x / 2147483648 % 2 == 1) then .lt else .gt) := by
    show Ieee.Datum.order (Ieee.single.read x) (Ieee.single.read 0) = _
    rw [hr, read_zero]; rfl
   have o1 : FloatKind.f32.format.order x 1065353216 = some (if (x / 2147483648 % 2 == 1) then .lt else .gt) := by
    show Ieee.Datum.order (Ieee.single.read x) (Ieee.single.read 1065353216) = _
    rw [hr, read_one]; rfl
   unfold fge at h0
   unfold fle at h1
   rw [o0] at h0
   rw [o1] at h1
   revert h0 h1
   cases (x / 2147483648 % 2 == 1) <;> decide
  ·have hr : Ieee.single.read x = .nan (x / 2147483648 % 2 == 1) (x % 2147483648 - 2139095040) := by
    unfold Ieee.Format.read
    simp only [sw32, bi32, ir32]
    rw [if_neg hlo, if_neg hhi, if_neg hi]
   have o0 : FloatKind.f32.format.order x 0 = none := by
    show Ieee.Datum.order (Ieee.single.read x) (Ieee.single.read 0) = _
    rw [hr]; rfl
   unfold fge at h0
   rw [o0] at h0
   exact absurd h0 (by decide)

theorem read_neg (x : Nat) : Ieee.single.read (Op.negFloat .f32 x) = (Ieee.single.read x).opposite := by
 have e : Op.negFloat .f32 x = x ^^^ 2 ^ 31 := rfl
 have h1 : (x ^^^ 2 ^ 31) % 2147483648 = x % 2147483648 := by
  show (x ^^^ 2 ^ 31) % 2 ^ 31 = x % 2 ^ 31
  rw [Nat.xor_mod_two_pow, Nat.mod_self, Nat.xor_zero]
 have h2 : (x ^^^ 2 ^ 31) / 2147483648 % 2 = (x / 2147483648 % 2) ^^^ 1 := by
  show (x ^^^ 2 ^ 31) / 2 ^ 31 % 2 ^ 1 = (x / 2 ^ 31 % 2 ^ 1) ^^^ 1
  rw [Nat.xor_div_two_pow, Nat.xor_mod_two_pow]
 have h3 : ((x ^^^ 2 ^ 31) / 2147483648 % 2 == 1) = !(x / 2147483648 % 2 == 1) := by
  rw [h2]
  rcases (show x / 2147483648 % 2 = 0 ∨ x / 2147483648 % 2 = 1 by omega) with h | h <;> rw [h] <;> rfl
 rw [e]
 unfold Ieee.Format.read
 simp only [sw32, bi32, ir32, h1, h3]
 split
 ·rfl
 ·split
  ·rfl
  ·split
   ·rfl
   ·rfl

theorem order_canon1 (x y : Nat) : Ieee.single.order (fcanon .f32 x) y = Ieee.single.order x y := by
 rw [fc32]
 split
 ·rename_i h
  unfold Ieee.Format.order
  have hr : Ieee.single.read x = .nan (x / 2147483648 % 2 == 1) (x % 2147483648 - 2139095040) := by
   unfold Ieee.Format.read
   simp only [sw32, bi32, ir32]
   rw [if_neg (by omega), if_neg (by omega), if_neg (by omega)]
  have hr2 : ∃ s f, Ieee.single.read 2143289344 = .nan s f := ⟨false, 4194304, by decide⟩
  obtain ⟨s, f, h2⟩ := hr2
  rw [hr, h2]
  rfl
 ·rfl

theorem near_abs {d c nc mc : Nat} {pc : Int} (hc : Ieee.single.read c = .number false mc pc) (hn : Ieee.single.read nc = .number true mc pc) :
  (fle .f32 d c && fge .f32 d nc) = (bif flt .f32 d 0 then fle .f32 (fneg .f32 d) c else fle .f32 d c) := by
 have hneg : fle .f32 (fneg .f32 d) c = (Ieee.Datum.order (Ieee.single.read d).opposite (Ieee.single.read c) == some .lt || Ieee.Datum.order (Ieee.single.read d).opposite (Ieee.single.read c) == some .eq) := by
  unfold fle fneg
  show (Ieee.single.order _ _ == _ || Ieee.single.order _ _ == _) = _
  rw [order_canon1]
  unfold Ieee.Format.order
  rw [read_neg]
 cases hr : Ieee.single.read d with
 | nan s f =>
  have : ∀ y, FloatKind.f32.format.order d y = none := fun y => by
   show Ieee.Datum.order (Ieee.single.read d) _ = _
   rw [hr]; rfl
  unfold fle fge flt
  rw [this, this, this]; rfl
 | infinity s =>
  rw [hneg, hr, hc]
  unfold fle fge flt
  show ((Ieee.Datum.order (Ieee.single.read d) (Ieee.single.read c) == _ || Ieee.Datum.order (Ieee.single.read d) (Ieee.single.read c) == _) && (Ieee.Datum.order (Ieee.single.read d) (Ieee.single.read nc) == _ || Ieee.Datum.order (Ieee.single.read d) (Ieee.single.read nc) == _)) = bif Ieee.Datum.order (Ieee.single.read d) (Ieee.single.read 0) == _ then _ else (Ieee.Datum.order (Ieee.single.read d) (Ieee.single.read c) == _ || Ieee.Datum.order (Ieee.single.read d) (Ieee.single.read c) == _)
  rw [hr, hc, hn, read_zero]
  cases s <;> rfl
 | number s m p =>
  rw [hneg, hr, hc, fle_num hr hc, fge_num hr hn, flt_num hr read_zero]
  show _ = bif _ then (some (compare (Ieee.signed (!s) m _) (Ieee.signed false mc _)) == _ || some (compare (Ieee.signed (!s) m _) (Ieee.signed false mc _)) == _) else _
  rw [cmp_le]
  generalize (p - min p pc).toNat = u
  generalize (pc - min p pc).toNat = v
  generalize (p - min p (-149)).toNat = u'
  generalize (-149 - min p (-149)).toNat = v'
  cases s with
  | false =>
   simp only [signed_false, signed_true, Bool.not_false]
   have h0 : ¬ (((m * 2 ^ u' : Nat) : Int) < ((0 * 2 ^ v' : Nat) : Int)) := by omega
   rw [decide_eq_false h0, cond_false]
   have h1 : -((mc * 2 ^ v : Nat) : Int) ≤ ((m * 2 ^ u : Nat) : Int) := by omega
   rw [decide_eq_true h1, Bool.and_true]
  | true =>
   simp only [signed_false, signed_true, Bool.not_true]
   have h1 : -((m * 2 ^ u : Nat) : Int) ≤ ((mc * 2 ^ v : Nat) : Int) := by omega
   rw [decide_eq_true h1, Bool.true_and]
   by_cases hm : m = 0
   ·subst hm
    simp only [Nat.zero_mul]
    cases hv : (mc * 2 ^ v) with
    | zero => rfl
    | succ n => simp; omega
   ·have : 0 < m * 2 ^ u' := Nat.mul_pos (by omega) (Nat.pos_of_ne_zero (by simp))
    rw [decide_eq_true (show -((m * 2 ^ u' : Nat) : Int) < ((0 * 2 ^ v' : Nat) : Int) by omega), cond_true]
    congr 1
    apply propext
    constructor <;> intro h <;> omega

end Go.Ide


/-
 Sums of floats of 32 bits, bounded by how many there are.
-/
namespace Go.Ide

def bdv (x V : Nat) : Prop := ∃ s m i, Ieee.single.read x = .number s m (-149 + ((i : Nat) : Int)) ∧ m * 2 ^ i ≤ V

theorem bdv.mono {x V W : Nat} (h : bdv x V) (hv : V ≤ W) : bdv x W := by
 obtain ⟨s, m, i, e, h⟩ := h
 exact ⟨s, m, i, e, Nat.le_trans h hv⟩

theorem pow_pos2 (u : Nat) : 0 < 2 ^ u := Nat.pos_of_ne_zero (by simp)

theorem cut_ge {neg : Bool} {n drop B : Nat} (h : B * 2 ^ drop ≤ n) : B ≤ Ieee.Toward.cut .even neg n drop := by
 unfold Ieee.Toward.cut
 simp only [Nat.one_shiftLeft]
 refine Nat.le_trans ?_ (Nat.le_add_right _ _)
 by_cases hd : drop ≤ n.log2 + 2
 ·rw [Nat.min_eq_left hd]
  exact (Nat.le_div_iff_mul_le (pow_pos2 _)).2 h
 ·have hlt : n < 2 ^ (n.log2 + 1) := Nat.lt_log2_self
  have hle : 2 ^ (n.log2 + 1) ≤ 2 ^ drop := Nat.pow_le_pow_right (by omega) (by omega)
  by_cases hB : B = 0
  ·subst hB; exact Nat.zero_le _
  ·have : 1 * 2 ^ drop ≤ B * 2 ^ drop := Nat.mul_le_mul_right _ (by omega)
   omega

end Go.Ide


/-
 Regions in pieces: between two operations the state may be told in other words.
-/
namespace Go.Ide

section
variable {cx : Cx} {st st' : St} {P : Program} {N : Nat} {Q : Exit → St → Prop} {y : Code}

theorem ireg_app {all os2 : List Oper} {Q : Exit → Act → World → Prop} : ∀ {os : List Oper} {rs : List OH} {st st' : St} {cs : List Prop} {g : GM} {a : Act} {w : World},
  Sim cx g st a w → ireg cx.P cx.N all os rs st = some (st', cs) → AllP cs → (∀ g' a' w', Sim cx g' st' a' w' → wpList cx.P all.toArray Q os2 a' w') → wpList cx.P all.toArray Q (os ++ os2) a w
 | [], rs, st, st', cs, g, a, w, h, he, hc, hk => by
  have he : some (st, []) = some (st', cs) := by cases rs <;> exact he
  injection he with he
  injection he with e1 e2
  subst e1
  exact hk g a w h
 | o :: os, [], st, st', cs, g, a, w, h, he, hc, hk => by cases he
 | o :: os, r :: rs, st, st', cs, g, a, w, h, he, hc, hk => by
  simp only [ireg] at he
  split at he
  ·rename_i st1 c1 h1
   split at he
   ·rename_i st2 c2 h2
    injection he with he
    injection he with e1 e2
    subst e1
    subst e2
    obtain ⟨hc1, hc2⟩ := hc.append
    rw [List.cons_append]
    refine wpList_step fun K hK => ?_
    exact istep_sound h h1 hc1 fun g' a' w' hs => hK a' w' (ireg_app hs h2 hc2 hk)
   ·cases he
  ·cases he

def RG (cx : Cx) (all os : List Oper) (st : St) (Q : Exit → St → Prop) : Prop :=
 ∀ g a w, Sim cx g st a w → wpList cx.P all.toArray (fun e a' w' => ∃ st' g', Q e st' ∧ Sim cx g' st' a' w') os a w

theorem RG.cut (n : Nat) {all os : List Oper} (rs : List OH) (st' : St) {cs : List Prop} (hP : cx.P = P) (hN : cx.N = N) (he : ireg P N all (os.take n) rs st = some (st', cs)) (hc : AllP cs) (h : RG cx all (os.drop n) st' Q) : RG cx all os st Q := by
 subst hP; subst hN
 intro g a w hs
 have := ireg_app (os2 := os.drop n) (Q := fun e a' w' => ∃ st' g', Q e st' ∧ Sim cx g' st' a' w') hs he hc (fun g' a' w' hs' => h g' a' w' hs')
 rwa [List.take_append_drop] at this

theorem RG.last {all os : List Oper} (rs : List OH) (st' : St) {cs : List Prop} (hP : cx.P = P) (hN : cx.N = N) (he : ireg P N all os rs st = some (st', cs)) (hc : AllP cs) (hq : Q .normal st') : RG cx all os st Q := by
 subst hP; subst hN
 exact fun g a w hs => ireg_sound hs he hc fun g' _ _ hs' => ⟨st', g', hq, hs'⟩

end

end Go.Ide


/-
 Rounding does not see how a number is told; halves.
-/
namespace Go.Ide

theorem log2_scale {n s : Nat} (h : n ≠ 0) : (n * 2 ^ s).log2 = n.log2 + s := by
 have h1 := Nat.log2_self_le h
 have h2 : n < 2 ^ (n.log2 + 1) := Nat.lt_log2_self
 have hp := pow_pos2 s
 have h0 : n * 2 ^ s ≠ 0 := Nat.mul_ne_zero h (by omega)
 apply Nat.le_antisymm
 ·have : (n * 2 ^ s).log2 < n.log2 + s + 1 := by
   rw [Nat.log2_lt h0, show n.log2 + s + 1 = n.log2 + 1 + s by omega, Nat.pow_add]
   exact Nat.mul_lt_mul_of_pos_right h2 hp
  omega
 ·rw [Nat.le_log2 h0, Nat.pow_add]
  exact Nat.mul_le_mul_right _ h1

theorem cut_zero {neg : Bool} {n : Nat} : Ieee.Toward.cut .even neg n 0 = n := by
 unfold Ieee.Toward.cut
 simp [Nat.mod_one]

theorem cut_scale {neg : Bool} {n drop s : Nat} (h : n ≠ 0) : Ieee.Toward.cut .even neg (n * 2 ^ s) (drop + s) = Ieee.Toward.cut .even neg n drop := by
 unfold Ieee.Toward.cut
 simp only [Nat.one_shiftLeft, log2_scale h]
 rw [show min (drop + s) (n.log2 + s + 2) = min drop (n.log2 + 2) + s by omega, Nat.pow_add]
 have hp := pow_pos2 s
 have hg := pow_pos2 (min drop (n.log2 + 2))
 generalize 2 ^ min drop (n.log2 + 2) = g at *
 generalize 2 ^ s = t at *
 rw [Nat.mul_div_mul_right _ _ hp, Nat.mul_mod_mul_right]
 congr 2
 have e1 : decide (g * t < 2 * (n % g * t)) = decide (g < 2 * (n % g)) := by
  rw [decide_eq_decide, ← Nat.mul_assoc]
  exact Nat.mul_lt_mul_right hp
 have e2 : (g * t == 2 * (n % g * t)) = (g == 2 * (n % g)) := by
  rw [Bool.eq_iff_iff, beq_iff_eq, beq_iff_eq, ← Nat.mul_assoc]
  exact ⟨fun h => Nat.eq_of_mul_eq_mul_right hp h, fun h => congrArg (· * t) h⟩
 rw [e1, e2]

theorem nearest_scale {f : Ieee.Format} {neg : Bool} {mag s : Nat} {place : Int} : f.nearest neg (mag * 2 ^ s) (place - s) = f.nearest neg mag place := by
 by_cases h0 : mag = 0
 ·subst h0; unfold Ieee.Format.nearest; simp
 have hp := pow_pos2 s
 unfold Ieee.Format.nearest
 rw [if_neg h0, if_neg (Nat.mul_ne_zero h0 (by omega))]
 simp only [log2_scale h0]
 have e : place - (s : Int) + ((mag.log2 + s : Nat) : Int) - (f.fractionBits : Int) = place + (mag.log2 : Int) - (f.fractionBits : Int) := by omega
 rw [e]
 generalize max (place + (mag.log2 : Int) - (f.fractionBits : Int)) f.leastPlace = last
 congr 3
 simp only [Nat.shiftLeft_eq]
 by_cases hd : last ≤ place
 ·rw [show (last - place).toNat = 0 by omega, cut_zero]
  by_cases hs : (s : Int) ≤ place - last
  ·rw [show (last - (place - (s : Int))).toNat = 0 by omega, cut_zero, Nat.mul_assoc, ← Nat.pow_add, show s + (place - (s : Int) - last).toNat = (place - last).toNat by omega]
  ·rw [show (place - (s : Int) - last).toNat = 0 by omega, Nat.pow_zero, Nat.mul_one]
   have e2 : (last - (place - (s : Int))).toNat = 0 + (s - (place - last).toNat) := by omega
   have e3 : mag * 2 ^ s = mag * 2 ^ (place - last).toNat * 2 ^ (s - (place - last).toNat) := by
    rw [Nat.mul_assoc, ← Nat.pow_add, show (place - last).toNat + (s - (place - last).toNat) = s by omega]
   rw [e2, e3, cut_scale (Nat.mul_ne_zero h0 (by have := pow_pos2 (place - last).toNat; omega)), cut_zero]
 ·rw [show (place - (s : Int) - last).toNat = 0 by omega, show (place - last).toNat = 0 by omega, Nat.pow_zero, Nat.mul_one, Nat.mul_one,
   show (last - (place - (s : Int))).toNat = (last - place).toNat + s by omega, cut_scale h0]

end Go.Ide


/-
 A half of a number, by product and by quotient.
-/
namespace Go.Ide

theorem read_small {x : Nat} {s : Bool} {m : Nat} {p : Int} (h : Ieee.single.read x = .number s m p) : m < 16777216 := by
 unfold Ieee.Format.read at h
 simp only [sw32, bi32, ir32, lp32] at h
 split at h
 ·injection h with _ h2 _; omega
 ·split at h
  ·injection h with _ h2 _; omega
  ·split at h <;> cases h

end Go.Ide


/-
 A word that is read and written again.
-/
namespace Go.Ide

theorem word_back {x : Nat} (h : x < 4294967296) : Ieee.single.word (x / 2147483648 % 2 == 1) (x % 2147483648) = x := by
 unfold Ieee.Format.word
 simp only [sw32]
 rcases (show x / 2147483648 = 0 ∨ x / 2147483648 = 1 by omega) with e | e <;> rw [e]
 ·show x % 2147483648 = x; omega
 ·show 2147483648 + x % 2147483648 = x; omega

theorem nearest_read {x : Nat} {s : Bool} {m : Nat} {p : Int} (h : x < 4294967296) (hr : Ieee.single.read x = .number s m p) : Ieee.single.nearest s m p = x := by
 have hb := word_back h
 by_cases hlo : x % 2147483648 < 8388608
 ·rw [read_lo hlo] at hr
  injection hr with e1 e2 e3
  subst e1 e2 e3
  unfold Ieee.Format.nearest
  by_cases h0 : x % 2147483648 = 0
  ·rw [if_pos h0]; rw [h0] at hb; exact hb
  rw [if_neg h0]
  have hl : (x % 2147483648).log2 ≤ 22 := by
   have := (Nat.log2_lt (k := 23) h0).2 hlo; omega
  have hf : Ieee.single.fractionBits = 23 := rfl
  simp only [lp32, bi32, ir32, hf]
  have el : max (-149 + ((0 : Nat) : Int) + ((x % 2147483648).log2 : Int) - ((23 : Nat) : Int)) (-149) = -149 := by omega
  rw [el]
  have e1 : ((-149 : Int) - -149).toNat = 0 := rfl
  have e2 : (-149 + ((0 : Nat) : Int) - -149).toNat = 0 := rfl
  have e3 : ((-149 : Int) - (-149 + ((0 : Nat) : Int))).toNat = 0 := rfl
  rw [e1, e2, e3, cut_zero, Nat.shiftLeft_zero, Nat.zero_mul, Nat.zero_add, Nat.min_eq_left (by omega)]
  exact hb
 ·by_cases hhi : x % 2147483648 < 2139095040
  ·rw [read_hi (by omega) hhi] at hr
   injection hr with e1 e2 e3
   subst e1 e2 e3
   generalize hq : x % 2147483648 = r at *
   unfold Ieee.Format.nearest
   rw [if_neg (by omega)]
   have hl : (8388608 + r % 8388608).log2 = 23 := by
    have h0 : 8388608 + r % 8388608 ≠ 0 := by omega
    have a1 := (Nat.log2_lt (k := 24) h0).2 (by omega)
    have a2 := (Nat.le_log2 (k := 23) h0).2 (by omega)
    omega
   have hf : Ieee.single.fractionBits = 23 := rfl
   simp only [lp32, bi32, ir32, hf, hl]
   have el : max (-149 + ((r / 8388608 - 1 : Nat) : Int) + ((23 : Nat) : Int) - ((23 : Nat) : Int)) (-149) = -149 + ((r / 8388608 - 1 : Nat) : Int) := by omega
   rw [el]
   have e1 : (-149 + ((r / 8388608 - 1 : Nat) : Int) - -149).toNat = r / 8388608 - 1 := by omega
   have e2 : (-149 + ((r / 8388608 - 1 : Nat) : Int) - (-149 + ((r / 8388608 - 1 : Nat) : Int))).toNat = 0 := by omega
   rw [e1, e2, cut_zero, Nat.shiftLeft_zero, show (r / 8388608 - 1) * 8388608 + (8388608 + r % 8388608) = r by omega, Nat.min_eq_left (by omega)]
   exact hb
  ·exfalso
   unfold Ieee.Format.read at hr
   simp only [sw32, bi32, ir32] at hr
   rw [if_neg hlo, if_neg hhi] at hr
   split at hr <;> cases hr

end Go.Ide


/-
 Absolute values, and sums of them.
-/
namespace Go.Ide

def pos32 (x : Nat) : Prop := x < 2147483648

theorem read_sign {x m : Nat} {s : Bool} {p : Int} (hr : Ieee.single.read x = .number s m p) : s = (x / 2147483648 % 2 == 1) := by
 unfold Ieee.Format.read at hr
 simp only [sw32, bi32, ir32, lp32] at hr
 split at hr
 ·injection hr with h1 _ _; exact h1.symm
 ·split at hr
  ·injection hr with h1 _ _; exact h1.symm
  ·split at hr <;> cases hr

theorem read_pos {x m : Nat} {s : Bool} {p : Int} (h : pos32 x) (hr : Ieee.single.read x = .number s m p) : s = false := by
 rw [read_sign hr]
 unfold pos32 at h
 rw [Nat.div_eq_of_lt h]
 rfl

theorem add_read {x y m n : Nat} {s t : Bool} {i j : Int} (h1 : Ieee.single.read x = .number s m i) (h2 : Ieee.single.read y = .number t n j) :
  fop .add .f32 x y = fcanon .f32 (Ieee.single.nearest (if Ieee.signed s m (i - min i j).toNat + Ieee.signed t n (j - min i j).toNat = 0 then s && t else Ieee.signed s m (i - min i j).toNat + Ieee.signed t n (j - min i j).toNat < 0) (Ieee.signed s m (i - min i j).toNat + Ieee.signed t n (j - min i j).toNat).natAbs (min i j)) := by
 have : floatBits .add .f32 x y = some (Ieee.single.nearest (if Ieee.signed s m (i - min i j).toNat + Ieee.signed t n (j - min i j).toNat = 0 then s && t else Ieee.signed s m (i - min i j).toNat + Ieee.signed t n (j - min i j).toNat < 0) (Ieee.signed s m (i - min i j).toNat + Ieee.signed t n (j - min i j).toNat).natAbs (min i j)) := by
  show Ieee.single.add x y = _
  unfold Ieee.Format.add
  rw [h1, h2]
  rfl
 unfold fop
 rw [this]

theorem sub_read {x y m n : Nat} {s t : Bool} {i j : Int} (h1 : Ieee.single.read x = .number s m i) (h2 : Ieee.single.read y = .number t n j) :
  fop .sub .f32 x y = fcanon .f32 (Ieee.single.nearest (if Ieee.signed s m (i - min i j).toNat + Ieee.signed (!t) n (j - min i j).toNat = 0 then s && !t else Ieee.signed s m (i - min i j).toNat + Ieee.signed (!t) n (j - min i j).toNat < 0) (Ieee.signed s m (i - min i j).toNat + Ieee.signed (!t) n (j - min i j).toNat).natAbs (min i j)) := by
 have : floatBits .sub .f32 x y = some (Ieee.single.nearest (if Ieee.signed s m (i - min i j).toNat + Ieee.signed (!t) n (j - min i j).toNat = 0 then s && !t else Ieee.signed s m (i - min i j).toNat + Ieee.signed (!t) n (j - min i j).toNat < 0) (Ieee.signed s m (i - min i j).toNat + Ieee.signed (!t) n (j - min i j).toNat).natAbs (min i j)) := by
  show Ieee.single.sub x y = _
  unfold Ieee.Format.sub
  rw [h1, h2]
  rfl
 unfold fop
 rw [this]

theorem mag_zero {x : Nat} {s : Bool} {p : Int} (hr : Ieee.single.read x = .number s 0 p) : x % 2147483648 = 0 ∧ p = -149 := by
 unfold Ieee.Format.read at hr
 simp only [sw32, bi32, ir32, lp32] at hr
 split at hr
 ·injection hr with _ h2 h3; exact ⟨h2, h3.symm⟩
 ·split at hr
  ·injection hr with _ h2 _; omega
  ·split at hr <;> cases hr

end Go.Ide
