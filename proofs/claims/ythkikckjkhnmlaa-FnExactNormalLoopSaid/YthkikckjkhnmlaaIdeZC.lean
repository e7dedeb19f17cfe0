/-
  The rules that printed proofs use.
-/
import Derived.Test.YthkikckjkhnmlaaIdeZB
namespace Go.Ide

def St.keep (ks : List Nat) (st : St) : St := ⟨(ks.filterMap fun t => match lk t st.fr with
  | some v => some (t, v)
  | none => none), st.mem, st.nx⟩

theorem lk_keep {fr : Fr} {t : Nat} {v : IVal} : ∀ {ks : List Nat}, lk t (ks.filterMap fun t => match lk t fr with | some v => some (t, v) | none => none) = some v → lk t fr = some v
  | [], h => by simp [lk_nil] at h
  | k :: ks, h => by
    rw [List.filterMap_cons] at h
    split at h
    · exact lk_keep h
    · rename_i b hb
      split at hb
      · rename_i v' hv'
        injection hb with hb
        subst hb
        rw [lk_cons] at h
        split at h
        · rename_i e; subst e; rw [hv']; exact h
        · exact lk_keep h
      · cases hb

theorem Sim.keepS {cx : Cx} {g : GM} {st : St} {a : Act} {w : World} (ks : List Nat) (h : Sim cx g st a w) : Sim cx g (st.keep ks) a w :=
  h.congr (fun _ _ hv => lk_keep hv) fun _ => rfl

def keepO (ks : List Nat) : Option (St × List Prop) → Option (St × List Prop)
  | some (st, cs) => some (st.keep ks, cs)
  | none => none

theorem keepO_some {ks : List Nat} {o : Option (St × List Prop)} {st' : St} {cs : List Prop} (h : keepO ks o = some (st', cs)) : ∃ st1, o = some (st1, cs) ∧ st' = st1.keep ks := by
  unfold keepO at h
  split at h
  · rename_i st1 cs1
    injection h with h
    injection h with h1 h2
    subst h2
    exact ⟨st1, rfl, h1.symm⟩
  · cases h

/-- A drawn region. -/
def idraw (P : Program) (N : Nat) (ops : List Oper) (h : Nat) (hrs : List HR) (tds : List (List Nat)) (rs : List OH) (st : St) : Option (St × List Prop) :=
  bif (Nat.beq hrs.length h && Nat.ble h ops.length) && okFrom ops (hrs.map HR.D ++ tds) h 0 ops then (match ihead P N ops st (ops.take h) hrs [] st.nx with
    | some (ers, cs, nx) => (match ireg P N ops (ops.drop h) rs (headSt st ers (fun _ => true) nx) with
      | some (st', cs') => some (st', cs ++ cs')
      | none => none)
    | none => none) else none

def inrO {α β : Type} : Option β → Option (α ⊕ β)
  | some b => some (.inr b)
  | none => none

theorem of_inr {α β : Type} {e : Option β} {w : α ⊕ β} (h : inrO e = some w) : ∃ z, e = some z ∧ w = .inr z := by
  cases e with
  | none => cases h
  | some z => injection h with h; exact ⟨z, rfl, h.symm⟩

theorem of_some {α : Type} {a b : α} (h : some a = some b) : a = b := by injection h
theorem of_some2 {α : Type} {a b : α} (h : some a = some b) : b = a := by injection h with h; exact h.symm

theorem allNil : AllP [] := trivial
theorem allCons {p : Prop} {r : List Prop} (h : p) (hr : AllP r) : AllP (p :: r) := ⟨h, hr⟩

theorem natLt {α : Type} {xs : List α} {n : Int} (h : (0 : Int) ≤ n ∧ n < lenI xs) : Int.toNat n < List.length xs := by
  obtain ⟨h1, h2⟩ := h
  simp only [lenI] at h2
  omega

theorem cutAll {α : Type} (xs : List α) : (0 : Int) ≤ 0 ∧ (0 : Int) ≤ lenI xs ∧ lenI xs ≤ lenI xs := ⟨Int.le_refl _, Int.natCast_nonneg _, Int.le_refl _⟩

theorem trunc1 {α : Type} {xs : List α} {n : Int} (h : (0 : Int) ≤ n ∧ n ≤ lenI xs) : List.length (List.take (Int.toNat n) xs) = Int.toNat n := by
  obtain ⟨h1, h2⟩ := h
  simp only [lenI] at h2
  rw [List.length_take]
  omega

theorem trunc2 {α : Type} (n : Nat) (xs : List α) : List.take n xs = List.take (List.length (List.take n xs)) xs := by
  rw [List.length_take]
  rcases Nat.le_total n xs.length with h | h
  · rw [Nat.min_eq_left h]
  · rw [Nat.min_eq_right h, List.take_length, List.take_of_length_le h]

/-- A clone's data are the slice's. -/
def slices_Clone {α : Type} (xs : List α) : Option (List α) := guardP (0 + List.length xs ≤ appMax) (some xs)

section
variable {cx : Cx} {st st' : St} {P : Program} {N : Nat} {Q : Exit → St → Prop} {x y c : Code}

theorem HT.keep (ks : List Nat) (h : HT cx (st.keep ks) c Q) : HT cx st c Q := fun g a w hs => h g a w (hs.keepS ks)

theorem drawS {id h : Nat} {ops : List Oper} {hrs : List HR} {tds : List (List Nat)} {rs : List OH} {cs : List Prop} (hP : cx.P = P) (hN : cx.N = N) (hm : P.follows .mixedOrders = true)
    (he : idraw P N ops h hrs tds rs st = some (st', cs)) (hc : AllP cs) (hq : Q .normal st') : HT cx st (.region id ops.toArray true) Q := by
  unfold idraw at he
  cases hb : ((Nat.beq hrs.length h && Nat.ble h ops.length) && okFrom ops (hrs.map HR.D ++ tds) h 0 ops) with
  | false => rw [hb] at he; cases he
  | true =>
    rw [hb] at he
    simp only [cond_true] at he
    simp only [Bool.and_eq_true] at hb
    split at he
    · rename_i ers cs1 nx h1
      split at he
      · rename_i st1 cs2 h2
        injection he with he
        injection he with e1 e2
        subst e1
        subst e2
        obtain ⟨hc1, hc2⟩ := hc.append
        exact HT.drw hP hN hm (by simp only [Bool.and_eq_true, beq_iff_eq]; exact ⟨beq_of hb.1.1, hb.1.2⟩) hb.2 h1 h2 hc1 hc2 hq
      · cases he
    · cases he

/-- What follows a region may be told of fewer slots. -/
theorem HT.reg1 {id : Nat} {ops : List Oper} (ks : List Nat) (rs : List OH) (st' : St) {cs : List Prop} (hP : cx.P = P) (hN : cx.N = N) (he : keepO ks (ireg P N ops ops rs st) = some (st', cs)) (hc : AllP cs) (hq : HT cx st' y Q) : HT cx st (.seq (.region id ops.toArray false) y) Q := by
  obtain ⟨st1, h1, h2⟩ := keepO_some he
  subst h2
  exact HT.seq (HT.reg hP hN h1 hc (HT.keep ks hq))

theorem HT.drw1 {id : Nat} {ops : List Oper} (ks : List Nat) (h : Nat) (hrs : List HR) (tds : List (List Nat)) (rs : List OH) (st' : St) {cs : List Prop} (hP : cx.P = P) (hN : cx.N = N) (hm : P.follows .mixedOrders = true)
    (he : keepO ks (idraw P N ops h hrs tds rs st) = some (st', cs)) (hc : AllP cs) (hq : HT cx st' y Q) : HT cx st (.seq (.region id ops.toArray true) y) Q := by
  obtain ⟨st1, h1, h2⟩ := keepO_some he
  subst h2
  exact HT.seq (drawS hP hN hm h1 hc (HT.keep ks hq))

/-- Several ends of a piece meet. -/
theorem HT.join {α : Type} (J : α → St) (C : α → Prop) (h1 : ∀ v, C v → HT cx (J v) y Q) (h2 : (∀ v, C v → HT cx (J v) y Q) → HT cx st x (thenQ cx y Q)) : HT cx st (.seq x y) Q := HT.seq (h2 h1)

theorem qThen (h : HT cx st y Q) : thenQ cx y Q .normal st := h
theorem qThenE {k : Nat} (h : Q (.exit k) st) : thenQ cx y Q (.exit k) st := h
theorem qThenR (h : Q .ret st) : thenQ cx y Q .ret st := h
theorem qBlock {id : Nat} (h : Q .normal st) : blockQ id Q .normal st := h
theorem qBlockX {id : Nat} (h : Q .normal st) : blockQ id Q (.exit id) st := by
  show if id = id then Q .normal st else Q (.exit id) st
  rw [if_pos rfl]; exact h
theorem qBlockE {id k : Nat} (hne : Nat.beq k id = false) (h : Q (.exit k) st) : blockQ id Q (.exit k) st := by
  show if k = id then Q .normal st else Q (.exit k) st
  rw [if_neg (by rintro rfl; rw [Nat.beq_refl] at hne; cases hne)]
  exact h
theorem qBlockR {id : Nat} (h : Q .ret st) : blockQ id Q .ret st := h
theorem qLoopE {J : St → Prop} {k : Nat} (h : Q (.exit k) st) : loopQ J Q (.exit k) st := h
theorem qLoopR {J : St → Prop} (h : Q .ret st) : loopQ J Q .ret st := h
theorem qLoopN {J : St → Prop} (h : J st) : loopQ J Q .normal st := h

theorem HT.condT {o : Operand} (he : ev st.fr o = some (.one (.dat .bool true))) (h1 : HT cx st x Q) : HT cx st (.cond o x y) Q := HT.cond he (fun _ => h1) (fun h => by cases h)
theorem HT.condF {o : Operand} (he : ev st.fr o = some (.one (.dat .bool false))) (h1 : HT cx st y Q) : HT cx st (.cond o x y) Q := HT.cond he (fun h => by cases h) (fun _ => h1)
theorem HT.cond1 {o : Operand} {b : Bool} (he : ev st.fr o = some (.one (.dat .bool b))) (hb : b = true) (h1 : HT cx st x Q) : HT cx st (.cond o x y) Q := HT.cond he (fun _ => h1) (fun h => by rw [hb] at h; cases h)
theorem HT.cond0 {o : Operand} {b : Bool} (he : ev st.fr o = some (.one (.dat .bool b))) (hb : b = false) (h1 : HT cx st y Q) : HT cx st (.cond o x y) Q := HT.cond he (fun h => by rw [hb] at h; cases h) (fun _ => h1)

end
end Go.Ide
