import Derived.Test.YtcdcholgpdladaaLibB
import Derived.ProofKit
import Derived.Deep.Slices
import Derived.IntWalk
set_option linter.unusedVariables false
set_option linter.unusedSimpArgs false
set_option linter.unusedSectionVars false
/-
  A slice that is compared with nil: a test that nothing tells of, but that an empty slice's data are known.
-/
namespace Go.Ide

theorem run_equal_nil {P : Program} {w : World} {T e : TypeId} {a : Option Addr} {n cap : Nat} (hT : P.underlying T = some (.slice e)) :
    (Op.equal T (.slice a n cap) (.slice none 0 0)).run P w = .ok a.isNone w := by
  have h : ∀ d : Nat, (Op.equalIn (d + 1) T (.slice a n cap) (.slice none 0 0)).run P w = .ok a.isNone w := fun d => by
    rw [Op.equalIn]
    cases a <;> simp [run_underlying hT]
  exact h 9999

theorem run_guardNil {P : Program} {w : World} {T : TypeId} {x y : Operand} {a : Option Addr} {n cap : Nat} : (Go.eqGuard .eql T x y (.slice a n cap) (.slice none 0 0)).run P w = .ok () w := rfl

theorem run_eqlNil {P : Program} {w : World} {T e : TypeId} {a : Option Addr} {n cap : Nat} (hT : P.underlying T = some (.slice e)) : (Go.binOp .eql T (.slice a n cap) (.slice none 0 0)).run P w = .ok (.bool a.isNone) w := by
  have h2 : Go.binOp .eql T (.slice a n cap) (.slice none 0 0) = (do pure (.bool (← Op.equal T (.slice a n cap) (.slice none 0 0)))) := rfl
  rw [h2]
  simp only [Sem.run_bind, Result.andThen_ok, run_equal_nil hT, Sem.run_pure]

section
variable {cx : Cx} {st : St} {P : Program} {N : Nat} {Q : Exit → St → Prop} {y : Code}

theorem HT.isNil {id : Nat} {o1 o2 : Oper} {T T' e : TypeId} {t3 t4 : Tmp} {v : IVal} {t : Ty} {xs : List t.D} {st1 : St} (hP : cx.P = P) (hN : cx.N = N) (h1 : istep P N [o1, o2] o1 ⟨none, .no⟩ st = some (st1, [])) (hg : o2.guard = none)
    (hop : o2.op = .binOp .eql T (.tmp t3) (.const (.slice none 0 0)) T') (hd : o2.dst = some t4) (hlt : Nat.blt t4 N = true) (hT : P.underlying T = some (.slice e)) (hv : lk t3 st1.fr = some v) (hx : vdat st1.mem (.sl t) v = some xs)
    (k : ∀ b, (b = true → xs = []) → HT cx (st1.put (some t4) (.one (.dat .bool b))) y Q) : HT cx st (.seq (.region id [o1, o2].toArray false) y) Q := by
  subst hP; subst hN
  refine HT.seq fun g a w hs => wp_region_lit ?_
  refine wpList_step fun K hK => istep_sound hs h1 trivial fun g' a' w' hs' => hK a' w' ?_
  refine wpList_step fun K' hK' => ?_
  have hw : Region.wanted o2 (yielded [o1, o2].toArray a'.tmps) = true := by simp only [Region.wanted, hg]
  rw [if_pos hw]
  have hr : ReadM g' st1.mem st1.mem (fun _ => True) w' := fun k t xs hl => by
    refine ⟨hl, ?_⟩
    have hc := hs'.mem k _ hl
    cases hgk : g' k with
    | none => rw [hgk] at hc; exact hc
    | some b =>
      rw [hgk] at hc
      obtain ⟨arr, hb, hel⟩ := hc
      exact ⟨trivial, arr, hb, hel.keep fun b _ => ⟨trivial, rfl⟩⟩
  obtain ⟨ad, n, cap, e1, e2⟩ := nil_test _ _ _ _ hx hr (hs'.fr t3 v hv)
  unfold Oper.wp
  have he : (execOp a'.eval o2).run cx.P w' = .ok (.value (.bool ad.isNone)) w' := by
    have e3 : a'.eval (.tmp t3) = .slice ad n cap := e1
    have e4 : a'.eval (.const (.slice none 0 0)) = .slice none 0 0 := rfl
    simp only [execOp, hop, e3, e4, Sem.run_bind, run_guardNil, Result.andThen_ok, run_eqlNil hT, Sem.run_pure]
  rw [he]
  refine hK' _ _ ?_
  have hsim := hs'.put (v := .one (.dat .bool ad.isNone)) (val := .bool ad.isNone) (show CR g' st1.mem (cx.safe g' st1.mem w') w' (.dat .bool ad.isNone) (.bool ad.isNone) from rfl) (some t4) (fun t e => by injection e with e; subst e; exact Nat.lt_of_succ_le (by simpa [Nat.blt] using hlt))
  rw [hd]
  exact ⟨_, g', k ad.isNone (fun hb => e2 (by simpa using hb)), hsim⟩

end
end Go.Ide

/-
  The rules that printed proofs use.
-/
namespace Go.Ide

def St.keep (ks : List Nat) (st : St) : St := ⟨(ks.filterMap fun t => match lk t st.fr with
  | some v => some (t, v)
  | none => none), st.mem, st.nx⟩

theorem lk_keep {fr : Fr} {t : Nat} {v : IVal} : ∀ {ks : List Nat}, lk t (ks.filterMap fun t => match lk t fr with | some v => some (t, v) | none => none) = some v → lk t fr = some v
  | [], h => by simp [lk_nil] at h
  | k :: ks, h => by
    rw [List.filterMap_cons] at h
    split at h
    · exact lk_keep h
    · rename_i b hb
      split at hb
      · rename_i v' hv'
        injection hb with hb
        subst hb
        rw [lk_cons] at h
        split at h
        · rename_i e; subst e; rw [hv']; exact h
        · exact lk_keep h
      · cases hb

theorem Sim.keepS {cx : Cx} {g : GM} {st : St} {a : Act} {w : World} (ks : List Nat) (h : Sim cx g st a w) : Sim cx g (st.keep ks) a w :=
  h.congr (fun _ _ hv => lk_keep hv) fun _ => rfl

def keepO (ks : List Nat) : Option (St × List Prop) → Option (St × List Prop)
  | some (st, cs) => some (st.keep ks, cs)
  | none => none

theorem keepO_some {ks : List Nat} {o : Option (St × List Prop)} {st' : St} {cs : List Prop} (h : keepO ks o = some (st', cs)) : ∃ st1, o = some (st1, cs) ∧ st' = st1.keep ks := by
  unfold keepO at h
  split at h
  · rename_i st1 cs1
    injection h with h
    injection h with h1 h2
    subst h2
    exact ⟨st1, rfl, h1.symm⟩
  · cases h

/-- A drawn region. -/
def idraw (P : Program) (N : Nat) (ops : List Oper) (h : Nat) (hrs : List HR) (tds : List (List Nat)) (rs : List OH) (st : St) : Option (St × List Prop) :=
  bif (Nat.beq hrs.length h && Nat.ble h ops.length) && okFrom ops (hrs.map HR.D ++ tds) h 0 ops then (match ihead P N ops st (ops.take h) hrs [] st.nx with
    | some (ers, cs, nx) => (match ireg P N ops (ops.drop h) rs (headSt st ers (fun _ => true) nx) with
      | some (st', cs') => some (st', cs ++ cs')
      | none => none)
    | none => none) else none

def inrO {α β : Type} : Option β → Option (α ⊕ β)
  | some b => some (.inr b)
  | none => none

theorem of_inr {α β : Type} {e : Option β} {w : α ⊕ β} (h : inrO e = some w) : ∃ z, e = some z ∧ w = .inr z := by
  cases e with
  | none => cases h
  | some z => injection h with h; exact ⟨z, rfl, h.symm⟩

theorem of_some {α : Type} {a b : α} (h : some a = some b) : a = b := by injection h
theorem of_some2 {α : Type} {a b : α} (h : some a = some b) : b = a := by injection h with h; exact h.symm

theorem allNil : AllP [] := trivial
theorem allCons {p : Prop} {r : List Prop} (h : p) (hr : AllP r) : AllP (p :: r) := ⟨h, hr⟩

theorem natLt {α : Type} {xs : List α} {n : Int} (h : (0 : Int) ≤ n ∧ n < lenI xs) : Int.toNat n < List.length xs := by
  obtain ⟨h1, h2⟩ := h
  simp only [lenI] at h2
  omega

theorem cutAll {α : Type} (xs : List α) : (0 : Int) ≤ 0 ∧ (0 : Int) ≤ lenI xs ∧ lenI xs ≤ lenI xs := ⟨Int.le_refl _, Int.natCast_nonneg _, Int.le_refl _⟩

theorem trunc1 {α : Type} {xs : List α} {n : Int} (h : (0 : Int) ≤ n ∧ n ≤ lenI xs) : List.length (List.take (Int.toNat n) xs) = Int.toNat n := by
  obtain ⟨h1, h2⟩ := h
  simp only [lenI] at h2
  rw [List.length_take]
  omega

theorem trunc2 {α : Type} (n : Nat) (xs : List α) : List.take n xs = List.take (List.length (List.take n xs)) xs := by
  rw [List.length_take]
  rcases Nat.le_total n xs.length with h | h
  · rw [Nat.min_eq_left h]
  · rw [Nat.min_eq_right h, List.take_length, List.take_of_length_le h]

/-- A clone's data are the slice's. -/
def slices_Clone {α : Type} (xs : List α) : Option (List α) := guardP (0 + List.length xs ≤ appMax) (some xs)

section
variable {cx : Cx} {st st' : St} {P : Program} {N : Nat} {Q : Exit → St → Prop} {x y c : Code}

theorem HT.keep (ks : List Nat) (h : HT cx (st.keep ks) c Q) : HT cx st c Q := fun g a w hs => h g a w (hs.keepS ks)

theorem drawS {id h : Nat} {ops : List Oper} {hrs : List HR} {tds : List (List Nat)} {rs : List OH} {cs : List Prop} (hP : cx.P = P) (hN : cx.N = N) (hm : P.follows .mixedOrders = true)
    (he : idraw P N ops h hrs tds rs st = some (st', cs)) (hc : AllP cs) (hq : Q .normal st') : HT cx st (.region id ops.toArray true) Q := by
  unfold idraw at he
  cases hb : ((Nat.beq hrs.length h && Nat.ble h ops.length) && okFrom ops (hrs.map HR.D ++ tds) h 0 ops) with
  | false => rw [hb] at he; cases he
  | true =>
    rw [hb] at he
    simp only [cond_true] at he
    simp only [Bool.and_eq_true] at hb
    split at he
    · rename_i ers cs1 nx h1
      split at he
      · rename_i st1 cs2 h2
        injection he with he
        injection he with e1 e2
        subst e1
        subst e2
        obtain ⟨hc1, hc2⟩ := hc.append
        exact HT.drw hP hN hm (by simp only [Bool.and_eq_true, beq_iff_eq]; exact ⟨beq_of hb.1.1, hb.1.2⟩) hb.2 h1 h2 hc1 hc2 hq
      · cases he
    · cases he

/-- What follows a region may be told of fewer slots. -/
theorem HT.reg1 {id : Nat} {ops : List Oper} (ks : List Nat) (rs : List OH) (st' : St) {cs : List Prop} (hP : cx.P = P) (hN : cx.N = N) (he : keepO ks (ireg P N ops ops rs st) = some (st', cs)) (hc : AllP cs) (hq : HT cx st' y Q) : HT cx st (.seq (.region id ops.toArray false) y) Q := by
  obtain ⟨st1, h1, h2⟩ := keepO_some he
  subst h2
  exact HT.seq (HT.reg hP hN h1 hc (HT.keep ks hq))

theorem HT.drw1 {id : Nat} {ops : List Oper} (ks : List Nat) (h : Nat) (hrs : List HR) (tds : List (List Nat)) (rs : List OH) (st' : St) {cs : List Prop} (hP : cx.P = P) (hN : cx.N = N) (hm : P.follows .mixedOrders = true)
    (he : keepO ks (idraw P N ops h hrs tds rs st) = some (st', cs)) (hc : AllP cs) (hq : HT cx st' y Q) : HT cx st (.seq (.region id ops.toArray true) y) Q := by
  obtain ⟨st1, h1, h2⟩ := keepO_some he
  subst h2
  exact HT.seq (drawS hP hN hm h1 hc (HT.keep ks hq))

/-- Several ends of a piece meet. -/
theorem HT.join {α : Type} (J : α → St) (C : α → Prop) (h1 : ∀ v, C v → HT cx (J v) y Q) (h2 : (∀ v, C v → HT cx (J v) y Q) → HT cx st x (thenQ cx y Q)) : HT cx st (.seq x y) Q := HT.seq (h2 h1)

theorem qThen (h : HT cx st y Q) : thenQ cx y Q .normal st := h
theorem qThenE {k : Nat} (h : Q (.exit k) st) : thenQ cx y Q (.exit k) st := h
theorem qThenR (h : Q .ret st) : thenQ cx y Q .ret st := h
theorem qBlock {id : Nat} (h : Q .normal st) : blockQ id Q .normal st := h
theorem qBlockX {id : Nat} (h : Q .normal st) : blockQ id Q (.exit id) st := by
  show if id = id then Q .normal st else Q (.exit id) st
  rw [if_pos rfl]; exact h
theorem qBlockE {id k : Nat} (hne : Nat.beq k id = false) (h : Q (.exit k) st) : blockQ id Q (.exit k) st := by
  show if k = id then Q .normal st else Q (.exit k) st
  rw [if_neg (by rintro rfl; rw [Nat.beq_refl] at hne; cases hne)]
  exact h
theorem qBlockR {id : Nat} (h : Q .ret st) : blockQ id Q .ret st := h
theorem qLoopE {J : St → Prop} {k : Nat} (h : Q (.exit k) st) : loopQ J Q (.exit k) st := h
theorem qLoopR {J : St → Prop} (h : Q .ret st) : loopQ J Q .ret st := h
theorem qLoopN {J : St → Prop} (h : J st) : loopQ J Q .normal st := h

theorem HT.condT {o : Operand} (he : ev st.fr o = some (.one (.dat .bool true))) (h1 : HT cx st x Q) : HT cx st (.cond o x y) Q := HT.cond he (fun _ => h1) (fun h => by cases h)
theorem HT.condF {o : Operand} (he : ev st.fr o = some (.one (.dat .bool false))) (h1 : HT cx st y Q) : HT cx st (.cond o x y) Q := HT.cond he (fun h => by cases h) (fun _ => h1)
theorem HT.cond1 {o : Operand} {b : Bool} (he : ev st.fr o = some (.one (.dat .bool b))) (hb : b = true) (h1 : HT cx st x Q) : HT cx st (.cond o x y) Q := HT.cond he (fun _ => h1) (fun h => by rw [hb] at h; cases h)
theorem HT.cond0 {o : Operand} {b : Bool} (he : ev st.fr o = some (.one (.dat .bool b))) (hb : b = false) (h1 : HT cx st y Q) : HT cx st (.cond o x y) Q := HT.cond he (fun h => by rw [hb] at h; cases h) (fun _ => h1)

end
end Go.Ide

/-
  What the statements' reading of arguments gives.
-/
namespace Go.Ide

mutual
def tyB (P : Program) : Nat → Ty → TypeId → Bool
  | 0, _, _ => false
  | n + 1, t, T => match t with
    | .int k => (match P.underlying T with
      | some (.int k') => k == k'
      | _ => false)
    | .flt k => (match P.underlying T with
      | some (.float k') => k == k'
      | _ => false)
    | .bool => (match P.underlying T with
      | some .bool => true
      | _ => false)
    | .str => (match P.underlying T with
      | some .string => true
      | _ => false)
    | .sl t => (match P.underlying T with
      | some (.slice e) => tyB P n t e && Nat.beq (P.cellsOf e) t.size
      | _ => false)
    | .st t => (match P.underlying T with
      | some (.struct fs) => fdB P n t 0 fs.toList && Nat.beq (P.cellsOf T) t.size
      | _ => false)
    | .pair _ _ => false
def fdB (P : Program) : Nat → Ty → Nat → List Field → Bool
  | 0, _, _, _ => false
  | n + 1, t, off, fs => match fs with
    | [] => false
    | [f] => (tyB P n t f.type && Nat.beq f.offset off) && Nat.beq (P.cellsOf f.type) t.size
    | f :: fs => match t with
      | .pair a b => ((tyB P n a f.type && Nat.beq f.offset off) && Nat.beq (P.cellsOf f.type) a.size) && fdB P n b (off + a.size) fs
      | _ => false
end

section
variable {H : Type} {enc : TypeId × Value → H} {P : Program} {w : World} {base : Nat} {spare : Nat → Bool} {held : Bool}

/-- The blocks that are there. -/
def There (w : World) (b : Nat) : Prop := b < w.heap.size

/-- Data that a value can hold: numbers within their kinds. -/
def WfD : (t : Ty) → t.D → Prop
  | .int k, n => (Lit.int k n).wf = true
  | .flt k, b => ∃ b', fcanon k b' = b ∧ (Lit.float k b').wf = true
  | .bool, _ => True
  | .str, s => List.length s ≤ maxLen
  | .pair a b, x => WfD a x.1 ∧ WfD b x.2
  | .st t, x => WfD t x
  | .sl t, xs => List.length xs ≤ maxLen ∧ ∀ i (h : i < List.length xs), WfD t xs[i]

theorem pick_list {α : Type} {R : Nat → α → Prop} : ∀ (n : Nat), (∀ i, i < n → ∃ x, R i x) → ∃ l : List α, l.length = n ∧ ∀ i (h : i < l.length), R i l[i]
  | 0, _ => ⟨[], rfl, fun i h => by simp at h⟩
  | n + 1, h => by
    obtain ⟨l, h1, h2⟩ := pick_list n fun i hi => h i (by omega)
    obtain ⟨x, hx⟩ := h n (by omega)
    refine ⟨l ++ [x], by simp [h1], fun i hi => ?_⟩
    simp at hi
    rcases Nat.lt_or_ge i n with hlt | hge
    · rw [List.getElem_append_left (by omega)]; exact h2 i (by omega)
    · have : i = n := by omega
      subst this
      rw [List.getElem_append_right (by omega)]
      simpa [h1] using hx

theorem kind_eq {k k' : IntKind} (h : (k == k') = true) : k = k' := by cases k <;> cases k' <;> first | rfl | cases h
theorem fkind_eq {k k' : FloatKind} (h : (k == k') = true) : k = k' := by cases k <;> cases k' <;> first | rfl | cases h

theorem rep_of_trod : ∀ (n : Nat),
    (∀ (t : Ty) (T : TypeId) (fuel : Nat) (cs : List Value) (y : DataW H × List MemPlace), tyB P n t T = true → DataW.trod enc P w base spare held fuel T cs = some y → ∃ x, Rep (There w) w t cs x ∧ WfD t x) ∧
    (∀ (t : Ty) (off : Nat) (fs : List Field) (fuel : Nat) (cs : List Value), fdB P n t off fs = true → (∀ f ∈ fs, ∃ y, DataW.trod enc P w base spare held fuel f.type ((cs.drop f.offset).take (P.cellsOf f.type)) = some y) → cs.length = off + t.size → ∃ x, Rep (There w) w t (cs.drop off) x ∧ WfD t x)
  | 0 => ⟨fun _ _ _ _ _ h _ => by simp [tyB] at h, fun _ _ _ _ _ h _ _ => by simp [fdB] at h⟩
  | n + 1 => by
    obtain ⟨ih1, ih2⟩ := rep_of_trod n
    refine ⟨fun t T fuel cs y h hy => ?_, fun t off fs fuel cs h hf hl => ?_⟩
    · cases t with
      | int k =>
        simp only [tyB] at h
        split at h
        · rename_i k' e3
          have hk := kind_eq h
          subst hk
          obtain ⟨m, rfl, _, hwf⟩ := DataW.trod_int e3 hy
          exact ⟨m, rfl, hwf⟩
        · cases h
      | flt k =>
        simp only [tyB] at h
        split at h
        · rename_i k' e3
          have hk := fkind_eq h
          subst hk
          cases fuel with
          | zero => simp [DataW.trod] at hy
          | succ fuel =>
            unfold DataW.trod at hy
            rw [e3] at hy
            split at hy
            case h_3 =>
              rename_i k1 k2 b1 h1
              injection h1 with h1
              injection h1 with h1
              subst h1
              split at hy
              · rename_i hk
                obtain ⟨hk1, hk2⟩ := hk
                subst hk1
                exact ⟨_, ⟨b1, rfl, rfl⟩, b1, rfl, hk2⟩
              · cases hy
            all_goals first | (rename_i h1; cases h1; done) | (rename_i h1 _; cases h1; done) | (rename_i h1 _ _; cases h1; done) | cases hy
        · cases h
      | bool =>
        simp only [tyB] at h
        split at h
        · rename_i e3
          obtain ⟨m, rfl, _⟩ := DataW.trod_bool e3 hy
          exact ⟨m, rfl, trivial⟩
        · cases h
      | str =>
        simp only [tyB] at h
        split at h
        · rename_i e3
          obtain ⟨m, rfl, _, hm⟩ := DataW.trod_string e3 hy
          exact ⟨m.data.toList, by simp [Rep], by simpa [WfD] using hm⟩
        · cases h
      | sl t =>
        simp only [tyB] at h
        split at h
        · rename_i e2 e3
          simp only [Bool.and_eq_true] at h
          obtain ⟨h1, h2⟩ := h
          have h2 := beq_of h2
          rcases Go.Deep.open_slice e3 hy with ⟨rfl, _⟩ | ⟨a, len, cap, m, f2, D, Pl, rfl, hb, hlc, hcm, hm, _, hel⟩
          · exact ⟨[], ⟨none, 0, rfl, Nat.le_refl _, fun i hi => by simp at hi⟩, by simp [WfD]⟩
          · have hlm : len ≤ m := by rw [hm]; split <;> omega
            obtain ⟨xs, hx1, hx2⟩ := pick_list (R := fun i (x : t.D) => There w a.block ∧ ∃ es, (∀ j v, es[j]? = some v → w.cell? (a.add (i * t.size + j)) = some v) ∧ Rep (There w) w t es x ∧ WfD t x) len fun i hi => by
              obtain ⟨cs', k1, k2⟩ := hel i (by omega)
              obtain ⟨x, k3, k4⟩ := ih1 t _ _ _ _ h1 k2
              obtain ⟨_, k5, k6⟩ := World.cells?_some k1
              have hpos : 0 < P.cellsOf e2 := by rw [h2]; exact t.size_pos
              refine ⟨x, World.cells?_block k1 hpos |> fun q => by simpa [There, add_block] using q, cs', fun j v hv => ?_, k3, k4⟩
              have hj : j < P.cellsOf e2 := by rw [← k5]; exact (List.getElem?_eq_some_iff.1 hv).1
              rw [← add_add, ← h2, k6 j hj]
              exact hv
            refine ⟨xs, ⟨some a, cap, by rw [hx1], by omega, fun i hi => ?_⟩, by rw [hx1]; omega, fun i hi => ?_⟩
            · obtain ⟨q1, es, q2, q3, _⟩ := hx2 i hi
              exact ⟨a, es, rfl, q1, q2, q3⟩
            · obtain ⟨_, _, _, _, q4⟩ := hx2 i hi
              exact q4
        · cases h
      | pair a b => simp [tyB] at h
      | st t =>
        simp only [tyB] at h
        split at h
        · rename_i e2 e3
          simp only [Bool.and_eq_true] at h
          obtain ⟨h1, h2⟩ := h
          have h2 := beq_of h2
          obtain ⟨xs, f2, _, _, hl, hxs, hel⟩ := DataW.trod_struct e3 hy
          have := ih2 t 0 _ f2 cs h1 (fun f hf => by
            obtain ⟨i, hi⟩ := List.getElem?_of_mem hf
            have hi' : e2[i]? = some f := by rw [← Array.getElem?_toList]; exact hi
            have hlt : i < xs.length := by rw [hxs]; exact (Array.getElem?_eq_some_iff.1 hi').1
            exact ⟨xs[i], by rw [hel i f hi']; exact List.getElem?_eq_getElem hlt⟩) (by rw [hl, h2, Nat.zero_add])
          obtain ⟨x, k1, k2⟩ := this
          rw [List.drop_zero] at k1
          exact ⟨x, k1, k2⟩
        · cases h
    · cases fs with
      | nil => simp [fdB] at h
      | cons f fs =>
        cases fs with
        | nil =>
          simp only [fdB, Bool.and_eq_true] at h
          obtain ⟨⟨h1, h2⟩, h3⟩ := h
          have h2 := beq_of h2
          have h3 := beq_of h3
          obtain ⟨y, hy⟩ := hf f (by simp)
          obtain ⟨x, k1, k2⟩ := ih1 t _ _ _ _ h1 hy
          refine ⟨x, ?_, k2⟩
          rw [h2, h3, List.take_of_length_le (by rw [List.length_drop]; omega)] at k1
          exact k1
        | cons f2 fs =>
          cases t with
          | pair a b =>
            simp only [fdB, Bool.and_eq_true] at h
            obtain ⟨⟨⟨h1, h2⟩, h3⟩, h4⟩ := h
            have h2 := beq_of h2
            have h3 := beq_of h3
            obtain ⟨y, hy⟩ := hf f (by simp)
            obtain ⟨x, k1, k2⟩ := ih1 a _ _ _ _ h1 hy
            obtain ⟨z, k3, k4⟩ := ih2 b (off + a.size) _ fuel cs h4 (fun g hg => hf g (by simp only [List.mem_cons] at hg ⊢; exact .inr hg)) (by rw [hl]; simp [Ty.size]; omega)
            rw [h2, h3] at k1
            refine ⟨(x, z), ⟨_, _, ?_, k1, k3⟩, k2, k4⟩
            rw [← List.drop_drop]
            exact (List.take_append_drop _ _).symm
          | _ => simp [fdB] at h

end
end Go.Ide

/-
  From a contract to a statement.
-/
namespace Go.Ide
open Go.ChangeShapes Go.WideShapes Go.RowKit

section
variable {H : Type} {enc : TypeId × Value → H} {P : Program}

def parB (P : Program) (ts : List TypeId) : Bool := ts.all fun t => P.readableRec t && Nat.blt t P.types.size

theorem trodAll_below (hl : laidOutB P = true) {W W' : World} (hb : Below W.heap.size W W') : ∀ {ts : List TypeId} {vs : List Value} {ds : List (DataW H)} {p : List MemPlace}, parB P ts = true → DataW.TrodAll enc P W 0 (fun _ => true) true ts vs ds p → (∀ x ∈ p, x.block < W.heap.size) →
    DataW.TrodAll enc P W' 0 (fun b => decide (b < W.heap.size)) true ts vs ds p
  | [], [], [], p, _, h, _ => h
  | t :: ts, v :: vs, d :: ds, p, hp, h, hlt => by
    obtain ⟨p1, p2, h1, h2, rfl⟩ := h
    simp only [parB, List.all_cons, Bool.and_eq_true] at hp
    refine ⟨p1, p2, Below.trod hl hp.1.1 (Nat.lt_of_succ_le (by simpa [Nat.blt] using hp.1.2)) h1 hb (fun x hx => hlt x (by simp [hx])), trodAll_below hl hb (by simpa [parB] using hp.2) h2 (fun x hx => hlt x (by simp [hx])), rfl⟩

theorem law_post {f : Func} {s : ChangeSpec} {T : TypeId} {W W' : World} {args : Array Value} {ds gs : List (DataW H)} {before : List MemPlace} (hl : laidOutB P = true) (hpar : parB P f.params.toList = true) (hv : s.vars = []) (hr : f.resultTypes = #[T]) (hT : P.underlying T = some .bool)
    (hfn : s.fn H ds = { results := [.lit (.bool true)], args := ds }) (hW : DataW.Whole enc P f.params.toList s.vars false W args.toList ds gs before) (hb : Below W.heap.size W W') : s.post enc P f false true false false W args (.bool true) W' := by
  have hW' := hW
  obtain ⟨p, q, hA, hV, rfl, hfz, hnd⟩ := hW
  rw [hv] at hV
  obtain ⟨rfl, rfl⟩ := trodVars_none hV
  have hfn' : s.fn H (ds ++ []) = { results := [.lit (.bool true)], args := ds } := by rw [List.append_nil]; exact hfn
  refine ⟨ds, [], p ++ [], [], p, [], hW', ?_, ?_, ?_, hb.frame _, fun h => by cases h⟩
  · rw [hfn', hr]
    exact trodAll_mk1 ⟨1, by simp [DataW.trod, hT, Value.cells]⟩
  · rw [hfn']
    exact trodAll_below hl hb hpar hA fun x hx => hW'.lt x (by simp [hx])
  · rw [hv, hfn']
    rfl

theorem valOf_ok {n : Nat} {t : Ty} {T : TypeId} {W : World} {r : Reach} {base : Nat} {v : Value} (hc : tyB P n t T = true) (h : Value.okWide P W r base T v) : ValOf t v.cells.toList v := by
  cases n with
  | zero => simp [tyB] at hc
  | succ n =>
    cases t <;> simp only [tyB] at hc
    case pair => cases hc
    case st t =>
      split at hc
      · rename_i fs e
        unfold Value.okWide at h
        rw [e] at h
        obtain ⟨cs, rfl, _⟩ := h
        simp [ValOf, Ty.isSt, Value.cells]
      · cases hc
    all_goals
      split at hc
      · rename_i e
        simp only [Value.okWide, e, Cell.okWide, Cell.ok] at h
        cases v <;> first | (simp [ValOf, Ty.isSt, Value.cells]; done) | (simp at h; done) | exact h.elim
      · cases hc

/-- The arguments as data. -/
def immArgs (l : List TD) : List Arg := l.map fun d => .imm d.t d.x

def tysB (P : Program) : List Ty → List TypeId → Bool
  | [], [] => true
  | t :: ts, T :: Ts => tyB P 40 t T && tysB P ts Ts
  | _, _ => false

theorem args_of_trod {W : World} {base : Nat} {spare : Nat → Bool} {held : Bool} {r : Reach} {b0 : Nat} : ∀ {ts : List Ty} {Ts : List TypeId} {vs : List Value} {ds : List (DataW H)} {p : List MemPlace}, tysB P ts Ts = true → DataW.TrodAll enc P W base spare held Ts vs ds p →
    (∀ (j : Nat) t v, Ts[j]? = some t → vs[j]? = some v → Value.okWide P W r b0 t v) → ∃ l : List TD, l.map TD.t = ts ∧ (∀ d ∈ l, WfD d.t d.x) ∧ ArgsR (There W) W (immArgs l) vs (l.map fun _ => [])
  | [], [], [], [], p, _, _, _ => ⟨[], rfl, fun d hd => by simp at hd, trivial⟩
  | t :: ts, T :: Ts, v :: vs, d :: ds, p, hc, h, hok => by
    obtain ⟨p1, p2, ⟨fuel, h1⟩, h2, rfl⟩ := h
    simp only [tysB, Bool.and_eq_true] at hc
    obtain ⟨x, k1, k2⟩ := (rep_of_trod 40).1 t T fuel _ _ hc.1 h1
    obtain ⟨l, k3, k4, k5⟩ := args_of_trod hc.2 h2 fun j t v hj hv => hok (j + 1) t v (by simpa using hj) (by simpa using hv)
    refine ⟨⟨t, x⟩ :: l, by simp [k3], fun d hd => ?_, ⟨rfl, _, valOf_ok hc.1 (hok 0 T v rfl rfl), k1⟩, k5⟩
    rcases List.mem_cons.1 hd with e | hd
    · subst e; exact k2
    · exact k4 d hd
  | [], _ :: _, _, _, _, hc, _, _ => by simp [tysB] at hc
  | _ :: _, [], _, _, _, hc, _, _ => by simp [tysB] at hc

theorem flat_nil {α β : Type} : ∀ (l : List α), (l.map fun _ => ([] : List β)).flatten = []
  | [] => rfl
  | _ :: l => by simp

theorem res_true {S : Nat → Prop} {w : World} {v : Value} {F : List Nat} (h : ResR S w [⟨false, .bool, true⟩] v F) : v = .bool true := by
  obtain ⟨vs, h1, h2⟩ := h
  cases vs with
  | nil => exact h1.elim
  | cons u vs =>
    obtain ⟨F1, F2, _, h3, h4⟩ := h1
    cases vs with
    | cons => exact h4.elim
    | nil =>
      have h2 : v = u := h2
      subst h2
      simp only [RVR] at h3
      obtain ⟨_, cs, h5, h6⟩ := h3
      have h6 : cs = [.bool true] := h6
      subst h6
      have h5 : [Value.bool true] = [v] := h5
      simpa using h5.symm

/-- A law that returns true at all data: what its row asks. -/
theorem law_run {f : FuncId} {fn : Func} {s : ChangeSpec} {T : TypeId} {ts : List Ty} {W : World} {base : Nat} {args : Array Value} {ds gs : List (DataW H)} {before : List MemPlace} (hl : laidOutB P = true) (hpar : parB P fn.params.toList = true) (hv : s.vars = []) (hr : fn.resultTypes = #[T]) (hT : P.underlying T = some .bool)
    (hts : tysB P ts fn.params.toList = true) (hfn : ds.length = ts.length → s.fn H ds = { results := [.lit (.bool true)], args := ds })
    (hall : ∀ l : List TD, l.map TD.t = ts → (∀ d ∈ l, WfD d.t d.x) → CallOK P f (immArgs l) [⟨false, .bool, true⟩] [])
    (hval : ∀ (j : Nat) t v, fn.params[j]? = some t → args[j]? = some v → Value.okWide P W .any base t v) (hW : DataW.Whole enc P fn.params.toList s.vars false W args.toList ds gs before) :
    Calls P f args W fun e W' => ∃ v, e = .returned v ∧ s.post enc P fn false true false false W args v W' := by
  have hW' := hW
  obtain ⟨p, q, hA, hV, rfl, hfz, hnd⟩ := hW
  obtain ⟨l, k1, k2, k3⟩ := args_of_trod (r := .any) (b0 := base) hts hA fun j t v hj hv => hval j t v (by simpa using hj) (by simpa using hv)
  have hds : ds.length = ts.length := by
    have aux : ∀ {Ts : List TypeId} {vs : List Value} {ds : List (DataW H)} {p : List MemPlace}, DataW.TrodAll enc P W 0 (fun _ => true) true Ts vs ds p → ds.length = Ts.length := by
      intro Ts
      induction Ts with
      | nil => intro vs ds p h; obtain ⟨_, rfl, _⟩ := trodAll_nil h; rfl
      | cons T Ts ih =>
        intro vs ds p h
        obtain ⟨v, vs', d, ds', p, q, rfl, rfl, rfl, _, h2⟩ := trodAll_cons h
        simp [ih h2]
    have aux2 : ∀ {ts : List Ty} {Ts : List TypeId}, tysB P ts Ts = true → ts.length = Ts.length := by
      intro ts
      induction ts with
      | nil => intro Ts h; cases Ts with
        | nil => rfl
        | cons => simp [tysB] at h
      | cons t ts ih => intro Ts h; cases Ts with
        | nil => simp [tysB] at h
        | cons T Ts => simp only [tysB, Bool.and_eq_true] at h; simp [ih h.2]
    rw [aux hA, aux2 hts]
  obtain ⟨_, hcall⟩ := hall l k1 k2
  have hflat := flat_nil (β := Nat) l
  have := hcall W (There W) args.toList (l.map fun _ => []) (fun b hb => ⟨hb, by rw [hflat]; simp⟩) (by rw [hflat]; exact List.nodup_nil) (fun b hb => by rw [hflat] at hb; simp at hb) k3
  rw [show args.toList.toArray = args from by simp] at this
  refine this.mono fun e W' ⟨v, F', e1, h1, _, _, h4, _⟩ => ?_
  have hvt := res_true h1
  subst hvt
  have h4 : KeepF [] W W' := by
    rw [show ([] : List Nat) = (l.map fun _ => ([] : List Nat)).flatten from hflat.symm]
    simpa using h4
  exact ⟨_, e1, law_post hl hpar hv hr hT (hfn hds) hW' ⟨h4.os, h4.tape, h4.output, h4.size, fun k hk => h4.block k hk (by simp)⟩⟩

end
end Go.Ide

/-
  Laws of loops that plain functions tell.
-/
namespace Go.Ide

section
variable {σ ρ : Type} {f g : σ → Option (σ ⊕ ρ)}

theorem runN_congr {I : σ → Prop} (hfg : ∀ s, I s → f s = g s) (hI : ∀ s s', I s → f s = some (.inl s') → I s') : ∀ (n : Nat) (s : σ), I s → runN f n s = runN g n s
  | 0, _, _ => rfl
  | n + 1, s, h => by
    simp only [runN]
    rw [← hfg s h]
    cases hx : f s with
    | none => rfl
    | some x => cases x with
      | inl s' => exact runN_congr hfg hI n s' (hI s s' h hx)
      | inr r => rfl

/-- Two loops that do the same where they come. -/
theorem rounds_congr {I : σ → Prop} (hfg : ∀ s, I s → f s = g s) (hI : ∀ s s', I s → f s = some (.inl s') → I s') {s : σ} (h : I s) : rounds f s = rounds g s := by
  cases h1 : rounds f s with
  | some r =>
    obtain ⟨n, hn⟩ := rounds_iff.1 h1
    rw [runN_congr hfg hI n s h] at hn
    exact (rounds_iff.2 ⟨n, hn⟩).symm
  | none =>
    cases h2 : rounds g s with
    | none => rfl
    | some r =>
      obtain ⟨n, hn⟩ := rounds_iff.1 h2
      rw [← runN_congr hfg hI n s h] at hn
      rw [rounds_iff.2 ⟨n, hn⟩] at h1
      cases h1

/-- A loop that ends, and where. -/
theorem rounds_total {I : σ → Prop} {R : ρ → Prop} (μ : σ → Nat) (hstep : ∀ s, I s → (∃ s', f s = some (.inl s') ∧ I s' ∧ μ s' < μ s) ∨ (∃ r, f s = some (.inr r) ∧ R r)) : ∀ (n : Nat) (s : σ), μ s ≤ n → I s → ∃ r, rounds f s = some r ∧ R r
  | n, s, hn, h => by
    rw [rounds_eq]
    rcases hstep s h with ⟨s', h1, h2, h3⟩ | ⟨r, h1, h2⟩
    · rw [h1]
      cases n with
      | zero => omega
      | succ n => exact rounds_total μ hstep n s' (by omega) h2
    · rw [h1]
      exact ⟨r, rfl, h2⟩

end
end Go.Ide

/-
  Loops that count; two loops side by side; sums in range.
-/
namespace Go.Ide
open Go.IntWalk

/-- k rounds of a counting loop, from i on. -/
def forN {σ ρ : Type} (g : Nat → σ → σ ⊕ ρ) (e : σ → ρ) : Nat → Nat → σ → ρ
  | 0, _, s => e s
  | k + 1, i, s => match g i s with
    | .inl s' => forN g e k (i + 1) s'
    | .inr r => r

/-- k rounds of a counting loop that does not leave early. -/
def forS {σ : Type} (g : Nat → σ → σ) : Nat → Nat → σ → σ
  | 0, _, s => s
  | k + 1, i, s => forS g k (i + 1) (g i s)

section
variable {σ τ ρ : Type}

theorem rounds_for {f : τ → Option (τ ⊕ ρ)} (mk : Nat → σ → τ) (g : Nat → σ → σ ⊕ ρ) (e : σ → ρ) {n : Nat} (I : Nat → σ → Prop)
    (hstep : ∀ i s, i < n → I i s → f (mk i s) = some (match g i s with | .inl s' => .inl (mk (i + 1) s') | .inr r => .inr r) ∧ (∀ s', g i s = .inl s' → I (i + 1) s'))
    (hend : ∀ s, I n s → f (mk n s) = some (.inr (e s))) : ∀ (k i : Nat) (s : σ), i + k = n → I i s → rounds f (mk i s) = some (forN g e k i s)
  | 0, i, s, hi, h => by
    have : i = n := by omega
    subst this
    rw [rounds_eq, hend s h]
    rfl
  | k + 1, i, s, hi, h => by
    obtain ⟨h1, h2⟩ := hstep i s (by omega) h
    rw [rounds_eq, h1]
    simp only [forN]
    cases hg : g i s with
    | inl s' => exact rounds_for mk g e I hstep hend k (i + 1) s' (by omega) (h2 s' hg)
    | inr r => rfl

theorem rounds_forS {f : τ → Option (τ ⊕ ρ)} (mk : Nat → σ → τ) (g : Nat → σ → σ) (e : σ → ρ) {n : Nat} (I : Nat → σ → Prop)
    (hstep : ∀ i s, i < n → I i s → f (mk i s) = some (.inl (mk (i + 1) (g i s))) ∧ I (i + 1) (g i s))
    (hend : ∀ s, I n s → f (mk n s) = some (.inr (e s))) : ∀ (k i : Nat) (s : σ), i + k = n → I i s → rounds f (mk i s) = some (e (forS g k i s)) ∧ I n (forS g k i s)
  | 0, i, s, hi, h => by
    have : i = n := by omega
    subst this
    rw [rounds_eq, hend s h]
    exact ⟨rfl, h⟩
  | k + 1, i, s, hi, h => by
    obtain ⟨h1, h2⟩ := hstep i s (by omega) h
    rw [rounds_eq, h1]
    exact rounds_forS mk g e I hstep hend k (i + 1) (g i s) (by omega) h2

/-- All of a beginning. -/
def allN (p : Nat → Bool) : Nat → Nat → Bool
  | 0, _ => true
  | k + 1, i => p i && allN p k (i + 1)

theorem allN_iff {p : Nat → Bool} : ∀ {k i : Nat}, allN p k i = true ↔ ∀ j, i ≤ j → j < i + k → p j = true
  | 0, i => by simp only [allN, true_iff]; intro j h1 h2; omega
  | k + 1, i => by
    simp only [allN, Bool.and_eq_true, allN_iff (k := k)]
    constructor
    · rintro ⟨h1, h2⟩ j hj hj2
      by_cases e : j = i
      · rw [e]; exact h1
      · exact h2 j (by omega) (by omega)
    · intro h
      exact ⟨h i (Nat.le_refl _) (by omega), fun j hj hj2 => h j (by omega) (by omega)⟩

/-- A loop that looks for a bad one. -/
theorem rounds_all {f : τ → Option (τ ⊕ ρ)} (mk : Nat → τ) (p : Nat → Bool) (a b : ρ) {n : Nat}
    (hstep : ∀ i, i < n → f (mk i) = some (bif p i then .inl (mk (i + 1)) else .inr b)) (hend : f (mk n) = some (.inr a)) : ∀ (k i : Nat), i + k = n → rounds f (mk i) = some (bif allN p k i then a else b)
  | 0, i, hi => by
    have : i = n := by omega
    subst this
    rw [rounds_eq, hend]
    rfl
  | k + 1, i, hi => by
    rw [rounds_eq, hstep i (by omega)]
    simp only [allN]
    cases p i with
    | true => simp only [cond_true, Bool.true_and]; exact rounds_all mk p a b hstep hend k (i + 1) (by omega)
    | false => rfl

/-- Two loops side by side. -/
theorem rounds_rel {ρ' : Type} {f : σ → Option (σ ⊕ ρ)} {g : τ → Option (τ ⊕ ρ')} (R : Nat → σ → τ → Prop) (Q : ρ → ρ' → Prop)
    (step : ∀ n s t, R n s t → (∃ n' s' t', n' < n ∧ f s = some (.inl s') ∧ g t = some (.inl t') ∧ R n' s' t') ∨ (∃ r r', f s = some (.inr r) ∧ g t = some (.inr r') ∧ Q r r')) :
    ∀ (n : Nat) (s : σ) (t : τ), R n s t → ∃ r r', rounds f s = some r ∧ rounds g t = some r' ∧ Q r r' := by
  intro n
  induction n using Nat.strongRecOn with
  | _ n ih =>
    intro s t h
    rw [rounds_eq f s, rounds_eq g t]
    rcases step n s t h with ⟨n', s', t', hn, h1, h2, h3⟩ | ⟨r, r', h1, h2, h3⟩
    · rw [h1, h2]
      exact ih n' hn s' t' h3
    · rw [h1, h2]
      exact ⟨r, r', rfl, rfl, h3⟩

/-- One loop, its measure. -/
theorem rounds_inv {f : σ → Option (σ ⊕ ρ)} (R : Nat → σ → Prop) (Q : ρ → Prop)
    (step : ∀ n s, R n s → (∃ n' s', n' < n ∧ f s = some (.inl s') ∧ R n' s') ∨ (∃ r, f s = some (.inr r) ∧ Q r)) :
    ∀ (n : Nat) (s : σ), R n s → ∃ r, rounds f s = some r ∧ Q r := by
  intro n
  induction n using Nat.strongRecOn with
  | _ n ih =>
    intro s h
    rw [rounds_eq f s]
    rcases step n s h with ⟨n', s', hn, h1, h3⟩ | ⟨r, h1, h3⟩
    · rw [h1]
      exact ih n' hn s' h3
    · rw [h1]
      exact ⟨r, rfl, h3⟩

end

theorem waddI {a b : Int} (h : -9223372036854775808 ≤ a + b ∧ a + b ≤ 9223372036854775807) : wadd .i64 a b = a + b := i64_in _ h
theorem wsubI {a b : Int} (h : -9223372036854775808 ≤ a - b ∧ a - b ≤ 9223372036854775807) : wsub .i64 a b = a - b := i64_in _ h
theorem wmulI {a b : Int} (h : -9223372036854775808 ≤ a * b ∧ a * b ≤ 9223372036854775807) : wmul .i64 a b = a * b := i64_in _ h

theorem nextN {i n : Nat} (h : i < n) (hn : n ≤ 4294967296) : wadd .i64 (i : Int) 1 = ((i + 1 : Nat) : Int) := by
  rw [show ((i + 1 : Nat) : Int) = (i : Int) + 1 from by omega]; exact i64_in _ (by omega)

theorem ltN {i n : Nat} (h : i < n) : decide ((i : Int) < (n : Int)) = true := by simp; omega
theorem geN {i n : Nat} (h : n ≤ i) : decide ((i : Int) < (n : Int)) = false := by simp; omega

theorem idxN {i n : Nat} (h : i < n) : (0 : Int) ≤ (i : Int) ∧ (i : Int) < (n : Int) := ⟨by omega, by omega⟩

theorem cellN {c i k : Nat} (hc : c ≤ 1000) (hi : i < 1000) (hk : k < 1000) : wadd .i64 (wmul .i64 (i : Int) (c : Int)) (k : Int) = ((i * c + k : Nat) : Int) := by
  have h : i * c ≤ 1000 * 1000 := Nat.mul_le_mul (by omega) hc
  rw [wmulI (by rw [← Int.natCast_mul]; omega), ← Int.natCast_mul, waddI (by omega)]
  omega

theorem cell_lt {c i k : Nat} (hi : i < c) (hk : k < c) : i * c + k < c * c := by
  have : i * c + c ≤ c * c := by
    rw [← Nat.succ_mul]
    exact Nat.mul_le_mul_right c hi
  omega

end Go.Ide

/-
  Loops over slices that copy, compare, mark.
-/
namespace Go.Ide
open Go.IntWalk

section
variable {α : Type}

theorem drop_cons {xs : List α} {i : Nat} (h : i < xs.length) (d : α) : xs.drop i = xs.getD i d :: xs.drop (i + 1) := by
  rw [List.drop_eq_getElem_cons h, List.getD_eq_getElem?_getD, List.getElem?_eq_getElem h]; rfl

theorem set_at {l r : List α} {a b : α} {i : Nat} (h : l.length = i) : (l ++ a :: r).set i b = l ++ b :: r := by
  subst h
  induction l with
  | nil => rfl
  | cons x l ih => simp [ih]

theorem take_snoc {xs : List α} {i : Nat} (h : i < xs.length) (d : α) : xs.take (i + 1) = xs.take i ++ [xs.getD i d] := by
  rw [List.take_add_one, List.getD_eq_getElem?_getD, List.getElem?_eq_getElem h]; rfl

/-- A loop that copies. -/
theorem loop_to {f : Int × List α → Option ((Int × List α) ⊕ List α)} (xs : List α) (d : α)
    (hstep : ∀ (i : Nat) (out : List α), i < xs.length → out.length = xs.length → f ((i : Int), out) = some (.inl (((i + 1 : Nat) : Int), out.set i (xs.getD i d))))
    (hend : ∀ out : List α, out.length = xs.length → f (((xs.length : Nat) : Int), out) = some (.inr out)) : rounds f ((0 : Int), List.replicate xs.length d) = some xs := by
  have := rounds_forS (f := f) (fun i out => (((i : Nat) : Int), out)) (fun i out => out.set i (xs.getD i d)) id (n := xs.length) (fun i out => out = xs.take i ++ List.replicate (xs.length - i) d)
    (fun i out hi h => ⟨hstep i out hi (by rw [h]; simp; omega), by
      rw [h, take_snoc hi d, show xs.length - i = (xs.length - (i + 1)) + 1 from by omega, List.replicate_succ, set_at (by simp; omega)]
      simp⟩)
    (fun out h => hend out (by rw [h]; simp)) xs.length 0 (List.replicate xs.length d) (by omega) (by simp)
  rw [show ((0 : Int), List.replicate xs.length d) = (((0 : Nat) : Int), List.replicate xs.length d) from rfl, this.1, show id (forS _ xs.length 0 _) = forS _ xs.length 0 _ from rfl, this.2]
  simp

/-- A loop that compares equals. -/
theorem loop_eq {ρ : Type} {f : Int → Option (Int ⊕ ρ)} (r : ρ) (n : Nat) (hstep : ∀ i : Nat, i < n → f (i : Int) = some (.inl ((i + 1 : Nat) : Int))) (hend : f (n : Int) = some (.inr r)) : rounds f (0 : Int) = some r := by
  have := rounds_all (f := f) (fun i => ((i : Nat) : Int)) (fun _ => true) r r (n := n) (fun i hi => by rw [hstep i hi]; rfl) hend n 0 (by omega)
  rw [show (0 : Int) = ((0 : Nat) : Int) from rfl, this]
  cases allN (fun _ => true) n 0 <;> rfl

/-- What marks leave. -/
def marksG (mv : Int → α) (c : Nat) (k0 : Int) (n : Nat) : List α := (List.range n).map fun i => mv (k0 + ((c * i : Nat) : Int))

theorem marksG_len {mv : Int → α} {c : Nat} {k0 : Int} {n : Nat} : (marksG mv c k0 n).length = n := by simp [marksG]
theorem marksG_succ (mv : Int → α) (c : Nat) (k0 : Int) (n : Nat) : marksG mv c k0 (n + 1) = marksG mv c k0 n ++ [mv (k0 + ((c * n : Nat) : Int))] := by
  simp [marksG, List.range_succ]
theorem marksG_get {mv : Int → α} {c : Nat} {k0 : Int} {n i : Nat} (h : i < n) (d : α) : (marksG mv c k0 n).getD i d = mv (k0 + ((c * i : Nat) : Int)) := by
  rw [List.getD_eq_getElem?_getD, List.getElem?_eq_getElem (by rw [marksG_len]; exact h)]
  simp [marksG]

theorem loop_mark {f : Int × Int × List α → Option ((Int × Int × List α) ⊕ (Int × List α))} (mv : Int → α) (c : Nat) (k0 : Int) (xs : List α)
    (hstep : ∀ (i : Nat) (out : List α), i < xs.length → out.length = xs.length → f (k0 + ((c * i : Nat) : Int), (i : Int), out) = some (.inl (k0 + ((c * (i + 1) : Nat) : Int), ((i + 1 : Nat) : Int), out.set i (mv (k0 + ((c * i : Nat) : Int))))))
    (hend : ∀ out : List α, out.length = xs.length → f (k0 + ((c * xs.length : Nat) : Int), ((xs.length : Nat) : Int), out) = some (.inr (k0 + ((c * xs.length : Nat) : Int), out))) :
    rounds f (k0, (0 : Int), xs) = some (k0 + ((c * xs.length : Nat) : Int), marksG mv c k0 xs.length) := by
  have := rounds_forS (f := f) (fun i out => (k0 + ((c * i : Nat) : Int), ((i : Nat) : Int), out)) (fun i out => out.set i (mv (k0 + ((c * i : Nat) : Int)))) (fun out => (k0 + ((c * xs.length : Nat) : Int), out)) (n := xs.length) (fun i out => out = marksG mv c k0 i ++ xs.drop i)
    (fun i out hi h => ⟨hstep i out hi (by rw [h]; simp [marksG_len]; omega), by
      rw [h, drop_cons hi (mv 0), set_at marksG_len, marksG_succ]; simp⟩)
    (fun out h => hend out (by rw [h]; simp [marksG_len])) xs.length 0 xs (by omega) (by simp [marksG])
  simp only [Nat.mul_zero, Int.natCast_zero, Int.add_zero] at this
  rw [this.1, this.2]
  simp

theorem loop_held {ρ : Type} {f : Int × Int → Option ((Int × Int) ⊕ (Int ⊕ ρ))} (c : Nat) (k0 : Int) (n : Nat)
    (hstep : ∀ i : Nat, i < n → f (k0 + ((c * i : Nat) : Int), (i : Int)) = some (.inl (k0 + ((c * (i + 1) : Nat) : Int), ((i + 1 : Nat) : Int))))
    (hend : f (k0 + ((c * n : Nat) : Int), (n : Int)) = some (.inr (.inl (k0 + ((c * n : Nat) : Int))))) : rounds f (k0, (0 : Int)) = some (.inl (k0 + ((c * n : Nat) : Int))) := by
  have := rounds_forS (f := f) (fun i (_ : Unit) => (k0 + ((c * i : Nat) : Int), ((i : Nat) : Int))) (fun _ u => u) (fun _ => (.inl (k0 + ((c * n : Nat) : Int)))) (n := n) (fun _ _ => True)
    (fun i _ hi _ => ⟨hstep i hi, trivial⟩) (fun _ _ => hend) n 0 () (by omega) trivial
  simp only [Nat.mul_zero, Int.natCast_zero, Int.add_zero] at this
  exact this.1

end

theorem markN {c i : Nat} {k0 : Int} (hk : 0 ≤ k0 ∧ k0 ≤ 1000000000000) (hi : c * i ≤ 1000000000000) (hc : c ≤ 1000) : wadd .i64 (k0 + ((c * i : Nat) : Int)) (c : Int) = k0 + ((c * (i + 1) : Nat) : Int) := by
  rw [Nat.mul_add, Nat.mul_one]
  have e : k0 + ((c * i + c : Nat) : Int) = k0 + ((c * i : Nat) : Int) + (c : Int) := by omega
  rw [e]; exact i64_in _ (by omega)

end Go.Ide

/-
  Loops that append.
-/
namespace Go.Ide
open Go.IntWalk

section
variable {α : Type}

theorem loop_app {f : Int × List α → Option ((Int × List α) ⊕ List α)} (h : Nat → α) (n : Nat) (base : List α)
    (hstep : ∀ (i : Nat) (out : List α), i < n → out.length = base.length + i → f ((i : Int), out) = some (.inl (((i + 1 : Nat) : Int), out ++ [h i])))
    (hend : ∀ out : List α, f ((n : Int), out) = some (.inr out)) : rounds f ((0 : Int), base) = some (base ++ (List.range n).map h) := by
  have := rounds_forS (f := f) (fun i out => (((i : Nat) : Int), out)) (fun i out => out ++ [h i]) id (n := n) (fun i out => out = base ++ (List.range i).map h)
    (fun i out hi ho => ⟨hstep i out hi (by rw [ho]; simp), by rw [ho]; simp [List.range_succ]⟩)
    (fun out _ => hend out) n 0 base (by omega) (by simp)
  simp only [Int.natCast_zero] at this
  rw [this.1, show id (forS _ n 0 base) = forS _ n 0 base from rfl, this.2]

theorem appOK {n m : Nat} (h : n + m ≤ 4294967296) : n + m ≤ appMax := h

theorem bytesI_len (s : List UInt8) : (bytesI s).length = s.length := by simp [bytesI]
theorem bytesO_len (l : List Int) : (bytesO l).length = l.length := by simp [bytesO]

end

/-- A byte of a string, as a number. -/
def ub (s : List UInt8) (i : Nat) : Int := (((List.getD s i 0 : UInt8).toNat : Nat) : Int)
theorem ub_range (s : List UInt8) (i : Nat) : 0 ≤ ub s i ∧ ub s i ≤ 255 := by
  unfold ub
  have := (List.getD s i 0).toNat_lt
  omega
theorem ub_wrap (s : List UInt8) (i : Nat) : IntKind.wrap .i64 (ub s i) = ub s i := by
  have := ub_range s i
  exact i64_in _ (by omega)

end Go.Ide

/-
  Facts about floats.
-/
namespace Go.Ide

theorem order_self {f : Ieee.Format} {x : Nat} (h : ∀ s t, f.read x ≠ .nan s t) : f.order x x = some .eq := by
  unfold Ieee.Format.order
  cases hr : f.read x with
  | nan s t => exact absurd hr (h s t)
  | infinity s => simp [Ieee.Datum.order, compare, compareOfLessAndEq]
  | number s m e => simp [Ieee.Datum.order, compare, compareOfLessAndEq]

theorem read_word32 {s : Bool} {r : Nat} (h : r ≤ 2139095040) : (∀ a b, Ieee.single.read (Ieee.single.word s r) ≠ .nan a b) ∧ fcanon .f32 (Ieee.single.word s r) = Ieee.single.word s r := by
  have e1 : Ieee.single.signWeight = 2147483648 := by decide
  have e2 : Ieee.single.binade = 8388608 := by decide
  have e3 : Ieee.single.infRung = 2139095040 := by decide
  have hmod : Ieee.single.word s r % 2147483648 = r := by
    unfold Ieee.Format.word
    cases s with
    | true => simp only [if_true, e1]; omega
    | false => simp only [Bool.false_eq_true, if_false]; omega
  refine ⟨fun a b => ?_, by rw [fc32, hmod, if_neg (by omega)]⟩
  unfold Ieee.Format.read
  simp only [e1, e2, e3, hmod]
  split
  · intro h; cases h
  · split
    · intro h; cases h
    · rw [if_pos (by omega)]; intro h; cases h

theorem nearest_word32 (neg : Bool) (m : Nat) (p : Int) : ∃ r, r ≤ 2139095040 ∧ Ieee.single.nearest neg m p = Ieee.single.word neg r := by
  have e3 : Ieee.single.infRung = 2139095040 := by decide
  unfold Ieee.Format.nearest
  split
  · exact ⟨0, by omega, rfl⟩
  · exact ⟨_, by rw [e3]; exact Nat.min_le_right _ _, rfl⟩

/-- A whole number as a float is a number. -/
theorem feq_ofint (n : Int) : feq .f32 (fofint .f32 n) (fofint .f32 n) = true := by
  obtain ⟨r, hr, e⟩ := nearest_word32 (decide (n < 0)) n.natAbs 0
  have h0 : FloatKind.f32.nearest n = Ieee.single.word (decide (n < 0)) r := e
  obtain ⟨h1, h2⟩ := read_word32 (s := decide (n < 0)) hr
  unfold feq fofint
  rw [h0, h2]
  have : FloatKind.f32.format.order (Ieee.single.word (decide (n < 0)) r) (Ieee.single.word (decide (n < 0)) r) = some .eq := order_self (f := Ieee.single) h1
  rw [this]
  rfl

end Go.Ide

/-
  Regions in pieces: between two operations the state may be told in other words.
-/
namespace Go.Ide

section
variable {cx : Cx} {st st' : St} {P : Program} {N : Nat} {Q : Exit → St → Prop} {y : Code}

theorem ireg_app {all os2 : List Oper} {Q : Exit → Act → World → Prop} : ∀ {os : List Oper} {rs : List OH} {st st' : St} {cs : List Prop} {g : GM} {a : Act} {w : World},
    Sim cx g st a w → ireg cx.P cx.N all os rs st = some (st', cs) → AllP cs → (∀ g' a' w', Sim cx g' st' a' w' → wpList cx.P all.toArray Q os2 a' w') → wpList cx.P all.toArray Q (os ++ os2) a w
  | [], rs, st, st', cs, g, a, w, h, he, hc, hk => by
    have he : some (st, []) = some (st', cs) := by cases rs <;> exact he
    injection he with he
    injection he with e1 e2
    subst e1
    exact hk g a w h
  | o :: os, [], st, st', cs, g, a, w, h, he, hc, hk => by cases he
  | o :: os, r :: rs, st, st', cs, g, a, w, h, he, hc, hk => by
    simp only [ireg] at he
    split at he
    · rename_i st1 c1 h1
      split at he
      · rename_i st2 c2 h2
        injection he with he
        injection he with e1 e2
        subst e1
        subst e2
        obtain ⟨hc1, hc2⟩ := hc.append
        rw [List.cons_append]
        refine wpList_step fun K hK => ?_
        exact istep_sound h h1 hc1 fun g' a' w' hs => hK a' w' (ireg_app hs h2 hc2 hk)
      · cases he
    · cases he

/-- The operations that are left of a region, run from a state. -/
def RG (cx : Cx) (all os : List Oper) (st : St) (Q : Exit → St → Prop) : Prop :=
  ∀ g a w, Sim cx g st a w → wpList cx.P all.toArray (fun e a' w' => ∃ st' g', Q e st' ∧ Sim cx g' st' a' w') os a w

theorem HT.rg {id : Nat} {ops : List Oper} (h : RG cx ops ops st Q) : HT cx st (.region id ops.toArray false) Q :=
  fun g a w hs => wp_region_lit (h g a w hs)

/-- The next n operations. -/
theorem RG.cut (n : Nat) {all os : List Oper} (rs : List OH) (st' : St) {cs : List Prop} (hP : cx.P = P) (hN : cx.N = N) (he : ireg P N all (os.take n) rs st = some (st', cs)) (hc : AllP cs) (h : RG cx all (os.drop n) st' Q) : RG cx all os st Q := by
  subst hP; subst hN
  intro g a w hs
  have := ireg_app (os2 := os.drop n) (Q := fun e a' w' => ∃ st' g', Q e st' ∧ Sim cx g' st' a' w') hs he hc (fun g' a' w' hs' => h g' a' w' hs')
  rwa [List.take_append_drop] at this

/-- The last operations. -/
theorem RG.last {all os : List Oper} (rs : List OH) (st' : St) {cs : List Prop} (hP : cx.P = P) (hN : cx.N = N) (he : ireg P N all os rs st = some (st', cs)) (hc : AllP cs) (hq : Q .normal st') : RG cx all os st Q := by
  subst hP; subst hN
  exact fun g a w hs => ireg_sound hs he hc fun g' _ _ hs' => ⟨st', g', hq, hs'⟩

theorem RG.lastK {all os : List Oper} (ks : List Nat) (rs : List OH) (st' : St) {cs : List Prop} (hP : cx.P = P) (hN : cx.N = N) (he : keepO ks (ireg P N all os rs st) = some (st', cs)) (hc : AllP cs) (hq : HT cx st' y Q) : RG cx all os st (thenQ cx y Q) := by
  obtain ⟨st1, h1, h2⟩ := keepO_some he
  subst h2
  exact RG.last rs st1 hP hN h1 hc (HT.keep ks hq)

theorem Le.rg {all os : List Oper} (h : Le cx st st') (hc : RG cx all os st' Q) : RG cx all os st Q := fun g a w hs => let ⟨g', hs'⟩ := h g a w hs; hc g' a w hs'

theorem HT.cut1 {id : Nat} {ops : List Oper} (n : Nat) (rs1 : List OH) (st1 : St) {st1' : St} {cs1 : List Prop} (rs2 : List OH) (st2 : St) {cs2 : List Prop} (hP : cx.P = P) (hN : cx.N = N) (he1 : ireg P N ops (ops.take n) rs1 st = some (st1, cs1)) (hc1 : AllP cs1)
    (hl : Le cx st1 st1') (he2 : ireg P N ops (ops.drop n) rs2 st1' = some (st2, cs2)) (hc2 : AllP cs2) (hq : Q .normal st2) : HT cx st (.region id ops.toArray false) Q :=
  HT.rg (RG.cut n rs1 st1 hP hN he1 hc1 (hl.rg (RG.last rs2 st2 hP hN he2 hc2 hq)))

end

end Go.Ide

/-
  Loops of the harness over slices whose elements hold slices.
-/
namespace Go.Ide
open Go.IntWalk

theorem mem_getD {α : Type} {xs : List α} {i : Nat} (h : i < xs.length) (d : α) : xs.getD i d ∈ xs := by
  rw [List.getD_eq_getElem?_getD, List.getElem?_eq_getElem h]
  exact List.getElem_mem _

theorem wf_mem {t : Ty} {xs : List t.D} (h : ∀ i (h : i < List.length xs), WfD t xs[i]) {y : t.D} (hy : y ∈ xs) : WfD t y := by
  obtain ⟨i, hi, rfl⟩ := List.getElem_of_mem hy
  exact h i hi

/-- A loop that takes away from what is left. -/
theorem loop_sz {α ρ : Type} {f : Int × Int → Option ((Int × Int) ⊕ (Int ⊕ ρ))} {u : ρ} (xs : List α) (d : α) (P : α → Prop) (n0 : Int) (h0 : 0 ≤ n0)
    (hstep : ∀ (i : Nat) (n : Int), i < xs.length → 0 ≤ n → n ≤ n0 → ∃ m : Int, f (n, (i : Int)) = some (if m < 0 then .inr (.inr u) else .inl (m, ((i + 1 : Nat) : Int))) ∧ (m < 0 ∨ (P (xs.getD i d) ∧ 0 ≤ m ∧ m ≤ n)))
    (hend : ∀ n : Int, f (n, ((xs.length : Nat) : Int)) = some (.inr (.inl n))) :
    (∃ m, rounds f (n0, 0) = some (.inl m) ∧ 0 ≤ m ∧ m ≤ n0 ∧ ∀ y ∈ xs, P y) ∨ rounds f (n0, 0) = some (.inr u) := by
  have key : ∀ (k i : Nat) (n : Int), i + k = xs.length → 0 ≤ n → n ≤ n0 → (∀ j, j < i → P (xs.getD j d)) → (∃ m, rounds f (n, (i : Int)) = some (.inl m) ∧ 0 ≤ m ∧ m ≤ n0 ∧ ∀ y ∈ xs, P y) ∨ rounds f (n, (i : Int)) = some (.inr u) := by
    intro k
    induction k with
    | zero =>
      intro i n hi h1 h2 hp
      have : i = xs.length := by omega
      subst this
      rw [rounds_eq, hend]
      refine .inl ⟨n, rfl, h1, h2, fun y hy => ?_⟩
      obtain ⟨j, hj, rfl⟩ := List.getElem_of_mem hy
      have := hp j hj
      rwa [List.getD_eq_getElem?_getD, List.getElem?_eq_getElem hj] at this
    | succ k ih =>
      intro i n hi h1 h2 hp
      obtain ⟨m, hm, hc⟩ := hstep i n (by omega) h1 h2
      rw [rounds_eq, hm]
      by_cases hneg : m < 0
      · rw [if_pos hneg]; exact .inr rfl
      · rw [if_neg hneg]
        obtain ⟨q1, q2, q3⟩ := hc.resolve_left hneg
        refine ih (i + 1) m (by omega) q2 (by omega) fun j hj => ?_
        by_cases e : j = i
        · rw [e]; exact q1
        · exact hp j (by omega)
  have := key xs.length 0 n0 (by omega) h0 (Int.le_refl _) (fun j hj => by omega)
  rwa [Int.natCast_zero] at this

theorem getD_set_self {α : Type} {xs : List α} {i : Nat} {x d : α} (h : i < xs.length) : (xs.set i x).getD i d = x := by
  simp [List.getD_eq_getElem?_getD, h]

end Go.Ide
