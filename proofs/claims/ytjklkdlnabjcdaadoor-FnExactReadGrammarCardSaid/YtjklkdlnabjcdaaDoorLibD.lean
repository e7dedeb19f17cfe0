import Derived.Test.YtjklkdlnabjcdaaDoorLibC
import Derived.RangeFuncWrites
set_option linter.unusedVariables false
set_option linter.unusedSimpArgs false
set_option linter.unusedSectionVars false

/-
  A slice of slices whose rows alone are named any more is taken apart: each row that is named becomes a chunk of its own.
-/
namespace Go.Ide

def lkT (i o : Nat) : List (Nat × Nat × Nat) → Option Nat
  | [] => none
  | (i', o', k) :: r => bif Nat.beq i i' && Nat.beq o o' then some k else lkT i o r

def lkK (k : Nat) : List (Nat × Nat × Nat) → Option (Nat × Nat)
  | [] => none
  | (i, o, k') :: r => bif Nat.beq k k' then some (i, o) else lkK k r

def tkC (c : Nat) (T : List (Nat × Nat × Nat)) : ICell → ICell
  | .row c' i o => bif Nat.beq c' c then (match lkT i o T with
    | some k => .all k
    | none => .row c' i o) else .row c' i o
  | x => x

def tkV (c : Nat) (T : List (Nat × Nat × Nat)) : IVal → IVal
  | .one x => .one (tkC c T x)
  | .agg xs => .agg (xs.map (tkC c T))
  | .tup vs => .tup (vs.map fun p => (p.1, p.2.map (tkC c T)))
  | v => v

def tkCh (c : Nat) (T : List (Nat × Nat × Nat)) : Chunk → Chunk
  | .box cs => .box (cs.map (tkC c T))
  | ch => ch

def tkNew (t : Ty) (xs : List t.D) : List (Nat × Nat × Nat) → Option Mem
  | [] => some []
  | (i, o, k) :: r => (match slotD t (xs.getD i t.dflt) o, tkNew t xs r with
    | some ⟨e, ys⟩, some m => some ((k, .seq e ys) :: m)
    | _, _ => none)

def tkCond (n : Nat) : List (Nat × Nat × Nat) → List Prop
  | [] => []
  | (i, _, _) :: r => (i < n) :: tkCond n r

def takeS (own : List Nat) (c : Nat) (T : List (Nat × Nat × Nat)) (st : St) : Option (St × List Prop) :=
  match lk c st.mem with
  | some (.seq t xs) => bif !(memN c own) && ((T.map fun p => p.2.2).all (fun k => !(hasM k st.mem)) && (nodupB (T.map fun p => p.2.2) && T.all fun p => match lkT p.1 p.2.1 T with
      | some k => Nat.beq k p.2.2
      | none => false)) then (match tkNew t xs T with
    | some m => some (⟨st.fr.map (fun p => (p.1, tkV c T p.2)), (c, .gone) :: (m ++ st.mem.map fun p => (p.1, tkCh c T p.2)), st.nx + T.length⟩, tkCond xs.length T)
    | none => none) else none
  | _ => none

theorem lkT_mem {i o k : Nat} : ∀ {T : List (Nat × Nat × Nat)}, lkT i o T = some k → (i, o, k) ∈ T
  | (i', o', k') :: r, h => by
    unfold lkT at h
    cases hb : (Nat.beq i i' && Nat.beq o o') with
    | true =>
      rw [hb] at h
      simp only [Bool.and_eq_true] at hb
      injection h with h
      rw [beq_of hb.1, beq_of hb.2, h]; simp
    | false =>
      rw [hb] at h
      exact List.mem_cons_of_mem _ (lkT_mem h)

theorem lkK_mem {i o k : Nat} : ∀ {T : List (Nat × Nat × Nat)}, lkK k T = some (i, o) → (i, o, k) ∈ T
  | (i', o', k') :: r, h => by
    unfold lkK at h
    cases hb : Nat.beq k k' with
    | true =>
      rw [hb] at h
      injection h with h
      injection h with h1 h2
      rw [beq_of hb, h1, h2]; simp
    | false =>
      rw [hb] at h
      exact List.mem_cons_of_mem _ (lkK_mem h)

theorem lkK_of {i o k : Nat} : ∀ {T : List (Nat × Nat × Nat)}, (T.map fun p => p.2.2).Nodup → (i, o, k) ∈ T → lkK k T = some (i, o)
  | (i', o', k') :: r, hn, h => by
    unfold lkK
    rw [List.map_cons, List.nodup_cons] at hn
    cases hb : Nat.beq k k' with
    | true =>
      have hk := beq_of hb
      rcases List.mem_cons.1 h with h | h
      · injection h with h1 h2; injection h2 with h2 h3; rw [h1, h2]; rfl
      · exact absurd (List.mem_map.2 ⟨_, h, by simp [hk]⟩) hn.1
    | false =>
      rcases List.mem_cons.1 h with h | h
      · injection h with h1 h2; injection h2 with h2 h3
        subst h3
        rw [show Nat.beq k k = true from by simp] at hb; cases hb
      · exact lkK_of hn.2 h

theorem lk_tkNew {t : Ty} {xs : List t.D} : ∀ {T : List (Nat × Nat × Nat)} {m : Mem} {k : Nat}, tkNew t xs T = some m →
    (lkK k T = none → lk k m = none) ∧ ∀ i o, lkK k T = some (i, o) → ∃ e ys, slotD t (xs.getD i t.dflt) o = some ⟨e, ys⟩ ∧ lk k m = some (.seq e ys)
  | [], m, k, h => by
    simp only [tkNew] at h
    injection h with h
    subst h
    exact ⟨fun _ => rfl, fun i o h => by cases h⟩
  | (i', o', k') :: r, m, k, h => by
    simp only [tkNew] at h
    split at h
    · rename_i e ys m' h1 h2
      injection h with h
      subst h
      obtain ⟨ih1, ih2⟩ := lk_tkNew (k := k) h2
      unfold lkK
      rw [lk_cons]
      by_cases e0 : k = k'
      · subst e0
        rw [show Nat.beq k k = true from by simp, if_pos rfl]
        exact ⟨fun h => (by cases h), fun i o h => (by injection h with h; injection h with h3 h4; subst h3 h4; exact ⟨e, ys, h1, rfl⟩)⟩
      · rw [show Nat.beq k k' = false from by rw [Bool.eq_false_iff]; intro q; exact e0 (beq_of q), if_neg e0]
        exact ⟨ih1, ih2⟩
    · cases h

theorem lk_map {α β : Type} (f : α → β) (k : Nat) : ∀ l : List (Nat × α), lk k (l.map fun p => (p.1, f p.2)) = (lk k l).map f
  | [] => rfl
  | (k', v) :: l => by
    rw [List.map_cons, lk_cons, lk_cons, lk_map f k l]
    split <;> rfl

theorem tkCond_mem {n : Nat} : ∀ {T : List (Nat × Nat × Nat)}, AllP (tkCond n T) → ∀ p ∈ T, p.1 < n
  | [], _, p, hp => by simp at hp
  | (i, o, k) :: r, h, p, hp => by
    obtain ⟨h1, h2⟩ : i < n ∧ AllP (tkCond n r) := h
    rcases List.mem_cons.1 hp with rfl | hp
    · exact h1
    · exact tkCond_mem h2 p hp

theorem tkCh_owns {c : Nat} {T : List (Nat × Nat × Nat)} {ch : Chunk} {p : List Nat} : (tkCh c T ch).owns p ↔ ch.owns p := by
  cases ch <;> exact Iff.rfl

theorem Le.take {cx : Cx} {st st' : St} {own : List Nat} {cs : List Prop} (c : Nat) (T : List (Nat × Nat × Nat)) (ho : cx.own.map Prod.fst = own) (he : takeS own c T st = some (st', cs)) (hc : AllP cs) : Le cx st st' := by
  intro g a w hs
  unfold takeS at he
  split at he
  · rename_i t xs hl
    cases hb : (!(memN c own) && ((T.map fun p => p.2.2).all (fun k => !(hasM k st.mem)) && (nodupB (T.map fun p => p.2.2) && T.all fun p => match lkT p.1 p.2.1 T with | some k => Nat.beq k p.2.2 | none => false))) with
    | false => rw [hb] at he; cases he
    | true =>
      rw [hb, cond_true] at he
      simp only [Bool.and_eq_true, Bool.not_eq_true'] at hb
      obtain ⟨hown, hfresh, hnd, hT⟩ := hb
      split at he
      · rename_i m hm
        injection he with he
        injection he with he1 he2
        subst he1 he2
        have hnd := nodupB_spec hnd
        have hbd := tkCond_mem hc
        have hf : ∀ p ∈ T, lk p.2.2 st.mem = none := fun p hp => by
          have := List.all_eq_true.1 hfresh p.2.2 (List.mem_map.2 ⟨p, hp, rfl⟩)
          simp only [Bool.not_eq_true'] at this
          unfold hasM at this
          split at this
          · cases this
          · assumption
        have hneq : ∀ p ∈ T, p.2.2 ≠ c := fun p hp e => by
          have := hf p hp
          rw [e, hl] at this; cases this
        have hTT : ∀ i o k, (i, o, k) ∈ T → lkT i o T = some k := fun i o k hp => by
          have := List.all_eq_true.1 hT _ hp
          simp only at this
          split at this
          · rename_i k' hk'; rw [hk', beq_of this]
          · cases this
        -- where the chunks lie now
        let g' : GM := ⟨fun k p => match lkK k T with
          | some (i, o) => g.f c (i :: o :: p)
          | none => g.f k p⟩
        have gK : ∀ {k i o} p, lkK k T = some (i, o) → g'.f k p = g.f c (i :: o :: p) := fun {k i o} p h => by
          show (match lkK k T with | some (i, o) => g.f c (i :: o :: p) | none => g.f k p) = _
          rw [h]
        have gN : ∀ {k}, lkK k T = none → g'.f k = g.f k := fun {k} h => by
          funext p
          show (match lkK k T with | some (i, o) => g.f c (i :: o :: p) | none => g.f k p) = _
          rw [h]
        have kN : ∀ {k}, lk k st.mem ≠ none → lkK k T = none := fun {k} h => by
          cases hk : lkK k T with
          | none => rfl
          | some p => exact absurd (hf _ (lkK_mem (i := p.1) (o := p.2) hk)) h
        let m' : Mem := (c, .gone) :: (m ++ st.mem.map fun p => (p.1, tkCh c T p.2))
        have mC : lk c m' = some .gone := by show lk c ((c, Chunk.gone) :: _) = _; rw [lk_cons, if_pos rfl]
        have mK : ∀ {k i o}, lkK k T = some (i, o) → ∃ e ys, slotD t (xs.getD i t.dflt) o = some ⟨e, ys⟩ ∧ lk k m' = some (.seq e ys) := fun {k i o} h => by
          obtain ⟨e, ys, h1, h2⟩ := (lk_tkNew (k := k) hm).2 i o h
          refine ⟨e, ys, h1, ?_⟩
          show lk k ((c, Chunk.gone) :: _) = _
          rw [lk_cons, if_neg (hneq _ (lkK_mem h)), lk_append, h2]; rfl
        have mN : ∀ {k}, lkK k T = none → k ≠ c → lk k m' = (lk k st.mem).map (tkCh c T) := fun {k} h hne => by
          show lk k ((c, Chunk.gone) :: _) = _
          rw [lk_cons, if_neg hne, lk_append, (lk_tkNew (k := k) hm).1 h, lk_map]; rfl
        -- what is live
        have live : ∀ {k p ch b}, lk k m' = some ch → ch.owns p → g'.f k p = some b → ∃ k0 p0 ch0, lk k0 st.mem = some ch0 ∧ ch0.owns p0 ∧ g.f k0 p0 = some b ∧ (lkK k T = none → k0 = k ∧ p0 = p) ∧ ∀ i o, lkK k T = some (i, o) → k0 = c ∧ p0 = i :: o :: p := fun {k p ch b} h1 h2 h3 => by
          cases hk : lkK k T with
          | some q =>
            obtain ⟨i, o⟩ := q
            rw [gK p hk] at h3
            exact ⟨c, i :: o :: p, _, hl, trivial, h3, fun h => (by cases h), fun i' o' h => (by injection h with h; injection h with h4 h5; rw [h4, h5]; exact ⟨rfl, rfl⟩)⟩
          | none =>
            by_cases e : k = c
            · subst e
              rw [mC] at h1; injection h1 with h1; subst h1; exact h2.elim
            · rw [mN hk e] at h1
              cases h4 : lk k st.mem with
              | none => rw [h4] at h1; cases h1
              | some ch0 =>
                rw [h4] at h1
                injection h1 with h1
                subst h1
                rw [gN hk] at h3
                exact ⟨k, p, ch0, h4, tkCh_owns.1 h2, h3, fun _ => ⟨rfl, rfl⟩, fun i o h => (by cases h)⟩
        have safe : ∀ b, cx.safe g st.mem w b → cx.safe g' m' w b := fun b ⟨h1, h2, h3⟩ => ⟨h1, h2, fun ⟨k, p, ch, q1, q2, q3⟩ => by
          obtain ⟨k0, p0, ch0, r1, r2, r3, _⟩ := live q1 q2 q3
          exact h3 ⟨k0, p0, ch0, r1, r2, r3⟩⟩
        have pres : ∀ k, lk k st.mem ≠ none → lk k m' ≠ none ∧ g'.f k = g.f k := fun k h => by
          refine ⟨?_, gN (kN h)⟩
          by_cases e : k = c
          · subst e; rw [mC]; simp
          · rw [mN (kN h) e]
            cases h4 : lk k st.mem with
            | none => exact absurd h4 h
            | some ch0 => simp
        have seqOld : ∀ k ty ys, lk k st.mem ≠ none → lk k m' = some (.seq ty ys) → lk k st.mem = some (.seq ty ys) := fun k ty ys h h1 => by
          by_cases e : k = c
          · subst e; rw [mC] at h1; cases h1
          · rw [mN (kN h) e] at h1
            cases h4 : lk k st.mem with
            | none => exact absurd h4 h
            | some ch0 =>
              rw [h4] at h1
              injection h1 with h1
              cases ch0 <;> first | exact congrArg some h1 | cases h1
        have opnOld : ∀ k ty ys i cs ks, lk k st.mem ≠ none → lk k m' = some (.opn ty ys i cs ks) → lk k st.mem = some (.opn ty ys i cs ks) := fun k ty ys i cs ks h h1 => by
          by_cases e : k = c
          · subst e; rw [mC] at h1; cases h1
          · rw [mN (kN h) e] at h1
            cases h4 : lk k st.mem with
            | none => exact absurd h4 h
            | some ch0 =>
              rw [h4] at h1
              injection h1 with h1
              cases ch0 <;> first | exact congrArg some h1 | cases h1
        have stays : Stays g g' st.mem m' (cx.safe g st.mem w) (cx.safe g' m' w) w w := {
          safe := fun b h => ⟨safe b h, rfl⟩
          pres := fun k h => ⟨(pres k h).1, by show g'.f k [] = g.f k []; rw [(pres k h).2]⟩
          old := fun k ty ys h h1 => ⟨ys, by
            rcases h1 with h1 | ⟨i, cs, ks, h1⟩
            · exact .inl (seqOld k ty ys h h1)
            · exact .inr ⟨i, cs, ks, opnOld k ty ys i cs ks h h1⟩, rfl⟩
          blk := fun k ty ys b arr _ _ _ hb => ⟨arr, hb, rfl⟩
          presp := fun k h => (pres k h).2
          rows := fun k ty ys h h1 => ⟨ys, seqOld k ty ys h h1, ShapeEq.refl _ _, fun i o b arr _ hb => ⟨arr, hb, rfl⟩⟩ }
        have cell : ∀ x v, CR g st.mem (cx.safe g st.mem w) w x v → CR g' m' (cx.safe g' m' w) w (tkC c T x) v := fun x v h => by
          cases x with
          | row c' i o =>
            simp only [tkC]
            cases hb : Nat.beq c' c with
            | false => exact CR.stays stays h
            | true =>
              have hcc := beq_of hb
              subst hcc
              rw [cond_true]
              cases hk : lkT i o T with
              | none => exact CR.stays stays h
              | some k =>
                have hmem := lkT_mem hk
                have hkk := lkK_of hnd hmem
                obtain ⟨e, ys, h1, h2⟩ := mK hkk
                obtain ⟨_, h4, h5⟩ := h
                obtain ⟨hi, h6⟩ := h5 t xs hl
                refine ⟨by rw [h2]; simp, h4, fun t' ys' hs' => ?_⟩
                have hs' := SeqAt.toSeq h2 hs'
                rw [h2] at hs'
                injection hs' with hs'
                injection hs' with q1 q2
                subst q1
                have q2 := eq_of_heq q2
                subst q2
                have := h6 e ys h1
                show AllR (g'.f k []) w e.size ys.length v
                rw [gK [] hkk]
                exact this
          | _ => exact CR.stays stays h
        have cells : ∀ xs vs, All2 (CR g st.mem (cx.safe g st.mem w) w) xs vs → All2 (CR g' m' (cx.safe g' m' w) w) (xs.map (tkC c T)) vs := fun xs => by
          induction xs with
          | nil => intro vs h; cases vs with
            | nil => trivial
            | cons => exact h.elim
          | cons x xs ih => intro vs h; cases vs with
            | nil => exact h.elim
            | cons v vs => exact ⟨cell x v h.1, ih vs h.2⟩
        have tups : ∀ (vs : List (Bool × List ICell)) (us : List Value), All2 (fun t v => CV g st.mem (cx.safe g st.mem w) w t.1 t.2 v) vs us → All2 (fun t v => CV g' m' (cx.safe g' m' w) w t.1 t.2 v) (vs.map fun p => (p.1, p.2.map (tkC c T))) us := fun vs => by
          induction vs with
          | nil => intro us h2; cases us with
            | nil => trivial
            | cons => exact h2.elim
          | cons p vs ih =>
            intro us h2
            cases us with
            | nil => exact h2.elim
            | cons u us =>
              refine ⟨?_, ih us h2.2⟩
              have h3 := h2.1
              obtain ⟨ag, ys⟩ := p
              show CV g' m' _ w ag (ys.map (tkC c T)) u
              unfold CV at h3 ⊢
              cases ag with
              | true =>
                obtain ⟨vs', e, h4⟩ := h3
                exact ⟨vs', e, cells ys vs' h4⟩
              | false =>
                cases ys with
                | nil => exact h3.elim
                | cons y ys =>
                  cases ys with
                  | nil => exact cell y u h3
                  | cons => exact h3.elim
        refine ⟨g', hs.defers.keep stays.safe, hs.size, fun q v hv => ?_, fun k ch hk => ?_, fun k k' p p' ch ch' b h1 h2 h3 h4 h5 h6 => ?_, fun k p ch b h1 h2 h3 => ?_, fun k p ch b h1 h2 h3 => ?_, hs.keep, fun p hp => ?_, hs.gl⟩
        · have hv : lk q (st.fr.map fun p => (p.1, tkV c T p.2)) = some v := hv
          rw [lk_map] at hv
          cases hq : lk q st.fr with
          | none => rw [hq] at hv; cases hv
          | some v0 =>
            rw [hq] at hv
            injection hv with hv
            subst hv
            have h := hs.fr q v0 hq
            cases v0 with
            | one x => exact cell x _ h
            | agg ys =>
              obtain ⟨vs, e, h2⟩ := h
              exact ⟨vs, e, cells ys vs h2⟩
            | tup vs =>
              obtain ⟨us, e, h2⟩ := h
              exact ⟨us, e, tups vs us h2⟩
            | und => exact h
            | junk => trivial
        · have hk : lk k m' = some ch := hk
          cases hkk : lkK k T with
          | some q =>
            obtain ⟨i, o⟩ := q
            obtain ⟨e, ys, h1, h2⟩ := mK hkk
            rw [h2] at hk
            injection hk with hk
            subst hk
            have hrow := row_block (g := g) (m := st.mem) (S := cx.safe g st.mem w) (w := w) (fun k ch h => hs.mem k ch h) hl (hbd _ (lkK_mem hkk)) h1
            have e0 := gK [] hkk
            show match g'.f k [] with | none => ys = [] | some b => ∃ arr, blk w b arr ∧ ElsO _ w (g'.f k) e ys arr
            rw [e0]
            cases hg : g.f c [i, o] with
            | none =>
              rw [hg] at hrow
              exact List.length_eq_zero_iff.1 hrow
            | some b =>
              rw [hg] at hrow
              obtain ⟨arr, h3, h4⟩ := hrow
              refine ⟨arr, h3, fun j hj => ?_⟩
              obtain ⟨es, h5, h6⟩ := h4 j hj
              refine ⟨es, h5, ?_⟩
              have e1 : (fun p => g'.f k (j :: p)) = fun p => g.f c (i :: o :: j :: p) := by funext p; exact gK _ hkk
              rw [e1]
              exact ElR.keep (fun b hb => ⟨safe b hb, rfl⟩) e (fun _ _ _ => rfl) h6
          | none =>
            by_cases e : k = c
            · subst e
              rw [mC] at hk; injection hk with hk; subst hk; trivial
            · rw [mN hkk e] at hk
              cases h4 : lk k st.mem with
              | none => rw [h4] at hk; cases hk
              | some ch0 =>
                rw [h4] at hk
                injection hk with hk
                subst hk
                rw [gN hkk]
                have h5 := hs.mem k ch0 h4
                cases ch0 with
                | box ys =>
                  obtain ⟨b, arr, q1, q2, q3⟩ := h5
                  exact ⟨b, arr, q1, q2, cells _ _ q3⟩
                | _ => exact ChR.stays stays (fun _ _ _ _ => rfl) h5
        · obtain ⟨k0, p0, ch0, r1, r2, r3, r4, r5⟩ := live h1 h2 h5
          obtain ⟨k1, p1, ch1, s1, s2, s3, s4, s5⟩ := live h3 h4 h6
          obtain ⟨e1, e2⟩ := hs.injp k0 k1 p0 p1 ch0 ch1 b r1 r2 s1 s2 r3 s3
          cases hk : lkK k T with
          | none =>
            obtain ⟨q1, q2⟩ := r4 hk
            cases hk' : lkK k' T with
            | none =>
              obtain ⟨q3, q4⟩ := s4 hk'
              rw [← q1, ← q2, ← q3, ← q4]; exact ⟨e1, e2⟩
            | some q =>
              obtain ⟨i, o⟩ := q
              obtain ⟨q3, q4⟩ := s5 i o hk'
              -- k is c, which is gone
              have : k = c := by rw [← q1, e1, q3]
              subst this
              rw [mC] at h1; injection h1 with h1; subst h1; exact h2.elim
          | some q =>
            obtain ⟨i, o⟩ := q
            obtain ⟨q1, q2⟩ := r5 i o hk
            cases hk' : lkK k' T with
            | none =>
              obtain ⟨q3, q4⟩ := s4 hk'
              have : k' = c := by rw [← q3, ← e1, q1]
              subst this
              rw [mC] at h3; injection h3 with h3; subst h3; exact h4.elim
            | some q' =>
              obtain ⟨i', o'⟩ := q'
              obtain ⟨q3, q4⟩ := s5 i' o' hk'
              rw [q2, q4] at e2
              injection e2 with e3 e4
              injection e4 with e4 e5
              subst e3 e4
              have u1 := hTT _ _ _ (lkK_mem hk)
              have u2 := hTT _ _ _ (lkK_mem hk')
              rw [u1] at u2
              injection u2 with u2
              exact ⟨u2, e5⟩
        · obtain ⟨k0, p0, ch0, r1, r2, r3, _⟩ := live h1 h2 h3
          exact hs.basep k0 p0 ch0 b r1 r2 r3
        · obtain ⟨k0, p0, ch0, r1, r2, r3, _⟩ := live h1 h2 h3
          exact hs.lt k0 p0 ch0 b r1 r2 r3
        · obtain ⟨q1, q2⟩ := hs.own p hp
          obtain ⟨q3, q4⟩ := pres p.1 q2
          exact ⟨q4.trans q1, q3⟩
      · cases he
  · cases he

end Go.Ide


/-
  What is told of a function of plain arguments and results, as the kit tells it.
-/
namespace Go.Ide

theorem args_simple' {S : Nat → Prop} {w : World} : ∀ {as : List TD}, (∀ a ∈ as, a.t.simple = true) → ArgsR S w (immArgs as) (as.map fun a => valD a.t a.x) (as.map fun _ => [])
  | [], _ => trivial
  | a :: as, hs => ⟨⟨rfl, (rep_simple (hs a List.mem_cons_self)).2 rfl⟩, args_simple' (as := as) fun b hb => hs b (List.mem_cons_of_mem _ hb)⟩

theorem rvs_inv {S : Nat → Prop} {w : World} : ∀ {rs : List TD} {vs : List Value} {A : List (List Nat → Option Nat)}, (∀ a ∈ rs, a.t.simple = true) → RVsR S w (rs.map fun r => ⟨false, r.t, r.x⟩) vs A → vs = rs.map fun a => valD a.t a.x
  | [], [], _, _, _ => rfl
  | [], _ :: _, _, _, h => h.elim
  | r :: rs, [], _, _, h => h.elim
  | r :: rs, v :: vs, A, hs, ⟨A1, A2, _, h1, h2⟩ => by
    have h1 : RVR S w ⟨false, r.t, r.x⟩ v A1 := h1
    unfold RVR at h1
    rw [if_neg (by simp)] at h1
    rw [List.map_cons, rvs_inv (rs := rs) (fun a ha => hs a (List.mem_cons_of_mem _ ha)) h2, (rep_simple (hs r List.mem_cons_self)).1 h1.2]

theorem nil_flat {α β : Type} : ∀ (as : List α), (as.map fun _ => ([] : List β)).flatten = []
  | [] => rfl
  | _ :: as => by rw [List.map_cons, List.flatten_cons, nil_flat as]; rfl

theorem CallOK.simple {P : Program} {f : FuncId} {ps rs : List TD} (h : CallOK P f (immArgs ps) (rs.map fun r => ⟨false, r.t, r.x⟩) []) (h1 : ∀ a ∈ ps, a.t.simple = true) (h2 : ∀ a ∈ rs, a.t.simple = true) (w : World) (hg : Glob.ok w (There w)) :
    Calls P f (ps.map fun a => valD a.t a.x).toArray w fun e w' => (∃ v, e = .returned v ∧ ResOf (rs.map fun a => valD a.t a.x) v) ∧ RowKit.Below w.heap.size w w' := by
  refine (h.2 w (There w) _ (ps.map fun _ => []) [] (fun b => by rw [nil_flat]; simp) (by rw [nil_flat]; exact ⟨List.Pairwise.nil, fun γ hγ => by simp at hγ⟩) (fun b hb => ⟨hb, by simp⟩) (fun b hb => by simp at hb) (args_simple' h1) hg).mono fun e w' hr => ?_
  obtain ⟨v, A', F', he, _, _, ⟨vs, hv, hres⟩, _, hk, _⟩ := hr
  rw [rvs_inv h2 hv] at hres
  exact ⟨⟨v, he, hres⟩, hk.os, hk.tape, hk.output, hk.size, fun k hb => hk.block k hb (by simp)⟩

end Go.Ide


/-
  A loop over the pieces of four that a list of numbers is made of: slices.Chunk in a range over a function.
-/
namespace Go.Ide

def chunkL {α : Type} (f : List Int → α → Option α) : Nat → List Int → α → Option α
  | 0, _, s => some s
  | m + 1, xs, s => (f (xs.take 4) s).bind fun s' => chunkL f m (xs.drop 4) s'

def chunks4 {α : Type} (f : List Int → α → Option α) (xs : List Int) (s : α) : Option α :=
  guardP (xs.length % 4 = 0 ∧ xs.length ≤ 4194304) (chunkL f (xs.length / 4) xs s)

structure ChunkFn (P : Program) (fc fi : FuncId) : Prop where
  can : CanCall P fc
  cani : CanCall P fi
  call : ∃ T1 T2 : TypeId, ∀ al len cap (w : World), Calls P fc #[.slice al len cap, .int .i64 4] w fun e w' =>
    e = .returned (.func (.func fi) #[] #[.pointer (some ⟨w.heap.size, 0, none⟩), .pointer (some ⟨w.heap.size + 1, 0, none⟩)]) ∧ w' = (w.alloc (.cells #[.slice al len cap] T1)).alloc (.cells #[.int .i64 4] T2)
  iter : ∀ (l Bs Bn : Nat) (al : Option Addr) (b off m cap : Nat), m ≤ 1048576 → 4 * m ≤ cap → (0 < m → al = some ⟨b, off, none⟩) → ∀ (J : Nat → World → Prop),
    (∀ k W, J k W → J k W.drew) →
    (∀ k W, J k W → k < m → YieldAt Fence.wide 0 P l #[.slice (some ⟨b, off + 4 * k, none⟩) 4 4] W fun e W' =>
      e = .returned (.bool true) ∧ J (k + 1) W' ∧ W'.heap[Bs]? = W.heap[Bs]? ∧ W'.heap[Bn]? = W.heap[Bn]?) →
    ∀ W : World, W.cell? ⟨Bs, 0, none⟩ = some (.slice al (4 * m) cap) → W.cell? ⟨Bn, 0, none⟩ = some (.int .i64 4) → J 0 W →
    CallsIn Fence.wide 1 P fi #[.func (.yield l) #[] #[], .pointer (some ⟨Bs, 0, none⟩), .pointer (some ⟨Bn, 0, none⟩)] W fun e W' => (∃ v, e = .returned v) ∧ J m W'

def dstsO : List Oper → List Nat
  | [] => []
  | o :: r => (match o.dst with
    | some t => t :: dstsO r
    | none => dstsO r)

def noDefer : List Oper → Bool
  | [] => true
  | o :: r => (match o.op with
    | .defer _ => false
    | _ => true) && noDefer r

section
variable {P : Program} {Q : Exit → Act → World → Prop}

def SameT (ds : List Nat) (T0 : Array Value) (a : Act) : Prop := a.tmps.size = T0.size ∧ ∀ t, t ∉ ds → a.tmps.getD t undef = T0.getD t undef

theorem SameT.put {ds : List Nat} {T0 : Array Value} {a : Act} (h : SameT ds T0 a) (d : Option Tmp) (hd : ∀ t, d = some t → t ∈ ds) (v : Value) : SameT ds T0 (a.put d v) := by
  cases d with
  | none => exact h
  | some t =>
    refine ⟨by simp [Act.put, h.1], fun q hq => ?_⟩
    have hne : t ≠ q := fun e => hq (e ▸ hd t rfl)
    rw [← h.2 q hq]
    simp [Act.put, Array.getD_eq_getD_getElem?, Array.getElem?_setIfInBounds, hne]

theorem oper_round {l n : Nat} {ds : List Nat} {T0 : Array Value} {Q' : Exit → Act → World → Prop} {next next' : Act → World → Prop} {o : Oper} {a : Act} {w : World} (hQ : ∀ a w, ¬ Q .outgrown a w) (hp : ∀ c a w, Q (.panic c) a w → Q' (.panic c) a w)
    (hd : ∀ c, o.op ≠ .defer c) (hod : ∀ t, o.dst = some t → t ∈ ds) (ht : SameT ds T0 a) (nxt : ∀ a' w', SameT ds T0 a' → next a' w' → next' a' w') (h : o.wp P a w next Q ∨ (o.asks P a w ∧ LetsOut Q)) :
    o.wpIn (Fence.wide.inRound l) n P a w next' Q' := by
  rcases h with h | ⟨_, a', w', h⟩
  · refine ⟨fun _ _ => trivial, ?_⟩
    rw [show (o.semAt (Fence.wide.inRound l).round a.eval) = execOp a.eval o from Oper.semAt_eq _ _ _ hd]
    unfold Oper.wp at h
    revert h
    cases hr : (execOp a.eval o).run P w with
    | ok x w' =>
      cases x with
      | value v => exact fun h => nxt _ _ (ht.put _ hod v) h
      | skip => exact fun h => nxt _ _ (ht.put _ hod undef) h
      | defer d => exact fun h => nxt _ _ (SameT.put (a := { a with defers := d :: a.defers }) ht _ hod undef) h
      | enter f args =>
        intro h
        refine ⟨fun hx => (by cases hx), CallsIn.mono (F := Fence.wide.inRound l) (show CallsIn (Fence.wide.inRound l) (n - 1) P f args w' _ from (callsIn_wide (n := n - 1)).2 h) fun e w'' he => ?_⟩
        cases e with
        | returned v => exact nxt _ _ (ht.put _ hod v) he
        | panicked => exact hp _ _ _ he
        | outgrown => obtain ⟨a0, w0, h0⟩ := he; exact absurd h0 (hQ _ _)
      | row f args =>
        intro h
        refine ⟨fun hx => (by cases hx), fun c cs _ => ?_⟩
        obtain ⟨v, w'', h1, h2⟩ := h c cs
        exact ⟨v, w'', nxt _ _ (ht.put _ hod v) h1, stepsIn_wide.2 h2⟩
      | _ => exact fun h => h.elim
    | halt x w' =>
      cases x <;> first | exact fun h => h.elim | exact fun h => hp _ _ _ h
  · exact absurd h (hQ a' w')

theorem noDefer_at : ∀ {os : List Oper}, noDefer os = true → ∀ o ∈ os, ∀ c, o.op ≠ .defer c
  | [], _, o, ho, _ => by simp at ho
  | p :: os, hn, o, ho, c => by
    unfold noDefer at hn
    simp only [Bool.and_eq_true] at hn
    rcases List.mem_cons.1 ho with rfl | ho
    · intro e; rw [e] at hn; cases hn.1
    · exact noDefer_at hn.2 o ho c

theorem dstsO_at {o : Oper} (t : Nat) (e : o.dst = some t) : ∀ {os : List Oper}, o ∈ os → t ∈ dstsO os := by
  intro os
  induction os with
  | nil => intro h; simp at h
  | cons p os ih =>
    intro h
    simp only [dstsO]
    rcases List.mem_cons.1 h with h | h
    · rw [← h, e]; exact List.mem_cons_self
    · cases hp : p.dst with
      | none => exact ih h
      | some q => exact List.mem_cons_of_mem _ (ih h)

theorem wpOps_round {l n : Nat} {ops : List Oper} {T0 : Array Value} (hQ : ∀ a w, ¬ Q .outgrown a w) (hn : noDefer ops = true) : ∀ {is : List Nat} {a : Act} {w : World}, SameT (dstsO ops) T0 a → wpOps P ops.toArray Q is a w →
    wpOpsIn (Fence.wide.inRound l) n P ops.toArray (fun e a' w' => Q e a' w' ∧ (e = .normal → SameT (dstsO ops) T0 a')) is a w
  | [], a, w, ht, h => ⟨h, fun _ => ht⟩
  | i :: is, a, w, ht, h => by
    simp only [wpOps] at h
    simp only [wpOpsIn]
    cases ho : ops.toArray[i]? with
    | none => rw [ho] at h; exact wpOps_round hQ hn ht h
    | some o =>
      rw [ho] at h
      simp only at h ⊢
      have hm : o ∈ ops := by
        rw [List.getElem?_toArray] at ho
        exact List.mem_of_getElem? ho
      split
      · rename_i hw
        rw [if_pos hw] at h
        exact oper_round hQ (fun _ _ _ hq => ⟨hq, fun e => by cases e⟩) (noDefer_at hn o hm) (fun t e => dstsO_at t e hm) ht (fun _ _ ht' h' => wpOps_round hQ hn ht' h') h
      · rename_i hw
        rw [if_neg hw] at h
        exact ⟨fun _ _ => trivial, wpOps_round hQ hn (ht.put _ (fun t e => dstsO_at t e hm) undef) h⟩

end

section
variable {cx : Cx} {g : GM} {st : St} {w : World}

theorem Sim.agree {a a' : Act} (h : Sim cx g st a w) (hs : a'.tmps.size = a.tmps.size) (ht : ∀ t, lk t st.fr ≠ none → a'.tmps.getD t undef = a.tmps.getD t undef) (hd : DefR cx g st.mem w a'.defers) : Sim cx g st a' w :=
  ⟨hd, hs.trans h.size, fun t v hl => by rw [ht t (by rw [hl]; simp)]; exact h.fr t v hl, h.mem, h.injp, h.basep, h.lt, h.keep, h.own, h.gl⟩

theorem lk_keys {α : Type} : ∀ {l : List (Nat × α)} {t : Nat}, lk t l ≠ none → t ∈ l.map Prod.fst
  | [], t, h => absurd (lk_nil t) h
  | (k, v) :: l, t, h => by
    rw [lk_cons] at h
    by_cases e : t = k
    · subst e; simp
    · rw [if_neg e] at h; exact List.mem_cons_of_mem _ (lk_keys h)

theorem Sim.apart {g' : GM} {st' : St} {a' : Act} {w' : World} {F' : List Nat} (hF : ∀ b, b ∈ F' ↔ Live g st.mem b) (h' : Sim { cx with w0 := w, S := cx.safe g st.mem w, F := F' } g' st' a' w') {D : Nat} (hlt : D < w.heap.size) (hl : ¬ Live g st.mem D) :
    w'.heap[D]? = w.heap[D]? ∧ ¬ Live g' st'.mem D := by
  refine ⟨h'.keep.block D hlt fun hm => hl ((hF D).1 hm), fun ⟨k, p, ch, h1, h2, h3⟩ => ?_⟩
  rcases h'.basep k p ch D h1 h2 h3 with hx | hx
  · exact absurd hlt (Nat.not_lt.2 hx)
  · exact hl ((hF D).1 hx)

end

section
variable {S : Nat → Prop} {w : World}

theorem ints_at {al : Option Addr} {len cap : Nat} {xs : List Int} (h : Rep S w tLI [.slice al len cap] xs) : len = xs.length ∧ len ≤ cap ∧ (0 < len → ∃ b off, al = some ⟨b, off, none⟩) := by
  obtain ⟨a, c, e, hc, hel⟩ := h
  injection e with e
  injection e with e1 e2 e3
  subst e1 e2 e3
  refine ⟨rfl, hc, fun h0 => ?_⟩
  obtain ⟨ad, es, ea, hs, hcell, hrep⟩ := hel 0 h0
  have hes : es = [.int .i64 (xs[0] : Int)] := hrep
  have h1 := hcell 0 (.int .i64 (xs[0] : Int)) (by rw [hes]; rfl)
  obtain ⟨b, o, s⟩ := ad
  cases s with
  | none => exact ⟨b, o, ea⟩
  | some s =>
    exfalso
    simp only [Ty.size, Nat.zero_mul, Nat.add_zero] at h1
    unfold Addr.add at h1
    simp only [if_true] at h1
    unfold World.cell? at h1
    simp only [Option.isSome_some, if_true] at h1
    split at h1 <;> cases h1

theorem ints_piece {b off len cap k : Nat} {xs : List Int} (h : Rep S w tLI [.slice (some ⟨b, off, none⟩) len cap] xs) (hk : 4 * k + 4 ≤ xs.length) :
    Rep S w tLI [.slice (some ⟨b, off + 4 * k, none⟩) 4 4] ((xs.drop (4 * k)).take 4) := by
  obtain ⟨a, c, e, hc, hel⟩ := h
  injection e with e
  injection e with e1 e2 e3
  subst e1 e2 e3
  have hl : (show List Int from (xs.drop (4 * k)).take 4).length = 4 := by simp; omega
  refine ⟨some ⟨b, off + 4 * k, none⟩, 4, ?_, ?_, fun i hi => ?_⟩
  · show [Value.slice _ 4 4] = [Value.slice _ (List.length ((xs.drop (4 * k)).take 4)) 4]
    rw [show List.length ((xs.drop (4 * k)).take 4) = 4 from hl]
  · exact Nat.le_of_eq hl
  · have hi4 : i < 4 := by rw [← hl]; exact hi
    obtain ⟨ad, es, ea, hs, hcell, hrep⟩ := hel (4 * k + i) (by omega)
    injection ea with ea
    subst ea
    refine ⟨⟨b, off + 4 * k, none⟩, es, rfl, hs, fun j v hv => ?_, ?_⟩
    · have := hcell j v hv
      rw [add_none] at this ⊢
      rw [← this]
      simp only [Ty.size]
      congr 2
      omega
    · have e : (show List Int from (xs.drop (4 * k)).take 4)[i] = xs[4 * k + i]'(by omega) := by simp
      show Rep S w (.int .i64) es ((show List Int from (xs.drop (4 * k)).take 4)[i])
      rw [e]
      exact hrep

end

section
variable {cx : Cx} {st st1 : St} {P : Program} {N : Nat} {own : List Nat} {Q : Exit → St → Prop}

theorem run_call {P : Program} {fc : FuncId} (h : CanCall P fc) {o : Oper} {tys : Array TypeId} {as : Array Operand} (ho : o.op = .call { callee := .value (.func fc), args := as, argTypes := tys }) (a : Act) (w : World) :
    (execOp a.eval o).run P w = .ok (.enter fc (as.map a.eval)) w := by
  obtain ⟨fn, c1, c2, c3⟩ := h
  have hfv : a.eval (.func fc) = .func (.func fc) #[] #[] := rfl
  simp only [execOp, ho, resolve, hfv, Deferred.ofValue, Sem.run_bind, Sem.run_pure, Result.andThen_ok, invoke, callFunc, run_program, c1]
  simp only [c2, c3]
  simp

def RunsAll (cx : Cx) (st st' : St) (ops : List Oper) (dr : Bool) : Prop :=
  ∀ g a w, Sim cx g st a w → ∀ t, wpOps cx.P ops.toArray (fun e a' w' => e = .normal ∧ ∃ g', Sim cx g' st' a' w') (match dr with
    | true => Region.schedule (cx.P.follows .mixedOrders) ops.toArray t
    | false => List.range ops.toArray.size) a (match dr with
    | true => { w with drawn := w.drawn + 1 }
    | false => w)

theorem RunsAll.reg {st st' : St} {ops : List Oper} {rs : List OH} {cs : List Prop} (hX : CxIs cx P N own) (he : ireg P N ops ops rs st = some (st', cs)) (hc : AllP cs) : RunsAll cx st st' ops false := by
  obtain ⟨hP, hN, _⟩ := hX
  subst hP hN
  intro g a w hs t
  rw [List.range_eq_range', ← Array.length_toList, wpOps_eq_wpList ops.toArray.toList 0 (by simp)]
  exact ireg_sound hs he hc fun g' a' w' hs' => ⟨rfl, g', hs'⟩

theorem RunsAll.draw {st st' : St} (h : Nat) {ops : List Oper} {hrs : List HR} {tds : List (List Nat)} {rs : List OH} {cs : List Prop} (hX : CxIs cx P N own) (hm : P.follows .mixedOrders = true) (he : idraw P N ops h hrs tds rs st = some (st', cs)) (hc : AllP cs) : RunsAll cx st st' ops true := by
  obtain ⟨hP, hN, _⟩ := hX
  subst hP hN
  intro g a w hs t
  unfold idraw at he
  cases hb : ((Nat.beq hrs.length h && Nat.ble h ops.length) && okFrom ops (hrs.map HR.D ++ tds) h 0 ops) with
  | false => rw [hb] at he; cases he
  | true =>
    rw [hb] at he
    simp only [cond_true] at he
    simp only [Bool.and_eq_true] at hb
    split at he
    · rename_i ers cs1 nx h1
      split at he
      · rename_i st1 cs2 h2
        injection he with he
        injection he with e1 e2
        subst e1
        subst e2
        obtain ⟨hc1, hc2⟩ := hc.append
        simp only [Region.schedule, hm, Bool.true_or, if_true]
        exact wpAny_sound ops.toArray.size t _ a _ (hs.anyDraw (by simp only [Bool.and_eq_true, beq_iff_eq]; exact ⟨beq_of hb.1.1, hb.1.2⟩) hb.2 h1 h2 hc1 hc2 fun g' a' w' hs' => ⟨rfl, g', hs'⟩)
      · cases he
    · cases he

def apartR (g : GM) (m : Mem) (l : List Nat) : Prop := ∀ b ∈ l, ¬ Live g m b

theorem HT.chunk {α : Type} (S : α → St) {f : List Int → α → Option α} {s0 r : α} {xs : List Int} {ops opsb : List Oper} {n : Nat} {rs : List OH} {cs : List Prop} {id ia bid bb ib ts td tp ta : Nat} {fc fi : FuncId} {oc oa : Oper} {tys : Array TypeId} {ks : List Nat} {dr : Bool}
    (hX : CxIs cx P N own) (hfn : ChunkFn P fc fi) (hops : ops.drop n = [oc])
    (hoc : oc.op = .call { callee := .value (.func fc), args := #[.tmp ts, .const (.int .i64 4)], argTypes := tys }) (hocd : oc.dst = some td) (hocg : oc.guard = none)
    (hoa : oa.op = .assign (.tmp tp)) (hoad : oa.dst = some ta) (hoag : oa.guard = none)
    (he : ireg P N ops (ops.take n) rs st = some (st1, cs)) (hc : AllP cs) (hle : Le cx st1 (S s0))
    (hk : ∀ s, (S s).fr.map Prod.fst = ks) (hts : ∀ s, lk ts (S s).fr = some (nV xs))
    (hds : (ks.all fun t => !(memN t (td :: tp :: ta :: dstsO opsb))) = true) (hnd : noDefer opsb = true) (hN2 : (Nat.blt td N && (Nat.blt tp N && Nat.blt ta N)) = true)
    (hr : chunks4 f xs s0 = some r)
    (hbody : ∀ ys s s', f ys s = some s' → ∀ cx' : Cx, CxIs cx' P N own → ∃ st2, RunsAll cx' ⟨(ta, nV ys) :: (S s).fr, (S s).mem, (S s).nx⟩ st2 opsb dr ∧ Le cx' st2 (S s'))
    (hq : Q .normal (S r)) :
    HT cx st (.seq (.region id ops.toArray false) (.block bid (.rangeFunc (.tmp td) #[tp] (.region ia #[oa] false) (.block bb (.region ib opsb.toArray dr))))) Q := by
  obtain ⟨hP, hN, hO⟩ := hX
  subst hP hN
  obtain ⟨⟨hx4, hxl⟩, hr⟩ := of_guard hr
  simp only [Bool.and_eq_true] at hN2
  have hN2 : td < cx.N ∧ tp < cx.N ∧ ta < cx.N := ⟨Nat.lt_of_lt_of_le (Nat.lt_succ_self _) (Nat.le_of_ble_eq_true hN2.1), Nat.lt_of_lt_of_le (Nat.lt_succ_self _) (Nat.le_of_ble_eq_true hN2.2.1), Nat.lt_of_lt_of_le (Nat.lt_succ_self _) (Nat.le_of_ble_eq_true hN2.2.2)⟩
  have hin : ∀ s t, lk t (S s).fr ≠ none → t ∉ (td :: tp :: ta :: dstsO opsb) := fun s t h hm => by
    have h1 := lk_keys h
    rw [hk] at h1
    have h2 := List.all_eq_true.1 hds t h1
    rw [memN_iff.2 hm] at h2
    cases h2
  obtain ⟨m, hm⟩ : ∃ m, m = xs.length / 4 := ⟨_, rfl⟩
  have hxm : xs.length = 4 * m := by omega
  rw [← hm] at hr
  obtain ⟨T1, T2, hcall⟩ := hfn.call
  intro g a w hs
  refine wp_seq (wp_region_lit ?_)
  rw [← List.take_append_drop n ops, hops]
  refine ireg_app (all := ops.take n ++ [oc]) hs (by rw [← hops, List.take_append_drop]; exact he) hc fun g1 a1 w1 hs1 => ?_
  obtain ⟨g2, hs2⟩ := hle g1 a1 w1 hs1
  refine wpList_step fun K hK => ?_
  simp only [Region.wanted, hocg, if_true]
  unfold Oper.wp
  rw [run_call hfn.can hoc]
  -- the list's value
  have hv := hs2.fr ts _ (hts s0)
  obtain ⟨al, cap, hval⟩ : ∃ al cap, a1.tmps.getD ts undef = .slice al xs.length cap := by
    obtain ⟨al, cap, e, _⟩ := (hv : Rep _ _ tLI _ xs)
    exact ⟨al, cap, by injection e⟩
  have hv : Rep (cx.safe g2 (S s0).mem w1) w1 tLI [.slice al xs.length cap] xs := by rw [← hval]; exact hv
  obtain ⟨_, hcap, hal⟩ := ints_at hv
  have hargs : (#[Operand.tmp ts, Operand.const (Value.int IntKind.i64 4)].map a1.eval) = #[.slice al xs.length cap, .int .i64 4] := by
    rw [← hval]; apply Array.ext'; rw [Array.toList_map]; rfl
  rw [hargs]
  refine Calls.mono (hcall al xs.length cap w1) ?_
  rintro e w2 ⟨rfl, rfl⟩
  refine hK _ _ (?_ : Code.wp cx.P _ _ _ _)
  rw [hocd]
  obtain ⟨Bs, hBs⟩ : ∃ Bs, Bs = w1.heap.size := ⟨_, rfl⟩
  obtain ⟨w2, hw2⟩ : ∃ w2, w2 = (w1.alloc (.cells #[.slice al xs.length cap] T1)).alloc (.cells #[.int .i64 4] T2) := ⟨_, rfl⟩
  rw [← hw2, ← hBs]
  have hsz2 : w2.heap.size = w1.heap.size + 2 := by rw [hw2]; simp
  obtain ⟨fv, hfv⟩ : ∃ fv : Value, fv = .func (.func fi) #[] #[.pointer (some ⟨Bs, 0, none⟩), .pointer (some ⟨Bs + 1, 0, none⟩)] := ⟨_, rfl⟩
  rw [← hfv]
  have hBs2 : w2.cell? ⟨Bs, 0, none⟩ = some (.slice al (4 * m) cap) := by
    have h1 : w2.heap[Bs]? = some (.cells #[.slice al xs.length cap] T1) := by
      rw [hw2, hBs, RowKit.Below.heap_alloc _ _ _ (by simp)]; exact World.alloc_heap_new w1 _
    unfold World.cell?
    rw [h1, hxm]; rfl
  have hBn2 : w2.cell? ⟨Bs + 1, 0, none⟩ = some (.int .i64 4) := by
    have h1 : w2.heap[Bs + 1]? = some (.cells #[.int .i64 4] T2) := by
      have := World.alloc_heap_new (w1.alloc (.cells #[.slice al xs.length cap] T1)) (.cells #[.int .i64 4] T2)
      rw [World.size_alloc] at this
      rw [hw2, hBs]; exact this
    unfold World.cell?
    rw [h1]; rfl
  -- the state behind the call
  have hs3 : Sim cx g2 (S s0) (a1.put (some td) fv) w2 := by
    have h1 : Sim cx g2 (S s0) (a1.put (some td) fv) w1 := hs2.agree (by simp [Act.put]) (fun t ht => by
      have := hin s0 t ht
      have hne : td ≠ t := fun e => this (by rw [e]; simp)
      simp [Act.put, Array.getD_eq_getD_getElem?, Array.getElem?_setIfInBounds, hne]) hs2.defers
    have h2 := h1.grown (World.grownBy_alloc w1 (.cells #[.slice al xs.length cap] T1) none) (fun r e => by cases e)
    have h3 := h2.grown (World.grownBy_alloc _ (.cells #[.int .i64 4] T2) none) (fun r e => by cases e)
    rw [hw2]; exact h3
  have hlive2 : ∀ b, Live g2 (S s0).mem b → b < Bs := fun b ⟨k, p, ch, h1, h2, h3⟩ => by rw [hBs]; exact hs2.lt k p ch b h1 h2 h3
  obtain ⟨a2, ha2⟩ : ∃ a2, a2 = a1.put (some td) fv := ⟨_, rfl⟩
  rw [← ha2] at hs3 ⊢
  have hsz : a2.tmps.size = cx.N := hs3.size
  have hts2 : a2.tmps.getD ts undef = .slice al (4 * m) cap := by
    have hne : td ≠ ts := fun e => hin s0 ts (by rw [hts]; simp) (by rw [← e]; simp)
    rw [ha2, ← hxm, ← hval]
    simp [Act.put, Array.getD_eq_getD_getElem?, Array.getElem?_setIfInBounds, hne]
  have hg : a2.eval (.tmp td) = fv := by
    have : td < a1.tmps.size := by rw [hs2.size]; exact hN2.1
    show a2.tmps.getD td undef = fv
    rw [ha2]
    simp [Act.put, Array.getD_eq_getD_getElem?, Array.getElem?_setIfInBounds, this]
  have hw0 : cx.w0.heap.size ≤ w2.heap.size := hs3.keep.size
  have hmk : ∀ x, ({ target := .collected x, args := #[] } : Deferred) ∈ a2.defers → x < w2.heap.size := fun x hx => by
    obtain ⟨Ds, e, _, hDs⟩ := hs3.defers
    rw [e] at hx
    obtain ⟨y, hy, e2⟩ := List.mem_map.1 hx
    injection e2 with e2
    injection e2 with e2
    subst e2
    exact (Array.getElem?_eq_some_iff.1 (hDs y hy).1).1
  clear ha2 hs2 hs1 hs hargs hval
  refine wp_block ((wpIn_wide (n := 2)).1 (wpIn_rangeFunc ?_))
  intro fn _
  obtain ⟨D, hD⟩ : ∃ D, D = w2.heap.size := ⟨_, rfl⟩
  obtain ⟨rec, hrec⟩ : ∃ rec : LoopState → Option Code → Loop, rec = fun st pe => { state := st, pending := pe, fn, tmps := a2.tmps, params := #[tp], assign := .region ia #[oa] false, body := .block bb (.region ib opsb.toArray dr), defers := D } := ⟨_, rfl⟩
  obtain ⟨W1, hW1⟩ : ∃ W1, (w2.alloc (.deferred (some []))).alloc (.loop (rec .ready none)) = W1 := ⟨_, rfl⟩
  have hL1 : W1.heap[D + 1]? = some (.loop (rec .ready none)) := by
    rw [← hW1, hD]; have := World.alloc_heap_new (w2.alloc (.deferred (some []))) (.loop (rec .ready none)); rwa [World.size_alloc] at this
  have hK1 : W1.heap[D]? = some (.deferred (some [])) := by
    rw [← hW1, hD]; exact (RowKit.Below.heap_alloc _ _ _ (by simp)).trans (World.alloc_heap_new w2 _)
  have hs4 : Sim cx g2 (S s0) a2 W1 := by
    rw [← hW1]
    exact (hs3.grown (World.grownBy_alloc w2 _ none) (fun r e => by cases e)).grown (World.grownBy_alloc _ _ none) (fun r e => by cases e)
  have hoth : ∀ b, b < D → W1.heap[b]? = w2.heap[b]? := fun b hb => by
    rw [← hW1, RowKit.Below.heap_alloc _ _ _ (by simp; omega), RowKit.Below.heap_alloc _ _ _ (by omega)]
  let ap : List Nat := [Bs, Bs + 1, D, D + 1]
  let J : Nat → World → Prop := fun k W => (∃ s g, chunkL f (m - k) (xs.drop (4 * k)) s = some r ∧ Sim cx g (S s) a2 W ∧ apartR g (S s).mem ap) ∧ W.heap[D + 1]? = some (.loop (rec .ready none)) ∧ W.heap[D]? = some (.deferred (some []))
  refine ⟨D + 1, [{ target := .collected D, args := #[] }], W1, { target := .fn (.func fi) #[.pointer (some ⟨Bs, 0, none⟩), .pointer (some ⟨Bs + 1, 0, none⟩)], args := #[.func (.yield (D + 1)) #[] #[]] }, W1, fi,
    #[.func (.yield (D + 1)) #[] #[]] ++ #[.pointer (some ⟨Bs, 0, none⟩), .pointer (some ⟨Bs + 1, 0, none⟩)], W1, ?_, ?_, ?_, ?_, fun _ => (by decide), ?_⟩
  · rw [← hW1, hrec, hD]; exact run_enterLoop_outer _ _ _ _ _
  · simp only [resolve, hg, hfv]
    simp [go_sem]
  · intro f' hf'; trivial
  · obtain ⟨fi', c1, c2, c3⟩ := hfn.cani
    simp only [invoke, callFunc, Sem.run_bind, run_program, Result.andThen_ok, c1]
    simp [c2, c3]
  · obtain ⟨b, off, hal2⟩ : ∃ b off, 0 < m → al = some ⟨b, off, none⟩ := by
      by_cases h0 : 0 < m
      · obtain ⟨b, off, e⟩ := hal (by omega)
        exact ⟨b, off, fun _ => e⟩
      · exact ⟨0, 0, fun h => absurd h h0⟩
    have hap : apartR g2 (S s0).mem ap := fun x hx hl => by
      have h1 := hlive2 x hl
      simp only [ap, List.mem_cons, List.not_mem_nil, or_false] at hx
      omega
    refine (hfn.iter (D + 1) Bs (Bs + 1) al b off m cap (by omega) (by omega) hal2 J ?_ ?_ W1 ?_ ?_ ?_).mono ?_
    · rintro k W ⟨⟨s, g, h1, h2, h3⟩, h4, h5⟩
      exact ⟨⟨s, g, h1, h2.drew, h3⟩, h4, h5⟩
    · rintro k W ⟨⟨s, g, hch, hS, hA⟩, hl, hd⟩ hkm
      have hlt : D + 1 < W.heap.size := (Array.getElem?_eq_some_iff.1 hl).1
      have hal3 := hal2 (by omega)
      obtain ⟨n', hn'⟩ : ∃ n', m - k = n' + 1 := ⟨m - k - 1, by omega⟩
      rw [hn'] at hch
      obtain ⟨s', hf, hch⟩ := of_bind hch
      obtain ⟨v, hvk⟩ : ∃ v : Value, v = .slice (some ⟨b, off + 4 * k, none⟩) 4 4 := ⟨_, rfl⟩
      rw [← hvk]
      have hy := run_yield (P := cx.P) (args := #[v]) hl (by rw [hrec]; rfl)
      rw [hrec] at hy
      refine ⟨fn, _, _, _, hy, roundIn_of_wpIn trivial ?_⟩
      -- the assignment
      refine wpIn_region_lit (l := [oa]) (wpListIn_plain hoag fun K hK => ⟨fun _ _ => trivial, ?_⟩)
      rw [Oper.semAt_eq _ _ _ (by simp [hoa])]
      simp only [execOp, hoa]
      refine hK _ _ (wpListIn_nil ?_)
      refine ⟨_, run_beginRound hl (by rw [hrec]), ?_⟩
      obtain ⟨Wb, hWb⟩ : ∃ Wb, Wb = W.putObj (D + 1) (.loop { rec .ready none with state := .busy }) := ⟨_, rfl⟩
      rw [← hWb]
      have hlb : Wb.heap[D + 1]? = some (.loop { rec .ready none with state := .busy }) := by rw [hWb]; exact World.putObj_heap_same hlt
      have hob : ∀ x, x ≠ D + 1 → Wb.heap[x]? = W.heap[x]? := fun x hx => by rw [hWb]; exact World.putObj_heap_other hx
      have hszb : Wb.heap.size = W.heap.size := by rw [hWb]; simp
      have hSb : Sim cx g (S s) a2 Wb := by
        rw [hWb]
        exact hS.grown (grownBy_putObj' W (D + 1) _) (fun x e => by cases e; exact ⟨by omega, _, hl, rfl, by simp⟩)
      have hvb := hSb.fr ts _ (hts s)
      rw [hts2, hal3] at hvb
      have hpc := ints_piece (k := k) (hvb : Rep _ _ tLI _ xs) (by omega)
      rw [← hvk] at hpc
      obtain ⟨T, hT⟩ : ∃ T, T = a2.tmps.setIfInBounds tp v := ⟨_, rfl⟩
      have hfold : (Array.foldl (fun tmps x => tmps.setIfInBounds x.fst x.snd) a2.tmps (#[tp].zip #[v])) = T := by
        rw [hT, show (#[tp].zip #[v]) = #[(tp, v)] from by apply Array.ext'; simp]
        simp
      have hev : ({ tmps := T, defers := [] } : Act).eval (.tmp tp) = v := by
        have : tp < a2.tmps.size := by rw [hsz]; exact hN2.2.1
        show T.getD tp undef = v
        rw [hT]
        simp [Array.getD_eq_getD_getElem?, Array.getElem?_setIfInBounds, this]
      rw [hfold, hev, hoad]
      have hS1 : Sim cx g (S s) { tmps := T, defers := [] } Wb := hSb.agree (by simp [hT]) (fun t ht => by
        have hne : tp ≠ t := fun e => hin s t ht (by rw [e]; simp)
        simp [hT, Array.getD_eq_getD_getElem?, Array.getElem?_setIfInBounds, hne]) .nil
      have hS2 := hS1.put (v := nV ((xs.drop (4 * k)).take 4)) (val := v) hpc (some ta) (fun t e => by cases e; exact hN2.2.2)
      obtain ⟨a3, ha3⟩ : ∃ a3, a3 = ({ tmps := T, defers := [] } : Act).put (some ta) v := ⟨_, rfl⟩
      rw [← ha3] at hS2 ⊢
      have ha3d : ({ a3 with defers := [] } : Act) = a3 := by rw [ha3]; rfl
      obtain ⟨F', hF, hb⟩ := hS2.rebase
      rw [ha3d] at hb
      obtain ⟨st2, hb1, hb3⟩ := hbody _ _ _ hf { cx with w0 := Wb, S := cx.safe g ((S s).put (some ta) (nV ((xs.drop (4 * k)).take 4))).mem Wb, F := F' } ⟨rfl, rfl, hO⟩
      have hrun : (Code.region ib opsb.toArray dr).wpIn (Fence.wide.inRound (D + 1)) 0 cx.P (fun e a' w' => (e = .normal ∧ ∃ g', Sim { cx with w0 := Wb, S := cx.safe g ((S s).put (some ta) (nV ((xs.drop (4 * k)).take 4))).mem Wb, F := F' } g' st2 a' w') ∧ (e = .normal → SameT (dstsO opsb) a3.tmps a')) a3 Wb := by
        have h1 := hb1 g a3 Wb hb
        cases dr with
        | true => exact wpIn_region_draw fun t => wpOps_round (fun _ _ h => by cases h.1) hnd ⟨rfl, fun _ _ => rfl⟩ (h1 t)
        | false => exact wpIn_region (wpOps_round (fun _ _ h => by cases h.1) hnd ⟨rfl, fun _ _ => rfl⟩ (h1 0))
      refine wpIn_block (wpIn_mono hrun ?_)
      rintro e a5 w5 ⟨⟨rfl, g5, h5⟩, hsame⟩
      have hsame := hsame rfl
      obtain ⟨g6, h7⟩ := hb3 g5 { tmps := a5.tmps, defers := [] } w5 ⟨.nil, h5.size, h5.fr, h5.mem, h5.injp, h5.basep, h5.lt, h5.keep, h5.own, h5.gl⟩
      have hapt : ∀ x, x < W.heap.size → ¬ Live g (S s).mem x → w5.heap[x]? = Wb.heap[x]? ∧ ¬ Live g6 (S s').mem x := fun x h1 h2 => Sim.apart hF h7 (by rw [hszb]; exact h1) h2
      have h8 : Sim cx g6 (S s') { tmps := a5.tmps, defers := [] } w5 := hS2.unbase hF h7 .nil
      have h9 : Sim cx g6 (S s') a2 w5 := h8.agree (by rw [hsame.1, ha3]; simp [Act.put, hT]) (fun t ht => by
        have hni := hin s' t ht
        have h1 : tp ≠ t := fun e => hni (by rw [e]; simp)
        have h2 : ta ≠ t := fun e => hni (by rw [e]; simp)
        have h3 : t ∉ dstsO opsb := fun e => hni (by simp [e])
        rw [hsame.2 t h3, ha3]
        simp [Act.put, hT, Array.getD_eq_getD_getElem?, Array.getElem?_setIfInBounds, h1, h2]) (by
          obtain ⟨Ds, e, hn, hDs⟩ := hSb.defers
          refine ⟨Ds, e, hn, fun x hx => ?_⟩
          obtain ⟨k1, k2, k3⟩ := hDs x hx
          obtain ⟨q1, q2⟩ := hapt x (by rw [← hszb]; exact (Array.getElem?_eq_some_iff.1 k1).1) k3
          exact ⟨q1.trans k1, k2, q2⟩)
      have hl5 : w5.heap[D + 1]? = some (.loop { rec .ready none with state := .busy }) := (hapt (D + 1) hlt (hA _ (by simp [ap]))).1.trans hlb
      have hd5 : w5.heap[D]? = some (.deferred (some [])) := (hapt D (by omega) (hA _ (by simp [ap]))).1.trans ((hob D (by omega)).trans hd)
      have hlt5 := (Array.getElem?_eq_some_iff.1 hl5).1
      refine ⟨_, _, run_endRound none hl5, rfl, ⟨⟨s', g6, ?_, ?_, fun x hx => ?_⟩, ?_, ?_⟩, ?_, ?_⟩
      · rw [show m - (k + 1) = n' by omega, show 4 * (k + 1) = 4 * k + 4 by omega, ← List.drop_drop]; exact hch
      · exact h9.grown (grownBy_putObj' w5 (D + 1) _) (fun x e => by cases e; exact ⟨by omega, _, hl5, rfl, by simp⟩)
      · exact (hapt x (by simp only [ap, List.mem_cons, List.not_mem_nil, or_false] at hx; omega) (hA x hx)).2
      · rw [World.putObj_heap_same hlt5]; simp [hrec]
      · exact (World.putObj_heap_other (by omega)).trans hd5
      · exact (World.putObj_heap_other (by omega)).trans ((hapt Bs (by omega) (hA _ (by simp [ap]))).1.trans (hob Bs (by omega)))
      · exact (World.putObj_heap_other (by omega)).trans ((hapt (Bs + 1) (by omega) (hA _ (by simp [ap]))).1.trans (hob (Bs + 1) (by omega)))
    · have := hoth Bs (by omega)
      exact (World.cell?_of_block (a := ⟨Bs, 0, none⟩) this).trans hBs2
    · have := hoth (Bs + 1) (by omega)
      exact (World.cell?_of_block (a := ⟨Bs + 1, 0, none⟩) this).trans hBn2
    · exact ⟨⟨s0, g2, by simpa using hr, hs4, hap⟩, hL1, hK1⟩
    · rintro e W3 ⟨⟨v, rfl⟩, ⟨⟨s, g, hch, hS, hA⟩, hl, hd⟩⟩
      rw [Nat.sub_self] at hch
      have hch := of_some hch
      subst hch
      refine ⟨none, W3.putObj (D + 1) (.loop { rec .ready none with state := .exhausted }), by have := run_endLoop (P := cx.P) hl (by rw [hrec]; simp); rw [hrec] at this ⊢; exact this, ?_⟩
      refine ⟨S s, g, hq, ?_⟩
      have h5 := hS.grown (grownBy_putObj' W3 (D + 1) (.loop { rec .ready none with state := .exhausted })) (fun x e => by cases e; exact ⟨by omega, _, hl, rfl, by simp⟩)
      refine ⟨?_, h5.size, h5.fr, h5.mem, h5.injp, h5.basep, h5.lt, h5.keep, h5.own, h5.gl⟩
      obtain ⟨Ds, e, hn, hDs⟩ := h5.defers
      refine ⟨D :: Ds, by rw [e]; rfl, List.nodup_cons.2 ⟨fun hm => ?_, hn⟩, fun x hx => ?_⟩
      · exact Nat.lt_irrefl D (hD ▸ hmk D (by rw [e]; exact List.mem_map.2 ⟨D, hm, rfl⟩))
      · rcases List.mem_cons.1 hx with rfl | hx
        · exact ⟨(World.putObj_heap_other (by omega)).trans hd, by omega, hA _ (by simp [ap])⟩
        · exact hDs x hx

end
end Go.Ide
