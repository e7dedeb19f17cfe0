/-
  What the statements' reading of arguments gives.
-/
import Derived.Test.YthkikckjkhnmlaaIdeZC
import Derived.ProofKit
import Derived.Deep.Slices
namespace Go.Ide

mutual
def tyB (P : Program) : Nat → Ty → TypeId → Bool
  | 0, _, _ => false
  | n + 1, t, T => match t with
    | .int k => (match P.underlying T with
      | some (.int k') => k == k'
      | _ => false)
    | .flt k => (match P.underlying T with
      | some (.float k') => k == k'
      | _ => false)
    | .bool => (match P.underlying T with
      | some .bool => true
      | _ => false)
    | .str => (match P.underlying T with
      | some .string => true
      | _ => false)
    | .sl t => (match P.underlying T with
      | some (.slice e) => tyB P n t e && Nat.beq (P.cellsOf e) t.size
      | _ => false)
    | .st t => (match P.underlying T with
      | some (.struct fs) => fdB P n t 0 fs.toList && Nat.beq (P.cellsOf T) t.size
      | _ => false)
    | .pair _ _ => false
def fdB (P : Program) : Nat → Ty → Nat → List Field → Bool
  | 0, _, _, _ => false
  | n + 1, t, off, fs => match fs with
    | [] => false
    | [f] => (tyB P n t f.type && Nat.beq f.offset off) && Nat.beq (P.cellsOf f.type) t.size
    | f :: fs => match t with
      | .pair a b => ((tyB P n a f.type && Nat.beq f.offset off) && Nat.beq (P.cellsOf f.type) a.size) && fdB P n b (off + a.size) fs
      | _ => false
end

section
variable {H : Type} {enc : TypeId × Value → H} {P : Program} {w : World} {base : Nat} {spare : Nat → Bool} {held : Bool}

/-- The blocks that are there. -/
def There (w : World) (b : Nat) : Prop := b < w.heap.size

/-- Data that a value can hold: numbers within their kinds. -/
def WfD : (t : Ty) → t.D → Prop
  | .int k, n => (Lit.int k n).wf = true
  | .flt k, b => ∃ b', fcanon k b' = b ∧ (Lit.float k b').wf = true
  | .bool, _ => True
  | .str, s => List.length s ≤ maxLen
  | .pair a b, x => WfD a x.1 ∧ WfD b x.2
  | .st t, x => WfD t x
  | .sl t, xs => List.length xs ≤ maxLen ∧ ∀ i (h : i < List.length xs), WfD t xs[i]

theorem pick_list {α : Type} {R : Nat → α → Prop} : ∀ (n : Nat), (∀ i, i < n → ∃ x, R i x) → ∃ l : List α, l.length = n ∧ ∀ i (h : i < l.length), R i l[i]
  | 0, _ => ⟨[], rfl, fun i h => by simp at h⟩
  | n + 1, h => by
    obtain ⟨l, h1, h2⟩ := pick_list n fun i hi => h i (by omega)
    obtain ⟨x, hx⟩ := h n (by omega)
    refine ⟨l ++ [x], by simp [h1], fun i hi => ?_⟩
    simp at hi
    rcases Nat.lt_or_ge i n with hlt | hge
    · rw [List.getElem_append_left (by omega)]; exact h2 i (by omega)
    · have : i = n := by omega
      subst this
      rw [List.getElem_append_right (by omega)]
      simpa [h1] using hx

theorem kind_eq {k k' : IntKind} (h : (k == k') = true) : k = k' := by cases k <;> cases k' <;> first | rfl | cases h
theorem fkind_eq {k k' : FloatKind} (h : (k == k') = true) : k = k' := by cases k <;> cases k' <;> first | rfl | cases h

theorem rep_of_trod : ∀ (n : Nat),
    (∀ (t : Ty) (T : TypeId) (fuel : Nat) (cs : List Value) (y : DataW H × List MemPlace), tyB P n t T = true → DataW.trod enc P w base spare held fuel T cs = some y → ∃ x, Rep (There w) w t cs x ∧ WfD t x) ∧
    (∀ (t : Ty) (off : Nat) (fs : List Field) (fuel : Nat) (cs : List Value), fdB P n t off fs = true → (∀ f ∈ fs, ∃ y, DataW.trod enc P w base spare held fuel f.type ((cs.drop f.offset).take (P.cellsOf f.type)) = some y) → cs.length = off + t.size → ∃ x, Rep (There w) w t (cs.drop off) x ∧ WfD t x)
  | 0 => ⟨fun _ _ _ _ _ h _ => by simp [tyB] at h, fun _ _ _ _ _ h _ _ => by simp [fdB] at h⟩
  | n + 1 => by
    obtain ⟨ih1, ih2⟩ := rep_of_trod n
    refine ⟨fun t T fuel cs y h hy => ?_, fun t off fs fuel cs h hf hl => ?_⟩
    · cases t with
      | int k =>
        simp only [tyB] at h
        split at h
        · rename_i k' e3
          have hk := kind_eq h
          subst hk
          obtain ⟨m, rfl, _, hwf⟩ := DataW.trod_int e3 hy
          exact ⟨m, rfl, hwf⟩
        · cases h
      | flt k =>
        simp only [tyB] at h
        split at h
        · rename_i k' e3
          have hk := fkind_eq h
          subst hk
          cases fuel with
          | zero => simp [DataW.trod] at hy
          | succ fuel =>
            unfold DataW.trod at hy
            rw [e3] at hy
            split at hy
            case h_3 =>
              rename_i k1 k2 b1 h1
              injection h1 with h1
              injection h1 with h1
              subst h1
              split at hy
              · rename_i hk
                obtain ⟨hk1, hk2⟩ := hk
                subst hk1
                exact ⟨_, ⟨b1, rfl, rfl⟩, b1, rfl, hk2⟩
              · cases hy
            all_goals first | (rename_i h1; cases h1; done) | (rename_i h1 _; cases h1; done) | (rename_i h1 _ _; cases h1; done) | cases hy
        · cases h
      | bool =>
        simp only [tyB] at h
        split at h
        · rename_i e3
          obtain ⟨m, rfl, _⟩ := DataW.trod_bool e3 hy
          exact ⟨m, rfl, trivial⟩
        · cases h
      | str =>
        simp only [tyB] at h
        split at h
        · rename_i e3
          obtain ⟨m, rfl, _, hm⟩ := DataW.trod_string e3 hy
          exact ⟨m.data.toList, by simp [Rep], by simpa [WfD] using hm⟩
        · cases h
      | sl t =>
        simp only [tyB] at h
        split at h
        · rename_i e2 e3
          simp only [Bool.and_eq_true] at h
          obtain ⟨h1, h2⟩ := h
          have h2 := beq_of h2
          rcases Go.Deep.open_slice e3 hy with ⟨rfl, _⟩ | ⟨a, len, cap, m, f2, D, Pl, rfl, hb, hlc, hcm, hm, _, hel⟩
          · exact ⟨[], ⟨none, 0, rfl, Nat.le_refl _, fun i hi => by simp at hi⟩, by simp [WfD]⟩
          · have hlm : len ≤ m := by rw [hm]; split <;> omega
            obtain ⟨xs, hx1, hx2⟩ := pick_list (R := fun i (x : t.D) => There w a.block ∧ ∃ es, (∀ j v, es[j]? = some v → w.cell? (a.add (i * t.size + j)) = some v) ∧ Rep (There w) w t es x ∧ WfD t x) len fun i hi => by
              obtain ⟨cs', k1, k2⟩ := hel i (by omega)
              obtain ⟨x, k3, k4⟩ := ih1 t _ _ _ _ h1 k2
              obtain ⟨_, k5, k6⟩ := World.cells?_some k1
              have hpos : 0 < P.cellsOf e2 := by rw [h2]; exact t.size_pos
              refine ⟨x, World.cells?_block k1 hpos |> fun q => by simpa [There, add_block] using q, cs', fun j v hv => ?_, k3, k4⟩
              have hj : j < P.cellsOf e2 := by rw [← k5]; exact (List.getElem?_eq_some_iff.1 hv).1
              rw [← add_add, ← h2, k6 j hj]
              exact hv
            refine ⟨xs, ⟨some a, cap, by rw [hx1], by omega, fun i hi => ?_⟩, by rw [hx1]; omega, fun i hi => ?_⟩
            · obtain ⟨q1, es, q2, q3, _⟩ := hx2 i hi
              exact ⟨a, es, rfl, q1, q2, q3⟩
            · obtain ⟨_, _, _, _, q4⟩ := hx2 i hi
              exact q4
        · cases h
      | pair a b => simp [tyB] at h
      | st t =>
        simp only [tyB] at h
        split at h
        · rename_i e2 e3
          simp only [Bool.and_eq_true] at h
          obtain ⟨h1, h2⟩ := h
          have h2 := beq_of h2
          obtain ⟨xs, f2, _, _, hl, hxs, hel⟩ := DataW.trod_struct e3 hy
          have := ih2 t 0 _ f2 cs h1 (fun f hf => by
            obtain ⟨i, hi⟩ := List.getElem?_of_mem hf
            have hi' : e2[i]? = some f := by rw [← Array.getElem?_toList]; exact hi
            have hlt : i < xs.length := by rw [hxs]; exact (Array.getElem?_eq_some_iff.1 hi').1
            exact ⟨xs[i], by rw [hel i f hi']; exact List.getElem?_eq_getElem hlt⟩) (by rw [hl, h2, Nat.zero_add])
          obtain ⟨x, k1, k2⟩ := this
          rw [List.drop_zero] at k1
          exact ⟨x, k1, k2⟩
        · cases h
    · cases fs with
      | nil => simp [fdB] at h
      | cons f fs =>
        cases fs with
        | nil =>
          simp only [fdB, Bool.and_eq_true] at h
          obtain ⟨⟨h1, h2⟩, h3⟩ := h
          have h2 := beq_of h2
          have h3 := beq_of h3
          obtain ⟨y, hy⟩ := hf f (by simp)
          obtain ⟨x, k1, k2⟩ := ih1 t _ _ _ _ h1 hy
          refine ⟨x, ?_, k2⟩
          rw [h2, h3, List.take_of_length_le (by rw [List.length_drop]; omega)] at k1
          exact k1
        | cons f2 fs =>
          cases t with
          | pair a b =>
            simp only [fdB, Bool.and_eq_true] at h
            obtain ⟨⟨⟨h1, h2⟩, h3⟩, h4⟩ := h
            have h2 := beq_of h2
            have h3 := beq_of h3
            obtain ⟨y, hy⟩ := hf f (by simp)
            obtain ⟨x, k1, k2⟩ := ih1 a _ _ _ _ h1 hy
            obtain ⟨z, k3, k4⟩ := ih2 b (off + a.size) _ fuel cs h4 (fun g hg => hf g (by simp only [List.mem_cons] at hg ⊢; exact .inr hg)) (by rw [hl]; simp [Ty.size]; omega)
            rw [h2, h3] at k1
            refine ⟨(x, z), ⟨_, _, ?_, k1, k3⟩, k2, k4⟩
            rw [← List.drop_drop]
            exact (List.take_append_drop _ _).symm
          | _ => simp [fdB] at h

end
end Go.Ide
