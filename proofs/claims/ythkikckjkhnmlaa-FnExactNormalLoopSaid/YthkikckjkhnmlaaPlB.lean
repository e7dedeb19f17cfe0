import Derived.Test.YthkikckjkhnmlaaPlA
import Derived.Test.YthkikckjkhnmlaaIdeZF
namespace Go.Proofs
open Go.Ide Go.IntWalk

theorem in64 (a b c : Int) : spec_l00In a b c = some (decide (a ≥ b) && decide (a ≤ c)) := by
  unfold spec_l00In
  cases h : decide (a ≥ b) <;> simp

theorem within64 (a b c : Int) : impl_within a b c = some (decide (a ≥ b) && decide (a ≤ c)) := by
  unfold impl_within
  cases h : decide (a ≥ b) <;> simp

/-- All between. -/
def allIn (xs : List Int) (b c : Int) : Bool := xs.all fun x => decide (x ≥ b) && decide (x ≤ c)

theorem word_loop {xs : List Int} {L : Int} (h : xs.length ≤ 4294967296) : ∀ (k i : Nat), i + k = xs.length →
    rounds (spec_l02Word_B1 xs L) (i : Int) = some (if allIn (xs.drop i) 0 (wsub .i64 L 1) = true then .inl () else .inr ())
  | 0, i, hi => by
    rw [rounds_eq]
    have h1 : decide ((i : Int) < lenI xs) = false := by simp [lenI]; omega
    simp only [spec_l02Word_B1, h1, cond_false]
    rw [List.drop_of_length_le (by omega)]
    rfl
  | k + 1, i, hi => by
    rw [rounds_eq]
    have h1 : decide ((i : Int) < lenI xs) = true := by simp [lenI]; omega
    have g1 : (0 : Int) ≤ (i : Int) ∧ (i : Int) < lenI xs := ⟨by omega, by simp [lenI]; omega⟩
    simp only [spec_l02Word_B1, h1, cond_true, guard_pos g1, Int.toNat_natCast, in64, Option.bind_some, next64 (i := i) (n := xs.length) (by omega) h]
    rw [getD_drop (xs := xs) (i := i) (by omega) (0 : Int)]
    simp only [allIn, List.all_cons]
    rcases Bool.eq_false_or_eq_true (decide (xs.getD i 0 ≥ 0) && decide (xs.getD i 0 ≤ wsub .i64 L 1)) with hc | hc
    · simp only [hc, Bool.not_true, cond_false, Bool.true_and]
      exact word_loop (L := L) h k (i + 1) (by omega)
    · simp only [hc, Bool.not_false, cond_true, Bool.false_and]
      rfl

theorem word64 {xs : List Int} {L : Int} (h : xs.length ≤ 4294967296) : spec_l02Word xs L = some (allIn xs 0 (wsub .i64 L 1) && decide (lenI xs ≤ 12)) := by
  unfold spec_l02Word
  have := word_loop (L := L) h xs.length 0 (by omega)
  rw [List.drop_zero] at this
  have e : rounds (spec_l02Word_B1 xs L) (0 : Int) = some (if allIn xs 0 (wsub .i64 L 1) = true then .inl () else .inr ()) := this
  rw [e]
  cases allIn xs 0 (wsub .i64 L 1) <;> simp

theorem areWithin_loop {xs : List Int} {b c : Int} (h : xs.length ≤ 4294967296) : ∀ (k i : Nat), i + k = xs.length →
    rounds (impl_areWithin_B1 xs b c) (i : Int) = some (if allIn (xs.drop i) b c = true then .inl () else .inr ())
  | 0, i, hi => by
    rw [rounds_eq]
    have h1 : decide ((i : Int) < lenI xs) = false := by simp [lenI]; omega
    simp only [impl_areWithin_B1, h1, cond_false]
    rw [List.drop_of_length_le (by omega)]
    rfl
  | k + 1, i, hi => by
    rw [rounds_eq]
    have h1 : decide ((i : Int) < lenI xs) = true := by simp [lenI]; omega
    have g1 : (0 : Int) ≤ (i : Int) ∧ (i : Int) < lenI xs := ⟨by omega, by simp [lenI]; omega⟩
    simp only [impl_areWithin_B1, h1, cond_true, guard_pos g1, Int.toNat_natCast, within64, Option.bind_some, next64 (i := i) (n := xs.length) (by omega) h]
    rw [getD_drop (xs := xs) (i := i) (by omega) (0 : Int)]
    simp only [allIn, List.all_cons]
    rcases Bool.eq_false_or_eq_true (decide (xs.getD i 0 ≥ b) && decide (xs.getD i 0 ≤ c)) with hc | hc
    · simp only [hc, Bool.not_true, cond_false, Bool.true_and]
      exact areWithin_loop (b := b) (c := c) h k (i + 1) (by omega)
    · simp only [hc, Bool.not_false, cond_true, Bool.false_and]
      rfl

theorem areWithin64 {xs : List Int} {b c : Int} (h : xs.length ≤ 4294967296) : impl_areWithin xs b c = some (allIn xs b c) := by
  unfold impl_areWithin
  have := areWithin_loop (b := b) (c := c) h xs.length 0 (by omega)
  rw [List.drop_zero] at this
  have e : rounds (impl_areWithin_B1 xs b c) (0 : Int) = some (if allIn xs b c = true then .inl () else .inr ()) := this
  rw [e]
  cases allIn xs b c <;> simp

theorem isWord64 {xs : List Int} {L : Int} (h : xs.length ≤ 4294967296) : impl_IsWord xs L = some ((decide (L ≥ 1) && decide (L ≤ 4)) && (decide (lenI xs ≤ 12) && allIn xs 0 (wsub .i64 L 1))) := by
  unfold impl_IsWord
  rw [within64, areWithin64 h]
  cases (decide (L ≥ 1) && decide (L ≤ 4)) <;> cases decide (lenI xs ≤ 12) <;> simp

/-- A loop's words are words. -/
def okLoop (xs ys : List Int) (L : Int) : Bool := (decide (L ≥ 1) && decide (L ≤ 4)) && ((allIn xs 0 (wsub .i64 L 1) && decide (lenI xs ≤ 12)) && ((allIn ys 0 (wsub .i64 L 1) && decide (lenI ys ≤ 12)) && decide (lenI ys ≥ 1)))

theorem specValid {xs ys : List Int} {L : Int} (hx : xs.length ≤ 4294967296) (hy : ys.length ≤ 4294967296) : spec_l07Loop (xs, ys) L = some (okLoop xs ys L) := by
  unfold spec_l07Loop okLoop
  simp only [in64, word64 hx, word64 hy, Option.bind_some]
  cases (decide (L ≥ 1) && decide (L ≤ 4)) <;> cases (allIn xs 0 (wsub .i64 L 1) && decide (lenI xs ≤ 12)) <;> cases (allIn ys 0 (wsub .i64 L 1) && decide (lenI ys ≤ 12)) <;> simp

theorem implValid {xs ys : List Int} {L : Int} (hx : xs.length ≤ 4294967296) (hy : ys.length ≤ 4294967296) : impl_ValidLoop (xs, ys) L = some (okLoop xs ys L) := by
  unfold impl_ValidLoop okLoop
  have e : decide (lenI ys > 0) = decide (lenI ys ≥ 1) := by simp [lenI]; omega
  simp only [isWord64 hx, isWord64 hy, Option.bind_some, e]
  cases (decide (L ≥ 1) && decide (L ≤ 4)) <;> cases allIn xs 0 (wsub .i64 L 1) <;> cases decide (lenI xs ≤ 12) <;> cases allIn ys 0 (wsub .i64 L 1) <;> cases decide (lenI ys ≤ 12) <;> simp

end Go.Proofs
