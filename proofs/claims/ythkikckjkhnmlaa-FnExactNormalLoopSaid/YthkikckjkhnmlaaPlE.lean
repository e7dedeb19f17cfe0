import Derived.Test.YthkikckjkhnmlaaPlD
namespace Go.Proofs
open Go.Ide Go.IntWalk

/-- One turn: the last letters are the same. -/
def turnB (s : List Int × List Int) : Bool := decide (lenI s.1 > 0) && (List.getD s.1 (s.1.length - 1) (0 : Int) == List.getD s.2 (s.2.length - 1) (0 : Int))
def turned (s : List Int × List Int) : List Int × List Int := (s.1.take (s.1.length - 1), List.getD s.2 (s.2.length - 1) (0 : Int) :: s.2.take (s.2.length - 1))

theorem impl_turn {s : List Int × List Int} (h1 : 1 ≤ s.2.length) (h2 : s.2.length ≤ 1000000) (h3 : s.1.length ≤ 1000000) : impl_NormalLoop_B1 s = some (if turnB s = true then .inl (turned s) else .inr (s.1, s.2)) := by
  have e2 : wsub .i64 (lenI s.2) (1 : Int) = ((s.2.length - 1 : Nat) : Int) := sub64 (a := s.2.length) (b := 1) h1 (by omega)
  have g2 : (0 : Int) ≤ ((s.2.length - 1 : Nat) : Int) ∧ ((s.2.length - 1 : Nat) : Int) < lenI s.2 := ⟨by omega, by simp only [lenI]; omega⟩
  have g2' : (0 : Int) ≤ ((s.2.length - 1 : Nat) : Int) ∧ ((s.2.length - 1 : Nat) : Int) ≤ lenI s.2 := ⟨by omega, by simp only [lenI]; omega⟩
  unfold impl_NormalLoop_B1 turnB
  by_cases h0 : lenI s.1 > 0
  · have h0' : 1 ≤ s.1.length := by simp only [lenI] at h0; omega
    have e1 : wsub .i64 (lenI s.1) (1 : Int) = ((s.1.length - 1 : Nat) : Int) := sub64 (a := s.1.length) (b := 1) h0' (by omega)
    have g1 : (0 : Int) ≤ ((s.1.length - 1 : Nat) : Int) ∧ ((s.1.length - 1 : Nat) : Int) < lenI s.1 := ⟨by omega, by simp only [lenI]; omega⟩
    have g1' : (0 : Int) ≤ ((s.1.length - 1 : Nat) : Int) ∧ ((s.1.length - 1 : Nat) : Int) ≤ lenI s.1 := ⟨by omega, by simp only [lenI]; omega⟩
    have ga : List.length ([(List.getD s.2 (s.2.length - 1) (0 : Int))] : List Int) + List.length (List.take (s.2.length - 1) (List.drop 0 s.2)) ≤ appMax := by
      simp [appMax]; omega
    simp only [h0, decide_true, cond_true, e1, e2, guard_pos g1, guard_pos g2, guard_pos g1', guard_pos g2', Int.toNat_natCast, Option.bind_some, Bool.true_and, guard_pos ga]
    rcases Bool.eq_false_or_eq_true (List.getD s.1 (s.1.length - 1) (0 : Int) == List.getD s.2 (s.2.length - 1) (0 : Int)) with hc | hc
    · simp only [hc, cond_true, if_true]; rfl
    · simp only [hc, cond_false]; rfl
  · simp only [h0, decide_false, cond_false, Option.bind_some, Bool.false_and]
    rfl

theorem spec_turn {r : Int} {s : List Int × List Int} (hr : r = (s.2.length : Int)) (h1 : 1 ≤ s.2.length) (h2 : s.2.length ≤ 1000000) (h3 : s.1.length ≤ 1000000) : spec_NormalLoop_B1 r s = some (if turnB s = true then .inl (turned s) else .inr (s.1, s.2)) := by
  have e2 : wsub .i64 r (1 : Int) = ((s.2.length - 1 : Nat) : Int) := by rw [hr]; exact sub64 (a := s.2.length) (b := 1) h1 (by omega)
  have g2 : (0 : Int) ≤ ((s.2.length - 1 : Nat) : Int) ∧ ((s.2.length - 1 : Nat) : Int) < lenI s.2 := ⟨by omega, by simp only [lenI]; omega⟩
  have g2' : (0 : Int) ≤ ((s.2.length - 1 : Nat) : Int) ∧ ((s.2.length - 1 : Nat) : Int) ≤ lenI s.2 := ⟨by omega, by simp only [lenI]; omega⟩
  unfold spec_NormalLoop_B1 turnB
  by_cases h0 : lenI s.1 > 0
  · have h0' : 1 ≤ s.1.length := by simp only [lenI] at h0; omega
    have e1 : wsub .i64 (lenI s.1) (1 : Int) = ((s.1.length - 1 : Nat) : Int) := sub64 (a := s.1.length) (b := 1) h0' (by omega)
    have g1 : (0 : Int) ≤ ((s.1.length - 1 : Nat) : Int) ∧ ((s.1.length - 1 : Nat) : Int) < lenI s.1 := ⟨by omega, by simp only [lenI]; omega⟩
    have g1' : (0 : Int) ≤ ((s.1.length - 1 : Nat) : Int) ∧ ((s.1.length - 1 : Nat) : Int) ≤ lenI s.1 := ⟨by omega, by simp only [lenI]; omega⟩
    have ga : List.length ([(List.getD s.2 (s.2.length - 1) (0 : Int))] : List Int) + List.length (List.take (s.2.length - 1) (List.drop 0 s.2)) ≤ appMax := by
      simp [appMax]; omega
    simp only [h0, decide_true, cond_true, e1, e2, guard_pos g1, guard_pos g2, guard_pos g1', guard_pos g2', Int.toNat_natCast, Option.bind_some, Bool.true_and, guard_pos ga]
    rcases Bool.eq_false_or_eq_true (List.getD s.1 (s.1.length - 1) (0 : Int) == List.getD s.2 (s.2.length - 1) (0 : Int)) with hc | hc
    · simp only [hc, cond_true, if_true]; rfl
    · simp only [hc, cond_false]; rfl
  · simp only [h0, decide_false, cond_false, Option.bind_some, Bool.false_and]
    rfl

end Go.Proofs
