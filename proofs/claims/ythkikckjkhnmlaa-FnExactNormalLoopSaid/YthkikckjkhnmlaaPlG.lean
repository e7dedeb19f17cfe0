import Derived.Test.YthkikckjkhnmlaaPlF
namespace Go.Proofs
open Go.Ide Go.IntWalk

theorem turn_total {r : Nat} (hr : 1 ≤ r) (hr2 : r ≤ 1000000) {s : List Int × List Int} (h : TurnI r s) : ∃ x, rounds impl_NormalLoop_B1 s = some x ∧ (x.1.length ≤ 1000000 ∧ x.2.length ≤ 1000000) := by
  refine rounds_total (I := TurnI r) (fun s => s.1.length) (fun s hs => ?_) s.1.length s (Nat.le_refl _) h
  rw [impl_turn (by rw [hs.1]; exact hr) (by rw [hs.1]; exact hr2) hs.2]
  by_cases ht : turnB s = true
  · left
    rw [if_pos ht]
    refine ⟨_, rfl, turned_I hr hs, ?_⟩
    have : lenI s.1 > 0 := by
      unfold turnB at ht
      simp only [Bool.and_eq_true, decide_eq_true_eq] at ht
      exact ht.1
    simp only [lenI] at this
    simp [turned]; omega
  · right
    rw [if_neg ht]
    exact ⟨_, rfl, hs.2, by rw [hs.1]; exact hr2⟩

end Go.Proofs
