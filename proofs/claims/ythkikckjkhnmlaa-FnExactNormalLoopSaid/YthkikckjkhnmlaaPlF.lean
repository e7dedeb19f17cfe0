import Derived.Test.YthkikckjkhnmlaaPlE
namespace Go.Proofs
open Go.Ide Go.IntWalk

def TurnI (r : Nat) (s : List Int × List Int) : Prop := s.2.length = r ∧ s.1.length ≤ 1000000

theorem turned_I {r : Nat} {s : List Int × List Int} (hr : 1 ≤ r) (h : TurnI r s) : TurnI r (turned s) := by
  obtain ⟨h1, h2⟩ := h
  constructor
  · simp [turned]; omega
  · simp [turned]; omega

theorem turn_congr {r : Nat} (hr : 1 ≤ r) (hr2 : r ≤ 1000000) {s : List Int × List Int} (h : TurnI r s) : rounds (spec_NormalLoop_B1 (r : Int)) s = rounds impl_NormalLoop_B1 s := by
  refine rounds_congr (I := TurnI r) (fun s hs => ?_) (fun s s' hs hx => ?_) h
  · rw [spec_turn (by rw [hs.1]) (by rw [hs.1]; exact hr) (by rw [hs.1]; exact hr2) hs.2, impl_turn (by rw [hs.1]; exact hr) (by rw [hs.1]; exact hr2) hs.2]
  · rw [spec_turn (by rw [hs.1]) (by rw [hs.1]; exact hr) (by rw [hs.1]; exact hr2) hs.2] at hx
    injection hx with hx
    split at hx
    · injection hx with hx; subst hx; exact turned_I hr hs
    · cases hx

end Go.Proofs
