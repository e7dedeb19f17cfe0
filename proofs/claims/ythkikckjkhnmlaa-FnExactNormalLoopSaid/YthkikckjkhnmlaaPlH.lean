import Derived.Test.YthkikckjkhnmlaaPlG
namespace Go.Proofs
open Go.Ide Go.IntWalk

theorem firstPer_le {ys : List Int} : ∀ (k p q : Nat), firstPer ys k p = some q → p ≤ q ∧ q < p + k
  | 0, p, q, h => by simp [firstPer] at h
  | k + 1, p, q, h => by
    rw [firstPer] at h
    split at h
    · injection h with h; omega
    · have := firstPer_le k (p + 1) q h; omega

theorem root_eq {ys : List Int} (hn : ys.length ≤ 1000000) (h1 : 1 ≤ ys.length) : ∃ r : Nat, r ≤ ys.length ∧ 1 ≤ r ∧ impl_root ys = some (ys.take r) ∧ lowPer ys ys.length (ys.length : Int) = (r : Int) := by
  have hl := root_loop (ys := ys) (by omega) (ys.length - 1) 1 (by omega) (Nat.le_refl _)
  have hr : impl_root ys = (match firstPer ys (ys.length - 1) 1 with | some q => some (ys.take q) | none => some ys) := by
    unfold impl_root
    have hl' : rounds (impl_root_B1 ys) (1 : Int) = _ := hl
    rw [hl']
    cases firstPer ys (ys.length - 1) 1 <;> rfl
  have hlow := lowPer_first (ys := ys) ys.length (ys.length : Int)
  have hsn := firstPer_snoc (ys := ys) (ys.length - 1) 1
  rw [show ys.length - 1 + 1 = ys.length from by omega, show 1 + (ys.length - 1) = ys.length from by omega] at hsn
  rw [hsn] at hlow
  cases hf : firstPer ys (ys.length - 1) 1 with
  | some q =>
    have hb := firstPer_le _ _ _ hf
    rw [hf] at hr hlow
    exact ⟨q, by omega, hb.1, hr, hlow⟩
  | none =>
    rw [hf] at hr hlow
    refine ⟨ys.length, Nat.le_refl _, h1, by rw [hr, List.take_length], ?_⟩
    rw [hlow]
    cases perB ys ys.length <;> rfl

theorem normal_eq {xs ys : List Int} {L : Int} (hx : xs.length ≤ 1048576) (hy : ys.length ≤ 1048576) : ∃ y, spec_NormalLoop (xs, ys) L = some y ∧ impl_NormalLoop (xs, ys) L = some y ∧ y.1.1.length ≤ 1000000 ∧ y.1.2.length ≤ 1000000 := by
  unfold spec_NormalLoop impl_NormalLoop
  simp only [specValid (xs := xs) (ys := ys) (L := L) (by omega) (by omega), implValid (xs := xs) (ys := ys) (L := L) (by omega) (by omega), Option.bind_some]
  cases hv : okLoop xs ys L with
  | false => exact ⟨_, rfl, rfl, by simp, by simp⟩
  | true =>
    have hb : xs.length ≤ 12 ∧ ys.length ≤ 12 ∧ 1 ≤ ys.length := by
      unfold okLoop at hv
      simp only [Bool.and_eq_true, decide_eq_true_eq, lenI] at hv
      omega
    obtain ⟨r, h1, h2, h3, h4⟩ := root_eq (ys := ys) (by omega) hb.2.2
    have hlow := low_loop (xs := xs) (ys := ys) (by omega) ys.length (ys.length : Int) (Nat.le_refl _)
    rw [h4] at hlow
    have hlow : rounds (spec_NormalLoop_B3 (xs, ys)) (lenI ys, lenI ys) = some (r : Int) := hlow
    have g0 : 0 + List.length xs ≤ appMax := by simp [appMax]; omega
    have g1 : (0 : Int) ≤ (r : Int) ∧ (r : Int) ≤ lenI ys := ⟨by omega, by simp only [lenI]; omega⟩
    have c1 : cut ys (0 : Int) (r : Int) = ys.take r := by simp [cut]
    have g2 : 0 + List.length (ys.take r) ≤ appMax := by simp [appMax]; omega
    have hI : TurnI r (xs, ys.take r) := ⟨by simp; omega, by simp; omega⟩
    obtain ⟨x, k1, k2, k3⟩ := turn_total h2 (by omega) hI
    simp only [Bool.not_true, cond_false, hlow, Option.bind_some, guard_pos g0, guard_pos g1, c1, guard_pos g2, turn_congr h2 (by omega) hI, slices_Clone, h3, k1]
    exact ⟨_, rfl, rfl, k2, k3⟩

end Go.Proofs
