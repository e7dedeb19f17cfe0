import Derived.Test.YthkikckjkhnmlaaPlH
namespace Go.Proofs
open Go.Ide Go.IntWalk

/-- What is left of a size. -/
theorem sz64 {xs : List Int} {n : Int} (hx : xs.length ≤ 9223372036854775807) (hn : 0 ≤ n ∧ n ≤ 1048576) : ∃ m, laws_szInt64S xs n = some m ∧ (m < 0 ∨ (m = n - (xs.length : Int) ∧ 0 ≤ m)) := by
  unfold laws_szInt64S
  have e : wsub .i64 n (lenI xs) = n - (xs.length : Int) := i64_in _ (by simp only [lenI]; omega)
  rw [e]
  by_cases h : n - (xs.length : Int) < 0
  · exact ⟨-1, by simp [h], .inl (by omega)⟩
  · exact ⟨_, by simp [h], .inr ⟨rfl, by omega⟩⟩

theorem szLoop_spec {xs ys : List Int} (hx : xs.length ≤ 9223372036854775807) (hy : ys.length ≤ 9223372036854775807) : ∃ m, laws_szLoop (xs, ys) 1048576 = some m ∧ (m < 0 ∨ (xs.length ≤ 1048576 ∧ ys.length ≤ 1048576 ∧ 0 ≤ m)) := by
  unfold laws_szLoop
  obtain ⟨m, h1, h2⟩ := sz64 (n := 1048576) hx (by omega)
  simp only [h1, Option.bind_some]
  by_cases hm : m < 0
  · simp only [hm, decide_true, cond_true]
    exact ⟨-1, rfl, .inl (by omega)⟩
  · obtain ⟨h3, h4⟩ := h2.resolve_left hm
    obtain ⟨m', k1, k2⟩ := sz64 (n := m) hy (by omega)
    simp only [hm, decide_false, cond_false, k1, Option.bind_some]
    by_cases hm' : m' < 0
    · simp only [hm', decide_true, cond_true]
      exact ⟨-1, rfl, .inl (by omega)⟩
    · obtain ⟨h5, h6⟩ := k2.resolve_left hm'
      simp only [hm', decide_false, cond_false]
      exact ⟨m', rfl, .inr ⟨by omega, by omega, h6⟩⟩

theorem toLoop_spec {xs ys : List Int} (hx : xs.length ≤ 4294967296) (hy : ys.length ≤ 4294967296) : laws_toLoop (xs, ys) = some (xs, ys) := by
  unfold laws_toLoop
  simp only [to64 hx, to64 hy, Option.bind_some]

theorem eqLoop_same {xs ys : List Int} (hx : xs.length ≤ 4294967296) (hy : ys.length ≤ 4294967296) : laws_eqLoop (xs, ys) (xs, ys) = some true := by
  unfold laws_eqLoop
  simp only [eq64 hx, eq64 hy, Option.bind_some, decide_true, Bool.not_true, cond_false]

theorem markLoop_spec {xs ys : List Int} (hx : xs.length ≤ 1048576) (hy : ys.length ≤ 1048576) : laws_markLoop (xs, ys) 1 = some ((1 : Int) + (xs.length : Int) + (ys.length : Int), marks 1 xs.length, marks (1 + (xs.length : Int)) ys.length) := by
  unfold laws_markLoop
  simp only [mark64 (xs := xs) (k0 := 1) (by omega) (by omega), Option.bind_some, mark64 (xs := ys) (k0 := 1 + (xs.length : Int)) (by omega) (by omega)]
  rw [guard_pos (by simp [marks]), guard_pos (by simp [marks])]

theorem heldLoop_spec {n m : Nat} (hn : n ≤ 1048576) (hm : m ≤ 1048576) : laws_heldLoop (marks 1 n, marks (1 + (n : Int)) m) 1 = some ((1 : Int) + (n : Int) + (m : Int)) := by
  unfold laws_heldLoop
  have h1 : decide ((1 : Int) + (n : Int) < 0) = false := by simp; omega
  have h2 : decide ((1 : Int) + (n : Int) + (m : Int) < 0) = false := by simp; omega
  simp only [held64 (k0 := 1) (n := n) (by omega) (by omega), Option.bind_some, h1, cond_false, held64 (k0 := 1 + (n : Int)) (n := m) (by omega) (by omega), h2]

theorem law_normal {a0 : List Int × List Int} {a1 : Int} (hx : a0.1.length ≤ 9223372036854775807) (hy : a0.2.length ≤ 9223372036854775807) : laws_FnExactNormalLoop a0 a1 = some true := by
  obtain ⟨xs, ys⟩ := a0
  unfold laws_FnExactNormalLoop
  obtain ⟨m, h1, h2⟩ := szLoop_spec (xs := xs) (ys := ys) hx hy
  simp only [h1, Option.bind_some]
  by_cases hm : m < 0
  · simp [hm]
  · obtain ⟨hx, hy, _⟩ := h2.resolve_left hm
    obtain ⟨⟨⟨u, v⟩, b⟩, k1, k2, k3, k4⟩ := normal_eq (xs := xs) (ys := ys) (L := a1) hx hy
    have e1 : decide ((1 : Int) + (xs.length : Int) + (ys.length : Int) < 0) = false := by simp; omega
    have e2 : decide ((1 : Int) + (u.length : Int) + (v.length : Int) < 0) = false := by simp; omega
    have k3 : u.length ≤ 1000000 := k3
    have k4 : v.length ≤ 1000000 := k4
    simp only [hm, decide_false, cond_false, toLoop_spec (xs := xs) (ys := ys) (by omega) (by omega), k1, k2, Option.bind_some, eqLoop_same (xs := u) (ys := v) (by omega) (by omega), eqLoop_same (xs := xs) (ys := ys) (by omega) (by omega),
      Bool.not_true, bne_self_eq_false, markLoop_spec (xs := xs) (ys := ys) hx hy, e1, markLoop_spec (xs := u) (ys := v) (by omega) (by omega), heldLoop_spec (n := u.length) (m := v.length) (by omega) (by omega), e2]

end Go.Proofs
