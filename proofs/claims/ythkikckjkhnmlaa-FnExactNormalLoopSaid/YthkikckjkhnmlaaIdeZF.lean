/-
  Laws of loops that plain functions tell.
-/
import Derived.Test.YthkikckjkhnmlaaIdeZE
namespace Go.Ide

section
variable {σ ρ : Type} {f g : σ → Option (σ ⊕ ρ)}

theorem runN_congr {I : σ → Prop} (hfg : ∀ s, I s → f s = g s) (hI : ∀ s s', I s → f s = some (.inl s') → I s') : ∀ (n : Nat) (s : σ), I s → runN f n s = runN g n s
  | 0, _, _ => rfl
  | n + 1, s, h => by
    simp only [runN]
    rw [← hfg s h]
    cases hx : f s with
    | none => rfl
    | some x => cases x with
      | inl s' => exact runN_congr hfg hI n s' (hI s s' h hx)
      | inr r => rfl

/-- Two loops that do the same where they come. -/
theorem rounds_congr {I : σ → Prop} (hfg : ∀ s, I s → f s = g s) (hI : ∀ s s', I s → f s = some (.inl s') → I s') {s : σ} (h : I s) : rounds f s = rounds g s := by
  cases h1 : rounds f s with
  | some r =>
    obtain ⟨n, hn⟩ := rounds_iff.1 h1
    rw [runN_congr hfg hI n s h] at hn
    exact (rounds_iff.2 ⟨n, hn⟩).symm
  | none =>
    cases h2 : rounds g s with
    | none => rfl
    | some r =>
      obtain ⟨n, hn⟩ := rounds_iff.1 h2
      rw [← runN_congr hfg hI n s h] at hn
      rw [rounds_iff.2 ⟨n, hn⟩] at h1
      cases h1

/-- A loop that ends, and where. -/
theorem rounds_total {I : σ → Prop} {R : ρ → Prop} (μ : σ → Nat) (hstep : ∀ s, I s → (∃ s', f s = some (.inl s') ∧ I s' ∧ μ s' < μ s) ∨ (∃ r, f s = some (.inr r) ∧ R r)) : ∀ (n : Nat) (s : σ), μ s ≤ n → I s → ∃ r, rounds f s = some r ∧ R r
  | n, s, hn, h => by
    rw [rounds_eq]
    rcases hstep s h with ⟨s', h1, h2, h3⟩ | ⟨r, h1, h2⟩
    · rw [h1]
      cases n with
      | zero => omega
      | succ n => exact rounds_total μ hstep n s' (by omega) h2
    · rw [h1]
      exact ⟨r, rfl, h2⟩

end
end Go.Ide
