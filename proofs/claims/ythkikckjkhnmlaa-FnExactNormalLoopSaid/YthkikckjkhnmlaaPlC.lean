import Derived.Test.YthkikckjkhnmlaaPlB
namespace Go.Proofs
open Go.Ide Go.IntWalk

theorem sub64 {a b : Nat} (h : b ≤ a) (ha : a ≤ 4294967296) : wsub .i64 (a : Int) (b : Int) = ((a - b : Nat) : Int) := by
  rw [show ((a - b : Nat) : Int) = (a : Int) - (b : Int) from by omega]; exact i64_in _ (by omega)

theorem per_loop {xs ys : List Int} {q : Int} {p : Nat} (hn : ys.length ≤ 4294967296) (hp : 1 ≤ p) : ∀ (k i : Nat) (ok : Bool), i + k = ys.length → p ≤ i →
    rounds (spec_NormalLoop_B2 (xs, ys) (q, (p : Int))) (ok, (i : Int)) = some (ok && decide (ys.drop i = (ys.drop (i - p)).take k))
  | 0, i, ok, hi, _ => by
    rw [rounds_eq]
    have h1 : decide ((i : Int) < lenI ys) = false := by simp [lenI]; omega
    simp only [spec_NormalLoop_B2, h1, cond_false]
    rw [List.drop_of_length_le (by omega)]
    simp
  | k + 1, i, ok, hi, hpi => by
    rw [rounds_eq]
    have h1 : decide ((i : Int) < lenI ys) = true := by simp [lenI]; omega
    have g1 : (0 : Int) ≤ (i : Int) ∧ (i : Int) < lenI ys := ⟨by omega, by simp [lenI]; omega⟩
    have es := sub64 (a := i) (b := p) hpi (by omega)
    have g2 : (0 : Int) ≤ ((i - p : Nat) : Int) ∧ ((i - p : Nat) : Int) < lenI ys := ⟨by omega, by simp [lenI]; omega⟩
    have ih := fun ok => per_loop (xs := xs) (q := q) hn hp k (i + 1) ok (by omega) (by omega)
    have e1 : ys.drop i = ys.getD i 0 :: ys.drop (i + 1) := getD_drop (by omega) _
    have e2 : ys.drop (i - p) = ys.getD (i - p) 0 :: ys.drop (i + 1 - p) := by
      rw [getD_drop (by omega) (0 : Int), show i - p + 1 = i + 1 - p from by omega]
    rw [e1, e2, List.take_succ_cons]
    cases ok with
    | false =>
      simp only [spec_NormalLoop_B2, h1, cond_true, cond_false, Option.bind_some, next64 (i := i) (n := ys.length) (by omega) hn, ih, Bool.false_and]
    | true =>
      simp only [spec_NormalLoop_B2, h1, cond_true, es, guard_pos g1, guard_pos g2, Option.bind_some, Int.toNat_natCast, next64 (i := i) (n := ys.length) (by omega) hn, ih, Bool.true_and]
      congr 1
      by_cases hc : ys.getD i 0 = ys.getD (i - p) 0
      · rw [hc]
        simp only [beq_self_eq_true, List.cons.injEq, true_and, Bool.true_and]
      · rw [beq_eq_false_iff_ne.2 hc]
        simp only [List.cons.injEq, hc, false_and, decide_false, Bool.false_and]

/-- A period that divides the length. -/
def perB (ys : List Int) (p : Nat) : Bool := (Int.tmod (lenI ys) (p : Int) == 0) && decide (ys.drop p = ys.take (ys.length - p))

/-- The lowest one up to p, or else what is told. -/
def lowPer (ys : List Int) : Nat → Int → Int
  | 0, best => best
  | p + 1, best => lowPer ys p (if perB ys (p + 1) = true then ((p + 1 : Nat) : Int) else best)

theorem low_loop {xs ys : List Int} (hn : ys.length ≤ 4294967296) : ∀ (p : Nat) (best : Int), p ≤ ys.length →
    rounds (spec_NormalLoop_B3 (xs, ys)) (best, (p : Int)) = some (lowPer ys p best)
  | 0, best, _ => by
    rw [rounds_eq]
    have h1 : decide (((0 : Nat) : Int) ≥ (1 : Int)) = false := by simp
    simp only [spec_NormalLoop_B3, h1, cond_false]
    rfl
  | p + 1, best, hp => by
    rw [rounds_eq]
    have h1 : decide (((p + 1 : Nat) : Int) ≥ (1 : Int)) = true := by simp; omega
    have g1 : ((p + 1 : Nat) : Int) ≠ 0 := by omega
    have h2 := per_loop (xs := xs) (q := best) hn (p := p + 1) (by omega) (ys.length - (p + 1)) (p + 1) (Int.tmod (lenI ys) ((p + 1 : Nat) : Int) == 0) (by omega) (Nat.le_refl _)
    have es : wsub .i64 ((p + 1 : Nat) : Int) 1 = (p : Int) := by
      have := sub64 (a := p + 1) (b := 1) (by omega) (by omega)
      simpa using this
    simp only [spec_NormalLoop_B3, h1, cond_true, guard_pos g1, h2, Option.bind_some, es]
    have e : ((Int.tmod (lenI ys) ((p + 1 : Nat) : Int) == 0) && decide (ys.drop (p + 1) = (ys.drop (p + 1 - (p + 1))).take (ys.length - (p + 1)))) = perB ys (p + 1) := by
      simp [perB]
    rw [e]
    simp only [lowPer]
    cases hb : perB ys (p + 1) <;> simp only [cond_true, cond_false, Option.bind_some, if_true, Bool.false_eq_true, if_false]
    · exact low_loop hn p best (by omega)
    · exact low_loop hn p _ (by omega)

end Go.Proofs
