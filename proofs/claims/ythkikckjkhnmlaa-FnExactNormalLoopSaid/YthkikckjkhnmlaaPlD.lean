import Derived.Test.YthkikckjkhnmlaaPlC
namespace Go.Proofs
open Go.Ide Go.IntWalk

theorem equalS64 {xs ys : List Int} (h : xs.length ≤ 4294967296) : slices_Equal___int64_int64 xs ys = some (decide (xs = ys)) := by
  have : slices_Equal___int64_int64 xs ys = laws_eqInt64S xs ys := rfl
  rw [this, eq64 h]

/-- The first period from p on. -/
def firstPer (ys : List Int) : Nat → Nat → Option Nat
  | 0, _ => none
  | k + 1, p => if perB ys p = true then some p else firstPer ys k (p + 1)

theorem root_loop {ys : List Int} (hn : ys.length ≤ 4294967296) : ∀ (k p : Nat), p + k = ys.length → 1 ≤ p →
    rounds (impl_root_B1 ys) (p : Int) = some (match firstPer ys k p with
      | some q => .inr (ys.take q)
      | none => .inl ())
  | 0, p, hp, _ => by
    rw [rounds_eq]
    have h1 : decide ((p : Int) < lenI ys) = false := by simp [lenI]; omega
    simp only [impl_root_B1, h1, cond_false]
    rfl
  | k + 1, p, hp, h1p => by
    rw [rounds_eq]
    have h1 : decide ((p : Int) < lenI ys) = true := by simp [lenI]; omega
    have g0 : (p : Int) ≠ 0 := by omega
    have es : wsub .i64 (lenI ys) (p : Int) = ((ys.length - p : Nat) : Int) := sub64 (a := ys.length) (b := p) (by omega) hn
    have g1 : (0 : Int) ≤ (p : Int) ∧ (p : Int) ≤ lenI ys := ⟨by omega, by simp [lenI]; omega⟩
    have g2 : (0 : Int) ≤ ((ys.length - p : Nat) : Int) ∧ ((ys.length - p : Nat) : Int) ≤ lenI ys := ⟨by omega, by simp [lenI]⟩
    have c1 : cut ys (p : Int) (lenI ys) = ys.drop p := by
      simp only [cut, lenI, Int.toNat_natCast]
      rw [List.take_of_length_le (by rw [List.length_drop]; omega)]
    have c2 : cut ys (0 : Int) ((ys.length - p : Nat) : Int) = ys.take (ys.length - p) := by simp [cut]
    have c3 : cut ys (0 : Int) (p : Int) = ys.take p := by simp [cut]
    have ih := root_loop hn k (p + 1) (by omega) (by omega)
    have eb : (show Option Bool from bif (Int.tmod (lenI ys) (p : Int) == (0 : Int)) then guardP ((0 : Int) ≤ (p : Int) ∧ (p : Int) ≤ lenI ys) (guardP ((0 : Int) ≤ ((ys.length - p : Nat) : Int) ∧ ((ys.length - p : Nat) : Int) ≤ lenI ys) (some (decide (ys.drop p = ys.take (ys.length - p))))) else some false) = some (perB ys p) := by
      rw [guard_pos g1, guard_pos g2]
      unfold perB
      cases (Int.tmod (lenI ys) (p : Int) == (0 : Int)) <;> rfl
    simp only [impl_root_B1, h1, cond_true, guard_pos g0, es, c1, c2, c3, equalS64 (xs := ys.drop p) (by rw [List.length_drop]; omega), Option.bind_some, next64 (i := p) (n := ys.length) (by omega) hn]
    simp only at eb
    rw [eb]
    simp only [Option.bind_some, firstPer]
    cases hb : perB ys p with
    | true => simp only [cond_true, guard_pos g1, if_true]
    | false => simp only [cond_false, Bool.false_eq_true, if_false]; exact ih

theorem firstPer_snoc {ys : List Int} : ∀ (k p : Nat), firstPer ys (k + 1) p = (firstPer ys k p).or (if perB ys (p + k) = true then some (p + k) else none)
  | 0, p => by simp [firstPer]
  | k + 1, p => by
    rw [firstPer, firstPer_snoc k (p + 1), firstPer]
    by_cases h : perB ys p = true
    · simp [h]
    · simp only [h, if_false]
      rw [show p + 1 + k = p + (k + 1) from by omega]
      simp

theorem lowPer_first {ys : List Int} : ∀ (p : Nat) (best : Int), lowPer ys p best = (match firstPer ys p 1 with
    | some q => ((q : Nat) : Int)
    | none => best)
  | 0, best => rfl
  | p + 1, best => by
    rw [lowPer, lowPer_first p, firstPer_snoc]
    cases firstPer ys p 1 with
    | some q => rfl
    | none =>
      rw [show 1 + p = p + 1 from by omega]
      cases perB ys (p + 1) <;> rfl

end Go.Proofs
