import Derived.Test.YthkikckjkhnmlaaGenB
import Derived.IntWalk
namespace Go.Proofs
open Go.Ide Go.IntWalk

theorem getD_drop {α : Type} {xs : List α} {i : Nat} (h : i < xs.length) (d : α) : xs.drop i = xs.getD i d :: xs.drop (i + 1) := by
  rw [List.drop_eq_getElem_cons h, List.getD_eq_getElem?_getD, List.getElem?_eq_getElem h]; rfl

theorem eq64_loop {xs ys : List Int} (hl : xs.length = ys.length) (h : xs.length ≤ 4294967296) : ∀ (k i : Nat), i + k = xs.length →
    rounds (laws_eqInt64S_B1 xs ys) (i : Int) = some (if xs.drop i = ys.drop i then .inl () else .inr ())
  | 0, i, hi => by
    rw [rounds_eq]
    have h1 : decide ((i : Int) < lenI xs) = false := by simp [lenI]; omega
    simp only [laws_eqInt64S_B1, h1, cond_false]
    rw [List.drop_of_length_le (by omega), List.drop_of_length_le (by omega), if_pos rfl]
  | k + 1, i, hi => by
    rw [rounds_eq]
    have h1 : decide ((i : Int) < lenI xs) = true := by simp [lenI]; omega
    have g1 : (0 : Int) ≤ (i : Int) ∧ (i : Int) < lenI xs := ⟨by omega, by simp [lenI]; omega⟩
    have g2 : (0 : Int) ≤ (i : Int) ∧ (i : Int) < lenI ys := ⟨by omega, by simp [lenI]; omega⟩
    have ea : wadd .i64 (i : Int) 1 = ((i + 1 : Nat) : Int) := by rw [show ((i + 1 : Nat) : Int) = (i : Int) + 1 from by omega]; exact i64_in _ (by omega)
    have ih := eq64_loop hl h k (i + 1) (by omega)
    simp only [laws_eqInt64S_B1, h1, cond_true, guard_pos g1, guard_pos g2, Int.toNat_natCast, ea]
    rw [getD_drop (xs := xs) (i := i) (by omega) (0 : Int), getD_drop (xs := ys) (i := i) (by omega) (0 : Int)]
    by_cases hc : xs.getD i 0 = ys.getD i 0
    · have hb : (xs.getD i 0 != ys.getD i 0) = false := by rw [hc]; simp
      rw [hb]
      simp only [cond_false, ih, List.cons.injEq, hc, true_and]
    · have hb : (xs.getD i 0 != ys.getD i 0) = true := bne_iff_ne.2 hc
      rw [hb]
      simp only [cond_true, List.cons.injEq, hc, false_and, if_false]

theorem eq64 {xs ys : List Int} (h : xs.length ≤ 4294967296) : laws_eqInt64S xs ys = some (decide (xs = ys)) := by
  unfold laws_eqInt64S
  by_cases hl : xs.length = ys.length
  · have hb : (lenI xs != lenI ys) = false := by simp [lenI, hl]
    rw [hb]
    have := eq64_loop hl h xs.length 0 (by omega)
    simp only [cond_false]
    rw [show (0 : Int) = ((0 : Nat) : Int) from rfl, this]
    simp only [List.drop_zero]
    by_cases he : xs = ys
    · simp [he]
    · simp [he]
  · have hb : (lenI xs != lenI ys) = true := by simp [lenI]; omega
    rw [hb]
    have : xs ≠ ys := fun e => hl (by rw [e])
    simp [this]

theorem next64 {i n : Nat} (h : i < n) (hn : n ≤ 4294967296) : wadd .i64 (i : Int) 1 = ((i + 1 : Nat) : Int) := by
  rw [show ((i + 1 : Nat) : Int) = (i : Int) + 1 from by omega]; exact i64_in _ (by omega)

theorem set_mid {α : Type} (l : List α) (a b : α) (r : List α) : (l ++ a :: r).set l.length b = l ++ b :: r := by
  induction l with
  | nil => rfl
  | cons x l ih => simp [ih]

theorem to64_loop {xs : List Int} (h : xs.length ≤ 4294967296) : ∀ (k i : Nat), i + k = xs.length →
    rounds (laws_toInt64S_B1 xs) ((i : Int), xs.take i ++ List.replicate k 0) = some xs
  | 0, i, hi => by
    rw [rounds_eq]
    have h1 : decide ((i : Int) < lenI xs) = false := by simp [lenI]; omega
    simp only [laws_toInt64S_B1, h1, cond_false]
    rw [List.take_of_length_le (by omega)]
    simp
  | k + 1, i, hi => by
    rw [rounds_eq]
    have h1 : decide ((i : Int) < lenI xs) = true := by simp [lenI]; omega
    have g1 : (0 : Int) ≤ (i : Int) ∧ (i : Int) < lenI xs := ⟨by omega, by simp [lenI]; omega⟩
    have g2 : (0 : Int) ≤ (i : Int) ∧ (i : Int) < lenI (xs.take i ++ List.replicate (k + 1) 0) := ⟨by omega, by simp [lenI]; omega⟩
    simp only [laws_toInt64S_B1, h1, cond_true, guard_pos g1, guard_pos g2, Int.toNat_natCast, next64 (i := i) (n := xs.length) (by omega) h]
    have e : (xs.take i ++ List.replicate (k + 1) 0).set i (xs.getD i 0) = xs.take (i + 1) ++ List.replicate k 0 := by
      have hl : (xs.take i).length = i := by rw [List.length_take]; omega
      have := set_mid (xs.take i) (0 : Int) (xs.getD i 0) (List.replicate k 0)
      rw [hl] at this
      have hi' : i < xs.length := by omega
      have e1 : xs.take (i + 1) = xs.take i ++ [xs.getD i 0] := by
        rw [List.take_add_one, List.getD_eq_getElem?_getD, List.getElem?_eq_getElem hi']
        rfl
      rw [List.replicate_succ, this, e1]
      simp only [List.append_assoc, List.singleton_append]
    rw [e]
    exact to64_loop h k (i + 1) (by omega)

theorem to64 {xs : List Int} (h : xs.length ≤ 4294967296) : laws_toInt64S xs = some xs := by
  unfold laws_toInt64S
  rw [guard_pos ⟨by simp [lenI], by simp [lenI]; omega⟩]
  have := to64_loop h xs.length 0 (by omega)
  simp only [List.take_zero, List.nil_append] at this
  rw [show Int.toNat (lenI xs) = xs.length from by simp [lenI]]
  have this : rounds (laws_toInt64S_B1 xs) ((0 : Int), List.replicate xs.length 0) = some xs := this
  rw [this]
  rfl

/-- What a mark leaves. -/
def marks (k : Int) (n : Nat) : List Int := (List.range n).map fun (i : Nat) => k + (i : Int)

theorem marks_succ (k : Int) (n : Nat) : marks k (n + 1) = marks k n ++ [k + (n : Int)] := by
  simp [marks, List.range_succ]

theorem mark64_loop {xs : List Int} {k0 : Int} (h : xs.length ≤ 4294967296) (hk : 0 ≤ k0 ∧ k0 ≤ 1000000000000) : ∀ (k i : Nat), i + k = xs.length →
    rounds laws_markInt64S_B1 (k0 + (i : Int), (i : Int), marks k0 i ++ xs.drop i) = some (k0 + (xs.length : Int), marks k0 xs.length)
  | 0, i, hi => by
    rw [rounds_eq]
    have hl : (marks k0 i ++ xs.drop i).length = xs.length := by simp [marks]; omega
    have h1 : decide ((i : Int) < lenI (marks k0 i ++ xs.drop i)) = false := by simp only [lenI, hl]; simp; omega
    simp only [laws_markInt64S_B1, h1, cond_false]
    have : i = xs.length := by omega
    rw [List.drop_of_length_le (by omega), this]
    simp
  | k + 1, i, hi => by
    rw [rounds_eq]
    have hl : (marks k0 i ++ xs.drop i).length = xs.length := by simp [marks]; omega
    have h1 : decide ((i : Int) < lenI (marks k0 i ++ xs.drop i)) = true := by simp only [lenI, hl]; simp; omega
    have g1 : (0 : Int) ≤ (i : Int) ∧ (i : Int) < lenI (marks k0 i ++ xs.drop i) := ⟨by omega, by simp only [lenI, hl]; omega⟩
    have ek : wadd .i64 (k0 + (i : Int)) 1 = k0 + ((i + 1 : Nat) : Int) := by
      rw [show k0 + ((i + 1 : Nat) : Int) = k0 + (i : Int) + 1 from by omega]; exact i64_in _ (by omega)
    simp only [laws_markInt64S_B1, h1, cond_true, guard_pos g1, Int.toNat_natCast, next64 (i := i) (n := xs.length) (by omega) h, ek]
    have e : (marks k0 i ++ xs.drop i).set i (k0 + (i : Int)) = marks k0 (i + 1) ++ xs.drop (i + 1) := by
      have hm : (marks k0 i).length = i := by simp [marks]
      have := set_mid (marks k0 i) (xs.getD i 0) (k0 + (i : Int)) (xs.drop (i + 1))
      rw [hm] at this
      rw [getD_drop (xs := xs) (i := i) (by omega) (0 : Int), this, marks_succ]
      simp
    rw [e]
    exact mark64_loop h hk k (i + 1) (by omega)

theorem mark64 {xs : List Int} {k0 : Int} (h : xs.length ≤ 4294967296) (hk : 0 ≤ k0 ∧ k0 ≤ 1000000000000) : laws_markInt64S xs k0 = some (k0 + (xs.length : Int), marks k0 xs.length) := by
  unfold laws_markInt64S
  have := mark64_loop h hk xs.length 0 (by omega)
  simp only [marks, List.range_zero, List.map_nil, List.nil_append, List.drop_zero, Int.natCast_zero, Int.add_zero] at this
  rw [this]
  simp only [Option.bind_some]
  rw [guard_pos (by simp)]
  rfl

theorem held64_loop {k0 : Int} {n : Nat} (h : n ≤ 4294967296) (hk : 0 ≤ k0 ∧ k0 ≤ 1000000000000) : ∀ (k i : Nat), i + k = n →
    rounds (laws_heldInt64S_B1 (marks k0 n)) (k0 + (i : Int), (i : Int)) = some (.inl (k0 + (n : Int)))
  | 0, i, hi => by
    rw [rounds_eq]
    have h1 : decide ((i : Int) < lenI (marks k0 n)) = false := by simp [lenI, marks]; omega
    simp only [laws_heldInt64S_B1, h1, cond_false]
    have : i = n := by omega
    rw [this]
  | k + 1, i, hi => by
    rw [rounds_eq]
    have h1 : decide ((i : Int) < lenI (marks k0 n)) = true := by simp [lenI, marks]; omega
    have g1 : (0 : Int) ≤ (i : Int) ∧ (i : Int) < lenI (marks k0 n) := ⟨by omega, by simp [lenI, marks]; omega⟩
    have ek : wadd .i64 (k0 + (i : Int)) 1 = k0 + ((i + 1 : Nat) : Int) := by
      rw [show k0 + ((i + 1 : Nat) : Int) = k0 + (i : Int) + 1 from by omega]; exact i64_in _ (by omega)
    have eg : ((marks k0 n).getD i 0 != k0 + (i : Int)) = false := by
      have : (marks k0 n).getD i 0 = k0 + (i : Int) := by
        rw [List.getD_eq_getElem?_getD, List.getElem?_eq_getElem (by simp [marks]; omega)]
        simp [marks]
      rw [this]; simp
    simp only [laws_heldInt64S_B1, h1, cond_true, guard_pos g1, Int.toNat_natCast, eg, cond_false, next64 (i := i) (n := n) (by omega) h, ek]
    exact held64_loop h hk k (i + 1) (by omega)

theorem held64 {k0 : Int} {n : Nat} (h : n ≤ 4294967296) (hk : 0 ≤ k0 ∧ k0 ≤ 1000000000000) : laws_heldInt64S (marks k0 n) k0 = some (k0 + (n : Int)) := by
  unfold laws_heldInt64S
  have := held64_loop h hk n 0 (by omega)
  simp only [Int.natCast_zero, Int.add_zero] at this
  rw [this]
  rfl

end Go.Proofs
