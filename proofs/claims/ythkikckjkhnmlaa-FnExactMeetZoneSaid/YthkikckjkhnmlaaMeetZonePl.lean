import Derived.Test.YthkikckjkhnmlaaMeetZoneGenB
import Derived.IntWalk
set_option linter.unusedVariables false
set_option linter.unusedSimpArgs false
namespace Go.Proofs
open Go.Ide Go.IntWalk

theorem getD_drop {α : Type} {xs : List α} {i : Nat} (h : i < xs.length) (d : α) : xs.drop i = xs.getD i d :: xs.drop (i + 1) := by
  rw [List.drop_eq_getElem_cons h, List.getD_eq_getElem?_getD, List.getElem?_eq_getElem h]; rfl

theorem eq64_loop {xs ys : List Int} (hl : xs.length = ys.length) (h : xs.length ≤ 4294967296) : ∀ (k i : Nat), i + k = xs.length →
    rounds (laws_eqInt64S_B1 xs ys) (i : Int) = some (if xs.drop i = ys.drop i then .inl () else .inr ())
  | 0, i, hi => by
    rw [rounds_eq]
    have h1 : decide ((i : Int) < lenI xs) = false := by simp [lenI]; omega
    simp only [laws_eqInt64S_B1, h1, cond_false]
    rw [List.drop_of_length_le (by omega), List.drop_of_length_le (by omega), if_pos rfl]
  | k + 1, i, hi => by
    rw [rounds_eq]
    have h1 : decide ((i : Int) < lenI xs) = true := by simp [lenI]; omega
    have g1 : (0 : Int) ≤ (i : Int) ∧ (i : Int) < lenI xs := ⟨by omega, by simp [lenI]; omega⟩
    have g2 : (0 : Int) ≤ (i : Int) ∧ (i : Int) < lenI ys := ⟨by omega, by simp [lenI]; omega⟩
    have ea : wadd .i64 (i : Int) 1 = ((i + 1 : Nat) : Int) := by rw [show ((i + 1 : Nat) : Int) = (i : Int) + 1 from by omega]; exact i64_in _ (by omega)
    have ih := eq64_loop hl h k (i + 1) (by omega)
    simp only [laws_eqInt64S_B1, h1, cond_true, guard_pos g1, guard_pos g2, Int.toNat_natCast, ea]
    rw [getD_drop (xs := xs) (i := i) (by omega) (0 : Int), getD_drop (xs := ys) (i := i) (by omega) (0 : Int)]
    by_cases hc : xs.getD i 0 = ys.getD i 0
    · have hb : (xs.getD i 0 != ys.getD i 0) = false := by rw [hc]; simp
      rw [hb]
      simp only [cond_false, ih, List.cons.injEq, hc, true_and]
    · have hb : (xs.getD i 0 != ys.getD i 0) = true := bne_iff_ne.2 hc
      rw [hb]
      simp only [cond_true, List.cons.injEq, hc, false_and, if_false]

theorem eq64 {xs ys : List Int} (h : xs.length ≤ 4294967296) : laws_eqInt64S xs ys = some (decide (xs = ys)) := by
  unfold laws_eqInt64S
  by_cases hl : xs.length = ys.length
  · have hb : (lenI xs != lenI ys) = false := by simp [lenI, hl]
    rw [hb]
    have := eq64_loop hl h xs.length 0 (by omega)
    simp only [cond_false]
    rw [show (0 : Int) = ((0 : Nat) : Int) from rfl, this]
    simp only [List.drop_zero]
    by_cases he : xs = ys
    · simp [he]
    · simp [he]
  · have hb : (lenI xs != lenI ys) = true := by simp [lenI]; omega
    rw [hb]
    have : xs ≠ ys := fun e => hl (by rw [e])
    simp [this]

theorem next64 {i n : Nat} (h : i < n) (hn : n ≤ 4294967296) : wadd .i64 (i : Int) 1 = ((i + 1 : Nat) : Int) := by
  rw [show ((i + 1 : Nat) : Int) = (i : Int) + 1 from by omega]; exact i64_in _ (by omega)

theorem set_mid {α : Type} (l : List α) (a b : α) (r : List α) : (l ++ a :: r).set l.length b = l ++ b :: r := by
  induction l with
  | nil => rfl
  | cons x l ih => simp [ih]

theorem to64_loop {xs : List Int} (h : xs.length ≤ 4294967296) : ∀ (k i : Nat), i + k = xs.length →
    rounds (laws_toInt64S_B1 xs) ((i : Int), xs.take i ++ List.replicate k 0) = some xs
  | 0, i, hi => by
    rw [rounds_eq]
    have h1 : decide ((i : Int) < lenI xs) = false := by simp [lenI]; omega
    simp only [laws_toInt64S_B1, h1, cond_false]
    rw [List.take_of_length_le (by omega)]
    simp
  | k + 1, i, hi => by
    rw [rounds_eq]
    have h1 : decide ((i : Int) < lenI xs) = true := by simp [lenI]; omega
    have g1 : (0 : Int) ≤ (i : Int) ∧ (i : Int) < lenI xs := ⟨by omega, by simp [lenI]; omega⟩
    have g2 : (0 : Int) ≤ (i : Int) ∧ (i : Int) < lenI (xs.take i ++ List.replicate (k + 1) 0) := ⟨by omega, by simp [lenI]; omega⟩
    simp only [laws_toInt64S_B1, h1, cond_true, guard_pos g1, guard_pos g2, Int.toNat_natCast, next64 (i := i) (n := xs.length) (by omega) h]
    have e : (xs.take i ++ List.replicate (k + 1) 0).set i (xs.getD i 0) = xs.take (i + 1) ++ List.replicate k 0 := by
      have hl : (xs.take i).length = i := by rw [List.length_take]; omega
      have := set_mid (xs.take i) (0 : Int) (xs.getD i 0) (List.replicate k 0)
      rw [hl] at this
      have hi' : i < xs.length := by omega
      have e1 : xs.take (i + 1) = xs.take i ++ [xs.getD i 0] := by
        rw [List.take_add_one, List.getD_eq_getElem?_getD, List.getElem?_eq_getElem hi']
        rfl
      rw [List.replicate_succ, this, e1]
      simp only [List.append_assoc, List.singleton_append]
    rw [e]
    exact to64_loop h k (i + 1) (by omega)

theorem to64 {xs : List Int} (h : xs.length ≤ 4294967296) : laws_toInt64S xs = some xs := by
  unfold laws_toInt64S
  rw [guard_pos ⟨by simp [lenI], by simp [lenI]; omega⟩]
  have := to64_loop h xs.length 0 (by omega)
  simp only [List.take_zero, List.nil_append] at this
  rw [show Int.toNat (lenI xs) = xs.length from by simp [lenI]]
  have this : rounds (laws_toInt64S_B1 xs) ((0 : Int), List.replicate xs.length 0) = some xs := this
  rw [this]
  rfl

/-- What a mark leaves. -/
def marks (k : Int) (n : Nat) : List Int := (List.range n).map fun (i : Nat) => k + (i : Int)

theorem marks_succ (k : Int) (n : Nat) : marks k (n + 1) = marks k n ++ [k + (n : Int)] := by
  simp [marks, List.range_succ]

theorem mark64_loop {xs : List Int} {k0 : Int} (h : xs.length ≤ 4294967296) (hk : 0 ≤ k0 ∧ k0 ≤ 1000000000000) : ∀ (k i : Nat), i + k = xs.length →
    rounds laws_markInt64S_B1 (k0 + (i : Int), (i : Int), marks k0 i ++ xs.drop i) = some (k0 + (xs.length : Int), marks k0 xs.length)
  | 0, i, hi => by
    rw [rounds_eq]
    have hl : (marks k0 i ++ xs.drop i).length = xs.length := by simp [marks]; omega
    have h1 : decide ((i : Int) < lenI (marks k0 i ++ xs.drop i)) = false := by simp only [lenI, hl]; simp; omega
    simp only [laws_markInt64S_B1, h1, cond_false]
    have : i = xs.length := by omega
    rw [List.drop_of_length_le (by omega), this]
    simp
  | k + 1, i, hi => by
    rw [rounds_eq]
    have hl : (marks k0 i ++ xs.drop i).length = xs.length := by simp [marks]; omega
    have h1 : decide ((i : Int) < lenI (marks k0 i ++ xs.drop i)) = true := by simp only [lenI, hl]; simp; omega
    have g1 : (0 : Int) ≤ (i : Int) ∧ (i : Int) < lenI (marks k0 i ++ xs.drop i) := ⟨by omega, by simp only [lenI, hl]; omega⟩
    have ek : wadd .i64 (k0 + (i : Int)) 1 = k0 + ((i + 1 : Nat) : Int) := by
      rw [show k0 + ((i + 1 : Nat) : Int) = k0 + (i : Int) + 1 from by omega]; exact i64_in _ (by omega)
    simp only [laws_markInt64S_B1, h1, cond_true, guard_pos g1, Int.toNat_natCast, next64 (i := i) (n := xs.length) (by omega) h, ek]
    have e : (marks k0 i ++ xs.drop i).set i (k0 + (i : Int)) = marks k0 (i + 1) ++ xs.drop (i + 1) := by
      have hm : (marks k0 i).length = i := by simp [marks]
      have := set_mid (marks k0 i) (xs.getD i 0) (k0 + (i : Int)) (xs.drop (i + 1))
      rw [hm] at this
      rw [getD_drop (xs := xs) (i := i) (by omega) (0 : Int), this, marks_succ]
      simp
    rw [e]
    exact mark64_loop h hk k (i + 1) (by omega)

theorem mark64 {xs : List Int} {k0 : Int} (h : xs.length ≤ 4294967296) (hk : 0 ≤ k0 ∧ k0 ≤ 1000000000000) : laws_markInt64S xs k0 = some (k0 + (xs.length : Int), marks k0 xs.length) := by
  unfold laws_markInt64S
  have := mark64_loop h hk xs.length 0 (by omega)
  simp only [marks, List.range_zero, List.map_nil, List.nil_append, List.drop_zero, Int.natCast_zero, Int.add_zero] at this
  rw [this]
  simp only [Option.bind_some]
  rw [guard_pos (by simp)]
  rfl

theorem held64_loop {k0 : Int} {n : Nat} (h : n ≤ 4294967296) (hk : 0 ≤ k0 ∧ k0 ≤ 1000000000000) : ∀ (k i : Nat), i + k = n →
    rounds (laws_heldInt64S_B1 (marks k0 n)) (k0 + (i : Int), (i : Int)) = some (.inl (k0 + (n : Int)))
  | 0, i, hi => by
    rw [rounds_eq]
    have h1 : decide ((i : Int) < lenI (marks k0 n)) = false := by simp [lenI, marks]; omega
    simp only [laws_heldInt64S_B1, h1, cond_false]
    have : i = n := by omega
    rw [this]
  | k + 1, i, hi => by
    rw [rounds_eq]
    have h1 : decide ((i : Int) < lenI (marks k0 n)) = true := by simp [lenI, marks]; omega
    have g1 : (0 : Int) ≤ (i : Int) ∧ (i : Int) < lenI (marks k0 n) := ⟨by omega, by simp [lenI, marks]; omega⟩
    have ek : wadd .i64 (k0 + (i : Int)) 1 = k0 + ((i + 1 : Nat) : Int) := by
      rw [show k0 + ((i + 1 : Nat) : Int) = k0 + (i : Int) + 1 from by omega]; exact i64_in _ (by omega)
    have eg : ((marks k0 n).getD i 0 != k0 + (i : Int)) = false := by
      have : (marks k0 n).getD i 0 = k0 + (i : Int) := by
        rw [List.getD_eq_getElem?_getD, List.getElem?_eq_getElem (by simp [marks]; omega)]
        simp [marks]
      rw [this]; simp
    simp only [laws_heldInt64S_B1, h1, cond_true, guard_pos g1, Int.toNat_natCast, eg, cond_false, next64 (i := i) (n := n) (by omega) h, ek]
    exact held64_loop h hk k (i + 1) (by omega)

theorem held64 {k0 : Int} {n : Nat} (h : n ≤ 4294967296) (hk : 0 ≤ k0 ∧ k0 ≤ 1000000000000) : laws_heldInt64S (marks k0 n) k0 = some (k0 + (n : Int)) := by
  unfold laws_heldInt64S
  have := held64_loop h hk n 0 (by omega)
  simp only [Int.natCast_zero, Int.add_zero] at this
  rw [this]
  rfl

end Go.Proofs

namespace Go.Proofs
open Go.Ide Go.IntWalk

theorem within64 (a b c : Int) : impl_within a b c = some (decide (a ≥ b) && decide (a ≤ c)) := by
  unfold impl_within
  cases h : decide (a ≥ b) <;> simp
theorem in64 (a b c : Int) : spec_l00In a b c = some (decide (a ≥ b) && decide (a ≤ c)) := by
  unfold spec_l00In
  cases h : decide (a ≥ b) <;> simp

def okCell (i k : Nat) (x : Int) : Bool :=
  !((!(decide (x ≥ -1000000) && decide (x ≤ 1000000)) && (x != 1000000000)) || ((decide (i = k) && (x != 0)) || (decide (i = 0) && decide (x > 0))))

/-- A zone is as it must be. -/
def okZone (c : Int) (B : List Int) : Bool :=
  (decide (c ≥ 1) && decide (c ≤ 4)) && (decide (lenI B = (c + 1) * (c + 1)) && allN (fun i => allN (fun k => okCell i k (B.getD (i * (c.toNat + 1) + k) 0)) (c.toNat + 1) 0) (c.toNat + 1) 0)

theorem wide_eq {c n : Nat} (hn : n = c + 1) (hc : c ≤ 4) : wadd .i64 (c : Int) 1 = (n : Int) := by
  rw [waddI (by omega)]; omega

theorem eqN (i k : Nat) : ((i : Int) == (k : Int)) = decide (i = k) := by
  by_cases h : i = k
  · simp [h]
  · simp [h]; omega
theorem eq0 (i : Nat) : ((i : Int) == (0 : Int)) = decide (i = 0) := eqN i 0

theorem specZone_in {B : List Int} {c n i : Nat} (hn : n = c + 1) (hc : c ≤ 4) (hB : B.length = n * n) (hi : i < n) :
    rounds (spec_l07Zone_B1 ((c : Int), B) (i : Int)) ((0 : Nat) : Int) = some (bif allN (fun k => okCell i k (B.getD (i * n + k) 0)) n 0 then Sum.inl () else Sum.inr ()) := by
  refine rounds_all (fun k => ((k : Nat) : Int)) (fun k => okCell i k (B.getD (i * n + k) 0)) (Sum.inl ()) (Sum.inr ()) (n := n) (fun k hk => ?_) ?_ n 0 (by omega)
  · unfold spec_l07Zone_B1
    have hcell : wadd .i64 (wmul .i64 (i : Int) (n : Int)) (k : Int) = ((i * n + k : Nat) : Int) := cellN (by omega) (by omega) (by omega)
    have hlt := cell_lt hi hk
    simp only [wide_eq hn hc, ltN hk, cond_true, hcell, guard_pos (show (0 : Int) ≤ ((i * n + k : Nat) : Int) ∧ ((i * n + k : Nat) : Int) < lenI B from by simp only [lenI]; omega), Int.toNat_natCast, in64, Option.bind_some, eqN, eq0, nextN hk (by omega)]
    obtain ⟨x, hx⟩ : ∃ x, B.getD (i * n + k) 0 = x := ⟨_, rfl⟩
    simp only [hx]
    unfold okCell
    cases (decide (x ≥ -1000000) && decide (x ≤ 1000000)) <;> cases (x != 1000000000) <;> cases decide (i = k) <;> cases (x != (0 : Int)) <;> cases decide (i = 0) <;> cases decide (x > 0) <;> rfl
  · unfold spec_l07Zone_B1
    simp only [wide_eq hn hc, geN (Nat.le_refl n), cond_false]

theorem specZone {B : List Int} {c : Int} : spec_l07Zone (c, B) = some (okZone c B) := by
  unfold spec_l07Zone okZone
  simp only [in64, Option.bind_some]
  cases hc : (decide (c ≥ 1) && decide (c ≤ 4)) with
  | false => rfl
  | true =>
    simp only [Bool.and_eq_true, decide_eq_true_eq] at hc
    obtain ⟨c, rfl⟩ : ∃ n : Nat, c = (n : Int) := ⟨c.toNat, by omega⟩
    have hn : c + 1 = c + 1 := rfl
    have hw := wide_eq hn (by omega)
    have hm : wmul .i64 ((c + 1 : Nat) : Int) ((c + 1 : Nat) : Int) = (((c + 1) * (c + 1) : Nat) : Int) := by
      have : (c + 1) * (c + 1) ≤ 5 * 5 := Nat.mul_le_mul (by omega) (by omega)
      rw [wmulI (by rw [← Int.natCast_mul]; omega), Int.natCast_mul]
    simp only [Bool.not_true, cond_false, hw, hm, Bool.true_and, Int.toNat_natCast]
    by_cases hB : B.length = (c + 1) * (c + 1)
    · have e1 : (lenI B != (((c + 1) * (c + 1) : Nat) : Int)) = false := by simp only [lenI, hB]; simp
      have e2 : decide (lenI B = ((c : Int) + 1) * ((c : Int) + 1)) = true := by
        simp only [lenI, hB, decide_eq_true_eq]; rw [Int.natCast_mul]; rfl
      rw [e1, e2]
      have := rounds_all (f := spec_l07Zone_B2 ((c : Int), B)) (fun k => ((k : Nat) : Int)) (fun i => allN (fun k => okCell i k (B.getD (i * (c + 1) + k) 0)) (c + 1) 0) (Sum.inl ()) (Sum.inr ()) (n := c + 1) (fun i hi => by
        unfold spec_l07Zone_B2
        have h0 := specZone_in (B := B) hn (by omega) hB hi
        simp only [Int.natCast_zero] at h0
        simp only [hw, ltN hi, cond_true, h0, Option.bind_some, nextN hi (by omega)]
        cases allN (fun k => okCell i k (B.getD (i * (c + 1) + k) 0)) (c + 1) 0 <;> rfl) (by
        unfold spec_l07Zone_B2
        simp only [hw, geN (Nat.le_refl _), cond_false]) (c + 1) 0 (by omega)
      simp only [Int.natCast_zero] at this
      simp only [cond_false, this, Option.bind_some, Bool.true_and]
      cases allN (fun i => allN (fun k => okCell i k (B.getD (i * (c + 1) + k) 0)) (c + 1) 0) (c + 1) 0 <;> rfl
    · have e1 : (lenI B != (((c + 1) * (c + 1) : Nat) : Int)) = true := by simp only [lenI, bne_iff_ne]; omega
      have e2 : decide (lenI B = ((c : Int) + 1) * ((c : Int) + 1)) = false := by
        simp only [lenI, decide_eq_false_iff_not]
        rw [show ((c : Int) + 1) * ((c : Int) + 1) = (((c + 1) * (c + 1) : Nat) : Int) from by rw [Int.natCast_mul]; rfl]
        omega
      rw [e1, e2]
      rfl

theorem at_eq {c i k n : Nat} {B : List Int} (hn : n = c + 1) (hc : c ≤ 4) (hi : i < n) (hk : k < n) : impl_Zone_at ((c : Int), B) (i : Int) (k : Int) = some ((i * n + k : Nat) : Int) := by
  unfold impl_Zone_at impl_Zone_wide
  simp only [Option.bind_some, wide_eq hn hc]
  rw [cellN (by omega) (by omega) (by omega)]

theorem implZone_in {B : List Int} {c n i : Nat} (hn : n = c + 1) (hc : c ≤ 4) (hB : B.length = n * n) (hi : i < n) :
    rounds (impl_ValidZone_B1 ((c : Int), B) (i : Int) (n : Int)) ((0 : Nat) : Int) = some (bif allN (fun k => okCell i k (B.getD (i * n + k) 0)) n 0 then Sum.inl () else Sum.inr ()) := by
  refine rounds_all (fun k => ((k : Nat) : Int)) (fun k => okCell i k (B.getD (i * n + k) 0)) (Sum.inl ()) (Sum.inr ()) (n := n) (fun k hk => ?_) ?_ n 0 (by omega)
  · unfold impl_ValidZone_B1
    have hlt := cell_lt hi hk
    simp only [ltN hk, cond_true, at_eq hn hc hi hk, guard_pos (show (0 : Int) ≤ ((i * n + k : Nat) : Int) ∧ ((i * n + k : Nat) : Int) < lenI B from by simp only [lenI]; omega), Int.toNat_natCast, within64, Option.bind_some, eqN, eq0, nextN hk (by omega)]
    obtain ⟨x, hx⟩ : ∃ x, B.getD (i * n + k) 0 = x := ⟨_, rfl⟩
    simp only [hx]
    unfold okCell
    cases (decide (x ≥ -1000000) && decide (x ≤ 1000000)) <;> cases (x != 1000000000) <;> cases decide (i = k) <;> cases (x != (0 : Int)) <;> cases decide (i = 0) <;> cases decide (x > 0) <;> rfl
  · unfold impl_ValidZone_B1
    simp only [geN (Nat.le_refl n), cond_false]

theorem implZone {B : List Int} {c : Int} : impl_ValidZone (c, B) = some (okZone c B) := by
  unfold impl_ValidZone okZone
  simp only [within64, Option.bind_some]
  cases hc : (decide (c ≥ 1) && decide (c ≤ 4)) with
  | false => rfl
  | true =>
    simp only [Bool.and_eq_true, decide_eq_true_eq] at hc
    obtain ⟨c, rfl⟩ : ∃ n : Nat, c = (n : Int) := ⟨c.toNat, by omega⟩
    have hn : c + 1 = c + 1 := rfl
    have hw := wide_eq hn (by omega)
    have hm : wmul .i64 ((c + 1 : Nat) : Int) ((c + 1 : Nat) : Int) = (((c + 1) * (c + 1) : Nat) : Int) := by
      have : (c + 1) * (c + 1) ≤ 5 * 5 := Nat.mul_le_mul (by omega) (by omega)
      rw [wmulI (by rw [← Int.natCast_mul]; omega), Int.natCast_mul]
    simp only [Bool.not_true, cond_false, impl_Zone_wide, Option.bind_some, hw, hm, Bool.true_and, Int.toNat_natCast]
    by_cases hB : B.length = (c + 1) * (c + 1)
    · have e1 : (lenI B != (((c + 1) * (c + 1) : Nat) : Int)) = false := by simp only [lenI, hB]; simp
      have e2 : decide (lenI B = ((c : Int) + 1) * ((c : Int) + 1)) = true := by
        simp only [lenI, hB, decide_eq_true_eq]; rw [Int.natCast_mul]; rfl
      rw [e1, e2]
      have := rounds_all (f := impl_ValidZone_B2 ((c : Int), B) ((c + 1 : Nat) : Int)) (fun k => ((k : Nat) : Int)) (fun i => allN (fun k => okCell i k (B.getD (i * (c + 1) + k) 0)) (c + 1) 0) (Sum.inl ()) (Sum.inr ()) (n := c + 1) (fun i hi => by
        unfold impl_ValidZone_B2
        have h0 := implZone_in (B := B) hn (by omega) hB hi
        simp only [Int.natCast_zero] at h0
        simp only [impl_Zone_wide, hw, ltN hi, cond_true, h0, Option.bind_some, nextN hi (by omega)]
        cases allN (fun k => okCell i k (B.getD (i * (c + 1) + k) 0)) (c + 1) 0 <;> rfl) (by
        unfold impl_ValidZone_B2
        simp only [geN (Nat.le_refl _), cond_false]) (c + 1) 0 (by omega)
      simp only [Int.natCast_zero] at this
      simp only [cond_false, this, Option.bind_some, Bool.true_and]
      cases allN (fun i => allN (fun k => okCell i k (B.getD (i * (c + 1) + k) 0)) (c + 1) 0) (c + 1) 0 <;> rfl
    · have e1 : (lenI B != (((c + 1) * (c + 1) : Nat) : Int)) = true := by simp only [lenI, bne_iff_ne]; omega
      have e2 : decide (lenI B = ((c : Int) + 1) * ((c : Int) + 1)) = false := by
        simp only [lenI, decide_eq_false_iff_not]
        rw [show ((c : Int) + 1) * ((c : Int) + 1) = (((c + 1) * (c + 1) : Nat) : Int) from by rw [Int.natCast_mul]; rfl]
        omega
      rw [e1, e2]
      rfl

/-- What a good zone is. -/
theorem okZone_spec {c : Int} {B : List Int} (h : okZone c B = true) : ∃ m : Nat, c = (m : Int) ∧ 1 ≤ m ∧ m ≤ 4 ∧ B.length = (m + 1) * (m + 1) ∧ ∀ i k, i < m + 1 → k < m + 1 → okCell i k (B.getD (i * (m + 1) + k) 0) = true := by
  unfold okZone at h
  simp only [Bool.and_eq_true, decide_eq_true_eq] at h
  obtain ⟨⟨h1, h2⟩, h3, h4⟩ := h
  obtain ⟨m, rfl⟩ : ∃ n : Nat, c = (n : Int) := ⟨c.toNat, by omega⟩
  refine ⟨m, rfl, by omega, by omega, ?_, fun i k hi hk => ?_⟩
  · rw [show ((m : Int) + 1) * ((m : Int) + 1) = (((m + 1) * (m + 1) : Nat) : Int) from by rw [Int.natCast_mul]; rfl] at h3
    simp only [lenI] at h3
    omega
  · rw [Int.toNat_natCast] at h4
    exact allN_iff.1 (allN_iff.1 h4 i (by omega) (by omega)) k (by omega) (by omega)

theorem okZone_mk {m : Nat} {B : List Int} (h1 : 1 ≤ m) (h2 : m ≤ 4) (h3 : B.length = (m + 1) * (m + 1)) (h4 : ∀ i k, i < m + 1 → k < m + 1 → okCell i k (B.getD (i * (m + 1) + k) 0) = true) : okZone (m : Int) B = true := by
  unfold okZone
  simp only [Bool.and_eq_true, decide_eq_true_eq]
  refine ⟨⟨by omega, by omega⟩, ?_, ?_⟩
  · rw [show ((m : Int) + 1) * ((m : Int) + 1) = (((m + 1) * (m + 1) : Nat) : Int) from by rw [Int.natCast_mul]; rfl]
    simp only [lenI, h3]
  · rw [Int.toNat_natCast]
    exact allN_iff.2 fun i _ hi => allN_iff.2 fun k _ hk => h4 i k (by omega) (by omega)

end Go.Proofs

namespace Go.Proofs
open Go.Ide Go.IntWalk

theorem forS_inv {σ : Type} {g : Nat → σ → σ} {I : σ → Prop} (h : ∀ i s, I s → I (g i s)) : ∀ (k i : Nat) (s : σ), I s → I (forS g k i s)
  | 0, _, _, hs => hs
  | k + 1, i, s, hs => forS_inv h k (i + 1) (g i s) (h i s hs)

def tcell (n j i k : Nat) (B : List Int) : List Int :=
  bif (B.getD (i * n + j) 0 != 1000000000) && ((B.getD (j * n + k) 0 != 1000000000) && decide (wadd .i64 (B.getD (i * n + j) 0) (B.getD (j * n + k) 0) < B.getD (i * n + k) 0)) then
    B.set (i * n + k) (wadd .i64 (B.getD (i * n + j) 0) (B.getD (j * n + k) 0)) else B

theorem tcell_len {n j i k : Nat} {B : List Int} : (tcell n j i k B).length = B.length := by
  unfold tcell
  cases ((B.getD (i * n + j) 0 != 1000000000) && ((B.getD (j * n + k) 0 != 1000000000) && decide (wadd .i64 (B.getD (i * n + j) 0) (B.getD (j * n + k) 0) < B.getD (i * n + k) 0))) <;> simp

def trow (n j i : Nat) (B : List Int) : List Int := forS (tcell n j i) n 0 B
def tpass (n j : Nat) (B : List Int) : List Int := forS (trow n j) n 0 B
def tight (n : Nat) (B : List Int) : List Int := forS (tpass n) n 0 B

theorem trow_len {n j i : Nat} {B : List Int} {m : Nat} (h : B.length = m) : (trow n j i B).length = m :=
  forS_inv (I := fun B => B.length = m) (fun k s hs => by rw [tcell_len]; exact hs) n 0 B h
theorem tpass_len {n j : Nat} {B : List Int} {m : Nat} (h : B.length = m) : (tpass n j B).length = m :=
  forS_inv (I := fun B => B.length = m) (fun k s hs => trow_len hs) n 0 B h
theorem tight_len {n : Nat} {B : List Int} {m : Nat} (h : B.length = m) : (tight n B).length = m :=
  forS_inv (I := fun B => B.length = m) (fun k s hs => tpass_len hs) n 0 B h

theorem set_self {B : List Int} {i : Nat} (h : i < B.length) : B.set i (B.getD i 0) = B := by
  rw [List.getD_eq_getElem?_getD, List.getElem?_eq_getElem h]
  simp

section
variable {c n : Nat} {B0 : List Int} (hn : n = c + 1) (hc : c ≤ 4)
include hn hc

theorem spec_t1 {i j : Nat} {X Y B : List Int} (hi : i < n) (hj : j < n) (hB : B.length = n * n) :
    rounds (spec_l07Tight_B1 ((c : Int), B0) ((j : Int), X) ((i : Int), Y)) ((0 : Int), B) = some (trow n j i B) := by
  refine (rounds_forS (fun k B => (((k : Nat) : Int), B)) (tcell n j i) id (n := n) (fun _ B => B.length = n * n) (fun k B hk hB => ⟨?_, by rw [tcell_len]; exact hB⟩) (fun B hB => ?_) n 0 B (by omega) hB).1
  · unfold spec_l07Tight_B1 tcell
    have h1 := cell_lt hi hj
    have h2 := cell_lt hj hk
    have h3 := cell_lt hi hk
    have e1 : wadd .i64 (wmul .i64 (i : Int) (n : Int)) (j : Int) = ((i * n + j : Nat) : Int) := cellN (by omega) (by omega) (by omega)
    have e2 : wadd .i64 (wmul .i64 (j : Int) (n : Int)) (k : Int) = ((j * n + k : Nat) : Int) := cellN (by omega) (by omega) (by omega)
    have e3 : wadd .i64 (wmul .i64 (i : Int) (n : Int)) (k : Int) = ((i * n + k : Nat) : Int) := cellN (by omega) (by omega) (by omega)
    have g : ∀ a, a < n * n → (0 : Int) ≤ ((a : Nat) : Int) ∧ ((a : Nat) : Int) < lenI B := fun a ha => by simp only [lenI]; omega
    simp only [wide_eq hn hc, ltN hk, cond_true, e1, e2, e3, guard_pos (g _ h1), guard_pos (g _ h2), guard_pos (g _ h3), Int.toNat_natCast, nextN hk (by omega)]
    rcases Bool.eq_false_or_eq_true (B.getD (i * n + j) 0 != 1000000000) with hx | hx <;> rcases Bool.eq_false_or_eq_true (B.getD (j * n + k) 0 != 1000000000) with hy | hy <;>
      rcases Bool.eq_false_or_eq_true (decide (wadd .i64 (B.getD (i * n + j) 0) (B.getD (j * n + k) 0) < B.getD (i * n + k) 0)) with hz | hz <;>
      simp only [hx, hy, hz, cond_true, cond_false, Option.bind_some, Bool.and_self, Bool.and_false, Bool.and_true, Bool.false_and, Bool.true_and]
  · unfold spec_l07Tight_B1
    simp only [wide_eq hn hc, geN (Nat.le_refl n), cond_false]
    rfl

theorem spec_t2 {j : Nat} {X B : List Int} (hj : j < n) (hB : B.length = n * n) :
    rounds (spec_l07Tight_B2 ((c : Int), B0) ((j : Int), X)) ((0 : Int), B) = some (tpass n j B) := by
  refine (rounds_forS (fun k B => (((k : Nat) : Int), B)) (trow n j) id (n := n) (fun _ B => B.length = n * n) (fun k B hk hB => ⟨?_, trow_len hB⟩) (fun B hB => ?_) n 0 B (by omega) hB).1
  · unfold spec_l07Tight_B2
    simp only [wide_eq hn hc, ltN hk, cond_true, spec_t1 hn hc hk hj hB, Option.bind_some, nextN hk (by omega)]
  · unfold spec_l07Tight_B2
    simp only [wide_eq hn hc, geN (Nat.le_refl n), cond_false]
    rfl

theorem spec_t3 {B : List Int} (hB : B.length = n * n) :
    rounds (spec_l07Tight_B3 ((c : Int), B0)) ((0 : Int), B) = some (tight n B) := by
  refine (rounds_forS (fun k B => (((k : Nat) : Int), B)) (tpass n) id (n := n) (fun _ B => B.length = n * n) (fun k B hk hB => ⟨?_, tpass_len hB⟩) (fun B hB => ?_) n 0 B (by omega) hB).1
  · unfold spec_l07Tight_B3
    simp only [wide_eq hn hc, ltN hk, cond_true, spec_t2 hn hc hk hB, Option.bind_some, nextN hk (by omega)]
  · unfold spec_l07Tight_B3
    simp only [wide_eq hn hc, geN (Nat.le_refl n), cond_false]
    rfl

theorem impl_t1 {i j : Nat} {X Y B : List Int} (hi : i < n) (hj : j < n) (hB : B.length = n * n) :
    rounds (impl_TightZone_B1 ((c : Int), B0) ((j : Int), X) ((i : Int), Y) (n : Int)) ((0 : Int), B) = some (trow n j i B) := by
  refine (rounds_forS (fun k B => (((k : Nat) : Int), B)) (tcell n j i) id (n := n) (fun _ B => B.length = n * n) (fun k B hk hB => ⟨?_, by rw [tcell_len]; exact hB⟩) (fun B hB => ?_) n 0 B (by omega) hB).1
  · unfold impl_TightZone_B1 tcell
    have h1 := cell_lt hi hj
    have h2 := cell_lt hj hk
    have h3 := cell_lt hi hk
    have g : ∀ a, a < n * n → (0 : Int) ≤ ((a : Nat) : Int) ∧ ((a : Nat) : Int) < lenI B := fun a ha => by simp only [lenI]; omega
    simp only [ltN hk, cond_true, at_eq hn hc hi hj, at_eq hn hc hj hk, at_eq hn hc hi hk, Option.bind_some, guard_pos (g _ h1), guard_pos (g _ h2), guard_pos (g _ h3), Int.toNat_natCast, nextN hk (by omega)]
    rcases Bool.eq_false_or_eq_true (B.getD (i * n + j) 0 != 1000000000) with hx | hx <;> rcases Bool.eq_false_or_eq_true (B.getD (j * n + k) 0 != 1000000000) with hy | hy <;>
      rcases Bool.eq_false_or_eq_true (decide (wadd .i64 (B.getD (i * n + j) 0) (B.getD (j * n + k) 0) < B.getD (i * n + k) 0)) with hz | hz <;>
      simp only [hx, hy, hz, cond_true, cond_false, Option.bind_some, Bool.and_self, Bool.and_false, Bool.and_true, Bool.false_and, Bool.true_and]
    · rw [if_pos (of_decide_eq_true hz)]
    · rw [if_neg (of_decide_eq_false hz), set_self (by omega)]
  · unfold impl_TightZone_B1
    simp only [geN (Nat.le_refl n), cond_false]
    rfl

theorem impl_t2 {j : Nat} {X B : List Int} (hj : j < n) (hB : B.length = n * n) :
    rounds (impl_TightZone_B2 ((c : Int), B0) ((j : Int), X) (n : Int)) ((0 : Int), B) = some (tpass n j B) := by
  refine (rounds_forS (fun k B => (((k : Nat) : Int), B)) (trow n j) id (n := n) (fun _ B => B.length = n * n) (fun k B hk hB => ⟨?_, trow_len hB⟩) (fun B hB => ?_) n 0 B (by omega) hB).1
  · unfold impl_TightZone_B2 impl_Zone_wide
    simp only [wide_eq hn hc, ltN hk, cond_true, impl_t1 hn hc hk hj hB, Option.bind_some, nextN hk (by omega)]
  · unfold impl_TightZone_B2
    simp only [geN (Nat.le_refl n), cond_false]
    rfl

theorem impl_t3 {B : List Int} (hB : B.length = n * n) :
    rounds (impl_TightZone_B3 ((c : Int), B0) (n : Int)) ((0 : Int), B) = some (tight n B) := by
  refine (rounds_forS (fun k B => (((k : Nat) : Int), B)) (tpass n) id (n := n) (fun _ B => B.length = n * n) (fun k B hk hB => ⟨?_, tpass_len hB⟩) (fun B hB => ?_) n 0 B (by omega) hB).1
  · unfold impl_TightZone_B3 impl_Zone_wide
    simp only [wide_eq hn hc, ltN hk, cond_true, impl_t2 hn hc hk hB, Option.bind_some, nextN hk (by omega)]
  · unfold impl_TightZone_B3
    simp only [geN (Nat.le_refl n), cond_false]
    rfl

end

/-- The tight zone. -/
def tightZ (c : Int) (B : List Int) : (Int × List Int) × Bool :=
  if okZone c B = true ∧ okZone c (tight (c.toNat + 1) B) = true then ((c, tight (c.toNat + 1) B), true) else ((0, []), false)

/-- As tightZ, for what is known to be of the right form. -/
def tightY (c : Int) (B : List Int) : (Int × List Int) × Bool :=
  if okZone c (tight (c.toNat + 1) B) = true then ((c, tight (c.toNat + 1) B), true) else ((0, []), false)

theorem spec_tightY {m : Nat} {B : List Int} (hm : m ≤ 4) (hB : B.length = (m + 1) * (m + 1)) : spec_l07Tight ((m : Int), B) = some (tightY m B) := by
  have h5 : (m + 1) * (m + 1) ≤ 5 * 5 := Nat.mul_le_mul (by omega) (by omega)
  unfold spec_l07Tight tightY
  rw [guard_pos (by simp only [appMax]; omega)]
  simp only [spec_t3 (c := m) (n := m + 1) rfl hm hB, Option.bind_some, specZone, Int.toNat_natCast]
  cases okZone (m : Int) (tight (m + 1) B) <;> rfl

theorem spec_tightZ {c : Int} {B : List Int} : spec_TightZone (c, B) = some (tightZ c B) := by
  unfold spec_TightZone tightZ
  simp only [specZone, Option.bind_some]
  cases h : okZone c B with
  | false => simp
  | true =>
    obtain ⟨m, rfl, h1, h2, h3, _⟩ := okZone_spec h
    simp only [Bool.not_true, cond_false, spec_tightY h2 h3, Option.bind_some, tightY, true_and]

theorem impl_tightZ {c : Int} {B : List Int} : impl_TightZone (c, B) = some (tightZ c B) := by
  unfold impl_TightZone tightZ
  simp only [implZone, Option.bind_some]
  cases h : okZone c B with
  | false => simp
  | true =>
    obtain ⟨m, rfl, h1, h2, h3, _⟩ := okZone_spec h
    have h5 : (m + 1) * (m + 1) ≤ 5 * 5 := Nat.mul_le_mul (by omega) (by omega)
    have hcl : slices_Clone B = some B := by
      unfold slices_Clone
      rw [guard_pos (by simp only [appMax]; omega)]
    simp only [Bool.not_true, cond_false, hcl, Option.bind_some, impl_Zone_wide, wide_eq (c := m) (n := m + 1) rfl h2, impl_t3 (c := m) (n := m + 1) rfl h2 h3, implZone, true_and, Int.toNat_natCast]
    cases okZone (m : Int) (tight (m + 1) B) <;> rfl

theorem tightZ_spec {c : Int} {B : List Int} : (tightZ c B = ((0, []), false)) ∨ (∃ (m : Nat) (T : List Int), c = (m : Int) ∧ 1 ≤ m ∧ m ≤ 4 ∧ tightZ c B = (((m : Int), T), true) ∧ okZone (m : Int) T = true ∧ T.length = (m + 1) * (m + 1)) := by
  unfold tightZ
  split
  · rename_i h
    obtain ⟨m, e, h1, h2, h3, _⟩ := okZone_spec h.2
    exact .inr ⟨m, _, e, h1, h2, by rw [e], by rw [← e]; exact h.2, h3⟩
  · exact .inl rfl

end Go.Proofs

namespace Go.Proofs
open Go.Ide Go.IntWalk

/-- What is left of a size. -/
theorem sz64z {xs : List Int} {n : Int} (hx : xs.length ≤ 9223372036854775807) (hn : 0 ≤ n ∧ n ≤ 1048576) : ∃ m, laws_szInt64S xs n = some m ∧ (m < 0 ∨ (m = n - (xs.length : Int) ∧ 0 ≤ m)) := by
  unfold laws_szInt64S
  have e : wsub .i64 n (lenI xs) = n - (xs.length : Int) := i64_in _ (by simp only [lenI]; omega)
  rw [e]
  by_cases h : n - (xs.length : Int) < 0
  · exact ⟨-1, by simp [h], .inl (by omega)⟩
  · exact ⟨_, by simp [h], .inr ⟨rfl, by omega⟩⟩

theorem szZone_spec {c : Int} {B : List Int} {n : Int} (hB : B.length ≤ 9223372036854775807) (hn : 0 ≤ n ∧ n ≤ 1048576) : ∃ m, laws_szZone (c, B) n = some m ∧ (m < 0 ∨ (B.length ≤ 1048576 ∧ 0 ≤ m ∧ m ≤ 1048576)) := by
  unfold laws_szZone
  obtain ⟨m, h1, h2⟩ := sz64z (n := n) hB hn
  simp only [h1, Option.bind_some]
  by_cases hm : m < 0
  · simp only [hm, decide_true, cond_true]
    exact ⟨-1, rfl, .inl (by omega)⟩
  · obtain ⟨h3, h4⟩ := h2.resolve_left hm
    simp only [hm, decide_false, cond_false]
    exact ⟨m, rfl, .inr ⟨by omega, by omega, by omega⟩⟩

theorem toZone_spec {c : Int} {B : List Int} (hB : B.length ≤ 4294967296) : laws_toZone (c, B) = some (c, B) := by
  unfold laws_toZone
  simp only [to64 hB, Option.bind_some]

theorem eqZone_same {c : Int} {B : List Int} (hB : B.length ≤ 4294967296) : laws_eqZone (c, B) (c, B) = some true := by
  unfold laws_eqZone
  simp only [eq64 hB, Option.bind_some, decide_true, Bool.not_true, cond_false, bne_self_eq_false]

theorem markZone_spec {c : Int} {B : List Int} {k : Int} (hB : B.length ≤ 1048576) (hk : 0 ≤ k ∧ k ≤ 10000000) : laws_markZone (c, B) k = some (k + (B.length : Int), c, marks k B.length) := by
  unfold laws_markZone
  simp only [mark64 (xs := B) (k0 := k) (by omega) (by omega), Option.bind_some]
  rw [guard_pos (by simp [marks])]

theorem heldZone_spec {c : Int} {n : Nat} {k : Int} (hn : n ≤ 1048576) (hk : 0 ≤ k ∧ k ≤ 10000000) : laws_heldZone (c, marks k n) k = some (k + (n : Int)) := by
  unfold laws_heldZone
  have h1 : decide (k + (n : Int) < 0) = false := by simp; omega
  simp only [held64 (k0 := k) (n := n) (by omega) (by omega), Option.bind_some, h1, cond_false]

end Go.Proofs

namespace Go.Proofs
open Go.Ide Go.IntWalk

def lessI (a b : Int) : Int := if a < b then a else b
def meetL (A B : List Int) (n : Nat) : List Int := (List.range n).map fun i => lessI (A.getD i 0) (B.getD i 0)

theorem meetL_succ (A B : List Int) (n : Nat) : meetL A B (n + 1) = meetL A B n ++ [lessI (A.getD n 0) (B.getD n 0)] := by
  simp [meetL, List.range_succ]

theorem spec_meetL {c d : Int} {A B : List Int} (h : A.length = B.length) (hA : A.length ≤ 1000) : rounds (spec_MeetZone_B1 (c, A) (d, B)) ((0 : Int), ([] : List Int)) = some (meetL A B A.length) := by
  have := rounds_forS (f := spec_MeetZone_B1 (c, A) (d, B)) (fun k s => (((k : Nat) : Int), s)) (fun i s => s ++ [lessI (A.getD i 0) (B.getD i 0)]) id (n := A.length) (fun i s => s = meetL A B i)
    (fun i s hi hs => ⟨?_, by rw [hs, meetL_succ]⟩) (fun s hs => ?_) A.length 0 [] (by omega) rfl
  · rw [show ((0 : Int), ([] : List Int)) = (((0 : Nat) : Int), ([] : List Int)) from rfl, this.1, ← this.2]
    rfl
  · unfold spec_MeetZone_B1 spec_l00Min
    have hl : s.length = i := by rw [hs]; simp [meetL]
    have e : (bif decide (A.getD i 0 < B.getD i 0) then some (A.getD i 0) else some (B.getD i 0)) = some (lessI (A.getD i 0) (B.getD i 0)) := by
      unfold lessI
      by_cases hlt : A.getD i 0 < B.getD i 0
      · rw [if_pos hlt]; simp only [hlt, decide_true, cond_true]
      · rw [if_neg hlt]; simp only [hlt, decide_false, cond_false]
    simp only [ltN hi, cond_true, guard_pos (idxN (i := i) (n := A.length) hi), guard_pos (idxN (i := i) (n := B.length) (by omega)), Int.toNat_natCast, e, Option.bind_some, nextN hi (by omega)]
    rw [guard_pos (by simp only [appMax, List.length_cons, List.length_nil]; omega)]
  · unfold spec_MeetZone_B1
    simp only [geN (Nat.le_refl _), cond_false]
    rfl

theorem impl_meetL {c d : Int} {A B : List Int} (h : A.length = B.length) (hA : A.length ≤ 1000) : rounds (impl_MeetZone_B1 (c, A) (d, B)) ((0 : Int), ([] : List Int)) = some (meetL A B A.length) := by
  have := rounds_forS (f := impl_MeetZone_B1 (c, A) (d, B)) (fun k s => (((k : Nat) : Int), s)) (fun i s => s ++ [lessI (A.getD i 0) (B.getD i 0)]) id (n := A.length) (fun i s => s = meetL A B i)
    (fun i s hi hs => ⟨?_, by rw [hs, meetL_succ]⟩) (fun s hs => ?_) A.length 0 [] (by omega) rfl
  · rw [show ((0 : Int), ([] : List Int)) = (((0 : Nat) : Int), ([] : List Int)) from rfl, this.1, ← this.2]
    rfl
  · unfold impl_MeetZone_B1
    have hl : s.length = i := by rw [hs]; simp [meetL]
    have e : (if B.getD i 0 < A.getD i 0 then B.getD i 0 else A.getD i 0) = lessI (A.getD i 0) (B.getD i 0) := by
      unfold lessI
      split <;> split <;> omega
    simp only [ltN hi, cond_true, guard_pos (idxN (i := i) (n := A.length) hi), guard_pos (idxN (i := i) (n := B.length) (by omega)), Int.toNat_natCast, e, Option.bind_some, nextN hi (by omega)]
    rw [guard_pos (by simp only [appMax, List.length_cons, List.length_nil]; omega)]
  · unfold impl_MeetZone_B1
    simp only [geN (Nat.le_refl _), cond_false]
    rfl

theorem okCell_iff {a b : Nat} {x : Int} : okCell a b x = true ↔ ((-1000000 ≤ x ∧ x ≤ 1000000) ∨ x = 1000000000) ∧ (a = b → x = 0) ∧ (a = 0 → x ≤ 0) := by
  unfold okCell
  simp only [Bool.not_eq_true', Bool.or_eq_false_iff, Bool.and_eq_false_iff, Bool.not_eq_false', Bool.and_eq_true, decide_eq_true_eq, bne_eq_false_iff_eq, decide_eq_false_iff_not]
  omega

theorem meetL_ok {m : Nat} {A B : List Int} (hA : okZone (m : Int) A = true) (hB : okZone (m : Int) B = true) : okZone (m : Int) (meetL A B A.length) = true := by
  obtain ⟨m1, e1, a1, a2, a3, a4⟩ := okZone_spec hA
  obtain rfl : m = m1 := by omega
  obtain ⟨m2, e2, b1, b2, b3, b4⟩ := okZone_spec hB
  obtain rfl : m = m2 := by omega
  refine okZone_mk a1 a2 (by simp [meetL, a3]) fun i k hi hk => ?_
  have hlt := cell_lt hi hk
  have e : (meetL A B A.length).getD (i * (m + 1) + k) 0 = lessI (A.getD (i * (m + 1) + k) 0) (B.getD (i * (m + 1) + k) 0) := by
    rw [List.getD_eq_getElem?_getD, List.getElem?_eq_getElem (by simp [meetL]; omega)]
    simp [meetL]
  rw [e]
  have h1 := okCell_iff.1 (a4 i k hi hk)
  have h2 := okCell_iff.1 (b4 i k hi hk)
  unfold lessI
  split
  · exact okCell_iff.2 h1
  · exact okCell_iff.2 h2

theorem meet_eq (c : Int) (A : List Int) (d : Int) (B : List Int) : ∃ y, spec_MeetZone (c, A) (d, B) = some y ∧ impl_MeetZone (c, A) (d, B) = some y ∧ y.1.2.length ≤ 1000 := by
  unfold spec_MeetZone impl_MeetZone
  simp only [specZone, implZone, Option.bind_some]
  cases hA : okZone c A with
  | false => exact ⟨_, rfl, rfl, by simp⟩
  | true =>
    cases hB : okZone d B with
    | false => exact ⟨_, rfl, rfl, by simp⟩
    | true =>
      cases hcd : (c != d) with
      | true => simp only [Bool.not_true, cond_false, Option.bind_some, cond_true]; exact ⟨_, rfl, rfl, by simp⟩
      | false =>
        have hcd : c = d := by simpa using hcd
        subst hcd
        obtain ⟨m, rfl, a1, a2, a3, a4⟩ := okZone_spec hA
        obtain ⟨m2, e2, b1, b2, b3, b4⟩ := okZone_spec hB
        obtain rfl : m = m2 := by omega
        have h25 : (m + 1) * (m + 1) ≤ 5 * 5 := Nat.mul_le_mul (by omega) (by omega)
        have hok := meetL_ok hA hB
        have hlen : (meetL A B A.length).length = (m + 1) * (m + 1) := by simp [meetL, a3]
        simp only [Bool.not_true, cond_false, Option.bind_some, spec_meetL (c := (m : Int)) (d := (m : Int)) (A := A) (B := B) (by omega) (by omega), impl_meetL (c := (m : Int)) (d := (m : Int)) (A := A) (B := B) (by omega) (by omega), spec_tightY a2 hlen, impl_tightZ]
        have e : tightZ (m : Int) (meetL A B A.length) = tightY (m : Int) (meetL A B A.length) := by
          unfold tightZ tightY
          simp only [hok, true_and]
        rw [e]
        refine ⟨_, rfl, rfl, ?_⟩
        unfold tightY
        split
        · simp only [Int.toNat_natCast]; rw [tight_len hlen]; omega
        · simp

theorem MeetZone_law (a0 : Int × List Int) (a1 : Int × List Int) (w0 : WfD (.st (.pair (.int .i64) (.sl (.int .i64)))) a0) (w1 : WfD (.st (.pair (.int .i64) (.sl (.int .i64)))) a1) : laws_FnExactMeetZone a0 a1 = some true := by
  obtain ⟨c, A⟩ := a0
  obtain ⟨d, B⟩ := a1
  have hA : A.length ≤ 9223372036854775807 := Nat.le_trans w0.2.1 (by decide)
  have hB : B.length ≤ 9223372036854775807 := Nat.le_trans w1.2.1 (by decide)
  unfold laws_FnExactMeetZone
  obtain ⟨m, h1, h2⟩ := szZone_spec (c := c) (B := A) (n := 1048576) hA (by omega)
  simp only [h1, Option.bind_some]
  by_cases hm : m < 0
  · simp [hm]
  · obtain ⟨hA, hm0, hm1⟩ := h2.resolve_left hm
    obtain ⟨m2, h3, h4⟩ := szZone_spec (c := d) (B := B) (n := m) hB (by omega)
    simp only [hm, decide_false, cond_false, h3, Option.bind_some]
    by_cases hm2 : m2 < 0
    · simp [hm2]
    · obtain ⟨hB, _⟩ := h4.resolve_left hm2
      obtain ⟨⟨⟨u, v⟩, b⟩, k1, k2, k3⟩ := meet_eq c A d B
      have k3 : v.length ≤ 1000 := k3
      have e1 : decide ((1 : Int) + (A.length : Int) + (B.length : Int) < 0) = false := by simp; omega
      have e2 : decide ((1 : Int) + (v.length : Int) < 0) = false := by simp; omega
      simp only [hm2, decide_false, cond_false, toZone_spec (c := c) (B := A) (by omega), toZone_spec (c := d) (B := B) (by omega), k1, k2, Option.bind_some, eqZone_same (c := c) (B := A) (by omega), eqZone_same (c := d) (B := B) (by omega), eqZone_same (c := u) (B := v) (by omega),
        Bool.not_true, bne_self_eq_false, markZone_spec (c := c) (B := A) (k := 1) hA (by omega), markZone_spec (c := d) (B := B) (k := 1 + (A.length : Int)) hB (by omega), e1, markZone_spec (c := u) (B := v) (k := 1) (by omega) (by omega), heldZone_spec (c := u) (n := v.length) (k := 1) (by omega) (by omega), e2]

end Go.Proofs
