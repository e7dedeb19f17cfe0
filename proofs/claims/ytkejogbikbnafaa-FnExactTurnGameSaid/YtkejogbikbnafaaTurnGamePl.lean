import Derived.Test.YtkejogbikbnafaaTurnGameGenA
set_option linter.unusedVariables false
set_option linter.unusedSimpArgs false
set_option linter.unusedSectionVars false

namespace Go.Proofs
open Go.Ide Go.IntWalk

theorem szInt64S_ok {xs : List Int} {n : Int} (hx : xs.length ≤ 9223372036854775807) (hn : 0 ≤ n ∧ n ≤ 1048576) : ∃ m, laws_szInt64S xs n = some m ∧ (m < 0 ∨ (xs.length ≤ 1048576 ∧ 0 ≤ m ∧ m ≤ n)) := by
  unfold laws_szInt64S
  have e : wsub .i64 n (lenI xs) = n - (xs.length : Int) := i64_in _ (by simp only [lenI]; omega)
  rw [e]
  by_cases h : n - (xs.length : Int) < 0
  · exact ⟨-1, by simp only [h, decide_true, cond_true], .inl (by omega)⟩
  · exact ⟨_, by simp only [h, decide_false, cond_false]; rfl, .inr ⟨by omega, by omega, by omega⟩⟩

theorem toInt64S_ok {xs : List Int} (h : xs.length ≤ 1048576) : laws_toInt64S xs = some xs := by
  unfold laws_toInt64S
  rw [guard_pos ⟨by simp only [lenI]; omega, by simp only [lenI]; omega⟩]
  have := loop_to (f := laws_toInt64S_B1 xs) xs (0 : Int) (fun i out hi hl => by
    unfold laws_toInt64S_B1
    simp only [ltN hi, cond_true, guard_pos (idxN hi), guard_pos (idxN (i := i) (n := out.length) (by omega)), Int.toNat_natCast, nextN hi (by omega)]) (fun out hl => by
    unfold laws_toInt64S_B1
    simp only [geN (Nat.le_refl _), cond_false])
  simp only [Int.toNat_natCast, this, Option.bind_some]

theorem eqInt64S_ok {xs : List Int} (h : xs.length ≤ 1048576) : laws_eqInt64S xs xs = some true := by
  unfold laws_eqInt64S
  have := loop_eq (f := laws_eqInt64S_B1 xs xs) (Sum.inl ()) xs.length (fun i hi => by
    unfold laws_eqInt64S_B1
    simp only [ltN hi, cond_true, guard_pos (idxN hi), bne_self_eq_false, cond_false, nextN hi (by omega)]) (by
    unfold laws_eqInt64S_B1
    simp only [geN (Nat.le_refl _), cond_false])
  simp only [bne_self_eq_false, cond_false, this, Option.bind_some]

theorem markInt64S_ok {xs : List Int} {k : Int} (h : xs.length ≤ 1048576) (hk : 0 ≤ k ∧ k ≤ 2000000000000) : laws_markInt64S xs k = some (k + ((1 * xs.length : Nat) : Int), marksG (fun k => k) 1 k xs.length) := by
  unfold laws_markInt64S
  have := loop_mark (f := laws_markInt64S_B1) (fun k => k) 1 k xs (fun i out hi hl => by
    unfold laws_markInt64S_B1
    have e := markN2 (c := 1) (i := i) (k0 := k) (by omega) (by omega) (by omega)
    simp only [lenI, hl, ltN hi, cond_true, guard_pos (idxN hi), Int.toNat_natCast, nextN hi (by omega)]
    simp only [Int.cast_ofNat_Int] at e
    rw [e]) (fun out hl => by
    unfold laws_markInt64S_B1
    simp only [lenI, hl, geN (Nat.le_refl _), cond_false])
  simp only [this, Option.bind_some]
  rw [guard_pos marksG_len]

theorem heldInt64S_ok {n : Nat} {k : Int} (h : n ≤ 1048576) (hk : 0 ≤ k ∧ k ≤ 2000000000000) : laws_heldInt64S (marksG (fun k => k) 1 k n) k = some (k + ((1 * n : Nat) : Int)) := by
  unfold laws_heldInt64S
  have := loop_held (f := laws_heldInt64S_B1 (marksG (fun k => k) 1 k n)) 1 k n (fun i hi => by
    unfold laws_heldInt64S_B1
    have e := markN2 (c := 1) (i := i) (k0 := k) (by omega) (by omega) (by omega)
    simp only [Int.cast_ofNat_Int] at e
    simp only [lenI, marksG_len, ltN hi, cond_true, guard_pos (idxN hi), Int.toNat_natCast, nextN hi (by omega), marksG_get hi, bne_self_eq_false, cond_false]
    rw [e]) (by
    unfold laws_heldInt64S_B1
    simp only [lenI, marksG_len, geN (Nat.le_refl _), cond_false])
  simp only [this, Option.bind_some]

theorem szInt64SS_ok {xs : List (List Int)} {n : Int} (hx : (xs.length ≤ 9223372036854775807 ∧ ∀ y ∈ xs, y.length ≤ 9223372036854775807)) (hn : 0 ≤ n ∧ n ≤ 1048576) : ∃ m, laws_szInt64SS xs n = some m ∧ (m < 0 ∨ ((xs.length ≤ 1048576 ∧ ∀ y ∈ xs, y.length ≤ 1048576) ∧ 0 ≤ m ∧ m ≤ n)) := by
  obtain ⟨hx, hh⟩ := hx
  unfold laws_szInt64SS
  have e : wsub .i64 n (lenI xs) = n - (xs.length : Int) := i64_in _ (by simp only [lenI]; omega)
  rw [e]
  by_cases h : n - (xs.length : Int) < 0
  · exact ⟨-1, by simp only [h, decide_true, cond_true], .inl (by omega)⟩
  · rcases loop_sz (f := laws_szInt64SS_B1 xs) (u := ()) xs ([] : List Int) (fun y => y.length ≤ 1048576) (n - (xs.length : Int)) (by omega) (fun i n' hi h1 h2 => by
      have he := hh _ (mem_getD hi ([] : List Int))
      obtain ⟨m, e1, e2⟩ := szInt64S_ok (n := n') he (by omega)
      refine ⟨m, ?_, e2⟩
      unfold laws_szInt64SS_B1
      simp only [ltN hi, cond_true, guard_pos (idxN hi), Int.toNat_natCast, e1, Option.bind_some, nextN hi (by omega)]
      by_cases hm : m < 0
      · simp only [hm, decide_true, cond_true, if_true]
      · simp only [hm, decide_false, cond_false, if_false]) (fun n' => by
      unfold laws_szInt64SS_B1
      simp only [geN (Nat.le_refl _), cond_false]) with ⟨m, e1, e2, e3, e4⟩ | e1
    · exact ⟨m, by simp only [h, decide_false, cond_false, e1, Option.bind_some], .inr ⟨⟨by omega, e4⟩, by omega, by omega⟩⟩
    · exact ⟨-1, by simp only [h, decide_false, cond_false, e1, Option.bind_some], .inl (by omega)⟩

theorem toInt64SS_ok {xs : List (List Int)} (h : (xs.length ≤ 1048576 ∧ ∀ y ∈ xs, y.length ≤ 1048576)) : laws_toInt64SS xs = some xs := by
  obtain ⟨h, hh⟩ := h
  unfold laws_toInt64SS
  rw [guard_pos ⟨by simp only [lenI]; omega, by simp only [lenI]; omega⟩]
  have := loop_to (f := laws_toInt64SS_B1 xs) xs ([] : List Int) (fun i out hi hl => by
    have he := hh _ (mem_getD hi ([] : List Int))
    unfold laws_toInt64SS_B1
    simp only [ltN hi, cond_true, guard_pos (idxN hi), guard_pos (idxN (i := i) (n := out.length) (by omega)), Int.toNat_natCast, nextN hi (by omega), toInt64S_ok he, Option.bind_some]) (fun out hl => by
    unfold laws_toInt64SS_B1
    simp only [geN (Nat.le_refl _), cond_false])
  simp only [Int.toNat_natCast, this, Option.bind_some]

theorem eqInt64SS_ok {xs : List (List Int)} (h : (xs.length ≤ 1048576 ∧ ∀ y ∈ xs, y.length ≤ 1048576)) : laws_eqInt64SS xs xs = some true := by
  obtain ⟨h, hh⟩ := h
  unfold laws_eqInt64SS
  have := loop_eq (f := laws_eqInt64SS_B1 xs xs) (Sum.inl ()) xs.length (fun i hi => by
    have he := hh _ (mem_getD hi ([] : List Int))
    unfold laws_eqInt64SS_B1
    simp only [ltN hi, cond_true, guard_pos (idxN hi), Int.toNat_natCast, eqInt64S_ok he, Option.bind_some, Bool.not_true, cond_false, nextN hi (by omega)]) (by
    unfold laws_eqInt64SS_B1
    simp only [geN (Nat.le_refl _), cond_false])
  simp only [bne_self_eq_false, cond_false, this, Option.bind_some]

theorem markInt64SS_ok {xs : List (List Int)} {k : Int} (h : (xs.length ≤ 1048576 ∧ ∀ y ∈ xs, y.length ≤ 1048576)) (hk : 0 ≤ k ∧ k ≤ 1000000000) : laws_markInt64SS xs k = some (markRows (fun (k : Int) (x : List Int) => (k + ((1 * x.length : Nat) : Int), marksG (fun k => k) 1 k x.length)) k xs) := by
  obtain ⟨h, hh⟩ := h
  unfold laws_markInt64SS
  have := loop_markE (f := laws_markInt64SS_B1) (fun (k : Int) (x : List Int) => (k + ((1 * x.length : Nat) : Int), marksG (fun k => k) 1 k x.length)) 1048576 k xs ([] : List Int) (fun k x hx => by have := hh x hx; exact ⟨by omega, by omega⟩) (fun k' i out hi hl hg h1 h2 => by
    have hx := hh _ (mem_getD hi ([] : List Int))
    have h3 : i * 1048576 ≤ 1048576 * 1048576 := Nat.mul_le_mul_right _ (by omega)
    unfold laws_markInt64SS_B1
    simp only [lenI, hl, ltN hi, cond_true, guard_pos (idxN hi), Int.toNat_natCast, hg, markInt64S_ok hx (show 0 ≤ k' ∧ k' ≤ 2000000000000 by omega), Option.bind_some, nextN hi (show xs.length ≤ 4294967296 by omega)]) (fun k' out hl => by
    unfold laws_markInt64SS_B1
    simp only [lenI, hl, geN (Nat.le_refl _), cond_false])
  simp only [this, Option.bind_some]
  rw [guard_pos (ShapeEq.own (markRows_len _ _ _).symm (markRows_get List.length [] (fun k x _ => by simp only [marksG_len])))]

theorem heldInt64SS_ok {xs : List (List Int)} {k : Int} (h : (xs.length ≤ 1048576 ∧ ∀ y ∈ xs, y.length ≤ 1048576)) (hk : 0 ≤ k ∧ k ≤ 1000000000) : laws_heldInt64SS (markRows (fun (k : Int) (x : List Int) => (k + ((1 * x.length : Nat) : Int), marksG (fun k => k) 1 k x.length)) k xs).2 k = some (markRows (fun (k : Int) (x : List Int) => (k + ((1 * x.length : Nat) : Int), marksG (fun k => k) 1 k x.length)) k xs).1 := by
  obtain ⟨h, hh⟩ := h
  unfold laws_heldInt64SS
  have := loop_heldE (f := laws_heldInt64SS_B1 (markRows (fun (k : Int) (x : List Int) => (k + ((1 * x.length : Nat) : Int), marksG (fun k => k) 1 k x.length)) k xs).2) (fun (k : Int) (x : List Int) => (k + ((1 * x.length : Nat) : Int), marksG (fun k => k) 1 k x.length)) k xs ([] : List Int) (fun i hi => by
    have hx := hh _ (mem_getD hi ([] : List Int))
    have hb := markRows_bd (E := fun (k : Int) (x : List Int) => (k + ((1 * x.length : Nat) : Int), marksG (fun k => k) 1 k x.length)) (M := 1048576) (xs := xs.take i) (k := k) (fun k x hx => by have := hh x (List.mem_of_mem_take hx); exact ⟨by omega, by omega⟩)
    have h3 : (xs.take i).length * 1048576 ≤ 1048576 * 1048576 := Nat.mul_le_mul_right _ (by rw [List.length_take]; omega)
    have hn := heldInt64S_ok (n := (List.getD xs i ([] : List Int)).length) (k := (markRows (fun (k : Int) (x : List Int) => (k + ((1 * x.length : Nat) : Int), marksG (fun k => k) 1 k x.length)) k (xs.take i)).1) hx (by omega)
    have hg : decide ((markRows (fun (k : Int) (x : List Int) => (k + ((1 * x.length : Nat) : Int), marksG (fun k => k) 1 k x.length)) k (xs.take i)).1 + ((1 * (List.getD xs i ([] : List Int)).length : Nat) : Int) < 0) = false := by simp only [decide_eq_false_iff_not]; omega
    unfold laws_heldInt64SS_B1
    simp only [lenI, markRows_len, ltN hi, cond_true, guard_pos (idxN hi), Int.toNat_natCast, markRows_at _ ([] : List Int) xs k i hi, hn, hg, Option.bind_some, cond_false, nextN hi (show xs.length ≤ 4294967296 by omega)]) (fun k' => by
    unfold laws_heldInt64SS_B1
    simp only [lenI, markRows_len, geN (Nat.le_refl _), cond_false])
  simp only [this, Option.bind_some]

theorem szGame_ok {x0 : List Int} {x1 : List Int} {x2 : List (List Int)} {n : Int} (hx0 : x0.length ≤ 9223372036854775807) (hx1 : x1.length ≤ 9223372036854775807) (hx2 : (x2.length ≤ 9223372036854775807 ∧ ∀ y ∈ x2, y.length ≤ 9223372036854775807)) (hn : 0 ≤ n ∧ n ≤ 1048576) : ∃ m, laws_szGame (x0, x1, x2) n = some m ∧ (m < 0 ∨ ((x0.length ≤ 1048576 ∧ x1.length ≤ 1048576 ∧ (x2.length ≤ 1048576 ∧ ∀ y ∈ x2, y.length ≤ 1048576)) ∧ 0 ≤ m ∧ m ≤ n)) := by
  unfold laws_szGame
  obtain ⟨m1, h1, k1⟩ := szInt64S_ok (n := n) (xs := x0) hx0 (by omega)
  simp only [h1, Option.bind_some]
  by_cases c1 : m1 < 0
  · simp only [c1, decide_true, cond_true]; exact ⟨-1, rfl, .inl (by omega)⟩
  · obtain ⟨g1, p1, q1⟩ := k1.resolve_left c1
    simp only [c1, decide_false, cond_false]
    obtain ⟨m2, h2, k2⟩ := szInt64S_ok (n := m1) (xs := x1) hx1 (by omega)
    simp only [h2, Option.bind_some]
    by_cases c2 : m2 < 0
    · simp only [c2, decide_true, cond_true]; exact ⟨-1, rfl, .inl (by omega)⟩
    · obtain ⟨g2, p2, q2⟩ := k2.resolve_left c2
      simp only [c2, decide_false, cond_false]
      obtain ⟨m3, h3, k3⟩ := szInt64SS_ok (n := m2) (xs := x2) hx2 (by omega)
      simp only [h3, Option.bind_some]
      by_cases c3 : m3 < 0
      · simp only [c3, decide_true, cond_true]; exact ⟨-1, rfl, .inl (by omega)⟩
      · obtain ⟨g3, p3, q3⟩ := k3.resolve_left c3
        simp only [c3, decide_false, cond_false]
        exact ⟨_, rfl, .inr ⟨⟨g1, g2, g3⟩, by omega, by omega⟩⟩

theorem toGame_ok {x0 : List Int} {x1 : List Int} {x2 : List (List Int)} (hx0 : x0.length ≤ 1048576) (hx1 : x1.length ≤ 1048576) (hx2 : (x2.length ≤ 1048576 ∧ ∀ y ∈ x2, y.length ≤ 1048576)) : laws_toGame (x0, x1, x2) = some (x0, x1, x2) := by
  unfold laws_toGame
  simp only [toInt64S_ok hx0, toInt64S_ok hx1, toInt64SS_ok hx2, Option.bind_some]

theorem eqGame_ok {x0 : List Int} {x1 : List Int} {x2 : List (List Int)} (hx0 : x0.length ≤ 1048576) (hx1 : x1.length ≤ 1048576) (hx2 : (x2.length ≤ 1048576 ∧ ∀ y ∈ x2, y.length ≤ 1048576)) : laws_eqGame (x0, x1, x2) (x0, x1, x2) = some true := by
  unfold laws_eqGame
  simp only [eqInt64S_ok hx0, eqInt64S_ok hx1, eqInt64SS_ok hx2, Option.bind_some, bne_self_eq_false, Bool.not_true, cond_false, decide_true]

theorem markGame_ok {x0 : List Int} {x1 : List Int} {x2 : List (List Int)} {k : Int} (hx0 : x0.length ≤ 1048576) (hx1 : x1.length ≤ 1048576) (hx2 : (x2.length ≤ 1048576 ∧ ∀ y ∈ x2, y.length ≤ 1048576)) (hk : 0 ≤ k ∧ k ≤ 700000000) : laws_markGame (x0, x1, x2) k = some ((markRows (fun (k : Int) (x : List Int) => (k + ((1 * x.length : Nat) : Int), marksG (fun k => k) 1 k x.length)) (k + ((1 * x0.length : Nat) : Int) + ((1 * x1.length : Nat) : Int)) x2).1, (marksG (fun k => k) 1 (k) x0.length, marksG (fun k => k) 1 (k + ((1 * x0.length : Nat) : Int)) x1.length, (markRows (fun (k : Int) (x : List Int) => (k + ((1 * x.length : Nat) : Int), marksG (fun k => k) 1 k x.length)) (k + ((1 * x0.length : Nat) : Int) + ((1 * x1.length : Nat) : Int)) x2).2)) := by
  unfold laws_markGame
  simp only [markInt64S_ok (k := k) hx0 (by omega), markInt64S_ok (k := k + ((1 * x0.length : Nat) : Int)) hx1 (by omega), markInt64SS_ok (k := k + ((1 * x0.length : Nat) : Int) + ((1 * x1.length : Nat) : Int)) hx2 (by omega), Option.bind_some]
  simp only [guardP, marksG_len, if_true]
  rw [if_pos (ShapeEq.own (markRows_len _ _ _).symm (markRows_get List.length [] (fun k x _ => by simp only [marksG_len])))]

theorem heldGame_ok {x0 : List Int} {x1 : List Int} {x2 : List (List Int)} {k : Int} (hx0 : x0.length ≤ 1048576) (hx1 : x1.length ≤ 1048576) (hx2 : (x2.length ≤ 1048576 ∧ ∀ y ∈ x2, y.length ≤ 1048576)) (hk : 0 ≤ k ∧ k ≤ 700000000) : laws_heldGame (marksG (fun k => k) 1 (k) x0.length, marksG (fun k => k) 1 (k + ((1 * x0.length : Nat) : Int)) x1.length, (markRows (fun (k : Int) (x : List Int) => (k + ((1 * x.length : Nat) : Int), marksG (fun k => k) 1 k x.length)) (k + ((1 * x0.length : Nat) : Int) + ((1 * x1.length : Nat) : Int)) x2).2) k = some ((markRows (fun (k : Int) (x : List Int) => (k + ((1 * x.length : Nat) : Int), marksG (fun k => k) 1 k x.length)) (k + ((1 * x0.length : Nat) : Int) + ((1 * x1.length : Nat) : Int)) x2).1) := by
  have nx2 := markRows_bd (E := fun (k : Int) (x : List Int) => (k + ((1 * x.length : Nat) : Int), marksG (fun k => k) 1 k x.length)) (M := 1048576) (xs := x2) (k := k + ((1 * x0.length : Nat) : Int) + ((1 * x1.length : Nat) : Int)) (fun k x hx => by have := (hx2).2 x hx; exact ⟨by omega, by omega⟩)
  have qx2 : x2.length * 1048576 ≤ 1048576 * 1048576 := Nat.mul_le_mul_right _ (hx2).1
  unfold laws_heldGame
  simp only [heldInt64S_ok (k := k) hx0 (by omega), heldInt64S_ok (k := k + ((1 * x0.length : Nat) : Int)) hx1 (by omega), heldInt64SS_ok (k := k + ((1 * x0.length : Nat) : Int) + ((1 * x1.length : Nat) : Int)) hx2 (by omega), Option.bind_some, (show decide (k + ((1 * x0.length : Nat) : Int) < 0) = false from by simp only [decide_eq_false_iff_not]; omega), (show decide (k + ((1 * x0.length : Nat) : Int) + ((1 * x1.length : Nat) : Int) < 0) = false from by simp only [decide_eq_false_iff_not]; omega), (show decide ((markRows (fun (k : Int) (x : List Int) => (k + ((1 * x.length : Nat) : Int), marksG (fun k => k) 1 k x.length)) (k + ((1 * x0.length : Nat) : Int) + ((1 * x1.length : Nat) : Int)) x2).1 < 0) = false from by simp only [decide_eq_false_iff_not]; omega), cond_false]

end Go.Proofs


namespace Go.Proofs
open Go.Ide Go.IntWalk

theorem in64 (a b c : Int) : spec_l00In a b c = some (decide (a ≥ b) && decide (a ≤ c)) := by
  unfold spec_l00In
  cases h : decide (a ≥ b) <;> simp
theorem within64 (a b c : Int) : impl_within a b c = some (decide (a ≥ b) && decide (a ≤ c)) := by
  unfold impl_within
  cases h : decide (a ≥ b) <;> simp

def allIn (xs : List Int) (b c : Int) : Bool := xs.all fun x => decide (x ≥ b) && decide (x ≤ c)

theorem allIn_iff {xs : List Int} {b c : Int} : allIn xs b c = true ↔ ∀ i, i < xs.length → b ≤ xs.getD i 0 ∧ xs.getD i 0 ≤ c := by
  unfold allIn
  rw [List.all_eq_true]
  constructor
  · intro h i hi
    have := h xs[i] (List.getElem_mem hi)
    simp only [Bool.and_eq_true, decide_eq_true_eq] at this
    rw [List.getD_eq_getElem?_getD, List.getElem?_eq_getElem hi]
    exact ⟨this.1, this.2⟩
  · intro h x hx
    obtain ⟨i, hi, rfl⟩ := List.getElem_of_mem hx
    have := h i hi
    rw [List.getD_eq_getElem?_getD, List.getElem?_eq_getElem hi] at this
    simp only [Bool.and_eq_true, decide_eq_true_eq]
    exact ⟨this.1, this.2⟩

theorem allN_in (xs : List Int) (b c : Int) : allN (fun i => decide (xs.getD i 0 ≥ b) && decide (xs.getD i 0 ≤ c)) xs.length 0 = allIn xs b c := by
  rw [Bool.eq_iff_iff, allN_iff, allIn_iff]
  constructor
  · intro h i hi
    have := h i (by omega) (by omega)
    simp only [Bool.and_eq_true, decide_eq_true_eq] at this
    exact ⟨this.1, this.2⟩
  · intro h i _ hi
    have := h i (by omega)
    simp only [Bool.and_eq_true, decide_eq_true_eq]
    exact ⟨this.1, this.2⟩

theorem areWithin64 {xs : List Int} {b c : Int} (h : xs.length ≤ 4294967296) : impl_areWithin xs b c = some (allIn xs b c) := by
  unfold impl_areWithin
  have := rounds_all (f := impl_areWithin_B1 xs b c) (fun i => ((i : Nat) : Int)) (fun i => decide (xs.getD i 0 ≥ b) && decide (xs.getD i 0 ≤ c)) (Sum.inl ()) (Sum.inr ()) (n := xs.length) (fun i hi => by
    unfold impl_areWithin_B1
    simp only [ltN hi, cond_true, guard_pos (idxN hi), Int.toNat_natCast, within64, Option.bind_some, nextN hi h]
    cases (decide (xs.getD i 0 ≥ b) && decide (xs.getD i 0 ≤ c)) <;> rfl) (by
    unfold impl_areWithin_B1
    simp only [geN (Nat.le_refl _), cond_false]) xs.length 0 (by omega)
  rw [allN_in] at this
  simp only [Int.natCast_zero] at this
  simp only [this, Option.bind_some]
  cases allIn xs b c <;> rfl

structure Plain (m c : Nat) (nx : List Int) (es : List Bool) : Prop where
  m1 : 1 ≤ m
  m2 : m ≤ 64
  c1 : 1 ≤ c
  c2 : c ≤ 4
  len : nx.length = m * c
  ends : es.length = m
  to : ∀ i, i < m * c → ∃ t : Nat, nx.getD i 0 = (t : Int) ∧ t < m

section
variable {m c : Nat} {nx : List Int} {es : List Bool} (hp : Plain m c nx es)
include hp

end

end Go.Proofs


/-
  Sets as bits; valid games.
-/
namespace Go.Proofs
open Go.Ide Go.IntWalk

theorem ofInt_bit {N : Nat} (hN : N < 65536) (i : Nat) : (BitVec.ofInt (IntKind.bits .u32) (N : Int)).toNat.testBit i = N.testBit i := by
  rw [BitVec.ofInt_natCast, BitVec.toNat_ofNat, Nat.mod_eq_of_lt (by show N < 2 ^ 32; omega)]

theorem small_of {K : Nat} (h : ∀ i, 16 ≤ i → K.testBit i = false) : K < 65536 := Nat.lt_pow_two_of_testBit (n := 16) K h

theorem big_bit {N i : Nat} (hN : N < 65536) (hi : 16 ≤ i) : N.testBit i = false := Nat.testBit_lt_two_pow (Nat.lt_of_lt_of_le hN (Nat.pow_le_pow_right (n := 2) (by omega) hi))

theorem or_val {N M : Nat} (hN : N < 65536) (hM : M < 65536) : ∃ K : Nat, IntKind.wrap .u32 (((BitVec.ofInt (IntKind.bits .u32) (N : Int) ||| BitVec.ofInt (IntKind.bits .u32) (M : Int)).toNat : Nat) : Int) = (K : Int) ∧ K < 65536 ∧ ∀ i, K.testBit i = (N.testBit i || M.testBit i) := by
  have hb : ∀ i, (BitVec.ofInt (IntKind.bits .u32) (N : Int) ||| BitVec.ofInt (IntKind.bits .u32) (M : Int)).toNat.testBit i = (N.testBit i || M.testBit i) := fun i => by
    rw [BitVec.toNat_or, Nat.testBit_or, ofInt_bit hN, ofInt_bit hM]
  have hs := small_of (K := (BitVec.ofInt (IntKind.bits .u32) (N : Int) ||| BitVec.ofInt (IntKind.bits .u32) (M : Int)).toNat) fun i hi => by rw [hb, big_bit hN hi, big_bit hM hi]; rfl
  exact ⟨_, u32_in _ (by omega), hs, hb⟩

theorem pow_val {v : Nat} (hv : v < 16) : IntKind.wrap .u32 ((1 : Int) * 2 ^ (min v (IntKind.bits .u32))) = ((2 ^ v : Nat) : Int) ∧ 2 ^ v < 65536 := by
  have h1 : min v (IntKind.bits .u32) = v := Nat.min_eq_left (by show v ≤ 32; omega)
  have h2 : 2 ^ v < 2 ^ 16 := Nat.pow_lt_pow_right (by omega) hv
  have h : ((2 ^ v : Nat) : Int) = (2 : Int) ^ v := by simp
  rw [h1, Int.one_mul, ← h]
  have h3 : 2 ^ v < 65536 := h2
  generalize 2 ^ v = q at h3
  exact ⟨u32_in _ (by omega), h3⟩

def Bs (x : Int) (l : List Bool) : Prop := l.length ≤ 16 ∧ ∃ N : Nat, x = (N : Int) ∧ N < 65536 ∧ ∀ v, N.testBit v = l.getD v false

theorem list_ext {l m : List Bool} (hl : l.length = m.length) (h : ∀ v, v < l.length → l.getD v false = m.getD v false) : l = m := by
  refine List.ext_getElem hl fun i h1 h2 => ?_
  have := h i h1
  simpa [List.getD_eq_getElem?_getD, h1, h2] using this

theorem Bs.zero {n : Nat} (hn : n ≤ 16) : Bs 0 (List.replicate n false) := ⟨by simpa using hn, 0, rfl, by omega, fun v => by
  rw [Nat.zero_testBit, List.getD_eq_getElem?_getD, List.getElem?_replicate]; split <;> rfl⟩

theorem Bs.set {x : Int} {l : List Bool} (h : Bs x l) {v : Nat} (hv : v < l.length) : Bs (IntKind.wrap .u32 (((BitVec.ofInt (IntKind.bits .u32) x ||| BitVec.ofInt (IntKind.bits .u32) (IntKind.wrap .u32 ((1 : Int) * 2 ^ (min v (IntKind.bits .u32))))).toNat : Nat) : Int)) (l.set v true) := by
  obtain ⟨hl, N, rfl, hN, hb⟩ := h
  obtain ⟨e1, e2⟩ := pow_val (v := v) (by omega)
  rw [e1]
  obtain ⟨K, e3, e4, e5⟩ := or_val hN e2
  refine ⟨by simpa using hl, K, e3, e4, fun i => ?_⟩
  rw [e5, hb, Nat.testBit_two_pow]
  by_cases hi : v = i
  · subst hi
    simp [List.getD_eq_getElem?_getD, hv]
  · simp [List.getD_eq_getElem?_getD, hi, List.getElem?_set_ne hi]

theorem Bs.all {n : Nat} (hn : n ≤ 16) (h1 : 1 ≤ n) : Bs (wsub .u32 (IntKind.wrap .u32 ((1 : Int) * 2 ^ (min n (IntKind.bits .u32)))) 1) (List.replicate n true) := by
  have e : wsub .u32 (IntKind.wrap .u32 ((1 : Int) * 2 ^ (min n (IntKind.bits .u32)))) 1 = ((2 ^ n - 1 : Nat) : Int) := by
    have e1 : min n (IntKind.bits .u32) = n := Nat.min_eq_left (by show n ≤ 32; omega)
    have h2 : 2 ^ n ≤ 2 ^ 16 := Nat.pow_le_pow_right (by omega) hn
    have h3 : 0 < 2 ^ n := Nat.pow_pos (by omega)
    have h : ((2 ^ n : Nat) : Int) = (2 : Int) ^ n := by simp
    rw [e1, Int.one_mul, ← h, u32_in _ (by omega)]
    show IntKind.wrap .u32 (((2 ^ n : Nat) : Int) - 1) = _
    rw [u32_in _ (by omega)]
    omega
  rw [e]
  refine ⟨by simpa using hn, 2 ^ n - 1, rfl, ?_, fun v => ?_⟩
  · have h2 : 2 ^ n ≤ 2 ^ 16 := Nat.pow_le_pow_right (by omega) hn
    omega
  · rw [Nat.testBit_two_pow_sub_one, List.getD_eq_getElem?_getD, List.getElem?_replicate]
    by_cases h : v < n <;> simp [h]

def riseB (xs : List Int) (n : Int) (i : Nat) : Bool := (decide (xs.getD i 0 ≥ 0) && decide (xs.getD i 0 ≤ wsub .i64 n 1)) && !(decide ((i : Int) > 0) && decide (xs.getD i 0 ≤ xs.getD (i - 1) 0))

theorem implSet {xs : List Int} {n : Int} (h : xs.length ≤ 1048576) : impl_isSet xs n = some (allN (riseB xs n) xs.length 0) := by
  have := rounds_all (f := impl_isSet_B1 xs n) (fun i => ((i : Nat) : Int)) (riseB xs n) (Sum.inl ()) (Sum.inr ()) (n := xs.length) (fun i hi => by
    unfold impl_isSet_B1 riseB
    simp only [lenI, ltN hi, cond_true, Int.toNat_natCast, within64, Option.bind_some, nextN hi (show xs.length ≤ 4294967296 by omega)]
    rw [guard_pos (idxN hi)]
    cases (decide (xs.getD i 0 ≥ 0) && decide (xs.getD i 0 ≤ wsub .i64 n 1)) with
    | false => rfl
    | true =>
      by_cases h0 : i = 0
      · subst h0; rfl
      · have e : wsub .i64 ((i : Nat) : Int) 1 = ((i - 1 : Nat) : Int) := by rw [wsubI (by omega)]; omega
        have d : decide (((i : Nat) : Int) > 0) = true := decide_eq_true (by omega)
        simp only [Bool.not_true, cond_false, d, cond_true, e, guard_pos (idxN (show i - 1 < xs.length by omega)), Int.toNat_natCast, Option.bind_some, Bool.true_and]
        cases decide (xs.getD i 0 ≤ xs.getD (i - 1) 0) <;> rfl) (by
    unfold impl_isSet_B1
    simp only [lenI, geN (Nat.le_refl _), cond_false]) xs.length 0 (by omega)
  simp only [Int.natCast_zero] at this
  unfold impl_isSet
  rw [this]
  cases allN (riseB xs n) xs.length 0 <;> rfl

end Go.Proofs


/-
  Valid games; what a player reaches.
-/
namespace Go.Proofs
open Go.Ide Go.IntWalk

theorem rounds_find2 {τ ρ : Type} {f : τ → Option (τ ⊕ ρ)} (mk : Nat → τ) (p : Nat → Bool) (a : ρ) (b : Nat → ρ) {n : Nat}
    (hstep : ∀ i, i < n → f (mk i) = some (bif p i then .inl (mk (i + 1)) else .inr (b i))) (hend : f (mk n) = some (.inr a)) : ∀ (k i : Nat), i + k = n → ∃ j, rounds f (mk i) = some (bif allN p k i then a else b j)
  | 0, i, hi => by
    have : i = n := by omega
    subst this
    rw [rounds_eq, hend]
    exact ⟨0, rfl⟩
  | k + 1, i, hi => by
    rw [rounds_eq, hstep i (by omega)]
    simp only [allN]
    cases p i with
    | true => simp only [cond_true, Bool.true_and]; exact rounds_find2 mk p a b hstep hend k (i + 1) (by omega)
    | false => exact ⟨i, rfl⟩

def okMv (xs : List Int) (n : Int) : Bool := !(decide (lenI xs < 1)) && allN (riseB xs n) xs.length 0

def okG (O R : List Int) (M : List (List Int)) : Bool :=
  (decide (lenI O ≥ 1) && decide (lenI O ≤ 16)) && ((lenI R == lenI O) && ((lenI M == lenI O) && (allIn O 0 1 && (allIn R 0 8 && allN (fun i => okMv (M.getD i []) (lenI O)) M.length 0))))

theorem implGame {O R : List Int} {M : List (List Int)} (hM : M.length ≤ 1048576) (hh : ∀ y ∈ M, y.length ≤ 1048576) (hO : O.length ≤ 1048576) (hR : R.length ≤ 1048576) : impl_ValidGame (O, R, M) = some (okG O R M) := by
  unfold impl_ValidGame okG
  simp only [within64, Option.bind_some, areWithin64 (xs := O) (by omega), areWithin64 (xs := R) (by omega)]
  obtain ⟨j, this⟩ := rounds_find2 (f := slices_IndexFunc_____int64___int64_clo1_impl_ValidGame_1_B1 M (lenI O)) (fun i => ((i : Nat) : Int)) (fun i => okMv (M.getD i []) (lenI O)) (Sum.inl ()) (fun i => Sum.inr ((i : Nat) : Int)) (n := M.length) (fun i hi => by
    have hl := hh _ (mem_getD hi [])
    unfold slices_IndexFunc_____int64___int64_clo1_impl_ValidGame_1_B1 impl_ValidGame_1 okMv
    simp only [implSet (n := lenI O) hl, Option.bind_some, Int.toNat_natCast, nextN hi (show M.length ≤ 4294967296 by omega)]
    simp only [lenI, ltN hi, cond_true]
    rw [guard_pos (idxN hi)]
    by_cases h0 : (M.getD i []).length = 0
    · have e1 : (((M.getD i []).length : Int) == 0) = true := by rw [h0]; rfl
      have e2 : decide (((M.getD i []).length : Int) < 1) = true := decide_eq_true (by omega)
      simp only [e1, e2, cond_true, Option.bind_some, Bool.not_true, Bool.false_and, cond_false]
    · have e1 : (((M.getD i []).length : Int) == 0) = false := by simp only [beq_eq_false_iff_ne, ne_eq]; omega
      have e2 : decide (((M.getD i []).length : Int) < 1) = false := decide_eq_false (by omega)
      simp only [e1, e2, cond_false, Option.bind_some, Bool.not_false, Bool.true_and]
      cases allN (riseB (M.getD i []) (O.length : Int)) (M.getD i []).length 0 <;> rfl) (by
    unfold slices_IndexFunc_____int64___int64_clo1_impl_ValidGame_1_B1
    simp only [lenI, geN (Nat.le_refl _), cond_false]) M.length 0 (by omega)
  simp only [Int.natCast_zero] at this
  unfold slices_ContainsFunc_____int64___int64_clo1_impl_ValidGame_1 slices_IndexFunc_____int64___int64_clo1_impl_ValidGame_1
  rw [this]
  cases (decide (lenI O ≥ 1) && decide (lenI O ≤ 16)) with
  | false => rfl
  | true =>
    simp only [Bool.not_true, cond_false, bne, Bool.true_and]
    cases (lenI R == lenI O) with
    | false => rfl
    | true =>
      simp only [Bool.not_true, cond_false, Bool.true_and]
      cases (lenI M == lenI O) with
      | false => rfl
      | true =>
        simp only [Bool.not_true, cond_false, Bool.true_and]
        cases allIn O 0 1 with
        | false => rfl
        | true =>
          simp only [Bool.not_true, cond_false, Bool.true_and, Option.bind_some]
          cases allIn R 0 8 with
          | false => rfl
          | true =>
            simp only [Bool.not_true, cond_false, Bool.true_and]
            cases allN (fun i => okMv (M.getD i []) (lenI O)) M.length 0 with
            | true => rfl
            | false =>
              simp only [cond_false, Option.bind_some, ge_iff_le]
              rw [decide_eq_true (Int.natCast_nonneg j)]
              rfl

theorem allN_and2 (p q : Nat → Bool) : ∀ k i, allN (fun i => p i && q i) k i = (allN p k i && allN q k i)
  | 0, _ => rfl
  | k + 1, i => by
    simp only [allN, allN_and2 p q k (i + 1)]
    cases p i <;> cases q i <;> cases allN p k (i + 1) <;> cases allN q k (i + 1) <;> rfl

theorem specGame {O R : List Int} {M : List (List Int)} (hM : M.length ≤ 1048576) (hh : ∀ y ∈ M, y.length ≤ 1048576) : spec_l07Game (O, R, M) = some (okG O R M) := by
  unfold spec_l07Game okG
  by_cases h1 : lenI O < 1
  · have e1 : decide (lenI O < (1 : Int)) = true := decide_eq_true h1
    have e2 : decide (lenI O ≥ (1 : Int)) = false := decide_eq_false (by omega)
    simp only [e1, e2, cond_true, Bool.false_and, Option.bind_some]
  · have e1 : decide (lenI O < (1 : Int)) = false := decide_eq_false h1
    have e2 : decide (lenI O ≥ (1 : Int)) = true := decide_eq_true (by omega)
    simp only [e1, e2, cond_false, Bool.true_and]
    by_cases h2 : lenI O > 16
    · have e3 : decide (lenI O > (16 : Int)) = true := decide_eq_true h2
      have e4 : decide (lenI O ≤ (16 : Int)) = false := decide_eq_false (by omega)
      simp only [e3, e4, cond_true, Bool.false_and, Option.bind_some]
    · have e3 : decide (lenI O > (16 : Int)) = false := decide_eq_false h2
      have e4 : decide (lenI O ≤ (16 : Int)) = true := decide_eq_true (by omega)
      simp only [e3, e4, cond_false, Bool.true_and, bne]
      cases h3 : (lenI R == lenI O) with
      | false => rfl
      | true =>
        cases h4 : (lenI M == lenI O) with
        | false => rfl
        | true =>
          simp only [Bool.not_true, cond_false, Option.bind_some, Bool.true_and]
          have l1 : R.length = O.length := by have := eq_of_beq h3; simp only [lenI] at this; omega
          have l2 : M.length = O.length := by have := eq_of_beq h4; simp only [lenI] at this; omega
          have l3 : O.length ≤ 16 := by simp only [lenI] at h2; omega
          have := rounds_all (f := spec_l07Game_B2 (O, R, M)) (fun i => ((i : Nat) : Int)) (fun i => (decide (O.getD i 0 ≥ 0) && decide (O.getD i 0 ≤ 1)) && ((decide (R.getD i 0 ≥ 0) && decide (R.getD i 0 ≤ 8)) && okMv (M.getD i []) (lenI O))) (Sum.inl ()) (Sum.inr ()) (n := O.length) (fun i hi => by
            have hl := hh _ (mem_getD (show i < M.length by omega) [])
            have hin := rounds_all (f := spec_l07Game_B1 (O, R, M) ((i : Nat) : Int)) (fun i => ((i : Nat) : Int)) (riseB (M.getD i []) (lenI O)) (Sum.inl ()) (Sum.inr ()) (n := (M.getD i []).length) (fun k hk => by
              unfold spec_l07Game_B1 riseB
              simp only [Int.toNat_natCast, lenI, ltN hk, cond_true, in64, Option.bind_some, nextN hk (show (M.getD i []).length ≤ 4294967296 by omega)]
              rw [guard_pos (idxN hk)]
              cases (decide ((M.getD i []).getD k 0 ≥ 0) && decide ((M.getD i []).getD k 0 ≤ wsub .i64 (O.length : Int) 1)) with
              | false => rfl
              | true =>
                by_cases h0 : k = 0
                · subst h0; rfl
                · have e : wsub .i64 ((k : Nat) : Int) 1 = ((k - 1 : Nat) : Int) := by rw [wsubI (by omega)]; omega
                  have d : decide (((k : Nat) : Int) > 0) = true := decide_eq_true (by omega)
                  simp only [Bool.not_true, cond_false, d, cond_true, e, guard_pos (idxN (show k - 1 < (M.getD i []).length by omega)), Int.toNat_natCast, Option.bind_some, Bool.true_and]
                  cases decide ((M.getD i []).getD k 0 ≤ (M.getD i []).getD (k - 1) 0) <;> rfl) (by
              unfold spec_l07Game_B1
              simp only [Int.toNat_natCast, lenI, geN (Nat.le_refl _), cond_false]) (M.getD i []).length 0 (by omega)
            simp only [Int.natCast_zero] at hin
            have jo : (0 : Int) ≤ (i : Int) ∧ (i : Int) < lenI O := idxN hi
            have jr : (0 : Int) ≤ (i : Int) ∧ (i : Int) < lenI R := idxN (by omega)
            have jm : (0 : Int) ≤ (i : Int) ∧ (i : Int) < lenI M := idxN (by omega)
            unfold spec_l07Game_B2 okMv
            simp only [Int.toNat_natCast, guard_pos jo, guard_pos jr, guard_pos jm, in64, Option.bind_some, hin]
            simp only [lenI, ltN hi, cond_true, nextN hi (show O.length ≤ 4294967296 by omega)]
            cases (decide (O.getD i 0 ≥ 0) && decide (O.getD i 0 ≤ 1)) with
            | false => rfl
            | true =>
              cases (decide (R.getD i 0 ≥ 0) && decide (R.getD i 0 ≤ 8)) with
              | false => rfl
              | true =>
                cases decide (((M.getD i []).length : Int) < 1) with
                | true => rfl
                | false =>
                  simp only [Bool.not_true, Bool.not_false, cond_false, Option.bind_some, Bool.true_and]
                  cases allN (riseB (M.getD i []) (O.length : Int)) (M.getD i []).length 0 <;> rfl) (by
            unfold spec_l07Game_B2
            simp only [lenI, geN (Nat.le_refl _), cond_false]) O.length 0 (by omega)
          simp only [Int.natCast_zero] at this
          rw [allN_and2 (fun i => decide (O.getD i 0 ≥ 0) && decide (O.getD i 0 ≤ 1)) (fun i => (decide (R.getD i 0 ≥ 0) && decide (R.getD i 0 ≤ 8)) && okMv (M.getD i []) (lenI O)), allN_and2 (fun i => decide (R.getD i 0 ≥ 0) && decide (R.getD i 0 ≤ 8)) (fun i => okMv (M.getD i []) (lenI O))] at this
          have eO := allN_in O 0 1
          have eR := allN_in R 0 8
          rw [l1] at eR
          rw [eO, eR] at this
          rw [this, l2]
          cases allIn O 0 1 <;> cases allIn R 0 8 <;> cases allN (fun i => okMv (M.getD i []) (lenI O)) O.length 0 <;> rfl

structure Game (n : Nat) (O R : List Int) (M : List (List Int)) : Prop where
  n1 : 1 ≤ n
  n2 : n ≤ 16
  lo : O.length = n
  lr : R.length = n
  lm : M.length = n
  ow : ∀ v, v < n → O.getD v 0 = 0 ∨ O.getD v 0 = 1
  rk : ∀ v, v < n → ∃ r : Nat, R.getD v 0 = (r : Int) ∧ r ≤ 8
  mv : ∀ v, v < n → ∀ k, k < (M.getD v []).length → ∃ q : Nat, (M.getD v []).getD k 0 = (q : Int) ∧ q < n
  ml : ∀ v, v < n → (M.getD v []).length ≤ 1048576

theorem game_of {O R : List Int} {M : List (List Int)} (hh : ∀ y ∈ M, y.length ≤ 1048576) (h : okG O R M = true) : Game O.length O R M := by
  unfold okG at h
  simp only [Bool.and_eq_true, decide_eq_true_eq, beq_iff_eq, lenI] at h
  obtain ⟨⟨h1, h2⟩, h3, h4, h5, h6, h7⟩ := h
  refine ⟨by omega, by omega, rfl, by omega, by omega, fun v hv => ?_, fun v hv => ?_, fun v hv k hk => ?_, fun v hv => hh _ (mem_getD (by omega) [])⟩
  · have := allIn_iff.1 h5 v hv; omega
  · have := allIn_iff.1 h6 v (by omega)
    exact ⟨(R.getD v 0).toNat, by omega, by omega⟩
  · have := allN_iff.1 h7 v (by omega) (by omega)
    unfold okMv at this
    rw [Bool.and_eq_true] at this
    have := allN_iff.1 this.2 k (by omega) (by omega)
    unfold riseB at this
    simp only [Bool.and_eq_true, decide_eq_true_eq] at this
    have h8 := this.1
    rw [wsubI (by omega)] at h8
    exact ⟨((M.getD v []).getD k 0).toNat, by omega, by omega⟩

end Go.Proofs


/-
  What a player reaches; ReachOf.
-/
namespace Go.Proofs
open Go.Ide Go.IntWalk

section
variable {n : Nat} {O R : List Int} {M : List (List Int)}

end
end Go.Proofs


/-
  Who wins: SolveGame.
-/
namespace Go.Proofs
open Go.Ide Go.IntWalk

def tab (n : Nat) (f : Nat → Bool) : List Bool := (List.range n).map f
theorem tab_len (n : Nat) (f : Nat → Bool) : (tab n f).length = n := by simp [tab]
theorem tab_get {n : Nat} {f : Nat → Bool} {v : Nat} (h : v < n) : (tab n f).getD v false = f v := by
  unfold tab; simp [List.getD_eq_getElem?_getD, h]

theorem Bs.exists {l : List Bool} (hl : l.length ≤ 16) : ∃ x, Bs x l := by
  have : ∀ k, k ≤ l.length → ∃ x, Bs x (tab l.length fun u => decide (u < k) && l.getD u false) := by
    intro k
    induction k with
    | zero =>
      intro _
      refine ⟨0, ?_⟩
      have e : (tab l.length fun u => decide (u < 0) && l.getD u false) = List.replicate l.length false := list_ext (by simp [tab_len]) fun v hv => by
        rw [tab_len] at hv
        rw [tab_get hv]
        simp [List.getD_eq_getElem?_getD, List.getElem?_replicate, hv]
      rw [e]
      exact Bs.zero hl
    | succ k ih =>
      intro hk
      obtain ⟨x, hx⟩ := ih (by omega)
      have hne : ∀ v, k ≠ v → decide (v < k + 1) = decide (v < k) := fun v hv => by
        by_cases h : v < k
        · rw [decide_eq_true h, decide_eq_true (by omega)]
        · rw [decide_eq_false h, decide_eq_false (by omega)]
      cases hb : l.getD k false with
      | true =>
        have hs := hx.set (v := k) (by rw [tab_len]; omega)
        have e : (tab l.length fun u => decide (u < k + 1) && l.getD u false) = (tab l.length fun u => decide (u < k) && l.getD u false).set k true := list_ext (by simp [tab_len]) fun v hv => by
          rw [tab_len] at hv
          rw [tab_get hv]
          by_cases e : k = v
          · subst e
            rw [hb, decide_eq_true (by omega)]
            simp [List.getD_eq_getElem?_getD, tab_len, hv]
          · rw [hne v e]
            have := tab_get (n := l.length) (f := fun u => decide (u < k) && l.getD u false) hv
            rw [← this]
            simp only [List.getD_eq_getElem?_getD]
            rw [List.getElem?_set_ne e]
        rw [← e] at hs
        exact ⟨_, hs⟩
      | false =>
        refine ⟨x, ?_⟩
        have e : (tab l.length fun u => decide (u < k + 1) && l.getD u false) = (tab l.length fun u => decide (u < k) && l.getD u false) := list_ext (by simp [tab_len]) fun v hv => by
          rw [tab_len] at hv
          rw [tab_get hv, tab_get hv]
          by_cases e : k = v
          · subst e; rw [hb, Bool.and_false, Bool.and_false]
          · rw [hne v e]
        rw [e]; exact hx
  obtain ⟨x, hx⟩ := this l.length (Nat.le_refl _)
  refine ⟨x, ?_⟩
  have e : (tab l.length fun u => decide (u < l.length) && l.getD u false) = l := list_ext (by simp [tab_len]) fun v hv => by
    rw [tab_len] at hv
    rw [tab_get hv, decide_eq_true hv, Bool.true_and]
  rw [e] at hx
  exact hx

section
variable (O R : List Int) (M : List (List Int))

end

section
variable {n : Nat} {O R : List Int} {M : List (List Int)}

end
end Go.Proofs


/-
  SolveGame.
-/
namespace Go.Proofs
open Go.Ide Go.IntWalk

section
variable {n : Nat} {O R : List Int} {M : List (List Int)}

end
end Go.Proofs


/-
  SolveGame: the program's side.
-/
namespace Go.Proofs
open Go.Ide Go.IntWalk

open Classical in
noncomputable def enc (l : List Bool) : Int := if h : l.length ≤ 16 then Classical.choose (Bs.exists h) else 0

section
variable {n : Nat} {O R : List Int} {M : List (List Int)}

end

end Go.Proofs


/-
  IsWinning, MovesOfGame.
-/
namespace Go.Proofs
open Go.Ide Go.IntWalk

theorem clone_ok {α : Type} {xs : List α} (h : xs.length ≤ 1048576) : slices_Clone xs = some xs := by
  unfold slices_Clone
  rw [guard_pos (by simp only [appMax]; omega)]

theorem ownGame {O R : List Int} {M : List (List Int)} (h1 : O.length ≤ 1048576) (h2 : R.length ≤ 1048576) (h3 : M.length ≤ 1048576) (hh : ∀ y ∈ M, y.length ≤ 1048576) : spec_l07OwnGame (O, R, M) = some (O, R, M) := by
  have := loop_app (f := spec_l07OwnGame_B1 (O, R, M)) (fun i => M.getD i []) M.length [] (fun i out hi ho => by
    have hl := hh _ (mem_getD hi [])
    unfold spec_l07OwnGame_B1
    simp only [lenI, ltN hi, cond_true, Int.toNat_natCast, nextN hi (show M.length ≤ 4294967296 by omega)]
    rw [guard_pos (idxN hi), guard_pos (by simp only [appMax]; omega), guard_pos (by simp only [List.length_singleton, appMax, ho, List.length_nil]; omega)]) (fun out => by
    unfold spec_l07OwnGame_B1
    simp only [lenI, geN (Nat.le_refl _), cond_false])
  unfold spec_l07OwnGame
  rw [guard_pos (by simp only [appMax]; omega), guard_pos (by simp only [appMax]; omega), this, List.nil_append]
  have e : (List.range M.length).map (fun i => M.getD i []) = M := by
    refine List.ext_getElem (by simp) fun i q1 q2 => ?_
    simp [List.getD_eq_getElem?_getD, q2]
  rw [e]; rfl

def hasB (xs : List Int) (a : Int) : Bool := !(allN (fun i => !(xs.getD i 0 == a)) xs.length 0)

theorem implHas {xs : List Int} {a : Int} (h : xs.length ≤ 1048576) : slices_Contains___int64_int64 xs a = some (hasB xs a) := by
  obtain ⟨j, this⟩ := rounds_find2 (f := slices_Index___int64_int64_B1 xs a) (fun i => ((i : Nat) : Int)) (fun i => !(xs.getD i 0 == a)) (Sum.inl ()) (fun i => Sum.inr ((i : Nat) : Int)) (n := xs.length) (fun i hi => by
    unfold slices_Index___int64_int64_B1
    simp only [lenI, ltN hi, cond_true, Int.toNat_natCast, nextN hi (show xs.length ≤ 4294967296 by omega), guard_pos (idxN hi)]
    have e : (a == xs.getD i 0) = (xs.getD i 0 == a) := by rw [Bool.eq_iff_iff, beq_iff_eq, beq_iff_eq]; exact ⟨fun h => h.symm, fun h => h.symm⟩
    rw [e]
    cases (xs.getD i 0 == a) <;> rfl) (by
    unfold slices_Index___int64_int64_B1
    simp only [lenI, geN (Nat.le_refl _), cond_false]) xs.length 0 (by omega)
  simp only [Int.natCast_zero] at this
  unfold slices_Contains___int64_int64 slices_Index___int64_int64 hasB
  rw [this]
  cases allN (fun i => !(xs.getD i 0 == a)) xs.length 0 with
  | true => rfl
  | false =>
    simp only [cond_false, Option.bind_some, ge_iff_le]
    rw [decide_eq_true (Int.natCast_nonneg j)]
    rfl

section
variable {n : Nat} {O R W mv : List Int} {M : List (List Int)}

end

end Go.Proofs


/-
  GamesShared, TurnGame.
-/
namespace Go.Proofs
open Go.Ide Go.IntWalk

def turnO (O : List Int) : List Int := O.map fun x => 1 - x
def turnR (R : List Int) : List Int := R.map fun x => x + 1

theorem allIn_map {xs : List Int} {f : Int → Int} {b c b' c' : Int} (h : ∀ x ∈ xs, ((x ≥ b ∧ x ≤ c) ↔ (f x ≥ b' ∧ f x ≤ c'))) : allIn (xs.map f) b' c' = allIn xs b c := by
  unfold allIn
  rw [List.all_map, Bool.eq_iff_iff, List.all_eq_true, List.all_eq_true]
  simp only [Function.comp, Bool.and_eq_true, decide_eq_true_eq]
  exact ⟨fun hx x hm => (h x hm).2 (hx x hm), fun hx x hm => (h x hm).1 (hx x hm)⟩

theorem okG_turn {O R : List Int} {M : List (List Int)} (h : okG O R M = true) : okG (turnO O) (turnR R) M = !(hasB R 8) := by
  unfold okG at h ⊢
  simp only [Bool.and_eq_true, decide_eq_true_eq] at h
  obtain ⟨⟨h1, h2⟩, h3, h4, h5, h6, h7⟩ := h
  have e1 : lenI (turnO O) = lenI O := by simp [lenI, turnO]
  have e2 : lenI (turnR R) = lenI R := by simp [lenI, turnR]
  have e3 : allIn (turnO O) 0 1 = true := by
    unfold turnO
    rw [allIn_map (b := 0) (c := 1) (fun x _ => ⟨fun h => ⟨by omega, by omega⟩, fun h => ⟨by omega, by omega⟩⟩)]; exact h5
  have e4 : allIn (turnR R) 0 8 = !(hasB R 8) := by
    rw [Bool.eq_iff_iff, allIn_iff]
    unfold hasB
    rw [Bool.not_not, allN_iff]
    have hr := allIn_iff.1 h6
    have hg : ∀ i, i < R.length → (turnR R).getD i 0 = R.getD i 0 + 1 := fun i hi => by
      unfold turnR
      simp [List.getD_eq_getElem?_getD, hi]
    constructor
    · intro h i _ hi
      have := h i (by simp [turnR]; omega)
      rw [hg i (by omega)] at this
      simp only [Bool.not_eq_true', beq_eq_false_iff_ne, ne_eq]
      omega
    · intro h i hi
      have hi : i < R.length := by simpa [turnR] using hi
      have := h i (by omega) (by omega)
      simp only [Bool.not_eq_true', beq_eq_false_iff_ne, ne_eq] at this
      rw [hg i hi]
      have := hr i hi
      omega
  rw [e1, e2, e3, e4, h3, h4, h7]
  have e5 : decide (lenI O ≥ 1) = true := decide_eq_true h1
  have e6 : decide (lenI O ≤ 16) = true := decide_eq_true h2
  rw [e5, e6]
  cases hasB R 8 <;> rfl

theorem turn_take {f : Int → Int} {xs : List Int} {i : Nat} (hi : i < xs.length) : ((xs.take i).map f ++ xs.drop i).set i (f (xs.getD i 0)) = (xs.take (i + 1)).map f ++ xs.drop (i + 1) := by
  rw [drop_cons hi 0, set_at (by simp [Nat.min_eq_left (Nat.le_of_lt hi)]), take_snoc hi 0]
  simp

theorem turn_get {f : Int → Int} {xs : List Int} {i : Nat} (hi : i < xs.length) : ((xs.take i).map f ++ xs.drop i).getD i 0 = xs.getD i 0 := by
  rw [List.getD_eq_getElem?_getD, List.getElem?_append_right (by simp [Nat.min_le_left]), List.getElem?_drop, List.getD_eq_getElem?_getD]
  simp only [List.length_map, List.length_take]
  rw [show min i xs.length = i by omega]
  simp

theorem TurnGame_eq {x0_0 x0_1 : List Int} {x0_2 : List (List Int)} (g1 : x0_0.length ≤ 1048576) (g2 : x0_1.length ≤ 1048576) (g3 : x0_2.length ≤ 1048576 ∧ ∀ y ∈ x0_2, y.length ≤ 1048576) :
    ∃ r, spec_TurnGame (x0_0, x0_1, x0_2) = some r ∧ impl_TurnGame (x0_0, x0_1, x0_2) = some r ∧ r.1.1.length ≤ 1000000 ∧ r.1.2.1.length ≤ 1000000 ∧ (r.1.2.2.length ≤ 1000000 ∧ ∀ y ∈ r.1.2.2, y.length ≤ 1000000) := by
  unfold spec_TurnGame impl_TurnGame
  simp only [specGame g3.1 g3.2, implGame g3.1 g3.2 g1 g2, Option.bind_some]
  cases hg : okG x0_0 x0_1 x0_2 with
  | false => exact ⟨_, rfl, rfl, by simp⟩
  | true =>
    have g := game_of g3.2 hg
    have n1 := g.n1
    have n2 := g.n2
    have lr := g.lr
    have lm := g.lm
    -- all moves are few
    have hmv : ∀ y ∈ x0_2, y.length ≤ 16 := by
      intro y hy
      obtain ⟨v, hv, rfl⟩ := List.getElem_of_mem hy
      have hok := hg
      unfold okG at hok
      simp only [Bool.and_eq_true] at hok
      have := allN_iff.1 hok.2.2.2.2.2 v (by omega) (by omega)
      unfold okMv at this
      rw [Bool.and_eq_true] at this
      have hall := allN_iff.1 this.2
      rw [List.getD_eq_getElem?_getD, List.getElem?_eq_getElem hv] at hall
      simp only [Option.getD_some] at hall
      generalize hz : x0_2[v] = ys at hall
      -- rising numbers below n
      have rise : ∀ k, k < ys.length → (k : Int) ≤ ys.getD k 0 ∧ ys.getD k 0 ≤ (x0_0.length : Int) - 1 := by
        intro k
        induction k with
        | zero =>
          intro hk
          have := hall 0 (by omega) (by omega)
          unfold riseB at this
          simp only [Bool.and_eq_true, decide_eq_true_eq] at this
          have h8 := this.1
          rw [wsubI (by simp only [lenI]; omega)] at h8
          simp only [lenI] at h8
          exact ⟨by omega, by omega⟩
        | succ k ih =>
          intro hk
          have h0 := ih (by omega)
          have := hall (k + 1) (by omega) (by omega)
          unfold riseB at this
          simp only [Bool.and_eq_true, decide_eq_true_eq] at this
          have h8 := this.1
          rw [wsubI (by simp only [lenI]; omega)] at h8
          have h9 := this.2
          simp only [Nat.add_sub_cancel, Bool.not_eq_true', Bool.and_eq_false_iff, decide_eq_false_iff_not] at h9
          have h8a := h8.2
          simp only [lenI] at h8a
          exact ⟨by omega, by omega⟩
      by_cases h16 : ys.length ≤ 16
      · exact h16
      · have := rise 16 (by omega)
        omega
    have hgO : ∀ i, i < x0_0.length → wsub .i64 (1 : Int) (x0_0.getD i 0) = 1 - x0_0.getD i 0 := fun i hi => by
      have := g.ow i hi
      exact wsubI (by omega)
    have hgR : ∀ i, i < x0_1.length → wadd .i64 (x0_1.getD i 0) (1 : Int) = x0_1.getD i 0 + 1 := fun i hi => by
      obtain ⟨r, e, h⟩ := g.rk i (by omega)
      rw [e]
      exact waddI (by omega)
    have hsp := rounds_forS (f := spec_TurnGame_B1 (x0_0, x0_1, x0_2)) (fun i (s : List Int × List Int) => (((i : Nat) : Int), s.1, s.2)) (fun i s => (s.1.set i (1 - x0_0.getD i 0), s.2.set i (x0_1.getD i 0 + 1))) id (n := x0_0.length)
      (fun i s => s = ((x0_0.take i).map (fun x => 1 - x) ++ x0_0.drop i, (x0_1.take i).map (fun x => x + 1) ++ x0_1.drop i))
      (fun i s hi hs => ⟨by
        subst hs
        have l1 : ((x0_0.take i).map (fun x => 1 - x) ++ x0_0.drop i).length = x0_0.length := by simp; omega
        have l2 : ((x0_1.take i).map (fun x => x + 1) ++ x0_1.drop i).length = x0_0.length := by simp; omega
        unfold spec_TurnGame_B1
        simp only [lenI, ltN hi, cond_true, Int.toNat_natCast, nextN hi (show x0_0.length ≤ 4294967296 by omega), l1, l2, guard_pos (idxN hi), Option.bind_some, turn_get hi, turn_get (xs := x0_1) (show i < x0_1.length by omega), hgO i hi, hgR i (by omega)], by
        subst hs
        simp only
        rw [turn_take (f := fun x => 1 - x) hi, turn_take (f := fun x => x + 1) (show i < x0_1.length by omega)]⟩)
      (fun s hs => by
        subst hs
        unfold spec_TurnGame_B1
        simp only [lenI, geN (Nat.le_refl _), cond_false]
        rfl) x0_0.length 0 (x0_0, x0_1) (by omega) (by simp)
    have hsp2 : rounds (spec_TurnGame_B1 (x0_0, x0_1, x0_2)) ((0 : Int), x0_0, x0_1) = some (turnO x0_0, turnR x0_1) := by
      have h1 := hsp.1
      rw [hsp.2] at h1
      rw [show ((0 : Int), x0_0, x0_1) = (((0 : Nat) : Int), x0_0, x0_1) from rfl, h1]
      simp only [id, turnO, turnR]
      rw [List.take_of_length_le (Nat.le_refl _), List.take_of_length_le (show x0_1.length ≤ x0_0.length by omega), List.drop_of_length_le (Nat.le_refl _), List.drop_of_length_le (show x0_1.length ≤ x0_0.length by omega), List.append_nil, List.append_nil]
    have him := rounds_forS (f := impl_TurnGame_B1 (x0_0, x0_1, x0_2)) (fun i (s : List Int × List Int × List (List Int)) => (((i : Nat) : Int), s.1, s.2.1, s.2.2)) (fun i s => (s.1 ++ [1 - x0_0.getD i 0], s.2.1 ++ [x0_1.getD i 0 + 1], s.2.2 ++ [x0_2.getD i []])) id (n := x0_0.length)
      (fun i s => s = ((x0_0.take i).map (fun x => 1 - x), (x0_1.take i).map (fun x => x + 1), x0_2.take i))
      (fun i s hi hs => ⟨by
        subst hs
        have hc : slices_Clone (List.getD x0_2 i []) = some (List.getD x0_2 i []) := clone_ok (g3.2 _ (mem_getD (by omega) []))
        have a1 : ∀ {α β : Type} (f : α → β) (xs : List α) (z : β), (List.map f (List.take i xs)).length + [z].length ≤ appMax := fun f xs z => by simp [appMax]; omega
        have a2 : (List.take i x0_2).length + [List.getD x0_2 i ([] : List Int)].length ≤ appMax := by simp [appMax]; omega
        unfold impl_TurnGame_B1
        simp only [lenI, ltN hi, cond_true, Int.toNat_natCast, nextN hi (show x0_0.length ≤ 4294967296 by omega), hgO i hi, hgR i (show i < x0_1.length by omega), hc, Option.bind_some]
        rw [guard_pos (idxN hi), guard_pos (a1 _ _ _), guard_pos (idxN (show i < x0_1.length by omega)), guard_pos (a1 _ _ _), guard_pos (idxN (show i < x0_2.length by omega)), guard_pos a2], by
        subst hs
        simp only
        rw [take_snoc hi 0, take_snoc (show i < x0_1.length by omega) 0, take_snoc (show i < x0_2.length by omega) []]
        simp⟩)
      (fun s hs => by
        subst hs
        unfold impl_TurnGame_B1
        simp only [lenI, geN (Nat.le_refl _), cond_false]
        rfl) x0_0.length 0 ([], [], []) (by omega) (by simp)
    have him2 : rounds (impl_TurnGame_B1 (x0_0, x0_1, x0_2)) ((0 : Int), ([] : List Int), ([] : List Int), ([] : List (List Int))) = some (turnO x0_0, turnR x0_1, x0_2) := by
      have h1 := him.1
      rw [him.2] at h1
      rw [show ((0 : Int), ([] : List Int), ([] : List Int), ([] : List (List Int))) = (((0 : Nat) : Int), ([] : List Int), ([] : List Int), ([] : List (List Int))) from rfl, h1]
      simp only [id, turnO, turnR]
      rw [List.take_of_length_le (Nat.le_refl _), List.take_of_length_le (show x0_1.length ≤ x0_0.length by omega), List.take_of_length_le (show x0_2.length ≤ x0_0.length by omega)]
    simp only [Bool.not_true, cond_false, ownGame g1 g2 g3.1 g3.2, Option.bind_some, hsp2, specGame g3.1 g3.2, okG_turn hg, implHas (xs := x0_1) g2]
    cases hasB x0_1 8 with
    | true => exact ⟨_, rfl, rfl, by simp⟩
    | false =>
      simp only [Bool.not_false, Bool.not_true, cond_false, him2, Option.bind_some]
      exact ⟨_, rfl, rfl, by simp [turnO]; omega, by simp [turnR]; omega, by simp only; omega, fun y hy => by have := hmv y hy; omega⟩

end Go.Proofs


namespace Go.Proofs
open Go.Ide Go.IntWalk

theorem TurnGame_law (x0 : List Int × List Int × List (List Int)) (w0 : WfD (.st (.pair tLI (.pair tLI (.sl tLI)))) x0) : laws_FnExactTurnGame x0 = some true := by
  obtain ⟨x0_0, ⟨x0_1, x0_2⟩⟩ := x0
  have hx0_0 : x0_0.length ≤ 9223372036854775807 := Nat.le_trans (w0.1.1) (by decide)
  have hx0_1 : x0_1.length ≤ 9223372036854775807 := Nat.le_trans (w0.2.1.1) (by decide)
  have hx0_2 : (x0_2.length ≤ 9223372036854775807 ∧ ∀ y ∈ x0_2, y.length ≤ 9223372036854775807) := ⟨Nat.le_trans (w0.2.2.1) (by decide), fun y hy => by
    have w := wf_mem (t := tLI) w0.2.2.2 hy
    exact Nat.le_trans (w.1) (by decide)⟩
  unfold laws_FnExactTurnGame
  obtain ⟨m1, a1, b1⟩ := szGame_ok (n := 1048576) (x0 := x0_0) (x1 := x0_1) (x2 := x0_2) hx0_0 hx0_1 hx0_2 (by omega)
  simp only [a1, Option.bind_some]
  by_cases c1 : m1 < 0
  · simp only [c1, decide_true, cond_true]
  · obtain ⟨⟨ox0_0, ox0_1, ox0_2⟩, d1, f1⟩ := b1.resolve_left c1
    simp only [c1, decide_false, cond_false]
    obtain ⟨⟨⟨r0_0, ⟨r0_1, r0_2⟩⟩, r1_0⟩, k1, k2, or0_0, or0_1, or0_2⟩ := TurnGame_eq (x0_0 := x0_0) (x0_1 := x0_1) (x0_2 := x0_2) ox0_0 ox0_1 ox0_2
    have or0_0 : r0_0.length ≤ 1000000 := or0_0
    have or0_1 : r0_1.length ≤ 1000000 := or0_1
    have or0_2 : (r0_2.length ≤ 1000000 ∧ ∀ y ∈ r0_2, y.length ≤ 1000000) := or0_2
    have nx0_2 := markRows_bd (E := fun (k : Int) (x : List Int) => (k + ((1 * x.length : Nat) : Int), marksG (fun k => k) 1 k x.length)) (M := 1048576) (xs := x0_2) (k := (1 : Int) + ((1 * x0_0.length : Nat) : Int) + ((1 * x0_1.length : Nat) : Int)) (fun k x hx => by have := (ox0_2).2 x hx; exact ⟨by omega, by omega⟩)
    have qx0_2 : x0_2.length * 1048576 ≤ 1048576 * 1048576 := Nat.mul_le_mul_right _ (by have := (ox0_2).1; omega)
    have nr0_2 := markRows_bd (E := fun (k : Int) (x : List Int) => (k + ((1 * x.length : Nat) : Int), marksG (fun k => k) 1 k x.length)) (M := 1048576) (xs := r0_2) (k := (1 : Int) + ((1 * r0_0.length : Nat) : Int) + ((1 * r0_1.length : Nat) : Int)) (fun k x hx => by have := (or0_2).2 x hx; exact ⟨by omega, by omega⟩)
    have qr0_2 : r0_2.length * 1048576 ≤ 1048576 * 1048576 := Nat.mul_le_mul_right _ (by have := (or0_2).1; omega)
    simp only [k1,
      k2,
      Option.bind_some,
      Bool.not_true,
      cond_false,
      bne_self_eq_false,
      cond_true,
      toGame_ok (x0 := x0_0) (x1 := x0_1) (x2 := x0_2) ox0_0 ox0_1 ox0_2,
      eqGame_ok (x0 := x0_0) (x1 := x0_1) (x2 := x0_2) ox0_0 ox0_1 ox0_2,
      markGame_ok (k := (1 : Int)) (x0 := x0_0) (x1 := x0_1) (x2 := x0_2) ox0_0 ox0_1 ox0_2 (by omega),
      (show decide ((markRows (fun (k : Int) (x : List Int) => (k + ((1 * x.length : Nat) : Int), marksG (fun k => k) 1 k x.length)) ((1 : Int) + ((1 * x0_0.length : Nat) : Int) + ((1 * x0_1.length : Nat) : Int)) x0_2).1 < 0) = false from by simp only [decide_eq_false_iff_not]; omega),
      eqGame_ok (x0 := r0_0) (x1 := r0_1) (x2 := r0_2) (by omega : r0_0.length ≤ 1048576) (by omega : r0_1.length ≤ 1048576) (show (r0_2.length ≤ 1048576 ∧ ∀ y ∈ r0_2, y.length ≤ 1048576) from ⟨by have := or0_2.1; omega, fun y hy => by have := or0_2.2 y hy; omega⟩),
      markGame_ok (k := (1 : Int)) (x0 := r0_0) (x1 := r0_1) (x2 := r0_2) (by omega : r0_0.length ≤ 1048576) (by omega : r0_1.length ≤ 1048576) (show (r0_2.length ≤ 1048576 ∧ ∀ y ∈ r0_2, y.length ≤ 1048576) from ⟨by have := or0_2.1; omega, fun y hy => by have := or0_2.2 y hy; omega⟩) (by omega),
      heldGame_ok (k := (1 : Int)) (by omega : r0_0.length ≤ 1048576) (by omega : r0_1.length ≤ 1048576) (show (r0_2.length ≤ 1048576 ∧ ∀ y ∈ r0_2, y.length ≤ 1048576) from ⟨by have := or0_2.1; omega, fun y hy => by have := or0_2.2 y hy; omega⟩) (by omega),
      (show decide ((markRows (fun (k : Int) (x : List Int) => (k + ((1 * x.length : Nat) : Int), marksG (fun k => k) 1 k x.length)) ((1 : Int) + ((1 * r0_0.length : Nat) : Int) + ((1 * r0_1.length : Nat) : Int)) r0_2).1 < 0) = false from by simp only [decide_eq_false_iff_not]; omega)]

end Go.Proofs
