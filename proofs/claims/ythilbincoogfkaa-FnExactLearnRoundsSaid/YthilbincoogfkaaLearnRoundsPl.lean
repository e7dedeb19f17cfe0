import Derived.Test.YthilbincoogfkaaLearnRoundsGenB
set_option linter.unusedVariables false
set_option linter.unusedSimpArgs false
set_option linter.unusedSectionVars false

namespace Go.Proofs
open Go.Ide Go.IntWalk

theorem sameFloat_ok (x : Nat) : laws_sameFloat x x = some true := by
  unfold laws_sameFloat
  cases h1 : feq .f64 x x <;> cases h2 : feq .f64 x 0 <;> simp [h1, h2]

theorem szFloat32S_ok {xs : List Nat} {n : Int} (hx : xs.length ≤ 9223372036854775807) (hn : 0 ≤ n ∧ n ≤ 1048576) : ∃ m, laws_szFloat32S xs n = some m ∧ (m < 0 ∨ (xs.length ≤ 1048576 ∧ 0 ≤ m ∧ m ≤ n)) := by
  unfold laws_szFloat32S
  have e : wsub .i64 n (lenI xs) = n - (xs.length : Int) := i64_in _ (by simp only [lenI]; omega)
  rw [e]
  by_cases h : n - (xs.length : Int) < 0
  · exact ⟨-1, by simp only [h, decide_true, cond_true], .inl (by omega)⟩
  · exact ⟨_, by simp only [h, decide_false, cond_false]; rfl, .inr ⟨by omega, by omega, by omega⟩⟩

theorem szInt64S_ok {xs : List Int} {n : Int} (hx : xs.length ≤ 9223372036854775807) (hn : 0 ≤ n ∧ n ≤ 1048576) : ∃ m, laws_szInt64S xs n = some m ∧ (m < 0 ∨ (xs.length ≤ 1048576 ∧ 0 ≤ m ∧ m ≤ n)) := by
  unfold laws_szInt64S
  have e : wsub .i64 n (lenI xs) = n - (xs.length : Int) := i64_in _ (by simp only [lenI]; omega)
  rw [e]
  by_cases h : n - (xs.length : Int) < 0
  · exact ⟨-1, by simp only [h, decide_true, cond_true], .inl (by omega)⟩
  · exact ⟨_, by simp only [h, decide_false, cond_false]; rfl, .inr ⟨by omega, by omega, by omega⟩⟩

theorem toInt64S_ok {xs : List Int} (h : xs.length ≤ 1048576) : laws_toInt64S xs = some xs := by
  unfold laws_toInt64S
  rw [guard_pos ⟨by simp only [lenI]; omega, by simp only [lenI]; omega⟩]
  have := loop_to (f := laws_toInt64S_B1 xs) xs (0 : Int) (fun i out hi hl => by
    unfold laws_toInt64S_B1
    simp only [ltN hi, cond_true, guard_pos (idxN hi), guard_pos (idxN (i := i) (n := out.length) (by omega)), Int.toNat_natCast, nextN hi (by omega)]) (fun out hl => by
    unfold laws_toInt64S_B1
    simp only [geN (Nat.le_refl _), cond_false])
  simp only [Int.toNat_natCast, this, Option.bind_some]

theorem toFloat32S_ok {xs : List Nat} (h : xs.length ≤ 1048576) : laws_toFloat32S xs = some xs := by
  unfold laws_toFloat32S
  rw [guard_pos ⟨by simp only [lenI]; omega, by simp only [lenI]; omega⟩]
  have := loop_to (f := laws_toFloat32S_B1 xs) xs (0 : Nat) (fun i out hi hl => by
    unfold laws_toFloat32S_B1
    simp only [ltN hi, cond_true, guard_pos (idxN hi), guard_pos (idxN (i := i) (n := out.length) (by omega)), Int.toNat_natCast, nextN hi (by omega)]) (fun out hl => by
    unfold laws_toFloat32S_B1
    simp only [geN (Nat.le_refl _), cond_false])
  simp only [Int.toNat_natCast, this, Option.bind_some]

theorem eqFloat32S_ok {xs : List Nat} (h : xs.length ≤ 1048576) : laws_eqFloat32S xs xs = some true := by
  unfold laws_eqFloat32S
  have := loop_eq (f := laws_eqFloat32S_B1 xs xs) (Sum.inl ()) xs.length (fun i hi => by
    unfold laws_eqFloat32S_B1
    simp only [ltN hi, cond_true, guard_pos (idxN hi), bne_self_eq_false, sameFloat_ok, Option.bind_some, Bool.not_true, cond_false, nextN hi (by omega)]) (by
    unfold laws_eqFloat32S_B1
    simp only [geN (Nat.le_refl _), cond_false])
  simp only [bne_self_eq_false, cond_false, this, Option.bind_some]

theorem eqInt64S_ok {xs : List Int} (h : xs.length ≤ 1048576) : laws_eqInt64S xs xs = some true := by
  unfold laws_eqInt64S
  have := loop_eq (f := laws_eqInt64S_B1 xs xs) (Sum.inl ()) xs.length (fun i hi => by
    unfold laws_eqInt64S_B1
    simp only [ltN hi, cond_true, guard_pos (idxN hi), bne_self_eq_false, cond_false, nextN hi (by omega)]) (by
    unfold laws_eqInt64S_B1
    simp only [geN (Nat.le_refl _), cond_false])
  simp only [bne_self_eq_false, cond_false, this, Option.bind_some]

theorem markInt64S_ok {xs : List Int} {k : Int} (h : xs.length ≤ 1048576) (hk : 0 ≤ k ∧ k ≤ 2000000000000) : laws_markInt64S xs k = some (k + ((1 * xs.length : Nat) : Int), marksG (fun k => k) 1 k xs.length) := by
  unfold laws_markInt64S
  have := loop_mark (f := laws_markInt64S_B1) (fun k => k) 1 k xs (fun i out hi hl => by
    unfold laws_markInt64S_B1
    have e := markN2 (c := 1) (i := i) (k0 := k) (by omega) (by omega) (by omega)
    simp only [lenI, hl, ltN hi, cond_true, guard_pos (idxN hi), Int.toNat_natCast, nextN hi (by omega)]
    simp only [Int.cast_ofNat_Int] at e
    rw [e]) (fun out hl => by
    unfold laws_markInt64S_B1
    simp only [lenI, hl, geN (Nat.le_refl _), cond_false])
  simp only [this, Option.bind_some]
  rw [guard_pos marksG_len]

theorem markFloat32S_ok {xs : List Nat} {k : Int} (h : xs.length ≤ 1048576) (hk : 0 ≤ k ∧ k ≤ 2000000000000) : laws_markFloat32S xs k = some (k + ((1 * xs.length : Nat) : Int), marksG (fun k => fofint .f32 k) 1 k xs.length) := by
  unfold laws_markFloat32S
  have := loop_mark (f := laws_markFloat32S_B1) (fun k => fofint .f32 k) 1 k xs (fun i out hi hl => by
    unfold laws_markFloat32S_B1
    have e := markN2 (c := 1) (i := i) (k0 := k) (by omega) (by omega) (by omega)
    simp only [lenI, hl, ltN hi, cond_true, guard_pos (idxN hi), Int.toNat_natCast, nextN hi (by omega)]
    simp only [Int.cast_ofNat_Int] at e
    rw [e]) (fun out hl => by
    unfold laws_markFloat32S_B1
    simp only [lenI, hl, geN (Nat.le_refl _), cond_false])
  simp only [this, Option.bind_some]
  rw [guard_pos marksG_len]

theorem heldFloat32S_ok {n : Nat} {k : Int} (h : n ≤ 1048576) (hk : 0 ≤ k ∧ k ≤ 1000000000) : laws_heldFloat32S (marksG (fun k => fofint .f32 k) 1 k n) k = some (k + ((1 * n : Nat) : Int)) := by
  unfold laws_heldFloat32S
  have := loop_held (f := laws_heldFloat32S_B1 (marksG (fun k => fofint .f32 k) 1 k n)) 1 k n (fun i hi => by
    unfold laws_heldFloat32S_B1
    have e := markN (c := 1) (i := i) (k0 := k) (by omega) (by omega) (by omega)
    simp only [Int.cast_ofNat_Int] at e
    simp only [lenI, marksG_len, ltN hi, cond_true, guard_pos (idxN hi), Int.toNat_natCast, nextN hi (by omega), marksG_get hi, feq_ofint, Bool.not_true, cond_false]
    rw [e]) (by
    unfold laws_heldFloat32S_B1
    simp only [lenI, marksG_len, geN (Nat.le_refl _), cond_false])
  simp only [this, Option.bind_some]

theorem szModel_ok {x0 : Int} {x1 : Int} {x2 : List Nat} {x3 : List Nat} {x4 : List Nat} {n : Int} (hx2 : x2.length ≤ 9223372036854775807) (hx3 : x3.length ≤ 9223372036854775807) (hx4 : x4.length ≤ 9223372036854775807) (hn : 0 ≤ n ∧ n ≤ 1048576) : ∃ m, laws_szModel (x0, x1, x2, x3, x4) n = some m ∧ (m < 0 ∨ ((x2.length ≤ 1048576 ∧ x3.length ≤ 1048576 ∧ x4.length ≤ 1048576) ∧ 0 ≤ m ∧ m ≤ n)) := by
  unfold laws_szModel
  obtain ⟨m1, h1, k1⟩ := szFloat32S_ok (n := n) (xs := x2) hx2 (by omega)
  simp only [h1, Option.bind_some]
  by_cases c1 : m1 < 0
  · simp only [c1, decide_true, cond_true]; exact ⟨-1, rfl, .inl (by omega)⟩
  · obtain ⟨g1, p1, q1⟩ := k1.resolve_left c1
    simp only [c1, decide_false, cond_false]
    obtain ⟨m2, h2, k2⟩ := szFloat32S_ok (n := m1) (xs := x3) hx3 (by omega)
    simp only [h2, Option.bind_some]
    by_cases c2 : m2 < 0
    · simp only [c2, decide_true, cond_true]; exact ⟨-1, rfl, .inl (by omega)⟩
    · obtain ⟨g2, p2, q2⟩ := k2.resolve_left c2
      simp only [c2, decide_false, cond_false]
      obtain ⟨m3, h3, k3⟩ := szFloat32S_ok (n := m2) (xs := x4) hx4 (by omega)
      simp only [h3, Option.bind_some]
      by_cases c3 : m3 < 0
      · simp only [c3, decide_true, cond_true]; exact ⟨-1, rfl, .inl (by omega)⟩
      · obtain ⟨g3, p3, q3⟩ := k3.resolve_left c3
        simp only [c3, decide_false, cond_false]
        exact ⟨_, rfl, .inr ⟨⟨g1, g2, g3⟩, by omega, by omega⟩⟩

theorem szInt64SS_ok {xs : List (List Int)} {n : Int} (hx : (xs.length ≤ 9223372036854775807 ∧ ∀ y ∈ xs, y.length ≤ 9223372036854775807)) (hn : 0 ≤ n ∧ n ≤ 1048576) : ∃ m, laws_szInt64SS xs n = some m ∧ (m < 0 ∨ ((xs.length ≤ 1048576 ∧ ∀ y ∈ xs, y.length ≤ 1048576) ∧ 0 ≤ m ∧ m ≤ n)) := by
  obtain ⟨hx, hh⟩ := hx
  unfold laws_szInt64SS
  have e : wsub .i64 n (lenI xs) = n - (xs.length : Int) := i64_in _ (by simp only [lenI]; omega)
  rw [e]
  by_cases h : n - (xs.length : Int) < 0
  · exact ⟨-1, by simp only [h, decide_true, cond_true], .inl (by omega)⟩
  · rcases loop_sz (f := laws_szInt64SS_B1 xs) (u := ()) xs ([] : List Int) (fun y => y.length ≤ 1048576) (n - (xs.length : Int)) (by omega) (fun i n' hi h1 h2 => by
      have he := hh _ (mem_getD hi ([] : List Int))
      obtain ⟨m, e1, e2⟩ := szInt64S_ok (n := n') he (by omega)
      refine ⟨m, ?_, e2⟩
      unfold laws_szInt64SS_B1
      simp only [ltN hi, cond_true, guard_pos (idxN hi), Int.toNat_natCast, e1, Option.bind_some, nextN hi (by omega)]
      by_cases hm : m < 0
      · simp only [hm, decide_true, cond_true, if_true]
      · simp only [hm, decide_false, cond_false, if_false]) (fun n' => by
      unfold laws_szInt64SS_B1
      simp only [geN (Nat.le_refl _), cond_false]) with ⟨m, e1, e2, e3, e4⟩ | e1
    · exact ⟨m, by simp only [h, decide_false, cond_false, e1, Option.bind_some], .inr ⟨⟨by omega, e4⟩, by omega, by omega⟩⟩
    · exact ⟨-1, by simp only [h, decide_false, cond_false, e1, Option.bind_some], .inl (by omega)⟩

theorem toModel_ok {x0 : Int} {x1 : Int} {x2 : List Nat} {x3 : List Nat} {x4 : List Nat} (hx2 : x2.length ≤ 1048576) (hx3 : x3.length ≤ 1048576) (hx4 : x4.length ≤ 1048576) : laws_toModel (x0, x1, x2, x3, x4) = some (x0, x1, x2, x3, x4) := by
  unfold laws_toModel
  simp only [toFloat32S_ok hx2, toFloat32S_ok hx3, toFloat32S_ok hx4, Option.bind_some]

theorem toInt64SS_ok {xs : List (List Int)} (h : (xs.length ≤ 1048576 ∧ ∀ y ∈ xs, y.length ≤ 1048576)) : laws_toInt64SS xs = some xs := by
  obtain ⟨h, hh⟩ := h
  unfold laws_toInt64SS
  rw [guard_pos ⟨by simp only [lenI]; omega, by simp only [lenI]; omega⟩]
  have := loop_to (f := laws_toInt64SS_B1 xs) xs ([] : List Int) (fun i out hi hl => by
    have he := hh _ (mem_getD hi ([] : List Int))
    unfold laws_toInt64SS_B1
    simp only [ltN hi, cond_true, guard_pos (idxN hi), guard_pos (idxN (i := i) (n := out.length) (by omega)), Int.toNat_natCast, nextN hi (by omega), toInt64S_ok he, Option.bind_some]) (fun out hl => by
    unfold laws_toInt64SS_B1
    simp only [geN (Nat.le_refl _), cond_false])
  simp only [Int.toNat_natCast, this, Option.bind_some]

theorem eqModel_ok {x0 : Int} {x1 : Int} {x2 : List Nat} {x3 : List Nat} {x4 : List Nat} (hx2 : x2.length ≤ 1048576) (hx3 : x3.length ≤ 1048576) (hx4 : x4.length ≤ 1048576) : laws_eqModel (x0, x1, x2, x3, x4) (x0, x1, x2, x3, x4) = some true := by
  unfold laws_eqModel
  simp only [eqFloat32S_ok hx2, eqFloat32S_ok hx3, eqFloat32S_ok hx4, Option.bind_some, bne_self_eq_false, Bool.not_true, cond_false, decide_true]

theorem eqInt64SS_ok {xs : List (List Int)} (h : (xs.length ≤ 1048576 ∧ ∀ y ∈ xs, y.length ≤ 1048576)) : laws_eqInt64SS xs xs = some true := by
  obtain ⟨h, hh⟩ := h
  unfold laws_eqInt64SS
  have := loop_eq (f := laws_eqInt64SS_B1 xs xs) (Sum.inl ()) xs.length (fun i hi => by
    have he := hh _ (mem_getD hi ([] : List Int))
    unfold laws_eqInt64SS_B1
    simp only [ltN hi, cond_true, guard_pos (idxN hi), Int.toNat_natCast, eqInt64S_ok he, Option.bind_some, Bool.not_true, cond_false, nextN hi (by omega)]) (by
    unfold laws_eqInt64SS_B1
    simp only [geN (Nat.le_refl _), cond_false])
  simp only [bne_self_eq_false, cond_false, this, Option.bind_some]

theorem markModel_ok {x0 : Int} {x1 : Int} {x2 : List Nat} {x3 : List Nat} {x4 : List Nat} {k : Int} (hx2 : x2.length ≤ 1048576) (hx3 : x3.length ≤ 1048576) (hx4 : x4.length ≤ 1048576) (hk : 0 ≤ k ∧ k ≤ 800000000) : laws_markModel (x0, x1, x2, x3, x4) k = some (k + ((1 * x2.length : Nat) : Int) + ((1 * x3.length : Nat) : Int) + ((1 * x4.length : Nat) : Int), (x0, x1, marksG (fun k => fofint .f32 k) 1 (k) x2.length, marksG (fun k => fofint .f32 k) 1 (k + ((1 * x2.length : Nat) : Int)) x3.length, marksG (fun k => fofint .f32 k) 1 (k + ((1 * x2.length : Nat) : Int) + ((1 * x3.length : Nat) : Int)) x4.length)) := by
  unfold laws_markModel
  simp only [markFloat32S_ok (k := k) hx2 (by omega), markFloat32S_ok (k := k + ((1 * x2.length : Nat) : Int)) hx3 (by omega), markFloat32S_ok (k := k + ((1 * x2.length : Nat) : Int) + ((1 * x3.length : Nat) : Int)) hx4 (by omega), Option.bind_some]
  simp only [guardP, marksG_len, if_true]

theorem markInt64SS_ok {xs : List (List Int)} {k : Int} (h : (xs.length ≤ 1048576 ∧ ∀ y ∈ xs, y.length ≤ 1048576)) (hk : 0 ≤ k ∧ k ≤ 1000000000) : laws_markInt64SS xs k = some (markRows (fun (k : Int) (x : List Int) => (k + ((1 * x.length : Nat) : Int), marksG (fun k => k) 1 k x.length)) k xs) := by
  obtain ⟨h, hh⟩ := h
  unfold laws_markInt64SS
  have := loop_markE (f := laws_markInt64SS_B1) (fun (k : Int) (x : List Int) => (k + ((1 * x.length : Nat) : Int), marksG (fun k => k) 1 k x.length)) 1048576 k xs ([] : List Int) (fun k x hx => by have := hh x hx; exact ⟨by omega, by omega⟩) (fun k' i out hi hl hg h1 h2 => by
    have hx := hh _ (mem_getD hi ([] : List Int))
    have h3 : i * 1048576 ≤ 1048576 * 1048576 := Nat.mul_le_mul_right _ (by omega)
    unfold laws_markInt64SS_B1
    simp only [lenI, hl, ltN hi, cond_true, guard_pos (idxN hi), Int.toNat_natCast, hg, markInt64S_ok hx (show 0 ≤ k' ∧ k' ≤ 2000000000000 by omega), Option.bind_some, nextN hi (show xs.length ≤ 4294967296 by omega)]) (fun k' out hl => by
    unfold laws_markInt64SS_B1
    simp only [lenI, hl, geN (Nat.le_refl _), cond_false])
  simp only [this, Option.bind_some]
  rw [guard_pos (ShapeEq.own (markRows_len _ _ _).symm (markRows_get List.length [] (fun k x _ => by simp only [marksG_len])))]

theorem heldModel_ok {x0 : Int} {x1 : Int} {x2 : List Nat} {x3 : List Nat} {x4 : List Nat} {k : Int} (hx2 : x2.length ≤ 1048576) (hx3 : x3.length ≤ 1048576) (hx4 : x4.length ≤ 1048576) (hk : 0 ≤ k ∧ k ≤ 800000000) : laws_heldModel (x0, x1, marksG (fun k => fofint .f32 k) 1 (k) x2.length, marksG (fun k => fofint .f32 k) 1 (k + ((1 * x2.length : Nat) : Int)) x3.length, marksG (fun k => fofint .f32 k) 1 (k + ((1 * x2.length : Nat) : Int) + ((1 * x3.length : Nat) : Int)) x4.length) k = some (k + ((1 * x2.length : Nat) : Int) + ((1 * x3.length : Nat) : Int) + ((1 * x4.length : Nat) : Int)) := by
  unfold laws_heldModel
  simp only [heldFloat32S_ok (k := k) hx2 (by omega), heldFloat32S_ok (k := k + ((1 * x2.length : Nat) : Int)) hx3 (by omega), heldFloat32S_ok (k := k + ((1 * x2.length : Nat) : Int) + ((1 * x3.length : Nat) : Int)) hx4 (by omega), Option.bind_some, (show decide (k + ((1 * x2.length : Nat) : Int) < 0) = false from by simp only [decide_eq_false_iff_not]; omega), (show decide (k + ((1 * x2.length : Nat) : Int) + ((1 * x3.length : Nat) : Int) < 0) = false from by simp only [decide_eq_false_iff_not]; omega), (show decide (k + ((1 * x2.length : Nat) : Int) + ((1 * x3.length : Nat) : Int) + ((1 * x4.length : Nat) : Int) < 0) = false from by simp only [decide_eq_false_iff_not]; omega), cond_false]

end Go.Proofs


namespace Go.Proofs
open Go.Ide Go.IntWalk

theorem in64 (a b c : Int) : spec_l00In a b c = some (decide (a ≥ b) && decide (a ≤ c)) := by
  unfold spec_l00In
  cases h : decide (a ≥ b) <;> simp
theorem within64 (a b c : Int) : impl_within a b c = some (decide (a ≥ b) && decide (a ≤ c)) := by
  unfold impl_within
  cases h : decide (a ≥ b) <;> simp

def allIn (xs : List Int) (b c : Int) : Bool := xs.all fun x => decide (x ≥ b) && decide (x ≤ c)

theorem allIn_iff {xs : List Int} {b c : Int} : allIn xs b c = true ↔ ∀ i, i < xs.length → b ≤ xs.getD i 0 ∧ xs.getD i 0 ≤ c := by
  unfold allIn
  rw [List.all_eq_true]
  constructor
  · intro h i hi
    have := h xs[i] (List.getElem_mem hi)
    simp only [Bool.and_eq_true, decide_eq_true_eq] at this
    rw [List.getD_eq_getElem?_getD, List.getElem?_eq_getElem hi]
    exact ⟨this.1, this.2⟩
  · intro h x hx
    obtain ⟨i, hi, rfl⟩ := List.getElem_of_mem hx
    have := h i hi
    rw [List.getD_eq_getElem?_getD, List.getElem?_eq_getElem hi] at this
    simp only [Bool.and_eq_true, decide_eq_true_eq]
    exact ⟨this.1, this.2⟩

theorem allN_in (xs : List Int) (b c : Int) : allN (fun i => decide (xs.getD i 0 ≥ b) && decide (xs.getD i 0 ≤ c)) xs.length 0 = allIn xs b c := by
  rw [Bool.eq_iff_iff, allN_iff, allIn_iff]
  constructor
  · intro h i hi
    have := h i (by omega) (by omega)
    simp only [Bool.and_eq_true, decide_eq_true_eq] at this
    exact ⟨this.1, this.2⟩
  · intro h i _ hi
    have := h i (by omega)
    simp only [Bool.and_eq_true, decide_eq_true_eq]
    exact ⟨this.1, this.2⟩

theorem areWithin64 {xs : List Int} {b c : Int} (h : xs.length ≤ 4294967296) : impl_areWithin xs b c = some (allIn xs b c) := by
  unfold impl_areWithin
  have := rounds_all (f := impl_areWithin_B1 xs b c) (fun i => ((i : Nat) : Int)) (fun i => decide (xs.getD i 0 ≥ b) && decide (xs.getD i 0 ≤ c)) (Sum.inl ()) (Sum.inr ()) (n := xs.length) (fun i hi => by
    unfold impl_areWithin_B1
    simp only [ltN hi, cond_true, guard_pos (idxN hi), Int.toNat_natCast, within64, Option.bind_some, nextN hi h]
    cases (decide (xs.getD i 0 ≥ b) && decide (xs.getD i 0 ≤ c)) <;> rfl) (by
    unfold impl_areWithin_B1
    simp only [geN (Nat.le_refl _), cond_false]) xs.length 0 (by omega)
  rw [allN_in] at this
  simp only [Int.natCast_zero] at this
  simp only [this, Option.bind_some]
  cases allIn xs b c <;> rfl

theorem word64 {xs : List Int} {L : Int} (h : xs.length ≤ 4294967296) : spec_l02Word xs L = some (allIn xs 0 (wsub .i64 L 1) && decide (lenI xs ≤ 12)) := by
  unfold spec_l02Word
  have := rounds_all (f := spec_l02Word_B1 xs L) (fun i => ((i : Nat) : Int)) (fun i => decide (xs.getD i 0 ≥ 0) && decide (xs.getD i 0 ≤ wsub .i64 L 1)) (Sum.inl ()) (Sum.inr ()) (n := xs.length) (fun i hi => by
    unfold spec_l02Word_B1
    simp only [ltN hi, cond_true, guard_pos (idxN hi), Int.toNat_natCast, in64, Option.bind_some, nextN hi h]
    cases (decide (xs.getD i 0 ≥ 0) && decide (xs.getD i 0 ≤ wsub .i64 L 1)) <;> rfl) (by
    unfold spec_l02Word_B1
    simp only [geN (Nat.le_refl _), cond_false]) xs.length 0 (by omega)
  rw [allN_in] at this
  simp only [Int.natCast_zero] at this
  simp only [this, Option.bind_some]
  cases allIn xs 0 (wsub .i64 L 1) <;> simp

theorem isWord64 {xs : List Int} {L : Int} (h : xs.length ≤ 4294967296) : impl_IsWord xs L = some ((decide (L ≥ 1) && decide (L ≤ 4)) && (decide (lenI xs ≤ 12) && allIn xs 0 (wsub .i64 L 1))) := by
  unfold impl_IsWord
  rw [within64, areWithin64 h]
  cases (decide (L ≥ 1) && decide (L ≤ 4)) <;> cases decide (lenI xs ≤ 12) <;> simp

def Letters (c : Nat) (xs : List Int) : Prop := ∀ i, i < xs.length → ∃ a : Nat, xs.getD i 0 = (a : Int) ∧ a < c

structure Plain (m c : Nat) (nx : List Int) (es : List Bool) : Prop where
  m1 : 1 ≤ m
  m2 : m ≤ 64
  c1 : 1 ≤ c
  c2 : c ≤ 4
  len : nx.length = m * c
  ends : es.length = m
  to : ∀ i, i < m * c → ∃ t : Nat, nx.getD i 0 = (t : Int) ∧ t < m

section
variable {m c : Nat} {nx : List Int} {es : List Bool} (hp : Plain m c nx es)
include hp

end

end Go.Proofs


/-
  Models of chances: when they are valid.
-/
namespace Go.Proofs
open Go.Ide Go.IntWalk

def share (x : Nat) : Bool := fge .f32 x 0 && fle .f32 x 1065353216

theorem specShare (x : Nat) : spec_l02Share x = some (share x) := by
  unfold spec_l02Share share
  cases fge .f32 x 0 <;> rfl

theorem bd_share {x : Nat} (h : share x = true) : bd x 127 := by
  unfold share at h
  rw [Bool.and_eq_true] at h
  exact share_bd h.1 h.2

def nearOne (s : Nat) : Bool := fle .f32 (fop .sub .f32 s 1065353216) 981668463 && fge .f32 (fop .sub .f32 s 1065353216) 3129152111

theorem absOne (s : Nat) : (impl_absolute (fop .sub .f32 s 1065353216)).bind (fun y => some (fle .f32 y 981668463)) = some (nearOne s) := by
  unfold nearOne
  rw [near_abs (c := 981668463) (nc := 3129152111) (mc := 8388608 + 981668463 % 8388608) (pc := -149 + ((981668463 / 8388608 - 1 : Nat) : Int)) (by decide) (by decide)]
  unfold impl_absolute
  cases flt .f32 (fop .sub .f32 s 1065353216) 0 <;> rfl

def sumF (xs : List Nat) : Nat → Nat
  | 0 => 0
  | i + 1 => fop .add .f32 (sumF xs i) (xs.getD i 0)

def okRow (xs : List Nat) : Bool := allN (fun i => share (xs.getD i 0)) xs.length 0 && nearOne (sumF xs xs.length)

theorem specRow {xs : List Nat} (h : xs.length ≤ 4294967296) : spec_l03Row xs = some (okRow xs) := by
  have hf : ∀ k i, i + k = xs.length → rounds (spec_l03Row_B1 xs) (sumF xs i, (i : Int)) = some (bif allN (fun i => share (xs.getD i 0)) k i then .inl (sumF xs xs.length) else .inr ()) := by
    intro k
    induction k with
    | zero =>
      intro i hi
      have : i = xs.length := by omega
      subst this
      rw [rounds_eq]
      have : spec_l03Row_B1 xs (sumF xs xs.length, (xs.length : Int)) = some (.inr (.inl (sumF xs xs.length))) := by
        unfold spec_l03Row_B1
        simp only [geN (Nat.le_refl _), cond_false]
      rw [this]
      rfl
    | succ k ih =>
      intro i hi
      have hlt : i < xs.length := by omega
      rw [rounds_eq]
      have : spec_l03Row_B1 xs (sumF xs i, (i : Int)) = some (bif share (xs.getD i 0) then .inl (sumF xs (i + 1), ((i + 1 : Nat) : Int)) else .inr (.inr ())) := by
        unfold spec_l03Row_B1
        simp only [ltN hlt, cond_true, guard_pos (idxN hlt), Int.toNat_natCast, specShare, Option.bind_some, nextN hlt h]
        cases share (xs.getD i 0) <;> rfl
      rw [this, allN]
      cases hs : share (xs.getD i 0) with
      | true => exact ih (i + 1) (by omega)
      | false => rfl
  unfold spec_l03Row okRow
  have := hf xs.length 0 (by omega)
  simp only [sumF, Int.natCast_zero] at this
  rw [this]
  unfold nearOne
  cases allN (fun i => share (xs.getD i 0)) xs.length 0 with
  | false => rfl
  | true =>
    simp only [cond_true, Option.bind_some, Bool.true_and]
    cases fle .f32 (fop .sub .f32 (sumF xs xs.length) 1065353216) 981668463 <;> rfl

theorem implSum {xs : List Nat} (h : xs.length ≤ 4294967296) : impl_addUp xs = some (sumF xs xs.length) := by
  have := rounds_forS (f := impl_addUp_B1 xs) (fun i s => (s, ((i : Nat) : Int))) (fun i s => fop .add .f32 s (xs.getD i 0)) id (n := xs.length) (fun i s => s = sumF xs i)
    (fun i s hi hs => ⟨by
      unfold impl_addUp_B1
      simp only [ltN hi, cond_true, guard_pos (idxN hi), Int.toNat_natCast, nextN hi h], by rw [hs]; rfl⟩)
    (fun s hs => by
      unfold impl_addUp_B1
      simp only [geN (Nat.le_refl _), cond_false]; rfl) xs.length 0 0 (by omega) rfl
  unfold impl_addUp
  simp only [Int.natCast_zero] at this
  rw [this.1]
  simp only [id, Option.bind_some, this.2]

theorem implRow {xs : List Nat} (h : xs.length ≤ 4294967296) : impl_areChances xs = some (okRow xs) := by
  unfold impl_areChances okRow
  have := rounds_all (f := impl_areChances_B1 xs) (fun i => ((i : Nat) : Int)) (fun i => share (xs.getD i 0)) (Sum.inl ()) (Sum.inr ()) (n := xs.length) (fun i hi => by
    unfold impl_areChances_B1
    simp only [ltN hi, cond_true, guard_pos (idxN hi), Int.toNat_natCast, nextN hi h]
    unfold share
    cases fge .f32 (xs.getD i 0) 0 <;> cases fle .f32 (xs.getD i 0) 1065353216 <;> rfl) (by
    unfold impl_areChances_B1
    simp only [geN (Nat.le_refl _), cond_false]) xs.length 0 (by omega)
  simp only [Int.natCast_zero] at this
  rw [this]
  cases allN (fun i => share (xs.getD i 0)) xs.length 0 with
  | false => rfl
  | true =>
    simp only [cond_true, Option.bind_some, Bool.true_and, implSum h]
    exact absOne _

def rowF (xs : List Nat) (w i : Nat) : List Nat := (xs.drop (i * w)).take w

theorem rowF_len {xs : List Nat} {w i n : Nat} (h : xs.length = n * w) (hi : i < n) : (rowF xs w i).length = w := by
  have : (i + 1) * w ≤ n * w := Nat.mul_le_mul_right _ hi
  rw [Nat.succ_mul] at this
  unfold rowF
  simp; omega

theorem rowF_get {xs : List Nat} {w i n k : Nat} (h : xs.length = n * w) (hi : i < n) (hk : k < w) : (rowF xs w i).getD k 0 = xs.getD (i * w + k) 0 := by
  unfold rowF
  simp only [List.getD_eq_getElem?_getD]
  rw [List.getElem?_take_of_lt hk, List.getElem?_drop]

def okModel (n k : Int) (fs ss hs : List Nat) : Bool :=
  (decide (n ≥ 1) && decide (n ≤ 5)) && ((decide (k ≥ 1) && decide (k ≤ 4)) && ((lenI fs == n) && ((lenI ss == wmul .i64 n n) && ((lenI hs == wmul .i64 n k) && (okRow fs &&
    (allN (fun i => okRow (rowF ss n.toNat i)) n.toNat 0 && allN (fun i => okRow (rowF hs k.toNat i)) n.toNat 0))))))

theorem allN_and (p q : Nat → Bool) : ∀ k i, allN (fun i => p i && q i) k i = (allN p k i && allN q k i)
  | 0, _ => rfl
  | k + 1, i => by
    simp only [allN, allN_and p q k (i + 1)]
    cases p i <;> cases q i <;> cases allN p k (i + 1) <;> cases allN q k (i + 1) <;> rfl

theorem cutRow {xs : List Nat} {w n i : Nat} (hn : n ≤ 1000) (hw : w ≤ 1000) (hi : i < n) : cut xs (wmul .i64 (i : Int) (w : Int)) (wadd .i64 (wmul .i64 (i : Int) (w : Int)) (w : Int)) = rowF xs w i ∧
    wmul .i64 (i : Int) (w : Int) = ((i * w : Nat) : Int) ∧ wadd .i64 (wmul .i64 (i : Int) (w : Int)) (w : Int) = ((i * w + w : Nat) : Int) ∧ wmul .i64 (wadd .i64 (i : Int) 1) (w : Int) = ((i * w + w : Nat) : Int) := by
  have h1 : i * w ≤ 1000 * 1000 := Nat.mul_le_mul (by omega) hw
  have h2 : (i + 1) * w ≤ 1001 * 1000 := Nat.mul_le_mul (by omega) hw
  rw [Nat.succ_mul] at h2
  have e1 : wmul .i64 (i : Int) (w : Int) = ((i * w : Nat) : Int) := by rw [wmulI (by rw [← Int.natCast_mul]; omega), ← Int.natCast_mul]
  have e2 : wadd .i64 ((i * w : Nat) : Int) (w : Int) = ((i * w + w : Nat) : Int) := by rw [waddI (by omega)]; omega
  have e3 : wmul .i64 (wadd .i64 (i : Int) 1) (w : Int) = ((i * w + w : Nat) : Int) := by
    rw [waddI (by omega), show (i : Int) + 1 = ((i + 1 : Nat) : Int) by omega, wmulI (by rw [← Int.natCast_mul, Nat.succ_mul]; omega), ← Int.natCast_mul, Nat.succ_mul]
  refine ⟨?_, e1, by rw [e1, e2], e3⟩
  rw [e1, e2]
  unfold cut rowF
  simp only [Int.toNat_natCast]
  rw [show i * w + w - i * w = w by omega]

theorem row_in {xs : List Nat} {w n i : Nat} (h : xs.length = n * w) (hi : i < n) : i * w + w ≤ xs.length := by
  have : (i + 1) * w ≤ n * w := Nat.mul_le_mul_right _ hi
  rw [Nat.succ_mul] at this
  omega

theorem implRows {xs : List Nat} {n w : Nat} (hn : n ≤ 1000) (hw : w ≤ 1000) : impl_areRows xs (n : Int) (w : Int) = some ((lenI xs == wmul .i64 (n : Int) (w : Int)) && allN (fun i => okRow (rowF xs w i)) n 0) := by
  unfold impl_areRows
  have e : wmul .i64 (n : Int) (w : Int) = ((n * w : Nat) : Int) := by
    have : n * w ≤ 1000 * 1000 := Nat.mul_le_mul hn hw
    rw [wmulI (by rw [← Int.natCast_mul]; omega), ← Int.natCast_mul]
  cases hl : (lenI xs == wmul .i64 (n : Int) (w : Int)) with
  | false => simp [bne, hl]
  | true =>
    have hlen : xs.length = n * w := by
      rw [e] at hl
      have := eq_of_beq hl
      simp only [lenI] at this
      omega
    have := rounds_all (f := impl_areRows_B1 xs (n : Int) (w : Int)) (fun i => ((i : Nat) : Int)) (fun i => okRow (rowF xs w i)) (Sum.inl ()) (Sum.inr ()) (n := n) (fun i hi => by
      obtain ⟨c1, c2, c3, c4⟩ := cutRow (xs := xs) hn hw hi
      have hin := row_in hlen hi
      unfold impl_areRows_B1 impl_rowOf_float32
      rw [c3, c2] at c1
      simp only [ltN hi, cond_true, c2, c4, c1]
      rw [guard_pos ⟨by omega, by omega, by omega, by simp only [lenI]; omega⟩]
      have hr : (rowF xs w i).length ≤ 4294967296 := by rw [rowF_len hlen hi]; omega
      simp only [Option.bind_some, implRow hr, nextN hi (by omega)]
      cases okRow (rowF xs w i) <;> rfl) (by
      unfold impl_areRows_B1
      simp only [geN (Nat.le_refl _), cond_false]) n 0 (by omega)
    simp only [Int.natCast_zero] at this
    simp only [bne, hl, Bool.not_true, cond_false, this, Option.bind_some, Bool.true_and]
    cases allN (fun i => okRow (rowF xs w i)) n 0 <;> rfl

theorem rowF_all {xs : List Nat} {n : Nat} (h : xs.length = n) : rowF xs n 0 = xs := by
  unfold rowF
  rw [Nat.zero_mul, List.drop_zero, ← h, List.take_length]

theorem implModel {n k : Int} {fs ss hs : List Nat} : impl_ValidModel (n, k, fs, ss, hs) = some (okModel n k fs ss hs) := by
  unfold impl_ValidModel okModel
  simp only [within64, Option.bind_some]
  cases hn : (decide (n ≥ 1) && decide (n ≤ 5)) with
  | false => rfl
  | true =>
    cases hk : (decide (k ≥ 1) && decide (k ≤ 4)) with
    | false => rfl
    | true =>
      simp only [Bool.and_eq_true, decide_eq_true_eq] at hn hk
      obtain ⟨a, rfl⟩ : ∃ a : Nat, n = (a : Int) := ⟨n.toNat, by omega⟩
      obtain ⟨b, rfl⟩ : ∃ b : Nat, k = (b : Int) := ⟨k.toNat, by omega⟩
      have e1 := implRows (xs := fs) (n := 1) (w := a) (by omega) (by omega)
      have e0 : wmul .i64 ((1 : Nat) : Int) (a : Int) = (a : Int) := by rw [wmulI (by omega)]; omega
      rw [e0] at e1
      have e2 := implRows (xs := ss) (n := a) (w := a) (by omega) (by omega)
      have e3 := implRows (xs := hs) (n := a) (w := b) (by omega) (by omega)
      simp only [Int.natCast_one] at e1
      simp only [e1, e2, e3, cond_true, Option.bind_some, Int.toNat_natCast, Bool.true_and]
      have hr : lenI fs = (a : Int) → allN (fun i => okRow (rowF fs a i)) 1 0 = okRow fs := by
        intro h
        simp only [allN, Bool.and_true]
        rw [rowF_all (by simp only [lenI] at h; omega)]
      cases h1 : (lenI fs == (a : Int)) with
      | false => rfl
      | true =>
        rw [hr (eq_of_beq h1)]
        cases okRow fs <;> cases (lenI ss == wmul .i64 (a : Int) (a : Int)) <;> cases (lenI hs == wmul .i64 (a : Int) (b : Int)) <;> cases allN (fun i => okRow (rowF ss a i)) a 0 <;> cases allN (fun i => okRow (rowF hs b i)) a 0 <;> rfl

theorem specModel {n k : Int} {fs ss hs : List Nat} : spec_l03Is (n, k, fs, ss, hs) = some (okModel n k fs ss hs) := by
  unfold spec_l03Is okModel
  simp only [in64, Option.bind_some]
  cases hn : (decide (n ≥ 1) && decide (n ≤ 5)) with
  | false => rfl
  | true =>
    cases hk : (decide (k ≥ 1) && decide (k ≤ 4)) with
    | false => rfl
    | true =>
      simp only [Bool.and_eq_true, decide_eq_true_eq] at hn hk
      obtain ⟨a, rfl⟩ : ∃ a : Nat, n = (a : Int) := ⟨n.toNat, by omega⟩
      obtain ⟨b, rfl⟩ : ∃ b : Nat, k = (b : Int) := ⟨k.toNat, by omega⟩
      simp only [bne, Bool.not_true, cond_false, Bool.true_and, Int.toNat_natCast]
      cases h1 : (lenI fs == (a : Int)) with
      | false => rfl
      | true =>
        cases h2 : (lenI ss == wmul .i64 (a : Int) (a : Int)) with
        | false => rfl
        | true =>
          cases h3 : (lenI hs == wmul .i64 (a : Int) (b : Int)) with
          | false => rfl
          | true =>
            have m1 : a * a ≤ 5 * 5 := Nat.mul_le_mul (by omega) (by omega)
            have m2 : a * b ≤ 5 * 4 := Nat.mul_le_mul (by omega) (by omega)
            have l1 : fs.length = a := by have := eq_of_beq h1; simp only [lenI] at this; omega
            have l2 : ss.length = a * a := by
              have := eq_of_beq h2
              rw [wmulI (by rw [← Int.natCast_mul]; omega), ← Int.natCast_mul] at this
              simp only [lenI] at this; omega
            have l3 : hs.length = a * b := by
              have := eq_of_beq h3
              rw [wmulI (by rw [← Int.natCast_mul]; omega), ← Int.natCast_mul] at this
              simp only [lenI] at this; omega
            have := rounds_all (f := spec_l03Is_B1 ((a : Int), (b : Int), fs, ss, hs)) (fun i => ((i : Nat) : Int)) (fun i => okRow (rowF ss a i) && okRow (rowF hs b i)) (Sum.inl ()) (Sum.inr ()) (n := a) (fun i hi => by
              obtain ⟨c1, c2, c3, c4⟩ := cutRow (xs := ss) (w := a) (n := a) (by omega) (by omega) hi
              obtain ⟨d1, d2, d3, d4⟩ := cutRow (xs := hs) (w := b) (n := a) (by omega) (by omega) hi
              have hin := row_in l2 hi
              have hin2 := row_in l3 hi
              rw [c3, c2] at c1
              rw [d3, d2] at d1
              have hr : (rowF ss a i).length ≤ 4294967296 := by rw [rowF_len l2 hi]; omega
              have hr2 : (rowF hs b i).length ≤ 4294967296 := by rw [rowF_len l3 hi]; omega
              unfold spec_l03Is_B1
              simp only [ltN hi, cond_true]
              rw [c3, c2, c1, guard_pos ⟨by omega, by omega, by simp only [lenI]; omega⟩, specRow hr]
              simp only [Option.bind_some]
              rw [d3, d2, d1, guard_pos ⟨by omega, by omega, by simp only [lenI]; omega⟩, specRow hr2]
              simp only [Option.bind_some, nextN hi (show a ≤ 4294967296 by omega)]
              cases okRow (rowF ss a i) <;> cases okRow (rowF hs b i) <;> rfl) (by
              unfold spec_l03Is_B1
              simp only [geN (Nat.le_refl _), cond_false]) a 0 (by omega)
            simp only [Int.natCast_zero] at this
            rw [allN_and] at this
            simp only [specRow (xs := fs) (by omega), Option.bind_some, Bool.not_true, cond_false]
            cases okRow fs with
            | false => rfl
            | true =>
              simp only [Bool.not_true, cond_false, Option.bind_some, this, Bool.true_and]
              cases allN (fun i => okRow (rowF ss a i)) a 0 <;> cases allN (fun i => okRow (rowF hs b i)) a 0 <;> rfl

end Go.Proofs


/-
  Valid models and their words; HiddenChance.
-/
namespace Go.Proofs
open Go.Ide Go.IntWalk

structure Model (a b : Nat) (fs ss hs : List Nat) : Prop where
  n1 : 1 ≤ a
  n2 : a ≤ 5
  k1 : 1 ≤ b
  k2 : b ≤ 4
  lf : fs.length = a
  ls : ss.length = a * a
  lh : hs.length = a * b
  sf : ∀ i, i < a → bd (fs.getD i 0) 127
  st : ∀ i j, i < a → j < a → bd (ss.getD (i * a + j) 0) 127
  sh : ∀ i j, i < a → j < b → bd (hs.getD (i * b + j) 0) 127

theorem okRow_bd {xs : List Nat} (h : okRow xs = true) {i : Nat} (hi : i < xs.length) : bd (xs.getD i 0) 127 := by
  unfold okRow at h
  rw [Bool.and_eq_true] at h
  exact bd_share (allN_iff.1 h.1 i (by omega) (by omega))

theorem model_of {n k : Int} {fs ss hs : List Nat} (h : okModel n k fs ss hs = true) : ∃ a b : Nat, n = (a : Int) ∧ k = (b : Int) ∧ Model a b fs ss hs := by
  unfold okModel at h
  simp only [Bool.and_eq_true, decide_eq_true_eq, beq_iff_eq] at h
  obtain ⟨⟨h1, h2⟩, ⟨h3, h4⟩, h5, h6, h7, h8, h9, h10⟩ := h
  obtain ⟨a, rfl⟩ : ∃ a : Nat, n = (a : Int) := ⟨n.toNat, by omega⟩
  obtain ⟨b, rfl⟩ : ∃ b : Nat, k = (b : Int) := ⟨k.toNat, by omega⟩
  have m1 : a * a ≤ 5 * 5 := Nat.mul_le_mul (by omega) (by omega)
  have m2 : a * b ≤ 5 * 4 := Nat.mul_le_mul (by omega) (by omega)
  rw [wmulI (by rw [← Int.natCast_mul]; omega), ← Int.natCast_mul] at h6
  rw [wmulI (by rw [← Int.natCast_mul]; omega), ← Int.natCast_mul] at h7
  simp only [lenI] at h5 h6 h7
  have l1 : fs.length = a := by omega
  have l2 : ss.length = a * a := by omega
  have l3 : hs.length = a * b := by omega
  simp only [Int.toNat_natCast] at h9 h10
  refine ⟨a, b, rfl, rfl, by omega, by omega, by omega, by omega, l1, l2, l3, fun i hi => okRow_bd h8 (by omega), fun i j hi hj => ?_, fun i j hi hj => ?_⟩
  · rw [← rowF_get l2 hi hj]
    exact okRow_bd (allN_iff.1 h9 i (by omega) (by omega)) (by rw [rowF_len l2 hi]; exact hj)
  · rw [← rowF_get l3 hi hj]
    exact okRow_bd (allN_iff.1 h10 i (by omega) (by omega)) (by rw [rowF_len l3 hi]; exact hj)

theorem cellM {a b i j : Nat} (ha : a ≤ 5) (hb : b ≤ 5) (hi : i < a) (hj : j < b) : wadd .i64 (wmul .i64 (i : Int) (b : Int)) (j : Int) = ((i * b + j : Nat) : Int) ∧ i * b + j < a * b := by
  refine ⟨cellN (by omega) (by omega) (by omega), ?_⟩
  have : (i + 1) * b ≤ a * b := Nat.mul_le_mul_right _ hi
  rw [Nat.succ_mul] at this
  omega

end Go.Proofs


/-
  Chances forward; ChanceOf.
-/
namespace Go.Proofs
open Go.Ide Go.IntWalk

theorem specSum {xs : List Nat} (h : xs.length ≤ 4294967296) : spec_l03Sum xs = some (sumF xs xs.length) := by
  have := rounds_forS (f := spec_l03Sum_B1 xs) (fun i s => (s, ((i : Nat) : Int))) (fun i s => fop .add .f32 s (xs.getD i 0)) id (n := xs.length) (fun i s => s = sumF xs i)
    (fun i s hi hs => ⟨by
      unfold spec_l03Sum_B1
      simp only [ltN hi, cond_true, guard_pos (idxN hi), Int.toNat_natCast, nextN hi h], by rw [hs]; rfl⟩)
    (fun s hs => by
      unfold spec_l03Sum_B1
      simp only [geN (Nat.le_refl _), cond_false]; rfl) xs.length 0 0 (by omega) rfl
  unfold spec_l03Sum
  simp only [Int.natCast_zero] at this
  rw [this.1]
  simp only [id, Option.bind_some, this.2]

def cellF (a b : Nat) (ss hs row : List Nat) (c j : Nat) : Nat → Nat
  | 0 => 0
  | p + 1 => fop .add .f32 (cellF a b ss hs row c j p) (fop .mul .f32 (fop .mul .f32 (row.getD p 0) (hs.getD (p * b + c) 0)) (ss.getD (p * a + j) 0))

def nextF (a b : Nat) (ss hs row : List Nat) (c : Nat) : List Nat := (List.range a).map fun j => cellF a b ss hs row c j a

theorem nextF_len (a b : Nat) (ss hs row : List Nat) (c : Nat) : (nextF a b ss hs row c).length = a := by simp [nextF]

theorem nextF_get {a b : Nat} {ss hs row : List Nat} {c j : Nat} (hj : j < a) : (nextF a b ss hs row c).getD j 0 = cellF a b ss hs row c j a := by
  unfold nextF
  simp [List.getD_eq_getElem?_getD, hj]

theorem specNext {a b : Nat} {fs ss hs : List Nat} (m : Model a b fs ss hs) {row : List Nat} {c : Nat} (hc : c < b) (hr : row.length = a) : spec_l03Next ((a : Int), (b : Int), fs, ss, hs) row (c : Int) = some (nextF a b ss hs row c) := by
  have hn2 := m.n2
  have hk2 := m.k2
  have hls := m.ls
  have hlh := m.lh
  have := loop_app (f := spec_l03Next_B2 ((a : Int), (b : Int), fs, ss, hs) row (c : Int)) (fun j => cellF a b ss hs row c j a) a []
    (fun j out hj ho => by
      have := rounds_forS (f := spec_l03Next_B1 ((a : Int), (b : Int), fs, ss, hs) row (c : Int) ((j : Int), out)) (fun p s => (s, ((p : Nat) : Int)))
        (fun p s => fop .add .f32 s (fop .mul .f32 (fop .mul .f32 (row.getD p 0) (hs.getD (p * b + c) 0)) (ss.getD (p * a + j) 0))) id (n := a) (fun p s => s = cellF a b ss hs row c j p)
        (fun p s hp hs' => ⟨by
          obtain ⟨e1, e2⟩ := cellM (a := a) (b := b) (by omega) (by omega) hp hc
          obtain ⟨e3, e4⟩ := cellM (a := a) (b := a) (by omega) (by omega) hp hj
          have j1 := idxN (i := p) (n := row.length) (by omega)
          have j3 := idxN (i := p * b + c) (n := hs.length) (by omega)
          have j4 := idxN (i := p * a + j) (n := ss.length) (by omega)
          unfold spec_l03Next_B1
          simp only [ltN hp, cond_true, Int.toNat_natCast, nextN hp (show a ≤ 4294967296 by omega), e1, e3]
          rw [guard_pos j1, guard_pos j3, guard_pos j4], by rw [hs']; rfl⟩)
        (fun s _ => by
          unfold spec_l03Next_B1
          simp only [geN (Nat.le_refl _), cond_false]; rfl) a 0 0 (by omega) rfl
      simp only [Int.natCast_zero] at this
      unfold spec_l03Next_B2
      simp only [ltN hj, cond_true, this.1, id, Option.bind_some, nextN hj (show a ≤ 4294967296 by omega)]
      rw [guard_pos (by simp only [List.length_nil] at ho; simp only [ho, List.length_singleton, appMax]; omega), this.2])
    (fun out => by
      unfold spec_l03Next_B2
      simp only [geN (Nat.le_refl _), cond_false])
  unfold spec_l03Next
  rw [this]
  rfl

theorem loop_to0 {f : Int × List Nat → Option ((Int × List Nat) ⊕ List Nat)} (xs : List Nat)
    (hstep : ∀ (i : Nat) (out : List Nat), i < xs.length → out.length = xs.length → out.getD i 0 = 0 → f ((i : Int), out) = some (.inl (((i + 1 : Nat) : Int), out.set i (xs.getD i 0))))
    (hend : ∀ out : List Nat, out.length = xs.length → f (((xs.length : Nat) : Int), out) = some (.inr out)) : rounds f ((0 : Int), List.replicate xs.length 0) = some xs := by
  have := rounds_forS (f := f) (fun i out => (((i : Nat) : Int), out)) (fun i out => out.set i (xs.getD i 0)) id (n := xs.length) (fun i out => out = xs.take i ++ List.replicate (xs.length - i) 0)
    (fun i out hi h => ⟨hstep i out hi (by rw [h]; simp; omega) (by
      rw [h, List.getD_eq_getElem?_getD, List.getElem?_append_right (by simp; omega)]
      simp only [List.length_take, List.getElem?_replicate]
      split <;> rfl), by
      rw [h, take_snoc hi 0, show xs.length - i = (xs.length - (i + 1)) + 1 from by omega, List.replicate_succ, set_at (by simp; omega)]
      simp⟩)
    (fun out h => hend out (by rw [h]; simp)) xs.length 0 (List.replicate xs.length 0) (by omega) (by simp)
  simp only [Int.natCast_zero] at this
  rw [this.1, this.2]
  simp

theorem implNext {a b : Nat} {fs ss hs : List Nat} (m : Model a b fs ss hs) {row : List Nat} {c : Nat} (hc : c < b) (hr : row.length = a) : impl_Model_nextRow ((a : Int), (b : Int), fs, ss, hs) row (c : Int) = some (nextF a b ss hs row c) := by
  have hn2 := m.n2
  have hk2 := m.k2
  have hls := m.ls
  have hlh := m.lh
  have hnl := nextF_len a b ss hs row c
  have := loop_to0 (f := impl_Model_nextRow_B2 ((a : Int), (b : Int), fs, ss, hs) row (c : Int)) (nextF a b ss hs row c)
    (fun j out hj ho h0 => by
      rw [hnl] at hj ho
      have := rounds_forS (f := impl_Model_nextRow_B1 ((a : Int), (b : Int), fs, ss, hs) row (c : Int) ((j : Int), out)) (fun p s => (((p : Nat) : Int), s))
        (fun p s => s.set j (fop .add .f32 (s.getD j 0) (fop .mul .f32 (fop .mul .f32 (row.getD p 0) (hs.getD (p * b + c) 0)) (ss.getD (p * a + j) 0)))) id (n := a) (fun p s => s = out.set j (cellF a b ss hs row c j p))
        (fun p s hp hs' => ⟨by
          obtain ⟨e1, e2⟩ := cellM (a := a) (b := b) (by omega) (by omega) hp hc
          obtain ⟨e3, e4⟩ := cellM (a := a) (b := a) (by omega) (by omega) hp hj
          have hsl : s.length = a := by rw [hs']; simp [ho]
          have j0 := idxN (i := j) (n := s.length) (by omega)
          have j1 := idxN (i := p) (n := row.length) (by omega)
          have j3 := idxN (i := p * b + c) (n := hs.length) (by omega)
          have j4 := idxN (i := p * a + j) (n := ss.length) (by omega)
          unfold impl_Model_nextRow_B1 impl_Model_show impl_Model_step
          simp only [ltN hp, cond_true, Int.toNat_natCast, nextN hp (show a ≤ 4294967296 by omega), e1, e3]
          rw [guard_pos j0, guard_pos j1, guard_pos j3, Option.bind_some, guard_pos j4, Option.bind_some], by
          rw [hs']
          have : (out.set j (cellF a b ss hs row c j p)).getD j 0 = cellF a b ss hs row c j p := by
            simp [List.getD_eq_getElem?_getD, ho, hj]
          rw [this, List.set_set]
          rfl⟩)
        (fun s _ => by
          unfold impl_Model_nextRow_B1
          simp only [geN (Nat.le_refl _), cond_false]; rfl) a 0 out (by omega) (by
          show out = out.set j 0
          apply List.ext_getElem (by simp)
          intro i h1 h2
          rw [List.getElem_set]
          split
          · rename_i e
            subst e
            simpa [List.getD_eq_getElem?_getD, List.getElem?_eq_getElem h1] using h0
          · rfl)
      simp only [Int.natCast_zero] at this
      unfold impl_Model_nextRow_B2
      simp only [ltN hj, cond_true, this.1, id, Option.bind_some, nextN hj (show a ≤ 4294967296 by omega)]
      rw [this.2, nextF_get hj])
    (fun out _ => by
      unfold impl_Model_nextRow_B2
      rw [hnl]
      simp only [geN (Nat.le_refl _), cond_false])
  unfold impl_Model_nextRow
  rw [guard_pos ⟨by omega, by simp only; omega⟩]
  simp only [Int.toNat_natCast]
  rw [hnl] at this
  rw [this]
  rfl

def rowAt (a b : Nat) (fs ss hs : List Nat) (w : List Int) : Nat → List Nat
  | 0 => fs
  | i + 1 => nextF a b ss hs (rowAt a b fs ss hs w i) (w.getD i 0).toNat

theorem rowAt_len {a b : Nat} {fs ss hs : List Nat} (m : Model a b fs ss hs) (w : List Int) : ∀ i, (rowAt a b fs ss hs w i).length = a
  | 0 => m.lf
  | i + 1 => nextF_len ..

def rowsF (a b : Nat) (fs ss hs : List Nat) (w : List Int) : List (List Nat) := (List.range (w.length + 1)).map (rowAt a b fs ss hs w)

theorem rows_at (h : Nat → List Nat) (i : Nat) : ((List.range (i + 1)).map h).getD i [] = h i := by
  simp [List.getD_eq_getElem?_getD]

theorem specForward {a b : Nat} {fs ss hs : List Nat} (m : Model a b fs ss hs) {w : List Int} (hw : Letters b w) (hl : w.length ≤ 12) : spec_l03Forward ((a : Int), (b : Int), fs, ss, hs) w = some (rowsF a b fs ss hs w) := by
  have := rounds_forS (f := spec_l03Forward_B1 ((a : Int), (b : Int), fs, ss, hs) w) (fun i out => (((i : Nat) : Int), out)) (fun i out => out ++ [rowAt a b fs ss hs w (i + 1)]) id (n := w.length) (fun i out => out = (List.range (i + 1)).map (rowAt a b fs ss hs w))
    (fun i out hi ho => ⟨by
      obtain ⟨c, hc, hc2⟩ := hw i hi
      have e : out.getD i [] = rowAt a b fs ss hs w i := by rw [ho]; exact rows_at _ _
      have hlo : out.length = i + 1 := by rw [ho]; simp
      have j1 := idxN (i := i) (n := out.length) (by omega)
      unfold spec_l03Forward_B1
      simp only [ltN hi, cond_true, Int.toNat_natCast, nextN hi (show w.length ≤ 4294967296 by omega), e, hc, specNext m hc2 (rowAt_len m w i), Option.bind_some]
      rw [guard_pos j1, guard_pos (idxN hi), guard_pos (by simp only [hlo, List.length_singleton, appMax]; omega), rowAt, hc, Int.toNat_natCast], by
      rw [ho, List.range_succ (n := i + 1), List.map_append]; rfl⟩)
    (fun out _ => by
      unfold spec_l03Forward_B1
      simp only [geN (Nat.le_refl _), cond_false]; rfl) w.length 0 [fs] (by omega) rfl
  simp only [Int.natCast_zero] at this
  unfold spec_l03Forward
  rw [this.1]
  simp only [id, Option.bind_some, this.2, rowsF]

theorem implForward {a b : Nat} {fs ss hs : List Nat} (m : Model a b fs ss hs) {w : List Int} (hw : Letters b w) (hl : w.length ≤ 12) : impl_Model_forward ((a : Int), (b : Int), fs, ss, hs) w = some (rowsF a b fs ss hs w) := by
  have := rounds_forS (f := impl_Model_forward_B1 ((a : Int), (b : Int), fs, ss, hs) w) (fun i out => (((i : Nat) : Int), out)) (fun i out => out ++ [rowAt a b fs ss hs w (i + 1)]) id (n := w.length) (fun i out => out = (List.range (i + 1)).map (rowAt a b fs ss hs w))
    (fun i out hi ho => ⟨by
      obtain ⟨c, hc, hc2⟩ := hw i hi
      have e : out.getD i [] = rowAt a b fs ss hs w i := by rw [ho]; exact rows_at _ _
      have hlo : out.length = i + 1 := by rw [ho]; simp
      have j1 := idxN (i := i) (n := out.length) (by omega)
      unfold impl_Model_forward_B1
      simp only [ltN hi, cond_true, Int.toNat_natCast, nextN hi (show w.length ≤ 4294967296 by omega), e, hc, implNext m hc2 (rowAt_len m w i), Option.bind_some]
      rw [guard_pos (idxN hi), guard_pos j1, guard_pos (by simp only [hlo, List.length_singleton, appMax]; omega), rowAt, hc, Int.toNat_natCast], by
      rw [ho, List.range_succ (n := i + 1), List.map_append]; rfl⟩)
    (fun out _ => by
      unfold impl_Model_forward_B1
      simp only [geN (Nat.le_refl _), cond_false]; rfl) w.length 0 [fs] (by omega) rfl
  simp only [Int.natCast_zero] at this
  unfold impl_Model_forward
  have hcl : slices_Clone fs = some fs := by
    have := m.lf
    have := m.n2
    unfold slices_Clone
    rw [guard_pos (by simp only [appMax]; omega)]
  rw [hcl]
  simp only [Option.bind_some]
  rw [this.1]
  simp only [id, Option.bind_some, this.2, rowsF]

end Go.Proofs


/-
  Two models that meet; MeetChance.
-/
namespace Go.Proofs
open Go.Ide Go.IntWalk

section
variable {a a' b : Nat} {fs ss hs fs' ss' hs' : List Nat}

end

end Go.Proofs


/-
  Lists of finite numbers; lists one after another; ForwardOf, NextLetters.
-/
namespace Go.Proofs
open Go.Ide Go.IntWalk

theorem rounds_find {τ ρ : Type} {f : τ → Option (τ ⊕ ρ)} (mk : Nat → τ) (p : Nat → Bool) (a : ρ) (b : Nat → ρ) {n : Nat}
    (hstep : ∀ i, i < n → f (mk i) = some (bif p i then .inl (mk (i + 1)) else .inr (b i))) (hend : f (mk n) = some (.inr a)) : ∀ (k i : Nat), i + k = n → ∃ j, rounds f (mk i) = some (bif allN p k i then a else b j)
  | 0, i, hi => by
    have : i = n := by omega
    subst this
    rw [rounds_eq, hend]
    exact ⟨0, rfl⟩
  | k + 1, i, hi => by
    rw [rounds_eq, hstep i (by omega)]
    simp only [allN]
    cases p i with
    | true => simp only [cond_true, Bool.true_and]; exact rounds_find mk p a b hstep hend k (i + 1) (by omega)
    | false => exact ⟨i, rfl⟩

def fin (x : Nat) : Bool := feq .f32 (fop .sub .f32 x x) 0

def fins (xs : List Nat) : Bool := allN (fun i => fin (xs.getD i 0)) xs.length 0

theorem specFins {xs : List Nat} (h : xs.length ≤ 4294967296) : spec_l02Finite xs = some (fins xs) := by
  have := rounds_all (f := spec_l02Finite_B1 xs) (fun i => ((i : Nat) : Int)) (fun i => fin (xs.getD i 0)) (Sum.inl ()) (Sum.inr ()) (n := xs.length) (fun i hi => by
    unfold spec_l02Finite_B1 spec_l01Finite
    simp only [ltN hi, cond_true, guard_pos (idxN hi), Int.toNat_natCast, Option.bind_some, nextN hi h]
    show _ = some (bif feq .f32 (fop .sub .f32 (xs.getD i 0) (xs.getD i 0)) 0 then _ else _)
    cases feq .f32 (fop .sub .f32 (xs.getD i 0) (xs.getD i 0)) 0 <;> rfl) (by
    unfold spec_l02Finite_B1
    simp only [geN (Nat.le_refl _), cond_false]) xs.length 0 (by omega)
  simp only [Int.natCast_zero] at this
  unfold spec_l02Finite fins
  rw [this]
  cases allN (fun i => fin (xs.getD i 0)) xs.length 0 <;> rfl

theorem implFins {xs : List Nat} (h : xs.length ≤ 4294967296) : impl_areFinite xs = some (fins xs) := by
  obtain ⟨j, this⟩ := rounds_find (f := slices_IndexFunc___float32_float32_fn1_impl_areFinite_1_B1 xs) (fun i => ((i : Nat) : Int)) (fun i => fin (xs.getD i 0)) (Sum.inl ()) (fun i => Sum.inr ((i : Nat) : Int)) (n := xs.length) (fun i hi => by
    unfold slices_IndexFunc___float32_float32_fn1_impl_areFinite_1_B1 impl_areFinite_1 impl_IsFinite
    simp only [ltN hi, cond_true, guard_pos (idxN hi), Int.toNat_natCast, Option.bind_some, nextN hi h]
    show _ = some (bif feq .f32 (fop .sub .f32 (xs.getD i 0) (xs.getD i 0)) 0 then _ else _)
    cases feq .f32 (fop .sub .f32 (xs.getD i 0) (xs.getD i 0)) 0 <;> rfl) (by
    unfold slices_IndexFunc___float32_float32_fn1_impl_areFinite_1_B1
    simp only [geN (Nat.le_refl _), cond_false]) xs.length 0 (by omega)
  simp only [Int.natCast_zero] at this
  unfold impl_areFinite slices_ContainsFunc___float32_float32_fn1_impl_areFinite_1 slices_IndexFunc___float32_float32_fn1_impl_areFinite_1 fins
  rw [this]
  cases allN (fun i => fin (xs.getD i 0)) xs.length 0 with
  | true => rfl
  | false =>
    simp only [cond_false, Option.bind_some, ge_iff_le]
    rw [decide_eq_true (Int.natCast_nonneg j)]
    rfl

theorem implFinsL {xs : List Nat} (h : xs.length ≤ 4294967296) : impl_finiteList_mv0 xs = some (bif fins xs then (xs, true) else ([], false)) := by
  unfold impl_finiteList_mv0
  rw [implFins h]
  cases fins xs <;> rfl

theorem rowsF_len {a b : Nat} {fs ss hs : List Nat} {w : List Int} : (rowsF a b fs ss hs w).length = w.length + 1 := by simp [rowsF]
theorem rowsF_get {a b : Nat} {fs ss hs : List Nat} {w : List Int} {i : Nat} (h : i < w.length + 1) : (rowsF a b fs ss hs w).getD i [] = rowAt a b fs ss hs w i := by
  unfold rowsF
  simp [List.getD_eq_getElem?_getD, h]

end Go.Proofs


/-
  All words of a length; ApartModels.
-/
namespace Go.Proofs
open Go.Ide Go.IntWalk

end Go.Proofs


/-
  Logarithms.
-/
namespace Go.Proofs
open Go.Ide Go.IntWalk

end Go.Proofs


/-
  Logarithms of chances; LogChanceOf, MoreBits.
-/
namespace Go.Proofs
open Go.Ide Go.IntWalk

structure ModelN (a b : Nat) (fs ss hs : List Nat) : Prop where
  sf : ∀ i, i < a → nn (fs.getD i 0)
  st : ∀ i j, i < a → j < a → nn (ss.getD (i * a + j) 0)
  sh : ∀ i j, i < a → j < b → nn (hs.getD (i * b + j) 0)

theorem okRow_nn {xs : List Nat} (h : okRow xs = true) {i : Nat} (hi : i < xs.length) : nn (xs.getD i 0) := by
  have hb := okRow_bd h hi
  unfold okRow at h
  rw [Bool.and_eq_true] at h
  have hs := allN_iff.1 h.1 i (by omega) (by omega)
  unfold share at hs
  rw [Bool.and_eq_true] at hs
  exact share_nn hs.1 hb

theorem modelN_of {a b : Nat} {fs ss hs : List Nat} (h : okModel (a : Int) (b : Int) fs ss hs = true) (m : Model a b fs ss hs) : ModelN a b fs ss hs := by
  unfold okModel at h
  simp only [Bool.and_eq_true, decide_eq_true_eq, beq_iff_eq, Int.toNat_natCast] at h
  obtain ⟨_, _, _, _, _, h8, h9, h10⟩ := h
  have l1 := m.lf
  have l2 := m.ls
  have l3 := m.lh
  refine ⟨fun i hi => okRow_nn h8 (by omega), fun i j hi hj => ?_, fun i j hi hj => ?_⟩
  · rw [← rowF_get l2 hi hj]
    exact okRow_nn (allN_iff.1 h9 i (by omega) (by omega)) (by rw [rowF_len l2 hi]; exact hj)
  · rw [← rowF_get l3 hi hj]
    exact okRow_nn (allN_iff.1 h10 i (by omega) (by omega)) (by rw [rowF_len l3 hi]; exact hj)

end Go.Proofs


/-
  Words for a model; LikeOf.
-/
namespace Go.Proofs
open Go.Ide Go.IntWalk

def okMWords (n k : Int) (fs ss hs : List Nat) (ws : List (List Int)) : Bool :=
  okModel n k fs ss hs && ((decide (lenI ws ≥ 1) && decide (lenI ws ≤ 16)) && allN (fun i => allIn (ws.getD i []) 0 (wsub .i64 k 1) && decide (lenI (ws.getD i []) ≤ 12)) ws.length 0)

theorem specMWords {n k : Int} {fs ss hs : List Nat} {ws : List (List Int)} (h : ws.length ≤ 4294967296) (hh : ∀ y ∈ ws, y.length ≤ 4294967296) : spec_l03Words (n, k, fs, ss, hs) ws = some (okMWords n k fs ss hs ws) := by
  have := rounds_all (f := spec_l03Words_B1 (n, k, fs, ss, hs) ws) (fun i => ((i : Nat) : Int)) (fun i => allIn (ws.getD i []) 0 (wsub .i64 k 1) && decide (lenI (ws.getD i []) ≤ 12)) (Sum.inl ()) (Sum.inr ()) (n := ws.length) (fun i hi => by
    unfold spec_l03Words_B1
    simp only [ltN hi, cond_true, guard_pos (idxN hi), Int.toNat_natCast, word64 (hh _ (mem_getD hi [])), Option.bind_some, nextN hi h]
    cases (allIn (ws.getD i []) 0 (wsub .i64 k 1) && decide (lenI (ws.getD i []) ≤ 12)) <;> rfl) (by
    unfold spec_l03Words_B1
    simp only [geN (Nat.le_refl _), cond_false]) ws.length 0 (by omega)
  simp only [Int.natCast_zero] at this
  unfold spec_l03Words okMWords
  simp only [specModel, Option.bind_some]
  cases okModel n k fs ss hs with
  | false => rfl
  | true =>
    simp only [Bool.not_true, cond_false, Bool.true_and]
    by_cases h1 : lenI ws < 1
    · rw [decide_eq_true h1, decide_eq_false (show ¬ lenI ws ≥ 1 by omega)]; rfl
    · rw [decide_eq_false h1, decide_eq_true (show lenI ws ≥ 1 by omega)]
      simp only [cond_false, Option.bind_some, Bool.true_and]
      by_cases h2 : lenI ws > 16
      · rw [decide_eq_true h2, decide_eq_false (show ¬ lenI ws ≤ 16 by omega)]; rfl
      · rw [decide_eq_false h2, decide_eq_true (show lenI ws ≤ 16 by omega), this]
        cases allN (fun i => allIn (ws.getD i []) 0 (wsub .i64 k 1) && decide (lenI (ws.getD i []) ≤ 12)) ws.length 0 <;> rfl

theorem implMWords {n k : Int} {fs ss hs : List Nat} {ws : List (List Int)} (h : ws.length ≤ 4294967296) (hh : ∀ y ∈ ws, y.length ≤ 4294967296) : impl_Model_haveWords (n, k, fs, ss, hs) ws = some (okMWords n k fs ss hs ws) := by
  unfold impl_Model_haveWords okMWords
  simp only [implModel, Option.bind_some]
  cases hm : okModel n k fs ss hs with
  | false => rfl
  | true =>
    obtain ⟨a, b, rfl, rfl, m⟩ := model_of hm
    have h1 := m.k1
    have h2 := m.k2
    have := rounds_all (f := impl_areWords_B1 ws (b : Int)) (fun i => ((i : Nat) : Int)) (fun i => allIn (ws.getD i []) 0 (wsub .i64 (b : Int) 1) && decide (lenI (ws.getD i []) ≤ 12)) (Sum.inl ()) (Sum.inr ()) (n := ws.length) (fun i hi => by
      unfold impl_areWords_B1
      simp only [ltN hi, cond_true, guard_pos (idxN hi), Int.toNat_natCast, isWord64 (hh _ (mem_getD hi [])), Option.bind_some, nextN hi h, decide_eq_true (show (b : Int) ≥ 1 by omega), decide_eq_true (show (b : Int) ≤ 4 by omega)]
      cases allIn (ws.getD i []) 0 (wsub .i64 (b : Int) 1) <;> cases decide (lenI (ws.getD i []) ≤ 12) <;> rfl) (by
      unfold impl_areWords_B1
      simp only [geN (Nat.le_refl _), cond_false]) ws.length 0 (by omega)
    simp only [Int.natCast_zero] at this
    unfold impl_areWords
    cases decide (lenI ws ≥ 1) with
    | false => rfl
    | true =>
      cases decide (lenI ws ≤ 16) with
      | false => rfl
      | true =>
        simp only [cond_true, this, Option.bind_some, Bool.true_and]
        cases allN (fun i => allIn (ws.getD i []) 0 (wsub .i64 (b : Int) 1) && decide (lenI (ws.getD i []) ≤ 12)) ws.length 0 <;> rfl

theorem mwords_of {n k : Int} {fs ss hs : List Nat} {ws : List (List Int)} (h : okMWords n k fs ss hs ws = true) : ∃ a b : Nat, n = (a : Int) ∧ k = (b : Int) ∧ Model a b fs ss hs ∧ ModelN a b fs ss hs ∧ 1 ≤ ws.length ∧ ws.length ≤ 16 ∧ ∀ i, i < ws.length → (ws.getD i []).length ≤ 12 ∧ Letters b (ws.getD i []) := by
  unfold okMWords at h
  simp only [Bool.and_eq_true, decide_eq_true_eq] at h
  obtain ⟨h1, ⟨h2, h3⟩, h4⟩ := h
  obtain ⟨a, b, rfl, rfl, m⟩ := model_of h1
  have := m.k1
  have := m.k2
  simp only [lenI] at h2 h3
  refine ⟨a, b, rfl, rfl, m, modelN_of h1 m, by omega, by omega, fun i hi => ?_⟩
  have h5 := allN_iff.1 h4 i (by omega) (by omega)
  simp only [Bool.and_eq_true, decide_eq_true_eq, lenI] at h5
  rw [wsubI (by omega)] at h5
  refine ⟨by omega, fun j hj => ?_⟩
  have := allIn_iff.1 h5.1 j hj
  exact ⟨((ws.getD i []).getD j 0).toNat, by omega, by omega⟩

end Go.Proofs


/-
  Chances backward; BackwardOf.
-/
namespace Go.Proofs
open Go.Ide Go.IntWalk

def cellB (a b : Nat) (ss hs row : List Nat) (c i : Nat) : Nat → Nat
  | 0 => 0
  | p + 1 => fop .add .f32 (cellB a b ss hs row c i p) (fop .mul .f32 (fop .mul .f32 (hs.getD (i * b + c) 0) (ss.getD (i * a + p) 0)) (row.getD p 0))

def prevB (a b : Nat) (ss hs row : List Nat) (c : Nat) : List Nat := (List.range a).map fun i => cellB a b ss hs row c i a

theorem prevB_len (a b : Nat) (ss hs row : List Nat) (c : Nat) : (prevB a b ss hs row c).length = a := by simp [prevB]

theorem prevB_get {a b : Nat} {ss hs row : List Nat} {c i : Nat} (hi : i < a) : (prevB a b ss hs row c).getD i 0 = cellB a b ss hs row c i a := by
  unfold prevB
  simp [List.getD_eq_getElem?_getD, hi]

def rowE (a b : Nat) (ss hs : List Nat) (w : List Int) : Nat → List Nat
  | 0 => List.replicate a 1065353216
  | k + 1 => prevB a b ss hs (rowE a b ss hs w k) (w.getD (w.length - (k + 1)) 0).toNat

theorem rowE_len {a b : Nat} {ss hs : List Nat} (w : List Int) : ∀ k, (rowE a b ss hs w k).length = a
  | 0 => by simp [rowE]
  | k + 1 => prevB_len ..

def rowsB (a b : Nat) (ss hs : List Nat) (w : List Int) : List (List Nat) := (List.range (w.length + 1)).map fun i => rowE a b ss hs w (w.length - i)

theorem rowsB_len {a b : Nat} {ss hs : List Nat} {w : List Int} : (rowsB a b ss hs w).length = w.length + 1 := by simp [rowsB]
theorem rowsB_get {a b : Nat} {ss hs : List Nat} {w : List Int} {i : Nat} (h : i < w.length + 1) : (rowsB a b ss hs w).getD i [] = rowE a b ss hs w (w.length - i) := by
  unfold rowsB
  simp [List.getD_eq_getElem?_getD, h]

theorem getD_set_ne {α : Type} {xs : List α} {i j : Nat} {x d : α} (h : i ≠ j) : (xs.set i x).getD j d = xs.getD j d := by
  simp [List.getD_eq_getElem?_getD, List.getElem?_set_ne h]

theorem getD_set_at {α : Type} {xs : List α} {i : Nat} {x d : α} (h : i < xs.length) : (xs.set i x).getD i d = x := by
  simp [List.getD_eq_getElem?_getD, h]

structure RowsTo (a b : Nat) (ss hs : List Nat) (w : List Int) (k : Nat) (out : List (List Nat)) : Prop where
  len : out.length = w.length + 1
  done : ∀ j, w.length - k ≤ j → j ≤ w.length → out.getD j [] = rowE a b ss hs w (w.length - j)
  todo : ∀ j, j < w.length - k → out.getD j [] = []

theorem RowsTo.all {a b : Nat} {ss hs : List Nat} {w : List Int} {out : List (List Nat)} (h : RowsTo a b ss hs w w.length out) : out = rowsB a b ss hs w := by
  refine List.ext_getElem (by rw [h.len, rowsB_len]) fun i h1 h2 => ?_
  have e1 : out[i] = out.getD i [] := by simp [List.getD_eq_getElem?_getD, h1]
  have e2 : (rowsB a b ss hs w)[i] = (rowsB a b ss hs w).getD i [] := by simp [List.getD_eq_getElem?_getD, h2]
  have hi := h.len
  rw [e1, e2, h.done i (by omega) (by omega), rowsB_get (by omega)]

theorem RowsTo.step {a b : Nat} {ss hs : List Nat} {w : List Int} {k : Nat} {out : List (List Nat)} (h : RowsTo a b ss hs w k out) (hk : k < w.length) : RowsTo a b ss hs w (k + 1) (out.set (w.length - (k + 1)) (rowE a b ss hs w (k + 1))) := by
  have hl := h.len
  refine ⟨by simp [hl], fun j h1 h2 => ?_, fun j hj => ?_⟩
  · by_cases e : w.length - (k + 1) = j
    · subst e
      rw [getD_set_at (by omega), show w.length - (w.length - (k + 1)) = k + 1 by omega]
    · rw [getD_set_ne e]; exact h.done j (by omega) h2
  · rw [getD_set_ne (by omega)]; exact h.todo j (by omega)

theorem wsubN {n k : Nat} (hk : k < n) (hn : n ≤ 4294967296) : wsub .i64 ((n - (k + 1) : Nat) : Int) 1 = (n : Int) - 1 - ((k + 1 : Nat) : Int) := by
  rw [wsubI (by omega)]; omega

theorem specBack {a b : Nat} {fs ss hs : List Nat} (m : Model a b fs ss hs) {w : List Int} (hw : Letters b w) (hl : w.length ≤ 12) : spec_l03Backward ((a : Int), (b : Int), fs, ss, hs) w = some (rowsB a b ss hs w) := by
  have hn2 := m.n2
  have hk2 := m.k2
  have hls := m.ls
  have hlh := m.lh
  -- the last row
  have h4 := rounds_forS (f := spec_l03Backward_B4 ((a : Int), (b : Int), fs, ss, hs) w) (fun i out => (((i : Nat) : Int), out)) (fun i out => out.set w.length (out.getD w.length [] ++ [1065353216])) id (n := a)
    (fun i out => out = (List.replicate (w.length + 1) ([] : List Nat)).set w.length (List.replicate i 1065353216))
    (fun i out hi ho => ⟨by
      have hlo : out.length = w.length + 1 := by rw [ho]; simp
      have e : out.getD w.length [] = List.replicate i 1065353216 := by rw [ho]; exact getD_set_at (by simp)
      have j1 := idxN (i := w.length) (n := out.length) (by omega)
      unfold spec_l03Backward_B4
      simp only [lenI, Int.toNat_natCast, ltN hi, cond_true, nextN hi (show a ≤ 4294967296 by omega)]
      rw [guard_pos j1, guard_pos (by rw [e]; simp only [List.length_replicate, List.length_singleton, appMax]; omega)], by
      have e : out.getD w.length [] = List.replicate i 1065353216 := by rw [ho]; exact getD_set_at (by simp)
      rw [e, ho, List.set_set, ← List.replicate_succ']⟩)
    (fun out _ => by
      unfold spec_l03Backward_B4
      simp only [geN (Nat.le_refl _), cond_false]; rfl) a 0 (List.replicate (w.length + 1) []) (by omega) (by
      refine List.ext_getElem (by simp) fun i h1 h2 => ?_
      rw [List.getElem_set]
      split <;> simp)
  simp only [Int.natCast_zero] at h4
  -- the others
  have h3 := rounds_forS (f := spec_l03Backward_B3 ((a : Int), (b : Int), fs, ss, hs) w) (fun k out => ((w.length : Int) - 1 - ((k : Nat) : Int), out)) (fun k out => out.set (w.length - (k + 1)) (rowE a b ss hs w (k + 1))) id (n := w.length) (RowsTo a b ss hs w)
    (fun k out hk ho => ⟨by
      have hat : ((w.length : Int) - 1 - ((k : Nat) : Int)) = ((w.length - (k + 1) : Nat) : Int) := by omega
      rw [hat]
      obtain ⟨c, hc, hc2⟩ := hw (w.length - (k + 1)) (by omega)
      have hlo := ho.len
      have hnx : out.getD (w.length - k) [] = rowE a b ss hs w k := by
        rw [ho.done _ (Nat.le_refl _) (by omega), show w.length - (w.length - k) = k by omega]
      have hem : out.getD (w.length - (k + 1)) [] = [] := ho.todo _ (by omega)
      have hrl := rowE_len (a := a) (b := b) (ss := ss) (hs := hs) w k
      let at_ := w.length - (k + 1)
      have h2 := rounds_forS (f := spec_l03Backward_B2 ((a : Int), (b : Int), fs, ss, hs) w (((w.length - (k + 1) : Nat) : Int), out)) (fun i o => (((i : Nat) : Int), o)) (fun i o => o.set (w.length - (k + 1)) (o.getD (w.length - (k + 1)) [] ++ [cellB a b ss hs (rowE a b ss hs w k) c i a])) id (n := a)
        (fun i o => o = out.set (w.length - (k + 1)) ((List.range i).map fun i => cellB a b ss hs (rowE a b ss hs w k) c i a))
        (fun i o hi hoo => by
          have hol : o.length = w.length + 1 := by rw [hoo]; simp [hlo]
          have hoat : o.getD (w.length - (k + 1)) [] = (List.range i).map fun i => cellB a b ss hs (rowE a b ss hs w k) c i a := by rw [hoo]; exact getD_set_at (by omega)
          have honx : o.getD (w.length - k) [] = rowE a b ss hs w k := by rw [hoo, getD_set_ne (by omega)]; exact hnx
          have h1 := rounds_forS (f := spec_l03Backward_B1 ((a : Int), (b : Int), fs, ss, hs) w (((w.length - (k + 1) : Nat) : Int), out) (((i : Nat) : Int), o)) (fun p s => (s, ((p : Nat) : Int)))
            (fun p s => fop .add .f32 s (fop .mul .f32 (fop .mul .f32 (hs.getD (i * b + c) 0) (ss.getD (i * a + p) 0)) ((rowE a b ss hs w k).getD p 0))) id (n := a) (fun p s => s = cellB a b ss hs (rowE a b ss hs w k) c i p)
            (fun p s hp hs' => ⟨by
              obtain ⟨e1, e2⟩ := cellM (a := a) (b := b) (by omega) (by omega) hi hc2
              obtain ⟨e3, e4⟩ := cellM (a := a) (b := a) (by omega) (by omega) hi hp
              have e5 : wadd .i64 (((w.length - (k + 1) : Nat) : Int)) 1 = ((w.length - k : Nat) : Int) := by rw [waddI (by omega)]; omega
              have j0 := idxN (i := w.length - (k + 1)) (n := w.length) (by omega)
              have j1 := idxN (i := i * b + c) (n := hs.length) (by omega)
              have j2 := idxN (i := i * a + p) (n := ss.length) (by omega)
              have j3 := idxN (i := w.length - k) (n := o.length) (by omega)
              have j4 := idxN (i := p) (n := (rowE a b ss hs w k).length) (by omega)
              unfold spec_l03Backward_B1
              simp only [lenI, ltN hp, cond_true, Int.toNat_natCast, nextN hp (show a ≤ 4294967296 by omega), hc, e1, e3, e5, honx]
              rw [guard_pos j0, guard_pos j1, guard_pos j2, guard_pos j3, guard_pos j4], by rw [hs']; rfl⟩)
            (fun s _ => by
              unfold spec_l03Backward_B1
              simp only [geN (Nat.le_refl _), cond_false]; rfl) a 0 0 (by omega) rfl
          simp only [Int.natCast_zero] at h1
          refine ⟨?_, ?_⟩
          · have j5 := idxN (i := w.length - (k + 1)) (n := o.length) (by omega)
            unfold spec_l03Backward_B2
            simp only [lenI, ltN hi, cond_true, h1.1, id, Option.bind_some, h1.2, Int.toNat_natCast, nextN hi (show a ≤ 4294967296 by omega)]
            rw [guard_pos j5, guard_pos (by rw [hoat]; simp only [List.length_map, List.length_range, List.length_singleton, appMax]; omega)]
          · rw [hoat, hoo, List.set_set, List.range_succ, List.map_append]
            rfl)
        (fun o _ => by
          unfold spec_l03Backward_B2
          simp only [geN (Nat.le_refl _), cond_false]; rfl) a 0 out (by omega) (by
          refine List.ext_getElem (by simp) fun i q1 q2 => ?_
          rw [List.getElem_set]
          split
          · rename_i e
            subst e
            have : out[w.length - (k + 1)] = out.getD (w.length - (k + 1)) [] := by simp [List.getD_eq_getElem?_getD, q1]
            rw [this, hem]; rfl
          · rfl)
      simp only [Int.natCast_zero] at h2
      unfold spec_l03Backward_B3
      rw [show decide (((w.length - (k + 1) : Nat) : Int) ≥ 0) = true from decide_eq_true (Int.natCast_nonneg _)]
      simp only [cond_true, h2.1, id, Option.bind_some, h2.2, wsubN hk (show w.length ≤ 4294967296 by omega)]
      rw [rowE, hc, Int.toNat_natCast]
      rfl, ho.step hk⟩)
    (fun out _ => by
      unfold spec_l03Backward_B3
      rw [show decide ((w.length : Int) - 1 - ((w.length : Nat) : Int) ≥ 0) = false from decide_eq_false (by omega)]
      rfl) w.length 0 ((List.replicate (w.length + 1) ([] : List Nat)).set w.length (List.replicate a 1065353216)) (by omega) ⟨by simp, fun j q1 q2 => by
        have : j = w.length := by omega
        subst this
        rw [getD_set_at (by simp), Nat.sub_self, rowE], fun j hj => by
        rw [getD_set_ne (by omega), List.getD_eq_getElem?_getD, List.getElem?_replicate]
        split <;> rfl⟩
  simp only [Int.natCast_zero, Int.sub_zero] at h3
  unfold spec_l03Backward
  simp only [lenI]
  have e1 : wadd .i64 (w.length : Int) 1 = ((w.length + 1 : Nat) : Int) := by rw [waddI (by omega)]; omega
  have e2 : wsub .i64 (w.length : Int) 1 = (w.length : Int) - 1 := by rw [wsubI (by omega)]
  rw [e1, e2, guard_pos ⟨by omega, by omega⟩, Int.toNat_natCast, h4.1]
  simp only [id, Option.bind_some]
  rw [h4.2, h3.1]
  simp only [id, Option.bind_some]
  rw [RowsTo.all h3.2]

theorem repeatOnes : ∀ a : Nat, a ≤ 5 → slices_Repeat___float32_float32 [1065353216] (a : Int) = some (List.replicate a 1065353216)
  | 0, _ => by
    have e : slices_Repeat___float32_float32 [1065353216] ((0 : Nat) : Int) = (rounds slices_Repeat___float32_float32_B1 ((0 : Int), ([] : List Nat))).bind fun r => some r := by kernel_rfl
    rw [e, rounds_iff.2 ⟨2, show Go.Ide.runN slices_Repeat___float32_float32_B1 2 ((0 : Int), ([] : List Nat)) = some [] by kernel_rfl⟩]; rfl
  | 1, _ => by
    have e : slices_Repeat___float32_float32 [1065353216] ((1 : Nat) : Int) = (rounds slices_Repeat___float32_float32_B1 ((1 : Int), [1065353216])).bind fun r => some r := by kernel_rfl
    rw [e, rounds_iff.2 ⟨2, show Go.Ide.runN slices_Repeat___float32_float32_B1 2 ((1 : Int), [1065353216]) = some [1065353216] by kernel_rfl⟩]; rfl
  | 2, _ => by
    have e : slices_Repeat___float32_float32 [1065353216] ((2 : Nat) : Int) = (rounds slices_Repeat___float32_float32_B1 ((1 : Int), [1065353216, 0])).bind fun r => some r := by kernel_rfl
    rw [e, rounds_iff.2 ⟨3, show Go.Ide.runN slices_Repeat___float32_float32_B1 3 ((1 : Int), [1065353216, 0]) = some [1065353216, 1065353216] by kernel_rfl⟩]; rfl
  | 3, _ => by
    have e : slices_Repeat___float32_float32 [1065353216] ((3 : Nat) : Int) = (rounds slices_Repeat___float32_float32_B1 ((1 : Int), [1065353216, 0, 0])).bind fun r => some r := by kernel_rfl
    rw [e, rounds_iff.2 ⟨4, show Go.Ide.runN slices_Repeat___float32_float32_B1 4 ((1 : Int), [1065353216, 0, 0]) = some [1065353216, 1065353216, 1065353216] by kernel_rfl⟩]; rfl
  | 4, _ => by
    have e : slices_Repeat___float32_float32 [1065353216] ((4 : Nat) : Int) = (rounds slices_Repeat___float32_float32_B1 ((1 : Int), [1065353216, 0, 0, 0])).bind fun r => some r := by kernel_rfl
    rw [e, rounds_iff.2 ⟨4, show Go.Ide.runN slices_Repeat___float32_float32_B1 4 ((1 : Int), [1065353216, 0, 0, 0]) = some [1065353216, 1065353216, 1065353216, 1065353216] by kernel_rfl⟩]; rfl
  | 5, _ => by
    have e : slices_Repeat___float32_float32 [1065353216] ((5 : Nat) : Int) = (rounds slices_Repeat___float32_float32_B1 ((1 : Int), [1065353216, 0, 0, 0, 0])).bind fun r => some r := by kernel_rfl
    rw [e, rounds_iff.2 ⟨5, show Go.Ide.runN slices_Repeat___float32_float32_B1 5 ((1 : Int), [1065353216, 0, 0, 0, 0]) = some [1065353216, 1065353216, 1065353216, 1065353216, 1065353216] by kernel_rfl⟩]; rfl
  | _ + 6, h => by omega

theorem implBack {a b : Nat} {fs ss hs : List Nat} (m : Model a b fs ss hs) {w : List Int} (hw : Letters b w) (hl : w.length ≤ 12) : impl_Model_backward ((a : Int), (b : Int), fs, ss, hs) w = some (rowsB a b ss hs w) := by
  have hn2 := m.n2
  have hk2 := m.k2
  have hls := m.ls
  have hlh := m.lh
  have h3 := rounds_forS (f := impl_Model_backward_B3 ((a : Int), (b : Int), fs, ss, hs) w) (fun k out => ((w.length : Int) - 1 - ((k : Nat) : Int), out)) (fun k out => out.set (w.length - (k + 1)) (rowE a b ss hs w (k + 1))) id (n := w.length) (RowsTo a b ss hs w)
    (fun k out hk ho => ⟨by
      have hat : ((w.length : Int) - 1 - ((k : Nat) : Int)) = ((w.length - (k + 1) : Nat) : Int) := by omega
      rw [hat]
      obtain ⟨c, hc, hc2⟩ := hw (w.length - (k + 1)) (by omega)
      have hlo := ho.len
      have hnx : out.getD (w.length - k) [] = rowE a b ss hs w k := by
        rw [ho.done _ (Nat.le_refl _) (by omega), show w.length - (w.length - k) = k by omega]
      have hrl := rowE_len (a := a) (b := b) (ss := ss) (hs := hs) w k
      have hnl := prevB_len a b ss hs (rowE a b ss hs w k) c
      have h2 := loop_to0 (f := impl_Model_backward_B2 ((a : Int), (b : Int), fs, ss, hs) w (((w.length - (k + 1) : Nat) : Int), out)) (prevB a b ss hs (rowE a b ss hs w k) c)
        (fun i o hi hol h0 => by
          rw [hnl] at hi hol
          have h1 := rounds_forS (f := impl_Model_backward_B1 ((a : Int), (b : Int), fs, ss, hs) w (((w.length - (k + 1) : Nat) : Int), out) (((i : Nat) : Int), o)) (fun p s => (((p : Nat) : Int), s))
            (fun p s => s.set i (fop .add .f32 (s.getD i 0) (fop .mul .f32 (fop .mul .f32 (hs.getD (i * b + c) 0) (ss.getD (i * a + p) 0)) ((rowE a b ss hs w k).getD p 0)))) id (n := a) (fun p s => s = o.set i (cellB a b ss hs (rowE a b ss hs w k) c i p))
            (fun p s hp hs' => ⟨by
              obtain ⟨e1, e2⟩ := cellM (a := a) (b := b) (by omega) (by omega) hi hc2
              obtain ⟨e3, e4⟩ := cellM (a := a) (b := a) (by omega) (by omega) hi hp
              have e5 : wadd .i64 (((w.length - (k + 1) : Nat) : Int)) 1 = ((w.length - k : Nat) : Int) := by rw [waddI (by omega)]; omega
              have hsl : s.length = a := by rw [hs']; simp [hol]
              have j0 := idxN (i := i) (n := s.length) (by omega)
              have j5 := idxN (i := w.length - (k + 1)) (n := w.length) (by omega)
              have j1 := idxN (i := i * b + c) (n := hs.length) (by omega)
              have j2 := idxN (i := i * a + p) (n := ss.length) (by omega)
              have j3 := idxN (i := w.length - k) (n := out.length) (by omega)
              have j4 := idxN (i := p) (n := (rowE a b ss hs w k).length) (by omega)
              unfold impl_Model_backward_B1 impl_Model_show impl_Model_step
              simp only [lenI, ltN hp, cond_true, Int.toNat_natCast, nextN hp (show a ≤ 4294967296 by omega), hc, e1, e3, e5, hnx]
              rw [guard_pos j0, guard_pos j5, guard_pos j1, Option.bind_some, guard_pos j2, Option.bind_some, guard_pos j3, guard_pos j4], by
              rw [hs']
              rw [getD_set_at (by omega), List.set_set]
              rfl⟩)
            (fun s _ => by
              unfold impl_Model_backward_B1
              simp only [geN (Nat.le_refl _), cond_false]; rfl) a 0 o (by omega) (by
              show o = o.set i 0
              apply List.ext_getElem (by simp)
              intro j h1 h2
              rw [List.getElem_set]
              split
              · rename_i e
                subst e
                simpa [List.getD_eq_getElem?_getD, List.getElem?_eq_getElem h1] using h0
              · rfl)
          simp only [Int.natCast_zero] at h1
          unfold impl_Model_backward_B2
          simp only [ltN hi, cond_true, h1.1, id, Option.bind_some, nextN hi (show a ≤ 4294967296 by omega)]
          rw [h1.2, prevB_get hi])
        (fun o _ => by
          unfold impl_Model_backward_B2
          rw [hnl]
          simp only [geN (Nat.le_refl _), cond_false])
      rw [hnl] at h2
      have j6 := idxN (i := w.length - (k + 1)) (n := out.length) (by omega)
      unfold impl_Model_backward_B3
      rw [show decide (((w.length - (k + 1) : Nat) : Int) ≥ 0) = true from decide_eq_true (Int.natCast_nonneg _)]
      simp only [cond_true, Int.toNat_natCast, lenI]
      rw [guard_pos ⟨by omega, by omega⟩, h2]
      simp only [Option.bind_some]
      rw [guard_pos j6, wsubN hk (show w.length ≤ 4294967296 by omega), rowE, hc, Int.toNat_natCast], ho.step hk⟩)
    (fun out _ => by
      unfold impl_Model_backward_B3
      rw [show decide ((w.length : Int) - 1 - ((w.length : Nat) : Int) ≥ 0) = false from decide_eq_false (by omega)]
      rfl) w.length 0 ((List.replicate (w.length + 1) ([] : List Nat)).set w.length (List.replicate a 1065353216)) (by omega) ⟨by simp, fun j q1 q2 => by
        have : j = w.length := by omega
        subst this
        rw [getD_set_at (by simp), Nat.sub_self, rowE], fun j hj => by
        rw [getD_set_ne (by omega), List.getD_eq_getElem?_getD, List.getElem?_replicate]
        split <;> rfl⟩
  simp only [Int.natCast_zero, Int.sub_zero] at h3
  unfold impl_Model_backward
  simp only [lenI, List.length_replicate]
  have e1 : wadd .i64 (w.length : Int) 1 = ((w.length + 1 : Nat) : Int) := by rw [waddI (by omega)]; omega
  have e2 : wsub .i64 (w.length : Int) 1 = (w.length : Int) - 1 := by rw [wsubI (by omega)]
  rw [e1, e2, guard_pos ⟨by omega, by omega⟩, repeatOnes a hn2]
  simp only [Option.bind_some, Int.toNat_natCast]
  rw [guard_pos ⟨by omega, by omega⟩, h3.1]
  simp only [id, Option.bind_some]
  rw [RowsTo.all h3.2]

end Go.Proofs


/-
  Shares of a list; HiddenAt, PairAt.
-/
namespace Go.Proofs
open Go.Ide Go.IntWalk

def quoF (xs : List Nat) (all : Nat) : List Nat := (List.range xs.length).map fun i => fop .quo .f32 (xs.getD i 0) all

theorem quoF_len (xs : List Nat) (all : Nat) : (quoF xs all).length = xs.length := by simp [quoF]

def shF (xs : List Nat) : List Nat × Bool :=
  bif fgt .f32 (sumF xs xs.length) 0 then (bif fins (quoF xs (sumF xs xs.length)) then (quoF xs (sumF xs xs.length), true) else ([], false)) else ([], false)

theorem specShares {xs : List Nat} (h : xs.length ≤ 1000000) : ∃ l b, spec_l03Shares xs = some (l, b) ∧ (bif (!b) then (([] : List Nat), false) else (l, true)) = shF xs := by
  have h1 := loop_app (f := spec_l03Shares_B1 xs (sumF xs xs.length)) (fun i => fop .quo .f32 (xs.getD i 0) (sumF xs xs.length)) xs.length [] (fun i out hi ho => by
    unfold spec_l03Shares_B1
    simp only [lenI, ltN hi, cond_true, Int.toNat_natCast, nextN hi (show xs.length ≤ 4294967296 by omega)]
    rw [guard_pos (idxN hi), guard_pos (by simp only [ho, List.length_nil, List.length_singleton, appMax]; omega)]) (fun out => by
    unfold spec_l03Shares_B1
    simp only [lenI, geN (Nat.le_refl _), cond_false])
  unfold spec_l03Shares shF
  rw [specSum (by omega)]
  simp only [Option.bind_some]
  cases fgt .f32 (sumF xs xs.length) 0 with
  | false => exact ⟨[], false, rfl, rfl⟩
  | true =>
    rw [List.nil_append] at h1
    simp only [Bool.not_true, cond_false, cond_true]
    rw [h1]
    have e : (List.range xs.length).map (fun i => fop .quo .f32 (xs.getD i 0) (sumF xs xs.length)) = quoF xs (sumF xs xs.length) := rfl
    rw [e]
    have hl := quoF_len xs (sumF xs xs.length)
    simp only [Option.bind_some]
    rw [specFins (by omega)]
    refine ⟨_, _, rfl, ?_⟩
    cases fins (quoF xs (sumF xs xs.length)) <;> rfl

theorem implShares {xs : List Nat} (h : xs.length ≤ 1000000) : impl_shares_mv0 xs = some (shF xs) := by
  let all := sumF xs xs.length
  have h1 := rounds_forS (f := impl_shares_mv0_B1 xs all) (fun i out => (((i : Nat) : Int), out)) (fun i out => out.set i (fop .quo .f32 (out.getD i 0) all)) id (n := xs.length)
    (fun i out => out = (List.range i).map (fun i => fop .quo .f32 (xs.getD i 0) all) ++ xs.drop i)
    (fun i out hi ho => by
      have hol : out.length = xs.length := by rw [ho]; simp; omega
      have hg : out.getD i 0 = xs.getD i 0 := by
        rw [ho, List.getD_eq_getElem?_getD, List.getElem?_append_right (by simp)]
        simp [List.getD_eq_getElem?_getD]
      refine ⟨?_, ?_⟩
      · have j1 := idxN (i := i) (n := out.length) (by omega)
        unfold impl_shares_mv0_B1
        simp only [lenI, ltN hi, cond_true, Int.toNat_natCast, nextN hi (show xs.length ≤ 4294967296 by omega)]
        rw [guard_pos j1]
      · rw [hg, ho, drop_cons hi 0, set_at (by simp), List.range_succ, List.map_append]
        simp)
    (fun out _ => by
      unfold impl_shares_mv0_B1
      simp only [lenI, geN (Nat.le_refl _), cond_false]; rfl) xs.length 0 xs (by omega) (by simp)
  simp only [Int.natCast_zero] at h1
  unfold impl_shares_mv0 shF
  rw [implSum (by omega)]
  simp only [Option.bind_some]
  cases fgt .f32 (sumF xs xs.length) 0 with
  | false => rfl
  | true =>
    simp only [Bool.not_true, cond_false, cond_true]
    have h2 := h1.2
    rw [List.drop_length, List.append_nil] at h2
    rw [show rounds (impl_shares_mv0_B1 xs (sumF xs xs.length)) (0, xs) = some (quoF xs (sumF xs xs.length)) from by rw [h1.1]; simp only [id]; rw [h2]; rfl]
    have hl := quoF_len xs (sumF xs xs.length)
    simp only [Option.bind_some]
    rw [implFinsL (by omega)]
    cases fins (quoF xs (sumF xs xs.length)) <;> rfl

theorem rowsF_i {w : List Int} {a b : Nat} {fs ss hs : List Nat} {k : Nat} (h : k ≤ w.length) : (0 : Int) ≤ (k : Int) ∧ (k : Int) < lenI (rowsF a b fs ss hs w) := by
  simp only [lenI, rowsF_len]; omega
theorem rowsB_i {w : List Int} {a b : Nat} {ss hs : List Nat} {k : Nat} (h : k ≤ w.length) : (0 : Int) ≤ (k : Int) ∧ (k : Int) < lenI (rowsB a b ss hs w) := by
  simp only [lenI, rowsB_len]; omega

def hidF (a : Nat) (f g : List Nat) : List Nat := (List.range a).map fun i => fop .mul .f32 (f.getD i 0) (g.getD i 0)

theorem implHid {a b : Nat} {fs ss hs : List Nat} (hn : a ≤ 5) {f g : List Nat} (hf : f.length = a) (hg : g.length = a) : impl_Model_hiddenAt ((a : Int), (b : Int), fs, ss, hs) f g = some (shF (hidF a f g)) := by
  have h1 := loop_app (f := impl_Model_hiddenAt_B1 f g) (fun i => fop .mul .f32 (f.getD i 0) (g.getD i 0)) f.length [] (fun i out hi ho => by
    have j := idxN (i := i) (n := g.length) (by omega)
    unfold impl_Model_hiddenAt_B1
    simp only [lenI, ltN hi, cond_true, Int.toNat_natCast, nextN hi (show f.length ≤ 4294967296 by omega)]
    rw [guard_pos (idxN hi), guard_pos j, guard_pos (by simp only [ho, List.length_nil, List.length_singleton, appMax]; omega)]) (fun out => by
    unfold impl_Model_hiddenAt_B1
    simp only [lenI, geN (Nat.le_refl _), cond_false])
  rw [List.nil_append] at h1
  unfold impl_Model_hiddenAt
  rw [h1, hf]
  simp only [Option.bind_some]
  rw [show (List.range a).map (fun i => fop .mul .f32 (f.getD i 0) (g.getD i 0)) = hidF a f g from rfl, implShares (by simp [hidF]; omega)]
  rfl

def pairG (a b : Nat) (ss hs f g : List Nat) (c i k : Nat) : Nat := fop .mul .f32 (fop .mul .f32 (fop .mul .f32 (f.getD i 0) (hs.getD (i * b + c) 0)) (ss.getD (i * a + k) 0)) (g.getD k 0)

def pairF (a b : Nat) (ss hs f g : List Nat) (c : Nat) : Nat → List Nat
  | 0 => []
  | i + 1 => pairF a b ss hs f g c i ++ (List.range a).map (pairG a b ss hs f g c i)

theorem pairF_len (a b : Nat) (ss hs f g : List Nat) (c : Nat) : ∀ i, (pairF a b ss hs f g c i).length = i * a
  | 0 => by simp [pairF]
  | i + 1 => by simp [pairF, pairF_len a b ss hs f g c i, Nat.succ_mul]

theorem implPair {a b : Nat} {fs ss hs : List Nat} (m : Model a b fs ss hs) {f g : List Nat} {c : Nat} (hf : f.length = a) (hg : g.length = a) (hc : c < b) : impl_Model_pairAt ((a : Int), (b : Int), fs, ss, hs) f g (c : Int) = some (shF (pairF a b ss hs f g c a)) := by
  have hn2 := m.n2
  have hk2 := m.k2
  have hls := m.ls
  have hlh := m.lh
  have h2 := rounds_forS (f := impl_Model_pairAt_B2 ((a : Int), (b : Int), fs, ss, hs) f g (c : Int)) (fun i out => (((i : Nat) : Int), out)) (fun i out => out ++ (List.range a).map (pairG a b ss hs f g c i)) id (n := a) (fun i out => out = pairF a b ss hs f g c i)
    (fun i out hi ho => by
      have hol : out.length = i * a := by rw [ho, pairF_len]
      have hia : i * a ≤ 25 := Nat.le_trans (Nat.mul_le_mul (show i ≤ 5 by omega) hn2) (by omega)
      obtain ⟨e1, e2⟩ := cellM (a := a) (b := b) (by omega) (by omega) hi hc
      have h1 := loop_app (f := impl_Model_pairAt_B1 ((a : Int), (b : Int), fs, ss, hs) f g (c : Int) ((i : Int), out)) (pairG a b ss hs f g c i) a out (fun k o hk hoo => by
        obtain ⟨e3, e4⟩ := cellM (a := a) (b := a) (by omega) (by omega) hi hk
        have j0 := idxN (i := i) (n := f.length) (by omega)
        have j1 := idxN (i := i * b + c) (n := hs.length) (by omega)
        have j2 := idxN (i := i * a + k) (n := ss.length) (by omega)
        have j3 := idxN (i := k) (n := g.length) (by omega)
        unfold impl_Model_pairAt_B1 impl_Model_show impl_Model_step
        simp only [lenI, ltN hk, cond_true, Int.toNat_natCast, nextN hk (show a ≤ 4294967296 by omega), e1, e3]
        rw [guard_pos j0, guard_pos j1, Option.bind_some, guard_pos j2, Option.bind_some, guard_pos j3, guard_pos (by simp only [hoo, List.length_singleton, appMax]; omega)]
        rfl) (fun o => by
        unfold impl_Model_pairAt_B1
        simp only [geN (Nat.le_refl _), cond_false])
      refine ⟨?_, by rw [ho]; rfl⟩
      unfold impl_Model_pairAt_B2
      simp only [ltN hi, cond_true, h1, Option.bind_some, nextN hi (show a ≤ 4294967296 by omega)])
    (fun out _ => by
      unfold impl_Model_pairAt_B2
      simp only [geN (Nat.le_refl _), cond_false]; rfl) a 0 [] (by omega) rfl
  simp only [Int.natCast_zero] at h2
  have hpl := pairF_len a b ss hs f g c a
  have haa : a * a ≤ 25 := Nat.mul_le_mul hn2 hn2
  unfold impl_Model_pairAt
  rw [h2.1]
  simp only [id, Option.bind_some]
  rw [h2.2, implShares (by omega)]
  rfl

end Go.Proofs


/-
  LearnOnce, LearnRounds.
-/
namespace Go.Proofs
open Go.Ide Go.IntWalk

def hidV (a b : Nat) (fs ss hs : List Nat) (w : List Int) (k : Nat) : List Nat × Bool := shF (hidF a (rowAt a b fs ss hs w k) (rowE a b ss hs w (w.length - k)))
def pairV (a b : Nat) (fs ss hs : List Nat) (w : List Int) (k : Nat) : List Nat × Bool := shF (pairF a b ss hs (rowAt a b fs ss hs w k) (rowE a b ss hs w (w.length - (k + 1))) (w.getD k 0).toNat a)

theorem shF_some {xs : List Nat} (h : (shF xs).2 = true) : (shF xs).1.length = xs.length := by
  unfold shF at h ⊢
  cases h1 : fgt .f32 (sumF xs xs.length) 0 with
  | false => rw [h1] at h; cases h
  | true =>
    cases h2 : fins (quoF xs (sumF xs xs.length)) with
    | false => rw [h1, h2] at h; cases h
    | true => simp [quoF_len]

def Told (p q : List Nat × Bool) : Prop := p.2 = q.2 ∧ (q.2 = true → p.1 = q.1)

theorem told_of {l : List Nat} {b : Bool} {q : List Nat × Bool} (h : (bif (!b) then (([] : List Nat), false) else (l, true)) = q) : Told (l, b) q := by
  subst h
  cases b with
  | false => exact ⟨rfl, fun h => by cases h⟩
  | true => exact ⟨rfl, fun _ => rfl⟩

theorem specHid {a b : Nat} {fs ss hs : List Nat} (m : Model a b fs ss hs) {w : List Int} (hw : Letters b w) (hwl : w.length ≤ 12) {k : Nat} (hk : k ≤ w.length) :
    ∃ p, spec_l03Hidden ((a : Int), (b : Int), fs, ss, hs) w (k : Int) = some p ∧ Told p (hidV a b fs ss hs w k) := by
  have hn2 := m.n2
  have hfl := rowAt_len m w k
  have hbl := rowE_len (a := a) (b := b) (ss := ss) (hs := hs) w (w.length - k)
  have hfg : (rowsF a b fs ss hs w).getD k [] = rowAt a b fs ss hs w k := rowsF_get (by omega)
  have hbg : (rowsB a b ss hs w).getD k [] = rowE a b ss hs w (w.length - k) := rowsB_get (by omega)
  unfold hidV
  generalize hF : rowAt a b fs ss hs w k = F at hfl hfg
  generalize hG : rowE a b ss hs w (w.length - k) = B at hbl hbg
  have h3 := loop_app (f := spec_l03Hidden_B1 ((k : Nat) : Int) (rowsF a b fs ss hs w) (rowsB a b ss hs w)) (fun i => fop .mul .f32 (F.getD i 0) (B.getD i 0)) F.length [] (fun i out hi ho => by
    have j := idxN (i := i) (n := B.length) (by omega)
    unfold spec_l03Hidden_B1
    simp only [Int.toNat_natCast, hfg, hbg, lenI, ltN hi, cond_true, nextN hi (show F.length ≤ 4294967296 by omega)]
    rw [guard_pos (idxN hi), guard_pos j, guard_pos (by simp only [ho, List.length_nil, List.length_singleton, appMax]; omega)]) (fun out => by
    unfold spec_l03Hidden_B1
    simp only [Int.toNat_natCast, hfg, lenI, geN (Nat.le_refl _), cond_false])
  rw [List.nil_append, hfl] at h3
  unfold spec_l03Hidden
  simp only [specForward m hw hwl, specBack m hw hwl, Option.bind_some, guard_pos (rowsF_i (a := a) (b := b) (fs := fs) (ss := ss) (hs := hs) hk), guard_pos (rowsB_i (a := a) (b := b) (ss := ss) (hs := hs) hk), h3]
  obtain ⟨l, bb, e1, e2⟩ := specShares (xs := hidF a F B) (by simp [hidF]; omega)
  rw [show (List.range a).map (fun i => fop .mul .f32 (F.getD i 0) (B.getD i 0)) = hidF a F B from rfl, e1]
  exact ⟨_, rfl, told_of e2⟩

theorem specPair {a b : Nat} {fs ss hs : List Nat} (m : Model a b fs ss hs) {w : List Int} (hw : Letters b w) (hwl : w.length ≤ 12) {k : Nat} (hk : k < w.length) :
    ∃ p, spec_l03Pair ((a : Int), (b : Int), fs, ss, hs) w (k : Int) = some p ∧ Told p (pairV a b fs ss hs w k) := by
  have hn2 := m.n2
  have hk2 := m.k2
  have hls := m.ls
  have hlh := m.lh
  obtain ⟨c, hc, hc2⟩ := hw k hk
  have e5 : wadd .i64 ((k : Nat) : Int) 1 = ((k + 1 : Nat) : Int) := by rw [waddI (by omega)]; omega
  have hfl := rowAt_len m w k
  have hbl := rowE_len (a := a) (b := b) (ss := ss) (hs := hs) w (w.length - (k + 1))
  have hfg : (rowsF a b fs ss hs w).getD k [] = rowAt a b fs ss hs w k := rowsF_get (by omega)
  have hbg : (rowsB a b ss hs w).getD (k + 1) [] = rowE a b ss hs w (w.length - (k + 1)) := rowsB_get (by omega)
  unfold pairV
  generalize hF : rowAt a b fs ss hs w k = F at hfl hfg
  generalize hG : rowE a b ss hs w (w.length - (k + 1)) = B at hbl hbg
  have jf := rowsF_i (a := a) (b := b) (fs := fs) (ss := ss) (hs := hs) (k := k) (w := w) (by omega)
  have jb := rowsB_i (a := a) (b := b) (ss := ss) (hs := hs) (k := k + 1) (w := w) (by omega)
  rw [hc, Int.toNat_natCast]
  have h4 := rounds_forS (f := spec_l03Pair_B2 ((a : Int), (b : Int), fs, ss, hs) w ((k : Nat) : Int) (rowsF a b fs ss hs w) (rowsB a b ss hs w)) (fun i out => (((i : Nat) : Int), out)) (fun i out => out ++ (List.range a).map (pairG a b ss hs F B c i)) id (n := a) (fun i out => out = pairF a b ss hs F B c i)
    (fun i out hi ho => by
      have hol : out.length = i * a := by rw [ho, pairF_len]
      have hia : i * a ≤ 25 := Nat.le_trans (Nat.mul_le_mul (show i ≤ 5 by omega) hn2) (by omega)
      obtain ⟨e1, e2⟩ := cellM (a := a) (b := b) (by omega) (by omega) hi hc2
      have h3 := loop_app (f := spec_l03Pair_B1 ((a : Int), (b : Int), fs, ss, hs) w ((k : Nat) : Int) (rowsF a b fs ss hs w) (rowsB a b ss hs w) ((i : Int), out)) (pairG a b ss hs F B c i) a out (fun q o hq hoo => by
        obtain ⟨e3, e4⟩ := cellM (a := a) (b := a) (by omega) (by omega) hi hq
        have j0 := idxN (i := i) (n := F.length) (by omega)
        have j1 := idxN (i := i * b + c) (n := hs.length) (by omega)
        have j2 := idxN (i := i * a + q) (n := ss.length) (by omega)
        have j3 := idxN (i := q) (n := B.length) (by omega)
        unfold spec_l03Pair_B1
        simp only [e5, Int.toNat_natCast, hfg, hbg, hc, lenI, ltN hq, cond_true, nextN hq (show a ≤ 4294967296 by omega), e1, e3]
        rw [guard_pos j0, guard_pos (idxN hk), guard_pos j1, Option.bind_some, guard_pos j2, guard_pos j3, guard_pos (by simp only [hoo, List.length_singleton, appMax]; omega)]
        rfl) (fun o => by
        unfold spec_l03Pair_B1
        simp only [geN (Nat.le_refl _), cond_false])
      refine ⟨?_, by rw [ho]; rfl⟩
      unfold spec_l03Pair_B2
      simp only [ltN hi, cond_true, h3, Option.bind_some, nextN hi (show a ≤ 4294967296 by omega)])
    (fun out _ => by
      unfold spec_l03Pair_B2
      simp only [geN (Nat.le_refl _), cond_false]; rfl) a 0 [] (by omega) rfl
  simp only [Int.natCast_zero] at h4
  have hpl := pairF_len a b ss hs F B c a
  have haa : a * a ≤ 25 := Nat.mul_le_mul hn2 hn2
  unfold spec_l03Pair
  simp only [specForward m hw hwl, specBack m hw hwl, Option.bind_some, e5, guard_pos jf, guard_pos jb, h4.1, id, h4.2]
  obtain ⟨l, bb, e1, e2⟩ := specShares (xs := pairF a b ss hs F B c a) (by omega)
  rw [e1]
  exact ⟨_, rfl, told_of e2⟩

def addV (xs ys : List Nat) : List Nat := forS (fun i o => o.set i (fop .add .f32 (o.getD i 0) (ys.getD i 0))) ys.length 0 xs
def addC (b c : Nat) (xs ys : List Nat) : List Nat := forS (fun i o => o.set (i * b + c) (fop .add .f32 (o.getD (i * b + c) 0) (ys.getD i 0))) ys.length 0 xs

theorem implAdd {xs ys : List Nat} (h : ys.length ≤ xs.length) (hl : ys.length ≤ 4294967296) : impl_addTo xs ys = some (addV xs ys) ∧ (addV xs ys).length = xs.length := by
  have := rounds_forS (f := impl_addTo_B1 ys) (fun i out => (((i : Nat) : Int), out)) (fun i o => o.set i (fop .add .f32 (o.getD i 0) (ys.getD i 0))) id (n := ys.length) (fun i out => out.length = xs.length)
    (fun i out hi ho => ⟨by
      unfold impl_addTo_B1
      simp only [lenI, ltN hi, cond_true, Int.toNat_natCast, nextN hi hl]
      rw [guard_pos (idxN hi), guard_pos (idxN (by omega))], by simp [ho]⟩)
    (fun out _ => by
      unfold impl_addTo_B1
      simp only [lenI, geN (Nat.le_refl _), cond_false]; rfl) ys.length 0 xs (by omega) rfl
  simp only [Int.natCast_zero] at this
  unfold impl_addTo
  rw [this.1]
  simp only [id, Option.bind_some]
  exact ⟨guard_pos this.2, this.2⟩

theorem specAdd1 {xs : List Nat} {p q : List Nat × Bool} (h : p.1 = q.1) (hl : q.1.length ≤ xs.length) (h2 : q.1.length ≤ 4294967296) : rounds (spec_l03Learn_B1 p) ((0 : Int), xs) = some (addV xs q.1) := by
  have := rounds_forS (f := spec_l03Learn_B1 p) (fun i out => (((i : Nat) : Int), out)) (fun i o => o.set i (fop .add .f32 (o.getD i 0) (q.1.getD i 0))) id (n := q.1.length) (fun i out => out.length = xs.length)
    (fun i out hi ho => ⟨by
      unfold spec_l03Learn_B1
      simp only [h, lenI, ltN hi, cond_true, Int.toNat_natCast, nextN hi h2]
      rw [guard_pos (idxN (by omega)), guard_pos (idxN hi)], by simp [ho]⟩)
    (fun out _ => by
      unfold spec_l03Learn_B1
      simp only [h, lenI, geN (Nat.le_refl _), cond_false]; rfl) q.1.length 0 xs (by omega) rfl
  simp only [Int.natCast_zero] at this
  rw [this.1]; rfl

theorem specAdd4 {xs : List Nat} {p q : List Nat × Bool} (h : p.1 = q.1) (hl : q.1.length ≤ xs.length) (h2 : q.1.length ≤ 4294967296) : rounds (spec_l03Learn_B4 p) ((0 : Int), xs) = some (addV xs q.1) := by
  have := rounds_forS (f := spec_l03Learn_B4 p) (fun i out => (((i : Nat) : Int), out)) (fun i o => o.set i (fop .add .f32 (o.getD i 0) (q.1.getD i 0))) id (n := q.1.length) (fun i out => out.length = xs.length)
    (fun i out hi ho => ⟨by
      unfold spec_l03Learn_B4
      simp only [h, lenI, ltN hi, cond_true, Int.toNat_natCast, nextN hi h2]
      rw [guard_pos (idxN (by omega)), guard_pos (idxN hi)], by simp [ho]⟩)
    (fun out _ => by
      unfold spec_l03Learn_B4
      simp only [h, lenI, geN (Nat.le_refl _), cond_false]; rfl) q.1.length 0 xs (by omega) rfl
  simp only [Int.natCast_zero] at this
  rw [this.1]; rfl

theorem specAddC {n : Int} {fs ss hs : List Nat} {ws : List (List Int)} {a b c i j : Nat} {s4 : List Nat × List Nat × List Nat} {s21 : List Nat × List Nat} {xs : List Nat} {p q : List Nat × Bool} (h : p.1 = q.1) (ha : a ≤ 5) (hb : b ≤ 5) (hc : c < b) (hq : q.1.length = a) (hl : xs.length = a * b)
    (hj : j < (ws.getD i []).length) (hcc : (ws.getD i []).getD j 0 = (c : Int)) : rounds (spec_l03Learn_B2 (n, (b : Int), fs, ss, hs) ws ((i : Int), s4) ((j : Int), s21) p) ((0 : Int), xs) = some (addC b c xs q.1) ∧ (addC b c xs q.1).length = xs.length := by
  have := rounds_forS (f := spec_l03Learn_B2 (n, (b : Int), fs, ss, hs) ws ((i : Int), s4) ((j : Int), s21) p) (fun i out => (((i : Nat) : Int), out)) (fun i o => o.set (i * b + c) (fop .add .f32 (o.getD (i * b + c) 0) (q.1.getD i 0))) id (n := q.1.length) (fun i out => out.length = xs.length)
    (fun k out hk ho => ⟨by
      obtain ⟨e1, e2⟩ := cellM (a := a) (b := b) ha hb (show k < a by omega) hc
      have j0 := idxN (i := k * b + c) (n := out.length) (by omega)
      unfold spec_l03Learn_B2
      simp only [h, lenI, ltN hk, cond_true, Int.toNat_natCast, nextN hk (show q.1.length ≤ 4294967296 by omega), hcc, e1]
      rw [guard_pos (idxN hj), guard_pos j0, guard_pos (idxN hk)], by simp [ho]⟩)
    (fun out _ => by
      unfold spec_l03Learn_B2
      simp only [h, lenI, geN (Nat.le_refl _), cond_false]; rfl) q.1.length 0 xs (by omega) rfl
  simp only [Int.natCast_zero] at this
  exact ⟨by rw [this.1]; rfl, this.2⟩

theorem implAddC {n : Int} {fs ss hs : List Nat} {w : List Int} {a b c j : Nat} {s12 : List Nat × List Nat} {xs : List Nat} {p : List Nat × Bool} (ha : a ≤ 5) (hb : b ≤ 5) (hc : c < b) (hq : p.1.length = a) (hl : xs.length = a * b)
    (hcc : w.getD j 0 = (c : Int)) : rounds (impl_Model_learnWord_B1 (n, (b : Int), fs, ss, hs) w ((j : Int), s12) p) ((0 : Int), xs) = some (addC b c xs p.1) := by
  have := rounds_forS (f := impl_Model_learnWord_B1 (n, (b : Int), fs, ss, hs) w ((j : Int), s12) p) (fun i out => (((i : Nat) : Int), out)) (fun i o => o.set (i * b + c) (fop .add .f32 (o.getD (i * b + c) 0) (p.1.getD i 0))) id (n := p.1.length) (fun i out => out.length = xs.length)
    (fun k out hk ho => ⟨by
      obtain ⟨e1, e2⟩ := cellM (a := a) (b := b) ha hb (show k < a by omega) hc
      have j0 := idxN (i := k * b + c) (n := out.length) (by omega)
      unfold impl_Model_learnWord_B1
      simp only [lenI, ltN hk, cond_true, Int.toNat_natCast, nextN hk (show p.1.length ≤ 4294967296 by omega), hcc, e1]
      rw [guard_pos (idxN hk), guard_pos j0], by simp [ho]⟩)
    (fun out _ => by
      unfold impl_Model_learnWord_B1
      simp only [lenI, geN (Nat.le_refl _), cond_false]; rfl) p.1.length 0 xs (by omega) rfl
  simp only [Int.natCast_zero] at this
  rw [this.1]; rfl

end Go.Proofs


/-
  LearnOnce, LearnRounds: counts are told.
-/
namespace Go.Proofs
open Go.Ide Go.IntWalk

def fillF (cnt old : List Nat) : List Nat := bif fgt .f32 (sumF cnt cnt.length) 0 then quoF cnt (sumF cnt cnt.length) else old

theorem fillF_len {cnt old : List Nat} (h : cnt.length = old.length) : (fillF cnt old).length = old.length := by
  unfold fillF
  cases fgt .f32 (sumF cnt cnt.length) 0 with
  | false => rfl
  | true => simp [quoF_len, h]

theorem specFill {cnt old : List Nat} (h : cnt.length ≤ 1000000) : spec_l03Fill cnt old = some (fillF cnt old) := by
  have h1 := loop_app (f := spec_l03Fill_B1 cnt (sumF cnt cnt.length)) (fun i => fop .quo .f32 (cnt.getD i 0) (sumF cnt cnt.length)) cnt.length [] (fun i out hi ho => by
    unfold spec_l03Fill_B1
    simp only [lenI, ltN hi, cond_true, Int.toNat_natCast, nextN hi (show cnt.length ≤ 4294967296 by omega)]
    rw [guard_pos (idxN hi), guard_pos (by simp only [ho, List.length_nil, List.length_singleton, appMax]; omega)]) (fun out => by
    unfold spec_l03Fill_B1
    simp only [lenI, geN (Nat.le_refl _), cond_false])
  rw [List.nil_append] at h1
  unfold spec_l03Fill fillF
  rw [specSum (by omega)]
  simp only [Option.bind_some]
  cases fgt .f32 (sumF cnt cnt.length) 0 with
  | false => rfl
  | true =>
    simp only [Bool.not_true, cond_false, cond_true]
    rw [h1]; rfl

def fillsF (cnt old : List Nat) (w : Nat) : Nat → List Nat
  | 0 => []
  | i + 1 => fillsF cnt old w i ++ fillF (rowF cnt w i) (rowF old w i)

theorem fillsF_len {cnt old : List Nat} {w n : Nat} (h1 : cnt.length = n * w) (h2 : old.length = n * w) : ∀ i, i ≤ n → (fillsF cnt old w i).length = i * w
  | 0, _ => by simp [fillsF]
  | i + 1, hi => by
    have l1 := rowF_len h1 (show i < n by omega)
    have l2 := rowF_len h2 (show i < n by omega)
    rw [fillsF, List.length_append, fillsF_len h1 h2 i (by omega), fillF_len (by omega), l2, Nat.succ_mul]

theorem specFilled {a b : Nat} {fs ss hs c1 c2 c3 : List Nat} (m : Model a b fs ss hs) (l1 : c1.length = a) (l2 : c2.length = a * a) (l3 : c3.length = a * b) :
    spec_l03Filled ((a : Int), (b : Int), fs, ss, hs) c1 c2 c3 = some (bif okModel a b (fillF c1 fs) (fillsF c2 ss a a) (fillsF c3 hs b a) then (((a : Int), (b : Int), fillF c1 fs, fillsF c2 ss a a, fillsF c3 hs b a), true) else ((0, 0, [], [], []), false)) := by
  have hn2 := m.n2
  have hk2 := m.k2
  have hlf := m.lf
  have hls := m.ls
  have hlh := m.lh
  have aa : a * a ≤ 25 := Nat.mul_le_mul hn2 hn2
  have ab : a * b ≤ 20 := Nat.mul_le_mul hn2 hk2
  have h1 := rounds_forS (f := spec_l03Filled_B1 ((a : Int), (b : Int), fs, ss, hs) c2 c3) (fun i (s : List Nat × List Nat) => (((i : Nat) : Int), s.1, s.2)) (fun i s => (s.1 ++ fillF (rowF c2 a i) (rowF ss a i), s.2 ++ fillF (rowF c3 b i) (rowF hs b i))) (fun s => (s.1, s.2)) (n := a)
    (fun i s => s = (fillsF c2 ss a i, fillsF c3 hs b i))
    (fun i s hi hs' => ⟨by
      obtain ⟨p1, p2, p3, p4⟩ := cutRow (xs := c2) (w := a) (n := a) (by omega) (by omega) hi
      obtain ⟨q1, _, _, _⟩ := cutRow (xs := ss) (w := a) (n := a) (by omega) (by omega) hi
      obtain ⟨r1, r2, r3, r4⟩ := cutRow (xs := c3) (w := b) (n := a) (by omega) (by omega) hi
      obtain ⟨t1, _, _, _⟩ := cutRow (xs := hs) (w := b) (n := a) (by omega) (by omega) hi
      have i1 := row_in l2 hi
      have i2 := row_in hls hi
      have i3 := row_in l3 hi
      have i4 := row_in hlh hi
      have k1 := rowF_len l2 hi
      have k2 := rowF_len hls hi
      have k3 := rowF_len l3 hi
      have k4 := rowF_len hlh hi
      have s1 := fillsF_len l2 hls i (by omega)
      have s2 := fillsF_len l3 hlh i (by omega)
      have f1 := fillF_len (cnt := rowF c2 a i) (old := rowF ss a i) (by omega)
      have f2 := fillF_len (cnt := rowF c3 b i) (old := rowF hs b i) (by omega)
      rw [p3, p2] at p1
      rw [p3, p2] at q1
      rw [r3, r2] at r1
      rw [r3, r2] at t1
      rw [p2] at p3
      rw [r2] at r3
      subst hs'
      unfold spec_l03Filled_B1
      simp only [p1, q1, r1, t1, p2, p3, r2, r3, ltN hi, cond_true, specFill (show (rowF c2 a i).length ≤ 1000000 by omega), specFill (show (rowF c3 b i).length ≤ 1000000 by omega), Option.bind_some, nextN hi (show a ≤ 4294967296 by omega), lenI]
      rw [guard_pos ⟨by omega, by omega, by omega⟩, guard_pos ⟨by omega, by omega, by omega⟩, guard_pos (by simp only [s1, f1, appMax]; omega), guard_pos ⟨by omega, by omega, by omega⟩, guard_pos ⟨by omega, by omega, by omega⟩, guard_pos (by simp only [s2, f2, appMax]; omega)], by
      rw [hs']; rfl⟩)
    (fun s _ => by
      unfold spec_l03Filled_B1
      simp only [geN (Nat.le_refl _), cond_false]) a 0 ([], []) (by omega) rfl
  simp only [Int.natCast_zero] at h1
  have f0 := fillF_len (cnt := c1) (old := fs) (by omega)
  unfold spec_l03Filled spec_l03Give_mv0
  simp only [specFill (show c1.length ≤ 1000000 by omega), Option.bind_some]
  rw [guard_pos (by simp only [f0, appMax]; omega), h1.1]
  simp only [Option.bind_some, h1.2, specModel]
  cases okModel a b (fillF c1 fs) (fillsF c2 ss a a) (fillsF c3 hs b a) <;> rfl

theorem implDivided {cnt old : List Nat} {n w : Nat} (hn : n ≤ 5) (hw1 : 1 ≤ w) (hw : w ≤ 5) (l1 : cnt.length = n * w) (l2 : old.length = n * w) : impl_divided cnt old (w : Int) = some (fillsF cnt old w n) := by
  have hnw : n * w ≤ 25 := Nat.mul_le_mul hn hw
  have hq : IntKind.wrap .i64 (Int.tdiv (lenI cnt) (w : Int)) = (n : Int) := by
    simp only [lenI, l1]
    rw [Int.natCast_mul, Int.mul_tdiv_cancel _ (by omega)]
    have := waddI (a := (n : Int)) (b := 0) (by omega)
    simpa [wadd] using this
  have h2 := rounds_forS (f := impl_divided_B2 cnt (w : Int)) (fun i out => (((i : Nat) : Int), out)) (fun i _ => fillsF cnt old w (i + 1) ++ old.drop ((i + 1) * w)) id (n := n)
    (fun i out => out = fillsF cnt old w i ++ old.drop (i * w))
    (fun i out hi ho => ⟨by
      obtain ⟨c1, c2, c3, c4⟩ := cutRow (xs := cnt) (w := w) (n := n) (by omega) (by omega) hi
      have hin := row_in l1 hi
      have hin2 := row_in l2 hi
      have k1 := rowF_len l1 hi
      have k2 := rowF_len l2 hi
      have s1 := fillsF_len l1 l2 i (by omega)
      have hsp : old.drop (i * w) = rowF old w i ++ old.drop ((i + 1) * w) := by
        unfold rowF
        rw [Nat.succ_mul, ← List.drop_drop, List.take_append_drop]
      rw [c3, c2] at c1
      unfold impl_divided_B2 impl_rowOf_float32
      simp only [hq, ltN hi, cond_true, c2, c4, c1]
      rw [guard_pos ⟨by omega, by omega, by omega, by simp only [lenI]; omega⟩]
      simp only [Option.bind_some, implSum (xs := rowF cnt w i) (by omega), nextN hi (show n ≤ 4294967296 by omega)]
      have hf : fillsF cnt old w (i + 1) = fillsF cnt old w i ++ fillF (rowF cnt w i) (rowF old w i) := rfl
      have hfu : fillF (rowF cnt w i) (rowF old w i) = bif fgt .f32 (sumF (rowF cnt w i) (rowF cnt w i).length) 0 then quoF (rowF cnt w i) (sumF (rowF cnt w i) (rowF cnt w i).length) else rowF old w i := rfl
      cases hg : fgt .f32 (sumF (rowF cnt w i) (rowF cnt w i).length) 0 with
      | false =>
        rw [hf, hfu, hg, ho, hsp]
        simp [List.append_assoc]
      | true =>
        let sm := sumF (rowF cnt w i) (rowF cnt w i).length
        have h1 := rounds_forS (f := impl_divided_B1 (w : Int) ((i : Int), out) (rowF cnt w i) sm) (fun k o => (((k : Nat) : Int), o)) (fun k o => o.set (i * w + k) (fop .quo .f32 ((rowF cnt w i).getD k 0) sm)) id (n := (rowF cnt w i).length)
          (fun k o => o = (fillsF cnt old w i ++ (List.range k).map (fun k => fop .quo .f32 ((rowF cnt w i).getD k 0) sm)) ++ old.drop (i * w + k))
          (fun k o hk hoo => by
            have hol : o.length = n * w := by
              rw [hoo]; simp [s1]; omega
            obtain ⟨e1, e2⟩ := cellM (a := 5) (b := w) (by omega) hw (show i < 5 by omega) (show k < w by omega)
            have j0 := idxN (i := i * w + k) (n := o.length) (by omega)
            refine ⟨?_, ?_⟩
            · unfold impl_divided_B1
              simp only [lenI, ltN hk, cond_true, Int.toNat_natCast, nextN hk (show (rowF cnt w i).length ≤ 4294967296 by omega), e1]
              rw [guard_pos (idxN hk), guard_pos j0]
            · rw [hoo, drop_cons (show i * w + k < old.length by omega) 0, set_at (by simp [s1]), List.range_succ, List.map_append]
              simp [Nat.add_assoc])
          (fun o _ => by
            unfold impl_divided_B1
            simp only [lenI, geN (Nat.le_refl _), cond_false]; rfl) (rowF cnt w i).length 0 out (by omega) (by rw [ho]; simp)
        simp only [Int.natCast_zero] at h1
        simp only [Bool.not_true, cond_false]
        rw [h1.1]
        simp only [id, Option.bind_some]
        rw [h1.2, hf, hfu, hg, cond_true, k1, Nat.succ_mul]
        have hsm : sm = sumF (rowF cnt w i) w := congrArg (sumF (rowF cnt w i)) k1
        unfold quoF
        rw [k1, hsm], by
      rfl⟩)
    (fun out _ => by
      unfold impl_divided_B2
      simp only [hq, geN (Nat.le_refl _), cond_false]; rfl) n 0 old (by omega) (by simp [fillsF])
  simp only [Int.natCast_zero] at h2
  have hcl : slices_Clone old = some old := by
    unfold slices_Clone
    rw [guard_pos (by simp only [appMax]; omega)]
  unfold impl_divided
  rw [hcl]
  simp only [Option.bind_some]
  rw [guard_pos (by omega), h2.1]
  simp only [id, Option.bind_some]
  rw [h2.2, ← l2, List.drop_length, List.append_nil]

theorem implTold {a b : Nat} {fs ss hs c1 c2 c3 : List Nat} (m : Model a b fs ss hs) (l1 : c1.length = a) (l2 : c2.length = a * a) (l3 : c3.length = a * b) :
    impl_Model_told ((a : Int), (b : Int), fs, ss, hs) (c1, c2, c3) = some (bif okModel a b (fillF c1 fs) (fillsF c2 ss a a) (fillsF c3 hs b a) then (((a : Int), (b : Int), fillF c1 fs, fillsF c2 ss a a, fillsF c3 hs b a), true) else ((0, 0, [], [], []), false)) := by
  have hn1 := m.n1
  have hn2 := m.n2
  have hk1 := m.k1
  have hk2 := m.k2
  have hlf := m.lf
  have hls := m.ls
  have hlh := m.lh
  have e1 : fillsF c1 fs a 1 = fillF c1 fs := by
    simp only [fillsF, List.nil_append]
    rw [rowF_all l1, rowF_all hlf]
  unfold impl_Model_told impl_validModel_mv0
  simp only [implDivided (n := 1) (w := a) (by omega) hn1 hn2 (by omega) (by omega) (cnt := c1) (old := fs), implDivided hn2 hn1 hn2 l2 hls, implDivided hn2 hk1 (by omega) l3 hlh, Option.bind_some, implModel, e1]
  cases okModel a b (fillF c1 fs) (fillsF c2 ss a a) (fillsF c3 hs b a) <;> rfl

end Go.Proofs


/-
  LearnOnce, LearnRounds.
-/
namespace Go.Proofs
open Go.Ide Go.IntWalk

theorem pairLen {a b : Nat} {fs ss hs : List Nat} {w : List Int} {k : Nat} (h : (pairV a b fs ss hs w k).2 = true) : (pairV a b fs ss hs w k).1.length = a * a := by
  have := shF_some h
  rw [pairF_len] at this
  exact this

theorem hidLen {a b : Nat} {fs ss hs : List Nat} {w : List Int} {k : Nat} (h : (hidV a b fs ss hs w k).2 = true) : (hidV a b fs ss hs w k).1.length = a := by
  have := shF_some h
  simp only [hidF, List.length_map, List.length_range] at this
  exact this

theorem specAddCl {a b : Nat} {c : Nat} {xs ys : List Nat} : (addC b c xs ys).length = xs.length := by
  have : ∀ (k i : Nat) (s : List Nat), (forS (fun i o => o.set (i * b + c) (fop .add .f32 (o.getD (i * b + c) 0) (ys.getD i 0))) k i s).length = s.length := by
    intro k
    induction k with
    | zero => intro i s; rfl
    | succ k ih => intro i s; simp only [forS]; rw [ih]; simp
  exact this _ _ _

theorem addVl {xs ys : List Nat} : (addV xs ys).length = xs.length := by
  have : ∀ (k i : Nat) (s : List Nat), (forS (fun i o => o.set i (fop .add .f32 (o.getD i 0) (ys.getD i 0))) k i s).length = s.length := by
    intro k
    induction k with
    | zero => intro i s; rfl
    | succ k ih => intro i s; simp only [forS]; rw [ih]; simp
  exact this _ _ _

theorem lettersSame {a b : Nat} {fs ss hs : List Nat} (m : Model a b fs ss hs) {ws : List (List Int)} {i : Nat} (hw : Letters b (ws.getD i [])) (hwl : (ws.getD i []).length ≤ 12) (s4 : List Nat × List Nat × List Nat) {x y : List Nat} (hx : x.length = a * a) (hy : y.length = a * b) :
    ∃ r r', rounds (spec_l03Learn_B3 ((a : Int), (b : Int), fs, ss, hs) ws ((i : Int), s4)) ((0 : Int), x, y) = some r ∧
      rounds (impl_Model_learnWord_B2 ((a : Int), (b : Int), fs, ss, hs) (ws.getD i []) (rowsF a b fs ss hs (ws.getD i [])) (rowsB a b ss hs (ws.getD i []))) ((0 : Int), x, y) = some r' ∧
      ((∃ x y, r = .inl (x, y) ∧ r' = .inl (x, y) ∧ x.length = a * a ∧ y.length = a * b) ∨ (r = .inr () ∧ ∃ x y, r' = .inr (x, y) ∧ x.length = a * a ∧ y.length = a * b)) := by
  have hn2 := m.n2
  have hk2 := m.k2
  have aa : a * a ≤ 25 := Nat.mul_le_mul hn2 hn2
  refine rounds_rel (fun n (s t : Int × List Nat × List Nat) => ∃ (j : Nat) (x y : List Nat), n + j = (ws.getD i []).length ∧ s = ((j : Int), x, y) ∧ t = ((j : Int), x, y) ∧ x.length = a * a ∧ y.length = a * b)
    (fun (r : (List Nat × List Nat) ⊕ Unit) (r' : (List Nat × List Nat) ⊕ (List Nat × List Nat)) => (∃ x y, r = .inl (x, y) ∧ r' = .inl (x, y) ∧ x.length = a * a ∧ y.length = a * b) ∨ (r = .inr () ∧ ∃ x y, r' = .inr (x, y) ∧ x.length = a * a ∧ y.length = a * b)) ?_ (ws.getD i []).length _ _ ⟨0, x, y, by omega, rfl, rfl, hx, hy⟩
  rintro n s t ⟨j, x, y, hn, rfl, rfl, hx, hy⟩
  by_cases hj : j < (ws.getD i []).length
  · obtain ⟨c, hc, hc2⟩ := hw j hj
    obtain ⟨p, hp1, hp2, hp3⟩ := specHid m hw hwl (Nat.le_of_lt hj)
    obtain ⟨q, hq1, hq2, hq3⟩ := specPair m hw hwl hj
    have e5 : wadd .i64 ((j : Nat) : Int) 1 = ((j + 1 : Nat) : Int) := by rw [waddI (by omega)]; omega
    have jf := rowsF_i (a := a) (b := b) (fs := fs) (ss := ss) (hs := hs) (Nat.le_of_lt hj)
    have jb := rowsB_i (a := a) (b := b) (ss := ss) (hs := hs) (Nat.le_of_lt hj)
    have jc := rowsB_i (a := a) (b := b) (ss := ss) (hs := hs) (k := j + 1) (w := ws.getD i []) (by omega)
    have hfl := rowAt_len m (ws.getD i []) j
    have hbl := rowE_len (a := a) (b := b) (ss := ss) (hs := hs) (ws.getD i []) ((ws.getD i []).length - j)
    have hbl2 := rowE_len (a := a) (b := b) (ss := ss) (hs := hs) (ws.getD i []) ((ws.getD i []).length - (j + 1))
    have hfg : (rowsF a b fs ss hs (ws.getD i [])).getD j [] = rowAt a b fs ss hs (ws.getD i []) j := rowsF_get (by omega)
    have hbg : (rowsB a b ss hs (ws.getD i [])).getD j [] = rowE a b ss hs (ws.getD i []) ((ws.getD i []).length - j) := rowsB_get (by omega)
    have hbg2 : (rowsB a b ss hs (ws.getD i [])).getD (j + 1) [] = rowE a b ss hs (ws.getD i []) ((ws.getD i []).length - (j + 1)) := rowsB_get (by omega)
    have hI1 : impl_Model_hiddenAt ((a : Int), (b : Int), fs, ss, hs) (rowAt a b fs ss hs (ws.getD i []) j) (rowE a b ss hs (ws.getD i []) ((ws.getD i []).length - j)) = some (hidV a b fs ss hs (ws.getD i []) j) := implHid hn2 hfl hbl
    have hI2 : impl_Model_pairAt ((a : Int), (b : Int), fs, ss, hs) (rowAt a b fs ss hs (ws.getD i []) j) (rowE a b ss hs (ws.getD i []) ((ws.getD i []).length - (j + 1))) (c : Int) = some (pairV a b fs ss hs (ws.getD i []) j) := by
      rw [implPair m hfl hbl2 hc2]
      unfold pairV
      rw [hc, Int.toNat_natCast]
    have hs1 : spec_l03Learn_B3 ((a : Int), (b : Int), fs, ss, hs) ws ((i : Int), s4) ((j : Int), x, y) = (bif (!(hidV a b fs ss hs (ws.getD i []) j).2 || !(pairV a b fs ss hs (ws.getD i []) j).2) then some (.inr (.inr ())) else
        some (.inl (((j + 1 : Nat) : Int), addV x (pairV a b fs ss hs (ws.getD i []) j).1, addC b c y (hidV a b fs ss hs (ws.getD i []) j).1))) := by
      unfold spec_l03Learn_B3
      simp only [lenI, Int.toNat_natCast, ltN hj, cond_true, hp1, hq1, Option.bind_some, hp2, hq2, e5]
      cases h1 : (hidV a b fs ss hs (ws.getD i []) j).2 with
      | false => rfl
      | true =>
        cases h2 : (pairV a b fs ss hs (ws.getD i []) j).2 with
        | false => rfl
        | true =>
          have l1 := hidLen h1
          have l2 := pairLen h2
          simp only [Bool.not_true, cond_false, Option.bind_some, Bool.or_self]
          rw [(specAddC (hp3 h1) hn2 (by omega) hc2 l1 hy hj hc).1]
          simp only [Option.bind_some]
          rw [specAdd1 (hq3 h2) (by omega) (by omega)]
          rfl
    have hs2 : impl_Model_learnWord_B2 ((a : Int), (b : Int), fs, ss, hs) (ws.getD i []) (rowsF a b fs ss hs (ws.getD i [])) (rowsB a b ss hs (ws.getD i [])) ((j : Int), x, y) = (bif (!(hidV a b fs ss hs (ws.getD i []) j).2 || !(pairV a b fs ss hs (ws.getD i []) j).2) then some (.inr (.inr (x, y))) else
        some (.inl (((j + 1 : Nat) : Int), addV x (pairV a b fs ss hs (ws.getD i []) j).1, addC b c y (hidV a b fs ss hs (ws.getD i []) j).1))) := by
      unfold impl_Model_learnWord_B2
      have jw : (0 : Int) ≤ (j : Int) ∧ (j : Int) < lenI (ws.getD i []) := idxN hj
      simp only [Int.toNat_natCast, e5, guard_pos jw, guard_pos jf, guard_pos jb, guard_pos jc, hfg, hbg, hbg2, hI1, hc, hI2, Option.bind_some]
      simp only [lenI, ltN hj, cond_true]
      cases h1 : (hidV a b fs ss hs (ws.getD i []) j).2 with
      | false => rfl
      | true =>
        cases h2 : (pairV a b fs ss hs (ws.getD i []) j).2 with
        | false => rfl
        | true =>
          have l1 := hidLen h1
          have l2 := pairLen h2
          simp only [Bool.not_true, cond_false, Option.bind_some, Bool.or_self]
          rw [implAddC hn2 (by omega) hc2 l1 hy hc]
          simp only [Option.bind_some]
          rw [(implAdd (by omega) (by omega)).1]
          rfl
    cases hb : (!(hidV a b fs ss hs (ws.getD i []) j).2 || !(pairV a b fs ss hs (ws.getD i []) j).2) with
    | true =>
      rw [hb] at hs1 hs2
      exact .inr ⟨_, _, hs1, hs2, .inr ⟨rfl, x, y, rfl, hx, hy⟩⟩
    | false =>
      rw [hb] at hs1 hs2
      exact .inl ⟨n - 1, _, _, by omega, hs1, hs2, j + 1, _, _, by omega, rfl, rfl, by rw [addVl]; exact hx, by rw [specAddCl (a := a)]; exact hy⟩
  · have hj2 : j = (ws.getD i []).length := by omega
    refine .inr ⟨.inl (x, y), .inl (x, y), ?_, ?_, .inl ⟨x, y, rfl, rfl, hx, hy⟩⟩
    · unfold spec_l03Learn_B3
      simp only [lenI, Int.toNat_natCast, geN (show (ws.getD i []).length ≤ j by omega), cond_false]
    · unfold impl_Model_learnWord_B2
      simp only [lenI, geN (show (ws.getD i []).length ≤ j by omega), cond_false]

theorem wordsSame {a b : Nat} {fs ss hs : List Nat} (m : Model a b fs ss hs) {ws : List (List Int)} (hl : ws.length ≤ 1048576) (hw : ∀ i, i < ws.length → (ws.getD i []).length ≤ 12 ∧ Letters b (ws.getD i [])) {z x y : List Nat} (hz : z.length = a) (hx : x.length = a * a) (hy : y.length = a * b) :
    ∃ r r', rounds (spec_l03Learn_B5 ((a : Int), (b : Int), fs, ss, hs) ws) ((0 : Int), z, x, y) = some r ∧ rounds (impl_LearnOnce_B1 ((a : Int), (b : Int), fs, ss, hs) ws) ((0 : Int), z, x, y) = some r' ∧
      ((∃ z x y, r = .inl (z, x, y) ∧ r' = .inl (z, x, y) ∧ z.length = a ∧ x.length = a * a ∧ y.length = a * b) ∨ (r = .inr () ∧ r' = .inr ())) := by
  have hn2 := m.n2
  refine rounds_rel (fun n (s t : Int × List Nat × List Nat × List Nat) => ∃ (j : Nat) (z x y : List Nat), n + j = ws.length ∧ s = ((j : Int), z, x, y) ∧ t = ((j : Int), z, x, y) ∧ z.length = a ∧ x.length = a * a ∧ y.length = a * b)
    (fun (r : (List Nat × List Nat × List Nat) ⊕ Unit) (r' : (List Nat × List Nat × List Nat) ⊕ Unit) => (∃ z x y, r = .inl (z, x, y) ∧ r' = .inl (z, x, y) ∧ z.length = a ∧ x.length = a * a ∧ y.length = a * b) ∨ (r = .inr () ∧ r' = .inr ())) ?_ ws.length _ _ ⟨0, z, x, y, by omega, rfl, rfl, hz, hx, hy⟩
  rintro n s t ⟨i, z, x, y, hn, rfl, rfl, hz, hx, hy⟩
  by_cases hi : i < ws.length
  · obtain ⟨hwl, hwi⟩ := hw i hi
    obtain ⟨p, hp1, hp2, hp3⟩ := specHid m hwi hwl (Nat.zero_le _)
    obtain ⟨r, r', hr, hr', hrr⟩ := lettersSame m hwi hwl (z, x, y) hx hy
    have jf := rowsF_i (a := a) (b := b) (fs := fs) (ss := ss) (hs := hs) (w := ws.getD i []) (Nat.zero_le _)
    have jb := rowsB_i (a := a) (b := b) (ss := ss) (hs := hs) (w := ws.getD i []) (Nat.zero_le _)
    have hfl := rowAt_len m (ws.getD i []) 0
    have hbl := rowE_len (a := a) (b := b) (ss := ss) (hs := hs) (ws.getD i []) ((ws.getD i []).length - 0)
    have hfg : (rowsF a b fs ss hs (ws.getD i [])).getD 0 [] = rowAt a b fs ss hs (ws.getD i []) 0 := rowsF_get (by omega)
    have hbg : (rowsB a b ss hs (ws.getD i [])).getD 0 [] = rowE a b ss hs (ws.getD i []) ((ws.getD i []).length - 0) := rowsB_get (by omega)
    have hI1 : impl_Model_hiddenAt ((a : Int), (b : Int), fs, ss, hs) (rowAt a b fs ss hs (ws.getD i []) 0) (rowE a b ss hs (ws.getD i []) ((ws.getD i []).length - 0)) = some (hidV a b fs ss hs (ws.getD i []) 0) := implHid hn2 hfl hbl
    have jw : (0 : Int) ≤ (i : Int) ∧ (i : Int) < lenI ws := idxN hi
    simp only [Int.natCast_zero] at hp1 jf jb
    have hs1 : spec_l03Learn_B5 ((a : Int), (b : Int), fs, ss, hs) ws ((i : Int), z, x, y) = (bif (hidV a b fs ss hs (ws.getD i []) 0).2 then (match r with | .inl q => some (.inl (((i + 1 : Nat) : Int), addV z (hidV a b fs ss hs (ws.getD i []) 0).1, q.1, q.2)) | .inr _ => some (.inr (.inr ()))) else some (.inr (.inr ()))) := by
      unfold spec_l03Learn_B5
      simp only [guard_pos jw]
      simp only [lenI, Int.toNat_natCast, ltN hi, cond_true, hp1, Option.bind_some, hp2, nextN hi (show ws.length ≤ 4294967296 by omega)]
      cases h1 : (hidV a b fs ss hs (ws.getD i []) 0).2 with
      | false => rfl
      | true =>
        have l1 := hidLen h1
        simp only [Bool.not_true, cond_false, cond_true]
        rw [specAdd4 (hp3 h1) (by omega) (by omega)]
        simp only [Option.bind_some]
        rw [hr]
        cases r <;> rfl
    have hs2 : impl_LearnOnce_B1 ((a : Int), (b : Int), fs, ss, hs) ws ((i : Int), z, x, y) = (bif (hidV a b fs ss hs (ws.getD i []) 0).2 then (match r' with | .inl q => some (.inl (((i + 1 : Nat) : Int), addV z (hidV a b fs ss hs (ws.getD i []) 0).1, q.1, q.2)) | .inr _ => some (.inr (.inr ()))) else some (.inr (.inr ()))) := by
      unfold impl_LearnOnce_B1 impl_Model_learnWord
      simp only [guard_pos jw]
      simp only [Int.toNat_natCast, implForward m hwi hwl, implBack m hwi hwl, Option.bind_some, guard_pos jf, guard_pos jb, Int.toNat_zero, hfg, hbg, hI1]
      simp only [lenI, ltN hi, cond_true, nextN hi (show ws.length ≤ 4294967296 by omega)]
      cases h1 : (hidV a b fs ss hs (ws.getD i []) 0).2 with
      | false => rfl
      | true =>
        have l1 := hidLen h1
        simp only [Bool.not_true, cond_false, cond_true]
        rw [(implAdd (by omega) (by omega)).1]
        simp only [Option.bind_some]
        rw [hr']
        simp only [Option.bind_some]
        rcases hrr with ⟨x', y', rfl, rfl, hx', hy'⟩ | ⟨rfl, x', y', rfl, hx', hy'⟩
        · simp only
          rw [guard_pos addVl, guard_pos (by omega), guard_pos (by omega)]
          rfl
        · simp only
          rw [guard_pos addVl, guard_pos (by omega), guard_pos (by omega)]
          rfl
    cases h1 : (hidV a b fs ss hs (ws.getD i []) 0).2 with
    | false =>
      rw [h1] at hs1 hs2
      exact .inr ⟨_, _, hs1, hs2, .inr ⟨rfl, rfl⟩⟩
    | true =>
      rw [h1] at hs1 hs2
      rcases hrr with ⟨x', y', rfl, rfl, hx', hy'⟩ | ⟨rfl, x', y', rfl, hx', hy'⟩
      · exact .inl ⟨n - 1, _, _, by omega, hs1, hs2, i + 1, _, _, _, by omega, rfl, rfl, by rw [addVl]; exact hz, hx', hy'⟩
      · exact .inr ⟨_, _, hs1, hs2, .inr ⟨rfl, rfl⟩⟩
  · refine .inr ⟨.inl (z, x, y), .inl (z, x, y), ?_, ?_, .inl ⟨z, x, y, rfl, rfl, hz, hx, hy⟩⟩
    · unfold spec_l03Learn_B5
      simp only [lenI, geN (show ws.length ≤ i by omega), cond_false]
    · unfold impl_LearnOnce_B1
      simp only [lenI, geN (show ws.length ≤ i by omega), cond_false]

theorem learnSame {a b : Nat} {fs ss hs : List Nat} (m : Model a b fs ss hs) {ws : List (List Int)} (hok : okMWords (a : Int) (b : Int) fs ss hs ws = true) (hl : ws.length ≤ 1048576) (hh : ∀ y ∈ ws, y.length ≤ 4294967296) (hw : ∀ i, i < ws.length → (ws.getD i []).length ≤ 12 ∧ Letters b (ws.getD i [])) :
    ∃ fs' ss' hs', (spec_l03Learn ((a : Int), (b : Int), fs, ss, hs) ws = some (((a : Int), (b : Int), fs', ss', hs'), true) ∧ impl_LearnOnce ((a : Int), (b : Int), fs, ss, hs) ws = some (((a : Int), (b : Int), fs', ss', hs'), true) ∧ okModel (a : Int) (b : Int) fs' ss' hs' = true) ∨
      (spec_l03Learn ((a : Int), (b : Int), fs, ss, hs) ws = some ((0, 0, [], [], []), false) ∧ impl_LearnOnce ((a : Int), (b : Int), fs, ss, hs) ws = some ((0, 0, [], [], []), false)) := by
  have hn2 := m.n2
  have hk2 := m.k2
  have hlf := m.lf
  have hls := m.ls
  have hlh := m.lh
  have aa : a * a ≤ 25 := Nat.mul_le_mul hn2 hn2
  have ab : a * b ≤ 20 := Nat.mul_le_mul hn2 hk2
  have e1 : wmul .i64 (a : Int) (a : Int) = ((a * a : Nat) : Int) := by rw [wmulI (by rw [← Int.natCast_mul]; omega), ← Int.natCast_mul]
  have e2 : wmul .i64 (a : Int) (b : Int) = ((a * b : Nat) : Int) := by rw [wmulI (by rw [← Int.natCast_mul]; omega), ← Int.natCast_mul]
  obtain ⟨r, r', h1, h2, h3⟩ := wordsSame m hl hw (z := List.replicate a 0) (x := List.replicate (a * a) 0) (y := List.replicate (a * b) 0) (by simp) (by simp) (by simp)
  unfold spec_l03Learn impl_LearnOnce impl_Model_noCounts
  simp only [e1, e2, lenI, hlf, hls, hlh, Int.toNat_natCast, implMWords (ws := ws) (by omega) hh, hok, Option.bind_some, Bool.not_true, cond_false]
  rw [guard_pos ⟨by omega, by omega⟩, guard_pos ⟨by omega, by omega⟩, guard_pos ⟨by omega, by omega⟩, guard_pos ⟨by omega, by omega⟩, guard_pos ⟨by omega, by omega⟩, guard_pos ⟨by omega, by omega⟩]
  simp only [Option.bind_some]
  rw [h1, h2]
  simp only [Option.bind_some]
  rcases h3 with ⟨z, x, y, rfl, rfl, hz, hx, hy⟩ | ⟨rfl, rfl⟩
  · simp only [specFilled m hz hx hy, implTold m hz hx hy, Option.bind_some]
    cases hk : okModel (a : Int) (b : Int) (fillF z fs) (fillsF x ss a a) (fillsF y hs b a) with
    | false => exact ⟨[], [], [], .inr ⟨rfl, rfl⟩⟩
    | true => exact ⟨_, _, _, .inl ⟨rfl, rfl, hk⟩⟩
  · exact ⟨[], [], [], .inr ⟨rfl, rfl⟩⟩

theorem okModel_len {a b : Nat} {fs ss hs : List Nat} (h : okModel (a : Int) (b : Int) fs ss hs = true) : Model a b fs ss hs ∧ fs.length ≤ 1000000 ∧ ss.length ≤ 1000000 ∧ hs.length ≤ 1000000 := by
  obtain ⟨a', b', ea, eb, m⟩ := model_of h
  have ea' : a = a' := by omega
  have eb' : b = b' := by omega
  subst ea' eb'
  have hn2 := m.n2
  have hk2 := m.k2
  have hlf := m.lf
  have hls := m.ls
  have hlh := m.lh
  have aa : a * a ≤ 25 := Nat.mul_le_mul hn2 hn2
  have ab : a * b ≤ 20 := Nat.mul_le_mul hn2 hk2
  exact ⟨m, by omega, by omega, by omega⟩

end Go.Proofs


/-
  LearnRounds.
-/
namespace Go.Proofs
open Go.Ide Go.IntWalk

theorem mwords_ok {n k : Int} {fs ss hs fs' ss' hs' : List Nat} {ws : List (List Int)} (h : okMWords n k fs ss hs ws = true) (h2 : okModel n k fs' ss' hs' = true) : okMWords n k fs' ss' hs' ws = true := by
  unfold okMWords at h ⊢
  rw [Bool.and_eq_true] at h ⊢
  exact ⟨h2, h.2⟩

theorem roundsSame {a b : Nat} {fs ss hs : List Nat} {ws : List (List Int)} (hok : okMWords (a : Int) (b : Int) fs ss hs ws = true) (hl : ws.length ≤ 1048576) (hh : ∀ y ∈ ws, y.length ≤ 4294967296) (hw : ∀ i, i < ws.length → (ws.getD i []).length ≤ 12 ∧ Letters b (ws.getD i [])) {c : Nat} (hc : c ≤ 32) (hm : okModel (a : Int) (b : Int) fs ss hs = true) :
    ∃ r r', rounds (spec_LearnRounds_B1 ws) ((c : Int), (a : Int), (b : Int), fs, ss, hs) = some r ∧ rounds (impl_LearnRounds_B1 ws (c : Int)) ((0 : Int), (a : Int), (b : Int), fs, ss, hs) = some r' ∧
      ((∃ fs ss hs, r = .inl ((a : Int), (b : Int), fs, ss, hs) ∧ r' = .inl ((a : Int), (b : Int), fs, ss, hs) ∧ okModel (a : Int) (b : Int) fs ss hs = true) ∨ (r = .inr () ∧ r' = .inr ())) := by
  refine rounds_rel (fun n (s t : Int × Int × Int × List Nat × List Nat × List Nat) => ∃ (j : Nat) (fs ss hs : List Nat), n + j = c ∧ s = ((n : Int), (a : Int), (b : Int), fs, ss, hs) ∧ t = ((j : Int), (a : Int), (b : Int), fs, ss, hs) ∧ okModel (a : Int) (b : Int) fs ss hs = true)
    (fun (r r' : (Int × Int × List Nat × List Nat × List Nat) ⊕ Unit) => (∃ fs ss hs, r = .inl ((a : Int), (b : Int), fs, ss, hs) ∧ r' = .inl ((a : Int), (b : Int), fs, ss, hs) ∧ okModel (a : Int) (b : Int) fs ss hs = true) ∨ (r = .inr () ∧ r' = .inr ())) ?_ c _ _ ⟨0, fs, ss, hs, by omega, rfl, rfl, hm⟩
  rintro n s t ⟨j, fs', ss', hs', hn, rfl, rfl, hm'⟩
  by_cases hj : j < c
  · have e1 : wsub .i64 (n : Int) 1 = ((n - 1 : Nat) : Int) := by rw [wsubI (by omega)]; omega
    have e2 : wadd .i64 ((j : Nat) : Int) 1 = ((j + 1 : Nat) : Int) := by rw [waddI (by omega)]; omega
    unfold spec_LearnRounds_B1 impl_LearnRounds_B1
    simp only [decide_eq_true (show (n : Int) > 0 by omega), ltN hj, cond_true, e1, e2]
    obtain ⟨f2, s2, h2, ⟨h3, h4, h5⟩ | ⟨h3, h4⟩⟩ := learnSame (okModel_len hm').1 (mwords_ok hok hm') hl hh hw
    · rw [h3, h4]
      exact .inl ⟨n - 1, _, _, by omega, rfl, rfl, j + 1, f2, s2, h2, by omega, rfl, rfl, h5⟩
    · rw [h3, h4]
      exact .inr ⟨_, _, rfl, rfl, .inr ⟨rfl, rfl⟩⟩
  · have h0 : n = 0 := by omega
    have hjc : j = c := by omega
    subst h0 hjc
    unfold spec_LearnRounds_B1 impl_LearnRounds_B1
    simp only [decide_eq_false (show ¬ ((0 : Nat) : Int) > 0 by omega), geN (Nat.le_refl _), cond_false]
    exact .inr ⟨_, _, rfl, rfl, .inl ⟨_, _, _, rfl, rfl, hm'⟩⟩

theorem LearnRounds_eq {x0_0 x0_1 : Int} {x0_2 x0_3 x0_4 : List Nat} {x1_0 : List (List Int)} {x2_0 : Int} (g1 : x0_2.length ≤ 1048576) (g2 : x0_3.length ≤ 1048576) (g3 : x0_4.length ≤ 1048576) (g4 : x1_0.length ≤ 1048576 ∧ ∀ y ∈ x1_0, y.length ≤ 1048576) :
    ∃ r, spec_LearnRounds (x0_0, x0_1, x0_2, x0_3, x0_4) x1_0 x2_0 = some r ∧ impl_LearnRounds (x0_0, x0_1, x0_2, x0_3, x0_4) x1_0 x2_0 = some r ∧ (r.1.2.2.1.length ≤ 1000000 ∧ r.1.2.2.2.1.length ≤ 1000000 ∧ r.1.2.2.2.2.length ≤ 1000000) := by
  have hh : ∀ y ∈ x1_0, y.length ≤ 4294967296 := fun y hy => by have := g4.2 y hy; omega
  have hl := g4.1
  have hcl : ∀ {xs : List Nat}, xs.length ≤ 1048576 → slices_Clone xs = some xs := fun h => by
    unfold slices_Clone
    rw [guard_pos (by simp only [appMax]; omega)]
  unfold spec_LearnRounds impl_LearnRounds
  simp only [specMWords (ws := x1_0) (by omega) hh, implMWords (ws := x1_0) (by omega) hh, in64, within64, Option.bind_some]
  cases hw : okMWords x0_0 x0_1 x0_2 x0_3 x0_4 x1_0 with
  | false => exact ⟨_, rfl, rfl, by simp⟩
  | true =>
    cases h2 : (decide (x2_0 ≥ 0) && decide (x2_0 ≤ 32)) with
    | false => exact ⟨_, rfl, rfl, by simp⟩
    | true =>
      simp only [Bool.and_eq_true, decide_eq_true_eq] at h2
      obtain ⟨c, rfl⟩ := Int.eq_ofNat_of_zero_le h2.1
      have hm : okModel x0_0 x0_1 x0_2 x0_3 x0_4 = true := by
        unfold okMWords at hw
        rw [Bool.and_eq_true] at hw
        exact hw.1
      obtain ⟨a, b, rfl, rfl, m, _, _, _, hws⟩ := mwords_of hw
      obtain ⟨r, r', h3, h4, h5⟩ := roundsSame hw hl hh hws (c := c) (by omega) hm
      simp only [Bool.not_true, cond_false, Option.bind_some, hcl g1, hcl g2, hcl g3]
      rw [guard_pos (by simp only [appMax]; omega), guard_pos (by simp only [appMax]; omega), guard_pos (by simp only [appMax]; omega), h3, h4]
      rcases h5 with ⟨f2, s2, h2', rfl, rfl, h6⟩ | ⟨rfl, rfl⟩
      · exact ⟨_, rfl, rfl, (okModel_len h6).2⟩
      · exact ⟨_, rfl, rfl, by simp⟩

end Go.Proofs


namespace Go.Proofs
open Go.Ide Go.IntWalk

theorem LearnRounds_law (x0 : Int × Int × List Nat × List Nat × List Nat) (x1 : List (List Int)) (x2 : Int) (w0 : WfD (.st (.pair tI (.pair tI (.pair tLF (.pair tLF tLF))))) x0) (w1 : WfD (.sl tLI) x1) (w2 : WfD tI x2) : laws_FnExactLearnRounds x0 x1 x2 = some true := by
  obtain ⟨x0_0, ⟨x0_1, ⟨x0_2, ⟨x0_3, x0_4⟩⟩⟩⟩ := x0
  have hx0_2 : x0_2.length ≤ 9223372036854775807 := Nat.le_trans (w0.2.2.1.1) (by decide)
  have hx0_3 : x0_3.length ≤ 9223372036854775807 := Nat.le_trans (w0.2.2.2.1.1) (by decide)
  have hx0_4 : x0_4.length ≤ 9223372036854775807 := Nat.le_trans (w0.2.2.2.2.1) (by decide)
  obtain ⟨x1_0, rfl⟩ : ∃ y, y = x1 := ⟨_, rfl⟩
  have hx1_0 : (x1_0.length ≤ 9223372036854775807 ∧ ∀ y ∈ x1_0, y.length ≤ 9223372036854775807) := ⟨Nat.le_trans (w1.1) (by decide), fun y hy => by
    have w := wf_mem (t := tLI) w1.2 hy
    exact Nat.le_trans (w.1) (by decide)⟩
  obtain ⟨x2_0, rfl⟩ : ∃ y, y = x2 := ⟨_, rfl⟩
  unfold laws_FnExactLearnRounds
  obtain ⟨m1, a1, b1⟩ := szModel_ok (n := 1048576) (x0 := x0_0) (x1 := x0_1) (x2 := x0_2) (x3 := x0_3) (x4 := x0_4) hx0_2 hx0_3 hx0_4 (by omega)
  simp only [a1, Option.bind_some]
  by_cases c1 : m1 < 0
  · simp only [c1, decide_true, cond_true]
  · obtain ⟨⟨ox0_2, ox0_3, ox0_4⟩, d1, f1⟩ := b1.resolve_left c1
    simp only [c1, decide_false, cond_false]
    obtain ⟨m2, a2, b2⟩ := szInt64SS_ok (n := m1) (xs := x1_0) hx1_0 (by omega)
    simp only [a2, Option.bind_some]
    by_cases c2 : m2 < 0
    · simp only [c2, decide_true, cond_true]
    · obtain ⟨ox1_0, d2, f2⟩ := b2.resolve_left c2
      simp only [c2, decide_false, cond_false]
      obtain ⟨⟨⟨r0_0, ⟨r0_1, ⟨r0_2, ⟨r0_3, r0_4⟩⟩⟩⟩, r1_0⟩, k1, k2, or0_2, or0_3, or0_4⟩ := LearnRounds_eq (x0_0 := x0_0) (x0_1 := x0_1) (x0_2 := x0_2) (x0_3 := x0_3) (x0_4 := x0_4) (x1_0 := x1_0) (x2_0 := x2_0) ox0_2 ox0_3 ox0_4 ox1_0
      have or0_2 : r0_2.length ≤ 1000000 := or0_2
      have or0_3 : r0_3.length ≤ 1000000 := or0_3
      have or0_4 : r0_4.length ≤ 1000000 := or0_4
      have nx1_0 := markRows_bd (E := fun (k : Int) (x : List Int) => (k + ((1 * x.length : Nat) : Int), marksG (fun k => k) 1 k x.length)) (M := 1048576) (xs := x1_0) (k := (1 : Int) + ((1 * x0_2.length : Nat) : Int) + ((1 * x0_3.length : Nat) : Int) + ((1 * x0_4.length : Nat) : Int)) (fun k x hx => by have := (ox1_0).2 x hx; exact ⟨by omega, by omega⟩)
      have qx1_0 : x1_0.length * 1048576 ≤ 1048576 * 1048576 := Nat.mul_le_mul_right _ (ox1_0).1
      simp only [k1,
      k2,
      Option.bind_some,
      Bool.not_true,
      cond_false,
      bne_self_eq_false,
      cond_true,
      sameFloat_ok,
      toModel_ok (x0 := x0_0) (x1 := x0_1) (x2 := x0_2) (x3 := x0_3) (x4 := x0_4) ox0_2 ox0_3 ox0_4,
      eqModel_ok (x0 := x0_0) (x1 := x0_1) (x2 := x0_2) (x3 := x0_3) (x4 := x0_4) ox0_2 ox0_3 ox0_4,
      markModel_ok (k := (1 : Int)) (x0 := x0_0) (x1 := x0_1) (x2 := x0_2) (x3 := x0_3) (x4 := x0_4) ox0_2 ox0_3 ox0_4 (by omega),
      toInt64SS_ok (xs := x1_0) ox1_0,
      eqInt64SS_ok (xs := x1_0) ox1_0,
      markInt64SS_ok (k := (1 : Int) + ((1 * x0_2.length : Nat) : Int) + ((1 * x0_3.length : Nat) : Int) + ((1 * x0_4.length : Nat) : Int)) (xs := x1_0) ox1_0 (by omega),
      (show decide ((markRows (fun (k : Int) (x : List Int) => (k + ((1 * x.length : Nat) : Int), marksG (fun k => k) 1 k x.length)) ((1 : Int) + ((1 * x0_2.length : Nat) : Int) + ((1 * x0_3.length : Nat) : Int) + ((1 * x0_4.length : Nat) : Int)) x1_0).1 < 0) = false from by simp only [decide_eq_false_iff_not]; omega),
      eqModel_ok (x0 := r0_0) (x1 := r0_1) (x2 := r0_2) (x3 := r0_3) (x4 := r0_4) (by omega : r0_2.length ≤ 1048576) (by omega : r0_3.length ≤ 1048576) (by omega : r0_4.length ≤ 1048576),
      markModel_ok (k := (1 : Int)) (x0 := r0_0) (x1 := r0_1) (x2 := r0_2) (x3 := r0_3) (x4 := r0_4) (by omega : r0_2.length ≤ 1048576) (by omega : r0_3.length ≤ 1048576) (by omega : r0_4.length ≤ 1048576) (by omega),
      heldModel_ok (k := (1 : Int)) (by omega : r0_2.length ≤ 1048576) (by omega : r0_3.length ≤ 1048576) (by omega : r0_4.length ≤ 1048576) (by omega),
      (show decide ((1 : Int) + ((1 * r0_2.length : Nat) : Int) + ((1 * r0_3.length : Nat) : Int) + ((1 * r0_4.length : Nat) : Int) < 0) = false from by simp only [decide_eq_false_iff_not]; omega)]

end Go.Proofs
