import Derived.Test.YthilbincoogfkaaLikesSharedGenB
set_option linter.unusedVariables false
set_option linter.unusedSimpArgs false
set_option linter.unusedSectionVars false
namespace Go.Proofs
open Go.Ide Go.IntWalk

theorem sameFloat_ok (x : Nat) : laws_sameFloat x x = some true := by
  unfold laws_sameFloat
  cases h1 : feq .f64 x x <;> cases h2 : feq .f64 x 0 <;> simp [h1, h2]

theorem szFloat32S_ok {xs : List Nat} {n : Int} (hx : xs.length ≤ 9223372036854775807) (hn : 0 ≤ n ∧ n ≤ 1048576) : ∃ m, laws_szFloat32S xs n = some m ∧ (m < 0 ∨ (xs.length ≤ 1048576 ∧ 0 ≤ m ∧ m ≤ n)) := by
  unfold laws_szFloat32S
  have e : wsub .i64 n (lenI xs) = n - (xs.length : Int) := i64_in _ (by simp only [lenI]; omega)
  rw [e]
  by_cases h : n - (xs.length : Int) < 0
  · exact ⟨-1, by simp only [h, decide_true, cond_true], .inl (by omega)⟩
  · exact ⟨_, by simp only [h, decide_false, cond_false]; rfl, .inr ⟨by omega, by omega, by omega⟩⟩

theorem szInt64S_ok {xs : List Int} {n : Int} (hx : xs.length ≤ 9223372036854775807) (hn : 0 ≤ n ∧ n ≤ 1048576) : ∃ m, laws_szInt64S xs n = some m ∧ (m < 0 ∨ (xs.length ≤ 1048576 ∧ 0 ≤ m ∧ m ≤ n)) := by
  unfold laws_szInt64S
  have e : wsub .i64 n (lenI xs) = n - (xs.length : Int) := i64_in _ (by simp only [lenI]; omega)
  rw [e]
  by_cases h : n - (xs.length : Int) < 0
  · exact ⟨-1, by simp only [h, decide_true, cond_true], .inl (by omega)⟩
  · exact ⟨_, by simp only [h, decide_false, cond_false]; rfl, .inr ⟨by omega, by omega, by omega⟩⟩

theorem toInt64S_ok {xs : List Int} (h : xs.length ≤ 1048576) : laws_toInt64S xs = some xs := by
  unfold laws_toInt64S
  rw [guard_pos ⟨by simp only [lenI]; omega, by simp only [lenI]; omega⟩]
  have := loop_to (f := laws_toInt64S_B1 xs) xs (0 : Int) (fun i out hi hl => by
    unfold laws_toInt64S_B1
    simp only [ltN hi, cond_true, guard_pos (idxN hi), guard_pos (idxN (i := i) (n := out.length) (by omega)), Int.toNat_natCast, nextN hi (by omega)]) (fun out hl => by
    unfold laws_toInt64S_B1
    simp only [geN (Nat.le_refl _), cond_false])
  simp only [Int.toNat_natCast, this, Option.bind_some]

theorem toFloat32S_ok {xs : List Nat} (h : xs.length ≤ 1048576) : laws_toFloat32S xs = some xs := by
  unfold laws_toFloat32S
  rw [guard_pos ⟨by simp only [lenI]; omega, by simp only [lenI]; omega⟩]
  have := loop_to (f := laws_toFloat32S_B1 xs) xs (0 : Nat) (fun i out hi hl => by
    unfold laws_toFloat32S_B1
    simp only [ltN hi, cond_true, guard_pos (idxN hi), guard_pos (idxN (i := i) (n := out.length) (by omega)), Int.toNat_natCast, nextN hi (by omega)]) (fun out hl => by
    unfold laws_toFloat32S_B1
    simp only [geN (Nat.le_refl _), cond_false])
  simp only [Int.toNat_natCast, this, Option.bind_some]

theorem eqFloat32S_ok {xs : List Nat} (h : xs.length ≤ 1048576) : laws_eqFloat32S xs xs = some true := by
  unfold laws_eqFloat32S
  have := loop_eq (f := laws_eqFloat32S_B1 xs xs) (Sum.inl ()) xs.length (fun i hi => by
    unfold laws_eqFloat32S_B1
    simp only [ltN hi, cond_true, guard_pos (idxN hi), bne_self_eq_false, sameFloat_ok, Option.bind_some, Bool.not_true, cond_false, nextN hi (by omega)]) (by
    unfold laws_eqFloat32S_B1
    simp only [geN (Nat.le_refl _), cond_false])
  simp only [bne_self_eq_false, cond_false, this, Option.bind_some]

theorem eqInt64S_ok {xs : List Int} (h : xs.length ≤ 1048576) : laws_eqInt64S xs xs = some true := by
  unfold laws_eqInt64S
  have := loop_eq (f := laws_eqInt64S_B1 xs xs) (Sum.inl ()) xs.length (fun i hi => by
    unfold laws_eqInt64S_B1
    simp only [ltN hi, cond_true, guard_pos (idxN hi), bne_self_eq_false, cond_false, nextN hi (by omega)]) (by
    unfold laws_eqInt64S_B1
    simp only [geN (Nat.le_refl _), cond_false])
  simp only [bne_self_eq_false, cond_false, this, Option.bind_some]

theorem markInt64S_ok {xs : List Int} {k : Int} (h : xs.length ≤ 1048576) (hk : 0 ≤ k ∧ k ≤ 2000000000000) : laws_markInt64S xs k = some (k + ((1 * xs.length : Nat) : Int), marksG (fun k => k) 1 k xs.length) := by
  unfold laws_markInt64S
  have := loop_mark (f := laws_markInt64S_B1) (fun k => k) 1 k xs (fun i out hi hl => by
    unfold laws_markInt64S_B1
    have e := markN2 (c := 1) (i := i) (k0 := k) (by omega) (by omega) (by omega)
    simp only [lenI, hl, ltN hi, cond_true, guard_pos (idxN hi), Int.toNat_natCast, nextN hi (by omega)]
    simp only [Int.cast_ofNat_Int] at e
    rw [e]) (fun out hl => by
    unfold laws_markInt64S_B1
    simp only [lenI, hl, geN (Nat.le_refl _), cond_false])
  simp only [this, Option.bind_some]
  rw [guard_pos marksG_len]

theorem markFloat32S_ok {xs : List Nat} {k : Int} (h : xs.length ≤ 1048576) (hk : 0 ≤ k ∧ k ≤ 2000000000000) : laws_markFloat32S xs k = some (k + ((1 * xs.length : Nat) : Int), marksG (fun k => fofint .f32 k) 1 k xs.length) := by
  unfold laws_markFloat32S
  have := loop_mark (f := laws_markFloat32S_B1) (fun k => fofint .f32 k) 1 k xs (fun i out hi hl => by
    unfold laws_markFloat32S_B1
    have e := markN2 (c := 1) (i := i) (k0 := k) (by omega) (by omega) (by omega)
    simp only [lenI, hl, ltN hi, cond_true, guard_pos (idxN hi), Int.toNat_natCast, nextN hi (by omega)]
    simp only [Int.cast_ofNat_Int] at e
    rw [e]) (fun out hl => by
    unfold laws_markFloat32S_B1
    simp only [lenI, hl, geN (Nat.le_refl _), cond_false])
  simp only [this, Option.bind_some]
  rw [guard_pos marksG_len]

theorem heldFloat32S_ok {n : Nat} {k : Int} (h : n ≤ 1048576) (hk : 0 ≤ k ∧ k ≤ 1000000000) : laws_heldFloat32S (marksG (fun k => fofint .f32 k) 1 k n) k = some (k + ((1 * n : Nat) : Int)) := by
  unfold laws_heldFloat32S
  have := loop_held (f := laws_heldFloat32S_B1 (marksG (fun k => fofint .f32 k) 1 k n)) 1 k n (fun i hi => by
    unfold laws_heldFloat32S_B1
    have e := markN (c := 1) (i := i) (k0 := k) (by omega) (by omega) (by omega)
    simp only [Int.cast_ofNat_Int] at e
    simp only [lenI, marksG_len, ltN hi, cond_true, guard_pos (idxN hi), Int.toNat_natCast, nextN hi (by omega), marksG_get hi, feq_ofint, Bool.not_true, cond_false]
    rw [e]) (by
    unfold laws_heldFloat32S_B1
    simp only [lenI, marksG_len, geN (Nat.le_refl _), cond_false])
  simp only [this, Option.bind_some]

theorem szModel_ok {x0 : Int} {x1 : Int} {x2 : List Nat} {x3 : List Nat} {x4 : List Nat} {n : Int} (hx2 : x2.length ≤ 9223372036854775807) (hx3 : x3.length ≤ 9223372036854775807) (hx4 : x4.length ≤ 9223372036854775807) (hn : 0 ≤ n ∧ n ≤ 1048576) : ∃ m, laws_szModel (x0, x1, x2, x3, x4) n = some m ∧ (m < 0 ∨ ((x2.length ≤ 1048576 ∧ x3.length ≤ 1048576 ∧ x4.length ≤ 1048576) ∧ 0 ≤ m ∧ m ≤ n)) := by
  unfold laws_szModel
  obtain ⟨m1, h1, k1⟩ := szFloat32S_ok (n := n) (xs := x2) hx2 (by omega)
  simp only [h1, Option.bind_some]
  by_cases c1 : m1 < 0
  · simp only [c1, decide_true, cond_true]; exact ⟨-1, rfl, .inl (by omega)⟩
  · obtain ⟨g1, p1, q1⟩ := k1.resolve_left c1
    simp only [c1, decide_false, cond_false]
    obtain ⟨m2, h2, k2⟩ := szFloat32S_ok (n := m1) (xs := x3) hx3 (by omega)
    simp only [h2, Option.bind_some]
    by_cases c2 : m2 < 0
    · simp only [c2, decide_true, cond_true]; exact ⟨-1, rfl, .inl (by omega)⟩
    · obtain ⟨g2, p2, q2⟩ := k2.resolve_left c2
      simp only [c2, decide_false, cond_false]
      obtain ⟨m3, h3, k3⟩ := szFloat32S_ok (n := m2) (xs := x4) hx4 (by omega)
      simp only [h3, Option.bind_some]
      by_cases c3 : m3 < 0
      · simp only [c3, decide_true, cond_true]; exact ⟨-1, rfl, .inl (by omega)⟩
      · obtain ⟨g3, p3, q3⟩ := k3.resolve_left c3
        simp only [c3, decide_false, cond_false]
        exact ⟨_, rfl, .inr ⟨⟨g1, g2, g3⟩, by omega, by omega⟩⟩

theorem szInt64SS_ok {xs : List (List Int)} {n : Int} (hx : (xs.length ≤ 9223372036854775807 ∧ ∀ y ∈ xs, y.length ≤ 9223372036854775807)) (hn : 0 ≤ n ∧ n ≤ 1048576) : ∃ m, laws_szInt64SS xs n = some m ∧ (m < 0 ∨ ((xs.length ≤ 1048576 ∧ ∀ y ∈ xs, y.length ≤ 1048576) ∧ 0 ≤ m ∧ m ≤ n)) := by
  obtain ⟨hx, hh⟩ := hx
  unfold laws_szInt64SS
  have e : wsub .i64 n (lenI xs) = n - (xs.length : Int) := i64_in _ (by simp only [lenI]; omega)
  rw [e]
  by_cases h : n - (xs.length : Int) < 0
  · exact ⟨-1, by simp only [h, decide_true, cond_true], .inl (by omega)⟩
  · rcases loop_sz (f := laws_szInt64SS_B1 xs) (u := ()) xs ([] : List Int) (fun y => y.length ≤ 1048576) (n - (xs.length : Int)) (by omega) (fun i n' hi h1 h2 => by
      have he := hh _ (mem_getD hi ([] : List Int))
      obtain ⟨m, e1, e2⟩ := szInt64S_ok (n := n') he (by omega)
      refine ⟨m, ?_, e2⟩
      unfold laws_szInt64SS_B1
      simp only [ltN hi, cond_true, guard_pos (idxN hi), Int.toNat_natCast, e1, Option.bind_some, nextN hi (by omega)]
      by_cases hm : m < 0
      · simp only [hm, decide_true, cond_true, if_true]
      · simp only [hm, decide_false, cond_false, if_false]) (fun n' => by
      unfold laws_szInt64SS_B1
      simp only [geN (Nat.le_refl _), cond_false]) with ⟨m, e1, e2, e3, e4⟩ | e1
    · exact ⟨m, by simp only [h, decide_false, cond_false, e1, Option.bind_some], .inr ⟨⟨by omega, e4⟩, by omega, by omega⟩⟩
    · exact ⟨-1, by simp only [h, decide_false, cond_false, e1, Option.bind_some], .inl (by omega)⟩

theorem toModel_ok {x0 : Int} {x1 : Int} {x2 : List Nat} {x3 : List Nat} {x4 : List Nat} (hx2 : x2.length ≤ 1048576) (hx3 : x3.length ≤ 1048576) (hx4 : x4.length ≤ 1048576) : laws_toModel (x0, x1, x2, x3, x4) = some (x0, x1, x2, x3, x4) := by
  unfold laws_toModel
  simp only [toFloat32S_ok hx2, toFloat32S_ok hx3, toFloat32S_ok hx4, Option.bind_some]

theorem toInt64SS_ok {xs : List (List Int)} (h : (xs.length ≤ 1048576 ∧ ∀ y ∈ xs, y.length ≤ 1048576)) : laws_toInt64SS xs = some xs := by
  obtain ⟨h, hh⟩ := h
  unfold laws_toInt64SS
  rw [guard_pos ⟨by simp only [lenI]; omega, by simp only [lenI]; omega⟩]
  have := loop_to (f := laws_toInt64SS_B1 xs) xs ([] : List Int) (fun i out hi hl => by
    have he := hh _ (mem_getD hi ([] : List Int))
    unfold laws_toInt64SS_B1
    simp only [ltN hi, cond_true, guard_pos (idxN hi), guard_pos (idxN (i := i) (n := out.length) (by omega)), Int.toNat_natCast, nextN hi (by omega), toInt64S_ok he, Option.bind_some]) (fun out hl => by
    unfold laws_toInt64SS_B1
    simp only [geN (Nat.le_refl _), cond_false])
  simp only [Int.toNat_natCast, this, Option.bind_some]

theorem eqModel_ok {x0 : Int} {x1 : Int} {x2 : List Nat} {x3 : List Nat} {x4 : List Nat} (hx2 : x2.length ≤ 1048576) (hx3 : x3.length ≤ 1048576) (hx4 : x4.length ≤ 1048576) : laws_eqModel (x0, x1, x2, x3, x4) (x0, x1, x2, x3, x4) = some true := by
  unfold laws_eqModel
  simp only [eqFloat32S_ok hx2, eqFloat32S_ok hx3, eqFloat32S_ok hx4, Option.bind_some, bne_self_eq_false, Bool.not_true, cond_false, decide_true]

theorem eqInt64SS_ok {xs : List (List Int)} (h : (xs.length ≤ 1048576 ∧ ∀ y ∈ xs, y.length ≤ 1048576)) : laws_eqInt64SS xs xs = some true := by
  obtain ⟨h, hh⟩ := h
  unfold laws_eqInt64SS
  have := loop_eq (f := laws_eqInt64SS_B1 xs xs) (Sum.inl ()) xs.length (fun i hi => by
    have he := hh _ (mem_getD hi ([] : List Int))
    unfold laws_eqInt64SS_B1
    simp only [ltN hi, cond_true, guard_pos (idxN hi), Int.toNat_natCast, eqInt64S_ok he, Option.bind_some, Bool.not_true, cond_false, nextN hi (by omega)]) (by
    unfold laws_eqInt64SS_B1
    simp only [geN (Nat.le_refl _), cond_false])
  simp only [bne_self_eq_false, cond_false, this, Option.bind_some]

theorem markModel_ok {x0 : Int} {x1 : Int} {x2 : List Nat} {x3 : List Nat} {x4 : List Nat} {k : Int} (hx2 : x2.length ≤ 1048576) (hx3 : x3.length ≤ 1048576) (hx4 : x4.length ≤ 1048576) (hk : 0 ≤ k ∧ k ≤ 800000000) : laws_markModel (x0, x1, x2, x3, x4) k = some (k + ((1 * x2.length : Nat) : Int) + ((1 * x3.length : Nat) : Int) + ((1 * x4.length : Nat) : Int), (x0, x1, marksG (fun k => fofint .f32 k) 1 (k) x2.length, marksG (fun k => fofint .f32 k) 1 (k + ((1 * x2.length : Nat) : Int)) x3.length, marksG (fun k => fofint .f32 k) 1 (k + ((1 * x2.length : Nat) : Int) + ((1 * x3.length : Nat) : Int)) x4.length)) := by
  unfold laws_markModel
  simp only [markFloat32S_ok (k := k) hx2 (by omega), markFloat32S_ok (k := k + ((1 * x2.length : Nat) : Int)) hx3 (by omega), markFloat32S_ok (k := k + ((1 * x2.length : Nat) : Int) + ((1 * x3.length : Nat) : Int)) hx4 (by omega), Option.bind_some]
  simp only [guardP, marksG_len, if_true]

theorem markInt64SS_ok {xs : List (List Int)} {k : Int} (h : (xs.length ≤ 1048576 ∧ ∀ y ∈ xs, y.length ≤ 1048576)) (hk : 0 ≤ k ∧ k ≤ 1000000000) : laws_markInt64SS xs k = some (markRows (fun (k : Int) (x : List Int) => (k + ((1 * x.length : Nat) : Int), marksG (fun k => k) 1 k x.length)) k xs) := by
  obtain ⟨h, hh⟩ := h
  unfold laws_markInt64SS
  have := loop_markE (f := laws_markInt64SS_B1) (fun (k : Int) (x : List Int) => (k + ((1 * x.length : Nat) : Int), marksG (fun k => k) 1 k x.length)) 1048576 k xs ([] : List Int) (fun k x hx => by have := hh x hx; exact ⟨by omega, by omega⟩) (fun k' i out hi hl hg h1 h2 => by
    have hx := hh _ (mem_getD hi ([] : List Int))
    have h3 : i * 1048576 ≤ 1048576 * 1048576 := Nat.mul_le_mul_right _ (by omega)
    unfold laws_markInt64SS_B1
    simp only [lenI, hl, ltN hi, cond_true, guard_pos (idxN hi), Int.toNat_natCast, hg, markInt64S_ok hx (show 0 ≤ k' ∧ k' ≤ 2000000000000 by omega), Option.bind_some, nextN hi (show xs.length ≤ 4294967296 by omega)]) (fun k' out hl => by
    unfold laws_markInt64SS_B1
    simp only [lenI, hl, geN (Nat.le_refl _), cond_false])
  simp only [this, Option.bind_some]
  rw [guard_pos (ShapeEq.own (markRows_len _ _ _).symm (markRows_get List.length [] (fun k x _ => by simp only [marksG_len])))]

end Go.Proofs


namespace Go.Proofs
open Go.Ide Go.IntWalk

theorem in64 (a b c : Int) : spec_l00In a b c = some (decide (a ≥ b) && decide (a ≤ c)) := by
  unfold spec_l00In
  cases h : decide (a ≥ b) <;> simp
theorem within64 (a b c : Int) : impl_within a b c = some (decide (a ≥ b) && decide (a ≤ c)) := by
  unfold impl_within
  cases h : decide (a ≥ b) <;> simp

/-- All between. -/
def allIn (xs : List Int) (b c : Int) : Bool := xs.all fun x => decide (x ≥ b) && decide (x ≤ c)

theorem allIn_iff {xs : List Int} {b c : Int} : allIn xs b c = true ↔ ∀ i, i < xs.length → b ≤ xs.getD i 0 ∧ xs.getD i 0 ≤ c := by
  unfold allIn
  rw [List.all_eq_true]
  constructor
  · intro h i hi
    have := h xs[i] (List.getElem_mem hi)
    simp only [Bool.and_eq_true, decide_eq_true_eq] at this
    rw [List.getD_eq_getElem?_getD, List.getElem?_eq_getElem hi]
    exact ⟨this.1, this.2⟩
  · intro h x hx
    obtain ⟨i, hi, rfl⟩ := List.getElem_of_mem hx
    have := h i hi
    rw [List.getD_eq_getElem?_getD, List.getElem?_eq_getElem hi] at this
    simp only [Bool.and_eq_true, decide_eq_true_eq]
    exact ⟨this.1, this.2⟩

theorem allN_in (xs : List Int) (b c : Int) : allN (fun i => decide (xs.getD i 0 ≥ b) && decide (xs.getD i 0 ≤ c)) xs.length 0 = allIn xs b c := by
  rw [Bool.eq_iff_iff, allN_iff, allIn_iff]
  constructor
  · intro h i hi
    have := h i (by omega) (by omega)
    simp only [Bool.and_eq_true, decide_eq_true_eq] at this
    exact ⟨this.1, this.2⟩
  · intro h i _ hi
    have := h i (by omega)
    simp only [Bool.and_eq_true, decide_eq_true_eq]
    exact ⟨this.1, this.2⟩

theorem areWithin64 {xs : List Int} {b c : Int} (h : xs.length ≤ 4294967296) : impl_areWithin xs b c = some (allIn xs b c) := by
  unfold impl_areWithin
  have := rounds_all (f := impl_areWithin_B1 xs b c) (fun i => ((i : Nat) : Int)) (fun i => decide (xs.getD i 0 ≥ b) && decide (xs.getD i 0 ≤ c)) (Sum.inl ()) (Sum.inr ()) (n := xs.length) (fun i hi => by
    unfold impl_areWithin_B1
    simp only [ltN hi, cond_true, guard_pos (idxN hi), Int.toNat_natCast, within64, Option.bind_some, nextN hi h]
    cases (decide (xs.getD i 0 ≥ b) && decide (xs.getD i 0 ≤ c)) <;> rfl) (by
    unfold impl_areWithin_B1
    simp only [geN (Nat.le_refl _), cond_false]) xs.length 0 (by omega)
  rw [allN_in] at this
  simp only [Int.natCast_zero] at this
  simp only [this, Option.bind_some]
  cases allIn xs b c <;> rfl

theorem word64 {xs : List Int} {L : Int} (h : xs.length ≤ 4294967296) : spec_l02Word xs L = some (allIn xs 0 (wsub .i64 L 1) && decide (lenI xs ≤ 12)) := by
  unfold spec_l02Word
  have := rounds_all (f := spec_l02Word_B1 xs L) (fun i => ((i : Nat) : Int)) (fun i => decide (xs.getD i 0 ≥ 0) && decide (xs.getD i 0 ≤ wsub .i64 L 1)) (Sum.inl ()) (Sum.inr ()) (n := xs.length) (fun i hi => by
    unfold spec_l02Word_B1
    simp only [ltN hi, cond_true, guard_pos (idxN hi), Int.toNat_natCast, in64, Option.bind_some, nextN hi h]
    cases (decide (xs.getD i 0 ≥ 0) && decide (xs.getD i 0 ≤ wsub .i64 L 1)) <;> rfl) (by
    unfold spec_l02Word_B1
    simp only [geN (Nat.le_refl _), cond_false]) xs.length 0 (by omega)
  rw [allN_in] at this
  simp only [Int.natCast_zero] at this
  simp only [this, Option.bind_some]
  cases allIn xs 0 (wsub .i64 L 1) <;> simp

theorem isWord64 {xs : List Int} {L : Int} (h : xs.length ≤ 4294967296) : impl_IsWord xs L = some ((decide (L ≥ 1) && decide (L ≤ 4)) && (decide (lenI xs ≤ 12) && allIn xs 0 (wsub .i64 L 1))) := by
  unfold impl_IsWord
  rw [within64, areWithin64 h]
  cases (decide (L ≥ 1) && decide (L ≤ 4)) <;> cases decide (lenI xs ≤ 12) <;> simp

/-- A plain machine is as it must be. -/
def okPlain (s l : Int) (nx : List Int) (es : List Bool) : Bool :=
  (decide (s ≥ 1) && decide (s ≤ 64)) && ((decide (l ≥ 1) && decide (l ≤ 4)) && ((lenI nx == wmul .i64 s l) && ((lenI es == s) && allIn nx 0 (wsub .i64 s 1))))

theorem okPlain_spec {s l : Int} {nx : List Int} {es : List Bool} (h : okPlain s l nx es = true) : ∃ m c : Nat, s = (m : Int) ∧ l = (c : Int) ∧ 1 ≤ m ∧ m ≤ 64 ∧ 1 ≤ c ∧ c ≤ 4 ∧ nx.length = m * c ∧ es.length = m ∧ ∀ i, i < m * c → ∃ t : Nat, nx.getD i 0 = (t : Int) ∧ t < m := by
  unfold okPlain at h
  simp only [Bool.and_eq_true, decide_eq_true_eq, beq_iff_eq] at h
  obtain ⟨⟨h1, h2⟩, ⟨h3, h4⟩, h5, h6, h7⟩ := h
  obtain ⟨m, rfl⟩ : ∃ n : Nat, s = (n : Int) := ⟨s.toNat, by omega⟩
  obtain ⟨c, rfl⟩ : ∃ n : Nat, l = (n : Int) := ⟨l.toNat, by omega⟩
  have hmc : m * c ≤ 64 * 4 := Nat.mul_le_mul (by omega) (by omega)
  rw [wmulI (by rw [← Int.natCast_mul]; omega), ← Int.natCast_mul] at h5
  have hl : nx.length = m * c := by simp only [lenI] at h5; omega
  refine ⟨m, c, rfl, rfl, by omega, by omega, by omega, by omega, hl, by simp only [lenI] at h6; omega, fun i hi => ?_⟩
  have := allIn_iff.1 h7 i (by omega)
  rw [wsubI (by omega)] at this
  exact ⟨(nx.getD i 0).toNat, by omega, by omega⟩

/-- A loop's words are words. -/
def okLoop (xs ys : List Int) (L : Int) : Bool := (decide (L ≥ 1) && decide (L ≤ 4)) && ((allIn xs 0 (wsub .i64 L 1) && decide (lenI xs ≤ 12)) && ((allIn ys 0 (wsub .i64 L 1) && decide (lenI ys ≤ 12)) && decide (lenI ys ≥ 1)))

/-- A list's numbers are letters. -/
def Letters (c : Nat) (xs : List Int) : Prop := ∀ i, i < xs.length → ∃ a : Nat, xs.getD i 0 = (a : Int) ∧ a < c

theorem okLoop_spec {xs ys : List Int} {c : Nat} (h : okLoop xs ys (c : Int) = true) : xs.length ≤ 12 ∧ ys.length ≤ 12 ∧ 1 ≤ ys.length ∧ Letters c xs ∧ Letters c ys := by
  unfold okLoop at h
  simp only [Bool.and_eq_true, decide_eq_true_eq, lenI] at h
  obtain ⟨⟨h1, h2⟩, ⟨h3, h4⟩, ⟨h5, h6⟩, h7⟩ := h
  rw [wsubI (by omega)] at h3 h5
  refine ⟨by omega, by omega, by omega, fun i hi => ?_, fun i hi => ?_⟩
  · have := allIn_iff.1 h3 i hi
    exact ⟨(xs.getD i 0).toNat, by omega, by omega⟩
  · have := allIn_iff.1 h5 i hi
    exact ⟨(ys.getD i 0).toNat, by omega, by omega⟩

/-- A valid machine. -/
structure Plain (m c : Nat) (nx : List Int) (es : List Bool) : Prop where
  m1 : 1 ≤ m
  m2 : m ≤ 64
  c1 : 1 ≤ c
  c2 : c ≤ 4
  len : nx.length = m * c
  ends : es.length = m
  to : ∀ i, i < m * c → ∃ t : Nat, nx.getD i 0 = (t : Int) ∧ t < m

/-- The next state. -/
def goP (c : Nat) (nx : List Int) (s : Nat) (a : Int) : Nat := (nx.getD (s * c + a.toNat) 0).toNat

def walkP (c : Nat) (nx : List Int) (s : Nat) (w : List Int) : Nat := w.foldl (goP c nx) s

theorem place_lt {m c s a : Nat} (hs : s < m) (ha : a < c) : s * c + a < m * c := by
  have : s * c + c ≤ m * c := by
    rw [← Nat.succ_mul]
    exact Nat.mul_le_mul_right c hs
  omega

section
variable {m c : Nat} {nx : List Int} {es : List Bool} (hp : Plain m c nx es)
include hp

theorem goP_lt {s : Nat} {a : Int} {k : Nat} (hs : s < m) (ha : a = (k : Int)) (hk : k < c) : goP c nx s a < m := by
  subst ha
  obtain ⟨t, h1, h2⟩ := hp.to (s * c + k) (place_lt hs hk)
  unfold goP
  rw [Int.toNat_natCast, h1]
  simpa using h2

theorem walk_lt {w : List Int} (hw : Letters c w) : ∀ (k : Nat) {s : Nat}, s < m → walkP c nx s (w.take k) < m := by
  intro k
  induction k with
  | zero => intro s hs; simpa [walkP] using hs
  | succ k ih =>
    intro s hs
    by_cases hk : k < w.length
    · rw [take_snoc hk 0]
      unfold walkP
      rw [List.foldl_append]
      obtain ⟨a, e, ha⟩ := hw k hk
      exact goP_lt hp (ih hs) e ha
    · have e : w.take (k + 1) = w.take k := by rw [List.take_of_length_le (by omega), List.take_of_length_le (by omega)]
      rw [e]; exact ih hs

end

theorem walk_succ {c : Nat} {nx w : List Int} {s k : Nat} (hk : k < w.length) : walkP c nx s (w.take (k + 1)) = goP c nx (walkP c nx s (w.take k)) (w.getD k 0) := by
  rw [take_snoc hk 0]; unfold walkP; rw [List.foldl_append]; rfl

end Go.Proofs


/-
  Models of chances: when they are valid.
-/
namespace Go.Proofs
open Go.Ide Go.IntWalk

/-- A chance. -/
def share (x : Nat) : Bool := fge .f32 x 0 && fle .f32 x 1065353216

theorem specShare (x : Nat) : spec_l02Share x = some (share x) := by
  unfold spec_l02Share share
  cases fge .f32 x 0 <;> rfl

theorem bd_share {x : Nat} (h : share x = true) : bd x 127 := by
  unfold share at h
  rw [Bool.and_eq_true] at h
  exact share_bd h.1 h.2

/-- Nearly one. -/
def nearOne (s : Nat) : Bool := fle .f32 (fop .sub .f32 s 1065353216) 981668463 && fge .f32 (fop .sub .f32 s 1065353216) 3129152111

theorem absOne (s : Nat) : (impl_absolute (fop .sub .f32 s 1065353216)).bind (fun y => some (fle .f32 y 981668463)) = some (nearOne s) := by
  unfold nearOne
  rw [near_abs (c := 981668463) (nc := 3129152111) (mc := 8388608 + 981668463 % 8388608) (pc := -149 + ((981668463 / 8388608 - 1 : Nat) : Int)) (by decide) (by decide)]
  unfold impl_absolute
  cases flt .f32 (fop .sub .f32 s 1065353216) 0 <;> rfl

/-- The sum of the first i, added up from the first. -/
def sumF (xs : List Nat) : Nat → Nat
  | 0 => 0
  | i + 1 => fop .add .f32 (sumF xs i) (xs.getD i 0)

def okRow (xs : List Nat) : Bool := allN (fun i => share (xs.getD i 0)) xs.length 0 && nearOne (sumF xs xs.length)

theorem allN_snoc (p : Nat → Bool) : ∀ k i, allN p (k + 1) i = (allN p k i && p (i + k))
  | 0, i => by simp [allN]
  | k + 1, i => by
    rw [allN, allN_snoc p k (i + 1), allN, show i + 1 + k = i + (k + 1) by omega, Bool.and_assoc]

theorem specRow {xs : List Nat} (h : xs.length ≤ 4294967296) : spec_l03Row xs = some (okRow xs) := by
  have hf : ∀ k i, i + k = xs.length → rounds (spec_l03Row_B1 xs) (sumF xs i, (i : Int)) = some (bif allN (fun i => share (xs.getD i 0)) k i then .inl (sumF xs xs.length) else .inr ()) := by
    intro k
    induction k with
    | zero =>
      intro i hi
      have : i = xs.length := by omega
      subst this
      rw [rounds_eq]
      have : spec_l03Row_B1 xs (sumF xs xs.length, (xs.length : Int)) = some (.inr (.inl (sumF xs xs.length))) := by
        unfold spec_l03Row_B1
        simp only [geN (Nat.le_refl _), cond_false]
      rw [this]
      rfl
    | succ k ih =>
      intro i hi
      have hlt : i < xs.length := by omega
      rw [rounds_eq]
      have : spec_l03Row_B1 xs (sumF xs i, (i : Int)) = some (bif share (xs.getD i 0) then .inl (sumF xs (i + 1), ((i + 1 : Nat) : Int)) else .inr (.inr ())) := by
        unfold spec_l03Row_B1
        simp only [ltN hlt, cond_true, guard_pos (idxN hlt), Int.toNat_natCast, specShare, Option.bind_some, nextN hlt h]
        cases share (xs.getD i 0) <;> rfl
      rw [this, allN]
      cases hs : share (xs.getD i 0) with
      | true => exact ih (i + 1) (by omega)
      | false => rfl
  unfold spec_l03Row okRow
  have := hf xs.length 0 (by omega)
  simp only [sumF, Int.natCast_zero] at this
  rw [this]
  unfold nearOne
  cases allN (fun i => share (xs.getD i 0)) xs.length 0 with
  | false => rfl
  | true =>
    simp only [cond_true, Option.bind_some, Bool.true_and]
    cases fle .f32 (fop .sub .f32 (sumF xs xs.length) 1065353216) 981668463 <;> rfl

theorem implSum {xs : List Nat} (h : xs.length ≤ 4294967296) : impl_addUp xs = some (sumF xs xs.length) := by
  have := rounds_forS (f := impl_addUp_B1 xs) (fun i s => (s, ((i : Nat) : Int))) (fun i s => fop .add .f32 s (xs.getD i 0)) id (n := xs.length) (fun i s => s = sumF xs i)
    (fun i s hi hs => ⟨by
      unfold impl_addUp_B1
      simp only [ltN hi, cond_true, guard_pos (idxN hi), Int.toNat_natCast, nextN hi h], by rw [hs]; rfl⟩)
    (fun s hs => by
      unfold impl_addUp_B1
      simp only [geN (Nat.le_refl _), cond_false]; rfl) xs.length 0 0 (by omega) rfl
  unfold impl_addUp
  simp only [Int.natCast_zero] at this
  rw [this.1]
  simp only [id, Option.bind_some, this.2]

theorem implRow {xs : List Nat} (h : xs.length ≤ 4294967296) : impl_areChances xs = some (okRow xs) := by
  unfold impl_areChances okRow
  have := rounds_all (f := impl_areChances_B1 xs) (fun i => ((i : Nat) : Int)) (fun i => share (xs.getD i 0)) (Sum.inl ()) (Sum.inr ()) (n := xs.length) (fun i hi => by
    unfold impl_areChances_B1
    simp only [ltN hi, cond_true, guard_pos (idxN hi), Int.toNat_natCast, nextN hi h]
    unfold share
    cases fge .f32 (xs.getD i 0) 0 <;> cases fle .f32 (xs.getD i 0) 1065353216 <;> rfl) (by
    unfold impl_areChances_B1
    simp only [geN (Nat.le_refl _), cond_false]) xs.length 0 (by omega)
  simp only [Int.natCast_zero] at this
  rw [this]
  cases allN (fun i => share (xs.getD i 0)) xs.length 0 with
  | false => rfl
  | true =>
    simp only [cond_true, Option.bind_some, Bool.true_and, implSum h]
    exact absOne _

/-- Row i of rows of w numbers. -/
def rowF (xs : List Nat) (w i : Nat) : List Nat := (xs.drop (i * w)).take w

theorem rowF_len {xs : List Nat} {w i n : Nat} (h : xs.length = n * w) (hi : i < n) : (rowF xs w i).length = w := by
  have : (i + 1) * w ≤ n * w := Nat.mul_le_mul_right _ hi
  rw [Nat.succ_mul] at this
  unfold rowF
  simp; omega

theorem rowF_get {xs : List Nat} {w i n k : Nat} (h : xs.length = n * w) (hi : i < n) (hk : k < w) : (rowF xs w i).getD k 0 = xs.getD (i * w + k) 0 := by
  unfold rowF
  simp only [List.getD_eq_getElem?_getD]
  rw [List.getElem?_take_of_lt hk, List.getElem?_drop]

/-- A model is as it must be. -/
def okModel (n k : Int) (fs ss hs : List Nat) : Bool :=
  (decide (n ≥ 1) && decide (n ≤ 5)) && ((decide (k ≥ 1) && decide (k ≤ 4)) && ((lenI fs == n) && ((lenI ss == wmul .i64 n n) && ((lenI hs == wmul .i64 n k) && (okRow fs &&
    (allN (fun i => okRow (rowF ss n.toNat i)) n.toNat 0 && allN (fun i => okRow (rowF hs k.toNat i)) n.toNat 0))))))

theorem allN_and (p q : Nat → Bool) : ∀ k i, allN (fun i => p i && q i) k i = (allN p k i && allN q k i)
  | 0, _ => rfl
  | k + 1, i => by
    simp only [allN, allN_and p q k (i + 1)]
    cases p i <;> cases q i <;> cases allN p k (i + 1) <;> cases allN q k (i + 1) <;> rfl

theorem cutRow {xs : List Nat} {w n i : Nat} (hn : n ≤ 1000) (hw : w ≤ 1000) (hi : i < n) : cut xs (wmul .i64 (i : Int) (w : Int)) (wadd .i64 (wmul .i64 (i : Int) (w : Int)) (w : Int)) = rowF xs w i ∧
    wmul .i64 (i : Int) (w : Int) = ((i * w : Nat) : Int) ∧ wadd .i64 (wmul .i64 (i : Int) (w : Int)) (w : Int) = ((i * w + w : Nat) : Int) ∧ wmul .i64 (wadd .i64 (i : Int) 1) (w : Int) = ((i * w + w : Nat) : Int) := by
  have h1 : i * w ≤ 1000 * 1000 := Nat.mul_le_mul (by omega) hw
  have h2 : (i + 1) * w ≤ 1001 * 1000 := Nat.mul_le_mul (by omega) hw
  rw [Nat.succ_mul] at h2
  have e1 : wmul .i64 (i : Int) (w : Int) = ((i * w : Nat) : Int) := by rw [wmulI (by rw [← Int.natCast_mul]; omega), ← Int.natCast_mul]
  have e2 : wadd .i64 ((i * w : Nat) : Int) (w : Int) = ((i * w + w : Nat) : Int) := by rw [waddI (by omega)]; omega
  have e3 : wmul .i64 (wadd .i64 (i : Int) 1) (w : Int) = ((i * w + w : Nat) : Int) := by
    rw [waddI (by omega), show (i : Int) + 1 = ((i + 1 : Nat) : Int) by omega, wmulI (by rw [← Int.natCast_mul, Nat.succ_mul]; omega), ← Int.natCast_mul, Nat.succ_mul]
  refine ⟨?_, e1, by rw [e1, e2], e3⟩
  rw [e1, e2]
  unfold cut rowF
  simp only [Int.toNat_natCast]
  rw [show i * w + w - i * w = w by omega]

theorem row_in {xs : List Nat} {w n i : Nat} (h : xs.length = n * w) (hi : i < n) : i * w + w ≤ xs.length := by
  have : (i + 1) * w ≤ n * w := Nat.mul_le_mul_right _ hi
  rw [Nat.succ_mul] at this
  omega

theorem implRows {xs : List Nat} {n w : Nat} (hn : n ≤ 1000) (hw : w ≤ 1000) : impl_areRows xs (n : Int) (w : Int) = some ((lenI xs == wmul .i64 (n : Int) (w : Int)) && allN (fun i => okRow (rowF xs w i)) n 0) := by
  unfold impl_areRows
  have e : wmul .i64 (n : Int) (w : Int) = ((n * w : Nat) : Int) := by
    have : n * w ≤ 1000 * 1000 := Nat.mul_le_mul hn hw
    rw [wmulI (by rw [← Int.natCast_mul]; omega), ← Int.natCast_mul]
  cases hl : (lenI xs == wmul .i64 (n : Int) (w : Int)) with
  | false => simp [bne, hl]
  | true =>
    have hlen : xs.length = n * w := by
      rw [e] at hl
      have := eq_of_beq hl
      simp only [lenI] at this
      omega
    have := rounds_all (f := impl_areRows_B1 xs (n : Int) (w : Int)) (fun i => ((i : Nat) : Int)) (fun i => okRow (rowF xs w i)) (Sum.inl ()) (Sum.inr ()) (n := n) (fun i hi => by
      obtain ⟨c1, c2, c3, c4⟩ := cutRow (xs := xs) hn hw hi
      have hin := row_in hlen hi
      unfold impl_areRows_B1 impl_rowOf_float32
      rw [c3, c2] at c1
      simp only [ltN hi, cond_true, c2, c4, c1]
      rw [guard_pos ⟨by omega, by omega, by omega, by simp only [lenI]; omega⟩]
      have hr : (rowF xs w i).length ≤ 4294967296 := by rw [rowF_len hlen hi]; omega
      simp only [Option.bind_some, implRow hr, nextN hi (by omega)]
      cases okRow (rowF xs w i) <;> rfl) (by
      unfold impl_areRows_B1
      simp only [geN (Nat.le_refl _), cond_false]) n 0 (by omega)
    simp only [Int.natCast_zero] at this
    simp only [bne, hl, Bool.not_true, cond_false, this, Option.bind_some, Bool.true_and]
    cases allN (fun i => okRow (rowF xs w i)) n 0 <;> rfl

theorem rowF_all {xs : List Nat} {n : Nat} (h : xs.length = n) : rowF xs n 0 = xs := by
  unfold rowF
  rw [Nat.zero_mul, List.drop_zero, ← h, List.take_length]

theorem implModel {n k : Int} {fs ss hs : List Nat} : impl_ValidModel (n, k, fs, ss, hs) = some (okModel n k fs ss hs) := by
  unfold impl_ValidModel okModel
  simp only [within64, Option.bind_some]
  cases hn : (decide (n ≥ 1) && decide (n ≤ 5)) with
  | false => rfl
  | true =>
    cases hk : (decide (k ≥ 1) && decide (k ≤ 4)) with
    | false => rfl
    | true =>
      simp only [Bool.and_eq_true, decide_eq_true_eq] at hn hk
      obtain ⟨a, rfl⟩ : ∃ a : Nat, n = (a : Int) := ⟨n.toNat, by omega⟩
      obtain ⟨b, rfl⟩ : ∃ b : Nat, k = (b : Int) := ⟨k.toNat, by omega⟩
      have e1 := implRows (xs := fs) (n := 1) (w := a) (by omega) (by omega)
      have e0 : wmul .i64 ((1 : Nat) : Int) (a : Int) = (a : Int) := by rw [wmulI (by omega)]; omega
      rw [e0] at e1
      have e2 := implRows (xs := ss) (n := a) (w := a) (by omega) (by omega)
      have e3 := implRows (xs := hs) (n := a) (w := b) (by omega) (by omega)
      simp only [Int.natCast_one] at e1
      simp only [e1, e2, e3, cond_true, Option.bind_some, Int.toNat_natCast, Bool.true_and]
      have hr : lenI fs = (a : Int) → allN (fun i => okRow (rowF fs a i)) 1 0 = okRow fs := by
        intro h
        simp only [allN, Bool.and_true]
        rw [rowF_all (by simp only [lenI] at h; omega)]
      cases h1 : (lenI fs == (a : Int)) with
      | false => rfl
      | true =>
        rw [hr (eq_of_beq h1)]
        cases okRow fs <;> cases (lenI ss == wmul .i64 (a : Int) (a : Int)) <;> cases (lenI hs == wmul .i64 (a : Int) (b : Int)) <;> cases allN (fun i => okRow (rowF ss a i)) a 0 <;> cases allN (fun i => okRow (rowF hs b i)) a 0 <;> rfl

theorem specModel {n k : Int} {fs ss hs : List Nat} : spec_l03Is (n, k, fs, ss, hs) = some (okModel n k fs ss hs) := by
  unfold spec_l03Is okModel
  simp only [in64, Option.bind_some]
  cases hn : (decide (n ≥ 1) && decide (n ≤ 5)) with
  | false => rfl
  | true =>
    cases hk : (decide (k ≥ 1) && decide (k ≤ 4)) with
    | false => rfl
    | true =>
      simp only [Bool.and_eq_true, decide_eq_true_eq] at hn hk
      obtain ⟨a, rfl⟩ : ∃ a : Nat, n = (a : Int) := ⟨n.toNat, by omega⟩
      obtain ⟨b, rfl⟩ : ∃ b : Nat, k = (b : Int) := ⟨k.toNat, by omega⟩
      simp only [bne, Bool.not_true, cond_false, Bool.true_and, Int.toNat_natCast]
      cases h1 : (lenI fs == (a : Int)) with
      | false => rfl
      | true =>
        cases h2 : (lenI ss == wmul .i64 (a : Int) (a : Int)) with
        | false => rfl
        | true =>
          cases h3 : (lenI hs == wmul .i64 (a : Int) (b : Int)) with
          | false => rfl
          | true =>
            have m1 : a * a ≤ 5 * 5 := Nat.mul_le_mul (by omega) (by omega)
            have m2 : a * b ≤ 5 * 4 := Nat.mul_le_mul (by omega) (by omega)
            have l1 : fs.length = a := by have := eq_of_beq h1; simp only [lenI] at this; omega
            have l2 : ss.length = a * a := by
              have := eq_of_beq h2
              rw [wmulI (by rw [← Int.natCast_mul]; omega), ← Int.natCast_mul] at this
              simp only [lenI] at this; omega
            have l3 : hs.length = a * b := by
              have := eq_of_beq h3
              rw [wmulI (by rw [← Int.natCast_mul]; omega), ← Int.natCast_mul] at this
              simp only [lenI] at this; omega
            have := rounds_all (f := spec_l03Is_B1 ((a : Int), (b : Int), fs, ss, hs)) (fun i => ((i : Nat) : Int)) (fun i => okRow (rowF ss a i) && okRow (rowF hs b i)) (Sum.inl ()) (Sum.inr ()) (n := a) (fun i hi => by
              obtain ⟨c1, c2, c3, c4⟩ := cutRow (xs := ss) (w := a) (n := a) (by omega) (by omega) hi
              obtain ⟨d1, d2, d3, d4⟩ := cutRow (xs := hs) (w := b) (n := a) (by omega) (by omega) hi
              have hin := row_in l2 hi
              have hin2 := row_in l3 hi
              rw [c3, c2] at c1
              rw [d3, d2] at d1
              have hr : (rowF ss a i).length ≤ 4294967296 := by rw [rowF_len l2 hi]; omega
              have hr2 : (rowF hs b i).length ≤ 4294967296 := by rw [rowF_len l3 hi]; omega
              unfold spec_l03Is_B1
              simp only [ltN hi, cond_true]
              rw [c3, c2, c1, guard_pos ⟨by omega, by omega, by simp only [lenI]; omega⟩, specRow hr]
              simp only [Option.bind_some]
              rw [d3, d2, d1, guard_pos ⟨by omega, by omega, by simp only [lenI]; omega⟩, specRow hr2]
              simp only [Option.bind_some, nextN hi (show a ≤ 4294967296 by omega)]
              cases okRow (rowF ss a i) <;> cases okRow (rowF hs b i) <;> rfl) (by
              unfold spec_l03Is_B1
              simp only [geN (Nat.le_refl _), cond_false]) a 0 (by omega)
            simp only [Int.natCast_zero] at this
            rw [allN_and] at this
            simp only [specRow (xs := fs) (by omega), Option.bind_some, Bool.not_true, cond_false]
            cases okRow fs with
            | false => rfl
            | true =>
              simp only [Bool.not_true, cond_false, Option.bind_some, this, Bool.true_and]
              cases allN (fun i => okRow (rowF ss a i)) a 0 <;> cases allN (fun i => okRow (rowF hs b i)) a 0 <;> rfl

end Go.Proofs


/-
  Valid models and their words; HiddenChance.
-/
namespace Go.Proofs
open Go.Ide Go.IntWalk

structure Model (a b : Nat) (fs ss hs : List Nat) : Prop where
  n1 : 1 ≤ a
  n2 : a ≤ 5
  k1 : 1 ≤ b
  k2 : b ≤ 4
  lf : fs.length = a
  ls : ss.length = a * a
  lh : hs.length = a * b
  sf : ∀ i, i < a → bd (fs.getD i 0) 127
  st : ∀ i j, i < a → j < a → bd (ss.getD (i * a + j) 0) 127
  sh : ∀ i j, i < a → j < b → bd (hs.getD (i * b + j) 0) 127

theorem okRow_bd {xs : List Nat} (h : okRow xs = true) {i : Nat} (hi : i < xs.length) : bd (xs.getD i 0) 127 := by
  unfold okRow at h
  rw [Bool.and_eq_true] at h
  exact bd_share (allN_iff.1 h.1 i (by omega) (by omega))

theorem model_of {n k : Int} {fs ss hs : List Nat} (h : okModel n k fs ss hs = true) : ∃ a b : Nat, n = (a : Int) ∧ k = (b : Int) ∧ Model a b fs ss hs := by
  unfold okModel at h
  simp only [Bool.and_eq_true, decide_eq_true_eq, beq_iff_eq] at h
  obtain ⟨⟨h1, h2⟩, ⟨h3, h4⟩, h5, h6, h7, h8, h9, h10⟩ := h
  obtain ⟨a, rfl⟩ : ∃ a : Nat, n = (a : Int) := ⟨n.toNat, by omega⟩
  obtain ⟨b, rfl⟩ : ∃ b : Nat, k = (b : Int) := ⟨k.toNat, by omega⟩
  have m1 : a * a ≤ 5 * 5 := Nat.mul_le_mul (by omega) (by omega)
  have m2 : a * b ≤ 5 * 4 := Nat.mul_le_mul (by omega) (by omega)
  rw [wmulI (by rw [← Int.natCast_mul]; omega), ← Int.natCast_mul] at h6
  rw [wmulI (by rw [← Int.natCast_mul]; omega), ← Int.natCast_mul] at h7
  simp only [lenI] at h5 h6 h7
  have l1 : fs.length = a := by omega
  have l2 : ss.length = a * a := by omega
  have l3 : hs.length = a * b := by omega
  simp only [Int.toNat_natCast] at h9 h10
  refine ⟨a, b, rfl, rfl, by omega, by omega, by omega, by omega, l1, l2, l3, fun i hi => okRow_bd h8 (by omega), fun i j hi hj => ?_, fun i j hi hj => ?_⟩
  · rw [← rowF_get l2 hi hj]
    exact okRow_bd (allN_iff.1 h9 i (by omega) (by omega)) (by rw [rowF_len l2 hi]; exact hj)
  · rw [← rowF_get l3 hi hj]
    exact okRow_bd (allN_iff.1 h10 i (by omega) (by omega)) (by rw [rowF_len l3 hi]; exact hj)

/-- A word of a model. -/
def okMWord (n k : Int) (fs ss hs : List Nat) (w : List Int) : Bool := okModel n k fs ss hs && (allIn w 0 (wsub .i64 k 1) && decide (lenI w ≤ 12))

theorem specMWord {n k : Int} {fs ss hs : List Nat} {w : List Int} (h : w.length ≤ 4294967296) : spec_l03Word (n, k, fs, ss, hs) w = some (okMWord n k fs ss hs w) := by
  unfold spec_l03Word okMWord
  simp only [specModel, word64 h, Option.bind_some]
  cases okModel n k fs ss hs <;> rfl

theorem implMWord {n k : Int} {fs ss hs : List Nat} {w : List Int} (h : w.length ≤ 4294967296) : impl_Model_has (n, k, fs, ss, hs) w = some (okMWord n k fs ss hs w) := by
  unfold impl_Model_has okMWord
  simp only [implModel, isWord64 h, Option.bind_some]
  cases hm : okModel n k fs ss hs with
  | false => rfl
  | true =>
    obtain ⟨a, b, rfl, rfl, m⟩ := model_of hm
    have := m.k1
    have := m.k2
    rw [decide_eq_true (show (b : Int) ≥ 1 by omega), decide_eq_true (show (b : Int) ≤ 4 by omega)]
    cases allIn w 0 (wsub .i64 (b : Int) 1) <;> cases decide (lenI w ≤ 12) <;> rfl

theorem mword_of {n k : Int} {fs ss hs : List Nat} {w : List Int} (h : okMWord n k fs ss hs w = true) : ∃ a b : Nat, n = (a : Int) ∧ k = (b : Int) ∧ Model a b fs ss hs ∧ w.length ≤ 12 ∧ Letters b w := by
  unfold okMWord at h
  simp only [Bool.and_eq_true, decide_eq_true_eq, lenI] at h
  obtain ⟨h1, h2, h3⟩ := h
  obtain ⟨a, b, rfl, rfl, m⟩ := model_of h1
  have := m.k1
  have := m.k2
  rw [wsubI (by omega)] at h2
  refine ⟨a, b, rfl, rfl, m, by omega, fun i hi => ?_⟩
  have := allIn_iff.1 h2 i hi
  exact ⟨(w.getD i 0).toNat, by omega, by omega⟩

/-- Hidden states of a word. -/
def okStates (n : Int) (w s : List Int) : Bool := allIn s 0 (wsub .i64 n 1) && (lenI s == wadd .i64 (lenI w) 1)

theorem states_of {a : Nat} {w s : List Int} (ha : 1 ≤ a) (ha2 : a ≤ 5) (hw : w.length ≤ 12) (h : okStates (a : Int) w s = true) : s.length = w.length + 1 ∧ Letters a s := by
  unfold okStates at h
  simp only [Bool.and_eq_true, beq_iff_eq, lenI] at h
  rw [wsubI (by omega), waddI (by omega)] at h
  refine ⟨by omega, fun i hi => ?_⟩
  have := allIn_iff.1 h.1 i hi
  exact ⟨(s.getD i 0).toNat, by omega, by omega⟩

theorem cellM {a b i j : Nat} (ha : a ≤ 5) (hb : b ≤ 5) (hi : i < a) (hj : j < b) : wadd .i64 (wmul .i64 (i : Int) (b : Int)) (j : Int) = ((i * b + j : Nat) : Int) ∧ i * b + j < a * b := by
  refine ⟨cellN (by omega) (by omega) (by omega), ?_⟩
  have : (i + 1) * b ≤ a * b := Nat.mul_le_mul_right _ hi
  rw [Nat.succ_mul] at this
  omega

/-- A finite number is told. -/
theorem finite_bd {x : Nat} {K : Nat} (h : bd x K) (h2 : 2 ≤ K) (h3 : K ≤ 254) : impl_finite x = some (x, true) := by
  unfold impl_finite impl_IsFinite
  rw [sub_self32 h h2 h3]
  rfl

def hidStep (a b : Nat) (ss hs : List Nat) (w s : List Int) (i : Nat) (x : Nat) : Nat :=
  fop .mul .f32 (fop .mul .f32 x (hs.getD ((s.getD i 0).toNat * b + (w.getD i 0).toNat) 0)) (ss.getD ((s.getD i 0).toNat * a + (s.getD (i + 1) 0).toNat) 0)

theorem hid_bd {a b : Nat} {fs ss hs : List Nat} (m : Model a b fs ss hs) {w s : List Int} (hw : Letters b w) (hs' : Letters a s) (hl : s.length = w.length + 1) {i x : Nat} (hi : i < w.length) (hx : bd x 127) : bd (hidStep a b ss hs w s i x) 127 := by
  obtain ⟨c, hc, hc2⟩ := hw i hi
  obtain ⟨p, hp, hp2⟩ := hs' i (by omega)
  obtain ⟨q, hq, hq2⟩ := hs' (i + 1) (by omega)
  unfold hidStep
  rw [hc, hp, hq]
  simp only [Int.toNat_natCast]
  have h1 : bd (fop .mul .f32 x (hs.getD (p * b + c) 0)) 127 := bd_mul hx (m.sh p c hp2 hc2) (by omega) (by omega) (by omega) (by omega) (by omega) (by omega)
  exact bd_mul h1 (m.st p q hp2 hq2) (by omega) (by omega) (by omega) (by omega) (by omega) (by omega)

end Go.Proofs


/-
  Chances forward; ChanceOf.
-/
namespace Go.Proofs
open Go.Ide Go.IntWalk

theorem bd_zero (K : Nat) : bd 0 K := by unfold bd; omega

theorem sumF_bd {xs : List Nat} {K : Nat} (hK : 2 ≤ K) (h : ∀ i, i < xs.length → bd (xs.getD i 0) K) : ∀ i, i ≤ xs.length → K + i ≤ 254 → bd (sumF xs i) (K + i)
  | 0, _, _ => bd_zero _
  | i + 1, hi, hk => by
    have h1 : bd (xs.getD i 0) (K + i) := (h i (by omega)).mono (by omega)
    have h2 : bd (sumF xs i) (K + i) := sumF_bd hK h i (by omega) (by omega)
    have := bd_add h2 h1 (by omega) (by omega)
    exact this

/-- One cell of the next row, added up over the first p states. -/
def cellF (a b : Nat) (ss hs row : List Nat) (c j : Nat) : Nat → Nat
  | 0 => 0
  | p + 1 => fop .add .f32 (cellF a b ss hs row c j p) (fop .mul .f32 (fop .mul .f32 (row.getD p 0) (hs.getD (p * b + c) 0)) (ss.getD (p * a + j) 0))

def nextF (a b : Nat) (ss hs row : List Nat) (c : Nat) : List Nat := (List.range a).map fun j => cellF a b ss hs row c j a

theorem nextF_len (a b : Nat) (ss hs row : List Nat) (c : Nat) : (nextF a b ss hs row c).length = a := by simp [nextF]

theorem nextF_get {a b : Nat} {ss hs row : List Nat} {c j : Nat} (hj : j < a) : (nextF a b ss hs row c).getD j 0 = cellF a b ss hs row c j a := by
  unfold nextF
  simp [List.getD_eq_getElem?_getD, hj]

theorem cellF_bd {a b : Nat} {fs ss hs : List Nat} (m : Model a b fs ss hs) {row : List Nat} {c j K : Nat} (hc : c < b) (hj : j < a) (hK : 2 ≤ K) (h : ∀ i, i < a → bd (row.getD i 0) K) : ∀ p, p ≤ a → K + p ≤ 254 → bd (cellF a b ss hs row c j p) (K + p)
  | 0, _, _ => bd_zero _
  | p + 1, hp, hk => by
    have h1 : bd (fop .mul .f32 (row.getD p 0) (hs.getD (p * b + c) 0)) K := bd_mul (h p (by omega)) (m.sh p c (by omega) hc) hK (by omega) (by omega) (by omega) hK (by omega)
    have h2 : bd (fop .mul .f32 (fop .mul .f32 (row.getD p 0) (hs.getD (p * b + c) 0)) (ss.getD (p * a + j) 0)) K := bd_mul h1 (m.st p j (by omega) hj) hK (by omega) (by omega) (by omega) hK (by omega)
    have h3 : bd (fop .mul .f32 (fop .mul .f32 (row.getD p 0) (hs.getD (p * b + c) 0)) (ss.getD (p * a + j) 0)) (K + p) := h2.mono (by omega)
    have h4 : bd (cellF a b ss hs row c j p) (K + p) := cellF_bd m hc hj hK h p (by omega) (by omega)
    have := bd_add h4 h3 (by omega) (by omega)
    exact this

theorem nextF_bd {a b : Nat} {fs ss hs : List Nat} (m : Model a b fs ss hs) {row : List Nat} {c K : Nat} (hc : c < b) (hK : 2 ≤ K) (h : ∀ i, i < a → bd (row.getD i 0) K) (hk : K + 5 ≤ 254) : ∀ j, j < a → bd ((nextF a b ss hs row c).getD j 0) (K + 5) := by
  intro j hj
  have := m.n2
  rw [nextF_get hj]
  exact (cellF_bd m hc hj hK h a (Nat.le_refl _) (by omega)).mono (by omega)

theorem specNext {a b : Nat} {fs ss hs : List Nat} (m : Model a b fs ss hs) {row : List Nat} {c : Nat} (hc : c < b) (hr : row.length = a) : spec_l03Next ((a : Int), (b : Int), fs, ss, hs) row (c : Int) = some (nextF a b ss hs row c) := by
  have hn2 := m.n2
  have hk2 := m.k2
  have hls := m.ls
  have hlh := m.lh
  have := loop_app (f := spec_l03Next_B2 ((a : Int), (b : Int), fs, ss, hs) row (c : Int)) (fun j => cellF a b ss hs row c j a) a []
    (fun j out hj ho => by
      have := rounds_forS (f := spec_l03Next_B1 ((a : Int), (b : Int), fs, ss, hs) row (c : Int) ((j : Int), out)) (fun p s => (s, ((p : Nat) : Int)))
        (fun p s => fop .add .f32 s (fop .mul .f32 (fop .mul .f32 (row.getD p 0) (hs.getD (p * b + c) 0)) (ss.getD (p * a + j) 0))) id (n := a) (fun p s => s = cellF a b ss hs row c j p)
        (fun p s hp hs' => ⟨by
          obtain ⟨e1, e2⟩ := cellM (a := a) (b := b) (by omega) (by omega) hp hc
          obtain ⟨e3, e4⟩ := cellM (a := a) (b := a) (by omega) (by omega) hp hj
          have j1 := idxN (i := p) (n := row.length) (by omega)
          have j3 := idxN (i := p * b + c) (n := hs.length) (by omega)
          have j4 := idxN (i := p * a + j) (n := ss.length) (by omega)
          unfold spec_l03Next_B1
          simp only [ltN hp, cond_true, Int.toNat_natCast, nextN hp (show a ≤ 4294967296 by omega), e1, e3]
          rw [guard_pos j1, guard_pos j3, guard_pos j4], by rw [hs']; rfl⟩)
        (fun s _ => by
          unfold spec_l03Next_B1
          simp only [geN (Nat.le_refl _), cond_false]; rfl) a 0 0 (by omega) rfl
      simp only [Int.natCast_zero] at this
      unfold spec_l03Next_B2
      simp only [ltN hj, cond_true, this.1, id, Option.bind_some, nextN hj (show a ≤ 4294967296 by omega)]
      rw [guard_pos (by simp only [List.length_nil] at ho; simp only [ho, List.length_singleton, appMax]; omega), this.2])
    (fun out => by
      unfold spec_l03Next_B2
      simp only [geN (Nat.le_refl _), cond_false])
  unfold spec_l03Next
  rw [this]
  rfl

theorem loop_to0 {f : Int × List Nat → Option ((Int × List Nat) ⊕ List Nat)} (xs : List Nat)
    (hstep : ∀ (i : Nat) (out : List Nat), i < xs.length → out.length = xs.length → out.getD i 0 = 0 → f ((i : Int), out) = some (.inl (((i + 1 : Nat) : Int), out.set i (xs.getD i 0))))
    (hend : ∀ out : List Nat, out.length = xs.length → f (((xs.length : Nat) : Int), out) = some (.inr out)) : rounds f ((0 : Int), List.replicate xs.length 0) = some xs := by
  have := rounds_forS (f := f) (fun i out => (((i : Nat) : Int), out)) (fun i out => out.set i (xs.getD i 0)) id (n := xs.length) (fun i out => out = xs.take i ++ List.replicate (xs.length - i) 0)
    (fun i out hi h => ⟨hstep i out hi (by rw [h]; simp; omega) (by
      rw [h, List.getD_eq_getElem?_getD, List.getElem?_append_right (by simp; omega)]
      simp only [List.length_take, List.getElem?_replicate]
      split <;> rfl), by
      rw [h, take_snoc hi 0, show xs.length - i = (xs.length - (i + 1)) + 1 from by omega, List.replicate_succ, set_at (by simp; omega)]
      simp⟩)
    (fun out h => hend out (by rw [h]; simp)) xs.length 0 (List.replicate xs.length 0) (by omega) (by simp)
  simp only [Int.natCast_zero] at this
  rw [this.1, this.2]
  simp

theorem implNext {a b : Nat} {fs ss hs : List Nat} (m : Model a b fs ss hs) {row : List Nat} {c : Nat} (hc : c < b) (hr : row.length = a) : impl_Model_nextRow ((a : Int), (b : Int), fs, ss, hs) row (c : Int) = some (nextF a b ss hs row c) := by
  have hn2 := m.n2
  have hk2 := m.k2
  have hls := m.ls
  have hlh := m.lh
  have hnl := nextF_len a b ss hs row c
  have := loop_to0 (f := impl_Model_nextRow_B2 ((a : Int), (b : Int), fs, ss, hs) row (c : Int)) (nextF a b ss hs row c)
    (fun j out hj ho h0 => by
      rw [hnl] at hj ho
      have := rounds_forS (f := impl_Model_nextRow_B1 ((a : Int), (b : Int), fs, ss, hs) row (c : Int) ((j : Int), out)) (fun p s => (((p : Nat) : Int), s))
        (fun p s => s.set j (fop .add .f32 (s.getD j 0) (fop .mul .f32 (fop .mul .f32 (row.getD p 0) (hs.getD (p * b + c) 0)) (ss.getD (p * a + j) 0)))) id (n := a) (fun p s => s = out.set j (cellF a b ss hs row c j p))
        (fun p s hp hs' => ⟨by
          obtain ⟨e1, e2⟩ := cellM (a := a) (b := b) (by omega) (by omega) hp hc
          obtain ⟨e3, e4⟩ := cellM (a := a) (b := a) (by omega) (by omega) hp hj
          have hsl : s.length = a := by rw [hs']; simp [ho]
          have j0 := idxN (i := j) (n := s.length) (by omega)
          have j1 := idxN (i := p) (n := row.length) (by omega)
          have j3 := idxN (i := p * b + c) (n := hs.length) (by omega)
          have j4 := idxN (i := p * a + j) (n := ss.length) (by omega)
          unfold impl_Model_nextRow_B1 impl_Model_show impl_Model_step
          simp only [ltN hp, cond_true, Int.toNat_natCast, nextN hp (show a ≤ 4294967296 by omega), e1, e3]
          rw [guard_pos j0, guard_pos j1, guard_pos j3, Option.bind_some, guard_pos j4, Option.bind_some], by
          rw [hs']
          have : (out.set j (cellF a b ss hs row c j p)).getD j 0 = cellF a b ss hs row c j p := by
            simp [List.getD_eq_getElem?_getD, ho, hj]
          rw [this, List.set_set]
          rfl⟩)
        (fun s _ => by
          unfold impl_Model_nextRow_B1
          simp only [geN (Nat.le_refl _), cond_false]; rfl) a 0 out (by omega) (by
          show out = out.set j 0
          apply List.ext_getElem (by simp)
          intro i h1 h2
          rw [List.getElem_set]
          split
          · rename_i e
            subst e
            simpa [List.getD_eq_getElem?_getD, List.getElem?_eq_getElem h1] using h0
          · rfl)
      simp only [Int.natCast_zero] at this
      unfold impl_Model_nextRow_B2
      simp only [ltN hj, cond_true, this.1, id, Option.bind_some, nextN hj (show a ≤ 4294967296 by omega)]
      rw [this.2, nextF_get hj])
    (fun out _ => by
      unfold impl_Model_nextRow_B2
      rw [hnl]
      simp only [geN (Nat.le_refl _), cond_false])
  unfold impl_Model_nextRow
  rw [guard_pos ⟨by omega, by simp only; omega⟩]
  simp only [Int.toNat_natCast]
  rw [hnl] at this
  rw [this]
  rfl

/-- The rows of a word. -/
def rowAt (a b : Nat) (fs ss hs : List Nat) (w : List Int) : Nat → List Nat
  | 0 => fs
  | i + 1 => nextF a b ss hs (rowAt a b fs ss hs w i) (w.getD i 0).toNat

theorem rowAt_len {a b : Nat} {fs ss hs : List Nat} (m : Model a b fs ss hs) (w : List Int) : ∀ i, (rowAt a b fs ss hs w i).length = a
  | 0 => m.lf
  | i + 1 => nextF_len ..

theorem rowAt_bd {a b : Nat} {fs ss hs : List Nat} (m : Model a b fs ss hs) {w : List Int} (hw : Letters b w) (hl : w.length ≤ 12) : ∀ i, i ≤ w.length → ∀ j, j < a → bd ((rowAt a b fs ss hs w i).getD j 0) (127 + 5 * i)
  | 0, _ => m.sf
  | i + 1, hi => by
    obtain ⟨c, hc, hc2⟩ := hw i (by omega)
    rw [rowAt, hc, Int.toNat_natCast, show 127 + 5 * (i + 1) = 127 + 5 * i + 5 by omega]
    exact nextF_bd m hc2 (by omega) (rowAt_bd m hw hl i (by omega)) (by omega)

def rowsF (a b : Nat) (fs ss hs : List Nat) (w : List Int) : List (List Nat) := (List.range (w.length + 1)).map (rowAt a b fs ss hs w)

theorem rows_at (h : Nat → List Nat) (i : Nat) : ((List.range (i + 1)).map h).getD i [] = h i := by
  simp [List.getD_eq_getElem?_getD]

end Go.Proofs


/-
  Two models that meet; MeetChance.
-/
namespace Go.Proofs
open Go.Ide Go.IntWalk

/-- The sum of the first i of g, added up from the first. -/
def sumN (g : Nat → Nat) : Nat → Nat
  | 0 => 0
  | i + 1 => fop .add .f32 (sumN g i) (g i)

set_option exponentiation.threshold 300 in
theorem sumN_bdv {g : Nat → Nat} {n k : Nat} (h : ∀ i, i < n → bdv (g i) (2 ^ k)) (hn : n ≤ 32) (hk : k + 5 ≤ 276) : ∀ i, i ≤ n → bdv (sumN g i) (i * 2 ^ k)
  | 0, _ => ⟨_, _, 0, read_zero, by omega⟩
  | i + 1, hi => by
    refine bdv_add (sumN_bdv h hn hk i (by omega)) (h i (by omega)) (by omega) ?_
    refine Nat.le_trans (Nat.mul_le_mul_right _ (show i + 1 ≤ 2 ^ 5 by omega)) ?_
    rw [← Nat.pow_add]
    exact Nat.pow_le_pow_right (by omega) (by omega)

theorem sumN_bd {g : Nat → Nat} {n K e : Nat} (h : ∀ i, i < n → bd (g i) K) (hK : 2 ≤ K) (he : n ≤ 2 ^ e) (hn : n ≤ 32) (hk : K + 5 ≤ 254) : bd (sumN g n) (K + e) := by
  apply bd_of_bdv _ (by omega)
  refine (sumN_bdv (k := K + 22) (fun i hi => bdv_of_bd (h i hi) hK (by omega)) hn (by omega) n (Nat.le_refl _)).mono ?_
  refine Nat.le_trans (Nat.mul_le_mul_right _ he) ?_
  rw [← Nat.pow_add]
  exact Nat.pow_le_pow_right (by omega) (by omega)

def okTwo (n k : Int) (fs ss hs : List Nat) (n' k' : Int) (fs' ss' hs' : List Nat) : Bool := okModel n k fs ss hs && (okModel n' k' fs' ss' hs' && (k == k'))

theorem two_of {n k : Int} {fs ss hs : List Nat} {n' k' : Int} {fs' ss' hs' : List Nat} (h : okTwo n k fs ss hs n' k' fs' ss' hs' = true) : ∃ a a' b : Nat, n = (a : Int) ∧ n' = (a' : Int) ∧ k = (b : Int) ∧ k' = (b : Int) ∧ Model a b fs ss hs ∧ Model a' b fs' ss' hs' := by
  unfold okTwo at h
  simp only [Bool.and_eq_true, beq_iff_eq] at h
  obtain ⟨h1, h2, h3⟩ := h
  obtain ⟨a, b, rfl, rfl, m⟩ := model_of h1
  obtain ⟨a', b', rfl, e, m'⟩ := model_of h2
  rw [← h3] at e
  have : b' = b := by omega
  subst this
  exact ⟨a, a', b', rfl, rfl, rfl, by omega, m, m'⟩

/-- A table's rows one after another. -/
def table (a' : Nat) (g : Nat → Nat → Nat) (n : Nat) : List Nat := (List.range n).map fun i => g (i / a') (i % a')

theorem table_len (a' : Nat) (g : Nat → Nat → Nat) (n : Nat) : (table a' g n).length = n := by simp [table]

theorem dm {a' p q : Nat} (hq : q < a') : (p * a' + q) / a' = p ∧ (p * a' + q) % a' = q := by
  constructor
  · rw [Nat.mul_comm, Nat.mul_add_div (by omega), Nat.div_eq_of_lt hq, Nat.add_zero]
  · rw [Nat.mul_comm, Nat.mul_add_mod, Nat.mod_eq_of_lt hq]

theorem table_snoc {a' p q : Nat} (g : Nat → Nat → Nat) (hq : q < a') : table a' g (p * a' + q) ++ [g p q] = table a' g (p * a' + (q + 1)) := by
  unfold table
  rw [show p * a' + (q + 1) = (p * a' + q) + 1 by omega, List.range_succ, List.map_append]
  simp only [List.map_cons, List.map_nil, (dm hq).1, (dm hq).2]

theorem table_get {a' p q n : Nat} (g : Nat → Nat → Nat) (hq : q < a') (hn : p * a' + q < n) : (table a' g n).getD (p * a' + q) 0 = g p q := by
  unfold table
  simp only [List.getD_eq_getElem?_getD, List.getElem?_map, List.getElem?_range hn, Option.map_some, Option.getD_some, (dm hq).1, (dm hq).2]

theorem rowEnd {a' p : Nat} : p * a' + a' = (p + 1) * a' + 0 := by rw [Nat.succ_mul]; omega

section
variable {a a' b : Nat} {fs ss hs fs' ss' hs' : List Nat}

def likeT (b : Nat) (hs hs' : List Nat) (p q c : Nat) : Nat := fop .mul .f32 (hs.getD (p * b + c) 0) (hs'.getD (q * b + c) 0)
def likeF (b : Nat) (hs hs' : List Nat) (p q : Nat) : Nat := sumN (likeT b hs hs' p q) b
def firstF (fs fs' : List Nat) (p q : Nat) : Nat := fop .mul .f32 (fs.getD p 0) (fs'.getD q 0)

theorem like_bd (m : Model a b fs ss hs) (m' : Model a' b fs' ss' hs') {p q : Nat} (hp : p < a) (hq : q < a') : bd (likeF b hs hs' p q) 129 := by
  have := m.k2
  exact sumN_bd (K := 127) (e := 2) (fun c hc => bd_mul (m.sh p c hp hc) (m'.sh q c hq hc) (by omega) (by omega) (by omega) (by omega) (by omega) (by omega)) (by omega) (by omega) (by omega) (by omega)

/-- One product of the next cell (s, t). -/
def meetT (a a' b : Nat) (ss hs ss' hs' cells : List Nat) (s t i : Nat) : Nat :=
  fop .mul .f32 (fop .mul .f32 (fop .mul .f32 (cells.getD i 0) (likeF b hs hs' (i / a') (i % a'))) (ss.getD (i / a' * a + s) 0)) (ss'.getD (i % a' * a' + t) 0)
def meetC (a a' b : Nat) (ss hs ss' hs' cells : List Nat) (s t : Nat) : Nat := sumN (meetT a a' b ss hs ss' hs' cells s t) (a * a')
def meetF (a a' b : Nat) (ss hs ss' hs' cells : List Nat) : List Nat := table a' (meetC a a' b ss hs ss' hs' cells) (a * a')

theorem quo_lt {i : Nat} (h : i < a * a') : i / a' < a ∧ i % a' < a' := by
  have : 0 < a' := by
    rcases Nat.eq_zero_or_pos a' with rfl | h'
    · omega
    · exact h'
  exact ⟨by rw [Nat.div_lt_iff_lt_mul this]; exact h, Nat.mod_lt _ this⟩

theorem prod25 (h : a ≤ 5) (h' : a' ≤ 5) : a * a' ≤ 25 := Nat.mul_le_mul h h'

theorem meet_bd (m : Model a b fs ss hs) (m' : Model a' b fs' ss' hs') {cells : List Nat} {K : Nat} (hK : 2 ≤ K) (hk : K + 7 ≤ 254) (h : ∀ i, i < a * a' → bd (cells.getD i 0) K) :
    ∀ i, i < a * a' → bd ((meetF a a' b ss hs ss' hs' cells).getD i 0) (K + 7) := by
  intro i hi
  have h25 := prod25 m.n2 m'.n2
  obtain ⟨h1, h2⟩ := quo_lt hi
  have e : (meetF a a' b ss hs ss' hs' cells).getD i 0 = meetC a a' b ss hs ss' hs' cells (i / a') (i % a') := by
    unfold meetF table
    simp only [List.getD_eq_getElem?_getD, List.getElem?_map, List.getElem?_range hi, Option.map_some, Option.getD_some]
  rw [e]
  refine sumN_bd (K := K + 2) (e := 5) (fun j hj => ?_) (by omega) (by omega) (by omega) (by omega)
  obtain ⟨g1, g2⟩ := quo_lt hj
  have t1 : bd (fop .mul .f32 (cells.getD j 0) (likeF b hs hs' (j / a') (j % a'))) (K + 2) := bd_mul (h j hj) (like_bd m m' g1 g2) hK (by omega) (by omega) (by omega) (by omega) (by omega)
  have t2 : bd (fop .mul .f32 (fop .mul .f32 (cells.getD j 0) (likeF b hs hs' (j / a') (j % a'))) (ss.getD (j / a' * a + i / a') 0)) (K + 2) := bd_mul t1 (m.st _ _ g1 h1) (by omega) (by omega) (by omega) (by omega) (by omega) (by omega)
  exact bd_mul t2 (m'.st _ _ g2 h2) (by omega) (by omega) (by omega) (by omega) (by omega) (by omega)

end

end Go.Proofs


/-
  Lists of finite numbers; lists one after another; ForwardOf, NextLetters.
-/
namespace Go.Proofs
open Go.Ide Go.IntWalk

/-- A loop that looks for a bad one, and tells its place. -/
theorem rounds_find {τ ρ : Type} {f : τ → Option (τ ⊕ ρ)} (mk : Nat → τ) (p : Nat → Bool) (a : ρ) (b : Nat → ρ) {n : Nat}
    (hstep : ∀ i, i < n → f (mk i) = some (bif p i then .inl (mk (i + 1)) else .inr (b i))) (hend : f (mk n) = some (.inr a)) : ∀ (k i : Nat), i + k = n → ∃ j, rounds f (mk i) = some (bif allN p k i then a else b j)
  | 0, i, hi => by
    have : i = n := by omega
    subst this
    rw [rounds_eq, hend]
    exact ⟨0, rfl⟩
  | k + 1, i, hi => by
    rw [rounds_eq, hstep i (by omega)]
    simp only [allN]
    cases p i with
    | true => simp only [cond_true, Bool.true_and]; exact rounds_find mk p a b hstep hend k (i + 1) (by omega)
    | false => exact ⟨i, rfl⟩

/-- A finite number. -/
def fin (x : Nat) : Bool := feq .f32 (fop .sub .f32 x x) 0

def fins (xs : List Nat) : Bool := allN (fun i => fin (xs.getD i 0)) xs.length 0

theorem fin_bd {x K : Nat} (h : bd x K) (h2 : 2 ≤ K) (h3 : K ≤ 254) : fin x = true := by
  unfold fin
  rw [sub_self32 h h2 h3]
  rfl

/-- Lists one after another. -/
def catN (xs : List (List Nat)) : Nat → List Nat
  | 0 => []
  | i + 1 => catN xs i ++ xs.getD i []

theorem catN_len {xs : List (List Nat)} {c : Nat} (h : ∀ i, i < xs.length → (xs.getD i []).length ≤ c) : ∀ i, i ≤ xs.length → (catN xs i).length ≤ i * c
  | 0, _ => by simp [catN]
  | i + 1, hi => by
    have h1 := catN_len h i (by omega)
    have h2 := h i (by omega)
    rw [catN, List.length_append, Nat.succ_mul]
    omega

theorem catN_mono {xs : List (List Nat)} : ∀ i, (catN xs i).length ≤ (catN xs (i + 1)).length := fun i => by
  rw [catN, List.length_append]; omega

theorem rowsF_len {a b : Nat} {fs ss hs : List Nat} {w : List Int} : (rowsF a b fs ss hs w).length = w.length + 1 := by simp [rowsF]
theorem rowsF_get {a b : Nat} {fs ss hs : List Nat} {w : List Int} {i : Nat} (h : i < w.length + 1) : (rowsF a b fs ss hs w).getD i [] = rowAt a b fs ss hs w i := by
  unfold rowsF
  simp [List.getD_eq_getElem?_getD, h]

/-- Rows of finite numbers one after another are finite. -/
theorem allN_cat (p : Nat → Bool) (xs : List (List Nat)) (h : ∀ i, i < xs.length → ∀ j, j < (xs.getD i []).length → p ((xs.getD i []).getD j 0) = true) : ∀ i, i ≤ xs.length → ∀ j, j < (catN xs i).length → p ((catN xs i).getD j 0) = true
  | 0, _, j, hj => by simp [catN] at hj
  | i + 1, hi, j, hj => by
    rw [catN] at hj ⊢
    rw [List.length_append] at hj
    simp only [List.getD_eq_getElem?_getD]
    by_cases hlt : j < (catN xs i).length
    · rw [List.getElem?_append_left hlt, ← List.getD_eq_getElem?_getD]
      exact allN_cat p xs h i (by omega) j hlt
    · rw [List.getElem?_append_right (by omega), ← List.getD_eq_getElem?_getD]
      exact h i (by omega) _ (by omega)

/-- A letter's share of a row, added up over the first p states. -/
def letF (b : Nat) (hs row : List Nat) (c : Nat) : Nat → Nat
  | 0 => 0
  | p + 1 => fop .add .f32 (letF b hs row c p) (fop .mul .f32 (row.getD p 0) (hs.getD (p * b + c) 0))

end Go.Proofs


/-
  All words of a length; ApartModels.
-/
namespace Go.Proofs
open Go.Ide Go.IntWalk

/-- The words of which those of ws are the beginnings, one letter longer; the first i of ws. -/
def extN (b : Nat) (ws : List (List Int)) : Nat → List (List Int)
  | 0 => []
  | i + 1 => extN b ws i ++ (List.range b).map fun (l : Nat) => ws.getD i [] ++ [(l : Int)]

/-- All words of a length. -/
def allW (b : Nat) : Nat → List (List Int)
  | 0 => [[]]
  | n + 1 => extN b (allW b n) (allW b n).length

theorem extN_len (b : Nat) (ws : List (List Int)) : ∀ i, (extN b ws i).length = i * b
  | 0 => by simp [extN]
  | i + 1 => by rw [extN, List.length_append, extN_len b ws i, Nat.succ_mul]; simp

theorem extN_mem {b : Nat} {ws : List (List Int)} {w : List Int} : ∀ {i : Nat}, i ≤ ws.length → w ∈ extN b ws i → ∃ v ∈ ws, ∃ l : Nat, l < b ∧ w = v ++ [(l : Int)]
  | 0, _, h => by simp [extN] at h
  | i + 1, hi, h => by
    rw [extN] at h
    rcases List.mem_append.1 h with h | h
    · exact extN_mem (by omega) h
    · obtain ⟨l, hl, rfl⟩ := List.mem_map.1 h
      refine ⟨ws.getD i [], ?_, l, List.mem_range.1 hl, rfl⟩
      rw [List.getD_eq_getElem?_getD, List.getElem?_eq_getElem (by omega)]
      exact List.getElem_mem _

theorem allW_len (b : Nat) : ∀ n, (allW b n).length = b ^ n
  | 0 => rfl
  | n + 1 => by rw [allW, extN_len, allW_len b n, Nat.pow_succ]

theorem allW_le {b n : Nat} (hb : b ≤ 4) (hn : n ≤ 12) : (allW b n).length ≤ 16777216 := by
  rw [allW_len]
  calc b ^ n ≤ 4 ^ n := Nat.pow_le_pow_left hb n
    _ ≤ 4 ^ 12 := Nat.pow_le_pow_right (by omega) hn
    _ = 16777216 := by decide

theorem getD_snoc {v : List Int} {x : Int} {i : Nat} : (v ++ [x]).getD i 0 = if i < v.length then v.getD i 0 else if i = v.length then x else 0 := by
  simp only [List.getD_eq_getElem?_getD]
  by_cases h : i < v.length
  · rw [if_pos h, List.getElem?_append_left h]
  · rw [if_neg h, List.getElem?_append_right (by omega)]
    by_cases e : i = v.length
    · rw [if_pos e]; simp [e]
    · rw [if_neg e]
      rw [List.getElem?_eq_none (by simp; omega)]
      rfl

theorem allW_mem {b : Nat} : ∀ {n : Nat} {w : List Int}, w ∈ allW b n → w.length = n ∧ Letters b w
  | 0, w, h => by
    have : w = [] := by simpa [allW] using h
    subst this
    exact ⟨rfl, fun i hi => by simp at hi⟩
  | n + 1, w, h => by
    obtain ⟨v, hv, l, hl, rfl⟩ := extN_mem (Nat.le_refl _) h
    obtain ⟨h1, h2⟩ := allW_mem hv
    refine ⟨by simp [h1], fun i hi => ?_⟩
    rw [getD_snoc]
    by_cases e : i < v.length
    · rw [if_pos e]; exact h2 i e
    · rw [if_neg e, if_pos (by simp at hi; omega)]; exact ⟨l, rfl, hl⟩

theorem allW_get {b n i : Nat} (h : i < (allW b n).length) : ((allW b n).getD i []).length = n ∧ Letters b ((allW b n).getD i []) := by
  refine allW_mem ?_
  rw [List.getD_eq_getElem?_getD, List.getElem?_eq_getElem h]
  exact List.getElem_mem _

/-- A word's chance. -/
def chF (a b : Nat) (fs ss hs : List Nat) (w : List Int) : Nat := sumF (rowAt a b fs ss hs w w.length) a

theorem chF_bd {a b : Nat} {fs ss hs : List Nat} (m : Model a b fs ss hs) {w : List Int} (hw : Letters b w) (hl : w.length ≤ 12) : bd (chF a b fs ss hs w) (132 + 5 * w.length) := by
  have hn2 := m.n2
  have hlen := rowAt_len m w w.length
  have := sumF_bd (xs := rowAt a b fs ss hs w w.length) (K := 127 + 5 * w.length) (by omega) (fun i hi => rowAt_bd m hw hl _ (Nat.le_refl _) i (by omega)) a (by omega) (by omega)
  exact this.mono (by omega)

theorem implAbs (d : Nat) : impl_absolute d = some (absI d) := by
  unfold impl_absolute absI
  cases flt .f32 d 0 <;> rfl

set_option exponentiation.threshold 300 in
theorem sumN_bdv8 {g : Nat → Nat} {n k : Nat} (h : ∀ i, i < n → bdv (g i) (2 ^ k)) (hn : n ≤ 256) (hk : k + 8 ≤ 276) : ∀ i, i ≤ n → bdv (sumN g i) (i * 2 ^ k)
  | 0, _ => ⟨_, _, 0, read_zero, by omega⟩
  | i + 1, hi => by
    refine bdv_add (sumN_bdv8 h hn hk i (by omega)) (h i (by omega)) (by omega) ?_
    refine Nat.le_trans (Nat.mul_le_mul_right _ (show i + 1 ≤ 2 ^ 8 by omega)) ?_
    rw [← Nat.pow_add]
    exact Nat.pow_le_pow_right (by omega) (by omega)

theorem sumN_bd8 {g : Nat → Nat} {n K i : Nat} (h : ∀ i, i < n → bd (g i) K) (hK : 2 ≤ K) (hn : n ≤ 256) (hk : K + 8 ≤ 254) (hi : i ≤ n) : bd (sumN g i) (K + 8) := by
  apply bd_of_bdv _ (by omega)
  refine (sumN_bdv8 (k := K + 22) (fun i hi => bdv_of_bd (h i hi) hK (by omega)) hn (by omega) i hi).mono ?_
  refine Nat.le_trans (Nat.mul_le_mul_right _ (show i ≤ 2 ^ 8 by omega)) ?_
  rw [← Nat.pow_add]
  exact Nat.pow_le_pow_right (by omega) (by omega)

end Go.Proofs


/-
  Logarithms.
-/
namespace Go.Proofs
open Go.Ide Go.IntWalk

/-- A whole number of 64 bits. -/
def Zf (e : Int) : Nat := fofint .f64 e

theorem Zf_tab : ∀ i : Fin 602, fop .add .f64 (Zf ((i.val : Int) - 301)) 4607182418800017408 = Zf ((i.val : Int) - 300) ∧ fop .sub .f64 (Zf ((i.val : Int) - 300)) 4607182418800017408 = Zf ((i.val : Int) - 301) ∧ Zf ((i.val : Int) - 301) % 9223372036854775808 ≤ 1032 * 4503599627370496 := by decide +kernel

theorem Zf_add {e : Int} (h1 : -301 ≤ e) (h2 : e ≤ 300) : fop .add .f64 (Zf e) 4607182418800017408 = Zf (e + 1) := by
  have := (Zf_tab ⟨(e + 301).toNat, by omega⟩).1
  simp only at this
  rw [show (((e + 301).toNat : Nat) : Int) - 301 = e by omega, show (((e + 301).toNat : Nat) : Int) - 300 = e + 1 by omega] at this
  exact this

theorem Zf_sub {e : Int} (h1 : -300 ≤ e) (h2 : e ≤ 301) : fop .sub .f64 (Zf e) 4607182418800017408 = Zf (e - 1) := by
  have := (Zf_tab ⟨(e + 300).toNat, by omega⟩).2.1
  simp only at this
  rw [show (((e + 300).toNat : Nat) : Int) - 301 = e - 1 by omega, show (((e + 300).toNat : Nat) : Int) - 300 = e by omega] at this
  exact this

theorem Zf_bd {e : Int} (h1 : -301 ≤ e) (h2 : e ≤ 300) : bdD (Zf e) 1032 := by
  have := (Zf_tab ⟨(e + 301).toNat, by omega⟩).2.2
  simp only at this
  rw [show (((e + 301).toNat : Nat) : Int) - 301 = e by omega] at this
  exact this

theorem halves : ∀ (n x : Nat) (e : Int), nrm x → x / 4503599627370496 ≤ n → 874 * 4503599627370496 ≤ x → 0 ≤ e → e + ((x / 4503599627370496 : Nat) : Int) ≤ 1151 →
    ∃ x' e', rounds spec_l01LogWide_B3 (x, e) = some (x', e') ∧ rounds impl_naturalLog_B3 (x, Zf e) = some (x', Zf e') ∧ nrm x' ∧ x' < 4609434218613702656 ∧ 874 * 4503599627370496 ≤ x' ∧ 0 ≤ e' ∧ e' + ((x' / 4503599627370496 : Nat) : Int) ≤ 1151
  | n, x, e, hx, hn, h1, h2, h3 => by
    have hc : nrm 4609434218613702656 := ⟨by omega, by omega⟩
    rw [rounds_eq, rounds_eq impl_naturalLog_B3]
    unfold spec_l01LogWide_B3 impl_naturalLog_B3
    simp only [fge_nrm hx hc]
    by_cases hge : 4609434218613702656 ≤ x
    · rw [decide_eq_true hge]
      obtain ⟨q1, q2⟩ := nrm_half hx (by omega)
      simp only [cond_true, q1]
      rw [waddI (by omega), Zf_add (by omega) (by omega)]
      match n, hn with
      | 0, hn => omega
      | n + 1, hn =>
        obtain ⟨x', e', r1, r2, r3⟩ := halves n (x - 4503599627370496) (e + 1) q2 (by omega) (by omega) (by omega) (by omega)
        unfold spec_l01LogWide_B3 at r1
        unfold impl_naturalLog_B3 at r2
        exact ⟨x', e', r1, r2, r3⟩
    · rw [decide_eq_false hge]
      exact ⟨x, e, rfl, rfl, hx, by omega, h1, h2, h3⟩

theorem twices : ∀ (n x : Nat) (e : Int), nrm x → 1024 ≤ n + x / 4503599627370496 → x < 4609434218613702656 → 874 ≤ e + ((x / 4503599627370496 : Nat) : Int) → -149 ≤ e → e ≤ 277 →
    ∃ x' e', rounds spec_l01LogWide_B2 (x, e) = some (x', e') ∧ rounds impl_naturalLog_B2 (x, Zf e) = some (x', Zf e') ∧ nrm x' ∧ x' < 4609434218613702656 ∧ 4604930618986332160 ≤ x' ∧ -149 ≤ e' ∧ e' ≤ 277
  | n, x, e, hx, hn, h1, h2, h3, h4 => by
    have hc : nrm 4604930618986332160 := ⟨by omega, by omega⟩
    rw [rounds_eq, rounds_eq impl_naturalLog_B2]
    unfold spec_l01LogWide_B2 impl_naturalLog_B2
    simp only [flt_nrm hx hc]
    by_cases hlt : x < 4604930618986332160
    · rw [decide_eq_true hlt]
      obtain ⟨q1, q2⟩ := nrm_twice hx (by omega)
      simp only [cond_true, q1]
      rw [wsubI (by omega), Zf_sub (by omega) (by omega)]
      match n, hn with
      | 0, hn => omega
      | n + 1, hn =>
        obtain ⟨x', e', r1, r2, r3⟩ := twices n (x + 4503599627370496) (e - 1) q2 (by omega) (by omega) (by omega) (by omega) (by omega)
        unfold spec_l01LogWide_B2 at r1
        unfold impl_naturalLog_B2 at r2
        exact ⟨x', e', r1, r2, r3⟩
    · rw [decide_eq_false hlt]
      exact ⟨x, e, rfl, rfl, hx, h1, by omega, h3, h4⟩

/-- The series, summed up from its end. -/
def serF (s : Nat) : Nat → Nat
  | 0 => 0
  | i + 1 => fop .add .f64 (fop .quo .f64 4607182418800017408 (Zf (25 - 2 * ((i : Nat) : Int)))) (fop .mul .f64 (fop .mul .f64 s s) (serF s i))

theorem ser_tab : ∀ i : Fin 13, fge .f64 (Zf (25 - 2 * ((i.val : Nat) : Int))) 4607182418800017408 = true ∧ fop .sub .f64 (Zf (25 - 2 * ((i.val : Nat) : Int))) 4611686018427387904 = Zf (25 - 2 * (((i.val + 1 : Nat)) : Int)) ∧
    (fop .quo .f64 4607182418800017408 (Zf (25 - 2 * ((i.val : Nat) : Int)))) % 9223372036854775808 ≤ 1024 * 4503599627370496 := by decide +kernel

theorem serF_bd {s : Nat} (hs : bdD s 1026) : ∀ i, i ≤ 13 → bdD (serF s i) (1030 + 7 * i)
  | 0, _ => by unfold bdD serF; omega
  | i + 1, hi => by
    have h1 := serF_bd hs i (by omega)
    have h2 : bdD (fop .mul .f64 s s) 1029 := bd_mulD hs hs (by omega) (by omega) (by omega) (by omega) (by omega) (by omega)
    have h3 : bdD (fop .mul .f64 (fop .mul .f64 s s) (serF s i)) (1036 + 7 * i) := bd_mulD h2 h1 (by omega) (by omega) (by omega) (by omega) (by omega) (by omega)
    have h4 : bdD (fop .quo .f64 4607182418800017408 (Zf (25 - 2 * ((i : Nat) : Int)))) 1024 := (ser_tab ⟨i, by omega⟩).2.2
    have := bd_addD (bdD.mono h4 (show 1024 ≤ 1036 + 7 * i by omega)) h3 (by omega) (by omega)
    rw [show 1030 + 7 * (i + 1) = 1036 + 7 * i + 1 by omega]
    exact this

theorem specSer (s : Nat) : rounds (spec_l01LogWide_B1 s) (0, 25) = some (serF s 13) := by
  have := rounds_forS (f := spec_l01LogWide_B1 s) (fun i q => (q, 25 - 2 * ((i : Nat) : Int))) (fun i q => fop .add .f64 (fop .quo .f64 4607182418800017408 (Zf (25 - 2 * ((i : Nat) : Int)))) (fop .mul .f64 (fop .mul .f64 s s) q)) id (n := 13) (fun i q => q = serF s i)
    (fun i q hi hq => ⟨by
      unfold spec_l01LogWide_B1
      simp only [decide_eq_true (show 25 - 2 * ((i : Nat) : Int) ≥ 1 by omega), cond_true]
      rw [wsubI (by omega), show 25 - 2 * ((i : Nat) : Int) - 2 = 25 - 2 * ((i + 1 : Nat) : Int) by omega]
      rfl, by rw [hq]; rfl⟩)
    (fun q _ => by
      unfold spec_l01LogWide_B1
      rfl) 13 0 0 (by omega) rfl
  simp only [Int.natCast_zero, Int.mul_zero, Int.sub_zero] at this
  rw [this.1, this.2]; rfl

theorem implSer (s : Nat) : rounds (impl_naturalLog_B1 s) (0, 4627730092099895296) = some (serF s 13) := by
  have := rounds_forS (f := impl_naturalLog_B1 s) (fun i q => (q, Zf (25 - 2 * ((i : Nat) : Int)))) (fun i q => fop .add .f64 (fop .quo .f64 4607182418800017408 (Zf (25 - 2 * ((i : Nat) : Int)))) (fop .mul .f64 (fop .mul .f64 s s) q)) id (n := 13) (fun i q => q = serF s i)
    (fun i q hi hq => ⟨by
      obtain ⟨t1, t2, _⟩ := ser_tab ⟨i, hi⟩
      simp only at t1 t2
      unfold impl_naturalLog_B1
      simp only [t1, cond_true, t2], by rw [hq]; rfl⟩)
    (fun q _ => by
      have : fge .f64 (Zf (25 - 2 * ((13 : Nat) : Int))) 4607182418800017408 = false := by decide +kernel
      unfold impl_naturalLog_B1
      simp only [this, cond_false]
      rfl) 13 0 0 (by omega) rfl
  have h25 : Zf (25 - 2 * ((0 : Nat) : Int)) = 4627730092099895296 := by decide +kernel
  simp only [h25] at this
  rw [this.1, this.2]; rfl

theorem nearest_posD (m : Nat) (p : Int) : Ieee.double.nearest false m p % 9223372036854775808 = Ieee.double.nearest false m p := by
  obtain ⟨r, hr, e⟩ := nearest_word32D false m p
  rw [e, word_mod32D hr]
  rfl

/-- One more than a number of about one. -/
theorem nrm_plus {x : Nat} (hx : nrm x) (h : x < 4609434218613702656) : nrm (fop .add .f64 x 4607182418800017408) ∧ 1023 * 4503599627370496 ≤ fop .add .f64 x 4607182418800017408 := by
  have hlo := hx.lo
  have hb : bdD x 1024 := by unfold bdD; omega
  have h1 : bdD 4607182418800017408 1024 := by unfold bdD; omega
  have hu := bd_addD hb h1 (by omega) (by omega)
  have e := add_readD hx.rd read_oneD
  have hm : 0 < 4503599627370496 + x % 4503599627370496 := by omega
  have hE : ((x / 4503599627370496 - 1 : Nat) : Int) ≤ 1022 := by omega
  generalize 4503599627370496 + x % 4503599627370496 = m at *
  generalize ((x / 4503599627370496 - 1 : Nat) : Int) = q at *
  rw [signed_false, signed_false] at e
  have hp1 := Nat.mul_pos hm (pow_pos2 (-1074 + q - min (-1074 + q) (-1074 + ((1022 : Nat) : Int))).toNat)
  have hp2 : 2 ^ (0 - min (-1074 + q) (-1074 + ((1022 : Nat) : Int))).toNat ≤ 4503599627370496 * 2 ^ (-1074 + ((1022 : Nat) : Int) - min (-1074 + q) (-1074 + ((1022 : Nat) : Int))).toNat := by
    rw [show (4503599627370496 : Nat) = 2 ^ 52 by decide, ← Nat.pow_add]
    exact Nat.pow_le_pow_right (by omega) (by omega)
  have hbase : min (-1074 + q) (-1074 + ((1022 : Nat) : Int)) ≤ -52 := by omega
  generalize min (-1074 + q) (-1074 + ((1022 : Nat) : Int)) = base at *
  generalize m * 2 ^ (-1074 + q - base).toNat = A at *
  generalize 4503599627370496 * 2 ^ (-1074 + ((1022 : Nat) : Int) - base).toNat = B at *
  rw [if_neg (by omega), decide_eq_false (by omega), show ((A : Int) + (B : Int)).natAbs = A + B by omega] at e
  have hlog : (0 - base).toNat ≤ (A + B).log2 := (Nat.le_log2 (by omega)).2 (by omega)
  have hge := nearest_logD_ge (neg := false) (mag := A + B) (p := base) (L := 1023) (by omega) (by omega) (by omega) (by omega)
  rw [nearest_posD] at hge
  rw [canon_bdD (nearest_le255D _ _ _) (Nat.le_refl _)] at e
  have hpos := nearest_posD (A + B) base
  rw [← e] at hge hpos
  unfold bdD at hu
  rw [hpos] at hu
  exact ⟨⟨by omega, by omega⟩, hge⟩

/-- A number of 32 bits above nought as one of 64 bits. -/
theorem wide_nrm {s K : Nat} (hs : bd s K) (h2 : 2 ≤ K) (h3 : K ≤ 254) (hp : fgt .f32 s 0 = true) : flt .f32 s 0 = false ∧ feq .f32 s 0 = false ∧ feq .f32 s s = true ∧ nrm (fconv .f32 .f64 s) ∧ 874 * 4503599627370496 ≤ fconv .f32 .f64 s ∧ fconv .f32 .f64 s ≤ 1151 * 4503599627370496 := by
  obtain ⟨t, m, i, e, hb⟩ := read_bd hs h2 h3
  have ho : FloatKind.f32.format.order s 0 = some .gt := by unfold fgt at hp; exact eq_of_beq hp
  have hself : FloatKind.f32.format.order s s = some .eq := order_self (f := Ieee.single) fun a b h => by
    rw [e] at h; cases h
  have hsg : 0 < Ieee.signed t m (-149 + (i : Int) - min (-149 + (i : Int)) (-149)).toNat := by
    have h0 := flt_num read_zero e
    have : FloatKind.f32.format.order 0 s = some .lt := by
      have h1 : FloatKind.f32.format.order s 0 = some (compare (Ieee.signed t m (-149 + (i : Int) - min (-149 + (i : Int)) (-149)).toNat) (Ieee.signed false 0 (-149 - min (-149 + (i : Int)) (-149)).toNat)) := by
        show Ieee.Datum.order (Ieee.single.read s) (Ieee.single.read 0) = _
        rw [e, read_zero]; rfl
      rw [h1] at ho
      injection ho with ho
      have h2 : FloatKind.f32.format.order 0 s = some (compare (Ieee.signed false 0 (-149 - min (-149) (-149 + (i : Int))).toNat) (Ieee.signed t m (-149 + (i : Int) - min (-149) (-149 + (i : Int))).toNat)) := by
        show Ieee.Datum.order (Ieee.single.read 0) (Ieee.single.read s) = _
        rw [e, read_zero]; rfl
      rw [h2, Int.min_comm (-149)]
      congr 1
      have hz : ∀ u, Ieee.signed false 0 u = 0 := fun u => by rw [signed_false]; simp
      rw [hz] at ho ⊢
      have c1 := cmp_ge (Ieee.signed t m (-149 + (i : Int) - min (-149 + (i : Int)) (-149)).toNat) 0
      have c2 := cmp_le (Ieee.signed t m (-149 + (i : Int) - min (-149 + (i : Int)) (-149)).toNat) 0
      generalize Ieee.signed t m (-149 + (i : Int) - min (-149 + (i : Int)) (-149)).toNat = A at *
      rw [ho] at c1 c2
      have h3 : ¬ A ≤ 0 := fun h => by rw [decide_eq_true h] at c2; cases c2
      have h4 := cmp_lt 0 A
      rw [decide_eq_true (by omega)] at h4
      have h4 := eq_of_beq h4
      injection h4
    unfold flt at h0
    rw [this, Int.min_comm (-149)] at h0
    have hz : ∀ u, Ieee.signed false 0 u = 0 := fun u => by rw [signed_false]; simp
    rw [hz] at h0
    have h0 : true = decide (0 < Ieee.signed t m (-149 + (i : Int) - min (-149 + (i : Int)) (-149)).toNat) := h0
    exact of_decide_eq_true h0.symm
  have ht : t = false := by
    cases t with
    | false => rfl
    | true => rw [signed_true] at hsg; omega
  subst ht
  have hm : m ≠ 0 := by
    rintro rfl
    rw [signed_false] at hsg
    simp at hsg
  refine ⟨by unfold flt; rw [ho]; rfl, by unfold feq; rw [ho]; rfl, by unfold feq; rw [hself]; rfl, ?_⟩
  have hlog := log_of_le hm hb
  have hx : fconv .f32 .f64 s = Ieee.double.nearest false m (-149 + (i : Int)) := by
    unfold fconv
    rw [if_neg (by decide)]
    have e' : FloatKind.decode .f32 s = .number false m (-149 + (i : Int)) := e
    rw [e']
    show fcanon .f64 (Ieee.double.nearest false m (-149 + (i : Int))) = _
    exact canon_bdD (nearest_le255D _ _ _) (Nat.le_refl _)
  have hge := nearest_logD_ge (neg := false) (mag := m) (p := -149 + (i : Int)) (L := 874) hm (by omega) (by omega) (by omega)
  have hle := nearest_logD (neg := false) (mag := m) (p := -149 + (i : Int)) (K := 1151) (by omega) (by omega)
  unfold bdD at hle
  rw [nearest_posD] at hge hle
  rw [hx]
  exact ⟨⟨by omega, by omega⟩, hge, hle⟩

/-- The logarithm of a chance above nought. -/
theorem logSame {s K : Nat} (hs : bd s K) (h2 : 2 ≤ K) (h3 : K ≤ 254) (hp : fgt .f32 s 0 = true) : ∃ y, spec_l01Log s = some y ∧ impl_LogNumber s = some y := by
  obtain ⟨f1, f2, f3, hx, hlo, hhi⟩ := wide_nrm hs h2 h3 hp
  have hfin : impl_IsFinite s = some true := by
    unfold impl_IsFinite
    rw [sub_self32 hs h2 h3]
    rfl
  unfold spec_l01Log impl_LogNumber
  rw [hfin]
  simp only [f1, f2, f3, cond_false, Bool.not_true, Option.bind_some]
  generalize fconv .f32 .f64 s = x at *
  obtain ⟨g1, g2, g3⟩ := hx.pos
  have hmax : nrm 9218868437227405311 := ⟨by omega, by omega⟩
  have g4 : fgt .f64 x 9218868437227405311 = false := fgt_nrm hx hmax (by have := hx.hi; omega)
  obtain ⟨x1, e1, a1, a2, a3, a4, a5, a6, a7⟩ := halves 1152 x 0 hx (by omega) hlo (by omega) (by omega)
  obtain ⟨x2, e2, b1, b2, b3, b4, b5, b6, b7⟩ := twices 1024 x1 e1 a3 (by omega) a4 (by omega) (by omega) (by omega)
  have hz : Zf 0 = 0 := by decide +kernel
  rw [hz] at a2
  have ha : spec_l01LogWide x = some (fop .add .f64 (fop .mul .f64 4611686018427387904 (fop .mul .f64 (fop .quo .f64 (fop .sub .f64 x2 4607182418800017408) (fop .add .f64 x2 4607182418800017408)) (serF (fop .quo .f64 (fop .sub .f64 x2 4607182418800017408) (fop .add .f64 x2 4607182418800017408)) 13))) (fop .mul .f64 (Zf e2) 4604418534313441775)) := by
    unfold spec_l01LogWide math_IsInf
    simp only [g1, g2, g3, g4, Bool.not_true, cond_false, Option.bind_some, show ((1 : Int) == 0) = false from rfl, show decide ((1 : Int) < 0) = false from rfl, a1, b1, specSer]
    rfl
  have hb : impl_naturalLog x = some (fop .add .f64 (fop .mul .f64 4611686018427387904 (fop .mul .f64 (fop .quo .f64 (fop .sub .f64 x2 4607182418800017408) (fop .add .f64 x2 4607182418800017408)) (serF (fop .quo .f64 (fop .sub .f64 x2 4607182418800017408) (fop .add .f64 x2 4607182418800017408)) 13))) (fop .mul .f64 (Zf e2) 4604418534313441775)) := by
    unfold impl_naturalLog
    simp only [a2, b2, Option.bind_some, implSer]
  have hxb : bdD x2 1024 := by have := b3.hi; unfold bdD; omega
  have h1b : bdD 4607182418800017408 1024 := by unfold bdD; omega
  obtain ⟨p1, p2⟩ := nrm_plus b3 b4
  have hsub := bd_subD hxb h1b (by omega) (by omega)
  have hq : bdD (fop .quo .f64 (fop .sub .f64 x2 4607182418800017408) (fop .add .f64 x2 4607182418800017408)) 1026 := bd_quoD (K := 1025) (L := 1023) hsub (by omega) (by omega) p1 p2 (by omega) (by omega) (by omega)
  generalize fop .quo .f64 (fop .sub .f64 x2 4607182418800017408) (fop .add .f64 x2 4607182418800017408) = q at *
  have hser := serF_bd hq 13 (by omega)
  have m1 : bdD (fop .mul .f64 q (serF q 13)) 1124 := bd_mulD hq hser (by omega) (by omega) (by omega) (by omega) (by omega) (by omega)
  have m2 : bdD (fop .mul .f64 4611686018427387904 (fop .mul .f64 q (serF q 13))) 1125 := bd_mulD (a := 1024) (by unfold bdD; omega) m1 (by omega) (by omega) (by omega) (by omega) (by omega) (by omega)
  have m3 : bdD (fop .mul .f64 (Zf e2) 4604418534313441775) 1125 := bd_mulD (b := 1023) (Zf_bd (by omega) (by omega)) (by unfold bdD; omega) (by omega) (by omega) (by omega) (by omega) (by omega) (by omega)
  have hy := bd_addD m2 m3 (by omega) (by omega)
  have hok := narrow_ok hy (by omega) (by omega)
  rw [ha, hb]
  simp only [Option.bind_some]
  unfold spec_l01Narrow
  rw [guard_pos hok]
  exact ⟨_, rfl, rfl⟩

end Go.Proofs


/-
  Logarithms of chances; LogChanceOf, MoreBits.
-/
namespace Go.Proofs
open Go.Ide Go.IntWalk

/-- All numbers of a model are not below nought. -/
structure ModelN (a b : Nat) (fs ss hs : List Nat) : Prop where
  sf : ∀ i, i < a → nn (fs.getD i 0)
  st : ∀ i j, i < a → j < a → nn (ss.getD (i * a + j) 0)
  sh : ∀ i j, i < a → j < b → nn (hs.getD (i * b + j) 0)

theorem okRow_nn {xs : List Nat} (h : okRow xs = true) {i : Nat} (hi : i < xs.length) : nn (xs.getD i 0) := by
  have hb := okRow_bd h hi
  unfold okRow at h
  rw [Bool.and_eq_true] at h
  have hs := allN_iff.1 h.1 i (by omega) (by omega)
  unfold share at hs
  rw [Bool.and_eq_true] at hs
  exact share_nn hs.1 hb

theorem modelN_of {a b : Nat} {fs ss hs : List Nat} (h : okModel (a : Int) (b : Int) fs ss hs = true) (m : Model a b fs ss hs) : ModelN a b fs ss hs := by
  unfold okModel at h
  simp only [Bool.and_eq_true, decide_eq_true_eq, beq_iff_eq, Int.toNat_natCast] at h
  obtain ⟨_, _, _, _, _, h8, h9, h10⟩ := h
  have l1 := m.lf
  have l2 := m.ls
  have l3 := m.lh
  refine ⟨fun i hi => okRow_nn h8 (by omega), fun i j hi hj => ?_, fun i j hi hj => ?_⟩
  · rw [← rowF_get l2 hi hj]
    exact okRow_nn (allN_iff.1 h9 i (by omega) (by omega)) (by rw [rowF_len l2 hi]; exact hj)
  · rw [← rowF_get l3 hi hj]
    exact okRow_nn (allN_iff.1 h10 i (by omega) (by omega)) (by rw [rowF_len l3 hi]; exact hj)

/-- A row of shares. -/
def ShareRow (a : Nat) (row : List Nat) : Prop := row.length = a ∧ ∀ i, i < a → bd (row.getD i 0) 127 ∧ nn (row.getD i 0)

theorem letF_ok {a b : Nat} {fs ss hs : List Nat} (m : Model a b fs ss hs) (mn : ModelN a b fs ss hs) {row : List Nat} (hr : ShareRow a row) {c : Nat} (hc : c < b) : ∀ p, p ≤ a → bd (letF b hs row c p) (127 + p) ∧ pos32 (letF b hs row c p)
  | 0, _ => ⟨bd_zero _, by show (0 : Nat) < 2147483648; omega⟩
  | p + 1, hp => by
    have hn2 := m.n2
    obtain ⟨h1, h2⟩ := letF_ok m mn hr hc p (by omega)
    obtain ⟨r1, r2⟩ := hr.2 p (by omega)
    have b1 : bd (fop .mul .f32 (row.getD p 0) (hs.getD (p * b + c) 0)) 127 := bd_mul r1 (m.sh p c (by omega) hc) (by omega) (by omega) (by omega) (by omega) (by omega) (by omega)
    obtain ⟨_, n1⟩ := mul_nn r1 (m.sh p c (by omega) hc) (by omega) (by omega) (by omega) (by omega) r2 (mn.sh p c (by omega) hc)
    have b2 : bd (fop .mul .f32 (row.getD p 0) (hs.getD (p * b + c) 0)) (127 + p) := b1.mono (by omega)
    exact ⟨bd_add (a := 127 + p) h1 b2 (by omega) (by omega), add_pos (a := 127 + p) h1 b2 (by omega) (by omega) h2 n1⟩

theorem cellF_le {a b : Nat} {fs ss hs : List Nat} (m : Model a b fs ss hs) (mn : ModelN a b fs ss hs) {row : List Nat} (hr : ShareRow a row) {c j : Nat} (hc : c < b) (hj : j < a) : ∀ p, p ≤ a → bd (cellF a b ss hs row c j p) (127 + p) ∧ pos32 (cellF a b ss hs row c j p) ∧ cellF a b ss hs row c j p ≤ letF b hs row c p
  | 0, _ => ⟨bd_zero _, by show (0 : Nat) < 2147483648; omega, Nat.le_refl _⟩
  | p + 1, hp => by
    have hn2 := m.n2
    obtain ⟨h1, h2, h3⟩ := cellF_le m mn hr hc hj p (by omega)
    obtain ⟨q1, q2⟩ := letF_ok m mn hr hc p (by omega)
    obtain ⟨r1, r2⟩ := hr.2 p (by omega)
    have b1 : bd (fop .mul .f32 (row.getD p 0) (hs.getD (p * b + c) 0)) 127 := bd_mul r1 (m.sh p c (by omega) hc) (by omega) (by omega) (by omega) (by omega) (by omega) (by omega)
    obtain ⟨_, n1⟩ := mul_nn r1 (m.sh p c (by omega) hc) (by omega) (by omega) (by omega) (by omega) r2 (mn.sh p c (by omega) hc)
    have b3 : bd (fop .mul .f32 (fop .mul .f32 (row.getD p 0) (hs.getD (p * b + c) 0)) (ss.getD (p * a + j) 0)) 127 := bd_mul b1 (m.st p j (by omega) hj) (by omega) (by omega) (by omega) (by omega) (by omega) (by omega)
    obtain ⟨_, n3⟩ := mul_nn b1 (m.st p j (by omega) hj) (by omega) (by omega) (by omega) (by omega) n1 (mn.st p j (by omega) hj)
    have hsh := mul_share b1 (m.st p j (by omega) hj) (by omega) (by omega) n1 (mn.st p j (by omega) hj)
    have b1' : bd (fop .mul .f32 (row.getD p 0) (hs.getD (p * b + c) 0)) (127 + p) := b1.mono (by omega)
    have b3' : bd (fop .mul .f32 (fop .mul .f32 (row.getD p 0) (hs.getD (p * b + c) 0)) (ss.getD (p * a + j) 0)) (127 + p) := b3.mono (by omega)
    exact ⟨bd_add (a := 127 + p) h1 b3' (by omega) (by omega), add_pos (a := 127 + p) h1 b3' (by omega) (by omega) h2 n3, add_mono (a := 127 + p) h1 b3' q1 b1' (by omega) (by omega) h2 n3 q2 n1 h3 hsh⟩

/-- The next row, divided. -/
def divF (a b : Nat) (ss hs row : List Nat) (c : Nat) : List Nat := (nextF a b ss hs row c).map fun x => fop .quo .f32 x (letF b hs row c a)

theorem divF_ok {a b : Nat} {fs ss hs : List Nat} (m : Model a b fs ss hs) (mn : ModelN a b fs ss hs) {row : List Nat} (hr : ShareRow a row) {c : Nat} (hc : c < b) (h0 : letF b hs row c a ≠ 0) : ShareRow a (divF a b ss hs row c) := by
  have hn2 := m.n2
  have hl := nextF_len a b ss hs row c
  refine ⟨by unfold divF; rw [List.length_map, hl], fun j hj => ?_⟩
  have e : (divF a b ss hs row c).getD j 0 = fop .quo .f32 (cellF a b ss hs row c j a) (letF b hs row c a) := by
    unfold divF
    rw [List.getD_eq_getElem?_getD, List.getElem?_map, List.getElem?_eq_getElem (by omega)]
    show fop .quo .f32 (nextF a b ss hs row c)[j] _ = _
    rw [← nextF_get (a := a) (b := b) (ss := ss) (hs := hs) (row := row) (c := c) hj, List.getD_eq_getElem?_getD, List.getElem?_eq_getElem (by omega)]
    rfl
  rw [e]
  obtain ⟨h1, h2, h3⟩ := cellF_le m mn hr hc hj a (Nat.le_refl _)
  obtain ⟨q1, q2⟩ := letF_ok m mn hr hc a (Nat.le_refl _)
  have := quo_share h1 q1 (by omega) (by omega) h2 q2 h3 h0
  generalize fop .quo .f32 (cellF a b ss hs row c j a) (letF b hs row c a) = x at *
  exact ⟨by unfold bd; omega, by unfold nn; omega⟩

theorem gt_ne {x : Nat} (h : fgt .f32 x 0 = true) : x ≠ 0 := by
  rintro rfl
  revert h
  decide

/-- A loop that changes each in its place. -/
theorem loop_map {f : Int × List Nat → Option ((Int × List Nat) ⊕ List Nat)} (xs : List Nat) (h : Nat → Nat)
    (hstep : ∀ (i : Nat) (out : List Nat), i < xs.length → out.length = xs.length → out.getD i 0 = xs.getD i 0 → f ((i : Int), out) = some (.inl (((i + 1 : Nat) : Int), out.set i (h (xs.getD i 0)))))
    (hend : ∀ out : List Nat, out.length = xs.length → f (((xs.length : Nat) : Int), out) = some (.inr out)) : rounds f ((0 : Int), xs) = some (xs.map h) := by
  have := rounds_forS (f := f) (fun i out => (((i : Nat) : Int), out)) (fun i out => out.set i (h (xs.getD i 0))) id (n := xs.length) (fun i out => out = (xs.take i).map h ++ xs.drop i)
    (fun i out hi ho => ⟨hstep i out hi (by rw [ho]; simp; omega) (by
      rw [ho]
      simp only [List.getD_eq_getElem?_getD]
      rw [List.getElem?_append_right (by simp; omega)]
      simp only [List.length_map, List.length_take, List.getElem?_drop]
      rw [show i + (i - min i xs.length) = i by omega]), by
      rw [ho, take_snoc hi 0, drop_cons hi 0, set_at (by simp; omega)]
      simp⟩)
    (fun out ho => hend out (by rw [ho]; simp)) xs.length 0 xs (by omega) (by simp)
  simp only [Int.natCast_zero] at this
  rw [this.1, show id (forS _ xs.length 0 xs) = forS _ xs.length 0 xs from rfl, this.2]
  simp

/-- The logarithm. -/
noncomputable def logV (s : Nat) : Nat := (spec_l01Log s).getD 0

theorem specLog {s K : Nat} (hs : bd s K) (h2 : 2 ≤ K) (h3 : K ≤ 254) (hp : fgt .f32 s 0 = true) : spec_l01Log s = some (logV s) := by
  obtain ⟨y, h1, _⟩ := logSame hs h2 h3 hp
  unfold logV
  rw [h1]; rfl

theorem implLog {s K : Nat} (hs : bd s K) (h2 : 2 ≤ K) (h3 : K ≤ 254) (hp : fgt .f32 s 0 = true) : impl_LogNumber s = some (logV s) := by
  obtain ⟨y, h1, h4⟩ := logSame hs h2 h3 hp
  unfold logV
  rw [h1, h4]; rfl

theorem specNum (x : Nat) : spec_l02Number x = some (bif fin x then (x, true) else (0, false)) := by
  unfold spec_l02Number spec_l01Finite
  show (bif !(fin x) then _ else _) = _
  cases fin x <;> rfl

theorem implNum (x : Nat) : impl_finite x = some (bif fin x then (x, true) else (0, false)) := by
  unfold impl_finite impl_IsFinite
  show (bif !(fin x) then _ else _) = _
  cases fin x <;> rfl

/-- One letter of the logarithm's way. -/
noncomputable def logStep (a b : Nat) (ss hs : List Nat) (w : List Int) (i : Nat) (s : List Nat × Nat) : (List Nat × Nat) ⊕ (Nat ⊕ Unit) :=
  bif fgt .f32 (letF b hs s.1 (w.getD i 0).toNat a) 0 then .inl (divF a b ss hs s.1 (w.getD i 0).toNat, fop .add .f32 s.2 (logV (letF b hs s.1 (w.getD i 0).toNat a))) else .inr (.inr ())

theorem LogChanceOf_same {n k : Int} {fs ss hs : List Nat} {w : List Int} (g4 : w.length ≤ 4294967296) :
    ∃ r, spec_LogChanceOf (n, k, fs, ss, hs) w = some r ∧ impl_LogChanceOf (n, k, fs, ss, hs) w = some r := by
  unfold spec_LogChanceOf impl_LogChanceOf
  simp only [specMWord (w := w) g4, implMWord (w := w) g4, Option.bind_some]
  cases h1 : okMWord n k fs ss hs w with
  | false => exact ⟨_, rfl, rfl⟩
  | true =>
    obtain ⟨a, b, rfl, rfl, m, hwl, hw⟩ := mword_of h1
    have mn : ModelN a b fs ss hs := modelN_of (by unfold okMWord at h1; rw [Bool.and_eq_true] at h1; exact h1.1) m
    have hn2 := m.n2
    have hk2 := m.k2
    have hlh := m.lh
    have hlf := m.lf
    have hcl : slices_Clone fs = some fs := by
      unfold slices_Clone
      rw [guard_pos (by simp only [appMax]; omega)]
    have inv : ∀ i (s : List Nat × Nat), i < w.length → ShareRow a s.1 → ∀ s', logStep a b ss hs w i s = .inl s' → ShareRow a s'.1 := by
      intro i s hi hs' s' hg
      obtain ⟨c, hc, hc2⟩ := hw i hi
      unfold logStep at hg
      rw [hc, Int.toNat_natCast] at hg
      cases hd : fgt .f32 (letF b hs s.1 c a) 0 with
      | false => rw [hd] at hg; cases hg
      | true =>
        rw [hd] at hg
        simp only [cond_true] at hg
        injection hg with hg
        rw [← hg]
        exact divF_ok m mn hs' hc2 (gt_ne hd)
    have s1 := rounds_for (f := spec_LogChanceOf_B3 ((a : Int), (b : Int), fs, ss, hs) w) (fun i (s : List Nat × Nat) => (s.1, s.2, ((i : Nat) : Int))) (logStep a b ss hs w) (fun s => .inl s.2) (n := w.length) (fun _ s => ShareRow a s.1)
      (fun i s hi hr => ⟨by
        obtain ⟨c, hc, hc2⟩ := hw i hi
        have hsum := rounds_forS (f := spec_LogChanceOf_B2 ((a : Int), (b : Int), fs, ss, hs) w (s.1, s.2, ((i : Nat) : Int))) (fun p z => (z, ((p : Nat) : Int))) (fun p z => fop .add .f32 z (fop .mul .f32 (s.1.getD p 0) (hs.getD (p * b + c) 0))) id (n := a) (fun p z => z = letF b hs s.1 c p)
          (fun p z hp hz => ⟨by
            obtain ⟨e1, e2⟩ := cellM (a := a) (b := b) (by omega) (by omega) hp hc2
            have j1 := idxN (i := p) (n := s.1.length) (by rw [hr.1]; exact hp)
            have j2 := idxN (i := p * b + c) (n := hs.length) (by omega)
            unfold spec_LogChanceOf_B2
            simp only [ltN hp, cond_true, Int.toNat_natCast, nextN hp (show a ≤ 4294967296 by omega), hc, e1]
            rw [guard_pos j1, guard_pos (idxN hi), guard_pos j2], by rw [hz]; rfl⟩)
          (fun z _ => by
            unfold spec_LogChanceOf_B2
            simp only [geN (Nat.le_refl _), cond_false]; rfl) a 0 0 (by omega) rfl
        simp only [Int.natCast_zero] at hsum
        obtain ⟨q1, q2⟩ := letF_ok m mn hr hc2 a (Nat.le_refl _)
        unfold spec_LogChanceOf_B3 logStep
        simp only [ltN hi, cond_true, Int.toNat_natCast, hsum.1, id, Option.bind_some, hsum.2, hc, nextN hi (show w.length ≤ 4294967296 by omega)]
        cases hd : fgt .f32 (letF b hs s.1 c a) 0 with
        | false => rfl
        | true =>
          have hdiv := loop_map (f := spec_LogChanceOf_B1 (letF b hs s.1 c a) (nextF a b ss hs s.1 c)) (nextF a b ss hs s.1 c) (fun x => fop .quo .f32 x (letF b hs s.1 c a))
            (fun j out hj ho hoj => by
              have j1 := idxN (i := j) (n := out.length) (by omega)
              unfold spec_LogChanceOf_B1
              simp only [ltN hj, cond_true, Int.toNat_natCast, nextN hj (show (nextF a b ss hs s.1 c).length ≤ 4294967296 by rw [nextF_len]; omega), hoj]
              rw [guard_pos j1])
            (fun out _ => by
              unfold spec_LogChanceOf_B1
              simp only [geN (Nat.le_refl _), cond_false])
          simp only [Bool.not_true, cond_false, cond_true, guard_pos (idxN hi), specNext m hc2 hr.1, Option.bind_some, hdiv, specLog q1 (by omega) (by omega) hd]
          rfl, inv i s hi hr⟩)
      (fun s _ => by
        unfold spec_LogChanceOf_B3
        simp only [geN (Nat.le_refl _), cond_false]) w.length 0 (fs, 0) (by omega) ⟨hlf, fun i hi => ⟨m.sf i hi, mn.sf i hi⟩⟩
    have s2 := rounds_for (f := impl_LogChanceOf_B3 ((a : Int), (b : Int), fs, ss, hs) w) (fun i (s : List Nat × Nat) => (s.2, ((i : Nat) : Int), s.1)) (logStep a b ss hs w) (fun s => .inl s.2) (n := w.length) (fun _ s => ShareRow a s.1)
      (fun i s hi hr => ⟨by
        obtain ⟨c, hc, hc2⟩ := hw i hi
        have hsum := rounds_forS (f := impl_LogChanceOf_B2 ((a : Int), (b : Int), fs, ss, hs) w (s.2, ((i : Nat) : Int), s.1)) (fun p z => (z, ((p : Nat) : Int))) (fun p z => fop .add .f32 z (fop .mul .f32 (s.1.getD p 0) (hs.getD (p * b + c) 0))) id (n := a) (fun p z => z = letF b hs s.1 c p)
          (fun p z hp hz => ⟨by
            obtain ⟨e1, e2⟩ := cellM (a := a) (b := b) (by omega) (by omega) hp hc2
            have hL : lenI s.1 = (a : Int) := by unfold lenI; rw [hr.1]
            have j2 := idxN (i := p * b + c) (n := hs.length) (by omega)
            unfold impl_LogChanceOf_B2 impl_Model_show
            simp only [hL, ltN hp, cond_true, Int.toNat_natCast, nextN hp (show a ≤ 4294967296 by omega), hc, e1]
            rw [guard_pos (idxN hp), guard_pos j2]
            rfl, by rw [hz]; rfl⟩)
          (fun z _ => by
            have hL : lenI s.1 = (a : Int) := by unfold lenI; rw [hr.1]
            unfold impl_LogChanceOf_B2
            simp only [hL, geN (Nat.le_refl _), cond_false]; rfl) a 0 0 (by omega) rfl
        simp only [Int.natCast_zero] at hsum
        obtain ⟨q1, q2⟩ := letF_ok m mn hr hc2 a (Nat.le_refl _)
        unfold impl_LogChanceOf_B3 logStep
        simp only [ltN hi, cond_true, Int.toNat_natCast, guard_pos (idxN hi), hsum.1, id, Option.bind_some, hsum.2, hc, nextN hi (show w.length ≤ 4294967296 by omega)]
        cases hd : fgt .f32 (letF b hs s.1 c a) 0 with
        | false => rfl
        | true =>
          have hdiv := loop_map (f := impl_LogChanceOf_B1 (letF b hs s.1 c a) (nextF a b ss hs s.1 c)) (nextF a b ss hs s.1 c) (fun x => fop .quo .f32 x (letF b hs s.1 c a))
            (fun j out hj ho hoj => by
              have j1 := idxN (i := j) (n := out.length) (by omega)
              unfold impl_LogChanceOf_B1
              simp only [ltN hj, cond_true, Int.toNat_natCast, nextN hj (show (nextF a b ss hs s.1 c).length ≤ 4294967296 by rw [nextF_len]; omega), hoj]
              rw [guard_pos j1])
            (fun out _ => by
              unfold impl_LogChanceOf_B1
              simp only [geN (Nat.le_refl _), cond_false])
          simp only [Bool.not_true, cond_false, cond_true, implNext m hc2 hr.1, Option.bind_some, hdiv, implLog q1 (by omega) (by omega) hd]
          rfl, inv i s hi hr⟩)
      (fun s _ => by
        unfold impl_LogChanceOf_B3
        simp only [geN (Nat.le_refl _), cond_false]) w.length 0 (fs, 0) (by omega) ⟨hlf, fun i hi => ⟨m.sf i hi, mn.sf i hi⟩⟩
    simp only [Int.natCast_zero] at s1 s2
    simp only [Bool.not_true, cond_false, hcl, Option.bind_some, s1, s2]
    generalize forN (logStep a b ss hs w) (fun s => Sum.inl s.2) w.length 0 (fs, 0) = z
    cases z with
    | inl x => simp only [specNum, implNum, Option.bind_some]; exact ⟨_, rfl, rfl⟩
    | inr u => exact ⟨_, rfl, rfl⟩

theorem LogChanceOf_eq {x0_0 x0_1 : Int} {x0_2 x0_3 x0_4 : List Nat} {x1_0 : List Int} (g1 : x0_2.length ≤ 1048576) (g2 : x0_3.length ≤ 1048576) (g3 : x0_4.length ≤ 1048576) (g4 : x1_0.length ≤ 1048576) :
    ∃ r, spec_LogChanceOf (x0_0, x0_1, x0_2, x0_3, x0_4) x1_0 = some r ∧ impl_LogChanceOf (x0_0, x0_1, x0_2, x0_3, x0_4) x1_0 = some r := LogChanceOf_same (by omega)

/-- One word of the bits that are more. -/
noncomputable def bitStep (c d : Nat → Nat) (i : Nat) (s : Nat) : Nat ⊕ (Nat ⊕ Unit) :=
  bif fgt .f32 (c i) 0 then (bif fgt .f32 (d i) 0 then .inl (fop .add .f32 s (fop .quo .f32 (fop .mul .f32 (c i) (fop .sub .f32 (logV (c i)) (logV (d i)))) 1060205080)) else .inr (.inr ())) else .inl s

end Go.Proofs


/-
  Words for a model; LikeOf.
-/
namespace Go.Proofs
open Go.Ide Go.IntWalk

/-- Some words for a model. -/
def okMWords (n k : Int) (fs ss hs : List Nat) (ws : List (List Int)) : Bool :=
  okModel n k fs ss hs && ((decide (lenI ws ≥ 1) && decide (lenI ws ≤ 16)) && allN (fun i => allIn (ws.getD i []) 0 (wsub .i64 k 1) && decide (lenI (ws.getD i []) ≤ 12)) ws.length 0)

theorem specMWords {n k : Int} {fs ss hs : List Nat} {ws : List (List Int)} (h : ws.length ≤ 4294967296) (hh : ∀ y ∈ ws, y.length ≤ 4294967296) : spec_l03Words (n, k, fs, ss, hs) ws = some (okMWords n k fs ss hs ws) := by
  have := rounds_all (f := spec_l03Words_B1 (n, k, fs, ss, hs) ws) (fun i => ((i : Nat) : Int)) (fun i => allIn (ws.getD i []) 0 (wsub .i64 k 1) && decide (lenI (ws.getD i []) ≤ 12)) (Sum.inl ()) (Sum.inr ()) (n := ws.length) (fun i hi => by
    unfold spec_l03Words_B1
    simp only [ltN hi, cond_true, guard_pos (idxN hi), Int.toNat_natCast, word64 (hh _ (mem_getD hi [])), Option.bind_some, nextN hi h]
    cases (allIn (ws.getD i []) 0 (wsub .i64 k 1) && decide (lenI (ws.getD i []) ≤ 12)) <;> rfl) (by
    unfold spec_l03Words_B1
    simp only [geN (Nat.le_refl _), cond_false]) ws.length 0 (by omega)
  simp only [Int.natCast_zero] at this
  unfold spec_l03Words okMWords
  simp only [specModel, Option.bind_some]
  cases okModel n k fs ss hs with
  | false => rfl
  | true =>
    simp only [Bool.not_true, cond_false, Bool.true_and]
    by_cases h1 : lenI ws < 1
    · rw [decide_eq_true h1, decide_eq_false (show ¬ lenI ws ≥ 1 by omega)]; rfl
    · rw [decide_eq_false h1, decide_eq_true (show lenI ws ≥ 1 by omega)]
      simp only [cond_false, Option.bind_some, Bool.true_and]
      by_cases h2 : lenI ws > 16
      · rw [decide_eq_true h2, decide_eq_false (show ¬ lenI ws ≤ 16 by omega)]; rfl
      · rw [decide_eq_false h2, decide_eq_true (show lenI ws ≤ 16 by omega), this]
        cases allN (fun i => allIn (ws.getD i []) 0 (wsub .i64 k 1) && decide (lenI (ws.getD i []) ≤ 12)) ws.length 0 <;> rfl

theorem implMWords {n k : Int} {fs ss hs : List Nat} {ws : List (List Int)} (h : ws.length ≤ 4294967296) (hh : ∀ y ∈ ws, y.length ≤ 4294967296) : impl_Model_haveWords (n, k, fs, ss, hs) ws = some (okMWords n k fs ss hs ws) := by
  unfold impl_Model_haveWords okMWords
  simp only [implModel, Option.bind_some]
  cases hm : okModel n k fs ss hs with
  | false => rfl
  | true =>
    obtain ⟨a, b, rfl, rfl, m⟩ := model_of hm
    have h1 := m.k1
    have h2 := m.k2
    have := rounds_all (f := impl_areWords_B1 ws (b : Int)) (fun i => ((i : Nat) : Int)) (fun i => allIn (ws.getD i []) 0 (wsub .i64 (b : Int) 1) && decide (lenI (ws.getD i []) ≤ 12)) (Sum.inl ()) (Sum.inr ()) (n := ws.length) (fun i hi => by
      unfold impl_areWords_B1
      simp only [ltN hi, cond_true, guard_pos (idxN hi), Int.toNat_natCast, isWord64 (hh _ (mem_getD hi [])), Option.bind_some, nextN hi h, decide_eq_true (show (b : Int) ≥ 1 by omega), decide_eq_true (show (b : Int) ≤ 4 by omega)]
      cases allIn (ws.getD i []) 0 (wsub .i64 (b : Int) 1) <;> cases decide (lenI (ws.getD i []) ≤ 12) <;> rfl) (by
      unfold impl_areWords_B1
      simp only [geN (Nat.le_refl _), cond_false]) ws.length 0 (by omega)
    simp only [Int.natCast_zero] at this
    unfold impl_areWords
    cases decide (lenI ws ≥ 1) with
    | false => rfl
    | true =>
      cases decide (lenI ws ≤ 16) with
      | false => rfl
      | true =>
        simp only [cond_true, this, Option.bind_some, Bool.true_and]
        cases allN (fun i => allIn (ws.getD i []) 0 (wsub .i64 (b : Int) 1) && decide (lenI (ws.getD i []) ≤ 12)) ws.length 0 <;> rfl

theorem mwords_of {n k : Int} {fs ss hs : List Nat} {ws : List (List Int)} (h : okMWords n k fs ss hs ws = true) : ∃ a b : Nat, n = (a : Int) ∧ k = (b : Int) ∧ Model a b fs ss hs ∧ ModelN a b fs ss hs ∧ 1 ≤ ws.length ∧ ws.length ≤ 16 ∧ ∀ i, i < ws.length → (ws.getD i []).length ≤ 12 ∧ Letters b (ws.getD i []) := by
  unfold okMWords at h
  simp only [Bool.and_eq_true, decide_eq_true_eq] at h
  obtain ⟨h1, ⟨h2, h3⟩, h4⟩ := h
  obtain ⟨a, b, rfl, rfl, m⟩ := model_of h1
  have := m.k1
  have := m.k2
  simp only [lenI] at h2 h3
  refine ⟨a, b, rfl, rfl, m, modelN_of h1 m, by omega, by omega, fun i hi => ?_⟩
  have h5 := allN_iff.1 h4 i (by omega) (by omega)
  simp only [Bool.and_eq_true, decide_eq_true_eq, lenI] at h5
  rw [wsubI (by omega)] at h5
  refine ⟨by omega, fun j hj => ?_⟩
  have := allIn_iff.1 h5.1 j hj
  exact ⟨((ws.getD i []).getD j 0).toNat, by omega, by omega⟩

/-- What LogChanceOf gives. -/
noncomputable def lcV (n k : Int) (fs ss hs : List Nat) (w : List Int) : Nat × Bool := (spec_LogChanceOf (n, k, fs, ss, hs) w).getD (0, false)

theorem lcV_spec {n k : Int} {fs ss hs : List Nat} {w : List Int} (h : w.length ≤ 4294967296) : spec_LogChanceOf (n, k, fs, ss, hs) w = some (lcV n k fs ss hs w) := by
  obtain ⟨r, h1, _⟩ := LogChanceOf_same (n := n) (k := k) (fs := fs) (ss := ss) (hs := hs) h
  unfold lcV
  rw [h1]; rfl

theorem lcV_impl {n k : Int} {fs ss hs : List Nat} {w : List Int} (h : w.length ≤ 4294967296) : impl_LogChanceOf (n, k, fs, ss, hs) w = some (lcV n k fs ss hs w) := by
  obtain ⟨r, h1, h2⟩ := LogChanceOf_same (n := n) (k := k) (fs := fs) (ss := ss) (hs := hs) h
  unfold lcV
  rw [h1, h2]; rfl

noncomputable def likeStep (n k : Int) (fs ss hs : List Nat) (ws : List (List Int)) (i : Nat) (out : List Nat) : List Nat ⊕ (List Nat ⊕ Unit) :=
  bif (lcV n k fs ss hs (ws.getD i [])).2 then .inl (out ++ [(lcV n k fs ss hs (ws.getD i [])).1]) else .inr (.inr ())

/-- The logarithms of all words. -/
noncomputable def likeV (n k : Int) (fs ss hs : List Nat) (ws : List (List Int)) : List Nat ⊕ Unit := forN (likeStep n k fs ss hs ws) (fun out => .inl out) ws.length 0 []

theorem forN_len {α ρ : Type} (g : Nat → List α → List α ⊕ (List α ⊕ ρ)) (h : ∀ i s s', g i s = .inl s' → s'.length = s.length + 1) (h2 : ∀ i s r, g i s = .inr (.inl r) → False) : ∀ (k i : Nat) (s : List α) (r : List α), forN g (fun out => .inl out) k i s = .inl r → r.length = s.length + k
  | 0, i, s, r, he => by
    simp only [forN] at he
    injection he with he
    rw [← he]; rfl
  | k + 1, i, s, r, he => by
    simp only [forN] at he
    cases hg : g i s with
    | inl s' =>
      rw [hg] at he
      simp only at he
      rw [forN_len g h h2 k (i + 1) s' r he, h i s s' hg]
      omega
    | inr q =>
      rw [hg] at he
      simp only at he
      subst he
      exact (h2 i s r hg).elim

theorem likeV_len {n k : Int} {fs ss hs : List Nat} {ws : List (List Int)} {r : List Nat} (h : likeV n k fs ss hs ws = .inl r) : r.length = ws.length := by
  have := forN_len (likeStep n k fs ss hs ws) (fun i s s' hg => by
    unfold likeStep at hg
    cases hc : (lcV n k fs ss hs (ws.getD i [])).2 with
    | false => rw [hc] at hg; cases hg
    | true => rw [hc] at hg; simp only [cond_true] at hg; injection hg with hg; rw [← hg]; simp) (fun i s r hg => by
    unfold likeStep at hg
    cases hc : (lcV n k fs ss hs (ws.getD i [])).2 with
    | false => rw [hc] at hg; simp only [cond_false] at hg; injection hg with hg; cases hg
    | true => rw [hc] at hg; simp only [cond_true] at hg; cases hg) ws.length 0 [] r h
  simpa using this

theorem specLikes {n k : Int} {fs ss hs : List Nat} {ws : List (List Int)} (h : ws.length ≤ 1048576) (hh : ∀ y ∈ ws, y.length ≤ 4294967296) : spec_l03Likes (n, k, fs, ss, hs) ws = some (match likeV n k fs ss hs ws with | .inl r => (r, true) | .inr _ => ([], false)) := by
  have := rounds_for (f := spec_l03Likes_B1 (n, k, fs, ss, hs) ws) (fun i (out : List Nat) => (((i : Nat) : Int), out)) (likeStep n k fs ss hs ws) (fun out => .inl out) (n := ws.length) (fun i out => out.length ≤ i)
    (fun i out hi ho => ⟨by
      unfold spec_l03Likes_B1 likeStep
      simp only [ltN hi, cond_true, guard_pos (idxN hi), Int.toNat_natCast, lcV_spec (hh _ (mem_getD hi [])), Option.bind_some, nextN hi (show ws.length ≤ 4294967296 by omega)]
      rw [guard_pos (by simp only [List.length_singleton, appMax]; omega)]
      cases (lcV n k fs ss hs (ws.getD i [])).2 <;> rfl, fun s' hg => by
      unfold likeStep at hg
      cases hc : (lcV n k fs ss hs (ws.getD i [])).2 with
      | false => rw [hc] at hg; cases hg
      | true => rw [hc] at hg; simp only [cond_true] at hg; injection hg with hg; rw [← hg]; simp; omega⟩)
    (fun out _ => by
      unfold spec_l03Likes_B1
      simp only [geN (Nat.le_refl _), cond_false]) ws.length 0 [] (by omega) (by simp)
  simp only [Int.natCast_zero] at this
  unfold spec_l03Likes
  rw [this]
  show Option.bind (some (likeV n k fs ss hs ws)) _ = _
  cases likeV n k fs ss hs ws <;> rfl

theorem implLikes {n k : Int} {fs ss hs : List Nat} {ws : List (List Int)} (h : ws.length ≤ 1048576) (hh : ∀ y ∈ ws, y.length ≤ 4294967296) : impl_likes (n, k, fs, ss, hs) ws = some (bif okMWords n k fs ss hs ws then (match likeV n k fs ss hs ws with | .inl r => (r, true) | .inr _ => ([], false)) else ([], false)) := by
  have := rounds_for (f := impl_likes_B1 (n, k, fs, ss, hs) ws) (fun i (out : List Nat) => (((i : Nat) : Int), out)) (likeStep n k fs ss hs ws) (fun out => .inl out) (n := ws.length) (fun i out => out.length ≤ i)
    (fun i out hi ho => ⟨by
      unfold impl_likes_B1 likeStep
      simp only [ltN hi, cond_true, guard_pos (idxN hi), Int.toNat_natCast, lcV_impl (hh _ (mem_getD hi [])), Option.bind_some, nextN hi (show ws.length ≤ 4294967296 by omega)]
      rw [guard_pos (by simp only [List.length_singleton, appMax]; omega)]
      cases (lcV n k fs ss hs (ws.getD i [])).2 <;> rfl, fun s' hg => by
      unfold likeStep at hg
      cases hc : (lcV n k fs ss hs (ws.getD i [])).2 with
      | false => rw [hc] at hg; cases hg
      | true => rw [hc] at hg; simp only [cond_true] at hg; injection hg with hg; rw [← hg]; simp; omega⟩)
    (fun out _ => by
      unfold impl_likes_B1
      simp only [geN (Nat.le_refl _), cond_false]) ws.length 0 [] (by omega) (by simp)
  simp only [Int.natCast_zero] at this
  unfold impl_likes
  simp only [implMWords (ws := ws) (by omega) hh, Option.bind_some]
  cases okMWords n k fs ss hs ws with
  | false => rfl
  | true =>
    simp only [Bool.not_true, cond_false, cond_true]
    rw [this]
    show Option.bind (some (likeV n k fs ss hs ws)) _ = _
    cases likeV n k fs ss hs ws <;> rfl

end Go.Proofs


/-
  LikesShared.
-/
namespace Go.Proofs
open Go.Ide Go.IntWalk

theorem LikesShared_eq {x0_0 x0_1 : Int} {x0_2 x0_3 x0_4 : List Nat} {x1_0 : List (List Int)} {x2_0 : Int} (g1 : x0_2.length ≤ 1048576) (g2 : x0_3.length ≤ 1048576) (g3 : x0_4.length ≤ 1048576) (g4 : x1_0.length ≤ 1048576 ∧ ∀ y ∈ x1_0, y.length ≤ 1048576) :
    ∃ r, spec_LikesShared (x0_0, x0_1, x0_2, x0_3, x0_4) x1_0 x2_0 = some r ∧ impl_LikesShared (x0_0, x0_1, x0_2, x0_3, x0_4) x1_0 x2_0 = some r ∧ r.1.length ≤ 1000000 := by
  have hh : ∀ y ∈ x1_0, y.length ≤ 4294967296 := fun y hy => by have := g4.2 y hy; omega
  have hl := g4.1
  unfold spec_LikesShared impl_LikesShared
  simp only [specMWords (ws := x1_0) (by omega) hh, specLikes hl hh, implLikes hl hh, in64, within64, Option.bind_some]
  cases hw : okMWords x0_0 x0_1 x0_2 x0_3 x0_4 x1_0 with
  | false =>
    cases (decide (x2_0 ≥ 1) && decide (x2_0 ≤ 8)) <;> exact ⟨_, rfl, rfl, by simp⟩
  | true =>
    cases (decide (x2_0 ≥ 1) && decide (x2_0 ≤ 8)) with
    | false => exact ⟨_, rfl, rfl, by simp⟩
    | true =>
      simp only [Bool.not_true, cond_false, cond_true, Option.bind_some]
      cases hv : likeV x0_0 x0_1 x0_2 x0_3 x0_4 x1_0 with
      | inr u => exact ⟨_, rfl, rfl, by simp⟩
      | inl r =>
        obtain ⟨a, b, rfl, rfl, m, _, _, h16, _⟩ := mwords_of hw
        have hrl := likeV_len hv
        exact ⟨_, rfl, rfl, by simp only; omega⟩

end Go.Proofs

namespace Go.Proofs
open Go.Ide Go.IntWalk

theorem LikesShared_law (x0 : Int × Int × List Nat × List Nat × List Nat) (x1 : List (List Int)) (x2 : Int) (w0 : WfD (.st (.pair tI (.pair tI (.pair tLF (.pair tLF tLF))))) x0) (w1 : WfD (.sl tLI) x1) (w2 : WfD tI x2) : laws_FnExactLikesShared x0 x1 x2 = some true := by
  obtain ⟨x0_0, ⟨x0_1, ⟨x0_2, ⟨x0_3, x0_4⟩⟩⟩⟩ := x0
  have hx0_2 : x0_2.length ≤ 9223372036854775807 := Nat.le_trans (w0.2.2.1.1) (by decide)
  have hx0_3 : x0_3.length ≤ 9223372036854775807 := Nat.le_trans (w0.2.2.2.1.1) (by decide)
  have hx0_4 : x0_4.length ≤ 9223372036854775807 := Nat.le_trans (w0.2.2.2.2.1) (by decide)
  obtain ⟨x1_0, rfl⟩ : ∃ y, y = x1 := ⟨_, rfl⟩
  have hx1_0 : (x1_0.length ≤ 9223372036854775807 ∧ ∀ y ∈ x1_0, y.length ≤ 9223372036854775807) := ⟨Nat.le_trans (w1.1) (by decide), fun y hy => by
    have w := wf_mem (t := tLI) w1.2 hy
    exact Nat.le_trans (w.1) (by decide)⟩
  obtain ⟨x2_0, rfl⟩ : ∃ y, y = x2 := ⟨_, rfl⟩
  unfold laws_FnExactLikesShared
  obtain ⟨m1, a1, b1⟩ := szModel_ok (n := 1048576) (x0 := x0_0) (x1 := x0_1) (x2 := x0_2) (x3 := x0_3) (x4 := x0_4) hx0_2 hx0_3 hx0_4 (by omega)
  simp only [a1, Option.bind_some]
  by_cases c1 : m1 < 0
  · simp only [c1, decide_true, cond_true]
  · obtain ⟨⟨ox0_2, ox0_3, ox0_4⟩, d1, f1⟩ := b1.resolve_left c1
    simp only [c1, decide_false, cond_false]
    obtain ⟨m2, a2, b2⟩ := szInt64SS_ok (n := m1) (xs := x1_0) hx1_0 (by omega)
    simp only [a2, Option.bind_some]
    by_cases c2 : m2 < 0
    · simp only [c2, decide_true, cond_true]
    · obtain ⟨ox1_0, d2, f2⟩ := b2.resolve_left c2
      simp only [c2, decide_false, cond_false]
      obtain ⟨⟨r0_0, r1_0⟩, k1, k2, or0_0⟩ := LikesShared_eq (x0_0 := x0_0) (x0_1 := x0_1) (x0_2 := x0_2) (x0_3 := x0_3) (x0_4 := x0_4) (x1_0 := x1_0) (x2_0 := x2_0) ox0_2 ox0_3 ox0_4 ox1_0
      have or0_0 : r0_0.length ≤ 1000000 := or0_0
      have nx1_0 := markRows_bd (E := fun (k : Int) (x : List Int) => (k + ((1 * x.length : Nat) : Int), marksG (fun k => k) 1 k x.length)) (M := 1048576) (xs := x1_0) (k := (1 : Int) + ((1 * x0_2.length : Nat) : Int) + ((1 * x0_3.length : Nat) : Int) + ((1 * x0_4.length : Nat) : Int)) (fun k x hx => by have := (ox1_0).2 x hx; exact ⟨by omega, by omega⟩)
      have qx1_0 : x1_0.length * 1048576 ≤ 1048576 * 1048576 := Nat.mul_le_mul_right _ (ox1_0).1
      simp only [k1,
      k2,
      Option.bind_some,
      Bool.not_true,
      cond_false,
      bne_self_eq_false,
      cond_true,
      sameFloat_ok,
      toModel_ok (x0 := x0_0) (x1 := x0_1) (x2 := x0_2) (x3 := x0_3) (x4 := x0_4) ox0_2 ox0_3 ox0_4,
      eqModel_ok (x0 := x0_0) (x1 := x0_1) (x2 := x0_2) (x3 := x0_3) (x4 := x0_4) ox0_2 ox0_3 ox0_4,
      markModel_ok (k := (1 : Int)) (x0 := x0_0) (x1 := x0_1) (x2 := x0_2) (x3 := x0_3) (x4 := x0_4) ox0_2 ox0_3 ox0_4 (by omega),
      toInt64SS_ok (xs := x1_0) ox1_0,
      eqInt64SS_ok (xs := x1_0) ox1_0,
      markInt64SS_ok (k := (1 : Int) + ((1 * x0_2.length : Nat) : Int) + ((1 * x0_3.length : Nat) : Int) + ((1 * x0_4.length : Nat) : Int)) (xs := x1_0) ox1_0 (by omega),
      (show decide ((markRows (fun (k : Int) (x : List Int) => (k + ((1 * x.length : Nat) : Int), marksG (fun k => k) 1 k x.length)) ((1 : Int) + ((1 * x0_2.length : Nat) : Int) + ((1 * x0_3.length : Nat) : Int) + ((1 * x0_4.length : Nat) : Int)) x1_0).1 < 0) = false from by simp only [decide_eq_false_iff_not]; omega),
      eqFloat32S_ok (xs := r0_0) (by omega : r0_0.length ≤ 1048576),
      markFloat32S_ok (k := (1 : Int)) (xs := r0_0) (by omega : r0_0.length ≤ 1048576) (by omega),
      heldFloat32S_ok (k := (1 : Int)) (by omega : r0_0.length ≤ 1048576) (by omega),
      (show decide ((1 : Int) + ((1 * r0_0.length : Nat) : Int) < 0) = false from by simp only [decide_eq_false_iff_not]; omega)]

end Go.Proofs
