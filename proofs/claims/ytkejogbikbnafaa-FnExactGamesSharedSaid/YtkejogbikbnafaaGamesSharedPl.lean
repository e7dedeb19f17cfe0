import Derived.Test.YtkejogbikbnafaaGamesSharedGenB
set_option linter.unusedVariables false
set_option linter.unusedSimpArgs false
set_option linter.unusedSectionVars false

namespace Go.Proofs
open Go.Ide Go.IntWalk

theorem szInt64S_ok {xs : List Int} {n : Int} (hx : xs.length ≤ 9223372036854775807) (hn : 0 ≤ n ∧ n ≤ 1048576) : ∃ m, laws_szInt64S xs n = some m ∧ (m < 0 ∨ (xs.length ≤ 1048576 ∧ 0 ≤ m ∧ m ≤ n)) := by
  unfold laws_szInt64S
  have e : wsub .i64 n (lenI xs) = n - (xs.length : Int) := i64_in _ (by simp only [lenI]; omega)
  rw [e]
  by_cases h : n - (xs.length : Int) < 0
  · exact ⟨-1, by simp only [h, decide_true, cond_true], .inl (by omega)⟩
  · exact ⟨_, by simp only [h, decide_false, cond_false]; rfl, .inr ⟨by omega, by omega, by omega⟩⟩

theorem toInt64S_ok {xs : List Int} (h : xs.length ≤ 1048576) : laws_toInt64S xs = some xs := by
  unfold laws_toInt64S
  rw [guard_pos ⟨by simp only [lenI]; omega, by simp only [lenI]; omega⟩]
  have := loop_to (f := laws_toInt64S_B1 xs) xs (0 : Int) (fun i out hi hl => by
    unfold laws_toInt64S_B1
    simp only [ltN hi, cond_true, guard_pos (idxN hi), guard_pos (idxN (i := i) (n := out.length) (by omega)), Int.toNat_natCast, nextN hi (by omega)]) (fun out hl => by
    unfold laws_toInt64S_B1
    simp only [geN (Nat.le_refl _), cond_false])
  simp only [Int.toNat_natCast, this, Option.bind_some]

theorem eqInt64S_ok {xs : List Int} (h : xs.length ≤ 1048576) : laws_eqInt64S xs xs = some true := by
  unfold laws_eqInt64S
  have := loop_eq (f := laws_eqInt64S_B1 xs xs) (Sum.inl ()) xs.length (fun i hi => by
    unfold laws_eqInt64S_B1
    simp only [ltN hi, cond_true, guard_pos (idxN hi), bne_self_eq_false, cond_false, nextN hi (by omega)]) (by
    unfold laws_eqInt64S_B1
    simp only [geN (Nat.le_refl _), cond_false])
  simp only [bne_self_eq_false, cond_false, this, Option.bind_some]

theorem heldInt64S_ok {n : Nat} {k : Int} (h : n ≤ 1048576) (hk : 0 ≤ k ∧ k ≤ 2000000000000) : laws_heldInt64S (marksG (fun k => k) 1 k n) k = some (k + ((1 * n : Nat) : Int)) := by
  unfold laws_heldInt64S
  have := loop_held (f := laws_heldInt64S_B1 (marksG (fun k => k) 1 k n)) 1 k n (fun i hi => by
    unfold laws_heldInt64S_B1
    have e := markN2 (c := 1) (i := i) (k0 := k) (by omega) (by omega) (by omega)
    simp only [Int.cast_ofNat_Int] at e
    simp only [lenI, marksG_len, ltN hi, cond_true, guard_pos (idxN hi), Int.toNat_natCast, nextN hi (by omega), marksG_get hi, bne_self_eq_false, cond_false]
    rw [e]) (by
    unfold laws_heldInt64S_B1
    simp only [lenI, marksG_len, geN (Nat.le_refl _), cond_false])
  simp only [this, Option.bind_some]

theorem szInt64SS_ok {xs : List (List Int)} {n : Int} (hx : (xs.length ≤ 9223372036854775807 ∧ ∀ y ∈ xs, y.length ≤ 9223372036854775807)) (hn : 0 ≤ n ∧ n ≤ 1048576) : ∃ m, laws_szInt64SS xs n = some m ∧ (m < 0 ∨ ((xs.length ≤ 1048576 ∧ ∀ y ∈ xs, y.length ≤ 1048576) ∧ 0 ≤ m ∧ m ≤ n)) := by
  obtain ⟨hx, hh⟩ := hx
  unfold laws_szInt64SS
  have e : wsub .i64 n (lenI xs) = n - (xs.length : Int) := i64_in _ (by simp only [lenI]; omega)
  rw [e]
  by_cases h : n - (xs.length : Int) < 0
  · exact ⟨-1, by simp only [h, decide_true, cond_true], .inl (by omega)⟩
  · rcases loop_sz (f := laws_szInt64SS_B1 xs) (u := ()) xs ([] : List Int) (fun y => y.length ≤ 1048576) (n - (xs.length : Int)) (by omega) (fun i n' hi h1 h2 => by
      have he := hh _ (mem_getD hi ([] : List Int))
      obtain ⟨m, e1, e2⟩ := szInt64S_ok (n := n') he (by omega)
      refine ⟨m, ?_, e2⟩
      unfold laws_szInt64SS_B1
      simp only [ltN hi, cond_true, guard_pos (idxN hi), Int.toNat_natCast, e1, Option.bind_some, nextN hi (by omega)]
      by_cases hm : m < 0
      · simp only [hm, decide_true, cond_true, if_true]
      · simp only [hm, decide_false, cond_false, if_false]) (fun n' => by
      unfold laws_szInt64SS_B1
      simp only [geN (Nat.le_refl _), cond_false]) with ⟨m, e1, e2, e3, e4⟩ | e1
    · exact ⟨m, by simp only [h, decide_false, cond_false, e1, Option.bind_some], .inr ⟨⟨by omega, e4⟩, by omega, by omega⟩⟩
    · exact ⟨-1, by simp only [h, decide_false, cond_false, e1, Option.bind_some], .inl (by omega)⟩

theorem toInt64SS_ok {xs : List (List Int)} (h : (xs.length ≤ 1048576 ∧ ∀ y ∈ xs, y.length ≤ 1048576)) : laws_toInt64SS xs = some xs := by
  obtain ⟨h, hh⟩ := h
  unfold laws_toInt64SS
  rw [guard_pos ⟨by simp only [lenI]; omega, by simp only [lenI]; omega⟩]
  have := loop_to (f := laws_toInt64SS_B1 xs) xs ([] : List Int) (fun i out hi hl => by
    have he := hh _ (mem_getD hi ([] : List Int))
    unfold laws_toInt64SS_B1
    simp only [ltN hi, cond_true, guard_pos (idxN hi), guard_pos (idxN (i := i) (n := out.length) (by omega)), Int.toNat_natCast, nextN hi (by omega), toInt64S_ok he, Option.bind_some]) (fun out hl => by
    unfold laws_toInt64SS_B1
    simp only [geN (Nat.le_refl _), cond_false])
  simp only [Int.toNat_natCast, this, Option.bind_some]

theorem eqInt64SS_ok {xs : List (List Int)} (h : (xs.length ≤ 1048576 ∧ ∀ y ∈ xs, y.length ≤ 1048576)) : laws_eqInt64SS xs xs = some true := by
  obtain ⟨h, hh⟩ := h
  unfold laws_eqInt64SS
  have := loop_eq (f := laws_eqInt64SS_B1 xs xs) (Sum.inl ()) xs.length (fun i hi => by
    have he := hh _ (mem_getD hi ([] : List Int))
    unfold laws_eqInt64SS_B1
    simp only [ltN hi, cond_true, guard_pos (idxN hi), Int.toNat_natCast, eqInt64S_ok he, Option.bind_some, Bool.not_true, cond_false, nextN hi (by omega)]) (by
    unfold laws_eqInt64SS_B1
    simp only [geN (Nat.le_refl _), cond_false])
  simp only [bne_self_eq_false, cond_false, this, Option.bind_some]

theorem heldInt64SS_ok {xs : List (List Int)} {k : Int} (h : (xs.length ≤ 1048576 ∧ ∀ y ∈ xs, y.length ≤ 1048576)) (hk : 0 ≤ k ∧ k ≤ 1000000000) : laws_heldInt64SS (markRows (fun (k : Int) (x : List Int) => (k + ((1 * x.length : Nat) : Int), marksG (fun k => k) 1 k x.length)) k xs).2 k = some (markRows (fun (k : Int) (x : List Int) => (k + ((1 * x.length : Nat) : Int), marksG (fun k => k) 1 k x.length)) k xs).1 := by
  obtain ⟨h, hh⟩ := h
  unfold laws_heldInt64SS
  have := loop_heldE (f := laws_heldInt64SS_B1 (markRows (fun (k : Int) (x : List Int) => (k + ((1 * x.length : Nat) : Int), marksG (fun k => k) 1 k x.length)) k xs).2) (fun (k : Int) (x : List Int) => (k + ((1 * x.length : Nat) : Int), marksG (fun k => k) 1 k x.length)) k xs ([] : List Int) (fun i hi => by
    have hx := hh _ (mem_getD hi ([] : List Int))
    have hb := markRows_bd (E := fun (k : Int) (x : List Int) => (k + ((1 * x.length : Nat) : Int), marksG (fun k => k) 1 k x.length)) (M := 1048576) (xs := xs.take i) (k := k) (fun k x hx => by have := hh x (List.mem_of_mem_take hx); exact ⟨by omega, by omega⟩)
    have h3 : (xs.take i).length * 1048576 ≤ 1048576 * 1048576 := Nat.mul_le_mul_right _ (by rw [List.length_take]; omega)
    have hn := heldInt64S_ok (n := (List.getD xs i ([] : List Int)).length) (k := (markRows (fun (k : Int) (x : List Int) => (k + ((1 * x.length : Nat) : Int), marksG (fun k => k) 1 k x.length)) k (xs.take i)).1) hx (by omega)
    have hg : decide ((markRows (fun (k : Int) (x : List Int) => (k + ((1 * x.length : Nat) : Int), marksG (fun k => k) 1 k x.length)) k (xs.take i)).1 + ((1 * (List.getD xs i ([] : List Int)).length : Nat) : Int) < 0) = false := by simp only [decide_eq_false_iff_not]; omega
    unfold laws_heldInt64SS_B1
    simp only [lenI, markRows_len, ltN hi, cond_true, guard_pos (idxN hi), Int.toNat_natCast, markRows_at _ ([] : List Int) xs k i hi, hn, hg, Option.bind_some, cond_false, nextN hi (show xs.length ≤ 4294967296 by omega)]) (fun k' => by
    unfold laws_heldInt64SS_B1
    simp only [lenI, markRows_len, geN (Nat.le_refl _), cond_false])
  simp only [this, Option.bind_some]

theorem szGame_ok {x0 : List Int} {x1 : List Int} {x2 : List (List Int)} {n : Int} (hx0 : x0.length ≤ 9223372036854775807) (hx1 : x1.length ≤ 9223372036854775807) (hx2 : (x2.length ≤ 9223372036854775807 ∧ ∀ y ∈ x2, y.length ≤ 9223372036854775807)) (hn : 0 ≤ n ∧ n ≤ 1048576) : ∃ m, laws_szGame (x0, x1, x2) n = some m ∧ (m < 0 ∨ ((x0.length ≤ 1048576 ∧ x1.length ≤ 1048576 ∧ (x2.length ≤ 1048576 ∧ ∀ y ∈ x2, y.length ≤ 1048576)) ∧ 0 ≤ m ∧ m ≤ n)) := by
  unfold laws_szGame
  obtain ⟨m1, h1, k1⟩ := szInt64S_ok (n := n) (xs := x0) hx0 (by omega)
  simp only [h1, Option.bind_some]
  by_cases c1 : m1 < 0
  · simp only [c1, decide_true, cond_true]; exact ⟨-1, rfl, .inl (by omega)⟩
  · obtain ⟨g1, p1, q1⟩ := k1.resolve_left c1
    simp only [c1, decide_false, cond_false]
    obtain ⟨m2, h2, k2⟩ := szInt64S_ok (n := m1) (xs := x1) hx1 (by omega)
    simp only [h2, Option.bind_some]
    by_cases c2 : m2 < 0
    · simp only [c2, decide_true, cond_true]; exact ⟨-1, rfl, .inl (by omega)⟩
    · obtain ⟨g2, p2, q2⟩ := k2.resolve_left c2
      simp only [c2, decide_false, cond_false]
      obtain ⟨m3, h3, k3⟩ := szInt64SS_ok (n := m2) (xs := x2) hx2 (by omega)
      simp only [h3, Option.bind_some]
      by_cases c3 : m3 < 0
      · simp only [c3, decide_true, cond_true]; exact ⟨-1, rfl, .inl (by omega)⟩
      · obtain ⟨g3, p3, q3⟩ := k3.resolve_left c3
        simp only [c3, decide_false, cond_false]
        exact ⟨_, rfl, .inr ⟨⟨g1, g2, g3⟩, by omega, by omega⟩⟩

theorem toGame_ok {x0 : List Int} {x1 : List Int} {x2 : List (List Int)} (hx0 : x0.length ≤ 1048576) (hx1 : x1.length ≤ 1048576) (hx2 : (x2.length ≤ 1048576 ∧ ∀ y ∈ x2, y.length ≤ 1048576)) : laws_toGame (x0, x1, x2) = some (x0, x1, x2) := by
  unfold laws_toGame
  simp only [toInt64S_ok hx0, toInt64S_ok hx1, toInt64SS_ok hx2, Option.bind_some]

theorem eqGame_ok {x0 : List Int} {x1 : List Int} {x2 : List (List Int)} (hx0 : x0.length ≤ 1048576) (hx1 : x1.length ≤ 1048576) (hx2 : (x2.length ≤ 1048576 ∧ ∀ y ∈ x2, y.length ≤ 1048576)) : laws_eqGame (x0, x1, x2) (x0, x1, x2) = some true := by
  unfold laws_eqGame
  simp only [eqInt64S_ok hx0, eqInt64S_ok hx1, eqInt64SS_ok hx2, Option.bind_some, bne_self_eq_false, Bool.not_true, cond_false, decide_true]

theorem szGameS_ok {xs : List (List Int × List Int × List (List Int))} {n : Int} (hx : (xs.length ≤ 9223372036854775807 ∧ ∀ y ∈ xs, y.1.length ≤ 9223372036854775807 ∧ y.2.1.length ≤ 9223372036854775807 ∧ (y.2.2.length ≤ 9223372036854775807 ∧ ∀ y1 ∈ y.2.2, y1.length ≤ 9223372036854775807))) (hn : 0 ≤ n ∧ n ≤ 1048576) : ∃ m, laws_szGameS xs n = some m ∧ (m < 0 ∨ ((xs.length ≤ 1048576 ∧ ∀ y ∈ xs, y.1.length ≤ 1048576 ∧ y.2.1.length ≤ 1048576 ∧ (y.2.2.length ≤ 1048576 ∧ ∀ y1 ∈ y.2.2, y1.length ≤ 1048576)) ∧ 0 ≤ m ∧ m ≤ n)) := by
  obtain ⟨hx, hh⟩ := hx
  unfold laws_szGameS
  have e : wsub .i64 n (lenI xs) = n - (xs.length : Int) := i64_in _ (by simp only [lenI]; omega)
  rw [e]
  by_cases h : n - (xs.length : Int) < 0
  · exact ⟨-1, by simp only [h, decide_true, cond_true], .inl (by omega)⟩
  · rcases loop_sz (f := laws_szGameS_B1 xs) (u := ()) xs (([] : List Int), ([] : List Int), ([] : List (List Int))) (fun y => y.1.length ≤ 1048576 ∧ y.2.1.length ≤ 1048576 ∧ (y.2.2.length ≤ 1048576 ∧ ∀ y1 ∈ y.2.2, y1.length ≤ 1048576)) (n - (xs.length : Int)) (by omega) (fun i n' hi h1 h2 => by
      have he := hh _ (mem_getD hi (([] : List Int), ([] : List Int), ([] : List (List Int))))
      obtain ⟨m, e1, e2⟩ := szGame_ok (n := n') (x0 := ((List.getD xs i (([] : List Int), ([] : List Int), ([] : List (List Int)))).1)) (x1 := (((List.getD xs i (([] : List Int), ([] : List Int), ([] : List (List Int)))).2).1)) (x2 := (((List.getD xs i (([] : List Int), ([] : List Int), ([] : List (List Int)))).2).2)) he.1 he.2.1 he.2.2 (by omega)
      refine ⟨m, ?_, e2⟩
      unfold laws_szGameS_B1
      simp only [ltN hi, cond_true, guard_pos (idxN hi), Int.toNat_natCast, e1, Option.bind_some, nextN hi (by omega)]
      by_cases hm : m < 0
      · simp only [hm, decide_true, cond_true, if_true]
      · simp only [hm, decide_false, cond_false, if_false]) (fun n' => by
      unfold laws_szGameS_B1
      simp only [geN (Nat.le_refl _), cond_false]) with ⟨m, e1, e2, e3, e4⟩ | e1
    · exact ⟨m, by simp only [h, decide_false, cond_false, e1, Option.bind_some], .inr ⟨⟨by omega, e4⟩, by omega, by omega⟩⟩
    · exact ⟨-1, by simp only [h, decide_false, cond_false, e1, Option.bind_some], .inl (by omega)⟩

theorem toGameS_ok {xs : List (List Int × List Int × List (List Int))} (h : (xs.length ≤ 1048576 ∧ ∀ y ∈ xs, y.1.length ≤ 1048576 ∧ y.2.1.length ≤ 1048576 ∧ (y.2.2.length ≤ 1048576 ∧ ∀ y1 ∈ y.2.2, y1.length ≤ 1048576))) : laws_toGameS xs = some xs := by
  obtain ⟨h, hh⟩ := h
  unfold laws_toGameS
  rw [guard_pos ⟨by simp only [lenI]; omega, by simp only [lenI]; omega⟩]
  have := loop_to (f := laws_toGameS_B1 xs) xs (([] : List Int), ([] : List Int), ([] : List (List Int))) (fun i out hi hl => by
    have he := hh _ (mem_getD hi (([] : List Int), ([] : List Int), ([] : List (List Int))))
    unfold laws_toGameS_B1
    simp only [ltN hi, cond_true, guard_pos (idxN hi), guard_pos (idxN (i := i) (n := out.length) (by omega)), Int.toNat_natCast, nextN hi (by omega), toGame_ok (x0 := ((List.getD xs i (([] : List Int), ([] : List Int), ([] : List (List Int)))).1)) (x1 := (((List.getD xs i (([] : List Int), ([] : List Int), ([] : List (List Int)))).2).1)) (x2 := (((List.getD xs i (([] : List Int), ([] : List Int), ([] : List (List Int)))).2).2)) he.1 he.2.1 he.2.2, Option.bind_some]
    try rfl) (fun out hl => by
    unfold laws_toGameS_B1
    simp only [geN (Nat.le_refl _), cond_false])
  simp only [Int.toNat_natCast, this, Option.bind_some]

theorem eqGameS_ok {xs : List (List Int × List Int × List (List Int))} (h : (xs.length ≤ 1048576 ∧ ∀ y ∈ xs, y.1.length ≤ 1048576 ∧ y.2.1.length ≤ 1048576 ∧ (y.2.2.length ≤ 1048576 ∧ ∀ y1 ∈ y.2.2, y1.length ≤ 1048576))) : laws_eqGameS xs xs = some true := by
  obtain ⟨h, hh⟩ := h
  unfold laws_eqGameS
  have := loop_eq (f := laws_eqGameS_B1 xs xs) (Sum.inl ()) xs.length (fun i hi => by
    have he := hh _ (mem_getD hi (([] : List Int), ([] : List Int), ([] : List (List Int))))
    unfold laws_eqGameS_B1
    simp only [ltN hi, cond_true, guard_pos (idxN hi), Int.toNat_natCast, eqGame_ok (x0 := ((List.getD xs i (([] : List Int), ([] : List Int), ([] : List (List Int)))).1)) (x1 := (((List.getD xs i (([] : List Int), ([] : List Int), ([] : List (List Int)))).2).1)) (x2 := (((List.getD xs i (([] : List Int), ([] : List Int), ([] : List (List Int)))).2).2)) he.1 he.2.1 he.2.2, Option.bind_some, Bool.not_true, cond_false, nextN hi (by omega)]) (by
    unfold laws_eqGameS_B1
    simp only [geN (Nat.le_refl _), cond_false])
  simp only [bne_self_eq_false, cond_false, this, Option.bind_some]

-- no lemma for markGameS: mark
end Go.Proofs


namespace Go.Proofs
open Go.Ide Go.IntWalk

theorem in64 (a b c : Int) : spec_l00In a b c = some (decide (a ≥ b) && decide (a ≤ c)) := by
  unfold spec_l00In
  cases h : decide (a ≥ b) <;> simp
theorem within64 (a b c : Int) : impl_within a b c = some (decide (a ≥ b) && decide (a ≤ c)) := by
  unfold impl_within
  cases h : decide (a ≥ b) <;> simp

def allIn (xs : List Int) (b c : Int) : Bool := xs.all fun x => decide (x ≥ b) && decide (x ≤ c)

theorem allIn_iff {xs : List Int} {b c : Int} : allIn xs b c = true ↔ ∀ i, i < xs.length → b ≤ xs.getD i 0 ∧ xs.getD i 0 ≤ c := by
  unfold allIn
  rw [List.all_eq_true]
  constructor
  · intro h i hi
    have := h xs[i] (List.getElem_mem hi)
    simp only [Bool.and_eq_true, decide_eq_true_eq] at this
    rw [List.getD_eq_getElem?_getD, List.getElem?_eq_getElem hi]
    exact ⟨this.1, this.2⟩
  · intro h x hx
    obtain ⟨i, hi, rfl⟩ := List.getElem_of_mem hx
    have := h i hi
    rw [List.getD_eq_getElem?_getD, List.getElem?_eq_getElem hi] at this
    simp only [Bool.and_eq_true, decide_eq_true_eq]
    exact ⟨this.1, this.2⟩

theorem allN_in (xs : List Int) (b c : Int) : allN (fun i => decide (xs.getD i 0 ≥ b) && decide (xs.getD i 0 ≤ c)) xs.length 0 = allIn xs b c := by
  rw [Bool.eq_iff_iff, allN_iff, allIn_iff]
  constructor
  · intro h i hi
    have := h i (by omega) (by omega)
    simp only [Bool.and_eq_true, decide_eq_true_eq] at this
    exact ⟨this.1, this.2⟩
  · intro h i _ hi
    have := h i (by omega)
    simp only [Bool.and_eq_true, decide_eq_true_eq]
    exact ⟨this.1, this.2⟩

theorem areWithin64 {xs : List Int} {b c : Int} (h : xs.length ≤ 4294967296) : impl_areWithin xs b c = some (allIn xs b c) := by
  unfold impl_areWithin
  have := rounds_all (f := impl_areWithin_B1 xs b c) (fun i => ((i : Nat) : Int)) (fun i => decide (xs.getD i 0 ≥ b) && decide (xs.getD i 0 ≤ c)) (Sum.inl ()) (Sum.inr ()) (n := xs.length) (fun i hi => by
    unfold impl_areWithin_B1
    simp only [ltN hi, cond_true, guard_pos (idxN hi), Int.toNat_natCast, within64, Option.bind_some, nextN hi h]
    cases (decide (xs.getD i 0 ≥ b) && decide (xs.getD i 0 ≤ c)) <;> rfl) (by
    unfold impl_areWithin_B1
    simp only [geN (Nat.le_refl _), cond_false]) xs.length 0 (by omega)
  rw [allN_in] at this
  simp only [Int.natCast_zero] at this
  simp only [this, Option.bind_some]
  cases allIn xs b c <;> rfl

structure Plain (m c : Nat) (nx : List Int) (es : List Bool) : Prop where
  m1 : 1 ≤ m
  m2 : m ≤ 64
  c1 : 1 ≤ c
  c2 : c ≤ 4
  len : nx.length = m * c
  ends : es.length = m
  to : ∀ i, i < m * c → ∃ t : Nat, nx.getD i 0 = (t : Int) ∧ t < m

section
variable {m c : Nat} {nx : List Int} {es : List Bool} (hp : Plain m c nx es)
include hp

end

end Go.Proofs


/-
  Sets as bits; valid games.
-/
namespace Go.Proofs
open Go.Ide Go.IntWalk

theorem fdiv_pow (N v : Nat) : Int.fdiv (N : Int) (2 ^ v) = ((N / 2 ^ v : Nat) : Int) := by
  have h : ((2 ^ v : Nat) : Int) = (2 : Int) ^ v := by simp
  rw [← h, Int.fdiv_eq_ediv_of_nonneg _ (Int.natCast_nonneg _), ← Int.natCast_ediv]

theorem bit_val {N v : Nat} (hN : N < 65536) (hv : v < 16) : IntKind.wrap .u32 (((BitVec.ofInt (IntKind.bits .u32) (Int.fdiv (N : Int) (2 ^ (min v (IntKind.bits .u32)))) &&& BitVec.ofInt (IntKind.bits .u32) (1 : Int)).toNat : Nat) : Int) = if N.testBit v then 1 else 0 := by
  have h1 : min v (IntKind.bits .u32) = v := Nat.min_eq_left (by show v ≤ 32; omega)
  have h2 : N / 2 ^ v ≤ N := Nat.div_le_self _ _
  have h3 : (BitVec.ofInt (IntKind.bits .u32) ((N / 2 ^ v : Nat) : Int)).toNat = N / 2 ^ v := by
    rw [BitVec.ofInt_natCast, BitVec.toNat_ofNat]
    exact Nat.mod_eq_of_lt (by show N / 2 ^ v < 2 ^ 32; omega)
  have h4 : (BitVec.ofInt (IntKind.bits .u32) (1 : Int)).toNat = 1 := by decide
  rw [h1, fdiv_pow, BitVec.toNat_and, h3, h4, Nat.and_one_is_mod, Nat.testBit_eq_decide_div_mod_eq]
  have h5 := Nat.mod_two_eq_zero_or_one (N / 2 ^ v)
  rcases h5 with h5 | h5 <;> rw [h5] <;> decide

theorem bit_one {N v : Nat} (hN : N < 65536) (hv : v < 16) : (IntKind.wrap .u32 (((BitVec.ofInt (IntKind.bits .u32) (Int.fdiv (N : Int) (2 ^ (min v (IntKind.bits .u32)))) &&& BitVec.ofInt (IntKind.bits .u32) (1 : Int)).toNat : Nat) : Int) == (1 : Int)) = N.testBit v := by
  rw [bit_val hN hv]; cases N.testBit v <;> rfl

theorem bit_zero {N v : Nat} (hN : N < 65536) (hv : v < 16) : (IntKind.wrap .u32 (((BitVec.ofInt (IntKind.bits .u32) (Int.fdiv (N : Int) (2 ^ (min v (IntKind.bits .u32)))) &&& BitVec.ofInt (IntKind.bits .u32) (1 : Int)).toNat : Nat) : Int) == (0 : Int)) = !(N.testBit v) := by
  rw [bit_val hN hv]; cases N.testBit v <;> rfl

theorem ofInt_bit {N : Nat} (hN : N < 65536) (i : Nat) : (BitVec.ofInt (IntKind.bits .u32) (N : Int)).toNat.testBit i = N.testBit i := by
  rw [BitVec.ofInt_natCast, BitVec.toNat_ofNat, Nat.mod_eq_of_lt (by show N < 2 ^ 32; omega)]

theorem small_of {K : Nat} (h : ∀ i, 16 ≤ i → K.testBit i = false) : K < 65536 := Nat.lt_pow_two_of_testBit (n := 16) K h

theorem big_bit {N i : Nat} (hN : N < 65536) (hi : 16 ≤ i) : N.testBit i = false := Nat.testBit_lt_two_pow (Nat.lt_of_lt_of_le hN (Nat.pow_le_pow_right (n := 2) (by omega) hi))

theorem or_val {N M : Nat} (hN : N < 65536) (hM : M < 65536) : ∃ K : Nat, IntKind.wrap .u32 (((BitVec.ofInt (IntKind.bits .u32) (N : Int) ||| BitVec.ofInt (IntKind.bits .u32) (M : Int)).toNat : Nat) : Int) = (K : Int) ∧ K < 65536 ∧ ∀ i, K.testBit i = (N.testBit i || M.testBit i) := by
  have hb : ∀ i, (BitVec.ofInt (IntKind.bits .u32) (N : Int) ||| BitVec.ofInt (IntKind.bits .u32) (M : Int)).toNat.testBit i = (N.testBit i || M.testBit i) := fun i => by
    rw [BitVec.toNat_or, Nat.testBit_or, ofInt_bit hN, ofInt_bit hM]
  have hs := small_of (K := (BitVec.ofInt (IntKind.bits .u32) (N : Int) ||| BitVec.ofInt (IntKind.bits .u32) (M : Int)).toNat) fun i hi => by rw [hb, big_bit hN hi, big_bit hM hi]; rfl
  exact ⟨_, u32_in _ (by omega), hs, hb⟩

theorem andNot_val {N M : Nat} (hN : N < 65536) (hM : M < 65536) : ∃ K : Nat, IntKind.wrap .u32 (((BitVec.ofInt (IntKind.bits .u32) (N : Int) &&& ~~~(BitVec.ofInt (IntKind.bits .u32) (M : Int))).toNat : Nat) : Int) = (K : Int) ∧ K < 65536 ∧ ∀ i, K.testBit i = (N.testBit i && !(M.testBit i)) := by
  have hb : ∀ i, (BitVec.ofInt (IntKind.bits .u32) (N : Int) &&& ~~~(BitVec.ofInt (IntKind.bits .u32) (M : Int))).toNat.testBit i = (N.testBit i && !(M.testBit i)) := fun i => by
    rw [BitVec.toNat_and, Nat.testBit_and, ofInt_bit hN]
    by_cases hi : 16 ≤ i
    · rw [big_bit hN hi]; rfl
    · have h2 : (~~~(BitVec.ofInt (IntKind.bits .u32) (M : Int))).toNat.testBit i = !((BitVec.ofInt (IntKind.bits .u32) (M : Int)).toNat.testBit i) := by
        show (~~~(BitVec.ofInt (IntKind.bits .u32) (M : Int))).getLsbD i = _
        rw [BitVec.getLsbD_not]
        have : decide (i < IntKind.bits .u32) = true := decide_eq_true (by show i < 32; omega)
        rw [this, Bool.true_and]; rfl
      rw [h2, ofInt_bit hM]
  have hs := small_of (K := (BitVec.ofInt (IntKind.bits .u32) (N : Int) &&& ~~~(BitVec.ofInt (IntKind.bits .u32) (M : Int))).toNat) fun i hi => by rw [hb, big_bit hN hi]; rfl
  exact ⟨_, u32_in _ (by omega), hs, hb⟩

theorem pow_val {v : Nat} (hv : v < 16) : IntKind.wrap .u32 ((1 : Int) * 2 ^ (min v (IntKind.bits .u32))) = ((2 ^ v : Nat) : Int) ∧ 2 ^ v < 65536 := by
  have h1 : min v (IntKind.bits .u32) = v := Nat.min_eq_left (by show v ≤ 32; omega)
  have h2 : 2 ^ v < 2 ^ 16 := Nat.pow_lt_pow_right (by omega) hv
  have h : ((2 ^ v : Nat) : Int) = (2 : Int) ^ v := by simp
  rw [h1, Int.one_mul, ← h]
  have h3 : 2 ^ v < 65536 := h2
  generalize 2 ^ v = q at h3
  exact ⟨u32_in _ (by omega), h3⟩

def Bs (x : Int) (l : List Bool) : Prop := l.length ≤ 16 ∧ ∃ N : Nat, x = (N : Int) ∧ N < 65536 ∧ ∀ v, N.testBit v = l.getD v false

theorem getD_out {l : List Bool} {v : Nat} (h : l.length ≤ v) : l.getD v false = false := by
  rw [List.getD_eq_getElem?_getD, List.getElem?_eq_none h]; rfl

theorem list_ext {l m : List Bool} (hl : l.length = m.length) (h : ∀ v, v < l.length → l.getD v false = m.getD v false) : l = m := by
  refine List.ext_getElem hl fun i h1 h2 => ?_
  have := h i h1
  simpa [List.getD_eq_getElem?_getD, h1, h2] using this

theorem Bs.inj {x y : Int} {l : List Bool} (h : Bs x l) (h' : Bs y l) : x = y := by
  obtain ⟨_, N, e, _, hb⟩ := h
  obtain ⟨_, N', e', _, hb'⟩ := h'
  have : N = N' := Nat.eq_of_testBit_eq fun i => by rw [hb, hb']
  rw [e, e', this]

theorem Bs.zero {n : Nat} (hn : n ≤ 16) : Bs 0 (List.replicate n false) := ⟨by simpa using hn, 0, rfl, by omega, fun v => by
  rw [Nat.zero_testBit, List.getD_eq_getElem?_getD, List.getElem?_replicate]; split <;> rfl⟩

theorem Bs.set {x : Int} {l : List Bool} (h : Bs x l) {v : Nat} (hv : v < l.length) : Bs (IntKind.wrap .u32 (((BitVec.ofInt (IntKind.bits .u32) x ||| BitVec.ofInt (IntKind.bits .u32) (IntKind.wrap .u32 ((1 : Int) * 2 ^ (min v (IntKind.bits .u32))))).toNat : Nat) : Int)) (l.set v true) := by
  obtain ⟨hl, N, rfl, hN, hb⟩ := h
  obtain ⟨e1, e2⟩ := pow_val (v := v) (by omega)
  rw [e1]
  obtain ⟨K, e3, e4, e5⟩ := or_val hN e2
  refine ⟨by simpa using hl, K, e3, e4, fun i => ?_⟩
  rw [e5, hb, Nat.testBit_two_pow]
  by_cases hi : v = i
  · subst hi
    simp [List.getD_eq_getElem?_getD, hv]
  · simp [List.getD_eq_getElem?_getD, hi, List.getElem?_set_ne hi]

def orL (l m : List Bool) : List Bool := (List.range l.length).map fun i => l.getD i false || m.getD i false
def subL (l m : List Bool) : List Bool := (List.range l.length).map fun i => l.getD i false && !(m.getD i false)

theorem orL_len (l m : List Bool) : (orL l m).length = l.length := by simp [orL]
theorem subL_len (l m : List Bool) : (subL l m).length = l.length := by simp [subL]
theorem orL_get {l m : List Bool} {v : Nat} (h : v < l.length) : (orL l m).getD v false = (l.getD v false || m.getD v false) := by
  unfold orL; simp [List.getD_eq_getElem?_getD, h]
theorem subL_get (l m : List Bool) (v : Nat) : (subL l m).getD v false = (l.getD v false && !(m.getD v false)) := by
  by_cases h : v < l.length
  · unfold subL; simp [List.getD_eq_getElem?_getD, h]
  · rw [getD_out (by rw [subL_len]; omega), getD_out (l := l) (by omega)]; rfl

theorem Bs.or {x y : Int} {l m : List Bool} (h : Bs x l) (h' : Bs y m) (hl : l.length = m.length) : Bs (IntKind.wrap .u32 (((BitVec.ofInt (IntKind.bits .u32) x ||| BitVec.ofInt (IntKind.bits .u32) y).toNat : Nat) : Int)) (orL l m) := by
  obtain ⟨hl1, N, rfl, hN, hb⟩ := h
  obtain ⟨hl2, M, rfl, hM, hb'⟩ := h'
  obtain ⟨K, e3, e4, e5⟩ := or_val hN hM
  refine ⟨by rw [orL_len]; exact hl1, K, e3, e4, fun i => ?_⟩
  rw [e5, hb, hb']
  by_cases hi : i < l.length
  · rw [orL_get hi]
  · rw [getD_out (l := l) (by omega), getD_out (l := m) (by omega), getD_out (by rw [orL_len]; omega)]; rfl

theorem Bs.sub {x y : Int} {l m : List Bool} (h : Bs x l) (h' : Bs y m) : Bs (IntKind.wrap .u32 (((BitVec.ofInt (IntKind.bits .u32) x &&& ~~~(BitVec.ofInt (IntKind.bits .u32) y)).toNat : Nat) : Int)) (subL l m) := by
  obtain ⟨hl1, N, rfl, hN, hb⟩ := h
  obtain ⟨hl2, M, rfl, hM, hb'⟩ := h'
  obtain ⟨K, e3, e4, e5⟩ := andNot_val hN hM
  exact ⟨by rw [subL_len]; exact hl1, K, e3, e4, fun i => by rw [e5, hb, hb', subL_get]⟩

theorem Bs.bit {x : Int} {l : List Bool} (h : Bs x l) {v : Nat} (hv : v < 16) : (IntKind.wrap .u32 (((BitVec.ofInt (IntKind.bits .u32) (Int.fdiv x (2 ^ (min v (IntKind.bits .u32)))) &&& BitVec.ofInt (IntKind.bits .u32) (1 : Int)).toNat : Nat) : Int) == (1 : Int)) = l.getD v false := by
  obtain ⟨hl, N, rfl, hN, hb⟩ := h
  rw [bit_one hN hv, hb]

theorem Bs.bit0 {x : Int} {l : List Bool} (h : Bs x l) {v : Nat} (hv : v < 16) : (IntKind.wrap .u32 (((BitVec.ofInt (IntKind.bits .u32) (Int.fdiv x (2 ^ (min v (IntKind.bits .u32)))) &&& BitVec.ofInt (IntKind.bits .u32) (1 : Int)).toNat : Nat) : Int) == (0 : Int)) = !(l.getD v false) := by
  obtain ⟨hl, N, rfl, hN, hb⟩ := h
  rw [bit_zero hN hv, hb]

theorem Bs.eq0 {x : Int} {l : List Bool} (h : Bs x l) : (x == 0) = true ↔ ∀ v, v < l.length → l.getD v false = false := by
  obtain ⟨hl, N, rfl, hN, hb⟩ := h
  constructor
  · intro e v _
    have : N = 0 := by simpa using e
    subst this
    rw [← hb, Nat.zero_testBit]
  · intro hz
    have : N = 0 := Nat.eq_of_testBit_eq fun i => by
      rw [Nat.zero_testBit, hb]
      by_cases hi : i < l.length
      · exact hz i hi
      · exact getD_out (by omega)
    subst this; rfl

theorem Bs.all {n : Nat} (hn : n ≤ 16) (h1 : 1 ≤ n) : Bs (wsub .u32 (IntKind.wrap .u32 ((1 : Int) * 2 ^ (min n (IntKind.bits .u32)))) 1) (List.replicate n true) := by
  have e : wsub .u32 (IntKind.wrap .u32 ((1 : Int) * 2 ^ (min n (IntKind.bits .u32)))) 1 = ((2 ^ n - 1 : Nat) : Int) := by
    have e1 : min n (IntKind.bits .u32) = n := Nat.min_eq_left (by show n ≤ 32; omega)
    have h2 : 2 ^ n ≤ 2 ^ 16 := Nat.pow_le_pow_right (by omega) hn
    have h3 : 0 < 2 ^ n := Nat.pow_pos (by omega)
    have h : ((2 ^ n : Nat) : Int) = (2 : Int) ^ n := by simp
    rw [e1, Int.one_mul, ← h, u32_in _ (by omega)]
    show IntKind.wrap .u32 (((2 ^ n : Nat) : Int) - 1) = _
    rw [u32_in _ (by omega)]
    omega
  rw [e]
  refine ⟨by simpa using hn, 2 ^ n - 1, rfl, ?_, fun v => ?_⟩
  · have h2 : 2 ^ n ≤ 2 ^ 16 := Nat.pow_le_pow_right (by omega) hn
    omega
  · rw [Nat.testBit_two_pow_sub_one, List.getD_eq_getElem?_getD, List.getElem?_replicate]
    by_cases h : v < n <;> simp [h]

def cnt : List Bool → Nat
  | [] => 0
  | b :: l => (if b then 1 else 0) + cnt l

theorem cnt_le : ∀ {l m : List Bool}, l.length = m.length → (∀ v, v < l.length → l.getD v false = true → m.getD v false = true) → cnt l ≤ cnt m
  | [], [], _, _ => Nat.le_refl _
  | a :: l, b :: m, hl, h => by
    have h1 := cnt_le (l := l) (m := m) (by simpa using hl) fun v hv hx => by simpa using h (v + 1) (by simpa using hv) (by simpa using hx)
    have h0 := h 0 (by simp)
    simp only [cnt]
    cases a <;> cases b <;> simp at h0 ⊢ <;> omega
  | [], _ :: _, hl, _ => by simp at hl
  | _ :: _, [], hl, _ => by simp at hl

theorem cnt_lt : ∀ {l m : List Bool}, l.length = m.length → (∀ v, v < l.length → l.getD v false = true → m.getD v false = true) → (∃ v, v < l.length ∧ l.getD v false = false ∧ m.getD v false = true) → cnt l < cnt m
  | [], [], _, _, ⟨v, hv, _⟩ => by simp at hv
  | a :: l, b :: m, hl, h, ⟨v, hv, h1, h2⟩ => by
    have hl' : l.length = m.length := by simpa using hl
    have hs : ∀ v, v < l.length → l.getD v false = true → m.getD v false = true := fun v hv hx => by simpa using h (v + 1) (by simpa using hv) (by simpa using hx)
    have h0 := h 0 (by simp)
    cases v with
    | zero =>
      have hle := cnt_le hl' hs
      simp only [cnt]
      simp at h1 h2
      subst h1 h2
      simp; omega
    | succ v =>
      have hlt := cnt_lt hl' hs ⟨v, by simpa using hv, by simpa using h1, by simpa using h2⟩
      simp only [cnt]
      cases a <;> cases b <;> simp at h0 ⊢ <;> omega
  | [], _ :: _, hl, _, _ => by simp at hl
  | _ :: _, [], hl, _, _ => by simp at hl

def riseB (xs : List Int) (n : Int) (i : Nat) : Bool := (decide (xs.getD i 0 ≥ 0) && decide (xs.getD i 0 ≤ wsub .i64 n 1)) && !(decide ((i : Int) > 0) && decide (xs.getD i 0 ≤ xs.getD (i - 1) 0))

theorem implSet {xs : List Int} {n : Int} (h : xs.length ≤ 1048576) : impl_isSet xs n = some (allN (riseB xs n) xs.length 0) := by
  have := rounds_all (f := impl_isSet_B1 xs n) (fun i => ((i : Nat) : Int)) (riseB xs n) (Sum.inl ()) (Sum.inr ()) (n := xs.length) (fun i hi => by
    unfold impl_isSet_B1 riseB
    simp only [lenI, ltN hi, cond_true, Int.toNat_natCast, within64, Option.bind_some, nextN hi (show xs.length ≤ 4294967296 by omega)]
    rw [guard_pos (idxN hi)]
    cases (decide (xs.getD i 0 ≥ 0) && decide (xs.getD i 0 ≤ wsub .i64 n 1)) with
    | false => rfl
    | true =>
      by_cases h0 : i = 0
      · subst h0; rfl
      · have e : wsub .i64 ((i : Nat) : Int) 1 = ((i - 1 : Nat) : Int) := by rw [wsubI (by omega)]; omega
        have d : decide (((i : Nat) : Int) > 0) = true := decide_eq_true (by omega)
        simp only [Bool.not_true, cond_false, d, cond_true, e, guard_pos (idxN (show i - 1 < xs.length by omega)), Int.toNat_natCast, Option.bind_some, Bool.true_and]
        cases decide (xs.getD i 0 ≤ xs.getD (i - 1) 0) <;> rfl) (by
    unfold impl_isSet_B1
    simp only [lenI, geN (Nat.le_refl _), cond_false]) xs.length 0 (by omega)
  simp only [Int.natCast_zero] at this
  unfold impl_isSet
  rw [this]
  cases allN (riseB xs n) xs.length 0 <;> rfl

end Go.Proofs


/-
  Valid games; what a player reaches.
-/
namespace Go.Proofs
open Go.Ide Go.IntWalk

theorem rounds_find2 {τ ρ : Type} {f : τ → Option (τ ⊕ ρ)} (mk : Nat → τ) (p : Nat → Bool) (a : ρ) (b : Nat → ρ) {n : Nat}
    (hstep : ∀ i, i < n → f (mk i) = some (bif p i then .inl (mk (i + 1)) else .inr (b i))) (hend : f (mk n) = some (.inr a)) : ∀ (k i : Nat), i + k = n → ∃ j, rounds f (mk i) = some (bif allN p k i then a else b j)
  | 0, i, hi => by
    have : i = n := by omega
    subst this
    rw [rounds_eq, hend]
    exact ⟨0, rfl⟩
  | k + 1, i, hi => by
    rw [rounds_eq, hstep i (by omega)]
    simp only [allN]
    cases p i with
    | true => simp only [cond_true, Bool.true_and]; exact rounds_find2 mk p a b hstep hend k (i + 1) (by omega)
    | false => exact ⟨i, rfl⟩

def okMv (xs : List Int) (n : Int) : Bool := !(decide (lenI xs < 1)) && allN (riseB xs n) xs.length 0

def okG (O R : List Int) (M : List (List Int)) : Bool :=
  (decide (lenI O ≥ 1) && decide (lenI O ≤ 16)) && ((lenI R == lenI O) && ((lenI M == lenI O) && (allIn O 0 1 && (allIn R 0 8 && allN (fun i => okMv (M.getD i []) (lenI O)) M.length 0))))

theorem implGame {O R : List Int} {M : List (List Int)} (hM : M.length ≤ 1048576) (hh : ∀ y ∈ M, y.length ≤ 1048576) (hO : O.length ≤ 1048576) (hR : R.length ≤ 1048576) : impl_ValidGame (O, R, M) = some (okG O R M) := by
  unfold impl_ValidGame okG
  simp only [within64, Option.bind_some, areWithin64 (xs := O) (by omega), areWithin64 (xs := R) (by omega)]
  obtain ⟨j, this⟩ := rounds_find2 (f := slices_IndexFunc_____int64___int64_clo1_impl_ValidGame_1_B1 M (lenI O)) (fun i => ((i : Nat) : Int)) (fun i => okMv (M.getD i []) (lenI O)) (Sum.inl ()) (fun i => Sum.inr ((i : Nat) : Int)) (n := M.length) (fun i hi => by
    have hl := hh _ (mem_getD hi [])
    unfold slices_IndexFunc_____int64___int64_clo1_impl_ValidGame_1_B1 impl_ValidGame_1 okMv
    simp only [implSet (n := lenI O) hl, Option.bind_some, Int.toNat_natCast, nextN hi (show M.length ≤ 4294967296 by omega)]
    simp only [lenI, ltN hi, cond_true]
    rw [guard_pos (idxN hi)]
    by_cases h0 : (M.getD i []).length = 0
    · have e1 : (((M.getD i []).length : Int) == 0) = true := by rw [h0]; rfl
      have e2 : decide (((M.getD i []).length : Int) < 1) = true := decide_eq_true (by omega)
      simp only [e1, e2, cond_true, Option.bind_some, Bool.not_true, Bool.false_and, cond_false]
    · have e1 : (((M.getD i []).length : Int) == 0) = false := by simp only [beq_eq_false_iff_ne, ne_eq]; omega
      have e2 : decide (((M.getD i []).length : Int) < 1) = false := decide_eq_false (by omega)
      simp only [e1, e2, cond_false, Option.bind_some, Bool.not_false, Bool.true_and]
      cases allN (riseB (M.getD i []) (O.length : Int)) (M.getD i []).length 0 <;> rfl) (by
    unfold slices_IndexFunc_____int64___int64_clo1_impl_ValidGame_1_B1
    simp only [lenI, geN (Nat.le_refl _), cond_false]) M.length 0 (by omega)
  simp only [Int.natCast_zero] at this
  unfold slices_ContainsFunc_____int64___int64_clo1_impl_ValidGame_1 slices_IndexFunc_____int64___int64_clo1_impl_ValidGame_1
  rw [this]
  cases (decide (lenI O ≥ 1) && decide (lenI O ≤ 16)) with
  | false => rfl
  | true =>
    simp only [Bool.not_true, cond_false, bne, Bool.true_and]
    cases (lenI R == lenI O) with
    | false => rfl
    | true =>
      simp only [Bool.not_true, cond_false, Bool.true_and]
      cases (lenI M == lenI O) with
      | false => rfl
      | true =>
        simp only [Bool.not_true, cond_false, Bool.true_and]
        cases allIn O 0 1 with
        | false => rfl
        | true =>
          simp only [Bool.not_true, cond_false, Bool.true_and, Option.bind_some]
          cases allIn R 0 8 with
          | false => rfl
          | true =>
            simp only [Bool.not_true, cond_false, Bool.true_and]
            cases allN (fun i => okMv (M.getD i []) (lenI O)) M.length 0 with
            | true => rfl
            | false =>
              simp only [cond_false, Option.bind_some, ge_iff_le]
              rw [decide_eq_true (Int.natCast_nonneg j)]
              rfl

theorem allN_and2 (p q : Nat → Bool) : ∀ k i, allN (fun i => p i && q i) k i = (allN p k i && allN q k i)
  | 0, _ => rfl
  | k + 1, i => by
    simp only [allN, allN_and2 p q k (i + 1)]
    cases p i <;> cases q i <;> cases allN p k (i + 1) <;> cases allN q k (i + 1) <;> rfl

theorem specGame {O R : List Int} {M : List (List Int)} (hM : M.length ≤ 1048576) (hh : ∀ y ∈ M, y.length ≤ 1048576) : spec_l07Game (O, R, M) = some (okG O R M) := by
  unfold spec_l07Game okG
  by_cases h1 : lenI O < 1
  · have e1 : decide (lenI O < (1 : Int)) = true := decide_eq_true h1
    have e2 : decide (lenI O ≥ (1 : Int)) = false := decide_eq_false (by omega)
    simp only [e1, e2, cond_true, Bool.false_and, Option.bind_some]
  · have e1 : decide (lenI O < (1 : Int)) = false := decide_eq_false h1
    have e2 : decide (lenI O ≥ (1 : Int)) = true := decide_eq_true (by omega)
    simp only [e1, e2, cond_false, Bool.true_and]
    by_cases h2 : lenI O > 16
    · have e3 : decide (lenI O > (16 : Int)) = true := decide_eq_true h2
      have e4 : decide (lenI O ≤ (16 : Int)) = false := decide_eq_false (by omega)
      simp only [e3, e4, cond_true, Bool.false_and, Option.bind_some]
    · have e3 : decide (lenI O > (16 : Int)) = false := decide_eq_false h2
      have e4 : decide (lenI O ≤ (16 : Int)) = true := decide_eq_true (by omega)
      simp only [e3, e4, cond_false, Bool.true_and, bne]
      cases h3 : (lenI R == lenI O) with
      | false => rfl
      | true =>
        cases h4 : (lenI M == lenI O) with
        | false => rfl
        | true =>
          simp only [Bool.not_true, cond_false, Option.bind_some, Bool.true_and]
          have l1 : R.length = O.length := by have := eq_of_beq h3; simp only [lenI] at this; omega
          have l2 : M.length = O.length := by have := eq_of_beq h4; simp only [lenI] at this; omega
          have l3 : O.length ≤ 16 := by simp only [lenI] at h2; omega
          have := rounds_all (f := spec_l07Game_B2 (O, R, M)) (fun i => ((i : Nat) : Int)) (fun i => (decide (O.getD i 0 ≥ 0) && decide (O.getD i 0 ≤ 1)) && ((decide (R.getD i 0 ≥ 0) && decide (R.getD i 0 ≤ 8)) && okMv (M.getD i []) (lenI O))) (Sum.inl ()) (Sum.inr ()) (n := O.length) (fun i hi => by
            have hl := hh _ (mem_getD (show i < M.length by omega) [])
            have hin := rounds_all (f := spec_l07Game_B1 (O, R, M) ((i : Nat) : Int)) (fun i => ((i : Nat) : Int)) (riseB (M.getD i []) (lenI O)) (Sum.inl ()) (Sum.inr ()) (n := (M.getD i []).length) (fun k hk => by
              unfold spec_l07Game_B1 riseB
              simp only [Int.toNat_natCast, lenI, ltN hk, cond_true, in64, Option.bind_some, nextN hk (show (M.getD i []).length ≤ 4294967296 by omega)]
              rw [guard_pos (idxN hk)]
              cases (decide ((M.getD i []).getD k 0 ≥ 0) && decide ((M.getD i []).getD k 0 ≤ wsub .i64 (O.length : Int) 1)) with
              | false => rfl
              | true =>
                by_cases h0 : k = 0
                · subst h0; rfl
                · have e : wsub .i64 ((k : Nat) : Int) 1 = ((k - 1 : Nat) : Int) := by rw [wsubI (by omega)]; omega
                  have d : decide (((k : Nat) : Int) > 0) = true := decide_eq_true (by omega)
                  simp only [Bool.not_true, cond_false, d, cond_true, e, guard_pos (idxN (show k - 1 < (M.getD i []).length by omega)), Int.toNat_natCast, Option.bind_some, Bool.true_and]
                  cases decide ((M.getD i []).getD k 0 ≤ (M.getD i []).getD (k - 1) 0) <;> rfl) (by
              unfold spec_l07Game_B1
              simp only [Int.toNat_natCast, lenI, geN (Nat.le_refl _), cond_false]) (M.getD i []).length 0 (by omega)
            simp only [Int.natCast_zero] at hin
            have jo : (0 : Int) ≤ (i : Int) ∧ (i : Int) < lenI O := idxN hi
            have jr : (0 : Int) ≤ (i : Int) ∧ (i : Int) < lenI R := idxN (by omega)
            have jm : (0 : Int) ≤ (i : Int) ∧ (i : Int) < lenI M := idxN (by omega)
            unfold spec_l07Game_B2 okMv
            simp only [Int.toNat_natCast, guard_pos jo, guard_pos jr, guard_pos jm, in64, Option.bind_some, hin]
            simp only [lenI, ltN hi, cond_true, nextN hi (show O.length ≤ 4294967296 by omega)]
            cases (decide (O.getD i 0 ≥ 0) && decide (O.getD i 0 ≤ 1)) with
            | false => rfl
            | true =>
              cases (decide (R.getD i 0 ≥ 0) && decide (R.getD i 0 ≤ 8)) with
              | false => rfl
              | true =>
                cases decide (((M.getD i []).length : Int) < 1) with
                | true => rfl
                | false =>
                  simp only [Bool.not_true, Bool.not_false, cond_false, Option.bind_some, Bool.true_and]
                  cases allN (riseB (M.getD i []) (O.length : Int)) (M.getD i []).length 0 <;> rfl) (by
            unfold spec_l07Game_B2
            simp only [lenI, geN (Nat.le_refl _), cond_false]) O.length 0 (by omega)
          simp only [Int.natCast_zero] at this
          rw [allN_and2 (fun i => decide (O.getD i 0 ≥ 0) && decide (O.getD i 0 ≤ 1)) (fun i => (decide (R.getD i 0 ≥ 0) && decide (R.getD i 0 ≤ 8)) && okMv (M.getD i []) (lenI O)), allN_and2 (fun i => decide (R.getD i 0 ≥ 0) && decide (R.getD i 0 ≤ 8)) (fun i => okMv (M.getD i []) (lenI O))] at this
          have eO := allN_in O 0 1
          have eR := allN_in R 0 8
          rw [l1] at eR
          rw [eO, eR] at this
          rw [this, l2]
          cases allIn O 0 1 <;> cases allIn R 0 8 <;> cases allN (fun i => okMv (M.getD i []) (lenI O)) O.length 0 <;> rfl

structure Game (n : Nat) (O R : List Int) (M : List (List Int)) : Prop where
  n1 : 1 ≤ n
  n2 : n ≤ 16
  lo : O.length = n
  lr : R.length = n
  lm : M.length = n
  ow : ∀ v, v < n → O.getD v 0 = 0 ∨ O.getD v 0 = 1
  rk : ∀ v, v < n → ∃ r : Nat, R.getD v 0 = (r : Int) ∧ r ≤ 8
  mv : ∀ v, v < n → ∀ k, k < (M.getD v []).length → ∃ q : Nat, (M.getD v []).getD k 0 = (q : Int) ∧ q < n
  ml : ∀ v, v < n → (M.getD v []).length ≤ 1048576

theorem game_of {O R : List Int} {M : List (List Int)} (hh : ∀ y ∈ M, y.length ≤ 1048576) (h : okG O R M = true) : Game O.length O R M := by
  unfold okG at h
  simp only [Bool.and_eq_true, decide_eq_true_eq, beq_iff_eq, lenI] at h
  obtain ⟨⟨h1, h2⟩, h3, h4, h5, h6, h7⟩ := h
  refine ⟨by omega, by omega, rfl, by omega, by omega, fun v hv => ?_, fun v hv => ?_, fun v hv k hk => ?_, fun v hv => hh _ (mem_getD (by omega) [])⟩
  · have := allIn_iff.1 h5 v hv; omega
  · have := allIn_iff.1 h6 v (by omega)
    exact ⟨(R.getD v 0).toNat, by omega, by omega⟩
  · have := allN_iff.1 h7 v (by omega) (by omega)
    unfold okMv at this
    rw [Bool.and_eq_true] at this
    have := allN_iff.1 this.2 k (by omega) (by omega)
    unfold riseB at this
    simp only [Bool.and_eq_true, decide_eq_true_eq] at this
    have h8 := this.1
    rw [wsubI (by omega)] at h8
    exact ⟨((M.getD v []).getD k 0).toNat, by omega, by omega⟩

end Go.Proofs


/-
  What a player reaches; ReachOf.
-/
namespace Go.Proofs
open Go.Ide Go.IntWalk

section
variable {n : Nat} {O R : List Int} {M : List (List Int)}

theorem drawB1 (g : Game n O R M) {ins out : List Bool} {a x : Int} (ha : Bs a ins) (hx : Bs x out) (l1 : ins.length = n) (l2 : out.length = n) {v : Nat} (hv : v < n) (c1 c2 : Bool) :
    ∃ r, rounds (spec_l07Draw_B1 (O, R, M) ins (c1, (v : Int), out)) (false, true, (0 : Int)) = some r ∧ rounds (impl_Game_reach_B1 (O, R, M) a (x, c2, (v : Int))) (false, true, (0 : Int)) = some r := by
  have hml := g.ml v hv
  have n2 := g.n2
  obtain ⟨r, r', h1, h2, h3⟩ := rounds_rel (f := spec_l07Draw_B1 (O, R, M) ins (c1, (v : Int), out)) (g := impl_Game_reach_B1 (O, R, M) a (x, c2, (v : Int))) (fun m s t => ∃ (k : Nat) (p q : Bool), m + k = (M.getD v []).length ∧ s = (p, q, (k : Int)) ∧ t = (p, q, (k : Int))) (fun r r' => r = r') (by
    rintro m s t ⟨k, p, q, hk, rfl, rfl⟩
    by_cases hlt : k < (M.getD v []).length
    · obtain ⟨u, hu, hun⟩ := g.mv v hv k hlt
      have b1 := ha.bit (v := u) (by omega)
      have b2 := hx.bit (v := u) (by omega)
      have j1 : (0 : Int) ≤ (u : Int) ∧ (u : Int) < lenI ins := idxN (by omega)
      have j2 : (0 : Int) ≤ (u : Int) ∧ (u : Int) < lenI out := idxN (by omega)
      have j3 : (0 : Int) ≤ (u : Int) := Int.natCast_nonneg _
      have j4 : (0 : Int) ≤ (k : Int) ∧ (k : Int) < lenI (M.getD v []) := idxN hlt
      unfold spec_l07Draw_B1 impl_Game_reach_B1
      simp only [Int.toNat_natCast, guard_pos j4, Option.bind_some, hu, guard_pos j1, guard_pos j2, guard_pos j3, b1, b2]
      simp only [lenI, ltN hlt, cond_true, nextN hlt (show (M.getD v []).length ≤ 4294967296 by omega)]
      cases ins.getD u false with
      | false => exact .inl ⟨m - 1, _, _, by omega, rfl, rfl, k + 1, p, q, by omega, rfl, rfl⟩
      | true =>
        cases p <;> cases q <;> exact .inl ⟨m - 1, _, _, by omega, rfl, rfl, k + 1, _, _, by omega, rfl, rfl⟩
    · unfold spec_l07Draw_B1 impl_Game_reach_B1
      simp only [Int.toNat_natCast, lenI, geN (show (M.getD v []).length ≤ k by omega), cond_false]
      exact .inr ⟨_, _, rfl, rfl, rfl⟩) (M.getD v []).length (false, true, (0 : Int)) (false, true, (0 : Int)) ⟨0, false, true, by omega, rfl, rfl⟩
  exact ⟨r, h1, by rw [h2, h3]⟩

structure More (n : Nat) (ins out0 out : List Bool) (ch : Bool) : Prop where
  len : out.length = n
  sub : ∀ u, u < n → out0.getD u false = true → out.getD u false = true
  inn : ∀ u, u < n → out.getD u false = true → out0.getD u false = true ∨ ins.getD u false = true
  new : ch = true → ∃ u, u < n ∧ out0.getD u false = false ∧ out.getD u false = true

theorem drawB2 (g : Game n O R M) {ins out0 : List Bool} {a x0 : Int} (ha : Bs a ins) (hx : Bs x0 out0) (l1 : ins.length = n) (l2 : out0.length = n) (p : Int) (c0 : Bool) :
    ∃ ch out x, rounds (spec_l07Draw_B2 (O, R, M) ins p (c0, out0)) (false, (0 : Int), out0) = some (ch, out) ∧ rounds (impl_Game_reach_B2 (O, R, M) a p) (x0, false, (0 : Int)) = some (x, ch) ∧ Bs x out ∧ More n ins out0 out ch := by
  have n2 := g.n2
  have lo := g.lo
  have lm := g.lm
  obtain ⟨r, r', h1, h2, ch, out, x, e1, e2, h3, h4⟩ := rounds_rel (f := spec_l07Draw_B2 (O, R, M) ins p (c0, out0)) (g := impl_Game_reach_B2 (O, R, M) a p)
    (fun m s t => ∃ (v : Nat) (ch : Bool) (out : List Bool) (x : Int), m + v = n ∧ s = (ch, (v : Int), out) ∧ t = (x, ch, (v : Int)) ∧ Bs x out ∧ More n ins out0 out ch)
    (fun r r' => ∃ (ch : Bool) (out : List Bool) (x : Int), r = (ch, out) ∧ r' = (x, ch) ∧ Bs x out ∧ More n ins out0 out ch) (by
    rintro m s t ⟨v, ch, out, x, hm, rfl, rfl, hb, hmo⟩
    have hol := hmo.len
    by_cases hv : v < n
    · obtain ⟨r, h1, h2⟩ := drawB1 g ha hb l1 hol hv ch ch
      have b1 := ha.bit0 (v := v) (by omega)
      have b2 := hb.bit (v := v) (by omega)
      have j1 : (0 : Int) ≤ (v : Int) ∧ (v : Int) < lenI ins := idxN (by omega)
      have j2 : (0 : Int) ≤ (v : Int) ∧ (v : Int) < lenI out := idxN (by omega)
      have j3 : (0 : Int) ≤ (v : Int) := Int.natCast_nonneg _
      have j4 : (0 : Int) ≤ (v : Int) ∧ (v : Int) < lenI M := idxN (by omega)
      have j5 : (0 : Int) ≤ (v : Int) ∧ (v : Int) < lenI O := idxN (by omega)
      have hset := hb.set (v := v) (by omega)
      have hd1 : decide ((v : Int) < lenI out0) = true := by simp only [lenI]; exact ltN (by omega)
      have hd2 : decide ((v : Int) < lenI M) = true := by simp only [lenI]; exact ltN (by omega)
      have skip : ∃ n' s' t', n' < m ∧ some (Sum.inl ((ch, ((v + 1 : Nat) : Int), out) : Bool × Int × List Bool)) = some (Sum.inl s' : (Bool × Int × List Bool) ⊕ (Bool × List Bool)) ∧ some (Sum.inl ((x, ch, ((v + 1 : Nat) : Int)) : Int × Bool × Int)) = some (Sum.inl t' : (Int × Bool × Int) ⊕ (Int × Bool)) ∧
          ∃ (v : Nat) (ch : Bool) (out : List Bool) (x : Int), n' + v = n ∧ s' = (ch, (v : Int), out) ∧ t' = (x, ch, (v : Int)) ∧ Bs x out ∧ More n ins out0 out ch :=
        ⟨m - 1, _, _, by omega, rfl, rfl, v + 1, ch, out, x, by omega, rfl, rfl, hb, hmo⟩
      unfold spec_l07Draw_B2 impl_Game_reach_B2
      simp only [hd1, hd2, cond_true, Int.toNat_natCast, guard_pos j1, guard_pos j2, guard_pos j3, guard_pos j4, guard_pos j5, b1, b2, Option.bind_some, h1, h2, nextN hv (show n ≤ 4294967296 by omega)]
      cases ho : out.getD v false with
      | true =>
        simp only [cond_true, Option.bind_some]
        cases ins.getD v false <;> exact .inl skip
      | false =>
        cases hi : ins.getD v false with
        | false => exact .inl skip
        | true =>
          simp only [Bool.not_true, cond_false, Option.bind_some]
          have add : ∃ n' s' t', n' < m ∧ some (Sum.inl ((true, ((v + 1 : Nat) : Int), out.set v true) : Bool × Int × List Bool)) = some (Sum.inl s' : (Bool × Int × List Bool) ⊕ (Bool × List Bool)) ∧
              some (Sum.inl ((IntKind.wrap .u32 (((BitVec.ofInt (IntKind.bits .u32) x ||| BitVec.ofInt (IntKind.bits .u32) (IntKind.wrap .u32 ((1 : Int) * 2 ^ (min v (IntKind.bits .u32))))).toNat : Nat) : Int), true, ((v + 1 : Nat) : Int)) : Int × Bool × Int)) = some (Sum.inl t' : (Int × Bool × Int) ⊕ (Int × Bool)) ∧
              ∃ (v : Nat) (ch : Bool) (out : List Bool) (x : Int), n' + v = n ∧ s' = (ch, (v : Int), out) ∧ t' = (x, ch, (v : Int)) ∧ Bs x out ∧ More n ins out0 out ch := by
            refine ⟨m - 1, _, _, by omega, rfl, rfl, v + 1, true, _, _, by omega, rfl, rfl, hset, by simpa using hol, fun u hu h => ?_, fun u hu h => ?_, fun _ => ⟨v, hv, ?_, ?_⟩⟩
            · by_cases e : v = u
              · subst e; simp [List.getD_eq_getElem?_getD, hol, hv]
              · have := hmo.sub u hu h
                simpa [List.getD_eq_getElem?_getD, List.getElem?_set_ne e] using this
            · by_cases e : v = u
              · subst e; exact .inr hi
              · refine hmo.inn u hu ?_
                simpa [List.getD_eq_getElem?_getD, List.getElem?_set_ne e] using h
            · cases h0 : out0.getD v false with
              | false => rfl
              | true => rw [hmo.sub v hv h0] at ho; cases ho
            · simp [List.getD_eq_getElem?_getD, hol, hv]
          cases (O.getD v 0 == p) with
          | true =>
            simp only [cond_true]
            cases r.1 with
            | true => exact .inl add
            | false =>
              simp only [cond_false]
              cases (O.getD v 0 != p) with
              | true =>
                simp only [cond_true, Option.bind_some]
                cases r.2 with
                | true => exact .inl add
                | false => exact .inl skip
              | false => exact .inl skip
          | false =>
            simp only [cond_false]
            cases (O.getD v 0 != p) with
            | true =>
              simp only [cond_true, Option.bind_some]
              cases r.2 with
              | true => exact .inl add
              | false => exact .inl skip
            | false => exact .inl skip
    · have hd1 : decide ((v : Int) < lenI out0) = false := by simp only [lenI]; exact geN (by omega)
      have hd2 : decide ((v : Int) < lenI M) = false := by simp only [lenI]; exact geN (by omega)
      unfold spec_l07Draw_B2 impl_Game_reach_B2
      simp only [hd1, hd2, cond_false]
      exact .inr ⟨_, _, rfl, rfl, ch, out, x, rfl, rfl, hb, hmo⟩) n (false, (0 : Int), out0) (x0, false, (0 : Int)) ⟨0, false, out0, x0, by omega, rfl, rfl, hx, l2, fun _ _ h => h, fun _ _ h => .inl h, fun h => by cases h⟩
  subst e1 e2
  exact ⟨ch, out, x, h1, h2, h3, h4⟩

theorem cnt_len : ∀ l : List Bool, cnt l ≤ l.length
  | [] => Nat.le_refl _
  | b :: l => by
    have := cnt_len l
    simp only [cnt, List.length_cons]
    cases b <;> simp <;> omega

theorem drawSame (g : Game n O R M) {ins set : List Bool} {a x0 : Int} (ha : Bs a ins) (hx : Bs x0 set) (l1 : ins.length = n) (l2 : set.length = n) (p : Int) :
    ∃ out x, spec_l07Draw (O, R, M) ins set p = some out ∧ impl_Game_reach (O, R, M) a x0 p = some x ∧ Bs x out ∧ out.length = n ∧ (∀ u, u < n → set.getD u false = true → out.getD u false = true) ∧ (∀ u, u < n → out.getD u false = true → set.getD u false = true ∨ ins.getD u false = true) := by
  have n2 := g.n2
  obtain ⟨r, r', h1, h2, h3, h4⟩ := rounds_rel (f := spec_l07Draw_B3 (O, R, M) ins p) (g := impl_Game_reach_B3 (O, R, M) a p)
    (fun m s t => ∃ (ch : Bool) (out : List Bool) (x : Int), m = (if ch then n - cnt out + 1 else 0) ∧ s = (ch, out) ∧ t = (x, ch) ∧ Bs x out ∧ More n ins set out false)
    (fun r r' => Bs r' r ∧ More n ins set r false) (by
    rintro m s t ⟨ch, out, x, hm, rfl, rfl, hb, hmo⟩
    cases ch with
    | true =>
      obtain ⟨ch2, out2, x2, e1, e2, e3, e4⟩ := drawB2 g ha hb l1 hmo.len p true
      unfold spec_l07Draw_B3 impl_Game_reach_B3
      simp only [cond_true, e1, e2, Option.bind_some]
      have hlen : out2.length = out.length := by rw [e4.len, hmo.len]
      have hmo2 : More n ins set out2 false := ⟨e4.len, fun u hu h => e4.sub u hu (hmo.sub u hu h), fun u hu h => by
        rcases e4.inn u hu h with h | h
        · exact hmo.inn u hu h
        · exact .inr h, fun h => by cases h⟩
      refine .inl ⟨if ch2 then n - cnt out2 + 1 else 0, _, _, ?_, rfl, rfl, ch2, out2, x2, rfl, rfl, rfl, e3, hmo2⟩
      cases ch2 with
      | false => simp at hm ⊢; omega
      | true =>
        obtain ⟨u, hu, q1, q2⟩ := e4.new rfl
        have hlt := cnt_lt (l := out) (m := out2) hlen.symm (fun v hv h => e4.sub v (by rw [← hmo.len]; exact hv) h) ⟨u, by rw [hmo.len]; exact hu, q1, q2⟩
        have := cnt_len out2
        rw [e4.len] at this
        simp at hm ⊢; omega
    | false =>
      unfold spec_l07Draw_B3 impl_Game_reach_B3
      simp only [cond_false]
      exact .inr ⟨_, _, rfl, rfl, hb, hmo⟩) _ (true, set) (x0, true) ⟨true, set, x0, rfl, rfl, rfl, hx, l2, fun _ _ h => h, fun _ _ h => .inl h, fun h => by cases h⟩
  refine ⟨r, r', ?_, ?_, h3, h4.len, h4.sub, h4.inn⟩
  · unfold spec_l07Draw
    rw [guard_pos (by simp only [appMax]; omega), h1]; rfl
  · unfold impl_Game_reach
    rw [h2]; rfl

end
end Go.Proofs


/-
  Who wins: SolveGame.
-/
namespace Go.Proofs
open Go.Ide Go.IntWalk

def tab (n : Nat) (f : Nat → Bool) : List Bool := (List.range n).map f
theorem tab_len (n : Nat) (f : Nat → Bool) : (tab n f).length = n := by simp [tab]
theorem tab_get {n : Nat} {f : Nat → Bool} {v : Nat} (h : v < n) : (tab n f).getD v false = f v := by
  unfold tab; simp [List.getD_eq_getElem?_getD, h]

theorem Bs.exists {l : List Bool} (hl : l.length ≤ 16) : ∃ x, Bs x l := by
  have : ∀ k, k ≤ l.length → ∃ x, Bs x (tab l.length fun u => decide (u < k) && l.getD u false) := by
    intro k
    induction k with
    | zero =>
      intro _
      refine ⟨0, ?_⟩
      have e : (tab l.length fun u => decide (u < 0) && l.getD u false) = List.replicate l.length false := list_ext (by simp [tab_len]) fun v hv => by
        rw [tab_len] at hv
        rw [tab_get hv]
        simp [List.getD_eq_getElem?_getD, List.getElem?_replicate, hv]
      rw [e]
      exact Bs.zero hl
    | succ k ih =>
      intro hk
      obtain ⟨x, hx⟩ := ih (by omega)
      have hne : ∀ v, k ≠ v → decide (v < k + 1) = decide (v < k) := fun v hv => by
        by_cases h : v < k
        · rw [decide_eq_true h, decide_eq_true (by omega)]
        · rw [decide_eq_false h, decide_eq_false (by omega)]
      cases hb : l.getD k false with
      | true =>
        have hs := hx.set (v := k) (by rw [tab_len]; omega)
        have e : (tab l.length fun u => decide (u < k + 1) && l.getD u false) = (tab l.length fun u => decide (u < k) && l.getD u false).set k true := list_ext (by simp [tab_len]) fun v hv => by
          rw [tab_len] at hv
          rw [tab_get hv]
          by_cases e : k = v
          · subst e
            rw [hb, decide_eq_true (by omega)]
            simp [List.getD_eq_getElem?_getD, tab_len, hv]
          · rw [hne v e]
            have := tab_get (n := l.length) (f := fun u => decide (u < k) && l.getD u false) hv
            rw [← this]
            simp only [List.getD_eq_getElem?_getD]
            rw [List.getElem?_set_ne e]
        rw [← e] at hs
        exact ⟨_, hs⟩
      | false =>
        refine ⟨x, ?_⟩
        have e : (tab l.length fun u => decide (u < k + 1) && l.getD u false) = (tab l.length fun u => decide (u < k) && l.getD u false) := list_ext (by simp [tab_len]) fun v hv => by
          rw [tab_len] at hv
          rw [tab_get hv, tab_get hv]
          by_cases e : k = v
          · subst e; rw [hb, Bool.and_false, Bool.and_false]
          · rw [hne v e]
        rw [e]; exact hx
  obtain ⟨x, hx⟩ := this l.length (Nat.le_refl _)
  refine ⟨x, ?_⟩
  have e : (tab l.length fun u => decide (u < l.length) && l.getD u false) = l := list_ext (by simp [tab_len]) fun v hv => by
    rw [tab_len] at hv
    rw [tab_get hv, decide_eq_true hv, Bool.true_and]
  rw [e] at hx
  exact hx

def rankN (ins : List Bool) (R : List Int) : Nat → Int
  | 0 => -1
  | i + 1 => bif ins.getD i false then (bif decide (rankN ins R i > R.getD i 0) then rankN ins R i else R.getD i 0) else rankN ins R i

section
variable (O R : List Int) (M : List (List Int))

def rkI (ins : List Bool) : Int := rankN ins R ins.length
def plI (ins : List Bool) : Int := Int.tmod (rkI R ins) 2
def topL (ins : List Bool) : List Bool := tab ins.length fun i => ins.getD i false && (R.getD i 0 == rkI R ins)
noncomputable def drawV (ins set : List Bool) (p : Int) : List Bool := (spec_l07Draw (O, R, M) ins set p).getD []
noncomputable def nearV (ins : List Bool) : List Bool := drawV O R M ins (topL R ins) (plI R ins)
noncomputable def restV (ins : List Bool) : List Bool := subL ins (nearV O R M ins)
noncomputable def otherV (ins sub : List Bool) : List Bool := tab ins.length fun i => (restV O R M ins).getD i false && (sub.getD i false == (plI R ins == 0))
noncomputable def lostV (ins sub : List Bool) : List Bool := drawV O R M ins (otherV O R M ins sub) (wsub .i64 1 (plI R ins))
noncomputable def rest2V (ins sub : List Bool) : List Bool := subL ins (lostV O R M ins sub)
noncomputable def someV (ins sub : List Bool) : Bool := (otherV O R M ins sub).any id

noncomputable def winStep (slv : List Bool → List Bool) (ins : List Bool) : List Bool :=
  bif decide (rkI R ins < 0) then List.replicate ins.length false else
  bif someV O R M ins (slv (restV O R M ins)) then
    tab ins.length fun i => (slv (rest2V O R M ins (slv (restV O R M ins)))).getD i false || ((lostV O R M ins (slv (restV O R M ins))).getD i false && (plI R ins == 0))
  else tab ins.length fun i => ins.getD i false && (plI R ins == 1)

noncomputable def winN : Nat → List Bool → List Bool
  | 0, ins => List.replicate ins.length false
  | k + 1, ins => winStep O R M (winN k) ins

noncomputable def winV (ins : List Bool) : List Bool := winN O R M (cnt ins + 1) ins
end

section
variable {n : Nat} {O R : List Int} {M : List (List Int)}

theorem drawV_ok (g : Game n O R M) {ins set : List Bool} (l1 : ins.length = n) (l2 : set.length = n) (p : Int) :
    spec_l07Draw (O, R, M) ins set p = some (drawV O R M ins set p) ∧ (drawV O R M ins set p).length = n ∧ (∀ u, u < n → set.getD u false = true → (drawV O R M ins set p).getD u false = true) ∧
      (∀ u, u < n → (drawV O R M ins set p).getD u false = true → set.getD u false = true ∨ ins.getD u false = true) ∧
      ∀ a x, Bs a ins → Bs x set → ∃ y, impl_Game_reach (O, R, M) a x p = some y ∧ Bs y (drawV O R M ins set p) := by
  have n2 := g.n2
  obtain ⟨a, ha⟩ := Bs.exists (l := ins) (by omega)
  obtain ⟨x, hx⟩ := Bs.exists (l := set) (by omega)
  obtain ⟨out, y, h1, h2, h3, h4, h5, h6⟩ := drawSame g ha hx l1 l2 p
  have e : drawV O R M ins set p = out := by unfold drawV; rw [h1]; rfl
  rw [e]
  refine ⟨h1, h4, h5, h6, fun a' x' ha' hx' => ?_⟩
  rw [ha'.inj ha, hx'.inj hx]
  exact ⟨y, h2, h3⟩

theorem rank_of (g : Game n O R M) {ins : List Bool} (l1 : ins.length = n) : ∀ i, i ≤ n → (∀ u, u < i → ins.getD u false = true → R.getD u 0 ≤ rankN ins R i) ∧ (rankN ins R i = -1 ∨ ∃ u, u < i ∧ ins.getD u false = true ∧ R.getD u 0 = rankN ins R i)
  | 0, _ => ⟨fun u hu => by omega, .inl rfl⟩
  | i + 1, hi => by
    obtain ⟨h1, h2⟩ := rank_of g l1 i (by omega)
    simp only [rankN]
    cases hb : ins.getD i false with
    | false =>
      simp only [cond_false]
      refine ⟨fun u hu h => ?_, ?_⟩
      · by_cases e : u = i
        · subst e; rw [hb] at h; cases h
        · exact h1 u (by omega) h
      · rcases h2 with h2 | ⟨u, hu, q1, q2⟩
        · exact .inl h2
        · exact .inr ⟨u, by omega, q1, q2⟩
    | true =>
      simp only [cond_true]
      by_cases hgt : rankN ins R i > R.getD i 0
      · simp only [decide_eq_true hgt, cond_true]
        refine ⟨fun u hu h => ?_, ?_⟩
        · by_cases e : u = i
          · subst e; omega
          · exact h1 u (by omega) h
        · rcases h2 with h2 | ⟨u, hu, q1, q2⟩
          · exact .inl h2
          · exact .inr ⟨u, by omega, q1, q2⟩
      · simp only [decide_eq_false hgt, cond_false]
        refine ⟨fun u hu h => ?_, .inr ⟨i, by omega, hb, rfl⟩⟩
        by_cases e : u = i
        · subst e; omega
        · have := h1 u (by omega) h; omega

theorem rk_cases (g : Game n O R M) {ins : List Bool} (l1 : ins.length = n) :
    (rkI R ins = -1 ∧ ∀ u, u < n → ins.getD u false = false) ∨ (0 ≤ rkI R ins ∧ (plI R ins = 0 ∨ plI R ins = 1) ∧ ∃ u, u < n ∧ ins.getD u false = true ∧ (topL R ins).getD u false = true) := by
  obtain ⟨h1, h2⟩ := rank_of g l1 n (Nat.le_refl _)
  have e : rkI R ins = rankN ins R n := by unfold rkI; rw [l1]
  rcases h2 with h2 | ⟨u, hu, q1, q2⟩
  · left
    refine ⟨by rw [e, h2], fun u hu => ?_⟩
    cases hb : ins.getD u false with
    | false => rfl
    | true =>
      have := h1 u hu hb
      obtain ⟨r, hr, _⟩ := g.rk u hu
      omega
  · right
    obtain ⟨r, hr, _⟩ := g.rk u hu
    have hk : rkI R ins = (r : Int) := by omega
    refine ⟨by omega, ?_, u, hu, q1, ?_⟩
    · unfold plI
      rw [hk]
      have : Int.tmod (r : Int) 2 = ((r % 2 : Nat) : Int) := by rw [Int.tmod_eq_emod_of_nonneg (by omega)]; omega
      omega
    · unfold topL
      rw [tab_get (by omega), q1, e, q2]; simp

theorem rest_lt (g : Game n O R M) {ins : List Bool} (l1 : ins.length = n) (hk : 0 ≤ rkI R ins) : (restV O R M ins).length = n ∧ cnt (restV O R M ins) < cnt ins := by
  have hl : (restV O R M ins).length = n := by unfold restV; rw [subL_len]; exact l1
  refine ⟨hl, cnt_lt (by rw [hl, l1]) (fun v hv h => ?_) ?_⟩
  · unfold restV at h
    rw [subL_get, Bool.and_eq_true] at h
    exact h.1
  · rcases rk_cases g l1 with ⟨h1, _⟩ | ⟨_, _, u, hu, q1, q2⟩
    · omega
    · have lt : (topL R ins).length = n := by unfold topL; rw [tab_len]; exact l1
      have hd := (drawV_ok g l1 lt (plI R ins)).2.2.1 u hu q2
      refine ⟨u, by rw [hl]; exact hu, ?_, q1⟩
      unfold restV nearV
      rw [subL_get, hd, q1]; rfl

theorem other_len {ins sub : List Bool} : (otherV O R M ins sub).length = ins.length := by unfold otherV; rw [tab_len]

theorem rest2_lt (g : Game n O R M) {ins sub : List Bool} (l1 : ins.length = n) (hs : someV O R M ins sub = true) : (rest2V O R M ins sub).length = n ∧ cnt (rest2V O R M ins sub) < cnt ins := by
  have hl : (rest2V O R M ins sub).length = n := by unfold rest2V; rw [subL_len]; exact l1
  have lo : (otherV O R M ins sub).length = n := by rw [other_len]; exact l1
  refine ⟨hl, cnt_lt (by rw [hl, l1]) (fun v hv h => ?_) ?_⟩
  · unfold rest2V at h
    rw [subL_get, Bool.and_eq_true] at h
    exact h.1
  · unfold someV at hs
    rw [List.any_eq_true] at hs
    obtain ⟨b, hb, e⟩ := hs
    obtain ⟨u, hu, e2⟩ := List.getElem_of_mem hb
    have hun : u < n := by omega
    have ht : (otherV O R M ins sub).getD u false = true := by
      rw [List.getD_eq_getElem?_getD, List.getElem?_eq_getElem hu, e2]; exact e
    have hi : ins.getD u false = true := by
      unfold otherV at ht
      rw [tab_get (by omega), Bool.and_eq_true] at ht
      have := ht.1
      unfold restV at this
      rw [subL_get, Bool.and_eq_true] at this
      exact this.1
    have hd := (drawV_ok g l1 lo (wsub .i64 1 (plI R ins))).2.2.1 u hun ht
    refine ⟨u, by rw [hl]; exact hun, ?_, hi⟩
    unfold rest2V lostV
    rw [subL_get, hd, hi]; rfl

theorem winStep_len {slv : List Bool → List Bool} {ins : List Bool} : (winStep O R M slv ins).length = ins.length := by
  unfold winStep
  cases decide (rkI R ins < 0) with
  | true => simp
  | false =>
    cases someV O R M ins (slv (restV O R M ins)) <;> simp [tab_len]

theorem winN_len : ∀ (k : Nat) {ins : List Bool}, (winN O R M k ins).length = ins.length
  | 0, _ => by simp [winN]
  | _ + 1, _ => winStep_len

theorem winN_stable (g : Game n O R M) : ∀ (c : Nat) {ins : List Bool}, ins.length = n → cnt ins = c → ∀ k, c ≤ k → winN O R M (k + 1) ins = winN O R M (c + 1) ins := by
  intro c
  induction c using Nat.strongRecOn with
  | _ c ih =>
    intro ins l1 hc k hk
    have same : ∀ (b : List Bool), b.length = n → cnt b < c → winN O R M k b = winN O R M c b := fun b hb hlt => by
      obtain ⟨k', rfl⟩ : ∃ k', k = k' + 1 := ⟨k - 1, by omega⟩
      obtain ⟨c', rfl⟩ : ∃ c', c = c' + 1 := ⟨c - 1, by omega⟩
      rw [ih (cnt b) hlt hb rfl k' (by omega), ih (cnt b) hlt hb rfl c' (by omega)]
    simp only [winN]
    unfold winStep
    cases hr : decide (rkI R ins < 0) with
    | true => rfl
    | false =>
      have hr : 0 ≤ rkI R ins := by simpa using hr
      obtain ⟨q1, q2⟩ := rest_lt g l1 hr
      rw [same _ q1 (by omega)]
      simp only [cond_false]
      cases hs : someV O R M ins (winN O R M c (restV O R M ins)) with
      | false => rfl
      | true =>
        obtain ⟨q3, q4⟩ := rest2_lt g l1 hs
        rw [same _ q3 (by omega)]

theorem winV_eq (g : Game n O R M) {ins : List Bool} (l1 : ins.length = n) : winV O R M ins = winStep O R M (winV O R M) ins := by
  have hw : ∀ b : List Bool, b.length = n → cnt b < cnt ins → winN O R M (cnt ins) b = winV O R M b := fun b hb hlt => by
    obtain ⟨c, hc⟩ : ∃ c, cnt ins = c + 1 := ⟨cnt ins - 1, by omega⟩
    rw [hc]
    exact winN_stable g (cnt b) hb rfl c (by omega)
  show winStep O R M (winN O R M (cnt ins)) ins = _
  unfold winStep
  cases hr : decide (rkI R ins < 0) with
  | true => rfl
  | false =>
    have hr : 0 ≤ rkI R ins := by simpa using hr
    obtain ⟨q1, q2⟩ := rest_lt g l1 hr
    rw [hw _ q1 q2]
    simp only [cond_false]
    cases hs : someV O R M ins (winV O R M (restV O R M ins)) with
    | false => rfl
    | true =>
      obtain ⟨q3, q4⟩ := rest2_lt g l1 hs
      rw [hw _ q3 q4]

theorem winV_len (ins : List Bool) : (winV O R M ins).length = ins.length := winN_len _

theorem winV_in (g : Game n O R M) : ∀ (c : Nat) {ins : List Bool}, ins.length = n → cnt ins = c → ∀ u, u < n → (winV O R M ins).getD u false = true → ins.getD u false = true := by
  intro c
  induction c using Nat.strongRecOn with
  | _ c ih =>
    intro ins l1 hc u hu h
    rw [winV_eq g l1] at h
    unfold winStep at h
    cases hr : decide (rkI R ins < 0) with
    | true =>
      rw [hr] at h
      simp [List.getD_eq_getElem?_getD, List.getElem?_replicate] at h
      split at h <;> simp at h
    | false =>
      rw [hr] at h
      simp only [cond_false] at h
      cases hs : someV O R M ins (winV O R M (restV O R M ins)) with
      | false =>
        rw [hs] at h
        simp only [cond_false] at h
        rw [tab_get (by omega), Bool.and_eq_true] at h
        exact h.1
      | true =>
        rw [hs] at h
        simp only [cond_true] at h
        rw [tab_get (by omega), Bool.or_eq_true, Bool.and_eq_true] at h
        obtain ⟨q3, q4⟩ := rest2_lt g l1 hs
        have lo : (otherV O R M ins (winV O R M (restV O R M ins))).length = n := by rw [other_len]; exact l1
        rcases h with h | ⟨h, _⟩
        · have := ih (cnt (rest2V O R M ins (winV O R M (restV O R M ins)))) (by omega) q3 rfl u hu h
          unfold rest2V at this
          rw [subL_get, Bool.and_eq_true] at this
          exact this.1
        · rcases (drawV_ok g l1 lo (wsub .i64 1 (plI R ins))).2.2.2.1 u hu h with h | h
          · unfold otherV at h
            rw [tab_get (by omega), Bool.and_eq_true] at h
            have := h.1
            unfold restV at this
            rw [subL_get, Bool.and_eq_true] at this
            exact this.1
          · exact h

end
end Go.Proofs


/-
  SolveGame.
-/
namespace Go.Proofs
open Go.Ide Go.IntWalk

section
variable {n : Nat} {O R : List Int} {M : List (List Int)}

theorem specWithout {ins near : List Bool} (h : ins.length ≤ 16) (hl : near.length = ins.length) : spec_l07Without ins near = some (subL ins near) := by
  have := loop_app (f := spec_l07Without_B1 ins near) (fun i => ins.getD i false && !(near.getD i false)) ins.length [] (fun i out hi ho => by
    have hg : ∀ b : Bool, List.length out + List.length ([b] : List Bool) ≤ appMax := fun b => by simp only [List.length_singleton, appMax, ho, List.length_nil]; omega
    unfold spec_l07Without_B1
    simp only [lenI, ltN hi, cond_true, Int.toNat_natCast, nextN hi (show ins.length ≤ 4294967296 by omega), guard_pos (idxN hi), guard_pos (idxN (show i < near.length by omega)), guard_pos (hg _)]
    cases ins.getD i false <;> rfl) (fun out => by
    unfold spec_l07Without_B1
    simp only [lenI, geN (Nat.le_refl _), cond_false])
  unfold spec_l07Without
  rw [this]; rfl

theorem specRank (g : Game n O R M) {ins : List Bool} (l1 : ins.length = n) : rounds (spec_l07Win_B5 (O, R, M) ins) ((-1 : Int), (0 : Int)) = some (rkI R ins) := by
  have n2 := g.n2
  have lr := g.lr
  have := rounds_forS (f := spec_l07Win_B5 (O, R, M) ins) (fun i (s : Int) => (s, ((i : Nat) : Int))) (fun i _ => rankN ins R (i + 1)) id (n := ins.length) (fun i s => s = rankN ins R i)
    (fun i s hi hs => ⟨by
      subst hs
      unfold spec_l07Win_B5 spec_l00Max
      simp only [lenI, ltN hi, cond_true, Int.toNat_natCast, nextN hi (show ins.length ≤ 4294967296 by omega), guard_pos (idxN hi), guard_pos (idxN (show i < R.length by omega))]
      rw [rankN]
      cases ins.getD i false with
      | false => rfl
      | true =>
        cases decide (rankN ins R i > R.getD i 0) <;> rfl, rfl⟩)
    (fun s _ => by
      unfold spec_l07Win_B5
      simp only [lenI, geN (Nat.le_refl _), cond_false]; rfl) ins.length 0 (-1) (by omega) rfl
  simp only [Int.natCast_zero] at this
  rw [this.1, id, this.2]; rfl

theorem someLoop {r : Int} {rest sub xs : List Bool} {n : Nat} (hn : n ≤ 16) (l1 : rest.length = n) (l2 : sub.length = n) (l3 : xs.length = n) (hx : ∀ i, i < n → xs.getD i false = (rest.getD i false && (sub.getD i false == (Int.tmod r 2 == 0)))) :
    rounds (spec_l07Win_B3 r rest sub) (false, (0 : Int), List.replicate n false) = some (xs.any id, xs) := by
  have := rounds_forS (f := spec_l07Win_B3 r rest sub) (fun i (s : Bool × List Bool) => (s.1, ((i : Nat) : Int), s.2)) (fun i s => (s.1 || xs.getD i false, s.2.set i (xs.getD i false))) (fun s => (s.1, s.2)) (n := n)
    (fun i s => s.1 = (xs.take i).any id ∧ s.2 = xs.take i ++ List.replicate (n - i) false)
    (fun i s hi hs => by
      obtain ⟨h1, h2⟩ := hs
      have hol : s.2.length = n := by rw [h2]; simp; omega
      have hset : ∀ b : Bool, (s.2.set i b).getD i false = b := fun b => by simp [List.getD_eq_getElem?_getD, hol, hi]
      refine ⟨?_, ?_, ?_⟩
      · have hx := hx i hi
        unfold spec_l07Win_B3
        simp only [lenI, l1, l2, hol, List.length_set, ltN hi, cond_true, Int.toNat_natCast, nextN hi (show n ≤ 4294967296 by omega), guard_pos (idxN hi)]
        cases hr : rest.getD i false with
        | true =>
          rw [hr, Bool.true_and] at hx
          simp only [cond_true, Option.bind_some, ← hx, List.length_set, hol, guard_pos (idxN hi), hset]
          cases s.1 <;> cases xs.getD i false <;> rfl
        | false =>
          rw [hr, Bool.false_and] at hx
          simp only [cond_false, Option.bind_some, hx, List.length_set, hol, guard_pos (idxN hi), hset]
          cases s.1 <;> rfl
      · rw [take_snoc (by omega) false, List.any_append, h1]
        simp
      · rw [h2, take_snoc (by omega) false, show n - i = (n - (i + 1)) + 1 from by omega, List.replicate_succ, set_at (by simp; omega)]
        simp)
    (fun s hs => by
      unfold spec_l07Win_B3
      simp only [lenI, l1, geN (Nat.le_refl _), cond_false]) n 0 (false, List.replicate n false) (by omega) (by simp)
  simp only [Int.natCast_zero] at this
  obtain ⟨h1, h2, h3⟩ := this
  rw [h1, h2, h3, ← l3]
  simp

theorem setLoop {f : Int × List Bool → Option ((Int × List Bool) ⊕ List Bool)} {n : Nat} (v : Nat → Bool) (hstep : ∀ (i : Nat) (out : List Bool), i < n → out.length = n → f ((i : Int), out) = some (.inl (((i + 1 : Nat) : Int), out.set i (v i))))
    (hend : ∀ out : List Bool, f ((n : Int), out) = some (.inr out)) : rounds f ((0 : Int), List.replicate n false) = some (tab n v) := by
  have := loop_to (f := f) (tab n v) false (fun i out hi ho => by
    rw [tab_len] at hi ho
    rw [tab_get hi]
    exact hstep i out hi ho) (fun out _ => by rw [tab_len]; exact hend out)
  rw [tab_len] at this
  exact this

theorem specWin (g : Game n O R M) {ins : List Bool} (l1 : ins.length = n) : spec_l07Win (O, R, M) ins = some (winV O R M ins) := by
  have n2 := g.n2
  have lr := g.lr
  unfold spec_l07Win
  refine recO_size (F := fun slv x => spec_l07Win_G slv x.1 x.2) (μ := fun a => cnt a.2) (I := fun a => a.1 = (O, R, M) ∧ a.2.length = n) (e := fun a => winV O R M a.2) ?_ ((O, R, M), ins) ⟨rfl, l1⟩
  rintro slv ⟨a, ins⟩ ⟨rfl, l1⟩ ih
  have l1 : ins.length = n := l1
  have ih : ∀ b : List Bool, b.length = n → cnt b < cnt ins → slv ((O, R, M), b) = some (winV O R M b) := fun b hb hlt => ih ((O, R, M), b) ⟨rfl, hb⟩ hlt
  show spec_l07Win_G slv (O, R, M) ins = some (winV O R M ins)
  rw [winV_eq g l1]
  have e0 : Int.toNat (lenI ins) = n := by simp [lenI, l1]
  have jb : (0 : Int) ≤ lenI ins ∧ lenI ins ≤ 4294967296 := by simp only [lenI]; omega
  unfold spec_l07Win_G winStep
  simp only [specRank g l1, Option.bind_some, guard_pos jb, e0, l1]
  cases hr : decide (rkI R ins < 0) with
  | true => rfl
  | false =>
    have hr : 0 ≤ rkI R ins := by simpa using hr
    have lt : (topL R ins).length = n := by unfold topL; rw [tab_len]; exact l1
    have htop : rounds (spec_l07Win_B4 (O, R, M) ins (rkI R ins)) ((0 : Int), List.replicate n false) = some (topL R ins) := by
      unfold topL
      rw [l1]
      refine setLoop _ (fun i out hi ho => ?_) (fun out => ?_)
      · unfold spec_l07Win_B4
        simp only [lenI, l1, ho, ltN hi, cond_true, Int.toNat_natCast, nextN hi (show n ≤ 4294967296 by omega), guard_pos (idxN hi), guard_pos (idxN (show i < R.length by omega))]
        cases ins.getD i false <;> rfl
      · unfold spec_l07Win_B4
        simp only [lenI, l1, geN (Nat.le_refl _), cond_false]
    obtain ⟨q1, q2⟩ := rest_lt g l1 hr
    obtain ⟨d1, d2, d3, d4, _⟩ := drawV_ok g l1 lt (plI R ins)
    have hpl : Int.tmod (rkI R ins) 2 = plI R ins := rfl
    have hw : spec_l07Without ins (drawV O R M ins (topL R ins) (plI R ins)) = some (restV O R M ins) := specWithout (by omega) (by rw [d2, l1])
    simp only [cond_false, htop, Option.bind_some, hpl, d1, hw, ih _ q1 q2]
    have lw : (winV O R M (restV O R M ins)).length = n := by rw [winV_len, q1]
    generalize hsub : winV O R M (restV O R M ins) = sub at lw
    have lo : (otherV O R M ins sub).length = n := by rw [other_len, l1]
    have hs := someLoop (r := rkI R ins) (rest := restV O R M ins) (sub := sub) (xs := otherV O R M ins sub) n2 q1 lw lo (fun i hi => by
      unfold otherV
      rw [tab_get (by omega), hpl])
    simp only [hs, Option.bind_some]
    have hsv : (otherV O R M ins sub).any id = someV O R M ins sub := rfl
    rw [hsv]
    cases hsome : someV O R M ins sub with
    | false =>
      simp only [Bool.not_false, cond_true, cond_false]
      rw [setLoop (f := spec_l07Win_B1 ins (rkI R ins)) (fun i => ins.getD i false && (plI R ins == 1)) (fun i out hi ho => by
        unfold spec_l07Win_B1
        simp only [lenI, l1, ho, ltN hi, cond_true, Int.toNat_natCast, nextN hi (show n ≤ 4294967296 by omega), guard_pos (idxN hi), hpl]
        cases ins.getD i false <;> rfl) (fun out => by
        unfold spec_l07Win_B1
        simp only [lenI, l1, geN (Nat.le_refl _), cond_false])]
      rfl
    | true =>
      obtain ⟨q3, q4⟩ := rest2_lt g l1 hsome
      obtain ⟨b1, b2, _, _, _⟩ := drawV_ok g l1 lo (wsub .i64 1 (plI R ins))
      have hw2 : spec_l07Without ins (drawV O R M ins (otherV O R M ins sub) (wsub .i64 1 (plI R ins))) = some (rest2V O R M ins sub) := specWithout (by omega) (by rw [b2, l1])
      have ll : (lostV O R M ins sub).length = n := b2
      have lw2 : (winV O R M (rest2V O R M ins sub)).length = n := by rw [winV_len, q3]
      simp only [Bool.not_true, cond_true, cond_false, b1, Option.bind_some, hw2, ih _ q3 q4]
      rw [setLoop (f := spec_l07Win_B2 ins (rkI R ins) (drawV O R M ins (otherV O R M ins sub) (wsub .i64 1 (plI R ins))) (winV O R M (rest2V O R M ins sub))) (fun i => (winV O R M (rest2V O R M ins sub)).getD i false || ((lostV O R M ins sub).getD i false && (plI R ins == 0))) (fun i out hi ho => by
        have e : (drawV O R M ins (otherV O R M ins sub) (wsub .i64 1 (plI R ins))) = lostV O R M ins sub := rfl
        unfold spec_l07Win_B2
        simp only [e, lenI, l1, lw2, ll, ho, ltN hi, cond_true, Int.toNat_natCast, nextN hi (show n ≤ 4294967296 by omega), guard_pos (idxN hi), hpl]
        cases (winV O R M (rest2V O R M ins sub)).getD i false with
        | true => rfl
        | false => cases (lostV O R M ins sub).getD i false <;> rfl) (fun out => by
        unfold spec_l07Win_B2
        simp only [lenI, l1, geN (Nat.le_refl _), cond_false])]
      rfl

end
end Go.Proofs


/-
  SolveGame: the program's side.
-/
namespace Go.Proofs
open Go.Ide Go.IntWalk

def decL (n : Nat) (x : Int) : List Bool := tab n fun v => x.toNat.testBit v

theorem decL_of {n : Nat} {x : Int} {l : List Bool} (h : Bs x l) (hl : l.length = n) : decL n x = l := by
  obtain ⟨_, N, rfl, _, hb⟩ := h
  refine list_ext (by unfold decL; rw [tab_len, hl]) fun v hv => ?_
  unfold decL at hv ⊢
  rw [tab_len] at hv
  rw [tab_get hv, Int.toNat_natCast, hb]

open Classical in
noncomputable def enc (l : List Bool) : Int := if h : l.length ≤ 16 then Classical.choose (Bs.exists h) else 0

theorem enc_ok {l : List Bool} (h : l.length ≤ 16) : Bs (enc l) l := by
  unfold enc
  rw [dif_pos h]
  exact Classical.choose_spec (Bs.exists h)

section
variable {n : Nat} {O R : List Int} {M : List (List Int)}

theorem implTop (g : Game n O R M) {ins : List Bool} {a : Int} (ha : Bs a ins) (l1 : ins.length = n) :
    ∃ x, rounds (impl_Game_solve_B1 (O, R, M) a) ((-1 : Int), (0 : Int), (0 : Int)) = some (rkI R ins, x) ∧ Bs x (topL R ins) := by
  have n2 := g.n2
  have lr := g.lr
  obtain ⟨r, h1, x, h2, h3⟩ := rounds_inv (f := impl_Game_solve_B1 (O, R, M) a)
    (fun m s => ∃ (v : Nat) (x : Int), m + v = n ∧ s = (rankN ins R v, x, (v : Int)) ∧ Bs x (tab n fun u => decide (u < v) && (ins.getD u false && (R.getD u 0 == rankN ins R v))))
    (fun r => ∃ x, r = (rkI R ins, x) ∧ Bs x (topL R ins)) (by
    rintro m s ⟨v, x, hm, rfl, hb⟩
    by_cases hv : v < n
    · have b0 := ha.bit0 (v := v) (by omega)
      have j1 : (0 : Int) ≤ (v : Int) ∧ (v : Int) < lenI R := idxN (by omega)
      have j2 : (0 : Int) ≤ (v : Int) := Int.natCast_nonneg _
      have hd : decide ((v : Int) < lenI R) = true := by simp only [lenI]; exact ltN (by omega)
      have hrk := (rank_of g l1 v (by omega)).1
      have hne : ∀ u, v ≠ u → decide (u < v + 1) = decide (u < v) := fun u hu => by
        by_cases h : u < v
        · rw [decide_eq_true h, decide_eq_true (by omega)]
        · rw [decide_eq_false h, decide_eq_false (by omega)]
      unfold impl_Game_solve_B1
      simp only [hd, cond_true, Int.toNat_natCast, guard_pos j1, guard_pos j2, b0, nextN hv (show n ≤ 4294967296 by omega)]
      cases hi : ins.getD v false with
      | false =>
        refine .inl ⟨m - 1, _, by omega, rfl, v + 1, x, by omega, ?_, ?_⟩
        · rw [rankN, hi]; rfl
        · have e : (tab n fun u => decide (u < v + 1) && (ins.getD u false && (R.getD u 0 == rankN ins R (v + 1)))) = tab n fun u => decide (u < v) && (ins.getD u false && (R.getD u 0 == rankN ins R v)) := list_ext (by simp [tab_len]) fun u hu => by
            rw [tab_len] at hu
            rw [tab_get hu, tab_get hu, rankN, hi, cond_false]
            by_cases e : v = u
            · subst e; rw [hi]; simp
            · rw [hne u e]
          rw [e]; exact hb
      | true =>
        by_cases hlt : R.getD v 0 < rankN ins R v
        · have hr1 : rankN ins R (v + 1) = rankN ins R v := by rw [rankN, hi, cond_true, decide_eq_true (by omega), cond_true]
          simp only [Bool.not_true, cond_false, Option.bind_some, decide_eq_true hlt, cond_true]
          refine .inl ⟨m - 1, _, by omega, rfl, v + 1, x, by omega, by rw [hr1], ?_⟩
          have e : (tab n fun u => decide (u < v + 1) && (ins.getD u false && (R.getD u 0 == rankN ins R (v + 1)))) = tab n fun u => decide (u < v) && (ins.getD u false && (R.getD u 0 == rankN ins R v)) := list_ext (by simp [tab_len]) fun u hu => by
            rw [tab_len] at hu
            rw [tab_get hu, tab_get hu, hr1]
            by_cases e : v = u
            · subst e
              have : (R.getD v 0 == rankN ins R v) = false := by simp only [beq_eq_false_iff_ne, ne_eq]; omega
              rw [this]; simp
            · rw [hne u e]
          rw [e]; exact hb
        · have hr1 : rankN ins R (v + 1) = R.getD v 0 := by rw [rankN, hi, cond_true, decide_eq_false (by omega), cond_false]
          simp only [Bool.not_true, cond_false, Option.bind_some, decide_eq_false hlt]
          by_cases hgt : R.getD v 0 > rankN ins R v
          · simp only [decide_eq_true hgt, cond_true, Option.bind_some]
            have hz := (Bs.zero (n := n) n2).set (v := v) (by simpa using hv)
            refine .inl ⟨m - 1, _, by omega, rfl, v + 1, _, by omega, by rw [hr1], ?_⟩
            have e : (tab n fun u => decide (u < v + 1) && (ins.getD u false && (R.getD u 0 == rankN ins R (v + 1)))) = (List.replicate n false).set v true := list_ext (by simp [tab_len]) fun u hu => by
              rw [tab_len] at hu
              rw [tab_get hu, hr1]
              by_cases e : v = u
              · subst e
                rw [hi, decide_eq_true (by omega)]
                simp [List.getD_eq_getElem?_getD, hv]
              · rw [hne u e]
                have : (List.replicate n false |>.set v true).getD u false = false := by
                  simp only [List.getD_eq_getElem?_getD]
                  rw [List.getElem?_set_ne e, List.getElem?_replicate]
                  split <;> rfl
                rw [this]
                by_cases h : u < v
                · rw [decide_eq_true h]
                  cases hiu : ins.getD u false with
                  | false => rfl
                  | true =>
                    have := hrk u h hiu
                    have : (R.getD u 0 == R.getD v 0) = false := by simp only [beq_eq_false_iff_ne, ne_eq]; omega
                    rw [this]; rfl
                · rw [decide_eq_false h]; rfl
            rw [e]; exact hz
          · simp only [decide_eq_false hgt, cond_false, Option.bind_some]
            have heq : R.getD v 0 = rankN ins R v := by omega
            have hz := hb.set (v := v) (by rw [tab_len]; exact hv)
            refine .inl ⟨m - 1, _, by omega, rfl, v + 1, _, by omega, by rw [hr1, heq], ?_⟩
            have e : (tab n fun u => decide (u < v + 1) && (ins.getD u false && (R.getD u 0 == rankN ins R (v + 1)))) = (tab n fun u => decide (u < v) && (ins.getD u false && (R.getD u 0 == rankN ins R v))).set v true := list_ext (by simp [tab_len]) fun u hu => by
              rw [tab_len] at hu
              rw [tab_get hu, hr1, heq]
              by_cases e : v = u
              · subst e
                rw [hi, decide_eq_true (by omega), heq]
                simp [List.getD_eq_getElem?_getD, tab_len, hv]
              · rw [hne u e]
                have := tab_get (n := n) (f := fun u => decide (u < v) && (ins.getD u false && (R.getD u 0 == rankN ins R v))) hu
                rw [← this]
                simp only [List.getD_eq_getElem?_getD]
                rw [List.getElem?_set_ne e]
            rw [e]; exact hz
    · have hvn : v = n := by omega
      have hd : decide ((v : Int) < lenI R) = false := by simp only [lenI]; exact geN (by omega)
      unfold impl_Game_solve_B1
      simp only [hd, cond_false]
      refine .inr ⟨_, rfl, x, ?_, ?_⟩
      · unfold rkI; rw [l1, hvn]
      · have e : topL R ins = tab n fun u => decide (u < v) && (ins.getD u false && (R.getD u 0 == rankN ins R v)) := list_ext (by unfold topL; simp [tab_len, l1]) fun u hu => by
          unfold topL at hu ⊢
          rw [tab_len] at hu
          rw [tab_get hu, tab_get (by omega), decide_eq_true (by omega), Bool.true_and]
          unfold rkI
          rw [l1, hvn]
        rw [e]; exact hb) n ((-1 : Int), (0 : Int), (0 : Int)) ⟨0, 0, by omega, rfl, by
      have e : (tab n fun u => decide (u < 0) && (ins.getD u false && (R.getD u 0 == rankN ins R 0))) = List.replicate n false := list_ext (by simp [tab_len]) fun u hu => by
        rw [tab_len] at hu
        rw [tab_get hu]
        simp [List.getD_eq_getElem?_getD, List.getElem?_replicate, hu]
      rw [e]
      exact Bs.zero n2⟩
  exact ⟨x, by rw [h1, h2], h3⟩

theorem implLost {slv : ((List Int × List Int × List (List Int)) × Int) → Option Int} {set win : List Bool} {b y p : Int} (hb : Bs b set) (hs : slv ((O, R, M), b) = some y) (hy : Bs y (subL set win)) (hw : ∀ u, win.getD u false = true → set.getD u false = true) (hp : p = 0 ∨ p = 1) :
    ∃ z, impl_Game_lost_G slv (O, R, M) b p = some z ∧ Bs z (tab set.length fun i => set.getD i false && (win.getD i false == (p == 0))) := by
  unfold impl_Game_lost_G
  simp only [hs, Option.bind_some]
  rcases hp with rfl | rfl
  · have h := hb.sub hy
    refine ⟨_, rfl, ?_⟩
    have e : (tab set.length fun i => set.getD i false && (win.getD i false == ((0 : Int) == 0))) = subL set (subL set win) := list_ext (by simp [tab_len, subL_len]) fun u hu => by
      rw [tab_len] at hu
      rw [tab_get hu, subL_get, subL_get]
      cases set.getD u false <;> cases win.getD u false <;> rfl
    rw [e]; exact h
  · refine ⟨_, rfl, ?_⟩
    have e : (tab set.length fun i => set.getD i false && (win.getD i false == ((1 : Int) == 0))) = subL set win := list_ext (by simp [tab_len, subL_len]) fun u hu => by
      rw [tab_len] at hu
      rw [tab_get hu, subL_get]
      cases set.getD u false <;> cases win.getD u false <;> rfl
    rw [e]; exact hy

theorem implZero {set mine : List Bool} {b y p : Int} (hb : Bs b set) (hy : Bs y mine) (hp : p = 0 ∨ p = 1) :
    ∃ z, impl_Game_ofZero (O, R, M) b y p = some z ∧ Bs z (bif p == 0 then mine else subL set mine) := by
  unfold impl_Game_ofZero
  rcases hp with rfl | rfl
  · exact ⟨_, rfl, hy⟩
  · exact ⟨_, rfl, hb.sub hy⟩

theorem implSolve (g : Game n O R M) {ins : List Bool} {a : Int} (ha : Bs a ins) (l1 : ins.length = n) : ∃ y, impl_Game_solve (O, R, M) a = some y ∧ Bs y (subL ins (winV O R M ins)) := by
  have n2 := g.n2
  have main : impl_Game_solve (O, R, M) a = some (enc (subL (decL n a) (winV O R M (decL n a)))) := by
    unfold impl_Game_solve
    refine recO_size (F := fun slv x => impl_Game_solve_G slv x.1 x.2) (μ := fun a => cnt (decL n a.2)) (I := fun a => a.1 = (O, R, M) ∧ ∃ ins, Bs a.2 ins ∧ ins.length = n) (e := fun a => enc (subL (decL n a.2) (winV O R M (decL n a.2)))) ?_ ((O, R, M), a) ⟨rfl, ins, ha, l1⟩
    rintro slv ⟨g0, a⟩ ⟨rfl, ins, ha, l1⟩ ih
    have ha : Bs a ins := ha
    have ed : decL n a = ins := decL_of ha l1
    have ih : ∀ (b : Int) (l : List Bool), Bs b l → l.length = n → cnt l < cnt ins → ∃ y, slv ((O, R, M), b) = some y ∧ Bs y (subL l (winV O R M l)) := fun b l hb hl hlt => by
      have e2 : decL n b = l := decL_of hb hl
      have := ih ((O, R, M), b) ⟨rfl, l, hb, hl⟩ (by show cnt (decL n b) < cnt (decL n a); rw [e2, ed]; exact hlt)
      refine ⟨_, this, ?_⟩
      show Bs (enc (subL (decL n b) (winV O R M (decL n b)))) _
      rw [e2]
      exact enc_ok (by rw [subL_len]; omega)
    have fin : ∀ {x : Int} {l : List Bool}, Bs x l → l = subL ins (winV O R M ins) → (some x : Option Int) = some (enc (subL (decL n a) (winV O R M (decL n a)))) := fun {x l} hx e => by
      rw [ed]
      subst e
      rw [hx.inj (enc_ok (by rw [subL_len]; omega))]
    show impl_Game_solve_G slv (O, R, M) a = some (enc (subL (decL n a) (winV O R M (decL n a))))
    have hweq := winV_eq g l1
    unfold impl_Game_solve_G
    cases h0 : (a == (0 : Int)) with
    | true =>
      have hz := ha.eq0.1 h0
      simp only [cond_true]
      refine fin (Bs.zero n2) (list_ext (by rw [subL_len]; simp [l1]) fun u hu => ?_)
      rw [subL_get, hz u (by simpa [l1] using hu)]
      simp only [List.getD_eq_getElem?_getD, List.getElem?_replicate]
      split <;> rfl
    | false =>
      have hin : ¬ ∀ v, v < ins.length → ins.getD v false = false := fun h => by rw [ha.eq0.2 h] at h0; cases h0
      rcases rk_cases g l1 with ⟨_, hz⟩ | ⟨hr, hp, _⟩
      · exact absurd (fun v hv => hz v (by omega)) hin
      · obtain ⟨x, t1, t2⟩ := implTop g ha l1
        have lt : (topL R ins).length = n := by unfold topL; rw [tab_len]; exact l1
        obtain ⟨q1, q2⟩ := rest_lt g l1 hr
        obtain ⟨_, d2, _, _, d5⟩ := drawV_ok g l1 lt (plI R ins)
        obtain ⟨near, e1, e2⟩ := d5 a x ha t2
        have hrest := ha.sub e2
        have er : subL ins (drawV O R M ins (topL R ins) (plI R ins)) = restV O R M ins := rfl
        rw [er] at hrest
        obtain ⟨y1, s1, s2⟩ := ih _ _ hrest q1 q2
        obtain ⟨z1, z2, z3⟩ := implLost (p := plI R ins) hrest s1 s2 (fun u hu => by
          by_cases hun : u < n
          · exact winV_in g _ q1 rfl u hun hu
          · rw [getD_out (by rw [winV_len, q1]; omega)] at hu; cases hu) hp
        have eo : (tab (restV O R M ins).length fun i => (restV O R M ins).getD i false && ((winV O R M (restV O R M ins)).getD i false == (plI R ins == 0))) = otherV O R M ins (winV O R M (restV O R M ins)) := by
          unfold otherV; rw [q1, l1]
        rw [eo] at z3
        have hpl : Int.tmod (rkI R ins) 2 = plI R ins := rfl
        simp only [cond_false, t1, Option.bind_some, hpl, e1, z2]
        have lo : (otherV O R M ins (winV O R M (restV O R M ins))).length = n := by rw [other_len, l1]
        have hrf : decide (rkI R ins < 0) = false := decide_eq_false (by omega)
        cases hy0 : (z1 == (0 : Int)) with
        | true =>
          have hnone := z3.eq0.1 hy0
          have hsome : someV O R M ins (winV O R M (restV O R M ins)) = false := by
            unfold someV
            rw [Bool.eq_false_iff]
            intro h
            rw [List.any_eq_true] at h
            obtain ⟨b, hb, e⟩ := h
            obtain ⟨u, hu, e2⟩ := List.getElem_of_mem hb
            have := hnone u hu
            rw [List.getD_eq_getElem?_getD, List.getElem?_eq_getElem hu, e2] at this
            rw [show id b = b from rfl] at e
            rw [e] at this; cases this
          obtain ⟨z, k1, k2⟩ := implZero (O := O) (R := R) (M := M) (p := plI R ins) ha ha hp
          simp only [cond_true, k1, Option.bind_some]
          refine fin k2 (list_ext ?_ fun u hu => ?_)
          · rcases hp with hp | hp <;> rw [hp] <;> simp [subL_len]
          · rw [hweq]
            unfold winStep
            rw [hrf, hsome, subL_get]
            simp only [cond_false]
            have hun : u < ins.length := by
              rcases hp with hp | hp <;> rw [hp] at hu <;> simpa [subL_len] using hu
            rw [tab_get hun]
            rcases hp with hp | hp <;> rw [hp]
            · show ins.getD u false = _
              cases ins.getD u false <;> rfl
            · show (subL ins ins).getD u false = _
              rw [subL_get]
              cases ins.getD u false <;> rfl
        | false =>
          have hsome : someV O R M ins (winV O R M (restV O R M ins)) = true := by
            cases hs : someV O R M ins (winV O R M (restV O R M ins)) with
            | true => rfl
            | false =>
              exfalso
              unfold someV at hs
              have : (z1 == (0 : Int)) = true := z3.eq0.2 fun v hv => by
                cases hb : (otherV O R M ins (winV O R M (restV O R M ins))).getD v false with
                | false => rfl
                | true =>
                  exfalso
                  rw [List.any_eq_false] at hs
                  rw [List.getD_eq_getElem?_getD, List.getElem?_eq_getElem hv] at hb
                  exact hs _ (List.getElem_mem hv) hb
              rw [this] at hy0; cases hy0
          obtain ⟨q3, q4⟩ := rest2_lt g l1 hsome
          obtain ⟨_, b2, _, b4, b5⟩ := drawV_ok g l1 lo (wsub .i64 1 (plI R ins))
          obtain ⟨gone, f1, f2⟩ := b5 a z1 ha z3
          have hrest2 := ha.sub f2
          have er2 : subL ins (drawV O R M ins (otherV O R M ins (winV O R M (restV O R M ins))) (wsub .i64 1 (plI R ins))) = rest2V O R M ins (winV O R M (restV O R M ins)) := rfl
          rw [er2] at hrest2
          have el : drawV O R M ins (otherV O R M ins (winV O R M (restV O R M ins))) (wsub .i64 1 (plI R ins)) = lostV O R M ins (winV O R M (restV O R M ins)) := rfl
          rw [el] at f2
          obtain ⟨y2, s3, s4⟩ := ih _ _ hrest2 q3 q4
          have hw2 : ∀ u, (winV O R M (rest2V O R M ins (winV O R M (restV O R M ins)))).getD u false = true → (rest2V O R M ins (winV O R M (restV O R M ins))).getD u false = true := fun u hu => by
            by_cases hun : u < n
            · exact winV_in g _ q3 rfl u hun hu
            · rw [getD_out (by rw [winV_len, q3]; omega)] at hu; cases hu
          obtain ⟨z4, z5, z6⟩ := implLost (p := plI R ins) hrest2 s3 s4 hw2 hp
          have ll : (lostV O R M ins (winV O R M (restV O R M ins))).length = n := b2
          have hor := f2.or z6 (by rw [ll, tab_len, q3])
          obtain ⟨z7, k1, k2⟩ := implZero (O := O) (R := R) (M := M) (p := plI R ins) ha (ha.sub hor) hp
          simp only [cond_false, f1, Option.bind_some, z5, k1]
          refine fin k2 (list_ext ?_ fun u hu => ?_)
          · rcases hp with hp | hp <;> rw [hp] <;> simp [subL_len]
          · rw [hweq]
            unfold winStep
            rw [hrf, hsome, subL_get]
            simp only [cond_false, cond_true]
            have hun : u < ins.length := by
              rcases hp with hp | hp <;> rw [hp] at hu <;> simpa [subL_len] using hu
            rw [tab_get hun]
            have hr2 : (rest2V O R M ins (winV O R M (restV O R M ins))).getD u false = (ins.getD u false && !((lostV O R M ins (winV O R M (restV O R M ins))).getD u false)) := by
              unfold rest2V; rw [subL_get]
            have hor2 := orL_get (l := lostV O R M ins (winV O R M (restV O R M ins))) (m := tab (rest2V O R M ins (winV O R M (restV O R M ins))).length fun i => (rest2V O R M ins (winV O R M (restV O R M ins))).getD i false && ((winV O R M (rest2V O R M ins (winV O R M (restV O R M ins)))).getD i false == (plI R ins == 0))) (v := u) (by omega)
            rw [tab_get (by omega), hr2] at hor2
            have hwu := hw2 u
            rw [hr2] at hwu
            rcases hp with hp | hp <;> rw [hp] at hor2 ⊢
            · simp only [BEq.rfl, cond_true] at hor2 ⊢
              show (subL ins _).getD u false = _
              rw [subL_get, hor2]
              revert hwu
              cases ins.getD u false <;> cases (lostV O R M ins (winV O R M (restV O R M ins))).getD u false <;> cases (winV O R M (rest2V O R M ins (winV O R M (restV O R M ins)))).getD u false <;> simp
            · have e10 : ((1 : Int) == 0) = false := rfl
              rw [e10] at hor2 ⊢
              show (subL ins (subL ins _)).getD u false = _
              rw [subL_get, subL_get, hor2]
              revert hwu
              cases ins.getD u false <;> cases (lostV O R M ins (winV O R M (restV O R M ins))).getD u false <;> cases (winV O R M (rest2V O R M ins (winV O R M (restV O R M ins)))).getD u false <;> simp
  refine ⟨_, main, ?_⟩
  rw [decL_of ha l1]
  exact enc_ok (by rw [subL_len]; omega)

noncomputable def solV (O R : List Int) (M : List (List Int)) : List Int := (List.range O.length).map fun i => bif (winV O R M (List.replicate O.length true)).getD i false then (1 : Int) else 0

theorem solV_len (O R : List Int) (M : List (List Int)) : (solV O R M).length = O.length := by simp [solV]

theorem specSolve (g : Game n O R M) : spec_l07Solve (O, R, M) = some (solV O R M) := by
  have n2 := g.n2
  have lo := g.lo
  have jb : (0 : Int) ≤ lenI O ∧ lenI O ≤ 4294967296 := by simp only [lenI]; omega
  have e0 : Int.toNat (lenI O) = n := by simp [lenI, lo]
  have ha : rounds (spec_l07Solve_B2 (O, R, M)) ((0 : Int), List.replicate n false) = some (List.replicate n true) := by
    rw [setLoop (f := spec_l07Solve_B2 (O, R, M)) (n := n) (fun _ => true) (fun i out hi ho => by
      unfold spec_l07Solve_B2
      simp only [e0, lenI, List.length_replicate, ltN hi, cond_true, Int.toNat_natCast, ho, nextN hi (show n ≤ 4294967296 by omega), guard_pos (idxN hi), lo]) (fun out => by
      unfold spec_l07Solve_B2
      simp only [lenI, List.length_replicate, lo, Int.toNat_natCast, geN (Nat.le_refl _), cond_false])]
    congr 1
    exact list_ext (by simp [tab_len]) fun v hv => by
      rw [tab_len] at hv
      rw [tab_get hv]
      simp [List.getD_eq_getElem?_getD, List.getElem?_replicate, hv]
  have lw : (winV O R M (List.replicate n true)).length = n := by rw [winV_len]; simp
  have hb := loop_app (f := spec_l07Solve_B1 (winV O R M (List.replicate n true))) (fun i => bif (winV O R M (List.replicate n true)).getD i false then (1 : Int) else 0) n [] (fun i out hi ho => by
    have hg : ∀ b : Int, List.length out + List.length ([b] : List Int) ≤ appMax := fun b => by simp only [List.length_singleton, appMax, ho, List.length_nil]; omega
    unfold spec_l07Solve_B1
    simp only [lenI, lw, ltN hi, cond_true, Int.toNat_natCast, nextN hi (show n ≤ 4294967296 by omega), guard_pos (idxN hi), guard_pos (hg _)]
    cases (winV O R M (List.replicate n true)).getD i false <;> rfl) (fun out => by
    unfold spec_l07Solve_B1
    simp only [lenI, lw, geN (Nat.le_refl _), cond_false])
  unfold spec_l07Solve
  simp only [guard_pos jb, e0, ha, Option.bind_some, specWin g (List.length_replicate ..), hb]
  unfold solV
  rw [lo]; rfl

theorem implWinners (g : Game n O R M) : impl_Game_winners (O, R, M) = some (solV O R M) := by
  have n1 := g.n1
  have n2 := g.n2
  have lo := g.lo
  have ja : (0 : Int) ≤ lenI O := by simp only [lenI]; omega
  have e0 : Int.toNat (lenI O) = n := by simp [lenI, lo]
  obtain ⟨y, h1, h2⟩ := implSolve g (Bs.all n2 n1) (List.length_replicate ..)
  have hb := loop_app (f := impl_Game_winners_B1 (O, R, M) y) (fun i => bif (winV O R M (List.replicate n true)).getD i false then (1 : Int) else 0) n [] (fun i out hi ho => by
    have hg : ∀ b : Int, List.length out + List.length ([b] : List Int) ≤ appMax := fun b => by simp only [List.length_singleton, appMax, ho, List.length_nil]; omega
    have j3 : (0 : Int) ≤ (i : Int) := Int.natCast_nonneg _
    have hv : (IntKind.wrap .u32 (((BitVec.ofInt (IntKind.bits .u32) (Int.fdiv y (2 ^ (min i (IntKind.bits .u32)))) &&& BitVec.ofInt (IntKind.bits .u32) (1 : Int)).toNat : Nat) : Int)) = if (!((winV O R M (List.replicate n true)).getD i false)) then 1 else 0 := by
      obtain ⟨_, N, rfl, hN, hbb⟩ := h2
      rw [bit_val hN (by omega), hbb, subL_get]
      have : (List.replicate n true).getD i false = true := by simp [List.getD_eq_getElem?_getD, List.getElem?_replicate, hi]
      rw [this, Bool.true_and]
    unfold impl_Game_winners_B1
    simp only [lenI, lo, ltN hi, cond_true, Int.toNat_natCast, nextN hi (show n ≤ 4294967296 by omega), guard_pos j3, guard_pos (hg _), hv]
    cases (winV O R M (List.replicate n true)).getD i false <;> rfl) (fun out => by
    unfold impl_Game_winners_B1
    simp only [lenI, lo, geN (Nat.le_refl _), cond_false])
  unfold impl_Game_winners impl_Game_all
  simp only [guard_pos ja, e0, Option.bind_some, h1, hb]
  unfold solV
  rw [lo]; rfl

end

end Go.Proofs


/-
  IsWinning, MovesOfGame.
-/
namespace Go.Proofs
open Go.Ide Go.IntWalk

section
variable {n : Nat} {O R W mv : List Int} {M : List (List Int)}

end

end Go.Proofs


/-
  GamesShared, TurnGame.
-/
namespace Go.Proofs
open Go.Ide Go.IntWalk

abbrev GameD := List Int × List Int × List (List Int)

def okGD (g : GameD) : Prop := g.1.length ≤ 1048576 ∧ g.2.1.length ≤ 1048576 ∧ (g.2.2.length ≤ 1048576 ∧ ∀ y ∈ g.2.2, y.length ≤ 1048576)

theorem GamesShared_eq {x0_0 : List GameD} {x1_0 : Int} (g1 : x0_0.length ≤ 1048576 ∧ ∀ y ∈ x0_0, okGD y) :
    ∃ r, spec_GamesShared x0_0 x1_0 = some r ∧ impl_GamesShared x0_0 x1_0 = some r ∧ (r.1.length ≤ 1000000 ∧ ∀ y ∈ r.1, y.length ≤ 1000000) := by
  unfold spec_GamesShared impl_GamesShared
  by_cases hl : x0_0.length ≤ 8
  · have hd : decide (lenI x0_0 > (8 : Int)) = false := by simp only [lenI, decide_eq_false_iff_not]; omega
    simp only [hd, cond_false, in64, within64, Option.bind_some]
    cases (decide (x1_0 ≥ 1) && decide (x1_0 ≤ 8)) with
    | false => exact ⟨_, rfl, rfl, by simp⟩
    | true =>
      obtain ⟨r, r', h1, h2, h3⟩ := rounds_rel (f := spec_GamesShared_B1 x0_0) (g := impl_GamesShared_B1 x0_0)
        (fun n s t => ∃ (i : Nat) (out : List (List Int)), n + i = x0_0.length ∧ s = ((i : Int), out) ∧ t = s ∧ out.length = i ∧ ∀ y ∈ out, y.length ≤ 1000000)
        (fun r r' => r = r' ∧ ∀ l, r = .inl l → l.length ≤ 1000000 ∧ ∀ y ∈ l, y.length ≤ 1000000) (by
        rintro n s t ⟨i, out, hn, rfl, rfl, ho, hy⟩
        by_cases hi : i < x0_0.length
        · obtain ⟨e1, e2, e3, e4⟩ := g1.2 _ (mem_getD hi (([] : List Int), ([] : List Int), ([] : List (List Int))))
          unfold spec_GamesShared_B1 impl_GamesShared_B1 impl_SolveGame
          simp only [lenI, ltN hi, cond_true, Int.toNat_natCast, guard_pos (idxN hi), specGame e3 e4, implGame e3 e4 e1 e2, Option.bind_some, nextN hi (show x0_0.length ≤ 4294967296 by omega)]
          cases hg : okG (List.getD x0_0 i (([] : List Int), ([] : List Int), ([] : List (List Int)))).1 (List.getD x0_0 i (([] : List Int), ([] : List Int), ([] : List (List Int)))).2.1 (List.getD x0_0 i (([] : List Int), ([] : List Int), ([] : List (List Int)))).2.2 with
          | false => exact .inr ⟨_, _, rfl, rfl, rfl, fun l e => by cases e⟩
          | true =>
            have g := game_of e4 hg
            have n2 := g.n2
            simp only [Bool.not_true, cond_false, specSolve g, implWinners g, Option.bind_some]
            rw [guard_pos (by simp only [List.length_singleton, appMax]; omega)]
            refine .inl ⟨n - 1, _, _, by omega, rfl, rfl, i + 1, _, by omega, rfl, rfl, by simp; omega, fun y hy' => ?_⟩
            rcases List.mem_append.1 hy' with h | h
            · exact hy y h
            · simp only [List.mem_singleton] at h
              subst h
              rw [solV_len]; omega
        · unfold spec_GamesShared_B1 impl_GamesShared_B1
          simp only [lenI, geN (show x0_0.length ≤ i by omega), cond_false]
          exact .inr ⟨_, _, rfl, rfl, rfl, fun l e => by injection e with e; subst e; exact ⟨by omega, hy⟩⟩) x0_0.length ((0 : Int), []) ((0 : Int), []) ⟨0, [], by omega, rfl, rfl, rfl, by simp⟩
      obtain ⟨rfl, h4⟩ := h3
      simp only [Bool.not_true, cond_false, h1, h2, Option.bind_some]
      cases r with
      | inl l => exact ⟨_, rfl, rfl, h4 l rfl⟩
      | inr u => exact ⟨_, rfl, rfl, by simp⟩
  · have hd : decide (lenI x0_0 > (8 : Int)) = true := by simp only [lenI, decide_eq_true_eq]; omega
    simp only [hd, cond_true, Option.bind_some]
    exact ⟨_, rfl, rfl, by simp⟩

end Go.Proofs


/-
  GamesShared: the law, with the marks of a list of games.
-/
namespace Go.Proofs
open Go.Ide Go.IntWalk

theorem markG_big {c i : Nat} {k0 : Int} (hk : 0 ≤ k0 ∧ k0 ≤ 4000000000000000000) (hi : c * i ≤ 1000000000000) (hc : c ≤ 1000) : wadd .i64 (k0 + ((c * i : Nat) : Int)) (c : Int) = k0 + ((c * (i + 1) : Nat) : Int) := by
  rw [Nat.mul_add, Nat.mul_one]
  have e : k0 + ((c * i + c : Nat) : Int) = k0 + ((c * i : Nat) : Int) + (c : Int) := by omega
  rw [e]; exact i64_in _ (by omega)

theorem markInt64S_big {xs : List Int} {k : Int} (h : xs.length ≤ 1048576) (hk : 0 ≤ k ∧ k ≤ 4000000000000000000) : laws_markInt64S xs k = some (k + ((1 * xs.length : Nat) : Int), marksG (fun k => k) 1 k xs.length) := by
  unfold laws_markInt64S
  have := loop_mark (f := laws_markInt64S_B1) (fun k => k) 1 k xs (fun i out hi hl => by
    unfold laws_markInt64S_B1
    have e := markG_big (c := 1) (i := i) (k0 := k) (by omega) (by omega) (by omega)
    simp only [lenI, hl, ltN hi, cond_true, guard_pos (idxN hi), Int.toNat_natCast, nextN hi (by omega)]
    simp only [Int.cast_ofNat_Int] at e
    rw [e]) (fun out hl => by
    unfold laws_markInt64S_B1
    simp only [lenI, hl, geN (Nat.le_refl _), cond_false])
  simp only [this, Option.bind_some]
  rw [guard_pos marksG_len]

def rowE (k : Int) (x : List Int) : Int × List Int := (k + ((1 * x.length : Nat) : Int), marksG (fun k => k) 1 k x.length)

theorem markInt64SS_big {xs : List (List Int)} {k : Int} (h : xs.length ≤ 1048576 ∧ ∀ y ∈ xs, y.length ≤ 1048576) (hk : 0 ≤ k ∧ k ≤ 2000000000000000000) : laws_markInt64SS xs k = some (markRows rowE k xs) := by
  obtain ⟨h, hh⟩ := h
  unfold laws_markInt64SS
  have := loop_markE (f := laws_markInt64SS_B1) rowE 1048576 k xs ([] : List Int) (fun k x hx => by have := hh x hx; unfold rowE; exact ⟨by omega, by omega⟩) (fun k' i out hi hl hg h1 h2 => by
    have hx := hh _ (mem_getD hi ([] : List Int))
    have h3 : i * 1048576 ≤ 1048576 * 1048576 := Nat.mul_le_mul_right _ (by omega)
    unfold laws_markInt64SS_B1
    simp only [lenI, hl, ltN hi, cond_true, guard_pos (idxN hi), Int.toNat_natCast, hg, markInt64S_big hx (show 0 ≤ k' ∧ k' ≤ 4000000000000000000 by omega), Option.bind_some, nextN hi (show xs.length ≤ 4294967296 by omega)]
    rfl) (fun k' out hl => by
    unfold laws_markInt64SS_B1
    simp only [lenI, hl, geN (Nat.le_refl _), cond_false])
  simp only [this, Option.bind_some]
  rw [guard_pos (ShapeEq.own (markRows_len _ _ _).symm (markRows_get List.length [] (fun k x _ => by unfold rowE; simp only [marksG_len])))]

theorem rowE_bd {xs : List (List Int)} {k : Int} (hh : ∀ y ∈ xs, y.length ≤ 1048576) : k ≤ (markRows rowE k xs).1 ∧ (markRows rowE k xs).1 ≤ k + ((xs.length * 1048576 : Nat) : Int) :=
  markRows_bd (fun k x hx => by have := hh x hx; unfold rowE; exact ⟨by omega, by omega⟩)

noncomputable def gameE (k : Int) (x : GameD) : Int × GameD :=
  ((markRows rowE (k + ((1 * x.1.length : Nat) : Int) + ((1 * x.2.1.length : Nat) : Int)) x.2.2).1,
    (marksG (fun k => k) 1 k x.1.length, marksG (fun k => k) 1 (k + ((1 * x.1.length : Nat) : Int)) x.2.1.length, (markRows rowE (k + ((1 * x.1.length : Nat) : Int) + ((1 * x.2.1.length : Nat) : Int)) x.2.2).2))

theorem gameE_bd {x : GameD} (h : okGD x) (k : Int) : k ≤ (gameE k x).1 ∧ (gameE k x).1 ≤ k + ((1100000000000 : Nat) : Int) := by
  obtain ⟨h1, h2, h3, h4⟩ := h
  have := rowE_bd (k := k + ((1 * x.1.length : Nat) : Int) + ((1 * x.2.1.length : Nat) : Int)) h4
  have h5 : x.2.2.length * 1048576 ≤ 1048576 * 1048576 := Nat.mul_le_mul_right _ h3
  unfold gameE
  exact ⟨by simp only; omega, by simp only; omega⟩

abbrev dG : GameD := (([] : List Int), ([] : List Int), ([] : List (List Int)))

theorem getD_setG {xs : List GameD} {i : Nat} {x : GameD} (h : i < xs.length) : (xs.set i x).getD i dG = x := by
  simp [List.getD_eq_getElem?_getD, h]

theorem shape_game {xs ys : List GameD} (hl : xs.length = ys.length) (h : ∀ i, (ys.getD i dG).1.length = (xs.getD i dG).1.length ∧ (ys.getD i dG).2.1.length = (xs.getD i dG).2.1.length ∧ (ys.getD i dG).2.2.length = (xs.getD i dG).2.2.length) :
    ShapeEq (.st (.pair (.own tI) (.pair (.own tI) (.own (.own tI))))) xs ys := by
  refine ⟨hl, fun i o e ys' hsl => ?_⟩
  obtain ⟨h1, h2, h3⟩ := h i
  match o, hsl with
  | 0, hsl =>
    injection hsl with hsl
    injection hsl with e1 e2
    subst e1
    have e2 := eq_of_heq e2
    subst e2
    exact ⟨_, rfl, h1.symm⟩
  | 1, hsl =>
    injection hsl with hsl
    injection hsl with e1 e2
    subst e1
    have e2 := eq_of_heq e2
    subst e2
    exact ⟨_, rfl, h2.symm⟩
  | 2, hsl =>
    injection hsl with hsl
    injection hsl with e1 e2
    subst e1
    have e2 := eq_of_heq e2
    subst e2
    exact ⟨_, rfl, h3.symm⟩
  | o + 3, hsl => cases hsl

theorem markGameS_ok {xs : List GameD} (h : xs.length ≤ 1048576) (hh : ∀ x ∈ xs, okGD x) : laws_markGameS xs 1 = some (markRows gameE 1 xs) := by
  have := loop_markE (f := laws_markGameS_B1) gameE 1100000000000 1 xs dG (fun k x hx => gameE_bd (hh x hx) k) (fun k i out hi hl hg h1 h2 => by
    obtain ⟨b1, b2, b3⟩ := hh _ (mem_getD hi dG)
    have hio : i < out.length := by omega
    have h3 : i * 1100000000000 ≤ 1048576 * 1100000000000 := Nat.mul_le_mul_right _ (by omega)
    unfold laws_markGameS_B1
    simp only [lenI, hl, ltN hi, cond_true, guard_pos (idxN hi), Int.toNat_natCast]
    rw [show List.getD out i (([] : List Int), ([] : List Int), ([] : List (List Int))) = List.getD xs i dG from hg, markInt64S_big (k := k) b1 (by omega)]
    simp only [Option.bind_some, List.length_set, hl, guard_pos (idxN hi), getD_setG hio]
    rw [markInt64S_big (k := k + ((1 * (List.getD xs i dG).1.length : Nat) : Int)) b2 (by omega)]
    simp only [Option.bind_some, List.length_set, hl, guard_pos (idxN hi), List.set_set, getD_setG hio]
    rw [markInt64SS_big (k := k + ((1 * (List.getD xs i dG).1.length : Nat) : Int) + ((1 * (List.getD xs i dG).2.1.length : Nat) : Int)) b3 (by omega)]
    simp only [Option.bind_some, nextN hi (show xs.length ≤ 4294967296 by omega)]
    rfl) (fun k out hl => by
    unfold laws_markGameS_B1
    simp only [lenI, hl, geN (Nat.le_refl _), cond_false])
  unfold laws_markGameS
  rw [this]
  simp only [Option.bind_some]
  rw [guard_pos (shape_game (markRows_len gameE xs 1).symm fun i => ⟨markRows_get (fun x => x.1.length) dG (fun k x _ => by simp [gameE, marksG]) i, markRows_get (fun x => x.2.1.length) dG (fun k x _ => by simp [gameE, marksG]) i, markRows_get (fun x => x.2.2.length) dG (fun k x _ => by simp [gameE, markRows_len]) i⟩)]

theorem GamesShared_law (x0 : List GameD) (x1 : Int) (w0 : WfD (.sl (.st (.pair (.sl tI) (.pair (.sl tI) (.sl (.sl tI)))))) x0) (_ : WfD tI x1) : laws_FnExactGamesShared x0 x1 = some true := by
  have big : ∀ {α : Type} {xs : List α}, xs.length ≤ maxLen → xs.length ≤ 9223372036854775807 := fun h => Nat.le_trans h (by decide)
  have hx0 : x0.length ≤ 9223372036854775807 ∧ ∀ y ∈ x0, y.1.length ≤ 9223372036854775807 ∧ y.2.1.length ≤ 9223372036854775807 ∧ (y.2.2.length ≤ 9223372036854775807 ∧ ∀ y1 ∈ y.2.2, y1.length ≤ 9223372036854775807) := by
    refine ⟨big w0.1, fun y hy => ?_⟩
    obtain ⟨i, hi, rfl⟩ := List.getElem_of_mem hy
    have w := w0.2 i hi
    refine ⟨big w.1.1, big w.2.1.1, big w.2.2.1, fun z hz => ?_⟩
    obtain ⟨j, hj, rfl⟩ := List.getElem_of_mem hz
    exact big (w.2.2.2 j hj).1
  unfold laws_FnExactGamesShared
  obtain ⟨m1, a1, b1⟩ := szGameS_ok (n := 1048576) hx0 (by omega)
  simp only [a1, Option.bind_some]
  by_cases c1 : m1 < 0
  · simp only [c1, decide_true, cond_true]
  · obtain ⟨o0, d1, f1⟩ := b1.resolve_left c1
    simp only [c1, decide_false, cond_false]
    obtain ⟨⟨r1, r2⟩, k1, k2, k3⟩ := GamesShared_eq (x0_0 := x0) (x1_0 := x1) o0
    have k3 : r1.length ≤ 1000000 ∧ ∀ y ∈ r1, y.length ≤ 1000000 := k3
    have ok1 : r1.length ≤ 1048576 ∧ ∀ y ∈ r1, y.length ≤ 1048576 := ⟨by omega, fun y hy => by have := k3.2 y hy; omega⟩
    have hb := markRows_bd (E := gameE) (M := 1100000000000) (xs := x0) (k := 1) fun k x hx => gameE_bd (o0.2 x hx) k
    have hb2 := rowE_bd (k := 1) ok1.2
    have hq : r1.length * 1048576 ≤ 1048576 * 1048576 := Nat.mul_le_mul_right _ ok1.1
    have hmk := markInt64SS_big (k := 1) ok1 (by omega)
    have hheld : laws_heldInt64SS (markRows rowE 1 r1).2 1 = some (markRows rowE 1 r1).1 := heldInt64SS_ok (k := 1) ok1 (by omega)
    simp only [toGameS_ok o0, eqGameS_ok o0, k1, k2, Option.bind_some, eqInt64SS_ok ok1, Bool.not_true, bne_self_eq_false, cond_false, markGameS_ok o0.1 o0.2, hmk, hheld,
      show decide ((markRows gameE 1 x0).1 < 0) = false from by simp only [decide_eq_false_iff_not]; omega,
      show decide ((markRows rowE 1 r1).1 < 0) = false from by simp only [decide_eq_false_iff_not]; omega]

end Go.Proofs
