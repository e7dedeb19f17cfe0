import Derived.Test.YtnhjjkkfakgfjaaStoreKeptsGenB
set_option linter.unusedVariables false
set_option linter.unusedSimpArgs false
set_option linter.unusedSectionVars false
namespace Go.Proofs
open Go.Ide Go.IntWalk

theorem szInt64S_ok {xs : List Int} {n : Int} (hx : xs.length ≤ 9223372036854775807) (hn : 0 ≤ n ∧ n ≤ 1048576) : ∃ m, laws_szInt64S xs n = some m ∧ (m < 0 ∨ (xs.length ≤ 1048576 ∧ 0 ≤ m ∧ m ≤ n)) := by
  unfold laws_szInt64S
  have e : wsub .i64 n (lenI xs) = n - (xs.length : Int) := i64_in _ (by simp only [lenI]; omega)
  rw [e]
  by_cases h : n - (xs.length : Int) < 0
  · exact ⟨-1, by simp only [h, decide_true, cond_true], .inl (by omega)⟩
  · exact ⟨_, by simp only [h, decide_false, cond_false]; rfl, .inr ⟨by omega, by omega, by omega⟩⟩

theorem szBoolS_ok {xs : List Bool} {n : Int} (hx : xs.length ≤ 9223372036854775807) (hn : 0 ≤ n ∧ n ≤ 1048576) : ∃ m, laws_szBoolS xs n = some m ∧ (m < 0 ∨ (xs.length ≤ 1048576 ∧ 0 ≤ m ∧ m ≤ n)) := by
  unfold laws_szBoolS
  have e : wsub .i64 n (lenI xs) = n - (xs.length : Int) := i64_in _ (by simp only [lenI]; omega)
  rw [e]
  by_cases h : n - (xs.length : Int) < 0
  · exact ⟨-1, by simp only [h, decide_true, cond_true], .inl (by omega)⟩
  · exact ⟨_, by simp only [h, decide_false, cond_false]; rfl, .inr ⟨by omega, by omega, by omega⟩⟩

theorem toInt64S_ok {xs : List Int} (h : xs.length ≤ 1048576) : laws_toInt64S xs = some xs := by
  unfold laws_toInt64S
  rw [guard_pos ⟨by simp only [lenI]; omega, by simp only [lenI]; omega⟩]
  have := loop_to (f := laws_toInt64S_B1 xs) xs (0 : Int) (fun i out hi hl => by
    unfold laws_toInt64S_B1
    simp only [ltN hi, cond_true, guard_pos (idxN hi), guard_pos (idxN (i := i) (n := out.length) (by omega)), Int.toNat_natCast, nextN hi (by omega)]) (fun out hl => by
    unfold laws_toInt64S_B1
    simp only [geN (Nat.le_refl _), cond_false])
  simp only [Int.toNat_natCast, this, Option.bind_some]

theorem toBoolS_ok {xs : List Bool} (h : xs.length ≤ 1048576) : laws_toBoolS xs = some xs := by
  unfold laws_toBoolS
  rw [guard_pos ⟨by simp only [lenI]; omega, by simp only [lenI]; omega⟩]
  have := loop_to (f := laws_toBoolS_B1 xs) xs false (fun i out hi hl => by
    unfold laws_toBoolS_B1
    simp only [ltN hi, cond_true, guard_pos (idxN hi), guard_pos (idxN (i := i) (n := out.length) (by omega)), Int.toNat_natCast, nextN hi (by omega)]) (fun out hl => by
    unfold laws_toBoolS_B1
    simp only [geN (Nat.le_refl _), cond_false])
  simp only [Int.toNat_natCast, this, Option.bind_some]

theorem eqInt64S_ok {xs : List Int} (h : xs.length ≤ 1048576) : laws_eqInt64S xs xs = some true := by
  unfold laws_eqInt64S
  have := loop_eq (f := laws_eqInt64S_B1 xs xs) (Sum.inl ()) xs.length (fun i hi => by
    unfold laws_eqInt64S_B1
    simp only [ltN hi, cond_true, guard_pos (idxN hi), bne_self_eq_false, cond_false, nextN hi (by omega)]) (by
    unfold laws_eqInt64S_B1
    simp only [geN (Nat.le_refl _), cond_false])
  simp only [bne_self_eq_false, cond_false, this, Option.bind_some]

theorem eqBoolS_ok {xs : List Bool} (h : xs.length ≤ 1048576) : laws_eqBoolS xs xs = some true := by
  unfold laws_eqBoolS
  have := loop_eq (f := laws_eqBoolS_B1 xs xs) (Sum.inl ()) xs.length (fun i hi => by
    unfold laws_eqBoolS_B1
    simp only [ltN hi, cond_true, guard_pos (idxN hi), bne_self_eq_false, cond_false, nextN hi (by omega)]) (by
    unfold laws_eqBoolS_B1
    simp only [geN (Nat.le_refl _), cond_false])
  simp only [bne_self_eq_false, cond_false, this, Option.bind_some]

theorem szPlain_ok {x0 : Int} {x1 : Int} {x2 : List Int} {x3 : List Bool} {n : Int} (hx2 : x2.length ≤ 9223372036854775807) (hx3 : x3.length ≤ 9223372036854775807) (hn : 0 ≤ n ∧ n ≤ 1048576) : ∃ m, laws_szPlain (x0, x1, x2, x3) n = some m ∧ (m < 0 ∨ ((x2.length ≤ 1048576 ∧ x3.length ≤ 1048576) ∧ 0 ≤ m ∧ m ≤ n)) := by
  unfold laws_szPlain
  obtain ⟨m1, h1, k1⟩ := szInt64S_ok (n := n) (xs := x2) hx2 (by omega)
  simp only [h1, Option.bind_some]
  by_cases c1 : m1 < 0
  · simp only [c1, decide_true, cond_true]; exact ⟨-1, rfl, .inl (by omega)⟩
  · obtain ⟨g1, p1, q1⟩ := k1.resolve_left c1
    simp only [c1, decide_false, cond_false]
    obtain ⟨m2, h2, k2⟩ := szBoolS_ok (n := m1) (xs := x3) hx3 (by omega)
    simp only [h2, Option.bind_some]
    by_cases c2 : m2 < 0
    · simp only [c2, decide_true, cond_true]; exact ⟨-1, rfl, .inl (by omega)⟩
    · obtain ⟨g2, p2, q2⟩ := k2.resolve_left c2
      simp only [c2, decide_false, cond_false]
      exact ⟨_, rfl, .inr ⟨⟨g1, g2⟩, by omega, by omega⟩⟩

theorem toPlain_ok {x0 : Int} {x1 : Int} {x2 : List Int} {x3 : List Bool} (hx2 : x2.length ≤ 1048576) (hx3 : x3.length ≤ 1048576) : laws_toPlain (x0, x1, x2, x3) = some (x0, x1, x2, x3) := by
  unfold laws_toPlain
  simp only [toInt64S_ok hx2, toBoolS_ok hx3, Option.bind_some]

theorem eqPlain_ok {x0 : Int} {x1 : Int} {x2 : List Int} {x3 : List Bool} (hx2 : x2.length ≤ 1048576) (hx3 : x3.length ≤ 1048576) : laws_eqPlain (x0, x1, x2, x3) (x0, x1, x2, x3) = some true := by
  unfold laws_eqPlain
  simp only [eqInt64S_ok hx2, eqBoolS_ok hx3, Option.bind_some, bne_self_eq_false, Bool.not_true, cond_false, decide_true]

theorem szKept_ok {x0 : List UInt8} {x1 : Int} {x2 : Int} {x3 : List Int} {x4 : List Bool} {n : Int} (hx0 : x0.length ≤ 9223372036854775807) (hx3 : x3.length ≤ 9223372036854775807) (hx4 : x4.length ≤ 9223372036854775807) (hn : 0 ≤ n ∧ n ≤ 1048576) : ∃ m, laws_szKept (x0, x1, x2, x3, x4) n = some m ∧ (m < 0 ∨ ((x0.length ≤ 1048576 ∧ x3.length ≤ 1048576 ∧ x4.length ≤ 1048576) ∧ 0 ≤ m ∧ m ≤ n)) := by
  unfold laws_szKept
  have e1 : wsub .i64 n (lenI x0) = n - (x0.length : Int) := i64_in _ (by simp only [lenI]; omega)
  by_cases c1 : n - (x0.length : Int) < 0
  · simp only [e1, c1, decide_true, cond_true]; exact ⟨-1, rfl, .inl (by omega)⟩
  · simp only [e1, c1, decide_false, cond_false]
    have g1 : x0.length ≤ 1048576 := by omega
    obtain ⟨m2, h2, k2⟩ := szPlain_ok (n := n - (x0.length : Int)) (x0 := x1) (x1 := x2) (x2 := x3) (x3 := x4) hx3 hx4 (by omega)
    simp only [h2, Option.bind_some]
    by_cases c2 : m2 < 0
    · simp only [c2, decide_true, cond_true]; exact ⟨-1, rfl, .inl (by omega)⟩
    · obtain ⟨g2, p2, q2⟩ := k2.resolve_left c2
      simp only [c2, decide_false, cond_false]
      exact ⟨_, rfl, .inr ⟨⟨g1, g2.1, g2.2⟩, by omega, by omega⟩⟩

theorem toKept_ok {x0 : List UInt8} {x1 : Int} {x2 : Int} {x3 : List Int} {x4 : List Bool} (hx0 : x0.length ≤ 1048576) (hx3 : x3.length ≤ 1048576) (hx4 : x4.length ≤ 1048576) : laws_toKept (x0, x1, x2, x3, x4) = some (x0, x1, x2, x3, x4) := by
  unfold laws_toKept
  simp only [toPlain_ok hx3 hx4, Option.bind_some]

theorem eqKept_ok {x0 : List UInt8} {x1 : Int} {x2 : Int} {x3 : List Int} {x4 : List Bool} (hx0 : x0.length ≤ 1048576) (hx3 : x3.length ≤ 1048576) (hx4 : x4.length ≤ 1048576) : laws_eqKept (x0, x1, x2, x3, x4) (x0, x1, x2, x3, x4) = some true := by
  unfold laws_eqKept
  simp only [eqPlain_ok hx3 hx4, Option.bind_some, bne_self_eq_false, Bool.not_true, cond_false, decide_true]

theorem szKeptS_ok {xs : List (List UInt8 × Int × Int × List Int × List Bool)} {n : Int} (hx : (xs.length ≤ 9223372036854775807 ∧ ∀ y ∈ xs, y.1.length ≤ 9223372036854775807 ∧ y.2.2.2.1.length ≤ 9223372036854775807 ∧ y.2.2.2.2.length ≤ 9223372036854775807)) (hn : 0 ≤ n ∧ n ≤ 1048576) : ∃ m, laws_szKeptS xs n = some m ∧ (m < 0 ∨ ((xs.length ≤ 1048576 ∧ ∀ y ∈ xs, y.1.length ≤ 1048576 ∧ y.2.2.2.1.length ≤ 1048576 ∧ y.2.2.2.2.length ≤ 1048576) ∧ 0 ≤ m ∧ m ≤ n)) := by
  obtain ⟨hx, hh⟩ := hx
  unfold laws_szKeptS
  have e : wsub .i64 n (lenI xs) = n - (xs.length : Int) := i64_in _ (by simp only [lenI]; omega)
  rw [e]
  by_cases h : n - (xs.length : Int) < 0
  · exact ⟨-1, by simp only [h, decide_true, cond_true], .inl (by omega)⟩
  · rcases loop_sz (f := laws_szKeptS_B1 xs) (u := ()) xs (([] : List UInt8), (0 : Int), (0 : Int), ([] : List Int), ([] : List Bool)) (fun y => y.1.length ≤ 1048576 ∧ y.2.2.2.1.length ≤ 1048576 ∧ y.2.2.2.2.length ≤ 1048576) (n - (xs.length : Int)) (by omega) (fun i n' hi h1 h2 => by
      have he := hh _ (mem_getD hi (([] : List UInt8), (0 : Int), (0 : Int), ([] : List Int), ([] : List Bool)))
      obtain ⟨m, e1, e2⟩ := szKept_ok (n := n') (x0 := ((List.getD xs i (([] : List UInt8), (0 : Int), (0 : Int), ([] : List Int), ([] : List Bool))).1)) (x1 := (((List.getD xs i (([] : List UInt8), (0 : Int), (0 : Int), ([] : List Int), ([] : List Bool))).2).1)) (x2 := ((((List.getD xs i (([] : List UInt8), (0 : Int), (0 : Int), ([] : List Int), ([] : List Bool))).2).2).1)) (x3 := (((((List.getD xs i (([] : List UInt8), (0 : Int), (0 : Int), ([] : List Int), ([] : List Bool))).2).2).2).1)) (x4 := (((((List.getD xs i (([] : List UInt8), (0 : Int), (0 : Int), ([] : List Int), ([] : List Bool))).2).2).2).2)) he.1 he.2.1 he.2.2 (by omega)
      refine ⟨m, ?_, e2⟩
      unfold laws_szKeptS_B1
      simp only [ltN hi, cond_true, guard_pos (idxN hi), Int.toNat_natCast, e1, Option.bind_some, nextN hi (by omega)]
      by_cases hm : m < 0
      · simp only [hm, decide_true, cond_true, if_true]
      · simp only [hm, decide_false, cond_false, if_false]) (fun n' => by
      unfold laws_szKeptS_B1
      simp only [geN (Nat.le_refl _), cond_false]) with ⟨m, e1, e2, e3, e4⟩ | e1
    · exact ⟨m, by simp only [h, decide_false, cond_false, e1, Option.bind_some], .inr ⟨⟨by omega, e4⟩, by omega, by omega⟩⟩
    · exact ⟨-1, by simp only [h, decide_false, cond_false, e1, Option.bind_some], .inl (by omega)⟩

theorem toKeptS_ok {xs : List (List UInt8 × Int × Int × List Int × List Bool)} (h : (xs.length ≤ 1048576 ∧ ∀ y ∈ xs, y.1.length ≤ 1048576 ∧ y.2.2.2.1.length ≤ 1048576 ∧ y.2.2.2.2.length ≤ 1048576)) : laws_toKeptS xs = some xs := by
  obtain ⟨h, hh⟩ := h
  unfold laws_toKeptS
  rw [guard_pos ⟨by simp only [lenI]; omega, by simp only [lenI]; omega⟩]
  have := loop_to (f := laws_toKeptS_B1 xs) xs (([] : List UInt8), (0 : Int), (0 : Int), ([] : List Int), ([] : List Bool)) (fun i out hi hl => by
    have he := hh _ (mem_getD hi (([] : List UInt8), (0 : Int), (0 : Int), ([] : List Int), ([] : List Bool)))
    unfold laws_toKeptS_B1
    simp only [ltN hi, cond_true, guard_pos (idxN hi), guard_pos (idxN (i := i) (n := out.length) (by omega)), Int.toNat_natCast, nextN hi (by omega), toKept_ok (x0 := ((List.getD xs i (([] : List UInt8), (0 : Int), (0 : Int), ([] : List Int), ([] : List Bool))).1)) (x1 := (((List.getD xs i (([] : List UInt8), (0 : Int), (0 : Int), ([] : List Int), ([] : List Bool))).2).1)) (x2 := ((((List.getD xs i (([] : List UInt8), (0 : Int), (0 : Int), ([] : List Int), ([] : List Bool))).2).2).1)) (x3 := (((((List.getD xs i (([] : List UInt8), (0 : Int), (0 : Int), ([] : List Int), ([] : List Bool))).2).2).2).1)) (x4 := (((((List.getD xs i (([] : List UInt8), (0 : Int), (0 : Int), ([] : List Int), ([] : List Bool))).2).2).2).2)) he.1 he.2.1 he.2.2, Option.bind_some]
    try rfl) (fun out hl => by
    unfold laws_toKeptS_B1
    simp only [geN (Nat.le_refl _), cond_false])
  simp only [Int.toNat_natCast, this, Option.bind_some]

theorem eqKeptS_ok {xs : List (List UInt8 × Int × Int × List Int × List Bool)} (h : (xs.length ≤ 1048576 ∧ ∀ y ∈ xs, y.1.length ≤ 1048576 ∧ y.2.2.2.1.length ≤ 1048576 ∧ y.2.2.2.2.length ≤ 1048576)) : laws_eqKeptS xs xs = some true := by
  obtain ⟨h, hh⟩ := h
  unfold laws_eqKeptS
  have := loop_eq (f := laws_eqKeptS_B1 xs xs) (Sum.inl ()) xs.length (fun i hi => by
    have he := hh _ (mem_getD hi (([] : List UInt8), (0 : Int), (0 : Int), ([] : List Int), ([] : List Bool)))
    unfold laws_eqKeptS_B1
    simp only [ltN hi, cond_true, guard_pos (idxN hi), Int.toNat_natCast, eqKept_ok (x0 := ((List.getD xs i (([] : List UInt8), (0 : Int), (0 : Int), ([] : List Int), ([] : List Bool))).1)) (x1 := (((List.getD xs i (([] : List UInt8), (0 : Int), (0 : Int), ([] : List Int), ([] : List Bool))).2).1)) (x2 := ((((List.getD xs i (([] : List UInt8), (0 : Int), (0 : Int), ([] : List Int), ([] : List Bool))).2).2).1)) (x3 := (((((List.getD xs i (([] : List UInt8), (0 : Int), (0 : Int), ([] : List Int), ([] : List Bool))).2).2).2).1)) (x4 := (((((List.getD xs i (([] : List UInt8), (0 : Int), (0 : Int), ([] : List Int), ([] : List Bool))).2).2).2).2)) he.1 he.2.1 he.2.2, Option.bind_some, Bool.not_true, cond_false, nextN hi (by omega)]) (by
    unfold laws_eqKeptS_B1
    simp only [geN (Nat.le_refl _), cond_false])
  simp only [bne_self_eq_false, cond_false, this, Option.bind_some]

end Go.Proofs


namespace Go.Proofs
open Go.Ide Go.IntWalk

theorem in64 (a b c : Int) : spec_l00In a b c = some (decide (a ≥ b) && decide (a ≤ c)) := by
  unfold spec_l00In
  cases h : decide (a ≥ b) <;> simp
theorem within64 (a b c : Int) : impl_within a b c = some (decide (a ≥ b) && decide (a ≤ c)) := by
  unfold impl_within
  cases h : decide (a ≥ b) <;> simp

/-- All between. -/
def allIn (xs : List Int) (b c : Int) : Bool := xs.all fun x => decide (x ≥ b) && decide (x ≤ c)

theorem allIn_iff {xs : List Int} {b c : Int} : allIn xs b c = true ↔ ∀ i, i < xs.length → b ≤ xs.getD i 0 ∧ xs.getD i 0 ≤ c := by
  unfold allIn
  rw [List.all_eq_true]
  constructor
  · intro h i hi
    have := h xs[i] (List.getElem_mem hi)
    simp only [Bool.and_eq_true, decide_eq_true_eq] at this
    rw [List.getD_eq_getElem?_getD, List.getElem?_eq_getElem hi]
    exact ⟨this.1, this.2⟩
  · intro h x hx
    obtain ⟨i, hi, rfl⟩ := List.getElem_of_mem hx
    have := h i hi
    rw [List.getD_eq_getElem?_getD, List.getElem?_eq_getElem hi] at this
    simp only [Bool.and_eq_true, decide_eq_true_eq]
    exact ⟨this.1, this.2⟩

theorem allN_in (xs : List Int) (b c : Int) : allN (fun i => decide (xs.getD i 0 ≥ b) && decide (xs.getD i 0 ≤ c)) xs.length 0 = allIn xs b c := by
  rw [Bool.eq_iff_iff, allN_iff, allIn_iff]
  constructor
  · intro h i hi
    have := h i (by omega) (by omega)
    simp only [Bool.and_eq_true, decide_eq_true_eq] at this
    exact ⟨this.1, this.2⟩
  · intro h i _ hi
    have := h i (by omega)
    simp only [Bool.and_eq_true, decide_eq_true_eq]
    exact ⟨this.1, this.2⟩

theorem areWithin64 {xs : List Int} {b c : Int} (h : xs.length ≤ 4294967296) : impl_areWithin xs b c = some (allIn xs b c) := by
  unfold impl_areWithin
  have := rounds_all (f := impl_areWithin_B1 xs b c) (fun i => ((i : Nat) : Int)) (fun i => decide (xs.getD i 0 ≥ b) && decide (xs.getD i 0 ≤ c)) (Sum.inl ()) (Sum.inr ()) (n := xs.length) (fun i hi => by
    unfold impl_areWithin_B1
    simp only [ltN hi, cond_true, guard_pos (idxN hi), Int.toNat_natCast, within64, Option.bind_some, nextN hi h]
    cases (decide (xs.getD i 0 ≥ b) && decide (xs.getD i 0 ≤ c)) <;> rfl) (by
    unfold impl_areWithin_B1
    simp only [geN (Nat.le_refl _), cond_false]) xs.length 0 (by omega)
  rw [allN_in] at this
  simp only [Int.natCast_zero] at this
  simp only [this, Option.bind_some]
  cases allIn xs b c <;> rfl

/-- A plain machine is as it must be. -/
def okPlain (s l : Int) (nx : List Int) (es : List Bool) : Bool :=
  (decide (s ≥ 1) && decide (s ≤ 64)) && ((decide (l ≥ 1) && decide (l ≤ 4)) && ((lenI nx == wmul .i64 s l) && ((lenI es == s) && allIn nx 0 (wsub .i64 s 1))))

theorem specPlain {s l : Int} {nx : List Int} {es : List Bool} (h : nx.length ≤ 4294967296) : spec_l02Plain (s, l, nx, es) = some (okPlain s l nx es) := by
  unfold spec_l02Plain okPlain
  simp only [in64, Option.bind_some]
  have := rounds_all (f := spec_l02Plain_B1 (s, l, nx, es)) (fun i => ((i : Nat) : Int)) (fun i => decide (nx.getD i 0 ≥ 0) && decide (nx.getD i 0 ≤ wsub .i64 s 1)) (Sum.inl ()) (Sum.inr ()) (n := nx.length) (fun i hi => by
    unfold spec_l02Plain_B1
    simp only [ltN hi, cond_true, guard_pos (idxN hi), Int.toNat_natCast, in64, Option.bind_some, nextN hi h]
    cases (decide (nx.getD i 0 ≥ 0) && decide (nx.getD i 0 ≤ wsub .i64 s 1)) <;> rfl) (by
    unfold spec_l02Plain_B1
    simp only [geN (Nat.le_refl _), cond_false]) nx.length 0 (by omega)
  rw [allN_in] at this
  simp only [Int.natCast_zero] at this
  simp only [this, Option.bind_some, bne]
  cases (decide (s ≥ 1) && decide (s ≤ 64)) <;> cases (decide (l ≥ 1) && decide (l ≤ 4)) <;> cases (lenI nx == wmul .i64 s l) <;> cases (lenI es == s) <;> cases allIn nx 0 (wsub .i64 s 1) <;> rfl

theorem implPlain {s l : Int} {nx : List Int} {es : List Bool} (h : nx.length ≤ 4294967296) : impl_ValidPlain (s, l, nx, es) = some (okPlain s l nx es) := by
  unfold impl_ValidPlain okPlain
  simp only [within64, areWithin64 h, Option.bind_some]
  cases (decide (s ≥ 1) && decide (s ≤ 64)) <;> cases (decide (l ≥ 1) && decide (l ≤ 4)) <;> cases (lenI nx == wmul .i64 s l) <;> cases (lenI es == s) <;> cases allIn nx 0 (wsub .i64 s 1) <;> rfl

theorem okPlain_spec {s l : Int} {nx : List Int} {es : List Bool} (h : okPlain s l nx es = true) : ∃ m c : Nat, s = (m : Int) ∧ l = (c : Int) ∧ 1 ≤ m ∧ m ≤ 64 ∧ 1 ≤ c ∧ c ≤ 4 ∧ nx.length = m * c ∧ es.length = m ∧ ∀ i, i < m * c → ∃ t : Nat, nx.getD i 0 = (t : Int) ∧ t < m := by
  unfold okPlain at h
  simp only [Bool.and_eq_true, decide_eq_true_eq, beq_iff_eq] at h
  obtain ⟨⟨h1, h2⟩, ⟨h3, h4⟩, h5, h6, h7⟩ := h
  obtain ⟨m, rfl⟩ : ∃ n : Nat, s = (n : Int) := ⟨s.toNat, by omega⟩
  obtain ⟨c, rfl⟩ : ∃ n : Nat, l = (n : Int) := ⟨l.toNat, by omega⟩
  have hmc : m * c ≤ 64 * 4 := Nat.mul_le_mul (by omega) (by omega)
  rw [wmulI (by rw [← Int.natCast_mul]; omega), ← Int.natCast_mul] at h5
  have hl : nx.length = m * c := by simp only [lenI] at h5; omega
  refine ⟨m, c, rfl, rfl, by omega, by omega, by omega, by omega, hl, by simp only [lenI] at h6; omega, fun i hi => ?_⟩
  have := allIn_iff.1 h7 i (by omega)
  rw [wsubI (by omega)] at this
  exact ⟨(nx.getD i 0).toNat, by omega, by omega⟩

/-- A loop's words are words. -/
def okLoop (xs ys : List Int) (L : Int) : Bool := (decide (L ≥ 1) && decide (L ≤ 4)) && ((allIn xs 0 (wsub .i64 L 1) && decide (lenI xs ≤ 12)) && ((allIn ys 0 (wsub .i64 L 1) && decide (lenI ys ≤ 12)) && decide (lenI ys ≥ 1)))

/-- A list's numbers are letters. -/
def Letters (c : Nat) (xs : List Int) : Prop := ∀ i, i < xs.length → ∃ a : Nat, xs.getD i 0 = (a : Int) ∧ a < c

theorem okLoop_spec {xs ys : List Int} {c : Nat} (h : okLoop xs ys (c : Int) = true) : xs.length ≤ 12 ∧ ys.length ≤ 12 ∧ 1 ≤ ys.length ∧ Letters c xs ∧ Letters c ys := by
  unfold okLoop at h
  simp only [Bool.and_eq_true, decide_eq_true_eq, lenI] at h
  obtain ⟨⟨h1, h2⟩, ⟨h3, h4⟩, ⟨h5, h6⟩, h7⟩ := h
  rw [wsubI (by omega)] at h3 h5
  refine ⟨by omega, by omega, by omega, fun i hi => ?_, fun i hi => ?_⟩
  · have := allIn_iff.1 h3 i hi
    exact ⟨(xs.getD i 0).toNat, by omega, by omega⟩
  · have := allIn_iff.1 h5 i hi
    exact ⟨(ys.getD i 0).toNat, by omega, by omega⟩

/-- A valid machine. -/
structure Plain (m c : Nat) (nx : List Int) (es : List Bool) : Prop where
  m1 : 1 ≤ m
  m2 : m ≤ 64
  c1 : 1 ≤ c
  c2 : c ≤ 4
  len : nx.length = m * c
  ends : es.length = m
  to : ∀ i, i < m * c → ∃ t : Nat, nx.getD i 0 = (t : Int) ∧ t < m

/-- The next state. -/
def goP (c : Nat) (nx : List Int) (s : Nat) (a : Int) : Nat := (nx.getD (s * c + a.toNat) 0).toNat

def walkP (c : Nat) (nx : List Int) (s : Nat) (w : List Int) : Nat := w.foldl (goP c nx) s

theorem place_lt {m c s a : Nat} (hs : s < m) (ha : a < c) : s * c + a < m * c := by
  have : s * c + c ≤ m * c := by
    rw [← Nat.succ_mul]
    exact Nat.mul_le_mul_right c hs
  omega

section
variable {m c : Nat} {nx : List Int} {es : List Bool} (hp : Plain m c nx es)
include hp

theorem goP_lt {s : Nat} {a : Int} {k : Nat} (hs : s < m) (ha : a = (k : Int)) (hk : k < c) : goP c nx s a < m := by
  subst ha
  obtain ⟨t, h1, h2⟩ := hp.to (s * c + k) (place_lt hs hk)
  unfold goP
  rw [Int.toNat_natCast, h1]
  simpa using h2

theorem walk_lt {w : List Int} (hw : Letters c w) : ∀ (k : Nat) {s : Nat}, s < m → walkP c nx s (w.take k) < m := by
  intro k
  induction k with
  | zero => intro s hs; simpa [walkP] using hs
  | succ k ih =>
    intro s hs
    by_cases hk : k < w.length
    · rw [take_snoc hk 0]
      unfold walkP
      rw [List.foldl_append]
      obtain ⟨a, e, ha⟩ := hw k hk
      exact goP_lt hp (ih hs) e ha
    · have e : w.take (k + 1) = w.take k := by rw [List.take_of_length_le (by omega), List.take_of_length_le (by omega)]
      rw [e]; exact ih hs

end

theorem walk_succ {c : Nat} {nx w : List Int} {s k : Nat} (hk : k < w.length) : walkP c nx s (w.take (k + 1)) = goP c nx (walkP c nx s (w.take k)) (w.getD k 0) := by
  rw [take_snoc hk 0]; unfold walkP; rw [List.foldl_append]; rfl

end Go.Proofs


namespace Go.Proofs
open Go.Ide Go.IntWalk

/-- A name. -/
def okName (s : List UInt8) : Bool := allN (fun i => !(decide (ub s i < 97) || decide (ub s i > 122))) s.length 0 && (decide (lenI s ≥ 1) && decide (lenI s ≤ 8))

theorem impl_name {s : List UInt8} (h : s.length ≤ 4294967296) : impl_IsName s = some (okName s) := by
  unfold impl_IsName okName
  have := rounds_all (f := impl_IsName_B1 s) (fun i => ((i : Nat) : Int)) (fun i => !(decide (ub s i < 97) || decide (ub s i > 122))) (Sum.inl ()) (Sum.inr ()) (n := s.length) (fun i hi => by
    unfold impl_IsName_B1
    have e : ((((List.getD s i 0 : UInt8).toNat : Nat)) : Int) = ub s i := rfl
    simp only [ltN hi, cond_true, guard_pos (idxN hi), Int.toNat_natCast, nextN hi h, e]
    cases decide (ub s i < 97) <;> cases decide (ub s i > 122) <;> rfl) (by
    unfold impl_IsName_B1
    simp only [geN (Nat.le_refl _), cond_false]) s.length 0 (by omega)
  simp only [Int.natCast_zero] at this
  simp only [this, Option.bind_some]
  cases allN (fun i => !(decide (ub s i < 97) || decide (ub s i > 122))) s.length 0 <;> cases decide (lenI s ≥ 1) <;> cases decide (lenI s ≤ 8) <;> rfl

theorem spec_name {s : List UInt8} (h : s.length ≤ 4294967296) : spec_l07Name s = some (okName s) := (show spec_l07Name s = impl_IsName s from rfl).trans (impl_name h)

/-- The check number. -/
def chkS (s : List UInt8) (i : Nat) (n : Int) : Int := Int.tmod (wadd .i64 (wadd .i64 (wmul .i64 919 n) (IntKind.wrap .i64 (ub s i))) 191) 65003
def chk (s : List UInt8) : Int := forS (chkS s) s.length 0 0

theorem chkS_range {s : List UInt8} {i : Nat} {n : Int} (h : 0 ≤ n ∧ n ≤ 65002) : 0 ≤ chkS s i n ∧ chkS s i n ≤ 65002 := by
  have hu := ub_range s i
  unfold chkS
  rw [ub_wrap, wmulI (by omega), waddI (a := 919 * n) (b := ub s i) (by omega), waddI (by omega)]
  have h1 : 0 ≤ 919 * n + ub s i + 191 := by omega
  have h2 := Int.tmod_nonneg 65003 h1
  have h3 := Int.tmod_lt_of_pos (919 * n + ub s i + 191) (show (0 : Int) < 65003 by decide)
  omega

theorem impl_check {s : List UInt8} (h : s.length ≤ 4294967296) : impl_CheckOf 0 s = some (chk s, true) ∧ 0 ≤ chk s ∧ chk s ≤ 65002 := by
  have := rounds_forS (f := impl_CheckOf_B1 s) (fun i n => (n, ((i : Nat) : Int))) (chkS s) id (n := s.length) (fun i n => 0 ≤ n ∧ n ≤ 65002) (fun i n hi hn => ⟨by
    unfold impl_CheckOf_B1
    have e : ((((List.getD s i 0 : UInt8).toNat : Nat)) : Int) = ub s i := rfl
    simp only [ltN hi, cond_true, guard_pos (idxN hi), Int.toNat_natCast, nextN hi h, e]
    rfl, chkS_range hn⟩) (fun n _ => by
    unfold impl_CheckOf_B1
    simp only [geN (Nat.le_refl _), cond_false]; rfl) s.length 0 0 (by omega) (by omega)
  simp only [Int.natCast_zero] at this
  refine ⟨?_, this.2⟩
  unfold impl_CheckOf
  simp only [within64, Option.bind_some, this.1]
  rfl

theorem spec_check {s : List UInt8} (h : s.length ≤ 4294967296) : spec_l01Check 0 s = some (chk s) := by
  have h1 := (impl_check h).1
  unfold impl_CheckOf at h1
  simp only [within64, Option.bind_some] at h1
  have e : spec_l01Check 0 s = (rounds (impl_CheckOf_B1 s) (0, 0)).bind fun r3 => some r3 := rfl
  rw [e]
  cases hr : rounds (impl_CheckOf_B1 s) (0, 0) with
  | none =>
    rw [hr] at h1
    cases h1
  | some r =>
    rw [hr] at h1
    have h1 : some (r, true) = some (chk s, true) := h1
    injection h1 with h1
    injection h1 with h1 _
    rw [h1]; rfl

def okKept (nm : List UInt8) (s l : Int) (nx : List Int) (es : List Bool) : Bool := okName nm && okPlain s l nx es

section
variable {nm : List UInt8} {s l : Int} {nx : List Int} {es : List Bool} (hn : nm.length ≤ 4294967296) (hx : nx.length ≤ 4294967296)
include hn hx

theorem spec_kept : spec_l07Kept (nm, s, l, nx, es) = some (okKept nm s l nx es) := by
  unfold spec_l07Kept okKept
  simp only [spec_name hn, specPlain hx, Option.bind_some]
  cases okName nm <;> rfl

theorem impl_kept : impl_ValidKept (nm, s, l, nx, es) = some (okKept nm s l nx es) := by
  unfold impl_ValidKept okKept
  simp only [impl_name hn, implPlain hx, Option.bind_some]
  cases okName nm <;> rfl
end

/-- What is stored, ahead of the check number. -/
def storeHd (nm : List UInt8) (s l : Int) : List Int := (([65, 85, 84, 49] ++ [IntKind.wrap .u8 (lenI nm)]) ++ bytesI nm) ++ [IntKind.wrap .u8 s, IntKind.wrap .u8 l]
def storeBody (nm : List UInt8) (s l : Int) (nx : List Int) (es : List Bool) : List Int :=
  (storeHd nm s l ++ (List.range nx.length).map fun i => IntKind.wrap .u8 (nx.getD i 0)) ++ (List.range es.length).map fun i => if es.getD i false then 1 else 0
def storeB (nm : List UInt8) (s l : Int) (nx : List Int) (es : List Bool) : List UInt8 :=
  bytesO (storeBody nm s l nx es ++ [IntKind.wrap .u8 (chk (bytesO (storeBody nm s l nx es))), IntKind.wrap .u8 (chk (bytesO (storeBody nm s l nx es)) / 256)])

theorem storeHd_len (nm : List UInt8) (s l : Int) : (storeHd nm s l).length = nm.length + 7 := by
  unfold storeHd
  simp only [List.length_append, List.length_cons, List.length_nil, bytesI_len]
  omega
theorem storeBody_len (nm : List UInt8) (s l : Int) (nx : List Int) (es : List Bool) : (storeBody nm s l nx es).length = nm.length + 7 + nx.length + es.length := by
  unfold storeBody
  simp only [List.length_append, storeHd_len, List.length_map, List.length_range]
theorem storeB_len (nm : List UInt8) (s l : Int) (nx : List Int) (es : List Bool) : (storeB nm s l nx es).length = nm.length + 9 + nx.length + es.length := by
  unfold storeB
  simp only [bytesO_len, List.length_append, storeBody_len, List.length_cons, List.length_nil]
  omega

theorem okKept_len {nm : List UInt8} {s l : Int} {nx : List Int} {es : List Bool} (h : okKept nm s l nx es = true) : nm.length ≤ 8 ∧ nx.length ≤ 256 ∧ es.length ≤ 64 := by
  unfold okKept okName at h
  simp only [Bool.and_eq_true, decide_eq_true_eq, lenI] at h
  obtain ⟨⟨_, h1, h2⟩, h3⟩ := h
  obtain ⟨m, c, rfl, rfl, a1, a2, a3, a4, a5, a6, _⟩ := okPlain_spec h3
  have : m * c ≤ 64 * 4 := Nat.mul_le_mul a2 a4
  omega

section
variable {nm : List UInt8} {s l : Int} {nx : List Int} {es : List Bool} (hn : nm.length ≤ 1048576) (hx : nx.length ≤ 1048576) (he : es.length ≤ 1048576)
include hn hx he

theorem spec_store : spec_l07Store (nm, s, l, nx, es) = some (storeB nm s l nx es) := by
  have hd := storeHd_len nm s l
  have hb := storeBody_len nm s l nx es
  have e2 := loop_app (f := spec_l07Store_B2 (nm, s, l, nx, es)) (fun i => IntKind.wrap .u8 (nx.getD i 0)) nx.length (storeHd nm s l) (fun i out hi ho => by
    unfold spec_l07Store_B2
    simp only [ltN hi, cond_true, guard_pos (idxN hi), Int.toNat_natCast, nextN hi (by omega)]
    rw [guard_pos (appOK (by simp only [List.length_cons, List.length_nil]; omega))]) (fun out => by
    unfold spec_l07Store_B2
    simp only [geN (Nat.le_refl _), cond_false])
  have e1 := loop_app (f := spec_l07Store_B1 (nm, s, l, nx, es)) (fun i => if es.getD i false then (1 : Int) else 0) es.length (storeHd nm s l ++ (List.range nx.length).map fun i => IntKind.wrap .u8 (nx.getD i 0)) (fun i out hi ho => by
    unfold spec_l07Store_B1
    have hl : out.length = nm.length + 7 + nx.length + i := by rw [ho]; simp only [List.length_append, hd, List.length_map, List.length_range]
    have g : ∀ v : Int, List.length out + List.length ([v] : List Int) ≤ appMax := fun v => appOK (by simp only [List.length_cons, List.length_nil]; omega)
    simp only [ltN hi, cond_true, guard_pos (idxN hi), Int.toNat_natCast, nextN hi (by omega)]
    cases es.getD i false with
    | true => simp only [cond_true, if_true, Option.bind_some, guard_pos (g 1)]
    | false => simp only [cond_false, Bool.false_eq_true, if_false, Option.bind_some, guard_pos (g 0)]) (fun out => by
    unfold spec_l07Store_B1
    simp only [geN (Nat.le_refl _), cond_false])
  have hc := impl_check (s := bytesO (storeBody nm s l nx es)) (by rw [bytesO_len]; omega)
  have hs := spec_check (s := bytesO (storeBody nm s l nx es)) (by rw [bytesO_len]; omega)
  unfold spec_l07Store
  have e2' : rounds (spec_l07Store_B2 (nm, s, l, nx, es)) ((0 : Int), (((([(65 : Int), (85 : Int), (84 : Int), (49 : Int)] : List Int) ++ ([(IntKind.wrap .u8 (lenI nm))] : List Int)) ++ (bytesI nm)) ++ ([(IntKind.wrap .u8 s), (IntKind.wrap .u8 l)] : List Int))) = _ := e2
  have e1' : rounds (spec_l07Store_B1 (nm, s, l, nx, es)) ((0 : Int), storeHd nm s l ++ (List.range nx.length).map fun i => IntKind.wrap .u8 (nx.getD i 0)) = some (storeBody nm s l nx es) := e1
  simp only [Option.bind_some]
  rw [guard_pos (appOK (by simp only [List.length_cons, List.length_nil]; omega)), guard_pos (show List.length nm ≤ appMax from by unfold appMax; omega), guard_pos (appOK (by simp only [List.length_append, List.length_cons, List.length_nil, bytesI_len]; omega)), guard_pos (appOK (by simp only [List.length_append, List.length_cons, List.length_nil, bytesI_len]; omega))]
  simp only [e2', Option.bind_some, e1', hs]
  generalize hk : chk (bytesO (storeBody nm s l nx es)) = k at hc
  obtain ⟨_, k0, k1⟩ := hc
  have m1 : IntKind.wrap .u8 (Int.tmod k 256) = IntKind.wrap .u8 k := by
    rw [IntKind.wrap_u8, IntKind.wrap_u8, Int.tmod_eq_emod_of_nonneg k0]; omega
  have m2 : IntKind.wrap .u8 (IntKind.wrap .i64 (Int.tdiv k 256)) = IntKind.wrap .u8 (k / 256) := by
    rw [Int.tdiv_eq_ediv_of_nonneg k0, i64_in _ (by omega)]
  rw [guard_pos (appOK (by simp only [List.length_cons, List.length_nil]; omega)), m1, m2]
  unfold storeB
  rw [hk]

theorem impl_store : impl_StoreKept (nm, s, l, nx, es) = some (if okKept nm s l nx es then (storeB nm s l nx es, true) else ([], false)) := by
  have hd := storeHd_len nm s l
  have hb := storeBody_len nm s l nx es
  unfold impl_StoreKept
  simp only [impl_kept (s := s) (l := l) (nx := nx) (es := es) (nm := nm) (by omega) (by omega), Option.bind_some]
  cases hok : okKept nm s l nx es with
  | false => rfl
  | true =>
    have e2 := loop_app (f := impl_StoreKept_B2 (nm, s, l, nx, es)) (fun i => IntKind.wrap .u8 (nx.getD i 0)) nx.length (storeHd nm s l) (fun i out hi ho => by
      unfold impl_StoreKept_B2
      simp only [ltN hi, cond_true, guard_pos (idxN hi), Int.toNat_natCast, nextN hi (by omega)]
      rw [guard_pos (appOK (by simp only [List.length_cons, List.length_nil]; omega))]) (fun out => by
      unfold impl_StoreKept_B2
      simp only [geN (Nat.le_refl _), cond_false])
    have e1 := loop_app (f := impl_StoreKept_B1 (nm, s, l, nx, es)) (fun i => if es.getD i false then (1 : Int) else 0) es.length (storeHd nm s l ++ (List.range nx.length).map fun i => IntKind.wrap .u8 (nx.getD i 0)) (fun i out hi ho => by
      unfold impl_StoreKept_B1
      have hl : out.length = nm.length + 7 + nx.length + i := by rw [ho]; simp only [List.length_append, hd, List.length_map, List.length_range]
      have g : ∀ v : Int, List.length out + List.length ([v] : List Int) ≤ appMax := fun v => appOK (by simp only [List.length_cons, List.length_nil]; omega)
      simp only [ltN hi, cond_true, guard_pos (idxN hi), Int.toNat_natCast, nextN hi (by omega)]
      cases es.getD i false with
      | true => simp only [cond_true, if_true, Option.bind_some, guard_pos (g 1)]
      | false => simp only [cond_false, Bool.false_eq_true, if_false, Option.bind_some, guard_pos (g 0)]) (fun out => by
      unfold impl_StoreKept_B1
      simp only [geN (Nat.le_refl _), cond_false])
    have hc := impl_check (s := bytesO (storeBody nm s l nx es)) (by rw [bytesO_len]; omega)
    have e2' : rounds (impl_StoreKept_B2 (nm, s, l, nx, es)) ((0 : Int), (((([(65 : Int), (85 : Int), (84 : Int), (49 : Int)] : List Int) ++ ([(IntKind.wrap .u8 (lenI nm))] : List Int)) ++ bytesI nm) ++ ([(IntKind.wrap .u8 s), (IntKind.wrap .u8 l)] : List Int))) = _ := e2
    have e1' : rounds (impl_StoreKept_B1 (nm, s, l, nx, es)) ((0 : Int), storeHd nm s l ++ (List.range nx.length).map fun i => IntKind.wrap .u8 (nx.getD i 0)) = some (storeBody nm s l nx es) := e1
    simp only [Bool.not_true, cond_false, if_true, Option.bind_some]
    rw [guard_pos (appOK (by simp only [List.length_cons, List.length_nil]; omega)), guard_pos (appOK (by simp only [List.length_append, List.length_cons, List.length_nil]; omega)), guard_pos (appOK (by simp only [List.length_append, List.length_cons, List.length_nil, bytesI_len]; omega))]
    simp only [e2', Option.bind_some, e1', hc.1]
    obtain ⟨_, k0, k1⟩ := hc
    have m2 : ∀ k : Int, Int.fdiv k (2 ^ (min (Int.toNat (8 : Int)) (IntKind.bits .i64))) = k / 256 := fun k => by
      have e : (2 : Int) ^ (min (Int.toNat (8 : Int)) (IntKind.bits .i64)) = 256 := by decide
      rw [e, Int.fdiv_eq_ediv_of_nonneg _ (by decide)]
    rw [guard_pos (appOK (by simp only [List.length_cons, List.length_nil]; omega)), m2]
    rfl
end

end Go.Proofs


/-
  Lists of machines that are kept: StoreKepts, SameKept.
-/
namespace Go.Proofs
open Go.Ide Go.IntWalk

abbrev KeptT := List UInt8 × Int × Int × List Int × List Bool

def kStep (ks : List KeptT) (i : Nat) (out : List UInt8) : List UInt8 ⊕ (List UInt8 ⊕ Unit) :=
  let k := ks.getD i ([], 0, 0, [], [])
  bif okKept k.1 k.2.1 k.2.2.1 k.2.2.2.1 k.2.2.2.2 then .inl (out ++ storeB k.1 k.2.1 k.2.2.1 k.2.2.2.1 k.2.2.2.2) else .inr (.inr ())

theorem StoreKepts_eq {x0_0 : List KeptT} (g : x0_0.length ≤ 1048576 ∧ ∀ y ∈ x0_0, y.1.length ≤ 1048576 ∧ y.2.2.2.1.length ≤ 1048576 ∧ y.2.2.2.2.length ≤ 1048576) :
    ∃ r, spec_StoreKepts x0_0 = some r ∧ impl_StoreKepts x0_0 = some r := by
  obtain ⟨g, gg⟩ := g
  unfold spec_StoreKepts impl_StoreKepts
  by_cases h8 : lenI x0_0 > 8
  · rw [decide_eq_true h8]; exact ⟨_, rfl, rfl⟩
  · rw [decide_eq_false h8]
    simp only [lenI] at h8
    simp only [cond_false]
    have inv : ∀ i (out : List UInt8), out.length ≤ i * 400 → ∀ s', kStep x0_0 i out = .inl s' → s'.length ≤ (i + 1) * 400 := by
      intro i out ho s' hg
      unfold kStep at hg
      simp only at hg
      generalize x0_0.getD i ([], 0, 0, [], []) = k at hg
      cases hk : okKept k.1 k.2.1 k.2.2.1 k.2.2.2.1 k.2.2.2.2 with
      | false => rw [hk] at hg; cases hg
      | true =>
        rw [hk] at hg
        simp only [cond_true] at hg
        injection hg with hg
        have := okKept_len hk
        rw [← hg, List.length_append, storeB_len]
        omega
    have s1 := rounds_for (f := spec_StoreKepts_B1 x0_0) (fun i (out : List UInt8) => (out, ((i : Nat) : Int))) (kStep x0_0) (fun out => .inl out) (n := x0_0.length) (fun i out => out.length ≤ i * 400)
      (fun i out hi ho => ⟨by
        have hm := gg _ (mem_getD hi ([], 0, 0, [], []))
        unfold spec_StoreKepts_B1 kStep
        simp only [ltN hi, cond_true, guard_pos (idxN hi), Int.toNat_natCast, nextN hi (show x0_0.length ≤ 4294967296 by omega)]
        generalize x0_0.getD i ([], 0, 0, [], []) = k at *
        obtain ⟨nm, s, l, nx, es⟩ := k
        simp only at hm
        simp only [spec_kept (nm := nm) (s := s) (l := l) (nx := nx) (es := es) (by omega) (by omega), Option.bind_some, spec_store (nm := nm) (s := s) (l := l) (nx := nx) (es := es) hm.1 hm.2.1 hm.2.2]
        cases hk : okKept nm s l nx es with
        | false => rfl
        | true =>
          have := okKept_len hk
          simp only [Bool.not_true, cond_false, cond_true]
          rw [guard_pos (by rw [storeB_len]; unfold appMax; omega)], inv i out ho⟩)
      (fun out _ => by
        unfold spec_StoreKepts_B1
        simp only [geN (Nat.le_refl _), cond_false]) x0_0.length 0 [] (by omega) (by simp)
    have s2 := rounds_for (f := impl_StoreKepts_B1 x0_0) (fun i (out : List UInt8) => (out, ((i : Nat) : Int))) (kStep x0_0) (fun out => .inl out) (n := x0_0.length) (fun i out => out.length ≤ i * 400)
      (fun i out hi ho => ⟨by
        have hm := gg _ (mem_getD hi ([], 0, 0, [], []))
        unfold impl_StoreKepts_B1 kStep
        simp only [ltN hi, cond_true, guard_pos (idxN hi), Int.toNat_natCast, nextN hi (show x0_0.length ≤ 4294967296 by omega), Option.bind_some]
        generalize x0_0.getD i ([], 0, 0, [], []) = k at *
        obtain ⟨nm, s, l, nx, es⟩ := k
        simp only at hm
        simp only [impl_store (nm := nm) (s := s) (l := l) (nx := nx) (es := es) hm.1 hm.2.1 hm.2.2, Option.bind_some]
        cases hk : okKept nm s l nx es with
        | false => rfl
        | true =>
          have := okKept_len hk
          simp only [if_true, Bool.not_true, cond_false, cond_true]
          rw [guard_pos (by rw [storeB_len]; unfold appMax; omega)], inv i out ho⟩)
      (fun out _ => by
        unfold impl_StoreKepts_B1
        simp only [geN (Nat.le_refl _), cond_false]) x0_0.length 0 [] (by omega) (by simp)
    simp only [Int.natCast_zero] at s1 s2
    rw [s1, s2]
    cases forN (kStep x0_0) (fun out => Sum.inl out) x0_0.length 0 [] with
    | inl x => exact ⟨_, rfl, rfl⟩
    | inr x => exact ⟨_, rfl, rfl⟩

/-- Two lists have the same elements. -/
def eqL {α : Type} [BEq α] (d : α) (xs ys : List α) : Bool := (lenI xs == lenI ys) && allN (fun i => xs.getD i d == ys.getD i d) xs.length 0

theorem loop_eqL {α : Type} [BEq α] {f : Int → Option (Int ⊕ (Unit ⊕ Unit))} (d : α) (xs ys : List α) (h : xs.length ≤ 4294967296)
    (hstep : ∀ i : Nat, i < xs.length → i < ys.length → f (i : Int) = some (bif xs.getD i d == ys.getD i d then .inl ((i + 1 : Nat) : Int) else .inr (.inr ())))
    (hend : f ((xs.length : Nat) : Int) = some (.inr (.inl ()))) (hl : (lenI xs == lenI ys) = true) : rounds f 0 = some (bif eqL d xs ys then .inl () else .inr ()) := by
  have hlen : xs.length = ys.length := by
    have := eq_of_beq hl
    simp only [lenI] at this
    omega
  have := rounds_all (f := f) (fun i => ((i : Nat) : Int)) (fun i => xs.getD i d == ys.getD i d) (Sum.inl ()) (Sum.inr ()) (n := xs.length) (fun i hi => hstep i hi (by omega)) hend xs.length 0 (by omega)
  rw [Int.natCast_zero] at this
  rw [this]
  unfold eqL
  rw [hl, Bool.true_and]

abbrev PlainT := Int × Int × List Int × List Bool

def sameP (p q : PlainT) : Bool := (p.1 == q.1) && ((p.2.1 == q.2.1) && (eqL 0 p.2.2.1 q.2.2.1 && eqL false p.2.2.2 q.2.2.2))

def sameK (p q : KeptT) : Bool := (p.1 == q.1) && sameP p.2 q.2

end Go.Proofs

namespace Go.Proofs
open Go.Ide Go.IntWalk

theorem StoreKepts_law (x0 : List (List UInt8 × Int × Int × List Int × List Bool)) (w0 : WfD (.sl (.st (.pair .str (.st (.pair (.int .i64) (.pair (.int .i64) (.pair (.sl (.int .i64)) (.sl .bool)))))))) x0) : laws_FnExactStoreKepts x0 = some true := by
  obtain ⟨x0_0, rfl⟩ : ∃ y, y = x0 := ⟨_, rfl⟩
  have hx0_0 : (x0_0.length ≤ 9223372036854775807 ∧ ∀ y ∈ x0_0, y.1.length ≤ 9223372036854775807 ∧ y.2.2.2.1.length ≤ 9223372036854775807 ∧ y.2.2.2.2.length ≤ 9223372036854775807) := ⟨Nat.le_trans (w0.1) (by decide), fun y hy => by
    have w := wf_mem (t := (.st (.pair .str (.st (.pair (.int .i64) (.pair (.int .i64) (.pair (.sl (.int .i64)) (.sl .bool)))))))) w0.2 hy
    exact ⟨Nat.le_trans (w.1) (by decide), Nat.le_trans (w.2.2.2.1.1) (by decide), Nat.le_trans (w.2.2.2.2.1) (by decide)⟩⟩
  unfold laws_FnExactStoreKepts
  obtain ⟨m1, a1, b1⟩ := szKeptS_ok (n := 1048576) (xs := x0_0) hx0_0 (by omega)
  simp only [a1, Option.bind_some]
  by_cases c1 : m1 < 0
  · simp only [c1, decide_true, cond_true]
  · obtain ⟨ox0_0, d1, f1⟩ := b1.resolve_left c1
    simp only [c1, decide_false, cond_false]
    obtain ⟨⟨r0_0, r1_0⟩, k1, k2⟩ := StoreKepts_eq (x0_0 := x0_0) ox0_0
    simp only [k1,
      k2,
      Option.bind_some,
      Bool.not_true,
      cond_false,
      bne_self_eq_false,
      cond_true,
      toKeptS_ok (xs := x0_0) ox0_0,
      eqKeptS_ok (xs := x0_0) ox0_0]

end Go.Proofs
