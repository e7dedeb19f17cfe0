import Derived.Test.YtcdcholgpdladaaValidDeskGenC
set_option linter.unusedVariables false
set_option linter.unusedSimpArgs false
set_option linter.unusedSectionVars false
namespace Go.Proofs
open Go.Ide Go.IntWalk

theorem szInt64S_ok {xs : List Int} {n : Int} (hx : xs.length ≤ 9223372036854775807) (hn : 0 ≤ n ∧ n ≤ 1048576) : ∃ m, laws_szInt64S xs n = some m ∧ (m < 0 ∨ (xs.length ≤ 1048576 ∧ 0 ≤ m ∧ m ≤ n)) := by
  unfold laws_szInt64S
  have e : wsub .i64 n (lenI xs) = n - (xs.length : Int) := i64_in _ (by simp only [lenI]; omega)
  rw [e]
  by_cases h : n - (xs.length : Int) < 0
  · exact ⟨-1, by simp only [h, decide_true, cond_true], .inl (by omega)⟩
  · exact ⟨_, by simp only [h, decide_false, cond_false]; rfl, .inr ⟨by omega, by omega, by omega⟩⟩

theorem szBoolS_ok {xs : List Bool} {n : Int} (hx : xs.length ≤ 9223372036854775807) (hn : 0 ≤ n ∧ n ≤ 1048576) : ∃ m, laws_szBoolS xs n = some m ∧ (m < 0 ∨ (xs.length ≤ 1048576 ∧ 0 ≤ m ∧ m ≤ n)) := by
  unfold laws_szBoolS
  have e : wsub .i64 n (lenI xs) = n - (xs.length : Int) := i64_in _ (by simp only [lenI]; omega)
  rw [e]
  by_cases h : n - (xs.length : Int) < 0
  · exact ⟨-1, by simp only [h, decide_true, cond_true], .inl (by omega)⟩
  · exact ⟨_, by simp only [h, decide_false, cond_false]; rfl, .inr ⟨by omega, by omega, by omega⟩⟩

theorem toInt64S_ok {xs : List Int} (h : xs.length ≤ 1048576) : laws_toInt64S xs = some xs := by
  unfold laws_toInt64S
  rw [guard_pos ⟨by simp only [lenI]; omega, by simp only [lenI]; omega⟩]
  have := loop_to (f := laws_toInt64S_B1 xs) xs (0 : Int) (fun i out hi hl => by
    unfold laws_toInt64S_B1
    simp only [ltN hi, cond_true, guard_pos (idxN hi), guard_pos (idxN (i := i) (n := out.length) (by omega)), Int.toNat_natCast, nextN hi (by omega)]) (fun out hl => by
    unfold laws_toInt64S_B1
    simp only [geN (Nat.le_refl _), cond_false])
  simp only [Int.toNat_natCast, this, Option.bind_some]

theorem toBoolS_ok {xs : List Bool} (h : xs.length ≤ 1048576) : laws_toBoolS xs = some xs := by
  unfold laws_toBoolS
  rw [guard_pos ⟨by simp only [lenI]; omega, by simp only [lenI]; omega⟩]
  have := loop_to (f := laws_toBoolS_B1 xs) xs false (fun i out hi hl => by
    unfold laws_toBoolS_B1
    simp only [ltN hi, cond_true, guard_pos (idxN hi), guard_pos (idxN (i := i) (n := out.length) (by omega)), Int.toNat_natCast, nextN hi (by omega)]) (fun out hl => by
    unfold laws_toBoolS_B1
    simp only [geN (Nat.le_refl _), cond_false])
  simp only [Int.toNat_natCast, this, Option.bind_some]

theorem toArc_ok {x0 : Int} {x1 : Int} {x2 : Int} {x3 : Int}  : laws_toArc (x0, x1, x2, x3) = some (x0, x1, x2, x3) := by
  unfold laws_toArc
  rfl

theorem toRule_ok {x0 : Int} {x1 : Int} {x2 : Int} {x3 : Int}  : laws_toRule (x0, x1, x2, x3) = some (x0, x1, x2, x3) := by
  unfold laws_toRule
  rfl

theorem eqInt64S_ok {xs : List Int} (h : xs.length ≤ 1048576) : laws_eqInt64S xs xs = some true := by
  unfold laws_eqInt64S
  have := loop_eq (f := laws_eqInt64S_B1 xs xs) (Sum.inl ()) xs.length (fun i hi => by
    unfold laws_eqInt64S_B1
    simp only [ltN hi, cond_true, guard_pos (idxN hi), bne_self_eq_false, cond_false, nextN hi (by omega)]) (by
    unfold laws_eqInt64S_B1
    simp only [geN (Nat.le_refl _), cond_false])
  simp only [bne_self_eq_false, cond_false, this, Option.bind_some]

theorem eqBoolS_ok {xs : List Bool} (h : xs.length ≤ 1048576) : laws_eqBoolS xs xs = some true := by
  unfold laws_eqBoolS
  have := loop_eq (f := laws_eqBoolS_B1 xs xs) (Sum.inl ()) xs.length (fun i hi => by
    unfold laws_eqBoolS_B1
    simp only [ltN hi, cond_true, guard_pos (idxN hi), bne_self_eq_false, cond_false, nextN hi (by omega)]) (by
    unfold laws_eqBoolS_B1
    simp only [geN (Nat.le_refl _), cond_false])
  simp only [bne_self_eq_false, cond_false, this, Option.bind_some]

theorem eqArc_ok {x0 : Int} {x1 : Int} {x2 : Int} {x3 : Int}  : laws_eqArc (x0, x1, x2, x3) (x0, x1, x2, x3) = some true := by
  unfold laws_eqArc
  simp only [Option.bind_some, bne_self_eq_false, Bool.not_true, cond_false, decide_true]

theorem eqRule_ok {x0 : Int} {x1 : Int} {x2 : Int} {x3 : Int}  : laws_eqRule (x0, x1, x2, x3) (x0, x1, x2, x3) = some true := by
  unfold laws_eqRule
  simp only [Option.bind_some, bne_self_eq_false, Bool.not_true, cond_false, decide_true]

theorem szPlain_ok {x0 : Int} {x1 : Int} {x2 : List Int} {x3 : List Bool} {n : Int} (hx2 : x2.length ≤ 9223372036854775807) (hx3 : x3.length ≤ 9223372036854775807) (hn : 0 ≤ n ∧ n ≤ 1048576) : ∃ m, laws_szPlain (x0, x1, x2, x3) n = some m ∧ (m < 0 ∨ ((x2.length ≤ 1048576 ∧ x3.length ≤ 1048576) ∧ 0 ≤ m ∧ m ≤ n)) := by
  unfold laws_szPlain
  obtain ⟨m1, h1, k1⟩ := szInt64S_ok (n := n) (xs := x2) hx2 (by omega)
  simp only [h1, Option.bind_some]
  by_cases c1 : m1 < 0
  · simp only [c1, decide_true, cond_true]; exact ⟨-1, rfl, .inl (by omega)⟩
  · obtain ⟨g1, p1, q1⟩ := k1.resolve_left c1
    simp only [c1, decide_false, cond_false]
    obtain ⟨m2, h2, k2⟩ := szBoolS_ok (n := m1) (xs := x3) hx3 (by omega)
    simp only [h2, Option.bind_some]
    by_cases c2 : m2 < 0
    · simp only [c2, decide_true, cond_true]; exact ⟨-1, rfl, .inl (by omega)⟩
    · obtain ⟨g2, p2, q2⟩ := k2.resolve_left c2
      simp only [c2, decide_false, cond_false]
      exact ⟨_, rfl, .inr ⟨⟨g1, g2⟩, by omega, by omega⟩⟩

theorem szArcS_ok {xs : List (Int × Int × Int × Int)} {n : Int} (hx : xs.length ≤ 9223372036854775807) (hn : 0 ≤ n ∧ n ≤ 1048576) : ∃ m, laws_szArcS xs n = some m ∧ (m < 0 ∨ (xs.length ≤ 1048576 ∧ 0 ≤ m ∧ m ≤ n)) := by
  unfold laws_szArcS
  have e : wsub .i64 n (lenI xs) = n - (xs.length : Int) := i64_in _ (by simp only [lenI]; omega)
  rw [e]
  by_cases h : n - (xs.length : Int) < 0
  · exact ⟨-1, by simp only [h, decide_true, cond_true], .inl (by omega)⟩
  · exact ⟨_, by simp only [h, decide_false, cond_false]; rfl, .inr ⟨by omega, by omega, by omega⟩⟩

theorem szRuleS_ok {xs : List (Int × Int × Int × Int)} {n : Int} (hx : xs.length ≤ 9223372036854775807) (hn : 0 ≤ n ∧ n ≤ 1048576) : ∃ m, laws_szRuleS xs n = some m ∧ (m < 0 ∨ (xs.length ≤ 1048576 ∧ 0 ≤ m ∧ m ≤ n)) := by
  unfold laws_szRuleS
  have e : wsub .i64 n (lenI xs) = n - (xs.length : Int) := i64_in _ (by simp only [lenI]; omega)
  rw [e]
  by_cases h : n - (xs.length : Int) < 0
  · exact ⟨-1, by simp only [h, decide_true, cond_true], .inl (by omega)⟩
  · exact ⟨_, by simp only [h, decide_false, cond_false]; rfl, .inr ⟨by omega, by omega, by omega⟩⟩

theorem toPlain_ok {x0 : Int} {x1 : Int} {x2 : List Int} {x3 : List Bool} (hx2 : x2.length ≤ 1048576) (hx3 : x3.length ≤ 1048576) : laws_toPlain (x0, x1, x2, x3) = some (x0, x1, x2, x3) := by
  unfold laws_toPlain
  simp only [toInt64S_ok hx2, toBoolS_ok hx3, Option.bind_some]

theorem toArcS_ok {xs : List (Int × Int × Int × Int)} (h : xs.length ≤ 1048576) : laws_toArcS xs = some xs := by
  unfold laws_toArcS
  rw [guard_pos ⟨by simp only [lenI]; omega, by simp only [lenI]; omega⟩]
  have := loop_to (f := laws_toArcS_B1 xs) xs ((0 : Int), (0 : Int), (0 : Int), (0 : Int)) (fun i out hi hl => by
    unfold laws_toArcS_B1
    simp only [ltN hi, cond_true, guard_pos (idxN hi), guard_pos (idxN (i := i) (n := out.length) (by omega)), Int.toNat_natCast, nextN hi (by omega), toArc_ok, Option.bind_some]
    try rfl) (fun out hl => by
    unfold laws_toArcS_B1
    simp only [geN (Nat.le_refl _), cond_false])
  simp only [Int.toNat_natCast, this, Option.bind_some]

theorem toRuleS_ok {xs : List (Int × Int × Int × Int)} (h : xs.length ≤ 1048576) : laws_toRuleS xs = some xs := by
  unfold laws_toRuleS
  rw [guard_pos ⟨by simp only [lenI]; omega, by simp only [lenI]; omega⟩]
  have := loop_to (f := laws_toRuleS_B1 xs) xs ((0 : Int), (0 : Int), (0 : Int), (0 : Int)) (fun i out hi hl => by
    unfold laws_toRuleS_B1
    simp only [ltN hi, cond_true, guard_pos (idxN hi), guard_pos (idxN (i := i) (n := out.length) (by omega)), Int.toNat_natCast, nextN hi (by omega), toRule_ok, Option.bind_some]
    try rfl) (fun out hl => by
    unfold laws_toRuleS_B1
    simp only [geN (Nat.le_refl _), cond_false])
  simp only [Int.toNat_natCast, this, Option.bind_some]

theorem eqPlain_ok {x0 : Int} {x1 : Int} {x2 : List Int} {x3 : List Bool} (hx2 : x2.length ≤ 1048576) (hx3 : x3.length ≤ 1048576) : laws_eqPlain (x0, x1, x2, x3) (x0, x1, x2, x3) = some true := by
  unfold laws_eqPlain
  simp only [eqInt64S_ok hx2, eqBoolS_ok hx3, Option.bind_some, bne_self_eq_false, Bool.not_true, cond_false, decide_true]

theorem eqArcS_ok {xs : List (Int × Int × Int × Int)} (h : xs.length ≤ 1048576) : laws_eqArcS xs xs = some true := by
  unfold laws_eqArcS
  have := loop_eq (f := laws_eqArcS_B1 xs xs) (Sum.inl ()) xs.length (fun i hi => by
    unfold laws_eqArcS_B1
    simp only [ltN hi, cond_true, guard_pos (idxN hi), Int.toNat_natCast, eqArc_ok, Option.bind_some, Bool.not_true, cond_false, nextN hi (by omega)]) (by
    unfold laws_eqArcS_B1
    simp only [geN (Nat.le_refl _), cond_false])
  simp only [bne_self_eq_false, cond_false, this, Option.bind_some]

theorem eqRuleS_ok {xs : List (Int × Int × Int × Int)} (h : xs.length ≤ 1048576) : laws_eqRuleS xs xs = some true := by
  unfold laws_eqRuleS
  have := loop_eq (f := laws_eqRuleS_B1 xs xs) (Sum.inl ()) xs.length (fun i hi => by
    unfold laws_eqRuleS_B1
    simp only [ltN hi, cond_true, guard_pos (idxN hi), Int.toNat_natCast, eqRule_ok, Option.bind_some, Bool.not_true, cond_false, nextN hi (by omega)]) (by
    unfold laws_eqRuleS_B1
    simp only [geN (Nat.le_refl _), cond_false])
  simp only [bne_self_eq_false, cond_false, this, Option.bind_some]

theorem szMachine_ok {x0 : Int} {x1 : Int} {x2 : List (Int × Int × Int × Int)} {x3 : List Int} {x4 : List Int} {n : Int} (hx2 : x2.length ≤ 9223372036854775807) (hx3 : x3.length ≤ 9223372036854775807) (hx4 : x4.length ≤ 9223372036854775807) (hn : 0 ≤ n ∧ n ≤ 1048576) : ∃ m, laws_szMachine (x0, x1, x2, x3, x4) n = some m ∧ (m < 0 ∨ ((x2.length ≤ 1048576 ∧ x3.length ≤ 1048576 ∧ x4.length ≤ 1048576) ∧ 0 ≤ m ∧ m ≤ n)) := by
  unfold laws_szMachine
  obtain ⟨m1, h1, k1⟩ := szArcS_ok (n := n) (xs := x2) hx2 (by omega)
  simp only [h1, Option.bind_some]
  by_cases c1 : m1 < 0
  · simp only [c1, decide_true, cond_true]; exact ⟨-1, rfl, .inl (by omega)⟩
  · obtain ⟨g1, p1, q1⟩ := k1.resolve_left c1
    simp only [c1, decide_false, cond_false]
    obtain ⟨m2, h2, k2⟩ := szInt64S_ok (n := m1) (xs := x3) hx3 (by omega)
    simp only [h2, Option.bind_some]
    by_cases c2 : m2 < 0
    · simp only [c2, decide_true, cond_true]; exact ⟨-1, rfl, .inl (by omega)⟩
    · obtain ⟨g2, p2, q2⟩ := k2.resolve_left c2
      simp only [c2, decide_false, cond_false]
      obtain ⟨m3, h3, k3⟩ := szInt64S_ok (n := m2) (xs := x4) hx4 (by omega)
      simp only [h3, Option.bind_some]
      by_cases c3 : m3 < 0
      · simp only [c3, decide_true, cond_true]; exact ⟨-1, rfl, .inl (by omega)⟩
      · obtain ⟨g3, p3, q3⟩ := k3.resolve_left c3
        simp only [c3, decide_false, cond_false]
        exact ⟨_, rfl, .inr ⟨⟨g1, g2, g3⟩, by omega, by omega⟩⟩

theorem szGrammar_ok {x0 : Int} {x1 : Int} {x2 : List (Int × Int × Int × Int)} {n : Int} (hx2 : x2.length ≤ 9223372036854775807) (hn : 0 ≤ n ∧ n ≤ 1048576) : ∃ m, laws_szGrammar (x0, x1, x2) n = some m ∧ (m < 0 ∨ ((x2.length ≤ 1048576) ∧ 0 ≤ m ∧ m ≤ n)) := by
  unfold laws_szGrammar
  obtain ⟨m1, h1, k1⟩ := szRuleS_ok (n := n) (xs := x2) hx2 (by omega)
  simp only [h1, Option.bind_some]
  by_cases c1 : m1 < 0
  · simp only [c1, decide_true, cond_true]; exact ⟨-1, rfl, .inl (by omega)⟩
  · obtain ⟨g1, p1, q1⟩ := k1.resolve_left c1
    simp only [c1, decide_false, cond_false]
    exact ⟨_, rfl, .inr ⟨g1, by omega, by omega⟩⟩

theorem toMachine_ok {x0 : Int} {x1 : Int} {x2 : List (Int × Int × Int × Int)} {x3 : List Int} {x4 : List Int} (hx2 : x2.length ≤ 1048576) (hx3 : x3.length ≤ 1048576) (hx4 : x4.length ≤ 1048576) : laws_toMachine (x0, x1, x2, x3, x4) = some (x0, x1, x2, x3, x4) := by
  unfold laws_toMachine
  simp only [toArcS_ok hx2, toInt64S_ok hx3, toInt64S_ok hx4, Option.bind_some]

theorem toGrammar_ok {x0 : Int} {x1 : Int} {x2 : List (Int × Int × Int × Int)} (hx2 : x2.length ≤ 1048576) : laws_toGrammar (x0, x1, x2) = some (x0, x1, x2) := by
  unfold laws_toGrammar
  simp only [toRuleS_ok hx2, Option.bind_some]

theorem eqMachine_ok {x0 : Int} {x1 : Int} {x2 : List (Int × Int × Int × Int)} {x3 : List Int} {x4 : List Int} (hx2 : x2.length ≤ 1048576) (hx3 : x3.length ≤ 1048576) (hx4 : x4.length ≤ 1048576) : laws_eqMachine (x0, x1, x2, x3, x4) (x0, x1, x2, x3, x4) = some true := by
  unfold laws_eqMachine
  simp only [eqArcS_ok hx2, eqInt64S_ok hx3, eqInt64S_ok hx4, Option.bind_some, bne_self_eq_false, Bool.not_true, cond_false, decide_true]

theorem eqGrammar_ok {x0 : Int} {x1 : Int} {x2 : List (Int × Int × Int × Int)} (hx2 : x2.length ≤ 1048576) : laws_eqGrammar (x0, x1, x2) (x0, x1, x2) = some true := by
  unfold laws_eqGrammar
  simp only [eqRuleS_ok hx2, Option.bind_some, bne_self_eq_false, Bool.not_true, cond_false, decide_true]

theorem szDesk_ok {x0 : Int} {x1 : Int} {x2 : List (Int × Int × Int × Int)} {x3 : List Int} {x4 : List Int} {x5 : Int} {x6 : Int} {x7 : List Int} {x8 : List Bool} {x9 : Int} {x10 : Int} {x11 : List (Int × Int × Int × Int)} {x12 : List Int} {n : Int} (hx2 : x2.length ≤ 9223372036854775807) (hx3 : x3.length ≤ 9223372036854775807) (hx4 : x4.length ≤ 9223372036854775807) (hx7 : x7.length ≤ 9223372036854775807) (hx8 : x8.length ≤ 9223372036854775807) (hx11 : x11.length ≤ 9223372036854775807) (hx12 : x12.length ≤ 9223372036854775807) (hn : 0 ≤ n ∧ n ≤ 1048576) : ∃ m, laws_szDesk ((x0, x1, x2, x3, x4), (x5, x6, x7, x8), (x9, x10, x11), x12) n = some m ∧ (m < 0 ∨ ((x2.length ≤ 1048576 ∧ x3.length ≤ 1048576 ∧ x4.length ≤ 1048576 ∧ x7.length ≤ 1048576 ∧ x8.length ≤ 1048576 ∧ x11.length ≤ 1048576 ∧ x12.length ≤ 1048576) ∧ 0 ≤ m ∧ m ≤ n)) := by
  unfold laws_szDesk
  obtain ⟨m1, h1, k1⟩ := szMachine_ok (n := n) (x0 := x0) (x1 := x1) (x2 := x2) (x3 := x3) (x4 := x4) hx2 hx3 hx4 (by omega)
  simp only [h1, Option.bind_some]
  by_cases c1 : m1 < 0
  · simp only [c1, decide_true, cond_true]; exact ⟨-1, rfl, .inl (by omega)⟩
  · obtain ⟨g1, p1, q1⟩ := k1.resolve_left c1
    simp only [c1, decide_false, cond_false]
    obtain ⟨m2, h2, k2⟩ := szPlain_ok (n := m1) (x0 := x5) (x1 := x6) (x2 := x7) (x3 := x8) hx7 hx8 (by omega)
    simp only [h2, Option.bind_some]
    by_cases c2 : m2 < 0
    · simp only [c2, decide_true, cond_true]; exact ⟨-1, rfl, .inl (by omega)⟩
    · obtain ⟨g2, p2, q2⟩ := k2.resolve_left c2
      simp only [c2, decide_false, cond_false]
      obtain ⟨m3, h3, k3⟩ := szGrammar_ok (n := m2) (x0 := x9) (x1 := x10) (x2 := x11) hx11 (by omega)
      simp only [h3, Option.bind_some]
      by_cases c3 : m3 < 0
      · simp only [c3, decide_true, cond_true]; exact ⟨-1, rfl, .inl (by omega)⟩
      · obtain ⟨g3, p3, q3⟩ := k3.resolve_left c3
        simp only [c3, decide_false, cond_false]
        obtain ⟨m4, h4, k4⟩ := szInt64S_ok (n := m3) (xs := x12) hx12 (by omega)
        simp only [h4, Option.bind_some]
        by_cases c4 : m4 < 0
        · simp only [c4, decide_true, cond_true]; exact ⟨-1, rfl, .inl (by omega)⟩
        · obtain ⟨g4, p4, q4⟩ := k4.resolve_left c4
          simp only [c4, decide_false, cond_false]
          exact ⟨_, rfl, .inr ⟨⟨g1.1, g1.2.1, g1.2.2, g2.1, g2.2, g3, g4⟩, by omega, by omega⟩⟩

theorem toDesk_ok {x0 : Int} {x1 : Int} {x2 : List (Int × Int × Int × Int)} {x3 : List Int} {x4 : List Int} {x5 : Int} {x6 : Int} {x7 : List Int} {x8 : List Bool} {x9 : Int} {x10 : Int} {x11 : List (Int × Int × Int × Int)} {x12 : List Int} (hx2 : x2.length ≤ 1048576) (hx3 : x3.length ≤ 1048576) (hx4 : x4.length ≤ 1048576) (hx7 : x7.length ≤ 1048576) (hx8 : x8.length ≤ 1048576) (hx11 : x11.length ≤ 1048576) (hx12 : x12.length ≤ 1048576) : laws_toDesk ((x0, x1, x2, x3, x4), (x5, x6, x7, x8), (x9, x10, x11), x12) = some ((x0, x1, x2, x3, x4), (x5, x6, x7, x8), (x9, x10, x11), x12) := by
  unfold laws_toDesk
  simp only [toMachine_ok hx2 hx3 hx4, toPlain_ok hx7 hx8, toGrammar_ok hx11, toInt64S_ok hx12, Option.bind_some]

theorem eqDesk_ok {x0 : Int} {x1 : Int} {x2 : List (Int × Int × Int × Int)} {x3 : List Int} {x4 : List Int} {x5 : Int} {x6 : Int} {x7 : List Int} {x8 : List Bool} {x9 : Int} {x10 : Int} {x11 : List (Int × Int × Int × Int)} {x12 : List Int} (hx2 : x2.length ≤ 1048576) (hx3 : x3.length ≤ 1048576) (hx4 : x4.length ≤ 1048576) (hx7 : x7.length ≤ 1048576) (hx8 : x8.length ≤ 1048576) (hx11 : x11.length ≤ 1048576) (hx12 : x12.length ≤ 1048576) : laws_eqDesk ((x0, x1, x2, x3, x4), (x5, x6, x7, x8), (x9, x10, x11), x12) ((x0, x1, x2, x3, x4), (x5, x6, x7, x8), (x9, x10, x11), x12) = some true := by
  unfold laws_eqDesk
  simp only [eqMachine_ok hx2 hx3 hx4, eqPlain_ok hx7 hx8, eqGrammar_ok hx11, eqInt64S_ok hx12, Option.bind_some, bne_self_eq_false, Bool.not_true, cond_false, decide_true]

end Go.Proofs


namespace Go.Proofs
open Go.Ide Go.IntWalk

theorem in64 (a b c : Int) : spec_l00In a b c = some (decide (a ≥ b) && decide (a ≤ c)) := by
  unfold spec_l00In
  cases h : decide (a ≥ b) <;> simp
theorem within64 (a b c : Int) : impl_within a b c = some (decide (a ≥ b) && decide (a ≤ c)) := by
  unfold impl_within
  cases h : decide (a ≥ b) <;> simp

/-- All between. -/
def allIn (xs : List Int) (b c : Int) : Bool := xs.all fun x => decide (x ≥ b) && decide (x ≤ c)

theorem allIn_iff {xs : List Int} {b c : Int} : allIn xs b c = true ↔ ∀ i, i < xs.length → b ≤ xs.getD i 0 ∧ xs.getD i 0 ≤ c := by
  unfold allIn
  rw [List.all_eq_true]
  constructor
  · intro h i hi
    have := h xs[i] (List.getElem_mem hi)
    simp only [Bool.and_eq_true, decide_eq_true_eq] at this
    rw [List.getD_eq_getElem?_getD, List.getElem?_eq_getElem hi]
    exact ⟨this.1, this.2⟩
  · intro h x hx
    obtain ⟨i, hi, rfl⟩ := List.getElem_of_mem hx
    have := h i hi
    rw [List.getD_eq_getElem?_getD, List.getElem?_eq_getElem hi] at this
    simp only [Bool.and_eq_true, decide_eq_true_eq]
    exact ⟨this.1, this.2⟩

theorem allN_in (xs : List Int) (b c : Int) : allN (fun i => decide (xs.getD i 0 ≥ b) && decide (xs.getD i 0 ≤ c)) xs.length 0 = allIn xs b c := by
  rw [Bool.eq_iff_iff, allN_iff, allIn_iff]
  constructor
  · intro h i hi
    have := h i (by omega) (by omega)
    simp only [Bool.and_eq_true, decide_eq_true_eq] at this
    exact ⟨this.1, this.2⟩
  · intro h i _ hi
    have := h i (by omega)
    simp only [Bool.and_eq_true, decide_eq_true_eq]
    exact ⟨this.1, this.2⟩

theorem areWithin64 {xs : List Int} {b c : Int} (h : xs.length ≤ 4294967296) : impl_areWithin xs b c = some (allIn xs b c) := by
  unfold impl_areWithin
  have := rounds_all (f := impl_areWithin_B1 xs b c) (fun i => ((i : Nat) : Int)) (fun i => decide (xs.getD i 0 ≥ b) && decide (xs.getD i 0 ≤ c)) (Sum.inl ()) (Sum.inr ()) (n := xs.length) (fun i hi => by
    unfold impl_areWithin_B1
    simp only [ltN hi, cond_true, guard_pos (idxN hi), Int.toNat_natCast, within64, Option.bind_some, nextN hi h]
    cases (decide (xs.getD i 0 ≥ b) && decide (xs.getD i 0 ≤ c)) <;> rfl) (by
    unfold impl_areWithin_B1
    simp only [geN (Nat.le_refl _), cond_false]) xs.length 0 (by omega)
  rw [allN_in] at this
  simp only [Int.natCast_zero] at this
  simp only [this, Option.bind_some]
  cases allIn xs b c <;> rfl

theorem word64 {xs : List Int} {L : Int} (h : xs.length ≤ 4294967296) : spec_l02Word xs L = some (allIn xs 0 (wsub .i64 L 1) && decide (lenI xs ≤ 12)) := by
  unfold spec_l02Word
  have := rounds_all (f := spec_l02Word_B1 xs L) (fun i => ((i : Nat) : Int)) (fun i => decide (xs.getD i 0 ≥ 0) && decide (xs.getD i 0 ≤ wsub .i64 L 1)) (Sum.inl ()) (Sum.inr ()) (n := xs.length) (fun i hi => by
    unfold spec_l02Word_B1
    simp only [ltN hi, cond_true, guard_pos (idxN hi), Int.toNat_natCast, in64, Option.bind_some, nextN hi h]
    cases (decide (xs.getD i 0 ≥ 0) && decide (xs.getD i 0 ≤ wsub .i64 L 1)) <;> rfl) (by
    unfold spec_l02Word_B1
    simp only [geN (Nat.le_refl _), cond_false]) xs.length 0 (by omega)
  rw [allN_in] at this
  simp only [Int.natCast_zero] at this
  simp only [this, Option.bind_some]
  cases allIn xs 0 (wsub .i64 L 1) <;> simp

theorem isWord64 {xs : List Int} {L : Int} (h : xs.length ≤ 4294967296) : impl_IsWord xs L = some ((decide (L ≥ 1) && decide (L ≤ 4)) && (decide (lenI xs ≤ 12) && allIn xs 0 (wsub .i64 L 1))) := by
  unfold impl_IsWord
  rw [within64, areWithin64 h]
  cases (decide (L ≥ 1) && decide (L ≤ 4)) <;> cases decide (lenI xs ≤ 12) <;> simp

/-- A plain machine is as it must be. -/
def okPlain (s l : Int) (nx : List Int) (es : List Bool) : Bool :=
  (decide (s ≥ 1) && decide (s ≤ 64)) && ((decide (l ≥ 1) && decide (l ≤ 4)) && ((lenI nx == wmul .i64 s l) && ((lenI es == s) && allIn nx 0 (wsub .i64 s 1))))

theorem specPlain {s l : Int} {nx : List Int} {es : List Bool} (h : nx.length ≤ 4294967296) : spec_l02Plain (s, l, nx, es) = some (okPlain s l nx es) := by
  unfold spec_l02Plain okPlain
  simp only [in64, Option.bind_some]
  have := rounds_all (f := spec_l02Plain_B1 (s, l, nx, es)) (fun i => ((i : Nat) : Int)) (fun i => decide (nx.getD i 0 ≥ 0) && decide (nx.getD i 0 ≤ wsub .i64 s 1)) (Sum.inl ()) (Sum.inr ()) (n := nx.length) (fun i hi => by
    unfold spec_l02Plain_B1
    simp only [ltN hi, cond_true, guard_pos (idxN hi), Int.toNat_natCast, in64, Option.bind_some, nextN hi h]
    cases (decide (nx.getD i 0 ≥ 0) && decide (nx.getD i 0 ≤ wsub .i64 s 1)) <;> rfl) (by
    unfold spec_l02Plain_B1
    simp only [geN (Nat.le_refl _), cond_false]) nx.length 0 (by omega)
  rw [allN_in] at this
  simp only [Int.natCast_zero] at this
  simp only [this, Option.bind_some, bne]
  cases (decide (s ≥ 1) && decide (s ≤ 64)) <;> cases (decide (l ≥ 1) && decide (l ≤ 4)) <;> cases (lenI nx == wmul .i64 s l) <;> cases (lenI es == s) <;> cases allIn nx 0 (wsub .i64 s 1) <;> rfl

theorem implPlain {s l : Int} {nx : List Int} {es : List Bool} (h : nx.length ≤ 4294967296) : impl_ValidPlain (s, l, nx, es) = some (okPlain s l nx es) := by
  unfold impl_ValidPlain okPlain
  simp only [within64, areWithin64 h, Option.bind_some]
  cases (decide (s ≥ 1) && decide (s ≤ 64)) <;> cases (decide (l ≥ 1) && decide (l ≤ 4)) <;> cases (lenI nx == wmul .i64 s l) <;> cases (lenI es == s) <;> cases allIn nx 0 (wsub .i64 s 1) <;> rfl

theorem okPlain_spec {s l : Int} {nx : List Int} {es : List Bool} (h : okPlain s l nx es = true) : ∃ m c : Nat, s = (m : Int) ∧ l = (c : Int) ∧ 1 ≤ m ∧ m ≤ 64 ∧ 1 ≤ c ∧ c ≤ 4 ∧ nx.length = m * c ∧ es.length = m ∧ ∀ i, i < m * c → ∃ t : Nat, nx.getD i 0 = (t : Int) ∧ t < m := by
  unfold okPlain at h
  simp only [Bool.and_eq_true, decide_eq_true_eq, beq_iff_eq] at h
  obtain ⟨⟨h1, h2⟩, ⟨h3, h4⟩, h5, h6, h7⟩ := h
  obtain ⟨m, rfl⟩ : ∃ n : Nat, s = (n : Int) := ⟨s.toNat, by omega⟩
  obtain ⟨c, rfl⟩ : ∃ n : Nat, l = (n : Int) := ⟨l.toNat, by omega⟩
  have hmc : m * c ≤ 64 * 4 := Nat.mul_le_mul (by omega) (by omega)
  rw [wmulI (by rw [← Int.natCast_mul]; omega), ← Int.natCast_mul] at h5
  have hl : nx.length = m * c := by simp only [lenI] at h5; omega
  refine ⟨m, c, rfl, rfl, by omega, by omega, by omega, by omega, hl, by simp only [lenI] at h6; omega, fun i hi => ?_⟩
  have := allIn_iff.1 h7 i (by omega)
  rw [wsubI (by omega)] at this
  exact ⟨(nx.getD i 0).toNat, by omega, by omega⟩

/-- A loop's words are words. -/
def okLoop (xs ys : List Int) (L : Int) : Bool := (decide (L ≥ 1) && decide (L ≤ 4)) && ((allIn xs 0 (wsub .i64 L 1) && decide (lenI xs ≤ 12)) && ((allIn ys 0 (wsub .i64 L 1) && decide (lenI ys ≤ 12)) && decide (lenI ys ≥ 1)))

/-- A list's numbers are letters. -/
def Letters (c : Nat) (xs : List Int) : Prop := ∀ i, i < xs.length → ∃ a : Nat, xs.getD i 0 = (a : Int) ∧ a < c

theorem okLoop_spec {xs ys : List Int} {c : Nat} (h : okLoop xs ys (c : Int) = true) : xs.length ≤ 12 ∧ ys.length ≤ 12 ∧ 1 ≤ ys.length ∧ Letters c xs ∧ Letters c ys := by
  unfold okLoop at h
  simp only [Bool.and_eq_true, decide_eq_true_eq, lenI] at h
  obtain ⟨⟨h1, h2⟩, ⟨h3, h4⟩, ⟨h5, h6⟩, h7⟩ := h
  rw [wsubI (by omega)] at h3 h5
  refine ⟨by omega, by omega, by omega, fun i hi => ?_, fun i hi => ?_⟩
  · have := allIn_iff.1 h3 i hi
    exact ⟨(xs.getD i 0).toNat, by omega, by omega⟩
  · have := allIn_iff.1 h5 i hi
    exact ⟨(ys.getD i 0).toNat, by omega, by omega⟩

/-- A valid machine. -/
structure Plain (m c : Nat) (nx : List Int) (es : List Bool) : Prop where
  m1 : 1 ≤ m
  m2 : m ≤ 64
  c1 : 1 ≤ c
  c2 : c ≤ 4
  len : nx.length = m * c
  ends : es.length = m
  to : ∀ i, i < m * c → ∃ t : Nat, nx.getD i 0 = (t : Int) ∧ t < m

/-- The next state. -/
def goP (c : Nat) (nx : List Int) (s : Nat) (a : Int) : Nat := (nx.getD (s * c + a.toNat) 0).toNat

def walkP (c : Nat) (nx : List Int) (s : Nat) (w : List Int) : Nat := w.foldl (goP c nx) s

theorem place_lt {m c s a : Nat} (hs : s < m) (ha : a < c) : s * c + a < m * c := by
  have : s * c + c ≤ m * c := by
    rw [← Nat.succ_mul]
    exact Nat.mul_le_mul_right c hs
  omega

section
variable {m c : Nat} {nx : List Int} {es : List Bool} (hp : Plain m c nx es)
include hp

theorem goP_lt {s : Nat} {a : Int} {k : Nat} (hs : s < m) (ha : a = (k : Int)) (hk : k < c) : goP c nx s a < m := by
  subst ha
  obtain ⟨t, h1, h2⟩ := hp.to (s * c + k) (place_lt hs hk)
  unfold goP
  rw [Int.toNat_natCast, h1]
  simpa using h2

theorem walk_lt {w : List Int} (hw : Letters c w) : ∀ (k : Nat) {s : Nat}, s < m → walkP c nx s (w.take k) < m := by
  intro k
  induction k with
  | zero => intro s hs; simpa [walkP] using hs
  | succ k ih =>
    intro s hs
    by_cases hk : k < w.length
    · rw [take_snoc hk 0]
      unfold walkP
      rw [List.foldl_append]
      obtain ⟨a, e, ha⟩ := hw k hk
      exact goP_lt hp (ih hs) e ha
    · have e : w.take (k + 1) = w.take k := by rw [List.take_of_length_le (by omega), List.take_of_length_le (by omega)]
      rw [e]; exact ih hs

end

theorem walk_succ {c : Nat} {nx w : List Int} {s k : Nat} (hk : k < w.length) : walkP c nx s (w.take (k + 1)) = goP c nx (walkP c nx s (w.take k)) (w.getD k 0) := by
  rw [take_snoc hk 0]; unfold walkP; rw [List.foldl_append]; rfl

end Go.Proofs


namespace Go.Proofs
open Go.Ide Go.IntWalk

/-- An arc is zs it must be. -/
def okArc (s l : Int) (r : Int × Int × Int × Int) : Bool :=
  (decide (r.1 ≥ 0) && decide (r.1 ≤ wsub .i64 s 1)) && ((decide (r.2.1 ≥ 0) && decide (r.2.1 ≤ wsub .i64 s 1)) && ((decide (r.2.2.1 ≥ -1) && decide (r.2.2.1 ≤ wsub .i64 l 1)) && (decide (r.2.2.2 ≥ 0) && decide (r.2.2.2 ≤ 1000))))

def okArcs (s l : Int) (zs : List (Int × Int × Int × Int)) : Bool := allN (fun i => okArc s l (zs.getD i (0, 0, 0, 0))) zs.length 0

def okMachine (s l : Int) (zs : List (Int × Int × Int × Int)) (ss es : List Int) : Bool :=
  (decide (s ≥ 1) && decide (s ≤ 16)) && ((decide (l ≥ 1) && decide (l ≤ 4)) && ((!decide (lenI zs > 128)) && (okArcs s l zs && ((allIn ss (-1) 1000 && (lenI ss == s)) && (allIn es (-1) 1000 && (lenI es == s))))))

theorem marks64 {xs : List Int} {L : Int} (h : xs.length ≤ 4294967296) : spec_l02Marks xs L = some (allIn xs (-1) 1000 && (lenI xs == L)) := by
  unfold spec_l02Marks
  have := rounds_all (f := spec_l02Marks_B1 xs) (fun i => ((i : Nat) : Int)) (fun i => decide (xs.getD i 0 ≥ -1) && decide (xs.getD i 0 ≤ 1000)) (Sum.inl ()) (Sum.inr ()) (n := xs.length) (fun i hi => by
    unfold spec_l02Marks_B1
    simp only [ltN hi, cond_true, guard_pos (idxN hi), Int.toNat_natCast, in64, Option.bind_some, nextN hi h]
    cases (decide (xs.getD i 0 ≥ -1) && decide (xs.getD i 0 ≤ 1000)) <;> rfl) (by
    unfold spec_l02Marks_B1
    simp only [geN (Nat.le_refl _), cond_false]) xs.length 0 (by omega)
  rw [allN_in] at this
  simp only [Int.natCast_zero] at this
  simp only [this, Option.bind_some]
  cases allIn xs (-1) 1000 <;> simp

theorem specMachine {s l : Int} {zs : List (Int × Int × Int × Int)} {ss es : List Int} (h : zs.length ≤ 4294967296) (hs : ss.length ≤ 4294967296) (he : es.length ≤ 4294967296) :
    spec_l02Is (s, l, zs, ss, es) = some (okMachine s l zs ss es) := by
  unfold spec_l02Is okMachine
  simp only [in64, Option.bind_some]
  have := rounds_all (f := spec_l02Is_B1 (s, l, zs, ss, es)) (fun i => ((i : Nat) : Int)) (fun i => okArc s l (zs.getD i (0, 0, 0, 0))) (Sum.inl ()) (Sum.inr ()) (n := zs.length) (fun i hi => by
    unfold spec_l02Is_B1
    simp only [ltN hi, cond_true, guard_pos (idxN hi), Int.toNat_natCast, in64, Option.bind_some, nextN hi h, okArc]
    generalize (decide ((zs.getD i (0, 0, 0, 0)).1 ≥ 0) && decide ((zs.getD i (0, 0, 0, 0)).1 ≤ wsub .i64 s 1)) = A
    generalize (decide ((zs.getD i (0, 0, 0, 0)).2.1 ≥ 0) && decide ((zs.getD i (0, 0, 0, 0)).2.1 ≤ wsub .i64 s 1)) = B
    generalize (decide ((zs.getD i (0, 0, 0, 0)).2.2.1 ≥ -1) && decide ((zs.getD i (0, 0, 0, 0)).2.2.1 ≤ wsub .i64 l 1)) = C
    generalize (decide ((zs.getD i (0, 0, 0, 0)).2.2.2 ≥ 0) && decide ((zs.getD i (0, 0, 0, 0)).2.2.2 ≤ 1000)) = D
    cases A <;> cases B <;> cases C <;> cases D <;> rfl) (by
    unfold spec_l02Is_B1
    simp only [geN (Nat.le_refl _), cond_false]) zs.length 0 (by omega)
  simp only [Int.natCast_zero] at this
  rw [show allN (fun i => okArc s l (zs.getD i (0, 0, 0, 0))) zs.length 0 = okArcs s l zs from rfl] at this
  simp only [this, marks64 hs, marks64 he, Option.bind_some]
  generalize (decide (s ≥ 1) && decide (s ≤ 16)) = A
  generalize (decide (l ≥ 1) && decide (l ≤ 4)) = B
  generalize decide (lenI zs > 128) = C
  generalize okArcs s l zs = D
  generalize (allIn ss (-1) 1000 && (lenI ss == s)) = E
  generalize (allIn es (-1) 1000 && (lenI es == s)) = F
  cases A <;> cases B <;> cases C <;> cases D <;> cases E <;> cases F <;> rfl

theorem implMachine {s l : Int} {zs : List (Int × Int × Int × Int)} {ss es : List Int} (h : zs.length ≤ 4294967296) (hs : ss.length ≤ 4294967296) (he : es.length ≤ 4294967296) :
    impl_ValidMachine (s, l, zs, ss, es) = some (okMachine s l zs ss es) := by
  unfold impl_ValidMachine okMachine
  simp only [within64, Option.bind_some]
  have := rounds_all (f := impl_ValidMachine_B1 (s, l, zs, ss, es)) (fun i => ((i : Nat) : Int)) (fun i => okArc s l (zs.getD i (0, 0, 0, 0))) (Sum.inl ()) (Sum.inr ()) (n := zs.length) (fun i hi => by
    unfold impl_ValidMachine_B1
    simp only [ltN hi, cond_true, guard_pos (idxN hi), Int.toNat_natCast, within64, Option.bind_some, nextN hi h, okArc]
    generalize (decide ((zs.getD i (0, 0, 0, 0)).1 ≥ 0) && decide ((zs.getD i (0, 0, 0, 0)).1 ≤ wsub .i64 s 1)) = A
    generalize (decide ((zs.getD i (0, 0, 0, 0)).2.1 ≥ 0) && decide ((zs.getD i (0, 0, 0, 0)).2.1 ≤ wsub .i64 s 1)) = B
    generalize (decide ((zs.getD i (0, 0, 0, 0)).2.2.1 ≥ -1) && decide ((zs.getD i (0, 0, 0, 0)).2.2.1 ≤ wsub .i64 l 1)) = C
    generalize (decide ((zs.getD i (0, 0, 0, 0)).2.2.2 ≥ 0) && decide ((zs.getD i (0, 0, 0, 0)).2.2.2 ≤ 1000)) = D
    cases A <;> cases B <;> cases C <;> cases D <;> rfl) (by
    unfold impl_ValidMachine_B1
    simp only [geN (Nat.le_refl _), cond_false]) zs.length 0 (by omega)
  simp only [Int.natCast_zero] at this
  rw [show allN (fun i => okArc s l (zs.getD i (0, 0, 0, 0))) zs.length 0 = okArcs s l zs from rfl] at this
  simp only [this, areWithin64 hs, areWithin64 he, Option.bind_some]
  generalize (decide (s ≥ 1) && decide (s ≤ 16)) = A
  generalize (decide (l ≥ 1) && decide (l ≤ 4)) = B
  generalize decide (lenI zs > 128) = C
  generalize okArcs s l zs = D
  generalize allIn ss (-1) 1000 = E
  generalize (lenI ss == s) = E'
  generalize allIn es (-1) 1000 = F
  generalize (lenI es == s) = F'
  cases A <;> cases B <;> cases C <;> cases D <;> cases E <;> cases E' <;> cases F <;> cases F' <;> rfl

/-- A rule is zs it must be. -/
def okRule (s l : Int) (r : Int × Int × Int × Int) : Bool :=
  (decide (r.1 ≥ 0) && decide (r.1 ≤ wsub .i64 s 1)) && ((decide (r.2.2.1 ≥ -1) && decide (r.2.2.1 ≤ wsub .i64 s 1)) && ((decide (r.2.2.2 ≥ 0) && decide (r.2.2.2 ≤ 1000)) &&
    (decide (r.2.1 ≥ 0) && decide (r.2.1 ≤ bif decide (r.2.2.1 < 0) then wsub .i64 l 1 else wsub .i64 s 1))))

def okRules (s l : Int) (rs : List (Int × Int × Int × Int)) : Bool := allN (fun i => okRule s l (rs.getD i (0, 0, 0, 0))) rs.length 0

def okGrammar (s l : Int) (rs : List (Int × Int × Int × Int)) : Bool :=
  (decide (s ≥ 1) && decide (s ≤ 8)) && ((decide (l ≥ 1) && decide (l ≤ 4)) && ((!decide (lenI rs > 32)) && okRules s l rs))

theorem specGrammar {s l : Int} {rs : List (Int × Int × Int × Int)} (h : rs.length ≤ 4294967296) : spec_l06Is (s, l, rs) = some (okGrammar s l rs) := by
  unfold spec_l06Is okGrammar
  simp only [in64, Option.bind_some]
  have := rounds_all (f := spec_l06Is_B1 (s, l, rs)) (fun i => ((i : Nat) : Int)) (fun i => okRule s l (rs.getD i (0, 0, 0, 0))) (Sum.inl ()) (Sum.inr ()) (n := rs.length) (fun i hi => by
    unfold spec_l06Is_B1
    simp only [ltN hi, cond_true, guard_pos (idxN hi), Int.toNat_natCast, in64, Option.bind_some, nextN hi h, okRule]
    obtain ⟨r, hr⟩ : ∃ r, rs.getD i (0, 0, 0, 0) = r := ⟨_, rfl⟩
    simp only [hr]
    by_cases hc : r.2.2.1 < 0
    · have hn : decide (r.2.2.1 ≥ 0) = false := by simp only [decide_eq_false_iff_not]; omega
      simp only [hc, hn, decide_true, cond_true, cond_false]
      generalize (decide (r.1 ≥ 0) && decide (r.1 ≤ wsub .i64 s 1)) = A
      generalize (decide (r.2.2.1 ≥ -1) && decide (r.2.2.1 ≤ wsub .i64 s 1)) = C
      generalize (decide (r.2.2.2 ≥ 0) && decide (r.2.2.2 ≤ 1000)) = D
      generalize (decide (r.2.1 ≥ 0) && decide (r.2.1 ≤ wsub .i64 l 1)) = E
      cases A <;> cases C <;> cases D <;> cases E <;> rfl
    · have hn : decide (r.2.2.1 ≥ 0) = true := by simp only [decide_eq_true_eq]; omega
      simp only [hc, hn, decide_false, cond_true, cond_false]
      generalize (decide (r.1 ≥ 0) && decide (r.1 ≤ wsub .i64 s 1)) = A
      generalize (decide (r.2.2.1 ≥ -1) && decide (r.2.2.1 ≤ wsub .i64 s 1)) = C
      generalize (decide (r.2.2.2 ≥ 0) && decide (r.2.2.2 ≤ 1000)) = D
      generalize (decide (r.2.1 ≥ 0) && decide (r.2.1 ≤ wsub .i64 s 1)) = E
      cases A <;> cases C <;> cases D <;> cases E <;> rfl) (by
    unfold spec_l06Is_B1
    simp only [geN (Nat.le_refl _), cond_false]) rs.length 0 (by omega)
  simp only [Int.natCast_zero] at this
  rw [show allN (fun i => okRule s l (rs.getD i (0, 0, 0, 0))) rs.length 0 = okRules s l rs from rfl] at this
  simp only [this, Option.bind_some]
  generalize (decide (s ≥ 1) && decide (s ≤ 8)) = A
  generalize (decide (l ≥ 1) && decide (l ≤ 4)) = B
  generalize decide (lenI rs > 32) = C
  generalize okRules s l rs = D
  cases A <;> cases B <;> cases C <;> cases D <;> rfl

theorem implGrammar {s l : Int} {rs : List (Int × Int × Int × Int)} (h : rs.length ≤ 4294967296) : impl_ValidGrammar (s, l, rs) = some (okGrammar s l rs) := by
  unfold impl_ValidGrammar okGrammar
  simp only [within64, Option.bind_some]
  have := rounds_all (f := impl_ValidGrammar_B1 (s, l, rs)) (fun i => ((i : Nat) : Int)) (fun i => okRule s l (rs.getD i (0, 0, 0, 0))) (Sum.inl ()) (Sum.inr ()) (n := rs.length) (fun i hi => by
    unfold impl_ValidGrammar_B1
    simp only [ltN hi, cond_true, guard_pos (idxN hi), Int.toNat_natCast, nextN hi h, okRule]
    obtain ⟨r, hr⟩ : ∃ r, rs.getD i (0, 0, 0, 0) = r := ⟨_, rfl⟩
    simp only [hr]
    have hb : (bif (r.2.2.1 == (-1 : Int)) then some (wsub .i64 l 1) else some (wsub .i64 s 1)) = some (bif (r.2.2.1 == (-1 : Int)) then wsub .i64 l 1 else wsub .i64 s 1) := by cases (r.2.2.1 == (-1 : Int)) <;> rfl
    simp only [hb, within64, Option.bind_some]
    by_cases hC : (decide (r.2.2.1 ≥ -1) && decide (r.2.2.1 ≤ wsub .i64 s 1)) = true
    · have he : (r.2.2.1 == (-1 : Int)) = decide (r.2.2.1 < 0) := by
        simp only [Bool.and_eq_true, decide_eq_true_eq] at hC
        rw [Bool.eq_iff_iff]; simp only [beq_iff_eq, decide_eq_true_eq]; omega
      rw [he, hC]
      generalize (decide (r.1 ≥ 0) && decide (r.1 ≤ wsub .i64 s 1)) = A
      generalize (decide (r.2.2.2 ≥ 0) && decide (r.2.2.2 ≤ 1000)) = D
      generalize (decide (r.2.1 ≥ 0) && decide (r.2.1 ≤ bif decide (r.2.2.1 < 0) then wsub .i64 l 1 else wsub .i64 s 1)) = E
      cases A <;> cases D <;> cases E <;> rfl
    · rw [Bool.not_eq_true] at hC
      rw [hC]
      generalize (decide (r.1 ≥ 0) && decide (r.1 ≤ wsub .i64 s 1)) = A
      generalize (decide (r.2.2.2 ≥ 0) && decide (r.2.2.2 ≤ 1000)) = D
      generalize (decide (r.2.1 ≥ 0) && decide (r.2.1 ≤ bif (r.2.2.1 == (-1 : Int)) then wsub .i64 l 1 else wsub .i64 s 1)) = E
      cases A <;> cases D <;> cases E <;> rfl) (by
    unfold impl_ValidGrammar_B1
    simp only [geN (Nat.le_refl _), cond_false]) rs.length 0 (by omega)
  simp only [Int.natCast_zero] at this
  rw [show allN (fun i => okRule s l (rs.getD i (0, 0, 0, 0))) rs.length 0 = okRules s l rs from rfl] at this
  simp only [this, Option.bind_some]
  generalize (decide (s ≥ 1) && decide (s ≤ 8)) = A
  generalize (decide (l ≥ 1) && decide (l ≤ 4)) = B
  generalize decide (lenI rs > 32) = C
  generalize okRules s l rs = D
  cases A <;> cases B <;> cases C <;> cases D <;> rfl

theorem ValidDesk_eq {x0_0 x0_1 : Int} {x0_2 : List (Int × Int × Int × Int)} {x0_3 x0_4 : List Int} {x0_5 x0_6 : Int} {x0_7 : List Int} {x0_8 : List Bool} {x0_9 x0_10 : Int} {x0_11 : List (Int × Int × Int × Int)} {x0_12 : List Int}
    (h2 : x0_2.length ≤ 1048576) (h3 : x0_3.length ≤ 1048576) (h4 : x0_4.length ≤ 1048576) (h7 : x0_7.length ≤ 1048576) (h8 : x0_8.length ≤ 1048576) (h11 : x0_11.length ≤ 1048576) (h12 : x0_12.length ≤ 1048576) :
    ∃ r, spec_ValidDesk ((x0_0, x0_1, x0_2, x0_3, x0_4), (x0_5, x0_6, x0_7, x0_8), (x0_9, x0_10, x0_11), x0_12) = some r ∧ impl_ValidDesk ((x0_0, x0_1, x0_2, x0_3, x0_4), (x0_5, x0_6, x0_7, x0_8), (x0_9, x0_10, x0_11), x0_12) = some r := by
  refine ⟨okMachine x0_0 x0_1 x0_2 x0_3 x0_4 && (decide (lenI x0_2 ≤ 16) && (okPlain x0_5 x0_6 x0_7 x0_8 && (decide (lenI x0_7 ≤ 64) && (okGrammar x0_9 x0_10 x0_11 && (decide (lenI x0_11 ≤ 16) && (allIn x0_12 0 (wsub .i64 4 1) && decide (lenI x0_12 ≤ 12))))))), ?_, ?_⟩
  · unfold spec_ValidDesk spec_l08Is
    simp only [specMachine (s := x0_0) (l := x0_1) (zs := x0_2) (ss := x0_3) (es := x0_4) (by omega) (by omega) (by omega), specPlain (s := x0_5) (l := x0_6) (nx := x0_7) (es := x0_8) (by omega), specGrammar (s := x0_9) (l := x0_10) (rs := x0_11) (by omega), word64 (xs := x0_12) (L := 4) (by omega), Option.bind_some]
    generalize okMachine x0_0 x0_1 x0_2 x0_3 x0_4 = A
    generalize okPlain x0_5 x0_6 x0_7 x0_8 = B
    generalize okGrammar x0_9 x0_10 x0_11 = C
    generalize (allIn x0_12 0 (wsub .i64 4 1) && decide (lenI x0_12 ≤ 12)) = D
    cases A <;> cases B <;> cases C <;> cases decide (lenI x0_2 ≤ 16) <;> cases decide (lenI x0_7 ≤ 64) <;> cases decide (lenI x0_11 ≤ 16) <;> rfl
  · unfold impl_ValidDesk
    simp only [implMachine (s := x0_0) (l := x0_1) (zs := x0_2) (ss := x0_3) (es := x0_4) (by omega) (by omega) (by omega), implPlain (s := x0_5) (l := x0_6) (nx := x0_7) (es := x0_8) (by omega), implGrammar (s := x0_9) (l := x0_10) (rs := x0_11) (by omega), isWord64 (xs := x0_12) (L := 4) (by omega), Option.bind_some,
      show (decide ((4 : Int) ≥ 1) && decide ((4 : Int) ≤ 4)) = true from rfl, Bool.true_and, Bool.and_comm (decide (lenI x0_12 ≤ 12))]
    generalize okMachine x0_0 x0_1 x0_2 x0_3 x0_4 = A
    generalize okPlain x0_5 x0_6 x0_7 x0_8 = B
    generalize okGrammar x0_9 x0_10 x0_11 = C
    generalize (allIn x0_12 0 (wsub .i64 4 1) && decide (lenI x0_12 ≤ 12)) = D
    cases A <;> cases B <;> cases C <;> cases decide (lenI x0_2 ≤ 16) <;> cases decide (lenI x0_7 ≤ 64) <;> cases decide (lenI x0_11 ≤ 16) <;> rfl

end Go.Proofs

namespace Go.Proofs
open Go.Ide Go.IntWalk

theorem ValidDesk_law (x0 : (Int × Int × List (Int × Int × Int × Int) × List Int × List Int) × (Int × Int × List Int × List Bool) × (Int × Int × List (Int × Int × Int × Int)) × List Int) (w0 : WfD (.st (.pair (.st (.pair (.int .i64) (.pair (.int .i64) (.pair (.sl (.st (.pair (.int .i64) (.pair (.int .i64) (.pair (.int .i64) (.int .i64)))))) (.pair (.sl (.int .i64)) (.sl (.int .i64))))))) (.pair (.st (.pair (.int .i64) (.pair (.int .i64) (.pair (.sl (.int .i64)) (.sl .bool))))) (.pair (.st (.pair (.int .i64) (.pair (.int .i64) (.sl (.st (.pair (.int .i64) (.pair (.int .i64) (.pair (.int .i64) (.int .i64))))))))) (.sl (.int .i64)))))) x0) : laws_FnExactValidDesk x0 = some true := by
  obtain ⟨⟨x0_0, ⟨x0_1, ⟨x0_2, ⟨x0_3, x0_4⟩⟩⟩⟩, ⟨⟨x0_5, ⟨x0_6, ⟨x0_7, x0_8⟩⟩⟩, ⟨⟨x0_9, ⟨x0_10, x0_11⟩⟩, x0_12⟩⟩⟩ := x0
  have hx0_2 : x0_2.length ≤ 9223372036854775807 := Nat.le_trans (w0.1.2.2.1.1) (by decide)
  have hx0_3 : x0_3.length ≤ 9223372036854775807 := Nat.le_trans (w0.1.2.2.2.1.1) (by decide)
  have hx0_4 : x0_4.length ≤ 9223372036854775807 := Nat.le_trans (w0.1.2.2.2.2.1) (by decide)
  have hx0_7 : x0_7.length ≤ 9223372036854775807 := Nat.le_trans (w0.2.1.2.2.1.1) (by decide)
  have hx0_8 : x0_8.length ≤ 9223372036854775807 := Nat.le_trans (w0.2.1.2.2.2.1) (by decide)
  have hx0_11 : x0_11.length ≤ 9223372036854775807 := Nat.le_trans (w0.2.2.1.2.2.1) (by decide)
  have hx0_12 : x0_12.length ≤ 9223372036854775807 := Nat.le_trans (w0.2.2.2.1) (by decide)
  unfold laws_FnExactValidDesk
  obtain ⟨m1, a1, b1⟩ := szDesk_ok (n := 1048576) (x0 := x0_0) (x1 := x0_1) (x2 := x0_2) (x3 := x0_3) (x4 := x0_4) (x5 := x0_5) (x6 := x0_6) (x7 := x0_7) (x8 := x0_8) (x9 := x0_9) (x10 := x0_10) (x11 := x0_11) (x12 := x0_12) hx0_2 hx0_3 hx0_4 hx0_7 hx0_8 hx0_11 hx0_12 (by omega)
  simp only [a1, Option.bind_some]
  by_cases c1 : m1 < 0
  · simp only [c1, decide_true, cond_true]
  · obtain ⟨⟨ox0_2, ox0_3, ox0_4, ox0_7, ox0_8, ox0_11, ox0_12⟩, d1, f1⟩ := b1.resolve_left c1
    simp only [c1, decide_false, cond_false]
    obtain ⟨r0_0, k1, k2⟩ := ValidDesk_eq (x0_0 := x0_0) (x0_1 := x0_1) (x0_2 := x0_2) (x0_3 := x0_3) (x0_4 := x0_4) (x0_5 := x0_5) (x0_6 := x0_6) (x0_7 := x0_7) (x0_8 := x0_8) (x0_9 := x0_9) (x0_10 := x0_10) (x0_11 := x0_11) (x0_12 := x0_12) ox0_2 ox0_3 ox0_4 ox0_7 ox0_8 ox0_11 ox0_12
    simp only [k1,
      k2,
      Option.bind_some,
      Bool.not_true,
      cond_false,
      bne_self_eq_false,
      cond_true,
      toDesk_ok (x0 := x0_0) (x1 := x0_1) (x2 := x0_2) (x3 := x0_3) (x4 := x0_4) (x5 := x0_5) (x6 := x0_6) (x7 := x0_7) (x8 := x0_8) (x9 := x0_9) (x10 := x0_10) (x11 := x0_11) (x12 := x0_12) ox0_2 ox0_3 ox0_4 ox0_7 ox0_8 ox0_11 ox0_12,
      eqDesk_ok (x0 := x0_0) (x1 := x0_1) (x2 := x0_2) (x3 := x0_3) (x4 := x0_4) (x5 := x0_5) (x6 := x0_6) (x7 := x0_7) (x8 := x0_8) (x9 := x0_9) (x10 := x0_10) (x11 := x0_11) (x12 := x0_12) ox0_2 ox0_3 ox0_4 ox0_7 ox0_8 ox0_11 ox0_12]

end Go.Proofs
