import Derived.Test.YtcdcholgpdladaaSameDeskGenC
set_option linter.unusedVariables false
set_option linter.unusedSimpArgs false
set_option linter.unusedSectionVars false
namespace Go.Proofs
open Go.Ide Go.IntWalk

theorem szInt64S_ok {xs : List Int} {n : Int} (hx : xs.length ≤ 9223372036854775807) (hn : 0 ≤ n ∧ n ≤ 1048576) : ∃ m, laws_szInt64S xs n = some m ∧ (m < 0 ∨ (xs.length ≤ 1048576 ∧ 0 ≤ m ∧ m ≤ n)) := by
  unfold laws_szInt64S
  have e : wsub .i64 n (lenI xs) = n - (xs.length : Int) := i64_in _ (by simp only [lenI]; omega)
  rw [e]
  by_cases h : n - (xs.length : Int) < 0
  · exact ⟨-1, by simp only [h, decide_true, cond_true], .inl (by omega)⟩
  · exact ⟨_, by simp only [h, decide_false, cond_false]; rfl, .inr ⟨by omega, by omega, by omega⟩⟩

theorem szBoolS_ok {xs : List Bool} {n : Int} (hx : xs.length ≤ 9223372036854775807) (hn : 0 ≤ n ∧ n ≤ 1048576) : ∃ m, laws_szBoolS xs n = some m ∧ (m < 0 ∨ (xs.length ≤ 1048576 ∧ 0 ≤ m ∧ m ≤ n)) := by
  unfold laws_szBoolS
  have e : wsub .i64 n (lenI xs) = n - (xs.length : Int) := i64_in _ (by simp only [lenI]; omega)
  rw [e]
  by_cases h : n - (xs.length : Int) < 0
  · exact ⟨-1, by simp only [h, decide_true, cond_true], .inl (by omega)⟩
  · exact ⟨_, by simp only [h, decide_false, cond_false]; rfl, .inr ⟨by omega, by omega, by omega⟩⟩

theorem toInt64S_ok {xs : List Int} (h : xs.length ≤ 1048576) : laws_toInt64S xs = some xs := by
  unfold laws_toInt64S
  rw [guard_pos ⟨by simp only [lenI]; omega, by simp only [lenI]; omega⟩]
  have := loop_to (f := laws_toInt64S_B1 xs) xs (0 : Int) (fun i out hi hl => by
    unfold laws_toInt64S_B1
    simp only [ltN hi, cond_true, guard_pos (idxN hi), guard_pos (idxN (i := i) (n := out.length) (by omega)), Int.toNat_natCast, nextN hi (by omega)]) (fun out hl => by
    unfold laws_toInt64S_B1
    simp only [geN (Nat.le_refl _), cond_false])
  simp only [Int.toNat_natCast, this, Option.bind_some]

theorem toBoolS_ok {xs : List Bool} (h : xs.length ≤ 1048576) : laws_toBoolS xs = some xs := by
  unfold laws_toBoolS
  rw [guard_pos ⟨by simp only [lenI]; omega, by simp only [lenI]; omega⟩]
  have := loop_to (f := laws_toBoolS_B1 xs) xs false (fun i out hi hl => by
    unfold laws_toBoolS_B1
    simp only [ltN hi, cond_true, guard_pos (idxN hi), guard_pos (idxN (i := i) (n := out.length) (by omega)), Int.toNat_natCast, nextN hi (by omega)]) (fun out hl => by
    unfold laws_toBoolS_B1
    simp only [geN (Nat.le_refl _), cond_false])
  simp only [Int.toNat_natCast, this, Option.bind_some]

theorem toArc_ok {x0 : Int} {x1 : Int} {x2 : Int} {x3 : Int}  : laws_toArc (x0, x1, x2, x3) = some (x0, x1, x2, x3) := by
  unfold laws_toArc
  rfl

theorem toRule_ok {x0 : Int} {x1 : Int} {x2 : Int} {x3 : Int}  : laws_toRule (x0, x1, x2, x3) = some (x0, x1, x2, x3) := by
  unfold laws_toRule
  rfl

theorem eqInt64S_ok {xs : List Int} (h : xs.length ≤ 1048576) : laws_eqInt64S xs xs = some true := by
  unfold laws_eqInt64S
  have := loop_eq (f := laws_eqInt64S_B1 xs xs) (Sum.inl ()) xs.length (fun i hi => by
    unfold laws_eqInt64S_B1
    simp only [ltN hi, cond_true, guard_pos (idxN hi), bne_self_eq_false, cond_false, nextN hi (by omega)]) (by
    unfold laws_eqInt64S_B1
    simp only [geN (Nat.le_refl _), cond_false])
  simp only [bne_self_eq_false, cond_false, this, Option.bind_some]

theorem eqBoolS_ok {xs : List Bool} (h : xs.length ≤ 1048576) : laws_eqBoolS xs xs = some true := by
  unfold laws_eqBoolS
  have := loop_eq (f := laws_eqBoolS_B1 xs xs) (Sum.inl ()) xs.length (fun i hi => by
    unfold laws_eqBoolS_B1
    simp only [ltN hi, cond_true, guard_pos (idxN hi), bne_self_eq_false, cond_false, nextN hi (by omega)]) (by
    unfold laws_eqBoolS_B1
    simp only [geN (Nat.le_refl _), cond_false])
  simp only [bne_self_eq_false, cond_false, this, Option.bind_some]

theorem eqArc_ok {x0 : Int} {x1 : Int} {x2 : Int} {x3 : Int}  : laws_eqArc (x0, x1, x2, x3) (x0, x1, x2, x3) = some true := by
  unfold laws_eqArc
  simp only [Option.bind_some, bne_self_eq_false, Bool.not_true, cond_false, decide_true]

theorem eqRule_ok {x0 : Int} {x1 : Int} {x2 : Int} {x3 : Int}  : laws_eqRule (x0, x1, x2, x3) (x0, x1, x2, x3) = some true := by
  unfold laws_eqRule
  simp only [Option.bind_some, bne_self_eq_false, Bool.not_true, cond_false, decide_true]

theorem szPlain_ok {x0 : Int} {x1 : Int} {x2 : List Int} {x3 : List Bool} {n : Int} (hx2 : x2.length ≤ 9223372036854775807) (hx3 : x3.length ≤ 9223372036854775807) (hn : 0 ≤ n ∧ n ≤ 1048576) : ∃ m, laws_szPlain (x0, x1, x2, x3) n = some m ∧ (m < 0 ∨ ((x2.length ≤ 1048576 ∧ x3.length ≤ 1048576) ∧ 0 ≤ m ∧ m ≤ n)) := by
  unfold laws_szPlain
  obtain ⟨m1, h1, k1⟩ := szInt64S_ok (n := n) (xs := x2) hx2 (by omega)
  simp only [h1, Option.bind_some]
  by_cases c1 : m1 < 0
  · simp only [c1, decide_true, cond_true]; exact ⟨-1, rfl, .inl (by omega)⟩
  · obtain ⟨g1, p1, q1⟩ := k1.resolve_left c1
    simp only [c1, decide_false, cond_false]
    obtain ⟨m2, h2, k2⟩ := szBoolS_ok (n := m1) (xs := x3) hx3 (by omega)
    simp only [h2, Option.bind_some]
    by_cases c2 : m2 < 0
    · simp only [c2, decide_true, cond_true]; exact ⟨-1, rfl, .inl (by omega)⟩
    · obtain ⟨g2, p2, q2⟩ := k2.resolve_left c2
      simp only [c2, decide_false, cond_false]
      exact ⟨_, rfl, .inr ⟨⟨g1, g2⟩, by omega, by omega⟩⟩

theorem szArcS_ok {xs : List (Int × Int × Int × Int)} {n : Int} (hx : xs.length ≤ 9223372036854775807) (hn : 0 ≤ n ∧ n ≤ 1048576) : ∃ m, laws_szArcS xs n = some m ∧ (m < 0 ∨ (xs.length ≤ 1048576 ∧ 0 ≤ m ∧ m ≤ n)) := by
  unfold laws_szArcS
  have e : wsub .i64 n (lenI xs) = n - (xs.length : Int) := i64_in _ (by simp only [lenI]; omega)
  rw [e]
  by_cases h : n - (xs.length : Int) < 0
  · exact ⟨-1, by simp only [h, decide_true, cond_true], .inl (by omega)⟩
  · exact ⟨_, by simp only [h, decide_false, cond_false]; rfl, .inr ⟨by omega, by omega, by omega⟩⟩

theorem szRuleS_ok {xs : List (Int × Int × Int × Int)} {n : Int} (hx : xs.length ≤ 9223372036854775807) (hn : 0 ≤ n ∧ n ≤ 1048576) : ∃ m, laws_szRuleS xs n = some m ∧ (m < 0 ∨ (xs.length ≤ 1048576 ∧ 0 ≤ m ∧ m ≤ n)) := by
  unfold laws_szRuleS
  have e : wsub .i64 n (lenI xs) = n - (xs.length : Int) := i64_in _ (by simp only [lenI]; omega)
  rw [e]
  by_cases h : n - (xs.length : Int) < 0
  · exact ⟨-1, by simp only [h, decide_true, cond_true], .inl (by omega)⟩
  · exact ⟨_, by simp only [h, decide_false, cond_false]; rfl, .inr ⟨by omega, by omega, by omega⟩⟩

theorem toPlain_ok {x0 : Int} {x1 : Int} {x2 : List Int} {x3 : List Bool} (hx2 : x2.length ≤ 1048576) (hx3 : x3.length ≤ 1048576) : laws_toPlain (x0, x1, x2, x3) = some (x0, x1, x2, x3) := by
  unfold laws_toPlain
  simp only [toInt64S_ok hx2, toBoolS_ok hx3, Option.bind_some]

theorem toArcS_ok {xs : List (Int × Int × Int × Int)} (h : xs.length ≤ 1048576) : laws_toArcS xs = some xs := by
  unfold laws_toArcS
  rw [guard_pos ⟨by simp only [lenI]; omega, by simp only [lenI]; omega⟩]
  have := loop_to (f := laws_toArcS_B1 xs) xs ((0 : Int), (0 : Int), (0 : Int), (0 : Int)) (fun i out hi hl => by
    unfold laws_toArcS_B1
    simp only [ltN hi, cond_true, guard_pos (idxN hi), guard_pos (idxN (i := i) (n := out.length) (by omega)), Int.toNat_natCast, nextN hi (by omega), toArc_ok, Option.bind_some]
    try rfl) (fun out hl => by
    unfold laws_toArcS_B1
    simp only [geN (Nat.le_refl _), cond_false])
  simp only [Int.toNat_natCast, this, Option.bind_some]

theorem toRuleS_ok {xs : List (Int × Int × Int × Int)} (h : xs.length ≤ 1048576) : laws_toRuleS xs = some xs := by
  unfold laws_toRuleS
  rw [guard_pos ⟨by simp only [lenI]; omega, by simp only [lenI]; omega⟩]
  have := loop_to (f := laws_toRuleS_B1 xs) xs ((0 : Int), (0 : Int), (0 : Int), (0 : Int)) (fun i out hi hl => by
    unfold laws_toRuleS_B1
    simp only [ltN hi, cond_true, guard_pos (idxN hi), guard_pos (idxN (i := i) (n := out.length) (by omega)), Int.toNat_natCast, nextN hi (by omega), toRule_ok, Option.bind_some]
    try rfl) (fun out hl => by
    unfold laws_toRuleS_B1
    simp only [geN (Nat.le_refl _), cond_false])
  simp only [Int.toNat_natCast, this, Option.bind_some]

theorem eqPlain_ok {x0 : Int} {x1 : Int} {x2 : List Int} {x3 : List Bool} (hx2 : x2.length ≤ 1048576) (hx3 : x3.length ≤ 1048576) : laws_eqPlain (x0, x1, x2, x3) (x0, x1, x2, x3) = some true := by
  unfold laws_eqPlain
  simp only [eqInt64S_ok hx2, eqBoolS_ok hx3, Option.bind_some, bne_self_eq_false, Bool.not_true, cond_false, decide_true]

theorem eqArcS_ok {xs : List (Int × Int × Int × Int)} (h : xs.length ≤ 1048576) : laws_eqArcS xs xs = some true := by
  unfold laws_eqArcS
  have := loop_eq (f := laws_eqArcS_B1 xs xs) (Sum.inl ()) xs.length (fun i hi => by
    unfold laws_eqArcS_B1
    simp only [ltN hi, cond_true, guard_pos (idxN hi), Int.toNat_natCast, eqArc_ok, Option.bind_some, Bool.not_true, cond_false, nextN hi (by omega)]) (by
    unfold laws_eqArcS_B1
    simp only [geN (Nat.le_refl _), cond_false])
  simp only [bne_self_eq_false, cond_false, this, Option.bind_some]

theorem eqRuleS_ok {xs : List (Int × Int × Int × Int)} (h : xs.length ≤ 1048576) : laws_eqRuleS xs xs = some true := by
  unfold laws_eqRuleS
  have := loop_eq (f := laws_eqRuleS_B1 xs xs) (Sum.inl ()) xs.length (fun i hi => by
    unfold laws_eqRuleS_B1
    simp only [ltN hi, cond_true, guard_pos (idxN hi), Int.toNat_natCast, eqRule_ok, Option.bind_some, Bool.not_true, cond_false, nextN hi (by omega)]) (by
    unfold laws_eqRuleS_B1
    simp only [geN (Nat.le_refl _), cond_false])
  simp only [bne_self_eq_false, cond_false, this, Option.bind_some]

theorem szMachine_ok {x0 : Int} {x1 : Int} {x2 : List (Int × Int × Int × Int)} {x3 : List Int} {x4 : List Int} {n : Int} (hx2 : x2.length ≤ 9223372036854775807) (hx3 : x3.length ≤ 9223372036854775807) (hx4 : x4.length ≤ 9223372036854775807) (hn : 0 ≤ n ∧ n ≤ 1048576) : ∃ m, laws_szMachine (x0, x1, x2, x3, x4) n = some m ∧ (m < 0 ∨ ((x2.length ≤ 1048576 ∧ x3.length ≤ 1048576 ∧ x4.length ≤ 1048576) ∧ 0 ≤ m ∧ m ≤ n)) := by
  unfold laws_szMachine
  obtain ⟨m1, h1, k1⟩ := szArcS_ok (n := n) (xs := x2) hx2 (by omega)
  simp only [h1, Option.bind_some]
  by_cases c1 : m1 < 0
  · simp only [c1, decide_true, cond_true]; exact ⟨-1, rfl, .inl (by omega)⟩
  · obtain ⟨g1, p1, q1⟩ := k1.resolve_left c1
    simp only [c1, decide_false, cond_false]
    obtain ⟨m2, h2, k2⟩ := szInt64S_ok (n := m1) (xs := x3) hx3 (by omega)
    simp only [h2, Option.bind_some]
    by_cases c2 : m2 < 0
    · simp only [c2, decide_true, cond_true]; exact ⟨-1, rfl, .inl (by omega)⟩
    · obtain ⟨g2, p2, q2⟩ := k2.resolve_left c2
      simp only [c2, decide_false, cond_false]
      obtain ⟨m3, h3, k3⟩ := szInt64S_ok (n := m2) (xs := x4) hx4 (by omega)
      simp only [h3, Option.bind_some]
      by_cases c3 : m3 < 0
      · simp only [c3, decide_true, cond_true]; exact ⟨-1, rfl, .inl (by omega)⟩
      · obtain ⟨g3, p3, q3⟩ := k3.resolve_left c3
        simp only [c3, decide_false, cond_false]
        exact ⟨_, rfl, .inr ⟨⟨g1, g2, g3⟩, by omega, by omega⟩⟩

theorem szGrammar_ok {x0 : Int} {x1 : Int} {x2 : List (Int × Int × Int × Int)} {n : Int} (hx2 : x2.length ≤ 9223372036854775807) (hn : 0 ≤ n ∧ n ≤ 1048576) : ∃ m, laws_szGrammar (x0, x1, x2) n = some m ∧ (m < 0 ∨ ((x2.length ≤ 1048576) ∧ 0 ≤ m ∧ m ≤ n)) := by
  unfold laws_szGrammar
  obtain ⟨m1, h1, k1⟩ := szRuleS_ok (n := n) (xs := x2) hx2 (by omega)
  simp only [h1, Option.bind_some]
  by_cases c1 : m1 < 0
  · simp only [c1, decide_true, cond_true]; exact ⟨-1, rfl, .inl (by omega)⟩
  · obtain ⟨g1, p1, q1⟩ := k1.resolve_left c1
    simp only [c1, decide_false, cond_false]
    exact ⟨_, rfl, .inr ⟨g1, by omega, by omega⟩⟩

theorem toMachine_ok {x0 : Int} {x1 : Int} {x2 : List (Int × Int × Int × Int)} {x3 : List Int} {x4 : List Int} (hx2 : x2.length ≤ 1048576) (hx3 : x3.length ≤ 1048576) (hx4 : x4.length ≤ 1048576) : laws_toMachine (x0, x1, x2, x3, x4) = some (x0, x1, x2, x3, x4) := by
  unfold laws_toMachine
  simp only [toArcS_ok hx2, toInt64S_ok hx3, toInt64S_ok hx4, Option.bind_some]

theorem toGrammar_ok {x0 : Int} {x1 : Int} {x2 : List (Int × Int × Int × Int)} (hx2 : x2.length ≤ 1048576) : laws_toGrammar (x0, x1, x2) = some (x0, x1, x2) := by
  unfold laws_toGrammar
  simp only [toRuleS_ok hx2, Option.bind_some]

theorem eqMachine_ok {x0 : Int} {x1 : Int} {x2 : List (Int × Int × Int × Int)} {x3 : List Int} {x4 : List Int} (hx2 : x2.length ≤ 1048576) (hx3 : x3.length ≤ 1048576) (hx4 : x4.length ≤ 1048576) : laws_eqMachine (x0, x1, x2, x3, x4) (x0, x1, x2, x3, x4) = some true := by
  unfold laws_eqMachine
  simp only [eqArcS_ok hx2, eqInt64S_ok hx3, eqInt64S_ok hx4, Option.bind_some, bne_self_eq_false, Bool.not_true, cond_false, decide_true]

theorem eqGrammar_ok {x0 : Int} {x1 : Int} {x2 : List (Int × Int × Int × Int)} (hx2 : x2.length ≤ 1048576) : laws_eqGrammar (x0, x1, x2) (x0, x1, x2) = some true := by
  unfold laws_eqGrammar
  simp only [eqRuleS_ok hx2, Option.bind_some, bne_self_eq_false, Bool.not_true, cond_false, decide_true]

theorem szDesk_ok {x0 : Int} {x1 : Int} {x2 : List (Int × Int × Int × Int)} {x3 : List Int} {x4 : List Int} {x5 : Int} {x6 : Int} {x7 : List Int} {x8 : List Bool} {x9 : Int} {x10 : Int} {x11 : List (Int × Int × Int × Int)} {x12 : List Int} {n : Int} (hx2 : x2.length ≤ 9223372036854775807) (hx3 : x3.length ≤ 9223372036854775807) (hx4 : x4.length ≤ 9223372036854775807) (hx7 : x7.length ≤ 9223372036854775807) (hx8 : x8.length ≤ 9223372036854775807) (hx11 : x11.length ≤ 9223372036854775807) (hx12 : x12.length ≤ 9223372036854775807) (hn : 0 ≤ n ∧ n ≤ 1048576) : ∃ m, laws_szDesk ((x0, x1, x2, x3, x4), (x5, x6, x7, x8), (x9, x10, x11), x12) n = some m ∧ (m < 0 ∨ ((x2.length ≤ 1048576 ∧ x3.length ≤ 1048576 ∧ x4.length ≤ 1048576 ∧ x7.length ≤ 1048576 ∧ x8.length ≤ 1048576 ∧ x11.length ≤ 1048576 ∧ x12.length ≤ 1048576) ∧ 0 ≤ m ∧ m ≤ n)) := by
  unfold laws_szDesk
  obtain ⟨m1, h1, k1⟩ := szMachine_ok (n := n) (x0 := x0) (x1 := x1) (x2 := x2) (x3 := x3) (x4 := x4) hx2 hx3 hx4 (by omega)
  simp only [h1, Option.bind_some]
  by_cases c1 : m1 < 0
  · simp only [c1, decide_true, cond_true]; exact ⟨-1, rfl, .inl (by omega)⟩
  · obtain ⟨g1, p1, q1⟩ := k1.resolve_left c1
    simp only [c1, decide_false, cond_false]
    obtain ⟨m2, h2, k2⟩ := szPlain_ok (n := m1) (x0 := x5) (x1 := x6) (x2 := x7) (x3 := x8) hx7 hx8 (by omega)
    simp only [h2, Option.bind_some]
    by_cases c2 : m2 < 0
    · simp only [c2, decide_true, cond_true]; exact ⟨-1, rfl, .inl (by omega)⟩
    · obtain ⟨g2, p2, q2⟩ := k2.resolve_left c2
      simp only [c2, decide_false, cond_false]
      obtain ⟨m3, h3, k3⟩ := szGrammar_ok (n := m2) (x0 := x9) (x1 := x10) (x2 := x11) hx11 (by omega)
      simp only [h3, Option.bind_some]
      by_cases c3 : m3 < 0
      · simp only [c3, decide_true, cond_true]; exact ⟨-1, rfl, .inl (by omega)⟩
      · obtain ⟨g3, p3, q3⟩ := k3.resolve_left c3
        simp only [c3, decide_false, cond_false]
        obtain ⟨m4, h4, k4⟩ := szInt64S_ok (n := m3) (xs := x12) hx12 (by omega)
        simp only [h4, Option.bind_some]
        by_cases c4 : m4 < 0
        · simp only [c4, decide_true, cond_true]; exact ⟨-1, rfl, .inl (by omega)⟩
        · obtain ⟨g4, p4, q4⟩ := k4.resolve_left c4
          simp only [c4, decide_false, cond_false]
          exact ⟨_, rfl, .inr ⟨⟨g1.1, g1.2.1, g1.2.2, g2.1, g2.2, g3, g4⟩, by omega, by omega⟩⟩

theorem toDesk_ok {x0 : Int} {x1 : Int} {x2 : List (Int × Int × Int × Int)} {x3 : List Int} {x4 : List Int} {x5 : Int} {x6 : Int} {x7 : List Int} {x8 : List Bool} {x9 : Int} {x10 : Int} {x11 : List (Int × Int × Int × Int)} {x12 : List Int} (hx2 : x2.length ≤ 1048576) (hx3 : x3.length ≤ 1048576) (hx4 : x4.length ≤ 1048576) (hx7 : x7.length ≤ 1048576) (hx8 : x8.length ≤ 1048576) (hx11 : x11.length ≤ 1048576) (hx12 : x12.length ≤ 1048576) : laws_toDesk ((x0, x1, x2, x3, x4), (x5, x6, x7, x8), (x9, x10, x11), x12) = some ((x0, x1, x2, x3, x4), (x5, x6, x7, x8), (x9, x10, x11), x12) := by
  unfold laws_toDesk
  simp only [toMachine_ok hx2 hx3 hx4, toPlain_ok hx7 hx8, toGrammar_ok hx11, toInt64S_ok hx12, Option.bind_some]

theorem eqDesk_ok {x0 : Int} {x1 : Int} {x2 : List (Int × Int × Int × Int)} {x3 : List Int} {x4 : List Int} {x5 : Int} {x6 : Int} {x7 : List Int} {x8 : List Bool} {x9 : Int} {x10 : Int} {x11 : List (Int × Int × Int × Int)} {x12 : List Int} (hx2 : x2.length ≤ 1048576) (hx3 : x3.length ≤ 1048576) (hx4 : x4.length ≤ 1048576) (hx7 : x7.length ≤ 1048576) (hx8 : x8.length ≤ 1048576) (hx11 : x11.length ≤ 1048576) (hx12 : x12.length ≤ 1048576) : laws_eqDesk ((x0, x1, x2, x3, x4), (x5, x6, x7, x8), (x9, x10, x11), x12) ((x0, x1, x2, x3, x4), (x5, x6, x7, x8), (x9, x10, x11), x12) = some true := by
  unfold laws_eqDesk
  simp only [eqMachine_ok hx2 hx3 hx4, eqPlain_ok hx7 hx8, eqGrammar_ok hx11, eqInt64S_ok hx12, Option.bind_some, bne_self_eq_false, Bool.not_true, cond_false, decide_true]

end Go.Proofs


namespace Go.Proofs
open Go.Ide Go.IntWalk

def eqI (xs ys : List Int) : Bool := (lenI xs == lenI ys) && allN (fun i => xs.getD i 0 == ys.getD i 0) xs.length 0
def eqBs (xs ys : List Bool) : Bool := (lenI xs == lenI ys) && allN (fun i => xs.getD i false == ys.getD i false) xs.length 0
def same4 (a b : Int × Int × Int × Int) : Bool := (a.1 == b.1) && ((a.2.1 == b.2.1) && ((a.2.2.1 == b.2.2.1) && ((a.2.2.2 == b.2.2.2) && true)))
def all4 (xs ys : List (Int × Int × Int × Int)) : Bool := allN (fun i => same4 (xs.getD i (0, 0, 0, 0)) (ys.getD i (0, 0, 0, 0))) xs.length 0

theorem lenI_eq {α β : Type} {xs : List α} {ys : List β} (h : (lenI xs == lenI ys) = true) : ys.length = xs.length := by
  simp only [lenI, beq_iff_eq] at h; omega

theorem specEqI {xs ys : List Int} (h : xs.length ≤ 4294967296) : spec_l02Equal xs ys = some (eqI xs ys) := by
  unfold spec_l02Equal eqI
  simp only [bne]
  cases hl : (lenI xs == lenI ys) with
  | false => rfl
  | true =>
    have hn := lenI_eq hl
    have := rounds_all (f := spec_l02Equal_B1 xs ys) (fun i => ((i : Nat) : Int)) (fun i => xs.getD i 0 == ys.getD i 0) (Sum.inl ()) (Sum.inr ()) (n := xs.length) (fun i hi => by
      unfold spec_l02Equal_B1
      simp only [ltN hi, cond_true, guard_pos (idxN hi), guard_pos (idxN (i := i) (n := ys.length) (by omega)), Int.toNat_natCast, nextN hi h, bne]
      cases (xs.getD i 0 == ys.getD i 0) <;> rfl) (by
      unfold spec_l02Equal_B1
      simp only [geN (Nat.le_refl _), cond_false]) xs.length 0 (by omega)
    simp only [Int.natCast_zero] at this
    simp only [Bool.not_true, cond_false, this, Option.bind_some, Bool.true_and]
    cases allN (fun i => xs.getD i 0 == ys.getD i 0) xs.length 0 <;> rfl

theorem implEqI {xs ys : List Int} (h : xs.length ≤ 4294967296) : slices_Equal___int64_int64 xs ys = some (eqI xs ys) := by
  unfold slices_Equal___int64_int64 eqI
  simp only [bne]
  cases hl : (lenI xs == lenI ys) with
  | false => rfl
  | true =>
    have hn := lenI_eq hl
    have := rounds_all (f := slices_Equal___int64_int64_B1 xs ys) (fun i => ((i : Nat) : Int)) (fun i => xs.getD i 0 == ys.getD i 0) (Sum.inl ()) (Sum.inr ()) (n := xs.length) (fun i hi => by
      unfold slices_Equal___int64_int64_B1
      simp only [ltN hi, cond_true, guard_pos (idxN hi), guard_pos (idxN (i := i) (n := ys.length) (by omega)), Int.toNat_natCast, nextN hi h, bne]
      cases (xs.getD i 0 == ys.getD i 0) <;> rfl) (by
      unfold slices_Equal___int64_int64_B1
      simp only [geN (Nat.le_refl _), cond_false]) xs.length 0 (by omega)
    simp only [Int.natCast_zero] at this
    simp only [Bool.not_true, cond_false, this, Option.bind_some, Bool.true_and]
    cases allN (fun i => xs.getD i 0 == ys.getD i 0) xs.length 0 <;> rfl

theorem implEqB {xs ys : List Bool} (h : xs.length ≤ 4294967296) : slices_Equal___bool_bool xs ys = some (eqBs xs ys) := by
  unfold slices_Equal___bool_bool eqBs
  simp only [bne]
  cases hl : (lenI xs == lenI ys) with
  | false => rfl
  | true =>
    have hn := lenI_eq hl
    have := rounds_all (f := slices_Equal___bool_bool_B1 xs ys) (fun i => ((i : Nat) : Int)) (fun i => xs.getD i false == ys.getD i false) (Sum.inl ()) (Sum.inr ()) (n := xs.length) (fun i hi => by
      unfold slices_Equal___bool_bool_B1
      simp only [ltN hi, cond_true, guard_pos (idxN hi), guard_pos (idxN (i := i) (n := ys.length) (by omega)), Int.toNat_natCast, nextN hi h, bne]
      cases (xs.getD i false == ys.getD i false) <;> rfl) (by
      unfold slices_Equal___bool_bool_B1
      simp only [geN (Nat.le_refl _), cond_false]) xs.length 0 (by omega)
    simp only [Int.natCast_zero] at this
    simp only [Bool.not_true, cond_false, this, Option.bind_some, Bool.true_and]
    cases allN (fun i => xs.getD i false == ys.getD i false) xs.length 0 <;> rfl

theorem implEqA {xs ys : List (Int × Int × Int × Int)} (h : xs.length ≤ 4294967296) : slices_Equal___impl_Arc_impl_Arc xs ys = some ((lenI xs == lenI ys) && all4 xs ys) := by
  unfold slices_Equal___impl_Arc_impl_Arc
  simp only [bne]
  cases hl : (lenI xs == lenI ys) with
  | false => rfl
  | true =>
    have hn := lenI_eq hl
    have := rounds_all (f := slices_Equal___impl_Arc_impl_Arc_B1 xs ys) (fun i => ((i : Nat) : Int)) (fun i => same4 (xs.getD i (0, 0, 0, 0)) (ys.getD i (0, 0, 0, 0))) (Sum.inl ()) (Sum.inr ()) (n := xs.length) (fun i hi => by
      unfold slices_Equal___impl_Arc_impl_Arc_B1
      simp only [ltN hi, cond_true, guard_pos (idxN hi), guard_pos (idxN (i := i) (n := ys.length) (by omega)), Int.toNat_natCast, nextN hi h]
      rw [show (((List.getD xs i (0, 0, 0, 0)).1 == (List.getD ys i (0, 0, 0, 0)).1) && (((List.getD xs i (0, 0, 0, 0)).2.1 == (List.getD ys i (0, 0, 0, 0)).2.1) && (((List.getD xs i (0, 0, 0, 0)).2.2.1 == (List.getD ys i (0, 0, 0, 0)).2.2.1) && (((List.getD xs i (0, 0, 0, 0)).2.2.2 == (List.getD ys i (0, 0, 0, 0)).2.2.2) && true)))) = same4 (xs.getD i (0, 0, 0, 0)) (ys.getD i (0, 0, 0, 0)) from rfl]
      cases same4 (xs.getD i (0, 0, 0, 0)) (ys.getD i (0, 0, 0, 0)) <;> rfl) (by
      unfold slices_Equal___impl_Arc_impl_Arc_B1
      simp only [geN (Nat.le_refl _), cond_false]) xs.length 0 (by omega)
    simp only [Int.natCast_zero] at this
    rw [show allN (fun i => same4 (xs.getD i (0, 0, 0, 0)) (ys.getD i (0, 0, 0, 0))) xs.length 0 = all4 xs ys from rfl] at this
    simp only [Bool.not_true, cond_false, this, Option.bind_some, Bool.true_and]
    cases all4 xs ys <;> rfl

theorem implEqR {xs ys : List (Int × Int × Int × Int)} (h : xs.length ≤ 4294967296) : slices_Equal___impl_Rule_impl_Rule xs ys = some ((lenI xs == lenI ys) && all4 xs ys) := by
  unfold slices_Equal___impl_Rule_impl_Rule
  simp only [bne]
  cases hl : (lenI xs == lenI ys) with
  | false => rfl
  | true =>
    have hn := lenI_eq hl
    have := rounds_all (f := slices_Equal___impl_Rule_impl_Rule_B1 xs ys) (fun i => ((i : Nat) : Int)) (fun i => same4 (xs.getD i (0, 0, 0, 0)) (ys.getD i (0, 0, 0, 0))) (Sum.inl ()) (Sum.inr ()) (n := xs.length) (fun i hi => by
      unfold slices_Equal___impl_Rule_impl_Rule_B1
      simp only [ltN hi, cond_true, guard_pos (idxN hi), guard_pos (idxN (i := i) (n := ys.length) (by omega)), Int.toNat_natCast, nextN hi h]
      rw [show (((List.getD xs i (0, 0, 0, 0)).1 == (List.getD ys i (0, 0, 0, 0)).1) && (((List.getD xs i (0, 0, 0, 0)).2.1 == (List.getD ys i (0, 0, 0, 0)).2.1) && (((List.getD xs i (0, 0, 0, 0)).2.2.1 == (List.getD ys i (0, 0, 0, 0)).2.2.1) && (((List.getD xs i (0, 0, 0, 0)).2.2.2 == (List.getD ys i (0, 0, 0, 0)).2.2.2) && true)))) = same4 (xs.getD i (0, 0, 0, 0)) (ys.getD i (0, 0, 0, 0)) from rfl]
      cases same4 (xs.getD i (0, 0, 0, 0)) (ys.getD i (0, 0, 0, 0)) <;> rfl) (by
      unfold slices_Equal___impl_Rule_impl_Rule_B1
      simp only [geN (Nat.le_refl _), cond_false]) xs.length 0 (by omega)
    simp only [Int.natCast_zero] at this
    rw [show allN (fun i => same4 (xs.getD i (0, 0, 0, 0)) (ys.getD i (0, 0, 0, 0))) xs.length 0 = all4 xs ys from rfl] at this
    simp only [Bool.not_true, cond_false, this, Option.bind_some, Bool.true_and]
    cases all4 xs ys <;> rfl

/-- Machines that are the same. -/
def sameM (s l s' l' : Int) (zs zs' : List (Int × Int × Int × Int)) (ss ss' es es' : List Int) : Bool :=
  (s == s') && ((l == l') && (((lenI zs == lenI zs') && all4 zs zs') && (eqI ss ss' && eqI es es')))

theorem specSameM {s l s' l' : Int} {zs zs' : List (Int × Int × Int × Int)} {ss ss' es es' : List Int} (h : zs.length ≤ 4294967296) (hs : ss.length ≤ 4294967296) (he : es.length ≤ 4294967296) :
    spec_l02Same (s, l, zs, ss, es) (s', l', zs', ss', es') = some (sameM s l s' l' zs zs' ss ss' es es') := by
  unfold spec_l02Same sameM
  simp only [specEqI hs, specEqI he, Option.bind_some, bne]
  cases hl : (lenI zs == lenI zs') with
  | false => cases (s == s') <;> cases (l == l') <;> rfl
  | true =>
    have hn := lenI_eq hl
    have := rounds_all (f := spec_l02Same_B1 (s, l, zs, ss, es) (s', l', zs', ss', es')) (fun i => ((i : Nat) : Int)) (fun i => same4 (zs.getD i (0, 0, 0, 0)) (zs'.getD i (0, 0, 0, 0))) (Sum.inl ()) (Sum.inr ()) (n := zs.length) (fun i hi => by
      unfold spec_l02Same_B1
      simp only [ltN hi, cond_true, guard_pos (idxN hi), guard_pos (idxN (i := i) (n := zs'.length) (by omega)), Int.toNat_natCast, nextN hi h]
      rw [show (((List.getD zs i (0, 0, 0, 0)).1 == (List.getD zs' i (0, 0, 0, 0)).1) && (((List.getD zs i (0, 0, 0, 0)).2.1 == (List.getD zs' i (0, 0, 0, 0)).2.1) && (((List.getD zs i (0, 0, 0, 0)).2.2.1 == (List.getD zs' i (0, 0, 0, 0)).2.2.1) && (((List.getD zs i (0, 0, 0, 0)).2.2.2 == (List.getD zs' i (0, 0, 0, 0)).2.2.2) && true)))) = same4 (zs.getD i (0, 0, 0, 0)) (zs'.getD i (0, 0, 0, 0)) from rfl]
      cases same4 (zs.getD i (0, 0, 0, 0)) (zs'.getD i (0, 0, 0, 0)) <;> rfl) (by
      unfold spec_l02Same_B1
      simp only [geN (Nat.le_refl _), cond_false]) zs.length 0 (by omega)
    simp only [Int.natCast_zero] at this
    rw [show allN (fun i => same4 (zs.getD i (0, 0, 0, 0)) (zs'.getD i (0, 0, 0, 0))) zs.length 0 = all4 zs zs' from rfl] at this
    simp only [this, Option.bind_some]
    cases (s == s') <;> cases (l == l') <;> cases eqI ss ss' <;> cases eqI es es' <;> cases all4 zs zs' <;> rfl

theorem implSameM {s l s' l' : Int} {zs zs' : List (Int × Int × Int × Int)} {ss ss' es es' : List Int} (h : zs.length ≤ 4294967296) (hs : ss.length ≤ 4294967296) (he : es.length ≤ 4294967296) :
    impl_SameMachine (s, l, zs, ss, es) (s', l', zs', ss', es') = some (sameM s l s' l' zs zs' ss ss' es es') := by
  unfold impl_SameMachine sameM
  simp only [implEqI hs, implEqI he, implEqA h, Option.bind_some]
  generalize ((lenI zs == lenI zs') && all4 zs zs') = A
  cases (s == s') <;> cases (l == l') <;> cases eqI ss ss' <;> cases eqI es es' <;> cases A <;> rfl

def sameP (s l s' l' : Int) (zs zs' : List Int) (es es' : List Bool) : Bool := (s == s') && ((l == l') && (eqI zs zs' && eqBs es es'))

theorem specSameP {s l s' l' : Int} {zs zs' : List Int} {es es' : List Bool} (h : zs.length ≤ 4294967296) (he : es.length ≤ 4294967296) :
    spec_l02SamePlain (s, l, zs, es) (s', l', zs', es') = some (sameP s l s' l' zs zs' es es') := by
  unfold spec_l02SamePlain sameP eqBs
  simp only [specEqI h, Option.bind_some, bne]
  cases hl : (lenI es == lenI es') with
  | false => cases (s == s') <;> cases (l == l') <;> cases eqI zs zs' <;> rfl
  | true =>
    have hn := lenI_eq hl
    have := rounds_all (f := spec_l02SamePlain_B1 (s, l, zs, es) (s', l', zs', es')) (fun i => ((i : Nat) : Int)) (fun i => es.getD i false == es'.getD i false) (Sum.inl ()) (Sum.inr ()) (n := es.length) (fun i hi => by
      unfold spec_l02SamePlain_B1
      simp only [ltN hi, cond_true, guard_pos (idxN hi), guard_pos (idxN (i := i) (n := es'.length) (by omega)), Int.toNat_natCast, nextN hi he, bne]
      cases (es.getD i false == es'.getD i false) <;> rfl) (by
      unfold spec_l02SamePlain_B1
      simp only [geN (Nat.le_refl _), cond_false]) es.length 0 (by omega)
    simp only [Int.natCast_zero] at this
    simp only [this, Option.bind_some]
    cases (s == s') <;> cases (l == l') <;> cases eqI zs zs' <;> cases allN (fun i => es.getD i false == es'.getD i false) es.length 0 <;> rfl

theorem implSameP {s l s' l' : Int} {zs zs' : List Int} {es es' : List Bool} (h : zs.length ≤ 4294967296) (he : es.length ≤ 4294967296) :
    impl_SamePlain (s, l, zs, es) (s', l', zs', es') = some (sameP s l s' l' zs zs' es es') := by
  unfold impl_SamePlain sameP
  simp only [implEqI h, implEqB he, Option.bind_some]
  cases (s == s') <;> cases (l == l') <;> cases eqI zs zs' <;> cases eqBs es es' <;> rfl

def sameG (s l s' l' : Int) (zs zs' : List (Int × Int × Int × Int)) : Bool := (s == s') && ((l == l') && ((lenI zs == lenI zs') && all4 zs zs'))

theorem specSameG {s l s' l' : Int} {zs zs' : List (Int × Int × Int × Int)} (h : zs.length ≤ 4294967296) : spec_l06Same (s, l, zs) (s', l', zs') = some (sameG s l s' l' zs zs') := by
  unfold spec_l06Same sameG
  simp only [bne]
  cases hl : (lenI zs == lenI zs') with
  | false => cases (s == s') <;> cases (l == l') <;> rfl
  | true =>
    have hn := lenI_eq hl
    have := rounds_all (f := spec_l06Same_B1 (s, l, zs) (s', l', zs')) (fun i => ((i : Nat) : Int)) (fun i => same4 (zs.getD i (0, 0, 0, 0)) (zs'.getD i (0, 0, 0, 0))) (Sum.inl ()) (Sum.inr ()) (n := zs.length) (fun i hi => by
      unfold spec_l06Same_B1
      simp only [ltN hi, cond_true, guard_pos (idxN hi), guard_pos (idxN (i := i) (n := zs'.length) (by omega)), Int.toNat_natCast, nextN hi h]
      rw [show (((List.getD zs i (0, 0, 0, 0)).1 == (List.getD zs' i (0, 0, 0, 0)).1) && (((List.getD zs i (0, 0, 0, 0)).2.1 == (List.getD zs' i (0, 0, 0, 0)).2.1) && (((List.getD zs i (0, 0, 0, 0)).2.2.1 == (List.getD zs' i (0, 0, 0, 0)).2.2.1) && (((List.getD zs i (0, 0, 0, 0)).2.2.2 == (List.getD zs' i (0, 0, 0, 0)).2.2.2) && true)))) = same4 (zs.getD i (0, 0, 0, 0)) (zs'.getD i (0, 0, 0, 0)) from rfl]
      cases same4 (zs.getD i (0, 0, 0, 0)) (zs'.getD i (0, 0, 0, 0)) <;> rfl) (by
      unfold spec_l06Same_B1
      simp only [geN (Nat.le_refl _), cond_false]) zs.length 0 (by omega)
    simp only [Int.natCast_zero] at this
    rw [show allN (fun i => same4 (zs.getD i (0, 0, 0, 0)) (zs'.getD i (0, 0, 0, 0))) zs.length 0 = all4 zs zs' from rfl] at this
    simp only [this, Option.bind_some]
    cases (s == s') <;> cases (l == l') <;> cases all4 zs zs' <;> rfl

theorem implSameG {s l s' l' : Int} {zs zs' : List (Int × Int × Int × Int)} (h : zs.length ≤ 4294967296) : impl_SameGrammar (s, l, zs) (s', l', zs') = some (sameG s l s' l' zs zs') := by
  unfold impl_SameGrammar sameG
  simp only [implEqR h, Option.bind_some]
  generalize ((lenI zs == lenI zs') && all4 zs zs') = A
  cases (s == s') <;> cases (l == l') <;> cases A <;> rfl

theorem SameDesk_eq {x0_0 x0_1 : Int} {x0_2 : List (Int × Int × Int × Int)} {x0_3 x0_4 : List Int} {x0_5 x0_6 : Int} {x0_7 : List Int} {x0_8 : List Bool} {x0_9 x0_10 : Int} {x0_11 : List (Int × Int × Int × Int)} {x0_12 : List Int}
    {x1_0 x1_1 : Int} {x1_2 : List (Int × Int × Int × Int)} {x1_3 x1_4 : List Int} {x1_5 x1_6 : Int} {x1_7 : List Int} {x1_8 : List Bool} {x1_9 x1_10 : Int} {x1_11 : List (Int × Int × Int × Int)} {x1_12 : List Int}
    (h2 : x0_2.length ≤ 1048576) (h3 : x0_3.length ≤ 1048576) (h4 : x0_4.length ≤ 1048576) (h7 : x0_7.length ≤ 1048576) (h8 : x0_8.length ≤ 1048576) (h11 : x0_11.length ≤ 1048576) (h12 : x0_12.length ≤ 1048576)
    (_ : x1_2.length ≤ 1048576) (_ : x1_3.length ≤ 1048576) (_ : x1_4.length ≤ 1048576) (_ : x1_7.length ≤ 1048576) (_ : x1_8.length ≤ 1048576) (_ : x1_11.length ≤ 1048576) (_ : x1_12.length ≤ 1048576) :
    ∃ r, spec_SameDesk ((x0_0, x0_1, x0_2, x0_3, x0_4), (x0_5, x0_6, x0_7, x0_8), (x0_9, x0_10, x0_11), x0_12) ((x1_0, x1_1, x1_2, x1_3, x1_4), (x1_5, x1_6, x1_7, x1_8), (x1_9, x1_10, x1_11), x1_12) = some r ∧
      impl_SameDesk ((x0_0, x0_1, x0_2, x0_3, x0_4), (x0_5, x0_6, x0_7, x0_8), (x0_9, x0_10, x0_11), x0_12) ((x1_0, x1_1, x1_2, x1_3, x1_4), (x1_5, x1_6, x1_7, x1_8), (x1_9, x1_10, x1_11), x1_12) = some r := by
  refine ⟨sameM x0_0 x0_1 x1_0 x1_1 x0_2 x1_2 x0_3 x1_3 x0_4 x1_4 && (sameP x0_5 x0_6 x1_5 x1_6 x0_7 x1_7 x0_8 x1_8 && (sameG x0_9 x0_10 x1_9 x1_10 x0_11 x1_11 && eqI x0_12 x1_12)), ?_, ?_⟩
  · unfold spec_SameDesk
    simp only [specSameM (zs := x0_2) (ss := x0_3) (es := x0_4) (by omega) (by omega) (by omega), specSameP (zs := x0_7) (es := x0_8) (by omega) (by omega), specSameG (zs := x0_11) (by omega), specEqI (xs := x0_12) (by omega), Option.bind_some]
    cases sameM x0_0 x0_1 x1_0 x1_1 x0_2 x1_2 x0_3 x1_3 x0_4 x1_4 <;> cases sameP x0_5 x0_6 x1_5 x1_6 x0_7 x1_7 x0_8 x1_8 <;> cases sameG x0_9 x0_10 x1_9 x1_10 x0_11 x1_11 <;> rfl
  · unfold impl_SameDesk
    simp only [implSameM (zs := x0_2) (ss := x0_3) (es := x0_4) (by omega) (by omega) (by omega), implSameP (zs := x0_7) (es := x0_8) (by omega) (by omega), implSameG (zs := x0_11) (by omega), implEqI (xs := x0_12) (by omega), Option.bind_some]
    cases sameM x0_0 x0_1 x1_0 x1_1 x0_2 x1_2 x0_3 x1_3 x0_4 x1_4 <;> cases sameP x0_5 x0_6 x1_5 x1_6 x0_7 x1_7 x0_8 x1_8 <;> cases sameG x0_9 x0_10 x1_9 x1_10 x0_11 x1_11 <;> rfl

end Go.Proofs

namespace Go.Proofs
open Go.Ide Go.IntWalk

theorem SameDesk_law (x0 : (Int × Int × List (Int × Int × Int × Int) × List Int × List Int) × (Int × Int × List Int × List Bool) × (Int × Int × List (Int × Int × Int × Int)) × List Int) (x1 : (Int × Int × List (Int × Int × Int × Int) × List Int × List Int) × (Int × Int × List Int × List Bool) × (Int × Int × List (Int × Int × Int × Int)) × List Int) (w0 : WfD (.st (.pair (.st (.pair (.int .i64) (.pair (.int .i64) (.pair (.sl (.st (.pair (.int .i64) (.pair (.int .i64) (.pair (.int .i64) (.int .i64)))))) (.pair (.sl (.int .i64)) (.sl (.int .i64))))))) (.pair (.st (.pair (.int .i64) (.pair (.int .i64) (.pair (.sl (.int .i64)) (.sl .bool))))) (.pair (.st (.pair (.int .i64) (.pair (.int .i64) (.sl (.st (.pair (.int .i64) (.pair (.int .i64) (.pair (.int .i64) (.int .i64))))))))) (.sl (.int .i64)))))) x0) (w1 : WfD (.st (.pair (.st (.pair (.int .i64) (.pair (.int .i64) (.pair (.sl (.st (.pair (.int .i64) (.pair (.int .i64) (.pair (.int .i64) (.int .i64)))))) (.pair (.sl (.int .i64)) (.sl (.int .i64))))))) (.pair (.st (.pair (.int .i64) (.pair (.int .i64) (.pair (.sl (.int .i64)) (.sl .bool))))) (.pair (.st (.pair (.int .i64) (.pair (.int .i64) (.sl (.st (.pair (.int .i64) (.pair (.int .i64) (.pair (.int .i64) (.int .i64))))))))) (.sl (.int .i64)))))) x1) : laws_FnExactSameDesk x0 x1 = some true := by
  obtain ⟨⟨x0_0, ⟨x0_1, ⟨x0_2, ⟨x0_3, x0_4⟩⟩⟩⟩, ⟨⟨x0_5, ⟨x0_6, ⟨x0_7, x0_8⟩⟩⟩, ⟨⟨x0_9, ⟨x0_10, x0_11⟩⟩, x0_12⟩⟩⟩ := x0
  have hx0_2 : x0_2.length ≤ 9223372036854775807 := Nat.le_trans (w0.1.2.2.1.1) (by decide)
  have hx0_3 : x0_3.length ≤ 9223372036854775807 := Nat.le_trans (w0.1.2.2.2.1.1) (by decide)
  have hx0_4 : x0_4.length ≤ 9223372036854775807 := Nat.le_trans (w0.1.2.2.2.2.1) (by decide)
  have hx0_7 : x0_7.length ≤ 9223372036854775807 := Nat.le_trans (w0.2.1.2.2.1.1) (by decide)
  have hx0_8 : x0_8.length ≤ 9223372036854775807 := Nat.le_trans (w0.2.1.2.2.2.1) (by decide)
  have hx0_11 : x0_11.length ≤ 9223372036854775807 := Nat.le_trans (w0.2.2.1.2.2.1) (by decide)
  have hx0_12 : x0_12.length ≤ 9223372036854775807 := Nat.le_trans (w0.2.2.2.1) (by decide)
  obtain ⟨⟨x1_0, ⟨x1_1, ⟨x1_2, ⟨x1_3, x1_4⟩⟩⟩⟩, ⟨⟨x1_5, ⟨x1_6, ⟨x1_7, x1_8⟩⟩⟩, ⟨⟨x1_9, ⟨x1_10, x1_11⟩⟩, x1_12⟩⟩⟩ := x1
  have hx1_2 : x1_2.length ≤ 9223372036854775807 := Nat.le_trans (w1.1.2.2.1.1) (by decide)
  have hx1_3 : x1_3.length ≤ 9223372036854775807 := Nat.le_trans (w1.1.2.2.2.1.1) (by decide)
  have hx1_4 : x1_4.length ≤ 9223372036854775807 := Nat.le_trans (w1.1.2.2.2.2.1) (by decide)
  have hx1_7 : x1_7.length ≤ 9223372036854775807 := Nat.le_trans (w1.2.1.2.2.1.1) (by decide)
  have hx1_8 : x1_8.length ≤ 9223372036854775807 := Nat.le_trans (w1.2.1.2.2.2.1) (by decide)
  have hx1_11 : x1_11.length ≤ 9223372036854775807 := Nat.le_trans (w1.2.2.1.2.2.1) (by decide)
  have hx1_12 : x1_12.length ≤ 9223372036854775807 := Nat.le_trans (w1.2.2.2.1) (by decide)
  unfold laws_FnExactSameDesk
  obtain ⟨m1, a1, b1⟩ := szDesk_ok (n := 1048576) (x0 := x0_0) (x1 := x0_1) (x2 := x0_2) (x3 := x0_3) (x4 := x0_4) (x5 := x0_5) (x6 := x0_6) (x7 := x0_7) (x8 := x0_8) (x9 := x0_9) (x10 := x0_10) (x11 := x0_11) (x12 := x0_12) hx0_2 hx0_3 hx0_4 hx0_7 hx0_8 hx0_11 hx0_12 (by omega)
  simp only [a1, Option.bind_some]
  by_cases c1 : m1 < 0
  · simp only [c1, decide_true, cond_true]
  · obtain ⟨⟨ox0_2, ox0_3, ox0_4, ox0_7, ox0_8, ox0_11, ox0_12⟩, d1, f1⟩ := b1.resolve_left c1
    simp only [c1, decide_false, cond_false]
    obtain ⟨m2, a2, b2⟩ := szDesk_ok (n := m1) (x0 := x1_0) (x1 := x1_1) (x2 := x1_2) (x3 := x1_3) (x4 := x1_4) (x5 := x1_5) (x6 := x1_6) (x7 := x1_7) (x8 := x1_8) (x9 := x1_9) (x10 := x1_10) (x11 := x1_11) (x12 := x1_12) hx1_2 hx1_3 hx1_4 hx1_7 hx1_8 hx1_11 hx1_12 (by omega)
    simp only [a2, Option.bind_some]
    by_cases c2 : m2 < 0
    · simp only [c2, decide_true, cond_true]
    · obtain ⟨⟨ox1_2, ox1_3, ox1_4, ox1_7, ox1_8, ox1_11, ox1_12⟩, d2, f2⟩ := b2.resolve_left c2
      simp only [c2, decide_false, cond_false]
      obtain ⟨r0_0, k1, k2⟩ := SameDesk_eq (x0_0 := x0_0) (x0_1 := x0_1) (x0_2 := x0_2) (x0_3 := x0_3) (x0_4 := x0_4) (x0_5 := x0_5) (x0_6 := x0_6) (x0_7 := x0_7) (x0_8 := x0_8) (x0_9 := x0_9) (x0_10 := x0_10) (x0_11 := x0_11) (x0_12 := x0_12) (x1_0 := x1_0) (x1_1 := x1_1) (x1_2 := x1_2) (x1_3 := x1_3) (x1_4 := x1_4) (x1_5 := x1_5) (x1_6 := x1_6) (x1_7 := x1_7) (x1_8 := x1_8) (x1_9 := x1_9) (x1_10 := x1_10) (x1_11 := x1_11) (x1_12 := x1_12) ox0_2 ox0_3 ox0_4 ox0_7 ox0_8 ox0_11 ox0_12 ox1_2 ox1_3 ox1_4 ox1_7 ox1_8 ox1_11 ox1_12
      simp only [k1,
      k2,
      Option.bind_some,
      Bool.not_true,
      cond_false,
      bne_self_eq_false,
      cond_true,
      toDesk_ok (x0 := x0_0) (x1 := x0_1) (x2 := x0_2) (x3 := x0_3) (x4 := x0_4) (x5 := x0_5) (x6 := x0_6) (x7 := x0_7) (x8 := x0_8) (x9 := x0_9) (x10 := x0_10) (x11 := x0_11) (x12 := x0_12) ox0_2 ox0_3 ox0_4 ox0_7 ox0_8 ox0_11 ox0_12,
      eqDesk_ok (x0 := x0_0) (x1 := x0_1) (x2 := x0_2) (x3 := x0_3) (x4 := x0_4) (x5 := x0_5) (x6 := x0_6) (x7 := x0_7) (x8 := x0_8) (x9 := x0_9) (x10 := x0_10) (x11 := x0_11) (x12 := x0_12) ox0_2 ox0_3 ox0_4 ox0_7 ox0_8 ox0_11 ox0_12,
      toDesk_ok (x0 := x1_0) (x1 := x1_1) (x2 := x1_2) (x3 := x1_3) (x4 := x1_4) (x5 := x1_5) (x6 := x1_6) (x7 := x1_7) (x8 := x1_8) (x9 := x1_9) (x10 := x1_10) (x11 := x1_11) (x12 := x1_12) ox1_2 ox1_3 ox1_4 ox1_7 ox1_8 ox1_11 ox1_12,
      eqDesk_ok (x0 := x1_0) (x1 := x1_1) (x2 := x1_2) (x3 := x1_3) (x4 := x1_4) (x5 := x1_5) (x6 := x1_6) (x7 := x1_7) (x8 := x1_8) (x9 := x1_9) (x10 := x1_10) (x11 := x1_11) (x12 := x1_12) ox1_2 ox1_3 ox1_4 ox1_7 ox1_8 ox1_11 ox1_12]

end Go.Proofs
