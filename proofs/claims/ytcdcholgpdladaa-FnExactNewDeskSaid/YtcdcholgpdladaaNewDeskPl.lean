import Derived.Test.YtcdcholgpdladaaNewDeskGenB
set_option linter.unusedVariables false
set_option linter.unusedSimpArgs false
set_option linter.unusedSectionVars false
namespace Go.Proofs
open Go.Ide Go.IntWalk

theorem eqInt64S_ok {xs : List Int} (h : xs.length ≤ 1048576) : laws_eqInt64S xs xs = some true := by
  unfold laws_eqInt64S
  have := loop_eq (f := laws_eqInt64S_B1 xs xs) (Sum.inl ()) xs.length (fun i hi => by
    unfold laws_eqInt64S_B1
    simp only [ltN hi, cond_true, guard_pos (idxN hi), bne_self_eq_false, cond_false, nextN hi (by omega)]) (by
    unfold laws_eqInt64S_B1
    simp only [geN (Nat.le_refl _), cond_false])
  simp only [bne_self_eq_false, cond_false, this, Option.bind_some]

theorem eqBoolS_ok {xs : List Bool} (h : xs.length ≤ 1048576) : laws_eqBoolS xs xs = some true := by
  unfold laws_eqBoolS
  have := loop_eq (f := laws_eqBoolS_B1 xs xs) (Sum.inl ()) xs.length (fun i hi => by
    unfold laws_eqBoolS_B1
    simp only [ltN hi, cond_true, guard_pos (idxN hi), bne_self_eq_false, cond_false, nextN hi (by omega)]) (by
    unfold laws_eqBoolS_B1
    simp only [geN (Nat.le_refl _), cond_false])
  simp only [bne_self_eq_false, cond_false, this, Option.bind_some]

theorem eqArc_ok {x0 : Int} {x1 : Int} {x2 : Int} {x3 : Int}  : laws_eqArc (x0, x1, x2, x3) (x0, x1, x2, x3) = some true := by
  unfold laws_eqArc
  simp only [Option.bind_some, bne_self_eq_false, Bool.not_true, cond_false, decide_true]

theorem eqRule_ok {x0 : Int} {x1 : Int} {x2 : Int} {x3 : Int}  : laws_eqRule (x0, x1, x2, x3) (x0, x1, x2, x3) = some true := by
  unfold laws_eqRule
  simp only [Option.bind_some, bne_self_eq_false, Bool.not_true, cond_false, decide_true]

theorem markInt64S_ok {xs : List Int} {k : Int} (h : xs.length ≤ 1048576) (hk : 0 ≤ k ∧ k ≤ 1000000000) : laws_markInt64S xs k = some (k + ((1 * xs.length : Nat) : Int), marksG (fun k => k) 1 k xs.length) := by
  unfold laws_markInt64S
  have := loop_mark (f := laws_markInt64S_B1) (fun k => k) 1 k xs (fun i out hi hl => by
    unfold laws_markInt64S_B1
    have e := markN (c := 1) (i := i) (k0 := k) (by omega) (by omega) (by omega)
    simp only [lenI, hl, ltN hi, cond_true, guard_pos (idxN hi), Int.toNat_natCast, nextN hi (by omega)]
    simp only [Int.cast_ofNat_Int] at e
    rw [e]) (fun out hl => by
    unfold laws_markInt64S_B1
    simp only [lenI, hl, geN (Nat.le_refl _), cond_false])
  simp only [this, Option.bind_some]
  rw [guard_pos marksG_len]

theorem markBoolS_ok {xs : List Bool} {k : Int} (h : xs.length ≤ 1048576) (hk : 0 ≤ k ∧ k ≤ 1000000000) : laws_markBoolS xs k = some (k + ((1 * xs.length : Nat) : Int), marksG (fun k => (Int.tmod k (3 : Int) == (0 : Int))) 1 k xs.length) := by
  unfold laws_markBoolS
  have := loop_mark (f := laws_markBoolS_B1) (fun k => (Int.tmod k (3 : Int) == (0 : Int))) 1 k xs (fun i out hi hl => by
    unfold laws_markBoolS_B1
    have e := markN (c := 1) (i := i) (k0 := k) (by omega) (by omega) (by omega)
    simp only [lenI, hl, ltN hi, cond_true, guard_pos (idxN hi), Int.toNat_natCast, nextN hi (by omega)]
    simp only [Int.cast_ofNat_Int] at e
    rw [e]) (fun out hl => by
    unfold laws_markBoolS_B1
    simp only [lenI, hl, geN (Nat.le_refl _), cond_false])
  simp only [this, Option.bind_some]
  rw [guard_pos marksG_len]

theorem heldInt64S_ok {n : Nat} {k : Int} (h : n ≤ 1048576) (hk : 0 ≤ k ∧ k ≤ 1000000000) : laws_heldInt64S (marksG (fun k => k) 1 k n) k = some (k + ((1 * n : Nat) : Int)) := by
  unfold laws_heldInt64S
  have := loop_held (f := laws_heldInt64S_B1 (marksG (fun k => k) 1 k n)) 1 k n (fun i hi => by
    unfold laws_heldInt64S_B1
    have e := markN (c := 1) (i := i) (k0 := k) (by omega) (by omega) (by omega)
    simp only [Int.cast_ofNat_Int] at e
    simp only [lenI, marksG_len, ltN hi, cond_true, guard_pos (idxN hi), Int.toNat_natCast, nextN hi (by omega), marksG_get hi, bne_self_eq_false, cond_false]
    rw [e]) (by
    unfold laws_heldInt64S_B1
    simp only [lenI, marksG_len, geN (Nat.le_refl _), cond_false])
  simp only [this, Option.bind_some]

theorem heldBoolS_ok {n : Nat} {k : Int} (h : n ≤ 1048576) (hk : 0 ≤ k ∧ k ≤ 1000000000) : laws_heldBoolS (marksG (fun k => (Int.tmod k (3 : Int) == (0 : Int))) 1 k n) k = some (k + ((1 * n : Nat) : Int)) := by
  unfold laws_heldBoolS
  have := loop_held (f := laws_heldBoolS_B1 (marksG (fun k => (Int.tmod k (3 : Int) == (0 : Int))) 1 k n)) 1 k n (fun i hi => by
    unfold laws_heldBoolS_B1
    have e := markN (c := 1) (i := i) (k0 := k) (by omega) (by omega) (by omega)
    simp only [Int.cast_ofNat_Int] at e
    simp only [lenI, marksG_len, ltN hi, cond_true, guard_pos (idxN hi), Int.toNat_natCast, nextN hi (by omega), marksG_get hi, bne_self_eq_false, cond_false]
    rw [e]) (by
    unfold laws_heldBoolS_B1
    simp only [lenI, marksG_len, geN (Nat.le_refl _), cond_false])
  simp only [this, Option.bind_some]

theorem eqPlain_ok {x0 : Int} {x1 : Int} {x2 : List Int} {x3 : List Bool} (hx2 : x2.length ≤ 1048576) (hx3 : x3.length ≤ 1048576) : laws_eqPlain (x0, x1, x2, x3) (x0, x1, x2, x3) = some true := by
  unfold laws_eqPlain
  simp only [eqInt64S_ok hx2, eqBoolS_ok hx3, Option.bind_some, bne_self_eq_false, Bool.not_true, cond_false, decide_true]

theorem eqArcS_ok {xs : List (Int × Int × Int × Int)} (h : xs.length ≤ 1048576) : laws_eqArcS xs xs = some true := by
  unfold laws_eqArcS
  have := loop_eq (f := laws_eqArcS_B1 xs xs) (Sum.inl ()) xs.length (fun i hi => by
    unfold laws_eqArcS_B1
    simp only [ltN hi, cond_true, guard_pos (idxN hi), Int.toNat_natCast, eqArc_ok, Option.bind_some, Bool.not_true, cond_false, nextN hi (by omega)]) (by
    unfold laws_eqArcS_B1
    simp only [geN (Nat.le_refl _), cond_false])
  simp only [bne_self_eq_false, cond_false, this, Option.bind_some]

theorem eqRuleS_ok {xs : List (Int × Int × Int × Int)} (h : xs.length ≤ 1048576) : laws_eqRuleS xs xs = some true := by
  unfold laws_eqRuleS
  have := loop_eq (f := laws_eqRuleS_B1 xs xs) (Sum.inl ()) xs.length (fun i hi => by
    unfold laws_eqRuleS_B1
    simp only [ltN hi, cond_true, guard_pos (idxN hi), Int.toNat_natCast, eqRule_ok, Option.bind_some, Bool.not_true, cond_false, nextN hi (by omega)]) (by
    unfold laws_eqRuleS_B1
    simp only [geN (Nat.le_refl _), cond_false])
  simp only [bne_self_eq_false, cond_false, this, Option.bind_some]

theorem markPlain_ok {x0 : Int} {x1 : Int} {x2 : List Int} {x3 : List Bool} {k : Int} (hx2 : x2.length ≤ 1048576) (hx3 : x3.length ≤ 1048576) (hk : 0 ≤ k ∧ k ≤ 800000000) : laws_markPlain (x0, x1, x2, x3) k = some (k + ((1 * x2.length : Nat) : Int) + ((1 * x3.length : Nat) : Int), (x0, x1, marksG (fun k => k) 1 (k) x2.length, marksG (fun k => (Int.tmod k (3 : Int) == (0 : Int))) 1 (k + ((1 * x2.length : Nat) : Int)) x3.length)) := by
  unfold laws_markPlain
  simp only [markInt64S_ok (k := k) hx2 (by omega), markBoolS_ok (k := k + ((1 * x2.length : Nat) : Int)) hx3 (by omega), Option.bind_some]
  simp only [guardP, marksG_len, if_true]

theorem markArcS_ok {xs : List (Int × Int × Int × Int)} {k : Int} (h : xs.length ≤ 1048576) (hk : 0 ≤ k ∧ k ≤ 1000000000) : laws_markArcS xs k = some (k + ((4 * xs.length : Nat) : Int), marksG (fun k : Int => (k, k + 1, k + 1 + 1, k + 1 + 1 + 1)) 4 k xs.length) := by
  unfold laws_markArcS
  have := loop_mark (f := laws_markArcS_B1) (fun k : Int => (k, k + 1, k + 1 + 1, k + 1 + 1 + 1)) 4 k xs (fun i out hi hl => by
    unfold laws_markArcS_B1
    have e0 : wadd .i64 (k + ((4 * i : Nat) : Int)) (1 : Int) = k + ((4 * i : Nat) : Int) + 1 := i64_in _ (by omega)
    have e1 : wadd .i64 (k + ((4 * i : Nat) : Int) + 1) (1 : Int) = k + ((4 * i : Nat) : Int) + 1 + 1 := i64_in _ (by omega)
    have e2 : wadd .i64 (k + ((4 * i : Nat) : Int) + 1 + 1) (1 : Int) = k + ((4 * i : Nat) : Int) + 1 + 1 + 1 := i64_in _ (by omega)
    have e3 : wadd .i64 (k + ((4 * i : Nat) : Int) + 1 + 1 + 1) (1 : Int) = k + ((4 * i : Nat) : Int) + 1 + 1 + 1 + 1 := i64_in _ (by omega)
    have e4 : k + ((4 * i : Nat) : Int) + 1 + 1 + 1 + 1 = k + ((4 * (i + 1) : Nat) : Int) := by omega
    have hi' : i < out.length := by omega
    simp only [lenI, List.length_set, hl, ltN hi, cond_true, guard_pos (idxN hi), Int.toNat_natCast, nextN hi (by omega), Option.bind_some, e0, e1, e2, e3, getD_set_self hi', List.set_set]
    rw [e4]) (fun out hl => by
    unfold laws_markArcS_B1
    simp only [lenI, hl, geN (Nat.le_refl _), cond_false])
  simp only [this, Option.bind_some]
  rw [guard_pos marksG_len]

theorem markRuleS_ok {xs : List (Int × Int × Int × Int)} {k : Int} (h : xs.length ≤ 1048576) (hk : 0 ≤ k ∧ k ≤ 1000000000) : laws_markRuleS xs k = some (k + ((4 * xs.length : Nat) : Int), marksG (fun k : Int => (k, k + 1, k + 1 + 1, k + 1 + 1 + 1)) 4 k xs.length) := by
  unfold laws_markRuleS
  have := loop_mark (f := laws_markRuleS_B1) (fun k : Int => (k, k + 1, k + 1 + 1, k + 1 + 1 + 1)) 4 k xs (fun i out hi hl => by
    unfold laws_markRuleS_B1
    have e0 : wadd .i64 (k + ((4 * i : Nat) : Int)) (1 : Int) = k + ((4 * i : Nat) : Int) + 1 := i64_in _ (by omega)
    have e1 : wadd .i64 (k + ((4 * i : Nat) : Int) + 1) (1 : Int) = k + ((4 * i : Nat) : Int) + 1 + 1 := i64_in _ (by omega)
    have e2 : wadd .i64 (k + ((4 * i : Nat) : Int) + 1 + 1) (1 : Int) = k + ((4 * i : Nat) : Int) + 1 + 1 + 1 := i64_in _ (by omega)
    have e3 : wadd .i64 (k + ((4 * i : Nat) : Int) + 1 + 1 + 1) (1 : Int) = k + ((4 * i : Nat) : Int) + 1 + 1 + 1 + 1 := i64_in _ (by omega)
    have e4 : k + ((4 * i : Nat) : Int) + 1 + 1 + 1 + 1 = k + ((4 * (i + 1) : Nat) : Int) := by omega
    have hi' : i < out.length := by omega
    simp only [lenI, List.length_set, hl, ltN hi, cond_true, guard_pos (idxN hi), Int.toNat_natCast, nextN hi (by omega), Option.bind_some, e0, e1, e2, e3, getD_set_self hi', List.set_set]
    rw [e4]) (fun out hl => by
    unfold laws_markRuleS_B1
    simp only [lenI, hl, geN (Nat.le_refl _), cond_false])
  simp only [this, Option.bind_some]
  rw [guard_pos marksG_len]

theorem heldPlain_ok {x0 : Int} {x1 : Int} {x2 : List Int} {x3 : List Bool} {k : Int} (hx2 : x2.length ≤ 1048576) (hx3 : x3.length ≤ 1048576) (hk : 0 ≤ k ∧ k ≤ 800000000) : laws_heldPlain (x0, x1, marksG (fun k => k) 1 (k) x2.length, marksG (fun k => (Int.tmod k (3 : Int) == (0 : Int))) 1 (k + ((1 * x2.length : Nat) : Int)) x3.length) k = some (k + ((1 * x2.length : Nat) : Int) + ((1 * x3.length : Nat) : Int)) := by
  unfold laws_heldPlain
  simp only [heldInt64S_ok (k := k) hx2 (by omega), heldBoolS_ok (k := k + ((1 * x2.length : Nat) : Int)) hx3 (by omega), Option.bind_some, (show decide (k + ((1 * x2.length : Nat) : Int) < 0) = false from by simp only [decide_eq_false_iff_not]; omega), (show decide (k + ((1 * x2.length : Nat) : Int) + ((1 * x3.length : Nat) : Int) < 0) = false from by simp only [decide_eq_false_iff_not]; omega), cond_false]

theorem heldArcS_ok {n : Nat} {k : Int} (h : n ≤ 1048576) (hk : 0 ≤ k ∧ k ≤ 1000000000) : laws_heldArcS (marksG (fun k : Int => (k, k + 1, k + 1 + 1, k + 1 + 1 + 1)) 4 k n) k = some (k + ((4 * n : Nat) : Int)) := by
  unfold laws_heldArcS
  have := loop_held (f := laws_heldArcS_B1 (marksG (fun k : Int => (k, k + 1, k + 1 + 1, k + 1 + 1 + 1)) 4 k n)) 4 k n (fun i hi => by
    unfold laws_heldArcS_B1
    have e0 : wadd .i64 (k + ((4 * i : Nat) : Int)) (1 : Int) = k + ((4 * i : Nat) : Int) + 1 := i64_in _ (by omega)
    have e1 : wadd .i64 (k + ((4 * i : Nat) : Int) + 1) (1 : Int) = k + ((4 * i : Nat) : Int) + 1 + 1 := i64_in _ (by omega)
    have e2 : wadd .i64 (k + ((4 * i : Nat) : Int) + 1 + 1) (1 : Int) = k + ((4 * i : Nat) : Int) + 1 + 1 + 1 := i64_in _ (by omega)
    have e3 : wadd .i64 (k + ((4 * i : Nat) : Int) + 1 + 1 + 1) (1 : Int) = k + ((4 * i : Nat) : Int) + 1 + 1 + 1 + 1 := i64_in _ (by omega)
    have e4 : k + ((4 * i : Nat) : Int) + 1 + 1 + 1 + 1 = k + ((4 * (i + 1) : Nat) : Int) := by omega
    simp only [lenI, marksG_len, ltN hi, cond_true, guard_pos (idxN hi), Int.toNat_natCast, nextN hi (by omega), marksG_get hi, e0, e1, e2, e3, feq_ofint, Bool.not_true, bne_self_eq_false, cond_false]
    rw [e4]) (by
    unfold laws_heldArcS_B1
    simp only [lenI, marksG_len, geN (Nat.le_refl _), cond_false])
  simp only [this, Option.bind_some]

theorem heldRuleS_ok {n : Nat} {k : Int} (h : n ≤ 1048576) (hk : 0 ≤ k ∧ k ≤ 1000000000) : laws_heldRuleS (marksG (fun k : Int => (k, k + 1, k + 1 + 1, k + 1 + 1 + 1)) 4 k n) k = some (k + ((4 * n : Nat) : Int)) := by
  unfold laws_heldRuleS
  have := loop_held (f := laws_heldRuleS_B1 (marksG (fun k : Int => (k, k + 1, k + 1 + 1, k + 1 + 1 + 1)) 4 k n)) 4 k n (fun i hi => by
    unfold laws_heldRuleS_B1
    have e0 : wadd .i64 (k + ((4 * i : Nat) : Int)) (1 : Int) = k + ((4 * i : Nat) : Int) + 1 := i64_in _ (by omega)
    have e1 : wadd .i64 (k + ((4 * i : Nat) : Int) + 1) (1 : Int) = k + ((4 * i : Nat) : Int) + 1 + 1 := i64_in _ (by omega)
    have e2 : wadd .i64 (k + ((4 * i : Nat) : Int) + 1 + 1) (1 : Int) = k + ((4 * i : Nat) : Int) + 1 + 1 + 1 := i64_in _ (by omega)
    have e3 : wadd .i64 (k + ((4 * i : Nat) : Int) + 1 + 1 + 1) (1 : Int) = k + ((4 * i : Nat) : Int) + 1 + 1 + 1 + 1 := i64_in _ (by omega)
    have e4 : k + ((4 * i : Nat) : Int) + 1 + 1 + 1 + 1 = k + ((4 * (i + 1) : Nat) : Int) := by omega
    simp only [lenI, marksG_len, ltN hi, cond_true, guard_pos (idxN hi), Int.toNat_natCast, nextN hi (by omega), marksG_get hi, e0, e1, e2, e3, feq_ofint, Bool.not_true, bne_self_eq_false, cond_false]
    rw [e4]) (by
    unfold laws_heldRuleS_B1
    simp only [lenI, marksG_len, geN (Nat.le_refl _), cond_false])
  simp only [this, Option.bind_some]

theorem eqMachine_ok {x0 : Int} {x1 : Int} {x2 : List (Int × Int × Int × Int)} {x3 : List Int} {x4 : List Int} (hx2 : x2.length ≤ 1048576) (hx3 : x3.length ≤ 1048576) (hx4 : x4.length ≤ 1048576) : laws_eqMachine (x0, x1, x2, x3, x4) (x0, x1, x2, x3, x4) = some true := by
  unfold laws_eqMachine
  simp only [eqArcS_ok hx2, eqInt64S_ok hx3, eqInt64S_ok hx4, Option.bind_some, bne_self_eq_false, Bool.not_true, cond_false, decide_true]

theorem eqGrammar_ok {x0 : Int} {x1 : Int} {x2 : List (Int × Int × Int × Int)} (hx2 : x2.length ≤ 1048576) : laws_eqGrammar (x0, x1, x2) (x0, x1, x2) = some true := by
  unfold laws_eqGrammar
  simp only [eqRuleS_ok hx2, Option.bind_some, bne_self_eq_false, Bool.not_true, cond_false, decide_true]

theorem markMachine_ok {x0 : Int} {x1 : Int} {x2 : List (Int × Int × Int × Int)} {x3 : List Int} {x4 : List Int} {k : Int} (hx2 : x2.length ≤ 1048576) (hx3 : x3.length ≤ 1048576) (hx4 : x4.length ≤ 1048576) (hk : 0 ≤ k ∧ k ≤ 700000000) : laws_markMachine (x0, x1, x2, x3, x4) k = some (k + ((4 * x2.length : Nat) : Int) + ((1 * x3.length : Nat) : Int) + ((1 * x4.length : Nat) : Int), (x0, x1, marksG (fun k : Int => (k, k + 1, k + 1 + 1, k + 1 + 1 + 1)) 4 (k) x2.length, marksG (fun k => k) 1 (k + ((4 * x2.length : Nat) : Int)) x3.length, marksG (fun k => k) 1 (k + ((4 * x2.length : Nat) : Int) + ((1 * x3.length : Nat) : Int)) x4.length)) := by
  unfold laws_markMachine
  simp only [markArcS_ok (k := k) hx2 (by omega), markInt64S_ok (k := k + ((4 * x2.length : Nat) : Int)) hx3 (by omega), markInt64S_ok (k := k + ((4 * x2.length : Nat) : Int) + ((1 * x3.length : Nat) : Int)) hx4 (by omega), Option.bind_some]
  simp only [guardP, marksG_len, if_true]

theorem markGrammar_ok {x0 : Int} {x1 : Int} {x2 : List (Int × Int × Int × Int)} {k : Int} (hx2 : x2.length ≤ 1048576) (hk : 0 ≤ k ∧ k ≤ 700000000) : laws_markGrammar (x0, x1, x2) k = some (k + ((4 * x2.length : Nat) : Int), (x0, x1, marksG (fun k : Int => (k, k + 1, k + 1 + 1, k + 1 + 1 + 1)) 4 (k) x2.length)) := by
  unfold laws_markGrammar
  simp only [markRuleS_ok (k := k) hx2 (by omega), Option.bind_some]
  simp only [guardP, marksG_len, if_true]

theorem heldMachine_ok {x0 : Int} {x1 : Int} {x2 : List (Int × Int × Int × Int)} {x3 : List Int} {x4 : List Int} {k : Int} (hx2 : x2.length ≤ 1048576) (hx3 : x3.length ≤ 1048576) (hx4 : x4.length ≤ 1048576) (hk : 0 ≤ k ∧ k ≤ 700000000) : laws_heldMachine (x0, x1, marksG (fun k : Int => (k, k + 1, k + 1 + 1, k + 1 + 1 + 1)) 4 (k) x2.length, marksG (fun k => k) 1 (k + ((4 * x2.length : Nat) : Int)) x3.length, marksG (fun k => k) 1 (k + ((4 * x2.length : Nat) : Int) + ((1 * x3.length : Nat) : Int)) x4.length) k = some (k + ((4 * x2.length : Nat) : Int) + ((1 * x3.length : Nat) : Int) + ((1 * x4.length : Nat) : Int)) := by
  unfold laws_heldMachine
  simp only [heldArcS_ok (k := k) hx2 (by omega), heldInt64S_ok (k := k + ((4 * x2.length : Nat) : Int)) hx3 (by omega), heldInt64S_ok (k := k + ((4 * x2.length : Nat) : Int) + ((1 * x3.length : Nat) : Int)) hx4 (by omega), Option.bind_some, (show decide (k + ((4 * x2.length : Nat) : Int) < 0) = false from by simp only [decide_eq_false_iff_not]; omega), (show decide (k + ((4 * x2.length : Nat) : Int) + ((1 * x3.length : Nat) : Int) < 0) = false from by simp only [decide_eq_false_iff_not]; omega), (show decide (k + ((4 * x2.length : Nat) : Int) + ((1 * x3.length : Nat) : Int) + ((1 * x4.length : Nat) : Int) < 0) = false from by simp only [decide_eq_false_iff_not]; omega), cond_false]

theorem heldGrammar_ok {x0 : Int} {x1 : Int} {x2 : List (Int × Int × Int × Int)} {k : Int} (hx2 : x2.length ≤ 1048576) (hk : 0 ≤ k ∧ k ≤ 700000000) : laws_heldGrammar (x0, x1, marksG (fun k : Int => (k, k + 1, k + 1 + 1, k + 1 + 1 + 1)) 4 (k) x2.length) k = some (k + ((4 * x2.length : Nat) : Int)) := by
  unfold laws_heldGrammar
  simp only [heldRuleS_ok (k := k) hx2 (by omega), Option.bind_some, (show decide (k + ((4 * x2.length : Nat) : Int) < 0) = false from by simp only [decide_eq_false_iff_not]; omega), cond_false]

theorem eqDesk_ok {x0 : Int} {x1 : Int} {x2 : List (Int × Int × Int × Int)} {x3 : List Int} {x4 : List Int} {x5 : Int} {x6 : Int} {x7 : List Int} {x8 : List Bool} {x9 : Int} {x10 : Int} {x11 : List (Int × Int × Int × Int)} {x12 : List Int} (hx2 : x2.length ≤ 1048576) (hx3 : x3.length ≤ 1048576) (hx4 : x4.length ≤ 1048576) (hx7 : x7.length ≤ 1048576) (hx8 : x8.length ≤ 1048576) (hx11 : x11.length ≤ 1048576) (hx12 : x12.length ≤ 1048576) : laws_eqDesk ((x0, x1, x2, x3, x4), (x5, x6, x7, x8), (x9, x10, x11), x12) ((x0, x1, x2, x3, x4), (x5, x6, x7, x8), (x9, x10, x11), x12) = some true := by
  unfold laws_eqDesk
  simp only [eqMachine_ok hx2 hx3 hx4, eqPlain_ok hx7 hx8, eqGrammar_ok hx11, eqInt64S_ok hx12, Option.bind_some, bne_self_eq_false, Bool.not_true, cond_false, decide_true]

theorem markDesk_ok {x0 : Int} {x1 : Int} {x2 : List (Int × Int × Int × Int)} {x3 : List Int} {x4 : List Int} {x5 : Int} {x6 : Int} {x7 : List Int} {x8 : List Bool} {x9 : Int} {x10 : Int} {x11 : List (Int × Int × Int × Int)} {x12 : List Int} {k : Int} (hx2 : x2.length ≤ 1048576) (hx3 : x3.length ≤ 1048576) (hx4 : x4.length ≤ 1048576) (hx7 : x7.length ≤ 1048576) (hx8 : x8.length ≤ 1048576) (hx11 : x11.length ≤ 1048576) (hx12 : x12.length ≤ 1048576) (hk : 0 ≤ k ∧ k ≤ 600000000) : laws_markDesk ((x0, x1, x2, x3, x4), (x5, x6, x7, x8), (x9, x10, x11), x12) k = some (k + ((4 * x2.length : Nat) : Int) + ((1 * x3.length : Nat) : Int) + ((1 * x4.length : Nat) : Int) + ((1 * x7.length : Nat) : Int) + ((1 * x8.length : Nat) : Int) + ((4 * x11.length : Nat) : Int) + ((1 * x12.length : Nat) : Int), ((x0, x1, marksG (fun k : Int => (k, k + 1, k + 1 + 1, k + 1 + 1 + 1)) 4 (k) x2.length, marksG (fun k => k) 1 (k + ((4 * x2.length : Nat) : Int)) x3.length, marksG (fun k => k) 1 (k + ((4 * x2.length : Nat) : Int) + ((1 * x3.length : Nat) : Int)) x4.length), (x5, x6, marksG (fun k => k) 1 (k + ((4 * x2.length : Nat) : Int) + ((1 * x3.length : Nat) : Int) + ((1 * x4.length : Nat) : Int)) x7.length, marksG (fun k => (Int.tmod k (3 : Int) == (0 : Int))) 1 (k + ((4 * x2.length : Nat) : Int) + ((1 * x3.length : Nat) : Int) + ((1 * x4.length : Nat) : Int) + ((1 * x7.length : Nat) : Int)) x8.length), (x9, x10, marksG (fun k : Int => (k, k + 1, k + 1 + 1, k + 1 + 1 + 1)) 4 (k + ((4 * x2.length : Nat) : Int) + ((1 * x3.length : Nat) : Int) + ((1 * x4.length : Nat) : Int) + ((1 * x7.length : Nat) : Int) + ((1 * x8.length : Nat) : Int)) x11.length), marksG (fun k => k) 1 (k + ((4 * x2.length : Nat) : Int) + ((1 * x3.length : Nat) : Int) + ((1 * x4.length : Nat) : Int) + ((1 * x7.length : Nat) : Int) + ((1 * x8.length : Nat) : Int) + ((4 * x11.length : Nat) : Int)) x12.length)) := by
  unfold laws_markDesk
  simp only [markMachine_ok (k := k) hx2 hx3 hx4 (by omega), markPlain_ok (k := k + ((4 * x2.length : Nat) : Int) + ((1 * x3.length : Nat) : Int) + ((1 * x4.length : Nat) : Int)) hx7 hx8 (by omega), markGrammar_ok (k := k + ((4 * x2.length : Nat) : Int) + ((1 * x3.length : Nat) : Int) + ((1 * x4.length : Nat) : Int) + ((1 * x7.length : Nat) : Int) + ((1 * x8.length : Nat) : Int)) hx11 (by omega), markInt64S_ok (k := k + ((4 * x2.length : Nat) : Int) + ((1 * x3.length : Nat) : Int) + ((1 * x4.length : Nat) : Int) + ((1 * x7.length : Nat) : Int) + ((1 * x8.length : Nat) : Int) + ((4 * x11.length : Nat) : Int)) hx12 (by omega), Option.bind_some]
  simp only [guardP, marksG_len, if_true]

theorem heldDesk_ok {x0 : Int} {x1 : Int} {x2 : List (Int × Int × Int × Int)} {x3 : List Int} {x4 : List Int} {x5 : Int} {x6 : Int} {x7 : List Int} {x8 : List Bool} {x9 : Int} {x10 : Int} {x11 : List (Int × Int × Int × Int)} {x12 : List Int} {k : Int} (hx2 : x2.length ≤ 1048576) (hx3 : x3.length ≤ 1048576) (hx4 : x4.length ≤ 1048576) (hx7 : x7.length ≤ 1048576) (hx8 : x8.length ≤ 1048576) (hx11 : x11.length ≤ 1048576) (hx12 : x12.length ≤ 1048576) (hk : 0 ≤ k ∧ k ≤ 600000000) : laws_heldDesk ((x0, x1, marksG (fun k : Int => (k, k + 1, k + 1 + 1, k + 1 + 1 + 1)) 4 (k) x2.length, marksG (fun k => k) 1 (k + ((4 * x2.length : Nat) : Int)) x3.length, marksG (fun k => k) 1 (k + ((4 * x2.length : Nat) : Int) + ((1 * x3.length : Nat) : Int)) x4.length), (x5, x6, marksG (fun k => k) 1 (k + ((4 * x2.length : Nat) : Int) + ((1 * x3.length : Nat) : Int) + ((1 * x4.length : Nat) : Int)) x7.length, marksG (fun k => (Int.tmod k (3 : Int) == (0 : Int))) 1 (k + ((4 * x2.length : Nat) : Int) + ((1 * x3.length : Nat) : Int) + ((1 * x4.length : Nat) : Int) + ((1 * x7.length : Nat) : Int)) x8.length), (x9, x10, marksG (fun k : Int => (k, k + 1, k + 1 + 1, k + 1 + 1 + 1)) 4 (k + ((4 * x2.length : Nat) : Int) + ((1 * x3.length : Nat) : Int) + ((1 * x4.length : Nat) : Int) + ((1 * x7.length : Nat) : Int) + ((1 * x8.length : Nat) : Int)) x11.length), marksG (fun k => k) 1 (k + ((4 * x2.length : Nat) : Int) + ((1 * x3.length : Nat) : Int) + ((1 * x4.length : Nat) : Int) + ((1 * x7.length : Nat) : Int) + ((1 * x8.length : Nat) : Int) + ((4 * x11.length : Nat) : Int)) x12.length) k = some (k + ((4 * x2.length : Nat) : Int) + ((1 * x3.length : Nat) : Int) + ((1 * x4.length : Nat) : Int) + ((1 * x7.length : Nat) : Int) + ((1 * x8.length : Nat) : Int) + ((4 * x11.length : Nat) : Int) + ((1 * x12.length : Nat) : Int)) := by
  unfold laws_heldDesk
  simp only [heldMachine_ok (k := k) hx2 hx3 hx4 (by omega), heldPlain_ok (k := k + ((4 * x2.length : Nat) : Int) + ((1 * x3.length : Nat) : Int) + ((1 * x4.length : Nat) : Int)) hx7 hx8 (by omega), heldGrammar_ok (k := k + ((4 * x2.length : Nat) : Int) + ((1 * x3.length : Nat) : Int) + ((1 * x4.length : Nat) : Int) + ((1 * x7.length : Nat) : Int) + ((1 * x8.length : Nat) : Int)) hx11 (by omega), heldInt64S_ok (k := k + ((4 * x2.length : Nat) : Int) + ((1 * x3.length : Nat) : Int) + ((1 * x4.length : Nat) : Int) + ((1 * x7.length : Nat) : Int) + ((1 * x8.length : Nat) : Int) + ((4 * x11.length : Nat) : Int)) hx12 (by omega), Option.bind_some, (show decide (k + ((4 * x2.length : Nat) : Int) + ((1 * x3.length : Nat) : Int) + ((1 * x4.length : Nat) : Int) < 0) = false from by simp only [decide_eq_false_iff_not]; omega), (show decide (k + ((4 * x2.length : Nat) : Int) + ((1 * x3.length : Nat) : Int) + ((1 * x4.length : Nat) : Int) + ((1 * x7.length : Nat) : Int) + ((1 * x8.length : Nat) : Int) < 0) = false from by simp only [decide_eq_false_iff_not]; omega), (show decide (k + ((4 * x2.length : Nat) : Int) + ((1 * x3.length : Nat) : Int) + ((1 * x4.length : Nat) : Int) + ((1 * x7.length : Nat) : Int) + ((1 * x8.length : Nat) : Int) + ((4 * x11.length : Nat) : Int) < 0) = false from by simp only [decide_eq_false_iff_not]; omega), (show decide (k + ((4 * x2.length : Nat) : Int) + ((1 * x3.length : Nat) : Int) + ((1 * x4.length : Nat) : Int) + ((1 * x7.length : Nat) : Int) + ((1 * x8.length : Nat) : Int) + ((4 * x11.length : Nat) : Int) + ((1 * x12.length : Nat) : Int) < 0) = false from by simp only [decide_eq_false_iff_not]; omega), cond_false]

end Go.Proofs


namespace Go.Proofs
open Go.Ide Go.IntWalk

/-- All between. -/
def allIn (xs : List Int) (b c : Int) : Bool := xs.all fun x => decide (x ≥ b) && decide (x ≤ c)

theorem allIn_iff {xs : List Int} {b c : Int} : allIn xs b c = true ↔ ∀ i, i < xs.length → b ≤ xs.getD i 0 ∧ xs.getD i 0 ≤ c := by
  unfold allIn
  rw [List.all_eq_true]
  constructor
  · intro h i hi
    have := h xs[i] (List.getElem_mem hi)
    simp only [Bool.and_eq_true, decide_eq_true_eq] at this
    rw [List.getD_eq_getElem?_getD, List.getElem?_eq_getElem hi]
    exact ⟨this.1, this.2⟩
  · intro h x hx
    obtain ⟨i, hi, rfl⟩ := List.getElem_of_mem hx
    have := h i hi
    rw [List.getD_eq_getElem?_getD, List.getElem?_eq_getElem hi] at this
    simp only [Bool.and_eq_true, decide_eq_true_eq]
    exact ⟨this.1, this.2⟩

theorem allN_in (xs : List Int) (b c : Int) : allN (fun i => decide (xs.getD i 0 ≥ b) && decide (xs.getD i 0 ≤ c)) xs.length 0 = allIn xs b c := by
  rw [Bool.eq_iff_iff, allN_iff, allIn_iff]
  constructor
  · intro h i hi
    have := h i (by omega) (by omega)
    simp only [Bool.and_eq_true, decide_eq_true_eq] at this
    exact ⟨this.1, this.2⟩
  · intro h i _ hi
    have := h i (by omega)
    simp only [Bool.and_eq_true, decide_eq_true_eq]
    exact ⟨this.1, this.2⟩

/-- A plain machine is as it must be. -/
def okPlain (s l : Int) (nx : List Int) (es : List Bool) : Bool :=
  (decide (s ≥ 1) && decide (s ≤ 64)) && ((decide (l ≥ 1) && decide (l ≤ 4)) && ((lenI nx == wmul .i64 s l) && ((lenI es == s) && allIn nx 0 (wsub .i64 s 1))))

theorem okPlain_spec {s l : Int} {nx : List Int} {es : List Bool} (h : okPlain s l nx es = true) : ∃ m c : Nat, s = (m : Int) ∧ l = (c : Int) ∧ 1 ≤ m ∧ m ≤ 64 ∧ 1 ≤ c ∧ c ≤ 4 ∧ nx.length = m * c ∧ es.length = m ∧ ∀ i, i < m * c → ∃ t : Nat, nx.getD i 0 = (t : Int) ∧ t < m := by
  unfold okPlain at h
  simp only [Bool.and_eq_true, decide_eq_true_eq, beq_iff_eq] at h
  obtain ⟨⟨h1, h2⟩, ⟨h3, h4⟩, h5, h6, h7⟩ := h
  obtain ⟨m, rfl⟩ : ∃ n : Nat, s = (n : Int) := ⟨s.toNat, by omega⟩
  obtain ⟨c, rfl⟩ : ∃ n : Nat, l = (n : Int) := ⟨l.toNat, by omega⟩
  have hmc : m * c ≤ 64 * 4 := Nat.mul_le_mul (by omega) (by omega)
  rw [wmulI (by rw [← Int.natCast_mul]; omega), ← Int.natCast_mul] at h5
  have hl : nx.length = m * c := by simp only [lenI] at h5; omega
  refine ⟨m, c, rfl, rfl, by omega, by omega, by omega, by omega, hl, by simp only [lenI] at h6; omega, fun i hi => ?_⟩
  have := allIn_iff.1 h7 i (by omega)
  rw [wsubI (by omega)] at this
  exact ⟨(nx.getD i 0).toNat, by omega, by omega⟩

/-- A loop's words are words. -/
def okLoop (xs ys : List Int) (L : Int) : Bool := (decide (L ≥ 1) && decide (L ≤ 4)) && ((allIn xs 0 (wsub .i64 L 1) && decide (lenI xs ≤ 12)) && ((allIn ys 0 (wsub .i64 L 1) && decide (lenI ys ≤ 12)) && decide (lenI ys ≥ 1)))

/-- A list's numbers are letters. -/
def Letters (c : Nat) (xs : List Int) : Prop := ∀ i, i < xs.length → ∃ a : Nat, xs.getD i 0 = (a : Int) ∧ a < c

theorem okLoop_spec {xs ys : List Int} {c : Nat} (h : okLoop xs ys (c : Int) = true) : xs.length ≤ 12 ∧ ys.length ≤ 12 ∧ 1 ≤ ys.length ∧ Letters c xs ∧ Letters c ys := by
  unfold okLoop at h
  simp only [Bool.and_eq_true, decide_eq_true_eq, lenI] at h
  obtain ⟨⟨h1, h2⟩, ⟨h3, h4⟩, ⟨h5, h6⟩, h7⟩ := h
  rw [wsubI (by omega)] at h3 h5
  refine ⟨by omega, by omega, by omega, fun i hi => ?_, fun i hi => ?_⟩
  · have := allIn_iff.1 h3 i hi
    exact ⟨(xs.getD i 0).toNat, by omega, by omega⟩
  · have := allIn_iff.1 h5 i hi
    exact ⟨(ys.getD i 0).toNat, by omega, by omega⟩

/-- A valid machine. -/
structure Plain (m c : Nat) (nx : List Int) (es : List Bool) : Prop where
  m1 : 1 ≤ m
  m2 : m ≤ 64
  c1 : 1 ≤ c
  c2 : c ≤ 4
  len : nx.length = m * c
  ends : es.length = m
  to : ∀ i, i < m * c → ∃ t : Nat, nx.getD i 0 = (t : Int) ∧ t < m

/-- The next state. -/
def goP (c : Nat) (nx : List Int) (s : Nat) (a : Int) : Nat := (nx.getD (s * c + a.toNat) 0).toNat

def walkP (c : Nat) (nx : List Int) (s : Nat) (w : List Int) : Nat := w.foldl (goP c nx) s

theorem place_lt {m c s a : Nat} (hs : s < m) (ha : a < c) : s * c + a < m * c := by
  have : s * c + c ≤ m * c := by
    rw [← Nat.succ_mul]
    exact Nat.mul_le_mul_right c hs
  omega

section
variable {m c : Nat} {nx : List Int} {es : List Bool} (hp : Plain m c nx es)
include hp

theorem goP_lt {s : Nat} {a : Int} {k : Nat} (hs : s < m) (ha : a = (k : Int)) (hk : k < c) : goP c nx s a < m := by
  subst ha
  obtain ⟨t, h1, h2⟩ := hp.to (s * c + k) (place_lt hs hk)
  unfold goP
  rw [Int.toNat_natCast, h1]
  simpa using h2

theorem walk_lt {w : List Int} (hw : Letters c w) : ∀ (k : Nat) {s : Nat}, s < m → walkP c nx s (w.take k) < m := by
  intro k
  induction k with
  | zero => intro s hs; simpa [walkP] using hs
  | succ k ih =>
    intro s hs
    by_cases hk : k < w.length
    · rw [take_snoc hk 0]
      unfold walkP
      rw [List.foldl_append]
      obtain ⟨a, e, ha⟩ := hw k hk
      exact goP_lt hp (ih hs) e ha
    · have e : w.take (k + 1) = w.take k := by rw [List.take_of_length_le (by omega), List.take_of_length_le (by omega)]
      rw [e]; exact ih hs

end

theorem walk_succ {c : Nat} {nx w : List Int} {s k : Nat} (hk : k < w.length) : walkP c nx s (w.take (k + 1)) = goP c nx (walkP c nx s (w.take k)) (w.getD k 0) := by
  rw [take_snoc hk 0]; unfold walkP; rw [List.foldl_append]; rfl

end Go.Proofs


namespace Go.Proofs
open Go.Ide Go.IntWalk

theorem NewDesk_eq : ∃ r, spec_NewDesk = some r ∧ impl_NewDesk = some r ∧ r.1.2.2.1.length ≤ 1000000 ∧ r.1.2.2.2.1.length ≤ 1000000 ∧ r.1.2.2.2.2.length ≤ 1000000 ∧ r.2.1.2.2.1.length ≤ 1000000 ∧ r.2.1.2.2.2.length ≤ 1000000 ∧
    r.2.2.1.2.2.length ≤ 1000000 ∧ r.2.2.2.length ≤ 1000000 :=
  ⟨_, rfl, rfl, by decide, by decide, by decide, by decide, by decide, by decide, by decide⟩

/-- An arc is zs it must be. -/
def okArc (s l : Int) (r : Int × Int × Int × Int) : Bool :=
  (decide (r.1 ≥ 0) && decide (r.1 ≤ wsub .i64 s 1)) && ((decide (r.2.1 ≥ 0) && decide (r.2.1 ≤ wsub .i64 s 1)) && ((decide (r.2.2.1 ≥ -1) && decide (r.2.2.1 ≤ wsub .i64 l 1)) && (decide (r.2.2.2 ≥ 0) && decide (r.2.2.2 ≤ 1000))))

def okArcs (s l : Int) (zs : List (Int × Int × Int × Int)) : Bool := allN (fun i => okArc s l (zs.getD i (0, 0, 0, 0))) zs.length 0

def okMachine (s l : Int) (zs : List (Int × Int × Int × Int)) (ss es : List Int) : Bool :=
  (decide (s ≥ 1) && decide (s ≤ 16)) && ((decide (l ≥ 1) && decide (l ≤ 4)) && ((!decide (lenI zs > 128)) && (okArcs s l zs && ((allIn ss (-1) 1000 && (lenI ss == s)) && (allIn es (-1) 1000 && (lenI es == s))))))

/-- A rule is zs it must be. -/
def okRule (s l : Int) (r : Int × Int × Int × Int) : Bool :=
  (decide (r.1 ≥ 0) && decide (r.1 ≤ wsub .i64 s 1)) && ((decide (r.2.2.1 ≥ -1) && decide (r.2.2.1 ≤ wsub .i64 s 1)) && ((decide (r.2.2.2 ≥ 0) && decide (r.2.2.2 ≤ 1000)) &&
    (decide (r.2.1 ≥ 0) && decide (r.2.1 ≤ bif decide (r.2.2.1 < 0) then wsub .i64 l 1 else wsub .i64 s 1))))

def okRules (s l : Int) (rs : List (Int × Int × Int × Int)) : Bool := allN (fun i => okRule s l (rs.getD i (0, 0, 0, 0))) rs.length 0

def okGrammar (s l : Int) (rs : List (Int × Int × Int × Int)) : Bool :=
  (decide (s ≥ 1) && decide (s ≤ 8)) && ((decide (l ≥ 1) && decide (l ≤ 4)) && ((!decide (lenI rs > 32)) && okRules s l rs))

end Go.Proofs

namespace Go.Proofs
open Go.Ide Go.IntWalk

theorem NewDesk_law   : laws_FnExactNewDesk  = some true := by
  unfold laws_FnExactNewDesk
  obtain ⟨⟨⟨r0_0, ⟨r0_1, ⟨r0_2, ⟨r0_3, r0_4⟩⟩⟩⟩, ⟨⟨r0_5, ⟨r0_6, ⟨r0_7, r0_8⟩⟩⟩, ⟨⟨r0_9, ⟨r0_10, r0_11⟩⟩, r0_12⟩⟩⟩, k1, k2, or0_2, or0_3, or0_4, or0_7, or0_8, or0_11, or0_12⟩ := NewDesk_eq  
  have or0_2 : r0_2.length ≤ 1000000 := or0_2
  have or0_3 : r0_3.length ≤ 1000000 := or0_3
  have or0_4 : r0_4.length ≤ 1000000 := or0_4
  have or0_7 : r0_7.length ≤ 1000000 := or0_7
  have or0_8 : r0_8.length ≤ 1000000 := or0_8
  have or0_11 : r0_11.length ≤ 1000000 := or0_11
  have or0_12 : r0_12.length ≤ 1000000 := or0_12
  simp only [k1,
      k2,
      Option.bind_some,
      Bool.not_true,
      cond_false,
      bne_self_eq_false,
      cond_true,
      eqDesk_ok (x0 := r0_0) (x1 := r0_1) (x2 := r0_2) (x3 := r0_3) (x4 := r0_4) (x5 := r0_5) (x6 := r0_6) (x7 := r0_7) (x8 := r0_8) (x9 := r0_9) (x10 := r0_10) (x11 := r0_11) (x12 := r0_12) (by omega : r0_2.length ≤ 1048576) (by omega : r0_3.length ≤ 1048576) (by omega : r0_4.length ≤ 1048576) (by omega : r0_7.length ≤ 1048576) (by omega : r0_8.length ≤ 1048576) (by omega : r0_11.length ≤ 1048576) (by omega : r0_12.length ≤ 1048576),
      markDesk_ok (k := (1 : Int)) (x0 := r0_0) (x1 := r0_1) (x2 := r0_2) (x3 := r0_3) (x4 := r0_4) (x5 := r0_5) (x6 := r0_6) (x7 := r0_7) (x8 := r0_8) (x9 := r0_9) (x10 := r0_10) (x11 := r0_11) (x12 := r0_12) (by omega : r0_2.length ≤ 1048576) (by omega : r0_3.length ≤ 1048576) (by omega : r0_4.length ≤ 1048576) (by omega : r0_7.length ≤ 1048576) (by omega : r0_8.length ≤ 1048576) (by omega : r0_11.length ≤ 1048576) (by omega : r0_12.length ≤ 1048576) (by omega),
      heldDesk_ok (k := (1 : Int)) (by omega : r0_2.length ≤ 1048576) (by omega : r0_3.length ≤ 1048576) (by omega : r0_4.length ≤ 1048576) (by omega : r0_7.length ≤ 1048576) (by omega : r0_8.length ≤ 1048576) (by omega : r0_11.length ≤ 1048576) (by omega : r0_12.length ≤ 1048576) (by omega),
      (show decide ((1 : Int) + ((4 * r0_2.length : Nat) : Int) + ((1 * r0_3.length : Nat) : Int) + ((1 * r0_4.length : Nat) : Int) + ((1 * r0_7.length : Nat) : Int) + ((1 * r0_8.length : Nat) : Int) + ((4 * r0_11.length : Nat) : Int) + ((1 * r0_12.length : Nat) : Int) < 0) = false from by simp only [decide_eq_false_iff_not]; omega)]

end Go.Proofs
