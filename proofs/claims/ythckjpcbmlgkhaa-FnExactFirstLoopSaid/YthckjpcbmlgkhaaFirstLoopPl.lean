import Derived.Test.YthckjpcbmlgkhaaFirstLoopGenB
set_option linter.unusedVariables false
set_option linter.unusedSimpArgs false
set_option linter.unusedSectionVars false
namespace Go.Proofs
open Go.Ide Go.IntWalk

theorem szInt64S_ok {xs : List Int} {n : Int} (hx : xs.length ≤ 9223372036854775807) (hn : 0 ≤ n ∧ n ≤ 1048576) : ∃ m, laws_szInt64S xs n = some m ∧ (m < 0 ∨ (xs.length ≤ 1048576 ∧ 0 ≤ m ∧ m ≤ n)) := by
  unfold laws_szInt64S
  have e : wsub .i64 n (lenI xs) = n - (xs.length : Int) := i64_in _ (by simp only [lenI]; omega)
  rw [e]
  by_cases h : n - (xs.length : Int) < 0
  · exact ⟨-1, by simp only [h, decide_true, cond_true], .inl (by omega)⟩
  · exact ⟨_, by simp only [h, decide_false, cond_false]; rfl, .inr ⟨by omega, by omega, by omega⟩⟩

theorem szBoolS_ok {xs : List Bool} {n : Int} (hx : xs.length ≤ 9223372036854775807) (hn : 0 ≤ n ∧ n ≤ 1048576) : ∃ m, laws_szBoolS xs n = some m ∧ (m < 0 ∨ (xs.length ≤ 1048576 ∧ 0 ≤ m ∧ m ≤ n)) := by
  unfold laws_szBoolS
  have e : wsub .i64 n (lenI xs) = n - (xs.length : Int) := i64_in _ (by simp only [lenI]; omega)
  rw [e]
  by_cases h : n - (xs.length : Int) < 0
  · exact ⟨-1, by simp only [h, decide_true, cond_true], .inl (by omega)⟩
  · exact ⟨_, by simp only [h, decide_false, cond_false]; rfl, .inr ⟨by omega, by omega, by omega⟩⟩

theorem toInt64S_ok {xs : List Int} (h : xs.length ≤ 1048576) : laws_toInt64S xs = some xs := by
  unfold laws_toInt64S
  rw [guard_pos ⟨by simp only [lenI]; omega, by simp only [lenI]; omega⟩]
  have := loop_to (f := laws_toInt64S_B1 xs) xs (0 : Int) (fun i out hi hl => by
    unfold laws_toInt64S_B1
    simp only [ltN hi, cond_true, guard_pos (idxN hi), guard_pos (idxN (i := i) (n := out.length) (by omega)), Int.toNat_natCast, nextN hi (by omega)]) (fun out hl => by
    unfold laws_toInt64S_B1
    simp only [geN (Nat.le_refl _), cond_false])
  simp only [Int.toNat_natCast, this, Option.bind_some]

theorem toBoolS_ok {xs : List Bool} (h : xs.length ≤ 1048576) : laws_toBoolS xs = some xs := by
  unfold laws_toBoolS
  rw [guard_pos ⟨by simp only [lenI]; omega, by simp only [lenI]; omega⟩]
  have := loop_to (f := laws_toBoolS_B1 xs) xs false (fun i out hi hl => by
    unfold laws_toBoolS_B1
    simp only [ltN hi, cond_true, guard_pos (idxN hi), guard_pos (idxN (i := i) (n := out.length) (by omega)), Int.toNat_natCast, nextN hi (by omega)]) (fun out hl => by
    unfold laws_toBoolS_B1
    simp only [geN (Nat.le_refl _), cond_false])
  simp only [Int.toNat_natCast, this, Option.bind_some]

theorem eqInt64S_ok {xs : List Int} (h : xs.length ≤ 1048576) : laws_eqInt64S xs xs = some true := by
  unfold laws_eqInt64S
  have := loop_eq (f := laws_eqInt64S_B1 xs xs) (Sum.inl ()) xs.length (fun i hi => by
    unfold laws_eqInt64S_B1
    simp only [ltN hi, cond_true, guard_pos (idxN hi), bne_self_eq_false, cond_false, nextN hi (by omega)]) (by
    unfold laws_eqInt64S_B1
    simp only [geN (Nat.le_refl _), cond_false])
  simp only [bne_self_eq_false, cond_false, this, Option.bind_some]

theorem eqBoolS_ok {xs : List Bool} (h : xs.length ≤ 1048576) : laws_eqBoolS xs xs = some true := by
  unfold laws_eqBoolS
  have := loop_eq (f := laws_eqBoolS_B1 xs xs) (Sum.inl ()) xs.length (fun i hi => by
    unfold laws_eqBoolS_B1
    simp only [ltN hi, cond_true, guard_pos (idxN hi), bne_self_eq_false, cond_false, nextN hi (by omega)]) (by
    unfold laws_eqBoolS_B1
    simp only [geN (Nat.le_refl _), cond_false])
  simp only [bne_self_eq_false, cond_false, this, Option.bind_some]

theorem markInt64S_ok {xs : List Int} {k : Int} (h : xs.length ≤ 1048576) (hk : 0 ≤ k ∧ k ≤ 1000000000) : laws_markInt64S xs k = some (k + ((1 * xs.length : Nat) : Int), marksG (fun k => k) 1 k xs.length) := by
  unfold laws_markInt64S
  have := loop_mark (f := laws_markInt64S_B1) (fun k => k) 1 k xs (fun i out hi hl => by
    unfold laws_markInt64S_B1
    have e := markN (c := 1) (i := i) (k0 := k) (by omega) (by omega) (by omega)
    simp only [lenI, hl, ltN hi, cond_true, guard_pos (idxN hi), Int.toNat_natCast, nextN hi (by omega)]
    simp only [Int.cast_ofNat_Int] at e
    rw [e]) (fun out hl => by
    unfold laws_markInt64S_B1
    simp only [lenI, hl, geN (Nat.le_refl _), cond_false])
  simp only [this, Option.bind_some]
  rw [guard_pos marksG_len]

theorem markBoolS_ok {xs : List Bool} {k : Int} (h : xs.length ≤ 1048576) (hk : 0 ≤ k ∧ k ≤ 1000000000) : laws_markBoolS xs k = some (k + ((1 * xs.length : Nat) : Int), marksG (fun k => (Int.tmod k (3 : Int) == (0 : Int))) 1 k xs.length) := by
  unfold laws_markBoolS
  have := loop_mark (f := laws_markBoolS_B1) (fun k => (Int.tmod k (3 : Int) == (0 : Int))) 1 k xs (fun i out hi hl => by
    unfold laws_markBoolS_B1
    have e := markN (c := 1) (i := i) (k0 := k) (by omega) (by omega) (by omega)
    simp only [lenI, hl, ltN hi, cond_true, guard_pos (idxN hi), Int.toNat_natCast, nextN hi (by omega)]
    simp only [Int.cast_ofNat_Int] at e
    rw [e]) (fun out hl => by
    unfold laws_markBoolS_B1
    simp only [lenI, hl, geN (Nat.le_refl _), cond_false])
  simp only [this, Option.bind_some]
  rw [guard_pos marksG_len]

theorem heldInt64S_ok {n : Nat} {k : Int} (h : n ≤ 1048576) (hk : 0 ≤ k ∧ k ≤ 1000000000) : laws_heldInt64S (marksG (fun k => k) 1 k n) k = some (k + ((1 * n : Nat) : Int)) := by
  unfold laws_heldInt64S
  have := loop_held (f := laws_heldInt64S_B1 (marksG (fun k => k) 1 k n)) 1 k n (fun i hi => by
    unfold laws_heldInt64S_B1
    have e := markN (c := 1) (i := i) (k0 := k) (by omega) (by omega) (by omega)
    simp only [Int.cast_ofNat_Int] at e
    simp only [lenI, marksG_len, ltN hi, cond_true, guard_pos (idxN hi), Int.toNat_natCast, nextN hi (by omega), marksG_get hi, bne_self_eq_false, cond_false]
    rw [e]) (by
    unfold laws_heldInt64S_B1
    simp only [lenI, marksG_len, geN (Nat.le_refl _), cond_false])
  simp only [this, Option.bind_some]

theorem szPlain_ok {x0 : Int} {x1 : Int} {x2 : List Int} {x3 : List Bool} {n : Int} (hx2 : x2.length ≤ 9223372036854775807) (hx3 : x3.length ≤ 9223372036854775807) (hn : 0 ≤ n ∧ n ≤ 1048576) : ∃ m, laws_szPlain (x0, x1, x2, x3) n = some m ∧ (m < 0 ∨ ((x2.length ≤ 1048576 ∧ x3.length ≤ 1048576) ∧ 0 ≤ m ∧ m ≤ n)) := by
  unfold laws_szPlain
  obtain ⟨m1, h1, k1⟩ := szInt64S_ok (n := n) (xs := x2) hx2 (by omega)
  simp only [h1, Option.bind_some]
  by_cases c1 : m1 < 0
  · simp only [c1, decide_true, cond_true]; exact ⟨-1, rfl, .inl (by omega)⟩
  · obtain ⟨g1, p1, q1⟩ := k1.resolve_left c1
    simp only [c1, decide_false, cond_false]
    obtain ⟨m2, h2, k2⟩ := szBoolS_ok (n := m1) (xs := x3) hx3 (by omega)
    simp only [h2, Option.bind_some]
    by_cases c2 : m2 < 0
    · simp only [c2, decide_true, cond_true]; exact ⟨-1, rfl, .inl (by omega)⟩
    · obtain ⟨g2, p2, q2⟩ := k2.resolve_left c2
      simp only [c2, decide_false, cond_false]
      exact ⟨_, rfl, .inr ⟨⟨g1, g2⟩, by omega, by omega⟩⟩

theorem toPlain_ok {x0 : Int} {x1 : Int} {x2 : List Int} {x3 : List Bool} (hx2 : x2.length ≤ 1048576) (hx3 : x3.length ≤ 1048576) : laws_toPlain (x0, x1, x2, x3) = some (x0, x1, x2, x3) := by
  unfold laws_toPlain
  simp only [toInt64S_ok hx2, toBoolS_ok hx3, Option.bind_some]

theorem eqLoop_ok {x0 : List Int} {x1 : List Int} (hx0 : x0.length ≤ 1048576) (hx1 : x1.length ≤ 1048576) : laws_eqLoop (x0, x1) (x0, x1) = some true := by
  unfold laws_eqLoop
  simp only [eqInt64S_ok hx0, eqInt64S_ok hx1, Option.bind_some, bne_self_eq_false, Bool.not_true, cond_false, decide_true]

theorem eqPlain_ok {x0 : Int} {x1 : Int} {x2 : List Int} {x3 : List Bool} (hx2 : x2.length ≤ 1048576) (hx3 : x3.length ≤ 1048576) : laws_eqPlain (x0, x1, x2, x3) (x0, x1, x2, x3) = some true := by
  unfold laws_eqPlain
  simp only [eqInt64S_ok hx2, eqBoolS_ok hx3, Option.bind_some, bne_self_eq_false, Bool.not_true, cond_false, decide_true]

theorem markPlain_ok {x0 : Int} {x1 : Int} {x2 : List Int} {x3 : List Bool} {k : Int} (hx2 : x2.length ≤ 1048576) (hx3 : x3.length ≤ 1048576) (hk : 0 ≤ k ∧ k ≤ 100000000) : laws_markPlain (x0, x1, x2, x3) k = some (k + ((1 * x2.length : Nat) : Int) + ((1 * x3.length : Nat) : Int), (x0, x1, marksG (fun k => k) 1 (k) x2.length, marksG (fun k => (Int.tmod k (3 : Int) == (0 : Int))) 1 (k + ((1 * x2.length : Nat) : Int)) x3.length)) := by
  unfold laws_markPlain
  simp only [markInt64S_ok (k := k) hx2 (by omega), markBoolS_ok (k := k + ((1 * x2.length : Nat) : Int)) hx3 (by omega), Option.bind_some]
  simp only [guardP, marksG_len, if_true]

theorem markLoop_ok {x0 : List Int} {x1 : List Int} {k : Int} (hx0 : x0.length ≤ 1048576) (hx1 : x1.length ≤ 1048576) (hk : 0 ≤ k ∧ k ≤ 100000000) : laws_markLoop (x0, x1) k = some (k + ((1 * x0.length : Nat) : Int) + ((1 * x1.length : Nat) : Int), (marksG (fun k => k) 1 (k) x0.length, marksG (fun k => k) 1 (k + ((1 * x0.length : Nat) : Int)) x1.length)) := by
  unfold laws_markLoop
  simp only [markInt64S_ok (k := k) hx0 (by omega), markInt64S_ok (k := k + ((1 * x0.length : Nat) : Int)) hx1 (by omega), Option.bind_some]
  simp only [guardP, marksG_len, if_true]

theorem heldLoop_ok {x0 : List Int} {x1 : List Int} {k : Int} (hx0 : x0.length ≤ 1048576) (hx1 : x1.length ≤ 1048576) (hk : 0 ≤ k ∧ k ≤ 100000000) : laws_heldLoop (marksG (fun k => k) 1 (k) x0.length, marksG (fun k => k) 1 (k + ((1 * x0.length : Nat) : Int)) x1.length) k = some (k + ((1 * x0.length : Nat) : Int) + ((1 * x1.length : Nat) : Int)) := by
  unfold laws_heldLoop
  simp only [heldInt64S_ok (k := k) hx0 (by omega), heldInt64S_ok (k := k + ((1 * x0.length : Nat) : Int)) hx1 (by omega), Option.bind_some, (show decide (k + ((1 * x0.length : Nat) : Int) < 0) = false from by simp only [decide_eq_false_iff_not]; omega), (show decide (k + ((1 * x0.length : Nat) : Int) + ((1 * x1.length : Nat) : Int) < 0) = false from by simp only [decide_eq_false_iff_not]; omega), cond_false]

end Go.Proofs


namespace Go.Proofs
open Go.Ide Go.IntWalk

theorem in64 (a b c : Int) : spec_l00In a b c = some (decide (a ≥ b) && decide (a ≤ c)) := by
  unfold spec_l00In
  cases h : decide (a ≥ b) <;> simp
theorem within64 (a b c : Int) : impl_within a b c = some (decide (a ≥ b) && decide (a ≤ c)) := by
  unfold impl_within
  cases h : decide (a ≥ b) <;> simp

/-- All between. -/
def allIn (xs : List Int) (b c : Int) : Bool := xs.all fun x => decide (x ≥ b) && decide (x ≤ c)

theorem allIn_iff {xs : List Int} {b c : Int} : allIn xs b c = true ↔ ∀ i, i < xs.length → b ≤ xs.getD i 0 ∧ xs.getD i 0 ≤ c := by
  unfold allIn
  rw [List.all_eq_true]
  constructor
  · intro h i hi
    have := h xs[i] (List.getElem_mem hi)
    simp only [Bool.and_eq_true, decide_eq_true_eq] at this
    rw [List.getD_eq_getElem?_getD, List.getElem?_eq_getElem hi]
    exact ⟨this.1, this.2⟩
  · intro h x hx
    obtain ⟨i, hi, rfl⟩ := List.getElem_of_mem hx
    have := h i hi
    rw [List.getD_eq_getElem?_getD, List.getElem?_eq_getElem hi] at this
    simp only [Bool.and_eq_true, decide_eq_true_eq]
    exact ⟨this.1, this.2⟩

theorem allN_in (xs : List Int) (b c : Int) : allN (fun i => decide (xs.getD i 0 ≥ b) && decide (xs.getD i 0 ≤ c)) xs.length 0 = allIn xs b c := by
  rw [Bool.eq_iff_iff, allN_iff, allIn_iff]
  constructor
  · intro h i hi
    have := h i (by omega) (by omega)
    simp only [Bool.and_eq_true, decide_eq_true_eq] at this
    exact ⟨this.1, this.2⟩
  · intro h i _ hi
    have := h i (by omega)
    simp only [Bool.and_eq_true, decide_eq_true_eq]
    exact ⟨this.1, this.2⟩

theorem areWithin64 {xs : List Int} {b c : Int} (h : xs.length ≤ 4294967296) : impl_areWithin xs b c = some (allIn xs b c) := by
  unfold impl_areWithin
  have := rounds_all (f := impl_areWithin_B1 xs b c) (fun i => ((i : Nat) : Int)) (fun i => decide (xs.getD i 0 ≥ b) && decide (xs.getD i 0 ≤ c)) (Sum.inl ()) (Sum.inr ()) (n := xs.length) (fun i hi => by
    unfold impl_areWithin_B1
    simp only [ltN hi, cond_true, guard_pos (idxN hi), Int.toNat_natCast, within64, Option.bind_some, nextN hi h]
    cases (decide (xs.getD i 0 ≥ b) && decide (xs.getD i 0 ≤ c)) <;> rfl) (by
    unfold impl_areWithin_B1
    simp only [geN (Nat.le_refl _), cond_false]) xs.length 0 (by omega)
  rw [allN_in] at this
  simp only [Int.natCast_zero] at this
  simp only [this, Option.bind_some]
  cases allIn xs b c <;> rfl

/-- A plain machine is as it must be. -/
def okPlain (s l : Int) (nx : List Int) (es : List Bool) : Bool :=
  (decide (s ≥ 1) && decide (s ≤ 64)) && ((decide (l ≥ 1) && decide (l ≤ 4)) && ((lenI nx == wmul .i64 s l) && ((lenI es == s) && allIn nx 0 (wsub .i64 s 1))))

theorem specPlain {s l : Int} {nx : List Int} {es : List Bool} (h : nx.length ≤ 4294967296) : spec_l02Plain (s, l, nx, es) = some (okPlain s l nx es) := by
  unfold spec_l02Plain okPlain
  simp only [in64, Option.bind_some]
  have := rounds_all (f := spec_l02Plain_B1 (s, l, nx, es)) (fun i => ((i : Nat) : Int)) (fun i => decide (nx.getD i 0 ≥ 0) && decide (nx.getD i 0 ≤ wsub .i64 s 1)) (Sum.inl ()) (Sum.inr ()) (n := nx.length) (fun i hi => by
    unfold spec_l02Plain_B1
    simp only [ltN hi, cond_true, guard_pos (idxN hi), Int.toNat_natCast, in64, Option.bind_some, nextN hi h]
    cases (decide (nx.getD i 0 ≥ 0) && decide (nx.getD i 0 ≤ wsub .i64 s 1)) <;> rfl) (by
    unfold spec_l02Plain_B1
    simp only [geN (Nat.le_refl _), cond_false]) nx.length 0 (by omega)
  rw [allN_in] at this
  simp only [Int.natCast_zero] at this
  simp only [this, Option.bind_some, bne]
  cases (decide (s ≥ 1) && decide (s ≤ 64)) <;> cases (decide (l ≥ 1) && decide (l ≤ 4)) <;> cases (lenI nx == wmul .i64 s l) <;> cases (lenI es == s) <;> cases allIn nx 0 (wsub .i64 s 1) <;> rfl

theorem implPlain {s l : Int} {nx : List Int} {es : List Bool} (h : nx.length ≤ 4294967296) : impl_ValidPlain (s, l, nx, es) = some (okPlain s l nx es) := by
  unfold impl_ValidPlain okPlain
  simp only [within64, areWithin64 h, Option.bind_some]
  cases (decide (s ≥ 1) && decide (s ≤ 64)) <;> cases (decide (l ≥ 1) && decide (l ≤ 4)) <;> cases (lenI nx == wmul .i64 s l) <;> cases (lenI es == s) <;> cases allIn nx 0 (wsub .i64 s 1) <;> rfl

theorem okPlain_spec {s l : Int} {nx : List Int} {es : List Bool} (h : okPlain s l nx es = true) : ∃ m c : Nat, s = (m : Int) ∧ l = (c : Int) ∧ 1 ≤ m ∧ m ≤ 64 ∧ 1 ≤ c ∧ c ≤ 4 ∧ nx.length = m * c ∧ es.length = m ∧ ∀ i, i < m * c → ∃ t : Nat, nx.getD i 0 = (t : Int) ∧ t < m := by
  unfold okPlain at h
  simp only [Bool.and_eq_true, decide_eq_true_eq, beq_iff_eq] at h
  obtain ⟨⟨h1, h2⟩, ⟨h3, h4⟩, h5, h6, h7⟩ := h
  obtain ⟨m, rfl⟩ : ∃ n : Nat, s = (n : Int) := ⟨s.toNat, by omega⟩
  obtain ⟨c, rfl⟩ : ∃ n : Nat, l = (n : Int) := ⟨l.toNat, by omega⟩
  have hmc : m * c ≤ 64 * 4 := Nat.mul_le_mul (by omega) (by omega)
  rw [wmulI (by rw [← Int.natCast_mul]; omega), ← Int.natCast_mul] at h5
  have hl : nx.length = m * c := by simp only [lenI] at h5; omega
  refine ⟨m, c, rfl, rfl, by omega, by omega, by omega, by omega, hl, by simp only [lenI] at h6; omega, fun i hi => ?_⟩
  have := allIn_iff.1 h7 i (by omega)
  rw [wsubI (by omega)] at this
  exact ⟨(nx.getD i 0).toNat, by omega, by omega⟩

/-- A loop's words are words. -/
def okLoop (xs ys : List Int) (L : Int) : Bool := (decide (L ≥ 1) && decide (L ≤ 4)) && ((allIn xs 0 (wsub .i64 L 1) && decide (lenI xs ≤ 12)) && ((allIn ys 0 (wsub .i64 L 1) && decide (lenI ys ≤ 12)) && decide (lenI ys ≥ 1)))

/-- A list's numbers are letters. -/
def Letters (c : Nat) (xs : List Int) : Prop := ∀ i, i < xs.length → ∃ a : Nat, xs.getD i 0 = (a : Int) ∧ a < c

theorem okLoop_spec {xs ys : List Int} {c : Nat} (h : okLoop xs ys (c : Int) = true) : xs.length ≤ 12 ∧ ys.length ≤ 12 ∧ 1 ≤ ys.length ∧ Letters c xs ∧ Letters c ys := by
  unfold okLoop at h
  simp only [Bool.and_eq_true, decide_eq_true_eq, lenI] at h
  obtain ⟨⟨h1, h2⟩, ⟨h3, h4⟩, ⟨h5, h6⟩, h7⟩ := h
  rw [wsubI (by omega)] at h3 h5
  refine ⟨by omega, by omega, by omega, fun i hi => ?_, fun i hi => ?_⟩
  · have := allIn_iff.1 h3 i hi
    exact ⟨(xs.getD i 0).toNat, by omega, by omega⟩
  · have := allIn_iff.1 h5 i hi
    exact ⟨(ys.getD i 0).toNat, by omega, by omega⟩

/-- A valid machine. -/
structure Plain (m c : Nat) (nx : List Int) (es : List Bool) : Prop where
  m1 : 1 ≤ m
  m2 : m ≤ 64
  c1 : 1 ≤ c
  c2 : c ≤ 4
  len : nx.length = m * c
  ends : es.length = m
  to : ∀ i, i < m * c → ∃ t : Nat, nx.getD i 0 = (t : Int) ∧ t < m

/-- The next state. -/
def goP (c : Nat) (nx : List Int) (s : Nat) (a : Int) : Nat := (nx.getD (s * c + a.toNat) 0).toNat

def walkP (c : Nat) (nx : List Int) (s : Nat) (w : List Int) : Nat := w.foldl (goP c nx) s

theorem place_lt {m c s a : Nat} (hs : s < m) (ha : a < c) : s * c + a < m * c := by
  have : s * c + c ≤ m * c := by
    rw [← Nat.succ_mul]
    exact Nat.mul_le_mul_right c hs
  omega

section
variable {m c : Nat} {nx : List Int} {es : List Bool} (hp : Plain m c nx es)
include hp

theorem goP_lt {s : Nat} {a : Int} {k : Nat} (hs : s < m) (ha : a = (k : Int)) (hk : k < c) : goP c nx s a < m := by
  subst ha
  obtain ⟨t, h1, h2⟩ := hp.to (s * c + k) (place_lt hs hk)
  unfold goP
  rw [Int.toNat_natCast, h1]
  simpa using h2

theorem spec_go {s : Nat} {a : Int} {k : Nat} (hs : s < m) (ha : a = (k : Int)) (hk : k < c) : spec_l07Go ((m : Int), (c : Int), nx, es) (s : Int) a = some ((goP c nx s a : Nat) : Int) := by
  subst ha
  have h0 := place_lt hs hk
  have hmc : m * c ≤ 64 * 4 := Nat.mul_le_mul hp.m2 hp.c2
  obtain ⟨t, h1, h2⟩ := hp.to (s * c + k) h0
  have := hp.m2; have := hp.c2; have := hp.len
  have e : wadd .i64 (wmul .i64 (s : Int) (c : Int)) (k : Int) = ((s * c + k : Nat) : Int) := cellN (by omega) (by omega) (by omega)
  unfold spec_l07Go goP
  simp only [e, Int.toNat_natCast, guard_pos (show (0 : Int) ≤ ((s * c + k : Nat) : Int) ∧ ((s * c + k : Nat) : Int) < lenI nx from by simp only [lenI]; omega), h1]

theorem impl_go {s : Nat} {a : Int} {k : Nat} (hs : s < m) (ha : a = (k : Int)) (hk : k < c) : impl_Plain_to ((m : Int), (c : Int), nx, es) (s : Int) a = some ((goP c nx s a : Nat) : Int) := by
  subst ha
  have h0 := place_lt hs hk
  have hmc : m * c ≤ 64 * 4 := Nat.mul_le_mul hp.m2 hp.c2
  obtain ⟨t, h1, h2⟩ := hp.to (s * c + k) h0
  have := hp.m2; have := hp.c2; have := hp.len
  have e : wadd .i64 (wmul .i64 (s : Int) (c : Int)) (k : Int) = ((s * c + k : Nat) : Int) := cellN (by omega) (by omega) (by omega)
  unfold impl_Plain_to goP
  simp only [e, Int.toNat_natCast, guard_pos (show (0 : Int) ≤ ((s * c + k : Nat) : Int) ∧ ((s * c + k : Nat) : Int) < lenI nx from by simp only [lenI]; omega), h1]

theorem walk_lt {w : List Int} (hw : Letters c w) : ∀ (k : Nat) {s : Nat}, s < m → walkP c nx s (w.take k) < m := by
  intro k
  induction k with
  | zero => intro s hs; simpa [walkP] using hs
  | succ k ih =>
    intro s hs
    by_cases hk : k < w.length
    · rw [take_snoc hk 0]
      unfold walkP
      rw [List.foldl_append]
      obtain ⟨a, e, ha⟩ := hw k hk
      exact goP_lt hp (ih hs) e ha
    · have e : w.take (k + 1) = w.take k := by rw [List.take_of_length_le (by omega), List.take_of_length_le (by omega)]
      rw [e]; exact ih hs

end

theorem walk_succ {c : Nat} {nx w : List Int} {s k : Nat} (hk : k < w.length) : walkP c nx s (w.take (k + 1)) = goP c nx (walkP c nx s (w.take k)) (w.getD k 0) := by
  rw [take_snoc hk 0]; unfold walkP; rw [List.foldl_append]; rfl

end Go.Proofs


namespace Go.Proofs
open Go.Ide Go.IntWalk

/-- Where a list is true. -/
def idxF : List Bool → Nat → List Int
  | [], _ => []
  | b :: bs, i => if b then (i : Int) :: idxF bs (i + 1) else idxF bs (i + 1)

theorem idxF_cons (b : Bool) (bs : List Bool) (i : Nat) : idxF (b :: bs) i = if b then (i : Int) :: idxF bs (i + 1) else idxF bs (i + 1) := rfl

theorem idxF_ge : ∀ (bs : List Bool) (i : Nat), ∀ x ∈ idxF bs i, (i : Int) ≤ x
  | [], _, x, h => by simp [idxF] at h
  | b :: bs, i, x, h => by
    unfold idxF at h
    split at h
    · rcases List.mem_cons.1 h with e | h
      · omega
      · have := idxF_ge bs (i + 1) x h; omega
    · have := idxF_ge bs (i + 1) x h; omega

theorem idxF_len : ∀ (bs : List Bool) (i : Nat), (idxF bs i).length ≤ bs.length
  | [], _ => by simp [idxF]
  | b :: bs, i => by
    have := idxF_len bs (i + 1)
    unfold idxF
    split <;> simp only [List.length_cons] <;> omega

/-- A number put into a rising list. -/
def insI (n : Int) : List Int → List Int
  | [] => [n]
  | x :: xs => if x ≥ n then (if x > n then n :: x :: xs else x :: xs) else x :: insI n xs

theorem insI_cons (n x : Int) (xs : List Int) : insI n (x :: xs) = if x ≥ n then (if x > n then n :: x :: xs else x :: xs) else x :: insI n xs := rfl

theorem insI_len (n : Int) : ∀ xs : List Int, (insI n xs).length ≤ xs.length + 1
  | [] => by simp [insI]
  | x :: xs => by
    have := insI_len n xs
    unfold insI
    split
    · split <;> simp
    · simp only [List.length_cons]; omega

theorem insI_idx : ∀ (bs : List Bool) (i j : Nat), j < bs.length → insI ((i + j : Nat) : Int) (idxF bs i) = idxF (bs.set j true) i
  | [], _, _, h => by simp at h
  | b :: bs, i, 0, _ => by
    simp only [Nat.add_zero, List.set_cons_zero, idxF, if_true]
    cases b with
    | true => simp [insI]
    | false =>
      simp only [Bool.false_eq_true, if_false]
      have hge := idxF_ge bs (i + 1)
      cases hx : idxF bs (i + 1) with
      | nil => rfl
      | cons x xs =>
        have := hge x (by rw [hx]; exact List.mem_cons_self)
        unfold insI
        rw [if_pos (by omega), if_pos (by omega)]
  | b :: bs, i, j + 1, h => by
    have ih := insI_idx bs (i + 1) j (by simpa using h)
    rw [show i + 1 + j = i + (j + 1) from by omega] at ih
    simp only [List.set_cons_succ, idxF]
    cases b with
    | true =>
      simp only [if_true]
      unfold insI
      rw [if_neg (by omega), ih]
    | false => simpa using ih

theorem spec_put {xs : List Int} {n : Int} (h : xs.length ≤ 1000000) : spec_l00Put xs n = some (insI n xs) := by
  unfold spec_l00Put
  have := rounds_forS (f := spec_l00Put_B1 xs n) (fun i (s : Bool × List Int) => (s.1, ((i : Nat) : Int), s.2))
    (fun i s => if s.1 = false ∧ xs.getD i 0 ≥ n then (true, (if xs.getD i 0 > n then s.2 ++ [n] else s.2) ++ [xs.getD i 0]) else (s.1, s.2 ++ [xs.getD i 0])) (fun s => (s.1, s.2)) (n := xs.length)
    (fun i s => s.2.length ≤ i + (if s.1 then 1 else 0) ∧ (if s.1 then s.2 ++ xs.drop i = insI n xs else s.2 ++ insI n (xs.drop i) = insI n xs))
    (fun i s hi hs => by
      obtain ⟨d, out⟩ := s
      obtain ⟨hl, hs⟩ := hs
      have hl2 : out.length ≤ i + (if d then 1 else 0) := hl
      have hl : out.length ≤ i + 1 := by cases d <;> simp at hl2 <;> omega
      refine ⟨?_, ?_⟩
      · unfold spec_l00Put_B1
        have g1 : ∀ (l : List Int) (x : Int), l.length ≤ i + 2 → List.length l + List.length ([x] : List Int) ≤ appMax := fun l x hl => by simp only [appMax, List.length_cons, List.length_nil]; omega
        simp only [ltN hi, cond_true, guard_pos (idxN hi), Int.toNat_natCast, nextN hi (by omega), guard_pos (g1 out n (by omega))]
        cases d with
        | true =>
          simp only [Bool.not_true, cond_false, Option.bind_some, Bool.true_eq_false, false_and, if_false, guard_pos (g1 out (xs.getD i 0) (by omega))]
        | false =>
          by_cases hx : xs.getD i 0 ≥ n
          · by_cases hy : xs.getD i 0 > n
            · simp only [Bool.not_false, cond_true, hx, hy, decide_true, Option.bind_some, true_and, if_true, guard_pos (g1 (out ++ [n]) (xs.getD i 0) (by simp; omega))]
            · simp only [Bool.not_false, cond_true, cond_false, hx, hy, decide_true, decide_false, Option.bind_some, true_and, if_true, if_false, guard_pos (g1 out (xs.getD i 0) (by omega))]
          · simp only [Bool.not_false, cond_true, cond_false, hx, decide_false, Option.bind_some, true_and, if_false, guard_pos (g1 out (xs.getD i 0) (by omega))]
      · have hd := drop_cons hi 0
        cases d with
        | true =>
          simp only [Bool.true_eq_false, false_and, if_false, if_true] at hs ⊢
          exact ⟨by simp; omega, by rw [← hs, hd]; simp⟩
        | false =>
          simp only [Bool.false_eq_true, if_false] at hs
          rw [hd, insI_cons] at hs
          have hl2 : out.length ≤ i := by simpa using hl2
          by_cases hx : xs.getD i 0 ≥ n
          · rw [if_pos hx] at hs
            simp only [true_and, hx, if_true]
            by_cases hy : xs.getD i 0 > n
            · rw [if_pos hy] at hs
              rw [if_pos hy]
              exact ⟨by simp; omega, by rw [← hs]; simp⟩
            · rw [if_neg hy] at hs
              rw [if_neg hy]
              exact ⟨by simp; omega, by rw [← hs]; simp⟩
          · rw [if_neg hx] at hs
            simp only [true_and, hx, if_false, Bool.false_eq_true]
            exact ⟨by simp; omega, by rw [← hs]; simp⟩)
    (fun s hs => by
      unfold spec_l00Put_B1
      simp only [geN (Nat.le_refl _), cond_false]) xs.length 0 (false, []) (by omega) ⟨by simp, by simp⟩
  simp only [Int.natCast_zero] at this
  obtain ⟨e, hl, hI⟩ := this
  rw [e]
  simp only [Option.bind_some]
  generalize forS _ xs.length 0 (false, ([] : List Int)) = r at hl hI
  obtain ⟨d, out⟩ := r
  cases d with
  | true => simpa using hI
  | false =>
    have hl : out.length ≤ xs.length := by simpa using hl
    have g1 : List.length out + List.length ([n] : List Int) ≤ appMax := by simp only [appMax, List.length_cons, List.length_nil]; omega
    have hI : out ++ insI n (xs.drop xs.length) = insI n xs := by simpa using hI
    rw [List.drop_length] at hI
    simp only [Bool.not_false, cond_true, guard_pos g1, Option.bind_some]
    rw [← hI]; rfl

section
variable {m c : Nat} {nx : List Int} {es : List Bool}

theorem walk_loop {f : Int × Int → Option ((Int × Int) ⊕ Int)} {w : List Int} (hp : Plain m c nx es) (hw : Letters c w)
    (hstep : ∀ s i : Nat, s < m → i < w.length → f ((s : Int), (i : Int)) = some (.inl (((goP c nx s (w.getD i 0) : Nat) : Int), ((i + 1 : Nat) : Int))))
    (hend : ∀ s : Nat, f ((s : Int), (w.length : Int)) = some (.inr (s : Int))) {s : Nat} (hs : s < m) : rounds f ((s : Int), (0 : Int)) = some ((walkP c nx s w : Nat) : Int) := by
  have := rounds_forS (f := f) (fun i (s : Nat) => ((s : Int), ((i : Nat) : Int))) (fun i s => goP c nx s (w.getD i 0)) (fun s => (s : Int)) (n := w.length) (fun i t => t = walkP c nx s (w.take i))
    (fun i t hi ht => ⟨hstep t i (by rw [ht]; exact walk_lt hp hw i hs) hi, by rw [ht, walk_succ hi]⟩) (fun t _ => hend t) w.length 0 s (by omega) rfl
  simp only [Int.natCast_zero, List.take_length] at this
  rw [this.1, this.2]

/-- Times round. -/
def repP (c : Nat) (nx w : List Int) : Nat → Nat → Nat
  | 0, s => s
  | k + 1, s => repP c nx w k (walkP c nx s w)

theorem rep_loop {f : Int × Int → Option ((Int × Int) ⊕ Int)} {w : List Int} {n : Nat} (hp : Plain m c nx es) (hw : Letters c w)
    (hstep : ∀ s i : Nat, s < m → i < n → f ((s : Int), (i : Int)) = some (.inl (((walkP c nx s w : Nat) : Int), ((i + 1 : Nat) : Int))))
    (hend : ∀ s : Nat, f ((s : Int), (n : Int)) = some (.inr (s : Int))) {s : Nat} (hs : s < m) : ∃ t : Nat, t < m ∧ t = repP c nx w n s ∧ rounds f ((s : Int), (0 : Int)) = some ((t : Nat) : Int) := by
  have hrep : ∀ (k i s : Nat), forS (fun _ s => walkP c nx s w) k i s = repP c nx w k s := by
    intro k
    induction k with
    | zero => intro i s; rfl
    | succ k ih => intro i s; exact ih (i + 1) _
  have hwl : ∀ s, s < m → walkP c nx s w < m := fun s hs => by have := walk_lt hp hw w.length hs; rwa [List.take_length] at this
  have := rounds_forS (f := f) (fun i (s : Nat) => ((s : Int), ((i : Nat) : Int))) (fun _ s => walkP c nx s w) (fun s => (s : Int)) (n := n) (fun i t => t < m)
    (fun i t hi ht => ⟨hstep t i ht hi, hwl t ht⟩) (fun t _ => hend t) n 0 s (by omega) hs
  simp only [Int.natCast_zero] at this
  rw [hrep] at this
  exact ⟨_, this.2, rfl, this.1⟩

/-- The states that come. -/
def markP (c : Nat) (nx w : List Int) : Nat → Nat → Nat × List Bool → Nat × List Bool
  | k, i, s => forS (fun i (s : Nat × List Bool) => (goP c nx s.1 (w.getD i 0), s.2.set (goP c nx s.1 (w.getD i 0)) true)) k i s
def marksP (c : Nat) (nx w : List Int) (n : Nat) (s : Nat × List Bool) : Nat × List Bool := forS (fun _ s => markP c nx w w.length 0 s) n 0 s

/-- How a program keeps the states that came. -/
def keepS (b : List Bool) : List Int := idxF b 0

theorem mark_loop1 {κ : Type} {f : Int × Int × κ → Option ((Int × Int × κ) ⊕ (Int × κ))} {w : List Int} (K : List Bool → κ) (hp : Plain m c nx es) (hw : Letters c w)
    (hstep : ∀ (s i : Nat) (b : List Bool), s < m → i < w.length → b.length = m → f ((s : Int), (i : Int), K b) = some (.inl (((goP c nx s (w.getD i 0) : Nat) : Int), ((i + 1 : Nat) : Int), K (b.set (goP c nx s (w.getD i 0)) true))))
    (hend : ∀ (s : Nat) (b : List Bool), b.length = m → f ((s : Int), (w.length : Int), K b) = some (.inr ((s : Int), K b))) {s : Nat} {b : List Bool} (hs : s < m) (hb : b.length = m) :
    ∃ t b', (t, b') = markP c nx w w.length 0 (s, b) ∧ t < m ∧ b'.length = m ∧ rounds f ((s : Int), (0 : Int), K b) = some ((t : Int), K b') := by
  have := rounds_forS (f := f) (fun i (s : Nat × List Bool) => ((s.1 : Int), ((i : Nat) : Int), K s.2)) (fun i (s : Nat × List Bool) => (goP c nx s.1 (w.getD i 0), s.2.set (goP c nx s.1 (w.getD i 0)) true)) (fun s => ((s.1 : Int), K s.2)) (n := w.length) (fun i t => t.1 < m ∧ t.2.length = m)
    (fun i t hi ht => ⟨hstep t.1 i t.2 ht.1 hi ht.2, by
      obtain ⟨a, e, ha⟩ := hw i hi
      exact ⟨goP_lt hp ht.1 e ha, by simpa using ht.2⟩⟩) (fun t ht => hend t.1 t.2 ht.2) w.length 0 (s, b) (by omega) ⟨hs, hb⟩
  simp only [Int.natCast_zero] at this
  exact ⟨_, _, rfl, this.2.1, this.2.2, this.1⟩

theorem mark_loop2 {κ : Type} {f : Int × Int × κ → Option ((Int × Int × κ) ⊕ κ)} {w : List Int} {n : Nat} (K : List Bool → κ) (hp : Plain m c nx es) (hw : Letters c w)
    (hstep : ∀ (s i : Nat) (b : List Bool), s < m → i < n → b.length = m → f ((s : Int), (i : Int), K b) = some (.inl (((markP c nx w w.length 0 (s, b)).1 : Int), ((i + 1 : Nat) : Int), K (markP c nx w w.length 0 (s, b)).2)))
    (hend : ∀ (s : Nat) (b : List Bool), b.length = m → f ((s : Int), (n : Int), K b) = some (.inr (K b))) {s : Nat} {b : List Bool} (hs : s < m) (hb : b.length = m) :
    (marksP c nx w n (s, b)).2.length = m ∧ rounds f ((s : Int), (0 : Int), K b) = some (K (marksP c nx w n (s, b)).2) := by
  have hin : ∀ t : Nat × List Bool, t.1 < m ∧ t.2.length = m → (markP c nx w w.length 0 t).1 < m ∧ (markP c nx w w.length 0 t).2.length = m := by
    intro t ht
    have aux : ∀ (k i : Nat) (t : Nat × List Bool), i + k = w.length → t.1 < m ∧ t.2.length = m → (markP c nx w k i t).1 < m ∧ (markP c nx w k i t).2.length = m := by
      intro k
      induction k with
      | zero => intro i t _ h; exact h
      | succ k ih =>
        intro i t hi h
        obtain ⟨a, e, ha⟩ := hw i (by omega)
        exact ih (i + 1) _ (by omega) ⟨goP_lt hp h.1 e ha, by simpa using h.2⟩
    exact aux w.length 0 t (by omega) ht
  have := rounds_forS (f := f) (fun i (s : Nat × List Bool) => ((s.1 : Int), ((i : Nat) : Int), K s.2)) (fun _ s => markP c nx w w.length 0 s) (fun s => K s.2) (n := n) (fun i t => t.1 < m ∧ t.2.length = m)
    (fun i t hi ht => ⟨hstep t.1 i t.2 ht.1 hi ht.2, hin t ht⟩) (fun t ht => hend t.1 t.2 ht.2) n 0 (s, b) (by omega) ⟨hs, hb⟩
  simp only [Int.natCast_zero] at this
  exact ⟨this.2.2, this.1⟩

/-- The states that come again and again. -/
def statesP (m c : Nat) (nx hd rd : List Int) : List Bool := (marksP c nx rd m (repP c nx rd m (walkP c nx 0 hd), List.replicate m false)).2

section
variable {hd rd : List Int} (hp : Plain m c nx es) (hh : Letters c hd) (hr : Letters c rd) (lh : hd.length ≤ 1000) (lr : rd.length ≤ 1000)
include hp hh hr lh lr

theorem spec_states : spec_l07States ((m : Int), (c : Int), nx, es) (hd, rd) = some (keepS (statesP m c nx hd rd)) ∧ (statesP m c nx hd rd).length = m := by
  have m1 := hp.m1; have m2 := hp.m2
  have e5 := walk_loop (f := spec_l07States_B5 ((m : Int), (c : Int), nx, es) (hd, rd)) hp hh (fun s i hs hi => by
    unfold spec_l07States_B5
    obtain ⟨a, e, ha⟩ := hh i hi
    simp only [ltN hi, cond_true, guard_pos (idxN hi), Int.toNat_natCast, spec_go hp hs e ha, Option.bind_some, nextN hi (by omega)]) (fun s => by
    unfold spec_l07States_B5
    simp only [geN (Nat.le_refl _), cond_false]) (s := 0) (by omega)
  have hw0 : walkP c nx 0 hd < m := by have := walk_lt hp hh hd.length (s := 0) (by omega); rwa [List.take_length] at this
  have e3 : ∀ s, s < m → rounds (spec_l07States_B3 ((m : Int), (c : Int), nx, es) (hd, rd)) ((s : Int), (0 : Int)) = some ((walkP c nx s rd : Nat) : Int) := fun s hs => walk_loop hp hr (fun s i hs hi => by
    unfold spec_l07States_B3
    obtain ⟨a, e, ha⟩ := hr i hi
    simp only [ltN hi, cond_true, guard_pos (idxN hi), Int.toNat_natCast, spec_go hp hs e ha, Option.bind_some, nextN hi (by omega)]) (fun s => by
    unfold spec_l07States_B3
    simp only [geN (Nat.le_refl _), cond_false]) hs
  obtain ⟨t, ht, ht2, e4⟩ := rep_loop (f := spec_l07States_B4 ((m : Int), (c : Int), nx, es) (hd, rd)) (n := m) hp hr (fun s i hs hi => by
    unfold spec_l07States_B4
    simp only [ltN hi, cond_true, e3 s hs, Option.bind_some, nextN hi (by omega)]) (fun s => by
    unfold spec_l07States_B4
    simp only [geN (Nat.le_refl _), cond_false]) hw0
  have e1 : ∀ (s : Nat) (b : List Bool), s < m → b.length = m → rounds (spec_l07States_B1 ((m : Int), (c : Int), nx, es) (hd, rd)) ((s : Int), (0 : Int), keepS b) = some (((markP c nx rd rd.length 0 (s, b)).1 : Int), keepS (markP c nx rd rd.length 0 (s, b)).2) := by
    intro s b hs hb
    obtain ⟨t, b', e, _, _, er⟩ := mark_loop1 (f := spec_l07States_B1 ((m : Int), (c : Int), nx, es) (hd, rd)) keepS hp hr (fun s i b hs hi hb => by
      unfold spec_l07States_B1
      obtain ⟨a, e, ha⟩ := hr i hi
      have hlt := goP_lt hp hs e ha
      have hl := idxF_len b 0
      have hins := insI_idx b 0 (goP c nx s (rd.getD i 0)) (by omega)
      rw [Nat.zero_add] at hins
      simp only [ltN hi, cond_true, guard_pos (idxN hi), Int.toNat_natCast, spec_go hp hs e ha, Option.bind_some, nextN hi (by omega), spec_put (show (keepS b).length ≤ 1000000 from by unfold keepS; omega)]
      unfold keepS
      rw [hins]) (fun s b hb => by
      unfold spec_l07States_B1
      simp only [geN (Nat.le_refl _), cond_false]) hs hb
    rw [← e]; exact er
  have e2 := mark_loop2 (f := spec_l07States_B2 ((m : Int), (c : Int), nx, es) (hd, rd)) (n := m) keepS hp hr (fun s i b hs hi hb => by
    unfold spec_l07States_B2
    simp only [ltN hi, cond_true, e1 s b hs hb, Option.bind_some, nextN hi (by omega)]) (fun s b hb => by
    unfold spec_l07States_B2
    simp only [geN (Nat.le_refl _), cond_false]) (s := t) (b := List.replicate m false) ht (by simp)
  have hk : keepS (List.replicate m false) = [] := by
    unfold keepS
    have : ∀ (k i : Nat), idxF (List.replicate k false) i = [] := by
      intro k
      induction k with
      | zero => intro i; rfl
      | succ k ih => intro i; simp only [List.replicate_succ, idxF, Bool.false_eq_true, if_false]; exact ih (i + 1)
    exact this m 0
  rw [hk] at e2
  unfold spec_l07States statesP
  rw [← ht2]
  simp only [Int.natCast_zero] at e5
  simp only [e5, e4, e2.2, Option.bind_some]
  exact ⟨trivial, e2.1⟩

theorem impl_states : impl_statesOfLoop ((m : Int), (c : Int), nx, es) (hd, rd) = some (statesP m c nx hd rd) := by
  have m1 := hp.m1; have m2 := hp.m2
  have e5 := walk_loop (f := impl_Plain_stateOf_B1 ((m : Int), (c : Int), nx, es) hd) hp hh (fun s i hs hi => by
    unfold impl_Plain_stateOf_B1
    obtain ⟨a, e, ha⟩ := hh i hi
    simp only [ltN hi, cond_true, guard_pos (idxN hi), Int.toNat_natCast, impl_go hp hs e ha, Option.bind_some, nextN hi (by omega)]) (fun s => by
    unfold impl_Plain_stateOf_B1
    simp only [geN (Nat.le_refl _), cond_false]) (s := 0) (by omega)
  have hw0 : walkP c nx 0 hd < m := by have := walk_lt hp hh hd.length (s := 0) (by omega); rwa [List.take_length] at this
  have e3 : ∀ s, s < m → rounds (impl_statesOfLoop_B3 ((m : Int), (c : Int), nx, es) (hd, rd)) ((s : Int), (0 : Int)) = some ((walkP c nx s rd : Nat) : Int) := fun s hs => walk_loop hp hr (fun s i hs hi => by
    unfold impl_statesOfLoop_B3
    obtain ⟨a, e, ha⟩ := hr i hi
    simp only [ltN hi, cond_true, guard_pos (idxN hi), Int.toNat_natCast, impl_go hp hs e ha, Option.bind_some, nextN hi (by omega)]) (fun s => by
    unfold impl_statesOfLoop_B3
    simp only [geN (Nat.le_refl _), cond_false]) hs
  obtain ⟨t, ht, ht2, e4⟩ := rep_loop (f := impl_statesOfLoop_B4 ((m : Int), (c : Int), nx, es) (hd, rd)) (n := m) hp hr (fun s i hs hi => by
    unfold impl_statesOfLoop_B4
    simp only [ltN hi, cond_true, e3 s hs, Option.bind_some, nextN hi (by omega)]) (fun s => by
    unfold impl_statesOfLoop_B4
    simp only [geN (Nat.le_refl _), cond_false]) hw0
  have e1 : ∀ (s : Nat) (b : List Bool), s < m → b.length = m → rounds (impl_statesOfLoop_B1 ((m : Int), (c : Int), nx, es) (hd, rd)) ((s : Int), (0 : Int), b) = some (((markP c nx rd rd.length 0 (s, b)).1 : Int), (markP c nx rd rd.length 0 (s, b)).2) := by
    intro s b hs hb
    obtain ⟨t, b', e, _, _, er⟩ := mark_loop1 (f := impl_statesOfLoop_B1 ((m : Int), (c : Int), nx, es) (hd, rd)) id hp hr (fun s i b hs hi hb => by
      unfold impl_statesOfLoop_B1
      obtain ⟨a, e, ha⟩ := hr i hi
      have hlt := goP_lt hp hs e ha
      simp only [ltN hi, cond_true, guard_pos (idxN hi), Int.toNat_natCast, impl_go hp hs e ha, Option.bind_some, nextN hi (by omega), id, guard_pos (idxN (i := goP c nx s (rd.getD i 0)) (n := b.length) (by omega))]) (fun s b hb => by
      unfold impl_statesOfLoop_B1
      simp only [geN (Nat.le_refl _), cond_false]) hs hb
    rw [← e]; exact er
  have e2 := mark_loop2 (f := impl_statesOfLoop_B2 ((m : Int), (c : Int), nx, es) (hd, rd)) (n := m) id hp hr (fun s i b hs hi hb => by
    unfold impl_statesOfLoop_B2
    simp only [ltN hi, cond_true, id, e1 s b hs hb, Option.bind_some, nextN hi (by omega)]) (fun s b hb => by
    unfold impl_statesOfLoop_B2
    simp only [geN (Nat.le_refl _), cond_false]) (s := t) (b := List.replicate m false) ht (by simp)
  unfold impl_statesOfLoop statesP impl_Plain_stateOf
  rw [← ht2]
  have e2b := e2.2
  simp only [id] at e2b
  simp only [Int.natCast_zero] at e5
  simp only [e5, e4, e2b, Option.bind_some, Int.toNat_natCast]
  rw [guard_pos (by omega)]

end
end

end Go.Proofs


namespace Go.Proofs
open Go.Ide Go.IntWalk

theorem idxF_mem : ∀ (bs : List Bool) (i : Nat) (x : Int), x ∈ idxF bs i ↔ ∃ j, j < bs.length ∧ x = ((i + j : Nat) : Int) ∧ bs.getD j false = true
  | [], i, x => by simp [idxF]
  | b :: bs, i, x => by
    have ih := idxF_mem bs (i + 1) x
    rw [idxF_cons]
    constructor
    · intro h
      have hc : (b = true ∧ x = (i : Int)) ∨ x ∈ idxF bs (i + 1) := by
        cases b with
        | true => simp only [if_true] at h; rcases List.mem_cons.1 h with h | h; exact .inl ⟨rfl, h⟩; exact .inr h
        | false => simp only [Bool.false_eq_true, if_false] at h; exact .inr h
      rcases hc with ⟨h1, h2⟩ | h
      · exact ⟨0, by simp, by omega, by simpa using h1⟩
      · obtain ⟨j, h1, h2, h3⟩ := ih.1 h
        exact ⟨j + 1, by simpa using h1, by omega, by simpa using h3⟩
    · rintro ⟨j, h1, h2, h3⟩
      cases j with
      | zero =>
        have hb : b = true := by simpa using h3
        subst hb
        rw [if_pos rfl, h2]
        exact List.mem_cons_self
      | succ j =>
        have := ih.2 ⟨j, by simpa using h1, by omega, by simpa using h3⟩
        split
        · exact List.mem_cons_of_mem _ this
        · exact this

theorem getD_mem {xs : List Int} {i : Nat} (h : i < xs.length) : xs.getD i 0 ∈ xs := by
  rw [List.getD_eq_getElem?_getD, List.getElem?_eq_getElem h]
  exact List.getElem_mem h

/-- Does a state that comes end? -/
def readsB (b es : List Bool) : Bool := !allN (fun i => !(b.getD i false && es.getD i false)) b.length 0

section
variable {m c : Nat} {nx : List Int} {es : List Bool} {hd rd : List Int} (hp : Plain m c nx es) (hh : Letters c hd) (hr : Letters c rd) (lh : hd.length ≤ 1000) (lr : rd.length ≤ 1000)
include hp hh hr lh lr

theorem spec_reads : spec_l07Reads ((m : Int), (c : Int), nx, es) (hd, rd) = some (readsB (statesP m c nx hd rd) es) := by
  obtain ⟨s1, s2⟩ := spec_states hp hh hr lh lr
  have m2 := hp.m2
  have he := hp.ends
  generalize statesP m c nx hd rd = b at s1 s2
  have hlen := idxF_len b 0
  have := rounds_all (f := spec_l07Reads_B1 ((m : Int), (c : Int), nx, es) (keepS b)) (fun i => ((i : Nat) : Int)) (fun i => !es.getD ((keepS b).getD i 0).toNat false) (Sum.inl ()) (Sum.inr ()) (n := (keepS b).length) (fun i hi => by
    unfold spec_l07Reads_B1
    have hmem := getD_mem hi
    obtain ⟨j, h1, h2, h3⟩ := (idxF_mem b 0 _).1 hmem
    have hl : (keepS b).length ≤ 1000 := by unfold keepS; omega
    simp only [ltN hi, cond_true, guard_pos (idxN hi), Int.toNat_natCast, nextN hi (by omega), guard_pos (show (0 : Int) ≤ (keepS b).getD i 0 ∧ (keepS b).getD i 0 < lenI es from by simp only [lenI]; omega)]
    cases es.getD ((keepS b).getD i 0).toNat false <;> rfl) (by
    unfold spec_l07Reads_B1
    simp only [geN (Nat.le_refl _), cond_false]) (keepS b).length 0 (by omega)
  simp only [Int.natCast_zero] at this
  unfold spec_l07Reads
  simp only [s1, Option.bind_some, this]
  have e : allN (fun i => !es.getD ((keepS b).getD i 0).toNat false) (keepS b).length 0 = allN (fun i => !(b.getD i false && es.getD i false)) b.length 0 := by
    rw [Bool.eq_iff_iff, allN_iff, allN_iff]
    constructor
    · intro h j _ hj
      cases hb : b.getD j false with
      | false => rfl
      | true =>
        have hmem : ((j : Nat) : Int) ∈ keepS b := (idxF_mem b 0 _).2 ⟨j, by omega, by omega, hb⟩
        obtain ⟨i, hi, e⟩ := List.getElem_of_mem hmem
        have := h i (by omega) (by omega)
        have e2 : (keepS b).getD i 0 = ((j : Nat) : Int) := by
          rw [List.getD_eq_getElem?_getD, List.getElem?_eq_getElem hi]; exact e
        rw [e2, Int.toNat_natCast] at this
        simpa using this
    · intro h i _ hi
      have hmem := getD_mem (xs := keepS b) (i := i) (by omega)
      obtain ⟨j, h1, h2, h3⟩ := (idxF_mem b 0 _).1 hmem
      have := h j (by omega) (by omega)
      rw [h2, Nat.zero_add, Int.toNat_natCast]
      rw [h3] at this
      simpa using this
  rw [e]
  unfold readsB
  cases allN (fun i => !(b.getD i false && es.getD i false)) b.length 0 <;> rfl

theorem impl_reads : impl_readsLoop ((m : Int), (c : Int), nx, es) (hd, rd) = some (readsB (statesP m c nx hd rd) es) := by
  obtain ⟨_, s2⟩ := spec_states hp hh hr lh lr
  have s1 := impl_states hp hh hr lh lr
  have m2 := hp.m2
  have he := hp.ends
  generalize statesP m c nx hd rd = b at s1 s2
  have := rounds_all (f := impl_readsLoop_B1 ((m : Int), (c : Int), nx, es) b) (fun i => ((i : Nat) : Int)) (fun i => !(b.getD i false && es.getD i false)) (Sum.inl ()) (Sum.inr ()) (n := b.length) (fun i hi => by
    unfold impl_readsLoop_B1
    simp only [ltN hi, cond_true, guard_pos (idxN hi), Int.toNat_natCast, nextN hi (by omega), guard_pos (idxN (i := i) (n := es.length) (by omega))]
    cases b.getD i false <;> cases es.getD i false <;> rfl) (by
    unfold impl_readsLoop_B1
    simp only [geN (Nat.le_refl _), cond_false]) b.length 0 (by omega)
  simp only [Int.natCast_zero] at this
  unfold impl_readsLoop
  simp only [s1, Option.bind_some, this]
  unfold readsB
  cases allN (fun i => !(b.getD i false && es.getD i false)) b.length 0 <;> rfl
end

theorem plain_of' {m c : Nat} {nx : List Int} {es : List Bool} (h : okPlain (m : Int) (c : Int) nx es = true) : Plain m c nx es := by
  obtain ⟨m', c', e1, e2, h1, h2, h3, h4, h5, h6, h7⟩ := okPlain_spec h
  obtain rfl : m = m' := by omega
  obtain rfl : c = c' := by omega
  exact ⟨h1, h2, h3, h4, h5, h6, h7⟩

end Go.Proofs


/-
  Models of chances: when they are valid.
-/
namespace Go.Proofs
open Go.Ide Go.IntWalk

/-- A chance. -/
def share (x : Nat) : Bool := fge .f32 x 0 && fle .f32 x 1065353216

theorem bd_share {x : Nat} (h : share x = true) : bd x 127 := by
  unfold share at h
  rw [Bool.and_eq_true] at h
  exact share_bd h.1 h.2

/-- Nearly one. -/
def nearOne (s : Nat) : Bool := fle .f32 (fop .sub .f32 s 1065353216) 981668463 && fge .f32 (fop .sub .f32 s 1065353216) 3129152111

/-- The sum of the first i, added up from the first. -/
def sumF (xs : List Nat) : Nat → Nat
  | 0 => 0
  | i + 1 => fop .add .f32 (sumF xs i) (xs.getD i 0)

def okRow (xs : List Nat) : Bool := allN (fun i => share (xs.getD i 0)) xs.length 0 && nearOne (sumF xs xs.length)

theorem allN_snoc (p : Nat → Bool) : ∀ k i, allN p (k + 1) i = (allN p k i && p (i + k))
  | 0, i => by simp [allN]
  | k + 1, i => by
    rw [allN, allN_snoc p k (i + 1), allN, show i + 1 + k = i + (k + 1) by omega, Bool.and_assoc]

/-- Row i of rows of w numbers. -/
def rowF (xs : List Nat) (w i : Nat) : List Nat := (xs.drop (i * w)).take w

theorem rowF_len {xs : List Nat} {w i n : Nat} (h : xs.length = n * w) (hi : i < n) : (rowF xs w i).length = w := by
  have : (i + 1) * w ≤ n * w := Nat.mul_le_mul_right _ hi
  rw [Nat.succ_mul] at this
  unfold rowF
  simp; omega

theorem rowF_get {xs : List Nat} {w i n k : Nat} (h : xs.length = n * w) (hi : i < n) (hk : k < w) : (rowF xs w i).getD k 0 = xs.getD (i * w + k) 0 := by
  unfold rowF
  simp only [List.getD_eq_getElem?_getD]
  rw [List.getElem?_take_of_lt hk, List.getElem?_drop]

/-- A model is as it must be. -/
def okModel (n k : Int) (fs ss hs : List Nat) : Bool :=
  (decide (n ≥ 1) && decide (n ≤ 5)) && ((decide (k ≥ 1) && decide (k ≤ 4)) && ((lenI fs == n) && ((lenI ss == wmul .i64 n n) && ((lenI hs == wmul .i64 n k) && (okRow fs &&
    (allN (fun i => okRow (rowF ss n.toNat i)) n.toNat 0 && allN (fun i => okRow (rowF hs k.toNat i)) n.toNat 0))))))

theorem allN_and (p q : Nat → Bool) : ∀ k i, allN (fun i => p i && q i) k i = (allN p k i && allN q k i)
  | 0, _ => rfl
  | k + 1, i => by
    simp only [allN, allN_and p q k (i + 1)]
    cases p i <;> cases q i <;> cases allN p k (i + 1) <;> cases allN q k (i + 1) <;> rfl

theorem cutRow {xs : List Nat} {w n i : Nat} (hn : n ≤ 1000) (hw : w ≤ 1000) (hi : i < n) : cut xs (wmul .i64 (i : Int) (w : Int)) (wadd .i64 (wmul .i64 (i : Int) (w : Int)) (w : Int)) = rowF xs w i ∧
    wmul .i64 (i : Int) (w : Int) = ((i * w : Nat) : Int) ∧ wadd .i64 (wmul .i64 (i : Int) (w : Int)) (w : Int) = ((i * w + w : Nat) : Int) ∧ wmul .i64 (wadd .i64 (i : Int) 1) (w : Int) = ((i * w + w : Nat) : Int) := by
  have h1 : i * w ≤ 1000 * 1000 := Nat.mul_le_mul (by omega) hw
  have h2 : (i + 1) * w ≤ 1001 * 1000 := Nat.mul_le_mul (by omega) hw
  rw [Nat.succ_mul] at h2
  have e1 : wmul .i64 (i : Int) (w : Int) = ((i * w : Nat) : Int) := by rw [wmulI (by rw [← Int.natCast_mul]; omega), ← Int.natCast_mul]
  have e2 : wadd .i64 ((i * w : Nat) : Int) (w : Int) = ((i * w + w : Nat) : Int) := by rw [waddI (by omega)]; omega
  have e3 : wmul .i64 (wadd .i64 (i : Int) 1) (w : Int) = ((i * w + w : Nat) : Int) := by
    rw [waddI (by omega), show (i : Int) + 1 = ((i + 1 : Nat) : Int) by omega, wmulI (by rw [← Int.natCast_mul, Nat.succ_mul]; omega), ← Int.natCast_mul, Nat.succ_mul]
  refine ⟨?_, e1, by rw [e1, e2], e3⟩
  rw [e1, e2]
  unfold cut rowF
  simp only [Int.toNat_natCast]
  rw [show i * w + w - i * w = w by omega]

theorem row_in {xs : List Nat} {w n i : Nat} (h : xs.length = n * w) (hi : i < n) : i * w + w ≤ xs.length := by
  have : (i + 1) * w ≤ n * w := Nat.mul_le_mul_right _ hi
  rw [Nat.succ_mul] at this
  omega

theorem rowF_all {xs : List Nat} {n : Nat} (h : xs.length = n) : rowF xs n 0 = xs := by
  unfold rowF
  rw [Nat.zero_mul, List.drop_zero, ← h, List.take_length]

end Go.Proofs


/-
  Valid models and their words; HiddenChance.
-/
namespace Go.Proofs
open Go.Ide Go.IntWalk

structure Model (a b : Nat) (fs ss hs : List Nat) : Prop where
  n1 : 1 ≤ a
  n2 : a ≤ 5
  k1 : 1 ≤ b
  k2 : b ≤ 4
  lf : fs.length = a
  ls : ss.length = a * a
  lh : hs.length = a * b
  sf : ∀ i, i < a → bd (fs.getD i 0) 127
  st : ∀ i j, i < a → j < a → bd (ss.getD (i * a + j) 0) 127
  sh : ∀ i j, i < a → j < b → bd (hs.getD (i * b + j) 0) 127

theorem okRow_bd {xs : List Nat} (h : okRow xs = true) {i : Nat} (hi : i < xs.length) : bd (xs.getD i 0) 127 := by
  unfold okRow at h
  rw [Bool.and_eq_true] at h
  exact bd_share (allN_iff.1 h.1 i (by omega) (by omega))

theorem model_of {n k : Int} {fs ss hs : List Nat} (h : okModel n k fs ss hs = true) : ∃ a b : Nat, n = (a : Int) ∧ k = (b : Int) ∧ Model a b fs ss hs := by
  unfold okModel at h
  simp only [Bool.and_eq_true, decide_eq_true_eq, beq_iff_eq] at h
  obtain ⟨⟨h1, h2⟩, ⟨h3, h4⟩, h5, h6, h7, h8, h9, h10⟩ := h
  obtain ⟨a, rfl⟩ : ∃ a : Nat, n = (a : Int) := ⟨n.toNat, by omega⟩
  obtain ⟨b, rfl⟩ : ∃ b : Nat, k = (b : Int) := ⟨k.toNat, by omega⟩
  have m1 : a * a ≤ 5 * 5 := Nat.mul_le_mul (by omega) (by omega)
  have m2 : a * b ≤ 5 * 4 := Nat.mul_le_mul (by omega) (by omega)
  rw [wmulI (by rw [← Int.natCast_mul]; omega), ← Int.natCast_mul] at h6
  rw [wmulI (by rw [← Int.natCast_mul]; omega), ← Int.natCast_mul] at h7
  simp only [lenI] at h5 h6 h7
  have l1 : fs.length = a := by omega
  have l2 : ss.length = a * a := by omega
  have l3 : hs.length = a * b := by omega
  simp only [Int.toNat_natCast] at h9 h10
  refine ⟨a, b, rfl, rfl, by omega, by omega, by omega, by omega, l1, l2, l3, fun i hi => okRow_bd h8 (by omega), fun i j hi hj => ?_, fun i j hi hj => ?_⟩
  · rw [← rowF_get l2 hi hj]
    exact okRow_bd (allN_iff.1 h9 i (by omega) (by omega)) (by rw [rowF_len l2 hi]; exact hj)
  · rw [← rowF_get l3 hi hj]
    exact okRow_bd (allN_iff.1 h10 i (by omega) (by omega)) (by rw [rowF_len l3 hi]; exact hj)

/-- A word of a model. -/
def okMWord (n k : Int) (fs ss hs : List Nat) (w : List Int) : Bool := okModel n k fs ss hs && (allIn w 0 (wsub .i64 k 1) && decide (lenI w ≤ 12))

theorem mword_of {n k : Int} {fs ss hs : List Nat} {w : List Int} (h : okMWord n k fs ss hs w = true) : ∃ a b : Nat, n = (a : Int) ∧ k = (b : Int) ∧ Model a b fs ss hs ∧ w.length ≤ 12 ∧ Letters b w := by
  unfold okMWord at h
  simp only [Bool.and_eq_true, decide_eq_true_eq, lenI] at h
  obtain ⟨h1, h2, h3⟩ := h
  obtain ⟨a, b, rfl, rfl, m⟩ := model_of h1
  have := m.k1
  have := m.k2
  rw [wsubI (by omega)] at h2
  refine ⟨a, b, rfl, rfl, m, by omega, fun i hi => ?_⟩
  have := allIn_iff.1 h2 i hi
  exact ⟨(w.getD i 0).toNat, by omega, by omega⟩

/-- Hidden states of a word. -/
def okStates (n : Int) (w s : List Int) : Bool := allIn s 0 (wsub .i64 n 1) && (lenI s == wadd .i64 (lenI w) 1)

theorem states_of {a : Nat} {w s : List Int} (ha : 1 ≤ a) (ha2 : a ≤ 5) (hw : w.length ≤ 12) (h : okStates (a : Int) w s = true) : s.length = w.length + 1 ∧ Letters a s := by
  unfold okStates at h
  simp only [Bool.and_eq_true, beq_iff_eq, lenI] at h
  rw [wsubI (by omega), waddI (by omega)] at h
  refine ⟨by omega, fun i hi => ?_⟩
  have := allIn_iff.1 h.1 i hi
  exact ⟨(s.getD i 0).toNat, by omega, by omega⟩

theorem cellM {a b i j : Nat} (ha : a ≤ 5) (hb : b ≤ 5) (hi : i < a) (hj : j < b) : wadd .i64 (wmul .i64 (i : Int) (b : Int)) (j : Int) = ((i * b + j : Nat) : Int) ∧ i * b + j < a * b := by
  refine ⟨cellN (by omega) (by omega) (by omega), ?_⟩
  have : (i + 1) * b ≤ a * b := Nat.mul_le_mul_right _ hi
  rw [Nat.succ_mul] at this
  omega

def hidStep (a b : Nat) (ss hs : List Nat) (w s : List Int) (i : Nat) (x : Nat) : Nat :=
  fop .mul .f32 (fop .mul .f32 x (hs.getD ((s.getD i 0).toNat * b + (w.getD i 0).toNat) 0)) (ss.getD ((s.getD i 0).toNat * a + (s.getD (i + 1) 0).toNat) 0)

theorem hid_bd {a b : Nat} {fs ss hs : List Nat} (m : Model a b fs ss hs) {w s : List Int} (hw : Letters b w) (hs' : Letters a s) (hl : s.length = w.length + 1) {i x : Nat} (hi : i < w.length) (hx : bd x 127) : bd (hidStep a b ss hs w s i x) 127 := by
  obtain ⟨c, hc, hc2⟩ := hw i hi
  obtain ⟨p, hp, hp2⟩ := hs' i (by omega)
  obtain ⟨q, hq, hq2⟩ := hs' (i + 1) (by omega)
  unfold hidStep
  rw [hc, hp, hq]
  simp only [Int.toNat_natCast]
  have h1 : bd (fop .mul .f32 x (hs.getD (p * b + c) 0)) 127 := bd_mul hx (m.sh p c hp2 hc2) (by omega) (by omega) (by omega) (by omega) (by omega) (by omega)
  exact bd_mul h1 (m.st p q hp2 hq2) (by omega) (by omega) (by omega) (by omega) (by omega) (by omega)

end Go.Proofs


/-
  Chances forward; ChanceOf.
-/
namespace Go.Proofs
open Go.Ide Go.IntWalk

theorem bd_zero (K : Nat) : bd 0 K := by unfold bd; omega

theorem sumF_bd {xs : List Nat} {K : Nat} (hK : 2 ≤ K) (h : ∀ i, i < xs.length → bd (xs.getD i 0) K) : ∀ i, i ≤ xs.length → K + i ≤ 254 → bd (sumF xs i) (K + i)
  | 0, _, _ => bd_zero _
  | i + 1, hi, hk => by
    have h1 : bd (xs.getD i 0) (K + i) := (h i (by omega)).mono (by omega)
    have h2 : bd (sumF xs i) (K + i) := sumF_bd hK h i (by omega) (by omega)
    have := bd_add h2 h1 (by omega) (by omega)
    exact this

/-- One cell of the next row, added up over the first p states. -/
def cellF (a b : Nat) (ss hs row : List Nat) (c j : Nat) : Nat → Nat
  | 0 => 0
  | p + 1 => fop .add .f32 (cellF a b ss hs row c j p) (fop .mul .f32 (fop .mul .f32 (row.getD p 0) (hs.getD (p * b + c) 0)) (ss.getD (p * a + j) 0))

def nextF (a b : Nat) (ss hs row : List Nat) (c : Nat) : List Nat := (List.range a).map fun j => cellF a b ss hs row c j a

theorem nextF_len (a b : Nat) (ss hs row : List Nat) (c : Nat) : (nextF a b ss hs row c).length = a := by simp [nextF]

theorem nextF_get {a b : Nat} {ss hs row : List Nat} {c j : Nat} (hj : j < a) : (nextF a b ss hs row c).getD j 0 = cellF a b ss hs row c j a := by
  unfold nextF
  simp [List.getD_eq_getElem?_getD, hj]

theorem cellF_bd {a b : Nat} {fs ss hs : List Nat} (m : Model a b fs ss hs) {row : List Nat} {c j K : Nat} (hc : c < b) (hj : j < a) (hK : 2 ≤ K) (h : ∀ i, i < a → bd (row.getD i 0) K) : ∀ p, p ≤ a → K + p ≤ 254 → bd (cellF a b ss hs row c j p) (K + p)
  | 0, _, _ => bd_zero _
  | p + 1, hp, hk => by
    have h1 : bd (fop .mul .f32 (row.getD p 0) (hs.getD (p * b + c) 0)) K := bd_mul (h p (by omega)) (m.sh p c (by omega) hc) hK (by omega) (by omega) (by omega) hK (by omega)
    have h2 : bd (fop .mul .f32 (fop .mul .f32 (row.getD p 0) (hs.getD (p * b + c) 0)) (ss.getD (p * a + j) 0)) K := bd_mul h1 (m.st p j (by omega) hj) hK (by omega) (by omega) (by omega) hK (by omega)
    have h3 : bd (fop .mul .f32 (fop .mul .f32 (row.getD p 0) (hs.getD (p * b + c) 0)) (ss.getD (p * a + j) 0)) (K + p) := h2.mono (by omega)
    have h4 : bd (cellF a b ss hs row c j p) (K + p) := cellF_bd m hc hj hK h p (by omega) (by omega)
    have := bd_add h4 h3 (by omega) (by omega)
    exact this

theorem nextF_bd {a b : Nat} {fs ss hs : List Nat} (m : Model a b fs ss hs) {row : List Nat} {c K : Nat} (hc : c < b) (hK : 2 ≤ K) (h : ∀ i, i < a → bd (row.getD i 0) K) (hk : K + 5 ≤ 254) : ∀ j, j < a → bd ((nextF a b ss hs row c).getD j 0) (K + 5) := by
  intro j hj
  have := m.n2
  rw [nextF_get hj]
  exact (cellF_bd m hc hj hK h a (Nat.le_refl _) (by omega)).mono (by omega)

theorem loop_to0 {f : Int × List Nat → Option ((Int × List Nat) ⊕ List Nat)} (xs : List Nat)
    (hstep : ∀ (i : Nat) (out : List Nat), i < xs.length → out.length = xs.length → out.getD i 0 = 0 → f ((i : Int), out) = some (.inl (((i + 1 : Nat) : Int), out.set i (xs.getD i 0))))
    (hend : ∀ out : List Nat, out.length = xs.length → f (((xs.length : Nat) : Int), out) = some (.inr out)) : rounds f ((0 : Int), List.replicate xs.length 0) = some xs := by
  have := rounds_forS (f := f) (fun i out => (((i : Nat) : Int), out)) (fun i out => out.set i (xs.getD i 0)) id (n := xs.length) (fun i out => out = xs.take i ++ List.replicate (xs.length - i) 0)
    (fun i out hi h => ⟨hstep i out hi (by rw [h]; simp; omega) (by
      rw [h, List.getD_eq_getElem?_getD, List.getElem?_append_right (by simp; omega)]
      simp only [List.length_take, List.getElem?_replicate]
      split <;> rfl), by
      rw [h, take_snoc hi 0, show xs.length - i = (xs.length - (i + 1)) + 1 from by omega, List.replicate_succ, set_at (by simp; omega)]
      simp⟩)
    (fun out h => hend out (by rw [h]; simp)) xs.length 0 (List.replicate xs.length 0) (by omega) (by simp)
  simp only [Int.natCast_zero] at this
  rw [this.1, this.2]
  simp

/-- The rows of a word. -/
def rowAt (a b : Nat) (fs ss hs : List Nat) (w : List Int) : Nat → List Nat
  | 0 => fs
  | i + 1 => nextF a b ss hs (rowAt a b fs ss hs w i) (w.getD i 0).toNat

theorem rowAt_len {a b : Nat} {fs ss hs : List Nat} (m : Model a b fs ss hs) (w : List Int) : ∀ i, (rowAt a b fs ss hs w i).length = a
  | 0 => m.lf
  | i + 1 => nextF_len ..

theorem rowAt_bd {a b : Nat} {fs ss hs : List Nat} (m : Model a b fs ss hs) {w : List Int} (hw : Letters b w) (hl : w.length ≤ 12) : ∀ i, i ≤ w.length → ∀ j, j < a → bd ((rowAt a b fs ss hs w i).getD j 0) (127 + 5 * i)
  | 0, _ => m.sf
  | i + 1, hi => by
    obtain ⟨c, hc, hc2⟩ := hw i (by omega)
    rw [rowAt, hc, Int.toNat_natCast, show 127 + 5 * (i + 1) = 127 + 5 * i + 5 by omega]
    exact nextF_bd m hc2 (by omega) (rowAt_bd m hw hl i (by omega)) (by omega)

def rowsF (a b : Nat) (fs ss hs : List Nat) (w : List Int) : List (List Nat) := (List.range (w.length + 1)).map (rowAt a b fs ss hs w)

theorem rows_at (h : Nat → List Nat) (i : Nat) : ((List.range (i + 1)).map h).getD i [] = h i := by
  simp [List.getD_eq_getElem?_getD]

end Go.Proofs


/-
  Two models that meet; MeetChance.
-/
namespace Go.Proofs
open Go.Ide Go.IntWalk

/-- The sum of the first i of g, added up from the first. -/
def sumN (g : Nat → Nat) : Nat → Nat
  | 0 => 0
  | i + 1 => fop .add .f32 (sumN g i) (g i)

set_option exponentiation.threshold 300 in
theorem sumN_bdv {g : Nat → Nat} {n k : Nat} (h : ∀ i, i < n → bdv (g i) (2 ^ k)) (hn : n ≤ 32) (hk : k + 5 ≤ 276) : ∀ i, i ≤ n → bdv (sumN g i) (i * 2 ^ k)
  | 0, _ => ⟨_, _, 0, read_zero, by omega⟩
  | i + 1, hi => by
    refine bdv_add (sumN_bdv h hn hk i (by omega)) (h i (by omega)) (by omega) ?_
    refine Nat.le_trans (Nat.mul_le_mul_right _ (show i + 1 ≤ 2 ^ 5 by omega)) ?_
    rw [← Nat.pow_add]
    exact Nat.pow_le_pow_right (by omega) (by omega)

theorem sumN_bd {g : Nat → Nat} {n K e : Nat} (h : ∀ i, i < n → bd (g i) K) (hK : 2 ≤ K) (he : n ≤ 2 ^ e) (hn : n ≤ 32) (hk : K + 5 ≤ 254) : bd (sumN g n) (K + e) := by
  apply bd_of_bdv _ (by omega)
  refine (sumN_bdv (k := K + 22) (fun i hi => bdv_of_bd (h i hi) hK (by omega)) hn (by omega) n (Nat.le_refl _)).mono ?_
  refine Nat.le_trans (Nat.mul_le_mul_right _ he) ?_
  rw [← Nat.pow_add]
  exact Nat.pow_le_pow_right (by omega) (by omega)

def okTwo (n k : Int) (fs ss hs : List Nat) (n' k' : Int) (fs' ss' hs' : List Nat) : Bool := okModel n k fs ss hs && (okModel n' k' fs' ss' hs' && (k == k'))

theorem two_of {n k : Int} {fs ss hs : List Nat} {n' k' : Int} {fs' ss' hs' : List Nat} (h : okTwo n k fs ss hs n' k' fs' ss' hs' = true) : ∃ a a' b : Nat, n = (a : Int) ∧ n' = (a' : Int) ∧ k = (b : Int) ∧ k' = (b : Int) ∧ Model a b fs ss hs ∧ Model a' b fs' ss' hs' := by
  unfold okTwo at h
  simp only [Bool.and_eq_true, beq_iff_eq] at h
  obtain ⟨h1, h2, h3⟩ := h
  obtain ⟨a, b, rfl, rfl, m⟩ := model_of h1
  obtain ⟨a', b', rfl, e, m'⟩ := model_of h2
  rw [← h3] at e
  have : b' = b := by omega
  subst this
  exact ⟨a, a', b', rfl, rfl, rfl, by omega, m, m'⟩

/-- A table's rows one after another. -/
def table (a' : Nat) (g : Nat → Nat → Nat) (n : Nat) : List Nat := (List.range n).map fun i => g (i / a') (i % a')

theorem table_len (a' : Nat) (g : Nat → Nat → Nat) (n : Nat) : (table a' g n).length = n := by simp [table]

theorem dm {a' p q : Nat} (hq : q < a') : (p * a' + q) / a' = p ∧ (p * a' + q) % a' = q := by
  constructor
  · rw [Nat.mul_comm, Nat.mul_add_div (by omega), Nat.div_eq_of_lt hq, Nat.add_zero]
  · rw [Nat.mul_comm, Nat.mul_add_mod, Nat.mod_eq_of_lt hq]

theorem table_snoc {a' p q : Nat} (g : Nat → Nat → Nat) (hq : q < a') : table a' g (p * a' + q) ++ [g p q] = table a' g (p * a' + (q + 1)) := by
  unfold table
  rw [show p * a' + (q + 1) = (p * a' + q) + 1 by omega, List.range_succ, List.map_append]
  simp only [List.map_cons, List.map_nil, (dm hq).1, (dm hq).2]

theorem table_get {a' p q n : Nat} (g : Nat → Nat → Nat) (hq : q < a') (hn : p * a' + q < n) : (table a' g n).getD (p * a' + q) 0 = g p q := by
  unfold table
  simp only [List.getD_eq_getElem?_getD, List.getElem?_map, List.getElem?_range hn, Option.map_some, Option.getD_some, (dm hq).1, (dm hq).2]

theorem rowEnd {a' p : Nat} : p * a' + a' = (p + 1) * a' + 0 := by rw [Nat.succ_mul]; omega

section
variable {a a' b : Nat} {fs ss hs fs' ss' hs' : List Nat}

def likeT (b : Nat) (hs hs' : List Nat) (p q c : Nat) : Nat := fop .mul .f32 (hs.getD (p * b + c) 0) (hs'.getD (q * b + c) 0)
def likeF (b : Nat) (hs hs' : List Nat) (p q : Nat) : Nat := sumN (likeT b hs hs' p q) b
def firstF (fs fs' : List Nat) (p q : Nat) : Nat := fop .mul .f32 (fs.getD p 0) (fs'.getD q 0)

theorem like_bd (m : Model a b fs ss hs) (m' : Model a' b fs' ss' hs') {p q : Nat} (hp : p < a) (hq : q < a') : bd (likeF b hs hs' p q) 129 := by
  have := m.k2
  exact sumN_bd (K := 127) (e := 2) (fun c hc => bd_mul (m.sh p c hp hc) (m'.sh q c hq hc) (by omega) (by omega) (by omega) (by omega) (by omega) (by omega)) (by omega) (by omega) (by omega) (by omega)

/-- One product of the next cell (s, t). -/
def meetT (a a' b : Nat) (ss hs ss' hs' cells : List Nat) (s t i : Nat) : Nat :=
  fop .mul .f32 (fop .mul .f32 (fop .mul .f32 (cells.getD i 0) (likeF b hs hs' (i / a') (i % a'))) (ss.getD (i / a' * a + s) 0)) (ss'.getD (i % a' * a' + t) 0)
def meetC (a a' b : Nat) (ss hs ss' hs' cells : List Nat) (s t : Nat) : Nat := sumN (meetT a a' b ss hs ss' hs' cells s t) (a * a')
def meetF (a a' b : Nat) (ss hs ss' hs' cells : List Nat) : List Nat := table a' (meetC a a' b ss hs ss' hs' cells) (a * a')

theorem quo_lt {i : Nat} (h : i < a * a') : i / a' < a ∧ i % a' < a' := by
  have : 0 < a' := by
    rcases Nat.eq_zero_or_pos a' with rfl | h'
    · omega
    · exact h'
  exact ⟨by rw [Nat.div_lt_iff_lt_mul this]; exact h, Nat.mod_lt _ this⟩

theorem prod25 (h : a ≤ 5) (h' : a' ≤ 5) : a * a' ≤ 25 := Nat.mul_le_mul h h'

theorem meet_bd (m : Model a b fs ss hs) (m' : Model a' b fs' ss' hs') {cells : List Nat} {K : Nat} (hK : 2 ≤ K) (hk : K + 7 ≤ 254) (h : ∀ i, i < a * a' → bd (cells.getD i 0) K) :
    ∀ i, i < a * a' → bd ((meetF a a' b ss hs ss' hs' cells).getD i 0) (K + 7) := by
  intro i hi
  have h25 := prod25 m.n2 m'.n2
  obtain ⟨h1, h2⟩ := quo_lt hi
  have e : (meetF a a' b ss hs ss' hs' cells).getD i 0 = meetC a a' b ss hs ss' hs' cells (i / a') (i % a') := by
    unfold meetF table
    simp only [List.getD_eq_getElem?_getD, List.getElem?_map, List.getElem?_range hi, Option.map_some, Option.getD_some]
  rw [e]
  refine sumN_bd (K := K + 2) (e := 5) (fun j hj => ?_) (by omega) (by omega) (by omega) (by omega)
  obtain ⟨g1, g2⟩ := quo_lt hj
  have t1 : bd (fop .mul .f32 (cells.getD j 0) (likeF b hs hs' (j / a') (j % a'))) (K + 2) := bd_mul (h j hj) (like_bd m m' g1 g2) hK (by omega) (by omega) (by omega) (by omega) (by omega)
  have t2 : bd (fop .mul .f32 (fop .mul .f32 (cells.getD j 0) (likeF b hs hs' (j / a') (j % a'))) (ss.getD (j / a' * a + i / a') 0)) (K + 2) := bd_mul t1 (m.st _ _ g1 h1) (by omega) (by omega) (by omega) (by omega) (by omega) (by omega)
  exact bd_mul t2 (m'.st _ _ g2 h2) (by omega) (by omega) (by omega) (by omega) (by omega) (by omega)

end

end Go.Proofs


/-
  Lists of finite numbers; lists one after another; ForwardOf, NextLetters.
-/
namespace Go.Proofs
open Go.Ide Go.IntWalk

/-- A loop that looks for a bad one, and tells its place. -/
theorem rounds_find {τ ρ : Type} {f : τ → Option (τ ⊕ ρ)} (mk : Nat → τ) (p : Nat → Bool) (a : ρ) (b : Nat → ρ) {n : Nat}
    (hstep : ∀ i, i < n → f (mk i) = some (bif p i then .inl (mk (i + 1)) else .inr (b i))) (hend : f (mk n) = some (.inr a)) : ∀ (k i : Nat), i + k = n → ∃ j, rounds f (mk i) = some (bif allN p k i then a else b j)
  | 0, i, hi => by
    have : i = n := by omega
    subst this
    rw [rounds_eq, hend]
    exact ⟨0, rfl⟩
  | k + 1, i, hi => by
    rw [rounds_eq, hstep i (by omega)]
    simp only [allN]
    cases p i with
    | true => simp only [cond_true, Bool.true_and]; exact rounds_find mk p a b hstep hend k (i + 1) (by omega)
    | false => exact ⟨i, rfl⟩

/-- A finite number. -/
def fin (x : Nat) : Bool := feq .f32 (fop .sub .f32 x x) 0

def fins (xs : List Nat) : Bool := allN (fun i => fin (xs.getD i 0)) xs.length 0

theorem fin_bd {x K : Nat} (h : bd x K) (h2 : 2 ≤ K) (h3 : K ≤ 254) : fin x = true := by
  unfold fin
  rw [sub_self32 h h2 h3]
  rfl

/-- Lists one after another. -/
def catN (xs : List (List Nat)) : Nat → List Nat
  | 0 => []
  | i + 1 => catN xs i ++ xs.getD i []

theorem catN_len {xs : List (List Nat)} {c : Nat} (h : ∀ i, i < xs.length → (xs.getD i []).length ≤ c) : ∀ i, i ≤ xs.length → (catN xs i).length ≤ i * c
  | 0, _ => by simp [catN]
  | i + 1, hi => by
    have h1 := catN_len h i (by omega)
    have h2 := h i (by omega)
    rw [catN, List.length_append, Nat.succ_mul]
    omega

theorem catN_mono {xs : List (List Nat)} : ∀ i, (catN xs i).length ≤ (catN xs (i + 1)).length := fun i => by
  rw [catN, List.length_append]; omega

theorem rowsF_len {a b : Nat} {fs ss hs : List Nat} {w : List Int} : (rowsF a b fs ss hs w).length = w.length + 1 := by simp [rowsF]
theorem rowsF_get {a b : Nat} {fs ss hs : List Nat} {w : List Int} {i : Nat} (h : i < w.length + 1) : (rowsF a b fs ss hs w).getD i [] = rowAt a b fs ss hs w i := by
  unfold rowsF
  simp [List.getD_eq_getElem?_getD, h]

/-- Rows of finite numbers one after another are finite. -/
theorem allN_cat (p : Nat → Bool) (xs : List (List Nat)) (h : ∀ i, i < xs.length → ∀ j, j < (xs.getD i []).length → p ((xs.getD i []).getD j 0) = true) : ∀ i, i ≤ xs.length → ∀ j, j < (catN xs i).length → p ((catN xs i).getD j 0) = true
  | 0, _, j, hj => by simp [catN] at hj
  | i + 1, hi, j, hj => by
    rw [catN] at hj ⊢
    rw [List.length_append] at hj
    simp only [List.getD_eq_getElem?_getD]
    by_cases hlt : j < (catN xs i).length
    · rw [List.getElem?_append_left hlt, ← List.getD_eq_getElem?_getD]
      exact allN_cat p xs h i (by omega) j hlt
    · rw [List.getElem?_append_right (by omega), ← List.getD_eq_getElem?_getD]
      exact h i (by omega) _ (by omega)

/-- A letter's share of a row, added up over the first p states. -/
def letF (b : Nat) (hs row : List Nat) (c : Nat) : Nat → Nat
  | 0 => 0
  | p + 1 => fop .add .f32 (letF b hs row c p) (fop .mul .f32 (row.getD p 0) (hs.getD (p * b + c) 0))

end Go.Proofs


/-
  All words of a length; ApartModels.
-/
namespace Go.Proofs
open Go.Ide Go.IntWalk

/-- The words of which those of ws are the beginnings, one letter longer; the first i of ws. -/
def extN (b : Nat) (ws : List (List Int)) : Nat → List (List Int)
  | 0 => []
  | i + 1 => extN b ws i ++ (List.range b).map fun (l : Nat) => ws.getD i [] ++ [(l : Int)]

/-- All words of a length. -/
def allW (b : Nat) : Nat → List (List Int)
  | 0 => [[]]
  | n + 1 => extN b (allW b n) (allW b n).length

theorem extN_len (b : Nat) (ws : List (List Int)) : ∀ i, (extN b ws i).length = i * b
  | 0 => by simp [extN]
  | i + 1 => by rw [extN, List.length_append, extN_len b ws i, Nat.succ_mul]; simp

theorem extN_mem {b : Nat} {ws : List (List Int)} {w : List Int} : ∀ {i : Nat}, i ≤ ws.length → w ∈ extN b ws i → ∃ v ∈ ws, ∃ l : Nat, l < b ∧ w = v ++ [(l : Int)]
  | 0, _, h => by simp [extN] at h
  | i + 1, hi, h => by
    rw [extN] at h
    rcases List.mem_append.1 h with h | h
    · exact extN_mem (by omega) h
    · obtain ⟨l, hl, rfl⟩ := List.mem_map.1 h
      refine ⟨ws.getD i [], ?_, l, List.mem_range.1 hl, rfl⟩
      rw [List.getD_eq_getElem?_getD, List.getElem?_eq_getElem (by omega)]
      exact List.getElem_mem _

theorem allW_len (b : Nat) : ∀ n, (allW b n).length = b ^ n
  | 0 => rfl
  | n + 1 => by rw [allW, extN_len, allW_len b n, Nat.pow_succ]

theorem allW_le {b n : Nat} (hb : b ≤ 4) (hn : n ≤ 12) : (allW b n).length ≤ 16777216 := by
  rw [allW_len]
  calc b ^ n ≤ 4 ^ n := Nat.pow_le_pow_left hb n
    _ ≤ 4 ^ 12 := Nat.pow_le_pow_right (by omega) hn
    _ = 16777216 := by decide

theorem getD_snoc {v : List Int} {x : Int} {i : Nat} : (v ++ [x]).getD i 0 = if i < v.length then v.getD i 0 else if i = v.length then x else 0 := by
  simp only [List.getD_eq_getElem?_getD]
  by_cases h : i < v.length
  · rw [if_pos h, List.getElem?_append_left h]
  · rw [if_neg h, List.getElem?_append_right (by omega)]
    by_cases e : i = v.length
    · rw [if_pos e]; simp [e]
    · rw [if_neg e]
      rw [List.getElem?_eq_none (by simp; omega)]
      rfl

theorem allW_mem {b : Nat} : ∀ {n : Nat} {w : List Int}, w ∈ allW b n → w.length = n ∧ Letters b w
  | 0, w, h => by
    have : w = [] := by simpa [allW] using h
    subst this
    exact ⟨rfl, fun i hi => by simp at hi⟩
  | n + 1, w, h => by
    obtain ⟨v, hv, l, hl, rfl⟩ := extN_mem (Nat.le_refl _) h
    obtain ⟨h1, h2⟩ := allW_mem hv
    refine ⟨by simp [h1], fun i hi => ?_⟩
    rw [getD_snoc]
    by_cases e : i < v.length
    · rw [if_pos e]; exact h2 i e
    · rw [if_neg e, if_pos (by simp at hi; omega)]; exact ⟨l, rfl, hl⟩

theorem allW_get {b n i : Nat} (h : i < (allW b n).length) : ((allW b n).getD i []).length = n ∧ Letters b ((allW b n).getD i []) := by
  refine allW_mem ?_
  rw [List.getD_eq_getElem?_getD, List.getElem?_eq_getElem h]
  exact List.getElem_mem _

theorem implAll {b : Nat} (hb : b ≤ 4) (n : Nat) (hn : n ≤ 12) : impl_wordsOf (b : Int) (n : Int) = some (allW b n) := by
  have := rounds_forS (f := impl_wordsOf_B3 (b : Int) (n : Int)) (fun i ws => (((i : Nat) : Int), ws)) (fun i ws => extN b ws ws.length) id (n := n) (fun i ws => ws = allW b i)
    (fun i ws hi hw => ⟨by
      have hlw : ws.length ≤ 16777216 := by rw [hw]; exact allW_le hb (by omega)
      have hle : ws.length * b ≤ 16777216 * 4 := Nat.mul_le_mul hlw hb
      have := rounds_forS (f := impl_wordsOf_B2 (b : Int) (((i : Nat) : Int), ws)) (fun j out => (((j : Nat) : Int), out)) (fun j out => out ++ (List.range b).map fun (l : Nat) => ws.getD j [] ++ [(l : Int)]) id (n := ws.length) (fun j out => out = extN b ws j)
        (fun j out hj ho => ⟨by
          have hw2 : (ws.getD j []).length ≤ 12 := by
            rw [hw] at hj ⊢
            rw [(allW_get hj).1]; omega
          have hol : out.length + b ≤ 16777216 * 4 := by
            rw [ho, extN_len]
            have : (j + 1) * b ≤ ws.length * b := Nat.mul_le_mul_right _ hj
            rw [Nat.succ_mul] at this
            omega
          have := loop_app (f := impl_wordsOf_B1 (b : Int) (((i : Nat) : Int), ws) (((j : Nat) : Int), out)) (fun (l : Nat) => ws.getD j [] ++ [(l : Int)]) b out
            (fun l out' hl ho' => by
              have hcl : slices_Clone (ws.getD j []) = some (ws.getD j []) := by
                unfold slices_Clone
                rw [guard_pos (by simp only [appMax]; omega)]
              unfold impl_wordsOf_B1
              simp only [ltN hl, cond_true, Int.toNat_natCast, hcl, Option.bind_some, nextN hl (show b ≤ 4294967296 by omega)]
              rw [guard_pos (by simp only [List.length_singleton, appMax]; omega), guard_pos (by simp only [List.length_singleton, appMax]; omega)])
            (fun out' => by
              unfold impl_wordsOf_B1
              simp only [geN (Nat.le_refl _), cond_false])
          unfold impl_wordsOf_B2
          simp only [ltN hj, cond_true, guard_pos (idxN hj), this, Option.bind_some, nextN hj (show ws.length ≤ 4294967296 by omega)], by rw [ho]; rfl⟩)
        (fun out _ => by
          unfold impl_wordsOf_B2
          simp only [geN (Nat.le_refl _), cond_false]; rfl) ws.length 0 [] (by omega) rfl
      simp only [Int.natCast_zero] at this
      unfold impl_wordsOf_B3
      simp only [ltN hi, cond_true, this.1, id, Option.bind_some, nextN hi (show n ≤ 4294967296 by omega)]
      rw [this.2], by rw [hw]; rfl⟩)
    (fun ws _ => by
      unfold impl_wordsOf_B3
      simp only [geN (Nat.le_refl _), cond_false]; rfl) n 0 [[]] (by omega) rfl
  simp only [Int.natCast_zero] at this
  unfold impl_wordsOf
  rw [this.1]
  simp only [id, Option.bind_some, this.2]

/-- A word's chance. -/
def chF (a b : Nat) (fs ss hs : List Nat) (w : List Int) : Nat := sumF (rowAt a b fs ss hs w w.length) a

theorem chF_bd {a b : Nat} {fs ss hs : List Nat} (m : Model a b fs ss hs) {w : List Int} (hw : Letters b w) (hl : w.length ≤ 12) : bd (chF a b fs ss hs w) (132 + 5 * w.length) := by
  have hn2 := m.n2
  have hlen := rowAt_len m w w.length
  have := sumF_bd (xs := rowAt a b fs ss hs w w.length) (K := 127 + 5 * w.length) (by omega) (fun i hi => rowAt_bd m hw hl _ (Nat.le_refl _) i (by omega)) a (by omega) (by omega)
  exact this.mono (by omega)

set_option exponentiation.threshold 300 in
theorem sumN_bdv8 {g : Nat → Nat} {n k : Nat} (h : ∀ i, i < n → bdv (g i) (2 ^ k)) (hn : n ≤ 256) (hk : k + 8 ≤ 276) : ∀ i, i ≤ n → bdv (sumN g i) (i * 2 ^ k)
  | 0, _ => ⟨_, _, 0, read_zero, by omega⟩
  | i + 1, hi => by
    refine bdv_add (sumN_bdv8 h hn hk i (by omega)) (h i (by omega)) (by omega) ?_
    refine Nat.le_trans (Nat.mul_le_mul_right _ (show i + 1 ≤ 2 ^ 8 by omega)) ?_
    rw [← Nat.pow_add]
    exact Nat.pow_le_pow_right (by omega) (by omega)

theorem sumN_bd8 {g : Nat → Nat} {n K i : Nat} (h : ∀ i, i < n → bd (g i) K) (hK : 2 ≤ K) (hn : n ≤ 256) (hk : K + 8 ≤ 254) (hi : i ≤ n) : bd (sumN g i) (K + 8) := by
  apply bd_of_bdv _ (by omega)
  refine (sumN_bdv8 (k := K + 22) (fun i hi => bdv_of_bd (h i hi) hK (by omega)) hn (by omega) i hi).mono ?_
  refine Nat.le_trans (Nat.mul_le_mul_right _ (show i ≤ 2 ^ 8 by omega)) ?_
  rw [← Nat.pow_add]
  exact Nat.pow_le_pow_right (by omega) (by omega)

end Go.Proofs


/-
  The first loop that is read.
-/
namespace Go.Proofs
open Go.Ide Go.IntWalk

/-- Word i of all words of n letters. -/
def digW (b : Nat) : Nat → Nat → List Int
  | 0, _ => []
  | n + 1, i => digW b n (i / b) ++ [((i % b : Nat) : Int)]

theorem digW_len (b : Nat) : ∀ n i, (digW b n i).length = n
  | 0, _ => rfl
  | n + 1, i => by rw [digW, List.length_append, digW_len b n]; rfl

theorem extN_get {b : Nat} {ws : List (List Int)} (hb : 0 < b) : ∀ {k i : Nat}, k ≤ ws.length → i < k * b → (extN b ws k).getD i [] = ws.getD (i / b) [] ++ [((i % b : Nat) : Int)]
  | 0, i, _, hi => by omega
  | k + 1, i, hk, hi => by
    rw [extN]
    simp only [List.getD_eq_getElem?_getD]
    by_cases hlt : i < k * b
    · rw [List.getElem?_append_left (by rw [extN_len]; exact hlt), ← List.getD_eq_getElem?_getD, extN_get hb (by omega) hlt, List.getD_eq_getElem?_getD]
    · rw [Nat.succ_mul] at hi
      rw [List.getElem?_append_right (by rw [extN_len]; omega), extN_len]
      have e1 : i / b = k := by
        rw [Nat.div_eq_iff hb]
        constructor <;> omega
      have e2 : i % b = i - k * b := by
        have := Nat.div_add_mod i b
        rw [e1, Nat.mul_comm] at this
        omega
      rw [e1, e2]
      simp [List.getElem?_map, show i - k * b < b by omega]

theorem allW_dig {b : Nat} (hb : 0 < b) : ∀ (n i : Nat), i < b ^ n → (allW b n).getD i [] = digW b n i
  | 0, i, hi => by
    have : i = 0 := by simpa using hi
    subst this
    rfl
  | n + 1, i, hi => by
    rw [Nat.pow_succ] at hi
    rw [allW, extN_get hb (Nat.le_refl _) (by rw [allW_len]; exact hi), allW_dig hb n (i / b) ((Nat.div_lt_iff_lt_mul hb).2 hi), digW]

theorem digW_zero (b : Nat) : ∀ n, digW b n 0 = List.replicate n 0
  | 0 => rfl
  | n + 1 => by
    rw [digW, Nat.zero_div, Nat.zero_mod, digW_zero b n, List.replicate_succ']
    rfl

/-- One more, from place k - 1 on; the last letter first. -/
def incF (b : Nat) : Nat → List Int → Bool × List Int
  | 0, w => (false, w)
  | k + 1, w => if w.getD k 0 + 1 < (b : Int) then (true, w.set k (w.getD k 0 + 1)) else incF b k (w.set k 0)

theorem incF_len (b : Nat) : ∀ k w, (incF b k w).2.length = w.length
  | 0, _ => rfl
  | k + 1, w => by
    rw [incF]
    split
    · simp
    · rw [incF_len b k]; simp

theorem getD_at {l r : List Int} {x d : Int} {k : Nat} (h : l.length = k) : (l ++ x :: r).getD k d = x := by
  subst h
  simp [List.getD_eq_getElem?_getD]

theorem incF_dig {b : Nat} (hb : 0 < b) : ∀ (n i : Nat) (s : List Int), i < b ^ n → incF b n (digW b n i ++ s) = (decide (i + 1 < b ^ n), (if i + 1 < b ^ n then digW b n (i + 1) else digW b n 0) ++ s)
  | 0, i, s, hi => by
    have : i = 0 := by simpa using hi
    subst this
    rfl
  | n + 1, i, s, hi => by
    rw [Nat.pow_succ] at hi ⊢
    have hq : i / b < b ^ n := (Nat.div_lt_iff_lt_mul hb).2 hi
    have hl := digW_len b n (i / b)
    have hm := Nat.mod_lt i hb
    have hdm := Nat.div_add_mod i b
    rw [incF, digW, List.append_assoc, List.singleton_append, getD_at hl]
    by_cases h1 : i % b + 1 < b
    · have hd : (i + 1) / b = i / b := by
        rw [Nat.div_eq_iff hb]
        rw [Nat.mul_comm] at hdm
        constructor <;> omega
      have hmm : (i + 1) % b = i % b + 1 := by
        have := Nat.div_add_mod (i + 1) b
        rw [hd] at this
        omega
      have hlt : i + 1 < b ^ n * b := by
        rw [← Nat.div_lt_iff_lt_mul hb, hd]; exact hq
      rw [if_pos (by omega), set_at hl, if_pos hlt, decide_eq_true hlt, digW, hd, hmm, List.append_assoc]
      simp
    · have hd : (i + 1) / b = i / b + 1 := by
        rw [Nat.div_eq_iff hb, Nat.add_mul]
        rw [Nat.mul_comm] at hdm
        constructor <;> omega
      have hmm : (i + 1) % b = 0 := by
        have := Nat.div_add_mod (i + 1) b
        rw [hd, Nat.mul_add] at this
        omega
      rw [if_neg (by omega), set_at hl, incF_dig hb n (i / b) (0 :: s) hq]
      have hiff : i + 1 < b ^ n * b ↔ i / b + 1 < b ^ n := by rw [← Nat.div_lt_iff_lt_mul hb, hd]
      by_cases h2 : i / b + 1 < b ^ n
      · rw [if_pos h2, decide_eq_true h2, if_pos (hiff.2 h2), decide_eq_true (hiff.2 h2), digW, hd, hmm, List.append_assoc]
        rfl
      · rw [if_neg h2, decide_eq_false h2, if_neg (fun h => h2 (hiff.1 h)), decide_eq_false (fun h => h2 (hiff.1 h)), digW, Nat.zero_div, Nat.zero_mod, List.append_assoc]
        rfl

theorem digW_letters {b : Nat} (hb : 0 < b) : ∀ (n i : Nat), Letters b (digW b n i)
  | 0, _ => fun j hj => by simp [digW] at hj
  | n + 1, i => fun j hj => by
    rw [digW_len] at hj
    have hl := digW_len b n (i / b)
    rw [digW, getD_snoc, hl]
    by_cases e : j < n
    · rw [if_pos e]; exact digW_letters hb n (i / b) j (by rw [hl]; exact e)
    · rw [if_neg e, if_pos (by omega)]; exact ⟨_, rfl, Nat.mod_lt _ hb⟩

theorem Letters.take {b : Nat} {w : List Int} (h : Letters b w) (k : Nat) : Letters b (w.take k) := fun i hi => by
  simp only [List.length_take] at hi
  have := h i (by omega)
  rw [List.getD_eq_getElem?_getD, List.getElem?_take_of_lt (by omega), ← List.getD_eq_getElem?_getD]
  exact this

theorem Letters.drop {b : Nat} {w : List Int} (h : Letters b w) (k : Nat) : Letters b (w.drop k) := fun i hi => by
  simp only [List.length_drop] at hi
  have := h (k + i) (by omega)
  rw [List.getD_eq_getElem?_getD, List.getElem?_drop, ← List.getD_eq_getElem?_getD]
  exact this

section
variable {m c : Nat} {nx : List Int} {es : List Bool} (hp : Plain m c nx es)
include hp

omit hp in
theorem specInc : ∀ (k : Nat) (w : List Int), k ≤ w.length → w.length ≤ 1000 → (∀ i, i < w.length → 0 ≤ w.getD i 0 ∧ w.getD i 0 ≤ 1000) →
    rounds (spec_FirstLoop_B1 ((m : Int), (c : Int), nx, es)) (false, ((k : Nat) : Int) - 1, w) = some (incF c k w)
  | 0, w, _, _, _ => by
    rw [rounds_eq]
    rfl
  | k + 1, w, hk, hl, hw => by
    have e1 : ((k + 1 : Nat) : Int) - 1 = (k : Int) := by omega
    have hb := hw k (by omega)
    have hx : wadd .i64 (w.getD k 0) 1 = w.getD k 0 + 1 := waddI (by omega)
    have hset : (w.set k (w.getD k 0 + 1)).getD k 0 = w.getD k 0 + 1 := by
      simp [List.getD_eq_getElem?_getD, show k < w.length by omega]
    have hstep : spec_FirstLoop_B1 ((m : Int), (c : Int), nx, es) (false, (k : Int), w) = some (.inl (decide (w.getD k 0 + 1 < (c : Int)), (k : Int) - 1, if w.getD k 0 + 1 < (c : Int) then w.set k (w.getD k 0 + 1) else w.set k 0)) := by
      unfold spec_FirstLoop_B1
      simp only [decide_eq_true (show (k : Int) ≥ 0 by omega), cond_true, Bool.not_false, Option.bind_some, Int.toNat_natCast, hx, hset]
      rw [guard_pos (idxN (i := k) (n := w.length) (by omega)), guard_pos (by simp only [lenI, List.length_set]; omega), wsubI (by omega)]
      by_cases h : w.getD k 0 + 1 < (c : Int)
      · rw [if_pos h]
        simp only [decide_eq_true h, Bool.not_true, cond_false, Option.bind_some]
      · rw [if_neg h]
        simp only [decide_eq_false h, Bool.not_false, cond_true, Option.bind_some, List.set_set]
    rw [rounds_eq, e1, hstep, incF]
    by_cases h : w.getD k 0 + 1 < (c : Int)
    · rw [if_pos h, if_pos h, decide_eq_true h]
      show rounds (spec_FirstLoop_B1 ((m : Int), (c : Int), nx, es)) (true, (k : Int) - 1, w.set k (w.getD k 0 + 1)) = _
      have hend : spec_FirstLoop_B1 ((m : Int), (c : Int), nx, es) (true, (k : Int) - 1, w.set k (w.getD k 0 + 1)) = some (.inr (true, w.set k (w.getD k 0 + 1))) := by
        unfold spec_FirstLoop_B1
        cases decide ((k : Int) - 1 ≥ 0) <;> rfl
      rw [rounds_eq, hend]
    · rw [if_neg h, if_neg h, decide_eq_false h]
      exact specInc k (w.set k 0) (by simp; omega) (by simpa using hl) (fun i hi => by
        by_cases e : i = k
        · subst e
          simp [List.getD_eq_getElem?_getD, show i < w.length by omega]
        · have := hw i (by simpa using hi)
          rw [List.getD_eq_getElem?_getD, List.getElem?_set_ne (by omega), ← List.getD_eq_getElem?_getD]
          exact this)

/-- All words of a length. -/
theorem firstW {h N : Nat} (hh : h ≤ N) (hN : N ≤ 12) : ∃ r, rounds (spec_FirstLoop_B2 ((m : Int), (c : Int), nx, es) (h : Int)) (true, List.replicate N 0) = some r ∧
    rounds (impl_FirstLoop_B1 ((m : Int), (c : Int), nx, es) (h : Int) (allW c N)) 0 = some r ∧ (∀ x, r = .inr x → x.1.length ≤ 12 ∧ x.2.length ≤ 12) := by
  have hc1 := hp.c1
  have hc2 := hp.c2
  have hlen : (allW c N).length = c ^ N := allW_len c N
  have hle : (allW c N).length ≤ 16777216 := allW_le hc2 hN
  have hcp : 0 < c ^ N := Nat.pow_pos (by omega)
  have := rounds_rel (f := spec_FirstLoop_B2 ((m : Int), (c : Int), nx, es) (h : Int)) (g := impl_FirstLoop_B1 ((m : Int), (c : Int), nx, es) (h : Int) (allW c N))
    (fun k s t => k ≤ c ^ N ∧ t = (((c ^ N - k : Nat)) : Int) ∧ s.1 = decide (0 < k) ∧ (0 < k → s.2 = digW c N (c ^ N - k))) (fun r r' => r = r' ∧ (∀ x, r = .inr x → x.1.length ≤ 12 ∧ x.2.length ≤ 12))
    (fun k s t ⟨h1, h2, h3, h4⟩ => by
      obtain ⟨mo, w⟩ := s
      simp only at h3 h4
      subst h2 h3
      cases k with
      | zero =>
        refine .inr ⟨_, _, rfl, ?_, rfl, fun x hx => by cases hx⟩
        unfold impl_FirstLoop_B1
        simp only [lenI, hlen, Nat.sub_zero, geN (Nat.le_refl _), cond_false]
      | succ k =>
        have h4 := h4 (by omega)
        subst h4
        have hi : c ^ N - (k + 1) < c ^ N := by omega
        have hd := allW_dig (b := c) (by omega) N (c ^ N - (k + 1)) hi
        have hL := digW_letters (b := c) (by omega) N (c ^ N - (k + 1))
        have hwl := digW_len c N (c ^ N - (k + 1))
        have hcut1 : cut (digW c N (c ^ N - (k + 1))) 0 (h : Int) = (digW c N (c ^ N - (k + 1))).take h := by
          unfold cut; simp
        have hcut2 : cut (digW c N (c ^ N - (k + 1))) (h : Int) (lenI (digW c N (c ^ N - (k + 1)))) = (digW c N (c ^ N - (k + 1))).drop h := by
          unfold cut
          simp only [lenI, Int.toNat_natCast]
          rw [List.take_of_length_le (by simp)]
        have hdr : List.take ((lenI (digW c N (c ^ N - (k + 1)))).toNat - h) (List.drop h (digW c N (c ^ N - (k + 1)))) = (digW c N (c ^ N - (k + 1))).drop h := by
          simp only [lenI, Int.toNat_natCast]
          rw [List.take_of_length_le (by simp)]
        have hdr2 : List.take ((digW c N (c ^ N - (k + 1))).length - h) (List.drop h (digW c N (c ^ N - (k + 1)))) = (digW c N (c ^ N - (k + 1))).drop h := by
          rw [List.take_of_length_le (by simp)]
        have l1 : ((digW c N (c ^ N - (k + 1))).take h).length ≤ 1000 := by simp only [List.length_take]; omega
        have l2 : ((digW c N (c ^ N - (k + 1))).drop h).length ≤ 1000 := by simp only [List.length_drop]; omega
        have r1 := spec_reads hp (hL.take h) (hL.drop h) l1 l2
        have r2 := impl_reads hp (hL.take h) (hL.drop h) l1 l2
        have hcl : ∀ xs : List Int, xs.length ≤ 1000 → slices_Clone xs = some xs := fun xs hx => by
          unfold slices_Clone
          rw [guard_pos (by simp only [appMax]; omega)]
        have hinc := specInc (m := m) (c := c) (nx := nx) (es := es) N (digW c N (c ^ N - (k + 1))) (by omega) (by omega) (fun i hi => by
          obtain ⟨a, ha, ha2⟩ := hL i hi
          rw [ha]
          omega)
        have hdig := incF_dig (b := c) (by omega) N (c ^ N - (k + 1)) [] hi
        rw [List.append_nil, List.append_nil] at hdig
        rw [hdig] at hinc
        cases hb : readsB (statesP m c nx ((digW c N (c ^ N - (k + 1))).take h) ((digW c N (c ^ N - (k + 1))).drop h)) es with
        | true =>
          refine .inr ⟨.inr ((digW c N (c ^ N - (k + 1))).take h, (digW c N (c ^ N - (k + 1))).drop h), .inr ((digW c N (c ^ N - (k + 1))).take h, (digW c N (c ^ N - (k + 1))).drop h), ?_, ?_, rfl, fun x hx => ?_⟩
          · unfold spec_FirstLoop_B2
            simp only [decide_eq_true (show 0 < k + 1 by omega), cond_true, Int.toNat_natCast, List.drop_zero, hdr, hdr2, r1, hb, Option.bind_some]
            rw [guard_pos (by simp only [lenI]; omega)]
          · unfold impl_FirstLoop_B1
            simp only [ltN (show c ^ N - (k + 1) < (allW c N).length by omega), cond_true, Int.toNat_natCast, hd, hcut1, hcut2, hcl _ l1, hcl _ l2, r2, hb, Option.bind_some]
            rw [guard_pos (idxN (by omega)), guard_pos (by simp only [lenI]; omega)]
          · injection hx with hx
            subst hx
            simp only [List.length_take, List.length_drop]
            omega
        | false =>
          refine .inl ⟨k, (decide (0 < k), if c ^ N - (k + 1) + 1 < c ^ N then digW c N (c ^ N - (k + 1) + 1) else digW c N 0), ((c ^ N - k : Nat) : Int), by omega, ?_, ?_, by omega, rfl, rfl, fun h0 => ?_⟩
          · unfold spec_FirstLoop_B2
            simp only [decide_eq_true (show 0 < k + 1 by omega), cond_true, Int.toNat_natCast, List.drop_zero, hdr, hdr2, r1, hb, Option.bind_some, cond_false]
            rw [guard_pos (by simp only [lenI]; omega)]
            have e : wsub .i64 (lenI (digW c N (c ^ N - (k + 1)))) 1 = (N : Int) - 1 := by
              simp only [lenI, hwl]
              rw [wsubI (by omega)]
            rw [e, hinc]
            have e2 : decide (c ^ N - (k + 1) + 1 < c ^ N) = decide (0 < k) := by
              rw [decide_eq_decide]; omega
            simp only [Option.bind_some, e2]
          · unfold impl_FirstLoop_B1
            simp only [ltN (show c ^ N - (k + 1) < (allW c N).length by omega), cond_true, Int.toNat_natCast, hd, hcut1, hcut2, hcl _ l1, hcl _ l2, r2, hb, Option.bind_some, cond_false, nextN (show c ^ N - (k + 1) < c ^ N by omega) (by omega)]
            rw [guard_pos (idxN (by omega)), guard_pos (by simp only [lenI]; omega), show c ^ N - (k + 1) + 1 = c ^ N - k by omega]
          · simp only
            rw [if_pos (by omega), show c ^ N - (k + 1) + 1 = c ^ N - k by omega])
    (c ^ N) (true, List.replicate N 0) 0 ⟨Nat.le_refl _, by rw [Nat.sub_self]; rfl, by rw [decide_eq_true hcp], fun _ => by rw [Nat.sub_self, digW_zero]⟩
  obtain ⟨r, r', h1, h2, h3, h4⟩ := this
  subst h3
  exact ⟨r, h1, h2, h4⟩

/-- All lengths of rounds. -/
theorem firstR {h M : Nat} (hh : h ≤ M) (hM : M ≤ 3) : ∃ r, rounds (spec_FirstLoop_B3 ((m : Int), (c : Int), nx, es) (M : Int) (h : Int)) 1 = some r ∧
    rounds (impl_FirstLoop_B2 ((m : Int), (c : Int), nx, es) (M : Int) (h : Int)) 0 = some r ∧ (∀ x, r = .inr x → x.1.length ≤ 12 ∧ x.2.length ≤ 12) := by
  have hc2 := hp.c2
  have := rounds_rel (f := spec_FirstLoop_B3 ((m : Int), (c : Int), nx, es) (M : Int) (h : Int)) (g := impl_FirstLoop_B2 ((m : Int), (c : Int), nx, es) (M : Int) (h : Int))
    (fun k s t => k ≤ M ∧ t = ((M - k : Nat) : Int) ∧ s = ((M - k + 1 : Nat) : Int)) (fun r r' => r = r' ∧ (∀ x, r = .inr x → x.1.length ≤ 12 ∧ x.2.length ≤ 12))
    (fun k s t ⟨h1, h2, h3⟩ => by
      subst h2 h3
      cases k with
      | zero =>
        refine .inr ⟨.inl (), .inl (), ?_, ?_, rfl, fun x hx => by cases hx⟩
        · unfold spec_FirstLoop_B3
          simp only [decide_eq_false (show ¬ ((M - 0 + 1 : Nat) : Int) ≤ (M : Int) by omega), cond_false]
        · unfold impl_FirstLoop_B2
          simp only [decide_eq_false (show ¬ ((M - 0 : Nat) : Int) < (M : Int) by omega), cond_false]
      | succ k =>
        obtain ⟨r, e1, e2, e3⟩ := firstW hp (h := h) (N := h + (M - k)) (by omega) (by omega)
        have hs : wadd .i64 (h : Int) ((M - (k + 1) + 1 : Nat) : Int) = ((h + (M - k) : Nat) : Int) := by rw [waddI (by omega)]; omega
        have ht : wadd .i64 (wadd .i64 (h : Int) ((M - (k + 1) : Nat) : Int)) 1 = ((h + (M - k) : Nat) : Int) := by rw [waddI (a := (h : Int)) (by omega), waddI (by omega)]; omega
        have hwo := implAll hc2 (h + (M - k)) (by omega)
        have n1 : wadd .i64 ((M - (k + 1) + 1 : Nat) : Int) 1 = ((M - k + 1 : Nat) : Int) := by rw [waddI (by omega)]; omega
        have n2 : wadd .i64 ((M - (k + 1) : Nat) : Int) 1 = ((M - k : Nat) : Int) := by rw [waddI (by omega)]; omega
        cases r with
        | inl u =>
          refine .inl ⟨k, ((M - k + 1 : Nat) : Int), ((M - k : Nat) : Int), by omega, ?_, ?_, by omega, rfl, rfl⟩
          · unfold spec_FirstLoop_B3
            simp only [decide_eq_true (show ((M - (k + 1) + 1 : Nat) : Int) ≤ (M : Int) by omega), cond_true, hs, Int.toNat_natCast, e1, Option.bind_some, n1]
            rw [guard_pos (by omega)]
          · unfold impl_FirstLoop_B2
            simp only [decide_eq_true (show ((M - (k + 1) : Nat) : Int) < (M : Int) by omega), cond_true, ht, hwo, e2, Option.bind_some, n2]
        | inr x =>
          refine .inr ⟨.inr x, .inr x, ?_, ?_, rfl, e3⟩
          · unfold spec_FirstLoop_B3
            simp only [decide_eq_true (show ((M - (k + 1) + 1 : Nat) : Int) ≤ (M : Int) by omega), cond_true, hs, Int.toNat_natCast, e1, Option.bind_some]
            rw [guard_pos (by omega)]
          · unfold impl_FirstLoop_B2
            simp only [decide_eq_true (show ((M - (k + 1) : Nat) : Int) < (M : Int) by omega), cond_true, ht, hwo, e2, Option.bind_some])
    M 1 0 ⟨Nat.le_refl _, by rw [Nat.sub_self]; rfl, by rw [Nat.sub_self]; rfl⟩
  obtain ⟨r, r', h1, h2, h3, h4⟩ := this
  subst h3
  exact ⟨r, h1, h2, h4⟩

/-- All lengths of beginnings. -/
theorem firstH {M : Nat} (hM : M ≤ 3) : ∃ r, rounds (spec_FirstLoop_B4 ((m : Int), (c : Int), nx, es) (M : Int)) 0 = some r ∧
    rounds (impl_FirstLoop_B3 ((m : Int), (c : Int), nx, es) (M : Int)) 0 = some r ∧ (∀ x, r = .inr x → x.1.length ≤ 12 ∧ x.2.length ≤ 12) := by
  have hM1 : wadd .i64 (M : Int) 1 = ((M + 1 : Nat) : Int) := by rw [waddI (by omega)]; omega
  have := rounds_rel (f := spec_FirstLoop_B4 ((m : Int), (c : Int), nx, es) (M : Int)) (g := impl_FirstLoop_B3 ((m : Int), (c : Int), nx, es) (M : Int))
    (fun k s t => k ≤ M + 1 ∧ t = ((M + 1 - k : Nat) : Int) ∧ s = t) (fun r r' => r = r' ∧ (∀ x, r = .inr x → x.1.length ≤ 12 ∧ x.2.length ≤ 12))
    (fun k s t ⟨h1, h2, h3⟩ => by
      subst h2 h3
      cases k with
      | zero =>
        refine .inr ⟨.inl (), .inl (), ?_, ?_, rfl, fun x hx => by cases hx⟩
        · unfold spec_FirstLoop_B4
          simp only [decide_eq_false (show ¬ ((M + 1 - 0 : Nat) : Int) ≤ (M : Int) by omega), cond_false]
        · unfold impl_FirstLoop_B3
          simp only [hM1, decide_eq_false (show ¬ ((M + 1 - 0 : Nat) : Int) < ((M + 1 : Nat) : Int) by omega), cond_false]
      | succ k =>
        obtain ⟨r, e1, e2, e3⟩ := firstR hp (h := M - k) (M := M) (by omega) hM
        have hk : ((M + 1 - (k + 1) : Nat) : Int) = ((M - k : Nat) : Int) := by omega
        have n1 : wadd .i64 ((M - k : Nat) : Int) 1 = ((M + 1 - k : Nat) : Int) := by rw [waddI (by omega)]; omega
        rw [hk]
        cases r with
        | inl u =>
          refine .inl ⟨k, ((M + 1 - k : Nat) : Int), ((M + 1 - k : Nat) : Int), by omega, ?_, ?_, by omega, rfl, rfl⟩
          · unfold spec_FirstLoop_B4
            simp only [decide_eq_true (show ((M - k : Nat) : Int) ≤ (M : Int) by omega), cond_true, e1, Option.bind_some, n1]
          · unfold impl_FirstLoop_B3
            simp only [hM1, decide_eq_true (show ((M - k : Nat) : Int) < ((M + 1 : Nat) : Int) by omega), cond_true, e2, Option.bind_some, n1]
        | inr x =>
          refine .inr ⟨.inr x, .inr x, ?_, ?_, rfl, e3⟩
          · unfold spec_FirstLoop_B4
            simp only [decide_eq_true (show ((M - k : Nat) : Int) ≤ (M : Int) by omega), cond_true, e1, Option.bind_some]
          · unfold impl_FirstLoop_B3
            simp only [hM1, decide_eq_true (show ((M - k : Nat) : Int) < ((M + 1 : Nat) : Int) by omega), cond_true, e2, Option.bind_some])
    (M + 1) 0 0 ⟨Nat.le_refl _, by rw [Nat.sub_self]; rfl, rfl⟩
  obtain ⟨r, r', h1, h2, h3, h4⟩ := this
  subst h3
  exact ⟨r, h1, h2, h4⟩
end

theorem FirstLoop_eq {x0_0 x0_1 : Int} {x0_2 : List Int} {x0_3 : List Bool} {x1_0 : Int} (h1 : x0_2.length ≤ 1048576) (h2 : x0_3.length ≤ 1048576) :
    ∃ r, spec_FirstLoop (x0_0, x0_1, x0_2, x0_3) x1_0 = some r ∧ impl_FirstLoop (x0_0, x0_1, x0_2, x0_3) x1_0 = some r ∧ r.1.1.length ≤ 1000000 ∧ r.1.2.length ≤ 1000000 := by
  unfold spec_FirstLoop impl_FirstLoop
  simp only [specPlain (s := x0_0) (l := x0_1) (nx := x0_2) (es := x0_3) (by omega), implPlain (s := x0_0) (l := x0_1) (nx := x0_2) (es := x0_3) (by omega), Option.bind_some, in64, within64]
  cases hp : okPlain x0_0 x0_1 x0_2 x0_3 with
  | false => exact ⟨_, rfl, rfl, by simp, by simp⟩
  | true =>
    simp only [Bool.not_true, cond_false, Option.bind_some]
    cases hx : (decide (x1_0 ≥ 1) && decide (x1_0 ≤ 3)) with
    | false => exact ⟨_, rfl, rfl, by simp, by simp⟩
    | true =>
      simp only [Bool.and_eq_true, decide_eq_true_eq] at hx
      obtain ⟨M, rfl⟩ : ∃ M : Nat, x1_0 = (M : Int) := ⟨x1_0.toNat, by omega⟩
      obtain ⟨m, c, rfl, rfl, -⟩ := okPlain_spec hp
      have hp := plain_of' hp
      obtain ⟨r, e1, e2, e3⟩ := firstH hp (M := M) (by omega)
      simp only [Bool.not_true, cond_false, Option.bind_some, e1, e2]
      cases r with
      | inl u => exact ⟨_, rfl, rfl, by simp, by simp⟩
      | inr x =>
        have := e3 x rfl
        exact ⟨_, rfl, rfl, by simp only; omega, by simp only; omega⟩

end Go.Proofs

namespace Go.Proofs
open Go.Ide Go.IntWalk

theorem FirstLoop_law (x0 : Int × Int × List Int × List Bool) (x1 : Int) (w0 : WfD (.st (.pair (.int .i64) (.pair (.int .i64) (.pair (.sl (.int .i64)) (.sl .bool))))) x0) (w1 : WfD (.int .i64) x1) : laws_FnExactFirstLoop x0 x1 = some true := by
  obtain ⟨x0_0, ⟨x0_1, ⟨x0_2, x0_3⟩⟩⟩ := x0
  have hx0_2 : x0_2.length ≤ 9223372036854775807 := Nat.le_trans (w0.2.2.1.1) (by decide)
  have hx0_3 : x0_3.length ≤ 9223372036854775807 := Nat.le_trans (w0.2.2.2.1) (by decide)
  obtain ⟨x1_0, rfl⟩ : ∃ y, y = x1 := ⟨_, rfl⟩
  unfold laws_FnExactFirstLoop
  obtain ⟨m1, a1, b1⟩ := szPlain_ok (n := 1048576) (x0 := x0_0) (x1 := x0_1) (x2 := x0_2) (x3 := x0_3) hx0_2 hx0_3 (by omega)
  simp only [a1, Option.bind_some]
  by_cases c1 : m1 < 0
  · simp only [c1, decide_true, cond_true]
  · obtain ⟨⟨ox0_2, ox0_3⟩, d1, f1⟩ := b1.resolve_left c1
    simp only [c1, decide_false, cond_false]
    obtain ⟨⟨⟨r0_0, r0_1⟩, r1_0⟩, k1, k2, or0_0, or0_1⟩ := FirstLoop_eq (x0_0 := x0_0) (x0_1 := x0_1) (x0_2 := x0_2) (x0_3 := x0_3) (x1_0 := x1_0) ox0_2 ox0_3
    have or0_0 : r0_0.length ≤ 1000000 := or0_0
    have or0_1 : r0_1.length ≤ 1000000 := or0_1
    simp only [k1,
      k2,
      Option.bind_some,
      Bool.not_true,
      cond_false,
      bne_self_eq_false,
      cond_true,
      toPlain_ok (x0 := x0_0) (x1 := x0_1) (x2 := x0_2) (x3 := x0_3) ox0_2 ox0_3,
      eqPlain_ok (x0 := x0_0) (x1 := x0_1) (x2 := x0_2) (x3 := x0_3) ox0_2 ox0_3,
      markPlain_ok (k := (1 : Int)) (x0 := x0_0) (x1 := x0_1) (x2 := x0_2) (x3 := x0_3) ox0_2 ox0_3 (by omega),
      (show decide ((1 : Int) + ((1 * x0_2.length : Nat) : Int) + ((1 * x0_3.length : Nat) : Int) < 0) = false from by simp only [decide_eq_false_iff_not]; omega),
      eqLoop_ok (x0 := r0_0) (x1 := r0_1) (by omega : r0_0.length ≤ 1048576) (by omega : r0_1.length ≤ 1048576),
      markLoop_ok (k := (1 : Int)) (x0 := r0_0) (x1 := r0_1) (by omega : r0_0.length ≤ 1048576) (by omega : r0_1.length ≤ 1048576) (by omega),
      heldLoop_ok (k := (1 : Int)) (by omega : r0_0.length ≤ 1048576) (by omega : r0_1.length ≤ 1048576) (by omega),
      (show decide ((1 : Int) + ((1 * r0_0.length : Nat) : Int) + ((1 * r0_1.length : Nat) : Int) < 0) = false from by simp only [decide_eq_false_iff_not]; omega)]

end Go.Proofs
