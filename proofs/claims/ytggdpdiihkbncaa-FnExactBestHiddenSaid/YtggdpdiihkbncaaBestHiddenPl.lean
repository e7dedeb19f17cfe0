import Derived.Test.YtggdpdiihkbncaaBestHiddenGenC
set_option linter.unusedVariables false
set_option linter.unusedSimpArgs false
set_option linter.unusedSectionVars false
namespace Go.Proofs
open Go.Ide Go.IntWalk

theorem sameFloat_ok (x : Nat) : laws_sameFloat x x = some true := by
  unfold laws_sameFloat
  cases h1 : feq .f64 x x <;> cases h2 : feq .f64 x 0 <;> simp [h1, h2]

theorem szFloat32S_ok {xs : List Nat} {n : Int} (hx : xs.length ≤ 9223372036854775807) (hn : 0 ≤ n ∧ n ≤ 1048576) : ∃ m, laws_szFloat32S xs n = some m ∧ (m < 0 ∨ (xs.length ≤ 1048576 ∧ 0 ≤ m ∧ m ≤ n)) := by
  unfold laws_szFloat32S
  have e : wsub .i64 n (lenI xs) = n - (xs.length : Int) := i64_in _ (by simp only [lenI]; omega)
  rw [e]
  by_cases h : n - (xs.length : Int) < 0
  · exact ⟨-1, by simp only [h, decide_true, cond_true], .inl (by omega)⟩
  · exact ⟨_, by simp only [h, decide_false, cond_false]; rfl, .inr ⟨by omega, by omega, by omega⟩⟩

theorem toInt64S_ok {xs : List Int} (h : xs.length ≤ 1048576) : laws_toInt64S xs = some xs := by
  unfold laws_toInt64S
  rw [guard_pos ⟨by simp only [lenI]; omega, by simp only [lenI]; omega⟩]
  have := loop_to (f := laws_toInt64S_B1 xs) xs (0 : Int) (fun i out hi hl => by
    unfold laws_toInt64S_B1
    simp only [ltN hi, cond_true, guard_pos (idxN hi), guard_pos (idxN (i := i) (n := out.length) (by omega)), Int.toNat_natCast, nextN hi (by omega)]) (fun out hl => by
    unfold laws_toInt64S_B1
    simp only [geN (Nat.le_refl _), cond_false])
  simp only [Int.toNat_natCast, this, Option.bind_some]

theorem toFloat32S_ok {xs : List Nat} (h : xs.length ≤ 1048576) : laws_toFloat32S xs = some xs := by
  unfold laws_toFloat32S
  rw [guard_pos ⟨by simp only [lenI]; omega, by simp only [lenI]; omega⟩]
  have := loop_to (f := laws_toFloat32S_B1 xs) xs (0 : Nat) (fun i out hi hl => by
    unfold laws_toFloat32S_B1
    simp only [ltN hi, cond_true, guard_pos (idxN hi), guard_pos (idxN (i := i) (n := out.length) (by omega)), Int.toNat_natCast, nextN hi (by omega)]) (fun out hl => by
    unfold laws_toFloat32S_B1
    simp only [geN (Nat.le_refl _), cond_false])
  simp only [Int.toNat_natCast, this, Option.bind_some]

theorem eqInt64S_ok {xs : List Int} (h : xs.length ≤ 1048576) : laws_eqInt64S xs xs = some true := by
  unfold laws_eqInt64S
  have := loop_eq (f := laws_eqInt64S_B1 xs xs) (Sum.inl ()) xs.length (fun i hi => by
    unfold laws_eqInt64S_B1
    simp only [ltN hi, cond_true, guard_pos (idxN hi), bne_self_eq_false, cond_false, nextN hi (by omega)]) (by
    unfold laws_eqInt64S_B1
    simp only [geN (Nat.le_refl _), cond_false])
  simp only [bne_self_eq_false, cond_false, this, Option.bind_some]

theorem eqFloat32S_ok {xs : List Nat} (h : xs.length ≤ 1048576) : laws_eqFloat32S xs xs = some true := by
  unfold laws_eqFloat32S
  have := loop_eq (f := laws_eqFloat32S_B1 xs xs) (Sum.inl ()) xs.length (fun i hi => by
    unfold laws_eqFloat32S_B1
    simp only [ltN hi, cond_true, guard_pos (idxN hi), bne_self_eq_false, sameFloat_ok, Option.bind_some, Bool.not_true, cond_false, nextN hi (by omega)]) (by
    unfold laws_eqFloat32S_B1
    simp only [geN (Nat.le_refl _), cond_false])
  simp only [bne_self_eq_false, cond_false, this, Option.bind_some]

theorem markInt64S_ok {xs : List Int} {k : Int} (h : xs.length ≤ 1048576) (hk : 0 ≤ k ∧ k ≤ 1000000000) : laws_markInt64S xs k = some (k + ((1 * xs.length : Nat) : Int), marksG (fun k => k) 1 k xs.length) := by
  unfold laws_markInt64S
  have := loop_mark (f := laws_markInt64S_B1) (fun k => k) 1 k xs (fun i out hi hl => by
    unfold laws_markInt64S_B1
    have e := markN (c := 1) (i := i) (k0 := k) (by omega) (by omega) (by omega)
    simp only [lenI, hl, ltN hi, cond_true, guard_pos (idxN hi), Int.toNat_natCast, nextN hi (by omega)]
    simp only [Int.cast_ofNat_Int] at e
    rw [e]) (fun out hl => by
    unfold laws_markInt64S_B1
    simp only [lenI, hl, geN (Nat.le_refl _), cond_false])
  simp only [this, Option.bind_some]
  rw [guard_pos marksG_len]

theorem markFloat32S_ok {xs : List Nat} {k : Int} (h : xs.length ≤ 1048576) (hk : 0 ≤ k ∧ k ≤ 1000000000) : laws_markFloat32S xs k = some (k + ((1 * xs.length : Nat) : Int), marksG (fun k => fofint .f32 k) 1 k xs.length) := by
  unfold laws_markFloat32S
  have := loop_mark (f := laws_markFloat32S_B1) (fun k => fofint .f32 k) 1 k xs (fun i out hi hl => by
    unfold laws_markFloat32S_B1
    have e := markN (c := 1) (i := i) (k0 := k) (by omega) (by omega) (by omega)
    simp only [lenI, hl, ltN hi, cond_true, guard_pos (idxN hi), Int.toNat_natCast, nextN hi (by omega)]
    simp only [Int.cast_ofNat_Int] at e
    rw [e]) (fun out hl => by
    unfold laws_markFloat32S_B1
    simp only [lenI, hl, geN (Nat.le_refl _), cond_false])
  simp only [this, Option.bind_some]
  rw [guard_pos marksG_len]

theorem heldInt64S_ok {n : Nat} {k : Int} (h : n ≤ 1048576) (hk : 0 ≤ k ∧ k ≤ 1000000000) : laws_heldInt64S (marksG (fun k => k) 1 k n) k = some (k + ((1 * n : Nat) : Int)) := by
  unfold laws_heldInt64S
  have := loop_held (f := laws_heldInt64S_B1 (marksG (fun k => k) 1 k n)) 1 k n (fun i hi => by
    unfold laws_heldInt64S_B1
    have e := markN (c := 1) (i := i) (k0 := k) (by omega) (by omega) (by omega)
    simp only [Int.cast_ofNat_Int] at e
    simp only [lenI, marksG_len, ltN hi, cond_true, guard_pos (idxN hi), Int.toNat_natCast, nextN hi (by omega), marksG_get hi, bne_self_eq_false, cond_false]
    rw [e]) (by
    unfold laws_heldInt64S_B1
    simp only [lenI, marksG_len, geN (Nat.le_refl _), cond_false])
  simp only [this, Option.bind_some]

theorem szModel_ok {x0 : Int} {x1 : Int} {x2 : List Nat} {x3 : List Nat} {x4 : List Nat} {n : Int} (hx2 : x2.length ≤ 9223372036854775807) (hx3 : x3.length ≤ 9223372036854775807) (hx4 : x4.length ≤ 9223372036854775807) (hn : 0 ≤ n ∧ n ≤ 1048576) : ∃ m, laws_szModel (x0, x1, x2, x3, x4) n = some m ∧ (m < 0 ∨ ((x2.length ≤ 1048576 ∧ x3.length ≤ 1048576 ∧ x4.length ≤ 1048576) ∧ 0 ≤ m ∧ m ≤ n)) := by
  unfold laws_szModel
  obtain ⟨m1, h1, k1⟩ := szFloat32S_ok (n := n) (xs := x2) hx2 (by omega)
  simp only [h1, Option.bind_some]
  by_cases c1 : m1 < 0
  · simp only [c1, decide_true, cond_true]; exact ⟨-1, rfl, .inl (by omega)⟩
  · obtain ⟨g1, p1, q1⟩ := k1.resolve_left c1
    simp only [c1, decide_false, cond_false]
    obtain ⟨m2, h2, k2⟩ := szFloat32S_ok (n := m1) (xs := x3) hx3 (by omega)
    simp only [h2, Option.bind_some]
    by_cases c2 : m2 < 0
    · simp only [c2, decide_true, cond_true]; exact ⟨-1, rfl, .inl (by omega)⟩
    · obtain ⟨g2, p2, q2⟩ := k2.resolve_left c2
      simp only [c2, decide_false, cond_false]
      obtain ⟨m3, h3, k3⟩ := szFloat32S_ok (n := m2) (xs := x4) hx4 (by omega)
      simp only [h3, Option.bind_some]
      by_cases c3 : m3 < 0
      · simp only [c3, decide_true, cond_true]; exact ⟨-1, rfl, .inl (by omega)⟩
      · obtain ⟨g3, p3, q3⟩ := k3.resolve_left c3
        simp only [c3, decide_false, cond_false]
        exact ⟨_, rfl, .inr ⟨⟨g1, g2, g3⟩, by omega, by omega⟩⟩

theorem toModel_ok {x0 : Int} {x1 : Int} {x2 : List Nat} {x3 : List Nat} {x4 : List Nat} (hx2 : x2.length ≤ 1048576) (hx3 : x3.length ≤ 1048576) (hx4 : x4.length ≤ 1048576) : laws_toModel (x0, x1, x2, x3, x4) = some (x0, x1, x2, x3, x4) := by
  unfold laws_toModel
  simp only [toFloat32S_ok hx2, toFloat32S_ok hx3, toFloat32S_ok hx4, Option.bind_some]

theorem eqModel_ok {x0 : Int} {x1 : Int} {x2 : List Nat} {x3 : List Nat} {x4 : List Nat} (hx2 : x2.length ≤ 1048576) (hx3 : x3.length ≤ 1048576) (hx4 : x4.length ≤ 1048576) : laws_eqModel (x0, x1, x2, x3, x4) (x0, x1, x2, x3, x4) = some true := by
  unfold laws_eqModel
  simp only [eqFloat32S_ok hx2, eqFloat32S_ok hx3, eqFloat32S_ok hx4, Option.bind_some, bne_self_eq_false, Bool.not_true, cond_false, decide_true]

theorem markModel_ok {x0 : Int} {x1 : Int} {x2 : List Nat} {x3 : List Nat} {x4 : List Nat} {k : Int} (hx2 : x2.length ≤ 1048576) (hx3 : x3.length ≤ 1048576) (hx4 : x4.length ≤ 1048576) (hk : 0 ≤ k ∧ k ≤ 100000000) : laws_markModel (x0, x1, x2, x3, x4) k = some (k + ((1 * x2.length : Nat) : Int) + ((1 * x3.length : Nat) : Int) + ((1 * x4.length : Nat) : Int), (x0, x1, marksG (fun k => fofint .f32 k) 1 (k) x2.length, marksG (fun k => fofint .f32 k) 1 (k + ((1 * x2.length : Nat) : Int)) x3.length, marksG (fun k => fofint .f32 k) 1 (k + ((1 * x2.length : Nat) : Int) + ((1 * x3.length : Nat) : Int)) x4.length)) := by
  unfold laws_markModel
  simp only [markFloat32S_ok (k := k) hx2 (by omega), markFloat32S_ok (k := k + ((1 * x2.length : Nat) : Int)) hx3 (by omega), markFloat32S_ok (k := k + ((1 * x2.length : Nat) : Int) + ((1 * x3.length : Nat) : Int)) hx4 (by omega), Option.bind_some]
  simp only [guardP, marksG_len, if_true]

end Go.Proofs


namespace Go.Proofs
open Go.Ide Go.IntWalk

theorem in64 (a b c : Int) : spec_l00In a b c = some (decide (a ≥ b) && decide (a ≤ c)) := by
  unfold spec_l00In
  cases h : decide (a ≥ b) <;> simp
theorem within64 (a b c : Int) : impl_within a b c = some (decide (a ≥ b) && decide (a ≤ c)) := by
  unfold impl_within
  cases h : decide (a ≥ b) <;> simp

/-- All between. -/
def allIn (xs : List Int) (b c : Int) : Bool := xs.all fun x => decide (x ≥ b) && decide (x ≤ c)

theorem allIn_iff {xs : List Int} {b c : Int} : allIn xs b c = true ↔ ∀ i, i < xs.length → b ≤ xs.getD i 0 ∧ xs.getD i 0 ≤ c := by
  unfold allIn
  rw [List.all_eq_true]
  constructor
  · intro h i hi
    have := h xs[i] (List.getElem_mem hi)
    simp only [Bool.and_eq_true, decide_eq_true_eq] at this
    rw [List.getD_eq_getElem?_getD, List.getElem?_eq_getElem hi]
    exact ⟨this.1, this.2⟩
  · intro h x hx
    obtain ⟨i, hi, rfl⟩ := List.getElem_of_mem hx
    have := h i hi
    rw [List.getD_eq_getElem?_getD, List.getElem?_eq_getElem hi] at this
    simp only [Bool.and_eq_true, decide_eq_true_eq]
    exact ⟨this.1, this.2⟩

theorem allN_in (xs : List Int) (b c : Int) : allN (fun i => decide (xs.getD i 0 ≥ b) && decide (xs.getD i 0 ≤ c)) xs.length 0 = allIn xs b c := by
  rw [Bool.eq_iff_iff, allN_iff, allIn_iff]
  constructor
  · intro h i hi
    have := h i (by omega) (by omega)
    simp only [Bool.and_eq_true, decide_eq_true_eq] at this
    exact ⟨this.1, this.2⟩
  · intro h i _ hi
    have := h i (by omega)
    simp only [Bool.and_eq_true, decide_eq_true_eq]
    exact ⟨this.1, this.2⟩

theorem areWithin64 {xs : List Int} {b c : Int} (h : xs.length ≤ 4294967296) : impl_areWithin xs b c = some (allIn xs b c) := by
  unfold impl_areWithin
  have := rounds_all (f := impl_areWithin_B1 xs b c) (fun i => ((i : Nat) : Int)) (fun i => decide (xs.getD i 0 ≥ b) && decide (xs.getD i 0 ≤ c)) (Sum.inl ()) (Sum.inr ()) (n := xs.length) (fun i hi => by
    unfold impl_areWithin_B1
    simp only [ltN hi, cond_true, guard_pos (idxN hi), Int.toNat_natCast, within64, Option.bind_some, nextN hi h]
    cases (decide (xs.getD i 0 ≥ b) && decide (xs.getD i 0 ≤ c)) <;> rfl) (by
    unfold impl_areWithin_B1
    simp only [geN (Nat.le_refl _), cond_false]) xs.length 0 (by omega)
  rw [allN_in] at this
  simp only [Int.natCast_zero] at this
  simp only [this, Option.bind_some]
  cases allIn xs b c <;> rfl

theorem word64 {xs : List Int} {L : Int} (h : xs.length ≤ 4294967296) : spec_l02Word xs L = some (allIn xs 0 (wsub .i64 L 1) && decide (lenI xs ≤ 12)) := by
  unfold spec_l02Word
  have := rounds_all (f := spec_l02Word_B1 xs L) (fun i => ((i : Nat) : Int)) (fun i => decide (xs.getD i 0 ≥ 0) && decide (xs.getD i 0 ≤ wsub .i64 L 1)) (Sum.inl ()) (Sum.inr ()) (n := xs.length) (fun i hi => by
    unfold spec_l02Word_B1
    simp only [ltN hi, cond_true, guard_pos (idxN hi), Int.toNat_natCast, in64, Option.bind_some, nextN hi h]
    cases (decide (xs.getD i 0 ≥ 0) && decide (xs.getD i 0 ≤ wsub .i64 L 1)) <;> rfl) (by
    unfold spec_l02Word_B1
    simp only [geN (Nat.le_refl _), cond_false]) xs.length 0 (by omega)
  rw [allN_in] at this
  simp only [Int.natCast_zero] at this
  simp only [this, Option.bind_some]
  cases allIn xs 0 (wsub .i64 L 1) <;> simp

theorem isWord64 {xs : List Int} {L : Int} (h : xs.length ≤ 4294967296) : impl_IsWord xs L = some ((decide (L ≥ 1) && decide (L ≤ 4)) && (decide (lenI xs ≤ 12) && allIn xs 0 (wsub .i64 L 1))) := by
  unfold impl_IsWord
  rw [within64, areWithin64 h]
  cases (decide (L ≥ 1) && decide (L ≤ 4)) <;> cases decide (lenI xs ≤ 12) <;> simp

/-- A plain machine is as it must be. -/
def okPlain (s l : Int) (nx : List Int) (es : List Bool) : Bool :=
  (decide (s ≥ 1) && decide (s ≤ 64)) && ((decide (l ≥ 1) && decide (l ≤ 4)) && ((lenI nx == wmul .i64 s l) && ((lenI es == s) && allIn nx 0 (wsub .i64 s 1))))

theorem specPlain {s l : Int} {nx : List Int} {es : List Bool} (h : nx.length ≤ 4294967296) : spec_l02Plain (s, l, nx, es) = some (okPlain s l nx es) := by
  unfold spec_l02Plain okPlain
  simp only [in64, Option.bind_some]
  have := rounds_all (f := spec_l02Plain_B1 (s, l, nx, es)) (fun i => ((i : Nat) : Int)) (fun i => decide (nx.getD i 0 ≥ 0) && decide (nx.getD i 0 ≤ wsub .i64 s 1)) (Sum.inl ()) (Sum.inr ()) (n := nx.length) (fun i hi => by
    unfold spec_l02Plain_B1
    simp only [ltN hi, cond_true, guard_pos (idxN hi), Int.toNat_natCast, in64, Option.bind_some, nextN hi h]
    cases (decide (nx.getD i 0 ≥ 0) && decide (nx.getD i 0 ≤ wsub .i64 s 1)) <;> rfl) (by
    unfold spec_l02Plain_B1
    simp only [geN (Nat.le_refl _), cond_false]) nx.length 0 (by omega)
  rw [allN_in] at this
  simp only [Int.natCast_zero] at this
  simp only [this, Option.bind_some, bne]
  cases (decide (s ≥ 1) && decide (s ≤ 64)) <;> cases (decide (l ≥ 1) && decide (l ≤ 4)) <;> cases (lenI nx == wmul .i64 s l) <;> cases (lenI es == s) <;> cases allIn nx 0 (wsub .i64 s 1) <;> rfl

theorem implPlain {s l : Int} {nx : List Int} {es : List Bool} (h : nx.length ≤ 4294967296) : impl_ValidPlain (s, l, nx, es) = some (okPlain s l nx es) := by
  unfold impl_ValidPlain okPlain
  simp only [within64, areWithin64 h, Option.bind_some]
  cases (decide (s ≥ 1) && decide (s ≤ 64)) <;> cases (decide (l ≥ 1) && decide (l ≤ 4)) <;> cases (lenI nx == wmul .i64 s l) <;> cases (lenI es == s) <;> cases allIn nx 0 (wsub .i64 s 1) <;> rfl

theorem okPlain_spec {s l : Int} {nx : List Int} {es : List Bool} (h : okPlain s l nx es = true) : ∃ m c : Nat, s = (m : Int) ∧ l = (c : Int) ∧ 1 ≤ m ∧ m ≤ 64 ∧ 1 ≤ c ∧ c ≤ 4 ∧ nx.length = m * c ∧ es.length = m ∧ ∀ i, i < m * c → ∃ t : Nat, nx.getD i 0 = (t : Int) ∧ t < m := by
  unfold okPlain at h
  simp only [Bool.and_eq_true, decide_eq_true_eq, beq_iff_eq] at h
  obtain ⟨⟨h1, h2⟩, ⟨h3, h4⟩, h5, h6, h7⟩ := h
  obtain ⟨m, rfl⟩ : ∃ n : Nat, s = (n : Int) := ⟨s.toNat, by omega⟩
  obtain ⟨c, rfl⟩ : ∃ n : Nat, l = (n : Int) := ⟨l.toNat, by omega⟩
  have hmc : m * c ≤ 64 * 4 := Nat.mul_le_mul (by omega) (by omega)
  rw [wmulI (by rw [← Int.natCast_mul]; omega), ← Int.natCast_mul] at h5
  have hl : nx.length = m * c := by simp only [lenI] at h5; omega
  refine ⟨m, c, rfl, rfl, by omega, by omega, by omega, by omega, hl, by simp only [lenI] at h6; omega, fun i hi => ?_⟩
  have := allIn_iff.1 h7 i (by omega)
  rw [wsubI (by omega)] at this
  exact ⟨(nx.getD i 0).toNat, by omega, by omega⟩

/-- A loop's words are words. -/
def okLoop (xs ys : List Int) (L : Int) : Bool := (decide (L ≥ 1) && decide (L ≤ 4)) && ((allIn xs 0 (wsub .i64 L 1) && decide (lenI xs ≤ 12)) && ((allIn ys 0 (wsub .i64 L 1) && decide (lenI ys ≤ 12)) && decide (lenI ys ≥ 1)))

theorem specLoop {xs ys : List Int} {L : Int} (hx : xs.length ≤ 4294967296) (hy : ys.length ≤ 4294967296) : spec_l07Loop (xs, ys) L = some (okLoop xs ys L) := by
  unfold spec_l07Loop okLoop
  simp only [in64, word64 hx, word64 hy, Option.bind_some]
  cases (decide (L ≥ 1) && decide (L ≤ 4)) <;> cases (allIn xs 0 (wsub .i64 L 1) && decide (lenI xs ≤ 12)) <;> cases (allIn ys 0 (wsub .i64 L 1) && decide (lenI ys ≤ 12)) <;> simp

theorem implLoop {xs ys : List Int} {L : Int} (hx : xs.length ≤ 4294967296) (hy : ys.length ≤ 4294967296) : impl_ValidLoop (xs, ys) L = some (okLoop xs ys L) := by
  unfold impl_ValidLoop okLoop
  have e : decide (lenI ys > 0) = decide (lenI ys ≥ 1) := by simp [lenI]; omega
  simp only [isWord64 hx, isWord64 hy, Option.bind_some, e]
  cases (decide (L ≥ 1) && decide (L ≤ 4)) <;> cases allIn xs 0 (wsub .i64 L 1) <;> cases decide (lenI xs ≤ 12) <;> cases allIn ys 0 (wsub .i64 L 1) <;> cases decide (lenI ys ≤ 12) <;> simp

/-- A list's numbers are letters. -/
def Letters (c : Nat) (xs : List Int) : Prop := ∀ i, i < xs.length → ∃ a : Nat, xs.getD i 0 = (a : Int) ∧ a < c

theorem okLoop_spec {xs ys : List Int} {c : Nat} (h : okLoop xs ys (c : Int) = true) : xs.length ≤ 12 ∧ ys.length ≤ 12 ∧ 1 ≤ ys.length ∧ Letters c xs ∧ Letters c ys := by
  unfold okLoop at h
  simp only [Bool.and_eq_true, decide_eq_true_eq, lenI] at h
  obtain ⟨⟨h1, h2⟩, ⟨h3, h4⟩, ⟨h5, h6⟩, h7⟩ := h
  rw [wsubI (by omega)] at h3 h5
  refine ⟨by omega, by omega, by omega, fun i hi => ?_, fun i hi => ?_⟩
  · have := allIn_iff.1 h3 i hi
    exact ⟨(xs.getD i 0).toNat, by omega, by omega⟩
  · have := allIn_iff.1 h5 i hi
    exact ⟨(ys.getD i 0).toNat, by omega, by omega⟩

/-- A valid machine. -/
structure Plain (m c : Nat) (nx : List Int) (es : List Bool) : Prop where
  m1 : 1 ≤ m
  m2 : m ≤ 64
  c1 : 1 ≤ c
  c2 : c ≤ 4
  len : nx.length = m * c
  ends : es.length = m
  to : ∀ i, i < m * c → ∃ t : Nat, nx.getD i 0 = (t : Int) ∧ t < m

/-- The next state. -/
def goP (c : Nat) (nx : List Int) (s : Nat) (a : Int) : Nat := (nx.getD (s * c + a.toNat) 0).toNat

def walkP (c : Nat) (nx : List Int) (s : Nat) (w : List Int) : Nat := w.foldl (goP c nx) s

theorem place_lt {m c s a : Nat} (hs : s < m) (ha : a < c) : s * c + a < m * c := by
  have : s * c + c ≤ m * c := by
    rw [← Nat.succ_mul]
    exact Nat.mul_le_mul_right c hs
  omega

section
variable {m c : Nat} {nx : List Int} {es : List Bool} (hp : Plain m c nx es)
include hp

theorem goP_lt {s : Nat} {a : Int} {k : Nat} (hs : s < m) (ha : a = (k : Int)) (hk : k < c) : goP c nx s a < m := by
  subst ha
  obtain ⟨t, h1, h2⟩ := hp.to (s * c + k) (place_lt hs hk)
  unfold goP
  rw [Int.toNat_natCast, h1]
  simpa using h2

theorem spec_go {s : Nat} {a : Int} {k : Nat} (hs : s < m) (ha : a = (k : Int)) (hk : k < c) : spec_l07Go ((m : Int), (c : Int), nx, es) (s : Int) a = some ((goP c nx s a : Nat) : Int) := by
  subst ha
  have h0 := place_lt hs hk
  have hmc : m * c ≤ 64 * 4 := Nat.mul_le_mul hp.m2 hp.c2
  obtain ⟨t, h1, h2⟩ := hp.to (s * c + k) h0
  have := hp.m2; have := hp.c2; have := hp.len
  have e : wadd .i64 (wmul .i64 (s : Int) (c : Int)) (k : Int) = ((s * c + k : Nat) : Int) := cellN (by omega) (by omega) (by omega)
  unfold spec_l07Go goP
  simp only [e, Int.toNat_natCast, guard_pos (show (0 : Int) ≤ ((s * c + k : Nat) : Int) ∧ ((s * c + k : Nat) : Int) < lenI nx from by simp only [lenI]; omega), h1]

theorem impl_go {s : Nat} {a : Int} {k : Nat} (hs : s < m) (ha : a = (k : Int)) (hk : k < c) : impl_Plain_to ((m : Int), (c : Int), nx, es) (s : Int) a = some ((goP c nx s a : Nat) : Int) := by
  subst ha
  have h0 := place_lt hs hk
  have hmc : m * c ≤ 64 * 4 := Nat.mul_le_mul hp.m2 hp.c2
  obtain ⟨t, h1, h2⟩ := hp.to (s * c + k) h0
  have := hp.m2; have := hp.c2; have := hp.len
  have e : wadd .i64 (wmul .i64 (s : Int) (c : Int)) (k : Int) = ((s * c + k : Nat) : Int) := cellN (by omega) (by omega) (by omega)
  unfold impl_Plain_to goP
  simp only [e, Int.toNat_natCast, guard_pos (show (0 : Int) ≤ ((s * c + k : Nat) : Int) ∧ ((s * c + k : Nat) : Int) < lenI nx from by simp only [lenI]; omega), h1]

theorem walk_lt {w : List Int} (hw : Letters c w) : ∀ (k : Nat) {s : Nat}, s < m → walkP c nx s (w.take k) < m := by
  intro k
  induction k with
  | zero => intro s hs; simpa [walkP] using hs
  | succ k ih =>
    intro s hs
    by_cases hk : k < w.length
    · rw [take_snoc hk 0]
      unfold walkP
      rw [List.foldl_append]
      obtain ⟨a, e, ha⟩ := hw k hk
      exact goP_lt hp (ih hs) e ha
    · have e : w.take (k + 1) = w.take k := by rw [List.take_of_length_le (by omega), List.take_of_length_le (by omega)]
      rw [e]; exact ih hs

end

theorem walk_succ {c : Nat} {nx w : List Int} {s k : Nat} (hk : k < w.length) : walkP c nx s (w.take (k + 1)) = goP c nx (walkP c nx s (w.take k)) (w.getD k 0) := by
  rw [take_snoc hk 0]; unfold walkP; rw [List.foldl_append]; rfl

end Go.Proofs


/-
  Models of chances: when they are valid.
-/
namespace Go.Proofs
open Go.Ide Go.IntWalk

/-- A chance. -/
def share (x : Nat) : Bool := fge .f32 x 0 && fle .f32 x 1065353216

theorem specShare (x : Nat) : spec_l02Share x = some (share x) := by
  unfold spec_l02Share share
  cases fge .f32 x 0 <;> rfl

theorem bd_share {x : Nat} (h : share x = true) : bd x 127 := by
  unfold share at h
  rw [Bool.and_eq_true] at h
  exact share_bd h.1 h.2

/-- Nearly one. -/
def nearOne (s : Nat) : Bool := fle .f32 (fop .sub .f32 s 1065353216) 981668463 && fge .f32 (fop .sub .f32 s 1065353216) 3129152111

theorem absOne (s : Nat) : (impl_absolute (fop .sub .f32 s 1065353216)).bind (fun y => some (fle .f32 y 981668463)) = some (nearOne s) := by
  unfold nearOne
  rw [near_abs (c := 981668463) (nc := 3129152111) (mc := 8388608 + 981668463 % 8388608) (pc := -149 + ((981668463 / 8388608 - 1 : Nat) : Int)) (by decide) (by decide)]
  unfold impl_absolute
  cases flt .f32 (fop .sub .f32 s 1065353216) 0 <;> rfl

/-- The sum of the first i, added up from the first. -/
def sumF (xs : List Nat) : Nat → Nat
  | 0 => 0
  | i + 1 => fop .add .f32 (sumF xs i) (xs.getD i 0)

def okRow (xs : List Nat) : Bool := allN (fun i => share (xs.getD i 0)) xs.length 0 && nearOne (sumF xs xs.length)

theorem allN_snoc (p : Nat → Bool) : ∀ k i, allN p (k + 1) i = (allN p k i && p (i + k))
  | 0, i => by simp [allN]
  | k + 1, i => by
    rw [allN, allN_snoc p k (i + 1), allN, show i + 1 + k = i + (k + 1) by omega, Bool.and_assoc]

theorem specRow {xs : List Nat} (h : xs.length ≤ 4294967296) : spec_l03Row xs = some (okRow xs) := by
  have hf : ∀ k i, i + k = xs.length → rounds (spec_l03Row_B1 xs) (sumF xs i, (i : Int)) = some (bif allN (fun i => share (xs.getD i 0)) k i then .inl (sumF xs xs.length) else .inr ()) := by
    intro k
    induction k with
    | zero =>
      intro i hi
      have : i = xs.length := by omega
      subst this
      rw [rounds_eq]
      have : spec_l03Row_B1 xs (sumF xs xs.length, (xs.length : Int)) = some (.inr (.inl (sumF xs xs.length))) := by
        unfold spec_l03Row_B1
        simp only [geN (Nat.le_refl _), cond_false]
      rw [this]
      rfl
    | succ k ih =>
      intro i hi
      have hlt : i < xs.length := by omega
      rw [rounds_eq]
      have : spec_l03Row_B1 xs (sumF xs i, (i : Int)) = some (bif share (xs.getD i 0) then .inl (sumF xs (i + 1), ((i + 1 : Nat) : Int)) else .inr (.inr ())) := by
        unfold spec_l03Row_B1
        simp only [ltN hlt, cond_true, guard_pos (idxN hlt), Int.toNat_natCast, specShare, Option.bind_some, nextN hlt h]
        cases share (xs.getD i 0) <;> rfl
      rw [this, allN]
      cases hs : share (xs.getD i 0) with
      | true => exact ih (i + 1) (by omega)
      | false => rfl
  unfold spec_l03Row okRow
  have := hf xs.length 0 (by omega)
  simp only [sumF, Int.natCast_zero] at this
  rw [this]
  unfold nearOne
  cases allN (fun i => share (xs.getD i 0)) xs.length 0 with
  | false => rfl
  | true =>
    simp only [cond_true, Option.bind_some, Bool.true_and]
    cases fle .f32 (fop .sub .f32 (sumF xs xs.length) 1065353216) 981668463 <;> rfl

theorem implSum {xs : List Nat} (h : xs.length ≤ 4294967296) : impl_addUp xs = some (sumF xs xs.length) := by
  have := rounds_forS (f := impl_addUp_B1 xs) (fun i s => (s, ((i : Nat) : Int))) (fun i s => fop .add .f32 s (xs.getD i 0)) id (n := xs.length) (fun i s => s = sumF xs i)
    (fun i s hi hs => ⟨by
      unfold impl_addUp_B1
      simp only [ltN hi, cond_true, guard_pos (idxN hi), Int.toNat_natCast, nextN hi h], by rw [hs]; rfl⟩)
    (fun s hs => by
      unfold impl_addUp_B1
      simp only [geN (Nat.le_refl _), cond_false]; rfl) xs.length 0 0 (by omega) rfl
  unfold impl_addUp
  simp only [Int.natCast_zero] at this
  rw [this.1]
  simp only [id, Option.bind_some, this.2]

theorem implRow {xs : List Nat} (h : xs.length ≤ 4294967296) : impl_areChances xs = some (okRow xs) := by
  unfold impl_areChances okRow
  have := rounds_all (f := impl_areChances_B1 xs) (fun i => ((i : Nat) : Int)) (fun i => share (xs.getD i 0)) (Sum.inl ()) (Sum.inr ()) (n := xs.length) (fun i hi => by
    unfold impl_areChances_B1
    simp only [ltN hi, cond_true, guard_pos (idxN hi), Int.toNat_natCast, nextN hi h]
    unfold share
    cases fge .f32 (xs.getD i 0) 0 <;> cases fle .f32 (xs.getD i 0) 1065353216 <;> rfl) (by
    unfold impl_areChances_B1
    simp only [geN (Nat.le_refl _), cond_false]) xs.length 0 (by omega)
  simp only [Int.natCast_zero] at this
  rw [this]
  cases allN (fun i => share (xs.getD i 0)) xs.length 0 with
  | false => rfl
  | true =>
    simp only [cond_true, Option.bind_some, Bool.true_and, implSum h]
    exact absOne _

/-- Row i of rows of w numbers. -/
def rowF (xs : List Nat) (w i : Nat) : List Nat := (xs.drop (i * w)).take w

theorem rowF_len {xs : List Nat} {w i n : Nat} (h : xs.length = n * w) (hi : i < n) : (rowF xs w i).length = w := by
  have : (i + 1) * w ≤ n * w := Nat.mul_le_mul_right _ hi
  rw [Nat.succ_mul] at this
  unfold rowF
  simp; omega

theorem rowF_get {xs : List Nat} {w i n k : Nat} (h : xs.length = n * w) (hi : i < n) (hk : k < w) : (rowF xs w i).getD k 0 = xs.getD (i * w + k) 0 := by
  unfold rowF
  simp only [List.getD_eq_getElem?_getD]
  rw [List.getElem?_take_of_lt hk, List.getElem?_drop]

/-- A model is as it must be. -/
def okModel (n k : Int) (fs ss hs : List Nat) : Bool :=
  (decide (n ≥ 1) && decide (n ≤ 5)) && ((decide (k ≥ 1) && decide (k ≤ 4)) && ((lenI fs == n) && ((lenI ss == wmul .i64 n n) && ((lenI hs == wmul .i64 n k) && (okRow fs &&
    (allN (fun i => okRow (rowF ss n.toNat i)) n.toNat 0 && allN (fun i => okRow (rowF hs k.toNat i)) n.toNat 0))))))

theorem allN_and (p q : Nat → Bool) : ∀ k i, allN (fun i => p i && q i) k i = (allN p k i && allN q k i)
  | 0, _ => rfl
  | k + 1, i => by
    simp only [allN, allN_and p q k (i + 1)]
    cases p i <;> cases q i <;> cases allN p k (i + 1) <;> cases allN q k (i + 1) <;> rfl

theorem cutRow {xs : List Nat} {w n i : Nat} (hn : n ≤ 1000) (hw : w ≤ 1000) (hi : i < n) : cut xs (wmul .i64 (i : Int) (w : Int)) (wadd .i64 (wmul .i64 (i : Int) (w : Int)) (w : Int)) = rowF xs w i ∧
    wmul .i64 (i : Int) (w : Int) = ((i * w : Nat) : Int) ∧ wadd .i64 (wmul .i64 (i : Int) (w : Int)) (w : Int) = ((i * w + w : Nat) : Int) ∧ wmul .i64 (wadd .i64 (i : Int) 1) (w : Int) = ((i * w + w : Nat) : Int) := by
  have h1 : i * w ≤ 1000 * 1000 := Nat.mul_le_mul (by omega) hw
  have h2 : (i + 1) * w ≤ 1001 * 1000 := Nat.mul_le_mul (by omega) hw
  rw [Nat.succ_mul] at h2
  have e1 : wmul .i64 (i : Int) (w : Int) = ((i * w : Nat) : Int) := by rw [wmulI (by rw [← Int.natCast_mul]; omega), ← Int.natCast_mul]
  have e2 : wadd .i64 ((i * w : Nat) : Int) (w : Int) = ((i * w + w : Nat) : Int) := by rw [waddI (by omega)]; omega
  have e3 : wmul .i64 (wadd .i64 (i : Int) 1) (w : Int) = ((i * w + w : Nat) : Int) := by
    rw [waddI (by omega), show (i : Int) + 1 = ((i + 1 : Nat) : Int) by omega, wmulI (by rw [← Int.natCast_mul, Nat.succ_mul]; omega), ← Int.natCast_mul, Nat.succ_mul]
  refine ⟨?_, e1, by rw [e1, e2], e3⟩
  rw [e1, e2]
  unfold cut rowF
  simp only [Int.toNat_natCast]
  rw [show i * w + w - i * w = w by omega]

theorem row_in {xs : List Nat} {w n i : Nat} (h : xs.length = n * w) (hi : i < n) : i * w + w ≤ xs.length := by
  have : (i + 1) * w ≤ n * w := Nat.mul_le_mul_right _ hi
  rw [Nat.succ_mul] at this
  omega

theorem implRows {xs : List Nat} {n w : Nat} (hn : n ≤ 1000) (hw : w ≤ 1000) : impl_areRows xs (n : Int) (w : Int) = some ((lenI xs == wmul .i64 (n : Int) (w : Int)) && allN (fun i => okRow (rowF xs w i)) n 0) := by
  unfold impl_areRows
  have e : wmul .i64 (n : Int) (w : Int) = ((n * w : Nat) : Int) := by
    have : n * w ≤ 1000 * 1000 := Nat.mul_le_mul hn hw
    rw [wmulI (by rw [← Int.natCast_mul]; omega), ← Int.natCast_mul]
  cases hl : (lenI xs == wmul .i64 (n : Int) (w : Int)) with
  | false => simp [bne, hl]
  | true =>
    have hlen : xs.length = n * w := by
      rw [e] at hl
      have := eq_of_beq hl
      simp only [lenI] at this
      omega
    have := rounds_all (f := impl_areRows_B1 xs (n : Int) (w : Int)) (fun i => ((i : Nat) : Int)) (fun i => okRow (rowF xs w i)) (Sum.inl ()) (Sum.inr ()) (n := n) (fun i hi => by
      obtain ⟨c1, c2, c3, c4⟩ := cutRow (xs := xs) hn hw hi
      have hin := row_in hlen hi
      unfold impl_areRows_B1 impl_rowOf_float32
      rw [c3, c2] at c1
      simp only [ltN hi, cond_true, c2, c4, c1]
      rw [guard_pos ⟨by omega, by omega, by omega, by simp only [lenI]; omega⟩]
      have hr : (rowF xs w i).length ≤ 4294967296 := by rw [rowF_len hlen hi]; omega
      simp only [Option.bind_some, implRow hr, nextN hi (by omega)]
      cases okRow (rowF xs w i) <;> rfl) (by
      unfold impl_areRows_B1
      simp only [geN (Nat.le_refl _), cond_false]) n 0 (by omega)
    simp only [Int.natCast_zero] at this
    simp only [bne, hl, Bool.not_true, cond_false, this, Option.bind_some, Bool.true_and]
    cases allN (fun i => okRow (rowF xs w i)) n 0 <;> rfl

theorem rowF_all {xs : List Nat} {n : Nat} (h : xs.length = n) : rowF xs n 0 = xs := by
  unfold rowF
  rw [Nat.zero_mul, List.drop_zero, ← h, List.take_length]

theorem implModel {n k : Int} {fs ss hs : List Nat} : impl_ValidModel (n, k, fs, ss, hs) = some (okModel n k fs ss hs) := by
  unfold impl_ValidModel okModel
  simp only [within64, Option.bind_some]
  cases hn : (decide (n ≥ 1) && decide (n ≤ 5)) with
  | false => rfl
  | true =>
    cases hk : (decide (k ≥ 1) && decide (k ≤ 4)) with
    | false => rfl
    | true =>
      simp only [Bool.and_eq_true, decide_eq_true_eq] at hn hk
      obtain ⟨a, rfl⟩ : ∃ a : Nat, n = (a : Int) := ⟨n.toNat, by omega⟩
      obtain ⟨b, rfl⟩ : ∃ b : Nat, k = (b : Int) := ⟨k.toNat, by omega⟩
      have e1 := implRows (xs := fs) (n := 1) (w := a) (by omega) (by omega)
      have e0 : wmul .i64 ((1 : Nat) : Int) (a : Int) = (a : Int) := by rw [wmulI (by omega)]; omega
      rw [e0] at e1
      have e2 := implRows (xs := ss) (n := a) (w := a) (by omega) (by omega)
      have e3 := implRows (xs := hs) (n := a) (w := b) (by omega) (by omega)
      simp only [Int.natCast_one] at e1
      simp only [e1, e2, e3, cond_true, Option.bind_some, Int.toNat_natCast, Bool.true_and]
      have hr : lenI fs = (a : Int) → allN (fun i => okRow (rowF fs a i)) 1 0 = okRow fs := by
        intro h
        simp only [allN, Bool.and_true]
        rw [rowF_all (by simp only [lenI] at h; omega)]
      cases h1 : (lenI fs == (a : Int)) with
      | false => rfl
      | true =>
        rw [hr (eq_of_beq h1)]
        cases okRow fs <;> cases (lenI ss == wmul .i64 (a : Int) (a : Int)) <;> cases (lenI hs == wmul .i64 (a : Int) (b : Int)) <;> cases allN (fun i => okRow (rowF ss a i)) a 0 <;> cases allN (fun i => okRow (rowF hs b i)) a 0 <;> rfl

theorem specModel {n k : Int} {fs ss hs : List Nat} : spec_l03Is (n, k, fs, ss, hs) = some (okModel n k fs ss hs) := by
  unfold spec_l03Is okModel
  simp only [in64, Option.bind_some]
  cases hn : (decide (n ≥ 1) && decide (n ≤ 5)) with
  | false => rfl
  | true =>
    cases hk : (decide (k ≥ 1) && decide (k ≤ 4)) with
    | false => rfl
    | true =>
      simp only [Bool.and_eq_true, decide_eq_true_eq] at hn hk
      obtain ⟨a, rfl⟩ : ∃ a : Nat, n = (a : Int) := ⟨n.toNat, by omega⟩
      obtain ⟨b, rfl⟩ : ∃ b : Nat, k = (b : Int) := ⟨k.toNat, by omega⟩
      simp only [bne, Bool.not_true, cond_false, Bool.true_and, Int.toNat_natCast]
      cases h1 : (lenI fs == (a : Int)) with
      | false => rfl
      | true =>
        cases h2 : (lenI ss == wmul .i64 (a : Int) (a : Int)) with
        | false => rfl
        | true =>
          cases h3 : (lenI hs == wmul .i64 (a : Int) (b : Int)) with
          | false => rfl
          | true =>
            have m1 : a * a ≤ 5 * 5 := Nat.mul_le_mul (by omega) (by omega)
            have m2 : a * b ≤ 5 * 4 := Nat.mul_le_mul (by omega) (by omega)
            have l1 : fs.length = a := by have := eq_of_beq h1; simp only [lenI] at this; omega
            have l2 : ss.length = a * a := by
              have := eq_of_beq h2
              rw [wmulI (by rw [← Int.natCast_mul]; omega), ← Int.natCast_mul] at this
              simp only [lenI] at this; omega
            have l3 : hs.length = a * b := by
              have := eq_of_beq h3
              rw [wmulI (by rw [← Int.natCast_mul]; omega), ← Int.natCast_mul] at this
              simp only [lenI] at this; omega
            have := rounds_all (f := spec_l03Is_B1 ((a : Int), (b : Int), fs, ss, hs)) (fun i => ((i : Nat) : Int)) (fun i => okRow (rowF ss a i) && okRow (rowF hs b i)) (Sum.inl ()) (Sum.inr ()) (n := a) (fun i hi => by
              obtain ⟨c1, c2, c3, c4⟩ := cutRow (xs := ss) (w := a) (n := a) (by omega) (by omega) hi
              obtain ⟨d1, d2, d3, d4⟩ := cutRow (xs := hs) (w := b) (n := a) (by omega) (by omega) hi
              have hin := row_in l2 hi
              have hin2 := row_in l3 hi
              rw [c3, c2] at c1
              rw [d3, d2] at d1
              have hr : (rowF ss a i).length ≤ 4294967296 := by rw [rowF_len l2 hi]; omega
              have hr2 : (rowF hs b i).length ≤ 4294967296 := by rw [rowF_len l3 hi]; omega
              unfold spec_l03Is_B1
              simp only [ltN hi, cond_true]
              rw [c3, c2, c1, guard_pos ⟨by omega, by omega, by simp only [lenI]; omega⟩, specRow hr]
              simp only [Option.bind_some]
              rw [d3, d2, d1, guard_pos ⟨by omega, by omega, by simp only [lenI]; omega⟩, specRow hr2]
              simp only [Option.bind_some, nextN hi (show a ≤ 4294967296 by omega)]
              cases okRow (rowF ss a i) <;> cases okRow (rowF hs b i) <;> rfl) (by
              unfold spec_l03Is_B1
              simp only [geN (Nat.le_refl _), cond_false]) a 0 (by omega)
            simp only [Int.natCast_zero] at this
            rw [allN_and] at this
            simp only [specRow (xs := fs) (by omega), Option.bind_some, Bool.not_true, cond_false]
            cases okRow fs with
            | false => rfl
            | true =>
              simp only [Bool.not_true, cond_false, Option.bind_some, this, Bool.true_and]
              cases allN (fun i => okRow (rowF ss a i)) a 0 <;> cases allN (fun i => okRow (rowF hs b i)) a 0 <;> rfl

end Go.Proofs


/-
  Valid models and their words; HiddenChance.
-/
namespace Go.Proofs
open Go.Ide Go.IntWalk

structure Model (a b : Nat) (fs ss hs : List Nat) : Prop where
  n1 : 1 ≤ a
  n2 : a ≤ 5
  k1 : 1 ≤ b
  k2 : b ≤ 4
  lf : fs.length = a
  ls : ss.length = a * a
  lh : hs.length = a * b
  sf : ∀ i, i < a → bd (fs.getD i 0) 127
  st : ∀ i j, i < a → j < a → bd (ss.getD (i * a + j) 0) 127
  sh : ∀ i j, i < a → j < b → bd (hs.getD (i * b + j) 0) 127

theorem okRow_bd {xs : List Nat} (h : okRow xs = true) {i : Nat} (hi : i < xs.length) : bd (xs.getD i 0) 127 := by
  unfold okRow at h
  rw [Bool.and_eq_true] at h
  exact bd_share (allN_iff.1 h.1 i (by omega) (by omega))

theorem model_of {n k : Int} {fs ss hs : List Nat} (h : okModel n k fs ss hs = true) : ∃ a b : Nat, n = (a : Int) ∧ k = (b : Int) ∧ Model a b fs ss hs := by
  unfold okModel at h
  simp only [Bool.and_eq_true, decide_eq_true_eq, beq_iff_eq] at h
  obtain ⟨⟨h1, h2⟩, ⟨h3, h4⟩, h5, h6, h7, h8, h9, h10⟩ := h
  obtain ⟨a, rfl⟩ : ∃ a : Nat, n = (a : Int) := ⟨n.toNat, by omega⟩
  obtain ⟨b, rfl⟩ : ∃ b : Nat, k = (b : Int) := ⟨k.toNat, by omega⟩
  have m1 : a * a ≤ 5 * 5 := Nat.mul_le_mul (by omega) (by omega)
  have m2 : a * b ≤ 5 * 4 := Nat.mul_le_mul (by omega) (by omega)
  rw [wmulI (by rw [← Int.natCast_mul]; omega), ← Int.natCast_mul] at h6
  rw [wmulI (by rw [← Int.natCast_mul]; omega), ← Int.natCast_mul] at h7
  simp only [lenI] at h5 h6 h7
  have l1 : fs.length = a := by omega
  have l2 : ss.length = a * a := by omega
  have l3 : hs.length = a * b := by omega
  simp only [Int.toNat_natCast] at h9 h10
  refine ⟨a, b, rfl, rfl, by omega, by omega, by omega, by omega, l1, l2, l3, fun i hi => okRow_bd h8 (by omega), fun i j hi hj => ?_, fun i j hi hj => ?_⟩
  · rw [← rowF_get l2 hi hj]
    exact okRow_bd (allN_iff.1 h9 i (by omega) (by omega)) (by rw [rowF_len l2 hi]; exact hj)
  · rw [← rowF_get l3 hi hj]
    exact okRow_bd (allN_iff.1 h10 i (by omega) (by omega)) (by rw [rowF_len l3 hi]; exact hj)

/-- A word of a model. -/
def okMWord (n k : Int) (fs ss hs : List Nat) (w : List Int) : Bool := okModel n k fs ss hs && (allIn w 0 (wsub .i64 k 1) && decide (lenI w ≤ 12))

theorem specMWord {n k : Int} {fs ss hs : List Nat} {w : List Int} (h : w.length ≤ 4294967296) : spec_l03Word (n, k, fs, ss, hs) w = some (okMWord n k fs ss hs w) := by
  unfold spec_l03Word okMWord
  simp only [specModel, word64 h, Option.bind_some]
  cases okModel n k fs ss hs <;> rfl

theorem implMWord {n k : Int} {fs ss hs : List Nat} {w : List Int} (h : w.length ≤ 4294967296) : impl_Model_has (n, k, fs, ss, hs) w = some (okMWord n k fs ss hs w) := by
  unfold impl_Model_has okMWord
  simp only [implModel, isWord64 h, Option.bind_some]
  cases hm : okModel n k fs ss hs with
  | false => rfl
  | true =>
    obtain ⟨a, b, rfl, rfl, m⟩ := model_of hm
    have := m.k1
    have := m.k2
    rw [decide_eq_true (show (b : Int) ≥ 1 by omega), decide_eq_true (show (b : Int) ≤ 4 by omega)]
    cases allIn w 0 (wsub .i64 (b : Int) 1) <;> cases decide (lenI w ≤ 12) <;> rfl

theorem mword_of {n k : Int} {fs ss hs : List Nat} {w : List Int} (h : okMWord n k fs ss hs w = true) : ∃ a b : Nat, n = (a : Int) ∧ k = (b : Int) ∧ Model a b fs ss hs ∧ w.length ≤ 12 ∧ Letters b w := by
  unfold okMWord at h
  simp only [Bool.and_eq_true, decide_eq_true_eq, lenI] at h
  obtain ⟨h1, h2, h3⟩ := h
  obtain ⟨a, b, rfl, rfl, m⟩ := model_of h1
  have := m.k1
  have := m.k2
  rw [wsubI (by omega)] at h2
  refine ⟨a, b, rfl, rfl, m, by omega, fun i hi => ?_⟩
  have := allIn_iff.1 h2 i hi
  exact ⟨(w.getD i 0).toNat, by omega, by omega⟩

/-- Hidden states of a word. -/
def okStates (n : Int) (w s : List Int) : Bool := allIn s 0 (wsub .i64 n 1) && (lenI s == wadd .i64 (lenI w) 1)

theorem implMStates {n k : Int} {fs ss hs : List Nat} {w s : List Int} (h : s.length ≤ 4294967296) : impl_Model_areHidden (n, k, fs, ss, hs) w s = some (okStates n w s) := by
  unfold impl_Model_areHidden okStates
  simp only [areWithin64 h, Option.bind_some]
  cases (lenI s == wadd .i64 (lenI w) 1) <;> cases allIn s 0 (wsub .i64 n 1) <;> rfl

theorem states_of {a : Nat} {w s : List Int} (ha : 1 ≤ a) (ha2 : a ≤ 5) (hw : w.length ≤ 12) (h : okStates (a : Int) w s = true) : s.length = w.length + 1 ∧ Letters a s := by
  unfold okStates at h
  simp only [Bool.and_eq_true, beq_iff_eq, lenI] at h
  rw [wsubI (by omega), waddI (by omega)] at h
  refine ⟨by omega, fun i hi => ?_⟩
  have := allIn_iff.1 h.1 i hi
  exact ⟨(s.getD i 0).toNat, by omega, by omega⟩

theorem cellM {a b i j : Nat} (ha : a ≤ 5) (hb : b ≤ 5) (hi : i < a) (hj : j < b) : wadd .i64 (wmul .i64 (i : Int) (b : Int)) (j : Int) = ((i * b + j : Nat) : Int) ∧ i * b + j < a * b := by
  refine ⟨cellN (by omega) (by omega) (by omega), ?_⟩
  have : (i + 1) * b ≤ a * b := Nat.mul_le_mul_right _ hi
  rw [Nat.succ_mul] at this
  omega

/-- A finite number is told. -/
theorem finite_bd {x : Nat} {K : Nat} (h : bd x K) (h2 : 2 ≤ K) (h3 : K ≤ 254) : impl_finite x = some (x, true) := by
  unfold impl_finite impl_IsFinite
  rw [sub_self32 h h2 h3]
  rfl

def hidStep (a b : Nat) (ss hs : List Nat) (w s : List Int) (i : Nat) (x : Nat) : Nat :=
  fop .mul .f32 (fop .mul .f32 x (hs.getD ((s.getD i 0).toNat * b + (w.getD i 0).toNat) 0)) (ss.getD ((s.getD i 0).toNat * a + (s.getD (i + 1) 0).toNat) 0)

theorem hid_bd {a b : Nat} {fs ss hs : List Nat} (m : Model a b fs ss hs) {w s : List Int} (hw : Letters b w) (hs' : Letters a s) (hl : s.length = w.length + 1) {i x : Nat} (hi : i < w.length) (hx : bd x 127) : bd (hidStep a b ss hs w s i x) 127 := by
  obtain ⟨c, hc, hc2⟩ := hw i hi
  obtain ⟨p, hp, hp2⟩ := hs' i (by omega)
  obtain ⟨q, hq, hq2⟩ := hs' (i + 1) (by omega)
  unfold hidStep
  rw [hc, hp, hq]
  simp only [Int.toNat_natCast]
  have h1 : bd (fop .mul .f32 x (hs.getD (p * b + c) 0)) 127 := bd_mul hx (m.sh p c hp2 hc2) (by omega) (by omega) (by omega) (by omega) (by omega) (by omega)
  exact bd_mul h1 (m.st p q hp2 hq2) (by omega) (by omega) (by omega) (by omega) (by omega) (by omega)

end Go.Proofs


/-
  The likeliest hidden states; BestHidden.
-/
namespace Go.Proofs
open Go.Ide Go.IntWalk

section
variable {a b : Nat} {fs ss hs : List Nat}

def bestT (a b : Nat) (ss hs row : List Nat) (c j p : Nat) : Nat := fop .mul .f32 (fop .mul .f32 (row.getD p 0) (hs.getD (p * b + c) 0)) (ss.getD (p * a + j) 0)

/-- The best of the first p, and its value. -/
def bestF (a b : Nat) (ss hs row : List Nat) (c j : Nat) : Nat → Nat × Nat
  | 0 => (0, 0)
  | p + 1 => bif (p == 0 || fgt .f32 (bestT a b ss hs row c j p) (bestF a b ss hs row c j p).2) then (p, bestT a b ss hs row c j p) else bestF a b ss hs row c j p

def bestRow (a b : Nat) (ss hs row : List Nat) (c : Nat) : List Nat := (List.range a).map fun j => (bestF a b ss hs row c j a).2
def bestBack (a b : Nat) (ss hs row : List Nat) (c : Nat) : List Int := (List.range a).map fun j => ((bestF a b ss hs row c j a).1 : Int)

theorem bestF_ok (m : Model a b fs ss hs) {row : List Nat} {c j : Nat} (hc : c < b) (hj : j < a) (h : ∀ i, i < a → bd (row.getD i 0) 127) : ∀ p, p ≤ a → (bestF a b ss hs row c j p).1 < a ∧ bd (bestF a b ss hs row c j p).2 127
  | 0, _ => ⟨m.n1, by show bd 0 127; unfold bd; omega⟩
  | p + 1, hp => by
    have ih := bestF_ok m hc hj h p (by omega)
    have h1 : bd (fop .mul .f32 (row.getD p 0) (hs.getD (p * b + c) 0)) 127 := bd_mul (h p (by omega)) (m.sh p c (by omega) hc) (by omega) (by omega) (by omega) (by omega) (by omega) (by omega)
    have h2 : bd (bestT a b ss hs row c j p) 127 := bd_mul h1 (m.st p j (by omega) hj) (by omega) (by omega) (by omega) (by omega) (by omega) (by omega)
    rw [bestF]
    cases (p == 0 || fgt .f32 (bestT a b ss hs row c j p) (bestF a b ss hs row c j p).2) with
    | true => exact ⟨by show p < a; omega, h2⟩
    | false => exact ih

/-- The rows of a word. -/
def bestAt (a b : Nat) (fs ss hs : List Nat) (w : List Int) : Nat → List Nat
  | 0 => fs
  | i + 1 => bestRow a b ss hs (bestAt a b fs ss hs w i) (w.getD i 0).toNat
def backAt (a b : Nat) (fs ss hs : List Nat) (w : List Int) (i : Nat) : List Int := bestBack a b ss hs (bestAt a b fs ss hs w i) (w.getD i 0).toNat

theorem bestAt_len (m : Model a b fs ss hs) (w : List Int) : ∀ i, (bestAt a b fs ss hs w i).length = a
  | 0 => m.lf
  | i + 1 => by simp [bestAt, bestRow]

theorem bestAt_bd (m : Model a b fs ss hs) {w : List Int} (hw : Letters b w) : ∀ i, i ≤ w.length → ∀ j, j < a → bd ((bestAt a b fs ss hs w i).getD j 0) 127
  | 0, _ => m.sf
  | i + 1, hi => fun j hj => by
    obtain ⟨c, hc, hc2⟩ := hw i (by omega)
    rw [bestAt, hc, Int.toNat_natCast]
    have := (bestF_ok m hc2 hj (bestAt_bd m hw i (by omega)) a (Nat.le_refl _)).2
    unfold bestRow
    simpa [List.getD_eq_getElem?_getD, hj] using this

theorem backAt_ok (m : Model a b fs ss hs) {w : List Int} (hw : Letters b w) {i : Nat} (hi : i < w.length) : (backAt a b fs ss hs w i).length = a ∧ Letters a (backAt a b fs ss hs w i) := by
  obtain ⟨c, hc, hc2⟩ := hw i hi
  have hl : (backAt a b fs ss hs w i).length = a := by simp [backAt, bestBack]
  refine ⟨hl, fun j hj => ?_⟩
  rw [hl] at hj
  refine ⟨(bestF a b ss hs (bestAt a b fs ss hs w i) c j a).1, ?_, (bestF_ok m hc2 hj (bestAt_bd m hw i (by omega)) a (Nat.le_refl _)).1⟩
  unfold backAt bestBack
  rw [hc, Int.toNat_natCast]
  simp [List.getD_eq_getElem?_getD, hj]

theorem specBestCell (m : Model a b fs ss hs) {row : List Nat} {w : List Int} {i c : Nat} (hi : i < w.length) (hwc : w.getD i 0 = (c : Int)) (hc : c < b) (hr : row.length = a) {j : Nat} (hj : j < a) (l1 : List (List Int)) (l2 : List Nat) (l3 : List Int) :
    rounds (spec_BestHidden_B3 ((a : Int), (b : Int), fs, ss, hs) w (row, (i : Int), l1) ((j : Int), l2, l3)) ((0 : Int), (0 : Nat), (0 : Int)) = some (((bestF a b ss hs row c j a).1 : Int), (bestF a b ss hs row c j a).2) := by
  have hn2 := m.n2
  have hk2 := m.k2
  have hls := m.ls
  have hlh := m.lh
  have r := rounds_forS (f := spec_BestHidden_B3 ((a : Int), (b : Int), fs, ss, hs) w (row, (i : Int), l1) ((j : Int), l2, l3)) (fun p (s : Nat × Nat) => ((s.1 : Int), s.2, ((p : Nat) : Int)))
    (fun p s => bif (p == 0 || fgt .f32 (bestT a b ss hs row c j p) s.2) then (p, bestT a b ss hs row c j p) else s) (fun s => ((s.1 : Int), s.2)) (n := a) (fun p s => s = bestF a b ss hs row c j p)
    (fun p s hp hs0 => ⟨by
      obtain ⟨e1, e2⟩ := cellM (a := a) (b := b) (by omega) (by omega) hp hc
      obtain ⟨e3, e4⟩ := cellM (a := a) (b := a) (by omega) (by omega) hp hj
      have j1 := idxN (i := p) (n := row.length) (by omega)
      have j3 := idxN (i := p * b + c) (n := hs.length) (by omega)
      have j4 := idxN (i := p * a + j) (n := ss.length) (by omega)
      have e5 : ((p : Int) == 0) = (p == 0) := by
        rw [Bool.eq_iff_iff, beq_iff_eq, beq_iff_eq]; omega
      unfold spec_BestHidden_B3
      simp only [ltN hp, cond_true, Int.toNat_natCast, nextN hp (show a ≤ 4294967296 by omega), hwc, e1, e3, e5, Option.bind_some]
      rw [guard_pos j1, guard_pos (idxN hi), guard_pos j3, guard_pos j4]
      unfold bestT
      cases hp0 : (p == 0) with
      | true => rfl
      | false =>
        cases hf : fgt .f32 (fop .mul .f32 (fop .mul .f32 (row.getD p 0) (hs.getD (p * b + c) 0)) (ss.getD (p * a + j) 0)) s.2 <;> simp [hf], by rw [hs0]; rfl⟩)
    (fun s _ => by
      unfold spec_BestHidden_B3
      simp only [geN (Nat.le_refl _), cond_false]) a 0 (0, 0) (by omega) rfl
  simp only [Int.natCast_zero] at r
  rw [r.1, r.2]

theorem specBestRow (m : Model a b fs ss hs) {row : List Nat} {w : List Int} {i c : Nat} (hi : i < w.length) (hwc : w.getD i 0 = (c : Int)) (hc : c < b) (hr : row.length = a) (l1 : List (List Int)) :
    rounds (spec_BestHidden_B4 ((a : Int), (b : Int), fs, ss, hs) w (row, (i : Int), l1)) ((0 : Int), ([] : List Nat), ([] : List Int)) = some (bestRow a b ss hs row c, bestBack a b ss hs row c) := by
  have hn2 := m.n2
  have r := rounds_forS (f := spec_BestHidden_B4 ((a : Int), (b : Int), fs, ss, hs) w (row, (i : Int), l1)) (fun j (s : List Nat × List Int) => (((j : Nat) : Int), s.1, s.2))
    (fun j s => (s.1 ++ [(bestF a b ss hs row c j a).2], s.2 ++ [((bestF a b ss hs row c j a).1 : Int)])) (fun s => (s.1, s.2)) (n := a) (fun j s => s = ((List.range j).map fun j => (bestF a b ss hs row c j a).2, (List.range j).map fun j => ((bestF a b ss hs row c j a).1 : Int)))
    (fun j s hj hs0 => ⟨by
      subst hs0
      unfold spec_BestHidden_B4
      simp only [ltN hj, cond_true, nextN hj (show a ≤ 4294967296 by omega), specBestCell m hi hwc hc hr hj, Option.bind_some]
      rw [guard_pos (by simp only [List.length_map, List.length_range, List.length_singleton, appMax]; omega), guard_pos (by simp only [List.length_map, List.length_range, List.length_singleton, appMax]; omega)], by
      subst hs0
      simp only [List.range_succ, List.map_append, List.map_cons, List.map_nil]⟩)
    (fun s _ => by
      unfold spec_BestHidden_B4
      simp only [geN (Nat.le_refl _), cond_false]) a 0 ([], []) (by omega) rfl
  simp only [Int.natCast_zero] at r
  rw [r.1, r.2]
  rfl

theorem specBestRows (m : Model a b fs ss hs) {w : List Int} (hw : Letters b w) (hl : w.length ≤ 12) :
    rounds (spec_BestHidden_B5 ((a : Int), (b : Int), fs, ss, hs) w) (fs, (0 : Int), ([] : List (List Int))) = some (bestAt a b fs ss hs w w.length, (List.range w.length).map (backAt a b fs ss hs w)) := by
  have r := rounds_forS (f := spec_BestHidden_B5 ((a : Int), (b : Int), fs, ss, hs) w) (fun i (s : List Nat × List (List Int)) => (s.1, ((i : Nat) : Int), s.2))
    (fun i s => (bestAt a b fs ss hs w (i + 1), s.2 ++ [backAt a b fs ss hs w i])) (fun s => (s.1, s.2)) (n := w.length) (fun i s => s = (bestAt a b fs ss hs w i, (List.range i).map (backAt a b fs ss hs w)))
    (fun i s hi hs0 => ⟨by
      subst hs0
      obtain ⟨c, hc, hc2⟩ := hw i hi
      unfold spec_BestHidden_B5
      simp only [ltN hi, cond_true, nextN hi (show w.length ≤ 4294967296 by omega), specBestRow m hi hc hc2 (bestAt_len m w i), Option.bind_some]
      rw [guard_pos (by simp only [List.length_map, List.length_range, List.length_singleton, appMax]; omega), bestAt, backAt, hc, Int.toNat_natCast], by
      subst hs0
      simp only [List.range_succ, List.map_append, List.map_cons, List.map_nil]⟩)
    (fun s _ => by
      unfold spec_BestHidden_B5
      simp only [geN (Nat.le_refl _), cond_false]) w.length 0 (fs, []) (by omega) rfl
  simp only [Int.natCast_zero] at r
  rw [r.1, r.2]

/-- The first place of the greatest. -/
def argF (row : List Nat) : Nat → Nat
  | 0 => 0
  | i + 1 => bif fgt .f32 (row.getD i 0) (row.getD (argF row i) 0) then i else argF row i

theorem argF_lt {row : List Nat} {n : Nat} (hn : 1 ≤ n) : ∀ i, i ≤ n → argF row i < n
  | 0, _ => hn
  | i + 1, hi => by
    rw [argF]
    cases fgt .f32 (row.getD i 0) (row.getD (argF row i) 0) with
    | true => exact hi
    | false => exact argF_lt hn i (by omega)

theorem specArg {row : List Nat} {bs : List (List Int)} (h1 : 1 ≤ row.length) (h2 : row.length ≤ 1000) : rounds (spec_BestHidden_B2 (row, bs)) ((0 : Int), (0 : Int)) = some (argF row row.length : Int) := by
  have r := rounds_forS (f := spec_BestHidden_B2 (row, bs)) (fun i (s : Nat) => ((s : Int), ((i : Nat) : Int))) (fun i s => bif fgt .f32 (row.getD i 0) (row.getD s 0) then i else s) (fun s => (s : Int)) (n := row.length) (fun i s => s = argF row i)
    (fun i s hi hs0 => ⟨by
      have hlt : s < row.length := by rw [hs0]; exact argF_lt h1 i (by omega)
      unfold spec_BestHidden_B2
      simp only [ltN hi, cond_true, Int.toNat_natCast, nextN hi (show row.length ≤ 4294967296 by omega)]
      rw [guard_pos (idxN hi), guard_pos (idxN hlt)]
      cases fgt .f32 (row.getD i 0) (row.getD s 0) <;> rfl, by rw [hs0]; rfl⟩)
    (fun s _ => by
      unfold spec_BestHidden_B2
      simp only [geN (Nat.le_refl _), cond_false]) row.length 0 0 (by omega) rfl
  simp only [Int.natCast_zero] at r
  rw [r.1, r.2]

theorem implArg {row : List Nat} {bs : List (List Int)} (h1 : 1 ≤ row.length) (h2 : row.length ≤ 1000) : rounds (impl_BestHidden_B2 (row, bs)) ((0 : Int), (0 : Int)) = some (argF row row.length : Int) := by
  have r := rounds_forS (f := impl_BestHidden_B2 (row, bs)) (fun i (s : Nat) => ((s : Int), ((i : Nat) : Int))) (fun i s => bif fgt .f32 (row.getD i 0) (row.getD s 0) then i else s) (fun s => (s : Int)) (n := row.length) (fun i s => s = argF row i)
    (fun i s hi hs0 => ⟨by
      have hlt : s < row.length := by rw [hs0]; exact argF_lt h1 i (by omega)
      unfold impl_BestHidden_B2
      simp only [ltN hi, cond_true, Int.toNat_natCast, nextN hi (show row.length ≤ 4294967296 by omega)]
      rw [guard_pos (idxN hi), guard_pos (idxN hlt)]
      cases fgt .f32 (row.getD i 0) (row.getD s 0) <;> rfl, by rw [hs0]; rfl⟩)
    (fun s _ => by
      unfold impl_BestHidden_B2
      simp only [geN (Nat.le_refl _), cond_false]) row.length 0 0 (by omega) rfl
  simp only [Int.natCast_zero] at r
  rw [r.1, r.2]

end

end Go.Proofs


/-
  BestHidden: the program's rows; the ways back.
-/
namespace Go.Proofs
open Go.Ide Go.IntWalk

section
variable {a b : Nat} {fs ss hs : List Nat}

/-- A list of n cells of which the first i are told. -/
def part {α : Type} (h : Nat → α) (d : α) (n i : Nat) : List α := (List.range i).map h ++ List.replicate (n - i) d

theorem part_len {α : Type} {h : Nat → α} {d : α} {n i : Nat} (hi : i ≤ n) : (part h d n i).length = n := by simp [part]; omega

theorem part_set {α : Type} {h : Nat → α} {d : α} {n i : Nat} (hi : i < n) (v : α) : (part h d n i).set i v = (List.range i).map h ++ v :: List.replicate (n - (i + 1)) d := by
  unfold part
  rw [show n - i = (n - (i + 1)) + 1 by omega, List.replicate_succ, set_at (by simp)]

theorem part_next {α : Type} {h : Nat → α} {d : α} {n i : Nat} (hi : i < n) : (List.range i).map h ++ h i :: List.replicate (n - (i + 1)) d = part h d n (i + 1) := by
  unfold part
  rw [List.range_succ, List.map_append]
  simp

theorem mid_get {α : Type} {h : Nat → α} {d v : α} {n i : Nat} (dd : α) : ((List.range i).map h ++ v :: List.replicate (n - (i + 1)) d).getD i dd = v := by
  rw [List.getD_eq_getElem?_getD, List.getElem?_append_right (by simp)]
  simp

theorem mid_set {α : Type} {h : Nat → α} {d v v' : α} {n i : Nat} : ((List.range i).map h ++ v :: List.replicate (n - (i + 1)) d).set i v' = (List.range i).map h ++ v' :: List.replicate (n - (i + 1)) d := set_at (by simp)

theorem mid_len {α : Type} {h : Nat → α} {d v : α} {n i : Nat} (hi : i < n) : ((List.range i).map h ++ v :: List.replicate (n - (i + 1)) d).length = n := by simp; omega

theorem implBestRow (m : Model a b fs ss hs) {row : List Nat} {w : List Int} {i c : Nat} (hi : i < w.length) (hwc : w.getD i 0 = (c : Int)) (hc : c < b) (hr : row.length = a) (l1 : List (List Int)) :
    rounds (impl_BestHidden_B4 ((a : Int), (b : Int), fs, ss, hs) w ((i : Int), row, l1)) ((0 : Int), List.replicate a (0 : Nat), List.replicate a (0 : Int)) = some (bestRow a b ss hs row c, bestBack a b ss hs row c) := by
  have hn2 := m.n2
  have hk2 := m.k2
  have hls := m.ls
  have hlh := m.lh
  have r := rounds_forS (f := impl_BestHidden_B4 ((a : Int), (b : Int), fs, ss, hs) w ((i : Int), row, l1)) (fun j (s : List Nat × List Int) => (((j : Nat) : Int), s.1, s.2))
    (fun j s => (part (fun j => (bestF a b ss hs row c j a).2) 0 a (j + 1), part (fun j => ((bestF a b ss hs row c j a).1 : Int)) 0 a (j + 1))) (fun s => (s.1, s.2)) (n := a) (fun j s => s = (part (fun j => (bestF a b ss hs row c j a).2) 0 a j, part (fun j => ((bestF a b ss hs row c j a).1 : Int)) 0 a j))
    (fun j s hj hs0 => ⟨by
      subst hs0
      have r := rounds_forS (f := impl_BestHidden_B3 ((a : Int), (b : Int), fs, ss, hs) w ((i : Int), row, l1) ((j : Int), part (fun j => (bestF a b ss hs row c j a).2) 0 a j, part (fun j => ((bestF a b ss hs row c j a).1 : Int)) 0 a j)) (fun p (s : List Nat × List Int) => (((p : Nat) : Int), s.1, s.2))
        (fun p s => ((List.range j).map (fun j => (bestF a b ss hs row c j a).2) ++ (bestF a b ss hs row c j (p + 1)).2 :: List.replicate (a - (j + 1)) 0, (List.range j).map (fun j => ((bestF a b ss hs row c j a).1 : Int)) ++ ((bestF a b ss hs row c j (p + 1)).1 : Int) :: List.replicate (a - (j + 1)) 0)) (fun s => (s.1, s.2)) (n := a)
        (fun p s => s = ((List.range j).map (fun j => (bestF a b ss hs row c j a).2) ++ (bestF a b ss hs row c j p).2 :: List.replicate (a - (j + 1)) 0, (List.range j).map (fun j => ((bestF a b ss hs row c j a).1 : Int)) ++ ((bestF a b ss hs row c j p).1 : Int) :: List.replicate (a - (j + 1)) 0))
        (fun p s hp hs1 => ⟨by
          subst hs1
          obtain ⟨e1, e2⟩ := cellM (a := a) (b := b) (by omega) (by omega) hp hc
          obtain ⟨e3, e4⟩ := cellM (a := a) (b := a) (by omega) (by omega) hp hj
          have j1 := idxN (i := p) (n := row.length) (by omega)
          have j3 := idxN (i := p * b + c) (n := hs.length) (by omega)
          have j4 := idxN (i := p * a + j) (n := ss.length) (by omega)
          have j5 : (0 : Int) ≤ (j : Int) ∧ (j : Int) < lenI ((List.range j).map (fun j => (bestF a b ss hs row c j a).2) ++ (bestF a b ss hs row c j p).2 :: List.replicate (a - (j + 1)) 0) := by
            simp only [lenI]; rw [mid_len hj]; omega
          have j6 : (0 : Int) ≤ (j : Int) ∧ (j : Int) < lenI ((List.range j).map (fun j => ((bestF a b ss hs row c j a).1 : Int)) ++ ((bestF a b ss hs row c j p).1 : Int) :: List.replicate (a - (j + 1)) 0) := by
            simp only [lenI]; rw [mid_len hj]; omega
          have e5 : ((p : Int) == 0) = (p == 0) := by
            rw [Bool.eq_iff_iff, beq_iff_eq, beq_iff_eq]; omega
          unfold impl_BestHidden_B3 impl_Model_show impl_Model_step
          simp only [ltN hp, cond_true, Int.toNat_natCast, nextN hp (show a ≤ 4294967296 by omega), hwc, e1, e3, e5]
          rw [guard_pos j1, guard_pos j3, Option.bind_some, guard_pos j4, Option.bind_some, guard_pos j5, guard_pos j6, mid_get, mid_set, mid_set, guard_pos j5]
          rw [bestF]
          unfold bestT
          cases hp0 : (p == 0) with
          | true => rfl
          | false =>
            cases hf : fgt .f32 (fop .mul .f32 (fop .mul .f32 (row.getD p 0) (hs.getD (p * b + c) 0)) (ss.getD (p * a + j) 0)) (bestF a b ss hs row c j p).2 <;> simp [hf], rfl⟩)
        (fun s _ => by
          unfold impl_BestHidden_B3
          simp only [geN (Nat.le_refl _), cond_false]) a 0 (part (fun j => (bestF a b ss hs row c j a).2) 0 a j, part (fun j => ((bestF a b ss hs row c j a).1 : Int)) 0 a j) (by omega) (by
            unfold part
            rw [show a - j = (a - (j + 1)) + 1 by omega]
            rfl)
      simp only [Int.natCast_zero] at r
      unfold impl_BestHidden_B4
      simp only [ltN hj, cond_true, r.1, r.2, Option.bind_some, nextN hj (show a ≤ 4294967296 by omega)]
      rw [part_next (h := fun j => (bestF a b ss hs row c j a).2) hj, part_next (h := fun j => ((bestF a b ss hs row c j a).1 : Int)) hj], rfl⟩)
    (fun s _ => by
      unfold impl_BestHidden_B4
      simp only [geN (Nat.le_refl _), cond_false]) a 0 (List.replicate a 0, List.replicate a 0) (by omega) (by simp [part])
  simp only [Int.natCast_zero] at r
  rw [r.1, r.2]
  simp [part, bestRow, bestBack]

theorem implBestRows (m : Model a b fs ss hs) {w : List Int} (hw : Letters b w) (hl : w.length ≤ 12) :
    rounds (impl_BestHidden_B5 ((a : Int), (b : Int), fs, ss, hs) w) ((0 : Int), fs, ([] : List (List Int))) = some (bestAt a b fs ss hs w w.length, (List.range w.length).map (backAt a b fs ss hs w)) := by
  have hn2 := m.n2
  have r := rounds_forS (f := impl_BestHidden_B5 ((a : Int), (b : Int), fs, ss, hs) w) (fun i (s : List Nat × List (List Int)) => (((i : Nat) : Int), s.1, s.2))
    (fun i s => (bestAt a b fs ss hs w (i + 1), s.2 ++ [backAt a b fs ss hs w i])) (fun s => (s.1, s.2)) (n := w.length) (fun i s => s = (bestAt a b fs ss hs w i, (List.range i).map (backAt a b fs ss hs w)))
    (fun i s hi hs0 => ⟨by
      subst hs0
      obtain ⟨c, hc, hc2⟩ := hw i hi
      unfold impl_BestHidden_B5
      simp only [ltN hi, cond_true, nextN hi (show w.length ≤ 4294967296 by omega), Int.toNat_natCast, implBestRow m hi hc hc2 (bestAt_len m w i), Option.bind_some]
      rw [guard_pos (idxN hi), guard_pos ⟨by omega, by omega⟩, guard_pos (by simp only [List.length_map, List.length_range, List.length_singleton, appMax]; omega), bestAt, backAt, hc, Int.toNat_natCast], by
      subst hs0
      simp only [List.range_succ, List.map_append, List.map_cons, List.map_nil]⟩)
    (fun s _ => by
      unfold impl_BestHidden_B5
      simp only [geN (Nat.le_refl _), cond_false]) w.length 0 (fs, []) (by omega) rfl
  simp only [Int.natCast_zero] at r
  rw [r.1, r.2]

/-- The state at j steps before the end. -/
def stAt (bs : List (List Int)) (n z : Nat) : Nat → Nat
  | 0 => z
  | j + 1 => ((bs.getD (n - 1 - j) []).getD (stAt bs n z j) 0).toNat

/-- Lists of states. -/
def Backs (a n : Nat) (bs : List (List Int)) : Prop := bs.length = n ∧ ∀ i, i < n → (bs.getD i []).length = a ∧ Letters a (bs.getD i [])

theorem stAt_lt {bs : List (List Int)} {n z : Nat} (h : Backs a n bs) (hz : z < a) : ∀ j, j ≤ n → stAt bs n z j < a
  | 0, _ => hz
  | j + 1, hj => by
    obtain ⟨h1, h2⟩ := h.2 (n - 1 - j) (by omega)
    obtain ⟨t, ht, ht2⟩ := h2 (stAt bs n z j) (by rw [h1]; exact stAt_lt h hz j (by omega))
    rw [stAt, ht, Int.toNat_natCast]
    exact ht2

theorem stAt_step {bs : List (List Int)} {n z : Nat} (h : Backs a n bs) (hz : z < a) {j : Nat} (hj : j < n) : (bs.getD (n - 1 - j) []).getD (stAt bs n z j) 0 = (stAt bs n z (j + 1) : Int) := by
  obtain ⟨h1, h2⟩ := h.2 (n - 1 - j) (by omega)
  obtain ⟨t, ht, ht2⟩ := h2 (stAt bs n z j) (by rw [h1]; exact stAt_lt h hz j (by omega))
  rw [stAt, ht, Int.toNat_natCast]

/-- The way of which the last i states are told. -/
def wayP (bs : List (List Int)) (n z i : Nat) : List Int := List.replicate (n + 1 - i) 0 ++ (List.range i).map fun k => (stAt bs n z (i - 1 - k) : Int)

theorem wayP_len {bs : List (List Int)} {n z i : Nat} (hi : i ≤ n + 1) : (wayP bs n z i).length = n + 1 := by simp [wayP]; omega

theorem wayP_set {bs : List (List Int)} {n z i : Nat} (hi : i ≤ n) : (wayP bs n z i).set (n - i) (stAt bs n z i : Int) = wayP bs n z (i + 1) := by
  unfold wayP
  rw [show n + 1 - i = (n - i) + 1 by omega, show n + 1 - (i + 1) = n - i by omega, List.replicate_succ', List.append_assoc, List.singleton_append, set_at (by simp), List.range_succ_eq_map, List.map_cons, List.map_map]
  congr 1
  rw [show i + 1 - 1 - 0 = i by omega]
  congr 1
  apply List.map_congr_left
  intro k _
  simp only [Function.comp]
  rw [show i + 1 - 1 - (k + 1) = i - 1 - k by omega]

theorem wayP_get {bs : List (List Int)} {n z i : Nat} (hi : i ≤ n) : (wayP bs n z (i + 1)).getD (n - i) 0 = (stAt bs n z i : Int) := by
  rw [← wayP_set hi, List.getD_eq_getElem?_getD, List.getElem?_set_self (by rw [wayP_len (by omega)]; omega)]
  rfl

theorem specWay {row : List Nat} {bs : List (List Int)} {n z : Nat} (h : Backs a n bs) (hz : z < a) (hn : n ≤ 12) :
    rounds (spec_BestHidden_B1 (row, bs)) ((z : Int), (n : Int), List.replicate (n + 1) 0) = some (wayP bs n z (n + 1)) := by
  have r := rounds_forS (f := spec_BestHidden_B1 (row, bs)) (fun i (s : List Int) => ((stAt bs n z (min i n) : Int), (n : Int) - (i : Int), s))
    (fun i s => s.set (n - i) (stAt bs n z i : Int)) id (n := n + 1) (fun i s => s = wayP bs n z i)
    (fun i s hi hs0 => ⟨by
      subst hs0
      have e1 : decide ((n : Int) - (i : Int) ≥ 0) = true := decide_eq_true (by omega)
      have j1 : (0 : Int) ≤ (n : Int) - (i : Int) ∧ (n : Int) - (i : Int) < lenI (wayP bs n z i) := by
        simp only [lenI]; rw [wayP_len (by omega)]; omega
      have e2 : ((n : Int) - (i : Int)).toNat = n - i := by omega
      have e3 : wsub .i64 ((n : Int) - (i : Int)) 1 = (n : Int) - (i : Int) - 1 := wsubI (by omega)
      have em : min i n = i := by omega
      unfold spec_BestHidden_B1
      simp only [e1, cond_true, e2, e3, em]
      rw [guard_pos j1]
      by_cases hin : i < n
      · have e4 : decide ((n : Int) - (i : Int) > 0) = true := decide_eq_true (by omega)
        have e5 : ((n : Int) - (i : Int) - 1).toNat = n - 1 - i := by omega
        obtain ⟨l1, l2⟩ := h.2 (n - 1 - i) (by omega)
        have hlt := stAt_lt h hz i (by omega)
        have j2 : (0 : Int) ≤ (n : Int) - (i : Int) - 1 ∧ (n : Int) - (i : Int) - 1 < lenI bs := by simp only [lenI]; rw [h.1]; omega
        have j3 : (0 : Int) ≤ (stAt bs n z i : Int) ∧ (stAt bs n z i : Int) < lenI (bs.getD (n - 1 - i) []) := by simp only [lenI]; rw [l1]; omega
        simp only [e4, cond_true, e5, Int.toNat_natCast]
        rw [guard_pos j2, guard_pos j3, stAt_step h hz hin, show min (i + 1) n = i + 1 by omega, show (n : Int) - ((i + 1 : Nat) : Int) = (n : Int) - (i : Int) - 1 by omega]
        rfl
      · have e4 : decide ((n : Int) - (i : Int) > 0) = false := decide_eq_false (by omega)
        simp only [e4, cond_false]
        rw [show min (i + 1) n = i by omega, show (n : Int) - ((i + 1 : Nat) : Int) = (n : Int) - (i : Int) - 1 by omega]
        rfl, by subst hs0; exact wayP_set (by omega)⟩)
    (fun s _ => by
      have e1 : decide ((n : Int) - ((n + 1 : Nat) : Int) ≥ 0) = false := decide_eq_false (by omega)
      unfold spec_BestHidden_B1
      simp only [e1, cond_false]
      rfl) (n + 1) 0 (List.replicate (n + 1) 0) (by omega) (by simp [wayP])
  simp only [Nat.zero_min, Int.natCast_zero, Int.sub_zero] at r
  have e0 : stAt bs n z 0 = z := rfl
  rw [e0] at r
  rw [r.1, id, r.2]

theorem implWay {row : List Nat} {bs : List (List Int)} {n z : Nat} (h : Backs a n bs) (hz : z < a) (hn : n ≤ 12) :
    rounds (impl_BestHidden_B1 (row, bs)) ((n : Int) - 1, wayP bs n z 1) = some (wayP bs n z (n + 1)) := by
  have r := rounds_forS (f := impl_BestHidden_B1 (row, bs)) (fun i (s : List Int) => ((n : Int) - 1 - (i : Int), s))
    (fun i s => s.set (n - (i + 1)) (stAt bs n z (i + 1) : Int)) id (n := n) (fun i s => s = wayP bs n z (i + 1))
    (fun i s hi hs0 => ⟨by
      subst hs0
      have e1 : decide ((n : Int) - 1 - (i : Int) ≥ 0) = true := decide_eq_true (by omega)
      have e2 : ((n : Int) - 1 - (i : Int)).toNat = n - 1 - i := by omega
      have e3 : wsub .i64 ((n : Int) - 1 - (i : Int)) 1 = (n : Int) - 1 - ((i + 1 : Nat) : Int) := by rw [wsubI (by omega)]; omega
      have e4 : wadd .i64 ((n : Int) - 1 - (i : Int)) 1 = ((n - i : Nat) : Int) := by rw [waddI (by omega)]; omega
      obtain ⟨l1, l2⟩ := h.2 (n - 1 - i) (by omega)
      have hlt := stAt_lt h hz i (by omega)
      have hl := wayP_len (bs := bs) (n := n) (z := z) (i := i + 1) (by omega)
      have j1 : (0 : Int) ≤ (n : Int) - 1 - (i : Int) ∧ (n : Int) - 1 - (i : Int) < lenI bs := by simp only [lenI]; rw [h.1]; omega
      have j2 : (0 : Int) ≤ ((n - i : Nat) : Int) ∧ ((n - i : Nat) : Int) < lenI (wayP bs n z (i + 1)) := by simp only [lenI]; rw [hl]; omega
      have j3 : (0 : Int) ≤ (stAt bs n z i : Int) ∧ (stAt bs n z i : Int) < lenI (bs.getD (n - 1 - i) []) := by simp only [lenI]; rw [l1]; omega
      have j4 : (0 : Int) ≤ (n : Int) - 1 - (i : Int) ∧ (n : Int) - 1 - (i : Int) < lenI (wayP bs n z (i + 1)) := by simp only [lenI]; rw [hl]; omega
      unfold impl_BestHidden_B1
      simp only [e1, cond_true, e2, e3, e4, Int.toNat_natCast, wayP_get (show i ≤ n by omega)]
      rw [guard_pos j1, guard_pos j2, guard_pos j3, guard_pos j4, stAt_step h hz hi, show n - (i + 1) = n - 1 - i by omega], by subst hs0; exact wayP_set (by omega)⟩)
    (fun s _ => by
      have e1 : decide ((n : Int) - 1 - (n : Int) ≥ 0) = false := decide_eq_false (by omega)
      unfold impl_BestHidden_B1
      simp only [e1, cond_false]
      rfl) n 0 (wayP bs n z 1) (by omega) rfl
  simp only [Int.natCast_zero, Int.sub_zero] at r
  rw [r.1, id, r.2]

end

theorem BestHidden_eq {x0_0 x0_1 : Int} {x0_2 x0_3 x0_4 : List Nat} {x1_0 : List Int} (g1 : x0_2.length ≤ 1048576) (g2 : x0_3.length ≤ 1048576) (g3 : x0_4.length ≤ 1048576) (g4 : x1_0.length ≤ 1048576) :
    ∃ r, spec_BestHidden (x0_0, x0_1, x0_2, x0_3, x0_4) x1_0 = some r ∧ impl_BestHidden (x0_0, x0_1, x0_2, x0_3, x0_4) x1_0 = some r ∧ r.1.length ≤ 1000000 := by
  unfold spec_BestHidden impl_BestHidden
  simp only [specMWord (w := x1_0) (by omega), implMWord (w := x1_0) (by omega), Option.bind_some]
  cases h1 : okMWord x0_0 x0_1 x0_2 x0_3 x0_4 x1_0 with
  | false => exact ⟨_, rfl, rfl, by simp⟩
  | true =>
    obtain ⟨a, b, rfl, rfl, m, hwl, hw⟩ := mword_of h1
    have hn1 := m.n1
    have hn2 := m.n2
    have hlf := m.lf
    have hlen := bestAt_len m x1_0 x1_0.length
    have hcl : slices_Clone x0_2 = some x0_2 := by
      unfold slices_Clone
      rw [guard_pos (by simp only [appMax]; omega)]
    have hz : argF (bestAt a b x0_2 x0_3 x0_4 x1_0 x1_0.length) (bestAt a b x0_2 x0_3 x0_4 x1_0 x1_0.length).length < a := by
      rw [hlen]; exact argF_lt hn1 a (Nat.le_refl _)
    have hbk : Backs a x1_0.length ((List.range x1_0.length).map (backAt a b x0_2 x0_3 x0_4 x1_0)) := by
      refine ⟨by simp, fun i hi => ?_⟩
      have e : ((List.range x1_0.length).map (backAt a b x0_2 x0_3 x0_4 x1_0)).getD i [] = backAt a b x0_2 x0_3 x0_4 x1_0 i := by
        simp [List.getD_eq_getElem?_getD, hi]
      rw [e]
      exact backAt_ok m hw hi
    have ea := specArg (row := bestAt a b x0_2 x0_3 x0_4 x1_0 x1_0.length) (bs := (List.range x1_0.length).map (backAt a b x0_2 x0_3 x0_4 x1_0)) (by omega) (by omega)
    have eb := implArg (row := bestAt a b x0_2 x0_3 x0_4 x1_0 x1_0.length) (bs := (List.range x1_0.length).map (backAt a b x0_2 x0_3 x0_4 x1_0)) (by omega) (by omega)
    have hbz := bestAt_bd m hw x1_0.length (Nat.le_refl _) _ hz
    generalize argF (bestAt a b x0_2 x0_3 x0_4 x1_0 x1_0.length) (bestAt a b x0_2 x0_3 x0_4 x1_0 x1_0.length).length = z at *
    have e1 : wadd .i64 (lenI x1_0) 1 = ((x1_0.length + 1 : Nat) : Int) := by simp only [lenI]; rw [waddI (by omega)]; omega
    have e2 : wsub .i64 (lenI x1_0) 1 = (x1_0.length : Int) - 1 := by simp only [lenI]; rw [wsubI (by omega)]
    have e3 : (lenI x1_0).toNat = x1_0.length := by simp [lenI]
    have w1 := specWay (row := bestAt a b x0_2 x0_3 x0_4 x1_0 x1_0.length) hbk hz hwl
    have w2 := implWay (row := bestAt a b x0_2 x0_3 x0_4 x1_0 x1_0.length) hbk hz hwl
    have e4 : (List.replicate (x1_0.length + 1) (0 : Int)).set x1_0.length (z : Int) = wayP ((List.range x1_0.length).map (backAt a b x0_2 x0_3 x0_4 x1_0)) x1_0.length z 1 := by
      have := wayP_set (bs := (List.range x1_0.length).map (backAt a b x0_2 x0_3 x0_4 x1_0)) (n := x1_0.length) (z := z) (i := 0) (by omega)
      rw [Nat.sub_zero] at this
      rw [← this]
      simp [wayP, stAt]
    have i1 : (0 : Int) ≤ ((x1_0.length + 1 : Nat) : Int) ∧ ((x1_0.length + 1 : Nat) : Int) ≤ 4294967296 := by omega
    have i2 : (0 : Int) ≤ (z : Int) ∧ (z : Int) < lenI (bestAt a b x0_2 x0_3 x0_4 x1_0 x1_0.length) := by simp only [lenI]; omega
    have i3 : (0 : Int) ≤ lenI x1_0 ∧ lenI x1_0 < lenI (List.replicate (x1_0.length + 1) (0 : Int)) := by simp only [lenI, List.length_replicate]; omega
    have hfin : impl_IsFinite ((bestAt a b x0_2 x0_3 x0_4 x1_0 x1_0.length).getD z 0) = some true := by
      unfold impl_IsFinite
      rw [sub_self32 hbz (by omega) (by omega)]
      rfl
    have hl0 : (lenI x1_0) = (x1_0.length : Int) := rfl
    simp only [Bool.not_true, cond_false, specBestRows m hw hwl, implBestRows m hw hwl, hcl, Option.bind_some, ea, eb, e1, e2, e3, Int.toNat_natCast, guard_pos i1, guard_pos i2, guard_pos i3, e4, w2, hfin]
    rw [hl0, w1]
    exact ⟨_, rfl, rfl, by simp only [wayP_len (Nat.le_refl _)]; omega⟩

end Go.Proofs

namespace Go.Proofs
open Go.Ide Go.IntWalk

theorem BestHidden_law (x0 : Int × Int × List Nat × List Nat × List Nat) (x1 : List Int) (w0 : WfD (.st (.pair (.int .i64) (.pair (.int .i64) (.pair (.sl (.flt .f32)) (.pair (.sl (.flt .f32)) (.sl (.flt .f32))))))) x0) (w1 : WfD (.sl (.int .i64)) x1) : laws_FnExactBestHidden x0 x1 = some true := by
  obtain ⟨x0_0, ⟨x0_1, ⟨x0_2, ⟨x0_3, x0_4⟩⟩⟩⟩ := x0
  have hx0_2 : x0_2.length ≤ 9223372036854775807 := Nat.le_trans (w0.2.2.1.1) (by decide)
  have hx0_3 : x0_3.length ≤ 9223372036854775807 := Nat.le_trans (w0.2.2.2.1.1) (by decide)
  have hx0_4 : x0_4.length ≤ 9223372036854775807 := Nat.le_trans (w0.2.2.2.2.1) (by decide)
  obtain ⟨x1_0, rfl⟩ : ∃ y, y = x1 := ⟨_, rfl⟩
  have hx1_0 : x1_0.length ≤ 9223372036854775807 := Nat.le_trans (w1.1) (by decide)
  unfold laws_FnExactBestHidden
  by_cases c1 : lenI x1_0 > (1048576 : Int)
  · simp only [c1, decide_true, cond_true]
  · simp only [c1, decide_false, cond_false]
    have ox1_0 : x1_0.length ≤ 1048576 := by simp only [lenI] at c1; omega
    obtain ⟨m2, a2, b2⟩ := szModel_ok (n := 1048576) (x0 := x0_0) (x1 := x0_1) (x2 := x0_2) (x3 := x0_3) (x4 := x0_4) hx0_2 hx0_3 hx0_4 (by omega)
    simp only [a2, Option.bind_some]
    by_cases c2 : m2 < 0
    · simp only [c2, decide_true, cond_true]
    · obtain ⟨⟨ox0_2, ox0_3, ox0_4⟩, d2, f2⟩ := b2.resolve_left c2
      simp only [c2, decide_false, cond_false]
      obtain ⟨⟨r0_0, r1_0, r2_0⟩, k1, k2, or0_0⟩ := BestHidden_eq (x0_0 := x0_0) (x0_1 := x0_1) (x0_2 := x0_2) (x0_3 := x0_3) (x0_4 := x0_4) (x1_0 := x1_0) ox0_2 ox0_3 ox0_4 ox1_0
      have or0_0 : r0_0.length ≤ 1000000 := or0_0
      simp only [k1,
      k2,
      Option.bind_some,
      Bool.not_true,
      cond_false,
      bne_self_eq_false,
      cond_true,
      sameFloat_ok,
      toModel_ok (x0 := x0_0) (x1 := x0_1) (x2 := x0_2) (x3 := x0_3) (x4 := x0_4) ox0_2 ox0_3 ox0_4,
      eqModel_ok (x0 := x0_0) (x1 := x0_1) (x2 := x0_2) (x3 := x0_3) (x4 := x0_4) ox0_2 ox0_3 ox0_4,
      markModel_ok (k := (1 : Int)) (x0 := x0_0) (x1 := x0_1) (x2 := x0_2) (x3 := x0_3) (x4 := x0_4) ox0_2 ox0_3 ox0_4 (by omega),
      toInt64S_ok (xs := x1_0) ox1_0,
      eqInt64S_ok (xs := x1_0) ox1_0,
      markInt64S_ok (k := (1 : Int) + ((1 * x0_2.length : Nat) : Int) + ((1 * x0_3.length : Nat) : Int) + ((1 * x0_4.length : Nat) : Int)) (xs := x1_0) ox1_0 (by omega),
      (show decide ((1 : Int) + ((1 * x0_2.length : Nat) : Int) + ((1 * x0_3.length : Nat) : Int) + ((1 * x0_4.length : Nat) : Int) + ((1 * x1_0.length : Nat) : Int) < 0) = false from by simp only [decide_eq_false_iff_not]; omega),
      eqInt64S_ok (xs := r0_0) (by omega : r0_0.length ≤ 1048576),
      markInt64S_ok (k := (1 : Int)) (xs := r0_0) (by omega : r0_0.length ≤ 1048576) (by omega),
      heldInt64S_ok (k := (1 : Int)) (by omega : r0_0.length ≤ 1048576) (by omega),
      (show decide ((1 : Int) + ((1 * r0_0.length : Nat) : Int) < 0) = false from by simp only [decide_eq_false_iff_not]; omega)]

end Go.Proofs
