import Derived.Test.YthilbincoogfkaaPairAtGenC
set_option linter.unusedVariables false
set_option linter.unusedSimpArgs false
set_option linter.unusedSectionVars false
namespace Go.Proofs
open Go.Ide Go.IntWalk

theorem sameFloat_ok (x : Nat) : laws_sameFloat x x = some true := by
  unfold laws_sameFloat
  cases h1 : feq .f64 x x <;> cases h2 : feq .f64 x 0 <;> simp [h1, h2]

theorem szFloat32S_ok {xs : List Nat} {n : Int} (hx : xs.length ≤ 9223372036854775807) (hn : 0 ≤ n ∧ n ≤ 1048576) : ∃ m, laws_szFloat32S xs n = some m ∧ (m < 0 ∨ (xs.length ≤ 1048576 ∧ 0 ≤ m ∧ m ≤ n)) := by
  unfold laws_szFloat32S
  have e : wsub .i64 n (lenI xs) = n - (xs.length : Int) := i64_in _ (by simp only [lenI]; omega)
  rw [e]
  by_cases h : n - (xs.length : Int) < 0
  · exact ⟨-1, by simp only [h, decide_true, cond_true], .inl (by omega)⟩
  · exact ⟨_, by simp only [h, decide_false, cond_false]; rfl, .inr ⟨by omega, by omega, by omega⟩⟩

theorem toInt64S_ok {xs : List Int} (h : xs.length ≤ 1048576) : laws_toInt64S xs = some xs := by
  unfold laws_toInt64S
  rw [guard_pos ⟨by simp only [lenI]; omega, by simp only [lenI]; omega⟩]
  have := loop_to (f := laws_toInt64S_B1 xs) xs (0 : Int) (fun i out hi hl => by
    unfold laws_toInt64S_B1
    simp only [ltN hi, cond_true, guard_pos (idxN hi), guard_pos (idxN (i := i) (n := out.length) (by omega)), Int.toNat_natCast, nextN hi (by omega)]) (fun out hl => by
    unfold laws_toInt64S_B1
    simp only [geN (Nat.le_refl _), cond_false])
  simp only [Int.toNat_natCast, this, Option.bind_some]

theorem toFloat32S_ok {xs : List Nat} (h : xs.length ≤ 1048576) : laws_toFloat32S xs = some xs := by
  unfold laws_toFloat32S
  rw [guard_pos ⟨by simp only [lenI]; omega, by simp only [lenI]; omega⟩]
  have := loop_to (f := laws_toFloat32S_B1 xs) xs (0 : Nat) (fun i out hi hl => by
    unfold laws_toFloat32S_B1
    simp only [ltN hi, cond_true, guard_pos (idxN hi), guard_pos (idxN (i := i) (n := out.length) (by omega)), Int.toNat_natCast, nextN hi (by omega)]) (fun out hl => by
    unfold laws_toFloat32S_B1
    simp only [geN (Nat.le_refl _), cond_false])
  simp only [Int.toNat_natCast, this, Option.bind_some]

theorem eqFloat32S_ok {xs : List Nat} (h : xs.length ≤ 1048576) : laws_eqFloat32S xs xs = some true := by
  unfold laws_eqFloat32S
  have := loop_eq (f := laws_eqFloat32S_B1 xs xs) (Sum.inl ()) xs.length (fun i hi => by
    unfold laws_eqFloat32S_B1
    simp only [ltN hi, cond_true, guard_pos (idxN hi), bne_self_eq_false, sameFloat_ok, Option.bind_some, Bool.not_true, cond_false, nextN hi (by omega)]) (by
    unfold laws_eqFloat32S_B1
    simp only [geN (Nat.le_refl _), cond_false])
  simp only [bne_self_eq_false, cond_false, this, Option.bind_some]

theorem eqInt64S_ok {xs : List Int} (h : xs.length ≤ 1048576) : laws_eqInt64S xs xs = some true := by
  unfold laws_eqInt64S
  have := loop_eq (f := laws_eqInt64S_B1 xs xs) (Sum.inl ()) xs.length (fun i hi => by
    unfold laws_eqInt64S_B1
    simp only [ltN hi, cond_true, guard_pos (idxN hi), bne_self_eq_false, cond_false, nextN hi (by omega)]) (by
    unfold laws_eqInt64S_B1
    simp only [geN (Nat.le_refl _), cond_false])
  simp only [bne_self_eq_false, cond_false, this, Option.bind_some]

theorem markInt64S_ok {xs : List Int} {k : Int} (h : xs.length ≤ 1048576) (hk : 0 ≤ k ∧ k ≤ 2000000000000) : laws_markInt64S xs k = some (k + ((1 * xs.length : Nat) : Int), marksG (fun k => k) 1 k xs.length) := by
  unfold laws_markInt64S
  have := loop_mark (f := laws_markInt64S_B1) (fun k => k) 1 k xs (fun i out hi hl => by
    unfold laws_markInt64S_B1
    have e := markN2 (c := 1) (i := i) (k0 := k) (by omega) (by omega) (by omega)
    simp only [lenI, hl, ltN hi, cond_true, guard_pos (idxN hi), Int.toNat_natCast, nextN hi (by omega)]
    simp only [Int.cast_ofNat_Int] at e
    rw [e]) (fun out hl => by
    unfold laws_markInt64S_B1
    simp only [lenI, hl, geN (Nat.le_refl _), cond_false])
  simp only [this, Option.bind_some]
  rw [guard_pos marksG_len]

theorem markFloat32S_ok {xs : List Nat} {k : Int} (h : xs.length ≤ 1048576) (hk : 0 ≤ k ∧ k ≤ 2000000000000) : laws_markFloat32S xs k = some (k + ((1 * xs.length : Nat) : Int), marksG (fun k => fofint .f32 k) 1 k xs.length) := by
  unfold laws_markFloat32S
  have := loop_mark (f := laws_markFloat32S_B1) (fun k => fofint .f32 k) 1 k xs (fun i out hi hl => by
    unfold laws_markFloat32S_B1
    have e := markN2 (c := 1) (i := i) (k0 := k) (by omega) (by omega) (by omega)
    simp only [lenI, hl, ltN hi, cond_true, guard_pos (idxN hi), Int.toNat_natCast, nextN hi (by omega)]
    simp only [Int.cast_ofNat_Int] at e
    rw [e]) (fun out hl => by
    unfold laws_markFloat32S_B1
    simp only [lenI, hl, geN (Nat.le_refl _), cond_false])
  simp only [this, Option.bind_some]
  rw [guard_pos marksG_len]

theorem heldFloat32S_ok {n : Nat} {k : Int} (h : n ≤ 1048576) (hk : 0 ≤ k ∧ k ≤ 1000000000) : laws_heldFloat32S (marksG (fun k => fofint .f32 k) 1 k n) k = some (k + ((1 * n : Nat) : Int)) := by
  unfold laws_heldFloat32S
  have := loop_held (f := laws_heldFloat32S_B1 (marksG (fun k => fofint .f32 k) 1 k n)) 1 k n (fun i hi => by
    unfold laws_heldFloat32S_B1
    have e := markN (c := 1) (i := i) (k0 := k) (by omega) (by omega) (by omega)
    simp only [Int.cast_ofNat_Int] at e
    simp only [lenI, marksG_len, ltN hi, cond_true, guard_pos (idxN hi), Int.toNat_natCast, nextN hi (by omega), marksG_get hi, feq_ofint, Bool.not_true, cond_false]
    rw [e]) (by
    unfold laws_heldFloat32S_B1
    simp only [lenI, marksG_len, geN (Nat.le_refl _), cond_false])
  simp only [this, Option.bind_some]

theorem szModel_ok {x0 : Int} {x1 : Int} {x2 : List Nat} {x3 : List Nat} {x4 : List Nat} {n : Int} (hx2 : x2.length ≤ 9223372036854775807) (hx3 : x3.length ≤ 9223372036854775807) (hx4 : x4.length ≤ 9223372036854775807) (hn : 0 ≤ n ∧ n ≤ 1048576) : ∃ m, laws_szModel (x0, x1, x2, x3, x4) n = some m ∧ (m < 0 ∨ ((x2.length ≤ 1048576 ∧ x3.length ≤ 1048576 ∧ x4.length ≤ 1048576) ∧ 0 ≤ m ∧ m ≤ n)) := by
  unfold laws_szModel
  obtain ⟨m1, h1, k1⟩ := szFloat32S_ok (n := n) (xs := x2) hx2 (by omega)
  simp only [h1, Option.bind_some]
  by_cases c1 : m1 < 0
  · simp only [c1, decide_true, cond_true]; exact ⟨-1, rfl, .inl (by omega)⟩
  · obtain ⟨g1, p1, q1⟩ := k1.resolve_left c1
    simp only [c1, decide_false, cond_false]
    obtain ⟨m2, h2, k2⟩ := szFloat32S_ok (n := m1) (xs := x3) hx3 (by omega)
    simp only [h2, Option.bind_some]
    by_cases c2 : m2 < 0
    · simp only [c2, decide_true, cond_true]; exact ⟨-1, rfl, .inl (by omega)⟩
    · obtain ⟨g2, p2, q2⟩ := k2.resolve_left c2
      simp only [c2, decide_false, cond_false]
      obtain ⟨m3, h3, k3⟩ := szFloat32S_ok (n := m2) (xs := x4) hx4 (by omega)
      simp only [h3, Option.bind_some]
      by_cases c3 : m3 < 0
      · simp only [c3, decide_true, cond_true]; exact ⟨-1, rfl, .inl (by omega)⟩
      · obtain ⟨g3, p3, q3⟩ := k3.resolve_left c3
        simp only [c3, decide_false, cond_false]
        exact ⟨_, rfl, .inr ⟨⟨g1, g2, g3⟩, by omega, by omega⟩⟩

theorem toModel_ok {x0 : Int} {x1 : Int} {x2 : List Nat} {x3 : List Nat} {x4 : List Nat} (hx2 : x2.length ≤ 1048576) (hx3 : x3.length ≤ 1048576) (hx4 : x4.length ≤ 1048576) : laws_toModel (x0, x1, x2, x3, x4) = some (x0, x1, x2, x3, x4) := by
  unfold laws_toModel
  simp only [toFloat32S_ok hx2, toFloat32S_ok hx3, toFloat32S_ok hx4, Option.bind_some]

theorem eqModel_ok {x0 : Int} {x1 : Int} {x2 : List Nat} {x3 : List Nat} {x4 : List Nat} (hx2 : x2.length ≤ 1048576) (hx3 : x3.length ≤ 1048576) (hx4 : x4.length ≤ 1048576) : laws_eqModel (x0, x1, x2, x3, x4) (x0, x1, x2, x3, x4) = some true := by
  unfold laws_eqModel
  simp only [eqFloat32S_ok hx2, eqFloat32S_ok hx3, eqFloat32S_ok hx4, Option.bind_some, bne_self_eq_false, Bool.not_true, cond_false, decide_true]

theorem markModel_ok {x0 : Int} {x1 : Int} {x2 : List Nat} {x3 : List Nat} {x4 : List Nat} {k : Int} (hx2 : x2.length ≤ 1048576) (hx3 : x3.length ≤ 1048576) (hx4 : x4.length ≤ 1048576) (hk : 0 ≤ k ∧ k ≤ 800000000) : laws_markModel (x0, x1, x2, x3, x4) k = some (k + ((1 * x2.length : Nat) : Int) + ((1 * x3.length : Nat) : Int) + ((1 * x4.length : Nat) : Int), (x0, x1, marksG (fun k => fofint .f32 k) 1 (k) x2.length, marksG (fun k => fofint .f32 k) 1 (k + ((1 * x2.length : Nat) : Int)) x3.length, marksG (fun k => fofint .f32 k) 1 (k + ((1 * x2.length : Nat) : Int) + ((1 * x3.length : Nat) : Int)) x4.length)) := by
  unfold laws_markModel
  simp only [markFloat32S_ok (k := k) hx2 (by omega), markFloat32S_ok (k := k + ((1 * x2.length : Nat) : Int)) hx3 (by omega), markFloat32S_ok (k := k + ((1 * x2.length : Nat) : Int) + ((1 * x3.length : Nat) : Int)) hx4 (by omega), Option.bind_some]
  simp only [guardP, marksG_len, if_true]

end Go.Proofs


namespace Go.Proofs
open Go.Ide Go.IntWalk

theorem in64 (a b c : Int) : spec_l00In a b c = some (decide (a ≥ b) && decide (a ≤ c)) := by
  unfold spec_l00In
  cases h : decide (a ≥ b) <;> simp
theorem within64 (a b c : Int) : impl_within a b c = some (decide (a ≥ b) && decide (a ≤ c)) := by
  unfold impl_within
  cases h : decide (a ≥ b) <;> simp

/-- All between. -/
def allIn (xs : List Int) (b c : Int) : Bool := xs.all fun x => decide (x ≥ b) && decide (x ≤ c)

theorem allIn_iff {xs : List Int} {b c : Int} : allIn xs b c = true ↔ ∀ i, i < xs.length → b ≤ xs.getD i 0 ∧ xs.getD i 0 ≤ c := by
  unfold allIn
  rw [List.all_eq_true]
  constructor
  · intro h i hi
    have := h xs[i] (List.getElem_mem hi)
    simp only [Bool.and_eq_true, decide_eq_true_eq] at this
    rw [List.getD_eq_getElem?_getD, List.getElem?_eq_getElem hi]
    exact ⟨this.1, this.2⟩
  · intro h x hx
    obtain ⟨i, hi, rfl⟩ := List.getElem_of_mem hx
    have := h i hi
    rw [List.getD_eq_getElem?_getD, List.getElem?_eq_getElem hi] at this
    simp only [Bool.and_eq_true, decide_eq_true_eq]
    exact ⟨this.1, this.2⟩

theorem allN_in (xs : List Int) (b c : Int) : allN (fun i => decide (xs.getD i 0 ≥ b) && decide (xs.getD i 0 ≤ c)) xs.length 0 = allIn xs b c := by
  rw [Bool.eq_iff_iff, allN_iff, allIn_iff]
  constructor
  · intro h i hi
    have := h i (by omega) (by omega)
    simp only [Bool.and_eq_true, decide_eq_true_eq] at this
    exact ⟨this.1, this.2⟩
  · intro h i _ hi
    have := h i (by omega)
    simp only [Bool.and_eq_true, decide_eq_true_eq]
    exact ⟨this.1, this.2⟩

theorem areWithin64 {xs : List Int} {b c : Int} (h : xs.length ≤ 4294967296) : impl_areWithin xs b c = some (allIn xs b c) := by
  unfold impl_areWithin
  have := rounds_all (f := impl_areWithin_B1 xs b c) (fun i => ((i : Nat) : Int)) (fun i => decide (xs.getD i 0 ≥ b) && decide (xs.getD i 0 ≤ c)) (Sum.inl ()) (Sum.inr ()) (n := xs.length) (fun i hi => by
    unfold impl_areWithin_B1
    simp only [ltN hi, cond_true, guard_pos (idxN hi), Int.toNat_natCast, within64, Option.bind_some, nextN hi h]
    cases (decide (xs.getD i 0 ≥ b) && decide (xs.getD i 0 ≤ c)) <;> rfl) (by
    unfold impl_areWithin_B1
    simp only [geN (Nat.le_refl _), cond_false]) xs.length 0 (by omega)
  rw [allN_in] at this
  simp only [Int.natCast_zero] at this
  simp only [this, Option.bind_some]
  cases allIn xs b c <;> rfl

theorem word64 {xs : List Int} {L : Int} (h : xs.length ≤ 4294967296) : spec_l02Word xs L = some (allIn xs 0 (wsub .i64 L 1) && decide (lenI xs ≤ 12)) := by
  unfold spec_l02Word
  have := rounds_all (f := spec_l02Word_B1 xs L) (fun i => ((i : Nat) : Int)) (fun i => decide (xs.getD i 0 ≥ 0) && decide (xs.getD i 0 ≤ wsub .i64 L 1)) (Sum.inl ()) (Sum.inr ()) (n := xs.length) (fun i hi => by
    unfold spec_l02Word_B1
    simp only [ltN hi, cond_true, guard_pos (idxN hi), Int.toNat_natCast, in64, Option.bind_some, nextN hi h]
    cases (decide (xs.getD i 0 ≥ 0) && decide (xs.getD i 0 ≤ wsub .i64 L 1)) <;> rfl) (by
    unfold spec_l02Word_B1
    simp only [geN (Nat.le_refl _), cond_false]) xs.length 0 (by omega)
  rw [allN_in] at this
  simp only [Int.natCast_zero] at this
  simp only [this, Option.bind_some]
  cases allIn xs 0 (wsub .i64 L 1) <;> simp

theorem isWord64 {xs : List Int} {L : Int} (h : xs.length ≤ 4294967296) : impl_IsWord xs L = some ((decide (L ≥ 1) && decide (L ≤ 4)) && (decide (lenI xs ≤ 12) && allIn xs 0 (wsub .i64 L 1))) := by
  unfold impl_IsWord
  rw [within64, areWithin64 h]
  cases (decide (L ≥ 1) && decide (L ≤ 4)) <;> cases decide (lenI xs ≤ 12) <;> simp

/-- A plain machine is as it must be. -/
def okPlain (s l : Int) (nx : List Int) (es : List Bool) : Bool :=
  (decide (s ≥ 1) && decide (s ≤ 64)) && ((decide (l ≥ 1) && decide (l ≤ 4)) && ((lenI nx == wmul .i64 s l) && ((lenI es == s) && allIn nx 0 (wsub .i64 s 1))))

theorem okPlain_spec {s l : Int} {nx : List Int} {es : List Bool} (h : okPlain s l nx es = true) : ∃ m c : Nat, s = (m : Int) ∧ l = (c : Int) ∧ 1 ≤ m ∧ m ≤ 64 ∧ 1 ≤ c ∧ c ≤ 4 ∧ nx.length = m * c ∧ es.length = m ∧ ∀ i, i < m * c → ∃ t : Nat, nx.getD i 0 = (t : Int) ∧ t < m := by
  unfold okPlain at h
  simp only [Bool.and_eq_true, decide_eq_true_eq, beq_iff_eq] at h
  obtain ⟨⟨h1, h2⟩, ⟨h3, h4⟩, h5, h6, h7⟩ := h
  obtain ⟨m, rfl⟩ : ∃ n : Nat, s = (n : Int) := ⟨s.toNat, by omega⟩
  obtain ⟨c, rfl⟩ : ∃ n : Nat, l = (n : Int) := ⟨l.toNat, by omega⟩
  have hmc : m * c ≤ 64 * 4 := Nat.mul_le_mul (by omega) (by omega)
  rw [wmulI (by rw [← Int.natCast_mul]; omega), ← Int.natCast_mul] at h5
  have hl : nx.length = m * c := by simp only [lenI] at h5; omega
  refine ⟨m, c, rfl, rfl, by omega, by omega, by omega, by omega, hl, by simp only [lenI] at h6; omega, fun i hi => ?_⟩
  have := allIn_iff.1 h7 i (by omega)
  rw [wsubI (by omega)] at this
  exact ⟨(nx.getD i 0).toNat, by omega, by omega⟩

/-- A loop's words are words. -/
def okLoop (xs ys : List Int) (L : Int) : Bool := (decide (L ≥ 1) && decide (L ≤ 4)) && ((allIn xs 0 (wsub .i64 L 1) && decide (lenI xs ≤ 12)) && ((allIn ys 0 (wsub .i64 L 1) && decide (lenI ys ≤ 12)) && decide (lenI ys ≥ 1)))

/-- A list's numbers are letters. -/
def Letters (c : Nat) (xs : List Int) : Prop := ∀ i, i < xs.length → ∃ a : Nat, xs.getD i 0 = (a : Int) ∧ a < c

theorem okLoop_spec {xs ys : List Int} {c : Nat} (h : okLoop xs ys (c : Int) = true) : xs.length ≤ 12 ∧ ys.length ≤ 12 ∧ 1 ≤ ys.length ∧ Letters c xs ∧ Letters c ys := by
  unfold okLoop at h
  simp only [Bool.and_eq_true, decide_eq_true_eq, lenI] at h
  obtain ⟨⟨h1, h2⟩, ⟨h3, h4⟩, ⟨h5, h6⟩, h7⟩ := h
  rw [wsubI (by omega)] at h3 h5
  refine ⟨by omega, by omega, by omega, fun i hi => ?_, fun i hi => ?_⟩
  · have := allIn_iff.1 h3 i hi
    exact ⟨(xs.getD i 0).toNat, by omega, by omega⟩
  · have := allIn_iff.1 h5 i hi
    exact ⟨(ys.getD i 0).toNat, by omega, by omega⟩

/-- A valid machine. -/
structure Plain (m c : Nat) (nx : List Int) (es : List Bool) : Prop where
  m1 : 1 ≤ m
  m2 : m ≤ 64
  c1 : 1 ≤ c
  c2 : c ≤ 4
  len : nx.length = m * c
  ends : es.length = m
  to : ∀ i, i < m * c → ∃ t : Nat, nx.getD i 0 = (t : Int) ∧ t < m

/-- The next state. -/
def goP (c : Nat) (nx : List Int) (s : Nat) (a : Int) : Nat := (nx.getD (s * c + a.toNat) 0).toNat

def walkP (c : Nat) (nx : List Int) (s : Nat) (w : List Int) : Nat := w.foldl (goP c nx) s

theorem place_lt {m c s a : Nat} (hs : s < m) (ha : a < c) : s * c + a < m * c := by
  have : s * c + c ≤ m * c := by
    rw [← Nat.succ_mul]
    exact Nat.mul_le_mul_right c hs
  omega

section
variable {m c : Nat} {nx : List Int} {es : List Bool} (hp : Plain m c nx es)
include hp

theorem goP_lt {s : Nat} {a : Int} {k : Nat} (hs : s < m) (ha : a = (k : Int)) (hk : k < c) : goP c nx s a < m := by
  subst ha
  obtain ⟨t, h1, h2⟩ := hp.to (s * c + k) (place_lt hs hk)
  unfold goP
  rw [Int.toNat_natCast, h1]
  simpa using h2

theorem walk_lt {w : List Int} (hw : Letters c w) : ∀ (k : Nat) {s : Nat}, s < m → walkP c nx s (w.take k) < m := by
  intro k
  induction k with
  | zero => intro s hs; simpa [walkP] using hs
  | succ k ih =>
    intro s hs
    by_cases hk : k < w.length
    · rw [take_snoc hk 0]
      unfold walkP
      rw [List.foldl_append]
      obtain ⟨a, e, ha⟩ := hw k hk
      exact goP_lt hp (ih hs) e ha
    · have e : w.take (k + 1) = w.take k := by rw [List.take_of_length_le (by omega), List.take_of_length_le (by omega)]
      rw [e]; exact ih hs

end

theorem walk_succ {c : Nat} {nx w : List Int} {s k : Nat} (hk : k < w.length) : walkP c nx s (w.take (k + 1)) = goP c nx (walkP c nx s (w.take k)) (w.getD k 0) := by
  rw [take_snoc hk 0]; unfold walkP; rw [List.foldl_append]; rfl

end Go.Proofs


/-
  Models of chances: when they are valid.
-/
namespace Go.Proofs
open Go.Ide Go.IntWalk

/-- A chance. -/
def share (x : Nat) : Bool := fge .f32 x 0 && fle .f32 x 1065353216

theorem specShare (x : Nat) : spec_l02Share x = some (share x) := by
  unfold spec_l02Share share
  cases fge .f32 x 0 <;> rfl

theorem bd_share {x : Nat} (h : share x = true) : bd x 127 := by
  unfold share at h
  rw [Bool.and_eq_true] at h
  exact share_bd h.1 h.2

/-- Nearly one. -/
def nearOne (s : Nat) : Bool := fle .f32 (fop .sub .f32 s 1065353216) 981668463 && fge .f32 (fop .sub .f32 s 1065353216) 3129152111

theorem absOne (s : Nat) : (impl_absolute (fop .sub .f32 s 1065353216)).bind (fun y => some (fle .f32 y 981668463)) = some (nearOne s) := by
  unfold nearOne
  rw [near_abs (c := 981668463) (nc := 3129152111) (mc := 8388608 + 981668463 % 8388608) (pc := -149 + ((981668463 / 8388608 - 1 : Nat) : Int)) (by decide) (by decide)]
  unfold impl_absolute
  cases flt .f32 (fop .sub .f32 s 1065353216) 0 <;> rfl

/-- The sum of the first i, added up from the first. -/
def sumF (xs : List Nat) : Nat → Nat
  | 0 => 0
  | i + 1 => fop .add .f32 (sumF xs i) (xs.getD i 0)

def okRow (xs : List Nat) : Bool := allN (fun i => share (xs.getD i 0)) xs.length 0 && nearOne (sumF xs xs.length)

theorem allN_snoc (p : Nat → Bool) : ∀ k i, allN p (k + 1) i = (allN p k i && p (i + k))
  | 0, i => by simp [allN]
  | k + 1, i => by
    rw [allN, allN_snoc p k (i + 1), allN, show i + 1 + k = i + (k + 1) by omega, Bool.and_assoc]

theorem specRow {xs : List Nat} (h : xs.length ≤ 4294967296) : spec_l03Row xs = some (okRow xs) := by
  have hf : ∀ k i, i + k = xs.length → rounds (spec_l03Row_B1 xs) (sumF xs i, (i : Int)) = some (bif allN (fun i => share (xs.getD i 0)) k i then .inl (sumF xs xs.length) else .inr ()) := by
    intro k
    induction k with
    | zero =>
      intro i hi
      have : i = xs.length := by omega
      subst this
      rw [rounds_eq]
      have : spec_l03Row_B1 xs (sumF xs xs.length, (xs.length : Int)) = some (.inr (.inl (sumF xs xs.length))) := by
        unfold spec_l03Row_B1
        simp only [geN (Nat.le_refl _), cond_false]
      rw [this]
      rfl
    | succ k ih =>
      intro i hi
      have hlt : i < xs.length := by omega
      rw [rounds_eq]
      have : spec_l03Row_B1 xs (sumF xs i, (i : Int)) = some (bif share (xs.getD i 0) then .inl (sumF xs (i + 1), ((i + 1 : Nat) : Int)) else .inr (.inr ())) := by
        unfold spec_l03Row_B1
        simp only [ltN hlt, cond_true, guard_pos (idxN hlt), Int.toNat_natCast, specShare, Option.bind_some, nextN hlt h]
        cases share (xs.getD i 0) <;> rfl
      rw [this, allN]
      cases hs : share (xs.getD i 0) with
      | true => exact ih (i + 1) (by omega)
      | false => rfl
  unfold spec_l03Row okRow
  have := hf xs.length 0 (by omega)
  simp only [sumF, Int.natCast_zero] at this
  rw [this]
  unfold nearOne
  cases allN (fun i => share (xs.getD i 0)) xs.length 0 with
  | false => rfl
  | true =>
    simp only [cond_true, Option.bind_some, Bool.true_and]
    cases fle .f32 (fop .sub .f32 (sumF xs xs.length) 1065353216) 981668463 <;> rfl

theorem implSum {xs : List Nat} (h : xs.length ≤ 4294967296) : impl_addUp xs = some (sumF xs xs.length) := by
  have := rounds_forS (f := impl_addUp_B1 xs) (fun i s => (s, ((i : Nat) : Int))) (fun i s => fop .add .f32 s (xs.getD i 0)) id (n := xs.length) (fun i s => s = sumF xs i)
    (fun i s hi hs => ⟨by
      unfold impl_addUp_B1
      simp only [ltN hi, cond_true, guard_pos (idxN hi), Int.toNat_natCast, nextN hi h], by rw [hs]; rfl⟩)
    (fun s hs => by
      unfold impl_addUp_B1
      simp only [geN (Nat.le_refl _), cond_false]; rfl) xs.length 0 0 (by omega) rfl
  unfold impl_addUp
  simp only [Int.natCast_zero] at this
  rw [this.1]
  simp only [id, Option.bind_some, this.2]

theorem implRow {xs : List Nat} (h : xs.length ≤ 4294967296) : impl_areChances xs = some (okRow xs) := by
  unfold impl_areChances okRow
  have := rounds_all (f := impl_areChances_B1 xs) (fun i => ((i : Nat) : Int)) (fun i => share (xs.getD i 0)) (Sum.inl ()) (Sum.inr ()) (n := xs.length) (fun i hi => by
    unfold impl_areChances_B1
    simp only [ltN hi, cond_true, guard_pos (idxN hi), Int.toNat_natCast, nextN hi h]
    unfold share
    cases fge .f32 (xs.getD i 0) 0 <;> cases fle .f32 (xs.getD i 0) 1065353216 <;> rfl) (by
    unfold impl_areChances_B1
    simp only [geN (Nat.le_refl _), cond_false]) xs.length 0 (by omega)
  simp only [Int.natCast_zero] at this
  rw [this]
  cases allN (fun i => share (xs.getD i 0)) xs.length 0 with
  | false => rfl
  | true =>
    simp only [cond_true, Option.bind_some, Bool.true_and, implSum h]
    exact absOne _

/-- Row i of rows of w numbers. -/
def rowF (xs : List Nat) (w i : Nat) : List Nat := (xs.drop (i * w)).take w

theorem rowF_len {xs : List Nat} {w i n : Nat} (h : xs.length = n * w) (hi : i < n) : (rowF xs w i).length = w := by
  have : (i + 1) * w ≤ n * w := Nat.mul_le_mul_right _ hi
  rw [Nat.succ_mul] at this
  unfold rowF
  simp; omega

theorem rowF_get {xs : List Nat} {w i n k : Nat} (h : xs.length = n * w) (hi : i < n) (hk : k < w) : (rowF xs w i).getD k 0 = xs.getD (i * w + k) 0 := by
  unfold rowF
  simp only [List.getD_eq_getElem?_getD]
  rw [List.getElem?_take_of_lt hk, List.getElem?_drop]

/-- A model is as it must be. -/
def okModel (n k : Int) (fs ss hs : List Nat) : Bool :=
  (decide (n ≥ 1) && decide (n ≤ 5)) && ((decide (k ≥ 1) && decide (k ≤ 4)) && ((lenI fs == n) && ((lenI ss == wmul .i64 n n) && ((lenI hs == wmul .i64 n k) && (okRow fs &&
    (allN (fun i => okRow (rowF ss n.toNat i)) n.toNat 0 && allN (fun i => okRow (rowF hs k.toNat i)) n.toNat 0))))))

theorem allN_and (p q : Nat → Bool) : ∀ k i, allN (fun i => p i && q i) k i = (allN p k i && allN q k i)
  | 0, _ => rfl
  | k + 1, i => by
    simp only [allN, allN_and p q k (i + 1)]
    cases p i <;> cases q i <;> cases allN p k (i + 1) <;> cases allN q k (i + 1) <;> rfl

theorem cutRow {xs : List Nat} {w n i : Nat} (hn : n ≤ 1000) (hw : w ≤ 1000) (hi : i < n) : cut xs (wmul .i64 (i : Int) (w : Int)) (wadd .i64 (wmul .i64 (i : Int) (w : Int)) (w : Int)) = rowF xs w i ∧
    wmul .i64 (i : Int) (w : Int) = ((i * w : Nat) : Int) ∧ wadd .i64 (wmul .i64 (i : Int) (w : Int)) (w : Int) = ((i * w + w : Nat) : Int) ∧ wmul .i64 (wadd .i64 (i : Int) 1) (w : Int) = ((i * w + w : Nat) : Int) := by
  have h1 : i * w ≤ 1000 * 1000 := Nat.mul_le_mul (by omega) hw
  have h2 : (i + 1) * w ≤ 1001 * 1000 := Nat.mul_le_mul (by omega) hw
  rw [Nat.succ_mul] at h2
  have e1 : wmul .i64 (i : Int) (w : Int) = ((i * w : Nat) : Int) := by rw [wmulI (by rw [← Int.natCast_mul]; omega), ← Int.natCast_mul]
  have e2 : wadd .i64 ((i * w : Nat) : Int) (w : Int) = ((i * w + w : Nat) : Int) := by rw [waddI (by omega)]; omega
  have e3 : wmul .i64 (wadd .i64 (i : Int) 1) (w : Int) = ((i * w + w : Nat) : Int) := by
    rw [waddI (by omega), show (i : Int) + 1 = ((i + 1 : Nat) : Int) by omega, wmulI (by rw [← Int.natCast_mul, Nat.succ_mul]; omega), ← Int.natCast_mul, Nat.succ_mul]
  refine ⟨?_, e1, by rw [e1, e2], e3⟩
  rw [e1, e2]
  unfold cut rowF
  simp only [Int.toNat_natCast]
  rw [show i * w + w - i * w = w by omega]

theorem row_in {xs : List Nat} {w n i : Nat} (h : xs.length = n * w) (hi : i < n) : i * w + w ≤ xs.length := by
  have : (i + 1) * w ≤ n * w := Nat.mul_le_mul_right _ hi
  rw [Nat.succ_mul] at this
  omega

theorem implRows {xs : List Nat} {n w : Nat} (hn : n ≤ 1000) (hw : w ≤ 1000) : impl_areRows xs (n : Int) (w : Int) = some ((lenI xs == wmul .i64 (n : Int) (w : Int)) && allN (fun i => okRow (rowF xs w i)) n 0) := by
  unfold impl_areRows
  have e : wmul .i64 (n : Int) (w : Int) = ((n * w : Nat) : Int) := by
    have : n * w ≤ 1000 * 1000 := Nat.mul_le_mul hn hw
    rw [wmulI (by rw [← Int.natCast_mul]; omega), ← Int.natCast_mul]
  cases hl : (lenI xs == wmul .i64 (n : Int) (w : Int)) with
  | false => simp [bne, hl]
  | true =>
    have hlen : xs.length = n * w := by
      rw [e] at hl
      have := eq_of_beq hl
      simp only [lenI] at this
      omega
    have := rounds_all (f := impl_areRows_B1 xs (n : Int) (w : Int)) (fun i => ((i : Nat) : Int)) (fun i => okRow (rowF xs w i)) (Sum.inl ()) (Sum.inr ()) (n := n) (fun i hi => by
      obtain ⟨c1, c2, c3, c4⟩ := cutRow (xs := xs) hn hw hi
      have hin := row_in hlen hi
      unfold impl_areRows_B1 impl_rowOf_float32
      rw [c3, c2] at c1
      simp only [ltN hi, cond_true, c2, c4, c1]
      rw [guard_pos ⟨by omega, by omega, by omega, by simp only [lenI]; omega⟩]
      have hr : (rowF xs w i).length ≤ 4294967296 := by rw [rowF_len hlen hi]; omega
      simp only [Option.bind_some, implRow hr, nextN hi (by omega)]
      cases okRow (rowF xs w i) <;> rfl) (by
      unfold impl_areRows_B1
      simp only [geN (Nat.le_refl _), cond_false]) n 0 (by omega)
    simp only [Int.natCast_zero] at this
    simp only [bne, hl, Bool.not_true, cond_false, this, Option.bind_some, Bool.true_and]
    cases allN (fun i => okRow (rowF xs w i)) n 0 <;> rfl

theorem rowF_all {xs : List Nat} {n : Nat} (h : xs.length = n) : rowF xs n 0 = xs := by
  unfold rowF
  rw [Nat.zero_mul, List.drop_zero, ← h, List.take_length]

theorem implModel {n k : Int} {fs ss hs : List Nat} : impl_ValidModel (n, k, fs, ss, hs) = some (okModel n k fs ss hs) := by
  unfold impl_ValidModel okModel
  simp only [within64, Option.bind_some]
  cases hn : (decide (n ≥ 1) && decide (n ≤ 5)) with
  | false => rfl
  | true =>
    cases hk : (decide (k ≥ 1) && decide (k ≤ 4)) with
    | false => rfl
    | true =>
      simp only [Bool.and_eq_true, decide_eq_true_eq] at hn hk
      obtain ⟨a, rfl⟩ : ∃ a : Nat, n = (a : Int) := ⟨n.toNat, by omega⟩
      obtain ⟨b, rfl⟩ : ∃ b : Nat, k = (b : Int) := ⟨k.toNat, by omega⟩
      have e1 := implRows (xs := fs) (n := 1) (w := a) (by omega) (by omega)
      have e0 : wmul .i64 ((1 : Nat) : Int) (a : Int) = (a : Int) := by rw [wmulI (by omega)]; omega
      rw [e0] at e1
      have e2 := implRows (xs := ss) (n := a) (w := a) (by omega) (by omega)
      have e3 := implRows (xs := hs) (n := a) (w := b) (by omega) (by omega)
      simp only [Int.natCast_one] at e1
      simp only [e1, e2, e3, cond_true, Option.bind_some, Int.toNat_natCast, Bool.true_and]
      have hr : lenI fs = (a : Int) → allN (fun i => okRow (rowF fs a i)) 1 0 = okRow fs := by
        intro h
        simp only [allN, Bool.and_true]
        rw [rowF_all (by simp only [lenI] at h; omega)]
      cases h1 : (lenI fs == (a : Int)) with
      | false => rfl
      | true =>
        rw [hr (eq_of_beq h1)]
        cases okRow fs <;> cases (lenI ss == wmul .i64 (a : Int) (a : Int)) <;> cases (lenI hs == wmul .i64 (a : Int) (b : Int)) <;> cases allN (fun i => okRow (rowF ss a i)) a 0 <;> cases allN (fun i => okRow (rowF hs b i)) a 0 <;> rfl

theorem specModel {n k : Int} {fs ss hs : List Nat} : spec_l03Is (n, k, fs, ss, hs) = some (okModel n k fs ss hs) := by
  unfold spec_l03Is okModel
  simp only [in64, Option.bind_some]
  cases hn : (decide (n ≥ 1) && decide (n ≤ 5)) with
  | false => rfl
  | true =>
    cases hk : (decide (k ≥ 1) && decide (k ≤ 4)) with
    | false => rfl
    | true =>
      simp only [Bool.and_eq_true, decide_eq_true_eq] at hn hk
      obtain ⟨a, rfl⟩ : ∃ a : Nat, n = (a : Int) := ⟨n.toNat, by omega⟩
      obtain ⟨b, rfl⟩ : ∃ b : Nat, k = (b : Int) := ⟨k.toNat, by omega⟩
      simp only [bne, Bool.not_true, cond_false, Bool.true_and, Int.toNat_natCast]
      cases h1 : (lenI fs == (a : Int)) with
      | false => rfl
      | true =>
        cases h2 : (lenI ss == wmul .i64 (a : Int) (a : Int)) with
        | false => rfl
        | true =>
          cases h3 : (lenI hs == wmul .i64 (a : Int) (b : Int)) with
          | false => rfl
          | true =>
            have m1 : a * a ≤ 5 * 5 := Nat.mul_le_mul (by omega) (by omega)
            have m2 : a * b ≤ 5 * 4 := Nat.mul_le_mul (by omega) (by omega)
            have l1 : fs.length = a := by have := eq_of_beq h1; simp only [lenI] at this; omega
            have l2 : ss.length = a * a := by
              have := eq_of_beq h2
              rw [wmulI (by rw [← Int.natCast_mul]; omega), ← Int.natCast_mul] at this
              simp only [lenI] at this; omega
            have l3 : hs.length = a * b := by
              have := eq_of_beq h3
              rw [wmulI (by rw [← Int.natCast_mul]; omega), ← Int.natCast_mul] at this
              simp only [lenI] at this; omega
            have := rounds_all (f := spec_l03Is_B1 ((a : Int), (b : Int), fs, ss, hs)) (fun i => ((i : Nat) : Int)) (fun i => okRow (rowF ss a i) && okRow (rowF hs b i)) (Sum.inl ()) (Sum.inr ()) (n := a) (fun i hi => by
              obtain ⟨c1, c2, c3, c4⟩ := cutRow (xs := ss) (w := a) (n := a) (by omega) (by omega) hi
              obtain ⟨d1, d2, d3, d4⟩ := cutRow (xs := hs) (w := b) (n := a) (by omega) (by omega) hi
              have hin := row_in l2 hi
              have hin2 := row_in l3 hi
              rw [c3, c2] at c1
              rw [d3, d2] at d1
              have hr : (rowF ss a i).length ≤ 4294967296 := by rw [rowF_len l2 hi]; omega
              have hr2 : (rowF hs b i).length ≤ 4294967296 := by rw [rowF_len l3 hi]; omega
              unfold spec_l03Is_B1
              simp only [ltN hi, cond_true]
              rw [c3, c2, c1, guard_pos ⟨by omega, by omega, by simp only [lenI]; omega⟩, specRow hr]
              simp only [Option.bind_some]
              rw [d3, d2, d1, guard_pos ⟨by omega, by omega, by simp only [lenI]; omega⟩, specRow hr2]
              simp only [Option.bind_some, nextN hi (show a ≤ 4294967296 by omega)]
              cases okRow (rowF ss a i) <;> cases okRow (rowF hs b i) <;> rfl) (by
              unfold spec_l03Is_B1
              simp only [geN (Nat.le_refl _), cond_false]) a 0 (by omega)
            simp only [Int.natCast_zero] at this
            rw [allN_and] at this
            simp only [specRow (xs := fs) (by omega), Option.bind_some, Bool.not_true, cond_false]
            cases okRow fs with
            | false => rfl
            | true =>
              simp only [Bool.not_true, cond_false, Option.bind_some, this, Bool.true_and]
              cases allN (fun i => okRow (rowF ss a i)) a 0 <;> cases allN (fun i => okRow (rowF hs b i)) a 0 <;> rfl

end Go.Proofs


/-
  Valid models and their words; HiddenChance.
-/
namespace Go.Proofs
open Go.Ide Go.IntWalk

structure Model (a b : Nat) (fs ss hs : List Nat) : Prop where
  n1 : 1 ≤ a
  n2 : a ≤ 5
  k1 : 1 ≤ b
  k2 : b ≤ 4
  lf : fs.length = a
  ls : ss.length = a * a
  lh : hs.length = a * b
  sf : ∀ i, i < a → bd (fs.getD i 0) 127
  st : ∀ i j, i < a → j < a → bd (ss.getD (i * a + j) 0) 127
  sh : ∀ i j, i < a → j < b → bd (hs.getD (i * b + j) 0) 127

theorem okRow_bd {xs : List Nat} (h : okRow xs = true) {i : Nat} (hi : i < xs.length) : bd (xs.getD i 0) 127 := by
  unfold okRow at h
  rw [Bool.and_eq_true] at h
  exact bd_share (allN_iff.1 h.1 i (by omega) (by omega))

theorem model_of {n k : Int} {fs ss hs : List Nat} (h : okModel n k fs ss hs = true) : ∃ a b : Nat, n = (a : Int) ∧ k = (b : Int) ∧ Model a b fs ss hs := by
  unfold okModel at h
  simp only [Bool.and_eq_true, decide_eq_true_eq, beq_iff_eq] at h
  obtain ⟨⟨h1, h2⟩, ⟨h3, h4⟩, h5, h6, h7, h8, h9, h10⟩ := h
  obtain ⟨a, rfl⟩ : ∃ a : Nat, n = (a : Int) := ⟨n.toNat, by omega⟩
  obtain ⟨b, rfl⟩ : ∃ b : Nat, k = (b : Int) := ⟨k.toNat, by omega⟩
  have m1 : a * a ≤ 5 * 5 := Nat.mul_le_mul (by omega) (by omega)
  have m2 : a * b ≤ 5 * 4 := Nat.mul_le_mul (by omega) (by omega)
  rw [wmulI (by rw [← Int.natCast_mul]; omega), ← Int.natCast_mul] at h6
  rw [wmulI (by rw [← Int.natCast_mul]; omega), ← Int.natCast_mul] at h7
  simp only [lenI] at h5 h6 h7
  have l1 : fs.length = a := by omega
  have l2 : ss.length = a * a := by omega
  have l3 : hs.length = a * b := by omega
  simp only [Int.toNat_natCast] at h9 h10
  refine ⟨a, b, rfl, rfl, by omega, by omega, by omega, by omega, l1, l2, l3, fun i hi => okRow_bd h8 (by omega), fun i j hi hj => ?_, fun i j hi hj => ?_⟩
  · rw [← rowF_get l2 hi hj]
    exact okRow_bd (allN_iff.1 h9 i (by omega) (by omega)) (by rw [rowF_len l2 hi]; exact hj)
  · rw [← rowF_get l3 hi hj]
    exact okRow_bd (allN_iff.1 h10 i (by omega) (by omega)) (by rw [rowF_len l3 hi]; exact hj)

/-- A word of a model. -/
def okMWord (n k : Int) (fs ss hs : List Nat) (w : List Int) : Bool := okModel n k fs ss hs && (allIn w 0 (wsub .i64 k 1) && decide (lenI w ≤ 12))

theorem specMWord {n k : Int} {fs ss hs : List Nat} {w : List Int} (h : w.length ≤ 4294967296) : spec_l03Word (n, k, fs, ss, hs) w = some (okMWord n k fs ss hs w) := by
  unfold spec_l03Word okMWord
  simp only [specModel, word64 h, Option.bind_some]
  cases okModel n k fs ss hs <;> rfl

theorem implMWord {n k : Int} {fs ss hs : List Nat} {w : List Int} (h : w.length ≤ 4294967296) : impl_Model_has (n, k, fs, ss, hs) w = some (okMWord n k fs ss hs w) := by
  unfold impl_Model_has okMWord
  simp only [implModel, isWord64 h, Option.bind_some]
  cases hm : okModel n k fs ss hs with
  | false => rfl
  | true =>
    obtain ⟨a, b, rfl, rfl, m⟩ := model_of hm
    have := m.k1
    have := m.k2
    rw [decide_eq_true (show (b : Int) ≥ 1 by omega), decide_eq_true (show (b : Int) ≤ 4 by omega)]
    cases allIn w 0 (wsub .i64 (b : Int) 1) <;> cases decide (lenI w ≤ 12) <;> rfl

theorem mword_of {n k : Int} {fs ss hs : List Nat} {w : List Int} (h : okMWord n k fs ss hs w = true) : ∃ a b : Nat, n = (a : Int) ∧ k = (b : Int) ∧ Model a b fs ss hs ∧ w.length ≤ 12 ∧ Letters b w := by
  unfold okMWord at h
  simp only [Bool.and_eq_true, decide_eq_true_eq, lenI] at h
  obtain ⟨h1, h2, h3⟩ := h
  obtain ⟨a, b, rfl, rfl, m⟩ := model_of h1
  have := m.k1
  have := m.k2
  rw [wsubI (by omega)] at h2
  refine ⟨a, b, rfl, rfl, m, by omega, fun i hi => ?_⟩
  have := allIn_iff.1 h2 i hi
  exact ⟨(w.getD i 0).toNat, by omega, by omega⟩

/-- Hidden states of a word. -/
def okStates (n : Int) (w s : List Int) : Bool := allIn s 0 (wsub .i64 n 1) && (lenI s == wadd .i64 (lenI w) 1)

theorem states_of {a : Nat} {w s : List Int} (ha : 1 ≤ a) (ha2 : a ≤ 5) (hw : w.length ≤ 12) (h : okStates (a : Int) w s = true) : s.length = w.length + 1 ∧ Letters a s := by
  unfold okStates at h
  simp only [Bool.and_eq_true, beq_iff_eq, lenI] at h
  rw [wsubI (by omega), waddI (by omega)] at h
  refine ⟨by omega, fun i hi => ?_⟩
  have := allIn_iff.1 h.1 i hi
  exact ⟨(s.getD i 0).toNat, by omega, by omega⟩

theorem cellM {a b i j : Nat} (ha : a ≤ 5) (hb : b ≤ 5) (hi : i < a) (hj : j < b) : wadd .i64 (wmul .i64 (i : Int) (b : Int)) (j : Int) = ((i * b + j : Nat) : Int) ∧ i * b + j < a * b := by
  refine ⟨cellN (by omega) (by omega) (by omega), ?_⟩
  have : (i + 1) * b ≤ a * b := Nat.mul_le_mul_right _ hi
  rw [Nat.succ_mul] at this
  omega

def hidStep (a b : Nat) (ss hs : List Nat) (w s : List Int) (i : Nat) (x : Nat) : Nat :=
  fop .mul .f32 (fop .mul .f32 x (hs.getD ((s.getD i 0).toNat * b + (w.getD i 0).toNat) 0)) (ss.getD ((s.getD i 0).toNat * a + (s.getD (i + 1) 0).toNat) 0)

theorem hid_bd {a b : Nat} {fs ss hs : List Nat} (m : Model a b fs ss hs) {w s : List Int} (hw : Letters b w) (hs' : Letters a s) (hl : s.length = w.length + 1) {i x : Nat} (hi : i < w.length) (hx : bd x 127) : bd (hidStep a b ss hs w s i x) 127 := by
  obtain ⟨c, hc, hc2⟩ := hw i hi
  obtain ⟨p, hp, hp2⟩ := hs' i (by omega)
  obtain ⟨q, hq, hq2⟩ := hs' (i + 1) (by omega)
  unfold hidStep
  rw [hc, hp, hq]
  simp only [Int.toNat_natCast]
  have h1 : bd (fop .mul .f32 x (hs.getD (p * b + c) 0)) 127 := bd_mul hx (m.sh p c hp2 hc2) (by omega) (by omega) (by omega) (by omega) (by omega) (by omega)
  exact bd_mul h1 (m.st p q hp2 hq2) (by omega) (by omega) (by omega) (by omega) (by omega) (by omega)

end Go.Proofs


/-
  Chances forward; ChanceOf.
-/
namespace Go.Proofs
open Go.Ide Go.IntWalk

theorem bd_zero (K : Nat) : bd 0 K := by unfold bd; omega

theorem sumF_bd {xs : List Nat} {K : Nat} (hK : 2 ≤ K) (h : ∀ i, i < xs.length → bd (xs.getD i 0) K) : ∀ i, i ≤ xs.length → K + i ≤ 254 → bd (sumF xs i) (K + i)
  | 0, _, _ => bd_zero _
  | i + 1, hi, hk => by
    have h1 : bd (xs.getD i 0) (K + i) := (h i (by omega)).mono (by omega)
    have h2 : bd (sumF xs i) (K + i) := sumF_bd hK h i (by omega) (by omega)
    have := bd_add h2 h1 (by omega) (by omega)
    exact this

theorem specSum {xs : List Nat} (h : xs.length ≤ 4294967296) : spec_l03Sum xs = some (sumF xs xs.length) := by
  have := rounds_forS (f := spec_l03Sum_B1 xs) (fun i s => (s, ((i : Nat) : Int))) (fun i s => fop .add .f32 s (xs.getD i 0)) id (n := xs.length) (fun i s => s = sumF xs i)
    (fun i s hi hs => ⟨by
      unfold spec_l03Sum_B1
      simp only [ltN hi, cond_true, guard_pos (idxN hi), Int.toNat_natCast, nextN hi h], by rw [hs]; rfl⟩)
    (fun s hs => by
      unfold spec_l03Sum_B1
      simp only [geN (Nat.le_refl _), cond_false]; rfl) xs.length 0 0 (by omega) rfl
  unfold spec_l03Sum
  simp only [Int.natCast_zero] at this
  rw [this.1]
  simp only [id, Option.bind_some, this.2]

/-- One cell of the next row, added up over the first p states. -/
def cellF (a b : Nat) (ss hs row : List Nat) (c j : Nat) : Nat → Nat
  | 0 => 0
  | p + 1 => fop .add .f32 (cellF a b ss hs row c j p) (fop .mul .f32 (fop .mul .f32 (row.getD p 0) (hs.getD (p * b + c) 0)) (ss.getD (p * a + j) 0))

def nextF (a b : Nat) (ss hs row : List Nat) (c : Nat) : List Nat := (List.range a).map fun j => cellF a b ss hs row c j a

theorem nextF_len (a b : Nat) (ss hs row : List Nat) (c : Nat) : (nextF a b ss hs row c).length = a := by simp [nextF]

theorem nextF_get {a b : Nat} {ss hs row : List Nat} {c j : Nat} (hj : j < a) : (nextF a b ss hs row c).getD j 0 = cellF a b ss hs row c j a := by
  unfold nextF
  simp [List.getD_eq_getElem?_getD, hj]

theorem cellF_bd {a b : Nat} {fs ss hs : List Nat} (m : Model a b fs ss hs) {row : List Nat} {c j K : Nat} (hc : c < b) (hj : j < a) (hK : 2 ≤ K) (h : ∀ i, i < a → bd (row.getD i 0) K) : ∀ p, p ≤ a → K + p ≤ 254 → bd (cellF a b ss hs row c j p) (K + p)
  | 0, _, _ => bd_zero _
  | p + 1, hp, hk => by
    have h1 : bd (fop .mul .f32 (row.getD p 0) (hs.getD (p * b + c) 0)) K := bd_mul (h p (by omega)) (m.sh p c (by omega) hc) hK (by omega) (by omega) (by omega) hK (by omega)
    have h2 : bd (fop .mul .f32 (fop .mul .f32 (row.getD p 0) (hs.getD (p * b + c) 0)) (ss.getD (p * a + j) 0)) K := bd_mul h1 (m.st p j (by omega) hj) hK (by omega) (by omega) (by omega) hK (by omega)
    have h3 : bd (fop .mul .f32 (fop .mul .f32 (row.getD p 0) (hs.getD (p * b + c) 0)) (ss.getD (p * a + j) 0)) (K + p) := h2.mono (by omega)
    have h4 : bd (cellF a b ss hs row c j p) (K + p) := cellF_bd m hc hj hK h p (by omega) (by omega)
    have := bd_add h4 h3 (by omega) (by omega)
    exact this

theorem nextF_bd {a b : Nat} {fs ss hs : List Nat} (m : Model a b fs ss hs) {row : List Nat} {c K : Nat} (hc : c < b) (hK : 2 ≤ K) (h : ∀ i, i < a → bd (row.getD i 0) K) (hk : K + 5 ≤ 254) : ∀ j, j < a → bd ((nextF a b ss hs row c).getD j 0) (K + 5) := by
  intro j hj
  have := m.n2
  rw [nextF_get hj]
  exact (cellF_bd m hc hj hK h a (Nat.le_refl _) (by omega)).mono (by omega)

theorem specNext {a b : Nat} {fs ss hs : List Nat} (m : Model a b fs ss hs) {row : List Nat} {c : Nat} (hc : c < b) (hr : row.length = a) : spec_l03Next ((a : Int), (b : Int), fs, ss, hs) row (c : Int) = some (nextF a b ss hs row c) := by
  have hn2 := m.n2
  have hk2 := m.k2
  have hls := m.ls
  have hlh := m.lh
  have := loop_app (f := spec_l03Next_B2 ((a : Int), (b : Int), fs, ss, hs) row (c : Int)) (fun j => cellF a b ss hs row c j a) a []
    (fun j out hj ho => by
      have := rounds_forS (f := spec_l03Next_B1 ((a : Int), (b : Int), fs, ss, hs) row (c : Int) ((j : Int), out)) (fun p s => (s, ((p : Nat) : Int)))
        (fun p s => fop .add .f32 s (fop .mul .f32 (fop .mul .f32 (row.getD p 0) (hs.getD (p * b + c) 0)) (ss.getD (p * a + j) 0))) id (n := a) (fun p s => s = cellF a b ss hs row c j p)
        (fun p s hp hs' => ⟨by
          obtain ⟨e1, e2⟩ := cellM (a := a) (b := b) (by omega) (by omega) hp hc
          obtain ⟨e3, e4⟩ := cellM (a := a) (b := a) (by omega) (by omega) hp hj
          have j1 := idxN (i := p) (n := row.length) (by omega)
          have j3 := idxN (i := p * b + c) (n := hs.length) (by omega)
          have j4 := idxN (i := p * a + j) (n := ss.length) (by omega)
          unfold spec_l03Next_B1
          simp only [ltN hp, cond_true, Int.toNat_natCast, nextN hp (show a ≤ 4294967296 by omega), e1, e3]
          rw [guard_pos j1, guard_pos j3, guard_pos j4], by rw [hs']; rfl⟩)
        (fun s _ => by
          unfold spec_l03Next_B1
          simp only [geN (Nat.le_refl _), cond_false]; rfl) a 0 0 (by omega) rfl
      simp only [Int.natCast_zero] at this
      unfold spec_l03Next_B2
      simp only [ltN hj, cond_true, this.1, id, Option.bind_some, nextN hj (show a ≤ 4294967296 by omega)]
      rw [guard_pos (by simp only [List.length_nil] at ho; simp only [ho, List.length_singleton, appMax]; omega), this.2])
    (fun out => by
      unfold spec_l03Next_B2
      simp only [geN (Nat.le_refl _), cond_false])
  unfold spec_l03Next
  rw [this]
  rfl

theorem loop_to0 {f : Int × List Nat → Option ((Int × List Nat) ⊕ List Nat)} (xs : List Nat)
    (hstep : ∀ (i : Nat) (out : List Nat), i < xs.length → out.length = xs.length → out.getD i 0 = 0 → f ((i : Int), out) = some (.inl (((i + 1 : Nat) : Int), out.set i (xs.getD i 0))))
    (hend : ∀ out : List Nat, out.length = xs.length → f (((xs.length : Nat) : Int), out) = some (.inr out)) : rounds f ((0 : Int), List.replicate xs.length 0) = some xs := by
  have := rounds_forS (f := f) (fun i out => (((i : Nat) : Int), out)) (fun i out => out.set i (xs.getD i 0)) id (n := xs.length) (fun i out => out = xs.take i ++ List.replicate (xs.length - i) 0)
    (fun i out hi h => ⟨hstep i out hi (by rw [h]; simp; omega) (by
      rw [h, List.getD_eq_getElem?_getD, List.getElem?_append_right (by simp; omega)]
      simp only [List.length_take, List.getElem?_replicate]
      split <;> rfl), by
      rw [h, take_snoc hi 0, show xs.length - i = (xs.length - (i + 1)) + 1 from by omega, List.replicate_succ, set_at (by simp; omega)]
      simp⟩)
    (fun out h => hend out (by rw [h]; simp)) xs.length 0 (List.replicate xs.length 0) (by omega) (by simp)
  simp only [Int.natCast_zero] at this
  rw [this.1, this.2]
  simp

theorem implNext {a b : Nat} {fs ss hs : List Nat} (m : Model a b fs ss hs) {row : List Nat} {c : Nat} (hc : c < b) (hr : row.length = a) : impl_Model_nextRow ((a : Int), (b : Int), fs, ss, hs) row (c : Int) = some (nextF a b ss hs row c) := by
  have hn2 := m.n2
  have hk2 := m.k2
  have hls := m.ls
  have hlh := m.lh
  have hnl := nextF_len a b ss hs row c
  have := loop_to0 (f := impl_Model_nextRow_B2 ((a : Int), (b : Int), fs, ss, hs) row (c : Int)) (nextF a b ss hs row c)
    (fun j out hj ho h0 => by
      rw [hnl] at hj ho
      have := rounds_forS (f := impl_Model_nextRow_B1 ((a : Int), (b : Int), fs, ss, hs) row (c : Int) ((j : Int), out)) (fun p s => (((p : Nat) : Int), s))
        (fun p s => s.set j (fop .add .f32 (s.getD j 0) (fop .mul .f32 (fop .mul .f32 (row.getD p 0) (hs.getD (p * b + c) 0)) (ss.getD (p * a + j) 0)))) id (n := a) (fun p s => s = out.set j (cellF a b ss hs row c j p))
        (fun p s hp hs' => ⟨by
          obtain ⟨e1, e2⟩ := cellM (a := a) (b := b) (by omega) (by omega) hp hc
          obtain ⟨e3, e4⟩ := cellM (a := a) (b := a) (by omega) (by omega) hp hj
          have hsl : s.length = a := by rw [hs']; simp [ho]
          have j0 := idxN (i := j) (n := s.length) (by omega)
          have j1 := idxN (i := p) (n := row.length) (by omega)
          have j3 := idxN (i := p * b + c) (n := hs.length) (by omega)
          have j4 := idxN (i := p * a + j) (n := ss.length) (by omega)
          unfold impl_Model_nextRow_B1 impl_Model_show impl_Model_step
          simp only [ltN hp, cond_true, Int.toNat_natCast, nextN hp (show a ≤ 4294967296 by omega), e1, e3]
          rw [guard_pos j0, guard_pos j1, guard_pos j3, Option.bind_some, guard_pos j4, Option.bind_some], by
          rw [hs']
          have : (out.set j (cellF a b ss hs row c j p)).getD j 0 = cellF a b ss hs row c j p := by
            simp [List.getD_eq_getElem?_getD, ho, hj]
          rw [this, List.set_set]
          rfl⟩)
        (fun s _ => by
          unfold impl_Model_nextRow_B1
          simp only [geN (Nat.le_refl _), cond_false]; rfl) a 0 out (by omega) (by
          show out = out.set j 0
          apply List.ext_getElem (by simp)
          intro i h1 h2
          rw [List.getElem_set]
          split
          · rename_i e
            subst e
            simpa [List.getD_eq_getElem?_getD, List.getElem?_eq_getElem h1] using h0
          · rfl)
      simp only [Int.natCast_zero] at this
      unfold impl_Model_nextRow_B2
      simp only [ltN hj, cond_true, this.1, id, Option.bind_some, nextN hj (show a ≤ 4294967296 by omega)]
      rw [this.2, nextF_get hj])
    (fun out _ => by
      unfold impl_Model_nextRow_B2
      rw [hnl]
      simp only [geN (Nat.le_refl _), cond_false])
  unfold impl_Model_nextRow
  rw [guard_pos ⟨by omega, by simp only; omega⟩]
  simp only [Int.toNat_natCast]
  rw [hnl] at this
  rw [this]
  rfl

/-- The rows of a word. -/
def rowAt (a b : Nat) (fs ss hs : List Nat) (w : List Int) : Nat → List Nat
  | 0 => fs
  | i + 1 => nextF a b ss hs (rowAt a b fs ss hs w i) (w.getD i 0).toNat

theorem rowAt_len {a b : Nat} {fs ss hs : List Nat} (m : Model a b fs ss hs) (w : List Int) : ∀ i, (rowAt a b fs ss hs w i).length = a
  | 0 => m.lf
  | i + 1 => nextF_len ..

theorem rowAt_bd {a b : Nat} {fs ss hs : List Nat} (m : Model a b fs ss hs) {w : List Int} (hw : Letters b w) (hl : w.length ≤ 12) : ∀ i, i ≤ w.length → ∀ j, j < a → bd ((rowAt a b fs ss hs w i).getD j 0) (127 + 5 * i)
  | 0, _ => m.sf
  | i + 1, hi => by
    obtain ⟨c, hc, hc2⟩ := hw i (by omega)
    rw [rowAt, hc, Int.toNat_natCast, show 127 + 5 * (i + 1) = 127 + 5 * i + 5 by omega]
    exact nextF_bd m hc2 (by omega) (rowAt_bd m hw hl i (by omega)) (by omega)

def rowsF (a b : Nat) (fs ss hs : List Nat) (w : List Int) : List (List Nat) := (List.range (w.length + 1)).map (rowAt a b fs ss hs w)

theorem rows_at (h : Nat → List Nat) (i : Nat) : ((List.range (i + 1)).map h).getD i [] = h i := by
  simp [List.getD_eq_getElem?_getD]

theorem specForward {a b : Nat} {fs ss hs : List Nat} (m : Model a b fs ss hs) {w : List Int} (hw : Letters b w) (hl : w.length ≤ 12) : spec_l03Forward ((a : Int), (b : Int), fs, ss, hs) w = some (rowsF a b fs ss hs w) := by
  have := rounds_forS (f := spec_l03Forward_B1 ((a : Int), (b : Int), fs, ss, hs) w) (fun i out => (((i : Nat) : Int), out)) (fun i out => out ++ [rowAt a b fs ss hs w (i + 1)]) id (n := w.length) (fun i out => out = (List.range (i + 1)).map (rowAt a b fs ss hs w))
    (fun i out hi ho => ⟨by
      obtain ⟨c, hc, hc2⟩ := hw i hi
      have e : out.getD i [] = rowAt a b fs ss hs w i := by rw [ho]; exact rows_at _ _
      have hlo : out.length = i + 1 := by rw [ho]; simp
      have j1 := idxN (i := i) (n := out.length) (by omega)
      unfold spec_l03Forward_B1
      simp only [ltN hi, cond_true, Int.toNat_natCast, nextN hi (show w.length ≤ 4294967296 by omega), e, hc, specNext m hc2 (rowAt_len m w i), Option.bind_some]
      rw [guard_pos j1, guard_pos (idxN hi), guard_pos (by simp only [hlo, List.length_singleton, appMax]; omega), rowAt, hc, Int.toNat_natCast], by
      rw [ho, List.range_succ (n := i + 1), List.map_append]; rfl⟩)
    (fun out _ => by
      unfold spec_l03Forward_B1
      simp only [geN (Nat.le_refl _), cond_false]; rfl) w.length 0 [fs] (by omega) rfl
  simp only [Int.natCast_zero] at this
  unfold spec_l03Forward
  rw [this.1]
  simp only [id, Option.bind_some, this.2, rowsF]

theorem implForward {a b : Nat} {fs ss hs : List Nat} (m : Model a b fs ss hs) {w : List Int} (hw : Letters b w) (hl : w.length ≤ 12) : impl_Model_forward ((a : Int), (b : Int), fs, ss, hs) w = some (rowsF a b fs ss hs w) := by
  have := rounds_forS (f := impl_Model_forward_B1 ((a : Int), (b : Int), fs, ss, hs) w) (fun i out => (((i : Nat) : Int), out)) (fun i out => out ++ [rowAt a b fs ss hs w (i + 1)]) id (n := w.length) (fun i out => out = (List.range (i + 1)).map (rowAt a b fs ss hs w))
    (fun i out hi ho => ⟨by
      obtain ⟨c, hc, hc2⟩ := hw i hi
      have e : out.getD i [] = rowAt a b fs ss hs w i := by rw [ho]; exact rows_at _ _
      have hlo : out.length = i + 1 := by rw [ho]; simp
      have j1 := idxN (i := i) (n := out.length) (by omega)
      unfold impl_Model_forward_B1
      simp only [ltN hi, cond_true, Int.toNat_natCast, nextN hi (show w.length ≤ 4294967296 by omega), e, hc, implNext m hc2 (rowAt_len m w i), Option.bind_some]
      rw [guard_pos (idxN hi), guard_pos j1, guard_pos (by simp only [hlo, List.length_singleton, appMax]; omega), rowAt, hc, Int.toNat_natCast], by
      rw [ho, List.range_succ (n := i + 1), List.map_append]; rfl⟩)
    (fun out _ => by
      unfold impl_Model_forward_B1
      simp only [geN (Nat.le_refl _), cond_false]; rfl) w.length 0 [fs] (by omega) rfl
  simp only [Int.natCast_zero] at this
  unfold impl_Model_forward
  have hcl : slices_Clone fs = some fs := by
    have := m.lf
    have := m.n2
    unfold slices_Clone
    rw [guard_pos (by simp only [appMax]; omega)]
  rw [hcl]
  simp only [Option.bind_some]
  rw [this.1]
  simp only [id, Option.bind_some, this.2, rowsF]

end Go.Proofs


/-
  Two models that meet; MeetChance.
-/
namespace Go.Proofs
open Go.Ide Go.IntWalk

/-- The sum of the first i of g, added up from the first. -/
def sumN (g : Nat → Nat) : Nat → Nat
  | 0 => 0
  | i + 1 => fop .add .f32 (sumN g i) (g i)

set_option exponentiation.threshold 300 in
theorem sumN_bdv {g : Nat → Nat} {n k : Nat} (h : ∀ i, i < n → bdv (g i) (2 ^ k)) (hn : n ≤ 32) (hk : k + 5 ≤ 276) : ∀ i, i ≤ n → bdv (sumN g i) (i * 2 ^ k)
  | 0, _ => ⟨_, _, 0, read_zero, by omega⟩
  | i + 1, hi => by
    refine bdv_add (sumN_bdv h hn hk i (by omega)) (h i (by omega)) (by omega) ?_
    refine Nat.le_trans (Nat.mul_le_mul_right _ (show i + 1 ≤ 2 ^ 5 by omega)) ?_
    rw [← Nat.pow_add]
    exact Nat.pow_le_pow_right (by omega) (by omega)

theorem sumN_bd {g : Nat → Nat} {n K e : Nat} (h : ∀ i, i < n → bd (g i) K) (hK : 2 ≤ K) (he : n ≤ 2 ^ e) (hn : n ≤ 32) (hk : K + 5 ≤ 254) : bd (sumN g n) (K + e) := by
  apply bd_of_bdv _ (by omega)
  refine (sumN_bdv (k := K + 22) (fun i hi => bdv_of_bd (h i hi) hK (by omega)) hn (by omega) n (Nat.le_refl _)).mono ?_
  refine Nat.le_trans (Nat.mul_le_mul_right _ he) ?_
  rw [← Nat.pow_add]
  exact Nat.pow_le_pow_right (by omega) (by omega)

def okTwo (n k : Int) (fs ss hs : List Nat) (n' k' : Int) (fs' ss' hs' : List Nat) : Bool := okModel n k fs ss hs && (okModel n' k' fs' ss' hs' && (k == k'))

theorem two_of {n k : Int} {fs ss hs : List Nat} {n' k' : Int} {fs' ss' hs' : List Nat} (h : okTwo n k fs ss hs n' k' fs' ss' hs' = true) : ∃ a a' b : Nat, n = (a : Int) ∧ n' = (a' : Int) ∧ k = (b : Int) ∧ k' = (b : Int) ∧ Model a b fs ss hs ∧ Model a' b fs' ss' hs' := by
  unfold okTwo at h
  simp only [Bool.and_eq_true, beq_iff_eq] at h
  obtain ⟨h1, h2, h3⟩ := h
  obtain ⟨a, b, rfl, rfl, m⟩ := model_of h1
  obtain ⟨a', b', rfl, e, m'⟩ := model_of h2
  rw [← h3] at e
  have : b' = b := by omega
  subst this
  exact ⟨a, a', b', rfl, rfl, rfl, by omega, m, m'⟩

/-- A table's rows one after another. -/
def table (a' : Nat) (g : Nat → Nat → Nat) (n : Nat) : List Nat := (List.range n).map fun i => g (i / a') (i % a')

theorem table_len (a' : Nat) (g : Nat → Nat → Nat) (n : Nat) : (table a' g n).length = n := by simp [table]

theorem dm {a' p q : Nat} (hq : q < a') : (p * a' + q) / a' = p ∧ (p * a' + q) % a' = q := by
  constructor
  · rw [Nat.mul_comm, Nat.mul_add_div (by omega), Nat.div_eq_of_lt hq, Nat.add_zero]
  · rw [Nat.mul_comm, Nat.mul_add_mod, Nat.mod_eq_of_lt hq]

theorem table_snoc {a' p q : Nat} (g : Nat → Nat → Nat) (hq : q < a') : table a' g (p * a' + q) ++ [g p q] = table a' g (p * a' + (q + 1)) := by
  unfold table
  rw [show p * a' + (q + 1) = (p * a' + q) + 1 by omega, List.range_succ, List.map_append]
  simp only [List.map_cons, List.map_nil, (dm hq).1, (dm hq).2]

theorem table_get {a' p q n : Nat} (g : Nat → Nat → Nat) (hq : q < a') (hn : p * a' + q < n) : (table a' g n).getD (p * a' + q) 0 = g p q := by
  unfold table
  simp only [List.getD_eq_getElem?_getD, List.getElem?_map, List.getElem?_range hn, Option.map_some, Option.getD_some, (dm hq).1, (dm hq).2]

theorem rowEnd {a' p : Nat} : p * a' + a' = (p + 1) * a' + 0 := by rw [Nat.succ_mul]; omega

section
variable {a a' b : Nat} {fs ss hs fs' ss' hs' : List Nat}

def likeT (b : Nat) (hs hs' : List Nat) (p q c : Nat) : Nat := fop .mul .f32 (hs.getD (p * b + c) 0) (hs'.getD (q * b + c) 0)
def likeF (b : Nat) (hs hs' : List Nat) (p q : Nat) : Nat := sumN (likeT b hs hs' p q) b
def firstF (fs fs' : List Nat) (p q : Nat) : Nat := fop .mul .f32 (fs.getD p 0) (fs'.getD q 0)

theorem like_bd (m : Model a b fs ss hs) (m' : Model a' b fs' ss' hs') {p q : Nat} (hp : p < a) (hq : q < a') : bd (likeF b hs hs' p q) 129 := by
  have := m.k2
  exact sumN_bd (K := 127) (e := 2) (fun c hc => bd_mul (m.sh p c hp hc) (m'.sh q c hq hc) (by omega) (by omega) (by omega) (by omega) (by omega) (by omega)) (by omega) (by omega) (by omega) (by omega)

/-- One product of the next cell (s, t). -/
def meetT (a a' b : Nat) (ss hs ss' hs' cells : List Nat) (s t i : Nat) : Nat :=
  fop .mul .f32 (fop .mul .f32 (fop .mul .f32 (cells.getD i 0) (likeF b hs hs' (i / a') (i % a'))) (ss.getD (i / a' * a + s) 0)) (ss'.getD (i % a' * a' + t) 0)
def meetC (a a' b : Nat) (ss hs ss' hs' cells : List Nat) (s t : Nat) : Nat := sumN (meetT a a' b ss hs ss' hs' cells s t) (a * a')
def meetF (a a' b : Nat) (ss hs ss' hs' cells : List Nat) : List Nat := table a' (meetC a a' b ss hs ss' hs' cells) (a * a')

theorem quo_lt {i : Nat} (h : i < a * a') : i / a' < a ∧ i % a' < a' := by
  have : 0 < a' := by
    rcases Nat.eq_zero_or_pos a' with rfl | h'
    · omega
    · exact h'
  exact ⟨by rw [Nat.div_lt_iff_lt_mul this]; exact h, Nat.mod_lt _ this⟩

theorem prod25 (h : a ≤ 5) (h' : a' ≤ 5) : a * a' ≤ 25 := Nat.mul_le_mul h h'

theorem meet_bd (m : Model a b fs ss hs) (m' : Model a' b fs' ss' hs') {cells : List Nat} {K : Nat} (hK : 2 ≤ K) (hk : K + 7 ≤ 254) (h : ∀ i, i < a * a' → bd (cells.getD i 0) K) :
    ∀ i, i < a * a' → bd ((meetF a a' b ss hs ss' hs' cells).getD i 0) (K + 7) := by
  intro i hi
  have h25 := prod25 m.n2 m'.n2
  obtain ⟨h1, h2⟩ := quo_lt hi
  have e : (meetF a a' b ss hs ss' hs' cells).getD i 0 = meetC a a' b ss hs ss' hs' cells (i / a') (i % a') := by
    unfold meetF table
    simp only [List.getD_eq_getElem?_getD, List.getElem?_map, List.getElem?_range hi, Option.map_some, Option.getD_some]
  rw [e]
  refine sumN_bd (K := K + 2) (e := 5) (fun j hj => ?_) (by omega) (by omega) (by omega) (by omega)
  obtain ⟨g1, g2⟩ := quo_lt hj
  have t1 : bd (fop .mul .f32 (cells.getD j 0) (likeF b hs hs' (j / a') (j % a'))) (K + 2) := bd_mul (h j hj) (like_bd m m' g1 g2) hK (by omega) (by omega) (by omega) (by omega) (by omega)
  have t2 : bd (fop .mul .f32 (fop .mul .f32 (cells.getD j 0) (likeF b hs hs' (j / a') (j % a'))) (ss.getD (j / a' * a + i / a') 0)) (K + 2) := bd_mul t1 (m.st _ _ g1 h1) (by omega) (by omega) (by omega) (by omega) (by omega) (by omega)
  exact bd_mul t2 (m'.st _ _ g2 h2) (by omega) (by omega) (by omega) (by omega) (by omega) (by omega)

end

end Go.Proofs


/-
  Lists of finite numbers; lists one after another; ForwardOf, NextLetters.
-/
namespace Go.Proofs
open Go.Ide Go.IntWalk

/-- A loop that looks for a bad one, and tells its place. -/
theorem rounds_find {τ ρ : Type} {f : τ → Option (τ ⊕ ρ)} (mk : Nat → τ) (p : Nat → Bool) (a : ρ) (b : Nat → ρ) {n : Nat}
    (hstep : ∀ i, i < n → f (mk i) = some (bif p i then .inl (mk (i + 1)) else .inr (b i))) (hend : f (mk n) = some (.inr a)) : ∀ (k i : Nat), i + k = n → ∃ j, rounds f (mk i) = some (bif allN p k i then a else b j)
  | 0, i, hi => by
    have : i = n := by omega
    subst this
    rw [rounds_eq, hend]
    exact ⟨0, rfl⟩
  | k + 1, i, hi => by
    rw [rounds_eq, hstep i (by omega)]
    simp only [allN]
    cases p i with
    | true => simp only [cond_true, Bool.true_and]; exact rounds_find mk p a b hstep hend k (i + 1) (by omega)
    | false => exact ⟨i, rfl⟩

/-- A finite number. -/
def fin (x : Nat) : Bool := feq .f32 (fop .sub .f32 x x) 0

def fins (xs : List Nat) : Bool := allN (fun i => fin (xs.getD i 0)) xs.length 0

theorem fin_bd {x K : Nat} (h : bd x K) (h2 : 2 ≤ K) (h3 : K ≤ 254) : fin x = true := by
  unfold fin
  rw [sub_self32 h h2 h3]
  rfl

theorem specFins {xs : List Nat} (h : xs.length ≤ 4294967296) : spec_l02Finite xs = some (fins xs) := by
  have := rounds_all (f := spec_l02Finite_B1 xs) (fun i => ((i : Nat) : Int)) (fun i => fin (xs.getD i 0)) (Sum.inl ()) (Sum.inr ()) (n := xs.length) (fun i hi => by
    unfold spec_l02Finite_B1 spec_l01Finite
    simp only [ltN hi, cond_true, guard_pos (idxN hi), Int.toNat_natCast, Option.bind_some, nextN hi h]
    show _ = some (bif feq .f32 (fop .sub .f32 (xs.getD i 0) (xs.getD i 0)) 0 then _ else _)
    cases feq .f32 (fop .sub .f32 (xs.getD i 0) (xs.getD i 0)) 0 <;> rfl) (by
    unfold spec_l02Finite_B1
    simp only [geN (Nat.le_refl _), cond_false]) xs.length 0 (by omega)
  simp only [Int.natCast_zero] at this
  unfold spec_l02Finite fins
  rw [this]
  cases allN (fun i => fin (xs.getD i 0)) xs.length 0 <;> rfl

theorem implFins {xs : List Nat} (h : xs.length ≤ 4294967296) : impl_areFinite xs = some (fins xs) := by
  obtain ⟨j, this⟩ := rounds_find (f := slices_IndexFunc___float32_float32_fn1_impl_areFinite_1_B1 xs) (fun i => ((i : Nat) : Int)) (fun i => fin (xs.getD i 0)) (Sum.inl ()) (fun i => Sum.inr ((i : Nat) : Int)) (n := xs.length) (fun i hi => by
    unfold slices_IndexFunc___float32_float32_fn1_impl_areFinite_1_B1 impl_areFinite_1 impl_IsFinite
    simp only [ltN hi, cond_true, guard_pos (idxN hi), Int.toNat_natCast, Option.bind_some, nextN hi h]
    show _ = some (bif feq .f32 (fop .sub .f32 (xs.getD i 0) (xs.getD i 0)) 0 then _ else _)
    cases feq .f32 (fop .sub .f32 (xs.getD i 0) (xs.getD i 0)) 0 <;> rfl) (by
    unfold slices_IndexFunc___float32_float32_fn1_impl_areFinite_1_B1
    simp only [geN (Nat.le_refl _), cond_false]) xs.length 0 (by omega)
  simp only [Int.natCast_zero] at this
  unfold impl_areFinite slices_ContainsFunc___float32_float32_fn1_impl_areFinite_1 slices_IndexFunc___float32_float32_fn1_impl_areFinite_1 fins
  rw [this]
  cases allN (fun i => fin (xs.getD i 0)) xs.length 0 with
  | true => rfl
  | false =>
    simp only [cond_false, Option.bind_some, ge_iff_le]
    rw [decide_eq_true (Int.natCast_nonneg j)]
    rfl

theorem implFinsL {xs : List Nat} (h : xs.length ≤ 4294967296) : impl_finiteList_mv0 xs = some (bif fins xs then (xs, true) else ([], false)) := by
  unfold impl_finiteList_mv0
  rw [implFins h]
  cases fins xs <;> rfl

/-- Lists one after another. -/
def catN (xs : List (List Nat)) : Nat → List Nat
  | 0 => []
  | i + 1 => catN xs i ++ xs.getD i []

theorem catN_len {xs : List (List Nat)} {c : Nat} (h : ∀ i, i < xs.length → (xs.getD i []).length ≤ c) : ∀ i, i ≤ xs.length → (catN xs i).length ≤ i * c
  | 0, _ => by simp [catN]
  | i + 1, hi => by
    have h1 := catN_len h i (by omega)
    have h2 := h i (by omega)
    rw [catN, List.length_append, Nat.succ_mul]
    omega

theorem catN_mono {xs : List (List Nat)} : ∀ i, (catN xs i).length ≤ (catN xs (i + 1)).length := fun i => by
  rw [catN, List.length_append]; omega

theorem rowsF_len {a b : Nat} {fs ss hs : List Nat} {w : List Int} : (rowsF a b fs ss hs w).length = w.length + 1 := by simp [rowsF]
theorem rowsF_get {a b : Nat} {fs ss hs : List Nat} {w : List Int} {i : Nat} (h : i < w.length + 1) : (rowsF a b fs ss hs w).getD i [] = rowAt a b fs ss hs w i := by
  unfold rowsF
  simp [List.getD_eq_getElem?_getD, h]

/-- Rows of finite numbers one after another are finite. -/
theorem allN_cat (p : Nat → Bool) (xs : List (List Nat)) (h : ∀ i, i < xs.length → ∀ j, j < (xs.getD i []).length → p ((xs.getD i []).getD j 0) = true) : ∀ i, i ≤ xs.length → ∀ j, j < (catN xs i).length → p ((catN xs i).getD j 0) = true
  | 0, _, j, hj => by simp [catN] at hj
  | i + 1, hi, j, hj => by
    rw [catN] at hj ⊢
    rw [List.length_append] at hj
    simp only [List.getD_eq_getElem?_getD]
    by_cases hlt : j < (catN xs i).length
    · rw [List.getElem?_append_left hlt, ← List.getD_eq_getElem?_getD]
      exact allN_cat p xs h i (by omega) j hlt
    · rw [List.getElem?_append_right (by omega), ← List.getD_eq_getElem?_getD]
      exact h i (by omega) _ (by omega)

/-- A letter's share of a row, added up over the first p states. -/
def letF (b : Nat) (hs row : List Nat) (c : Nat) : Nat → Nat
  | 0 => 0
  | p + 1 => fop .add .f32 (letF b hs row c p) (fop .mul .f32 (row.getD p 0) (hs.getD (p * b + c) 0))

end Go.Proofs


/-
  Chances backward; BackwardOf.
-/
namespace Go.Proofs
open Go.Ide Go.IntWalk

/-- One cell of the row before, added up over the first p states. -/
def cellB (a b : Nat) (ss hs row : List Nat) (c i : Nat) : Nat → Nat
  | 0 => 0
  | p + 1 => fop .add .f32 (cellB a b ss hs row c i p) (fop .mul .f32 (fop .mul .f32 (hs.getD (i * b + c) 0) (ss.getD (i * a + p) 0)) (row.getD p 0))

def prevB (a b : Nat) (ss hs row : List Nat) (c : Nat) : List Nat := (List.range a).map fun i => cellB a b ss hs row c i a

theorem prevB_len (a b : Nat) (ss hs row : List Nat) (c : Nat) : (prevB a b ss hs row c).length = a := by simp [prevB]

theorem prevB_get {a b : Nat} {ss hs row : List Nat} {c i : Nat} (hi : i < a) : (prevB a b ss hs row c).getD i 0 = cellB a b ss hs row c i a := by
  unfold prevB
  simp [List.getD_eq_getElem?_getD, hi]

theorem cellB_bd {a b : Nat} {fs ss hs : List Nat} (m : Model a b fs ss hs) {row : List Nat} {c i K : Nat} (hc : c < b) (hi : i < a) (hK : 2 ≤ K) (h : ∀ i, i < a → bd (row.getD i 0) K) : ∀ p, p ≤ a → K + p ≤ 254 → bd (cellB a b ss hs row c i p) (K + p)
  | 0, _, _ => bd_zero _
  | p + 1, hp, hk => by
    have h1 : bd (fop .mul .f32 (hs.getD (i * b + c) 0) (ss.getD (i * a + p) 0)) 127 := bd_mul (m.sh i c hi hc) (m.st i p hi (by omega)) (by omega) (by omega) (by omega) (by omega) (by omega) (by omega)
    have h2 : bd (fop .mul .f32 (fop .mul .f32 (hs.getD (i * b + c) 0) (ss.getD (i * a + p) 0)) (row.getD p 0)) K := bd_mul h1 (h p (by omega)) (by omega) (by omega) hK (by omega) hK (by omega)
    have h3 : bd (fop .mul .f32 (fop .mul .f32 (hs.getD (i * b + c) 0) (ss.getD (i * a + p) 0)) (row.getD p 0)) (K + p) := h2.mono (by omega)
    have h4 : bd (cellB a b ss hs row c i p) (K + p) := cellB_bd m hc hi hK h p (by omega) (by omega)
    have := bd_add h4 h3 (by omega) (by omega)
    exact this

theorem prevB_bd {a b : Nat} {fs ss hs : List Nat} (m : Model a b fs ss hs) {row : List Nat} {c K : Nat} (hc : c < b) (hK : 2 ≤ K) (h : ∀ i, i < a → bd (row.getD i 0) K) (hk : K + 5 ≤ 254) : ∀ j, j < a → bd ((prevB a b ss hs row c).getD j 0) (K + 5) := by
  intro j hj
  have := m.n2
  rw [prevB_get hj]
  exact (cellB_bd m hc hj hK h a (Nat.le_refl _) (by omega)).mono (by omega)

/-- The row k letters before the end. -/
def rowE (a b : Nat) (ss hs : List Nat) (w : List Int) : Nat → List Nat
  | 0 => List.replicate a 1065353216
  | k + 1 => prevB a b ss hs (rowE a b ss hs w k) (w.getD (w.length - (k + 1)) 0).toNat

theorem rowE_len {a b : Nat} {ss hs : List Nat} (w : List Int) : ∀ k, (rowE a b ss hs w k).length = a
  | 0 => by simp [rowE]
  | k + 1 => prevB_len ..

theorem bd_one : bd 1065353216 127 := by unfold bd; decide

theorem rowE_bd {a b : Nat} {fs ss hs : List Nat} (m : Model a b fs ss hs) {w : List Int} (hw : Letters b w) (hl : w.length ≤ 12) : ∀ k, k ≤ w.length → ∀ j, j < a → bd ((rowE a b ss hs w k).getD j 0) (127 + 5 * k)
  | 0, _, j, hj => by
    rw [rowE, List.getD_eq_getElem?_getD, List.getElem?_replicate, if_pos hj]
    exact bd_one
  | k + 1, hk, j, hj => by
    obtain ⟨c, hc, hc2⟩ := hw (w.length - (k + 1)) (by omega)
    rw [rowE, hc, Int.toNat_natCast, show 127 + 5 * (k + 1) = 127 + 5 * k + 5 by omega]
    exact prevB_bd m hc2 (by omega) (rowE_bd m hw hl k (by omega)) (by omega) j hj

def rowsB (a b : Nat) (ss hs : List Nat) (w : List Int) : List (List Nat) := (List.range (w.length + 1)).map fun i => rowE a b ss hs w (w.length - i)

theorem rowsB_len {a b : Nat} {ss hs : List Nat} {w : List Int} : (rowsB a b ss hs w).length = w.length + 1 := by simp [rowsB]
theorem rowsB_get {a b : Nat} {ss hs : List Nat} {w : List Int} {i : Nat} (h : i < w.length + 1) : (rowsB a b ss hs w).getD i [] = rowE a b ss hs w (w.length - i) := by
  unfold rowsB
  simp [List.getD_eq_getElem?_getD, h]

theorem getD_set_ne {α : Type} {xs : List α} {i j : Nat} {x d : α} (h : i ≠ j) : (xs.set i x).getD j d = xs.getD j d := by
  simp [List.getD_eq_getElem?_getD, List.getElem?_set_ne h]

theorem getD_set_at {α : Type} {xs : List α} {i : Nat} {x d : α} (h : i < xs.length) : (xs.set i x).getD i d = x := by
  simp [List.getD_eq_getElem?_getD, h]

/-- The rows from place n - k on are there. -/
structure RowsTo (a b : Nat) (ss hs : List Nat) (w : List Int) (k : Nat) (out : List (List Nat)) : Prop where
  len : out.length = w.length + 1
  done : ∀ j, w.length - k ≤ j → j ≤ w.length → out.getD j [] = rowE a b ss hs w (w.length - j)
  todo : ∀ j, j < w.length - k → out.getD j [] = []

theorem RowsTo.all {a b : Nat} {ss hs : List Nat} {w : List Int} {out : List (List Nat)} (h : RowsTo a b ss hs w w.length out) : out = rowsB a b ss hs w := by
  refine List.ext_getElem (by rw [h.len, rowsB_len]) fun i h1 h2 => ?_
  have e1 : out[i] = out.getD i [] := by simp [List.getD_eq_getElem?_getD, h1]
  have e2 : (rowsB a b ss hs w)[i] = (rowsB a b ss hs w).getD i [] := by simp [List.getD_eq_getElem?_getD, h2]
  have hi := h.len
  rw [e1, e2, h.done i (by omega) (by omega), rowsB_get (by omega)]

theorem RowsTo.step {a b : Nat} {ss hs : List Nat} {w : List Int} {k : Nat} {out : List (List Nat)} (h : RowsTo a b ss hs w k out) (hk : k < w.length) : RowsTo a b ss hs w (k + 1) (out.set (w.length - (k + 1)) (rowE a b ss hs w (k + 1))) := by
  have hl := h.len
  refine ⟨by simp [hl], fun j h1 h2 => ?_, fun j hj => ?_⟩
  · by_cases e : w.length - (k + 1) = j
    · subst e
      rw [getD_set_at (by omega), show w.length - (w.length - (k + 1)) = k + 1 by omega]
    · rw [getD_set_ne e]; exact h.done j (by omega) h2
  · rw [getD_set_ne (by omega)]; exact h.todo j (by omega)

theorem wsubN {n k : Nat} (hk : k < n) (hn : n ≤ 4294967296) : wsub .i64 ((n - (k + 1) : Nat) : Int) 1 = (n : Int) - 1 - ((k + 1 : Nat) : Int) := by
  rw [wsubI (by omega)]; omega

theorem specBack {a b : Nat} {fs ss hs : List Nat} (m : Model a b fs ss hs) {w : List Int} (hw : Letters b w) (hl : w.length ≤ 12) : spec_l03Backward ((a : Int), (b : Int), fs, ss, hs) w = some (rowsB a b ss hs w) := by
  have hn2 := m.n2
  have hk2 := m.k2
  have hls := m.ls
  have hlh := m.lh
  -- the last row
  have h4 := rounds_forS (f := spec_l03Backward_B4 ((a : Int), (b : Int), fs, ss, hs) w) (fun i out => (((i : Nat) : Int), out)) (fun i out => out.set w.length (out.getD w.length [] ++ [1065353216])) id (n := a)
    (fun i out => out = (List.replicate (w.length + 1) ([] : List Nat)).set w.length (List.replicate i 1065353216))
    (fun i out hi ho => ⟨by
      have hlo : out.length = w.length + 1 := by rw [ho]; simp
      have e : out.getD w.length [] = List.replicate i 1065353216 := by rw [ho]; exact getD_set_at (by simp)
      have j1 := idxN (i := w.length) (n := out.length) (by omega)
      unfold spec_l03Backward_B4
      simp only [lenI, Int.toNat_natCast, ltN hi, cond_true, nextN hi (show a ≤ 4294967296 by omega)]
      rw [guard_pos j1, guard_pos (by rw [e]; simp only [List.length_replicate, List.length_singleton, appMax]; omega)], by
      have e : out.getD w.length [] = List.replicate i 1065353216 := by rw [ho]; exact getD_set_at (by simp)
      rw [e, ho, List.set_set, ← List.replicate_succ']⟩)
    (fun out _ => by
      unfold spec_l03Backward_B4
      simp only [geN (Nat.le_refl _), cond_false]; rfl) a 0 (List.replicate (w.length + 1) []) (by omega) (by
      refine List.ext_getElem (by simp) fun i h1 h2 => ?_
      rw [List.getElem_set]
      split <;> simp)
  simp only [Int.natCast_zero] at h4
  -- the others
  have h3 := rounds_forS (f := spec_l03Backward_B3 ((a : Int), (b : Int), fs, ss, hs) w) (fun k out => ((w.length : Int) - 1 - ((k : Nat) : Int), out)) (fun k out => out.set (w.length - (k + 1)) (rowE a b ss hs w (k + 1))) id (n := w.length) (RowsTo a b ss hs w)
    (fun k out hk ho => ⟨by
      have hat : ((w.length : Int) - 1 - ((k : Nat) : Int)) = ((w.length - (k + 1) : Nat) : Int) := by omega
      rw [hat]
      obtain ⟨c, hc, hc2⟩ := hw (w.length - (k + 1)) (by omega)
      have hlo := ho.len
      have hnx : out.getD (w.length - k) [] = rowE a b ss hs w k := by
        rw [ho.done _ (Nat.le_refl _) (by omega), show w.length - (w.length - k) = k by omega]
      have hem : out.getD (w.length - (k + 1)) [] = [] := ho.todo _ (by omega)
      have hrl := rowE_len (a := a) (b := b) (ss := ss) (hs := hs) w k
      let at_ := w.length - (k + 1)
      have h2 := rounds_forS (f := spec_l03Backward_B2 ((a : Int), (b : Int), fs, ss, hs) w (((w.length - (k + 1) : Nat) : Int), out)) (fun i o => (((i : Nat) : Int), o)) (fun i o => o.set (w.length - (k + 1)) (o.getD (w.length - (k + 1)) [] ++ [cellB a b ss hs (rowE a b ss hs w k) c i a])) id (n := a)
        (fun i o => o = out.set (w.length - (k + 1)) ((List.range i).map fun i => cellB a b ss hs (rowE a b ss hs w k) c i a))
        (fun i o hi hoo => by
          have hol : o.length = w.length + 1 := by rw [hoo]; simp [hlo]
          have hoat : o.getD (w.length - (k + 1)) [] = (List.range i).map fun i => cellB a b ss hs (rowE a b ss hs w k) c i a := by rw [hoo]; exact getD_set_at (by omega)
          have honx : o.getD (w.length - k) [] = rowE a b ss hs w k := by rw [hoo, getD_set_ne (by omega)]; exact hnx
          have h1 := rounds_forS (f := spec_l03Backward_B1 ((a : Int), (b : Int), fs, ss, hs) w (((w.length - (k + 1) : Nat) : Int), out) (((i : Nat) : Int), o)) (fun p s => (s, ((p : Nat) : Int)))
            (fun p s => fop .add .f32 s (fop .mul .f32 (fop .mul .f32 (hs.getD (i * b + c) 0) (ss.getD (i * a + p) 0)) ((rowE a b ss hs w k).getD p 0))) id (n := a) (fun p s => s = cellB a b ss hs (rowE a b ss hs w k) c i p)
            (fun p s hp hs' => ⟨by
              obtain ⟨e1, e2⟩ := cellM (a := a) (b := b) (by omega) (by omega) hi hc2
              obtain ⟨e3, e4⟩ := cellM (a := a) (b := a) (by omega) (by omega) hi hp
              have e5 : wadd .i64 (((w.length - (k + 1) : Nat) : Int)) 1 = ((w.length - k : Nat) : Int) := by rw [waddI (by omega)]; omega
              have j0 := idxN (i := w.length - (k + 1)) (n := w.length) (by omega)
              have j1 := idxN (i := i * b + c) (n := hs.length) (by omega)
              have j2 := idxN (i := i * a + p) (n := ss.length) (by omega)
              have j3 := idxN (i := w.length - k) (n := o.length) (by omega)
              have j4 := idxN (i := p) (n := (rowE a b ss hs w k).length) (by omega)
              unfold spec_l03Backward_B1
              simp only [lenI, ltN hp, cond_true, Int.toNat_natCast, nextN hp (show a ≤ 4294967296 by omega), hc, e1, e3, e5, honx]
              rw [guard_pos j0, guard_pos j1, guard_pos j2, guard_pos j3, guard_pos j4], by rw [hs']; rfl⟩)
            (fun s _ => by
              unfold spec_l03Backward_B1
              simp only [geN (Nat.le_refl _), cond_false]; rfl) a 0 0 (by omega) rfl
          simp only [Int.natCast_zero] at h1
          refine ⟨?_, ?_⟩
          · have j5 := idxN (i := w.length - (k + 1)) (n := o.length) (by omega)
            unfold spec_l03Backward_B2
            simp only [lenI, ltN hi, cond_true, h1.1, id, Option.bind_some, h1.2, Int.toNat_natCast, nextN hi (show a ≤ 4294967296 by omega)]
            rw [guard_pos j5, guard_pos (by rw [hoat]; simp only [List.length_map, List.length_range, List.length_singleton, appMax]; omega)]
          · rw [hoat, hoo, List.set_set, List.range_succ, List.map_append]
            rfl)
        (fun o _ => by
          unfold spec_l03Backward_B2
          simp only [geN (Nat.le_refl _), cond_false]; rfl) a 0 out (by omega) (by
          refine List.ext_getElem (by simp) fun i q1 q2 => ?_
          rw [List.getElem_set]
          split
          · rename_i e
            subst e
            have : out[w.length - (k + 1)] = out.getD (w.length - (k + 1)) [] := by simp [List.getD_eq_getElem?_getD, q1]
            rw [this, hem]; rfl
          · rfl)
      simp only [Int.natCast_zero] at h2
      unfold spec_l03Backward_B3
      rw [show decide (((w.length - (k + 1) : Nat) : Int) ≥ 0) = true from decide_eq_true (Int.natCast_nonneg _)]
      simp only [cond_true, h2.1, id, Option.bind_some, h2.2, wsubN hk (show w.length ≤ 4294967296 by omega)]
      rw [rowE, hc, Int.toNat_natCast]
      rfl, ho.step hk⟩)
    (fun out _ => by
      unfold spec_l03Backward_B3
      rw [show decide ((w.length : Int) - 1 - ((w.length : Nat) : Int) ≥ 0) = false from decide_eq_false (by omega)]
      rfl) w.length 0 ((List.replicate (w.length + 1) ([] : List Nat)).set w.length (List.replicate a 1065353216)) (by omega) ⟨by simp, fun j q1 q2 => by
        have : j = w.length := by omega
        subst this
        rw [getD_set_at (by simp), Nat.sub_self, rowE], fun j hj => by
        rw [getD_set_ne (by omega), List.getD_eq_getElem?_getD, List.getElem?_replicate]
        split <;> rfl⟩
  simp only [Int.natCast_zero, Int.sub_zero] at h3
  unfold spec_l03Backward
  simp only [lenI]
  have e1 : wadd .i64 (w.length : Int) 1 = ((w.length + 1 : Nat) : Int) := by rw [waddI (by omega)]; omega
  have e2 : wsub .i64 (w.length : Int) 1 = (w.length : Int) - 1 := by rw [wsubI (by omega)]
  rw [e1, e2, guard_pos ⟨by omega, by omega⟩, Int.toNat_natCast, h4.1]
  simp only [id, Option.bind_some]
  rw [h4.2, h3.1]
  simp only [id, Option.bind_some]
  rw [RowsTo.all h3.2]

theorem repeatOnes : ∀ a : Nat, a ≤ 5 → slices_Repeat___float32_float32 [1065353216] (a : Int) = some (List.replicate a 1065353216)
  | 0, _ => by
    have e : slices_Repeat___float32_float32 [1065353216] ((0 : Nat) : Int) = (rounds slices_Repeat___float32_float32_B1 ((0 : Int), ([] : List Nat))).bind fun r => some r := by kernel_rfl
    rw [e, rounds_iff.2 ⟨2, show Go.Ide.runN slices_Repeat___float32_float32_B1 2 ((0 : Int), ([] : List Nat)) = some [] by kernel_rfl⟩]; rfl
  | 1, _ => by
    have e : slices_Repeat___float32_float32 [1065353216] ((1 : Nat) : Int) = (rounds slices_Repeat___float32_float32_B1 ((1 : Int), [1065353216])).bind fun r => some r := by kernel_rfl
    rw [e, rounds_iff.2 ⟨2, show Go.Ide.runN slices_Repeat___float32_float32_B1 2 ((1 : Int), [1065353216]) = some [1065353216] by kernel_rfl⟩]; rfl
  | 2, _ => by
    have e : slices_Repeat___float32_float32 [1065353216] ((2 : Nat) : Int) = (rounds slices_Repeat___float32_float32_B1 ((1 : Int), [1065353216, 0])).bind fun r => some r := by kernel_rfl
    rw [e, rounds_iff.2 ⟨3, show Go.Ide.runN slices_Repeat___float32_float32_B1 3 ((1 : Int), [1065353216, 0]) = some [1065353216, 1065353216] by kernel_rfl⟩]; rfl
  | 3, _ => by
    have e : slices_Repeat___float32_float32 [1065353216] ((3 : Nat) : Int) = (rounds slices_Repeat___float32_float32_B1 ((1 : Int), [1065353216, 0, 0])).bind fun r => some r := by kernel_rfl
    rw [e, rounds_iff.2 ⟨4, show Go.Ide.runN slices_Repeat___float32_float32_B1 4 ((1 : Int), [1065353216, 0, 0]) = some [1065353216, 1065353216, 1065353216] by kernel_rfl⟩]; rfl
  | 4, _ => by
    have e : slices_Repeat___float32_float32 [1065353216] ((4 : Nat) : Int) = (rounds slices_Repeat___float32_float32_B1 ((1 : Int), [1065353216, 0, 0, 0])).bind fun r => some r := by kernel_rfl
    rw [e, rounds_iff.2 ⟨4, show Go.Ide.runN slices_Repeat___float32_float32_B1 4 ((1 : Int), [1065353216, 0, 0, 0]) = some [1065353216, 1065353216, 1065353216, 1065353216] by kernel_rfl⟩]; rfl
  | 5, _ => by
    have e : slices_Repeat___float32_float32 [1065353216] ((5 : Nat) : Int) = (rounds slices_Repeat___float32_float32_B1 ((1 : Int), [1065353216, 0, 0, 0, 0])).bind fun r => some r := by kernel_rfl
    rw [e, rounds_iff.2 ⟨5, show Go.Ide.runN slices_Repeat___float32_float32_B1 5 ((1 : Int), [1065353216, 0, 0, 0, 0]) = some [1065353216, 1065353216, 1065353216, 1065353216, 1065353216] by kernel_rfl⟩]; rfl
  | _ + 6, h => by omega

theorem implBack {a b : Nat} {fs ss hs : List Nat} (m : Model a b fs ss hs) {w : List Int} (hw : Letters b w) (hl : w.length ≤ 12) : impl_Model_backward ((a : Int), (b : Int), fs, ss, hs) w = some (rowsB a b ss hs w) := by
  have hn2 := m.n2
  have hk2 := m.k2
  have hls := m.ls
  have hlh := m.lh
  have h3 := rounds_forS (f := impl_Model_backward_B3 ((a : Int), (b : Int), fs, ss, hs) w) (fun k out => ((w.length : Int) - 1 - ((k : Nat) : Int), out)) (fun k out => out.set (w.length - (k + 1)) (rowE a b ss hs w (k + 1))) id (n := w.length) (RowsTo a b ss hs w)
    (fun k out hk ho => ⟨by
      have hat : ((w.length : Int) - 1 - ((k : Nat) : Int)) = ((w.length - (k + 1) : Nat) : Int) := by omega
      rw [hat]
      obtain ⟨c, hc, hc2⟩ := hw (w.length - (k + 1)) (by omega)
      have hlo := ho.len
      have hnx : out.getD (w.length - k) [] = rowE a b ss hs w k := by
        rw [ho.done _ (Nat.le_refl _) (by omega), show w.length - (w.length - k) = k by omega]
      have hrl := rowE_len (a := a) (b := b) (ss := ss) (hs := hs) w k
      have hnl := prevB_len a b ss hs (rowE a b ss hs w k) c
      have h2 := loop_to0 (f := impl_Model_backward_B2 ((a : Int), (b : Int), fs, ss, hs) w (((w.length - (k + 1) : Nat) : Int), out)) (prevB a b ss hs (rowE a b ss hs w k) c)
        (fun i o hi hol h0 => by
          rw [hnl] at hi hol
          have h1 := rounds_forS (f := impl_Model_backward_B1 ((a : Int), (b : Int), fs, ss, hs) w (((w.length - (k + 1) : Nat) : Int), out) (((i : Nat) : Int), o)) (fun p s => (((p : Nat) : Int), s))
            (fun p s => s.set i (fop .add .f32 (s.getD i 0) (fop .mul .f32 (fop .mul .f32 (hs.getD (i * b + c) 0) (ss.getD (i * a + p) 0)) ((rowE a b ss hs w k).getD p 0)))) id (n := a) (fun p s => s = o.set i (cellB a b ss hs (rowE a b ss hs w k) c i p))
            (fun p s hp hs' => ⟨by
              obtain ⟨e1, e2⟩ := cellM (a := a) (b := b) (by omega) (by omega) hi hc2
              obtain ⟨e3, e4⟩ := cellM (a := a) (b := a) (by omega) (by omega) hi hp
              have e5 : wadd .i64 (((w.length - (k + 1) : Nat) : Int)) 1 = ((w.length - k : Nat) : Int) := by rw [waddI (by omega)]; omega
              have hsl : s.length = a := by rw [hs']; simp [hol]
              have j0 := idxN (i := i) (n := s.length) (by omega)
              have j5 := idxN (i := w.length - (k + 1)) (n := w.length) (by omega)
              have j1 := idxN (i := i * b + c) (n := hs.length) (by omega)
              have j2 := idxN (i := i * a + p) (n := ss.length) (by omega)
              have j3 := idxN (i := w.length - k) (n := out.length) (by omega)
              have j4 := idxN (i := p) (n := (rowE a b ss hs w k).length) (by omega)
              unfold impl_Model_backward_B1 impl_Model_show impl_Model_step
              simp only [lenI, ltN hp, cond_true, Int.toNat_natCast, nextN hp (show a ≤ 4294967296 by omega), hc, e1, e3, e5, hnx]
              rw [guard_pos j0, guard_pos j5, guard_pos j1, Option.bind_some, guard_pos j2, Option.bind_some, guard_pos j3, guard_pos j4], by
              rw [hs']
              rw [getD_set_at (by omega), List.set_set]
              rfl⟩)
            (fun s _ => by
              unfold impl_Model_backward_B1
              simp only [geN (Nat.le_refl _), cond_false]; rfl) a 0 o (by omega) (by
              show o = o.set i 0
              apply List.ext_getElem (by simp)
              intro j h1 h2
              rw [List.getElem_set]
              split
              · rename_i e
                subst e
                simpa [List.getD_eq_getElem?_getD, List.getElem?_eq_getElem h1] using h0
              · rfl)
          simp only [Int.natCast_zero] at h1
          unfold impl_Model_backward_B2
          simp only [ltN hi, cond_true, h1.1, id, Option.bind_some, nextN hi (show a ≤ 4294967296 by omega)]
          rw [h1.2, prevB_get hi])
        (fun o _ => by
          unfold impl_Model_backward_B2
          rw [hnl]
          simp only [geN (Nat.le_refl _), cond_false])
      rw [hnl] at h2
      have j6 := idxN (i := w.length - (k + 1)) (n := out.length) (by omega)
      unfold impl_Model_backward_B3
      rw [show decide (((w.length - (k + 1) : Nat) : Int) ≥ 0) = true from decide_eq_true (Int.natCast_nonneg _)]
      simp only [cond_true, Int.toNat_natCast, lenI]
      rw [guard_pos ⟨by omega, by omega⟩, h2]
      simp only [Option.bind_some]
      rw [guard_pos j6, wsubN hk (show w.length ≤ 4294967296 by omega), rowE, hc, Int.toNat_natCast], ho.step hk⟩)
    (fun out _ => by
      unfold impl_Model_backward_B3
      rw [show decide ((w.length : Int) - 1 - ((w.length : Nat) : Int) ≥ 0) = false from decide_eq_false (by omega)]
      rfl) w.length 0 ((List.replicate (w.length + 1) ([] : List Nat)).set w.length (List.replicate a 1065353216)) (by omega) ⟨by simp, fun j q1 q2 => by
        have : j = w.length := by omega
        subst this
        rw [getD_set_at (by simp), Nat.sub_self, rowE], fun j hj => by
        rw [getD_set_ne (by omega), List.getD_eq_getElem?_getD, List.getElem?_replicate]
        split <;> rfl⟩
  simp only [Int.natCast_zero, Int.sub_zero] at h3
  unfold impl_Model_backward
  simp only [lenI, List.length_replicate]
  have e1 : wadd .i64 (w.length : Int) 1 = ((w.length + 1 : Nat) : Int) := by rw [waddI (by omega)]; omega
  have e2 : wsub .i64 (w.length : Int) 1 = (w.length : Int) - 1 := by rw [wsubI (by omega)]
  rw [e1, e2, guard_pos ⟨by omega, by omega⟩, repeatOnes a hn2]
  simp only [Option.bind_some, Int.toNat_natCast]
  rw [guard_pos ⟨by omega, by omega⟩, h3.1]
  simp only [id, Option.bind_some]
  rw [RowsTo.all h3.2]

end Go.Proofs


/-
  Shares of a list; HiddenAt, PairAt.
-/
namespace Go.Proofs
open Go.Ide Go.IntWalk

def divF (xs : List Nat) (all : Nat) : List Nat := (List.range xs.length).map fun i => fop .quo .f32 (xs.getD i 0) all

theorem divF_len (xs : List Nat) (all : Nat) : (divF xs all).length = xs.length := by simp [divF]

/-- The shares of a list's numbers, if they are told. -/
def shF (xs : List Nat) : List Nat × Bool :=
  bif fgt .f32 (sumF xs xs.length) 0 then (bif fins (divF xs (sumF xs xs.length)) then (divF xs (sumF xs xs.length), true) else ([], false)) else ([], false)

theorem shF_len (xs : List Nat) : (shF xs).1.length ≤ xs.length := by
  unfold shF
  cases fgt .f32 (sumF xs xs.length) 0 with
  | false => simp
  | true =>
    cases fins (divF xs (sumF xs xs.length)) with
    | false => simp
    | true => simp [divF_len]

theorem specShares {xs : List Nat} (h : xs.length ≤ 1000000) : ∃ l b, spec_l03Shares xs = some (l, b) ∧ (bif (!b) then (([] : List Nat), false) else (l, true)) = shF xs := by
  have h1 := loop_app (f := spec_l03Shares_B1 xs (sumF xs xs.length)) (fun i => fop .quo .f32 (xs.getD i 0) (sumF xs xs.length)) xs.length [] (fun i out hi ho => by
    unfold spec_l03Shares_B1
    simp only [lenI, ltN hi, cond_true, Int.toNat_natCast, nextN hi (show xs.length ≤ 4294967296 by omega)]
    rw [guard_pos (idxN hi), guard_pos (by simp only [ho, List.length_nil, List.length_singleton, appMax]; omega)]) (fun out => by
    unfold spec_l03Shares_B1
    simp only [lenI, geN (Nat.le_refl _), cond_false])
  unfold spec_l03Shares shF
  rw [specSum (by omega)]
  simp only [Option.bind_some]
  cases fgt .f32 (sumF xs xs.length) 0 with
  | false => exact ⟨[], false, rfl, rfl⟩
  | true =>
    rw [List.nil_append] at h1
    simp only [Bool.not_true, cond_false, cond_true]
    rw [h1]
    have e : (List.range xs.length).map (fun i => fop .quo .f32 (xs.getD i 0) (sumF xs xs.length)) = divF xs (sumF xs xs.length) := rfl
    rw [e]
    have hl := divF_len xs (sumF xs xs.length)
    simp only [Option.bind_some]
    rw [specFins (by omega)]
    refine ⟨_, _, rfl, ?_⟩
    cases fins (divF xs (sumF xs xs.length)) <;> rfl

theorem implShares {xs : List Nat} (h : xs.length ≤ 1000000) : impl_shares_mv0 xs = some (shF xs) := by
  let all := sumF xs xs.length
  have h1 := rounds_forS (f := impl_shares_mv0_B1 xs all) (fun i out => (((i : Nat) : Int), out)) (fun i out => out.set i (fop .quo .f32 (out.getD i 0) all)) id (n := xs.length)
    (fun i out => out = (List.range i).map (fun i => fop .quo .f32 (xs.getD i 0) all) ++ xs.drop i)
    (fun i out hi ho => by
      have hol : out.length = xs.length := by rw [ho]; simp; omega
      have hg : out.getD i 0 = xs.getD i 0 := by
        rw [ho, List.getD_eq_getElem?_getD, List.getElem?_append_right (by simp)]
        simp [List.getD_eq_getElem?_getD]
      refine ⟨?_, ?_⟩
      · have j1 := idxN (i := i) (n := out.length) (by omega)
        unfold impl_shares_mv0_B1
        simp only [lenI, ltN hi, cond_true, Int.toNat_natCast, nextN hi (show xs.length ≤ 4294967296 by omega)]
        rw [guard_pos j1]
      · rw [hg, ho, drop_cons hi 0, set_at (by simp), List.range_succ, List.map_append]
        simp)
    (fun out _ => by
      unfold impl_shares_mv0_B1
      simp only [lenI, geN (Nat.le_refl _), cond_false]; rfl) xs.length 0 xs (by omega) (by simp)
  simp only [Int.natCast_zero] at h1
  unfold impl_shares_mv0 shF
  rw [implSum (by omega)]
  simp only [Option.bind_some]
  cases fgt .f32 (sumF xs xs.length) 0 with
  | false => rfl
  | true =>
    simp only [Bool.not_true, cond_false, cond_true]
    have h2 := h1.2
    rw [List.drop_length, List.append_nil] at h2
    rw [show rounds (impl_shares_mv0_B1 xs (sumF xs xs.length)) (0, xs) = some (divF xs (sumF xs xs.length)) from by rw [h1.1]; simp only [id]; rw [h2]; rfl]
    have hl := divF_len xs (sumF xs xs.length)
    simp only [Option.bind_some]
    rw [implFinsL (by omega)]
    cases fins (divF xs (sumF xs xs.length)) <;> rfl

theorem rowsF_i {w : List Int} {a b : Nat} {fs ss hs : List Nat} {k : Nat} (h : k ≤ w.length) : (0 : Int) ≤ (k : Int) ∧ (k : Int) < lenI (rowsF a b fs ss hs w) := by
  simp only [lenI, rowsF_len]; omega
theorem rowsB_i {w : List Int} {a b : Nat} {ss hs : List Nat} {k : Nat} (h : k ≤ w.length) : (0 : Int) ≤ (k : Int) ∧ (k : Int) < lenI (rowsB a b ss hs w) := by
  simp only [lenI, rowsB_len]; omega

def hidF (a : Nat) (f g : List Nat) : List Nat := (List.range a).map fun i => fop .mul .f32 (f.getD i 0) (g.getD i 0)

def pairG (a b : Nat) (ss hs f g : List Nat) (c i k : Nat) : Nat := fop .mul .f32 (fop .mul .f32 (fop .mul .f32 (f.getD i 0) (hs.getD (i * b + c) 0)) (ss.getD (i * a + k) 0)) (g.getD k 0)

def pairF (a b : Nat) (ss hs f g : List Nat) (c : Nat) : Nat → List Nat
  | 0 => []
  | i + 1 => pairF a b ss hs f g c i ++ (List.range a).map (pairG a b ss hs f g c i)

theorem pairF_len (a b : Nat) (ss hs f g : List Nat) (c : Nat) : ∀ i, (pairF a b ss hs f g c i).length = i * a
  | 0 => by simp [pairF]
  | i + 1 => by simp [pairF, pairF_len a b ss hs f g c i, Nat.succ_mul]

theorem implPair {a b : Nat} {fs ss hs : List Nat} (m : Model a b fs ss hs) {f g : List Nat} {c : Nat} (hf : f.length = a) (hg : g.length = a) (hc : c < b) : impl_Model_pairAt ((a : Int), (b : Int), fs, ss, hs) f g (c : Int) = some (shF (pairF a b ss hs f g c a)) := by
  have hn2 := m.n2
  have hk2 := m.k2
  have hls := m.ls
  have hlh := m.lh
  have h2 := rounds_forS (f := impl_Model_pairAt_B2 ((a : Int), (b : Int), fs, ss, hs) f g (c : Int)) (fun i out => (((i : Nat) : Int), out)) (fun i out => out ++ (List.range a).map (pairG a b ss hs f g c i)) id (n := a) (fun i out => out = pairF a b ss hs f g c i)
    (fun i out hi ho => by
      have hol : out.length = i * a := by rw [ho, pairF_len]
      have hia : i * a ≤ 25 := Nat.le_trans (Nat.mul_le_mul (show i ≤ 5 by omega) hn2) (by omega)
      obtain ⟨e1, e2⟩ := cellM (a := a) (b := b) (by omega) (by omega) hi hc
      have h1 := loop_app (f := impl_Model_pairAt_B1 ((a : Int), (b : Int), fs, ss, hs) f g (c : Int) ((i : Int), out)) (pairG a b ss hs f g c i) a out (fun k o hk hoo => by
        obtain ⟨e3, e4⟩ := cellM (a := a) (b := a) (by omega) (by omega) hi hk
        have j0 := idxN (i := i) (n := f.length) (by omega)
        have j1 := idxN (i := i * b + c) (n := hs.length) (by omega)
        have j2 := idxN (i := i * a + k) (n := ss.length) (by omega)
        have j3 := idxN (i := k) (n := g.length) (by omega)
        unfold impl_Model_pairAt_B1 impl_Model_show impl_Model_step
        simp only [lenI, ltN hk, cond_true, Int.toNat_natCast, nextN hk (show a ≤ 4294967296 by omega), e1, e3]
        rw [guard_pos j0, guard_pos j1, Option.bind_some, guard_pos j2, Option.bind_some, guard_pos j3, guard_pos (by simp only [hoo, List.length_singleton, appMax]; omega)]
        rfl) (fun o => by
        unfold impl_Model_pairAt_B1
        simp only [geN (Nat.le_refl _), cond_false])
      refine ⟨?_, by rw [ho]; rfl⟩
      unfold impl_Model_pairAt_B2
      simp only [ltN hi, cond_true, h1, Option.bind_some, nextN hi (show a ≤ 4294967296 by omega)])
    (fun out _ => by
      unfold impl_Model_pairAt_B2
      simp only [geN (Nat.le_refl _), cond_false]; rfl) a 0 [] (by omega) rfl
  simp only [Int.natCast_zero] at h2
  have hpl := pairF_len a b ss hs f g c a
  have haa : a * a ≤ 25 := Nat.mul_le_mul hn2 hn2
  unfold impl_Model_pairAt
  rw [h2.1]
  simp only [id, Option.bind_some]
  rw [h2.2, implShares (by omega)]
  rfl

theorem PairAt_eq {x0_0 x0_1 : Int} {x0_2 x0_3 x0_4 : List Nat} {x1_0 : List Int} {x2_0 : Int} (g1 : x0_2.length ≤ 1048576) (g2 : x0_3.length ≤ 1048576) (g3 : x0_4.length ≤ 1048576) (g4 : x1_0.length ≤ 1048576) :
    ∃ r, spec_PairAt (x0_0, x0_1, x0_2, x0_3, x0_4) x1_0 x2_0 = some r ∧ impl_PairAt (x0_0, x0_1, x0_2, x0_3, x0_4) x1_0 x2_0 = some r ∧ r.1.length ≤ 1000000 := by
  unfold spec_PairAt impl_PairAt
  simp only [specMWord (w := x1_0) (by omega), implMWord (w := x1_0) (by omega), Option.bind_some, in64, within64]
  cases h1 : okMWord x0_0 x0_1 x0_2 x0_3 x0_4 x1_0 with
  | false => exact ⟨_, rfl, rfl, by simp⟩
  | true =>
    simp only [Bool.not_true, cond_false]
    cases h2 : (decide (x2_0 ≥ 0) && decide (x2_0 ≤ wsub .i64 (lenI x1_0) 1)) with
    | false => exact ⟨_, rfl, rfl, by simp⟩
    | true =>
      simp only [Bool.and_eq_true, decide_eq_true_eq] at h2
      obtain ⟨k, rfl⟩ := Int.eq_ofNat_of_zero_le h2.1
      obtain ⟨a, b, rfl, rfl, m, hwl, hw⟩ := mword_of h1
      have hk : k < x1_0.length := by
        have := h2.2
        rw [wsubI (by simp only [lenI]; omega)] at this
        simp only [lenI] at this
        omega
      have hn2 := m.n2
      have hk2 := m.k2
      have hls := m.ls
      have hlh := m.lh
      obtain ⟨c, hc, hc2⟩ := hw k hk
      have e5 : wadd .i64 ((k : Nat) : Int) 1 = ((k + 1 : Nat) : Int) := by rw [waddI (by omega)]; omega
      have hfl := rowAt_len m x1_0 k
      have hbl := rowE_len (a := a) (b := b) (ss := x0_3) (hs := x0_4) x1_0 (x1_0.length - (k + 1))
      have hfg : (rowsF a b x0_2 x0_3 x0_4 x1_0).getD k [] = rowAt a b x0_2 x0_3 x0_4 x1_0 k := rowsF_get (by omega)
      have hbg : (rowsB a b x0_3 x0_4 x1_0).getD (k + 1) [] = rowE a b x0_3 x0_4 x1_0 (x1_0.length - (k + 1)) := rowsB_get (by omega)
      generalize hF : rowAt a b x0_2 x0_3 x0_4 x1_0 k = F at hfl hfg
      generalize hG : rowE a b x0_3 x0_4 x1_0 (x1_0.length - (k + 1)) = B at hbl hbg
      have jf := rowsF_i (a := a) (b := b) (fs := x0_2) (ss := x0_3) (hs := x0_4) (k := k) (w := x1_0) (by omega)
      have jb := rowsB_i (a := a) (b := b) (ss := x0_3) (hs := x0_4) (k := k + 1) (w := x1_0) (by omega)
      have jw : (0 : Int) ≤ (k : Int) ∧ (k : Int) < lenI x1_0 := idxN hk
      simp only [Bool.not_true, cond_false, specForward m hw hwl, implForward m hw hwl, specBack m hw hwl, implBack m hw hwl, Option.bind_some, e5, guard_pos jf, guard_pos jb, guard_pos jw, Int.toNat_natCast, hfg, hbg, hc, implPair m hfl hbl hc2]
      have h4 := rounds_forS (f := spec_l03Pair_B2 ((a : Int), (b : Int), x0_2, x0_3, x0_4) x1_0 ((k : Nat) : Int) (rowsF a b x0_2 x0_3 x0_4 x1_0) (rowsB a b x0_3 x0_4 x1_0)) (fun i out => (((i : Nat) : Int), out)) (fun i out => out ++ (List.range a).map (pairG a b x0_3 x0_4 F B c i)) id (n := a) (fun i out => out = pairF a b x0_3 x0_4 F B c i)
        (fun i out hi ho => by
          have hol : out.length = i * a := by rw [ho, pairF_len]
          have hia : i * a ≤ 25 := Nat.le_trans (Nat.mul_le_mul (show i ≤ 5 by omega) hn2) (by omega)
          obtain ⟨e1, e2⟩ := cellM (a := a) (b := b) (by omega) (by omega) hi hc2
          have h3 := loop_app (f := spec_l03Pair_B1 ((a : Int), (b : Int), x0_2, x0_3, x0_4) x1_0 ((k : Nat) : Int) (rowsF a b x0_2 x0_3 x0_4 x1_0) (rowsB a b x0_3 x0_4 x1_0) ((i : Int), out)) (pairG a b x0_3 x0_4 F B c i) a out (fun q o hq hoo => by
            obtain ⟨e3, e4⟩ := cellM (a := a) (b := a) (by omega) (by omega) hi hq
            have j0 := idxN (i := i) (n := F.length) (by omega)
            have j1 := idxN (i := i * b + c) (n := x0_4.length) (by omega)
            have j2 := idxN (i := i * a + q) (n := x0_3.length) (by omega)
            have j3 := idxN (i := q) (n := B.length) (by omega)
            unfold spec_l03Pair_B1
            simp only [e5, Int.toNat_natCast, hfg, hbg, hc, lenI, ltN hq, cond_true, nextN hq (show a ≤ 4294967296 by omega), e1, e3]
            rw [guard_pos j0, guard_pos (idxN hk), guard_pos j1, Option.bind_some, guard_pos j2, guard_pos j3, guard_pos (by simp only [hoo, List.length_singleton, appMax]; omega)]
            rfl) (fun o => by
            unfold spec_l03Pair_B1
            simp only [geN (Nat.le_refl _), cond_false])
          refine ⟨?_, by rw [ho]; rfl⟩
          unfold spec_l03Pair_B2
          simp only [ltN hi, cond_true, h3, Option.bind_some, nextN hi (show a ≤ 4294967296 by omega)])
        (fun out _ => by
          unfold spec_l03Pair_B2
          simp only [geN (Nat.le_refl _), cond_false]; rfl) a 0 [] (by omega) rfl
      simp only [Int.natCast_zero] at h4
      have hpl := pairF_len a b x0_3 x0_4 F B c a
      have haa : a * a ≤ 25 := Nat.mul_le_mul hn2 hn2
      unfold spec_l03Pair
      simp only [specForward m hw hwl, specBack m hw hwl, Option.bind_some, e5, guard_pos jf, guard_pos jb, h4.1, id, h4.2]
      obtain ⟨l, bb, e1, e2⟩ := specShares (xs := pairF a b x0_3 x0_4 F B c a) (by omega)
      rw [e1]
      refine ⟨shF (pairF a b x0_3 x0_4 F B c a), ?_, rfl, ?_⟩
      · rw [← e2]
        simp only [Option.bind_some]
        cases bb <;> rfl
      · have := shF_len (pairF a b x0_3 x0_4 F B c a)
        omega

end Go.Proofs

namespace Go.Proofs
open Go.Ide Go.IntWalk

theorem PairAt_law (x0 : Int × Int × List Nat × List Nat × List Nat) (x1 : List Int) (x2 : Int) (w0 : WfD (.st (.pair (.int .i64) (.pair (.int .i64) (.pair (.sl (.flt .f32)) (.pair (.sl (.flt .f32)) (.sl (.flt .f32))))))) x0) (w1 : WfD (.sl (.int .i64)) x1) (w2 : WfD (.int .i64) x2) : laws_FnExactPairAt x0 x1 x2 = some true := by
  obtain ⟨x0_0, ⟨x0_1, ⟨x0_2, ⟨x0_3, x0_4⟩⟩⟩⟩ := x0
  have hx0_2 : x0_2.length ≤ 9223372036854775807 := Nat.le_trans (w0.2.2.1.1) (by decide)
  have hx0_3 : x0_3.length ≤ 9223372036854775807 := Nat.le_trans (w0.2.2.2.1.1) (by decide)
  have hx0_4 : x0_4.length ≤ 9223372036854775807 := Nat.le_trans (w0.2.2.2.2.1) (by decide)
  obtain ⟨x1_0, rfl⟩ : ∃ y, y = x1 := ⟨_, rfl⟩
  have hx1_0 : x1_0.length ≤ 9223372036854775807 := Nat.le_trans (w1.1) (by decide)
  obtain ⟨x2_0, rfl⟩ : ∃ y, y = x2 := ⟨_, rfl⟩
  unfold laws_FnExactPairAt
  by_cases c1 : lenI x1_0 > (1048576 : Int)
  · simp only [c1, decide_true, cond_true]
  · simp only [c1, decide_false, cond_false]
    have ox1_0 : x1_0.length ≤ 1048576 := by simp only [lenI] at c1; omega
    obtain ⟨m2, a2, b2⟩ := szModel_ok (n := 1048576) (x0 := x0_0) (x1 := x0_1) (x2 := x0_2) (x3 := x0_3) (x4 := x0_4) hx0_2 hx0_3 hx0_4 (by omega)
    simp only [a2, Option.bind_some]
    by_cases c2 : m2 < 0
    · simp only [c2, decide_true, cond_true]
    · obtain ⟨⟨ox0_2, ox0_3, ox0_4⟩, d2, f2⟩ := b2.resolve_left c2
      simp only [c2, decide_false, cond_false]
      obtain ⟨⟨r0_0, r1_0⟩, k1, k2, or0_0⟩ := PairAt_eq (x0_0 := x0_0) (x0_1 := x0_1) (x0_2 := x0_2) (x0_3 := x0_3) (x0_4 := x0_4) (x1_0 := x1_0) (x2_0 := x2_0) ox0_2 ox0_3 ox0_4 ox1_0
      have or0_0 : r0_0.length ≤ 1000000 := or0_0
      simp only [k1,
      k2,
      Option.bind_some,
      Bool.not_true,
      cond_false,
      bne_self_eq_false,
      cond_true,
      sameFloat_ok,
      toModel_ok (x0 := x0_0) (x1 := x0_1) (x2 := x0_2) (x3 := x0_3) (x4 := x0_4) ox0_2 ox0_3 ox0_4,
      eqModel_ok (x0 := x0_0) (x1 := x0_1) (x2 := x0_2) (x3 := x0_3) (x4 := x0_4) ox0_2 ox0_3 ox0_4,
      markModel_ok (k := (1 : Int)) (x0 := x0_0) (x1 := x0_1) (x2 := x0_2) (x3 := x0_3) (x4 := x0_4) ox0_2 ox0_3 ox0_4 (by omega),
      toInt64S_ok (xs := x1_0) ox1_0,
      eqInt64S_ok (xs := x1_0) ox1_0,
      markInt64S_ok (k := (1 : Int) + ((1 * x0_2.length : Nat) : Int) + ((1 * x0_3.length : Nat) : Int) + ((1 * x0_4.length : Nat) : Int)) (xs := x1_0) ox1_0 (by omega),
      (show decide ((1 : Int) + ((1 * x0_2.length : Nat) : Int) + ((1 * x0_3.length : Nat) : Int) + ((1 * x0_4.length : Nat) : Int) + ((1 * x1_0.length : Nat) : Int) < 0) = false from by simp only [decide_eq_false_iff_not]; omega),
      eqFloat32S_ok (xs := r0_0) (by omega : r0_0.length ≤ 1048576),
      markFloat32S_ok (k := (1 : Int)) (xs := r0_0) (by omega : r0_0.length ≤ 1048576) (by omega),
      heldFloat32S_ok (k := (1 : Int)) (by omega : r0_0.length ≤ 1048576) (by omega),
      (show decide ((1 : Int) + ((1 * r0_0.length : Nat) : Int) < 0) = false from by simp only [decide_eq_false_iff_not]; omega)]

end Go.Proofs
