import Derived.Test.YtlipeppmdeanbaaReadsLoopGenB
set_option linter.unusedVariables false
set_option linter.unusedSimpArgs false
namespace Go.Proofs
open Go.Ide Go.IntWalk

theorem szInt64S_ok {xs : List Int} {n : Int} (hx : xs.length ≤ 9223372036854775807) (hn : 0 ≤ n ∧ n ≤ 1048576) : ∃ m, laws_szInt64S xs n = some m ∧ (m < 0 ∨ (xs.length ≤ 1048576 ∧ 0 ≤ m ∧ m ≤ n)) := by
  unfold laws_szInt64S
  have e : wsub .i64 n (lenI xs) = n - (xs.length : Int) := i64_in _ (by simp only [lenI]; omega)
  rw [e]
  by_cases h : n - (xs.length : Int) < 0
  · exact ⟨-1, by simp only [h, decide_true, cond_true], .inl (by omega)⟩
  · exact ⟨_, by simp only [h, decide_false, cond_false]; rfl, .inr ⟨by omega, by omega, by omega⟩⟩

theorem szBoolS_ok {xs : List Bool} {n : Int} (hx : xs.length ≤ 9223372036854775807) (hn : 0 ≤ n ∧ n ≤ 1048576) : ∃ m, laws_szBoolS xs n = some m ∧ (m < 0 ∨ (xs.length ≤ 1048576 ∧ 0 ≤ m ∧ m ≤ n)) := by
  unfold laws_szBoolS
  have e : wsub .i64 n (lenI xs) = n - (xs.length : Int) := i64_in _ (by simp only [lenI]; omega)
  rw [e]
  by_cases h : n - (xs.length : Int) < 0
  · exact ⟨-1, by simp only [h, decide_true, cond_true], .inl (by omega)⟩
  · exact ⟨_, by simp only [h, decide_false, cond_false]; rfl, .inr ⟨by omega, by omega, by omega⟩⟩

theorem toInt64S_ok {xs : List Int} (h : xs.length ≤ 1048576) : laws_toInt64S xs = some xs := by
  unfold laws_toInt64S
  rw [guard_pos ⟨by simp only [lenI]; omega, by simp only [lenI]; omega⟩]
  have := loop_to (f := laws_toInt64S_B1 xs) xs (0 : Int) (fun i out hi hl => by
    unfold laws_toInt64S_B1
    simp only [ltN hi, cond_true, guard_pos (idxN hi), guard_pos (idxN (i := i) (n := out.length) (by omega)), Int.toNat_natCast, nextN hi (by omega)]) (fun out hl => by
    unfold laws_toInt64S_B1
    simp only [geN (Nat.le_refl _), cond_false])
  simp only [Int.toNat_natCast, this, Option.bind_some]

theorem toBoolS_ok {xs : List Bool} (h : xs.length ≤ 1048576) : laws_toBoolS xs = some xs := by
  unfold laws_toBoolS
  rw [guard_pos ⟨by simp only [lenI]; omega, by simp only [lenI]; omega⟩]
  have := loop_to (f := laws_toBoolS_B1 xs) xs false (fun i out hi hl => by
    unfold laws_toBoolS_B1
    simp only [ltN hi, cond_true, guard_pos (idxN hi), guard_pos (idxN (i := i) (n := out.length) (by omega)), Int.toNat_natCast, nextN hi (by omega)]) (fun out hl => by
    unfold laws_toBoolS_B1
    simp only [geN (Nat.le_refl _), cond_false])
  simp only [Int.toNat_natCast, this, Option.bind_some]

theorem eqInt64S_ok {xs : List Int} (h : xs.length ≤ 1048576) : laws_eqInt64S xs xs = some true := by
  unfold laws_eqInt64S
  have := loop_eq (f := laws_eqInt64S_B1 xs xs) (Sum.inl ()) xs.length (fun i hi => by
    unfold laws_eqInt64S_B1
    simp only [ltN hi, cond_true, guard_pos (idxN hi), bne_self_eq_false, cond_false, nextN hi (by omega)]) (by
    unfold laws_eqInt64S_B1
    simp only [geN (Nat.le_refl _), cond_false])
  simp only [bne_self_eq_false, cond_false, this, Option.bind_some]

theorem eqBoolS_ok {xs : List Bool} (h : xs.length ≤ 1048576) : laws_eqBoolS xs xs = some true := by
  unfold laws_eqBoolS
  have := loop_eq (f := laws_eqBoolS_B1 xs xs) (Sum.inl ()) xs.length (fun i hi => by
    unfold laws_eqBoolS_B1
    simp only [ltN hi, cond_true, guard_pos (idxN hi), bne_self_eq_false, cond_false, nextN hi (by omega)]) (by
    unfold laws_eqBoolS_B1
    simp only [geN (Nat.le_refl _), cond_false])
  simp only [bne_self_eq_false, cond_false, this, Option.bind_some]

theorem szPlain_ok {x0 : Int} {x1 : Int} {x2 : List Int} {x3 : List Bool} {n : Int} (hx2 : x2.length ≤ 9223372036854775807) (hx3 : x3.length ≤ 9223372036854775807) (hn : 0 ≤ n ∧ n ≤ 1048576) : ∃ m, laws_szPlain (x0, x1, x2, x3) n = some m ∧ (m < 0 ∨ ((x2.length ≤ 1048576 ∧ x3.length ≤ 1048576) ∧ 0 ≤ m ∧ m ≤ n)) := by
  unfold laws_szPlain
  obtain ⟨m1, h1, k1⟩ := szInt64S_ok (n := n) (xs := x2) hx2 (by omega)
  simp only [h1, Option.bind_some]
  by_cases c1 : m1 < 0
  · simp only [c1, decide_true, cond_true]; exact ⟨-1, rfl, .inl (by omega)⟩
  · obtain ⟨g1, p1, q1⟩ := k1.resolve_left c1
    simp only [c1, decide_false, cond_false]
    obtain ⟨m2, h2, k2⟩ := szBoolS_ok (n := m1) (xs := x3) hx3 (by omega)
    simp only [h2, Option.bind_some]
    by_cases c2 : m2 < 0
    · simp only [c2, decide_true, cond_true]; exact ⟨-1, rfl, .inl (by omega)⟩
    · obtain ⟨g2, p2, q2⟩ := k2.resolve_left c2
      simp only [c2, decide_false, cond_false]
      exact ⟨_, rfl, .inr ⟨⟨g1, g2⟩, by omega, by omega⟩⟩

theorem szLoop_ok {x0 : List Int} {x1 : List Int} {n : Int} (hx0 : x0.length ≤ 9223372036854775807) (hx1 : x1.length ≤ 9223372036854775807) (hn : 0 ≤ n ∧ n ≤ 1048576) : ∃ m, laws_szLoop (x0, x1) n = some m ∧ (m < 0 ∨ ((x0.length ≤ 1048576 ∧ x1.length ≤ 1048576) ∧ 0 ≤ m ∧ m ≤ n)) := by
  unfold laws_szLoop
  obtain ⟨m1, h1, k1⟩ := szInt64S_ok (n := n) (xs := x0) hx0 (by omega)
  simp only [h1, Option.bind_some]
  by_cases c1 : m1 < 0
  · simp only [c1, decide_true, cond_true]; exact ⟨-1, rfl, .inl (by omega)⟩
  · obtain ⟨g1, p1, q1⟩ := k1.resolve_left c1
    simp only [c1, decide_false, cond_false]
    obtain ⟨m2, h2, k2⟩ := szInt64S_ok (n := m1) (xs := x1) hx1 (by omega)
    simp only [h2, Option.bind_some]
    by_cases c2 : m2 < 0
    · simp only [c2, decide_true, cond_true]; exact ⟨-1, rfl, .inl (by omega)⟩
    · obtain ⟨g2, p2, q2⟩ := k2.resolve_left c2
      simp only [c2, decide_false, cond_false]
      exact ⟨_, rfl, .inr ⟨⟨g1, g2⟩, by omega, by omega⟩⟩

theorem toPlain_ok {x0 : Int} {x1 : Int} {x2 : List Int} {x3 : List Bool} (hx2 : x2.length ≤ 1048576) (hx3 : x3.length ≤ 1048576) : laws_toPlain (x0, x1, x2, x3) = some (x0, x1, x2, x3) := by
  unfold laws_toPlain
  simp only [toInt64S_ok hx2, toBoolS_ok hx3, Option.bind_some]

theorem toLoop_ok {x0 : List Int} {x1 : List Int} (hx0 : x0.length ≤ 1048576) (hx1 : x1.length ≤ 1048576) : laws_toLoop (x0, x1) = some (x0, x1) := by
  unfold laws_toLoop
  simp only [toInt64S_ok hx0, toInt64S_ok hx1, Option.bind_some]

theorem eqPlain_ok {x0 : Int} {x1 : Int} {x2 : List Int} {x3 : List Bool} (hx2 : x2.length ≤ 1048576) (hx3 : x3.length ≤ 1048576) : laws_eqPlain (x0, x1, x2, x3) (x0, x1, x2, x3) = some true := by
  unfold laws_eqPlain
  simp only [eqInt64S_ok hx2, eqBoolS_ok hx3, Option.bind_some, bne_self_eq_false, Bool.not_true, cond_false, decide_true]

theorem eqLoop_ok {x0 : List Int} {x1 : List Int} (hx0 : x0.length ≤ 1048576) (hx1 : x1.length ≤ 1048576) : laws_eqLoop (x0, x1) (x0, x1) = some true := by
  unfold laws_eqLoop
  simp only [eqInt64S_ok hx0, eqInt64S_ok hx1, Option.bind_some, bne_self_eq_false, Bool.not_true, cond_false, decide_true]

end Go.Proofs

namespace Go.Proofs
open Go.Ide Go.IntWalk

theorem in64 (a b c : Int) : spec_l00In a b c = some (decide (a ≥ b) && decide (a ≤ c)) := by
  unfold spec_l00In
  cases h : decide (a ≥ b) <;> simp
theorem within64 (a b c : Int) : impl_within a b c = some (decide (a ≥ b) && decide (a ≤ c)) := by
  unfold impl_within
  cases h : decide (a ≥ b) <;> simp

/-- All between. -/
def allIn (xs : List Int) (b c : Int) : Bool := xs.all fun x => decide (x ≥ b) && decide (x ≤ c)

theorem allIn_iff {xs : List Int} {b c : Int} : allIn xs b c = true ↔ ∀ i, i < xs.length → b ≤ xs.getD i 0 ∧ xs.getD i 0 ≤ c := by
  unfold allIn
  rw [List.all_eq_true]
  constructor
  · intro h i hi
    have := h xs[i] (List.getElem_mem hi)
    simp only [Bool.and_eq_true, decide_eq_true_eq] at this
    rw [List.getD_eq_getElem?_getD, List.getElem?_eq_getElem hi]
    exact ⟨this.1, this.2⟩
  · intro h x hx
    obtain ⟨i, hi, rfl⟩ := List.getElem_of_mem hx
    have := h i hi
    rw [List.getD_eq_getElem?_getD, List.getElem?_eq_getElem hi] at this
    simp only [Bool.and_eq_true, decide_eq_true_eq]
    exact ⟨this.1, this.2⟩

theorem allN_in (xs : List Int) (b c : Int) : allN (fun i => decide (xs.getD i 0 ≥ b) && decide (xs.getD i 0 ≤ c)) xs.length 0 = allIn xs b c := by
  rw [Bool.eq_iff_iff, allN_iff, allIn_iff]
  constructor
  · intro h i hi
    have := h i (by omega) (by omega)
    simp only [Bool.and_eq_true, decide_eq_true_eq] at this
    exact ⟨this.1, this.2⟩
  · intro h i _ hi
    have := h i (by omega)
    simp only [Bool.and_eq_true, decide_eq_true_eq]
    exact ⟨this.1, this.2⟩

theorem areWithin64 {xs : List Int} {b c : Int} (h : xs.length ≤ 4294967296) : impl_areWithin xs b c = some (allIn xs b c) := by
  unfold impl_areWithin
  have := rounds_all (f := impl_areWithin_B1 xs b c) (fun i => ((i : Nat) : Int)) (fun i => decide (xs.getD i 0 ≥ b) && decide (xs.getD i 0 ≤ c)) (Sum.inl ()) (Sum.inr ()) (n := xs.length) (fun i hi => by
    unfold impl_areWithin_B1
    simp only [ltN hi, cond_true, guard_pos (idxN hi), Int.toNat_natCast, within64, Option.bind_some, nextN hi h]
    cases (decide (xs.getD i 0 ≥ b) && decide (xs.getD i 0 ≤ c)) <;> rfl) (by
    unfold impl_areWithin_B1
    simp only [geN (Nat.le_refl _), cond_false]) xs.length 0 (by omega)
  rw [allN_in] at this
  simp only [Int.natCast_zero] at this
  simp only [this, Option.bind_some]
  cases allIn xs b c <;> rfl

theorem word64 {xs : List Int} {L : Int} (h : xs.length ≤ 4294967296) : spec_l02Word xs L = some (allIn xs 0 (wsub .i64 L 1) && decide (lenI xs ≤ 12)) := by
  unfold spec_l02Word
  have := rounds_all (f := spec_l02Word_B1 xs L) (fun i => ((i : Nat) : Int)) (fun i => decide (xs.getD i 0 ≥ 0) && decide (xs.getD i 0 ≤ wsub .i64 L 1)) (Sum.inl ()) (Sum.inr ()) (n := xs.length) (fun i hi => by
    unfold spec_l02Word_B1
    simp only [ltN hi, cond_true, guard_pos (idxN hi), Int.toNat_natCast, in64, Option.bind_some, nextN hi h]
    cases (decide (xs.getD i 0 ≥ 0) && decide (xs.getD i 0 ≤ wsub .i64 L 1)) <;> rfl) (by
    unfold spec_l02Word_B1
    simp only [geN (Nat.le_refl _), cond_false]) xs.length 0 (by omega)
  rw [allN_in] at this
  simp only [Int.natCast_zero] at this
  simp only [this, Option.bind_some]
  cases allIn xs 0 (wsub .i64 L 1) <;> simp

theorem isWord64 {xs : List Int} {L : Int} (h : xs.length ≤ 4294967296) : impl_IsWord xs L = some ((decide (L ≥ 1) && decide (L ≤ 4)) && (decide (lenI xs ≤ 12) && allIn xs 0 (wsub .i64 L 1))) := by
  unfold impl_IsWord
  rw [within64, areWithin64 h]
  cases (decide (L ≥ 1) && decide (L ≤ 4)) <;> cases decide (lenI xs ≤ 12) <;> simp

/-- A plain machine is as it must be. -/
def okPlain (s l : Int) (nx : List Int) (es : List Bool) : Bool :=
  (decide (s ≥ 1) && decide (s ≤ 64)) && ((decide (l ≥ 1) && decide (l ≤ 4)) && ((lenI nx == wmul .i64 s l) && ((lenI es == s) && allIn nx 0 (wsub .i64 s 1))))

theorem specPlain {s l : Int} {nx : List Int} {es : List Bool} (h : nx.length ≤ 4294967296) : spec_l02Plain (s, l, nx, es) = some (okPlain s l nx es) := by
  unfold spec_l02Plain okPlain
  simp only [in64, Option.bind_some]
  have := rounds_all (f := spec_l02Plain_B1 (s, l, nx, es)) (fun i => ((i : Nat) : Int)) (fun i => decide (nx.getD i 0 ≥ 0) && decide (nx.getD i 0 ≤ wsub .i64 s 1)) (Sum.inl ()) (Sum.inr ()) (n := nx.length) (fun i hi => by
    unfold spec_l02Plain_B1
    simp only [ltN hi, cond_true, guard_pos (idxN hi), Int.toNat_natCast, in64, Option.bind_some, nextN hi h]
    cases (decide (nx.getD i 0 ≥ 0) && decide (nx.getD i 0 ≤ wsub .i64 s 1)) <;> rfl) (by
    unfold spec_l02Plain_B1
    simp only [geN (Nat.le_refl _), cond_false]) nx.length 0 (by omega)
  rw [allN_in] at this
  simp only [Int.natCast_zero] at this
  simp only [this, Option.bind_some, bne]
  cases (decide (s ≥ 1) && decide (s ≤ 64)) <;> cases (decide (l ≥ 1) && decide (l ≤ 4)) <;> cases (lenI nx == wmul .i64 s l) <;> cases (lenI es == s) <;> cases allIn nx 0 (wsub .i64 s 1) <;> rfl

theorem implPlain {s l : Int} {nx : List Int} {es : List Bool} (h : nx.length ≤ 4294967296) : impl_ValidPlain (s, l, nx, es) = some (okPlain s l nx es) := by
  unfold impl_ValidPlain okPlain
  simp only [within64, areWithin64 h, Option.bind_some]
  cases (decide (s ≥ 1) && decide (s ≤ 64)) <;> cases (decide (l ≥ 1) && decide (l ≤ 4)) <;> cases (lenI nx == wmul .i64 s l) <;> cases (lenI es == s) <;> cases allIn nx 0 (wsub .i64 s 1) <;> rfl

theorem okPlain_spec {s l : Int} {nx : List Int} {es : List Bool} (h : okPlain s l nx es = true) : ∃ m c : Nat, s = (m : Int) ∧ l = (c : Int) ∧ 1 ≤ m ∧ m ≤ 64 ∧ 1 ≤ c ∧ c ≤ 4 ∧ nx.length = m * c ∧ es.length = m ∧ ∀ i, i < m * c → ∃ t : Nat, nx.getD i 0 = (t : Int) ∧ t < m := by
  unfold okPlain at h
  simp only [Bool.and_eq_true, decide_eq_true_eq, beq_iff_eq] at h
  obtain ⟨⟨h1, h2⟩, ⟨h3, h4⟩, h5, h6, h7⟩ := h
  obtain ⟨m, rfl⟩ : ∃ n : Nat, s = (n : Int) := ⟨s.toNat, by omega⟩
  obtain ⟨c, rfl⟩ : ∃ n : Nat, l = (n : Int) := ⟨l.toNat, by omega⟩
  have hmc : m * c ≤ 64 * 4 := Nat.mul_le_mul (by omega) (by omega)
  rw [wmulI (by rw [← Int.natCast_mul]; omega), ← Int.natCast_mul] at h5
  have hl : nx.length = m * c := by simp only [lenI] at h5; omega
  refine ⟨m, c, rfl, rfl, by omega, by omega, by omega, by omega, hl, by simp only [lenI] at h6; omega, fun i hi => ?_⟩
  have := allIn_iff.1 h7 i (by omega)
  rw [wsubI (by omega)] at this
  exact ⟨(nx.getD i 0).toNat, by omega, by omega⟩

/-- A loop's words are words. -/
def okLoop (xs ys : List Int) (L : Int) : Bool := (decide (L ≥ 1) && decide (L ≤ 4)) && ((allIn xs 0 (wsub .i64 L 1) && decide (lenI xs ≤ 12)) && ((allIn ys 0 (wsub .i64 L 1) && decide (lenI ys ≤ 12)) && decide (lenI ys ≥ 1)))

theorem specLoop {xs ys : List Int} {L : Int} (hx : xs.length ≤ 4294967296) (hy : ys.length ≤ 4294967296) : spec_l07Loop (xs, ys) L = some (okLoop xs ys L) := by
  unfold spec_l07Loop okLoop
  simp only [in64, word64 hx, word64 hy, Option.bind_some]
  cases (decide (L ≥ 1) && decide (L ≤ 4)) <;> cases (allIn xs 0 (wsub .i64 L 1) && decide (lenI xs ≤ 12)) <;> cases (allIn ys 0 (wsub .i64 L 1) && decide (lenI ys ≤ 12)) <;> simp

theorem implLoop {xs ys : List Int} {L : Int} (hx : xs.length ≤ 4294967296) (hy : ys.length ≤ 4294967296) : impl_ValidLoop (xs, ys) L = some (okLoop xs ys L) := by
  unfold impl_ValidLoop okLoop
  have e : decide (lenI ys > 0) = decide (lenI ys ≥ 1) := by simp [lenI]; omega
  simp only [isWord64 hx, isWord64 hy, Option.bind_some, e]
  cases (decide (L ≥ 1) && decide (L ≤ 4)) <;> cases allIn xs 0 (wsub .i64 L 1) <;> cases decide (lenI xs ≤ 12) <;> cases allIn ys 0 (wsub .i64 L 1) <;> cases decide (lenI ys ≤ 12) <;> simp

/-- A list's numbers are letters. -/
def Letters (c : Nat) (xs : List Int) : Prop := ∀ i, i < xs.length → ∃ a : Nat, xs.getD i 0 = (a : Int) ∧ a < c

theorem okLoop_spec {xs ys : List Int} {c : Nat} (h : okLoop xs ys (c : Int) = true) : xs.length ≤ 12 ∧ ys.length ≤ 12 ∧ 1 ≤ ys.length ∧ Letters c xs ∧ Letters c ys := by
  unfold okLoop at h
  simp only [Bool.and_eq_true, decide_eq_true_eq, lenI] at h
  obtain ⟨⟨h1, h2⟩, ⟨h3, h4⟩, ⟨h5, h6⟩, h7⟩ := h
  rw [wsubI (by omega)] at h3 h5
  refine ⟨by omega, by omega, by omega, fun i hi => ?_, fun i hi => ?_⟩
  · have := allIn_iff.1 h3 i hi
    exact ⟨(xs.getD i 0).toNat, by omega, by omega⟩
  · have := allIn_iff.1 h5 i hi
    exact ⟨(ys.getD i 0).toNat, by omega, by omega⟩

/-- A valid machine. -/
structure Plain (m c : Nat) (nx : List Int) (es : List Bool) : Prop where
  m1 : 1 ≤ m
  m2 : m ≤ 64
  c1 : 1 ≤ c
  c2 : c ≤ 4
  len : nx.length = m * c
  ends : es.length = m
  to : ∀ i, i < m * c → ∃ t : Nat, nx.getD i 0 = (t : Int) ∧ t < m

/-- The next state. -/
def goP (c : Nat) (nx : List Int) (s : Nat) (a : Int) : Nat := (nx.getD (s * c + a.toNat) 0).toNat

def walkP (c : Nat) (nx : List Int) (s : Nat) (w : List Int) : Nat := w.foldl (goP c nx) s

theorem place_lt {m c s a : Nat} (hs : s < m) (ha : a < c) : s * c + a < m * c := by
  have : s * c + c ≤ m * c := by
    rw [← Nat.succ_mul]
    exact Nat.mul_le_mul_right c hs
  omega

section
variable {m c : Nat} {nx : List Int} {es : List Bool} (hp : Plain m c nx es)
include hp

theorem goP_lt {s : Nat} {a : Int} {k : Nat} (hs : s < m) (ha : a = (k : Int)) (hk : k < c) : goP c nx s a < m := by
  subst ha
  obtain ⟨t, h1, h2⟩ := hp.to (s * c + k) (place_lt hs hk)
  unfold goP
  rw [Int.toNat_natCast, h1]
  simpa using h2

theorem spec_go {s : Nat} {a : Int} {k : Nat} (hs : s < m) (ha : a = (k : Int)) (hk : k < c) : spec_l07Go ((m : Int), (c : Int), nx, es) (s : Int) a = some ((goP c nx s a : Nat) : Int) := by
  subst ha
  have h0 := place_lt hs hk
  have hmc : m * c ≤ 64 * 4 := Nat.mul_le_mul hp.m2 hp.c2
  obtain ⟨t, h1, h2⟩ := hp.to (s * c + k) h0
  have := hp.m2; have := hp.c2; have := hp.len
  have e : wadd .i64 (wmul .i64 (s : Int) (c : Int)) (k : Int) = ((s * c + k : Nat) : Int) := cellN (by omega) (by omega) (by omega)
  unfold spec_l07Go goP
  simp only [e, Int.toNat_natCast, guard_pos (show (0 : Int) ≤ ((s * c + k : Nat) : Int) ∧ ((s * c + k : Nat) : Int) < lenI nx from by simp only [lenI]; omega), h1]

theorem impl_go {s : Nat} {a : Int} {k : Nat} (hs : s < m) (ha : a = (k : Int)) (hk : k < c) : impl_Plain_to ((m : Int), (c : Int), nx, es) (s : Int) a = some ((goP c nx s a : Nat) : Int) := by
  subst ha
  have h0 := place_lt hs hk
  have hmc : m * c ≤ 64 * 4 := Nat.mul_le_mul hp.m2 hp.c2
  obtain ⟨t, h1, h2⟩ := hp.to (s * c + k) h0
  have := hp.m2; have := hp.c2; have := hp.len
  have e : wadd .i64 (wmul .i64 (s : Int) (c : Int)) (k : Int) = ((s * c + k : Nat) : Int) := cellN (by omega) (by omega) (by omega)
  unfold impl_Plain_to goP
  simp only [e, Int.toNat_natCast, guard_pos (show (0 : Int) ≤ ((s * c + k : Nat) : Int) ∧ ((s * c + k : Nat) : Int) < lenI nx from by simp only [lenI]; omega), h1]

theorem walk_lt {w : List Int} (hw : Letters c w) : ∀ (k : Nat) {s : Nat}, s < m → walkP c nx s (w.take k) < m := by
  intro k
  induction k with
  | zero => intro s hs; simpa [walkP] using hs
  | succ k ih =>
    intro s hs
    by_cases hk : k < w.length
    · rw [take_snoc hk 0]
      unfold walkP
      rw [List.foldl_append]
      obtain ⟨a, e, ha⟩ := hw k hk
      exact goP_lt hp (ih hs) e ha
    · have e : w.take (k + 1) = w.take k := by rw [List.take_of_length_le (by omega), List.take_of_length_le (by omega)]
      rw [e]; exact ih hs

end

theorem walk_succ {c : Nat} {nx w : List Int} {s k : Nat} (hk : k < w.length) : walkP c nx s (w.take (k + 1)) = goP c nx (walkP c nx s (w.take k)) (w.getD k 0) := by
  rw [take_snoc hk 0]; unfold walkP; rw [List.foldl_append]; rfl

end Go.Proofs

namespace Go.Proofs
open Go.Ide Go.IntWalk

/-- Where a list is true. -/
def idxF : List Bool → Nat → List Int
  | [], _ => []
  | b :: bs, i => if b then (i : Int) :: idxF bs (i + 1) else idxF bs (i + 1)

theorem idxF_cons (b : Bool) (bs : List Bool) (i : Nat) : idxF (b :: bs) i = if b then (i : Int) :: idxF bs (i + 1) else idxF bs (i + 1) := rfl

theorem idxF_ge : ∀ (bs : List Bool) (i : Nat), ∀ x ∈ idxF bs i, (i : Int) ≤ x
  | [], _, x, h => by simp [idxF] at h
  | b :: bs, i, x, h => by
    unfold idxF at h
    split at h
    · rcases List.mem_cons.1 h with e | h
      · omega
      · have := idxF_ge bs (i + 1) x h; omega
    · have := idxF_ge bs (i + 1) x h; omega

theorem idxF_len : ∀ (bs : List Bool) (i : Nat), (idxF bs i).length ≤ bs.length
  | [], _ => by simp [idxF]
  | b :: bs, i => by
    have := idxF_len bs (i + 1)
    unfold idxF
    split <;> simp only [List.length_cons] <;> omega

/-- A number put into a rising list. -/
def insI (n : Int) : List Int → List Int
  | [] => [n]
  | x :: xs => if x ≥ n then (if x > n then n :: x :: xs else x :: xs) else x :: insI n xs

theorem insI_cons (n x : Int) (xs : List Int) : insI n (x :: xs) = if x ≥ n then (if x > n then n :: x :: xs else x :: xs) else x :: insI n xs := rfl

theorem insI_len (n : Int) : ∀ xs : List Int, (insI n xs).length ≤ xs.length + 1
  | [] => by simp [insI]
  | x :: xs => by
    have := insI_len n xs
    unfold insI
    split
    · split <;> simp
    · simp only [List.length_cons]; omega

theorem insI_idx : ∀ (bs : List Bool) (i j : Nat), j < bs.length → insI ((i + j : Nat) : Int) (idxF bs i) = idxF (bs.set j true) i
  | [], _, _, h => by simp at h
  | b :: bs, i, 0, _ => by
    simp only [Nat.add_zero, List.set_cons_zero, idxF, if_true]
    cases b with
    | true => simp [insI]
    | false =>
      simp only [Bool.false_eq_true, if_false]
      have hge := idxF_ge bs (i + 1)
      cases hx : idxF bs (i + 1) with
      | nil => rfl
      | cons x xs =>
        have := hge x (by rw [hx]; exact List.mem_cons_self)
        unfold insI
        rw [if_pos (by omega), if_pos (by omega)]
  | b :: bs, i, j + 1, h => by
    have ih := insI_idx bs (i + 1) j (by simpa using h)
    rw [show i + 1 + j = i + (j + 1) from by omega] at ih
    simp only [List.set_cons_succ, idxF]
    cases b with
    | true =>
      simp only [if_true]
      unfold insI
      rw [if_neg (by omega), ih]
    | false => simpa using ih

theorem spec_put {xs : List Int} {n : Int} (h : xs.length ≤ 1000000) : spec_l00Put xs n = some (insI n xs) := by
  unfold spec_l00Put
  have := rounds_forS (f := spec_l00Put_B1 xs n) (fun i (s : Bool × List Int) => (s.1, ((i : Nat) : Int), s.2))
    (fun i s => if s.1 = false ∧ xs.getD i 0 ≥ n then (true, (if xs.getD i 0 > n then s.2 ++ [n] else s.2) ++ [xs.getD i 0]) else (s.1, s.2 ++ [xs.getD i 0])) (fun s => (s.1, s.2)) (n := xs.length)
    (fun i s => s.2.length ≤ i + (if s.1 then 1 else 0) ∧ (if s.1 then s.2 ++ xs.drop i = insI n xs else s.2 ++ insI n (xs.drop i) = insI n xs))
    (fun i s hi hs => by
      obtain ⟨d, out⟩ := s
      obtain ⟨hl, hs⟩ := hs
      have hl2 : out.length ≤ i + (if d then 1 else 0) := hl
      have hl : out.length ≤ i + 1 := by cases d <;> simp at hl2 <;> omega
      refine ⟨?_, ?_⟩
      · unfold spec_l00Put_B1
        have g1 : ∀ (l : List Int) (x : Int), l.length ≤ i + 2 → List.length l + List.length ([x] : List Int) ≤ appMax := fun l x hl => by simp only [appMax, List.length_cons, List.length_nil]; omega
        simp only [ltN hi, cond_true, guard_pos (idxN hi), Int.toNat_natCast, nextN hi (by omega), guard_pos (g1 out n (by omega))]
        cases d with
        | true =>
          simp only [Bool.not_true, cond_false, Option.bind_some, Bool.true_eq_false, false_and, if_false, guard_pos (g1 out (xs.getD i 0) (by omega))]
        | false =>
          by_cases hx : xs.getD i 0 ≥ n
          · by_cases hy : xs.getD i 0 > n
            · simp only [Bool.not_false, cond_true, hx, hy, decide_true, Option.bind_some, true_and, if_true, guard_pos (g1 (out ++ [n]) (xs.getD i 0) (by simp; omega))]
            · simp only [Bool.not_false, cond_true, cond_false, hx, hy, decide_true, decide_false, Option.bind_some, true_and, if_true, if_false, guard_pos (g1 out (xs.getD i 0) (by omega))]
          · simp only [Bool.not_false, cond_true, cond_false, hx, decide_false, Option.bind_some, true_and, if_false, guard_pos (g1 out (xs.getD i 0) (by omega))]
      · have hd := drop_cons hi 0
        cases d with
        | true =>
          simp only [Bool.true_eq_false, false_and, if_false, if_true] at hs ⊢
          exact ⟨by simp; omega, by rw [← hs, hd]; simp⟩
        | false =>
          simp only [Bool.false_eq_true, if_false] at hs
          rw [hd, insI_cons] at hs
          have hl2 : out.length ≤ i := by simpa using hl2
          by_cases hx : xs.getD i 0 ≥ n
          · rw [if_pos hx] at hs
            simp only [true_and, hx, if_true]
            by_cases hy : xs.getD i 0 > n
            · rw [if_pos hy] at hs
              rw [if_pos hy]
              exact ⟨by simp; omega, by rw [← hs]; simp⟩
            · rw [if_neg hy] at hs
              rw [if_neg hy]
              exact ⟨by simp; omega, by rw [← hs]; simp⟩
          · rw [if_neg hx] at hs
            simp only [true_and, hx, if_false, Bool.false_eq_true]
            exact ⟨by simp; omega, by rw [← hs]; simp⟩)
    (fun s hs => by
      unfold spec_l00Put_B1
      simp only [geN (Nat.le_refl _), cond_false]) xs.length 0 (false, []) (by omega) ⟨by simp, by simp⟩
  simp only [Int.natCast_zero] at this
  obtain ⟨e, hl, hI⟩ := this
  rw [e]
  simp only [Option.bind_some]
  generalize forS _ xs.length 0 (false, ([] : List Int)) = r at hl hI
  obtain ⟨d, out⟩ := r
  cases d with
  | true => simpa using hI
  | false =>
    have hl : out.length ≤ xs.length := by simpa using hl
    have g1 : List.length out + List.length ([n] : List Int) ≤ appMax := by simp only [appMax, List.length_cons, List.length_nil]; omega
    have hI : out ++ insI n (xs.drop xs.length) = insI n xs := by simpa using hI
    rw [List.drop_length] at hI
    simp only [Bool.not_false, cond_true, guard_pos g1, Option.bind_some]
    rw [← hI]; rfl

section
variable {m c : Nat} {nx : List Int} {es : List Bool}

theorem walk_loop {f : Int × Int → Option ((Int × Int) ⊕ Int)} {w : List Int} (hp : Plain m c nx es) (hw : Letters c w)
    (hstep : ∀ s i : Nat, s < m → i < w.length → f ((s : Int), (i : Int)) = some (.inl (((goP c nx s (w.getD i 0) : Nat) : Int), ((i + 1 : Nat) : Int))))
    (hend : ∀ s : Nat, f ((s : Int), (w.length : Int)) = some (.inr (s : Int))) {s : Nat} (hs : s < m) : rounds f ((s : Int), (0 : Int)) = some ((walkP c nx s w : Nat) : Int) := by
  have := rounds_forS (f := f) (fun i (s : Nat) => ((s : Int), ((i : Nat) : Int))) (fun i s => goP c nx s (w.getD i 0)) (fun s => (s : Int)) (n := w.length) (fun i t => t = walkP c nx s (w.take i))
    (fun i t hi ht => ⟨hstep t i (by rw [ht]; exact walk_lt hp hw i hs) hi, by rw [ht, walk_succ hi]⟩) (fun t _ => hend t) w.length 0 s (by omega) rfl
  simp only [Int.natCast_zero, List.take_length] at this
  rw [this.1, this.2]

/-- Times round. -/
def repP (c : Nat) (nx w : List Int) : Nat → Nat → Nat
  | 0, s => s
  | k + 1, s => repP c nx w k (walkP c nx s w)

theorem rep_loop {f : Int × Int → Option ((Int × Int) ⊕ Int)} {w : List Int} {n : Nat} (hp : Plain m c nx es) (hw : Letters c w)
    (hstep : ∀ s i : Nat, s < m → i < n → f ((s : Int), (i : Int)) = some (.inl (((walkP c nx s w : Nat) : Int), ((i + 1 : Nat) : Int))))
    (hend : ∀ s : Nat, f ((s : Int), (n : Int)) = some (.inr (s : Int))) {s : Nat} (hs : s < m) : ∃ t : Nat, t < m ∧ t = repP c nx w n s ∧ rounds f ((s : Int), (0 : Int)) = some ((t : Nat) : Int) := by
  have hrep : ∀ (k i s : Nat), forS (fun _ s => walkP c nx s w) k i s = repP c nx w k s := by
    intro k
    induction k with
    | zero => intro i s; rfl
    | succ k ih => intro i s; exact ih (i + 1) _
  have hwl : ∀ s, s < m → walkP c nx s w < m := fun s hs => by have := walk_lt hp hw w.length hs; rwa [List.take_length] at this
  have := rounds_forS (f := f) (fun i (s : Nat) => ((s : Int), ((i : Nat) : Int))) (fun _ s => walkP c nx s w) (fun s => (s : Int)) (n := n) (fun i t => t < m)
    (fun i t hi ht => ⟨hstep t i ht hi, hwl t ht⟩) (fun t _ => hend t) n 0 s (by omega) hs
  simp only [Int.natCast_zero] at this
  rw [hrep] at this
  exact ⟨_, this.2, rfl, this.1⟩

/-- The states that come. -/
def markP (c : Nat) (nx w : List Int) : Nat → Nat → Nat × List Bool → Nat × List Bool
  | k, i, s => forS (fun i (s : Nat × List Bool) => (goP c nx s.1 (w.getD i 0), s.2.set (goP c nx s.1 (w.getD i 0)) true)) k i s
def marksP (c : Nat) (nx w : List Int) (n : Nat) (s : Nat × List Bool) : Nat × List Bool := forS (fun _ s => markP c nx w w.length 0 s) n 0 s

/-- How a program keeps the states that came. -/
def keepS (b : List Bool) : List Int := idxF b 0

theorem mark_loop1 {κ : Type} {f : Int × Int × κ → Option ((Int × Int × κ) ⊕ (Int × κ))} {w : List Int} (K : List Bool → κ) (hp : Plain m c nx es) (hw : Letters c w)
    (hstep : ∀ (s i : Nat) (b : List Bool), s < m → i < w.length → b.length = m → f ((s : Int), (i : Int), K b) = some (.inl (((goP c nx s (w.getD i 0) : Nat) : Int), ((i + 1 : Nat) : Int), K (b.set (goP c nx s (w.getD i 0)) true))))
    (hend : ∀ (s : Nat) (b : List Bool), b.length = m → f ((s : Int), (w.length : Int), K b) = some (.inr ((s : Int), K b))) {s : Nat} {b : List Bool} (hs : s < m) (hb : b.length = m) :
    ∃ t b', (t, b') = markP c nx w w.length 0 (s, b) ∧ t < m ∧ b'.length = m ∧ rounds f ((s : Int), (0 : Int), K b) = some ((t : Int), K b') := by
  have := rounds_forS (f := f) (fun i (s : Nat × List Bool) => ((s.1 : Int), ((i : Nat) : Int), K s.2)) (fun i (s : Nat × List Bool) => (goP c nx s.1 (w.getD i 0), s.2.set (goP c nx s.1 (w.getD i 0)) true)) (fun s => ((s.1 : Int), K s.2)) (n := w.length) (fun i t => t.1 < m ∧ t.2.length = m)
    (fun i t hi ht => ⟨hstep t.1 i t.2 ht.1 hi ht.2, by
      obtain ⟨a, e, ha⟩ := hw i hi
      exact ⟨goP_lt hp ht.1 e ha, by simpa using ht.2⟩⟩) (fun t ht => hend t.1 t.2 ht.2) w.length 0 (s, b) (by omega) ⟨hs, hb⟩
  simp only [Int.natCast_zero] at this
  exact ⟨_, _, rfl, this.2.1, this.2.2, this.1⟩

theorem mark_loop2 {κ : Type} {f : Int × Int × κ → Option ((Int × Int × κ) ⊕ κ)} {w : List Int} {n : Nat} (K : List Bool → κ) (hp : Plain m c nx es) (hw : Letters c w)
    (hstep : ∀ (s i : Nat) (b : List Bool), s < m → i < n → b.length = m → f ((s : Int), (i : Int), K b) = some (.inl (((markP c nx w w.length 0 (s, b)).1 : Int), ((i + 1 : Nat) : Int), K (markP c nx w w.length 0 (s, b)).2)))
    (hend : ∀ (s : Nat) (b : List Bool), b.length = m → f ((s : Int), (n : Int), K b) = some (.inr (K b))) {s : Nat} {b : List Bool} (hs : s < m) (hb : b.length = m) :
    (marksP c nx w n (s, b)).2.length = m ∧ rounds f ((s : Int), (0 : Int), K b) = some (K (marksP c nx w n (s, b)).2) := by
  have hin : ∀ t : Nat × List Bool, t.1 < m ∧ t.2.length = m → (markP c nx w w.length 0 t).1 < m ∧ (markP c nx w w.length 0 t).2.length = m := by
    intro t ht
    have aux : ∀ (k i : Nat) (t : Nat × List Bool), i + k = w.length → t.1 < m ∧ t.2.length = m → (markP c nx w k i t).1 < m ∧ (markP c nx w k i t).2.length = m := by
      intro k
      induction k with
      | zero => intro i t _ h; exact h
      | succ k ih =>
        intro i t hi h
        obtain ⟨a, e, ha⟩ := hw i (by omega)
        exact ih (i + 1) _ (by omega) ⟨goP_lt hp h.1 e ha, by simpa using h.2⟩
    exact aux w.length 0 t (by omega) ht
  have := rounds_forS (f := f) (fun i (s : Nat × List Bool) => ((s.1 : Int), ((i : Nat) : Int), K s.2)) (fun _ s => markP c nx w w.length 0 s) (fun s => K s.2) (n := n) (fun i t => t.1 < m ∧ t.2.length = m)
    (fun i t hi ht => ⟨hstep t.1 i t.2 ht.1 hi ht.2, hin t ht⟩) (fun t ht => hend t.1 t.2 ht.2) n 0 (s, b) (by omega) ⟨hs, hb⟩
  simp only [Int.natCast_zero] at this
  exact ⟨this.2.2, this.1⟩

/-- The states that come again and again. -/
def statesP (m c : Nat) (nx hd rd : List Int) : List Bool := (marksP c nx rd m (repP c nx rd m (walkP c nx 0 hd), List.replicate m false)).2

section
variable {hd rd : List Int} (hp : Plain m c nx es) (hh : Letters c hd) (hr : Letters c rd) (lh : hd.length ≤ 1000) (lr : rd.length ≤ 1000)
include hp hh hr lh lr

theorem spec_states : spec_l07States ((m : Int), (c : Int), nx, es) (hd, rd) = some (keepS (statesP m c nx hd rd)) ∧ (statesP m c nx hd rd).length = m := by
  have m1 := hp.m1; have m2 := hp.m2
  have e5 := walk_loop (f := spec_l07States_B5 ((m : Int), (c : Int), nx, es) (hd, rd)) hp hh (fun s i hs hi => by
    unfold spec_l07States_B5
    obtain ⟨a, e, ha⟩ := hh i hi
    simp only [ltN hi, cond_true, guard_pos (idxN hi), Int.toNat_natCast, spec_go hp hs e ha, Option.bind_some, nextN hi (by omega)]) (fun s => by
    unfold spec_l07States_B5
    simp only [geN (Nat.le_refl _), cond_false]) (s := 0) (by omega)
  have hw0 : walkP c nx 0 hd < m := by have := walk_lt hp hh hd.length (s := 0) (by omega); rwa [List.take_length] at this
  have e3 : ∀ s, s < m → rounds (spec_l07States_B3 ((m : Int), (c : Int), nx, es) (hd, rd)) ((s : Int), (0 : Int)) = some ((walkP c nx s rd : Nat) : Int) := fun s hs => walk_loop hp hr (fun s i hs hi => by
    unfold spec_l07States_B3
    obtain ⟨a, e, ha⟩ := hr i hi
    simp only [ltN hi, cond_true, guard_pos (idxN hi), Int.toNat_natCast, spec_go hp hs e ha, Option.bind_some, nextN hi (by omega)]) (fun s => by
    unfold spec_l07States_B3
    simp only [geN (Nat.le_refl _), cond_false]) hs
  obtain ⟨t, ht, ht2, e4⟩ := rep_loop (f := spec_l07States_B4 ((m : Int), (c : Int), nx, es) (hd, rd)) (n := m) hp hr (fun s i hs hi => by
    unfold spec_l07States_B4
    simp only [ltN hi, cond_true, e3 s hs, Option.bind_some, nextN hi (by omega)]) (fun s => by
    unfold spec_l07States_B4
    simp only [geN (Nat.le_refl _), cond_false]) hw0
  have e1 : ∀ (s : Nat) (b : List Bool), s < m → b.length = m → rounds (spec_l07States_B1 ((m : Int), (c : Int), nx, es) (hd, rd)) ((s : Int), (0 : Int), keepS b) = some (((markP c nx rd rd.length 0 (s, b)).1 : Int), keepS (markP c nx rd rd.length 0 (s, b)).2) := by
    intro s b hs hb
    obtain ⟨t, b', e, _, _, er⟩ := mark_loop1 (f := spec_l07States_B1 ((m : Int), (c : Int), nx, es) (hd, rd)) keepS hp hr (fun s i b hs hi hb => by
      unfold spec_l07States_B1
      obtain ⟨a, e, ha⟩ := hr i hi
      have hlt := goP_lt hp hs e ha
      have hl := idxF_len b 0
      have hins := insI_idx b 0 (goP c nx s (rd.getD i 0)) (by omega)
      rw [Nat.zero_add] at hins
      simp only [ltN hi, cond_true, guard_pos (idxN hi), Int.toNat_natCast, spec_go hp hs e ha, Option.bind_some, nextN hi (by omega), spec_put (show (keepS b).length ≤ 1000000 from by unfold keepS; omega)]
      unfold keepS
      rw [hins]) (fun s b hb => by
      unfold spec_l07States_B1
      simp only [geN (Nat.le_refl _), cond_false]) hs hb
    rw [← e]; exact er
  have e2 := mark_loop2 (f := spec_l07States_B2 ((m : Int), (c : Int), nx, es) (hd, rd)) (n := m) keepS hp hr (fun s i b hs hi hb => by
    unfold spec_l07States_B2
    simp only [ltN hi, cond_true, e1 s b hs hb, Option.bind_some, nextN hi (by omega)]) (fun s b hb => by
    unfold spec_l07States_B2
    simp only [geN (Nat.le_refl _), cond_false]) (s := t) (b := List.replicate m false) ht (by simp)
  have hk : keepS (List.replicate m false) = [] := by
    unfold keepS
    have : ∀ (k i : Nat), idxF (List.replicate k false) i = [] := by
      intro k
      induction k with
      | zero => intro i; rfl
      | succ k ih => intro i; simp only [List.replicate_succ, idxF, Bool.false_eq_true, if_false]; exact ih (i + 1)
    exact this m 0
  rw [hk] at e2
  unfold spec_l07States statesP
  rw [← ht2]
  simp only [Int.natCast_zero] at e5
  simp only [e5, e4, e2.2, Option.bind_some]
  exact ⟨trivial, e2.1⟩

theorem impl_states : impl_statesOfLoop ((m : Int), (c : Int), nx, es) (hd, rd) = some (statesP m c nx hd rd) := by
  have m1 := hp.m1; have m2 := hp.m2
  have e5 := walk_loop (f := impl_Plain_stateOf_B1 ((m : Int), (c : Int), nx, es) hd) hp hh (fun s i hs hi => by
    unfold impl_Plain_stateOf_B1
    obtain ⟨a, e, ha⟩ := hh i hi
    simp only [ltN hi, cond_true, guard_pos (idxN hi), Int.toNat_natCast, impl_go hp hs e ha, Option.bind_some, nextN hi (by omega)]) (fun s => by
    unfold impl_Plain_stateOf_B1
    simp only [geN (Nat.le_refl _), cond_false]) (s := 0) (by omega)
  have hw0 : walkP c nx 0 hd < m := by have := walk_lt hp hh hd.length (s := 0) (by omega); rwa [List.take_length] at this
  have e3 : ∀ s, s < m → rounds (impl_statesOfLoop_B3 ((m : Int), (c : Int), nx, es) (hd, rd)) ((s : Int), (0 : Int)) = some ((walkP c nx s rd : Nat) : Int) := fun s hs => walk_loop hp hr (fun s i hs hi => by
    unfold impl_statesOfLoop_B3
    obtain ⟨a, e, ha⟩ := hr i hi
    simp only [ltN hi, cond_true, guard_pos (idxN hi), Int.toNat_natCast, impl_go hp hs e ha, Option.bind_some, nextN hi (by omega)]) (fun s => by
    unfold impl_statesOfLoop_B3
    simp only [geN (Nat.le_refl _), cond_false]) hs
  obtain ⟨t, ht, ht2, e4⟩ := rep_loop (f := impl_statesOfLoop_B4 ((m : Int), (c : Int), nx, es) (hd, rd)) (n := m) hp hr (fun s i hs hi => by
    unfold impl_statesOfLoop_B4
    simp only [ltN hi, cond_true, e3 s hs, Option.bind_some, nextN hi (by omega)]) (fun s => by
    unfold impl_statesOfLoop_B4
    simp only [geN (Nat.le_refl _), cond_false]) hw0
  have e1 : ∀ (s : Nat) (b : List Bool), s < m → b.length = m → rounds (impl_statesOfLoop_B1 ((m : Int), (c : Int), nx, es) (hd, rd)) ((s : Int), (0 : Int), b) = some (((markP c nx rd rd.length 0 (s, b)).1 : Int), (markP c nx rd rd.length 0 (s, b)).2) := by
    intro s b hs hb
    obtain ⟨t, b', e, _, _, er⟩ := mark_loop1 (f := impl_statesOfLoop_B1 ((m : Int), (c : Int), nx, es) (hd, rd)) id hp hr (fun s i b hs hi hb => by
      unfold impl_statesOfLoop_B1
      obtain ⟨a, e, ha⟩ := hr i hi
      have hlt := goP_lt hp hs e ha
      simp only [ltN hi, cond_true, guard_pos (idxN hi), Int.toNat_natCast, impl_go hp hs e ha, Option.bind_some, nextN hi (by omega), id, guard_pos (idxN (i := goP c nx s (rd.getD i 0)) (n := b.length) (by omega))]) (fun s b hb => by
      unfold impl_statesOfLoop_B1
      simp only [geN (Nat.le_refl _), cond_false]) hs hb
    rw [← e]; exact er
  have e2 := mark_loop2 (f := impl_statesOfLoop_B2 ((m : Int), (c : Int), nx, es) (hd, rd)) (n := m) id hp hr (fun s i b hs hi hb => by
    unfold impl_statesOfLoop_B2
    simp only [ltN hi, cond_true, id, e1 s b hs hb, Option.bind_some, nextN hi (by omega)]) (fun s b hb => by
    unfold impl_statesOfLoop_B2
    simp only [geN (Nat.le_refl _), cond_false]) (s := t) (b := List.replicate m false) ht (by simp)
  unfold impl_statesOfLoop statesP impl_Plain_stateOf
  rw [← ht2]
  have e2b := e2.2
  simp only [id] at e2b
  simp only [Int.natCast_zero] at e5
  simp only [e5, e4, e2b, Option.bind_some, Int.toNat_natCast]
  rw [guard_pos (by omega)]

end
end

theorem indices_ok {b : List Bool} (h : b.length ≤ 1000000) : impl_indicesOf b = some (idxF b 0) := by
  unfold impl_indicesOf
  have := rounds_forS (f := impl_indicesOf_B1 b) (fun i (s : List Int) => (((i : Nat) : Int), s)) (fun i s => if b.getD i false then s ++ [(i : Int)] else s) id (n := b.length)
    (fun i s => s.length ≤ i ∧ s ++ idxF (b.drop i) i = idxF b 0)
    (fun i s hi hs => by
      obtain ⟨hl, hs⟩ := hs
      refine ⟨?_, ?_⟩
      · unfold impl_indicesOf_B1
        simp only [ltN hi, cond_true, guard_pos (idxN hi), Int.toNat_natCast, nextN hi (by omega)]
        cases b.getD i false with
        | true => simp only [cond_true, if_true, guard_pos (show List.length s + List.length ([(i : Int)] : List Int) ≤ appMax from by simp only [appMax, List.length_cons, List.length_nil]; omega), Option.bind_some]
        | false => simp only [cond_false, Bool.false_eq_true, if_false, Option.bind_some]
      · rw [drop_cons hi false, idxF_cons] at hs
        cases hb : b.getD i false with
        | true => rw [hb] at hs; simp only [if_true] at hs ⊢; exact ⟨by simp; omega, by rw [← hs]; simp⟩
        | false => rw [hb] at hs; simp only [Bool.false_eq_true, if_false] at hs ⊢; exact ⟨by omega, hs⟩)
    (fun s hs => by
      unfold impl_indicesOf_B1
      simp only [geN (Nat.le_refl _), cond_false]; rfl) b.length 0 [] (by omega) ⟨by simp, by simp⟩
  simp only [Int.natCast_zero] at this
  rw [this.1]
  simp only [Option.bind_some, id]
  have h2 := this.2.2
  rw [List.drop_length] at h2
  simp only [idxF, List.append_nil] at h2
  rw [h2]

end Go.Proofs

namespace Go.Proofs
open Go.Ide Go.IntWalk

theorem idxF_mem : ∀ (bs : List Bool) (i : Nat) (x : Int), x ∈ idxF bs i ↔ ∃ j, j < bs.length ∧ x = ((i + j : Nat) : Int) ∧ bs.getD j false = true
  | [], i, x => by simp [idxF]
  | b :: bs, i, x => by
    have ih := idxF_mem bs (i + 1) x
    rw [idxF_cons]
    constructor
    · intro h
      have hc : (b = true ∧ x = (i : Int)) ∨ x ∈ idxF bs (i + 1) := by
        cases b with
        | true => simp only [if_true] at h; rcases List.mem_cons.1 h with h | h; exact .inl ⟨rfl, h⟩; exact .inr h
        | false => simp only [Bool.false_eq_true, if_false] at h; exact .inr h
      rcases hc with ⟨h1, h2⟩ | h
      · exact ⟨0, by simp, by omega, by simpa using h1⟩
      · obtain ⟨j, h1, h2, h3⟩ := ih.1 h
        exact ⟨j + 1, by simpa using h1, by omega, by simpa using h3⟩
    · rintro ⟨j, h1, h2, h3⟩
      cases j with
      | zero =>
        have hb : b = true := by simpa using h3
        subst hb
        rw [if_pos rfl, h2]
        exact List.mem_cons_self
      | succ j =>
        have := ih.2 ⟨j, by simpa using h1, by omega, by simpa using h3⟩
        split
        · exact List.mem_cons_of_mem _ this
        · exact this

theorem getD_mem {xs : List Int} {i : Nat} (h : i < xs.length) : xs.getD i 0 ∈ xs := by
  rw [List.getD_eq_getElem?_getD, List.getElem?_eq_getElem h]
  exact List.getElem_mem h

/-- Does a state that comes end? -/
def readsB (b es : List Bool) : Bool := !allN (fun i => !(b.getD i false && es.getD i false)) b.length 0

section
variable {m c : Nat} {nx : List Int} {es : List Bool} {hd rd : List Int} (hp : Plain m c nx es) (hh : Letters c hd) (hr : Letters c rd) (lh : hd.length ≤ 1000) (lr : rd.length ≤ 1000)
include hp hh hr lh lr

theorem spec_reads : spec_l07Reads ((m : Int), (c : Int), nx, es) (hd, rd) = some (readsB (statesP m c nx hd rd) es) := by
  obtain ⟨s1, s2⟩ := spec_states hp hh hr lh lr
  have m2 := hp.m2
  have he := hp.ends
  generalize statesP m c nx hd rd = b at s1 s2
  have hlen := idxF_len b 0
  have := rounds_all (f := spec_l07Reads_B1 ((m : Int), (c : Int), nx, es) (keepS b)) (fun i => ((i : Nat) : Int)) (fun i => !es.getD ((keepS b).getD i 0).toNat false) (Sum.inl ()) (Sum.inr ()) (n := (keepS b).length) (fun i hi => by
    unfold spec_l07Reads_B1
    have hmem := getD_mem hi
    obtain ⟨j, h1, h2, h3⟩ := (idxF_mem b 0 _).1 hmem
    have hl : (keepS b).length ≤ 1000 := by unfold keepS; omega
    simp only [ltN hi, cond_true, guard_pos (idxN hi), Int.toNat_natCast, nextN hi (by omega), guard_pos (show (0 : Int) ≤ (keepS b).getD i 0 ∧ (keepS b).getD i 0 < lenI es from by simp only [lenI]; omega)]
    cases es.getD ((keepS b).getD i 0).toNat false <;> rfl) (by
    unfold spec_l07Reads_B1
    simp only [geN (Nat.le_refl _), cond_false]) (keepS b).length 0 (by omega)
  simp only [Int.natCast_zero] at this
  unfold spec_l07Reads
  simp only [s1, Option.bind_some, this]
  have e : allN (fun i => !es.getD ((keepS b).getD i 0).toNat false) (keepS b).length 0 = allN (fun i => !(b.getD i false && es.getD i false)) b.length 0 := by
    rw [Bool.eq_iff_iff, allN_iff, allN_iff]
    constructor
    · intro h j _ hj
      cases hb : b.getD j false with
      | false => rfl
      | true =>
        have hmem : ((j : Nat) : Int) ∈ keepS b := (idxF_mem b 0 _).2 ⟨j, by omega, by omega, hb⟩
        obtain ⟨i, hi, e⟩ := List.getElem_of_mem hmem
        have := h i (by omega) (by omega)
        have e2 : (keepS b).getD i 0 = ((j : Nat) : Int) := by
          rw [List.getD_eq_getElem?_getD, List.getElem?_eq_getElem hi]; exact e
        rw [e2, Int.toNat_natCast] at this
        simpa using this
    · intro h i _ hi
      have hmem := getD_mem (xs := keepS b) (i := i) (by omega)
      obtain ⟨j, h1, h2, h3⟩ := (idxF_mem b 0 _).1 hmem
      have := h j (by omega) (by omega)
      rw [h2, Nat.zero_add, Int.toNat_natCast]
      rw [h3] at this
      simpa using this
  rw [e]
  unfold readsB
  cases allN (fun i => !(b.getD i false && es.getD i false)) b.length 0 <;> rfl

theorem impl_reads : impl_readsLoop ((m : Int), (c : Int), nx, es) (hd, rd) = some (readsB (statesP m c nx hd rd) es) := by
  obtain ⟨_, s2⟩ := spec_states hp hh hr lh lr
  have s1 := impl_states hp hh hr lh lr
  have m2 := hp.m2
  have he := hp.ends
  generalize statesP m c nx hd rd = b at s1 s2
  have := rounds_all (f := impl_readsLoop_B1 ((m : Int), (c : Int), nx, es) b) (fun i => ((i : Nat) : Int)) (fun i => !(b.getD i false && es.getD i false)) (Sum.inl ()) (Sum.inr ()) (n := b.length) (fun i hi => by
    unfold impl_readsLoop_B1
    simp only [ltN hi, cond_true, guard_pos (idxN hi), Int.toNat_natCast, nextN hi (by omega), guard_pos (idxN (i := i) (n := es.length) (by omega))]
    cases b.getD i false <;> cases es.getD i false <;> rfl) (by
    unfold impl_readsLoop_B1
    simp only [geN (Nat.le_refl _), cond_false]) b.length 0 (by omega)
  simp only [Int.natCast_zero] at this
  unfold impl_readsLoop
  simp only [s1, Option.bind_some, this]
  unfold readsB
  cases allN (fun i => !(b.getD i false && es.getD i false)) b.length 0 <;> rfl
end

theorem plain_of' {m c : Nat} {nx : List Int} {es : List Bool} (h : okPlain (m : Int) (c : Int) nx es = true) : Plain m c nx es := by
  obtain ⟨m', c', e1, e2, h1, h2, h3, h4, h5, h6, h7⟩ := okPlain_spec h
  obtain rfl : m = m' := by omega
  obtain rfl : c = c' := by omega
  exact ⟨h1, h2, h3, h4, h5, h6, h7⟩

theorem ReadsLoop_eq {x0_0 x0_1 : Int} {x0_2 : List Int} {x0_3 : List Bool} {x1_0 x1_1 : List Int} (h1 : x0_2.length ≤ 1048576) (h2 : x0_3.length ≤ 1048576) (h3 : x1_0.length ≤ 1048576) (h4 : x1_1.length ≤ 1048576) :
    ∃ r, spec_ReadsLoop (x0_0, x0_1, x0_2, x0_3) (x1_0, x1_1) = some r ∧ impl_ReadsLoop (x0_0, x0_1, x0_2, x0_3) (x1_0, x1_1) = some r := by
  unfold spec_ReadsLoop impl_ReadsLoop
  simp only [specPlain (s := x0_0) (l := x0_1) (nx := x0_2) (es := x0_3) (by omega), implPlain (s := x0_0) (l := x0_1) (nx := x0_2) (es := x0_3) (by omega), specLoop (xs := x1_0) (ys := x1_1) (L := x0_1) (by omega) (by omega), implLoop (xs := x1_0) (ys := x1_1) (L := x0_1) (by omega) (by omega), Option.bind_some]
  cases hp : okPlain x0_0 x0_1 x0_2 x0_3 with
  | false => exact ⟨_, rfl, rfl⟩
  | true =>
    cases hl : okLoop x1_0 x1_1 x0_1 with
    | false => exact ⟨_, rfl, rfl⟩
    | true =>
      obtain ⟨m, c, rfl, rfl, -⟩ := okPlain_spec hp
      have hp := plain_of' hp
      obtain ⟨l1, l2, l3, l4, l5⟩ := okLoop_spec hl
      simp only [Bool.not_true, cond_false, Option.bind_some, spec_reads hp l4 l5 (by omega) (by omega), impl_reads hp l4 l5 (by omega) (by omega)]
      exact ⟨_, rfl, rfl⟩

end Go.Proofs

namespace Go.Proofs
open Go.Ide Go.IntWalk

theorem ReadsLoop_law (x0 : Int × Int × List Int × List Bool) (x1 : List Int × List Int) (w0 : WfD (.st (.pair (.int .i64) (.pair (.int .i64) (.pair (.sl (.int .i64)) (.sl .bool))))) x0) (w1 : WfD (.st (.pair (.sl (.int .i64)) (.sl (.int .i64)))) x1) : laws_FnExactReadsLoop x0 x1 = some true := by
  obtain ⟨x0_0, ⟨x0_1, ⟨x0_2, x0_3⟩⟩⟩ := x0
  have hx0_2 : x0_2.length ≤ 9223372036854775807 := Nat.le_trans (w0.2.2.1.1) (by decide)
  have hx0_3 : x0_3.length ≤ 9223372036854775807 := Nat.le_trans (w0.2.2.2.1) (by decide)
  obtain ⟨x1_0, x1_1⟩ := x1
  have hx1_0 : x1_0.length ≤ 9223372036854775807 := Nat.le_trans (w1.1.1) (by decide)
  have hx1_1 : x1_1.length ≤ 9223372036854775807 := Nat.le_trans (w1.2.1) (by decide)
  unfold laws_FnExactReadsLoop
  obtain ⟨m1, a1, b1⟩ := szPlain_ok (n := 1048576) (x0 := x0_0) (x1 := x0_1) (x2 := x0_2) (x3 := x0_3) hx0_2 hx0_3 (by omega)
  simp only [a1, Option.bind_some]
  by_cases c1 : m1 < 0
  · simp only [c1, decide_true, cond_true]
  · obtain ⟨⟨ox0_2, ox0_3⟩, d1, f1⟩ := b1.resolve_left c1
    simp only [c1, decide_false, cond_false]
    obtain ⟨m2, a2, b2⟩ := szLoop_ok (n := m1) (x0 := x1_0) (x1 := x1_1) hx1_0 hx1_1 (by omega)
    simp only [a2, Option.bind_some]
    by_cases c2 : m2 < 0
    · simp only [c2, decide_true, cond_true]
    · obtain ⟨⟨ox1_0, ox1_1⟩, d2, f2⟩ := b2.resolve_left c2
      simp only [c2, decide_false, cond_false]
      obtain ⟨⟨r0_0, r1_0⟩, k1, k2⟩ := ReadsLoop_eq (x0_0 := x0_0) (x0_1 := x0_1) (x0_2 := x0_2) (x0_3 := x0_3) (x1_0 := x1_0) (x1_1 := x1_1) ox0_2 ox0_3 ox1_0 ox1_1
      simp only [k1,
      k2,
      Option.bind_some,
      Bool.not_true,
      cond_false,
      bne_self_eq_false,
      cond_true,
      toPlain_ok (x0 := x0_0) (x1 := x0_1) (x2 := x0_2) (x3 := x0_3) ox0_2 ox0_3,
      eqPlain_ok (x0 := x0_0) (x1 := x0_1) (x2 := x0_2) (x3 := x0_3) ox0_2 ox0_3,
      toLoop_ok (x0 := x1_0) (x1 := x1_1) ox1_0 ox1_1,
      eqLoop_ok (x0 := x1_0) (x1 := x1_1) ox1_0 ox1_1]

end Go.Proofs
