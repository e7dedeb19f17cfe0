import Derived.Test.YtkejogbikbnafaaReachOfGenA
set_option linter.unusedVariables false
set_option linter.unusedSimpArgs false
set_option linter.unusedSectionVars false

namespace Go.Proofs
open Go.Ide Go.IntWalk

theorem szInt64S_ok {xs : List Int} {n : Int} (hx : xs.length ≤ 9223372036854775807) (hn : 0 ≤ n ∧ n ≤ 1048576) : ∃ m, laws_szInt64S xs n = some m ∧ (m < 0 ∨ (xs.length ≤ 1048576 ∧ 0 ≤ m ∧ m ≤ n)) := by
  unfold laws_szInt64S
  have e : wsub .i64 n (lenI xs) = n - (xs.length : Int) := i64_in _ (by simp only [lenI]; omega)
  rw [e]
  by_cases h : n - (xs.length : Int) < 0
  · exact ⟨-1, by simp only [h, decide_true, cond_true], .inl (by omega)⟩
  · exact ⟨_, by simp only [h, decide_false, cond_false]; rfl, .inr ⟨by omega, by omega, by omega⟩⟩

theorem toInt64S_ok {xs : List Int} (h : xs.length ≤ 1048576) : laws_toInt64S xs = some xs := by
  unfold laws_toInt64S
  rw [guard_pos ⟨by simp only [lenI]; omega, by simp only [lenI]; omega⟩]
  have := loop_to (f := laws_toInt64S_B1 xs) xs (0 : Int) (fun i out hi hl => by
    unfold laws_toInt64S_B1
    simp only [ltN hi, cond_true, guard_pos (idxN hi), guard_pos (idxN (i := i) (n := out.length) (by omega)), Int.toNat_natCast, nextN hi (by omega)]) (fun out hl => by
    unfold laws_toInt64S_B1
    simp only [geN (Nat.le_refl _), cond_false])
  simp only [Int.toNat_natCast, this, Option.bind_some]

theorem eqInt64S_ok {xs : List Int} (h : xs.length ≤ 1048576) : laws_eqInt64S xs xs = some true := by
  unfold laws_eqInt64S
  have := loop_eq (f := laws_eqInt64S_B1 xs xs) (Sum.inl ()) xs.length (fun i hi => by
    unfold laws_eqInt64S_B1
    simp only [ltN hi, cond_true, guard_pos (idxN hi), bne_self_eq_false, cond_false, nextN hi (by omega)]) (by
    unfold laws_eqInt64S_B1
    simp only [geN (Nat.le_refl _), cond_false])
  simp only [bne_self_eq_false, cond_false, this, Option.bind_some]

theorem markInt64S_ok {xs : List Int} {k : Int} (h : xs.length ≤ 1048576) (hk : 0 ≤ k ∧ k ≤ 2000000000000) : laws_markInt64S xs k = some (k + ((1 * xs.length : Nat) : Int), marksG (fun k => k) 1 k xs.length) := by
  unfold laws_markInt64S
  have := loop_mark (f := laws_markInt64S_B1) (fun k => k) 1 k xs (fun i out hi hl => by
    unfold laws_markInt64S_B1
    have e := markN2 (c := 1) (i := i) (k0 := k) (by omega) (by omega) (by omega)
    simp only [lenI, hl, ltN hi, cond_true, guard_pos (idxN hi), Int.toNat_natCast, nextN hi (by omega)]
    simp only [Int.cast_ofNat_Int] at e
    rw [e]) (fun out hl => by
    unfold laws_markInt64S_B1
    simp only [lenI, hl, geN (Nat.le_refl _), cond_false])
  simp only [this, Option.bind_some]
  rw [guard_pos marksG_len]

theorem heldInt64S_ok {n : Nat} {k : Int} (h : n ≤ 1048576) (hk : 0 ≤ k ∧ k ≤ 1000000000) : laws_heldInt64S (marksG (fun k => k) 1 k n) k = some (k + ((1 * n : Nat) : Int)) := by
  unfold laws_heldInt64S
  have := loop_held (f := laws_heldInt64S_B1 (marksG (fun k => k) 1 k n)) 1 k n (fun i hi => by
    unfold laws_heldInt64S_B1
    have e := markN (c := 1) (i := i) (k0 := k) (by omega) (by omega) (by omega)
    simp only [Int.cast_ofNat_Int] at e
    simp only [lenI, marksG_len, ltN hi, cond_true, guard_pos (idxN hi), Int.toNat_natCast, nextN hi (by omega), marksG_get hi, bne_self_eq_false, cond_false]
    rw [e]) (by
    unfold laws_heldInt64S_B1
    simp only [lenI, marksG_len, geN (Nat.le_refl _), cond_false])
  simp only [this, Option.bind_some]

theorem szInt64SS_ok {xs : List (List Int)} {n : Int} (hx : (xs.length ≤ 9223372036854775807 ∧ ∀ y ∈ xs, y.length ≤ 9223372036854775807)) (hn : 0 ≤ n ∧ n ≤ 1048576) : ∃ m, laws_szInt64SS xs n = some m ∧ (m < 0 ∨ ((xs.length ≤ 1048576 ∧ ∀ y ∈ xs, y.length ≤ 1048576) ∧ 0 ≤ m ∧ m ≤ n)) := by
  obtain ⟨hx, hh⟩ := hx
  unfold laws_szInt64SS
  have e : wsub .i64 n (lenI xs) = n - (xs.length : Int) := i64_in _ (by simp only [lenI]; omega)
  rw [e]
  by_cases h : n - (xs.length : Int) < 0
  · exact ⟨-1, by simp only [h, decide_true, cond_true], .inl (by omega)⟩
  · rcases loop_sz (f := laws_szInt64SS_B1 xs) (u := ()) xs ([] : List Int) (fun y => y.length ≤ 1048576) (n - (xs.length : Int)) (by omega) (fun i n' hi h1 h2 => by
      have he := hh _ (mem_getD hi ([] : List Int))
      obtain ⟨m, e1, e2⟩ := szInt64S_ok (n := n') he (by omega)
      refine ⟨m, ?_, e2⟩
      unfold laws_szInt64SS_B1
      simp only [ltN hi, cond_true, guard_pos (idxN hi), Int.toNat_natCast, e1, Option.bind_some, nextN hi (by omega)]
      by_cases hm : m < 0
      · simp only [hm, decide_true, cond_true, if_true]
      · simp only [hm, decide_false, cond_false, if_false]) (fun n' => by
      unfold laws_szInt64SS_B1
      simp only [geN (Nat.le_refl _), cond_false]) with ⟨m, e1, e2, e3, e4⟩ | e1
    · exact ⟨m, by simp only [h, decide_false, cond_false, e1, Option.bind_some], .inr ⟨⟨by omega, e4⟩, by omega, by omega⟩⟩
    · exact ⟨-1, by simp only [h, decide_false, cond_false, e1, Option.bind_some], .inl (by omega)⟩

theorem toInt64SS_ok {xs : List (List Int)} (h : (xs.length ≤ 1048576 ∧ ∀ y ∈ xs, y.length ≤ 1048576)) : laws_toInt64SS xs = some xs := by
  obtain ⟨h, hh⟩ := h
  unfold laws_toInt64SS
  rw [guard_pos ⟨by simp only [lenI]; omega, by simp only [lenI]; omega⟩]
  have := loop_to (f := laws_toInt64SS_B1 xs) xs ([] : List Int) (fun i out hi hl => by
    have he := hh _ (mem_getD hi ([] : List Int))
    unfold laws_toInt64SS_B1
    simp only [ltN hi, cond_true, guard_pos (idxN hi), guard_pos (idxN (i := i) (n := out.length) (by omega)), Int.toNat_natCast, nextN hi (by omega), toInt64S_ok he, Option.bind_some]) (fun out hl => by
    unfold laws_toInt64SS_B1
    simp only [geN (Nat.le_refl _), cond_false])
  simp only [Int.toNat_natCast, this, Option.bind_some]

theorem eqInt64SS_ok {xs : List (List Int)} (h : (xs.length ≤ 1048576 ∧ ∀ y ∈ xs, y.length ≤ 1048576)) : laws_eqInt64SS xs xs = some true := by
  obtain ⟨h, hh⟩ := h
  unfold laws_eqInt64SS
  have := loop_eq (f := laws_eqInt64SS_B1 xs xs) (Sum.inl ()) xs.length (fun i hi => by
    have he := hh _ (mem_getD hi ([] : List Int))
    unfold laws_eqInt64SS_B1
    simp only [ltN hi, cond_true, guard_pos (idxN hi), Int.toNat_natCast, eqInt64S_ok he, Option.bind_some, Bool.not_true, cond_false, nextN hi (by omega)]) (by
    unfold laws_eqInt64SS_B1
    simp only [geN (Nat.le_refl _), cond_false])
  simp only [bne_self_eq_false, cond_false, this, Option.bind_some]

theorem markInt64SS_ok {xs : List (List Int)} {k : Int} (h : (xs.length ≤ 1048576 ∧ ∀ y ∈ xs, y.length ≤ 1048576)) (hk : 0 ≤ k ∧ k ≤ 1000000000) : laws_markInt64SS xs k = some (markRows (fun (k : Int) (x : List Int) => (k + ((1 * x.length : Nat) : Int), marksG (fun k => k) 1 k x.length)) k xs) := by
  obtain ⟨h, hh⟩ := h
  unfold laws_markInt64SS
  have := loop_markE (f := laws_markInt64SS_B1) (fun (k : Int) (x : List Int) => (k + ((1 * x.length : Nat) : Int), marksG (fun k => k) 1 k x.length)) 1048576 k xs ([] : List Int) (fun k x hx => by have := hh x hx; exact ⟨by omega, by omega⟩) (fun k' i out hi hl hg h1 h2 => by
    have hx := hh _ (mem_getD hi ([] : List Int))
    have h3 : i * 1048576 ≤ 1048576 * 1048576 := Nat.mul_le_mul_right _ (by omega)
    unfold laws_markInt64SS_B1
    simp only [lenI, hl, ltN hi, cond_true, guard_pos (idxN hi), Int.toNat_natCast, hg, markInt64S_ok hx (show 0 ≤ k' ∧ k' ≤ 2000000000000 by omega), Option.bind_some, nextN hi (show xs.length ≤ 4294967296 by omega)]) (fun k' out hl => by
    unfold laws_markInt64SS_B1
    simp only [lenI, hl, geN (Nat.le_refl _), cond_false])
  simp only [this, Option.bind_some]
  rw [guard_pos (ShapeEq.own (markRows_len _ _ _).symm (markRows_get List.length [] (fun k x _ => by simp only [marksG_len])))]

theorem szGame_ok {x0 : List Int} {x1 : List Int} {x2 : List (List Int)} {n : Int} (hx0 : x0.length ≤ 9223372036854775807) (hx1 : x1.length ≤ 9223372036854775807) (hx2 : (x2.length ≤ 9223372036854775807 ∧ ∀ y ∈ x2, y.length ≤ 9223372036854775807)) (hn : 0 ≤ n ∧ n ≤ 1048576) : ∃ m, laws_szGame (x0, x1, x2) n = some m ∧ (m < 0 ∨ ((x0.length ≤ 1048576 ∧ x1.length ≤ 1048576 ∧ (x2.length ≤ 1048576 ∧ ∀ y ∈ x2, y.length ≤ 1048576)) ∧ 0 ≤ m ∧ m ≤ n)) := by
  unfold laws_szGame
  obtain ⟨m1, h1, k1⟩ := szInt64S_ok (n := n) (xs := x0) hx0 (by omega)
  simp only [h1, Option.bind_some]
  by_cases c1 : m1 < 0
  · simp only [c1, decide_true, cond_true]; exact ⟨-1, rfl, .inl (by omega)⟩
  · obtain ⟨g1, p1, q1⟩ := k1.resolve_left c1
    simp only [c1, decide_false, cond_false]
    obtain ⟨m2, h2, k2⟩ := szInt64S_ok (n := m1) (xs := x1) hx1 (by omega)
    simp only [h2, Option.bind_some]
    by_cases c2 : m2 < 0
    · simp only [c2, decide_true, cond_true]; exact ⟨-1, rfl, .inl (by omega)⟩
    · obtain ⟨g2, p2, q2⟩ := k2.resolve_left c2
      simp only [c2, decide_false, cond_false]
      obtain ⟨m3, h3, k3⟩ := szInt64SS_ok (n := m2) (xs := x2) hx2 (by omega)
      simp only [h3, Option.bind_some]
      by_cases c3 : m3 < 0
      · simp only [c3, decide_true, cond_true]; exact ⟨-1, rfl, .inl (by omega)⟩
      · obtain ⟨g3, p3, q3⟩ := k3.resolve_left c3
        simp only [c3, decide_false, cond_false]
        exact ⟨_, rfl, .inr ⟨⟨g1, g2, g3⟩, by omega, by omega⟩⟩

theorem toGame_ok {x0 : List Int} {x1 : List Int} {x2 : List (List Int)} (hx0 : x0.length ≤ 1048576) (hx1 : x1.length ≤ 1048576) (hx2 : (x2.length ≤ 1048576 ∧ ∀ y ∈ x2, y.length ≤ 1048576)) : laws_toGame (x0, x1, x2) = some (x0, x1, x2) := by
  unfold laws_toGame
  simp only [toInt64S_ok hx0, toInt64S_ok hx1, toInt64SS_ok hx2, Option.bind_some]

theorem eqGame_ok {x0 : List Int} {x1 : List Int} {x2 : List (List Int)} (hx0 : x0.length ≤ 1048576) (hx1 : x1.length ≤ 1048576) (hx2 : (x2.length ≤ 1048576 ∧ ∀ y ∈ x2, y.length ≤ 1048576)) : laws_eqGame (x0, x1, x2) (x0, x1, x2) = some true := by
  unfold laws_eqGame
  simp only [eqInt64S_ok hx0, eqInt64S_ok hx1, eqInt64SS_ok hx2, Option.bind_some, bne_self_eq_false, Bool.not_true, cond_false, decide_true]

theorem markGame_ok {x0 : List Int} {x1 : List Int} {x2 : List (List Int)} {k : Int} (hx0 : x0.length ≤ 1048576) (hx1 : x1.length ≤ 1048576) (hx2 : (x2.length ≤ 1048576 ∧ ∀ y ∈ x2, y.length ≤ 1048576)) (hk : 0 ≤ k ∧ k ≤ 700000000) : laws_markGame (x0, x1, x2) k = some ((markRows (fun (k : Int) (x : List Int) => (k + ((1 * x.length : Nat) : Int), marksG (fun k => k) 1 k x.length)) (k + ((1 * x0.length : Nat) : Int) + ((1 * x1.length : Nat) : Int)) x2).1, (marksG (fun k => k) 1 (k) x0.length, marksG (fun k => k) 1 (k + ((1 * x0.length : Nat) : Int)) x1.length, (markRows (fun (k : Int) (x : List Int) => (k + ((1 * x.length : Nat) : Int), marksG (fun k => k) 1 k x.length)) (k + ((1 * x0.length : Nat) : Int) + ((1 * x1.length : Nat) : Int)) x2).2)) := by
  unfold laws_markGame
  simp only [markInt64S_ok (k := k) hx0 (by omega), markInt64S_ok (k := k + ((1 * x0.length : Nat) : Int)) hx1 (by omega), markInt64SS_ok (k := k + ((1 * x0.length : Nat) : Int) + ((1 * x1.length : Nat) : Int)) hx2 (by omega), Option.bind_some]
  simp only [guardP, marksG_len, if_true]
  rw [if_pos (ShapeEq.own (markRows_len _ _ _).symm (markRows_get List.length [] (fun k x _ => by simp only [marksG_len])))]

end Go.Proofs


namespace Go.Proofs
open Go.Ide Go.IntWalk

theorem in64 (a b c : Int) : spec_l00In a b c = some (decide (a ≥ b) && decide (a ≤ c)) := by
  unfold spec_l00In
  cases h : decide (a ≥ b) <;> simp
theorem within64 (a b c : Int) : impl_within a b c = some (decide (a ≥ b) && decide (a ≤ c)) := by
  unfold impl_within
  cases h : decide (a ≥ b) <;> simp

def allIn (xs : List Int) (b c : Int) : Bool := xs.all fun x => decide (x ≥ b) && decide (x ≤ c)

theorem allIn_iff {xs : List Int} {b c : Int} : allIn xs b c = true ↔ ∀ i, i < xs.length → b ≤ xs.getD i 0 ∧ xs.getD i 0 ≤ c := by
  unfold allIn
  rw [List.all_eq_true]
  constructor
  · intro h i hi
    have := h xs[i] (List.getElem_mem hi)
    simp only [Bool.and_eq_true, decide_eq_true_eq] at this
    rw [List.getD_eq_getElem?_getD, List.getElem?_eq_getElem hi]
    exact ⟨this.1, this.2⟩
  · intro h x hx
    obtain ⟨i, hi, rfl⟩ := List.getElem_of_mem hx
    have := h i hi
    rw [List.getD_eq_getElem?_getD, List.getElem?_eq_getElem hi] at this
    simp only [Bool.and_eq_true, decide_eq_true_eq]
    exact ⟨this.1, this.2⟩

theorem allN_in (xs : List Int) (b c : Int) : allN (fun i => decide (xs.getD i 0 ≥ b) && decide (xs.getD i 0 ≤ c)) xs.length 0 = allIn xs b c := by
  rw [Bool.eq_iff_iff, allN_iff, allIn_iff]
  constructor
  · intro h i hi
    have := h i (by omega) (by omega)
    simp only [Bool.and_eq_true, decide_eq_true_eq] at this
    exact ⟨this.1, this.2⟩
  · intro h i _ hi
    have := h i (by omega)
    simp only [Bool.and_eq_true, decide_eq_true_eq]
    exact ⟨this.1, this.2⟩

theorem areWithin64 {xs : List Int} {b c : Int} (h : xs.length ≤ 4294967296) : impl_areWithin xs b c = some (allIn xs b c) := by
  unfold impl_areWithin
  have := rounds_all (f := impl_areWithin_B1 xs b c) (fun i => ((i : Nat) : Int)) (fun i => decide (xs.getD i 0 ≥ b) && decide (xs.getD i 0 ≤ c)) (Sum.inl ()) (Sum.inr ()) (n := xs.length) (fun i hi => by
    unfold impl_areWithin_B1
    simp only [ltN hi, cond_true, guard_pos (idxN hi), Int.toNat_natCast, within64, Option.bind_some, nextN hi h]
    cases (decide (xs.getD i 0 ≥ b) && decide (xs.getD i 0 ≤ c)) <;> rfl) (by
    unfold impl_areWithin_B1
    simp only [geN (Nat.le_refl _), cond_false]) xs.length 0 (by omega)
  rw [allN_in] at this
  simp only [Int.natCast_zero] at this
  simp only [this, Option.bind_some]
  cases allIn xs b c <;> rfl

structure Plain (m c : Nat) (nx : List Int) (es : List Bool) : Prop where
  m1 : 1 ≤ m
  m2 : m ≤ 64
  c1 : 1 ≤ c
  c2 : c ≤ 4
  len : nx.length = m * c
  ends : es.length = m
  to : ∀ i, i < m * c → ∃ t : Nat, nx.getD i 0 = (t : Int) ∧ t < m

section
variable {m c : Nat} {nx : List Int} {es : List Bool} (hp : Plain m c nx es)
include hp

end

end Go.Proofs


/-
  Sets as bits; valid games.
-/
namespace Go.Proofs
open Go.Ide Go.IntWalk

theorem fdiv_pow (N v : Nat) : Int.fdiv (N : Int) (2 ^ v) = ((N / 2 ^ v : Nat) : Int) := by
  have h : ((2 ^ v : Nat) : Int) = (2 : Int) ^ v := by simp
  rw [← h, Int.fdiv_eq_ediv_of_nonneg _ (Int.natCast_nonneg _), ← Int.natCast_ediv]

theorem bit_val {N v : Nat} (hN : N < 65536) (hv : v < 16) : IntKind.wrap .u32 (((BitVec.ofInt (IntKind.bits .u32) (Int.fdiv (N : Int) (2 ^ (min v (IntKind.bits .u32)))) &&& BitVec.ofInt (IntKind.bits .u32) (1 : Int)).toNat : Nat) : Int) = if N.testBit v then 1 else 0 := by
  have h1 : min v (IntKind.bits .u32) = v := Nat.min_eq_left (by show v ≤ 32; omega)
  have h2 : N / 2 ^ v ≤ N := Nat.div_le_self _ _
  have h3 : (BitVec.ofInt (IntKind.bits .u32) ((N / 2 ^ v : Nat) : Int)).toNat = N / 2 ^ v := by
    rw [BitVec.ofInt_natCast, BitVec.toNat_ofNat]
    exact Nat.mod_eq_of_lt (by show N / 2 ^ v < 2 ^ 32; omega)
  have h4 : (BitVec.ofInt (IntKind.bits .u32) (1 : Int)).toNat = 1 := by decide
  rw [h1, fdiv_pow, BitVec.toNat_and, h3, h4, Nat.and_one_is_mod, Nat.testBit_eq_decide_div_mod_eq]
  have h5 := Nat.mod_two_eq_zero_or_one (N / 2 ^ v)
  rcases h5 with h5 | h5 <;> rw [h5] <;> decide

theorem bit_one {N v : Nat} (hN : N < 65536) (hv : v < 16) : (IntKind.wrap .u32 (((BitVec.ofInt (IntKind.bits .u32) (Int.fdiv (N : Int) (2 ^ (min v (IntKind.bits .u32)))) &&& BitVec.ofInt (IntKind.bits .u32) (1 : Int)).toNat : Nat) : Int) == (1 : Int)) = N.testBit v := by
  rw [bit_val hN hv]; cases N.testBit v <;> rfl

theorem bit_zero {N v : Nat} (hN : N < 65536) (hv : v < 16) : (IntKind.wrap .u32 (((BitVec.ofInt (IntKind.bits .u32) (Int.fdiv (N : Int) (2 ^ (min v (IntKind.bits .u32)))) &&& BitVec.ofInt (IntKind.bits .u32) (1 : Int)).toNat : Nat) : Int) == (0 : Int)) = !(N.testBit v) := by
  rw [bit_val hN hv]; cases N.testBit v <;> rfl

theorem ofInt_bit {N : Nat} (hN : N < 65536) (i : Nat) : (BitVec.ofInt (IntKind.bits .u32) (N : Int)).toNat.testBit i = N.testBit i := by
  rw [BitVec.ofInt_natCast, BitVec.toNat_ofNat, Nat.mod_eq_of_lt (by show N < 2 ^ 32; omega)]

theorem small_of {K : Nat} (h : ∀ i, 16 ≤ i → K.testBit i = false) : K < 65536 := Nat.lt_pow_two_of_testBit (n := 16) K h

theorem big_bit {N i : Nat} (hN : N < 65536) (hi : 16 ≤ i) : N.testBit i = false := Nat.testBit_lt_two_pow (Nat.lt_of_lt_of_le hN (Nat.pow_le_pow_right (n := 2) (by omega) hi))

theorem or_val {N M : Nat} (hN : N < 65536) (hM : M < 65536) : ∃ K : Nat, IntKind.wrap .u32 (((BitVec.ofInt (IntKind.bits .u32) (N : Int) ||| BitVec.ofInt (IntKind.bits .u32) (M : Int)).toNat : Nat) : Int) = (K : Int) ∧ K < 65536 ∧ ∀ i, K.testBit i = (N.testBit i || M.testBit i) := by
  have hb : ∀ i, (BitVec.ofInt (IntKind.bits .u32) (N : Int) ||| BitVec.ofInt (IntKind.bits .u32) (M : Int)).toNat.testBit i = (N.testBit i || M.testBit i) := fun i => by
    rw [BitVec.toNat_or, Nat.testBit_or, ofInt_bit hN, ofInt_bit hM]
  have hs := small_of (K := (BitVec.ofInt (IntKind.bits .u32) (N : Int) ||| BitVec.ofInt (IntKind.bits .u32) (M : Int)).toNat) fun i hi => by rw [hb, big_bit hN hi, big_bit hM hi]; rfl
  exact ⟨_, u32_in _ (by omega), hs, hb⟩

theorem andNot_val {N M : Nat} (hN : N < 65536) (hM : M < 65536) : ∃ K : Nat, IntKind.wrap .u32 (((BitVec.ofInt (IntKind.bits .u32) (N : Int) &&& ~~~(BitVec.ofInt (IntKind.bits .u32) (M : Int))).toNat : Nat) : Int) = (K : Int) ∧ K < 65536 ∧ ∀ i, K.testBit i = (N.testBit i && !(M.testBit i)) := by
  have hb : ∀ i, (BitVec.ofInt (IntKind.bits .u32) (N : Int) &&& ~~~(BitVec.ofInt (IntKind.bits .u32) (M : Int))).toNat.testBit i = (N.testBit i && !(M.testBit i)) := fun i => by
    rw [BitVec.toNat_and, Nat.testBit_and, ofInt_bit hN]
    by_cases hi : 16 ≤ i
    · rw [big_bit hN hi]; rfl
    · have h2 : (~~~(BitVec.ofInt (IntKind.bits .u32) (M : Int))).toNat.testBit i = !((BitVec.ofInt (IntKind.bits .u32) (M : Int)).toNat.testBit i) := by
        show (~~~(BitVec.ofInt (IntKind.bits .u32) (M : Int))).getLsbD i = _
        rw [BitVec.getLsbD_not]
        have : decide (i < IntKind.bits .u32) = true := decide_eq_true (by show i < 32; omega)
        rw [this, Bool.true_and]; rfl
      rw [h2, ofInt_bit hM]
  have hs := small_of (K := (BitVec.ofInt (IntKind.bits .u32) (N : Int) &&& ~~~(BitVec.ofInt (IntKind.bits .u32) (M : Int))).toNat) fun i hi => by rw [hb, big_bit hN hi]; rfl
  exact ⟨_, u32_in _ (by omega), hs, hb⟩

theorem pow_val {v : Nat} (hv : v < 16) : IntKind.wrap .u32 ((1 : Int) * 2 ^ (min v (IntKind.bits .u32))) = ((2 ^ v : Nat) : Int) ∧ 2 ^ v < 65536 := by
  have h1 : min v (IntKind.bits .u32) = v := Nat.min_eq_left (by show v ≤ 32; omega)
  have h2 : 2 ^ v < 2 ^ 16 := Nat.pow_lt_pow_right (by omega) hv
  have h : ((2 ^ v : Nat) : Int) = (2 : Int) ^ v := by simp
  rw [h1, Int.one_mul, ← h]
  have h3 : 2 ^ v < 65536 := h2
  generalize 2 ^ v = q at h3
  exact ⟨u32_in _ (by omega), h3⟩

def Bs (x : Int) (l : List Bool) : Prop := l.length ≤ 16 ∧ ∃ N : Nat, x = (N : Int) ∧ N < 65536 ∧ ∀ v, N.testBit v = l.getD v false

theorem getD_out {l : List Bool} {v : Nat} (h : l.length ≤ v) : l.getD v false = false := by
  rw [List.getD_eq_getElem?_getD, List.getElem?_eq_none h]; rfl

theorem Bs.zero {n : Nat} (hn : n ≤ 16) : Bs 0 (List.replicate n false) := ⟨by simpa using hn, 0, rfl, by omega, fun v => by
  rw [Nat.zero_testBit, List.getD_eq_getElem?_getD, List.getElem?_replicate]; split <;> rfl⟩

theorem Bs.set {x : Int} {l : List Bool} (h : Bs x l) {v : Nat} (hv : v < l.length) : Bs (IntKind.wrap .u32 (((BitVec.ofInt (IntKind.bits .u32) x ||| BitVec.ofInt (IntKind.bits .u32) (IntKind.wrap .u32 ((1 : Int) * 2 ^ (min v (IntKind.bits .u32))))).toNat : Nat) : Int)) (l.set v true) := by
  obtain ⟨hl, N, rfl, hN, hb⟩ := h
  obtain ⟨e1, e2⟩ := pow_val (v := v) (by omega)
  rw [e1]
  obtain ⟨K, e3, e4, e5⟩ := or_val hN e2
  refine ⟨by simpa using hl, K, e3, e4, fun i => ?_⟩
  rw [e5, hb, Nat.testBit_two_pow]
  by_cases hi : v = i
  · subst hi
    simp [List.getD_eq_getElem?_getD, hv]
  · simp [List.getD_eq_getElem?_getD, hi, List.getElem?_set_ne hi]

def subL (l m : List Bool) : List Bool := (List.range l.length).map fun i => l.getD i false && !(m.getD i false)

theorem subL_len (l m : List Bool) : (subL l m).length = l.length := by simp [subL]
theorem subL_get (l m : List Bool) (v : Nat) : (subL l m).getD v false = (l.getD v false && !(m.getD v false)) := by
  by_cases h : v < l.length
  · unfold subL; simp [List.getD_eq_getElem?_getD, h]
  · rw [getD_out (by rw [subL_len]; omega), getD_out (l := l) (by omega)]; rfl

theorem Bs.sub {x y : Int} {l m : List Bool} (h : Bs x l) (h' : Bs y m) : Bs (IntKind.wrap .u32 (((BitVec.ofInt (IntKind.bits .u32) x &&& ~~~(BitVec.ofInt (IntKind.bits .u32) y)).toNat : Nat) : Int)) (subL l m) := by
  obtain ⟨hl1, N, rfl, hN, hb⟩ := h
  obtain ⟨hl2, M, rfl, hM, hb'⟩ := h'
  obtain ⟨K, e3, e4, e5⟩ := andNot_val hN hM
  exact ⟨by rw [subL_len]; exact hl1, K, e3, e4, fun i => by rw [e5, hb, hb', subL_get]⟩

theorem Bs.bit {x : Int} {l : List Bool} (h : Bs x l) {v : Nat} (hv : v < 16) : (IntKind.wrap .u32 (((BitVec.ofInt (IntKind.bits .u32) (Int.fdiv x (2 ^ (min v (IntKind.bits .u32)))) &&& BitVec.ofInt (IntKind.bits .u32) (1 : Int)).toNat : Nat) : Int) == (1 : Int)) = l.getD v false := by
  obtain ⟨hl, N, rfl, hN, hb⟩ := h
  rw [bit_one hN hv, hb]

theorem Bs.bit0 {x : Int} {l : List Bool} (h : Bs x l) {v : Nat} (hv : v < 16) : (IntKind.wrap .u32 (((BitVec.ofInt (IntKind.bits .u32) (Int.fdiv x (2 ^ (min v (IntKind.bits .u32)))) &&& BitVec.ofInt (IntKind.bits .u32) (1 : Int)).toNat : Nat) : Int) == (0 : Int)) = !(l.getD v false) := by
  obtain ⟨hl, N, rfl, hN, hb⟩ := h
  rw [bit_zero hN hv, hb]

theorem Bs.all {n : Nat} (hn : n ≤ 16) (h1 : 1 ≤ n) : Bs (wsub .u32 (IntKind.wrap .u32 ((1 : Int) * 2 ^ (min n (IntKind.bits .u32)))) 1) (List.replicate n true) := by
  have e : wsub .u32 (IntKind.wrap .u32 ((1 : Int) * 2 ^ (min n (IntKind.bits .u32)))) 1 = ((2 ^ n - 1 : Nat) : Int) := by
    have e1 : min n (IntKind.bits .u32) = n := Nat.min_eq_left (by show n ≤ 32; omega)
    have h2 : 2 ^ n ≤ 2 ^ 16 := Nat.pow_le_pow_right (by omega) hn
    have h3 : 0 < 2 ^ n := Nat.pow_pos (by omega)
    have h : ((2 ^ n : Nat) : Int) = (2 : Int) ^ n := by simp
    rw [e1, Int.one_mul, ← h, u32_in _ (by omega)]
    show IntKind.wrap .u32 (((2 ^ n : Nat) : Int) - 1) = _
    rw [u32_in _ (by omega)]
    omega
  rw [e]
  refine ⟨by simpa using hn, 2 ^ n - 1, rfl, ?_, fun v => ?_⟩
  · have h2 : 2 ^ n ≤ 2 ^ 16 := Nat.pow_le_pow_right (by omega) hn
    omega
  · rw [Nat.testBit_two_pow_sub_one, List.getD_eq_getElem?_getD, List.getElem?_replicate]
    by_cases h : v < n <;> simp [h]

def cnt : List Bool → Nat
  | [] => 0
  | b :: l => (if b then 1 else 0) + cnt l

theorem cnt_le : ∀ {l m : List Bool}, l.length = m.length → (∀ v, v < l.length → l.getD v false = true → m.getD v false = true) → cnt l ≤ cnt m
  | [], [], _, _ => Nat.le_refl _
  | a :: l, b :: m, hl, h => by
    have h1 := cnt_le (l := l) (m := m) (by simpa using hl) fun v hv hx => by simpa using h (v + 1) (by simpa using hv) (by simpa using hx)
    have h0 := h 0 (by simp)
    simp only [cnt]
    cases a <;> cases b <;> simp at h0 ⊢ <;> omega
  | [], _ :: _, hl, _ => by simp at hl
  | _ :: _, [], hl, _ => by simp at hl

theorem cnt_lt : ∀ {l m : List Bool}, l.length = m.length → (∀ v, v < l.length → l.getD v false = true → m.getD v false = true) → (∃ v, v < l.length ∧ l.getD v false = false ∧ m.getD v false = true) → cnt l < cnt m
  | [], [], _, _, ⟨v, hv, _⟩ => by simp at hv
  | a :: l, b :: m, hl, h, ⟨v, hv, h1, h2⟩ => by
    have hl' : l.length = m.length := by simpa using hl
    have hs : ∀ v, v < l.length → l.getD v false = true → m.getD v false = true := fun v hv hx => by simpa using h (v + 1) (by simpa using hv) (by simpa using hx)
    have h0 := h 0 (by simp)
    cases v with
    | zero =>
      have hle := cnt_le hl' hs
      simp only [cnt]
      simp at h1 h2
      subst h1 h2
      simp; omega
    | succ v =>
      have hlt := cnt_lt hl' hs ⟨v, by simpa using hv, by simpa using h1, by simpa using h2⟩
      simp only [cnt]
      cases a <;> cases b <;> simp at h0 ⊢ <;> omega
  | [], _ :: _, hl, _, _ => by simp at hl
  | _ :: _, [], hl, _, _ => by simp at hl

def riseB (xs : List Int) (n : Int) (i : Nat) : Bool := (decide (xs.getD i 0 ≥ 0) && decide (xs.getD i 0 ≤ wsub .i64 n 1)) && !(decide ((i : Int) > 0) && decide (xs.getD i 0 ≤ xs.getD (i - 1) 0))

theorem implSet {xs : List Int} {n : Int} (h : xs.length ≤ 1048576) : impl_isSet xs n = some (allN (riseB xs n) xs.length 0) := by
  have := rounds_all (f := impl_isSet_B1 xs n) (fun i => ((i : Nat) : Int)) (riseB xs n) (Sum.inl ()) (Sum.inr ()) (n := xs.length) (fun i hi => by
    unfold impl_isSet_B1 riseB
    simp only [lenI, ltN hi, cond_true, Int.toNat_natCast, within64, Option.bind_some, nextN hi (show xs.length ≤ 4294967296 by omega)]
    rw [guard_pos (idxN hi)]
    cases (decide (xs.getD i 0 ≥ 0) && decide (xs.getD i 0 ≤ wsub .i64 n 1)) with
    | false => rfl
    | true =>
      by_cases h0 : i = 0
      · subst h0; rfl
      · have e : wsub .i64 ((i : Nat) : Int) 1 = ((i - 1 : Nat) : Int) := by rw [wsubI (by omega)]; omega
        have d : decide (((i : Nat) : Int) > 0) = true := decide_eq_true (by omega)
        simp only [Bool.not_true, cond_false, d, cond_true, e, guard_pos (idxN (show i - 1 < xs.length by omega)), Int.toNat_natCast, Option.bind_some, Bool.true_and]
        cases decide (xs.getD i 0 ≤ xs.getD (i - 1) 0) <;> rfl) (by
    unfold impl_isSet_B1
    simp only [lenI, geN (Nat.le_refl _), cond_false]) xs.length 0 (by omega)
  simp only [Int.natCast_zero] at this
  unfold impl_isSet
  rw [this]
  cases allN (riseB xs n) xs.length 0 <;> rfl

end Go.Proofs


/-
  Valid games; what a player reaches.
-/
namespace Go.Proofs
open Go.Ide Go.IntWalk

theorem rounds_find2 {τ ρ : Type} {f : τ → Option (τ ⊕ ρ)} (mk : Nat → τ) (p : Nat → Bool) (a : ρ) (b : Nat → ρ) {n : Nat}
    (hstep : ∀ i, i < n → f (mk i) = some (bif p i then .inl (mk (i + 1)) else .inr (b i))) (hend : f (mk n) = some (.inr a)) : ∀ (k i : Nat), i + k = n → ∃ j, rounds f (mk i) = some (bif allN p k i then a else b j)
  | 0, i, hi => by
    have : i = n := by omega
    subst this
    rw [rounds_eq, hend]
    exact ⟨0, rfl⟩
  | k + 1, i, hi => by
    rw [rounds_eq, hstep i (by omega)]
    simp only [allN]
    cases p i with
    | true => simp only [cond_true, Bool.true_and]; exact rounds_find2 mk p a b hstep hend k (i + 1) (by omega)
    | false => exact ⟨i, rfl⟩

def okMv (xs : List Int) (n : Int) : Bool := !(decide (lenI xs < 1)) && allN (riseB xs n) xs.length 0

def okG (O R : List Int) (M : List (List Int)) : Bool :=
  (decide (lenI O ≥ 1) && decide (lenI O ≤ 16)) && ((lenI R == lenI O) && ((lenI M == lenI O) && (allIn O 0 1 && (allIn R 0 8 && allN (fun i => okMv (M.getD i []) (lenI O)) M.length 0))))

theorem implGame {O R : List Int} {M : List (List Int)} (hM : M.length ≤ 1048576) (hh : ∀ y ∈ M, y.length ≤ 1048576) (hO : O.length ≤ 1048576) (hR : R.length ≤ 1048576) : impl_ValidGame (O, R, M) = some (okG O R M) := by
  unfold impl_ValidGame okG
  simp only [within64, Option.bind_some, areWithin64 (xs := O) (by omega), areWithin64 (xs := R) (by omega)]
  obtain ⟨j, this⟩ := rounds_find2 (f := slices_IndexFunc_____int64___int64_clo1_impl_ValidGame_1_B1 M (lenI O)) (fun i => ((i : Nat) : Int)) (fun i => okMv (M.getD i []) (lenI O)) (Sum.inl ()) (fun i => Sum.inr ((i : Nat) : Int)) (n := M.length) (fun i hi => by
    have hl := hh _ (mem_getD hi [])
    unfold slices_IndexFunc_____int64___int64_clo1_impl_ValidGame_1_B1 impl_ValidGame_1 okMv
    simp only [implSet (n := lenI O) hl, Option.bind_some, Int.toNat_natCast, nextN hi (show M.length ≤ 4294967296 by omega)]
    simp only [lenI, ltN hi, cond_true]
    rw [guard_pos (idxN hi)]
    by_cases h0 : (M.getD i []).length = 0
    · have e1 : (((M.getD i []).length : Int) == 0) = true := by rw [h0]; rfl
      have e2 : decide (((M.getD i []).length : Int) < 1) = true := decide_eq_true (by omega)
      simp only [e1, e2, cond_true, Option.bind_some, Bool.not_true, Bool.false_and, cond_false]
    · have e1 : (((M.getD i []).length : Int) == 0) = false := by simp only [beq_eq_false_iff_ne, ne_eq]; omega
      have e2 : decide (((M.getD i []).length : Int) < 1) = false := decide_eq_false (by omega)
      simp only [e1, e2, cond_false, Option.bind_some, Bool.not_false, Bool.true_and]
      cases allN (riseB (M.getD i []) (O.length : Int)) (M.getD i []).length 0 <;> rfl) (by
    unfold slices_IndexFunc_____int64___int64_clo1_impl_ValidGame_1_B1
    simp only [lenI, geN (Nat.le_refl _), cond_false]) M.length 0 (by omega)
  simp only [Int.natCast_zero] at this
  unfold slices_ContainsFunc_____int64___int64_clo1_impl_ValidGame_1 slices_IndexFunc_____int64___int64_clo1_impl_ValidGame_1
  rw [this]
  cases (decide (lenI O ≥ 1) && decide (lenI O ≤ 16)) with
  | false => rfl
  | true =>
    simp only [Bool.not_true, cond_false, bne, Bool.true_and]
    cases (lenI R == lenI O) with
    | false => rfl
    | true =>
      simp only [Bool.not_true, cond_false, Bool.true_and]
      cases (lenI M == lenI O) with
      | false => rfl
      | true =>
        simp only [Bool.not_true, cond_false, Bool.true_and]
        cases allIn O 0 1 with
        | false => rfl
        | true =>
          simp only [Bool.not_true, cond_false, Bool.true_and, Option.bind_some]
          cases allIn R 0 8 with
          | false => rfl
          | true =>
            simp only [Bool.not_true, cond_false, Bool.true_and]
            cases allN (fun i => okMv (M.getD i []) (lenI O)) M.length 0 with
            | true => rfl
            | false =>
              simp only [cond_false, Option.bind_some, ge_iff_le]
              rw [decide_eq_true (Int.natCast_nonneg j)]
              rfl

theorem allN_and2 (p q : Nat → Bool) : ∀ k i, allN (fun i => p i && q i) k i = (allN p k i && allN q k i)
  | 0, _ => rfl
  | k + 1, i => by
    simp only [allN, allN_and2 p q k (i + 1)]
    cases p i <;> cases q i <;> cases allN p k (i + 1) <;> cases allN q k (i + 1) <;> rfl

theorem specGame {O R : List Int} {M : List (List Int)} (hM : M.length ≤ 1048576) (hh : ∀ y ∈ M, y.length ≤ 1048576) : spec_l07Game (O, R, M) = some (okG O R M) := by
  unfold spec_l07Game okG
  by_cases h1 : lenI O < 1
  · have e1 : decide (lenI O < (1 : Int)) = true := decide_eq_true h1
    have e2 : decide (lenI O ≥ (1 : Int)) = false := decide_eq_false (by omega)
    simp only [e1, e2, cond_true, Bool.false_and, Option.bind_some]
  · have e1 : decide (lenI O < (1 : Int)) = false := decide_eq_false h1
    have e2 : decide (lenI O ≥ (1 : Int)) = true := decide_eq_true (by omega)
    simp only [e1, e2, cond_false, Bool.true_and]
    by_cases h2 : lenI O > 16
    · have e3 : decide (lenI O > (16 : Int)) = true := decide_eq_true h2
      have e4 : decide (lenI O ≤ (16 : Int)) = false := decide_eq_false (by omega)
      simp only [e3, e4, cond_true, Bool.false_and, Option.bind_some]
    · have e3 : decide (lenI O > (16 : Int)) = false := decide_eq_false h2
      have e4 : decide (lenI O ≤ (16 : Int)) = true := decide_eq_true (by omega)
      simp only [e3, e4, cond_false, Bool.true_and, bne]
      cases h3 : (lenI R == lenI O) with
      | false => rfl
      | true =>
        cases h4 : (lenI M == lenI O) with
        | false => rfl
        | true =>
          simp only [Bool.not_true, cond_false, Option.bind_some, Bool.true_and]
          have l1 : R.length = O.length := by have := eq_of_beq h3; simp only [lenI] at this; omega
          have l2 : M.length = O.length := by have := eq_of_beq h4; simp only [lenI] at this; omega
          have l3 : O.length ≤ 16 := by simp only [lenI] at h2; omega
          have := rounds_all (f := spec_l07Game_B2 (O, R, M)) (fun i => ((i : Nat) : Int)) (fun i => (decide (O.getD i 0 ≥ 0) && decide (O.getD i 0 ≤ 1)) && ((decide (R.getD i 0 ≥ 0) && decide (R.getD i 0 ≤ 8)) && okMv (M.getD i []) (lenI O))) (Sum.inl ()) (Sum.inr ()) (n := O.length) (fun i hi => by
            have hl := hh _ (mem_getD (show i < M.length by omega) [])
            have hin := rounds_all (f := spec_l07Game_B1 (O, R, M) ((i : Nat) : Int)) (fun i => ((i : Nat) : Int)) (riseB (M.getD i []) (lenI O)) (Sum.inl ()) (Sum.inr ()) (n := (M.getD i []).length) (fun k hk => by
              unfold spec_l07Game_B1 riseB
              simp only [Int.toNat_natCast, lenI, ltN hk, cond_true, in64, Option.bind_some, nextN hk (show (M.getD i []).length ≤ 4294967296 by omega)]
              rw [guard_pos (idxN hk)]
              cases (decide ((M.getD i []).getD k 0 ≥ 0) && decide ((M.getD i []).getD k 0 ≤ wsub .i64 (O.length : Int) 1)) with
              | false => rfl
              | true =>
                by_cases h0 : k = 0
                · subst h0; rfl
                · have e : wsub .i64 ((k : Nat) : Int) 1 = ((k - 1 : Nat) : Int) := by rw [wsubI (by omega)]; omega
                  have d : decide (((k : Nat) : Int) > 0) = true := decide_eq_true (by omega)
                  simp only [Bool.not_true, cond_false, d, cond_true, e, guard_pos (idxN (show k - 1 < (M.getD i []).length by omega)), Int.toNat_natCast, Option.bind_some, Bool.true_and]
                  cases decide ((M.getD i []).getD k 0 ≤ (M.getD i []).getD (k - 1) 0) <;> rfl) (by
              unfold spec_l07Game_B1
              simp only [Int.toNat_natCast, lenI, geN (Nat.le_refl _), cond_false]) (M.getD i []).length 0 (by omega)
            simp only [Int.natCast_zero] at hin
            have jo : (0 : Int) ≤ (i : Int) ∧ (i : Int) < lenI O := idxN hi
            have jr : (0 : Int) ≤ (i : Int) ∧ (i : Int) < lenI R := idxN (by omega)
            have jm : (0 : Int) ≤ (i : Int) ∧ (i : Int) < lenI M := idxN (by omega)
            unfold spec_l07Game_B2 okMv
            simp only [Int.toNat_natCast, guard_pos jo, guard_pos jr, guard_pos jm, in64, Option.bind_some, hin]
            simp only [lenI, ltN hi, cond_true, nextN hi (show O.length ≤ 4294967296 by omega)]
            cases (decide (O.getD i 0 ≥ 0) && decide (O.getD i 0 ≤ 1)) with
            | false => rfl
            | true =>
              cases (decide (R.getD i 0 ≥ 0) && decide (R.getD i 0 ≤ 8)) with
              | false => rfl
              | true =>
                cases decide (((M.getD i []).length : Int) < 1) with
                | true => rfl
                | false =>
                  simp only [Bool.not_true, Bool.not_false, cond_false, Option.bind_some, Bool.true_and]
                  cases allN (riseB (M.getD i []) (O.length : Int)) (M.getD i []).length 0 <;> rfl) (by
            unfold spec_l07Game_B2
            simp only [lenI, geN (Nat.le_refl _), cond_false]) O.length 0 (by omega)
          simp only [Int.natCast_zero] at this
          rw [allN_and2 (fun i => decide (O.getD i 0 ≥ 0) && decide (O.getD i 0 ≤ 1)) (fun i => (decide (R.getD i 0 ≥ 0) && decide (R.getD i 0 ≤ 8)) && okMv (M.getD i []) (lenI O)), allN_and2 (fun i => decide (R.getD i 0 ≥ 0) && decide (R.getD i 0 ≤ 8)) (fun i => okMv (M.getD i []) (lenI O))] at this
          have eO := allN_in O 0 1
          have eR := allN_in R 0 8
          rw [l1] at eR
          rw [eO, eR] at this
          rw [this, l2]
          cases allIn O 0 1 <;> cases allIn R 0 8 <;> cases allN (fun i => okMv (M.getD i []) (lenI O)) O.length 0 <;> rfl

structure Game (n : Nat) (O R : List Int) (M : List (List Int)) : Prop where
  n1 : 1 ≤ n
  n2 : n ≤ 16
  lo : O.length = n
  lr : R.length = n
  lm : M.length = n
  ow : ∀ v, v < n → O.getD v 0 = 0 ∨ O.getD v 0 = 1
  rk : ∀ v, v < n → ∃ r : Nat, R.getD v 0 = (r : Int) ∧ r ≤ 8
  mv : ∀ v, v < n → ∀ k, k < (M.getD v []).length → ∃ q : Nat, (M.getD v []).getD k 0 = (q : Int) ∧ q < n
  ml : ∀ v, v < n → (M.getD v []).length ≤ 1048576

theorem game_of {O R : List Int} {M : List (List Int)} (hh : ∀ y ∈ M, y.length ≤ 1048576) (h : okG O R M = true) : Game O.length O R M := by
  unfold okG at h
  simp only [Bool.and_eq_true, decide_eq_true_eq, beq_iff_eq, lenI] at h
  obtain ⟨⟨h1, h2⟩, h3, h4, h5, h6, h7⟩ := h
  refine ⟨by omega, by omega, rfl, by omega, by omega, fun v hv => ?_, fun v hv => ?_, fun v hv k hk => ?_, fun v hv => hh _ (mem_getD (by omega) [])⟩
  · have := allIn_iff.1 h5 v hv; omega
  · have := allIn_iff.1 h6 v (by omega)
    exact ⟨(R.getD v 0).toNat, by omega, by omega⟩
  · have := allN_iff.1 h7 v (by omega) (by omega)
    unfold okMv at this
    rw [Bool.and_eq_true] at this
    have := allN_iff.1 this.2 k (by omega) (by omega)
    unfold riseB at this
    simp only [Bool.and_eq_true, decide_eq_true_eq] at this
    have h8 := this.1
    rw [wsubI (by omega)] at h8
    exact ⟨((M.getD v []).getD k 0).toNat, by omega, by omega⟩

end Go.Proofs


/-
  What a player reaches; ReachOf.
-/
namespace Go.Proofs
open Go.Ide Go.IntWalk

section
variable {n : Nat} {O R : List Int} {M : List (List Int)}

theorem drawB1 (g : Game n O R M) {ins out : List Bool} {a x : Int} (ha : Bs a ins) (hx : Bs x out) (l1 : ins.length = n) (l2 : out.length = n) {v : Nat} (hv : v < n) (c1 c2 : Bool) :
    ∃ r, rounds (spec_l07Draw_B1 (O, R, M) ins (c1, (v : Int), out)) (false, true, (0 : Int)) = some r ∧ rounds (impl_Game_reach_B1 (O, R, M) a (x, c2, (v : Int))) (false, true, (0 : Int)) = some r := by
  have hml := g.ml v hv
  have n2 := g.n2
  obtain ⟨r, r', h1, h2, h3⟩ := rounds_rel (f := spec_l07Draw_B1 (O, R, M) ins (c1, (v : Int), out)) (g := impl_Game_reach_B1 (O, R, M) a (x, c2, (v : Int))) (fun m s t => ∃ (k : Nat) (p q : Bool), m + k = (M.getD v []).length ∧ s = (p, q, (k : Int)) ∧ t = (p, q, (k : Int))) (fun r r' => r = r') (by
    rintro m s t ⟨k, p, q, hk, rfl, rfl⟩
    by_cases hlt : k < (M.getD v []).length
    · obtain ⟨u, hu, hun⟩ := g.mv v hv k hlt
      have b1 := ha.bit (v := u) (by omega)
      have b2 := hx.bit (v := u) (by omega)
      have j1 : (0 : Int) ≤ (u : Int) ∧ (u : Int) < lenI ins := idxN (by omega)
      have j2 : (0 : Int) ≤ (u : Int) ∧ (u : Int) < lenI out := idxN (by omega)
      have j3 : (0 : Int) ≤ (u : Int) := Int.natCast_nonneg _
      have j4 : (0 : Int) ≤ (k : Int) ∧ (k : Int) < lenI (M.getD v []) := idxN hlt
      unfold spec_l07Draw_B1 impl_Game_reach_B1
      simp only [Int.toNat_natCast, guard_pos j4, Option.bind_some, hu, guard_pos j1, guard_pos j2, guard_pos j3, b1, b2]
      simp only [lenI, ltN hlt, cond_true, nextN hlt (show (M.getD v []).length ≤ 4294967296 by omega)]
      cases ins.getD u false with
      | false => exact .inl ⟨m - 1, _, _, by omega, rfl, rfl, k + 1, p, q, by omega, rfl, rfl⟩
      | true =>
        cases p <;> cases q <;> exact .inl ⟨m - 1, _, _, by omega, rfl, rfl, k + 1, _, _, by omega, rfl, rfl⟩
    · unfold spec_l07Draw_B1 impl_Game_reach_B1
      simp only [Int.toNat_natCast, lenI, geN (show (M.getD v []).length ≤ k by omega), cond_false]
      exact .inr ⟨_, _, rfl, rfl, rfl⟩) (M.getD v []).length (false, true, (0 : Int)) (false, true, (0 : Int)) ⟨0, false, true, by omega, rfl, rfl⟩
  exact ⟨r, h1, by rw [h2, h3]⟩

structure More (n : Nat) (ins out0 out : List Bool) (ch : Bool) : Prop where
  len : out.length = n
  sub : ∀ u, u < n → out0.getD u false = true → out.getD u false = true
  inn : ∀ u, u < n → out.getD u false = true → out0.getD u false = true ∨ ins.getD u false = true
  new : ch = true → ∃ u, u < n ∧ out0.getD u false = false ∧ out.getD u false = true

theorem drawB2 (g : Game n O R M) {ins out0 : List Bool} {a x0 : Int} (ha : Bs a ins) (hx : Bs x0 out0) (l1 : ins.length = n) (l2 : out0.length = n) (p : Int) (c0 : Bool) :
    ∃ ch out x, rounds (spec_l07Draw_B2 (O, R, M) ins p (c0, out0)) (false, (0 : Int), out0) = some (ch, out) ∧ rounds (impl_Game_reach_B2 (O, R, M) a p) (x0, false, (0 : Int)) = some (x, ch) ∧ Bs x out ∧ More n ins out0 out ch := by
  have n2 := g.n2
  have lo := g.lo
  have lm := g.lm
  obtain ⟨r, r', h1, h2, ch, out, x, e1, e2, h3, h4⟩ := rounds_rel (f := spec_l07Draw_B2 (O, R, M) ins p (c0, out0)) (g := impl_Game_reach_B2 (O, R, M) a p)
    (fun m s t => ∃ (v : Nat) (ch : Bool) (out : List Bool) (x : Int), m + v = n ∧ s = (ch, (v : Int), out) ∧ t = (x, ch, (v : Int)) ∧ Bs x out ∧ More n ins out0 out ch)
    (fun r r' => ∃ (ch : Bool) (out : List Bool) (x : Int), r = (ch, out) ∧ r' = (x, ch) ∧ Bs x out ∧ More n ins out0 out ch) (by
    rintro m s t ⟨v, ch, out, x, hm, rfl, rfl, hb, hmo⟩
    have hol := hmo.len
    by_cases hv : v < n
    · obtain ⟨r, h1, h2⟩ := drawB1 g ha hb l1 hol hv ch ch
      have b1 := ha.bit0 (v := v) (by omega)
      have b2 := hb.bit (v := v) (by omega)
      have j1 : (0 : Int) ≤ (v : Int) ∧ (v : Int) < lenI ins := idxN (by omega)
      have j2 : (0 : Int) ≤ (v : Int) ∧ (v : Int) < lenI out := idxN (by omega)
      have j3 : (0 : Int) ≤ (v : Int) := Int.natCast_nonneg _
      have j4 : (0 : Int) ≤ (v : Int) ∧ (v : Int) < lenI M := idxN (by omega)
      have j5 : (0 : Int) ≤ (v : Int) ∧ (v : Int) < lenI O := idxN (by omega)
      have hset := hb.set (v := v) (by omega)
      have hd1 : decide ((v : Int) < lenI out0) = true := by simp only [lenI]; exact ltN (by omega)
      have hd2 : decide ((v : Int) < lenI M) = true := by simp only [lenI]; exact ltN (by omega)
      have skip : ∃ n' s' t', n' < m ∧ some (Sum.inl ((ch, ((v + 1 : Nat) : Int), out) : Bool × Int × List Bool)) = some (Sum.inl s' : (Bool × Int × List Bool) ⊕ (Bool × List Bool)) ∧ some (Sum.inl ((x, ch, ((v + 1 : Nat) : Int)) : Int × Bool × Int)) = some (Sum.inl t' : (Int × Bool × Int) ⊕ (Int × Bool)) ∧
          ∃ (v : Nat) (ch : Bool) (out : List Bool) (x : Int), n' + v = n ∧ s' = (ch, (v : Int), out) ∧ t' = (x, ch, (v : Int)) ∧ Bs x out ∧ More n ins out0 out ch :=
        ⟨m - 1, _, _, by omega, rfl, rfl, v + 1, ch, out, x, by omega, rfl, rfl, hb, hmo⟩
      unfold spec_l07Draw_B2 impl_Game_reach_B2
      simp only [hd1, hd2, cond_true, Int.toNat_natCast, guard_pos j1, guard_pos j2, guard_pos j3, guard_pos j4, guard_pos j5, b1, b2, Option.bind_some, h1, h2, nextN hv (show n ≤ 4294967296 by omega)]
      cases ho : out.getD v false with
      | true =>
        simp only [cond_true, Option.bind_some]
        cases ins.getD v false <;> exact .inl skip
      | false =>
        cases hi : ins.getD v false with
        | false => exact .inl skip
        | true =>
          simp only [Bool.not_true, cond_false, Option.bind_some]
          have add : ∃ n' s' t', n' < m ∧ some (Sum.inl ((true, ((v + 1 : Nat) : Int), out.set v true) : Bool × Int × List Bool)) = some (Sum.inl s' : (Bool × Int × List Bool) ⊕ (Bool × List Bool)) ∧
              some (Sum.inl ((IntKind.wrap .u32 (((BitVec.ofInt (IntKind.bits .u32) x ||| BitVec.ofInt (IntKind.bits .u32) (IntKind.wrap .u32 ((1 : Int) * 2 ^ (min v (IntKind.bits .u32))))).toNat : Nat) : Int), true, ((v + 1 : Nat) : Int)) : Int × Bool × Int)) = some (Sum.inl t' : (Int × Bool × Int) ⊕ (Int × Bool)) ∧
              ∃ (v : Nat) (ch : Bool) (out : List Bool) (x : Int), n' + v = n ∧ s' = (ch, (v : Int), out) ∧ t' = (x, ch, (v : Int)) ∧ Bs x out ∧ More n ins out0 out ch := by
            refine ⟨m - 1, _, _, by omega, rfl, rfl, v + 1, true, _, _, by omega, rfl, rfl, hset, by simpa using hol, fun u hu h => ?_, fun u hu h => ?_, fun _ => ⟨v, hv, ?_, ?_⟩⟩
            · by_cases e : v = u
              · subst e; simp [List.getD_eq_getElem?_getD, hol, hv]
              · have := hmo.sub u hu h
                simpa [List.getD_eq_getElem?_getD, List.getElem?_set_ne e] using this
            · by_cases e : v = u
              · subst e; exact .inr hi
              · refine hmo.inn u hu ?_
                simpa [List.getD_eq_getElem?_getD, List.getElem?_set_ne e] using h
            · cases h0 : out0.getD v false with
              | false => rfl
              | true => rw [hmo.sub v hv h0] at ho; cases ho
            · simp [List.getD_eq_getElem?_getD, hol, hv]
          cases (O.getD v 0 == p) with
          | true =>
            simp only [cond_true]
            cases r.1 with
            | true => exact .inl add
            | false =>
              simp only [cond_false]
              cases (O.getD v 0 != p) with
              | true =>
                simp only [cond_true, Option.bind_some]
                cases r.2 with
                | true => exact .inl add
                | false => exact .inl skip
              | false => exact .inl skip
          | false =>
            simp only [cond_false]
            cases (O.getD v 0 != p) with
            | true =>
              simp only [cond_true, Option.bind_some]
              cases r.2 with
              | true => exact .inl add
              | false => exact .inl skip
            | false => exact .inl skip
    · have hd1 : decide ((v : Int) < lenI out0) = false := by simp only [lenI]; exact geN (by omega)
      have hd2 : decide ((v : Int) < lenI M) = false := by simp only [lenI]; exact geN (by omega)
      unfold spec_l07Draw_B2 impl_Game_reach_B2
      simp only [hd1, hd2, cond_false]
      exact .inr ⟨_, _, rfl, rfl, ch, out, x, rfl, rfl, hb, hmo⟩) n (false, (0 : Int), out0) (x0, false, (0 : Int)) ⟨0, false, out0, x0, by omega, rfl, rfl, hx, l2, fun _ _ h => h, fun _ _ h => .inl h, fun h => by cases h⟩
  subst e1 e2
  exact ⟨ch, out, x, h1, h2, h3, h4⟩

theorem cnt_len : ∀ l : List Bool, cnt l ≤ l.length
  | [] => Nat.le_refl _
  | b :: l => by
    have := cnt_len l
    simp only [cnt, List.length_cons]
    cases b <;> simp <;> omega

theorem drawSame (g : Game n O R M) {ins set : List Bool} {a x0 : Int} (ha : Bs a ins) (hx : Bs x0 set) (l1 : ins.length = n) (l2 : set.length = n) (p : Int) :
    ∃ out x, spec_l07Draw (O, R, M) ins set p = some out ∧ impl_Game_reach (O, R, M) a x0 p = some x ∧ Bs x out ∧ out.length = n ∧ (∀ u, u < n → set.getD u false = true → out.getD u false = true) ∧ (∀ u, u < n → out.getD u false = true → set.getD u false = true ∨ ins.getD u false = true) := by
  have n2 := g.n2
  obtain ⟨r, r', h1, h2, h3, h4⟩ := rounds_rel (f := spec_l07Draw_B3 (O, R, M) ins p) (g := impl_Game_reach_B3 (O, R, M) a p)
    (fun m s t => ∃ (ch : Bool) (out : List Bool) (x : Int), m = (if ch then n - cnt out + 1 else 0) ∧ s = (ch, out) ∧ t = (x, ch) ∧ Bs x out ∧ More n ins set out false)
    (fun r r' => Bs r' r ∧ More n ins set r false) (by
    rintro m s t ⟨ch, out, x, hm, rfl, rfl, hb, hmo⟩
    cases ch with
    | true =>
      obtain ⟨ch2, out2, x2, e1, e2, e3, e4⟩ := drawB2 g ha hb l1 hmo.len p true
      unfold spec_l07Draw_B3 impl_Game_reach_B3
      simp only [cond_true, e1, e2, Option.bind_some]
      have hlen : out2.length = out.length := by rw [e4.len, hmo.len]
      have hmo2 : More n ins set out2 false := ⟨e4.len, fun u hu h => e4.sub u hu (hmo.sub u hu h), fun u hu h => by
        rcases e4.inn u hu h with h | h
        · exact hmo.inn u hu h
        · exact .inr h, fun h => by cases h⟩
      refine .inl ⟨if ch2 then n - cnt out2 + 1 else 0, _, _, ?_, rfl, rfl, ch2, out2, x2, rfl, rfl, rfl, e3, hmo2⟩
      cases ch2 with
      | false => simp at hm ⊢; omega
      | true =>
        obtain ⟨u, hu, q1, q2⟩ := e4.new rfl
        have hlt := cnt_lt (l := out) (m := out2) hlen.symm (fun v hv h => e4.sub v (by rw [← hmo.len]; exact hv) h) ⟨u, by rw [hmo.len]; exact hu, q1, q2⟩
        have := cnt_len out2
        rw [e4.len] at this
        simp at hm ⊢; omega
    | false =>
      unfold spec_l07Draw_B3 impl_Game_reach_B3
      simp only [cond_false]
      exact .inr ⟨_, _, rfl, rfl, hb, hmo⟩) _ (true, set) (x0, true) ⟨true, set, x0, rfl, rfl, rfl, hx, l2, fun _ _ h => h, fun _ _ h => .inl h, fun h => by cases h⟩
  refine ⟨r, r', ?_, ?_, h3, h4.len, h4.sub, h4.inn⟩
  · unfold spec_l07Draw
    rw [guard_pos (by simp only [appMax]; omega), h1]; rfl
  · unfold impl_Game_reach
    rw [h2]; rfl

end
end Go.Proofs


/-
  ReachOf.
-/
namespace Go.Proofs
open Go.Ide Go.IntWalk

theorem indexLoop {l : List Bool} (h : l.length ≤ 16) : ∃ r, rounds (impl_indicesOf_B1 l) ((0 : Int), ([] : List Int)) = some r ∧ r.length ≤ 16 := by
  obtain ⟨r, h1, h2⟩ := rounds_inv (f := impl_indicesOf_B1 l) (fun m s => ∃ (k : Nat) (out : List Int), m + k = l.length ∧ s = ((k : Int), out) ∧ out.length ≤ k) (fun r => r.length ≤ 16) (by
    rintro m s ⟨k, out, hm, rfl, ho⟩
    by_cases hk : k < l.length
    · unfold impl_indicesOf_B1
      simp only [lenI, ltN hk, cond_true, Int.toNat_natCast, nextN hk (show l.length ≤ 4294967296 by omega)]
      rw [guard_pos (idxN hk)]
      cases l.getD k false with
      | true =>
        simp only [cond_true]
        rw [guard_pos (by simp only [List.length_singleton, appMax]; omega)]
        exact .inl ⟨m - 1, _, by omega, rfl, k + 1, _, by omega, rfl, by simp; omega⟩
      | false => exact .inl ⟨m - 1, _, by omega, rfl, k + 1, _, by omega, rfl, by omega⟩
    · unfold impl_indicesOf_B1
      simp only [lenI, geN (show l.length ≤ k by omega), cond_false]
      exact .inr ⟨_, rfl, by omega⟩) l.length ((0 : Int), []) ⟨0, [], by omega, rfl, by simp⟩
  exact ⟨r, h1, h2⟩

theorem implBits {x : Int} {l : List Bool} (h : Bs x l) : impl_bitsOf x (l.length : Int) = some l := by
  have hl := h.1
  have := loop_to (f := impl_bitsOf_B1 x (l.length : Int)) l false (fun i out hi ho => by
    have j3 : (0 : Int) ≤ (i : Int) := Int.natCast_nonneg _
    unfold impl_bitsOf_B1
    simp only [Int.toNat_natCast, lenI, List.length_replicate, ltN hi, cond_true, guard_pos j3, h.bit (v := i) (by omega), nextN hi (show l.length ≤ 4294967296 by omega)]
    rw [guard_pos (idxN (by omega))]) (fun out ho => by
    unfold impl_bitsOf_B1
    simp only [Int.toNat_natCast, lenI, List.length_replicate, geN (Nat.le_refl _), cond_false])
  unfold impl_bitsOf
  rw [guard_pos ⟨by omega, by omega⟩, Int.toNat_natCast, this]; rfl

theorem riseB_in {xs : List Int} {n k : Nat} (hn : 1 ≤ n) (hn2 : n ≤ 16) (h : riseB xs (n : Int) k = true) : ∃ q : Nat, xs.getD k 0 = (q : Int) ∧ q < n := by
  unfold riseB at h
  simp only [Bool.and_eq_true, decide_eq_true_eq] at h
  have h8 := h.1
  rw [wsubI (by omega)] at h8
  exact ⟨(xs.getD k 0).toNat, by omega, by omega⟩

theorem goalStep {set : List Int} {ins goal : List Bool} {n k : Nat} (hn : 1 ≤ n) (hn2 : n ≤ 16) (hl : set.length ≤ 1048576) (li : ins.length = n) (lg : goal.length = n) (hk : k < set.length) :
    spec_ReachOf_B2 set ins ((k : Int), goal) = some (bif riseB set (n : Int) k then .inl (((k + 1 : Nat) : Int), goal.set (set.getD k 0).toNat true) else .inr (.inr ())) := by
  have jk : (0 : Int) ≤ (k : Int) ∧ (k : Int) < lenI set := idxN hk
  unfold spec_ReachOf_B2
  simp only [Int.toNat_natCast, guard_pos jk, in64, Option.bind_some]
  simp only [lenI, li, ltN hk, cond_true, nextN hk (show set.length ≤ 4294967296 by omega)]
  cases hr : riseB set (n : Int) k with
  | true =>
    obtain ⟨q, hq, hqn⟩ := riseB_in hn hn2 hr
    unfold riseB at hr
    simp only [Bool.and_eq_true, Bool.not_eq_true', Bool.and_eq_false_iff] at hr
    obtain ⟨⟨h1, h2⟩, h3⟩ := hr
    rw [hq] at h1 h2
    simp only [h1, h2, Bool.and_self, Bool.not_true, cond_false, hq, Int.toNat_natCast, guard_pos (show (0 : Int) ≤ (q : Int) ∧ (q : Int) < (goal.length : Int) from idxN (by omega)), cond_true]
    by_cases h0 : k = 0
    · subst h0; rfl
    · have e : wsub .i64 ((k : Nat) : Int) 1 = ((k - 1 : Nat) : Int) := by rw [wsubI (by omega)]; omega
      have d : decide (((k : Nat) : Int) > 0) = true := decide_eq_true (by omega)
      rw [d] at h3
      simp only [Bool.true_eq_false, false_or] at h3
      rw [hq] at h3
      simp only [d, cond_true, e, guard_pos (show (0 : Int) ≤ ((k - 1 : Nat) : Int) ∧ ((k - 1 : Nat) : Int) < (set.length : Int) from idxN (by omega)), Int.toNat_natCast, h3, Option.bind_some, cond_false]
  | false =>
    unfold riseB at hr
    cases h1 : (decide (set.getD k 0 ≥ 0) && decide (set.getD k 0 ≤ wsub .i64 (n : Int) 1)) with
    | false => rfl
    | true =>
      rw [h1] at hr
      simp only [Bool.true_and, Bool.not_eq_false', Bool.and_eq_true, decide_eq_true_eq] at hr
      have e : wsub .i64 ((k : Nat) : Int) 1 = ((k - 1 : Nat) : Int) := by rw [wsubI (by omega)]; omega
      simp only [Bool.not_true, cond_false, decide_eq_true hr.1, cond_true, e, guard_pos (show (0 : Int) ≤ ((k - 1 : Nat) : Int) ∧ ((k - 1 : Nat) : Int) < (set.length : Int) from idxN (by omega)), Int.toNat_natCast, decide_eq_true hr.2, Option.bind_some]

theorem goalFalse {set : List Int} {ins : List Bool} {n : Nat} (hn : 1 ≤ n) (hn2 : n ≤ 16) (hl : set.length ≤ 1048576) (li : ins.length = n) (h : allN (riseB set (n : Int)) set.length 0 = false) :
    rounds (spec_ReachOf_B2 set ins) ((0 : Int), List.replicate n false) = some (.inr ()) := by
  obtain ⟨r, h1, h2⟩ := rounds_inv (f := spec_ReachOf_B2 set ins) (fun m s => ∃ (k : Nat) (goal : List Bool), m + k = set.length ∧ s = ((k : Int), goal) ∧ goal.length = n ∧ allN (riseB set (n : Int)) m k = false) (fun r => r = .inr ()) (by
    rintro m s ⟨k, goal, hm, rfl, hg, ha⟩
    cases m with
    | zero => cases ha
    | succ m =>
      have hk : k < set.length := by omega
      rw [goalStep hn hn2 hl li hg hk]
      simp only [allN] at ha
      cases hr : riseB set (n : Int) k with
      | true =>
        rw [hr] at ha
        exact .inl ⟨m, _, by omega, rfl, k + 1, _, by omega, rfl, by simpa using hg, by simpa using ha⟩
      | false => exact .inr ⟨_, rfl, rfl⟩) set.length ((0 : Int), List.replicate n false) ⟨0, _, by omega, rfl, by simp, h⟩
  rw [h1, h2]

theorem goalTrue {set : List Int} {ins : List Bool} {n : Nat} (hn : 1 ≤ n) (hn2 : n ≤ 16) (hl : set.length ≤ 1048576) (li : ins.length = n) (h : allN (riseB set (n : Int)) set.length 0 = true) :
    ∃ goal x, rounds (spec_ReachOf_B2 set ins) ((0 : Int), List.replicate n false) = some (.inl goal) ∧ rounds (impl_ReachOf_B1 set) ((0 : Int), (0 : Int)) = some x ∧ Bs x goal ∧ goal.length = n := by
  obtain ⟨r, x, h1, h2, goal, h3, h4, h5⟩ := rounds_rel (f := spec_ReachOf_B2 set ins) (g := impl_ReachOf_B1 set) (fun m s t => ∃ (k : Nat) (goal : List Bool) (x : Int), m + k = set.length ∧ s = ((k : Int), goal) ∧ t = (x, (k : Int)) ∧ Bs x goal ∧ goal.length = n)
    (fun r x => ∃ goal, r = .inl goal ∧ Bs x goal ∧ goal.length = n) (by
    rintro m s t ⟨k, goal, x, hm, rfl, rfl, hb, hg⟩
    by_cases hk : k < set.length
    · have hr := allN_iff.1 h k (by omega) (by omega)
      obtain ⟨q, hq, hqn⟩ := riseB_in hn hn2 hr
      rw [goalStep hn hn2 hl li hg hk, hr]
      have hs := hb.set (v := q) (by omega)
      have jk : (0 : Int) ≤ (k : Int) ∧ (k : Int) < lenI set := idxN hk
      unfold impl_ReachOf_B1
      simp only [Int.toNat_natCast, guard_pos jk, hq, guard_pos (Int.natCast_nonneg q)]
      simp only [lenI, ltN hk, cond_true, nextN hk (show set.length ≤ 4294967296 by omega)]
      exact .inl ⟨m - 1, _, _, by omega, rfl, rfl, k + 1, _, _, by omega, rfl, rfl, hs, by simpa using hg⟩
    · unfold spec_ReachOf_B2 impl_ReachOf_B1
      simp only [lenI, geN (show set.length ≤ k by omega), cond_false]
      exact .inr ⟨_, _, rfl, rfl, goal, rfl, hb, hg⟩) set.length ((0 : Int), List.replicate n false) ((0 : Int), (0 : Int)) ⟨0, _, 0, by omega, rfl, rfl, Bs.zero hn2, by simp⟩
  exact ⟨goal, x, by rw [h1, h3], h2, h4, h5⟩

theorem ReachOf_eq {x0_0 x0_1 : List Int} {x0_2 : List (List Int)} {x1_0 : List Int} {x2_0 : Int} (g1 : x0_0.length ≤ 1048576) (g2 : x0_1.length ≤ 1048576) (g3 : x0_2.length ≤ 1048576 ∧ ∀ y ∈ x0_2, y.length ≤ 1048576) (g4 : x1_0.length ≤ 1048576) :
    ∃ r, spec_ReachOf (x0_0, x0_1, x0_2) x1_0 x2_0 = some r ∧ impl_ReachOf (x0_0, x0_1, x0_2) x1_0 x2_0 = some r ∧ r.1.length ≤ 1000000 := by
  unfold spec_ReachOf impl_ReachOf
  simp only [specGame g3.1 g3.2, implGame g3.1 g3.2 g1 g2, Option.bind_some, in64, within64, implSet (n := lenI x0_0) g4]
  cases hg : okG x0_0 x0_1 x0_2 with
  | false => exact ⟨_, rfl, rfl, by simp⟩
  | true =>
    have g := game_of g3.2 hg
    have n1 := g.n1
    have n2 := g.n2
    have hall := Bs.all n2 n1
    have lrep : (List.replicate x0_0.length true).length = x0_0.length := by simp
    have hb3 := loop_to (f := spec_ReachOf_B3 (x0_0, x0_1, x0_2)) (List.replicate x0_0.length true) false (fun i out hi ho => by
      rw [lrep] at hi ho
      have e : (List.replicate x0_0.length true).getD i false = true := by simp [List.getD_eq_getElem?_getD, List.getElem?_replicate, hi]
      unfold spec_ReachOf_B3
      simp only [Int.toNat_natCast, lenI, List.length_replicate, ltN hi, cond_true, e, nextN hi (show x0_0.length ≤ 4294967296 by omega)]
      rw [guard_pos (idxN (by omega))]) (fun out ho => by
      rw [lrep]
      unfold spec_ReachOf_B3
      simp only [Int.toNat_natCast, lenI, List.length_replicate, geN (Nat.le_refl _), cond_false])
    rw [lrep] at hb3
    have ja : (0 : Int) ≤ lenI x0_0 := by simp only [lenI]; omega
    have jb : (0 : Int) ≤ lenI x0_0 ∧ lenI x0_0 ≤ 4294967296 := by simp only [lenI]; omega
    have e0 : Int.toNat (lenI x0_0) = x0_0.length := by simp [lenI]
    cases hp : (decide (x2_0 ≥ 0) && decide (x2_0 ≤ 1)) with
    | false =>
      simp only [Bool.not_true, Bool.not_false, cond_false, cond_true, Option.bind_some]
      cases allN (riseB x1_0 (lenI x0_0)) x1_0.length 0 <;> exact ⟨_, rfl, rfl, by simp⟩
    | true =>
      simp only [Bool.not_true, cond_false, Option.bind_some, guard_pos jb, e0, hb3]
      cases hs : allN (riseB x1_0 (lenI x0_0)) x1_0.length 0 with
      | false =>
        rw [goalFalse n1 n2 g4 lrep hs]
        exact ⟨_, rfl, rfl, by simp⟩
      | true =>
        obtain ⟨goal, x, h1, h2, h3, h4⟩ := goalTrue n1 n2 g4 lrep hs
        obtain ⟨out, y, h5, h6, h7, h8, _, _⟩ := drawSame g hall h3 lrep h4 x2_0
        obtain ⟨r, h9, h10⟩ := indexLoop (l := out) (by omega)
        have h11 : impl_bitsOf y (lenI x0_0) = some out := by
          have := implBits h7
          rw [h8] at this
          exact this
        have h12 : rounds (spec_ReachOf_B1 out) ((0 : Int), ([] : List Int)) = some r := h9
        unfold impl_Game_all impl_indicesOf
        simp only [h1, h2, Bool.not_true, cond_false, Option.bind_some, guard_pos ja, e0, h5, h6, h11, h9, h12]
        exact ⟨_, rfl, rfl, by simp only; omega⟩

end Go.Proofs


namespace Go.Proofs
open Go.Ide Go.IntWalk

theorem ReachOf_law (x0 : List Int × List Int × List (List Int)) (x1 : List Int) (x2 : Int) (w0 : WfD (.st (.pair tLI (.pair tLI (.sl tLI)))) x0) (w1 : WfD tLI x1) (w2 : WfD tI x2) : laws_FnExactReachOf x0 x1 x2 = some true := by
  obtain ⟨x0_0, ⟨x0_1, x0_2⟩⟩ := x0
  have hx0_0 : x0_0.length ≤ 9223372036854775807 := Nat.le_trans (w0.1.1) (by decide)
  have hx0_1 : x0_1.length ≤ 9223372036854775807 := Nat.le_trans (w0.2.1.1) (by decide)
  have hx0_2 : (x0_2.length ≤ 9223372036854775807 ∧ ∀ y ∈ x0_2, y.length ≤ 9223372036854775807) := ⟨Nat.le_trans (w0.2.2.1) (by decide), fun y hy => by
    have w := wf_mem (t := tLI) w0.2.2.2 hy
    exact Nat.le_trans (w.1) (by decide)⟩
  obtain ⟨x1_0, rfl⟩ : ∃ y, y = x1 := ⟨_, rfl⟩
  have hx1_0 : x1_0.length ≤ 9223372036854775807 := Nat.le_trans (w1.1) (by decide)
  obtain ⟨x2_0, rfl⟩ : ∃ y, y = x2 := ⟨_, rfl⟩
  unfold laws_FnExactReachOf
  by_cases c1 : lenI x1_0 > (1048576 : Int)
  · simp only [c1, decide_true, cond_true]
  · simp only [c1, decide_false, cond_false]
    have ox1_0 : x1_0.length ≤ 1048576 := by simp only [lenI] at c1; omega
    obtain ⟨m2, a2, b2⟩ := szGame_ok (n := 1048576) (x0 := x0_0) (x1 := x0_1) (x2 := x0_2) hx0_0 hx0_1 hx0_2 (by omega)
    simp only [a2, Option.bind_some]
    by_cases c2 : m2 < 0
    · simp only [c2, decide_true, cond_true]
    · obtain ⟨⟨ox0_0, ox0_1, ox0_2⟩, d2, f2⟩ := b2.resolve_left c2
      simp only [c2, decide_false, cond_false]
      obtain ⟨⟨r0_0, r1_0⟩, k1, k2, or0_0⟩ := ReachOf_eq (x0_0 := x0_0) (x0_1 := x0_1) (x0_2 := x0_2) (x1_0 := x1_0) (x2_0 := x2_0) ox0_0 ox0_1 ox0_2 ox1_0
      have or0_0 : r0_0.length ≤ 1000000 := or0_0
      have nx0_2 := markRows_bd (E := fun (k : Int) (x : List Int) => (k + ((1 * x.length : Nat) : Int), marksG (fun k => k) 1 k x.length)) (M := 1048576) (xs := x0_2) (k := (1 : Int) + ((1 * x0_0.length : Nat) : Int) + ((1 * x0_1.length : Nat) : Int)) (fun k x hx => by have := (ox0_2).2 x hx; exact ⟨by omega, by omega⟩)
      have qx0_2 : x0_2.length * 1048576 ≤ 1048576 * 1048576 := Nat.mul_le_mul_right _ (ox0_2).1
      simp only [k1,
      k2,
      Option.bind_some,
      Bool.not_true,
      cond_false,
      bne_self_eq_false,
      cond_true,
      toGame_ok (x0 := x0_0) (x1 := x0_1) (x2 := x0_2) ox0_0 ox0_1 ox0_2,
      eqGame_ok (x0 := x0_0) (x1 := x0_1) (x2 := x0_2) ox0_0 ox0_1 ox0_2,
      markGame_ok (k := (1 : Int)) (x0 := x0_0) (x1 := x0_1) (x2 := x0_2) ox0_0 ox0_1 ox0_2 (by omega),
      toInt64S_ok (xs := x1_0) ox1_0,
      eqInt64S_ok (xs := x1_0) ox1_0,
      markInt64S_ok (k := (markRows (fun (k : Int) (x : List Int) => (k + ((1 * x.length : Nat) : Int), marksG (fun k => k) 1 k x.length)) ((1 : Int) + ((1 * x0_0.length : Nat) : Int) + ((1 * x0_1.length : Nat) : Int)) x0_2).1) (xs := x1_0) ox1_0 (by omega),
      (show decide ((markRows (fun (k : Int) (x : List Int) => (k + ((1 * x.length : Nat) : Int), marksG (fun k => k) 1 k x.length)) ((1 : Int) + ((1 * x0_0.length : Nat) : Int) + ((1 * x0_1.length : Nat) : Int)) x0_2).1 + ((1 * x1_0.length : Nat) : Int) < 0) = false from by simp only [decide_eq_false_iff_not]; omega),
      eqInt64S_ok (xs := r0_0) (by omega : r0_0.length ≤ 1048576),
      markInt64S_ok (k := (1 : Int)) (xs := r0_0) (by omega : r0_0.length ≤ 1048576) (by omega),
      heldInt64S_ok (k := (1 : Int)) (by omega : r0_0.length ≤ 1048576) (by omega),
      (show decide ((1 : Int) + ((1 * r0_0.length : Nat) : Int) < 0) = false from by simp only [decide_eq_false_iff_not]; omega)]

end Go.Proofs
