import Derived.Test.YtapgmbilojbacaaZonesGenB
import Derived.IntWalk
set_option linter.unusedVariables false
set_option linter.unusedSimpArgs false
set_option linter.unusedSectionVars false

namespace Go.Proofs
open Go.Ide Go.IntWalk


end Go.Proofs


namespace Go.Proofs
open Go.Ide Go.IntWalk

end Go.Proofs


namespace Go.Proofs
open Go.Ide Go.IntWalk

theorem within64 (a b c : Int) : impl_within a b c = some (decide (a ≥ b) && decide (a ≤ c)) := by
  unfold impl_within
  cases h : decide (a ≥ b) <;> simp
theorem in64 (a b c : Int) : spec_l00In a b c = some (decide (a ≥ b) && decide (a ≤ c)) := by
  unfold spec_l00In
  cases h : decide (a ≥ b) <;> simp

def okCell (i k : Nat) (x : Int) : Bool :=
  !((!(decide (x ≥ -1000000) && decide (x ≤ 1000000)) && (x != 1000000000)) || ((decide (i = k) && (x != 0)) || (decide (i = 0) && decide (x > 0))))

def okZone (c : Int) (B : List Int) : Bool :=
  (decide (c ≥ 1) && decide (c ≤ 4)) && (decide (lenI B = (c + 1) * (c + 1)) && allN (fun i => allN (fun k => okCell i k (B.getD (i * (c.toNat + 1) + k) 0)) (c.toNat + 1) 0) (c.toNat + 1) 0)

theorem wide_eq {c n : Nat} (hn : n = c + 1) (hc : c ≤ 4) : wadd .i64 (c : Int) 1 = (n : Int) := by
  rw [waddI (by omega)]; omega

theorem eqN (i k : Nat) : ((i : Int) == (k : Int)) = decide (i = k) := by
  by_cases h : i = k
  · simp [h]
  · simp [h]; omega
theorem eq0 (i : Nat) : ((i : Int) == (0 : Int)) = decide (i = 0) := eqN i 0

theorem specZone_in {B : List Int} {c n i : Nat} (hn : n = c + 1) (hc : c ≤ 4) (hB : B.length = n * n) (hi : i < n) :
    rounds (spec_l07Zone_B1 ((c : Int), B) (i : Int)) ((0 : Nat) : Int) = some (bif allN (fun k => okCell i k (B.getD (i * n + k) 0)) n 0 then Sum.inl () else Sum.inr ()) := by
  refine rounds_all (fun k => ((k : Nat) : Int)) (fun k => okCell i k (B.getD (i * n + k) 0)) (Sum.inl ()) (Sum.inr ()) (n := n) (fun k hk => ?_) ?_ n 0 (by omega)
  · unfold spec_l07Zone_B1
    have hcell : wadd .i64 (wmul .i64 (i : Int) (n : Int)) (k : Int) = ((i * n + k : Nat) : Int) := cellN (by omega) (by omega) (by omega)
    have hlt := cell_lt hi hk
    simp only [wide_eq hn hc, ltN hk, cond_true, hcell, guard_pos (show (0 : Int) ≤ ((i * n + k : Nat) : Int) ∧ ((i * n + k : Nat) : Int) < lenI B from by simp only [lenI]; omega), Int.toNat_natCast, in64, Option.bind_some, eqN, eq0, nextN hk (by omega)]
    obtain ⟨x, hx⟩ : ∃ x, B.getD (i * n + k) 0 = x := ⟨_, rfl⟩
    simp only [hx]
    unfold okCell
    cases (decide (x ≥ -1000000) && decide (x ≤ 1000000)) <;> cases (x != 1000000000) <;> cases decide (i = k) <;> cases (x != (0 : Int)) <;> cases decide (i = 0) <;> cases decide (x > 0) <;> rfl
  · unfold spec_l07Zone_B1
    simp only [wide_eq hn hc, geN (Nat.le_refl n), cond_false]

theorem specZone {B : List Int} {c : Int} : spec_l07Zone (c, B) = some (okZone c B) := by
  unfold spec_l07Zone okZone
  simp only [in64, Option.bind_some]
  cases hc : (decide (c ≥ 1) && decide (c ≤ 4)) with
  | false => rfl
  | true =>
    simp only [Bool.and_eq_true, decide_eq_true_eq] at hc
    obtain ⟨c, rfl⟩ : ∃ n : Nat, c = (n : Int) := ⟨c.toNat, by omega⟩
    have hn : c + 1 = c + 1 := rfl
    have hw := wide_eq hn (by omega)
    have hm : wmul .i64 ((c + 1 : Nat) : Int) ((c + 1 : Nat) : Int) = (((c + 1) * (c + 1) : Nat) : Int) := by
      have : (c + 1) * (c + 1) ≤ 5 * 5 := Nat.mul_le_mul (by omega) (by omega)
      rw [wmulI (by rw [← Int.natCast_mul]; omega), Int.natCast_mul]
    simp only [Bool.not_true, cond_false, hw, hm, Bool.true_and, Int.toNat_natCast]
    by_cases hB : B.length = (c + 1) * (c + 1)
    · have e1 : (lenI B != (((c + 1) * (c + 1) : Nat) : Int)) = false := by simp only [lenI, hB]; simp
      have e2 : decide (lenI B = ((c : Int) + 1) * ((c : Int) + 1)) = true := by
        simp only [lenI, hB, decide_eq_true_eq]; rw [Int.natCast_mul]; rfl
      rw [e1, e2]
      have := rounds_all (f := spec_l07Zone_B2 ((c : Int), B)) (fun k => ((k : Nat) : Int)) (fun i => allN (fun k => okCell i k (B.getD (i * (c + 1) + k) 0)) (c + 1) 0) (Sum.inl ()) (Sum.inr ()) (n := c + 1) (fun i hi => by
        unfold spec_l07Zone_B2
        have h0 := specZone_in (B := B) hn (by omega) hB hi
        simp only [Int.natCast_zero] at h0
        simp only [hw, ltN hi, cond_true, h0, Option.bind_some, nextN hi (by omega)]
        cases allN (fun k => okCell i k (B.getD (i * (c + 1) + k) 0)) (c + 1) 0 <;> rfl) (by
        unfold spec_l07Zone_B2
        simp only [hw, geN (Nat.le_refl _), cond_false]) (c + 1) 0 (by omega)
      simp only [Int.natCast_zero] at this
      simp only [cond_false, this, Option.bind_some, Bool.true_and]
      cases allN (fun i => allN (fun k => okCell i k (B.getD (i * (c + 1) + k) 0)) (c + 1) 0) (c + 1) 0 <;> rfl
    · have e1 : (lenI B != (((c + 1) * (c + 1) : Nat) : Int)) = true := by simp only [lenI, bne_iff_ne]; omega
      have e2 : decide (lenI B = ((c : Int) + 1) * ((c : Int) + 1)) = false := by
        simp only [lenI, decide_eq_false_iff_not]
        rw [show ((c : Int) + 1) * ((c : Int) + 1) = (((c + 1) * (c + 1) : Nat) : Int) from by rw [Int.natCast_mul]; rfl]
        omega
      rw [e1, e2]
      rfl

theorem at_eq {c i k n : Nat} {B : List Int} (hn : n = c + 1) (hc : c ≤ 4) (hi : i < n) (hk : k < n) : impl_Zone_at ((c : Int), B) (i : Int) (k : Int) = some ((i * n + k : Nat) : Int) := by
  unfold impl_Zone_at impl_Zone_wide
  simp only [Option.bind_some, wide_eq hn hc]
  rw [cellN (by omega) (by omega) (by omega)]

theorem implZone_in {B : List Int} {c n i : Nat} (hn : n = c + 1) (hc : c ≤ 4) (hB : B.length = n * n) (hi : i < n) :
    rounds (impl_ValidZone_B1 ((c : Int), B) (i : Int) (n : Int)) ((0 : Nat) : Int) = some (bif allN (fun k => okCell i k (B.getD (i * n + k) 0)) n 0 then Sum.inl () else Sum.inr ()) := by
  refine rounds_all (fun k => ((k : Nat) : Int)) (fun k => okCell i k (B.getD (i * n + k) 0)) (Sum.inl ()) (Sum.inr ()) (n := n) (fun k hk => ?_) ?_ n 0 (by omega)
  · unfold impl_ValidZone_B1
    have hlt := cell_lt hi hk
    simp only [ltN hk, cond_true, at_eq hn hc hi hk, guard_pos (show (0 : Int) ≤ ((i * n + k : Nat) : Int) ∧ ((i * n + k : Nat) : Int) < lenI B from by simp only [lenI]; omega), Int.toNat_natCast, within64, Option.bind_some, eqN, eq0, nextN hk (by omega)]
    obtain ⟨x, hx⟩ : ∃ x, B.getD (i * n + k) 0 = x := ⟨_, rfl⟩
    simp only [hx]
    unfold okCell
    cases (decide (x ≥ -1000000) && decide (x ≤ 1000000)) <;> cases (x != 1000000000) <;> cases decide (i = k) <;> cases (x != (0 : Int)) <;> cases decide (i = 0) <;> cases decide (x > 0) <;> rfl
  · unfold impl_ValidZone_B1
    simp only [geN (Nat.le_refl n), cond_false]

theorem implZone {B : List Int} {c : Int} : impl_ValidZone (c, B) = some (okZone c B) := by
  unfold impl_ValidZone okZone
  simp only [within64, Option.bind_some]
  cases hc : (decide (c ≥ 1) && decide (c ≤ 4)) with
  | false => rfl
  | true =>
    simp only [Bool.and_eq_true, decide_eq_true_eq] at hc
    obtain ⟨c, rfl⟩ : ∃ n : Nat, c = (n : Int) := ⟨c.toNat, by omega⟩
    have hn : c + 1 = c + 1 := rfl
    have hw := wide_eq hn (by omega)
    have hm : wmul .i64 ((c + 1 : Nat) : Int) ((c + 1 : Nat) : Int) = (((c + 1) * (c + 1) : Nat) : Int) := by
      have : (c + 1) * (c + 1) ≤ 5 * 5 := Nat.mul_le_mul (by omega) (by omega)
      rw [wmulI (by rw [← Int.natCast_mul]; omega), Int.natCast_mul]
    simp only [Bool.not_true, cond_false, impl_Zone_wide, Option.bind_some, hw, hm, Bool.true_and, Int.toNat_natCast]
    by_cases hB : B.length = (c + 1) * (c + 1)
    · have e1 : (lenI B != (((c + 1) * (c + 1) : Nat) : Int)) = false := by simp only [lenI, hB]; simp
      have e2 : decide (lenI B = ((c : Int) + 1) * ((c : Int) + 1)) = true := by
        simp only [lenI, hB, decide_eq_true_eq]; rw [Int.natCast_mul]; rfl
      rw [e1, e2]
      have := rounds_all (f := impl_ValidZone_B2 ((c : Int), B) ((c + 1 : Nat) : Int)) (fun k => ((k : Nat) : Int)) (fun i => allN (fun k => okCell i k (B.getD (i * (c + 1) + k) 0)) (c + 1) 0) (Sum.inl ()) (Sum.inr ()) (n := c + 1) (fun i hi => by
        unfold impl_ValidZone_B2
        have h0 := implZone_in (B := B) hn (by omega) hB hi
        simp only [Int.natCast_zero] at h0
        simp only [impl_Zone_wide, hw, ltN hi, cond_true, h0, Option.bind_some, nextN hi (by omega)]
        cases allN (fun k => okCell i k (B.getD (i * (c + 1) + k) 0)) (c + 1) 0 <;> rfl) (by
        unfold impl_ValidZone_B2
        simp only [geN (Nat.le_refl _), cond_false]) (c + 1) 0 (by omega)
      simp only [Int.natCast_zero] at this
      simp only [cond_false, this, Option.bind_some, Bool.true_and]
      cases allN (fun i => allN (fun k => okCell i k (B.getD (i * (c + 1) + k) 0)) (c + 1) 0) (c + 1) 0 <;> rfl
    · have e1 : (lenI B != (((c + 1) * (c + 1) : Nat) : Int)) = true := by simp only [lenI, bne_iff_ne]; omega
      have e2 : decide (lenI B = ((c : Int) + 1) * ((c : Int) + 1)) = false := by
        simp only [lenI, decide_eq_false_iff_not]
        rw [show ((c : Int) + 1) * ((c : Int) + 1) = (((c + 1) * (c + 1) : Nat) : Int) from by rw [Int.natCast_mul]; rfl]
        omega
      rw [e1, e2]
      rfl

theorem okZone_spec {c : Int} {B : List Int} (h : okZone c B = true) : ∃ m : Nat, c = (m : Int) ∧ 1 ≤ m ∧ m ≤ 4 ∧ B.length = (m + 1) * (m + 1) ∧ ∀ i k, i < m + 1 → k < m + 1 → okCell i k (B.getD (i * (m + 1) + k) 0) = true := by
  unfold okZone at h
  simp only [Bool.and_eq_true, decide_eq_true_eq] at h
  obtain ⟨⟨h1, h2⟩, h3, h4⟩ := h
  obtain ⟨m, rfl⟩ : ∃ n : Nat, c = (n : Int) := ⟨c.toNat, by omega⟩
  refine ⟨m, rfl, by omega, by omega, ?_, fun i k hi hk => ?_⟩
  · rw [show ((m : Int) + 1) * ((m : Int) + 1) = (((m + 1) * (m + 1) : Nat) : Int) from by rw [Int.natCast_mul]; rfl] at h3
    simp only [lenI] at h3
    omega
  · rw [Int.toNat_natCast] at h4
    exact allN_iff.1 (allN_iff.1 h4 i (by omega) (by omega)) k (by omega) (by omega)

theorem okZone_mk {m : Nat} {B : List Int} (h1 : 1 ≤ m) (h2 : m ≤ 4) (h3 : B.length = (m + 1) * (m + 1)) (h4 : ∀ i k, i < m + 1 → k < m + 1 → okCell i k (B.getD (i * (m + 1) + k) 0) = true) : okZone (m : Int) B = true := by
  unfold okZone
  simp only [Bool.and_eq_true, decide_eq_true_eq]
  refine ⟨⟨by omega, by omega⟩, ?_, ?_⟩
  · rw [show ((m : Int) + 1) * ((m : Int) + 1) = (((m + 1) * (m + 1) : Nat) : Int) from by rw [Int.natCast_mul]; rfl]
    simp only [lenI, h3]
  · rw [Int.toNat_natCast]
    exact allN_iff.2 fun i _ hi => allN_iff.2 fun k _ hk => h4 i k (by omega) (by omega)

end Go.Proofs


namespace Go.Proofs
open Go.Ide Go.IntWalk

theorem forS_inv {σ : Type} {g : Nat → σ → σ} {I : σ → Prop} (h : ∀ i s, I s → I (g i s)) : ∀ (k i : Nat) (s : σ), I s → I (forS g k i s)
  | 0, _, _, hs => hs
  | k + 1, i, s, hs => forS_inv h k (i + 1) (g i s) (h i s hs)

def tcell (n j i k : Nat) (B : List Int) : List Int :=
  bif (B.getD (i * n + j) 0 != 1000000000) && ((B.getD (j * n + k) 0 != 1000000000) && decide (wadd .i64 (B.getD (i * n + j) 0) (B.getD (j * n + k) 0) < B.getD (i * n + k) 0)) then
    B.set (i * n + k) (wadd .i64 (B.getD (i * n + j) 0) (B.getD (j * n + k) 0)) else B

theorem tcell_len {n j i k : Nat} {B : List Int} : (tcell n j i k B).length = B.length := by
  unfold tcell
  cases ((B.getD (i * n + j) 0 != 1000000000) && ((B.getD (j * n + k) 0 != 1000000000) && decide (wadd .i64 (B.getD (i * n + j) 0) (B.getD (j * n + k) 0) < B.getD (i * n + k) 0))) <;> simp

def trow (n j i : Nat) (B : List Int) : List Int := forS (tcell n j i) n 0 B
def tpass (n j : Nat) (B : List Int) : List Int := forS (trow n j) n 0 B
def tight (n : Nat) (B : List Int) : List Int := forS (tpass n) n 0 B

theorem trow_len {n j i : Nat} {B : List Int} {m : Nat} (h : B.length = m) : (trow n j i B).length = m :=
  forS_inv (I := fun B => B.length = m) (fun k s hs => by rw [tcell_len]; exact hs) n 0 B h
theorem tpass_len {n j : Nat} {B : List Int} {m : Nat} (h : B.length = m) : (tpass n j B).length = m :=
  forS_inv (I := fun B => B.length = m) (fun k s hs => trow_len hs) n 0 B h
theorem set_self {B : List Int} {i : Nat} (h : i < B.length) : B.set i (B.getD i 0) = B := by
  rw [List.getD_eq_getElem?_getD, List.getElem?_eq_getElem h]
  simp

section
variable {c n : Nat} {B0 : List Int} (hn : n = c + 1) (hc : c ≤ 4)
include hn hc

theorem spec_t1 {i j : Nat} {X Y B : List Int} (hi : i < n) (hj : j < n) (hB : B.length = n * n) :
    rounds (spec_l07Tight_B1 ((c : Int), B0) ((j : Int), X) ((i : Int), Y)) ((0 : Int), B) = some (trow n j i B) := by
  refine (rounds_forS (fun k B => (((k : Nat) : Int), B)) (tcell n j i) id (n := n) (fun _ B => B.length = n * n) (fun k B hk hB => ⟨?_, by rw [tcell_len]; exact hB⟩) (fun B hB => ?_) n 0 B (by omega) hB).1
  · unfold spec_l07Tight_B1 tcell
    have h1 := cell_lt hi hj
    have h2 := cell_lt hj hk
    have h3 := cell_lt hi hk
    have e1 : wadd .i64 (wmul .i64 (i : Int) (n : Int)) (j : Int) = ((i * n + j : Nat) : Int) := cellN (by omega) (by omega) (by omega)
    have e2 : wadd .i64 (wmul .i64 (j : Int) (n : Int)) (k : Int) = ((j * n + k : Nat) : Int) := cellN (by omega) (by omega) (by omega)
    have e3 : wadd .i64 (wmul .i64 (i : Int) (n : Int)) (k : Int) = ((i * n + k : Nat) : Int) := cellN (by omega) (by omega) (by omega)
    have g : ∀ a, a < n * n → (0 : Int) ≤ ((a : Nat) : Int) ∧ ((a : Nat) : Int) < lenI B := fun a ha => by simp only [lenI]; omega
    simp only [wide_eq hn hc, ltN hk, cond_true, e1, e2, e3, guard_pos (g _ h1), guard_pos (g _ h2), guard_pos (g _ h3), Int.toNat_natCast, nextN hk (by omega)]
    rcases Bool.eq_false_or_eq_true (B.getD (i * n + j) 0 != 1000000000) with hx | hx <;> rcases Bool.eq_false_or_eq_true (B.getD (j * n + k) 0 != 1000000000) with hy | hy <;>
      rcases Bool.eq_false_or_eq_true (decide (wadd .i64 (B.getD (i * n + j) 0) (B.getD (j * n + k) 0) < B.getD (i * n + k) 0)) with hz | hz <;>
      simp only [hx, hy, hz, cond_true, cond_false, Option.bind_some, Bool.and_self, Bool.and_false, Bool.and_true, Bool.false_and, Bool.true_and]
  · unfold spec_l07Tight_B1
    simp only [wide_eq hn hc, geN (Nat.le_refl n), cond_false]
    rfl

theorem spec_t2 {j : Nat} {X B : List Int} (hj : j < n) (hB : B.length = n * n) :
    rounds (spec_l07Tight_B2 ((c : Int), B0) ((j : Int), X)) ((0 : Int), B) = some (tpass n j B) := by
  refine (rounds_forS (fun k B => (((k : Nat) : Int), B)) (trow n j) id (n := n) (fun _ B => B.length = n * n) (fun k B hk hB => ⟨?_, trow_len hB⟩) (fun B hB => ?_) n 0 B (by omega) hB).1
  · unfold spec_l07Tight_B2
    simp only [wide_eq hn hc, ltN hk, cond_true, spec_t1 hn hc hk hj hB, Option.bind_some, nextN hk (by omega)]
  · unfold spec_l07Tight_B2
    simp only [wide_eq hn hc, geN (Nat.le_refl n), cond_false]
    rfl

theorem spec_t3 {B : List Int} (hB : B.length = n * n) :
    rounds (spec_l07Tight_B3 ((c : Int), B0)) ((0 : Int), B) = some (tight n B) := by
  refine (rounds_forS (fun k B => (((k : Nat) : Int), B)) (tpass n) id (n := n) (fun _ B => B.length = n * n) (fun k B hk hB => ⟨?_, tpass_len hB⟩) (fun B hB => ?_) n 0 B (by omega) hB).1
  · unfold spec_l07Tight_B3
    simp only [wide_eq hn hc, ltN hk, cond_true, spec_t2 hn hc hk hB, Option.bind_some, nextN hk (by omega)]
  · unfold spec_l07Tight_B3
    simp only [wide_eq hn hc, geN (Nat.le_refl n), cond_false]
    rfl

theorem impl_t1 {i j : Nat} {X Y B : List Int} (hi : i < n) (hj : j < n) (hB : B.length = n * n) :
    rounds (impl_TightZone_B1 ((c : Int), B0) ((j : Int), X) ((i : Int), Y) (n : Int)) ((0 : Int), B) = some (trow n j i B) := by
  refine (rounds_forS (fun k B => (((k : Nat) : Int), B)) (tcell n j i) id (n := n) (fun _ B => B.length = n * n) (fun k B hk hB => ⟨?_, by rw [tcell_len]; exact hB⟩) (fun B hB => ?_) n 0 B (by omega) hB).1
  · unfold impl_TightZone_B1 tcell
    have h1 := cell_lt hi hj
    have h2 := cell_lt hj hk
    have h3 := cell_lt hi hk
    have g : ∀ a, a < n * n → (0 : Int) ≤ ((a : Nat) : Int) ∧ ((a : Nat) : Int) < lenI B := fun a ha => by simp only [lenI]; omega
    simp only [ltN hk, cond_true, at_eq hn hc hi hj, at_eq hn hc hj hk, at_eq hn hc hi hk, Option.bind_some, guard_pos (g _ h1), guard_pos (g _ h2), guard_pos (g _ h3), Int.toNat_natCast, nextN hk (by omega)]
    rcases Bool.eq_false_or_eq_true (B.getD (i * n + j) 0 != 1000000000) with hx | hx <;> rcases Bool.eq_false_or_eq_true (B.getD (j * n + k) 0 != 1000000000) with hy | hy <;>
      rcases Bool.eq_false_or_eq_true (decide (wadd .i64 (B.getD (i * n + j) 0) (B.getD (j * n + k) 0) < B.getD (i * n + k) 0)) with hz | hz <;>
      simp only [hx, hy, hz, cond_true, cond_false, Option.bind_some, Bool.and_self, Bool.and_false, Bool.and_true, Bool.false_and, Bool.true_and]
    · rw [if_pos (of_decide_eq_true hz)]
    · rw [if_neg (of_decide_eq_false hz), set_self (by omega)]
  · unfold impl_TightZone_B1
    simp only [geN (Nat.le_refl n), cond_false]
    rfl

theorem impl_t2 {j : Nat} {X B : List Int} (hj : j < n) (hB : B.length = n * n) :
    rounds (impl_TightZone_B2 ((c : Int), B0) ((j : Int), X) (n : Int)) ((0 : Int), B) = some (tpass n j B) := by
  refine (rounds_forS (fun k B => (((k : Nat) : Int), B)) (trow n j) id (n := n) (fun _ B => B.length = n * n) (fun k B hk hB => ⟨?_, trow_len hB⟩) (fun B hB => ?_) n 0 B (by omega) hB).1
  · unfold impl_TightZone_B2 impl_Zone_wide
    simp only [wide_eq hn hc, ltN hk, cond_true, impl_t1 hn hc hk hj hB, Option.bind_some, nextN hk (by omega)]
  · unfold impl_TightZone_B2
    simp only [geN (Nat.le_refl n), cond_false]
    rfl

theorem impl_t3 {B : List Int} (hB : B.length = n * n) :
    rounds (impl_TightZone_B3 ((c : Int), B0) (n : Int)) ((0 : Int), B) = some (tight n B) := by
  refine (rounds_forS (fun k B => (((k : Nat) : Int), B)) (tpass n) id (n := n) (fun _ B => B.length = n * n) (fun k B hk hB => ⟨?_, tpass_len hB⟩) (fun B hB => ?_) n 0 B (by omega) hB).1
  · unfold impl_TightZone_B3 impl_Zone_wide
    simp only [wide_eq hn hc, ltN hk, cond_true, impl_t2 hn hc hk hB, Option.bind_some, nextN hk (by omega)]
  · unfold impl_TightZone_B3
    simp only [geN (Nat.le_refl n), cond_false]
    rfl

end

def tightZ (c : Int) (B : List Int) : (Int × List Int) × Bool :=
  if okZone c B = true ∧ okZone c (tight (c.toNat + 1) B) = true then ((c, tight (c.toNat + 1) B), true) else ((0, []), false)

def tightY (c : Int) (B : List Int) : (Int × List Int) × Bool :=
  if okZone c (tight (c.toNat + 1) B) = true then ((c, tight (c.toNat + 1) B), true) else ((0, []), false)

theorem spec_tightY {m : Nat} {B : List Int} (hm : m ≤ 4) (hB : B.length = (m + 1) * (m + 1)) : spec_l07Tight ((m : Int), B) = some (tightY m B) := by
  have h5 : (m + 1) * (m + 1) ≤ 5 * 5 := Nat.mul_le_mul (by omega) (by omega)
  unfold spec_l07Tight tightY
  rw [guard_pos (by simp only [appMax]; omega)]
  simp only [spec_t3 (c := m) (n := m + 1) rfl hm hB, Option.bind_some, specZone, Int.toNat_natCast]
  cases okZone (m : Int) (tight (m + 1) B) <;> rfl

theorem spec_tightZ {c : Int} {B : List Int} : spec_TightZone (c, B) = some (tightZ c B) := by
  unfold spec_TightZone tightZ
  simp only [specZone, Option.bind_some]
  cases h : okZone c B with
  | false => simp
  | true =>
    obtain ⟨m, rfl, h1, h2, h3, _⟩ := okZone_spec h
    simp only [Bool.not_true, cond_false, spec_tightY h2 h3, Option.bind_some, tightY, true_and]

theorem impl_tightZ {c : Int} {B : List Int} : impl_TightZone (c, B) = some (tightZ c B) := by
  unfold impl_TightZone tightZ
  simp only [implZone, Option.bind_some]
  cases h : okZone c B with
  | false => simp
  | true =>
    obtain ⟨m, rfl, h1, h2, h3, _⟩ := okZone_spec h
    have h5 : (m + 1) * (m + 1) ≤ 5 * 5 := Nat.mul_le_mul (by omega) (by omega)
    have hcl : slices_Clone B = some B := by
      unfold slices_Clone
      rw [guard_pos (by simp only [appMax]; omega)]
    simp only [Bool.not_true, cond_false, hcl, Option.bind_some, impl_Zone_wide, wide_eq (c := m) (n := m + 1) rfl h2, impl_t3 (c := m) (n := m + 1) rfl h2 h3, implZone, true_and, Int.toNat_natCast]
    cases okZone (m : Int) (tight (m + 1) B) <;> rfl

end Go.Proofs


namespace Go.Proofs
open Go.Ide Go.IntWalk

end Go.Proofs


namespace Go.Proofs
open Go.Ide Go.IntWalk

def later (n : Nat) (k : Nat) (B : List Int) : List Int := forS (fun i B => B.set (i * n) 1000000000) k 1 B

theorem later_len {n k m : Nat} {B : List Int} (h : B.length = m) : (later n k B).length = m :=
  forS_inv (I := fun B => B.length = m) (fun k s hs => by rw [List.length_set]; exact hs) k 1 B h

theorem impl_later {m : Nat} {T : List Int} (h1 : 1 ≤ m) (h2 : m ≤ 4) (hT : T.length = (m + 1) * (m + 1)) (b : Bool) (X : List Int) : rounds (impl_LaterZone_B1 (((m : Int), X), b)) ((1 : Int), T) = some (later (m + 1) m T) := by
  refine (rounds_forS (fun k B => (((k : Nat) : Int), B)) (fun i B => B.set (i * (m + 1)) 1000000000) id (n := m + 1) (fun _ B => B.length = (m + 1) * (m + 1)) (fun k B hk hB => ⟨?_, by rw [List.length_set]; exact hB⟩) (fun B hB => ?_) m 1 T (by omega) hT).1
  · unfold impl_LaterZone_B1
    have hlt : k * (m + 1) + 0 < (m + 1) * (m + 1) := cell_lt hk (by omega)
    have e := at_eq (c := m) (n := m + 1) (B := B) (i := k) (k := 0) rfl h2 hk (by omega)
    simp only [Int.natCast_zero, Nat.add_zero] at e
    simp only [show decide ((k : Int) ≤ (m : Int)) = true from by simp; omega, cond_true, e, Option.bind_some, guard_pos (show (0 : Int) ≤ ((k * (m + 1) : Nat) : Int) ∧ ((k * (m + 1) : Nat) : Int) < lenI B from by simp only [lenI]; omega), Int.toNat_natCast, nextN hk (by omega)]
  · unfold impl_LaterZone_B1
    simp only [show decide (((m + 1 : Nat) : Int) ≤ (m : Int)) = false from by simp; omega, cond_false]
    rfl

end Go.Proofs


namespace Go.Proofs
open Go.Ide Go.IntWalk

theorem cell_inj {n i j i' j' : Nat} (hj : j < n) (hj' : j' < n) (h : i * n + j = i' * n + j') : i = i' ∧ j = j' := by
  have h1 : (i * n + j) / n = i := by rw [Nat.mul_comm, Nat.mul_add_div (by omega), Nat.div_eq_of_lt hj]; rfl
  have h2 : (i' * n + j') / n = i' := by rw [Nat.mul_comm, Nat.mul_add_div (by omega), Nat.div_eq_of_lt hj']; rfl
  have e : i = i' := by rw [← h1, ← h2, h]
  subst e
  exact ⟨rfl, by omega⟩

theorem getD_set {α : Type} {xs : List α} {i j : Nat} {x d : α} (hi : i < xs.length) : (xs.set i x).getD j d = if i = j then x else xs.getD j d := by
  rw [List.getD_eq_getElem?_getD, List.getElem?_set]
  split
  · simp [hi]
  · rw [List.getD_eq_getElem?_getD]

def resetC (n c : Nat) (T : List Int) (i j : Nat) : Int := if i = c then (if j = c then 0 else T.getD j 0) else if j = c then T.getD (i * n) 0 else T.getD (i * n + j) 0

theorem impl_reset2 {m c : Nat} {T : List Int} (h1 : 1 ≤ c) (h2 : c ≤ m) (h3 : m ≤ 4) (hT : T.length = (m + 1) * (m + 1)) (b : Bool) (X : List Int) :
    ∃ S, rounds (impl_ResetZone_B2 (c : Int) (((m : Int), X), b) ((m + 1 : Nat) : Int)) ((0 : Int), T) = some S ∧ S.length = (m + 1) * (m + 1) ∧ ∀ i j, i < m + 1 → j < m + 1 → S.getD (i * (m + 1) + j) 0 = if i = c then T.getD j 0 else T.getD (i * (m + 1) + j) 0 := by
  have hI := rounds_forS (f := impl_ResetZone_B2 (c : Int) (((m : Int), X), b) ((m + 1 : Nat) : Int)) (fun k B => (((k : Nat) : Int), B)) (fun k B => B.set (c * (m + 1) + k) (B.getD k 0)) id (n := m + 1)
    (fun k B => B.length = (m + 1) * (m + 1) ∧ ∀ i j, i < m + 1 → j < m + 1 → B.getD (i * (m + 1) + j) 0 = if i = c ∧ j < k then T.getD j 0 else T.getD (i * (m + 1) + j) 0)
    (fun k B hk hB => ⟨?_, ?_⟩) (fun B hB => ?_) (m + 1) 0 T (by omega) ⟨hT, fun i j hi hj => by rw [if_neg (by omega)]⟩
  · refine ⟨_, hI.1, hI.2.1, fun i j hi hj => ?_⟩
    rw [show (id (forS _ (m + 1) 0 T)) = forS _ (m + 1) 0 T from rfl, hI.2.2 i j hi hj]
    by_cases e : i = c
    · rw [if_pos ⟨e, hj⟩, if_pos e]
    · rw [if_neg (fun h => e h.1), if_neg e]
  · unfold impl_ResetZone_B2
    obtain ⟨hB, _⟩ := hB
    have q1 : 0 * (m + 1) + k < (m + 1) * (m + 1) := cell_lt (by omega) hk
    have q2 : c * (m + 1) + k < (m + 1) * (m + 1) := cell_lt (by omega) hk
    have g : ∀ a, a < (m + 1) * (m + 1) → (0 : Int) ≤ ((a : Nat) : Int) ∧ ((a : Nat) : Int) < lenI B := fun a ha => by simp only [lenI]; omega
    have e0 := at_eq (c := m) (n := m + 1) (B := B) (i := 0) (k := k) rfl h3 (by omega) hk
    simp only [Int.natCast_zero] at e0
    simp only [ltN hk, cond_true, at_eq (c := m) (n := m + 1) (B := B) (i := c) (k := k) rfl h3 (by omega) hk, e0, Option.bind_some, guard_pos (g _ q1), guard_pos (g _ q2), Int.toNat_natCast, nextN hk (by omega), Nat.zero_mul, Nat.zero_add]
    rw [guard_pos (by have := g _ q1; simpa using this)]
  · obtain ⟨hB, hI⟩ := hB
    refine ⟨by rw [List.length_set]; exact hB, fun i j hi hj => ?_⟩
    have q1 : c * (m + 1) + k < (m + 1) * (m + 1) := cell_lt (by omega) hk
    rw [getD_set (by omega), hI i j hi hj]
    by_cases p2 : c * (m + 1) + k = i * (m + 1) + j
    · obtain ⟨rfl, rfl⟩ := cell_inj hk hj p2
      rw [if_pos p2, if_pos ⟨rfl, by omega⟩]
      have := hI 0 k (by omega) hk
      rw [Nat.zero_mul, Nat.zero_add, if_neg (by omega)] at this
      exact this
    · rw [if_neg p2]
      by_cases e : i = c
      · have : j ≠ k := fun h => p2 (by rw [e, h])
        by_cases hjk : j < k
        · rw [if_pos ⟨e, hjk⟩, if_pos ⟨e, by omega⟩]
        · rw [if_neg (by omega), if_neg (by omega)]
      · rw [if_neg (fun h => e h.1), if_neg (fun h => e h.1)]
  · unfold impl_ResetZone_B2
    simp only [geN (Nat.le_refl (m + 1)), cond_false]
    rfl

theorem impl_reset1 {m c : Nat} {T : List Int} (h1 : 1 ≤ c) (h2 : c ≤ m) (h3 : m ≤ 4) (hT : T.length = (m + 1) * (m + 1)) (b : Bool) (X : List Int) :
    ∃ S, rounds (impl_ResetZone_B1 (c : Int) (((m : Int), X), b) ((m + 1 : Nat) : Int)) ((0 : Int), T) = some S ∧ S.length = (m + 1) * (m + 1) ∧ ∀ i j, i < m + 1 → j < m + 1 → S.getD (i * (m + 1) + j) 0 = if j = c then T.getD (i * (m + 1)) 0 else T.getD (i * (m + 1) + j) 0 := by
  have hI := rounds_forS (f := impl_ResetZone_B1 (c : Int) (((m : Int), X), b) ((m + 1 : Nat) : Int)) (fun k B => (((k : Nat) : Int), B)) (fun k B => B.set (k * (m + 1) + c) (B.getD (k * (m + 1)) 0)) id (n := m + 1)
    (fun k B => B.length = (m + 1) * (m + 1) ∧ ∀ i j, i < m + 1 → j < m + 1 → B.getD (i * (m + 1) + j) 0 = if j = c ∧ i < k then T.getD (i * (m + 1)) 0 else T.getD (i * (m + 1) + j) 0)
    (fun k B hk hB => ⟨?_, ?_⟩) (fun B hB => ?_) (m + 1) 0 T (by omega) ⟨hT, fun i j hi hj => by rw [if_neg (by omega)]⟩
  · refine ⟨_, hI.1, hI.2.1, fun i j hi hj => ?_⟩
    rw [show (id (forS _ (m + 1) 0 T)) = forS _ (m + 1) 0 T from rfl, hI.2.2 i j hi hj]
    by_cases e : j = c
    · rw [if_pos ⟨e, hi⟩, if_pos e]
    · rw [if_neg (fun h => e h.1), if_neg e]
  · unfold impl_ResetZone_B1
    obtain ⟨hB, _⟩ := hB
    have q1 : k * (m + 1) + 0 < (m + 1) * (m + 1) := cell_lt hk (by omega)
    have q2 : k * (m + 1) + c < (m + 1) * (m + 1) := cell_lt hk (by omega)
    have g : ∀ a, a < (m + 1) * (m + 1) → (0 : Int) ≤ ((a : Nat) : Int) ∧ ((a : Nat) : Int) < lenI B := fun a ha => by simp only [lenI]; omega
    have e0 := at_eq (c := m) (n := m + 1) (B := B) (i := k) (k := 0) rfl h3 hk (by omega)
    simp only [Int.natCast_zero] at e0
    simp only [ltN hk, cond_true, at_eq (c := m) (n := m + 1) (B := B) (i := k) (k := c) rfl h3 hk (by omega), e0, Option.bind_some, guard_pos (g _ q1), guard_pos (g _ q2), Int.toNat_natCast, nextN hk (by omega), Nat.add_zero]
    rw [guard_pos (by have := g _ q1; simpa using this)]
  · obtain ⟨hB, hI⟩ := hB
    refine ⟨by rw [List.length_set]; exact hB, fun i j hi hj => ?_⟩
    have q1 : k * (m + 1) + c < (m + 1) * (m + 1) := cell_lt hk (by omega)
    rw [getD_set (by omega), hI i j hi hj]
    by_cases p2 : k * (m + 1) + c = i * (m + 1) + j
    · obtain ⟨rfl, rfl⟩ := cell_inj (by omega) hj p2
      rw [if_pos p2, if_pos ⟨rfl, by omega⟩]
      have := hI k 0 hk (by omega)
      rw [Nat.add_zero, if_neg (by omega)] at this
      exact this
    · rw [if_neg p2]
      by_cases e : j = c
      · have : i ≠ k := fun h => p2 (by rw [e, h])
        by_cases hjk : i < k
        · rw [if_pos ⟨e, hjk⟩, if_pos ⟨e, by omega⟩]
        · rw [if_neg (by omega), if_neg (by omega)]
      · rw [if_neg (fun h => e h.1), if_neg (fun h => e h.1)]
  · unfold impl_ResetZone_B1
    simp only [geN (Nat.le_refl (m + 1)), cond_false]
    rfl

theorem reset_ok {m c : Nat} {T S : List Int} (h1 : 1 ≤ c) (h2 : c ≤ m) (h3 : m ≤ 4) (hT : okZone (m : Int) T = true) (hS : S.length = (m + 1) * (m + 1)) (h : ∀ i j, i < m + 1 → j < m + 1 → S.getD (i * (m + 1) + j) 0 = resetC (m + 1) c T i j) : okZone (m : Int) S = true := by
  obtain ⟨m', e, g1, g2, g3, g4⟩ := okZone_spec hT
  obtain rfl : m = m' := by omega
  refine okZone_mk g1 g2 hS fun i k hi hk => ?_
  rw [h i k hi hk]
  unfold resetC
  have z : ∀ a b, a < m + 1 → b < m + 1 → ((-1000000 ≤ T.getD (a * (m + 1) + b) 0 ∧ T.getD (a * (m + 1) + b) 0 ≤ 1000000) ∨ T.getD (a * (m + 1) + b) 0 = 1000000000) ∧ (a = b → T.getD (a * (m + 1) + b) 0 = 0) ∧ (a = 0 → T.getD (a * (m + 1) + b) 0 ≤ 0) := by
    intro a b ha hb
    have := g4 a b ha hb
    unfold okCell at this
    simp only [Bool.not_eq_true', Bool.or_eq_false_iff, Bool.and_eq_false_iff, Bool.not_eq_false', Bool.and_eq_true, decide_eq_true_eq, bne_eq_false_iff_eq, decide_eq_false_iff_not] at this
    omega
  have mk : ∀ (a b : Nat) (x : Int), ((-1000000 ≤ x ∧ x ≤ 1000000) ∨ x = 1000000000) → (a = b → x = 0) → (a = 0 → x ≤ 0) → okCell a b x = true := by
    intro a b x p1 p2 p3
    unfold okCell
    simp only [Bool.not_eq_true', Bool.or_eq_false_iff, Bool.and_eq_false_iff, Bool.not_eq_false', Bool.and_eq_true, decide_eq_true_eq, bne_eq_false_iff_eq, decide_eq_false_iff_not]
    omega
  have z0 := z 0 k (by omega) hk
  have zi := z i 0 hi (by omega)
  have zk := z i k hi hk
  simp only [Nat.zero_mul, Nat.zero_add, Nat.add_zero] at z0 zi
  by_cases e1 : i = c
  · rw [if_pos e1]
    by_cases e2 : k = c
    · rw [if_pos e2]; exact mk _ _ _ (by omega) (by omega) (by omega)
    · rw [if_neg e2]; exact mk _ _ _ z0.1 (by omega) (by omega)
  · rw [if_neg e1]
    by_cases e2 : k = c
    · rw [if_pos e2]; exact mk _ _ _ zi.1 (by omega) (fun h => by have := zi.2.1 h; omega)
    · rw [if_neg e2]; exact mk _ _ _ zk.1 zk.2.1 zk.2.2

end Go.Proofs


namespace Go.Proofs
open Go.Ide Go.IntWalk

def lessI (a b : Int) : Int := if a < b then a else b
def meetL (A B : List Int) (n : Nat) : List Int := (List.range n).map fun i => lessI (A.getD i 0) (B.getD i 0)

theorem meetL_succ (A B : List Int) (n : Nat) : meetL A B (n + 1) = meetL A B n ++ [lessI (A.getD n 0) (B.getD n 0)] := by
  simp [meetL, List.range_succ]

theorem spec_meetL {c d : Int} {A B : List Int} (h : A.length = B.length) (hA : A.length ≤ 1000) : rounds (spec_MeetZone_B1 (c, A) (d, B)) ((0 : Int), ([] : List Int)) = some (meetL A B A.length) := by
  have := rounds_forS (f := spec_MeetZone_B1 (c, A) (d, B)) (fun k s => (((k : Nat) : Int), s)) (fun i s => s ++ [lessI (A.getD i 0) (B.getD i 0)]) id (n := A.length) (fun i s => s = meetL A B i)
    (fun i s hi hs => ⟨?_, by rw [hs, meetL_succ]⟩) (fun s hs => ?_) A.length 0 [] (by omega) rfl
  · rw [show ((0 : Int), ([] : List Int)) = (((0 : Nat) : Int), ([] : List Int)) from rfl, this.1, ← this.2]
    rfl
  · unfold spec_MeetZone_B1 spec_l00Min
    have hl : s.length = i := by rw [hs]; simp [meetL]
    have e : (bif decide (A.getD i 0 < B.getD i 0) then some (A.getD i 0) else some (B.getD i 0)) = some (lessI (A.getD i 0) (B.getD i 0)) := by
      unfold lessI
      by_cases hlt : A.getD i 0 < B.getD i 0
      · rw [if_pos hlt]; simp only [hlt, decide_true, cond_true]
      · rw [if_neg hlt]; simp only [hlt, decide_false, cond_false]
    simp only [ltN hi, cond_true, guard_pos (idxN (i := i) (n := A.length) hi), guard_pos (idxN (i := i) (n := B.length) (by omega)), Int.toNat_natCast, e, Option.bind_some, nextN hi (by omega)]
    rw [guard_pos (by simp only [appMax, List.length_cons, List.length_nil]; omega)]
  · unfold spec_MeetZone_B1
    simp only [geN (Nat.le_refl _), cond_false]
    rfl

theorem impl_meetL {c d : Int} {A B : List Int} (h : A.length = B.length) (hA : A.length ≤ 1000) : rounds (impl_MeetZone_B1 (c, A) (d, B)) ((0 : Int), ([] : List Int)) = some (meetL A B A.length) := by
  have := rounds_forS (f := impl_MeetZone_B1 (c, A) (d, B)) (fun k s => (((k : Nat) : Int), s)) (fun i s => s ++ [lessI (A.getD i 0) (B.getD i 0)]) id (n := A.length) (fun i s => s = meetL A B i)
    (fun i s hi hs => ⟨?_, by rw [hs, meetL_succ]⟩) (fun s hs => ?_) A.length 0 [] (by omega) rfl
  · rw [show ((0 : Int), ([] : List Int)) = (((0 : Nat) : Int), ([] : List Int)) from rfl, this.1, ← this.2]
    rfl
  · unfold impl_MeetZone_B1
    have hl : s.length = i := by rw [hs]; simp [meetL]
    have e : (if B.getD i 0 < A.getD i 0 then B.getD i 0 else A.getD i 0) = lessI (A.getD i 0) (B.getD i 0) := by
      unfold lessI
      split <;> split <;> omega
    simp only [ltN hi, cond_true, guard_pos (idxN (i := i) (n := A.length) hi), guard_pos (idxN (i := i) (n := B.length) (by omega)), Int.toNat_natCast, e, Option.bind_some, nextN hi (by omega)]
    rw [guard_pos (by simp only [appMax, List.length_cons, List.length_nil]; omega)]
  · unfold impl_MeetZone_B1
    simp only [geN (Nat.le_refl _), cond_false]
    rfl

theorem okCell_iff {a b : Nat} {x : Int} : okCell a b x = true ↔ ((-1000000 ≤ x ∧ x ≤ 1000000) ∨ x = 1000000000) ∧ (a = b → x = 0) ∧ (a = 0 → x ≤ 0) := by
  unfold okCell
  simp only [Bool.not_eq_true', Bool.or_eq_false_iff, Bool.and_eq_false_iff, Bool.not_eq_false', Bool.and_eq_true, decide_eq_true_eq, bne_eq_false_iff_eq, decide_eq_false_iff_not]
  omega

theorem meetL_ok {m : Nat} {A B : List Int} (hA : okZone (m : Int) A = true) (hB : okZone (m : Int) B = true) : okZone (m : Int) (meetL A B A.length) = true := by
  obtain ⟨m1, e1, a1, a2, a3, a4⟩ := okZone_spec hA
  obtain rfl : m = m1 := by omega
  obtain ⟨m2, e2, b1, b2, b3, b4⟩ := okZone_spec hB
  obtain rfl : m = m2 := by omega
  refine okZone_mk a1 a2 (by simp [meetL, a3]) fun i k hi hk => ?_
  have hlt := cell_lt hi hk
  have e : (meetL A B A.length).getD (i * (m + 1) + k) 0 = lessI (A.getD (i * (m + 1) + k) 0) (B.getD (i * (m + 1) + k) 0) := by
    rw [List.getD_eq_getElem?_getD, List.getElem?_eq_getElem (by simp [meetL]; omega)]
    simp [meetL]
  rw [e]
  have h1 := okCell_iff.1 (a4 i k hi hk)
  have h2 := okCell_iff.1 (b4 i k hi hk)
  unfold lessI
  split
  · exact okCell_iff.2 h1
  · exact okCell_iff.2 h2

end Go.Proofs


/-
  Zones: what they hold for.
-/
namespace Go.Proofs
open Go.Ide Go.IntWalk

theorem forS_invN {σ : Type} {g : Nat → σ → σ} {I : σ → Prop} {n : Nat} (h : ∀ i s, i < n → I s → I (g i s)) : ∀ (k i : Nat) (s : σ), i + k ≤ n → I s → I (forS g k i s)
  | 0, _, _, _, hs => hs
  | k + 1, i, s, hi, hs => forS_invN h k (i + 1) (g i s) (by omega) (h i s (by omega) hs)

theorem forS_invI {σ : Type} {g : Nat → σ → σ} {I : Nat → σ → Prop} {n : Nat} (h : ∀ i s, i < n → I i s → I (i + 1) (g i s)) : ∀ (k i : Nat) (s : σ), i + k ≤ n → I i s → I (i + k) (forS g k i s)
  | 0, _, _, _, hs => hs
  | k + 1, i, s, hi, hs => by
    rw [show i + (k + 1) = (i + 1) + k by omega]
    exact forS_invI h k (i + 1) (g i s) (by omega) (h i s (by omega) hs)

def bnd (n : Nat) (B : List Int) (i k : Nat) : Int := B.getD (i * n + k) 0

def HoldsZ (n : Nat) (B : List Int) (x : Nat → Int) : Prop := ∀ i k, i < n → k < n → bnd n B i k ≠ 1000000000 → x i - x k ≤ bnd n B i k

theorem bnd_set {n : Nat} {B : List Int} {i k p q : Nat} {v : Int} (hB : B.length = n * n) (hi : i < n) (hk : k < n) (hq : q < n) :
    bnd n (B.set (i * n + k) v) p q = if p = i ∧ q = k then v else bnd n B p q := by
  unfold bnd
  rw [getD_set (by have := cell_lt hi hk; omega)]
  by_cases e : i * n + k = p * n + q
  · obtain ⟨e1, e2⟩ := cell_inj hk hq e
    rw [if_pos e, if_pos ⟨e1.symm, e2.symm⟩]
  · rw [if_neg e, if_neg (fun h => e (by rw [h.1, h.2]))]

theorem tcell_bnd {n j i k p q : Nat} {B : List Int} (hB : B.length = n * n) (hi : i < n) (hk : k < n) (hq : q < n) :
    (bnd n (tcell n j i k B) p q = bnd n B p q) ∨
    (p = i ∧ q = k ∧ bnd n B i j ≠ 1000000000 ∧ bnd n B j k ≠ 1000000000 ∧ wadd .i64 (bnd n B i j) (bnd n B j k) < bnd n B i k ∧ bnd n (tcell n j i k B) p q = wadd .i64 (bnd n B i j) (bnd n B j k)) := by
  have ht : tcell n j i k B = bif ((bnd n B i j != 1000000000) && ((bnd n B j k != 1000000000) && decide (wadd .i64 (bnd n B i j) (bnd n B j k) < bnd n B i k))) then B.set (i * n + k) (wadd .i64 (bnd n B i j) (bnd n B j k)) else B := rfl
  cases hc : ((bnd n B i j != 1000000000) && ((bnd n B j k != 1000000000) && decide (wadd .i64 (bnd n B i j) (bnd n B j k) < bnd n B i k))) with
  | false => left; rw [ht, hc]; rfl
  | true =>
    have hs : bnd n (tcell n j i k B) p q = if p = i ∧ q = k then wadd .i64 (bnd n B i j) (bnd n B j k) else bnd n B p q := by
      rw [ht, hc]; exact bnd_set hB hi hk hq
    simp only [Bool.and_eq_true, bne_iff_ne, ne_eq, decide_eq_true_eq] at hc
    by_cases e : p = i ∧ q = k
    · right
      rw [if_pos e] at hs
      exact ⟨e.1, e.2, hc.1, hc.2.1, hc.2.2, hs⟩
    · left
      rw [hs, if_neg e]

theorem tight_le {n : Nat} {B : List Int} (hB : B.length = n * n) : ∀ p q, p < n → q < n → bnd n (tight n B) p q ≤ bnd n B p q := by
  have := forS_invN (g := tpass n) (n := n) (I := fun C => C.length = n * n ∧ ∀ p q, p < n → q < n → bnd n C p q ≤ bnd n B p q) (fun j C hj hC => by
    refine forS_invN (g := trow n j) (n := n) (I := fun C => C.length = n * n ∧ ∀ p q, p < n → q < n → bnd n C p q ≤ bnd n B p q) (fun i C hi hC => ?_) n 0 C (by omega) hC
    refine forS_invN (g := tcell n j i) (n := n) (I := fun C => C.length = n * n ∧ ∀ p q, p < n → q < n → bnd n C p q ≤ bnd n B p q) (fun k C hk hC => ?_) n 0 C (by omega) hC
    refine ⟨by rw [tcell_len]; exact hC.1, fun p q hp hq => ?_⟩
    rcases tcell_bnd (j := j) (p := p) hC.1 hi hk hq with e | ⟨e1, e2, _, _, h1, h2⟩
    · rw [e]; exact hC.2 p q hp hq
    · rw [h2]
      subst e1; subst e2
      exact Int.le_trans (Int.le_of_lt h1) (hC.2 p q hp hq)) n 0 B (by omega) ⟨hB, fun _ _ _ _ => Int.le_refl _⟩
  exact this.2

section
variable {n : Nat} {x : Nat → Int}

structure PassI (n : Nat) (x : Nat → Int) (M : Int) (B : List Int) : Prop where
  len : B.length = n * n
  holds : HoldsZ n B x
  most : ∀ p q, p < n → q < n → bnd n B p q ≠ 1000000000 → bnd n B p q ≤ M
  diag : ∀ p, p < n → bnd n B p p = 0

theorem pass_keeps {M : Int} {B : List Int} {j : Nat} (hj : j < n) (hM : 0 ≤ M ∧ M ≤ 100000000) (hx : ∀ i, i < n → 0 ≤ x i ∧ x i ≤ 1000000) (h : PassI n x M B) : PassI n x (2 * M) (tpass n j B) := by
  have key := forS_invN (g := trow n j) (n := n) (I := fun C => PassI n x (2 * M) C ∧ ∀ p, p < n → bnd n C p j = bnd n B p j ∧ bnd n C j p = bnd n B j p) (fun i C hi hC => by
    refine forS_invN (g := tcell n j i) (n := n) (I := fun C => PassI n x (2 * M) C ∧ ∀ p, p < n → bnd n C p j = bnd n B p j ∧ bnd n C j p = bnd n B j p) (fun k C hk hC => ?_) n 0 C (by omega) hC
    obtain ⟨hC, hrc⟩ := hC
    have hbij : bnd n C i j ≠ 1000000000 → x i - x j ≤ bnd n C i j ∧ bnd n C i j ≤ M := fun hne => ⟨hC.holds i j hi hj hne, by
      rw [(hrc i hi).1] at hne ⊢; exact h.most i j hi hj hne⟩
    have hbjk : bnd n C j k ≠ 1000000000 → x j - x k ≤ bnd n C j k ∧ bnd n C j k ≤ M := fun hne => ⟨hC.holds j k hj hk hne, by
      rw [(hrc k hk).2] at hne ⊢; exact h.most j k hj hk hne⟩
    have xi := hx i hi
    have xj := hx j hj
    have xk := hx k hk
    -- what is written
    have hw : bnd n C i j ≠ 1000000000 → bnd n C j k ≠ 1000000000 → wadd .i64 (bnd n C i j) (bnd n C j k) = bnd n C i j + bnd n C j k := fun h1 h2 => by
      have a1 := hbij h1
      have a2 := hbjk h2
      exact waddI (by omega)
    have hne : bnd n C i j ≠ 1000000000 → bnd n C j k ≠ 1000000000 → bnd n C i j + bnd n C j k < bnd n C i k → i ≠ j ∧ k ≠ j ∧ i ≠ k := fun h1 h2 h3 => by
      have a1 := hbij h1
      have a2 := hbjk h2
      have d := hC.diag j hj
      refine ⟨fun e => ?_, fun e => ?_, fun e => ?_⟩
      · subst e; omega
      · subst e; omega
      · subst e
        have := hC.diag i hi
        omega
    refine ⟨⟨by rw [tcell_len]; exact hC.len, fun p q hp hq hnb => ?_, fun p q hp hq hnb => ?_, fun p hp => ?_⟩, fun p hp => ⟨?_, ?_⟩⟩
    · rcases tcell_bnd (j := j) (p := p) hC.len hi hk hq with e | ⟨e1, e2, h1, h2, h3, h4⟩
      · rw [e] at hnb ⊢; exact hC.holds p q hp hq hnb
      · rw [h4, hw h1 h2]
        subst e1; subst e2
        have a1 := hbij h1
        have a2 := hbjk h2
        omega
    · rcases tcell_bnd (j := j) (p := p) hC.len hi hk hq with e | ⟨e1, e2, h1, h2, h3, h4⟩
      · rw [e] at hnb ⊢; exact hC.most p q hp hq hnb
      · rw [h4, hw h1 h2]
        have a1 := hbij h1
        have a2 := hbjk h2
        omega
    · rcases tcell_bnd (j := j) (p := p) hC.len hi hk hp with e | ⟨e1, e2, h1, h2, h3, h4⟩
      · rw [e]; exact hC.diag p hp
      · rw [hw h1 h2] at h3
        exact absurd (e1.symm.trans e2) (hne h1 h2 h3).2.2
    · rcases tcell_bnd (j := j) (p := p) hC.len hi hk hj with e | ⟨e1, e2, h1, h2, h3, h4⟩
      · rw [e]; exact (hrc p hp).1
      · rw [hw h1 h2] at h3
        exact absurd e2.symm (hne h1 h2 h3).2.1
    · rcases tcell_bnd (j := j) (p := j) hC.len hi hk hp with e | ⟨e1, e2, h1, h2, h3, h4⟩
      · rw [e]; exact (hrc p hp).2
      · rw [hw h1 h2] at h3
        exact absurd e1.symm (hne h1 h2 h3).1) n 0 B (by omega) ⟨⟨h.len, h.holds, fun p q hp hq hnb => by have := h.most p q hp hq hnb; omega, h.diag⟩, fun _ _ => ⟨rfl, rfl⟩⟩
  exact key.1

theorem tight_keeps {M : Int} {B : List Int} (hn : n ≤ 5) (hM : 0 ≤ M ∧ M ≤ 1000) (hx : ∀ i, i < n → 0 ≤ x i ∧ x i ≤ 1000000) (h : PassI n x M B) : PassI n x (2 ^ n * M) (tight n B) := by
  have := forS_invI (g := tpass n) (n := n) (I := fun j C => PassI n x (2 ^ j * M) C) (fun j C hj hC => by
    have hp : (2 : Int) ^ j ≤ 32 := by
      have h5 : j ≤ 5 := by omega
      rcases j with _ | _ | _ | _ | _ | _ | j <;> first | decide | omega
    have hp0 : (0 : Int) < 2 ^ j := Int.pow_pos (by decide)
    have h1 : (2 : Int) ^ j * M ≤ 32 * 1000 := Int.mul_le_mul hp hM.2 hM.1 (by decide)
    have h0 : 0 ≤ (2 : Int) ^ j * M := Int.mul_nonneg (by omega) hM.1
    have := pass_keeps hj ⟨h0, by omega⟩ hx hC
    rw [show (2 : Int) ^ (j + 1) * M = 2 * (2 ^ j * M) by rw [Int.pow_succ, Int.mul_comm ((2 : Int) ^ j) 2, Int.mul_assoc]]
    exact this) n 0 B (by omega) (by rw [Int.pow_zero, Int.one_mul]; exact h)
  rw [Nat.zero_add] at this
  exact this

end

def SmallZ (n : Nat) (B : List Int) : Prop := ∀ p q, p < n → q < n → bnd n B p q ≠ 1000000000 → bnd n B p q ≤ 1000

theorem ok_bnd {m : Nat} {B : List Int} (h : okZone (m : Int) B = true) : 1 ≤ m ∧ m ≤ 4 ∧ B.length = (m + 1) * (m + 1) ∧ ∀ p q, p < m + 1 → q < m + 1 →
    ((-1000000 ≤ bnd (m + 1) B p q ∧ bnd (m + 1) B p q ≤ 1000000) ∨ bnd (m + 1) B p q = 1000000000) ∧ (p = q → bnd (m + 1) B p q = 0) ∧ (p = 0 → bnd (m + 1) B p q ≤ 0) := by
  obtain ⟨m', e, h1, h2, h3, h4⟩ := okZone_spec h
  obtain rfl : m = m' := by omega
  exact ⟨h1, h2, h3, fun p q hp hq => okCell_iff.1 (h4 p q hp hq)⟩

theorem ok_of_bnd {m : Nat} {B : List Int} (h1 : 1 ≤ m) (h2 : m ≤ 4) (h3 : B.length = (m + 1) * (m + 1)) (h4 : ∀ p q, p < m + 1 → q < m + 1 →
    ((-1000000 ≤ bnd (m + 1) B p q ∧ bnd (m + 1) B p q ≤ 1000000) ∨ bnd (m + 1) B p q = 1000000000) ∧ (p = q → bnd (m + 1) B p q = 0) ∧ (p = 0 → bnd (m + 1) B p q ≤ 0)) : okZone (m : Int) B = true :=
  okZone_mk h1 h2 h3 fun i k hi hk => okCell_iff.2 (h4 i k hi hk)

theorem tight_times {m : Nat} {B : List Int} {x : Nat → Int} (ok : okZone (m : Int) B = true) (hs : SmallZ (m + 1) B) (hx : ∀ i, i < m + 1 → 0 ≤ x i ∧ x i ≤ 1000000) (hh : HoldsZ (m + 1) B x) :
    okZone (m : Int) (tight (m + 1) B) = true ∧ HoldsZ (m + 1) (tight (m + 1) B) x := by
  obtain ⟨h1, h2, h3, h4⟩ := ok_bnd ok
  have hp := tight_keeps (n := m + 1) (x := x) (M := 1000) (B := B) (by omega) (by decide) hx ⟨h3, hh, hs, fun p hp => (h4 p p hp hp).2.1 rfl⟩
  have hpow : (2 : Int) ^ (m + 1) * 1000 ≤ 32000 := by
    rcases m with _ | _ | _ | _ | _ | m <;> first | decide | omega
  refine ⟨ok_of_bnd h1 h2 hp.len fun p q hp' hq' => ⟨?_, fun e => by subst e; exact hp.diag p hp', fun e => ?_⟩, hp.holds⟩
  · by_cases e : bnd (m + 1) (tight (m + 1) B) p q = 1000000000
    · exact .inr e
    · have a := hp.holds p q hp' hq' e
      have b := hp.most p q hp' hq' e
      have := hx p hp'
      have := hx q hq'
      exact .inl ⟨by omega, by omega⟩
  · have := tight_le h3 p q hp' hq'
    have := (h4 p q hp' hq').2.2 e
    omega

theorem tight_back {m : Nat} {B : List Int} {x : Nat → Int} (ok : okZone (m : Int) B = true) (hh : HoldsZ (m + 1) (tight (m + 1) B) x) : HoldsZ (m + 1) B x := fun i k hi hk hne => by
  obtain ⟨h1, h2, h3, h4⟩ := ok_bnd ok
  have hle := tight_le h3 i k hi hk
  have := (h4 i k hi hk).1
  have := hh i k hi hk (by omega)
  omega

theorem meet_bnd {n : Nat} {A B : List Int} (hA : A.length = n * n) {p q : Nat} (hp : p < n) (hq : q < n) : bnd n (meetL A B A.length) p q = lessI (bnd n A p q) (bnd n B p q) := by
  have := cell_lt hp hq
  unfold bnd
  rw [List.getD_eq_getElem?_getD, List.getElem?_eq_getElem (by simp [meetL]; omega)]
  simp [meetL]

theorem meet_holds {m : Nat} {A B : List Int} {x : Nat → Int} (hA : okZone (m : Int) A = true) (hB : okZone (m : Int) B = true) : HoldsZ (m + 1) (meetL A B A.length) x ↔ HoldsZ (m + 1) A x ∧ HoldsZ (m + 1) B x := by
  obtain ⟨_, _, a3, a4⟩ := ok_bnd hA
  obtain ⟨_, _, b3, b4⟩ := ok_bnd hB
  constructor
  · intro h
    constructor
    · intro i k hi hk hne
      have := h i k hi hk
      rw [meet_bnd a3 hi hk] at this
      have h1 := (a4 i k hi hk).1
      unfold lessI at this
      split at this
      · exact this hne
      · have := this (by omega)
        omega
    · intro i k hi hk hne
      have := h i k hi hk
      rw [meet_bnd a3 hi hk] at this
      have h1 := (b4 i k hi hk).1
      unfold lessI at this
      split at this
      · have := this (by omega)
        omega
      · exact this hne
  · rintro ⟨h1, h2⟩ i k hi hk hne
    rw [meet_bnd a3 hi hk] at hne ⊢
    unfold lessI at hne ⊢
    split at hne
    · rename_i h; rw [if_pos h]; exact h1 i k hi hk hne
    · rename_i h; rw [if_neg h]; exact h2 i k hi hk hne

theorem meet_small {m : Nat} {A B : List Int} (hA : okZone (m : Int) A = true) (h1 : SmallZ (m + 1) A) (h2 : SmallZ (m + 1) B) : SmallZ (m + 1) (meetL A B A.length) := fun p q hp hq hne => by
  obtain ⟨_, _, a3, _⟩ := ok_bnd hA
  rw [meet_bnd a3 hp hq] at hne ⊢
  unfold lessI at hne ⊢
  split at hne
  · rename_i h; rw [if_pos h]; exact h1 p q hp hq hne
  · rename_i h; rw [if_neg h]; exact h2 p q hp hq hne

theorem later_bnd {m : Nat} {T : List Int} (hT : T.length = (m + 1) * (m + 1)) : ∀ p q, p < m + 1 → q < m + 1 → bnd (m + 1) (later (m + 1) m T) p q = if 1 ≤ p ∧ q = 0 then 1000000000 else bnd (m + 1) T p q := by
  have := forS_invI (g := fun i (B : List Int) => B.set (i * (m + 1)) 1000000000) (n := m + 1) (I := fun i C => C.length = (m + 1) * (m + 1) ∧ 1 ≤ i ∧ ∀ p q, p < m + 1 → q < m + 1 → bnd (m + 1) C p q = if 1 ≤ p ∧ p < i ∧ q = 0 then 1000000000 else bnd (m + 1) T p q) (fun i C hi hC => by
    refine ⟨by rw [List.length_set]; exact hC.1, by omega, fun p q hp hq => ?_⟩
    have h1 := hC.2.1
    · have hs := bnd_set (n := m + 1) (B := C) (i := i) (k := 0) (p := p) (q := q) (v := 1000000000) hC.1 hi (by omega) hq
      simp only [Nat.add_zero] at hs
      rw [hs, hC.2.2 p q hp hq]
      by_cases e : p = i ∧ q = 0
      · rw [if_pos e, if_pos ⟨by omega, by omega, e.2⟩]
      · rw [if_neg e]
        by_cases e2 : 1 ≤ p ∧ p < i ∧ q = 0
        · rw [if_pos e2, if_pos ⟨e2.1, by omega, e2.2.2⟩]
        · rw [if_neg e2, if_neg (by omega)]) m 1 T (by omega) ⟨hT, by omega, fun p q hp hq => by rw [if_neg (by omega)]⟩
  intro p q hp hq
  rw [show later (m + 1) m T = forS (fun i (B : List Int) => B.set (i * (m + 1)) 1000000000) m 1 T from rfl, this.2.2 p q hp hq]
  by_cases e : 1 ≤ p ∧ q = 0
  · rw [if_pos e, if_pos ⟨e.1, by omega, e.2⟩]
  · rw [if_neg e, if_neg (by omega)]

end Go.Proofs


/-
  The source from which the laws draw.
-/
namespace Go.Proofs
open Go.Ide Go.IntWalk

abbrev SrcD := List Int × Int × Int

def BytesI (c : List Int) : Prop := c.length ≤ 1048576 ∧ ∀ i, i < c.length → 0 ≤ c.getD i 0 ∧ c.getD i 0 ≤ 255

theorem bytesI_wf {x : List Int} (w : WfD (.sl (.int .u8)) x) (h : x.length ≤ 1048576) : BytesI x := by
  refine ⟨h, fun i hi => ?_⟩
  have := w.2 i hi
  have h2 : (Lit.int .u8 (x[i] : Int)).wf = true := this
  rw [List.getD_eq_getElem?_getD, List.getElem?_eq_getElem hi]
  simp only [Lit.wf, Bool.and_eq_true, decide_eq_true_eq] at h2
  have e1 : IntKind.u8.min = 0 := by decide
  have e2 : IntKind.u8.max = 255 := by decide
  rw [e1, e2] at h2
  simp only [Option.getD_some]
  omega

structure SrcOK (n : Nat) (s : SrcD) : Prop where
  code : BytesI s.1
  at0 : 0 ≤ s.2.1
  at1 : s.2.1 + (n : Int) ≤ 1000000000000000000

theorem SrcOK.mono {n m : Nat} {s : SrcD} (h : SrcOK n s) (hm : m ≤ n) : SrcOK m s := ⟨h.code, h.at0, by have := h.at1; omega⟩

theorem SrcOK.from {c : List Int} (h : BytesI c) : spec_l00From c = some (c, (0 : Int), (0 : Int)) ∧ SrcOK 1000000000000000000 (c, (0 : Int), (0 : Int)) := ⟨rfl, h, Int.le_refl _, by simp⟩

theorem byte64 (x : Int) (h : 0 ≤ x ∧ x ≤ 255) : IntKind.wrap .i64 x = x := i64_in _ (by omega)

theorem low255 (z : Int) : ∃ y : Int, IntKind.wrap .i64 (IntKind.wrap .u64 (((BitVec.ofInt (IntKind.bits .u64) z &&& BitVec.ofInt (IntKind.bits .u64) (255 : Int)).toNat : Nat) : Int)) = y ∧ 0 ≤ y ∧ y ≤ 255 := by
  have h1 : (BitVec.ofInt (IntKind.bits .u64) z &&& BitVec.ofInt (IntKind.bits .u64) (255 : Int)).toNat ≤ 255 := by
    rw [BitVec.toNat_and]
    refine Nat.le_trans Nat.and_le_right ?_
    decide
  generalize (BitVec.ofInt (IntKind.bits .u64) z &&& BitVec.ofInt (IntKind.bits .u64) (255 : Int)).toNat = q at h1
  have h2 : IntKind.wrap .u64 ((q : Nat) : Int) = (q : Int) := by
    unfold IntKind.wrap
    simp only [IntKind.bits, IntKind.signed, Bool.false_and, Bool.false_eq_true, if_false]
    omega
  rw [h2, i64_in _ (by omega)]
  exact ⟨_, rfl, by omega, by omega⟩

theorem next_ok {n : Nat} {s : SrcD} (h : SrcOK (n + 1) s) : ∃ x s', spec_l00Src_next s = some (x, s') ∧ 0 ≤ x ∧ x ≤ 255 ∧ SrcOK n s' := by
  obtain ⟨c, a, z⟩ := s
  obtain ⟨hc, h0, h1⟩ := h
  have h0 : 0 ≤ a := h0
  have h1 : a + ((n + 1 : Nat) : Int) ≤ 1000000000000000000 := h1
  have e1 : wadd .i64 a 1 = a + 1 := waddI (by omega)
  unfold spec_l00Src_next
  simp only [e1]
  have hs : ∀ z', SrcOK n (c, a + 1, z') := fun z' => ⟨hc, by show 0 ≤ a + 1; omega, by show a + 1 + (n : Int) ≤ _; omega⟩
  have key : ∀ v : Int, 0 ≤ v ∧ v ≤ 255 → ∃ x s', (bif decide (a + 1 ≤ lenI c) then some (v, c, a + 1, wadd .u64 (wadd .u64 (wmul .u64 z 6364136223846793005) (IntKind.wrap .u64 v)) 1442695040888963407)
      else (some (IntKind.wrap .i64 (IntKind.wrap .u64 (((BitVec.ofInt (IntKind.bits .u64) (Int.fdiv (wadd .u64 (wadd .u64 (wmul .u64 z 6364136223846793005) (IntKind.wrap .u64 v)) 1442695040888963407) (2 ^ (min (Int.toNat (40 : Int)) (IntKind.bits .u64)))) &&& BitVec.ofInt (IntKind.bits .u64) (255 : Int)).toNat : Nat) : Int)))).bind fun q5 =>
        some (q5, c, a + 1, wadd .u64 (wadd .u64 (wmul .u64 z 6364136223846793005) (IntKind.wrap .u64 v)) 1442695040888963407)) = some (x, s') ∧ 0 ≤ x ∧ x ≤ 255 ∧ SrcOK n s' := by
    intro v hv
    cases decide (a + 1 ≤ lenI c) with
    | true => exact ⟨_, _, rfl, hv.1, hv.2, hs _⟩
    | false =>
      obtain ⟨y, e, y1, y2⟩ := low255 (Int.fdiv (wadd .u64 (wadd .u64 (wmul .u64 z 6364136223846793005) (IntKind.wrap .u64 v)) 1442695040888963407) (2 ^ (min (Int.toNat (40 : Int)) (IntKind.bits .u64))))
      rw [e]
      exact ⟨_, _, rfl, y1, y2, hs _⟩
  by_cases hlt : a < lenI c
  · have hi : a.toNat < c.length := by simp only [lenI] at hlt; omega
    have hb := hc.2 a.toNat hi
    simp only [hlt, decide_true, cond_true]
    rw [guard_pos ⟨h0, trivial⟩, byte64 _ hb]
    exact key _ hb
  · simp only [hlt, decide_false, cond_false]
    exact key 0 (by omega)

theorem tmod_in {x n : Int} (hx : 0 ≤ x) (hn : 0 < n) : 0 ≤ Int.tmod x n ∧ Int.tmod x n < n := by
  rw [Int.tmod_eq_emod_of_nonneg hx]
  exact ⟨Int.emod_nonneg _ (by omega), Int.emod_lt_of_pos _ hn⟩

theorem pick_ok {n : Nat} {s : SrcD} (h : SrcOK (n + 2) s) (k : Int) : ∃ x s', spec_l00Src_pick s k = some (x, s') ∧ 0 ≤ x ∧ (x < k ∨ x = 0) ∧ SrcOK n s' := by
  unfold spec_l00Src_pick
  by_cases h1 : k ≤ 1
  · simp only [h1, decide_true, cond_true]
    exact ⟨_, _, rfl, Int.le_refl _, .inr rfl, h.mono (by omega)⟩
  · simp only [h1, decide_false, cond_false]
    obtain ⟨x, s1, e1, x1, x2, o1⟩ := next_ok h
    simp only [e1, Option.bind_some]
    by_cases h2 : k > 200
    · obtain ⟨y, s2, e2, y1, y2, o2⟩ := next_ok o1
      have e3 : wmul .i64 x 256 = x * 256 := wmulI (by omega)
      have e4 : wadd .i64 (x * 256) y = x * 256 + y := waddI (by omega)
      simp only [h2, decide_true, cond_true, e2, Option.bind_some, e3, e4]
      rw [guard_pos (by omega)]
      have := tmod_in (x := x * 256 + y) (n := k) (by omega) (by omega)
      exact ⟨_, _, rfl, this.1, .inl this.2, o2⟩
    · simp only [h2, decide_false, cond_false, Option.bind_some]
      rw [guard_pos (by omega)]
      have := tmod_in (x := x) (n := k) (by omega) (by omega)
      exact ⟨_, _, rfl, this.1, .inl this.2, o1.mono (by omega)⟩

theorem b10At_ok {c : List Int} (hc : BytesI c) {i n : Int} (hi : 0 ≤ i ∧ i ≤ 1000000000000) : ∃ x, laws_b10At c i n = some x ∧ 0 ≤ x ∧ (x < n ∨ x = 0) := by
  unfold laws_b10At
  by_cases h1 : n ≤ 1
  · simp only [h1, decide_true, cond_true]
    exact ⟨_, rfl, Int.le_refl _, .inr rfl⟩
  · simp only [h1, decide_false, cond_false]
    by_cases hlt : i < lenI c
    · have hj : i.toNat < c.length := by simp only [lenI] at hlt; omega
      have hb := hc.2 i.toNat hj
      simp only [hlt, decide_true, cond_true]
      rw [guard_pos ⟨hi.1, trivial⟩, guard_pos (by omega), byte64 _ hb]
      have := tmod_in (x := c.getD i.toNat 0) (n := n) hb.1 (by omega)
      exact ⟨_, rfl, this.1, .inl this.2⟩
    · simp only [hlt, decide_false, cond_false]
      rw [guard_pos (by omega), wmulI (by omega), waddI (by omega)]
      have := tmod_in (x := i * 37 + 11) (n := n) (by omega) (by omega)
      exact ⟨_, rfl, this.1, .inl this.2⟩

end Go.Proofs


/-
  Zones that are drawn, and what the program says of them.
-/
namespace Go.Proofs
open Go.Ide Go.IntWalk

def wc (p q : Nat) : Int := if p = 0 ∨ p = q then 0 else 1000000000

theorem wholeLoop {f : Int × List Int → Option ((Int × List Int) ⊕ List Int)} {n : Nat}
    (hstep : ∀ (i : Nat) (L : List Int), i < n → L.length = i * n → f ((i : Int), L) = some (.inl (((i + 1 : Nat) : Int), L ++ (List.range n).map (wc i)))) (hend : ∀ L, f ((n : Int), L) = some (.inr L)) :
    ∃ L, rounds f ((0 : Int), ([] : List Int)) = some L ∧ L.length = n * n ∧ ∀ p q, p < n → q < n → bnd n L p q = wc p q := by
  have := rounds_forS (f := f) (fun i L => (((i : Nat) : Int), L)) (fun i L => L ++ (List.range n).map (wc i)) id (n := n)
    (fun i L => L.length = i * n ∧ ∀ p q, p < i → q < n → bnd n L p q = wc p q)
    (fun i L hi hL => ⟨hstep i L hi hL.1, by
      refine ⟨by simp [hL.1, Nat.succ_mul], fun p q hp hq => ?_⟩
      unfold bnd
      rw [List.getD_eq_getElem?_getD]
      by_cases e : p = i
      · subst e
        rw [List.getElem?_append_right (by omega), hL.1, Nat.add_sub_cancel_left]
        simp [hq]
      · have hlt : p * n + q < L.length := by
          rw [hL.1]
          have : (p + 1) * n ≤ i * n := Nat.mul_le_mul_right _ (by omega)
          rw [Nat.succ_mul] at this
          omega
        rw [List.getElem?_append_left hlt, ← List.getD_eq_getElem?_getD]
        exact hL.2 p q (by omega) hq⟩)
    (fun L _ => hend L) n 0 [] (by omega) ⟨by simp, fun p q hp => by omega⟩
  exact ⟨_, by simpa using this.1, this.2.1, fun p q hp hq => this.2.2 p q hp hq⟩

theorem wc_eq (i k : Nat) : (bif ((i : Int) == (0 : Int)) then some true else some (((i : Int) == (k : Int)))) = some (decide (i = 0 ∨ i = k)) := by
  rw [eq0, eqN]
  by_cases h : i = 0 <;> by_cases h2 : i = k <;> simp [h, h2]

theorem leN {i m : Nat} (h : i < m + 1) : decide ((i : Int) ≤ (m : Int)) = true := by simp; omega
theorem gtN {m : Nat} : decide (((m + 1 : Nat) : Int) ≤ (m : Int)) = false := by simp; omega

theorem specWhole {m : Nat} (h1 : 1 ≤ m) (h2 : m ≤ 4) : ∃ L, spec_WholeZone (m : Int) = some (((m : Int), L), true) ∧ L.length = (m + 1) * (m + 1) ∧ ∀ p q, p < m + 1 → q < m + 1 → bnd (m + 1) L p q = wc p q := by
  obtain ⟨L, e, hl, hb⟩ := wholeLoop (f := spec_WholeZone_B2 (m : Int)) (n := m + 1) (fun i L hi hL => by
    have hin := loop_app (f := spec_WholeZone_B1 (m : Int) ((i : Int), L)) (wc i) (m + 1) L (fun k out hk ho => by
      unfold spec_WholeZone_B1
      have h25 : i * (m + 1) ≤ 5 * 5 := Nat.mul_le_mul (by omega) (by omega)
      simp only [leN hk, cond_true, wc_eq, Option.bind_some, nextN hk (show m + 1 ≤ 4294967296 by omega)]
      by_cases hc : i = 0 ∨ i = k
      · simp only [hc, decide_true, cond_true, Option.bind_some]
        rw [guard_pos (by simp only [List.length_singleton, appMax]; omega)]
        unfold wc; rw [if_pos hc]
      · simp only [hc, decide_false, cond_false, Option.bind_some]
        rw [guard_pos (by simp only [List.length_singleton, appMax]; omega)]
        unfold wc; rw [if_neg hc]) (fun out => by
      unfold spec_WholeZone_B1
      simp only [gtN, cond_false])
    unfold spec_WholeZone_B2
    simp only [leN hi, cond_true, hin, Option.bind_some, nextN hi (show m + 1 ≤ 4294967296 by omega)]) (fun L => by
    unfold spec_WholeZone_B2
    simp only [gtN, cond_false])
  refine ⟨L, ?_, hl, hb⟩
  unfold spec_WholeZone
  simp only [in64, Option.bind_some, show (decide ((m : Int) ≥ 1) && decide ((m : Int) ≤ 4)) = true from by simp; omega, Bool.not_true, cond_false, e]

theorem implWhole {m : Nat} (h1 : 1 ≤ m) (h2 : m ≤ 4) : ∃ L, impl_WholeZone (m : Int) = some (((m : Int), L), true) ∧ L.length = (m + 1) * (m + 1) ∧ ∀ p q, p < m + 1 → q < m + 1 → bnd (m + 1) L p q = wc p q := by
  have hw := wide_eq (c := m) (n := m + 1) rfl h2
  obtain ⟨L, e, hl, hb⟩ := wholeLoop (f := impl_WholeZone_B2 (m : Int) ((m + 1 : Nat) : Int)) (n := m + 1) (fun i L hi hL => by
    have hin := loop_app (f := impl_WholeZone_B1 ((i : Int), L) ((m + 1 : Nat) : Int)) (wc i) (m + 1) L (fun k out hk ho => by
      unfold impl_WholeZone_B1
      have h25 : i * (m + 1) ≤ 5 * 5 := Nat.mul_le_mul (by omega) (by omega)
      simp only [ltN hk, cond_true, wc_eq, Option.bind_some, nextN hk (show m + 1 ≤ 4294967296 by omega)]
      by_cases hc : i = 0 ∨ i = k
      · simp only [hc, decide_true, cond_true]
        rw [guard_pos (by simp only [List.length_singleton, appMax]; omega)]
        unfold wc; rw [if_pos hc]; rfl
      · simp only [hc, decide_false, cond_false]
        rw [guard_pos (by simp only [List.length_singleton, appMax]; omega)]
        unfold wc; rw [if_neg hc]; rfl) (fun out => by
      unfold impl_WholeZone_B1
      simp only [geN (Nat.le_refl _), cond_false])
    unfold impl_WholeZone_B2 impl_Zone_wide
    simp only [ltN hi, cond_true, hw, hin, Option.bind_some, nextN hi (show m + 1 ≤ 4294967296 by omega)]) (fun L => by
    unfold impl_WholeZone_B2
    simp only [geN (Nat.le_refl _), cond_false])
  refine ⟨L, ?_, hl, hb⟩
  unfold impl_WholeZone impl_Zone_wide
  simp only [within64, Option.bind_some, show (decide ((m : Int) ≥ 1) && decide ((m : Int) ≤ 4)) = true from by simp; omega, Bool.not_true, cond_false, hw, e]

def ZI (n : Nat) (B : List Int) : Prop := B.length = n * n ∧ ∀ p q, p < n → q < n → (bnd n B p q = 1000000000 ∨ (-8 ≤ bnd n B p q ∧ bnd n B p q ≤ 8)) ∧ (p = q → bnd n B p q = 0) ∧ (p = 0 → bnd n B p q ≤ 0)

theorem ZI.set {n i k : Nat} {B : List Int} {x : Int} (h : ZI n B) (hi : i < n) (hk : k < n) (hik : i ≠ k) (hx : -8 ≤ x ∧ x ≤ 8) (h0 : i = 0 → x ≤ 0) : ZI n (B.set (i * n + k) x) := by
  refine ⟨by rw [List.length_set]; exact h.1, fun p q hp hq => ?_⟩
  rw [bnd_set h.1 hi hk hq]
  by_cases e : p = i ∧ q = k
  · rw [if_pos e]
    exact ⟨.inr hx, fun e2 => by omega, fun e2 => h0 (by omega)⟩
  · rw [if_neg e]; exact h.2 p q hp hq

theorem ZI.ok {m : Nat} {B : List Int} (h1 : 1 ≤ m) (h2 : m ≤ 4) (h : ZI (m + 1) B) : okZone (m : Int) B = true ∧ SmallZ (m + 1) B :=
  ⟨ok_of_bnd h1 h2 h.1 fun p q hp hq => by
    obtain ⟨a, b, c⟩ := h.2 p q hp hq
    exact ⟨by rcases a with a | a; exact .inr a; exact .inl (by omega), b, c⟩, fun p q hp hq hne => by
    obtain ⟨a, b, c⟩ := h.2 p q hp hq
    rcases a with a | a
    · exact absurd a hne
    · omega⟩

theorem one_ok {n : Nat} {s : SrcD} (h : SrcOK (n + 2) s) (k : Int) : ∃ b s', spec_l00Src_one s k = some (b, s') ∧ SrcOK n s' := by
  obtain ⟨x, s', e, _, _, o⟩ := pick_ok h k
  unfold spec_l00Src_one
  simp only [e, Option.bind_some]
  exact ⟨_, _, rfl, o⟩

theorem drawCell {m i k g : Nat} {s : SrcD} {B : List Int} (h2 : m ≤ 4) (hi : i < m + 1) (hk : k < m + 1) (hs : SrcOK (g + 8) s) (hB : ZI (m + 1) B) (X : SrcD) (Y : List Int) :
    ∃ s' B', spec_l07DrawZoneOk_B1 (m : Int) ((i : Int), X, Y) ((k : Int), s, B) = some (.inl (((k + 1 : Nat) : Int), s', B')) ∧ SrcOK g s' ∧ ZI (m + 1) B' := by
  have hw := wide_eq (c := m) (n := m + 1) rfl h2
  have hlt := cell_lt hi hk
  have e3 : wadd .i64 (wmul .i64 (i : Int) ((m + 1 : Nat) : Int)) (k : Int) = ((i * (m + 1) + k : Nat) : Int) := cellN (by omega) (by omega) (by omega)
  have hg : (0 : Int) ≤ ((i * (m + 1) + k : Nat) : Int) ∧ ((i * (m + 1) + k : Nat) : Int) < lenI B := by
    have := hB.1
    simp only [lenI]; omega
  unfold spec_l07DrawZoneOk_B1
  simp only [hw, ltN hk, cond_true, eqN, e3, guard_pos hg, Int.toNat_natCast, nextN hk (show m + 1 ≤ 4294967296 by omega)]
  by_cases hik : i = k
  · simp only [hik, decide_true, cond_true, Option.bind_some]
    exact ⟨_, _, rfl, hs.mono (by omega), hB⟩
  · simp only [hik, decide_false, cond_false]
    obtain ⟨b, s1, e1, o1⟩ := one_ok (n := g + 6) hs 3
    simp only [e1, Option.bind_some]
    cases b with
    | true => simp only [cond_true, Option.bind_some]; exact ⟨_, _, rfl, o1.mono (by omega), hB⟩
    | false =>
      simp only [cond_false]
      obtain ⟨x, s2, e2, x1, x2, o2⟩ := pick_ok (n := g + 4) o1 9
      simp only [e2, Option.bind_some, eq0]
      by_cases h0 : i = 0
      · simp only [h0, decide_true, cond_true]
        obtain ⟨y, s3, e4, y1, y2, o3⟩ := pick_ok (n := g + 2) o2 4
        have ew : IntKind.wrap .i64 (0 - y) = 0 - y := i64_in _ (by omega)
        simp only [e4, Option.bind_some, ew]
        refine ⟨_, _, rfl, o3.mono (by omega), ?_⟩
        have := hB.set hi hk hik (x := 0 - y) (by omega) (fun _ => by omega)
        rw [h0] at this
        exact this
      · simp only [h0, decide_false, cond_false]
        obtain ⟨b2, s3, e4, o3⟩ := one_ok (n := g + 2) o2 4
        simp only [e4, Option.bind_some]
        cases b2 with
        | true =>
          obtain ⟨z, s4, e5, z1, z2, o4⟩ := pick_ok (n := g) o3 5
          have ew : wsub .i64 z 2 = z - 2 := wsubI (by omega)
          simp only [cond_true, e5, Option.bind_some, ew]
          exact ⟨_, _, rfl, o4, hB.set hi hk hik (by omega) (fun e => absurd e h0)⟩
        | false =>
          simp only [cond_false, Option.bind_some]
          exact ⟨_, _, rfl, o3.mono (by omega), hB.set hi hk hik (by omega) (fun e => absurd e h0)⟩

theorem drawZone {c : List Int} {m : Nat} (hc : BytesI c) (h1 : 1 ≤ m) (h2 : m ≤ 4) : ∃ B, spec_B10Zone c (m : Int) = some ((m : Int), B) ∧ okZone (m : Int) B = true ∧ SmallZ (m + 1) B := by
  obtain ⟨ef, of⟩ := SrcOK.from hc
  obtain ⟨L, ew, hl, hb⟩ := specWhole h1 h2
  have hw := wide_eq (c := m) (n := m + 1) rfl h2
  have hZ0 : ZI (m + 1) L := ⟨hl, fun p q hp hq => by
    rw [hb p q hp hq]
    unfold wc
    split <;> omega⟩
  obtain ⟨r, er, hr⟩ := rounds_inv (f := spec_l07DrawZoneOk_B2 (m : Int)) (fun a st => ∃ (i : Nat) (s : SrcD) (B : List Int), a + i = m + 1 ∧ st = ((i : Int), s, B) ∧ SrcOK (a * 100) s ∧ ZI (m + 1) B) (fun r => ZI (m + 1) r.2) (by
    rintro a st ⟨i, s, B, ha, rfl, hs, hB⟩
    by_cases hi : i < m + 1
    · obtain ⟨r, er, hr⟩ := rounds_inv (f := spec_l07DrawZoneOk_B1 (m : Int) ((i : Int), s, B)) (fun b st => ∃ (k : Nat) (s : SrcD) (B : List Int), b + k = m + 1 ∧ st = ((k : Int), s, B) ∧ SrcOK ((a - 1) * 100 + b * 8) s ∧ ZI (m + 1) B) (fun r => SrcOK ((a - 1) * 100) r.1 ∧ ZI (m + 1) r.2) (by
        rintro b st ⟨k, s', B', hb', rfl, hs', hB'⟩
        by_cases hk : k < m + 1
        · obtain ⟨s2, B2, e2, o2, z2⟩ := drawCell (g := (a - 1) * 100 + (b - 1) * 8) h2 hi hk (hs'.mono (by omega)) hB' s B
          exact .inl ⟨b - 1, _, by omega, e2, k + 1, s2, B2, by omega, rfl, o2, z2⟩
        · have : k = m + 1 := by omega
          subst this
          unfold spec_l07DrawZoneOk_B1
          simp only [hw, geN (Nat.le_refl _), cond_false]
          exact .inr ⟨_, rfl, hs'.mono (by omega), hB'⟩) (m + 1) ((0 : Int), s, B) ⟨0, s, B, by omega, rfl, hs.mono (by omega), hB⟩
      unfold spec_l07DrawZoneOk_B2
      simp only [hw, ltN hi, cond_true, er, Option.bind_some, nextN hi (show m + 1 ≤ 4294967296 by omega)]
      exact .inl ⟨a - 1, _, by omega, rfl, i + 1, r.1, r.2, by omega, rfl, hr.1, hr.2⟩
    · have : i = m + 1 := by omega
      subst this
      unfold spec_l07DrawZoneOk_B2
      simp only [hw, geN (Nat.le_refl _), cond_false]
      exact .inr ⟨_, rfl, hB⟩) (m + 1) ((0 : Int), (c, (0 : Int), (0 : Int)), L) ⟨0, _, L, by omega, rfl, of.mono (by omega), hZ0⟩
  refine ⟨r.2, ?_, hr.ok h1 h2⟩
  unfold spec_B10Zone spec_l07DrawZoneOk
  simp only [ef, Option.bind_some, ew, er]

def timeF (ts : List Int) (i : Nat) : Int := ([(0 : Int)] ++ ts).getD i 0

def hB (n : Nat) (B : List Int) (x : Nat → Int) : Bool := allN (fun i => allN (fun k => !((bnd n B i k != 1000000000) && decide (x i - x k > bnd n B i k))) n 0) n 0

theorem hB_iff {n : Nat} {B : List Int} {x : Nat → Int} : hB n B x = true ↔ HoldsZ n B x := by
  unfold hB HoldsZ
  rw [allN_iff]
  constructor
  · intro h i k hi hk hne
    have := allN_iff.1 (h i (by omega) (by omega)) k (by omega) (by omega)
    simp only [Bool.not_eq_true', Bool.and_eq_false_iff, bne_eq_false_iff_eq, decide_eq_false_iff_not] at this
    omega
  · intro h i _ hi
    refine allN_iff.2 fun k _ hk => ?_
    simp only [Bool.not_eq_true', Bool.and_eq_false_iff, bne_eq_false_iff_eq, decide_eq_false_iff_not]
    by_cases e : bnd n B i k = 1000000000
    · exact .inl e
    · have := h i k (by omega) (by omega) e
      exact .inr (by omega)

theorem allN_last (p : Nat → Bool) : ∀ k i, allN p (k + 1) i = (allN p k i && p (i + k))
  | 0, i => by simp [allN]
  | k + 1, i => by
    rw [allN, allN_last p k (i + 1), allN, show i + 1 + k = i + (k + 1) by omega, Bool.and_assoc]

theorem areWithin_ok {ts : List Int} {b c : Int} (h : ts.length ≤ 1000) (hh : ∀ i, i < ts.length → b ≤ ts.getD i 0 ∧ ts.getD i 0 ≤ c) : impl_areWithin ts b c = some true := by
  unfold impl_areWithin
  have := rounds_all (f := impl_areWithin_B1 ts b c) (fun i => ((i : Nat) : Int)) (fun _ => true) (Sum.inl ()) (Sum.inr ()) (n := ts.length) (fun i hi => by
    unfold impl_areWithin_B1
    have := hh i hi
    simp only [lenI, ltN hi, cond_true, guard_pos (idxN hi), Int.toNat_natCast, within64, Option.bind_some, nextN hi (show ts.length ≤ 4294967296 by omega), show (decide (ts.getD i 0 ≥ b) && decide (ts.getD i 0 ≤ c)) = true from by simp only [Bool.and_eq_true, decide_eq_true_eq]; exact this, Bool.not_true, cond_false]) (by
    unfold impl_areWithin_B1
    simp only [lenI, geN (Nat.le_refl _), cond_false]) ts.length 0 (by omega)
  simp only [Int.natCast_zero] at this
  rw [this, show allN (fun _ => true) ts.length 0 = true from allN_iff.2 fun _ _ _ => rfl]
  rfl

section
variable {m : Nat} {B ts : List Int}

structure TimesOK (m : Nat) (ts : List Int) : Prop where
  len : ts.length = m
  bd : ∀ i, i < ts.length → 0 ≤ ts.getD i 0 ∧ ts.getD i 0 ≤ 1000000

theorem TimesOK.at (h : TimesOK m ts) {i : Nat} (hi : i < m + 1) : 0 ≤ timeF ts i ∧ timeF ts i ≤ 1000000 := by
  unfold timeF
  cases i with
  | zero => simp
  | succ i =>
    have := h.len
    have := h.bd i (by omega)
    simpa [List.getD_eq_getElem?_getD] using this

theorem implHolds (ok : okZone (m : Int) B = true) (ht : TimesOK m ts) : impl_HoldsIn ((m : Int), B) ts = some (hB (m + 1) B (timeF ts), true) := by
  obtain ⟨h1, h2, h3, h4⟩ := ok_bnd ok
  have hl := ht.len
  have hla : lenI ([(0 : Int)] ++ ts) = ((m + 1 : Nat) : Int) := by simp [lenI, hl]
  have hsub : ∀ i k, i < m + 1 → k < m + 1 → wsub .i64 (timeF ts i) (timeF ts k) = timeF ts i - timeF ts k := fun i k hi hk => by
    have := ht.at hi
    have := ht.at hk
    exact wsubI (by omega)
  have hin : ∀ i, i < m + 1 → rounds (impl_HoldsIn_B1 ((m : Int), B) ts (i : Int)) (0 : Int) = some (bif allN (fun k => !((bnd (m + 1) B i k != 1000000000) && decide (timeF ts i - timeF ts k > bnd (m + 1) B i k))) (m + 1) 0 then Sum.inl () else Sum.inr ()) := fun i hi => by
    have := rounds_all (f := impl_HoldsIn_B1 ((m : Int), B) ts (i : Int)) (fun k => ((k : Nat) : Int)) (fun k => !((bnd (m + 1) B i k != 1000000000) && decide (timeF ts i - timeF ts k > bnd (m + 1) B i k))) (Sum.inl ()) (Sum.inr ()) (n := m + 1) (fun k hk => by
      unfold impl_HoldsIn_B1
      have hlt := cell_lt hi hk
      have hg : (0 : Int) ≤ ((i * (m + 1) + k : Nat) : Int) ∧ ((i * (m + 1) + k : Nat) : Int) < lenI B := by simp only [lenI]; omega
      simp only [hla, ltN hk, cond_true, guard_pos (idxN hk), at_eq (c := m) (n := m + 1) (B := B) rfl h2 hi hk, Option.bind_some, guard_pos hg, Int.toNat_natCast, nextN hk (show m + 1 ≤ 4294967296 by omega)]
      show (Option.bind (bif (bnd (m + 1) B i k != 1000000000) then some (decide (wsub .i64 (timeF ts i) (timeF ts k) > bnd (m + 1) B i k)) else some false) _) = _
      rw [hsub i k hi hk]
      cases (bnd (m + 1) B i k != 1000000000) <;> cases decide (timeF ts i - timeF ts k > bnd (m + 1) B i k) <;> rfl) (by
      unfold impl_HoldsIn_B1
      simp only [hla, geN (Nat.le_refl _), cond_false]) (m + 1) 0 (by omega)
    simp only [Int.natCast_zero] at this
    exact this
  have hout := rounds_all (f := impl_HoldsIn_B2 ((m : Int), B) ts) (fun i => ((i : Nat) : Int)) (fun i => allN (fun k => !((bnd (m + 1) B i k != 1000000000) && decide (timeF ts i - timeF ts k > bnd (m + 1) B i k))) (m + 1) 0) (Sum.inl ()) (Sum.inr ()) (n := m + 1) (fun i hi => by
    unfold impl_HoldsIn_B2
    simp only [hla, ltN hi, cond_true, guard_pos (idxN hi), hin i hi, Option.bind_some, nextN hi (show m + 1 ≤ 4294967296 by omega)]
    cases allN (fun k => !((bnd (m + 1) B i k != 1000000000) && decide (timeF ts i - timeF ts k > bnd (m + 1) B i k))) (m + 1) 0 <;> rfl) (by
    unfold impl_HoldsIn_B2
    simp only [hla, geN (Nat.le_refl _), cond_false]) (m + 1) 0 (by omega)
  simp only [Int.natCast_zero] at hout
  unfold impl_HoldsIn
  have e1 : (lenI ts != (m : Int)) = false := by simp [lenI, hl]
  simp only [implZone, ok, Option.bind_some, Bool.not_true, cond_false, e1, areWithin_ok (ts := ts) (by omega) ht.bd]
  rw [guard_pos (by simp only [List.length_singleton, appMax]; omega), hout]
  unfold hB
  cases allN (fun i => allN (fun k => !((bnd (m + 1) B i k != 1000000000) && decide (timeF ts i - timeF ts k > bnd (m + 1) B i k))) (m + 1) 0) (m + 1) 0 <;> rfl

theorem specHolds (ok : okZone (m : Int) B = true) (ht : TimesOK m ts) : spec_HoldsIn ((m : Int), B) ts = some (hB (m + 1) B (timeF ts), true) := by
  obtain ⟨h1, h2, h3, h4⟩ := ok_bnd ok
  have hl := ht.len
  have hall : rounds (spec_HoldsIn_B3 ts) ((0 : Int), ([(0 : Int)] : List Int)) = some (.inl ([(0 : Int)] ++ ts)) := by
    have := rounds_forS (f := spec_HoldsIn_B3 ts) (fun i L => (((i : Nat) : Int), L)) (fun i L => L ++ [ts.getD i 0]) Sum.inl (n := ts.length) (fun i L => L = [(0 : Int)] ++ ts.take i)
      (fun i L hi hL => ⟨by
        subst hL
        unfold spec_HoldsIn_B3
        have hb := ht.bd i hi
        simp only [lenI, ltN hi, cond_true, guard_pos (idxN hi), Int.toNat_natCast, in64, Option.bind_some, nextN hi (show ts.length ≤ 4294967296 by omega), show (decide (ts.getD i 0 ≥ 0) && decide (ts.getD i 0 ≤ 1000000)) = true from by simp only [Bool.and_eq_true, decide_eq_true_eq]; exact hb, Bool.not_true, cond_false]
        rw [guard_pos (by simp [appMax]; omega)], by
        subst hL
        rw [take_snoc hi 0, List.append_assoc]⟩)
      (fun L hL => by
        unfold spec_HoldsIn_B3
        simp only [lenI, geN (Nat.le_refl _), cond_false]) ts.length 0 [(0 : Int)] (by omega) (by simp)
    simp only [Int.natCast_zero] at this
    rw [this.1, this.2, List.take_length]
  have hla : lenI ([(0 : Int)] ++ ts) = ((m + 1 : Nat) : Int) := by simp [lenI, hl]
  have hsub : ∀ i k, i < m + 1 → k < m + 1 → wsub .i64 (timeF ts i) (timeF ts k) = timeF ts i - timeF ts k := fun i k hi hk => by
    have := ht.at hi
    have := ht.at hk
    exact wsubI (by omega)
  have hin : ∀ (i : Nat) (b : Bool) (X : Bool × Int), i < m + 1 → X.2 = (i : Int) → rounds (spec_HoldsIn_B1 ((m : Int), B) ([(0 : Int)] ++ ts) X) (b, (0 : Int)) = some (b && allN (fun k => !((bnd (m + 1) B i k != 1000000000) && decide (timeF ts i - timeF ts k > bnd (m + 1) B i k))) (m + 1) 0) := fun i b X hi hX => by
    have := rounds_forS (f := spec_HoldsIn_B1 ((m : Int), B) ([(0 : Int)] ++ ts) X) (fun k (c : Bool) => (c, ((k : Nat) : Int))) (fun k c => c && !((bnd (m + 1) B i k != 1000000000) && decide (timeF ts i - timeF ts k > bnd (m + 1) B i k))) id (n := m + 1) (fun k c => c = (b && allN (fun k => !((bnd (m + 1) B i k != 1000000000) && decide (timeF ts i - timeF ts k > bnd (m + 1) B i k))) k 0))
      (fun k c hk hc => ⟨by
        unfold spec_HoldsIn_B1
        have hlt := cell_lt hi hk
        have e3 : wadd .i64 (wmul .i64 (i : Int) ((m + 1 : Nat) : Int)) (k : Int) = ((i * (m + 1) + k : Nat) : Int) := cellN (by omega) (by omega) (by omega)
        have hg : (0 : Int) ≤ ((i * (m + 1) + k : Nat) : Int) ∧ ((i * (m + 1) + k : Nat) : Int) < lenI B := by simp only [lenI]; omega
        simp only [hX, hla, ltN hk, cond_true, e3, guard_pos (idxN hk), guard_pos (idxN hi), Option.bind_some, guard_pos hg, Int.toNat_natCast, nextN hk (show m + 1 ≤ 4294967296 by omega)]
        show (Option.bind (Option.bind (bif (bnd (m + 1) B i k != 1000000000) then some (decide (wsub .i64 (timeF ts i) (timeF ts k) > bnd (m + 1) B i k)) else some false) _) _) = _
        rw [hsub i k hi hk]
        cases c <;> cases (bnd (m + 1) B i k != 1000000000) <;> cases decide (timeF ts i - timeF ts k > bnd (m + 1) B i k) <;> rfl, by
        rw [hc, allN_last, Nat.zero_add, Bool.and_assoc]⟩)
      (fun c hc => by
        unfold spec_HoldsIn_B1
        simp only [hla, geN (Nat.le_refl _), cond_false]; rfl) (m + 1) 0 b (by omega) (by simp [allN])
    simp only [Int.natCast_zero] at this
    rw [this.1]
    show some (forS _ (m + 1) 0 b) = _
    rw [this.2]
  have hout := rounds_forS (f := spec_HoldsIn_B2 ((m : Int), B) ([(0 : Int)] ++ ts)) (fun i (c : Bool) => (c, ((i : Nat) : Int))) (fun i c => c && allN (fun k => !((bnd (m + 1) B i k != 1000000000) && decide (timeF ts i - timeF ts k > bnd (m + 1) B i k))) (m + 1) 0) id (n := m + 1)
    (fun i c => c = allN (fun i => allN (fun k => !((bnd (m + 1) B i k != 1000000000) && decide (timeF ts i - timeF ts k > bnd (m + 1) B i k))) (m + 1) 0) i 0)
    (fun i c hi hc => ⟨by
      unfold spec_HoldsIn_B2
      simp only [hla, ltN hi, cond_true, hin i c (c, (i : Int)) hi rfl, Option.bind_some, nextN hi (show m + 1 ≤ 4294967296 by omega)], by
      rw [hc]
      exact ((allN_last _ i 0).trans (by rw [Nat.zero_add])).symm⟩)
    (fun c hc => by
      unfold spec_HoldsIn_B2
      simp only [hla, geN (Nat.le_refl _), cond_false]; rfl) (m + 1) 0 true (by omega) (by simp [allN])
  simp only [Int.natCast_zero] at hout
  unfold spec_HoldsIn
  have e1 : (lenI ts != (m : Int)) = false := by simp [lenI, hl]
  simp only [specZone, ok, Option.bind_some, Bool.not_true, cond_false, e1, hall]
  rw [hout.1]
  simp only [id, Option.bind_some, hout.2]
  rfl

end

theorem same64z {xs : List Int} (h : xs.length ≤ 1000) : slices_Equal___int64_int64 xs xs = some true := by
  unfold slices_Equal___int64_int64
  have := loop_eq (f := slices_Equal___int64_int64_B1 xs xs) (Sum.inl ()) xs.length (fun i hi => by
    unfold slices_Equal___int64_int64_B1
    simp only [lenI, ltN hi, cond_true, guard_pos (idxN hi), Int.toNat_natCast, bne_self_eq_false, cond_false, nextN hi (show xs.length ≤ 4294967296 by omega)]) (by
    unfold slices_Equal___int64_int64_B1
    simp only [lenI, geN (Nat.le_refl _), cond_false])
  simp only [bne_self_eq_false, cond_false, this, Option.bind_some]

theorem implPart {m : Nat} {B W : List Int} (hW : W.length = (m + 1) * (m + 1)) (hb : ∀ p q, p < m + 1 → q < m + 1 → bnd (m + 1) W p q = wc p q) (okW : okZone (m : Int) W = true) (ok : okZone (m : Int) B = true) :
    impl_IsPartZone ((m : Int), B) ((m : Int), W) = some (okZone (m : Int) (tight (m + 1) B), okZone (m : Int) (tight (m + 1) B)) := by
  unfold impl_IsPartZone
  simp only [impl_tightZ, Option.bind_some, tightZ, Int.toNat_natCast, ok, true_and]
  cases hT : okZone (m : Int) (tight (m + 1) B) with
  | false => simp
  | true =>
    obtain ⟨h1, h2, h3, h4⟩ := ok_bnd hT
    have h25 : (m + 1) * (m + 1) ≤ 5 * 5 := Nat.mul_le_mul (by omega) (by omega)
    simp only [if_true, Bool.not_true, cond_false, implZone, okW, Option.bind_some, bne_self_eq_false]
    have := rounds_all (f := impl_IsPartZone_B1 ((m : Int), W) (((m : Int), tight (m + 1) B), true)) (fun i => ((i : Nat) : Int)) (fun _ => true) (Sum.inl ()) (Sum.inr ()) (n := (m + 1) * (m + 1)) (fun i hi => by
      unfold impl_IsPartZone_B1
      have hq : i / (m + 1) < m + 1 := Nat.div_lt_of_lt_mul hi
      have hr : i % (m + 1) < m + 1 := Nat.mod_lt _ (by omega)
      have e : i / (m + 1) * (m + 1) + i % (m + 1) = i := by rw [Nat.mul_comm]; exact Nat.div_add_mod i (m + 1)
      have c1 := h4 _ _ hq hr
      have c2 := hb _ _ hq hr
      unfold bnd at c1 c2
      rw [e] at c1 c2
      have hle : decide ((tight (m + 1) B).getD i 0 > W.getD i 0) = false := by
        rw [c2, decide_eq_false_iff_not]
        unfold wc
        split <;> omega
      simp only [lenI, h3, hW, ltN hi, cond_true, guard_pos (idxN hi), Int.toNat_natCast, hle, cond_false, nextN hi (show (m + 1) * (m + 1) ≤ 4294967296 by omega)]) (by
      unfold impl_IsPartZone_B1
      simp only [lenI, h3, geN (Nat.le_refl _), cond_false]) ((m + 1) * (m + 1)) 0 (by omega)
    simp only [Int.natCast_zero] at this
    rw [this, show allN (fun _ => true) ((m + 1) * (m + 1)) 0 = true from allN_iff.2 fun _ _ _ => rfl]
    rfl

theorem implReset {m c : Nat} {B : List Int} (h1 : 1 ≤ c) (h2 : c ≤ m) (ok : okZone (m : Int) B = true) (hT : okZone (m : Int) (tight (m + 1) B) = true) :
    ∃ S, impl_ResetZone ((m : Int), B) (c : Int) = some (((m : Int), S), true) ∧ S.length = (m + 1) * (m + 1) ∧ (∀ i j, i < m + 1 → j < m + 1 → bnd (m + 1) S i j = resetC (m + 1) c (tight (m + 1) B) i j) := by
  obtain ⟨g1, g2, h5, h4⟩ := ok_bnd hT
  have hk : (decide ((c : Int) ≥ 1) && decide ((c : Int) ≤ (m : Int))) = true := by simp only [Bool.and_eq_true, decide_eq_true_eq]; omega
  have q : c * (m + 1) + c < (m + 1) * (m + 1) := cell_lt (by omega) (by omega)
  obtain ⟨U, u1, u2, u3⟩ := impl_reset2 h1 h2 g2 h5 true (tight (m + 1) B)
  obtain ⟨V, v1, v2, v3⟩ := impl_reset1 (T := U) h1 h2 g2 u2 true (tight (m + 1) B)
  have hg : (0 : Int) ≤ ((c * (m + 1) + c : Nat) : Int) ∧ ((c * (m + 1) + c : Nat) : Int) < lenI V := by simp only [lenI]; omega
  have hw := wide_eq (c := m) (n := m + 1) rfl g2
  refine ⟨V.set (c * (m + 1) + c) 0, ?_, by rw [List.length_set]; exact v2, fun i j hi hj => ?_⟩
  · unfold impl_ResetZone
    simp only [impl_tightZ, Option.bind_some, tightZ, Int.toNat_natCast, ok, hT, and_self, if_true, Bool.not_true, cond_false, within64, hk, impl_Zone_wide, hw, u1, v1, at_eq (c := m) (n := m + 1) (B := V) (i := c) (k := c) rfl g2 (by omega) (by omega), guard_pos hg]
  · rw [bnd_set v2 (by omega) (by omega) hj]
    unfold resetC
    have hv := v3 i j hi hj
    by_cases e1 : i = c
    · by_cases e2 : j = c
      · rw [if_pos ⟨e1, e2⟩, if_pos e1, if_pos e2]
      · rw [if_neg (fun h => e2 h.2), if_pos e1, if_neg e2]
        show V.getD (i * (m + 1) + j) 0 = _
        rw [hv, if_neg e2, u3 i j hi hj, if_pos e1]
    · rw [if_neg (fun h => e1 h.1), if_neg e1]
      show V.getD (i * (m + 1) + j) 0 = _
      rw [hv]
      by_cases e2 : j = c
      · rw [if_pos e2, if_pos e2]
        have := u3 i 0 hi (by omega)
        rw [Nat.add_zero] at this
        rw [this, if_neg e1]
      · rw [if_neg e2, if_neg e2, u3 i j hi hj, if_neg e1]

end Go.Proofs


/-
  FnZones.
-/
namespace Go.Proofs
open Go.Ide Go.IntWalk

theorem implMeetV {m : Nat} {A B : List Int} (hA : okZone (m : Int) A = true) (hB : okZone (m : Int) B = true) :
    impl_MeetZone ((m : Int), A) ((m : Int), B) = some (tightY (m : Int) (meetL A B A.length)) ∧ spec_MeetZone ((m : Int), A) ((m : Int), B) = some (tightY (m : Int) (meetL A B A.length)) := by
  obtain ⟨a1, a2, a3, _⟩ := ok_bnd hA
  obtain ⟨_, _, b3, _⟩ := ok_bnd hB
  have h25 : (m + 1) * (m + 1) ≤ 5 * 5 := Nat.mul_le_mul (by omega) (by omega)
  have hok := meetL_ok hA hB
  have hlen : (meetL A B A.length).length = (m + 1) * (m + 1) := by simp [meetL, a3]
  have e : tightZ (m : Int) (meetL A B A.length) = tightY (m : Int) (meetL A B A.length) := by
    unfold tightZ tightY
    simp only [hok, true_and]
  unfold spec_MeetZone impl_MeetZone
  simp only [specZone, implZone, hA, hB, Option.bind_some, Bool.not_true, cond_false, bne_self_eq_false, spec_meetL (c := (m : Int)) (d := (m : Int)) (A := A) (B := B) (by omega) (by omega), impl_meetL (c := (m : Int)) (d := (m : Int)) (A := A) (B := B) (by omega) (by omega), spec_tightY a2 hlen, impl_tightZ, e]
  exact ⟨trivial, trivial⟩

def laterZ (m : Nat) (A : List Int) : (Int × List Int) × Bool := if okZone (m : Int) (tight (m + 1) A) = true then (((m : Int), later (m + 1) m (tight (m + 1) A)), true) else ((0, []), false)

theorem implLaterV {m : Nat} {A : List Int} (hA : okZone (m : Int) A = true) : impl_LaterZone ((m : Int), A) = some (laterZ m A) := by
  unfold impl_LaterZone laterZ
  simp only [impl_tightZ, Option.bind_some, tightZ, Int.toNat_natCast, hA, true_and]
  cases hT : okZone (m : Int) (tight (m + 1) A) with
  | false => simp
  | true =>
    obtain ⟨h1, h2, h3, _⟩ := ok_bnd hT
    simp only [if_true, Bool.not_true, cond_false, impl_later h1 h2 h3, Option.bind_some]

section
variable {m : Nat}

theorem holdsW {W ts : List Int} (hb : ∀ p q, p < m + 1 → q < m + 1 → bnd (m + 1) W p q = wc p q) (ht : TimesOK m ts) : hB (m + 1) W (timeF ts) = true := by
  rw [hB_iff]
  intro i k hi hk hne
  rw [hb i k hi hk] at hne ⊢
  unfold wc at hne ⊢
  have hk' := ht.at hk
  split at hne
  · rename_i h
    rw [if_pos h]
    rcases h with h | h
    · subst h
      have : timeF ts 0 = 0 := rfl
      omega
    · subst h; omega
  · exact absurd rfl hne

theorem okW {W : List Int} (h1 : 1 ≤ m) (h2 : m ≤ 4) (hl : W.length = (m + 1) * (m + 1)) (hb : ∀ p q, p < m + 1 → q < m + 1 → bnd (m + 1) W p q = wc p q) : okZone (m : Int) W = true :=
  ok_of_bnd h1 h2 hl fun p q hp hq => by
    rw [hb p q hp hq]
    unfold wc
    split <;> omega

theorem laterOK {T : List Int} (ok : okZone (m : Int) T = true) : okZone (m : Int) (later (m + 1) m T) = true := by
  obtain ⟨h1, h2, h3, h4⟩ := ok_bnd ok
  refine ok_of_bnd h1 h2 (later_len h3) fun p q hp hq => ?_
  rw [later_bnd h3 p q hp hq]
  have := h4 p q hp hq
  split <;> omega

structure Moved (m c : Nat) (ts mv zr : List Int) (by_ : Int) : Prop where
  ok : TimesOK m ts
  okm : TimesOK m mv
  okz : TimesOK m zr
  by0 : 0 ≤ by_
  mv : ∀ i, i < m → mv.getD i 0 = ts.getD i 0 + by_
  zr : ∀ i, i < m → zr.getD i 0 = if i + 1 = c then 0 else ts.getD i 0

theorem timeF_succ (ts : List Int) (i : Nat) : timeF ts (i + 1) = ts.getD i 0 := by
  unfold timeF; simp [List.getD_eq_getElem?_getD]

theorem holdsL {T ts mv zr : List Int} {c : Nat} {by_ : Int} (ok : okZone (m : Int) T = true) (h : Moved m c ts mv zr by_) (hh : HoldsZ (m + 1) T (timeF ts)) : hB (m + 1) (later (m + 1) m T) (timeF mv) = true := by
  obtain ⟨h1, h2, h3, h4⟩ := ok_bnd ok
  rw [hB_iff]
  intro i k hi hk hne
  rw [later_bnd h3 i k hi hk] at hne ⊢
  split at hne
  · exact absurd rfl hne
  · rename_i hc
    rw [if_neg hc]
    have := hh i k hi hk hne
    have b0 := h.by0
    cases i with
    | zero =>
      cases k with
      | zero => exact this
      | succ k =>
        have e := h.mv k (by omega)
        rw [timeF_succ] at this ⊢
        rw [e]
        have e0 : timeF mv 0 = timeF ts 0 := rfl
        rw [e0]
        omega
    | succ i =>
      cases k with
      | zero => exact absurd ⟨by omega, rfl⟩ hc
      | succ k =>
        have e := h.mv i (by omega)
        have e' := h.mv k (by omega)
        rw [timeF_succ, timeF_succ] at this ⊢
        rw [e, e']
        omega

theorem timeZ {ts mv zr : List Int} {c : Nat} {by_ : Int} (h : Moved m c ts mv zr by_) (hc : 1 ≤ c) {i : Nat} (hi : i < m + 1) : timeF zr i = if i = c then 0 else timeF ts i := by
  cases i with
  | zero =>
    rw [if_neg (by omega)]; rfl
  | succ i =>
    rw [timeF_succ, timeF_succ, h.zr i (by omega)]

theorem holdsR {T S ts mv zr : List Int} {c : Nat} {by_ : Int} (hc : 1 ≤ c) (hc2 : c ≤ m) (ok : okZone (m : Int) T = true) (hS : ∀ i j, i < m + 1 → j < m + 1 → bnd (m + 1) S i j = resetC (m + 1) c T i j) (h : Moved m c ts mv zr by_) (hh : HoldsZ (m + 1) T (timeF ts)) :
    hB (m + 1) S (timeF zr) = true := by
  obtain ⟨h1, h2, h3, h4⟩ := ok_bnd ok
  rw [hB_iff]
  intro i k hi hk hne
  rw [hS i k hi hk] at hne ⊢
  rw [timeZ h hc hi, timeZ h hc hk]
  unfold resetC at hne ⊢
  have z0 : timeF ts 0 = 0 := rfl
  by_cases e1 : i = c
  · rw [if_pos e1] at hne ⊢
    rw [if_pos e1]
    by_cases e2 : k = c
    · rw [if_pos e2, if_pos e2]; omega
    · rw [if_neg e2] at hne ⊢
      rw [if_neg e2]
      have := hh 0 k (by omega) hk
      unfold bnd at this
      rw [Nat.zero_mul, Nat.zero_add] at this
      have := this hne
      omega
  · rw [if_neg e1] at hne ⊢
    rw [if_neg e1]
    by_cases e2 : k = c
    · rw [if_pos e2] at hne ⊢
      rw [if_pos e2]
      have := hh i 0 hi (by omega)
      unfold bnd at this
      rw [Nat.add_zero] at this
      have := this hne
      omega
    · rw [if_neg e2] at hne ⊢
      rw [if_neg e2]
      exact hh i k hi hk hne

theorem timesLoop {c1 : List Int} {c k : Nat} {y4 y20 by_ : Int} (hc1 : BytesI c1) (hm : m ≤ 4) (hk : k < 8) (hy4 : wadd .i64 (1 : Int) y4 = (m : Int)) (hy20 : wadd .i64 (1 : Int) y20 = (c : Int)) (hby : 0 ≤ by_ ∧ by_ ≤ 3) :
    ∃ ts mv zr, rounds (laws_FnZones_B1 c1 y4 y20 (k : Int) by_) ((0 : Int), ([] : List Int), ([] : List Int), ([] : List Int)) = some (ts, mv, zr) ∧ Moved m c ts mv zr by_ := by
  obtain ⟨r, e, hr⟩ := rounds_inv (f := laws_FnZones_B1 c1 y4 y20 (k : Int) by_) (fun n st => ∃ (i : Nat) (ts mv zr : List Int), n + i = m ∧ st = ((i : Int), ts, mv, zr) ∧ ts.length = i ∧ mv.length = i ∧ zr.length = i ∧
      ∀ j, j < i → 0 ≤ ts.getD j 0 ∧ ts.getD j 0 ≤ 6 ∧ mv.getD j 0 = ts.getD j 0 + by_ ∧ zr.getD j 0 = if j + 1 = c then 0 else ts.getD j 0)
    (fun r => Moved m c r.1 r.2.1 r.2.2 by_) (by
    rintro n st ⟨i, ts, mv, zr, hn, rfl, l1, l2, l3, hj⟩
    by_cases hi : i < m
    · obtain ⟨x, ex, x1, x2⟩ := b10At_ok hc1 (i := ((10 + 3 * k + i : Nat) : Int)) (n := 7) (by omega)
      have e1 : wadd .i64 (wadd .i64 (10 : Int) (wmul .i64 (3 : Int) (k : Int))) (i : Int) = ((10 + 3 * k + i : Nat) : Int) := by
        have a1 : wmul .i64 (3 : Int) (k : Int) = 3 * (k : Int) := wmulI (by omega)
        have a2 : wadd .i64 (10 : Int) (3 * (k : Int)) = 10 + 3 * (k : Int) := waddI (by omega)
        rw [a1, a2, waddI (by omega)]; omega
      have e2 : wadd .i64 x by_ = x + by_ := waddI (by omega)
      have e3 : (((i + 1 : Nat) : Int) == (c : Int)) = decide (i + 1 = c) := by
        rw [Bool.eq_iff_iff, beq_iff_eq, decide_eq_true_eq]; omega
      have ap : ∀ {xs : List Int} (z : Int), xs.length = i → List.length xs + List.length ([z] : List Int) ≤ appMax := fun z h => by simp only [List.length_singleton, appMax]; omega
      unfold laws_FnZones_B1
      simp only [hy4, hy20, ltN hi, cond_true, e1, ex, Option.bind_some, e2, guard_pos (ap _ l1), guard_pos (ap _ l2), nextN hi (show m ≤ 4294967296 by omega), e3]
      have fin : ∀ v : Int, v = (if i + 1 = c then 0 else x) → ∃ n' s', n' < n ∧ (guardP (List.length zr + List.length ([v] : List Int) ≤ appMax) (some (Sum.inl (((i + 1 : Nat) : Int), ts ++ [x], mv ++ [x + by_], zr ++ [v])) : Option ((Int × List Int × List Int × List Int) ⊕ (List Int × List Int × List Int)))) = some (.inl s') ∧
          ∃ (i : Nat) (ts mv zr : List Int), n' + i = m ∧ s' = ((i : Int), ts, mv, zr) ∧ ts.length = i ∧ mv.length = i ∧ zr.length = i ∧
            ∀ j, j < i → 0 ≤ ts.getD j 0 ∧ ts.getD j 0 ≤ 6 ∧ mv.getD j 0 = ts.getD j 0 + by_ ∧ zr.getD j 0 = if j + 1 = c then 0 else ts.getD j 0 := by
        intro v hv
        rw [guard_pos (ap _ l3)]
        refine ⟨n - 1, _, by omega, rfl, i + 1, ts ++ [x], mv ++ [x + by_], zr ++ [v], by omega, rfl, by simp [l1], by simp [l2], by simp [l3], fun j hji => ?_⟩
        have get : ∀ {xs : List Int} (z : Int), xs.length = i → (xs ++ [z]).getD j 0 = if j = i then z else xs.getD j 0 := fun {xs} z h => by
          by_cases e : j = i
          · rw [if_pos e, List.getD_eq_getElem?_getD, List.getElem?_append_right (by omega), h, e, Nat.sub_self]; rfl
          · rw [if_neg e, List.getD_eq_getElem?_getD, List.getElem?_append_left (by omega), ← List.getD_eq_getElem?_getD]
        rw [get x l1, get (x + by_) l2, get v l3]
        by_cases e : j = i
        · rw [if_pos e, if_pos e, if_pos e, hv, e]
          exact ⟨x1, by omega, rfl, rfl⟩
        · rw [if_neg e, if_neg e, if_neg e]
          exact hj j (by omega)
      by_cases hc : i + 1 = c
      · simp only [hc, decide_true, cond_true, Option.bind_some]
        have := fin 0 (by rw [if_pos hc])
        simp only [hc] at this
        exact .inl this
      · simp only [hc, decide_false, cond_false, Option.bind_some]
        exact .inl (fin x (by rw [if_neg hc]))
    · have : i = m := by omega
      subst this
      unfold laws_FnZones_B1
      simp only [hy4, geN (Nat.le_refl _), cond_false]
      refine .inr ⟨_, rfl, ⟨⟨l1, fun j hj' => ?_⟩, ⟨l2, fun j hj' => ?_⟩, ⟨l3, fun j hj' => ?_⟩, hby.1, fun j hj' => (hj j hj').2.2.1, fun j hj' => (hj j hj').2.2.2⟩⟩
      · have hj' : j < ts.length := hj'
        have := hj j (by omega)
        show 0 ≤ ts.getD j 0 ∧ ts.getD j 0 ≤ 1000000
        omega
      · have hj' : j < mv.length := hj'
        have := hj j (by omega)
        show 0 ≤ mv.getD j 0 ∧ mv.getD j 0 ≤ 1000000
        omega
      · have hj' : j < zr.length := hj'
        have := hj j (by omega)
        show 0 ≤ zr.getD j 0 ∧ zr.getD j 0 ≤ 1000000
        split at this <;> omega) m ((0 : Int), [], [], []) ⟨0, [], [], [], by omega, rfl, rfl, rfl, rfl, fun j hj => by omega⟩
  exact ⟨r.1, r.2.1, r.2.2, e, hr⟩

theorem zonesStep {c1 A B W : List Int} {c k : Nat} {y4 y20 : Int} {y22 : (Int × List Int) × Bool} (hc1 : BytesI c1) (hk : k < 8) (hy4 : wadd .i64 (1 : Int) y4 = (m : Int)) (hy20 : wadd .i64 (1 : Int) y20 = (c : Int))
    (k1 : 1 ≤ c) (k2 : c ≤ m) (oA : okZone (m : Int) A = true) (sA : SmallZ (m + 1) A) (oB : okZone (m : Int) B = true) (sB : SmallZ (m + 1) B)
    (hW : W.length = (m + 1) * (m + 1)) (hb : ∀ p q, p < m + 1 → q < m + 1 → bnd (m + 1) W p q = wc p q)
    (hr : okZone (m : Int) (tight (m + 1) A) = true → ∃ S, y22 = (((m : Int), S), true) ∧ S.length = (m + 1) * (m + 1) ∧ ∀ i j, i < m + 1 → j < m + 1 → bnd (m + 1) S i j = resetC (m + 1) c (tight (m + 1) A) i j) :
    laws_FnZones_B2 c1 y4 ((m : Int), A) ((m : Int), B) (tightZ (m : Int) A) (tightY (m : Int) (meetL A B A.length)) (laterZ m A) y20 y22 (((m : Int), W), true) (k : Int) = some (.inl ((k + 1 : Nat) : Int)) := by
  obtain ⟨h1, h2, h3, h4⟩ := ok_bnd oA
  obtain ⟨by_, eb, b1, b2⟩ := b10At_ok hc1 (i := ((2 + k : Nat) : Int)) (n := 4) (by omega)
  have e1 : wadd .i64 (2 : Int) (k : Int) = ((2 + k : Nat) : Int) := by rw [waddI (by omega)]; omega
  obtain ⟨ts, mv, zr, et, hM⟩ := timesLoop (c := c) hc1 h2 hk hy4 hy20 (by_ := by_) (by omega)
  have hA := implHolds oA hM.ok
  have hA' := specHolds oA hM.ok
  have hB' := implHolds oB hM.ok
  have oW := okW h1 h2 hW hb
  have hWs := implHolds oW hM.ok
  rw [holdsW hb hM.ok] at hWs
  have oM := meetL_ok oA oB
  have sM := meet_small oA sA sB
  have hxt : ∀ i, i < m + 1 → 0 ≤ timeF ts i ∧ timeF ts i ≤ 1000000 := fun i hi => hM.ok.at hi
  have hk8 : decide ((k : Int) < 8) = true := by simp; omega
  have enx : wadd .i64 (k : Int) (1 : Int) = ((k + 1 : Nat) : Int) := nextN (n := 8) hk (by omega)
  -- what holds for the times
  have F1 : hB (m + 1) A (timeF ts) = true → okZone (m : Int) (tight (m + 1) A) = true ∧ hB (m + 1) (tight (m + 1) A) (timeF ts) = true := fun h => by
    obtain ⟨a, b⟩ := tight_times oA sA hxt (hB_iff.1 h)
    exact ⟨a, hB_iff.2 b⟩
  have F2 : hB (m + 1) (tight (m + 1) A) (timeF ts) = true → hB (m + 1) A (timeF ts) = true := fun h => hB_iff.2 (tight_back oA (hB_iff.1 h))
  have F3 : (hB (m + 1) A (timeF ts) = true ∧ hB (m + 1) B (timeF ts) = true) → okZone (m : Int) (tight (m + 1) (meetL A B A.length)) = true ∧ hB (m + 1) (tight (m + 1) (meetL A B A.length)) (timeF ts) = true := fun h => by
    obtain ⟨a, b⟩ := tight_times oM sM hxt ((meet_holds oA oB).2 ⟨hB_iff.1 h.1, hB_iff.1 h.2⟩)
    exact ⟨a, hB_iff.2 b⟩
  have F4 : hB (m + 1) (tight (m + 1) (meetL A B A.length)) (timeF ts) = true → hB (m + 1) A (timeF ts) = true ∧ hB (m + 1) B (timeF ts) = true := fun h => by
    obtain ⟨a, b⟩ := (meet_holds oA oB).1 (tight_back oM (hB_iff.1 h))
    exact ⟨hB_iff.2 a, hB_iff.2 b⟩
  unfold laws_FnZones_B2
  simp only [hk8, cond_true, e1, eb, Option.bind_some, et, hA, hA', hB', hWs, Bool.not_true, cond_false, bne_self_eq_false, enx]
  unfold tightZ tightY laterZ
  simp only [Int.toNat_natCast, oA, true_and]
  cases hT : okZone (m : Int) (tight (m + 1) A) with
  | false =>
    have ha : hB (m + 1) A (timeF ts) = false := by
      cases h : hB (m + 1) A (timeF ts) with
      | false => rfl
      | true => rw [(F1 h).1] at hT; cases hT
    simp only [ha, cond_false, Option.bind_some, Bool.false_eq_true, if_false]
    cases hTM : okZone (m : Int) (tight (m + 1) (meetL A B A.length)) with
    | false => simp only [Bool.false_eq_true, if_false, cond_false, Option.bind_some]
    | true =>
      have hm : hB (m + 1) (tight (m + 1) (meetL A B A.length)) (timeF ts) = false := by
        cases h : hB (m + 1) (tight (m + 1) (meetL A B A.length)) (timeF ts) with
        | false => rfl
        | true => rw [(F4 h).1] at ha; cases ha
      simp only [if_true, cond_true, implHolds hTM hM.ok, hm, Option.bind_some, Bool.not_true, cond_false, bne_self_eq_false]
  | true =>
    have hT1 := implHolds hT hM.ok
    have hTa : hB (m + 1) (tight (m + 1) A) (timeF ts) = hB (m + 1) A (timeF ts) := by
      rw [Bool.eq_iff_iff]
      exact ⟨F2, fun h => (F1 h).2⟩
    rw [hTa] at hT1
    simp only [if_true, cond_true, hT1, Option.bind_some, Bool.not_true, cond_false, bne_self_eq_false]
    have hL := implHolds (laterOK hT) hM.okm
    obtain ⟨S, eS, lS, bS⟩ := hr hT
    have oS : okZone (m : Int) S = true := reset_ok k1 k2 h2 hT lS fun i j hi hj => bS i j hi hj
    have hS := implHolds oS hM.okz
    subst eS
    cases ha : hB (m + 1) A (timeF ts) with
    | false =>
      simp only [cond_false, Option.bind_some]
      cases hTM : okZone (m : Int) (tight (m + 1) (meetL A B A.length)) with
      | false => simp only [Bool.false_eq_true, if_false, cond_false, Option.bind_some]
      | true =>
        have hm : hB (m + 1) (tight (m + 1) (meetL A B A.length)) (timeF ts) = false := by
          cases h : hB (m + 1) (tight (m + 1) (meetL A B A.length)) (timeF ts) with
          | false => rfl
          | true => rw [(F4 h).1] at ha; cases ha
        simp only [if_true, cond_true, implHolds hTM hM.ok, hm, Option.bind_some, Bool.not_true, cond_false, bne_self_eq_false]
    | true =>
      have hTh := hB_iff.1 (F1 ha).2
      rw [holdsL hT hM hTh] at hL
      rw [holdsR k1 k2 hT bS hM hTh] at hS
      cases hbb : hB (m + 1) B (timeF ts) with
      | false =>
        simp only [cond_true, cond_false, Option.bind_some]
        cases hTM : okZone (m : Int) (tight (m + 1) (meetL A B A.length)) with
        | false => simp only [Bool.false_eq_true, if_false, cond_false, Option.bind_some, hL, hS, Bool.not_true]
        | true =>
          have hm : hB (m + 1) (tight (m + 1) (meetL A B A.length)) (timeF ts) = false := by
            cases h : hB (m + 1) (tight (m + 1) (meetL A B A.length)) (timeF ts) with
            | false => rfl
            | true => rw [(F4 h).2] at hbb; cases hbb
          simp only [if_true, cond_true, implHolds hTM hM.ok, hm, Option.bind_some, Bool.not_true, cond_false, bne_self_eq_false, hL, hS]
      | true =>
        obtain ⟨hTM, hm⟩ := F3 ⟨ha, hbb⟩
        simp only [hTM, if_true, cond_true, implHolds hTM hM.ok, hm, Option.bind_some, Bool.not_true, cond_false, bne_self_eq_false, hL, hS]

end

theorem FnZones_law (x0 x1 : List Int) (w0 : WfD (.sl (.int .u8)) x0) (w1 : WfD (.sl (.int .u8)) x1) : laws_FnZones x0 x1 = some true := by
  unfold laws_FnZones laws_b10Long
  by_cases c0 : lenI x0 > (1048576 : Int)
  · simp only [c0, decide_true, cond_true, Option.bind_some]
  · by_cases c1 : lenI x1 > (1048576 : Int)
    · simp only [c0, c1, decide_true, decide_false, cond_true, cond_false, Option.bind_some]
    · simp only [c0, c1, decide_false, cond_false, Option.bind_some]
      have b0 := bytesI_wf w0 (by simp only [lenI] at c0; omega)
      have b1 := bytesI_wf w1 (by simp only [lenI] at c1; omega)
      obtain ⟨y4, e4, p1, p2⟩ := b10At_ok b1 (i := 0) (n := 3) (by omega)
      obtain ⟨m, hm⟩ : ∃ m : Nat, wadd .i64 (1 : Int) y4 = (m : Int) ∧ 1 ≤ m ∧ m ≤ 3 := ⟨(1 + y4).toNat, by rw [waddI (by omega)]; omega, by omega, by omega⟩
      obtain ⟨hm, m1, m3⟩ := hm
      obtain ⟨A, eA, oA, sA⟩ := drawZone b0 m1 (show m ≤ 4 by omega)
      obtain ⟨B, eB, oB, sB⟩ := drawZone b1 m1 (show m ≤ 4 by omega)
      obtain ⟨y20, e20, q1, q2⟩ := b10At_ok b1 (i := 1) (n := (m : Int)) (by omega)
      obtain ⟨c, hc⟩ : ∃ c : Nat, wadd .i64 (1 : Int) y20 = (c : Int) ∧ 1 ≤ c ∧ c ≤ m := ⟨(1 + y20).toNat, by rw [waddI (by omega)]; omega, by omega, by omega⟩
      obtain ⟨hc, c1', c2'⟩ := hc
      obtain ⟨W, eW, lW, bW⟩ := implWhole m1 (show m ≤ 4 by omega)
      have oW := okW m1 (by omega) lW bW
      obtain ⟨m2, m4⟩ := implMeetV oA oB
      have lA := (ok_bnd oA).2.2.1
      have h25 : (m + 1) * (m + 1) ≤ 5 * 5 := Nat.mul_le_mul (by omega) (by omega)
      simp only [e4, hm, eA, eB, Option.bind_some, impl_tightZ, spec_tightZ, m2, m4, implLaterV oA, e20, hc, eW, implPart lW bW oW oA, implZone, oA, Bool.not_true, bne_self_eq_false, cond_false]
      have hres : ∃ y22, impl_ResetZone ((m : Int), A) (c : Int) = some y22 ∧ y22.2 = okZone (m : Int) (tight (m + 1) A) ∧ (okZone (m : Int) (tight (m + 1) A) = true → ∃ S, y22 = (((m : Int), S), true) ∧ S.length = (m + 1) * (m + 1) ∧ ∀ i j, i < m + 1 → j < m + 1 → bnd (m + 1) S i j = resetC (m + 1) c (tight (m + 1) A) i j) := by
        cases hT : okZone (m : Int) (tight (m + 1) A) with
        | false =>
          refine ⟨((0, []), false), ?_, rfl, fun h => by cases h⟩
          unfold impl_ResetZone
          simp only [impl_tightZ, Option.bind_some, tightZ, Int.toNat_natCast, oA, hT, Bool.false_eq_true, and_false, if_false, Bool.not_false, cond_true]
        | true =>
          obtain ⟨S, s1, s2, s3⟩ := implReset c1' c2' oA hT
          exact ⟨_, s1, rfl, fun _ => ⟨S, rfl, s2, s3⟩⟩
      obtain ⟨y22, e22, e23, hr⟩ := hres
      have hloop := rounds_all (f := laws_FnZones_B2 x1 y4 ((m : Int), A) ((m : Int), B) (tightZ (m : Int) A) (tightY (m : Int) (meetL A B A.length)) (laterZ m A) y20 y22 (((m : Int), W), true)) (fun k => ((k : Nat) : Int)) (fun _ => true) (Sum.inl ()) (Sum.inr ()) (n := 8) (fun k hk => by
        rw [zonesStep b1 hk hm hc c1' c2' oA sA oB sB lW bW hr]; rfl) (by
        unfold laws_FnZones_B2
        rfl) 8 0 (by omega)
      simp only [Int.natCast_zero] at hloop
      rw [show allN (fun _ => true) 8 0 = true from rfl] at hloop
      have t2 : (tightZ (m : Int) A).2 = okZone (m : Int) (tight (m + 1) A) := by
        unfold tightZ
        simp only [oA, true_and, Int.toNat_natCast]
        cases okZone (m : Int) (tight (m + 1) A) <;> rfl
      have l2 : (laterZ m A).2 = okZone (m : Int) (tight (m + 1) A) := by
        unfold laterZ
        cases okZone (m : Int) (tight (m + 1) A) <;> rfl
      simp only [e22, Option.bind_some, t2, l2, e23, bne_self_eq_false, cond_false, hloop, cond_true]
      have hsame : impl_SameZone ((m : Int), A) ((m : Int), A) = some true := by
        unfold impl_SameZone
        simp only [beq_self_eq_true, cond_true, same64z (xs := A) (by omega), Option.bind_some]
      cases hT : okZone (m : Int) (tight (m + 1) A) with
      | false => simp only [Bool.not_true, hsame, Option.bind_some, cond_false, cond_true, Bool.not_false]
      | true =>
        have e1 : (tightZ (m : Int) A).1 = ((m : Int), tight (m + 1) A) := by
          unfold tightZ
          simp only [oA, true_and, Int.toNat_natCast, hT, if_true]
        unfold spec_ValidZone
        simp only [Bool.not_true, hsame, Option.bind_some, cond_false, cond_true, e1, specZone, hT, bne_self_eq_false]

end Go.Proofs
