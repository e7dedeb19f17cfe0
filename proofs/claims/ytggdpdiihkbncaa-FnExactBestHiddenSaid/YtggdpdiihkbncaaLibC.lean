import Derived.Test.YtggdpdiihkbncaaLibB
set_option linter.unusedVariables false
set_option linter.unusedSimpArgs false
set_option linter.unusedSectionVars false
/-
  Sums of floats of 32 bits, bounded by how many there are.
-/
namespace Go.Ide

/-- A finite number whose size, in least places, is at most V. -/
def bdv (x V : Nat) : Prop := ∃ s m i, Ieee.single.read x = .number s m (-149 + ((i : Nat) : Int)) ∧ m * 2 ^ i ≤ V

theorem bdv.mono {x V W : Nat} (h : bdv x V) (hv : V ≤ W) : bdv x W := by
  obtain ⟨s, m, i, e, h⟩ := h
  exact ⟨s, m, i, e, Nat.le_trans h hv⟩

theorem bdv_of_bd {x K : Nat} (h : bd x K) (h2 : 2 ≤ K) (h3 : K ≤ 254) : bdv x (2 ^ (K + 22)) := read_bd h h2 h3

theorem pow_pos2 (u : Nat) : 0 < 2 ^ u := Nat.pos_of_ne_zero (by simp)

theorem bd_of_bdv {x K : Nat} (h : bdv x (2 ^ (K + 22))) (h2 : 2 ≤ K) : bd x K := by
  obtain ⟨s, m, i, e, h⟩ := h
  unfold bd
  by_cases hb : x % 2147483648 ≤ K * 8388608
  · exact hb
  exfalso
  by_cases hhi : x % 2147483648 < 2139095040
  · have hr := read_hi (x := x) (by omega) hhi
    rw [hr] at e
    injection e with e1 e2 e3
    have e3 : i = x % 2147483648 / 8388608 - 1 := by omega
    subst e2 e3
    generalize x % 2147483648 = r at *
    by_cases hq : r / 8388608 = K
    · have h1 : (8388608 + 1) * 2 ^ (K - 1) ≤ (8388608 + r % 8388608) * 2 ^ (r / 8388608 - 1) := by
        rw [hq]; exact Nat.mul_le_mul_right _ (by omega)
      have h3 : 2 ^ (K + 22) = 8388608 * 2 ^ (K - 1) := by rw [show K + 22 = 23 + (K - 1) by omega, Nat.pow_add 2 23]
      have := pow_pos2 (K - 1)
      omega
    · have h1 : 8388608 * 2 ^ K ≤ (8388608 + r % 8388608) * 2 ^ (r / 8388608 - 1) := Nat.mul_le_mul (by omega) (Nat.pow_le_pow_right (by omega) (by omega))
      have h3 : 8388608 * 2 ^ K = 2 * 2 ^ (K + 22) := by rw [Nat.pow_add 2 K 22]; omega
      have := pow_pos2 (K + 22)
      omega
  · unfold Ieee.Format.read at e
    simp only [sw32, bi32, ir32] at e
    rw [if_neg (by omega), if_neg hhi] at e
    split at e <;> cases e

theorem cut_ge {neg : Bool} {n drop B : Nat} (h : B * 2 ^ drop ≤ n) : B ≤ Ieee.Toward.cut .even neg n drop := by
  unfold Ieee.Toward.cut
  simp only [Nat.one_shiftLeft]
  refine Nat.le_trans ?_ (Nat.le_add_right _ _)
  by_cases hd : drop ≤ n.log2 + 2
  · rw [Nat.min_eq_left hd]
    exact (Nat.le_div_iff_mul_le (pow_pos2 _)).2 h
  · have hlt : n < 2 ^ (n.log2 + 1) := Nat.lt_log2_self
    have hle : 2 ^ (n.log2 + 1) ≤ 2 ^ drop := Nat.pow_le_pow_right (by omega) (by omega)
    by_cases hB : B = 0
    · subst hB; exact Nat.zero_le _
    · have : 1 * 2 ^ drop ≤ B * 2 ^ drop := Nat.mul_le_mul_right _ (by omega)
      omega

/-- What the word of a sum of places reads. -/
theorem read_made {neg : Bool} {t kept V : Nat} (h0 : t = 0 ∨ 8388608 ≤ kept) (h1 : kept ≤ 16777216) (h2 : kept * 2 ^ t ≤ V) (h3 : V ≤ 2 ^ 276) : bdv (Ieee.single.word neg (min (t * 8388608 + kept) 2139095040)) V := by
  have ht : t * 8388608 + kept ≤ 254 * 8388608 := by
    rcases h0 with rfl | h0
    · omega
    · obtain ⟨E, hE⟩ : ∃ E : Nat, E = 276 := ⟨_, rfl⟩
      rw [← hE] at h3
      have h4 : 2 ^ (23 + t) ≤ 2 ^ E := by
        rw [Nat.pow_add 2 23]
        exact Nat.le_trans (Nat.le_trans (Nat.mul_le_mul_right _ h0) h2) h3
      have h5 : 23 + t ≤ E := (Nat.pow_le_pow_iff_right (by omega)).1 h4
      have h6 : kept ≤ 2 ^ (E - t) := by
        refine Nat.le_of_mul_le_mul_right ?_ (pow_pos2 t)
        rw [← Nat.pow_add, show E - t + t = E by omega]
        exact Nat.le_trans h2 h3
      by_cases he : t = 253
      · rw [show E - t = 23 by omega] at h6
        omega
      · omega
  rw [Nat.min_eq_left (by omega)]
  have hm : Ieee.single.word neg (t * 8388608 + kept) % 2147483648 = t * 8388608 + kept := word_mod32 (by omega)
  by_cases hlo : t * 8388608 + kept < 8388608
  · have hr := read_lo (x := Ieee.single.word neg (t * 8388608 + kept)) (by rw [hm]; exact hlo)
    refine ⟨_, _, _, hr, ?_⟩
    rw [hm]
    have : t = 0 := by omega
    subst this
    omega
  · have hr := read_hi (x := Ieee.single.word neg (t * 8388608 + kept)) (by rw [hm]; omega) (by rw [hm]; omega)
    refine ⟨_, _, _, hr, ?_⟩
    rw [hm]
    refine Nat.le_trans ?_ h2
    by_cases hk : kept = 16777216
    · subst hk
      rw [show (t * 8388608 + 16777216) % 8388608 = 0 by omega, show (t * 8388608 + 16777216) / 8388608 - 1 = t + 1 by omega, Nat.pow_succ]
      omega
    · have : 8388608 ≤ kept := by omega
      rw [show (t * 8388608 + kept) % 8388608 = kept - 8388608 by omega, show (t * 8388608 + kept) / 8388608 - 1 = t by omega]
      exact Nat.mul_le_mul_right _ (by omega)

theorem nearest_val {neg : Bool} {mag j n k : Nat} (h : mag * 2 ^ j ≤ n * 2 ^ (k + 149)) (hn : n ≤ 8388608) (hV : n * 2 ^ k ≤ 2 ^ 276) : bdv (Ieee.single.nearest neg mag (-298 + (j : Int))) (n * 2 ^ k) := by
  unfold Ieee.Format.nearest
  by_cases h0 : mag = 0
  · rw [if_pos h0]
    refine ⟨_, _, _, read_lo (by rw [word_mod32 (by omega)]; omega), ?_⟩
    rw [word_mod32 (by omega)]; omega
  rw [if_neg h0]
  simp only [lp32, bi32, ir32]
  have hf : Ieee.single.fractionBits = 23 := rfl
  simp only [hf]
  have hlo : 2 ^ mag.log2 ≤ mag := Nat.log2_self_le h0
  have hhi : mag < 2 ^ (mag.log2 + 1) := Nat.lt_log2_self
  generalize mag.log2 = L at *
  by_cases hA : j + L ≤ 172
  · have el : max (-298 + (j : Int) + L - ((23 : Nat) : Int)) (-149) = -149 := by omega
    rw [el]
    have e1 : ((-149 : Int) - -149).toNat = 0 := rfl
    have e2 : (-298 + (j : Int) - -149).toNat = j - 149 := by omega
    have e3 : ((-149 : Int) - (-298 + (j : Int))).toNat = 149 - j := by omega
    rw [e1, e2, e3]
    refine read_made (.inl rfl) ?_ ?_ hV
    · apply cut_le
      rw [Nat.shiftLeft_eq]
      have : mag ≤ 2 ^ (173 - j) := by
        refine Nat.le_trans (Nat.le_of_lt hhi) (Nat.pow_le_pow_right (by omega) (by omega))
      by_cases hj : j ≤ 149
      · rw [show j - 149 = 0 by omega]
        have e : 16777216 * 2 ^ (149 - j) = 2 ^ (173 - j) := by
          rw [show 173 - j = 24 + (149 - j) by omega, Nat.pow_add 2 24]
        rw [e]; simpa using this
      · rw [show 149 - j = 0 by omega]
        have e : mag * 2 ^ (j - 149) ≤ 2 ^ (173 - j) * 2 ^ (j - 149) := Nat.mul_le_mul_right _ this
        rw [← Nat.pow_add, show 173 - j + (j - 149) = 24 by omega] at e
        simpa using e
    · rw [Nat.pow_zero, Nat.mul_one]
      apply cut_le
      rw [Nat.shiftLeft_eq]
      by_cases hj : j ≤ 149
      · rw [show j - 149 = 0 by omega, Nat.pow_zero, Nat.mul_one]
        refine Nat.le_of_mul_le_mul_right ?_ (pow_pos2 j)
        rw [Nat.mul_assoc, Nat.mul_assoc, ← Nat.pow_add, ← Nat.pow_add, show k + (149 - j + j) = k + 149 by omega]
        exact h
      · rw [show 149 - j = 0 by omega, Nat.pow_zero, Nat.mul_one]
        refine Nat.le_of_mul_le_mul_right ?_ (pow_pos2 149)
        rw [Nat.mul_assoc, Nat.mul_assoc, ← Nat.pow_add, ← Nat.pow_add, show j - 149 + 149 = j by omega]
        exact h
  · have el : max (-298 + (j : Int) + L - ((23 : Nat) : Int)) (-149) = ((j + L : Nat) : Int) - 321 := by omega
    rw [el]
    have e1 : (((j + L : Nat) : Int) - 321 - -149).toNat = j + L - 172 := by omega
    have e2 : (-298 + (j : Int) - (((j + L : Nat) : Int) - 321)).toNat = 23 - L := by omega
    have e3 : (((j + L : Nat) : Int) - 321 - (-298 + (j : Int))).toNat = L - 23 := by omega
    rw [e1, e2, e3]
    have hLj : L + j ≤ 23 + (k + 149) := by
      have : 2 ^ (L + j) ≤ 2 ^ (23 + (k + 149)) := by
        rw [Nat.pow_add, Nat.pow_add 2 23]
        exact Nat.le_trans (Nat.mul_le_mul_right _ hlo) (Nat.le_trans h (Nat.mul_le_mul_right _ hn))
      exact (Nat.pow_le_pow_iff_right (by omega)).1 this
    refine read_made (.inr ?_) ?_ ?_ hV
    · apply cut_ge
      rw [Nat.shiftLeft_eq]
      by_cases hj : L ≤ 23
      · rw [show L - 23 = 0 by omega]
        have e : 2 ^ L * 2 ^ (23 - L) ≤ mag * 2 ^ (23 - L) := Nat.mul_le_mul_right _ hlo
        rw [← Nat.pow_add, show L + (23 - L) = 23 by omega] at e
        simpa using e
      · rw [show 23 - L = 0 by omega]
        have e : 8388608 * 2 ^ (L - 23) = 2 ^ L := by
          conv => rhs; rw [show L = 23 + (L - 23) by omega, Nat.pow_add 2 23]
        rw [e]
        simpa using hlo
    · apply cut_le
      rw [Nat.shiftLeft_eq]
      by_cases hj : L ≤ 23
      · rw [show L - 23 = 0 by omega]
        have e : mag * 2 ^ (23 - L) ≤ 2 ^ (L + 1) * 2 ^ (23 - L) := Nat.mul_le_mul_right _ (Nat.le_of_lt hhi)
        rw [← Nat.pow_add, show L + 1 + (23 - L) = 24 by omega] at e
        simpa using e
      · rw [show 23 - L = 0 by omega]
        have e : 16777216 * 2 ^ (L - 23) = 2 ^ (L + 1) := by
          rw [show L + 1 = 24 + (L - 23) by omega, Nat.pow_add 2 24]
        rw [e]
        simpa using Nat.le_of_lt hhi
    · have hc : Ieee.Toward.cut .even neg (mag <<< (23 - L)) (L - 23) ≤ n * 2 ^ (k - (j + L - 172)) := by
        apply cut_le
        rw [Nat.shiftLeft_eq]
        by_cases hj : L ≤ 23
        · rw [show L - 23 = 0 by omega, Nat.pow_zero, Nat.mul_one]
          refine Nat.le_of_mul_le_mul_right ?_ (pow_pos2 (j - (23 - L)))
          rw [Nat.mul_assoc, Nat.mul_assoc, ← Nat.pow_add, ← Nat.pow_add, show 23 - L + (j - (23 - L)) = j by omega, show k - (j + L - 172) + (j - (23 - L)) = k + 149 by omega]
          exact h
        · rw [show 23 - L = 0 by omega, Nat.pow_zero, Nat.mul_one]
          refine Nat.le_of_mul_le_mul_right ?_ (pow_pos2 j)
          rw [Nat.mul_assoc, Nat.mul_assoc, ← Nat.pow_add, ← Nat.pow_add, show k - (j + L - 172) + (L - 23 + j) = k + 149 by omega]
          exact h
      refine Nat.le_trans (Nat.mul_le_mul_right _ hc) ?_
      rw [Nat.mul_assoc, ← Nat.pow_add, show k - (j + L - 172) + (j + L - 172) = k by omega]
      exact Nat.le_refl _

theorem bdv_add {x y n k : Nat} (hx : bdv x (n * 2 ^ k)) (hy : bdv y (2 ^ k)) (hn : n + 1 ≤ 8388608) (hV : (n + 1) * 2 ^ k ≤ 2 ^ 276) : bdv (fop .add .f32 x y) ((n + 1) * 2 ^ k) := by
  obtain ⟨s, m, i, e1, h1⟩ := hx
  obtain ⟨t, m', j, e2, h2⟩ := hy
  have hb : (min (-149 + (i : Int)) (-149 + (j : Int))) = -298 + ((149 + min i j : Nat) : Int) := by omega
  have e : ∃ g mag, fop .add .f32 x y = fcanon .f32 (Ieee.single.nearest g mag (-298 + ((149 + min i j : Nat) : Int))) ∧ mag * 2 ^ (149 + min i j) ≤ (n + 1) * 2 ^ (k + 149) := by
    refine ⟨if Ieee.signed s m (-149 + (i : Int) - (-298 + ((149 + min i j : Nat) : Int))).toNat + Ieee.signed t m' (-149 + (j : Int) - (-298 + ((149 + min i j : Nat) : Int))).toNat = 0 then s && t else Ieee.signed s m (-149 + (i : Int) - (-298 + ((149 + min i j : Nat) : Int))).toNat + Ieee.signed t m' (-149 + (j : Int) - (-298 + ((149 + min i j : Nat) : Int))).toNat < 0, (Ieee.signed s m (-149 + (i : Int) - (-298 + ((149 + min i j : Nat) : Int))).toNat + Ieee.signed t m' (-149 + (j : Int) - (-298 + ((149 + min i j : Nat) : Int))).toNat).natAbs, ?_, ?_⟩
    · have : floatBits .add .f32 x y = some (Ieee.single.nearest (if Ieee.signed s m (-149 + (i : Int) - (-298 + ((149 + min i j : Nat) : Int))).toNat + Ieee.signed t m' (-149 + (j : Int) - (-298 + ((149 + min i j : Nat) : Int))).toNat = 0 then s && t else Ieee.signed s m (-149 + (i : Int) - (-298 + ((149 + min i j : Nat) : Int))).toNat + Ieee.signed t m' (-149 + (j : Int) - (-298 + ((149 + min i j : Nat) : Int))).toNat < 0) (Ieee.signed s m (-149 + (i : Int) - (-298 + ((149 + min i j : Nat) : Int))).toNat + Ieee.signed t m' (-149 + (j : Int) - (-298 + ((149 + min i j : Nat) : Int))).toNat).natAbs (-298 + ((149 + min i j : Nat) : Int))) := by
        show Ieee.single.add x y = _
        unfold Ieee.Format.add
        rw [e1, e2]
        unfold Ieee.Datum.sum
        simp only [hb]
        rfl
      unfold fop
      rw [this]
    · have e1 : (-149 + (i : Int) - (-298 + ((149 + min i j : Nat) : Int))).toNat = i - min i j := by omega
      have e2 : (-149 + (j : Int) - (-298 + ((149 + min i j : Nat) : Int))).toNat = j - min i j := by omega
      rw [e1, e2]
      refine Nat.le_trans (Nat.mul_le_mul_right _ (Int.natAbs_add_le _ _)) ?_
      rw [signed_abs, signed_abs, Nat.add_mul]
      have e3 : m * 2 ^ (i - min i j) * 2 ^ (149 + min i j) = (m * 2 ^ i) * 2 ^ 149 := by
        rw [Nat.mul_assoc, ← Nat.pow_add, show i - min i j + (149 + min i j) = i + 149 by omega, Nat.pow_add, Nat.mul_assoc]
      have e4 : m' * 2 ^ (j - min i j) * 2 ^ (149 + min i j) = (m' * 2 ^ j) * 2 ^ 149 := by
        rw [Nat.mul_assoc, ← Nat.pow_add, show j - min i j + (149 + min i j) = j + 149 by omega, Nat.pow_add, Nat.mul_assoc]
      rw [e3, e4, ← Nat.add_mul, Nat.pow_add 2 k, ← Nat.mul_assoc]
      refine Nat.mul_le_mul_right _ ?_
      rw [Nat.add_mul]
      omega
  obtain ⟨g, mag, e, h3⟩ := e
  rw [e, canon_bd (nearest_le255 _ _ _) (Nat.le_refl _)]
  exact nearest_val h3 hn hV

end Go.Ide
