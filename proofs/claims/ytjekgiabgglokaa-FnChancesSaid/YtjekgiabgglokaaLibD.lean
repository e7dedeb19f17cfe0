import Derived.Test.YtjekgiabgglokaaLibC
import Derived.Laws.Externs
import Derived.WalkKit
import Derived.IntWalk
set_option linter.unusedVariables false
set_option linter.unusedSimpArgs false
set_option linter.unusedSectionVars false

/-
 Bounds of floats of 64 bits: as those of 32 bits.
-/
namespace Go.Ide

theorem nearest_word32D (neg : Bool) (m : Nat) (p : Int) : ∃ r, r ≤ 9218868437227405312 ∧ Ieee.double.nearest neg m p = Ieee.double.word neg r := by
 have e3 : Ieee.double.infRung = 9218868437227405312 := by decide
 unfold Ieee.Format.nearest
 split
 ·exact ⟨0, by omega, rfl⟩
 ·exact ⟨_, by rw [e3]; exact Nat.min_le_right _ _, rfl⟩

def bdD (x K : Nat) : Prop := x % 9223372036854775808 ≤ K * 4503599627370496

theorem bdD.mono {x K L : Nat} (h : bdD x K) (hl : K ≤ L) : bdD x L := Nat.le_trans h (Nat.mul_le_mul_right _ hl)

theorem sw32D : Ieee.double.signWeight = 9223372036854775808 := by decide

theorem bi32D : Ieee.double.binade = 4503599627370496 := by decide

theorem ir32D : Ieee.double.infRung = 9218868437227405312 := by decide

theorem lp32D : Ieee.double.leastPlace = -1074 := by decide

theorem read_loD {x : Nat} (h : x % 9223372036854775808 < 4503599627370496) : Ieee.double.read x = .number (x / 9223372036854775808 % 2 == 1) (x % 9223372036854775808) (-1074 + ((0 : Nat) : Int)) := by
 unfold Ieee.Format.read
 simp only [sw32D, bi32D, ir32D, lp32D]
 rw [if_pos h]
 rfl

theorem read_hiD {x : Nat} (h : 4503599627370496 ≤ x % 9223372036854775808) (h2 : x % 9223372036854775808 < 9218868437227405312) : Ieee.double.read x = .number (x / 9223372036854775808 % 2 == 1) (4503599627370496 + x % 9223372036854775808 % 4503599627370496) (-1074 + ((x % 9223372036854775808 / 4503599627370496 - 1 : Nat) : Int)) := by
 unfold Ieee.Format.read
 simp only [sw32D, bi32D, ir32D, lp32D]
 rw [if_neg (by omega), if_pos h2]

theorem word_mod32D {s : Bool} {r : Nat} (h : r ≤ 9218868437227405312) : Ieee.double.word s r % 9223372036854775808 = r := by
 unfold Ieee.Format.word
 cases s with
 | true => simp only [if_true, sw32D]; omega
 | false => simp only [Bool.false_eq_true, if_false]; omega

theorem canon_bdD {x K : Nat} (h : bdD x K) (hK : K ≤ 2047) : fcanon .f64 x = x := by
 unfold bdD at h
 rw [fc64, if_neg (by omega)]

theorem nearest_le255D (neg : Bool) (mag : Nat) (p : Int) : bdD (Ieee.double.nearest neg mag p) 2047 := by
 obtain ⟨r, hr, e⟩ := nearest_word32D neg mag p
 unfold bdD
 rw [e, word_mod32D hr]; omega

theorem read_smallD {x : Nat} {s : Bool} {m : Nat} {p : Int} (h : Ieee.double.read x = .number s m p) : m < 9007199254740992 := by
 unfold Ieee.Format.read at h
 simp only [sw32D, bi32D, ir32D, lp32D] at h
 split at h
 ·injection h with _ h2 _; omega
 ·split at h
  ·injection h with _ h2 _; omega
  ·split at h <;> cases h

theorem word_backD {x : Nat} (h : x < 18446744073709551616) : Ieee.double.word (x / 9223372036854775808 % 2 == 1) (x % 9223372036854775808) = x := by
 unfold Ieee.Format.word
 simp only [sw32D]
 rcases (show x / 9223372036854775808 = 0 ∨ x / 9223372036854775808 = 1 by omega) with e | e <;> rw [e]
 ·show x % 9223372036854775808 = x; omega
 ·show 9223372036854775808 + x % 9223372036854775808 = x; omega

theorem nearest_readD {x : Nat} {s : Bool} {m : Nat} {p : Int} (h : x < 18446744073709551616) (hr : Ieee.double.read x = .number s m p) : Ieee.double.nearest s m p = x := by
 have hb := word_backD h
 by_cases hlo : x % 9223372036854775808 < 4503599627370496
 ·rw [read_loD hlo] at hr
  injection hr with e1 e2 e3
  subst e1 e2 e3
  unfold Ieee.Format.nearest
  by_cases h0 : x % 9223372036854775808 = 0
  ·rw [if_pos h0]; rw [h0] at hb; exact hb
  rw [if_neg h0]
  have hl : (x % 9223372036854775808).log2 ≤ 51 := by
   have := (Nat.log2_lt (k := 52) h0).2 hlo; omega
  have hf : Ieee.double.fractionBits = 52 := rfl
  simp only [lp32D, bi32D, ir32D, hf]
  have el : max (-1074 + ((0 : Nat) : Int) + ((x % 9223372036854775808).log2 : Int) - ((52 : Nat) : Int)) (-1074) = -1074 := by omega
  rw [el]
  have e1 : ((-1074 : Int) - -1074).toNat = 0 := rfl
  have e2 : (-1074 + ((0 : Nat) : Int) - -1074).toNat = 0 := rfl
  have e3 : ((-1074 : Int) - (-1074 + ((0 : Nat) : Int))).toNat = 0 := rfl
  rw [e1, e2, e3, cut_zero, Nat.shiftLeft_zero, Nat.zero_mul, Nat.zero_add, Nat.min_eq_left (by omega)]
  exact hb
 ·by_cases hhi : x % 9223372036854775808 < 9218868437227405312
  ·rw [read_hiD (by omega) hhi] at hr
   injection hr with e1 e2 e3
   subst e1 e2 e3
   generalize hq : x % 9223372036854775808 = r at *
   unfold Ieee.Format.nearest
   rw [if_neg (by omega)]
   have hl : (4503599627370496 + r % 4503599627370496).log2 = 52 := by
    have h0 : 4503599627370496 + r % 4503599627370496 ≠ 0 := by omega
    have a1 := (Nat.log2_lt (k := 53) h0).2 (by omega)
    have a2 := (Nat.le_log2 (k := 52) h0).2 (by omega)
    omega
   have hf : Ieee.double.fractionBits = 52 := rfl
   simp only [lp32D, bi32D, ir32D, hf, hl]
   have el : max (-1074 + ((r / 4503599627370496 - 1 : Nat) : Int) + ((52 : Nat) : Int) - ((52 : Nat) : Int)) (-1074) = -1074 + ((r / 4503599627370496 - 1 : Nat) : Int) := by omega
   rw [el]
   have e1 : (-1074 + ((r / 4503599627370496 - 1 : Nat) : Int) - -1074).toNat = r / 4503599627370496 - 1 := by omega
   have e2 : (-1074 + ((r / 4503599627370496 - 1 : Nat) : Int) - (-1074 + ((r / 4503599627370496 - 1 : Nat) : Int))).toNat = 0 := by omega
   rw [e1, e2, cut_zero, Nat.shiftLeft_zero, show (r / 4503599627370496 - 1) * 4503599627370496 + (4503599627370496 + r % 4503599627370496) = r by omega, Nat.min_eq_left (by omega)]
   exact hb
  ·exfalso
   unfold Ieee.Format.read at hr
   simp only [sw32D, bi32D, ir32D] at hr
   rw [if_neg hlo, if_neg hhi] at hr
   split at hr <;> cases hr

theorem add_readD {x y m n : Nat} {s t : Bool} {i j : Int} (h1 : Ieee.double.read x = .number s m i) (h2 : Ieee.double.read y = .number t n j) :
  fop .add .f64 x y = fcanon .f64 (Ieee.double.nearest (if Ieee.signed s m (i - min i j).toNat + Ieee.signed t n (j - min i j).toNat = 0 then s && t else Ieee.signed s m (i - min i j).toNat + Ieee.signed t n (j - min i j).toNat < 0) (Ieee.signed s m (i - min i j).toNat + Ieee.signed t n (j - min i j).toNat).natAbs (min i j)) := by
 have : floatBits .add .f64 x y = some (Ieee.double.nearest (if Ieee.signed s m (i - min i j).toNat + Ieee.signed t n (j - min i j).toNat = 0 then s && t else Ieee.signed s m (i - min i j).toNat + Ieee.signed t n (j - min i j).toNat < 0) (Ieee.signed s m (i - min i j).toNat + Ieee.signed t n (j - min i j).toNat).natAbs (min i j)) := by
  show Ieee.double.add x y = _
  unfold Ieee.Format.add
  rw [h1, h2]
  rfl
 unfold fop
 rw [this]

theorem sub_readD {x y m n : Nat} {s t : Bool} {i j : Int} (h1 : Ieee.double.read x = .number s m i) (h2 : Ieee.double.read y = .number t n j) :
  fop .sub .f64 x y = fcanon .f64 (Ieee.double.nearest (if Ieee.signed s m (i - min i j).toNat + Ieee.signed (!t) n (j - min i j).toNat = 0 then s && !t else Ieee.signed s m (i - min i j).toNat + Ieee.signed (!t) n (j - min i j).toNat < 0) (Ieee.signed s m (i - min i j).toNat + Ieee.signed (!t) n (j - min i j).toNat).natAbs (min i j)) := by
 have : floatBits .sub .f64 x y = some (Ieee.double.nearest (if Ieee.signed s m (i - min i j).toNat + Ieee.signed (!t) n (j - min i j).toNat = 0 then s && !t else Ieee.signed s m (i - min i j).toNat + Ieee.signed (!t) n (j - min i j).toNat < 0) (Ieee.signed s m (i - min i j).toNat + Ieee.signed (!t) n (j - min i j).toNat).natAbs (min i j)) := by
  show Ieee.double.sub x y = _
  unfold Ieee.Format.sub
  rw [h1, h2]
  rfl
 unfold fop
 rw [this]

end Go.Ide


/-
 Floats of 64 bits: order, halves, doubles, quotients; what becomes a float of 32 bits.
-/
namespace Go.Ide

theorem kept_le {neg : Bool} {mag f : Nat} {p last : Int} (h : p + (mag.log2 : Int) - (f : Int) ≤ last) : Ieee.Toward.cut .even neg (mag <<< (p - last).toNat) (last - p).toNat ≤ 2 ^ (f + 1) := by
 apply cut_le
 rw [Nat.shiftLeft_eq]
 have hhi : mag < 2 ^ (mag.log2 + 1) := Nat.lt_log2_self
 by_cases hle : last ≤ p
 ·rw [show (last - p).toNat = 0 by omega, Nat.pow_zero, Nat.mul_one]
  refine Nat.le_trans (Nat.mul_le_mul_right _ (Nat.le_of_lt hhi)) ?_
  rw [← Nat.pow_add]
  exact Nat.pow_le_pow_right (by omega) (by omega)
 ·rw [show (p - last).toNat = 0 by omega, Nat.pow_zero, Nat.mul_one, ← Nat.pow_add]
  exact Nat.le_trans (Nat.le_of_lt hhi) (Nat.pow_le_pow_right (by omega) (by omega))

theorem kept_ge {neg : Bool} {mag f : Nat} {p last : Int} (h0 : mag ≠ 0) (h : last = p + (mag.log2 : Int) - (f : Int)) : 2 ^ f ≤ Ieee.Toward.cut .even neg (mag <<< (p - last).toNat) (last - p).toNat := by
 apply cut_ge
 rw [Nat.shiftLeft_eq]
 have hlo : 2 ^ mag.log2 ≤ mag := Nat.log2_self_le h0
 by_cases hle : last ≤ p
 ·rw [show (last - p).toNat = 0 by omega, Nat.pow_zero, Nat.mul_one]
  refine Nat.le_trans ?_ (Nat.mul_le_mul_right _ hlo)
  rw [← Nat.pow_add]
  exact Nat.pow_le_pow_right (by omega) (by omega)
 ·rw [show (p - last).toNat = 0 by omega, Nat.pow_zero, Nat.mul_one, ← Nat.pow_add]
  exact Nat.le_trans (Nat.pow_le_pow_right (by omega) (by omega)) hlo

theorem scaled_le {m n a b : Nat} : m * 2 ^ (a - min a b) ≤ n * 2 ^ (b - min a b) ↔ m * 2 ^ a ≤ n * 2 ^ b := by
 have e1 : m * 2 ^ a = m * 2 ^ (a - min a b) * 2 ^ min a b := by rw [Nat.mul_assoc, ← Nat.pow_add, show a - min a b + min a b = a by omega]
 have e2 : n * 2 ^ b = n * 2 ^ (b - min a b) * 2 ^ min a b := by rw [Nat.mul_assoc, ← Nat.pow_add, show b - min a b + min a b = b by omega]
 rw [e1, e2]
 exact ⟨fun h => Nat.mul_le_mul_right _ h, fun h => Nat.le_of_mul_le_mul_right h (pow_pos2 _)⟩

end Go.Ide


/-
 Floats of 32 bits that are not below nought: rounding keeps the order; quotients of a part by the whole.
-/
namespace Go.Ide

theorem cut_full (neg : Bool) (n d : Nat) : Ieee.Toward.cut .even neg n d = n / 2 ^ d + (decide (2 ^ d < 2 * (n % 2 ^ d)) || (2 ^ d == 2 * (n % 2 ^ d) && n / 2 ^ d % 2 == 1)).toNat := by
 unfold Ieee.Toward.cut
 simp only [Nat.one_shiftLeft]
 by_cases h : d ≤ n.log2 + 2
 ·rw [Nat.min_eq_left h]
 ·rw [Nat.min_eq_right (by omega)]
  have hlt : n < 2 ^ (n.log2 + 1) := Nat.lt_log2_self
  have e2 : 2 ^ (n.log2 + 2) = 2 * 2 ^ (n.log2 + 1) := by rw [Nat.pow_succ 2 (n.log2 + 1)]; omega
  have e3 : 2 ^ (n.log2 + 2) ≤ 2 ^ d := Nat.pow_le_pow_right (by omega) (by omega)
  rw [Nat.div_eq_of_lt (by omega), Nat.mod_eq_of_lt (by omega), Nat.div_eq_of_lt (a := n) (b := 2 ^ d) (by omega), Nat.mod_eq_of_lt (a := n) (b := 2 ^ d) (by omega)]
  have h1 : decide (2 ^ (n.log2 + 2) < 2 * n) = decide (2 ^ d < 2 * n) := by rw [decide_eq_false (by omega), decide_eq_false (by omega)]
  rw [h1]
  simp

theorem cut_mono {neg : Bool} {n m d : Nat} (h : n ≤ m) : Ieee.Toward.cut .even neg n d ≤ Ieee.Toward.cut .even neg m d := by
 rw [cut_full, cut_full]
 have hp := pow_pos2 d
 generalize 2 ^ d = g at *
 have hq : n / g ≤ m / g := Nat.div_le_div_right h
 have hb : ∀ b : Bool, b.toNat ≤ 1 := by decide
 by_cases he : n / g = m / g
 ·have h1 := Nat.div_add_mod n g
  have h2 := Nat.div_add_mod m g
  rw [← he] at h2
  have hr : n % g ≤ m % g := by omega
  rw [← he]
  refine Nat.add_le_add_left ?_ _
  by_cases c1 : g < 2 * (m % g)
  ·rw [decide_eq_true c1]; exact hb _
  ·rw [decide_eq_false c1, decide_eq_false (show ¬ g < 2 * (n % g) by omega)]
   simp only [Bool.false_or]
   by_cases c2 : g = 2 * (n % g)
   ·have : m % g = n % g := by omega
    rw [this]; exact Nat.le_refl _
   ·have : (g == 2 * (n % g)) = false := beq_eq_false_iff_ne.2 c2
    rw [this]
    exact Nat.zero_le _
 ·have := hb (decide (g < 2 * (n % g)) || (g == 2 * (n % g) && n / g % 2 == 1))
  omega

def RN (u : Nat) (p : Int) : Nat := Ieee.single.nearest false u p

theorem RN_zero (p : Int) : RN 0 p = 0 := by
 unfold RN Ieee.Format.nearest
 rw [if_pos rfl]
 rfl

theorem RN_scale (u s : Nat) (p : Int) : RN (u * 2 ^ s) (p - s) = RN u p := nearest_scale

theorem RN_pos (u : Nat) (p : Int) : RN u p ≤ 2139095040 := by
 obtain ⟨r, hr, e⟩ := nearest_word32 false u p
 unfold RN
 rw [e]
 exact hr

theorem RN_mono {u v : Nat} {p : Int} (h : u ≤ v) : RN u p ≤ RN v p := by
 by_cases h0 : u = 0
 ·subst h0; rw [RN_zero]; exact Nat.zero_le _
 have h1 : v ≠ 0 := by omega
 unfold RN Ieee.Format.nearest
 rw [if_neg h0, if_neg h1]
 have hf : Ieee.single.fractionBits = 23 := rfl
 simp only [lp32, bi32, ir32, hf]
 have hlog : u.log2 ≤ v.log2 := by
  have a := Nat.log2_self_le h0
  exact (Nat.le_log2 h1).2 (by omega)
 have hw : ∀ r, Ieee.single.word false r = r := fun r => rfl
 rw [hw, hw]
 refine Nat.le_min.2 ⟨?_, Nat.min_le_right _ _⟩
 refine Nat.le_trans (Nat.min_le_left _ _) ?_
 by_cases he : max (p + (u.log2 : Int) - ((23 : Nat) : Int)) (-149) = max (p + (v.log2 : Int) - ((23 : Nat) : Int)) (-149)
 ·rw [he]
  refine Nat.add_le_add_left (cut_mono ?_) _
  rw [Nat.shiftLeft_eq, Nat.shiftLeft_eq]
  exact Nat.mul_le_mul_right _ h
 ·have hk := kept_le (neg := false) (mag := u) (f := 23) (p := p) (last := max (p + (u.log2 : Int) - ((23 : Nat) : Int)) (-149)) (by omega)
  have hk2 := kept_ge (neg := false) (mag := v) (f := 23) (p := p) (last := max (p + (v.log2 : Int) - ((23 : Nat) : Int)) (-149)) h1 (by omega)
  have e24 : (2 : Nat) ^ (23 + 1) = 16777216 := by decide
  have e23 : (2 : Nat) ^ 23 = 8388608 := by decide
  rw [e24] at hk
  rw [e23] at hk2
  have hl : (max (p + (u.log2 : Int) - ((23 : Nat) : Int)) (-149) - -149).toNat + 1 ≤ (max (p + (v.log2 : Int) - ((23 : Nat) : Int)) (-149) - -149).toNat := by omega
  have := Nat.mul_le_mul_right 8388608 hl
  omega

def V32 (x : Nat) : Nat := if x % 2147483648 < 8388608 then x % 2147483648 else (8388608 + x % 2147483648 % 8388608) * 2 ^ (x % 2147483648 / 8388608 - 1)

def nn (x : Nat) : Prop := x % 4294967296 ≤ 2147483648

theorem read_V {x K : Nat} (h : bd x K) (h2 : 2 ≤ K) (h3 : K ≤ 254) : ∃ m i, Ieee.single.read x = .number (x / 2147483648 % 2 == 1) m (-149 + ((i : Nat) : Int)) ∧ V32 x = m * 2 ^ i := by
 unfold bd at h
 unfold V32
 by_cases hlo : x % 2147483648 < 8388608
 ·exact ⟨_, 0, read_lo hlo, by rw [if_pos hlo, Nat.pow_zero, Nat.mul_one]⟩
 ·exact ⟨_, _, read_hi (by omega) (by omega), by rw [if_neg hlo]⟩

theorem V_mono {x y : Nat} (hx : x < 2147483648) (hy : y < 2147483648) (h : x ≤ y) : V32 x ≤ V32 y := by
 unfold V32
 rw [Nat.mod_eq_of_lt hx, Nat.mod_eq_of_lt hy]
 by_cases h1 : x < 8388608
 ·rw [if_pos h1]
  by_cases h2 : y < 8388608
  ·rw [if_pos h2]; exact h
  ·rw [if_neg h2]
   have := Nat.mul_le_mul (show 8388608 ≤ 8388608 + y % 8388608 by omega) (show 1 ≤ 2 ^ (y / 8388608 - 1) from pow_pos2 _)
   omega
 ·rw [if_neg h1, if_neg (by omega)]
  by_cases hq : x / 8388608 = y / 8388608
  ·rw [hq]
   exact Nat.mul_le_mul_right _ (by omega)
  ·have hlt : x / 8388608 < y / 8388608 := by omega
   have e1 : (8388608 + x % 8388608) * 2 ^ (x / 8388608 - 1) ≤ 16777216 * 2 ^ (x / 8388608 - 1) := Nat.mul_le_mul_right _ (by omega)
   have e2 : 16777216 * 2 ^ (x / 8388608 - 1) = 8388608 * 2 ^ (x / 8388608) := by
    obtain ⟨q, hq'⟩ : ∃ q, x / 8388608 = q + 1 := ⟨x / 8388608 - 1, by omega⟩
    rw [hq', Nat.add_sub_cancel, Nat.pow_succ]; omega
   have e3 : 8388608 * 2 ^ (x / 8388608) ≤ 8388608 * 2 ^ (y / 8388608 - 1) := Nat.mul_le_mul_left _ (Nat.pow_le_pow_right (by omega) (by omega))
   have e4 : 8388608 * 2 ^ (y / 8388608 - 1) ≤ (8388608 + y % 8388608) * 2 ^ (y / 8388608 - 1) := Nat.mul_le_mul_right _ (by omega)
   omega

theorem RN_V {x K : Nat} (h : bd x K) (h2 : 2 ≤ K) (h3 : K ≤ 254) : RN (V32 x) (-149) = x % 2147483648 := by
 have hb : bd (x % 2147483648) K := by unfold bd at *; rwa [Nat.mod_mod]
 obtain ⟨m, i, e, hv⟩ := read_V hb h2 h3
 have hlt : x % 2147483648 < 2147483648 := Nat.mod_lt _ (by omega)
 rw [Nat.div_eq_of_lt hlt] at e
 have hn := nearest_read (x := x % 2147483648) (by omega) e
 have hV : V32 (x % 2147483648) = V32 x := by unfold V32; rw [Nat.mod_mod]
 rw [← hV, hv]
 have := RN_scale m i (-149 + (i : Int))
 rw [show -149 + (i : Int) - (i : Int) = -149 by omega] at this
 rw [this]
 exact hn

theorem canon_RN (u : Nat) (p : Int) : fcanon .f32 (RN u p) = RN u p := canon_bd (nearest_le255 _ _ _) (Nat.le_refl _)

theorem V_mod {x y : Nat} (h : x % 2147483648 = y % 2147483648) : V32 x = V32 y := by unfold V32; rw [h]

theorem add_nn {x y a : Nat} (hx : bd x a) (hy : bd y a) (ha : 2 ≤ a) (ha2 : a ≤ 254) (px : pos32 x) (ny : nn y) : fop .add .f32 x y = RN (V32 x + V32 y) (-149) := by
 obtain ⟨m, i, e1, v1⟩ := read_V hx ha ha2
 obtain ⟨n, j, e2, v2⟩ := read_V hy ha ha2
 have s1 : (x / 2147483648 % 2 == 1) = false := by
  unfold pos32 at px
  rw [Nat.div_eq_of_lt px]; rfl
 rw [s1] at e1
 have hn : (y / 2147483648 % 2 == 1) = true → n = 0 := fun hs => by
  unfold nn at ny
  have hy0 : y % 2147483648 = 0 := by
   have := beq_iff_eq.1 hs
   omega
  rw [read_lo (by omega)] at e2
  injection e2 with _ e2 _
  omega
 have hsg : ∀ u, Ieee.signed (y / 2147483648 % 2 == 1) n u = ((n * 2 ^ u : Nat) : Int) := fun u => by
  cases hs : (y / 2147483648 % 2 == 1) with
  | false => exact signed_false _ _
  | true => rw [hn hs, signed_true]; simp
 rw [add_read e1 e2]
 simp only [hsg, signed_false, Bool.false_and]
 have hmin : min (-149 + (i : Int)) (-149 + (j : Int)) = -149 + ((min i j : Nat) : Int) := by omega
 rw [hmin]
 have e3 : (-149 + (i : Int) - (-149 + ((min i j : Nat) : Int))).toNat = i - min i j := by omega
 have e4 : (-149 + (j : Int) - (-149 + ((min i j : Nat) : Int))).toNat = j - min i j := by omega
 rw [e3, e4]
 generalize hA : m * 2 ^ (i - min i j) = A
 generalize hB : n * 2 ^ (j - min i j) = B
 have hneg : decide (((A : Nat) : Int) + ((B : Nat) : Int) < 0) = false := decide_eq_false (by omega)
 rw [hneg, ite_self, show (((A : Nat) : Int) + ((B : Nat) : Int)).natAbs = A + B by omega]
 have hs : V32 x + V32 y = (A + B) * 2 ^ min i j := by
  rw [v1, v2, ← hA, ← hB, Nat.add_mul, Nat.mul_assoc, Nat.mul_assoc, ← Nat.pow_add, ← Nat.pow_add, show i - min i j + min i j = i by omega, show j - min i j + min i j = j by omega]
 have := RN_scale (A + B) (min i j) (-149 + ((min i j : Nat) : Int))
 rw [show -149 + ((min i j : Nat) : Int) - ((min i j : Nat) : Int) = -149 by omega, ← hs] at this
 rw [this]
 exact canon_RN _ _

theorem RN_one : RN 1 0 = 1065353216 := by decide

theorem quo_share {x y a : Nat} (hx : bd x a) (hy : bd y a) (ha : 2 ≤ a) (ha2 : a ≤ 254) (px : pos32 x) (py : pos32 y) (h : x ≤ y) (h0 : y ≠ 0) : fop .quo .f32 x y ≤ 1065353216 := by
 obtain ⟨m, i, e1, v1⟩ := read_V hx ha ha2
 obtain ⟨n, j, e2, v2⟩ := read_V hy ha ha2
 have hV := V_mono px py h
 rw [v1, v2] at hV
 have s1 : (x / 2147483648 % 2 == 1) = false := by unfold pos32 at px; rw [Nat.div_eq_of_lt px]; rfl
 have s2 : (y / 2147483648 % 2 == 1) = false := by unfold pos32 at py; rw [Nat.div_eq_of_lt py]; rfl
 rw [s1] at e1
 rw [s2] at e2
 have hn : n ≠ 0 := by
  rintro rfl
  have := (mag_zero e2).1
  unfold pos32 at py
  omega
 have hf : Ieee.single.fractionBits = 23 := rfl
 have e3 : floatBits .quo .f32 x y = some (RN (2 * (m * 2 ^ (23 + 2 + n.log2 - m.log2) / n) + (m * 2 ^ (23 + 2 + n.log2 - m.log2) % n != 0).toNat) (-149 + (i : Int) - (-149 + (j : Int)) - ((23 + 2 + n.log2 - m.log2 : Nat) : Int) - 1)) := by
  show Ieee.single.div x y = _
  unfold Ieee.Format.div
  rw [e1, e2]
  unfold Ieee.Datum.quotient
  simp only [hf, Nat.shiftLeft_eq]
  rw [if_neg hn]
  rfl
 unfold fop
 rw [e3]
 simp only
 rw [canon_RN]
 by_cases hm : m = 0
 ·subst hm
  have : 2 * (0 * 2 ^ (23 + 2 + n.log2 - Nat.log2 0) / n) + (0 * 2 ^ (23 + 2 + n.log2 - Nat.log2 0) % n != 0).toNat = 0 := by simp
  rw [this, RN_zero]; omega
 have hlm := Nat.log2_self_le hm
 have hln : n < 2 ^ (n.log2 + 1) := Nat.lt_log2_self
 have hmlog : m.log2 ≤ 23 := by
  have := read_small e1
  have := (Nat.log2_lt (k := 24) hm).2 (by omega); omega
 have hij : i + m.log2 ≤ j + n.log2 := by
  have : 2 ^ (m.log2 + i) < 2 ^ (n.log2 + 1 + j) := by
   rw [Nat.pow_add, Nat.pow_add]
   exact Nat.lt_of_le_of_lt (Nat.le_trans (Nat.mul_le_mul_right _ hlm) hV) (Nat.mul_lt_mul_of_pos_right hln (pow_pos2 _))
  have := (Nat.pow_lt_pow_iff_right (by omega)).1 this
  omega
 generalize hmore : 23 + 2 + n.log2 - m.log2 = more
 obtain ⟨ee, hee⟩ : ∃ ee : Nat, j + more = i + ee := ⟨j + more - i, by omega⟩
 have hdiv : m * 2 ^ more ≤ n * 2 ^ ee := by
  have a1 : m * 2 ^ i * 2 ^ more ≤ n * 2 ^ j * 2 ^ more := Nat.mul_le_mul_right _ hV
  rw [Nat.mul_assoc, Nat.mul_assoc, ← Nat.pow_add, ← Nat.pow_add, hee, Nat.pow_add, Nat.pow_add, Nat.mul_comm (2 ^ i) (2 ^ more), Nat.mul_comm (2 ^ i) (2 ^ ee), ← Nat.mul_assoc, ← Nat.mul_assoc] at a1
  exact Nat.le_of_mul_le_mul_right a1 (pow_pos2 _)
 have hbt : ∀ b : Bool, b.toNat ≤ 1 := by decide
 have hmag : 2 * (m * 2 ^ more / n) + (m * 2 ^ more % n != 0).toNat ≤ 2 ^ (ee + 1) := by
  rw [Nat.pow_succ]
  have hq : m * 2 ^ more / n ≤ 2 ^ ee := Nat.div_le_of_le_mul hdiv
  by_cases heq : m * 2 ^ more / n = 2 ^ ee
  ·have hdm := Nat.div_add_mod (m * 2 ^ more) n
   rw [heq] at hdm ⊢
   have : m * 2 ^ more % n = 0 := by omega
   rw [this]
   simp
   omega
  ·have := hbt (m * 2 ^ more % n != 0)
   omega
 refine Nat.le_trans (RN_mono hmag) ?_
 have := RN_scale 1 (ee + 1) 0
 rw [Nat.one_mul, show (0 : Int) - ((ee + 1 : Nat) : Int) = -149 + (i : Int) - (-149 + (j : Int)) - (more : Int) - 1 by omega, RN_one] at this
 omega

end Go.Ide


/-
 Loops of the harness over slices whose elements hold slices.
-/
namespace Go.Ide
open Go.IntWalk

end Go.Ide


/-
 Marks of rows.
-/
namespace Go.Ide
open Go.IntWalk

section
variable {α : Type}

end

theorem ShapeEq.own {e : Ty} {xs ys : List (List e.D)} (hl : xs.length = ys.length) (h : ∀ i, (ys.getD i []).length = (xs.getD i []).length) : ShapeEq (.own e) xs ys := by
 refine ⟨hl, fun i o e' ys' hs => ?_⟩
 cases o with
 | succ o => simp [slotD] at hs
 | zero =>
  simp only [slotD, Option.some.injEq, Sigma.mk.injEq] at hs
  obtain ⟨rfl, hs⟩ := hs
  have hs := eq_of_heq hs
  refine ⟨xs.getD i [], rfl, ?_⟩
  rw [← hs]
  exact (h i).symm

end Go.Ide


/-
 A state in another state's slots and chunks, all values its own: nothing is printed of them.
-/
namespace Go.Ide

def reC (s : CvS) (m0 : Mem) (c c' : ICell) : Option ICell :=
 match c' with
 | .dat t _ => (match cdat m0 t c with
  | some x => some (.dat t x)
  | none => none)
 | .ptr k' off' => (match c with
  | .ptr k off => bif lkB k k' s.ch && Nat.beq off off' then some (.ptr k' off') else none
  | _ => none)
 | .elp k' _ sz' off' => (match c with
  | .elp k i sz off => bif lkB k k' s.ch && (Nat.beq sz sz' && Nat.beq off off') then some (.elp k' i sz' off') else none
  | _ => none)
 | .ip t' _ off' => (match c with
  | .ip t x off => bif Nat.beq off off' then (if h : t' = t then some (.ip t' (castD h.symm x) off') else none) else none
  | .ptr k off => (match lk k m0 with
   | some (.box cs) => bif Nat.beq off off' then (match impl m0 t' cs with
    | some (x, []) => some (.ip t' x off')
    | _ => none) else none
   | _ => none)
  | _ => none)
 | .all k' => (match c with
  | .all k => bif lkB k k' s.ch && !(memN k s.tr) then some (.all k') else none
  | .nilS => bif memN k' s.vs then some (.all k') else none
  | _ => none)
 | .ref k' _ _ => (match c with
  | .ref k off len => bif lkB k k' s.ch && !(memN k s.tr) then some (.ref k' off len) else none
  | _ => none)
 | .nilS => (match c with
  | .nilS => some .nilS
  | _ => none)
 | .fn f' => (match c with
  | .fn f => if f' = f then some (.fn f') else none
  | _ => none)
 | .clo f' t' _ => (match c with
  | .clo f t x => if f' = f then (if h : t' = t then some (.clo f' t' (castD h.symm x)) else none) else none
  | _ => none)
 | .junk => bif c.ok then some .junk else none
 | _ => none

theorem castD_back {t t' : Ty} (h : t' = t) (x : t.D) : castD h (castD h.symm x) = x := by subst h; rfl

theorem reC_cv {s : CvS} {m0 m' : Mem} {c c' : ICell} (h : reC s m0 c c' = some c') : ∃ ps, cvC s m0 m' c c' = some ps ∧ AllP ps := by
 cases c' with
 | dat t x' =>
  have h : (match cdat m0 t c with
   | some x => some (ICell.dat t x)
   | none => none) = some (.dat t x') := h
  show ∃ ps, (match cdat m0 t c with
   | some x => some [x' = x]
   | none => none) = some ps ∧ AllP ps
  cases hx : cdat m0 t c with
  | none => rw [hx] at h; cases h
  | some x =>
   rw [hx] at h
   injection h with h
   injection h with h1 h2
   exact ⟨_, rfl, h2.symm, trivial⟩
 | ptr k' off' =>
  cases c with
  | ptr k off =>
   have h : (bif lkB k k' s.ch && Nat.beq off off' then some (ICell.ptr k' off') else none) = some (.ptr k' off') := h
   show ∃ ps, (bif lkB k k' s.ch && Nat.beq off off' then some [] else none) = some ps ∧ AllP ps
   cases hb : (lkB k k' s.ch && Nat.beq off off') with
   | true => exact ⟨_, rfl, trivial⟩
   | false => rw [hb] at h; cases h
  | _ => cases h
 | elp k' i' sz' off' =>
  cases c with
  | elp k i sz off =>
   have h : (bif lkB k k' s.ch && (Nat.beq sz sz' && Nat.beq off off') then some (ICell.elp k' i sz' off') else none) = some (.elp k' i' sz' off') := h
   show ∃ ps, (bif lkB k k' s.ch && (Nat.beq sz sz' && Nat.beq off off') then some [i' = i] else none) = some ps ∧ AllP ps
   cases hb : (lkB k k' s.ch && (Nat.beq sz sz' && Nat.beq off off')) with
   | true =>
    rw [hb] at h
    injection h with h
    injection h with _ h2
    exact ⟨_, rfl, h2.symm, trivial⟩
   | false => rw [hb] at h; cases h
  | _ => cases h
 | ip t' x' off' =>
  cases c with
  | ip t x off =>
   have h : (bif Nat.beq off off' then (if h : t' = t then some (ICell.ip t' (castD h.symm x) off') else none) else none) = some (.ip t' x' off') := h
   show ∃ ps, (bif Nat.beq off off' then (if h : t' = t then some [castD h x' = x] else none) else none) = some ps ∧ AllP ps
   cases hb : Nat.beq off off' with
   | true =>
    rw [hb] at h
    simp only [cond_true] at h ⊢
    split at h
    ·rename_i e
     rw [dif_pos e]
     injection h with h
     injection h with _ h2
     exact ⟨_, rfl, by rw [← h2]; exact castD_back e _, trivial⟩
    ·cases h
   | false => rw [hb] at h; cases h
  | ptr k off =>
   have h : (match lk k m0 with
    | some (.box cs) => bif Nat.beq off off' then (match impl m0 t' cs with
     | some (x, []) => some (ICell.ip t' x off')
     | _ => none) else none
    | _ => none) = some (.ip t' x' off') := h
   show ∃ ps, (match lk k m0 with
    | some (.box cs) => bif Nat.beq off off' then (match impl m0 t' cs with
     | some (x, []) => some [x' = x]
     | _ => none) else none
    | _ => none) = some ps ∧ AllP ps
   cases hk : lk k m0 with
   | none => rw [hk] at h; cases h
   | some ch =>
    rw [hk] at h
    cases ch with
    | box cs =>
     simp only at h ⊢
     cases hb : Nat.beq off off' with
     | true =>
      rw [hb] at h
      simp only [cond_true] at h ⊢
      cases hi : impl m0 t' cs with
      | none => rw [hi] at h; cases h
      | some p =>
       obtain ⟨x, l⟩ := p
       rw [hi] at h
       cases l with
       | nil =>
        simp only at h ⊢
        injection h with h
        injection h with _ h2
        exact ⟨_, rfl, h2.symm, trivial⟩
       | cons _ _ => cases h
     | false => rw [hb] at h; cases h
    | _ => cases h
  | _ => cases h
 | all k' =>
  cases c with
  | all k =>
   have h : (bif lkB k k' s.ch && !(memN k s.tr) then some (ICell.all k') else none) = some (.all k') := h
   show ∃ ps, (bif lkB k k' s.ch && !(memN k s.tr) then some [] else none) = some ps ∧ AllP ps
   cases hb : (lkB k k' s.ch && !(memN k s.tr)) with
   | true => exact ⟨_, rfl, trivial⟩
   | false => rw [hb] at h; cases h
  | nilS =>
   have h : (bif memN k' s.vs then some (ICell.all k') else none) = some (.all k') := h
   show ∃ ps, (bif memN k' s.vs then some [] else none) = some ps ∧ AllP ps
   cases hb : memN k' s.vs with
   | true => exact ⟨_, rfl, trivial⟩
   | false => rw [hb] at h; cases h
  | _ => cases h
 | ref k' off' len' =>
  cases c with
  | ref k off len =>
   have h : (bif lkB k k' s.ch && !(memN k s.tr) then some (ICell.ref k' off len) else none) = some (.ref k' off' len') := h
   show ∃ ps, (bif lkB k k' s.ch && !(memN k s.tr) then some [off' = off, len' = len] else none) = some ps ∧ AllP ps
   cases hb : (lkB k k' s.ch && !(memN k s.tr)) with
   | true =>
    rw [hb] at h
    injection h with h
    injection h with _ h2 h3
    exact ⟨_, rfl, h2.symm, h3.symm, trivial⟩
   | false => rw [hb] at h; cases h
  | _ => cases h
 | nilS =>
  cases c with
  | nilS => exact ⟨_, rfl, trivial⟩
  | _ => cases h
 | fn f' =>
  cases c with
  | fn f =>
   have h : (if f' = f then some (ICell.fn f') else none) = some (.fn f') := h
   show ∃ ps, (if f' = f then some [] else none) = some ps ∧ AllP ps
   split at h
   ·rename_i e
    rw [if_pos e]
    exact ⟨_, rfl, trivial⟩
   ·cases h
  | _ => cases h
 | clo f' t' x' =>
  cases c with
  | clo f t x =>
   have h : (if f' = f then (if h : t' = t then some (ICell.clo f' t' (castD h.symm x)) else none) else none) = some (.clo f' t' x') := h
   show ∃ ps, (if f' = f then (if h : t' = t then some [castD h x' = x] else none) else none) = some ps ∧ AllP ps
   split at h
   ·rename_i e
    rw [if_pos e]
    split at h
    ·rename_i e2
     rw [dif_pos e2]
     injection h with h
     injection h with _ _ h2
     exact ⟨_, rfl, by rw [← h2]; exact castD_back e2 _, trivial⟩
    ·cases h
   ·cases h
  | _ => cases h
 | junk =>
  have h : (bif c.ok then some ICell.junk else none) = some .junk := h
  show ∃ ps, (bif c.ok then some [] else none) = some ps ∧ AllP ps
  cases hb : c.ok with
  | true => exact ⟨_, rfl, trivial⟩
  | false => rw [hb] at h; cases h
 | row => cases h
 | rlp => cases h
 | bad => cases h

def reCs (s : CvS) (m0 : Mem) : List ICell → List ICell → Option (List ICell)
 | [], [] => some []
 | c :: r, c' :: r' => (match reC s m0 c c', reCs s m0 r r' with
  | some p, some q => some (p :: q)
  | _, _ => none)
 | _, _ => none

theorem AllP.app : ∀ {a b : List Prop}, AllP a → AllP b → AllP (a ++ b)
 | [], _, _, hb => hb
 | _ :: _, _, ha, hb => ⟨ha.1, AllP.app ha.2 hb⟩

theorem reCs_cv {s : CvS} {m0 m' : Mem} : ∀ {cs cs' : List ICell}, reCs s m0 cs cs' = some cs' → ∃ ps, cvCs s m0 m' cs cs' = some ps ∧ AllP ps
 | [], [], _ => ⟨_, rfl, trivial⟩
 | c :: r, c' :: r', h => by
  unfold reCs at h
  split at h
  ·rename_i p q hp hq
   injection h with h
   injection h with h1 h2
   subst h1 h2
   obtain ⟨ps, e1, a1⟩ := reC_cv (m' := m') hp
   obtain ⟨qs, e2, a2⟩ := reCs_cv (m' := m') hq
   exact ⟨ps ++ qs, by unfold cvCs; rw [e1, e2], a1.app a2⟩
  ·cases h
 | [], _ :: _, h => by cases h
 | _ :: _, [], h => by cases h

def reV (s : CvS) (m0 : Mem) (v v' : IVal) : Option IVal :=
 match v' with
 | .one c' => (match v with
  | .one c => (match reC s m0 c c' with
   | some x => some (.one x)
   | none => none)
  | _ => none)
 | .agg cs' => (match v with
  | .agg cs => (match reCs s m0 cs cs' with
   | some x => some (.agg x)
   | none => none)
  | _ => none)
 | .tup _ => none
 | .und => none
 | .junk => some .junk

theorem reV_cv {s : CvS} {m0 m' : Mem} {v v' : IVal} (h : reV s m0 v v' = some v') : ∃ ps, cvV s m0 m' v v' = some ps ∧ AllP ps := by
 cases v' with
 | one c' =>
  unfold reV at h
  unfold cvV
  simp only at h ⊢
  split at h
  ·split at h
   ·rename_i x hx
    injection h with h
    injection h with h
    rw [h] at hx
    exact reC_cv hx
   ·cases h
  ·cases h
 | agg cs' =>
  unfold reV at h
  unfold cvV
  simp only at h ⊢
  split at h
  ·split at h
   ·rename_i x hx
    injection h with h
    injection h with h
    rw [h] at hx
    exact reCs_cv hx
   ·cases h
  ·cases h
 | tup => cases h
 | und => cases h
 | junk => exact ⟨_, rfl, trivial⟩

def reFr (s : CvS) (m0 : Mem) (fr : Fr) : Fr → Option Fr
 | [] => some []
 | (t, v') :: r => (match lk t fr with
  | some v => (match reV s m0 v v', reFr s m0 fr r with
   | some p, some q => some ((t, p) :: q)
   | _, _ => none)
  | none => none)

theorem reFr_cv {s : CvS} {m0 m' : Mem} {fr : Fr} : ∀ {fr' : Fr}, reFr s m0 fr fr' = some fr' → ∃ ps, cvFr s m0 m' fr fr' = some ps ∧ AllP ps
 | [], _ => ⟨_, rfl, trivial⟩
 | (t, v') :: r, h => by
  have h : (match lk t fr with
   | some v => (match reV s m0 v v', reFr s m0 fr r with
    | some p, some q => some ((t, p) :: q)
    | _, _ => none)
   | none => none) = some ((t, v') :: r) := h
  show ∃ ps, (match lk t fr with
   | some v => (match cvV s m0 m' v v', cvFr s m0 m' fr r with
    | some p, some q => some (p ++ q)
    | _, _ => none)
   | none => none) = some ps ∧ AllP ps
  cases hv : lk t fr with
  | none => rw [hv] at h; cases h
  | some v =>
   rw [hv] at h
   simp only at h ⊢
   cases hp : reV s m0 v v' with
   | none => rw [hp] at h; cases h
   | some p =>
    cases hq : reFr s m0 fr r with
    | none => rw [hp, hq] at h; cases h
    | some q =>
     rw [hp, hq] at h
     injection h with h
     injection h with h1 h2
     injection h1 with _ h1
     rw [h1] at hp
     rw [h2] at hq
     obtain ⟨ps, e1, a1⟩ := reV_cv (m' := m') hp
     obtain ⟨qs, e2, a2⟩ := reFr_cv (m' := m') hq
     rw [e1, e2]
     exact ⟨_, rfl, a1.app a2⟩

def reCh (s : CvS) (m0 : Mem) (k : Nat) (c c' : Chunk) : Option Chunk :=
 match c' with
 | .box cs' => (match c with
  | .box cs => (match reCs s m0 cs cs' with
   | some x => some (.box x)
   | none => none)
  | _ => none)
 | .seq t' _ => (match c with
  | .seq t xs => if h : t' = t then (bif memN k s.tr then none else some (.seq t' (castD (congrArg Ty.sl h.symm) xs))) else none
  | _ => none)
 | .opn _ _ _ _ _ => none
 | .gone => none

theorem reCh_cv {s : CvS} {m0 m' : Mem} {k : Nat} {c c' : Chunk} (h : reCh s m0 k c c' = some c') : ∃ ps, cvCh s m0 m' k c c' = some ps ∧ AllP ps := by
 cases c' with
 | box cs' =>
  unfold reCh at h
  unfold cvCh
  simp only at h ⊢
  split at h
  ·split at h
   ·rename_i x hx
    injection h with h
    injection h with h
    rw [h] at hx
    exact reCs_cv hx
   ·cases h
  ·cases h
 | seq t' xs' =>
  cases c with
  | seq t xs =>
   have h : (if h : t' = t then (bif memN k s.tr then none else some (Chunk.seq t' (castD (a := .sl t) (b := .sl t') (congrArg Ty.sl h.symm) xs))) else none) = some (.seq t' xs') := h
   show ∃ ps, (if h : t' = t then (bif memN k s.tr then some [castD (a := .sl t') (b := .sl t) (congrArg Ty.sl h) xs' = List.take (List.length xs') xs] else some [castD (a := .sl t') (b := .sl t) (congrArg Ty.sl h) xs' = xs]) else none) = some ps ∧ AllP ps
   split at h
   ·rename_i e
    rw [dif_pos e]
    cases hb : memN k s.tr with
    | true => rw [hb] at h; cases h
    | false =>
     rw [hb] at h
     simp only [cond_false] at h ⊢
     injection h with h
     injection h with _ h2
     exact ⟨_, rfl, by rw [← h2]; exact castD_back (congrArg Ty.sl e) _, trivial⟩
   ·cases h
  | _ => cases h
 | opn => cases h
 | gone => cases h

def reM (s : CvS) (m m0 : Mem) : Mem → Option Mem
 | [] => some []
 | (k', c') :: r => (match lk k' (inv s.ch) with
  | some k => (match lk k m with
   | some c => (match reCh s m0 k c c', reM s m m0 r with
    | some p, some q => some ((k', p) :: q)
    | _, _ => none)
   | none => none)
  | none => bif memN k' s.vs then (match c' with
   | .seq t' _ => (match reM s m m0 r with
    | some q => some ((k', .seq t' []) :: q)
    | none => none)
   | _ => none) else none)

theorem reM_cv {s : CvS} {m m0 m' : Mem} : ∀ {r : Mem}, reM s m m0 r = some r → ∃ ps, cvM s m m0 m' r = some ps ∧ AllP ps
 | [], _ => ⟨_, rfl, trivial⟩
 | (k', c') :: r, h => by
  unfold reM at h
  unfold cvM
  cases hk : lk k' (inv s.ch) with
  | some k =>
   rw [hk] at h
   simp only at h ⊢
   cases hc : lk k m with
   | none => rw [hc] at h; cases h
   | some c =>
    rw [hc] at h
    simp only at h ⊢
    cases hp : reCh s m0 k c c' with
    | none => rw [hp] at h; cases h
    | some p =>
     cases hq : reM s m m0 r with
     | none => rw [hp, hq] at h; cases h
     | some q =>
      rw [hp, hq] at h
      injection h with h
      injection h with h1 h2
      injection h1 with _ h1
      rw [h1] at hp
      rw [h2] at hq
      obtain ⟨ps, e1, a1⟩ := reCh_cv (m' := m') hp
      obtain ⟨qs, e2, a2⟩ := reM_cv (m' := m') hq
      rw [e1, e2]
      exact ⟨_, rfl, a1.app a2⟩
  | none =>
   rw [hk] at h
   simp only at h ⊢
   cases hb : memN k' s.vs with
   | false => rw [hb] at h; cases h
   | true =>
    rw [hb] at h
    cases c' with
    | seq t' xs' =>
     simp only [cond_true] at h ⊢
     cases hq : reM s m m0 r with
     | none => rw [hq] at h; cases h
     | some q =>
      rw [hq] at h
      injection h with h
      injection h with h1 h2
      injection h1 with _ h1
      injection h1 with _ h1
      rw [h2] at hq
      obtain ⟨qs, e2, a2⟩ := reM_cv (m' := m') hq
      rw [e2]
      exact ⟨_, rfl, h1.symm, a2⟩
    | _ => cases h

def St.re (s : CvS) (own : List Nat) (st st' : St) : Option St :=
 bif s.okB st'.mem own then (match reFr s (s.m0 st.mem) st.fr st'.fr, reM s st.mem (s.m0 st.mem) st'.mem with
  | some p, some q => some ⟨p, q, st'.nx⟩
  | _, _ => none) else none

theorem St.re_cv {s : CvS} {own : List Nat} {st st' : St} (h : st.re s own st' = some st') : ∃ ps, st.cv s own st' = some ps ∧ AllP ps := by
 unfold St.re at h
 unfold St.cv
 cases hb : s.okB st'.mem own with
 | false => rw [hb] at h; cases h
 | true =>
  rw [hb] at h
  simp only [cond_true] at h ⊢
  split at h
  ·rename_i p q hp hq
   injection h with h
   have h1 : p = st'.fr := congrArg St.fr h
   have h2 : q = st'.mem := congrArg St.mem h
   rw [h1] at hp
   rw [h2] at hq
   obtain ⟨ps, e1, a1⟩ := reFr_cv (m' := st'.mem) hp
   obtain ⟨qs, e2, a2⟩ := reM_cv (m' := st'.mem) hq
   exact ⟨ps ++ qs, by rw [e1, e2], a1.app a2⟩
  ·cases h

variable {cx : Cx} {P : Program} {N : Nat} {st st' : St} {c x y : Code} {Q : Exit → St → Prop}

theorem Le.re {own : List Nat} (ch : List (Nat × Nat)) (vs : List Nat) {st' : St} (hX : CxIs cx P N own) (he : st.re ⟨ch, vs, [], false⟩ own st' = some st') : Le cx st st' := by
 obtain ⟨ps, h1, h2⟩ := St.re_cv he
 exact Le.cv hX.own (fun h => by cases h) h1 h2

theorem Le.rz {own : List Nat} (ch : List (Nat × Nat)) (vs : List Nat) {st' : St} (hX : CxIs cx P N own) (hF : cx.FOK) (he : st.re ⟨ch, vs, [], true⟩ own st' = some st') : Le cx st st' := by
 obtain ⟨ps, h1, h2⟩ := St.re_cv he
 exact Le.cv hX.own (fun _ => hF) h1 h2

def reO (s : CvS) (own : List Nat) (st' : St) : Option (St × List Prop) → Option (St × List Prop)
 | some (st1, cs) => (match st1.re s own st' with
  | some st2 => some (st2, cs)
  | none => none)
 | none => none

theorem reO_some {s : CvS} {own : List Nat} {st' : St} {o : Option (St × List Prop)} {cs : List Prop} (h : reO s own st' o = some (st', cs)) : ∃ st1, o = some (st1, cs) ∧ st1.re s own st' = some st' := by
 unfold reO at h
 split at h
 ·rename_i st1 cs1
  split at h
  ·rename_i st2 h2
   injection h with h
   injection h with h3 h4
   subst h3 h4
   exact ⟨_, rfl, h2⟩
  ·cases h
 ·cases h

theorem HT.rgK {id : Nat} {ops : List Oper} {own : List Nat} (rs : List OH) (ch : List (Nat × Nat)) (vs : List Nat) {st' : St} {cs : List Prop} (hX : CxIs cx P N own) (he : reO ⟨ch, vs, [], false⟩ own st' (ireg P N ops ops rs st) = some (st', cs)) (hc : AllP cs) (hq : ∀ st1, Le cx st1 st' → Q .normal st1) : HT cx st (.region id ops.toArray false) Q := by
 obtain ⟨st1, h1, h2⟩ := reO_some he
 exact HT.reg hX.P hX.N h1 hc (hq _ (Le.re ch vs hX h2))

theorem HT.drK {id : Nat} {ops : List Oper} {own : List Nat} (h : Nat) (hrs : List HR) (tds : List (List Nat)) (rs : List OH) (ch : List (Nat × Nat)) (vs : List Nat) {st' : St} {cs : List Prop} (hX : CxIs cx P N own) (hm : P.follows .mixedOrders = true)
  (he : reO ⟨ch, vs, [], false⟩ own st' (idraw P N ops h hrs tds rs st) = some (st', cs)) (hc : AllP cs) (hq : ∀ st1, Le cx st1 st' → Q .normal st1) : HT cx st (.region id ops.toArray true) Q := by
 obtain ⟨st1, h1, h2⟩ := reO_some he
 exact drawS hX.P hX.N hm h1 hc (hq _ (Le.re ch vs hX h2))

theorem HT.retL (hl : Le cx st st') (hq : Q .ret st') : HT cx st .ret Q := hl.ht (HT.ret hq)
theorem HT.exitL {n : Nat} (hl : Le cx st st') (hq : Q (.exit n) st') : HT cx st (.exit n) Q := hl.ht (HT.exit hq)

theorem HT.loopL {σ ρ : Type} {f : σ → Option (σ ⊕ ρ)} {s : σ} {r : ρ} (S : σ → St) (E : ρ → Exit × St) (hl : Le cx st (S s)) (h : rounds f s = some r) (hc : Q (E r).1 (E r).2)
  (round : ∀ s x, f s = some x → (∀ r', x = .inr r' → Q (E r').1 (E r').2) → HT cx (S s) c (loopQ (fun st' => ∃ s', x = .inl s' ∧ Le cx st' (S s')) Q)) : HT cx st (.loop c) Q := hl.ht (HT.loopE S E h hc round)

end Go.Ide


/-
 Functions that call themselves.
-/
namespace Go.Ide

section
variable {α β : Type}

open Classical in
end
end Go.Ide


/-
 A library function that tells a bool of a float and leaves the world as it is.
-/
namespace Go.Ide

theorem fltBool_ok {P : Program} {f : FuncId} {a : Nat} {r : Bool} (hcan : CanCall P f)
  (h : ∀ (w : World) (b : Nat), fcanon .f64 b = a → Calls P f #[.float .f64 b] w fun e w' => e = .returned (.bool r) ∧ w' = w) : CallOK P f [.imm (.flt .f64) a] [⟨false, .bool, r⟩] [] := by
 refine ⟨hcan, fun w S vals As F hB hI hS hFl ha hgl => ?_⟩
 match vals, As, ha with
 | _ :: _ :: _, [], ha => exact ha.elim
 | _ :: _ :: _, _ :: _, ha => exact ha.2.elim
 | [v], [A], ha =>
  obtain ⟨⟨eA, cs, h1, b, h2, h3⟩, _⟩ := ha
  have h1 : cs = [v] := h1
  rw [h1] at h2
  injection h2 with h2
  subst h2 eA
  have hF : ∀ b, b ∉ F := fun b hb => by
   obtain ⟨γ, hγ, _⟩ := (hB b).1 hb
   simp at hγ
  refine (h w b h3).mono fun e w' ⟨he, hw⟩ => ?_
  subst hw
  exact ⟨.bool r, [], [], he, fun b => by simp, ⟨List.Pairwise.nil, fun γ hγ => by simp at hγ⟩, ⟨[.bool r], ⟨[], [], rfl, (show if false = true then _ else _ from by
   rw [if_neg (by simp)]
   exact ⟨rfl, [.bool r], rfl, rfl⟩), rfl⟩, rfl⟩, fun b hb => by simp at hb, KeepF.refl _ _, trivial⟩

end Go.Ide
